-- Written for this session by its program hprint.py over the kit's print: functions, and contracts that the walk of the Go code proves.
import Derived.Test.YtifeiepociopoaaDoorPFracx0
import Derived.Test.YtifeiepociopoaaDoorPFracx3
import Derived.Test.YtifeiepociopoaaDoorPFracx6
import Derived.Test.YtifeiepociopoaaDoorPFracx7
import Derived.Test.YtifeiepociopoaaDoorPFracx8
import Derived.Test.YtifeiepociopoaaDoorPFracx11
import Derived.Test.YtifeiepociopoaaDoorPFracx14
import Derived.Test.YtifeiepociopoaaDoorPFracx16
import Derived.Test.YtifeiepociopoaaDoorPFracx18
namespace Go.Proofs.YtifeiepociopoaaDoor.PFrac
open Go.RowKit Go.Proofs.YtifeiepociopoaaDoor.Hand Go.Proofs.YtifeiepociopoaaDoorW.PrintWords Go.Proofs.YtifeiepociopoaaDoorW.PrintLast Go.Proofs.YtifeiepociopoaaDoorW.PrintMore
attribute [local go_sem] max2_int min2_int max_two min_two max_three min_three max_four min_four   -- for this text's walks alone
set_option linter.unusedVariables false
set_option linter.unusedSimpArgs false

/-! ### laws_FnExactReadFraction: function 7 -/
theorem zz19_1_ {P1 Q : Prop} (h1 : P1) (f : P1 → Q := by intro zq1_; repeat (first | (with_reducible first | exact zq1_ | apply below_alloc | apply pw_below_drewN | apply below_drew1) | exact zq1_)) : Q := f h1
theorem zz19_0_ {Q : Prop} (f : Q := by (try simp only [List.map_toArray, List.map_cons, List.map_nil]); first | done | rfl | (simp only [List.length_drop, List.length_take]; rfl)) : Q := f
theorem zz19_2_ {P1 P2 Q : Prop} (h1 : P1) (h2 : P2) (f : P1 → P2 → Q := by intro zq1_ zq2_; repeat (first | (with_reducible first | exact zq1_ | apply below_alloc | apply pw_below_drewN | apply below_drew1 | refine below_set ?_ zq2_) | exact zq1_)) : Q := f h1 h2
theorem zz19_3_ {P1 Q : Prop} (h1 : P1) (f : P1 → Q := by intro zq1_; (with_reducible repeat (first | refine blk_drewN ?_ _ | refine blk_drew ?_ | refine blk_alloc ?_ _)); exact zq1_) : Q := f h1
def laws_FnExactReadFraction.f (k : Nat) (a0 : ByteArray) : Option (Bool) := if (a0.size : Int) > 1048576 then (some true) else ((spec_ReadFraction.f k a0).bind fun bt316 => ((impl_ReadFraction.f k a0).bind fun bt320 => ((laws_eqFraction.f bt320.1 bt320.2.1 bt316.1 bt316.2.1).bind fun t324 => (if t324 = true then (if (bt320.2.2 != bt316.2.2) = true then (none) else (some true)) else (none)))))
theorem laws_FnExactReadFraction.mono : ∀ a0 k, LeO (laws_FnExactReadFraction.f k a0) (laws_FnExactReadFraction.f (k + 1) a0) := by
 intro a0 k
 unfold laws_FnExactReadFraction.f
 repeat' first
   | (with_reducible exact impl_ReadFraction.mono _ _)
   | (with_reducible exact spec_ReadFraction.mono _ _)
   | (with_reducible exact LeO.refl _)
   | (with_reducible exact LeO.none _)
   | (with_reducible refine LeO.ite ?_ ?_)
   | (with_reducible refine LeO.bind ?_ (fun _ => ?_))
   | exact impl_ReadFraction.mono _ _
   | exact spec_ReadFraction.mono _ _
   | exact LeO.none _
   | refine LeO.ite ?_ ?_
   | refine LeO.bind ?_ (fun _ => ?_)
set_option maxHeartbeats 8000000 in
set_option maxRecDepth 100000 in
theorem laws_FnExactReadFraction.calls (k : Nat) (a0 : ByteArray) (r : Bool) (w : World) (htab : Tab10 w) (h : laws_FnExactReadFraction.f k a0 = some r) :
  Calls Tryd.prog 7 #[.string a0] w fun e w' => e = .returned (.bool r) ∧ Below w.heap.size w w' := by
 have HTAB := Aside0.mk htab
 clear htab
 have hu25 := Tryd.underlying25
 have HB := Aside0.mk (Below.refl w.heap.size w)
 have H : (if (a0.size : Int) > 1048576 then (some true) else ((spec_ReadFraction.f k a0).bind fun bt316 => ((impl_ReadFraction.f k a0).bind fun bt320 => ((laws_eqFraction.f bt320.1 bt320.2.1 bt316.1 bt316.2.1).bind fun t324 => (if t324 = true then (if (bt320.2.2 != bt316.2.2) = true then (none) else (some true)) else (none)))))) = some r := h
 clear h
 by_cases c2 : (a0.size : Int) > 1048576
 ·rw [if_pos c2] at H
  have c2b0 : decide (1048576 < (a0.size : Int)) = true := decide_eq_true c2
  have c2b1 : decide (1048576 < a0.size) = true := decide_eq_true (by omega)
  clear c2
  obtain rfl := Option.some.inj H
  go_enter Tryd.func7, Tryd.ntmps7
  go_wp2
  go_ret
  exact ⟨by first | rfl | (simp [errW_none, errW_some] <;> rfl) | (simp [*, errW_none, errW_some] <;> rfl), zz19_1_ HB.out⟩
 ·rw [if_neg c2] at H
  have c2b0 : decide (1048576 < (a0.size : Int)) = false := decide_eq_false c2
  have c2b1 : decide (1048576 < a0.size) = false := decide_eq_false (by omega)
  clear c2
  replace H := Option.bind_eq_some_iff.mp H
  obtain ⟨⟨t316, t317, t318⟩, A30, H⟩ := H
  try dsimp only at H
  have A3 := Aside0.mk A30
  clear A30
  replace H := Option.bind_eq_some_iff.mp H
  obtain ⟨⟨t320, t321, t322⟩, A40, H⟩ := H
  try dsimp only at H
  have A4 := Aside0.mk A40
  clear A40
  replace H := Option.bind_eq_some_iff.mp H
  obtain ⟨t324, A50, H⟩ := H
  try dsimp only at H
  have A5 := Aside0.mk A50
  clear A50
  by_cases c6 : t324 = true
  ·subst c6
   rw [if_pos rfl] at H
   by_cases c7 : (t322 != t318) = true
   ·rw [if_pos c7] at H
    exact absurd H (by simp)
   ·rw [if_neg c7] at H
    have c7b0 : (t322 != t318) = false := by simpa using c7
    (try (have c7b1 : decide (t322 = t318) = true := by simpa using c7))
    (try (have c7b2 : (t322 == t318) = true := by simpa using c7))
    clear c7
    obtain rfl := Option.some.inj H
    go_enter Tryd.func7, Tryd.ntmps7
    go_wp2_with (first | ((with_reducible refine gate_callee (f := 22) rfl ?_); refine goesL_ (some 12) rfl rfl Tryd.func22 (by kernel_rfl) rfl #[.string a0] rfl (zz19_0_) ?_; (with_reducible refine (spec_ReadFraction.calls k a0 t316 t317 t318 _ A3.out).mono ?_); rintro e w8 ⟨rfl, hb⟩; refine ⟨_, rfl, ?_⟩; have n0_ := Aside0.mk (below_step (zz19_1_ HB.out) hb); clear HB; have HB := n0_; clear n0_; (try clear hb); (try clear hb2); (try clear hk); (try clear hi)) | ((with_reducible refine gate_dst (N := 3) rfl ?_); refine box_event ?hg (N := 3) ?hd (cs := #[.int .i64 0, .int .i64 0]) (t := 25) ?hr ?_; (case hd => rfl); (case hg => rfl); (case hr => first | (go_simp; done) | (go_simp; rfl)); intro gb319 hg w9 hbox hb; have n0_ := Aside0.mk (below_step (zz19_1_ HB.out) hb); have n1_ := Aside0.mk (hbox); have n2_ := Aside0.mk ((by rw [hg]; exact (below_size (zz19_1_ HB.out)) : w.heap.size ≤ gb319)); have n3_ := Aside0.mk ((by rw [hg]; exact (below_size (zz19_1_ HB.out)) : w.heap.size ≤ gb319)); clear HB; have HB := n0_; have BK319 := n1_; have GW319 := n2_; have GE319 := n3_; clear n0_ n1_ n2_ n3_; clear hb hbox hg; have hcz10_0 : w9.cell? ⟨gb319, 0, none⟩ = some (.int .i64 0) := (blk_cell BK319.out 0).trans rfl; have hcz10_1 : w9.cell? ⟨gb319, 1, none⟩ = some (.int .i64 0) := (blk_cell BK319.out 1).trans rfl; have hfz10_0 := blk_frozen BK319.out 0; have hfz10_1 := blk_frozen BK319.out 1) | ((with_reducible refine gate_callee (f := 16) rfl ?_); refine goesL_ (some 17) rfl rfl Tryd.func16 (by kernel_rfl) rfl #[.string a0] rfl (zz19_0_) ?_; (with_reducible refine (impl_ReadFraction.calls k a0 t320 t321 t322 _ (by first | exact HTAB.out | exact tab_at HTAB.out (by repeat (first | (with_reducible first | exact HB.out | apply below_alloc | apply pw_below_drewN | apply below_drew1 | refine below_set ?_ (GE319).out) | exact HB.out))) A4.out).mono ?_); rintro e w11 ⟨rfl, hb⟩; refine ⟨_, rfl, ?_⟩; have n0_ := Aside0.mk (blk_below (g := gb319) (o := .cells #[.int .i64 t316, .int .i64 t317] 25 (0, 0)) (by (with_reducible repeat (first | refine blk_drewN ?_ _ | refine blk_drew ?_ | refine blk_alloc ?_ _)); refine blk_put (cs := #[.int .i64 t316, .int .i64 0]) ?_ 1 _ rfl; (with_reducible repeat (first | refine blk_drewN ?_ _ | refine blk_drew ?_ | refine blk_alloc ?_ _)); refine blk_put (cs := #[.int .i64 0, .int .i64 0]) ?_ 0 _ rfl; (with_reducible repeat (first | refine blk_drewN ?_ _ | refine blk_drew ?_ | refine blk_alloc ?_ _)); exact BK319.out) hb); have n1_ := Aside0.mk (below_step (zz19_2_ HB.out GE319.out) hb); clear BK319; clear HB; have BK319 := n0_; have HB := n1_; clear n0_ n1_; (try clear hb); (try clear hb2); (try clear hk); (try clear hi)) | ((with_reducible refine gate_dst (N := 5) rfl ?_); refine box_event ?hg (N := 5) ?hd (cs := #[.int .i64 0, .int .i64 0]) (t := 25) ?hr ?_; (case hd => rfl); (case hg => rfl); (case hr => first | (go_simp; done) | (go_simp; rfl)); intro gb323 hg w12 hbox hb; have n0_ := Aside0.mk (blk_below (g := gb319) (o := .cells #[.int .i64 t316, .int .i64 t317] 25 (0, 0)) (zz19_3_ BK319.out) hb); have n1_ := Aside0.mk (below_step (zz19_2_ HB.out GE319.out) hb); have n2_ := Aside0.mk (hbox); have n3_ := Aside0.mk ((by rw [hg]; exact (below_size (zz19_2_ HB.out GE319.out)) : w.heap.size ≤ gb323)); have n4_ := Aside0.mk ((by rw [hg]; exact (below_size (zz19_2_ HB.out GE319.out)) : w.heap.size ≤ gb323)); have n5_ := Aside0.mk ((by rw [hg]; exact Nat.ne_of_lt (blk_lt (g := gb319) (o := .cells #[.int .i64 t316, .int .i64 t317] 25 (0, 0)) (zz19_3_ BK319.out)) : gb319 ≠ gb323)); have n6_ := Aside0.mk ((by rw [hg]; exact Nat.ne_of_gt (blk_lt (g := gb319) (o := .cells #[.int .i64 t316, .int .i64 t317] 25 (0, 0)) (zz19_3_ BK319.out)) : gb323 ≠ gb319)); clear BK319; clear HB; have BK319 := n0_; have HB := n1_; have BK323 := n2_; have GW323 := n3_; have GE323 := n4_; have NB319_323 := n5_; have NB323_319 := n6_; clear n0_ n1_ n2_ n3_ n4_ n5_ n6_; clear hb hbox hg; have hnb13 := NB323_319.out; have hnc13 := NB319_323.out; have hcz14_0 : w12.cell? ⟨gb323, 0, none⟩ = some (.int .i64 0) := (blk_cell BK323.out 0).trans rfl; have hcz14_1 : w12.cell? ⟨gb323, 1, none⟩ = some (.int .i64 0) := (blk_cell BK323.out 1).trans rfl; have hfz14_0 := blk_frozen BK323.out 0; have hfz14_1 := blk_frozen BK323.out 1; have hcz15_0 : w12.cell? ⟨gb319, 0, none⟩ = some (.int .i64 t316) := (blk_cell BK319.out 0).trans rfl; have hcz15_1 : w12.cell? ⟨gb319, 1, none⟩ = some (.int .i64 t317) := (blk_cell BK319.out 1).trans rfl; have hfz15_0 := blk_frozen BK319.out 0; have hfz15_1 := blk_frozen BK319.out 1) | ((with_reducible refine gate_callee (f := 19) rfl ?_); refine goesL_ (some 22) rfl rfl Tryd.func19 (by kernel_rfl) rfl #[.agg #[.int .i64 t320, .int .i64 t321], .agg #[.int .i64 t316, .int .i64 t317]] rfl (zz19_0_) ?_; (with_reducible refine (laws_eqFraction.calls t320 t321 t316 t317 true _ A5.out).mono ?_); rintro e w16 ⟨rfl, hb⟩; refine ⟨_, rfl, ?_⟩; have n0_ := Aside0.mk (blk_below (g := gb319) (o := .cells #[.int .i64 t316, .int .i64 t317] 25 (0, 0)) (by (with_reducible repeat (first | refine blk_drewN ?_ _ | refine blk_drew ?_ | refine blk_alloc ?_ _)); refine blk_far ?_ NB319_323.out _; (with_reducible repeat (first | refine blk_drewN ?_ _ | refine blk_drew ?_ | refine blk_alloc ?_ _)); refine blk_far ?_ NB319_323.out _; (with_reducible repeat (first | refine blk_drewN ?_ _ | refine blk_drew ?_ | refine blk_alloc ?_ _)); exact BK319.out) hb); have n1_ := Aside0.mk (blk_below (g := gb323) (o := .cells #[.int .i64 t320, .int .i64 t321] 25 (0, 0)) (by (with_reducible repeat (first | refine blk_drewN ?_ _ | refine blk_drew ?_ | refine blk_alloc ?_ _)); refine blk_put (cs := #[.int .i64 t320, .int .i64 0]) ?_ 1 _ rfl; (with_reducible repeat (first | refine blk_drewN ?_ _ | refine blk_drew ?_ | refine blk_alloc ?_ _)); refine blk_put (cs := #[.int .i64 0, .int .i64 0]) ?_ 0 _ rfl; (with_reducible repeat (first | refine blk_drewN ?_ _ | refine blk_drew ?_ | refine blk_alloc ?_ _)); exact BK323.out) hb); have n2_ := Aside0.mk (below_step (by repeat (first | (with_reducible first | exact HB.out | apply below_alloc | apply pw_below_drewN | apply below_drew1 | refine below_set ?_ GE319.out | refine below_set ?_ GE323.out) | exact HB.out)) hb); clear BK319; clear BK323; clear HB; have BK319 := n0_; have BK323 := n1_; have HB := n2_; clear n0_ n1_ n2_; (try clear hb); (try clear hb2); (try clear hk); (try clear hi)))
    go_ret
    exact ⟨by first | rfl | (simp [errW_none, errW_some] <;> rfl) | (simp [*, errW_none, errW_some] <;> rfl), by repeat (first | (with_reducible first | exact HB.out | apply below_alloc | apply pw_below_drewN | apply below_drew1 | refine below_set ?_ GE319.out | refine below_set ?_ GE323.out) | exact HB.out)⟩
  ·replace c6 := Bool.eq_false_iff.mpr c6
   subst c6
   rw [if_neg (show ¬ (false = true) by decide)] at H
   exact absurd H (by simp)

/-- THE ONE PURE STATEMENT of laws_FnExactReadFraction: yours. -/
def laws_FnExactReadFraction.Pure : Prop := ∀ (a0 : ByteArray), a0.size ≤ 140737488351232 → ∃ k, laws_FnExactReadFraction.f k a0 = some true
theorem laws_FnExactReadFraction.walk (P : laws_FnExactReadFraction.Pure) (a0 : ByteArray) (w : World) (w0 : a0.size ≤ 140737488351232) (htab : Tab10 w) :
  Calls Tryd.prog 7 #[.string a0] w fun e w' => e = .returned (.bool true) ∧ Below w.heap.size w w' := by
 obtain ⟨k, h⟩ := P a0 w0
 refine (laws_FnExactReadFraction.calls k a0 true w htab h).mono ?_
 rintro e w' ⟨rfl, hd⟩
 exact ⟨rfl, hd⟩

/-! ### spec_DrawReadFraction: function 23 -/
theorem zz19_5_ {P1 Q : Prop} (h1 : P1) (f : P1 → Q := by intro zq1_; repeat (first | (with_reducible first | exact zq1_ | apply IsS71.alloc | apply IsS71.drewN | apply IsS71.drew | apply IsS71.set_1) | exact zq1_)) : Q := f h1
theorem zz19_4_ {P1 P2 Q : Prop} (h1 : P1) (h2 : P2) (f : P1 → P2 → Q := by intro zq1_ zq2_; repeat (first | (with_reducible first | exact zq1_ | apply below_alloc | apply pw_below_drewN | apply below_drew1 | refine below_set ?_ (IsS71.ge zq2_)) | exact zq1_)) : Q := f h1 h2
def spec_DrawReadFraction.f (k : Nat) (l0 : List Int) : Option (ByteArray) := (spec_l20Open.f l0).bind fun bt325 => ((spec_l20Rd_odd.f k bt325.1 bt325.2 3).bind fun bt328 => (if bt328.1 = true then ((spec_l20Decimal.f k bt325.1 bt328.2).bind fun bt330 => (if 1 + bt330.1.size ≤ 9223372036854775807 then ((spec_l20Decimal.f k bt325.1 bt330.2).bind fun bt332 => ((some (([(⟨#[45, 48]⟩ : ByteArray), (⟨#[51, 47, 52]⟩ : ByteArray), (⟨#[49, 47, 48]⟩ : ByteArray), (⟨#[49, 47]⟩ : ByteArray), (⟨#[47, 51]⟩ : ByteArray), (⟨#[45]⟩ : ByteArray), (⟨#[43, 49]⟩ : ByteArray), (⟨#[49, 48, 48, 48, 48, 48, 48, 48, 48, 48]⟩ : ByteArray), (⟨#[49, 48, 48, 48, 48, 48, 48, 48, 48, 49]⟩ : ByteArray), (⟨#[50, 47, 54]⟩ : ByteArray), (⟨#[45, 49, 47, 51]⟩ : ByteArray), (⟨#[48, 46, 53]⟩ : ByteArray), (⟨#[48, 46, 53, 48]⟩ : ByteArray), (⟨#[45]⟩ : ByteArray) ++ bt330.1, bt332.1] : List ByteArray) : List ByteArray)).bind fun y334 => ((spec_l20Rd_pick.f k bt325.1 bt332.2 15).bind fun bt337 => (if 0 ≤ bt337.1 then (if bt337.1 < (y334.length : Int) then (some (rdOf ByteArray.empty y334 bt337.1)) else (none)) else (none))))) else (none))) else ((spec_l20Fraction.f k bt325.1 bt328.2 0).bind fun bt340 => ((spec_FractionText.f k bt340.1 bt340.2.1).bind fun t343 => (some t343)))))
theorem spec_DrawReadFraction.mono : ∀ a0 k, LeO (spec_DrawReadFraction.f k a0) (spec_DrawReadFraction.f (k + 1) a0) := by
 intro a0 k
 unfold spec_DrawReadFraction.f
 repeat' first
   | (with_reducible exact spec_FractionText.mono _ _ _)
   | (with_reducible exact spec_l20Decimal.mono _ _ _)
   | (with_reducible exact spec_l20Fraction.mono _ _ _ _)
   | (with_reducible exact spec_l20Rd_odd.mono _ _ _ _)
   | (with_reducible exact spec_l20Rd_pick.mono _ _ _ _)
   | (with_reducible exact LeO.refl _)
   | (with_reducible exact LeO.none _)
   | (with_reducible refine LeO.ite ?_ ?_)
   | (with_reducible refine LeO.bind ?_ (fun _ => ?_))
   | exact spec_FractionText.mono _ _ _
   | exact spec_l20Decimal.mono _ _ _
   | exact spec_l20Fraction.mono _ _ _ _
   | exact spec_l20Rd_odd.mono _ _ _ _
   | exact spec_l20Rd_pick.mono _ _ _ _
   | exact LeO.none _
   | refine LeO.ite ?_ ?_
   | refine LeO.bind ?_ (fun _ => ?_)
set_option maxHeartbeats 8000000 in
set_option maxRecDepth 100000 in
theorem spec_DrawReadFraction.calls (k : Nat) (A0 : Option Addr) (c0 : Nat) (l0 : List Int) (r : ByteArray) (w : World) (hr0 : Kd.C (Kd.int .u8) w A0 l0.length l0) (hc0 : l0.length ≤ c0) (h : spec_DrawReadFraction.f k l0 = some r) :
  Calls Tryd.prog 23 #[.slice A0 l0.length c0] w fun e w' => e = .returned (.string r) ∧ Below w.heap.size w w' := by
 have HR0 := Aside0.mk hr0
 have HC0 := Aside0.mk hc0
 clear hr0 hc0
 have HB := Aside0.mk (Below.refl w.heap.size w)
 have H : ((spec_l20Open.f l0).bind fun bt325 => ((spec_l20Rd_odd.f k bt325.1 bt325.2 3).bind fun bt328 => (if bt328.1 = true then ((spec_l20Decimal.f k bt325.1 bt328.2).bind fun bt330 => (if 1 + bt330.1.size ≤ 9223372036854775807 then ((spec_l20Decimal.f k bt325.1 bt330.2).bind fun bt332 => ((some (([(⟨#[45, 48]⟩ : ByteArray), (⟨#[51, 47, 52]⟩ : ByteArray), (⟨#[49, 47, 48]⟩ : ByteArray), (⟨#[49, 47]⟩ : ByteArray), (⟨#[47, 51]⟩ : ByteArray), (⟨#[45]⟩ : ByteArray), (⟨#[43, 49]⟩ : ByteArray), (⟨#[49, 48, 48, 48, 48, 48, 48, 48, 48, 48]⟩ : ByteArray), (⟨#[49, 48, 48, 48, 48, 48, 48, 48, 48, 49]⟩ : ByteArray), (⟨#[50, 47, 54]⟩ : ByteArray), (⟨#[45, 49, 47, 51]⟩ : ByteArray), (⟨#[48, 46, 53]⟩ : ByteArray), (⟨#[48, 46, 53, 48]⟩ : ByteArray), (⟨#[45]⟩ : ByteArray) ++ bt330.1, bt332.1] : List ByteArray) : List ByteArray)).bind fun y334 => ((spec_l20Rd_pick.f k bt325.1 bt332.2 15).bind fun bt337 => (if 0 ≤ bt337.1 then (if bt337.1 < (y334.length : Int) then (some (rdOf ByteArray.empty y334 bt337.1)) else (none)) else (none))))) else (none))) else ((spec_l20Fraction.f k bt325.1 bt328.2 0).bind fun bt340 => ((spec_FractionText.f k bt340.1 bt340.2.1).bind fun t343 => (some t343)))))) = some r := h
 clear h
 replace H := Option.bind_eq_some_iff.mp H
 obtain ⟨⟨t325, t326⟩, A20, H⟩ := H
 try dsimp only at H
 have A2 := Aside0.mk A20
 clear A20
 replace H := Option.bind_eq_some_iff.mp H
 obtain ⟨⟨t328, t329⟩, A30, H⟩ := H
 try dsimp only at H
 have A3 := Aside0.mk A30
 clear A30
 by_cases c4 : t328 = true
 ·subst c4
  rw [if_pos rfl] at H
  replace H := Option.bind_eq_some_iff.mp H
  obtain ⟨⟨t330, t331⟩, A50, H⟩ := H
  try dsimp only at H
  have A5 := Aside0.mk A50
  clear A50
  by_cases c6 : 1 + t330.size ≤ 9223372036854775807
  ·rw [if_pos c6] at H
   have c6b0 := eq_true c6
   have c6b1 : decide (1 + t330.size ≤ 9223372036854775807) = true := decide_eq_true c6
   try have c6b2 : (9223372036854775807 < 1 + t330.size) = False := eq_false (Nat.not_lt.2 c6)
   replace H := Option.bind_eq_some_iff.mp H
   obtain ⟨⟨t332, t333⟩, A70, H⟩ := H
   try dsimp only at H
   have A7 := Aside0.mk A70
   clear A70
   obtain ⟨y334, hy334⟩ : ∃ y_ : List ByteArray, y_ = (([(⟨#[45, 48]⟩ : ByteArray), (⟨#[51, 47, 52]⟩ : ByteArray), (⟨#[49, 47, 48]⟩ : ByteArray), (⟨#[49, 47]⟩ : ByteArray), (⟨#[47, 51]⟩ : ByteArray), (⟨#[45]⟩ : ByteArray), (⟨#[43, 49]⟩ : ByteArray), (⟨#[49, 48, 48, 48, 48, 48, 48, 48, 48, 48]⟩ : ByteArray), (⟨#[49, 48, 48, 48, 48, 48, 48, 48, 48, 49]⟩ : ByteArray), (⟨#[50, 47, 54]⟩ : ByteArray), (⟨#[45, 49, 47, 51]⟩ : ByteArray), (⟨#[48, 46, 53]⟩ : ByteArray), (⟨#[48, 46, 53, 48]⟩ : ByteArray), (⟨#[45]⟩ : ByteArray) ++ t330, t332] : List ByteArray)) := ⟨_, rfl⟩
   replace H : ((spec_l20Rd_pick.f k t325 t333 15).bind fun bt337 => (if 0 ≤ bt337.1 then (if bt337.1 < (y334.length : Int) then (some (rdOf ByteArray.empty y334 bt337.1)) else (none)) else (none))) = some r := by first | (rw [hy334]; with_reducible exact H) | (have H2_ := (Option.bind_some _ _).symm.trans H; rw [hy334]; with_reducible exact H2_) | (have H2_ := (Option.bind_some _ _).symm.trans H; with_reducible exact H2_) | with_reducible exact H | (rw [hy334]; exact H) | exact H
   have Ny334 := Aside0.mk hy334
   clear hy334
   replace H := Option.bind_eq_some_iff.mp H
   obtain ⟨⟨t337, t338⟩, A80, H⟩ := H
   try dsimp only at H
   have A8 := Aside0.mk A80
   clear A80
   by_cases c9 : 0 ≤ t337
   ·rw [if_pos c9] at H
    have c9b0 : decide (0 ≤ t337) = true := decide_eq_true c9
    clear c9
    by_cases c10 : t337 < (y334.length : Int)
    ·rw [if_pos c10] at H
     have c10b0 : decide (t337 < (y334.length : Int)) = true := decide_eq_true c10
     clear c10
     obtain rfl := Option.some.inj H
     go_enter Tryd.func23, Tryd.ntmps23
     go_wp2_with (first | ((with_reducible refine gate_callee (f := 30) rfl ?_); refine goesL_ (some 5) rfl rfl Tryd.func30 (by kernel_rfl) rfl #[.slice A0 l0.length c0] rfl (zz19_0_) ?_; (with_reducible refine (spec_l20Open.calls _ _ l0 t325 t326 w _ ?side1 ?side2 ?side3 A2.out).mono ?_); (case side1 => exact zz19_1_ HB.out); (case side2 => exact HR0.out); (case side3 => exact HC0.out); rintro e w11 ⟨g327, rfl, hi, hb, hb2⟩; refine ⟨_, rfl, ?_⟩; have n0_ := Aside0.mk (hb); have n1_ := Aside0.mk (hi); clear HB; have HB := n0_; have HI327 := n1_; clear n0_ n1_; (try clear hb); (try clear hb2); (try clear hk); (try clear hi)) | ((with_reducible refine gate_callee (f := 44) rfl ?_); refine goesL_ (some 7) rfl rfl Tryd.func44 (by kernel_rfl) rfl #[.pointer (some ⟨g327, 0, none⟩), .int .i64 3] rfl (zz19_0_) ?_; (with_reducible refine (spec_l20Rd_odd.calls k g327 t325 t326 3 true t329 w _ ?side1 ?side2 A3.out).mono ?_); (case side1 => exact zz19_5_ HI327.out); (case side2 => exact zz19_4_ HB.out HI327.out); rintro e w12 ⟨rfl, hi, hb, hk⟩; refine ⟨_, rfl, ?_⟩; have n0_ := Aside0.mk (hb); have n1_ := Aside0.mk (hi); clear HB; clear HI327; have HB := n0_; have HI327 := n1_; clear n0_ n1_; (try clear hb); (try clear hb2); (try clear hk); (try clear hi)) | ((with_reducible refine gate_callee (f := 41) rfl ?_); refine goesL_ (some 9) rfl rfl Tryd.func41 (by kernel_rfl) rfl #[.pointer (some ⟨g327, 0, none⟩)] rfl (zz19_0_) ?_; (with_reducible refine (spec_l20Decimal.calls k g327 t325 t329 t330 t331 w _ ?side1 ?side2 A5.out).mono ?_); (case side1 => exact zz19_5_ HI327.out); (case side2 => exact zz19_4_ HB.out HI327.out); rintro e w13 ⟨rfl, hi, hb, hk⟩; refine ⟨_, rfl, ?_⟩; have n0_ := Aside0.mk (hb); have n1_ := Aside0.mk (hi); clear HB; clear HI327; have HB := n0_; have HI327 := n1_; clear n0_ n1_; (try clear hb); (try clear hb2); (try clear hk); (try clear hi)) | ((with_reducible refine gate_callee (f := 41) rfl ?_); refine goesL_ (some 12) rfl rfl Tryd.func41 (by kernel_rfl) rfl #[.pointer (some ⟨g327, 0, none⟩)] rfl (zz19_0_) ?_; (with_reducible refine (spec_l20Decimal.calls k g327 t325 t331 t332 t333 w _ ?side1 ?side2 A7.out).mono ?_); (case side1 => exact zz19_5_ HI327.out); (case side2 => exact zz19_4_ HB.out HI327.out); rintro e w14 ⟨rfl, hi, hb, hk⟩; refine ⟨_, rfl, ?_⟩; have n0_ := Aside0.mk (hb); have n1_ := Aside0.mk (hi); clear HB; clear HI327; have HB := n0_; have HI327 := n1_; clear n0_ n1_; (try clear hb); (try clear hb2); (try clear hk); (try clear hi)) | ((with_reducible refine gate_dst (N := 13) rfl ?_); refine Kd.R_lit Kd.string _ 9 ?hg (N := 13) ?hd (xs := ([(⟨#[45, 48]⟩ : ByteArray), (⟨#[51, 47, 52]⟩ : ByteArray), (⟨#[49, 47, 48]⟩ : ByteArray), (⟨#[49, 47]⟩ : ByteArray), (⟨#[47, 51]⟩ : ByteArray), (⟨#[45]⟩ : ByteArray), (⟨#[43, 49]⟩ : ByteArray), (⟨#[49, 48, 48, 48, 48, 48, 48, 48, 48, 48]⟩ : ByteArray), (⟨#[49, 48, 48, 48, 48, 48, 48, 48, 48, 49]⟩ : ByteArray), (⟨#[50, 47, 54]⟩ : ByteArray), (⟨#[45, 49, 47, 51]⟩ : ByteArray), (⟨#[48, 46, 53]⟩ : ByteArray), (⟨#[48, 46, 53, 48]⟩ : ByteArray), (⟨#[45]⟩ : ByteArray) ++ t330, t332] : List ByteArray)) (inner := [.string (⟨#[45, 48]⟩ : ByteArray), .string (⟨#[51, 47, 52]⟩ : ByteArray), .string (⟨#[49, 47, 48]⟩ : ByteArray), .string (⟨#[49, 47]⟩ : ByteArray), .string (⟨#[47, 51]⟩ : ByteArray), .string (⟨#[45]⟩ : ByteArray), .string (⟨#[43, 49]⟩ : ByteArray), .string (⟨#[49, 48, 48, 48, 48, 48, 48, 48, 48, 48]⟩ : ByteArray), .string (⟨#[49, 48, 48, 48, 48, 48, 48, 48, 48, 49]⟩ : ByteArray), .string (⟨#[50, 47, 54]⟩ : ByteArray), .string (⟨#[45, 49, 47, 51]⟩ : ByteArray), .string (⟨#[48, 46, 53]⟩ : ByteArray), .string (⟨#[48, 46, 53, 48]⟩ : ByteArray), .string ((⟨#[45]⟩ : ByteArray) ++ t330), .string t332]) (ok := fun _ => True) (okp := fun _ => True) ?hr ?hp (fun _ hk => hk) trivial (Below.refl _ _) (Nat.le_refl _) (by simp) ?_; (case hd => rfl); (case hg => rfl); (case hr => first | (go_simp; done) | (go_simp; rfl)); (case hp => exact (Reps.one (show Kd.M Kd.string _ _ _ (⟨#[45, 48]⟩ : ByteArray) [.string (⟨#[45, 48]⟩ : ByteArray)] from rfl) (Reps.one (show Kd.M Kd.string _ _ _ (⟨#[51, 47, 52]⟩ : ByteArray) [.string (⟨#[51, 47, 52]⟩ : ByteArray)] from rfl) (Reps.one (show Kd.M Kd.string _ _ _ (⟨#[49, 47, 48]⟩ : ByteArray) [.string (⟨#[49, 47, 48]⟩ : ByteArray)] from rfl) (Reps.one (show Kd.M Kd.string _ _ _ (⟨#[49, 47]⟩ : ByteArray) [.string (⟨#[49, 47]⟩ : ByteArray)] from rfl) (Reps.one (show Kd.M Kd.string _ _ _ (⟨#[47, 51]⟩ : ByteArray) [.string (⟨#[47, 51]⟩ : ByteArray)] from rfl) (Reps.one (show Kd.M Kd.string _ _ _ (⟨#[45]⟩ : ByteArray) [.string (⟨#[45]⟩ : ByteArray)] from rfl) (Reps.one (show Kd.M Kd.string _ _ _ (⟨#[43, 49]⟩ : ByteArray) [.string (⟨#[43, 49]⟩ : ByteArray)] from rfl) (Reps.one (show Kd.M Kd.string _ _ _ (⟨#[49, 48, 48, 48, 48, 48, 48, 48, 48, 48]⟩ : ByteArray) [.string (⟨#[49, 48, 48, 48, 48, 48, 48, 48, 48, 48]⟩ : ByteArray)] from rfl) (Reps.one (show Kd.M Kd.string _ _ _ (⟨#[49, 48, 48, 48, 48, 48, 48, 48, 48, 49]⟩ : ByteArray) [.string (⟨#[49, 48, 48, 48, 48, 48, 48, 48, 48, 49]⟩ : ByteArray)] from rfl) (Reps.one (show Kd.M Kd.string _ _ _ (⟨#[50, 47, 54]⟩ : ByteArray) [.string (⟨#[50, 47, 54]⟩ : ByteArray)] from rfl) (Reps.one (show Kd.M Kd.string _ _ _ (⟨#[45, 49, 47, 51]⟩ : ByteArray) [.string (⟨#[45, 49, 47, 51]⟩ : ByteArray)] from rfl) (Reps.one (show Kd.M Kd.string _ _ _ (⟨#[48, 46, 53]⟩ : ByteArray) [.string (⟨#[48, 46, 53]⟩ : ByteArray)] from rfl) (Reps.one (show Kd.M Kd.string _ _ _ (⟨#[48, 46, 53, 48]⟩ : ByteArray) [.string (⟨#[48, 46, 53, 48]⟩ : ByteArray)] from rfl) (Reps.one (show Kd.M Kd.string _ _ _ ((⟨#[45]⟩ : ByteArray) ++ t330) [.string ((⟨#[45]⟩ : ByteArray) ++ t330)] from rfl) (Reps.one (show Kd.M Kd.string _ _ _ t332 [.string t332] from rfl) (Reps.none _ _))))))))))))))))); intro v335 w15 ho16 hb hg_ hnew_; clear hg_ hnew_; (first | rw [← Ny334.out] at ho16 | (simp only [Int.reduceToNat] at ho16; rw [← Ny334.out] at ho16)); have n0_ := Aside0.mk (Kd.R_lower ho16 (below_size (zz19_4_ HB.out HI327.out))); have n1_ := Aside0.mk (IsS71.below (zz19_5_ HI327.out) hb); have n2_ := Aside0.mk (below_step (zz19_4_ HB.out HI327.out) hb); clear HI327; clear HB; have HO336 := n0_; have HI327 := n1_; have HB := n2_; clear n0_ n1_ n2_; clear hb ho16) | ((with_reducible refine gate_callee (f := 45) rfl ?_); refine goesL_ (some 15) rfl rfl Tryd.func45 (by kernel_rfl) rfl #[.pointer (some ⟨g327, 0, none⟩), .int .i64 15] rfl (zz19_0_) ?_; (with_reducible refine (spec_l20Rd_pick.calls k g327 t325 t333 15 t337 t338 w _ ?side1 ?side2 A8.out).mono ?_); (case side1 => exact zz19_5_ HI327.out); (case side2 => exact zz19_4_ HB.out HI327.out); rintro e w17 ⟨rfl, hi, hb, hk⟩; refine ⟨_, rfl, ?_⟩; have n0_ := Aside0.mk (Kd.R_mono (Kd.R_keep (IsS71.apart (show IsS71 w _ g327 t325 t333 from by repeat (first | (with_reducible first | exact HI327.out | apply IsS71.alloc | apply IsS71.drewN | apply IsS71.drew | apply IsS71.set_1) | exact HI327.out)) (by (with_reducible repeat (first | apply Kd.R_alloc | apply Kd.R_drewN | apply Kd.R_drew)); exact HO336.out) (by decide)) hk (fun _ h => h.2)) (fun _ h => h.1)); have n1_ := Aside0.mk (hb); have n2_ := Aside0.mk (hi); clear HO336; clear HB; clear HI327; have HO336 := n0_; have HB := n1_; have HI327 := n2_; clear n0_ n1_ n2_; (try clear hb); (try clear hb2); (try clear hk); (try clear hi); obtain ⟨Ao18, co18, eo18⟩ := Kd.R_slice HO336.out; subst eo18; have p339 : 0 ≤ (t337 : Int) := of_decide_eq_true (by first | (with_reducible assumption) | assumption); have q339 : t337 < (y334.length : Int) := of_decide_eq_true (by first | (with_reducible assumption) | assumption); obtain ⟨ad339, e339, hx339_0⟩ := Kd.at_string (Kd.R_reads' HO336.out).2.2 t337 p339 q339; cases e339; replace p339 := eq_true p339; replace q339 := eq_true q339))
     go_ret
     exact ⟨by first | rfl | (simp [errW_none, errW_some] <;> rfl) | (simp [*, errW_none, errW_some] <;> rfl), zz19_4_ HB.out HI327.out⟩
    ·rw [if_neg c10] at H
     exact absurd H (by simp)
   ·rw [if_neg c9] at H
    exact absurd H (by simp)
  ·rw [if_neg c6] at H
   exact absurd H (by simp)
 ·replace c4 := Bool.eq_false_iff.mpr c4
  subst c4
  rw [if_neg (show ¬ (false = true) by decide)] at H
  replace H := Option.bind_eq_some_iff.mp H
  obtain ⟨⟨t340, t341, t342⟩, A190, H⟩ := H
  try dsimp only at H
  have A19 := Aside0.mk A190
  clear A190
  replace H := Option.bind_eq_some_iff.mp H
  obtain ⟨t343, A200, H⟩ := H
  try dsimp only at H
  have A20 := Aside0.mk A200
  clear A200
  obtain rfl := Option.some.inj H
  go_enter Tryd.func23, Tryd.ntmps23
  go_wp2_with (first | ((with_reducible refine gate_callee (f := 30) rfl ?_); refine goesL_ (some 5) rfl rfl Tryd.func30 (by kernel_rfl) rfl #[.slice A0 l0.length c0] rfl (zz19_0_) ?_; (with_reducible refine (spec_l20Open.calls _ _ l0 t325 t326 w _ ?side1 ?side2 ?side3 A2.out).mono ?_); (case side1 => exact zz19_1_ HB.out); (case side2 => exact HR0.out); (case side3 => exact HC0.out); rintro e w21 ⟨g327, rfl, hi, hb, hb2⟩; refine ⟨_, rfl, ?_⟩; have n0_ := Aside0.mk (hb); have n1_ := Aside0.mk (hi); clear HB; have HB := n0_; have HI327 := n1_; clear n0_ n1_; (try clear hb); (try clear hb2); (try clear hk); (try clear hi)) | ((with_reducible refine gate_callee (f := 44) rfl ?_); refine goesL_ (some 7) rfl rfl Tryd.func44 (by kernel_rfl) rfl #[.pointer (some ⟨g327, 0, none⟩), .int .i64 3] rfl (zz19_0_) ?_; (with_reducible refine (spec_l20Rd_odd.calls k g327 t325 t326 3 false t329 w _ ?side1 ?side2 A3.out).mono ?_); (case side1 => exact zz19_5_ HI327.out); (case side2 => exact zz19_4_ HB.out HI327.out); rintro e w22 ⟨rfl, hi, hb, hk⟩; refine ⟨_, rfl, ?_⟩; have n0_ := Aside0.mk (hb); have n1_ := Aside0.mk (hi); clear HB; clear HI327; have HB := n0_; have HI327 := n1_; clear n0_ n1_; (try clear hb); (try clear hb2); (try clear hk); (try clear hi)) | ((with_reducible refine gate_callee (f := 29) rfl ?_); refine goesL_ (some 19) rfl rfl Tryd.func29 (by kernel_rfl) rfl #[.pointer (some ⟨g327, 0, none⟩), .int .i64 0] rfl (zz19_0_) ?_; (with_reducible refine (spec_l20Fraction.calls k g327 t325 t329 0 t340 t341 t342 w _ ?side1 ?side2 A19.out).mono ?_); (case side1 => exact zz19_5_ HI327.out); (case side2 => exact zz19_4_ HB.out HI327.out); rintro e w23 ⟨rfl, hi, hb, hk⟩; refine ⟨_, rfl, ?_⟩; have n0_ := Aside0.mk (hb); have n1_ := Aside0.mk (hi); clear HB; clear HI327; have HB := n0_; have HI327 := n1_; clear n0_ n1_; (try clear hb); (try clear hb2); (try clear hk); (try clear hi)) | ((with_reducible refine gate_callee (f := 10) rfl ?_); refine goesL_ (some 20) rfl rfl Tryd.func10 (by kernel_rfl) rfl #[.agg #[.int .i64 t340, .int .i64 t341]] rfl (zz19_0_) ?_; (with_reducible refine (spec_FractionText.calls k t340 t341 t343 _ A20.out).mono ?_); rintro e w24 ⟨rfl, hb⟩; refine ⟨_, rfl, ?_⟩; have n0_ := Aside0.mk (IsS71.below (zz19_5_ HI327.out) hb); have n1_ := Aside0.mk (below_step (zz19_4_ HB.out HI327.out) hb); clear HI327; clear HB; have HI327 := n0_; have HB := n1_; clear n0_ n1_; (try clear hb); (try clear hb2); (try clear hk); (try clear hi)))
  go_ret
  exact ⟨by first | rfl | (simp [errW_none, errW_some] <;> rfl) | (simp [*, errW_none, errW_some] <;> rfl), zz19_4_ HB.out HI327.out⟩

end Go.Proofs.YtifeiepociopoaaDoor.PFrac
