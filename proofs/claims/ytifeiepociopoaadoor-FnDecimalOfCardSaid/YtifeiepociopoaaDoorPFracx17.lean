-- Written for this session by its program hprint.py over the kit's print: functions, and contracts that the walk of the Go code proves.
import Derived.Test.YtifeiepociopoaaDoorPFracx0
import Derived.Test.YtifeiepociopoaaDoorPFracx1
import Derived.Test.YtifeiepociopoaaDoorPFracx4
import Derived.Test.YtifeiepociopoaaDoorPFracx6
import Derived.Test.YtifeiepociopoaaDoorPFracx8
import Derived.Test.YtifeiepociopoaaDoorPFracx9
import Derived.Test.YtifeiepociopoaaDoorPFracx14
import Derived.Test.YtifeiepociopoaaDoorPFracx16
namespace Go.Proofs.YtifeiepociopoaaDoor.PFrac
open Go.RowKit Go.Proofs.YtifeiepociopoaaDoor.Hand Go.Proofs.YtifeiepociopoaaDoorW.PrintWords Go.Proofs.YtifeiepociopoaaDoorW.PrintLast Go.Proofs.YtifeiepociopoaaDoorW.PrintMore
attribute [local go_sem] max2_int min2_int max_two min_two max_three min_three max_four min_four   -- for this text's walks alone
set_option linter.unusedVariables false
set_option linter.unusedSimpArgs false

attribute [local go_sem high] eqA25
/-! ### spec_DrawDecimalOf: function 20 -/
theorem zz17_0_ {Q : Prop} (f : Q := by (try simp only [List.map_toArray, List.map_cons, List.map_nil]); first | done | rfl | (simp only [List.length_drop, List.length_take]; rfl)) : Q := f
theorem zz17_1_ {P1 Q : Prop} (h1 : P1) (f : P1 → Q := by intro zq1_; repeat (first | (with_reducible first | exact zq1_ | apply below_alloc | apply pw_below_drewN | apply below_drew1) | exact zq1_)) : Q := f h1
def spec_DrawDecimalOf.f (k : Nat) (l0 : List Int) : Option (ByteArray) := (spec_l20Open.f l0).bind fun bt286 => ((spec_l20Decimal.f k bt286.1 bt286.2).bind fun bt289 => (some bt289.1))
theorem spec_DrawDecimalOf.mono : ∀ a0 k, LeO (spec_DrawDecimalOf.f k a0) (spec_DrawDecimalOf.f (k + 1) a0) := by
 intro a0 k
 unfold spec_DrawDecimalOf.f
 repeat' first
   | (with_reducible exact spec_l20Decimal.mono _ _ _)
   | (with_reducible exact LeO.refl _)
   | (with_reducible exact LeO.none _)
   | (with_reducible refine LeO.ite ?_ ?_)
   | (with_reducible refine LeO.bind ?_ (fun _ => ?_))
   | exact spec_l20Decimal.mono _ _ _
   | exact LeO.none _
   | refine LeO.ite ?_ ?_
   | refine LeO.bind ?_ (fun _ => ?_)
set_option maxHeartbeats 8000000 in
set_option maxRecDepth 100000 in
theorem spec_DrawDecimalOf.calls (k : Nat) (A0 : Option Addr) (c0 : Nat) (l0 : List Int) (r : ByteArray) (w : World) (hr0 : Kd.C (Kd.int .u8) w A0 l0.length l0) (hc0 : l0.length ≤ c0) (h : spec_DrawDecimalOf.f k l0 = some r) :
  Calls Tryd.prog 20 #[.slice A0 l0.length c0] w fun e w' => e = .returned (.string r) ∧ Below w.heap.size w w' := by
 have HR0 := Aside0.mk hr0
 have HC0 := Aside0.mk hc0
 clear hr0 hc0
 have HB := Aside0.mk (Below.refl w.heap.size w)
 have H : ((spec_l20Open.f l0).bind fun bt286 => ((spec_l20Decimal.f k bt286.1 bt286.2).bind fun bt289 => (some bt289.1))) = some r := h
 clear h
 replace H := Option.bind_eq_some_iff.mp H
 obtain ⟨⟨t286, t287⟩, A20, H⟩ := H
 try dsimp only at H
 have A2 := Aside0.mk A20
 clear A20
 replace H := Option.bind_eq_some_iff.mp H
 obtain ⟨⟨t289, t290⟩, A30, H⟩ := H
 try dsimp only at H
 have A3 := Aside0.mk A30
 clear A30
 obtain rfl := Option.some.inj H
 go_enter Tryd.func20, Tryd.ntmps20
 go_wp2_with (first | ((with_reducible refine gate_callee (f := 30) rfl ?_); refine goesL_ (some 4) rfl rfl Tryd.func30 (by kernel_rfl) rfl #[.slice A0 l0.length c0] rfl (zz17_0_) ?_; (with_reducible refine (spec_l20Open.calls _ _ l0 t286 t287 w _ ?side1 ?side2 ?side3 A2.out).mono ?_); (case side1 => exact zz17_1_ HB.out); (case side2 => exact HR0.out); (case side3 => exact HC0.out); rintro e w4 ⟨g288, rfl, hi, hb, hb2⟩; refine ⟨_, rfl, ?_⟩; have n0_ := Aside0.mk (hb); have n1_ := Aside0.mk (hi); clear HB; have HB := n0_; have HI288 := n1_; clear n0_ n1_; (try clear hb); (try clear hb2); (try clear hk); (try clear hi)) | ((with_reducible refine gate_callee (f := 41) rfl ?_); refine goesL_ (some 5) rfl rfl Tryd.func41 (by kernel_rfl) rfl #[.pointer (some ⟨g288, 0, none⟩)] rfl (zz17_0_) ?_; (with_reducible refine (spec_l20Decimal.calls k g288 t286 t287 t289 t290 w _ ?side1 ?side2 A3.out).mono ?_); (case side1 => repeat (first | (with_reducible first | exact HI288.out | apply IsS71.alloc | apply IsS71.drewN | apply IsS71.drew | apply IsS71.set_1) | exact HI288.out)); (case side2 => repeat (first | (with_reducible first | exact HB.out | apply below_alloc | apply pw_below_drewN | apply below_drew1 | refine below_set ?_ (IsS71.ge HI288.out)) | exact HB.out)); rintro e w5 ⟨rfl, hi, hb, hk⟩; refine ⟨_, rfl, ?_⟩; have n0_ := Aside0.mk (hb); have n1_ := Aside0.mk (hi); clear HB; clear HI288; have HB := n0_; have HI288 := n1_; clear n0_ n1_; (try clear hb); (try clear hb2); (try clear hk); (try clear hi)))
 go_ret
 exact ⟨by first | rfl | (simp [errW_none, errW_some] <;> rfl) | (simp [*, errW_none, errW_some] <;> rfl), by repeat (first | (with_reducible first | exact HB.out | apply below_alloc | apply pw_below_drewN | apply below_drew1 | refine below_set ?_ (IsS71.ge HI288.out)) | exact HB.out)⟩

/-! ### laws_FnDecimalOf: function 6 -/
theorem zz17_2_ {P1 P2 Q : Prop} (h1 : P1) (h2 : P2) (f : P1 → P2 → Q := by intro zq1_ zq2_; repeat (first | (with_reducible first | exact zq1_ | apply below_alloc | apply pw_below_drewN | apply below_drew1 | refine below_set ?_ zq2_) | exact zq1_)) : Q := f h1 h2
theorem zz17_3_ {P1 Q : Prop} (h1 : P1) (f : P1 → Q := by intro zq1_; (with_reducible repeat (first | refine blk_drewN ?_ _ | refine blk_drew ?_ | refine blk_alloc ?_ _)); exact zq1_) : Q := f h1
theorem zz17_4_ {P1 P2 P3 Q : Prop} (h1 : P1) (h2 : P2) (h3 : P3) (f : P1 → P2 → P3 → Q := by intro zq1_ zq2_ zq3_; repeat (first | (with_reducible first | exact zq1_ | apply below_alloc | apply pw_below_drewN | apply below_drew1 | refine below_set ?_ zq2_ | refine below_set ?_ zq3_) | exact zq1_)) : Q := f h1 h2 h3
theorem zz17_5_ {P1 P2 Q : Prop} (h1 : P1) (h2 : P2) (f : P1 → P2 → Q := by intro zq1_ zq2_; (with_reducible repeat (first | refine blk_drewN ?_ _ | refine blk_drew ?_ | refine blk_alloc ?_ _)); refine blk_far ?_ zq1_ _; (with_reducible repeat (first | refine blk_drewN ?_ _ | refine blk_drew ?_ | refine blk_alloc ?_ _)); refine blk_far ?_ zq1_ _; (with_reducible repeat (first | refine blk_drewN ?_ _ | refine blk_drew ?_ | refine blk_alloc ?_ _)); exact zq2_) : Q := f h1 h2
theorem zz17_6_ {P1 P2 P3 P4 Q : Prop} (h1 : P1) (h2 : P2) (h3 : P3) (h4 : P4) (f : P1 → P2 → P3 → P4 → Q := by intro zq1_ zq2_ zq3_ zq4_; repeat (first | (with_reducible first | exact zq1_ | apply below_alloc | apply pw_below_drewN | apply below_drew1 | refine below_set ?_ zq2_ | refine below_set ?_ zq3_ | refine below_set ?_ zq4_) | exact zq1_)) : Q := f h1 h2 h3 h4
def laws_FnDecimalOf.j0 : Nat → ByteArray → Bool → Bool → Int → Int → Option (Bool)
 | 0, _, _, _, _, _ => none
 | k + 1, x3, x5, x32, x296000, x296001 => if x32 = true then (none) else (if x5 = true then (if 1 + x3.size ≤ 9223372036854775807 then ((impl_DecimalOf.f k ((⟨#[48]⟩ : ByteArray) ++ x3)).bind fun bt300 => ((impl_FractionValid.f k x296000 x296001).bind fun t304 => (if t304 = true then (if x296000 ≥ 0 then (if x296001 = 0 then (none) else (if ((1000000 : Int) % x296001) = 0 then (if bt300.2.2 = true then (some (bt300.1 == x296000 && (bt300.2.1 == x296001))) else (some true)) else (none))) else (none)) else (none)))) else (none)) else (if (x296000 == 0 && (x296001 == 0)) = true then ((laws_alive.f k).bind fun t305 => (some t305)) else (none)))
def laws_FnDecimalOf.f (k : Nat) (l0 : List Int) : Option (Bool) := if (l0.length : Int) > 1048576 then (some true) else ((spec_DrawDecimalOf.f k l0).bind fun t291 => ((impl_DecimalOf.f k t291).bind fun bt292 => ((spec_DecimalOf.f k t291).bind fun bt296 => (if (!(bt292.1 == bt296.1) || (!(bt292.2.1 == bt296.2.1))) = true then (laws_FnDecimalOf.j0 k t291 bt292.2.2 true bt292.1 bt292.2.1) else (laws_FnDecimalOf.j0 k t291 bt292.2.2 (bt292.2.2 != bt296.2.2) bt292.1 bt292.2.1)))))
theorem laws_FnDecimalOf.mono_l : ∀ k, (∀ y0 y1 y2 y3 y4, LeO (laws_FnDecimalOf.j0 k y0 y1 y2 y3 y4) (laws_FnDecimalOf.j0 (k + 1) y0 y1 y2 y3 y4))
 | 0 => fun _ _ _ _ _ r h => by simp [laws_FnDecimalOf.j0] at h
 | k + 1 => by
  have ih0 := laws_FnDecimalOf.mono_l k
  ·intro y0 y1 y2 y3 y4
   unfold laws_FnDecimalOf.j0
   repeat' first
   | (with_reducible exact ih0 _ _ _ _ _)
   | (with_reducible exact impl_DecimalOf.mono _ _)
   | (with_reducible exact impl_FractionValid.mono _ _ _)
   | (with_reducible exact laws_alive.mono _)
   | (with_reducible exact spec_DecimalOf.mono _ _)
   | (with_reducible exact spec_DrawDecimalOf.mono _ _)
   | (with_reducible exact LeO.refl _)
   | (with_reducible exact LeO.none _)
   | (with_reducible refine LeO.ite ?_ ?_)
   | (with_reducible refine LeO.bind ?_ (fun _ => ?_))
   | exact ih0 _ _ _ _ _
   | exact impl_DecimalOf.mono _ _
   | exact impl_FractionValid.mono _ _ _
   | exact laws_alive.mono _
   | exact spec_DecimalOf.mono _ _
   | exact spec_DrawDecimalOf.mono _ _
   | exact LeO.none _
   | refine LeO.ite ?_ ?_
   | refine LeO.bind ?_ (fun _ => ?_)
theorem laws_FnDecimalOf.mono : ∀ a0 k, LeO (laws_FnDecimalOf.f k a0) (laws_FnDecimalOf.f (k + 1) a0) := by
 intro a0 k
 have ih0 := laws_FnDecimalOf.mono_l k
 unfold laws_FnDecimalOf.f
 repeat' first
   | (with_reducible exact ih0 _ _ _ _ _)
   | (with_reducible exact impl_DecimalOf.mono _ _)
   | (with_reducible exact impl_FractionValid.mono _ _ _)
   | (with_reducible exact laws_alive.mono _)
   | (with_reducible exact spec_DecimalOf.mono _ _)
   | (with_reducible exact spec_DrawDecimalOf.mono _ _)
   | (with_reducible exact LeO.refl _)
   | (with_reducible exact LeO.none _)
   | (with_reducible refine LeO.ite ?_ ?_)
   | (with_reducible refine LeO.bind ?_ (fun _ => ?_))
   | exact ih0 _ _ _ _ _
   | exact impl_DecimalOf.mono _ _
   | exact impl_FractionValid.mono _ _ _
   | exact laws_alive.mono _
   | exact spec_DecimalOf.mono _ _
   | exact spec_DrawDecimalOf.mono _ _
   | exact LeO.none _
   | refine LeO.ite ?_ ?_
   | refine LeO.bind ?_ (fun _ => ?_)
set_option maxHeartbeats 8000000 in
set_option maxRecDepth 100000 in
theorem laws_FnDecimalOf.calls (k : Nat) (A0 : Option Addr) (c0 : Nat) (l0 : List Int) (r : Bool) (w : World) (hr0 : Kd.C (Kd.int .u8) w A0 l0.length l0) (hc0 : l0.length ≤ c0) (h : laws_FnDecimalOf.f k l0 = some r) :
  Calls Tryd.prog 6 #[.slice A0 l0.length c0] w fun e w' => e = .returned (.bool r) ∧ Below w.heap.size w w' := by
 have hu25 := Tryd.underlying25
 have HR0 := Aside0.mk hr0
 have HC0 := Aside0.mk hc0
 clear hr0 hc0
 have HB := Aside0.mk (Below.refl w.heap.size w)
 have H : (if (l0.length : Int) > 1048576 then (some true) else ((spec_DrawDecimalOf.f k l0).bind fun t291 => ((impl_DecimalOf.f k t291).bind fun bt292 => ((spec_DecimalOf.f k t291).bind fun bt296 => (if (!(bt292.1 == bt296.1) || (!(bt292.2.1 == bt296.2.1))) = true then (laws_FnDecimalOf.j0 k t291 bt292.2.2 true bt292.1 bt292.2.1) else (laws_FnDecimalOf.j0 k t291 bt292.2.2 (bt292.2.2 != bt296.2.2) bt292.1 bt292.2.1)))))) = some r := h
 clear h
 by_cases c2 : (l0.length : Int) > 1048576
 ·rw [if_pos c2] at H
  have c2b0 : decide (1048576 < (l0.length : Int)) = true := decide_eq_true c2
  have c2b1 : decide (1048576 < l0.length) = true := decide_eq_true (by omega)
  clear c2
  obtain rfl := Option.some.inj H
  go_enter Tryd.func6, Tryd.ntmps6
  go_wp2
  go_ret
  exact ⟨by first | rfl | (simp [errW_none, errW_some] <;> rfl) | (simp [*, errW_none, errW_some] <;> rfl), zz17_1_ HB.out⟩
 ·rw [if_neg c2] at H
  have c2b0 : decide (1048576 < (l0.length : Int)) = false := decide_eq_false c2
  have c2b1 : decide (1048576 < l0.length) = false := decide_eq_false (by omega)
  clear c2
  replace H := Option.bind_eq_some_iff.mp H
  obtain ⟨t291, A30, H⟩ := H
  try dsimp only at H
  have A3 := Aside0.mk A30
  clear A30
  replace H := Option.bind_eq_some_iff.mp H
  obtain ⟨⟨t292, t293, t294⟩, A40, H⟩ := H
  try dsimp only at H
  have A4 := Aside0.mk A40
  clear A40
  replace H := Option.bind_eq_some_iff.mp H
  obtain ⟨⟨t296, t297, t298⟩, A50, H⟩ := H
  try dsimp only at H
  have A5 := Aside0.mk A50
  clear A50
  have HC6 := Aside0.mk H
  clear H
  go_enter Tryd.func6, Tryd.ntmps6
  go_upto_region 6 with (first | ((with_reducible refine gate_callee (f := 20) rfl ?_); refine goesL_ (some 14) rfl rfl Tryd.func20 (by kernel_rfl) rfl #[.slice A0 l0.length c0] rfl (zz17_0_) ?_; (with_reducible refine (spec_DrawDecimalOf.calls k _ _ l0 t291 _ ?side1 ?side2 A3.out).mono ?_); (case side1 => repeat (first | exact HR0.out | (with_reducible refine Kd.C_alloc ?_ _) | (with_reducible refine Kd.C_drewN ?_ _) | (with_reducible refine Kd.C_drew ?_))); (case side2 => exact HC0.out); rintro e w7 ⟨rfl, hb⟩; refine ⟨_, rfl, ?_⟩; have n0_ := Aside0.mk (below_step (zz17_1_ HB.out) hb); clear HB; have HB := n0_; clear n0_; (try clear hb); (try clear hb2); (try clear hk); (try clear hi)) | ((with_reducible refine gate_callee (f := 18) rfl ?_); refine goesL_ (some 17) rfl rfl Tryd.func18 (by kernel_rfl) rfl #[.string t291] rfl (zz17_0_) ?_; (with_reducible refine (impl_DecimalOf.calls k t291 t292 t293 t294 _ A4.out).mono ?_); rintro e w8 ⟨rfl, hb⟩; refine ⟨_, rfl, ?_⟩; have n0_ := Aside0.mk (below_step (zz17_1_ HB.out) hb); clear HB; have HB := n0_; clear n0_; (try clear hb); (try clear hb2); (try clear hk); (try clear hi)) | ((with_reducible refine gate_dst (N := 4) rfl ?_); refine box_event ?hg (N := 4) ?hd (cs := #[.int .i64 0, .int .i64 0]) (t := 25) ?hr ?_; (case hd => rfl); (case hg => rfl); (case hr => first | (go_simp; done) | (go_simp; rfl)); intro gb295 hg w9 hbox hb; have n0_ := Aside0.mk (below_step (zz17_1_ HB.out) hb); have n1_ := Aside0.mk (hbox); have n2_ := Aside0.mk ((by rw [hg]; exact (below_size (zz17_1_ HB.out)) : w.heap.size ≤ gb295)); have n3_ := Aside0.mk ((by rw [hg]; exact (below_size (zz17_1_ HB.out)) : w.heap.size ≤ gb295)); clear HB; have HB := n0_; have BK295 := n1_; have GW295 := n2_; have GE295 := n3_; clear n0_ n1_ n2_ n3_; clear hb hbox hg; have hcz10_0 : w9.cell? ⟨gb295, 0, none⟩ = some (.int .i64 0) := (blk_cell BK295.out 0).trans rfl; have hcz10_1 : w9.cell? ⟨gb295, 1, none⟩ = some (.int .i64 0) := (blk_cell BK295.out 1).trans rfl; have hfz10_0 := blk_frozen BK295.out 0; have hfz10_1 := blk_frozen BK295.out 1) | ((with_reducible refine gate_callee (f := 17) rfl ?_); refine goesL_ (some 22) rfl rfl Tryd.func17 (by kernel_rfl) rfl #[.string t291] rfl (zz17_0_) ?_; (with_reducible refine (spec_DecimalOf.calls k t291 t296 t297 t298 _ A5.out).mono ?_); rintro e w11 ⟨rfl, hb⟩; refine ⟨_, rfl, ?_⟩; have n0_ := Aside0.mk (blk_below (g := gb295) (o := .cells #[.int .i64 t292, .int .i64 t293] 25 (0, 0)) (by (with_reducible repeat (first | refine blk_drewN ?_ _ | refine blk_drew ?_ | refine blk_alloc ?_ _)); refine blk_put (cs := #[.int .i64 t292, .int .i64 0]) ?_ 1 _ rfl; (with_reducible repeat (first | refine blk_drewN ?_ _ | refine blk_drew ?_ | refine blk_alloc ?_ _)); refine blk_put (cs := #[.int .i64 0, .int .i64 0]) ?_ 0 _ rfl; (with_reducible repeat (first | refine blk_drewN ?_ _ | refine blk_drew ?_ | refine blk_alloc ?_ _)); exact BK295.out) hb); have n1_ := Aside0.mk (below_step (zz17_2_ HB.out GE295.out) hb); clear BK295; clear HB; have BK295 := n0_; have HB := n1_; clear n0_ n1_; (try clear hb); (try clear hb2); (try clear hk); (try clear hi)) | ((with_reducible refine gate_dst (N := 6) rfl ?_); refine box_event ?hg (N := 6) ?hd (cs := #[.int .i64 0, .int .i64 0]) (t := 25) ?hr ?_; (case hd => rfl); (case hg => rfl); (case hr => first | (go_simp; done) | (go_simp; rfl)); intro gb299 hg w12 hbox hb; have n0_ := Aside0.mk (blk_below (g := gb295) (o := .cells #[.int .i64 t292, .int .i64 t293] 25 (0, 0)) (zz17_3_ BK295.out) hb); have n1_ := Aside0.mk (below_step (zz17_2_ HB.out GE295.out) hb); have n2_ := Aside0.mk (hbox); have n3_ := Aside0.mk ((by rw [hg]; exact (below_size (zz17_2_ HB.out GE295.out)) : w.heap.size ≤ gb299)); have n4_ := Aside0.mk ((by rw [hg]; exact (below_size (zz17_2_ HB.out GE295.out)) : w.heap.size ≤ gb299)); have n5_ := Aside0.mk ((by rw [hg]; exact Nat.ne_of_lt (blk_lt (g := gb295) (o := .cells #[.int .i64 t292, .int .i64 t293] 25 (0, 0)) (zz17_3_ BK295.out)) : gb295 ≠ gb299)); have n6_ := Aside0.mk ((by rw [hg]; exact Nat.ne_of_gt (blk_lt (g := gb295) (o := .cells #[.int .i64 t292, .int .i64 t293] 25 (0, 0)) (zz17_3_ BK295.out)) : gb299 ≠ gb295)); clear BK295; clear HB; have BK295 := n0_; have HB := n1_; have BK299 := n2_; have GW299 := n3_; have GE299 := n4_; have NB295_299 := n5_; have NB299_295 := n6_; clear n0_ n1_ n2_ n3_ n4_ n5_ n6_; clear hb hbox hg; have hnb13 := NB299_295.out; have hnc13 := NB295_299.out; have hcz14_0 : w12.cell? ⟨gb299, 0, none⟩ = some (.int .i64 0) := (blk_cell BK299.out 0).trans rfl; have hcz14_1 : w12.cell? ⟨gb299, 1, none⟩ = some (.int .i64 0) := (blk_cell BK299.out 1).trans rfl; have hfz14_0 := blk_frozen BK299.out 0; have hfz14_1 := blk_frozen BK299.out 1))
  (try simp only [Act.put, List.setIfInBounds_toArray, List.set_cons_zero, List.set_cons_succ])
  go_cut [32] (fun v32 wc => ∃ (kq : Nat) (x32_5 : Bool), v32 = .bool x32_5 ∧ Aside0 (laws_FnDecimalOf.j0 kq t291 t294 x32_5 t292 t293 = some r) ∧ Aside0 (kq ≤ k) ∧ Aside0 (wc.heap[gb295]? = some (.cells #[.int .i64 t292, .int .i64 t293] 25 (0, 0))) ∧ Aside0 (wc.heap[gb299]? = some (.cells #[.int .i64 t296, .int .i64 t297] 25 (0, 0))) ∧ Aside0 (Below w.heap.size w wc))
  case first =>
   have H := HC6.out
   clear HC6
   by_cases c15 : (!(t292 == t296) || (!(t293 == t297))) = true
   ·rw [if_pos c15] at H
    have c15b0 : (!(t292 == t296) || (!(t293 == t297))) = true := c15
    clear c15
    (first | rw [c15b0] | (simp only [i64_w, i32_w]; rw [c15b0]) | skip)
    have H' := Aside0.mk H
    clear H
    have hnb16 := NB295_299.out
    have hnc16 := NB299_295.out
    have hcz17_0 : w12.cell? ⟨gb295, 0, none⟩ = some (.int .i64 t292) := (blk_cell BK295.out 0).trans rfl
    have hcz17_1 : w12.cell? ⟨gb295, 1, none⟩ = some (.int .i64 t293) := (blk_cell BK295.out 1).trans rfl
    have hfz17_0 := blk_frozen BK295.out 0
    have hfz17_1 := blk_frozen BK295.out 1
    have hcz18_0 : w12.cell? ⟨gb299, 0, none⟩ = some (.int .i64 0) := (blk_cell BK299.out 0).trans rfl
    have hcz18_1 : w12.cell? ⟨gb299, 1, none⟩ = some (.int .i64 0) := (blk_cell BK299.out 1).trans rfl
    have hfz18_0 := blk_frozen BK299.out 0
    have hfz18_1 := blk_frozen BK299.out 1
    go_wp2
    go_meet
    case rel => exact ⟨_, (true), (by first | rfl | (simp; done) | (simp [*]; done)), H', ⟨by first | omega | exact Nat.le_refl _⟩, ⟨by (with_reducible repeat (first | refine blk_drewN ?_ _ | refine blk_drew ?_ | refine blk_alloc ?_ _)); refine blk_far ?_ NB295_299.out _; (with_reducible repeat (first | refine blk_drewN ?_ _ | refine blk_drew ?_ | refine blk_alloc ?_ _)); refine blk_far ?_ NB295_299.out _; (with_reducible repeat (first | refine blk_drewN ?_ _ | refine blk_drew ?_ | refine blk_alloc ?_ _)); exact BK295.out⟩, ⟨by (with_reducible repeat (first | refine blk_drewN ?_ _ | refine blk_drew ?_ | refine blk_alloc ?_ _)); refine blk_put (cs := #[.int .i64 t296, .int .i64 0]) ?_ 1 _ rfl; (with_reducible repeat (first | refine blk_drewN ?_ _ | refine blk_drew ?_ | refine blk_alloc ?_ _)); refine blk_put (cs := #[.int .i64 0, .int .i64 0]) ?_ 0 _ rfl; (with_reducible repeat (first | refine blk_drewN ?_ _ | refine blk_drew ?_ | refine blk_alloc ?_ _)); exact BK299.out⟩, ⟨zz17_4_ HB.out GE295.out GE299.out⟩⟩
   ·rw [if_neg c15] at H
    have c15b0 : (!(t292 == t296) || (!(t293 == t297))) = false := by simpa using c15
    clear c15
    (first | rw [c15b0] | (simp only [i64_w, i32_w]; rw [c15b0]) | skip)
    have H' := Aside0.mk H
    clear H
    have hnb19 := NB295_299.out
    have hnc19 := NB299_295.out
    have hcz20_0 : w12.cell? ⟨gb295, 0, none⟩ = some (.int .i64 t292) := (blk_cell BK295.out 0).trans rfl
    have hcz20_1 : w12.cell? ⟨gb295, 1, none⟩ = some (.int .i64 t293) := (blk_cell BK295.out 1).trans rfl
    have hfz20_0 := blk_frozen BK295.out 0
    have hfz20_1 := blk_frozen BK295.out 1
    have hcz21_0 : w12.cell? ⟨gb299, 0, none⟩ = some (.int .i64 0) := (blk_cell BK299.out 0).trans rfl
    have hcz21_1 : w12.cell? ⟨gb299, 1, none⟩ = some (.int .i64 0) := (blk_cell BK299.out 1).trans rfl
    have hfz21_0 := blk_frozen BK299.out 0
    have hfz21_1 := blk_frozen BK299.out 1
    go_wp2
    go_meet
    case rel => exact ⟨_, ((t294 != t298)), (by first | rfl | (simp; done) | (simp [*]; done)), H', ⟨by first | omega | exact Nat.le_refl _⟩, ⟨by (with_reducible repeat (first | refine blk_drewN ?_ _ | refine blk_drew ?_ | refine blk_alloc ?_ _)); refine blk_far ?_ NB295_299.out _; (with_reducible repeat (first | refine blk_drewN ?_ _ | refine blk_drew ?_ | refine blk_alloc ?_ _)); refine blk_far ?_ NB295_299.out _; (with_reducible repeat (first | refine blk_drewN ?_ _ | refine blk_drew ?_ | refine blk_alloc ?_ _)); exact BK295.out⟩, ⟨by (with_reducible repeat (first | refine blk_drewN ?_ _ | refine blk_drew ?_ | refine blk_alloc ?_ _)); refine blk_put (cs := #[.int .i64 t296, .int .i64 0]) ?_ 1 _ rfl; (with_reducible repeat (first | refine blk_drewN ?_ _ | refine blk_drew ?_ | refine blk_alloc ?_ _)); refine blk_put (cs := #[.int .i64 0, .int .i64 0]) ?_ 0 _ rfl; (with_reducible repeat (first | refine blk_drewN ?_ _ | refine blk_drew ?_ | refine blk_alloc ?_ _)); exact BK299.out⟩, ⟨zz17_4_ HB.out GE295.out GE299.out⟩⟩
  case rest =>
   clear HC6
   try clear c1
   try clear c2
   try clear c2b0
   try clear c2b1
   try clear p2
   try clear c6
   try clear c13
   try clear c15
   try clear c15b0
   try clear c16
   try clear c17
   try clear c18
   try clear c19
   try clear c20
   try clear hcz10_0
   try clear hcz10_1
   try clear hcz14_0
   try clear hcz14_1
   try clear hcz17_0
   try clear hcz17_1
   try clear hcz18_0
   try clear hcz18_1
   try clear hcz20_0
   try clear hcz20_1
   try clear hcz21_0
   try clear hcz21_1
   try clear hfz10_0
   try clear hfz10_1
   try clear hfz14_0
   try clear hfz14_1
   try clear hfz17_0
   try clear hfz17_1
   try clear hfz18_0
   try clear hfz18_1
   try clear hfz20_0
   try clear hfz20_1
   try clear hfz21_0
   try clear hfz21_1
   obtain ⟨kq, x32_5, rfl, HA, HJ5, BK295, BK299, HB⟩ := hcut
   cases kq with
   | zero => exact absurd HA.out (by simp [laws_FnDecimalOf.j0])
   | succ kj5 =>
    have H := HA.out
    clear HA
    simp only [laws_FnDecimalOf.j0] at H
    by_cases c22 : x32_5 = true
    ·subst c22
     rw [if_pos rfl] at H
     exact absurd H (by simp)
    ·replace c22 := Bool.eq_false_iff.mpr c22
     subst c22
     rw [if_neg (show ¬ (false = true) by decide)] at H
     by_cases c23 : t294 = true
     ·subst c23
      rw [if_pos rfl] at H
      by_cases c24 : 1 + t291.size ≤ 9223372036854775807
      ·rw [if_pos c24] at H
       have c24b0 := eq_true c24
       have c24b1 : decide (1 + t291.size ≤ 9223372036854775807) = true := decide_eq_true c24
       try have c24b2 : (9223372036854775807 < 1 + t291.size) = False := eq_false (Nat.not_lt.2 c24)
       replace H := Option.bind_eq_some_iff.mp H
       obtain ⟨⟨t300, t301, t302⟩, A250, H⟩ := H
       try dsimp only at H
       have A25 := Aside0.mk A250
       clear A250
       replace H := Option.bind_eq_some_iff.mp H
       obtain ⟨t304, A260, H⟩ := H
       try dsimp only at H
       have A26 := Aside0.mk A260
       clear A260
       by_cases c27 : t304 = true
       ·subst c27
        rw [if_pos rfl] at H
        by_cases c28 : t292 ≥ 0
        ·rw [if_pos c28] at H
         have c28b0 : decide (0 ≤ t292) = true := decide_eq_true c28
         clear c28
         by_cases c29 : t293 = 0
         ·rw [if_pos c29] at H
          exact absurd H (by simp)
         ·rw [if_neg c29] at H
          have c29b0 : (t293 == 0) = false := beq_eq_false_iff_ne.mpr c29
          have c29b1 : (t293 != 0) = true := bne_iff_ne.mpr c29
          by_cases c30 : ((1000000 : Int) % t293) = 0
          ·rw [if_pos c30] at H
           have c30b0 : (((1000000 : Int) % t293) == 0) = true := beq_iff_eq.mpr c30
           have c30b1 : (((1000000 : Int) % t293) != 0) = false := bne_eq_false_iff_eq.mpr c30
           clear c30
           by_cases c31 : t302 = true
           ·subst c31
            rw [if_pos rfl] at H
            obtain rfl := Option.some.inj H
            go_wp2_with (first | ((with_reducible refine gate_callee (f := 18) rfl ?_); refine goesL_ (some 44) rfl rfl Tryd.func18 (by kernel_rfl) rfl #[.string ((⟨#[48]⟩ : ByteArray) ++ t291)] rfl (zz17_0_) ?_; (with_reducible refine (impl_DecimalOf.calls kj5 ((⟨#[48]⟩ : ByteArray) ++ t291) t300 t301 true _ A25.out).mono ?_); rintro e w32 ⟨rfl, hb⟩; refine ⟨_, rfl, ?_⟩; have n0_ := Aside0.mk (blk_below (g := gb295) (o := .cells #[.int .i64 t292, .int .i64 t293] 25 (0, 0)) (zz17_3_ BK295.out) hb); have n1_ := Aside0.mk (blk_below (g := gb299) (o := .cells #[.int .i64 t296, .int .i64 t297] 25 (0, 0)) (zz17_3_ BK299.out) hb); have n2_ := Aside0.mk (below_step (zz17_4_ HB.out GE295.out GE299.out) hb); clear BK295; clear BK299; clear HB; have BK295 := n0_; have BK299 := n1_; have HB := n2_; clear n0_ n1_ n2_; (try clear hb); (try clear hb2); (try clear hk); (try clear hi)) | ((with_reducible refine gate_dst (N := 8) rfl ?_); refine box_event ?hg (N := 8) ?hd (cs := #[.int .i64 0, .int .i64 0]) (t := 25) ?hr ?_; (case hd => rfl); (case hg => rfl); (case hr => first | (go_simp; done) | (go_simp; rfl)); intro gb303 hg w33 hbox hb; have n0_ := Aside0.mk (blk_below (g := gb295) (o := .cells #[.int .i64 t292, .int .i64 t293] 25 (0, 0)) (zz17_3_ BK295.out) hb); have n1_ := Aside0.mk (blk_below (g := gb299) (o := .cells #[.int .i64 t296, .int .i64 t297] 25 (0, 0)) (zz17_3_ BK299.out) hb); have n2_ := Aside0.mk (below_step (zz17_4_ HB.out GE295.out GE299.out) hb); have n3_ := Aside0.mk (hbox); have n4_ := Aside0.mk ((by rw [hg]; exact (below_size (zz17_4_ HB.out GE295.out GE299.out)) : w.heap.size ≤ gb303)); have n5_ := Aside0.mk ((by rw [hg]; exact (below_size (zz17_4_ HB.out GE295.out GE299.out)) : w.heap.size ≤ gb303)); have n6_ := Aside0.mk ((by rw [hg]; exact Nat.ne_of_lt (blk_lt (g := gb295) (o := .cells #[.int .i64 t292, .int .i64 t293] 25 (0, 0)) (zz17_3_ BK295.out)) : gb295 ≠ gb303)); have n7_ := Aside0.mk ((by rw [hg]; exact Nat.ne_of_gt (blk_lt (g := gb295) (o := .cells #[.int .i64 t292, .int .i64 t293] 25 (0, 0)) (zz17_3_ BK295.out)) : gb303 ≠ gb295)); have n8_ := Aside0.mk ((by rw [hg]; exact Nat.ne_of_lt (blk_lt (g := gb299) (o := .cells #[.int .i64 t296, .int .i64 t297] 25 (0, 0)) (zz17_3_ BK299.out)) : gb299 ≠ gb303)); have n9_ := Aside0.mk ((by rw [hg]; exact Nat.ne_of_gt (blk_lt (g := gb299) (o := .cells #[.int .i64 t296, .int .i64 t297] 25 (0, 0)) (zz17_3_ BK299.out)) : gb303 ≠ gb299)); clear BK295; clear BK299; clear HB; have BK295 := n0_; have BK299 := n1_; have HB := n2_; have BK303 := n3_; have GW303 := n4_; have GE303 := n5_; have NB295_303 := n6_; have NB303_295 := n7_; have NB299_303 := n8_; have NB303_299 := n9_; clear n0_ n1_ n2_ n3_ n4_ n5_ n6_ n7_ n8_ n9_; clear hb hbox hg; have hnb34 := NB303_295.out; have hnc34 := NB295_303.out; have hnb35 := NB303_299.out; have hnc35 := NB299_303.out; have hcz36_0 : w33.cell? ⟨gb303, 0, none⟩ = some (.int .i64 0) := (blk_cell BK303.out 0).trans rfl; have hcz36_1 : w33.cell? ⟨gb303, 1, none⟩ = some (.int .i64 0) := (blk_cell BK303.out 1).trans rfl; have hfz36_0 := blk_frozen BK303.out 0; have hfz36_1 := blk_frozen BK303.out 1; have hnb37 := NB295_299.out; have hnc37 := NB299_295.out; have hcz38_0 : w33.cell? ⟨gb295, 0, none⟩ = some (.int .i64 t292) := (blk_cell BK295.out 0).trans rfl; have hcz38_1 : w33.cell? ⟨gb295, 1, none⟩ = some (.int .i64 t293) := (blk_cell BK295.out 1).trans rfl; have hfz38_0 := blk_frozen BK295.out 0; have hfz38_1 := blk_frozen BK295.out 1) | ((with_reducible refine gate_callee (f := 21) rfl ?_); refine goesL_ (some 48) rfl rfl Tryd.func21 (by kernel_rfl) rfl #[.agg #[.int .i64 t292, .int .i64 t293]] rfl (zz17_0_) ?_; (with_reducible refine (impl_FractionValid.calls kj5 t292 t293 true _ A26.out).mono ?_); rintro e w39 ⟨rfl, hb⟩; refine ⟨_, rfl, ?_⟩; have n0_ := Aside0.mk (blk_below (g := gb295) (o := .cells #[.int .i64 t292, .int .i64 t293] 25 (0, 0)) (zz17_5_ NB295_303.out BK295.out) hb); have n1_ := Aside0.mk (blk_below (g := gb299) (o := .cells #[.int .i64 t296, .int .i64 t297] 25 (0, 0)) (zz17_5_ NB299_303.out BK299.out) hb); have n2_ := Aside0.mk (blk_below (g := gb303) (o := .cells #[.int .i64 t300, .int .i64 t301] 25 (0, 0)) (by (with_reducible repeat (first | refine blk_drewN ?_ _ | refine blk_drew ?_ | refine blk_alloc ?_ _)); refine blk_put (cs := #[.int .i64 t300, .int .i64 0]) ?_ 1 _ rfl; (with_reducible repeat (first | refine blk_drewN ?_ _ | refine blk_drew ?_ | refine blk_alloc ?_ _)); refine blk_put (cs := #[.int .i64 0, .int .i64 0]) ?_ 0 _ rfl; (with_reducible repeat (first | refine blk_drewN ?_ _ | refine blk_drew ?_ | refine blk_alloc ?_ _)); exact BK303.out) hb); have n3_ := Aside0.mk (below_step (zz17_6_ HB.out GE295.out GE299.out GE303.out) hb); clear BK295; clear BK299; clear BK303; clear HB; have BK295 := n0_; have BK299 := n1_; have BK303 := n2_; have HB := n3_; clear n0_ n1_ n2_ n3_; (try clear hb); (try clear hb2); (try clear hk); (try clear hi); have hcz40_0 : w39.cell? ⟨gb295, 0, none⟩ = some (.int .i64 t292) := (blk_cell BK295.out 0).trans rfl; have hcz40_1 : w39.cell? ⟨gb295, 1, none⟩ = some (.int .i64 t293) := (blk_cell BK295.out 1).trans rfl; have hfz40_0 := blk_frozen BK295.out 0; have hfz40_1 := blk_frozen BK295.out 1; have hcz41_0 : w39.cell? ⟨gb303, 0, none⟩ = some (.int .i64 t300) := (blk_cell BK303.out 0).trans rfl; have hcz41_1 : w39.cell? ⟨gb303, 1, none⟩ = some (.int .i64 t301) := (blk_cell BK303.out 1).trans rfl; have hfz41_0 := blk_frozen BK303.out 0; have hfz41_1 := blk_frozen BK303.out 1))
            go_ret
            exact ⟨by first | rfl | (simp [errW_none, errW_some] <;> rfl) | (simp [*, errW_none, errW_some] <;> rfl), zz17_6_ HB.out GE295.out GE299.out GE303.out⟩
           ·replace c31 := Bool.eq_false_iff.mpr c31
            subst c31
            rw [if_neg (show ¬ (false = true) by decide)] at H
            obtain rfl := Option.some.inj H
            go_wp2_with (first | ((with_reducible refine gate_callee (f := 18) rfl ?_); refine goesL_ (some 44) rfl rfl Tryd.func18 (by kernel_rfl) rfl #[.string ((⟨#[48]⟩ : ByteArray) ++ t291)] rfl (zz17_0_) ?_; (with_reducible refine (impl_DecimalOf.calls kj5 ((⟨#[48]⟩ : ByteArray) ++ t291) t300 t301 false _ A25.out).mono ?_); rintro e w42 ⟨rfl, hb⟩; refine ⟨_, rfl, ?_⟩; have n0_ := Aside0.mk (blk_below (g := gb295) (o := .cells #[.int .i64 t292, .int .i64 t293] 25 (0, 0)) (zz17_3_ BK295.out) hb); have n1_ := Aside0.mk (blk_below (g := gb299) (o := .cells #[.int .i64 t296, .int .i64 t297] 25 (0, 0)) (zz17_3_ BK299.out) hb); have n2_ := Aside0.mk (below_step (zz17_4_ HB.out GE295.out GE299.out) hb); clear BK295; clear BK299; clear HB; have BK295 := n0_; have BK299 := n1_; have HB := n2_; clear n0_ n1_ n2_; (try clear hb); (try clear hb2); (try clear hk); (try clear hi)) | ((with_reducible refine gate_dst (N := 8) rfl ?_); refine box_event ?hg (N := 8) ?hd (cs := #[.int .i64 0, .int .i64 0]) (t := 25) ?hr ?_; (case hd => rfl); (case hg => rfl); (case hr => first | (go_simp; done) | (go_simp; rfl)); intro gb303 hg w43 hbox hb; have n0_ := Aside0.mk (blk_below (g := gb295) (o := .cells #[.int .i64 t292, .int .i64 t293] 25 (0, 0)) (zz17_3_ BK295.out) hb); have n1_ := Aside0.mk (blk_below (g := gb299) (o := .cells #[.int .i64 t296, .int .i64 t297] 25 (0, 0)) (zz17_3_ BK299.out) hb); have n2_ := Aside0.mk (below_step (zz17_4_ HB.out GE295.out GE299.out) hb); have n3_ := Aside0.mk (hbox); have n4_ := Aside0.mk ((by rw [hg]; exact (below_size (zz17_4_ HB.out GE295.out GE299.out)) : w.heap.size ≤ gb303)); have n5_ := Aside0.mk ((by rw [hg]; exact (below_size (zz17_4_ HB.out GE295.out GE299.out)) : w.heap.size ≤ gb303)); have n6_ := Aside0.mk ((by rw [hg]; exact Nat.ne_of_lt (blk_lt (g := gb295) (o := .cells #[.int .i64 t292, .int .i64 t293] 25 (0, 0)) (zz17_3_ BK295.out)) : gb295 ≠ gb303)); have n7_ := Aside0.mk ((by rw [hg]; exact Nat.ne_of_gt (blk_lt (g := gb295) (o := .cells #[.int .i64 t292, .int .i64 t293] 25 (0, 0)) (zz17_3_ BK295.out)) : gb303 ≠ gb295)); have n8_ := Aside0.mk ((by rw [hg]; exact Nat.ne_of_lt (blk_lt (g := gb299) (o := .cells #[.int .i64 t296, .int .i64 t297] 25 (0, 0)) (zz17_3_ BK299.out)) : gb299 ≠ gb303)); have n9_ := Aside0.mk ((by rw [hg]; exact Nat.ne_of_gt (blk_lt (g := gb299) (o := .cells #[.int .i64 t296, .int .i64 t297] 25 (0, 0)) (zz17_3_ BK299.out)) : gb303 ≠ gb299)); clear BK295; clear BK299; clear HB; have BK295 := n0_; have BK299 := n1_; have HB := n2_; have BK303 := n3_; have GW303 := n4_; have GE303 := n5_; have NB295_303 := n6_; have NB303_295 := n7_; have NB299_303 := n8_; have NB303_299 := n9_; clear n0_ n1_ n2_ n3_ n4_ n5_ n6_ n7_ n8_ n9_; clear hb hbox hg; have hnb44 := NB303_295.out; have hnc44 := NB295_303.out; have hnb45 := NB303_299.out; have hnc45 := NB299_303.out; have hcz46_0 : w43.cell? ⟨gb303, 0, none⟩ = some (.int .i64 0) := (blk_cell BK303.out 0).trans rfl; have hcz46_1 : w43.cell? ⟨gb303, 1, none⟩ = some (.int .i64 0) := (blk_cell BK303.out 1).trans rfl; have hfz46_0 := blk_frozen BK303.out 0; have hfz46_1 := blk_frozen BK303.out 1; have hnb47 := NB295_299.out; have hnc47 := NB299_295.out; have hcz48_0 : w43.cell? ⟨gb295, 0, none⟩ = some (.int .i64 t292) := (blk_cell BK295.out 0).trans rfl; have hcz48_1 : w43.cell? ⟨gb295, 1, none⟩ = some (.int .i64 t293) := (blk_cell BK295.out 1).trans rfl; have hfz48_0 := blk_frozen BK295.out 0; have hfz48_1 := blk_frozen BK295.out 1) | ((with_reducible refine gate_callee (f := 21) rfl ?_); refine goesL_ (some 48) rfl rfl Tryd.func21 (by kernel_rfl) rfl #[.agg #[.int .i64 t292, .int .i64 t293]] rfl (zz17_0_) ?_; (with_reducible refine (impl_FractionValid.calls kj5 t292 t293 true _ A26.out).mono ?_); rintro e w49 ⟨rfl, hb⟩; refine ⟨_, rfl, ?_⟩; have n0_ := Aside0.mk (blk_below (g := gb295) (o := .cells #[.int .i64 t292, .int .i64 t293] 25 (0, 0)) (zz17_5_ NB295_303.out BK295.out) hb); have n1_ := Aside0.mk (blk_below (g := gb299) (o := .cells #[.int .i64 t296, .int .i64 t297] 25 (0, 0)) (zz17_5_ NB299_303.out BK299.out) hb); have n2_ := Aside0.mk (blk_below (g := gb303) (o := .cells #[.int .i64 t300, .int .i64 t301] 25 (0, 0)) (by (with_reducible repeat (first | refine blk_drewN ?_ _ | refine blk_drew ?_ | refine blk_alloc ?_ _)); refine blk_put (cs := #[.int .i64 t300, .int .i64 0]) ?_ 1 _ rfl; (with_reducible repeat (first | refine blk_drewN ?_ _ | refine blk_drew ?_ | refine blk_alloc ?_ _)); refine blk_put (cs := #[.int .i64 0, .int .i64 0]) ?_ 0 _ rfl; (with_reducible repeat (first | refine blk_drewN ?_ _ | refine blk_drew ?_ | refine blk_alloc ?_ _)); exact BK303.out) hb); have n3_ := Aside0.mk (below_step (zz17_6_ HB.out GE295.out GE299.out GE303.out) hb); clear BK295; clear BK299; clear BK303; clear HB; have BK295 := n0_; have BK299 := n1_; have BK303 := n2_; have HB := n3_; clear n0_ n1_ n2_ n3_; (try clear hb); (try clear hb2); (try clear hk); (try clear hi); have hcz50_0 : w49.cell? ⟨gb295, 0, none⟩ = some (.int .i64 t292) := (blk_cell BK295.out 0).trans rfl; have hcz50_1 : w49.cell? ⟨gb295, 1, none⟩ = some (.int .i64 t293) := (blk_cell BK295.out 1).trans rfl; have hfz50_0 := blk_frozen BK295.out 0; have hfz50_1 := blk_frozen BK295.out 1))
            go_ret
            exact ⟨by first | rfl | (simp [errW_none, errW_some] <;> rfl) | (simp [*, errW_none, errW_some] <;> rfl), zz17_6_ HB.out GE295.out GE299.out GE303.out⟩
          ·rw [if_neg c30] at H
           exact absurd H (by simp)
        ·rw [if_neg c28] at H
         exact absurd H (by simp)
       ·replace c27 := Bool.eq_false_iff.mpr c27
        subst c27
        rw [if_neg (show ¬ (false = true) by decide)] at H
        exact absurd H (by simp)
      ·rw [if_neg c24] at H
       exact absurd H (by simp)
     ·replace c23 := Bool.eq_false_iff.mpr c23
      subst c23
      rw [if_neg (show ¬ (false = true) by decide)] at H
      by_cases c51 : (t292 == 0 && (t293 == 0)) = true
      ·rw [if_pos c51] at H
       have c51b0 : (t292 == 0 && (t293 == 0)) = true := c51
       (try (have c51b1 : decide (t292 = 0 && (t293 == 0)) = true := by simpa using c51))
       (try (have c51b2 : (t292 == 0 && (t293 == 0)) = true := by simpa using c51))
       clear c51
       replace H := Option.bind_eq_some_iff.mp H
       obtain ⟨t305, A520, H⟩ := H
       try dsimp only at H
       have A52 := Aside0.mk A520
       clear A520
       obtain rfl := Option.some.inj H
       have hnb53 := NB295_299.out
       have hnc53 := NB299_295.out
       have hcz54_0 : wc.cell? ⟨gb295, 0, none⟩ = some (.int .i64 t292) := (blk_cell BK295.out 0).trans rfl
       have hcz54_1 : wc.cell? ⟨gb295, 1, none⟩ = some (.int .i64 t293) := (blk_cell BK295.out 1).trans rfl
       have hfz54_0 := blk_frozen BK295.out 0
       have hfz54_1 := blk_frozen BK295.out 1
       go_wp2_with (first | (go_at_call 15; (with_reducible refine (laws_alive.calls kj5  t305 _ A52.out).mono ?_); rintro e w' ⟨rfl, ⟨nd, rfl⟩⟩))
       go_ret
       exact ⟨by first | rfl | (simp [errW_none, errW_some] <;> rfl) | (simp [*, errW_none, errW_some] <;> rfl), zz17_4_ HB.out GE295.out GE299.out⟩
      ·rw [if_neg c51] at H
       exact absurd H (by simp)

/-- THE ONE PURE STATEMENT of laws_FnDecimalOf: yours. -/
def laws_FnDecimalOf.Pure : Prop := ∀ (l0 : List Int), l0.length ≤ maxLen → l0.length * 1 ≤ 140737488351232 → (∀ x ∈ l0, (Lit.int .u8 x).wf = true) → ∃ k, laws_FnDecimalOf.f k l0 = some true
theorem laws_FnDecimalOf.walk (P : laws_FnDecimalOf.Pure) (a0 : Option Addr) (len0 cap0 : Nat) (z0 : List Int) (w : World) (w0 : (a0 = none ∧ len0 = 0 ∧ cap0 = 0 ∧ z0 = []) ∨ ∃ x, a0 = some x ∧ len0 ≤ cap0 ∧ cap0 ≤ maxLen ∧ z0.length = cap0 ∧ (∀ i, i < z0.length → w.cell? (x.add i) = some (.int .u8 (z0.getD i 0))) ∧ ∀ n ∈ z0, (Lit.int .u8 n).wf = true) (y0 : len0 * 1 ≤ 140737488351232) :
  Calls Tryd.prog 6 #[.slice a0 len0 cap0] w fun e w' => e = .returned (.bool true) ∧ Below w.heap.size w w' := by
 obtain ⟨l0, rfl, hr0, hm0, hw0, hc0⟩ := ReadsInt.ofRowC w0
 obtain ⟨k, h⟩ := P l0 hm0 y0 hw0
 refine (laws_FnDecimalOf.calls k _ _ l0 true w (Kd.C_of_reads (d := (0 : Int)) (h1 := fun _ => rfl) hr0) hc0 h).mono ?_
 rintro e w' ⟨rfl, hd⟩
 exact ⟨rfl, hd⟩

end Go.Proofs.YtifeiepociopoaaDoor.PFrac
