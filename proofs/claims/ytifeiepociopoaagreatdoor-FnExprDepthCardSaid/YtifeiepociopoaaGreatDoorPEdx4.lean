-- Written for this session by its program hprint.py over the kit's print: functions, and contracts that the walk of the Go code proves.
import Derived.Test.YtifeiepociopoaaGreatDoorPEdx0
import Derived.Test.YtifeiepociopoaaGreatDoorPEdx1
import Derived.Test.YtifeiepociopoaaGreatDoorPEdx2
import Derived.Test.YtifeiepociopoaaGreatDoorPEdx3
namespace Go.Proofs.YtifeiepociopoaaGreatDoor.PEd
open Go.RowKit Go.Proofs.YtifeiepociopoaaGreatDoor.Hand Go.Proofs.YtifeiepociopoaaGreatDoorW.PrintWords Go.Proofs.YtifeiepociopoaaGreatDoorW.PrintLast Go.Proofs.YtifeiepociopoaaGreatDoorW.PrintMore
attribute [local go_sem] max2_int min2_int max_two min_two max_three min_three max_four min_four   -- for this text's walks alone
set_option linter.unusedVariables false
set_option linter.unusedSimpArgs false

/-! ### impl_ReadFraction: function 31 -/
theorem zz4_0_ {P1 Q : Prop} (h1 : P1) (f : P1 → Q := by intro zq1_; repeat (first | (with_reducible first | exact zq1_ | apply below_alloc | apply pw_below_drewN | apply below_drew1) | exact zq1_)) : Q := f h1
theorem zz4_1_ {Q : Prop} (f : Q := by (try simp only [List.map_toArray, List.map_cons, List.map_nil]); first | done | rfl | (simp only [List.length_drop, List.length_take]; rfl)) : Q := f
theorem zz4_2_ {P1 Q : Prop} (h1 : P1) (f : P1 → Q := by intro zq1_; (with_reducible repeat (first | refine blk_drewN ?_ _ | refine blk_drew ?_ | refine blk_alloc ?_ _)); exact zq1_) : Q := f h1
theorem zz4_3_ {P1 P2 Q : Prop} (h1 : P1) (h2 : P2) (f : P1 → P2 → Q := by intro zq1_ zq2_; repeat (first | (with_reducible first | exact zq1_ | apply below_alloc | apply pw_below_drewN | apply below_drew1 | refine below_set ?_ zq2_) | exact zq1_)) : Q := f h1 h2
theorem zz4_4_ {P1 P2 P3 Q : Prop} (h1 : P1) (h2 : P2) (h3 : P3) (f : P1 → P2 → P3 → Q := by intro zq1_ zq2_ zq3_; repeat (first | (with_reducible first | exact zq1_ | apply below_alloc | apply pw_below_drewN | apply below_drew1 | refine below_set ?_ zq2_ | refine below_set ?_ zq3_) | exact zq1_)) : Q := f h1 h2 h3
theorem zz4_5_ {P1 P2 Q : Prop} (h1 : P1) (h2 : P2) (f : P1 → P2 → Q := by intro zq1_ zq2_; (with_reducible repeat (first | refine blk_drewN ?_ _ | refine blk_drew ?_ | refine blk_alloc ?_ _)); refine blk_far ?_ zq1_ _; (with_reducible repeat (first | refine blk_drewN ?_ _ | refine blk_drew ?_ | refine blk_alloc ?_ _)); exact zq2_) : Q := f h1 h2
mutual
def impl_ReadFraction.j1 : Nat → ByteArray → Bool → Bool → Int → Int → Option (Int × Int × Bool)
 | 0, _, _, _, _, _ => none
 | k + 1, x0, x5, x7, x143000, x143001 => if x5 = true then (if x7 = true then ((impl_FractionText.f k (wrap64 (-x143000)) x143001).bind fun t152 => (if t152.toList = x0.toList then (if x0.toList = ([] : List UInt8) then (some (0, 0, false)) else (some (wrap64 (-x143000), x143001, true))) else (some (0, 0, false)))) else (some (0, 0, false))) else (if x7 = true then ((impl_FractionText.f k x143000 x143001).bind fun t153 => (if t153.toList = x0.toList then (if x0.toList = ([] : List UInt8) then (some (0, 0, false)) else (some (x143000, x143001, true))) else (some (0, 0, false)))) else (some (0, 0, false)))
def impl_ReadFraction.j0 : Nat → ByteArray → Bool → ByteArray → ByteArray → Bool → Option (Int × Int × Bool)
 | 0, _, _, _, _, _ => none
 | k + 1, x0, x5, x8, x9, x35 => if x35 = true then (some (0, 0, false)) else ((strconv_Atoi.f x8).bind fun bt148 => ((strconv_Atoi.f x9).bind fun bt150 => (impl_ReadFraction.j1 k x0 x5 true bt148.1 bt150.1)))
end
def impl_ReadFraction.f (k : Nat) (a0 : ByteArray) : Option (Int × Int × Bool) := (strings_CutPrefix.f a0 (⟨#[45]⟩ : ByteArray)).bind fun bt137 => ((impl_DecimalOf.f k bt137.1).bind fun bt139 => ((strings_Cut.f bt137.1 (⟨#[47]⟩ : ByteArray)).bind fun bt143 => (if bt143.2.2 = true then ((impl_digits.f k bt143.1 1 10).bind fun t146 => (if t146 = true then ((impl_digits.f k bt143.2.1 1 7).bind fun t147 => (impl_ReadFraction.j0 k a0 bt137.2 bt143.1 bt143.2.1 (!t147))) else (impl_ReadFraction.j0 k a0 bt137.2 bt143.1 bt143.2.1 true))) else (impl_ReadFraction.j1 k a0 bt137.2 bt139.2.2 bt139.1 bt139.2.1))))
theorem impl_ReadFraction.mono_l : ∀ k, (∀ y0 y1 y2 y3 y4, LeO (impl_ReadFraction.j1 k y0 y1 y2 y3 y4) (impl_ReadFraction.j1 (k + 1) y0 y1 y2 y3 y4)) ∧ (∀ y0 y1 y2 y3 y4, LeO (impl_ReadFraction.j0 k y0 y1 y2 y3 y4) (impl_ReadFraction.j0 (k + 1) y0 y1 y2 y3 y4))
 | 0 => ⟨fun _ _ _ _ _ r h => by simp [impl_ReadFraction.j1] at h, fun _ _ _ _ _ r h => by simp [impl_ReadFraction.j0] at h⟩
 | k + 1 => by
  obtain ⟨ih0, ih1⟩ := impl_ReadFraction.mono_l k
  refine ⟨?_, ?_⟩
  ·intro y0 y1 y2 y3 y4
   unfold impl_ReadFraction.j1
   repeat' first
   | (with_reducible exact ih0 _ _ _ _ _)
   | (with_reducible exact ih1 _ _ _ _ _)
   | (with_reducible exact impl_DecimalOf.mono _ _)
   | (with_reducible exact impl_FractionText.mono _ _ _)
   | (with_reducible exact impl_digits.mono _ _ _ _)
   | (with_reducible exact LeO.refl _)
   | (with_reducible exact LeO.none _)
   | (with_reducible refine LeO.ite ?_ ?_)
   | (with_reducible refine LeO.bind ?_ (fun _ => ?_))
   | exact ih0 _ _ _ _ _
   | exact ih1 _ _ _ _ _
   | exact impl_DecimalOf.mono _ _
   | exact impl_FractionText.mono _ _ _
   | exact impl_digits.mono _ _ _ _
   | exact LeO.none _
   | refine LeO.ite ?_ ?_
   | refine LeO.bind ?_ (fun _ => ?_)
  ·intro y0 y1 y2 y3 y4
   unfold impl_ReadFraction.j0
   repeat' first
   | (with_reducible exact ih0 _ _ _ _ _)
   | (with_reducible exact ih1 _ _ _ _ _)
   | (with_reducible exact impl_DecimalOf.mono _ _)
   | (with_reducible exact impl_FractionText.mono _ _ _)
   | (with_reducible exact impl_digits.mono _ _ _ _)
   | (with_reducible exact LeO.refl _)
   | (with_reducible exact LeO.none _)
   | (with_reducible refine LeO.ite ?_ ?_)
   | (with_reducible refine LeO.bind ?_ (fun _ => ?_))
   | exact ih0 _ _ _ _ _
   | exact ih1 _ _ _ _ _
   | exact impl_DecimalOf.mono _ _
   | exact impl_FractionText.mono _ _ _
   | exact impl_digits.mono _ _ _ _
   | exact LeO.none _
   | refine LeO.ite ?_ ?_
   | refine LeO.bind ?_ (fun _ => ?_)
theorem impl_ReadFraction.mono : ∀ a0 k, LeO (impl_ReadFraction.f k a0) (impl_ReadFraction.f (k + 1) a0) := by
 intro a0 k
 obtain ⟨ih0, ih1⟩ := impl_ReadFraction.mono_l k
 unfold impl_ReadFraction.f
 repeat' first
   | (with_reducible exact ih0 _ _ _ _ _)
   | (with_reducible exact ih1 _ _ _ _ _)
   | (with_reducible exact impl_DecimalOf.mono _ _)
   | (with_reducible exact impl_FractionText.mono _ _ _)
   | (with_reducible exact impl_digits.mono _ _ _ _)
   | (with_reducible exact LeO.refl _)
   | (with_reducible exact LeO.none _)
   | (with_reducible refine LeO.ite ?_ ?_)
   | (with_reducible refine LeO.bind ?_ (fun _ => ?_))
   | exact ih0 _ _ _ _ _
   | exact ih1 _ _ _ _ _
   | exact impl_DecimalOf.mono _ _
   | exact impl_FractionText.mono _ _ _
   | exact impl_digits.mono _ _ _ _
   | exact LeO.none _
   | refine LeO.ite ?_ ?_
   | refine LeO.bind ?_ (fun _ => ?_)
set_option maxHeartbeats 8000000 in
set_option maxRecDepth 100000 in
theorem impl_ReadFraction.calls (k : Nat) (a0 : ByteArray) (r1 : Int) (r2 : Int) (r3 : Bool) (w : World) (htab : Tab10 w) (h : impl_ReadFraction.f k a0 = some (r1, r2, r3)) :
  Calls Tryz.prog 31 #[.string a0] w fun e w' => e = .returned (.tuple #[.agg #[.int .i64 r1, .int .i64 r2], .bool r3]) ∧ Below w.heap.size w w' := by
 have HTAB := Aside0.mk htab
 clear htab
 have hu49 := Tryz.underlying49
 have HB := Aside0.mk (Below.refl w.heap.size w)
 have H : ((strings_CutPrefix.f a0 (⟨#[45]⟩ : ByteArray)).bind fun bt137 => ((impl_DecimalOf.f k bt137.1).bind fun bt139 => ((strings_Cut.f bt137.1 (⟨#[47]⟩ : ByteArray)).bind fun bt143 => (if bt143.2.2 = true then ((impl_digits.f k bt143.1 1 10).bind fun t146 => (if t146 = true then ((impl_digits.f k bt143.2.1 1 7).bind fun t147 => (impl_ReadFraction.j0 k a0 bt137.2 bt143.1 bt143.2.1 (!t147))) else (impl_ReadFraction.j0 k a0 bt137.2 bt143.1 bt143.2.1 true))) else (impl_ReadFraction.j1 k a0 bt137.2 bt139.2.2 bt139.1 bt139.2.1))))) = some (r1, r2, r3) := h
 clear h
 replace H := Option.bind_eq_some_iff.mp H
 obtain ⟨⟨t137, t138⟩, A20, H⟩ := H
 try dsimp only at H
 have A2 := Aside0.mk A20
 clear A20
 replace H := Option.bind_eq_some_iff.mp H
 obtain ⟨⟨t139, t140, t141⟩, A30, H⟩ := H
 try dsimp only at H
 have A3 := Aside0.mk A30
 clear A30
 replace H := Option.bind_eq_some_iff.mp H
 obtain ⟨⟨t143, t144, t145⟩, A40, H⟩ := H
 try dsimp only at H
 have A4 := Aside0.mk A40
 clear A40
 have HC5 := Aside0.mk H
 clear H
 go_enter Tryz.func31, Tryz.ntmps31
 go_upto_if 27 with (first | ((with_reducible refine gate_dst (N := 2) rfl ?_); refine box_event ?hg (N := 2) ?hd (cs := #[.int .i64 0, .int .i64 0]) (t := 49) ?hr ?_; (case hd => rfl); (case hg => rfl); (case hr => first | (go_simp; done) | (go_simp; rfl)); intro gb136 hg w6 hbox hb; have n0_ := Aside0.mk (below_step (zz4_0_ HB.out) hb); have n1_ := Aside0.mk (hbox); have n2_ := Aside0.mk ((by rw [hg]; exact (below_size (zz4_0_ HB.out)) : w.heap.size ≤ gb136)); have n3_ := Aside0.mk ((by rw [hg]; exact (below_size (zz4_0_ HB.out)) : w.heap.size ≤ gb136)); clear HB; have HB := n0_; have BK136 := n1_; have GW136 := n2_; have GE136 := n3_; clear n0_ n1_ n2_ n3_; clear hb hbox hg) | ((with_reducible refine gate_callee (f := 44) rfl ?_); refine goesL_ (some 13) rfl rfl Tryz.func44 (by kernel_rfl) rfl #[.string a0, .string (⟨#[45]⟩ : ByteArray)] rfl (zz4_1_) ?_; (with_reducible refine (strings_CutPrefix.calls a0 (⟨#[45]⟩ : ByteArray) t137 t138 _ A2.out).mono ?_); rintro e w' ⟨rfl, ⟨nd, rfl⟩⟩; refine ⟨_, rfl, ?_⟩; (try (rw [drewN_self w6]; generalize hq_ : World.drewN w6 _ = w6; have n0_ : Aside0 (w6.heap[gb136]? = some (.cells #[.int .i64 0, .int .i64 0] 49 (0, 0))) := ⟨by rw [← hq_]; exact (zz4_2_ BK136.out)⟩; have n1_ : Aside0 (Below w.heap.size w w6) := ⟨by rw [← hq_]; exact (zz4_3_ HB.out GE136.out)⟩; clear BK136 HB hq_; have BK136 := n0_; have HB := n1_; clear n0_ n1_))) | ((with_reducible refine gate_callee (f := 45) rfl ?_); refine goesL_ (some 18) rfl rfl Tryz.func45 (by kernel_rfl) rfl #[.string t137] rfl (zz4_1_) ?_; (with_reducible refine (impl_DecimalOf.calls k t137 t139 t140 t141 _ A3.out).mono ?_); rintro e w7 ⟨rfl, hb⟩; refine ⟨_, rfl, ?_⟩; have n0_ := Aside0.mk (blk_below (g := gb136) (o := .cells #[.int .i64 0, .int .i64 0] 49 (0, 0)) (zz4_2_ BK136.out) hb); have n1_ := Aside0.mk (below_step (zz4_3_ HB.out GE136.out) hb); clear BK136; clear HB; have BK136 := n0_; have HB := n1_; clear n0_ n1_; (try clear hb); (try clear hb2); (try clear hk); (try clear hi)) | ((with_reducible refine gate_dst (N := 6) rfl ?_); refine box_event ?hg (N := 6) ?hd (cs := #[.int .i64 0, .int .i64 0]) (t := 49) ?hr ?_; (case hd => rfl); (case hg => rfl); (case hr => first | (go_simp; done) | (go_simp; rfl)); intro gb142 hg w8 hbox hb; have n0_ := Aside0.mk (blk_below (g := gb136) (o := .cells #[.int .i64 0, .int .i64 0] 49 (0, 0)) (zz4_2_ BK136.out) hb); have n1_ := Aside0.mk (below_step (zz4_3_ HB.out GE136.out) hb); have n2_ := Aside0.mk (hbox); have n3_ := Aside0.mk ((by rw [hg]; exact (below_size (zz4_3_ HB.out GE136.out)) : w.heap.size ≤ gb142)); have n4_ := Aside0.mk ((by rw [hg]; exact (below_size (zz4_3_ HB.out GE136.out)) : w.heap.size ≤ gb142)); have n5_ := Aside0.mk ((by rw [hg]; exact Nat.ne_of_lt (blk_lt (g := gb136) (o := .cells #[.int .i64 0, .int .i64 0] 49 (0, 0)) (zz4_2_ BK136.out)) : gb136 ≠ gb142)); have n6_ := Aside0.mk ((by rw [hg]; exact Nat.ne_of_gt (blk_lt (g := gb136) (o := .cells #[.int .i64 0, .int .i64 0] 49 (0, 0)) (zz4_2_ BK136.out)) : gb142 ≠ gb136)); clear BK136; clear HB; have BK136 := n0_; have HB := n1_; have BK142 := n2_; have GW142 := n3_; have GE142 := n4_; have NB136_142 := n5_; have NB142_136 := n6_; clear n0_ n1_ n2_ n3_ n4_ n5_ n6_; clear hb hbox hg; have hnb9 := NB142_136.out; have hnc9 := NB136_142.out; have hcz10_0 : w8.cell? ⟨gb142, 0, none⟩ = some (.int .i64 0) := (blk_cell BK142.out 0).trans rfl; have hcz10_1 : w8.cell? ⟨gb142, 1, none⟩ = some (.int .i64 0) := (blk_cell BK142.out 1).trans rfl; have hfz10_0 := blk_frozen BK142.out 0; have hfz10_1 := blk_frozen BK142.out 1) | ((with_reducible refine gate_callee (f := 46) rfl ?_); refine goesL_ (some 23) rfl rfl Tryz.func46 (by kernel_rfl) rfl #[.string t137, .string (⟨#[47]⟩ : ByteArray)] rfl (zz4_1_) ?_; (with_reducible refine (strings_Cut.calls t137 (⟨#[47]⟩ : ByteArray) t143 t144 t145 _ A4.out).mono ?_); rintro e w' ⟨rfl, ⟨nd, rfl⟩⟩; refine ⟨_, rfl, ?_⟩))
 (try simp only [Act.put, List.setIfInBounds_toArray, List.set_cons_zero, List.set_cons_succ])
 go_cut [7] (fun v7 wc => ∃ (kq : Nat) (x7_4 : Bool) (x137000_4 : Int) (x137001_4 : Int) (x143000_4 : Int) (x143001_4 : Int), v7 = .bool x7_4 ∧ Aside0 (impl_ReadFraction.j1 kq a0 t138 x7_4 x143000_4 x143001_4 = some (r1, r2, r3)) ∧ Aside0 (kq ≤ k) ∧ Aside0 (wc.heap[gb136]? = some (.cells #[.int .i64 x137000_4, .int .i64 x137001_4] 49 (0, 0))) ∧ Aside0 (wc.heap[gb142]? = some (.cells #[.int .i64 x143000_4, .int .i64 x143001_4] 49 (0, 0))) ∧ Aside0 (Below w.heap.size w wc))
 case first =>
  have H := HC5.out
  clear HC5
  by_cases c11 : t145 = true
  ·subst c11
   rw [if_pos rfl] at H
   have HC12 := Aside0.mk H
   clear H
   go_upto_region 5 with (fail)
   go_cut [35] (fun v35 wc => ∃ (kq : Nat) (x35_11 : Bool), v35 = .bool x35_11 ∧ Aside0 (impl_ReadFraction.j0 kq a0 t138 t143 t144 x35_11 = some (r1, r2, r3)) ∧ Aside0 (kq ≤ k) ∧ Aside0 (wc.heap[gb136]? = some (.cells #[.int .i64 0, .int .i64 0] 49 (0, 0))) ∧ Aside0 (wc.heap[gb142]? = some (.cells #[.int .i64 t139, .int .i64 t140] 49 (0, 0))) ∧ Aside0 (Below w.heap.size w wc))
   case first =>
    have H := HC12.out
    clear HC12
    replace H := Option.bind_eq_some_iff.mp H
    obtain ⟨t146, A130, H⟩ := H
    try dsimp only at H
    have A13 := Aside0.mk A130
    clear A130
    by_cases c14 : t146 = true
    ·subst c14
     rw [if_pos rfl] at H
     replace H := Option.bind_eq_some_iff.mp H
     obtain ⟨t147, A150, H⟩ := H
     try dsimp only at H
     have A15 := Aside0.mk A150
     clear A150
     have H' := Aside0.mk H
     clear H
     go_wp2_with (first | ((with_reducible refine gate_callee (f := 47) rfl ?_); refine goesL_ (some 29) rfl rfl Tryz.func47 (by kernel_rfl) rfl #[.string t143, .int .i64 1, .int .i64 10] rfl (zz4_1_) ?_; (with_reducible refine (impl_digits.calls k t143 1 10 true _ A13.out).mono ?_); rintro e w' ⟨rfl, ⟨nd, rfl⟩⟩; refine ⟨_, rfl, ?_⟩) | (go_at_call 47; (with_reducible refine (impl_digits.calls k t144 1 7 t147 _ A15.out).mono ?_); rintro e w' ⟨rfl, ⟨nd, rfl⟩⟩))
     go_meet
     case rel => exact ⟨_, (!t147), (by first | rfl | (simp; done) | (simp [*]; done)), H', ⟨by first | omega | exact Nat.le_refl _⟩, ⟨by (with_reducible repeat (first | refine blk_drewN ?_ _ | refine blk_drew ?_ | refine blk_alloc ?_ _)); refine blk_far ?_ NB136_142.out _; (with_reducible repeat (first | refine blk_drewN ?_ _ | refine blk_drew ?_ | refine blk_alloc ?_ _)); refine blk_far ?_ NB136_142.out _; (with_reducible repeat (first | refine blk_drewN ?_ _ | refine blk_drew ?_ | refine blk_alloc ?_ _)); exact BK136.out⟩, ⟨by (with_reducible repeat (first | refine blk_drewN ?_ _ | refine blk_drew ?_ | refine blk_alloc ?_ _)); refine blk_put (cs := #[.int .i64 t139, .int .i64 0]) ?_ 1 _ rfl; (with_reducible repeat (first | refine blk_drewN ?_ _ | refine blk_drew ?_ | refine blk_alloc ?_ _)); refine blk_put (cs := #[.int .i64 0, .int .i64 0]) ?_ 0 _ rfl; (with_reducible repeat (first | refine blk_drewN ?_ _ | refine blk_drew ?_ | refine blk_alloc ?_ _)); exact BK142.out⟩, ⟨zz4_4_ HB.out GE136.out GE142.out⟩⟩
    ·replace c14 := Bool.eq_false_iff.mpr c14
     subst c14
     rw [if_neg (show ¬ (false = true) by decide)] at H
     have H' := Aside0.mk H
     clear H
     go_wp2_with (first | ((with_reducible refine gate_callee (f := 47) rfl ?_); refine goesL_ (some 29) rfl rfl Tryz.func47 (by kernel_rfl) rfl #[.string t143, .int .i64 1, .int .i64 10] rfl (zz4_1_) ?_; (with_reducible refine (impl_digits.calls k t143 1 10 false _ A13.out).mono ?_); rintro e w' ⟨rfl, ⟨nd, rfl⟩⟩; refine ⟨_, rfl, ?_⟩))
     go_meet
     case rel => exact ⟨_, (true), (by first | rfl | (simp; done) | (simp [*]; done)), H', ⟨by first | omega | exact Nat.le_refl _⟩, ⟨by (with_reducible repeat (first | refine blk_drewN ?_ _ | refine blk_drew ?_ | refine blk_alloc ?_ _)); refine blk_far ?_ NB136_142.out _; (with_reducible repeat (first | refine blk_drewN ?_ _ | refine blk_drew ?_ | refine blk_alloc ?_ _)); refine blk_far ?_ NB136_142.out _; (with_reducible repeat (first | refine blk_drewN ?_ _ | refine blk_drew ?_ | refine blk_alloc ?_ _)); exact BK136.out⟩, ⟨by (with_reducible repeat (first | refine blk_drewN ?_ _ | refine blk_drew ?_ | refine blk_alloc ?_ _)); refine blk_put (cs := #[.int .i64 t139, .int .i64 0]) ?_ 1 _ rfl; (with_reducible repeat (first | refine blk_drewN ?_ _ | refine blk_drew ?_ | refine blk_alloc ?_ _)); refine blk_put (cs := #[.int .i64 0, .int .i64 0]) ?_ 0 _ rfl; (with_reducible repeat (first | refine blk_drewN ?_ _ | refine blk_drew ?_ | refine blk_alloc ?_ _)); exact BK142.out⟩, ⟨zz4_4_ HB.out GE136.out GE142.out⟩⟩
   case rest =>
    clear HC12
    try clear c1
    try clear p2
    try clear c3
    try clear c4
    try clear c9
    try clear c11
    try clear c14
    try clear hcz10_0
    try clear hcz10_1
    try clear hfz10_0
    try clear hfz10_1
    obtain ⟨kq, x35_11, rfl, HA, HJ11, BK136, BK142, HB⟩ := hcut
    cases kq with
    | zero => exact absurd HA.out (by simp [impl_ReadFraction.j0])
    | succ kj11 =>
     have H := HA.out
     clear HA
     simp only [impl_ReadFraction.j0] at H
     by_cases c16 : x35_11 = true
     ·subst c16
      rw [if_pos rfl] at H
      simp only [Option.some.injEq, Prod.mk.injEq] at H
      obtain ⟨rfl, rfl, rfl⟩ := H
      have hnb17 := NB136_142.out
      have hnc17 := NB142_136.out
      have hcz18_0 : wc.cell? ⟨gb136, 0, none⟩ = some (.int .i64 0) := (blk_cell BK136.out 0).trans rfl
      have hcz18_1 : wc.cell? ⟨gb136, 1, none⟩ = some (.int .i64 0) := (blk_cell BK136.out 1).trans rfl
      have hfz18_0 := blk_frozen BK136.out 0
      have hfz18_1 := blk_frozen BK136.out 1
      go_wp2
      refine bodyPost_ret (results_ct rfl _ _ gb136 49 #[.int .i64 0, .int .i64 0] (0, 0) _ rfl (by (with_reducible repeat (first | refine blk_drewN ?_ _ | refine blk_drew ?_ | refine blk_alloc ?_ _)); refine blk_put (cs := #[.int .i64 0, .int .i64 0]) ?_ 1 _ rfl; (with_reducible repeat (first | refine blk_drewN ?_ _ | refine blk_drew ?_ | refine blk_alloc ?_ _)); refine blk_put (cs := #[.int .i64 0, .int .i64 0]) ?_ 0 _ rfl; (with_reducible repeat (first | refine blk_drewN ?_ _ | refine blk_drew ?_ | refine blk_alloc ?_ _)); exact BK136.out) Tryz.underlying49 rfl (by kernel_rfl)) rfl ?_
      exact ⟨by first | rfl | (rw [ne_nil_isEmpty]; done) | (simp [ne_nil_isEmpty]; done) | (simp [errW_none, errW_some] <;> rfl) | (simp [*, errW_none, errW_some] <;> rfl), zz4_4_ HB.out GE136.out GE142.out⟩
     ·replace c16 := Bool.eq_false_iff.mpr c16
      subst c16
      rw [if_neg (show ¬ (false = true) by decide)] at H
      replace H := Option.bind_eq_some_iff.mp H
      obtain ⟨⟨t148, t149⟩, A190, H⟩ := H
      try dsimp only at H
      have A19 := Aside0.mk A190
      clear A190
      replace H := Option.bind_eq_some_iff.mp H
      obtain ⟨⟨t150, t151⟩, A200, H⟩ := H
      try dsimp only at H
      have A20 := Aside0.mk A200
      clear A200
      have H' := Aside0.mk H
      clear H
      go_wp2_with (first | ((with_reducible refine gate_callee (f := 48) rfl ?_); refine goesL_ (some 39) rfl rfl Tryz.func48 (by kernel_rfl) rfl #[.string t143] rfl (zz4_1_) ?_; (with_reducible refine (strconv_Atoi.calls t143 t148 t149 _ A19.out).mono ?_); rintro e w21 ⟨rfl, hb⟩; refine ⟨_, rfl, ?_⟩; have n0_ := Aside0.mk (blk_below (g := gb136) (o := .cells #[.int .i64 0, .int .i64 0] 49 (0, 0)) (zz4_2_ BK136.out) hb); have n1_ := Aside0.mk (blk_below (g := gb142) (o := .cells #[.int .i64 t139, .int .i64 t140] 49 (0, 0)) (zz4_2_ BK142.out) hb); have n2_ := Aside0.mk (below_step (zz4_4_ HB.out GE136.out GE142.out) hb); clear BK136; clear BK142; clear HB; have BK136 := n0_; have BK142 := n1_; have HB := n2_; clear n0_ n1_ n2_; (try clear hb); (try clear hb2); (try clear hk); (try clear hi); (try simp only [errW_none, errW_some]); have hnb22 := NB142_136.out; have hnc22 := NB136_142.out; have hcz23_0 : w21.cell? ⟨gb142, 0, none⟩ = some (.int .i64 t139) := (blk_cell BK142.out 0).trans rfl; have hcz23_1 : w21.cell? ⟨gb142, 1, none⟩ = some (.int .i64 t140) := (blk_cell BK142.out 1).trans rfl; have hfz23_0 := blk_frozen BK142.out 0; have hfz23_1 := blk_frozen BK142.out 1) | ((with_reducible refine gate_callee (f := 48) rfl ?_); refine goesL_ (some 45) rfl rfl Tryz.func48 (by kernel_rfl) rfl #[.string t144] rfl (zz4_1_) ?_; (with_reducible refine (strconv_Atoi.calls t144 t150 t151 _ A20.out).mono ?_); rintro e w24 ⟨rfl, hb⟩; refine ⟨_, rfl, ?_⟩; have n0_ := Aside0.mk (blk_below (g := gb136) (o := .cells #[.int .i64 0, .int .i64 0] 49 (0, 0)) (zz4_5_ NB136_142.out BK136.out) hb); have n1_ := Aside0.mk (blk_below (g := gb142) (o := .cells #[.int .i64 t148, .int .i64 t140] 49 (0, 0)) (by (with_reducible repeat (first | refine blk_drewN ?_ _ | refine blk_drew ?_ | refine blk_alloc ?_ _)); refine blk_put (cs := #[.int .i64 t139, .int .i64 t140]) ?_ 0 _ rfl; (with_reducible repeat (first | refine blk_drewN ?_ _ | refine blk_drew ?_ | refine blk_alloc ?_ _)); exact BK142.out) hb); have n2_ := Aside0.mk (below_step (zz4_4_ HB.out GE136.out GE142.out) hb); clear BK136; clear BK142; clear HB; have BK136 := n0_; have BK142 := n1_; have HB := n2_; clear n0_ n1_ n2_; (try clear hb); (try clear hb2); (try clear hk); (try clear hi); (try simp only [errW_none, errW_some]); have hcz25_0 : w24.cell? ⟨gb142, 0, none⟩ = some (.int .i64 t148) := (blk_cell BK142.out 0).trans rfl; have hcz25_1 : w24.cell? ⟨gb142, 1, none⟩ = some (.int .i64 t140) := (blk_cell BK142.out 1).trans rfl; have hfz25_0 := blk_frozen BK142.out 0; have hfz25_1 := blk_frozen BK142.out 1))
      go_meet
      case rel => exact ⟨_, (true), (0), (0), (t148), (t150), (by first | rfl | (simp; done) | (simp [*]; done)), H', ⟨by have := HJ11.out; first | omega | exact Nat.le_refl _⟩, ⟨by (with_reducible repeat (first | refine blk_drewN ?_ _ | refine blk_drew ?_ | refine blk_alloc ?_ _)); refine blk_far ?_ NB136_142.out _; (with_reducible repeat (first | refine blk_drewN ?_ _ | refine blk_drew ?_ | refine blk_alloc ?_ _)); exact BK136.out⟩, ⟨by (with_reducible repeat (first | refine blk_drewN ?_ _ | refine blk_drew ?_ | refine blk_alloc ?_ _)); refine blk_put (cs := #[.int .i64 t148, .int .i64 t140]) ?_ 1 _ rfl; (with_reducible repeat (first | refine blk_drewN ?_ _ | refine blk_drew ?_ | refine blk_alloc ?_ _)); exact BK142.out⟩, ⟨zz4_4_ HB.out GE136.out GE142.out⟩⟩
  ·replace c11 := Bool.eq_false_iff.mpr c11
   subst c11
   rw [if_neg (show ¬ (false = true) by decide)] at H
   have H' := Aside0.mk H
   clear H
   go_wp2
   go_meet
   case rel => exact ⟨_, (t141), (0), (0), (t139), (t140), (by first | rfl | (simp; done) | (simp [*]; done)), H', ⟨by first | omega | exact Nat.le_refl _⟩, ⟨by (with_reducible repeat (first | refine blk_drewN ?_ _ | refine blk_drew ?_ | refine blk_alloc ?_ _)); refine blk_far ?_ NB136_142.out _; (with_reducible repeat (first | refine blk_drewN ?_ _ | refine blk_drew ?_ | refine blk_alloc ?_ _)); refine blk_far ?_ NB136_142.out _; (with_reducible repeat (first | refine blk_drewN ?_ _ | refine blk_drew ?_ | refine blk_alloc ?_ _)); exact BK136.out⟩, ⟨by (with_reducible repeat (first | refine blk_drewN ?_ _ | refine blk_drew ?_ | refine blk_alloc ?_ _)); refine blk_put (cs := #[.int .i64 t139, .int .i64 0]) ?_ 1 _ rfl; (with_reducible repeat (first | refine blk_drewN ?_ _ | refine blk_drew ?_ | refine blk_alloc ?_ _)); refine blk_put (cs := #[.int .i64 0, .int .i64 0]) ?_ 0 _ rfl; (with_reducible repeat (first | refine blk_drewN ?_ _ | refine blk_drew ?_ | refine blk_alloc ?_ _)); exact BK142.out⟩, ⟨zz4_4_ HB.out GE136.out GE142.out⟩⟩
 case rest =>
  clear HC5
  try clear c1
  try clear c2
  try clear p2
  try clear c3
  try clear c4
  try clear c9
  try clear c11
  try clear c14
  try clear c16
  try clear c17
  try clear c22
  try clear hcz10_0
  try clear hcz10_1
  try clear hcz18_0
  try clear hcz18_1
  try clear hcz23_0
  try clear hcz23_1
  try clear hcz25_0
  try clear hcz25_1
  try clear hfz10_0
  try clear hfz10_1
  try clear hfz18_0
  try clear hfz18_1
  try clear hfz23_0
  try clear hfz23_1
  try clear hfz25_0
  try clear hfz25_1
  try clear p2
  obtain ⟨kq, x7_4, x137000_4, x137001_4, x143000_4, x143001_4, rfl, HA, HJ4, BK136, BK142, HB⟩ := hcut
  cases kq with
  | zero => exact absurd HA.out (by simp [impl_ReadFraction.j1])
  | succ kj4 =>
   have H := HA.out
   clear HA
   simp only [impl_ReadFraction.j1] at H
   by_cases c26 : t138 = true
   ·subst c26
    rw [if_pos rfl] at H
    by_cases c27 : x7_4 = true
    ·subst c27
     rw [if_pos rfl] at H
     replace H := Option.bind_eq_some_iff.mp H
     obtain ⟨t152, A280, H⟩ := H
     try dsimp only at H
     have A28 := Aside0.mk A280
     clear A280
     by_cases c29 : t152.toList = a0.toList
     ·rw [if_pos c29] at H
      have c29b0 : (t152.toList == a0.toList) = true := beq_iff_eq.mpr c29
      have c29b1 : (t152.toList != a0.toList) = false := bne_eq_false_iff_eq.mpr c29
      clear c29
      by_cases c30 : a0.toList = ([] : List UInt8)
      ·rw [if_pos c30] at H
       have c30b0 : (a0.toList == ([] : List UInt8)) = true := beq_iff_eq.mpr c30
       have c30b1 : (a0.toList != ([] : List UInt8)) = false := bne_eq_false_iff_eq.mpr c30
       clear c30
       simp only [Option.some.injEq, Prod.mk.injEq] at H
       obtain ⟨rfl, rfl, rfl⟩ := H
       have hnb31 := NB142_136.out
       have hnc31 := NB136_142.out
       have hcz32_0 : wc.cell? ⟨gb142, 0, none⟩ = some (.int .i64 x143000_4) := (blk_cell BK142.out 0).trans rfl
       have hcz32_1 : wc.cell? ⟨gb142, 1, none⟩ = some (.int .i64 x143001_4) := (blk_cell BK142.out 1).trans rfl
       have hfz32_0 := blk_frozen BK142.out 0
       have hfz32_1 := blk_frozen BK142.out 1
       go_wp2_with (first | (go_at_call 49; (with_reducible refine (impl_FractionText.calls kj4 (wrap64 (-x143000_4)) x143001_4 t152 _ (by first | exact HTAB.out | exact tab_at HTAB.out (by repeat (first | (with_reducible first | exact HB.out | apply below_alloc | apply pw_below_drewN | apply below_drew1 | refine below_set ?_ (GE136).out | refine below_set ?_ (GE142).out) | exact HB.out))) A28.out).mono ?_); rintro e w33 ⟨rfl, hb⟩; have n0_ := Aside0.mk (blk_below (g := gb136) (o := .cells #[.int .i64 x137000_4, .int .i64 x137001_4] 49 (0, 0)) (zz4_5_ NB136_142.out BK136.out) hb); have n1_ := Aside0.mk (blk_below (g := gb142) (o := .cells #[.int .i64 (wrap64 (-x143000_4)), .int .i64 x143001_4] 49 (0, 0)) (by (with_reducible repeat (first | refine blk_drewN ?_ _ | refine blk_drew ?_ | refine blk_alloc ?_ _)); refine blk_put (cs := #[.int .i64 x143000_4, .int .i64 x143001_4]) ?_ 0 _ rfl; (with_reducible repeat (first | refine blk_drewN ?_ _ | refine blk_drew ?_ | refine blk_alloc ?_ _)); exact BK142.out) hb); have n2_ := Aside0.mk (below_step (zz4_4_ HB.out GE136.out GE142.out) hb); clear BK136; clear BK142; clear HB; have BK136 := n0_; have BK142 := n1_; have HB := n2_; clear n0_ n1_ n2_; (try clear hb); (try clear hb2); (try clear hk); (try clear hi); have hcz34_0 : w33.cell? ⟨gb136, 0, none⟩ = some (.int .i64 x137000_4) := (blk_cell BK136.out 0).trans rfl; have hcz34_1 : w33.cell? ⟨gb136, 1, none⟩ = some (.int .i64 x137001_4) := (blk_cell BK136.out 1).trans rfl; have hfz34_0 := blk_frozen BK136.out 0; have hfz34_1 := blk_frozen BK136.out 1))
       refine bodyPost_ret (results_ct rfl _ _ gb136 49 #[.int .i64 0, .int .i64 0] (0, 0) _ rfl (by (with_reducible repeat (first | refine blk_drewN ?_ _ | refine blk_drew ?_ | refine blk_alloc ?_ _)); refine blk_put (cs := #[.int .i64 0, .int .i64 x137001_4]) ?_ 1 _ rfl; (with_reducible repeat (first | refine blk_drewN ?_ _ | refine blk_drew ?_ | refine blk_alloc ?_ _)); refine blk_put (cs := #[.int .i64 x137000_4, .int .i64 x137001_4]) ?_ 0 _ rfl; (with_reducible repeat (first | refine blk_drewN ?_ _ | refine blk_drew ?_ | refine blk_alloc ?_ _)); exact BK136.out) Tryz.underlying49 rfl (by kernel_rfl)) rfl ?_
       exact ⟨by first | rfl | (rw [ne_nil_isEmpty]; done) | (simp [ne_nil_isEmpty]; done) | (simp [errW_none, errW_some] <;> rfl) | (simp [*, errW_none, errW_some] <;> rfl), zz4_4_ HB.out GE136.out GE142.out⟩
      ·rw [if_neg c30] at H
       have c30b0 : (a0.toList == ([] : List UInt8)) = false := beq_eq_false_iff_ne.mpr c30
       have c30b1 : (a0.toList != ([] : List UInt8)) = true := bne_iff_ne.mpr c30
       simp only [Option.some.injEq, Prod.mk.injEq] at H
       obtain ⟨rfl, rfl, rfl⟩ := H
       have hnb35 := NB142_136.out
       have hnc35 := NB136_142.out
       have hcz36_0 : wc.cell? ⟨gb142, 0, none⟩ = some (.int .i64 x143000_4) := (blk_cell BK142.out 0).trans rfl
       have hcz36_1 : wc.cell? ⟨gb142, 1, none⟩ = some (.int .i64 x143001_4) := (blk_cell BK142.out 1).trans rfl
       have hfz36_0 := blk_frozen BK142.out 0
       have hfz36_1 := blk_frozen BK142.out 1
       go_wp2_with (first | (go_at_call 49; (with_reducible refine (impl_FractionText.calls kj4 (wrap64 (-x143000_4)) x143001_4 t152 _ (by first | exact HTAB.out | exact tab_at HTAB.out (by repeat (first | (with_reducible first | exact HB.out | apply below_alloc | apply pw_below_drewN | apply below_drew1 | refine below_set ?_ (GE136).out | refine below_set ?_ (GE142).out) | exact HB.out))) A28.out).mono ?_); rintro e w37 ⟨rfl, hb⟩; have n0_ := Aside0.mk (blk_below (g := gb136) (o := .cells #[.int .i64 x137000_4, .int .i64 x137001_4] 49 (0, 0)) (zz4_5_ NB136_142.out BK136.out) hb); have n1_ := Aside0.mk (blk_below (g := gb142) (o := .cells #[.int .i64 (wrap64 (-x143000_4)), .int .i64 x143001_4] 49 (0, 0)) (by (with_reducible repeat (first | refine blk_drewN ?_ _ | refine blk_drew ?_ | refine blk_alloc ?_ _)); refine blk_put (cs := #[.int .i64 x143000_4, .int .i64 x143001_4]) ?_ 0 _ rfl; (with_reducible repeat (first | refine blk_drewN ?_ _ | refine blk_drew ?_ | refine blk_alloc ?_ _)); exact BK142.out) hb); have n2_ := Aside0.mk (below_step (zz4_4_ HB.out GE136.out GE142.out) hb); clear BK136; clear BK142; clear HB; have BK136 := n0_; have BK142 := n1_; have HB := n2_; clear n0_ n1_ n2_; (try clear hb); (try clear hb2); (try clear hk); (try clear hi); have hcz38_0 : w37.cell? ⟨gb142, 0, none⟩ = some (.int .i64 (wrap64 (-x143000_4))) := (blk_cell BK142.out 0).trans rfl; have hcz38_1 : w37.cell? ⟨gb142, 1, none⟩ = some (.int .i64 x143001_4) := (blk_cell BK142.out 1).trans rfl; have hfz38_0 := blk_frozen BK142.out 0; have hfz38_1 := blk_frozen BK142.out 1; have hcz39_0 : w37.cell? ⟨gb136, 0, none⟩ = some (.int .i64 x137000_4) := (blk_cell BK136.out 0).trans rfl; have hcz39_1 : w37.cell? ⟨gb136, 1, none⟩ = some (.int .i64 x137001_4) := (blk_cell BK136.out 1).trans rfl; have hfz39_0 := blk_frozen BK136.out 0; have hfz39_1 := blk_frozen BK136.out 1))
       refine bodyPost_ret (results_ct rfl _ _ gb136 49 #[.int .i64 (wrap64 (-x143000_4)), .int .i64 x143001_4] (0, 0) _ rfl (by (with_reducible repeat (first | refine blk_drewN ?_ _ | refine blk_drew ?_ | refine blk_alloc ?_ _)); refine blk_put (cs := #[.int .i64 (wrap64 (-x143000_4)), .int .i64 x137001_4]) ?_ 1 _ rfl; (with_reducible repeat (first | refine blk_drewN ?_ _ | refine blk_drew ?_ | refine blk_alloc ?_ _)); refine blk_put (cs := #[.int .i64 x137000_4, .int .i64 x137001_4]) ?_ 0 _ rfl; (with_reducible repeat (first | refine blk_drewN ?_ _ | refine blk_drew ?_ | refine blk_alloc ?_ _)); exact BK136.out) Tryz.underlying49 rfl (by kernel_rfl)) rfl ?_
       exact ⟨by first | rfl | (rw [ne_nil_isEmpty]; done) | (simp [ne_nil_isEmpty]; done) | (simp [errW_none, errW_some] <;> rfl) | (simp [*, errW_none, errW_some] <;> rfl), zz4_4_ HB.out GE136.out GE142.out⟩
     ·rw [if_neg c29] at H
      have c29b0 : (t152.toList == a0.toList) = false := beq_eq_false_iff_ne.mpr c29
      have c29b1 : (t152.toList != a0.toList) = true := bne_iff_ne.mpr c29
      simp only [Option.some.injEq, Prod.mk.injEq] at H
      obtain ⟨rfl, rfl, rfl⟩ := H
      have hnb40 := NB142_136.out
      have hnc40 := NB136_142.out
      have hcz41_0 : wc.cell? ⟨gb142, 0, none⟩ = some (.int .i64 x143000_4) := (blk_cell BK142.out 0).trans rfl
      have hcz41_1 : wc.cell? ⟨gb142, 1, none⟩ = some (.int .i64 x143001_4) := (blk_cell BK142.out 1).trans rfl
      have hfz41_0 := blk_frozen BK142.out 0
      have hfz41_1 := blk_frozen BK142.out 1
      go_wp2_with (first | (go_at_call 49; (with_reducible refine (impl_FractionText.calls kj4 (wrap64 (-x143000_4)) x143001_4 t152 _ (by first | exact HTAB.out | exact tab_at HTAB.out (by repeat (first | (with_reducible first | exact HB.out | apply below_alloc | apply pw_below_drewN | apply below_drew1 | refine below_set ?_ (GE136).out | refine below_set ?_ (GE142).out) | exact HB.out))) A28.out).mono ?_); rintro e w42 ⟨rfl, hb⟩; have n0_ := Aside0.mk (blk_below (g := gb136) (o := .cells #[.int .i64 x137000_4, .int .i64 x137001_4] 49 (0, 0)) (zz4_5_ NB136_142.out BK136.out) hb); have n1_ := Aside0.mk (blk_below (g := gb142) (o := .cells #[.int .i64 (wrap64 (-x143000_4)), .int .i64 x143001_4] 49 (0, 0)) (by (with_reducible repeat (first | refine blk_drewN ?_ _ | refine blk_drew ?_ | refine blk_alloc ?_ _)); refine blk_put (cs := #[.int .i64 x143000_4, .int .i64 x143001_4]) ?_ 0 _ rfl; (with_reducible repeat (first | refine blk_drewN ?_ _ | refine blk_drew ?_ | refine blk_alloc ?_ _)); exact BK142.out) hb); have n2_ := Aside0.mk (below_step (zz4_4_ HB.out GE136.out GE142.out) hb); clear BK136; clear BK142; clear HB; have BK136 := n0_; have BK142 := n1_; have HB := n2_; clear n0_ n1_ n2_; (try clear hb); (try clear hb2); (try clear hk); (try clear hi); have hcz43_0 : w42.cell? ⟨gb136, 0, none⟩ = some (.int .i64 x137000_4) := (blk_cell BK136.out 0).trans rfl; have hcz43_1 : w42.cell? ⟨gb136, 1, none⟩ = some (.int .i64 x137001_4) := (blk_cell BK136.out 1).trans rfl; have hfz43_0 := blk_frozen BK136.out 0; have hfz43_1 := blk_frozen BK136.out 1))
      refine bodyPost_ret (results_ct rfl _ _ gb136 49 #[.int .i64 0, .int .i64 0] (0, 0) _ rfl (by (with_reducible repeat (first | refine blk_drewN ?_ _ | refine blk_drew ?_ | refine blk_alloc ?_ _)); refine blk_put (cs := #[.int .i64 0, .int .i64 x137001_4]) ?_ 1 _ rfl; (with_reducible repeat (first | refine blk_drewN ?_ _ | refine blk_drew ?_ | refine blk_alloc ?_ _)); refine blk_put (cs := #[.int .i64 x137000_4, .int .i64 x137001_4]) ?_ 0 _ rfl; (with_reducible repeat (first | refine blk_drewN ?_ _ | refine blk_drew ?_ | refine blk_alloc ?_ _)); exact BK136.out) Tryz.underlying49 rfl (by kernel_rfl)) rfl ?_
      exact ⟨by first | rfl | (rw [ne_nil_isEmpty]; done) | (simp [ne_nil_isEmpty]; done) | (simp [errW_none, errW_some] <;> rfl) | (simp [*, errW_none, errW_some] <;> rfl), zz4_4_ HB.out GE136.out GE142.out⟩
    ·replace c27 := Bool.eq_false_iff.mpr c27
     subst c27
     rw [if_neg (show ¬ (false = true) by decide)] at H
     simp only [Option.some.injEq, Prod.mk.injEq] at H
     obtain ⟨rfl, rfl, rfl⟩ := H
     have hnb44 := NB142_136.out
     have hnc44 := NB136_142.out
     have hcz45_0 : wc.cell? ⟨gb142, 0, none⟩ = some (.int .i64 x143000_4) := (blk_cell BK142.out 0).trans rfl
     have hcz45_1 : wc.cell? ⟨gb142, 1, none⟩ = some (.int .i64 x143001_4) := (blk_cell BK142.out 1).trans rfl
     have hfz45_0 := blk_frozen BK142.out 0
     have hfz45_1 := blk_frozen BK142.out 1
     have hcz46_0 : wc.cell? ⟨gb136, 0, none⟩ = some (.int .i64 x137000_4) := (blk_cell BK136.out 0).trans rfl
     have hcz46_1 : wc.cell? ⟨gb136, 1, none⟩ = some (.int .i64 x137001_4) := (blk_cell BK136.out 1).trans rfl
     have hfz46_0 := blk_frozen BK136.out 0
     have hfz46_1 := blk_frozen BK136.out 1
     go_wp2
     refine bodyPost_ret (results_ct rfl _ _ gb136 49 #[.int .i64 0, .int .i64 0] (0, 0) _ rfl (by (with_reducible repeat (first | refine blk_drewN ?_ _ | refine blk_drew ?_ | refine blk_alloc ?_ _)); refine blk_put (cs := #[.int .i64 0, .int .i64 x137001_4]) ?_ 1 _ rfl; (with_reducible repeat (first | refine blk_drewN ?_ _ | refine blk_drew ?_ | refine blk_alloc ?_ _)); refine blk_put (cs := #[.int .i64 x137000_4, .int .i64 x137001_4]) ?_ 0 _ rfl; (with_reducible repeat (first | refine blk_drewN ?_ _ | refine blk_drew ?_ | refine blk_alloc ?_ _)); refine blk_far ?_ NB136_142.out _; (with_reducible repeat (first | refine blk_drewN ?_ _ | refine blk_drew ?_ | refine blk_alloc ?_ _)); exact BK136.out) Tryz.underlying49 rfl (by kernel_rfl)) rfl ?_
     exact ⟨by first | rfl | (rw [ne_nil_isEmpty]; done) | (simp [ne_nil_isEmpty]; done) | (simp [errW_none, errW_some] <;> rfl) | (simp [*, errW_none, errW_some] <;> rfl), zz4_4_ HB.out GE136.out GE142.out⟩
   ·replace c26 := Bool.eq_false_iff.mpr c26
    subst c26
    rw [if_neg (show ¬ (false = true) by decide)] at H
    by_cases c47 : x7_4 = true
    ·subst c47
     rw [if_pos rfl] at H
     replace H := Option.bind_eq_some_iff.mp H
     obtain ⟨t153, A480, H⟩ := H
     try dsimp only at H
     have A48 := Aside0.mk A480
     clear A480
     by_cases c49 : t153.toList = a0.toList
     ·rw [if_pos c49] at H
      have c49b0 : (t153.toList == a0.toList) = true := beq_iff_eq.mpr c49
      have c49b1 : (t153.toList != a0.toList) = false := bne_eq_false_iff_eq.mpr c49
      clear c49
      by_cases c50 : a0.toList = ([] : List UInt8)
      ·rw [if_pos c50] at H
       have c50b0 : (a0.toList == ([] : List UInt8)) = true := beq_iff_eq.mpr c50
       have c50b1 : (a0.toList != ([] : List UInt8)) = false := bne_eq_false_iff_eq.mpr c50
       clear c50
       simp only [Option.some.injEq, Prod.mk.injEq] at H
       obtain ⟨rfl, rfl, rfl⟩ := H
       have hnb51 := NB142_136.out
       have hnc51 := NB136_142.out
       have hcz52_0 : wc.cell? ⟨gb142, 0, none⟩ = some (.int .i64 x143000_4) := (blk_cell BK142.out 0).trans rfl
       have hcz52_1 : wc.cell? ⟨gb142, 1, none⟩ = some (.int .i64 x143001_4) := (blk_cell BK142.out 1).trans rfl
       have hfz52_0 := blk_frozen BK142.out 0
       have hfz52_1 := blk_frozen BK142.out 1
       go_wp2_with (first | (go_at_call 49; (with_reducible refine (impl_FractionText.calls kj4 x143000_4 x143001_4 t153 _ (by first | exact HTAB.out | exact tab_at HTAB.out (by repeat (first | (with_reducible first | exact HB.out | apply below_alloc | apply pw_below_drewN | apply below_drew1 | refine below_set ?_ (GE136).out | refine below_set ?_ (GE142).out) | exact HB.out))) A48.out).mono ?_); rintro e w53 ⟨rfl, hb⟩; have n0_ := Aside0.mk (blk_below (g := gb136) (o := .cells #[.int .i64 x137000_4, .int .i64 x137001_4] 49 (0, 0)) (zz4_2_ BK136.out) hb); have n1_ := Aside0.mk (blk_below (g := gb142) (o := .cells #[.int .i64 x143000_4, .int .i64 x143001_4] 49 (0, 0)) (zz4_2_ BK142.out) hb); have n2_ := Aside0.mk (below_step (zz4_4_ HB.out GE136.out GE142.out) hb); clear BK136; clear BK142; clear HB; have BK136 := n0_; have BK142 := n1_; have HB := n2_; clear n0_ n1_ n2_; (try clear hb); (try clear hb2); (try clear hk); (try clear hi); have hcz54_0 : w53.cell? ⟨gb136, 0, none⟩ = some (.int .i64 x137000_4) := (blk_cell BK136.out 0).trans rfl; have hcz54_1 : w53.cell? ⟨gb136, 1, none⟩ = some (.int .i64 x137001_4) := (blk_cell BK136.out 1).trans rfl; have hfz54_0 := blk_frozen BK136.out 0; have hfz54_1 := blk_frozen BK136.out 1))
       refine bodyPost_ret (results_ct rfl _ _ gb136 49 #[.int .i64 0, .int .i64 0] (0, 0) _ rfl (by (with_reducible repeat (first | refine blk_drewN ?_ _ | refine blk_drew ?_ | refine blk_alloc ?_ _)); refine blk_put (cs := #[.int .i64 0, .int .i64 x137001_4]) ?_ 1 _ rfl; (with_reducible repeat (first | refine blk_drewN ?_ _ | refine blk_drew ?_ | refine blk_alloc ?_ _)); refine blk_put (cs := #[.int .i64 x137000_4, .int .i64 x137001_4]) ?_ 0 _ rfl; (with_reducible repeat (first | refine blk_drewN ?_ _ | refine blk_drew ?_ | refine blk_alloc ?_ _)); exact BK136.out) Tryz.underlying49 rfl (by kernel_rfl)) rfl ?_
       exact ⟨by first | rfl | (rw [ne_nil_isEmpty]; done) | (simp [ne_nil_isEmpty]; done) | (simp [errW_none, errW_some] <;> rfl) | (simp [*, errW_none, errW_some] <;> rfl), zz4_4_ HB.out GE136.out GE142.out⟩
      ·rw [if_neg c50] at H
       have c50b0 : (a0.toList == ([] : List UInt8)) = false := beq_eq_false_iff_ne.mpr c50
       have c50b1 : (a0.toList != ([] : List UInt8)) = true := bne_iff_ne.mpr c50
       simp only [Option.some.injEq, Prod.mk.injEq] at H
       obtain ⟨rfl, rfl, rfl⟩ := H
       have hnb55 := NB142_136.out
       have hnc55 := NB136_142.out
       have hcz56_0 : wc.cell? ⟨gb142, 0, none⟩ = some (.int .i64 x143000_4) := (blk_cell BK142.out 0).trans rfl
       have hcz56_1 : wc.cell? ⟨gb142, 1, none⟩ = some (.int .i64 x143001_4) := (blk_cell BK142.out 1).trans rfl
       have hfz56_0 := blk_frozen BK142.out 0
       have hfz56_1 := blk_frozen BK142.out 1
       go_wp2_with (first | (go_at_call 49; (with_reducible refine (impl_FractionText.calls kj4 x143000_4 x143001_4 t153 _ (by first | exact HTAB.out | exact tab_at HTAB.out (by repeat (first | (with_reducible first | exact HB.out | apply below_alloc | apply pw_below_drewN | apply below_drew1 | refine below_set ?_ (GE136).out | refine below_set ?_ (GE142).out) | exact HB.out))) A48.out).mono ?_); rintro e w57 ⟨rfl, hb⟩; have n0_ := Aside0.mk (blk_below (g := gb136) (o := .cells #[.int .i64 x137000_4, .int .i64 x137001_4] 49 (0, 0)) (zz4_2_ BK136.out) hb); have n1_ := Aside0.mk (blk_below (g := gb142) (o := .cells #[.int .i64 x143000_4, .int .i64 x143001_4] 49 (0, 0)) (zz4_2_ BK142.out) hb); have n2_ := Aside0.mk (below_step (zz4_4_ HB.out GE136.out GE142.out) hb); clear BK136; clear BK142; clear HB; have BK136 := n0_; have BK142 := n1_; have HB := n2_; clear n0_ n1_ n2_; (try clear hb); (try clear hb2); (try clear hk); (try clear hi); have hcz58_0 : w57.cell? ⟨gb142, 0, none⟩ = some (.int .i64 x143000_4) := (blk_cell BK142.out 0).trans rfl; have hcz58_1 : w57.cell? ⟨gb142, 1, none⟩ = some (.int .i64 x143001_4) := (blk_cell BK142.out 1).trans rfl; have hfz58_0 := blk_frozen BK142.out 0; have hfz58_1 := blk_frozen BK142.out 1; have hcz59_0 : w57.cell? ⟨gb136, 0, none⟩ = some (.int .i64 x137000_4) := (blk_cell BK136.out 0).trans rfl; have hcz59_1 : w57.cell? ⟨gb136, 1, none⟩ = some (.int .i64 x137001_4) := (blk_cell BK136.out 1).trans rfl; have hfz59_0 := blk_frozen BK136.out 0; have hfz59_1 := blk_frozen BK136.out 1))
       refine bodyPost_ret (results_ct rfl _ _ gb136 49 #[.int .i64 x143000_4, .int .i64 x143001_4] (0, 0) _ rfl (by (with_reducible repeat (first | refine blk_drewN ?_ _ | refine blk_drew ?_ | refine blk_alloc ?_ _)); refine blk_put (cs := #[.int .i64 x143000_4, .int .i64 x137001_4]) ?_ 1 _ rfl; (with_reducible repeat (first | refine blk_drewN ?_ _ | refine blk_drew ?_ | refine blk_alloc ?_ _)); refine blk_put (cs := #[.int .i64 x137000_4, .int .i64 x137001_4]) ?_ 0 _ rfl; (with_reducible repeat (first | refine blk_drewN ?_ _ | refine blk_drew ?_ | refine blk_alloc ?_ _)); exact BK136.out) Tryz.underlying49 rfl (by kernel_rfl)) rfl ?_
       exact ⟨by first | rfl | (rw [ne_nil_isEmpty]; done) | (simp [ne_nil_isEmpty]; done) | (simp [errW_none, errW_some] <;> rfl) | (simp [*, errW_none, errW_some] <;> rfl), zz4_4_ HB.out GE136.out GE142.out⟩
     ·rw [if_neg c49] at H
      have c49b0 : (t153.toList == a0.toList) = false := beq_eq_false_iff_ne.mpr c49
      have c49b1 : (t153.toList != a0.toList) = true := bne_iff_ne.mpr c49
      simp only [Option.some.injEq, Prod.mk.injEq] at H
      obtain ⟨rfl, rfl, rfl⟩ := H
      have hnb60 := NB142_136.out
      have hnc60 := NB136_142.out
      have hcz61_0 : wc.cell? ⟨gb142, 0, none⟩ = some (.int .i64 x143000_4) := (blk_cell BK142.out 0).trans rfl
      have hcz61_1 : wc.cell? ⟨gb142, 1, none⟩ = some (.int .i64 x143001_4) := (blk_cell BK142.out 1).trans rfl
      have hfz61_0 := blk_frozen BK142.out 0
      have hfz61_1 := blk_frozen BK142.out 1
      go_wp2_with (first | (go_at_call 49; (with_reducible refine (impl_FractionText.calls kj4 x143000_4 x143001_4 t153 _ (by first | exact HTAB.out | exact tab_at HTAB.out (by repeat (first | (with_reducible first | exact HB.out | apply below_alloc | apply pw_below_drewN | apply below_drew1 | refine below_set ?_ (GE136).out | refine below_set ?_ (GE142).out) | exact HB.out))) A48.out).mono ?_); rintro e w62 ⟨rfl, hb⟩; have n0_ := Aside0.mk (blk_below (g := gb136) (o := .cells #[.int .i64 x137000_4, .int .i64 x137001_4] 49 (0, 0)) (zz4_2_ BK136.out) hb); have n1_ := Aside0.mk (blk_below (g := gb142) (o := .cells #[.int .i64 x143000_4, .int .i64 x143001_4] 49 (0, 0)) (zz4_2_ BK142.out) hb); have n2_ := Aside0.mk (below_step (zz4_4_ HB.out GE136.out GE142.out) hb); clear BK136; clear BK142; clear HB; have BK136 := n0_; have BK142 := n1_; have HB := n2_; clear n0_ n1_ n2_; (try clear hb); (try clear hb2); (try clear hk); (try clear hi); have hcz63_0 : w62.cell? ⟨gb136, 0, none⟩ = some (.int .i64 x137000_4) := (blk_cell BK136.out 0).trans rfl; have hcz63_1 : w62.cell? ⟨gb136, 1, none⟩ = some (.int .i64 x137001_4) := (blk_cell BK136.out 1).trans rfl; have hfz63_0 := blk_frozen BK136.out 0; have hfz63_1 := blk_frozen BK136.out 1))
      refine bodyPost_ret (results_ct rfl _ _ gb136 49 #[.int .i64 0, .int .i64 0] (0, 0) _ rfl (by (with_reducible repeat (first | refine blk_drewN ?_ _ | refine blk_drew ?_ | refine blk_alloc ?_ _)); refine blk_put (cs := #[.int .i64 0, .int .i64 x137001_4]) ?_ 1 _ rfl; (with_reducible repeat (first | refine blk_drewN ?_ _ | refine blk_drew ?_ | refine blk_alloc ?_ _)); refine blk_put (cs := #[.int .i64 x137000_4, .int .i64 x137001_4]) ?_ 0 _ rfl; (with_reducible repeat (first | refine blk_drewN ?_ _ | refine blk_drew ?_ | refine blk_alloc ?_ _)); exact BK136.out) Tryz.underlying49 rfl (by kernel_rfl)) rfl ?_
      exact ⟨by first | rfl | (rw [ne_nil_isEmpty]; done) | (simp [ne_nil_isEmpty]; done) | (simp [errW_none, errW_some] <;> rfl) | (simp [*, errW_none, errW_some] <;> rfl), zz4_4_ HB.out GE136.out GE142.out⟩
    ·replace c47 := Bool.eq_false_iff.mpr c47
     subst c47
     rw [if_neg (show ¬ (false = true) by decide)] at H
     simp only [Option.some.injEq, Prod.mk.injEq] at H
     obtain ⟨rfl, rfl, rfl⟩ := H
     have hnb64 := NB136_142.out
     have hnc64 := NB142_136.out
     have hcz65_0 : wc.cell? ⟨gb136, 0, none⟩ = some (.int .i64 x137000_4) := (blk_cell BK136.out 0).trans rfl
     have hcz65_1 : wc.cell? ⟨gb136, 1, none⟩ = some (.int .i64 x137001_4) := (blk_cell BK136.out 1).trans rfl
     have hfz65_0 := blk_frozen BK136.out 0
     have hfz65_1 := blk_frozen BK136.out 1
     go_wp2
     refine bodyPost_ret (results_ct rfl _ _ gb136 49 #[.int .i64 0, .int .i64 0] (0, 0) _ rfl (by (with_reducible repeat (first | refine blk_drewN ?_ _ | refine blk_drew ?_ | refine blk_alloc ?_ _)); refine blk_put (cs := #[.int .i64 0, .int .i64 x137001_4]) ?_ 1 _ rfl; (with_reducible repeat (first | refine blk_drewN ?_ _ | refine blk_drew ?_ | refine blk_alloc ?_ _)); refine blk_put (cs := #[.int .i64 x137000_4, .int .i64 x137001_4]) ?_ 0 _ rfl; (with_reducible repeat (first | refine blk_drewN ?_ _ | refine blk_drew ?_ | refine blk_alloc ?_ _)); exact BK136.out) Tryz.underlying49 rfl (by kernel_rfl)) rfl ?_
     exact ⟨by first | rfl | (rw [ne_nil_isEmpty]; done) | (simp [ne_nil_isEmpty]; done) | (simp [errW_none, errW_some] <;> rfl) | (simp [*, errW_none, errW_some] <;> rfl), zz4_4_ HB.out GE136.out GE142.out⟩

-- by hand: function 69 (strings_Index): the text Hand

end Go.Proofs.YtifeiepociopoaaGreatDoor.PEd
