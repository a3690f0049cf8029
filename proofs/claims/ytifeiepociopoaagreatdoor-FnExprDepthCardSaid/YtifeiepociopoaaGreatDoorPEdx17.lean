-- Written for this session by its program hprint.py over the kit's print: functions, and contracts that the walk of the Go code proves.
import Derived.Test.YtifeiepociopoaaGreatDoorPEdx0
import Derived.Test.YtifeiepociopoaaGreatDoorPEdx13
import Derived.Test.YtifeiepociopoaaGreatDoorPEdx15
import Derived.Test.YtifeiepociopoaaGreatDoorPEdx16
namespace Go.Proofs.YtifeiepociopoaaGreatDoor.PEd
open Go.RowKit Go.Proofs.YtifeiepociopoaaGreatDoor.Hand Go.Proofs.YtifeiepociopoaaGreatDoorW.PrintWords Go.Proofs.YtifeiepociopoaaGreatDoorW.PrintLast Go.Proofs.YtifeiepociopoaaGreatDoorW.PrintMore
attribute [local go_sem] max2_int min2_int max_two min_two max_three min_three max_four min_four   -- for this text's walks alone
set_option linter.unusedVariables false
set_option linter.unusedSimpArgs false

/-! ### spec_ReadFraction: function 39 -/
theorem zz17_0_ {P1 Q : Prop} (h1 : P1) (f : P1 → Q := by intro zq1_; repeat (first | (with_reducible first | exact zq1_ | apply below_alloc | apply pw_below_drewN | apply below_drew1) | exact zq1_)) : Q := f h1
theorem zz17_2_ {P1 Q : Prop} (h1 : P1) (f : P1 → Q := by intro zq1_; (with_reducible repeat (first | refine blk_drewN ?_ _ | refine blk_drew ?_ | refine blk_alloc ?_ _)); exact zq1_) : Q := f h1
theorem zz17_3_ {P1 P2 Q : Prop} (h1 : P1) (h2 : P2) (f : P1 → P2 → Q := by intro zq1_ zq2_; repeat (first | (with_reducible first | exact zq1_ | apply below_alloc | apply pw_below_drewN | apply below_drew1 | refine below_set ?_ zq2_) | exact zq1_)) : Q := f h1 h2
theorem zz17_1_ {Q : Prop} (f : Q := by (try simp only [List.map_toArray, List.map_cons, List.map_nil]); first | done | rfl | (simp only [List.length_drop, List.length_take]; rfl)) : Q := f
theorem zz17_4_ {P1 P2 P3 Q : Prop} (h1 : P1) (h2 : P2) (h3 : P3) (f : P1 → P2 → P3 → Q := by intro zq1_ zq2_ zq3_; repeat (first | (with_reducible first | exact zq1_ | apply below_alloc | apply pw_below_drewN | apply below_drew1 | refine below_set ?_ zq2_ | refine below_set ?_ zq3_) | exact zq1_)) : Q := f h1 h2 h3
theorem zz17_5_ {P1 P2 Q : Prop} (h1 : P1) (h2 : P2) (f : P1 → P2 → Q := by intro zq1_ zq2_; (with_reducible repeat (first | refine blk_drewN ?_ _ | refine blk_drew ?_ | refine blk_alloc ?_ _)); refine blk_far ?_ zq1_ _; (with_reducible repeat (first | refine blk_drewN ?_ _ | refine blk_drew ?_ | refine blk_alloc ?_ _)); exact zq2_) : Q := f h1 h2
mutual
def spec_ReadFraction.j0 : Nat → ByteArray → ByteArray → Int → Bool → Option (Int × Int × Bool)
 | 0, _, _, _, _ => none
 | k + 1, x0, x4, x5, x19 => if x19 = true then (if 1 ≤ (x0.size : Int) then (spec_ReadFraction.j1 k x0 (x0.extract 1 x0.size) (-1)) else (none)) else (spec_ReadFraction.j1 k x0 x4 x5)
def spec_ReadFraction.j1 : Nat → ByteArray → ByteArray → Int → Option (Int × Int × Bool)
 | 0, _, _, _ => none
 | k + 1, x0, x4, x5 => (spec_DecimalOf.f k x4).bind fun bt415 => (if bt415.2.2 = true then (spec_ReadFraction.j5 k x0 x5 bt415.1 bt415.2.1) else ((spec_l2Digits.f k x4 0 10).bind fun bt419 => (if bt419.2 > 0 then (spec_ReadFraction.j2 k x0 x4 x5 bt419.1 bt419.2 (bt419.2 == (x4.size : Int)) bt415.1 bt415.2.1) else (spec_ReadFraction.j2 k x0 x4 x5 bt419.1 bt419.2 false bt415.1 bt415.2.1))))
def spec_ReadFraction.j5 : Nat → ByteArray → Int → Int → Int → Option (Int × Int × Bool)
 | 0, _, _, _, _ => none
 | k + 1, x0, x5, x419000, x419001 => if x0.toList = ([] : List UInt8) then (some (0, 0, false)) else ((spec_FractionText.f k (wrap64 (x5 * x419000)) x419001).bind fun t423 => (if t423.toList = x0.toList then (some (wrap64 (x5 * x419000), x419001, true)) else (some (0, 0, false))))
def spec_ReadFraction.j2 : Nat → ByteArray → ByteArray → Int → Int → Int → Bool → Int → Int → Option (Int × Int × Bool)
 | 0, _, _, _, _, _, _, _, _ => none
 | k + 1, x0, x4, x5, x8, x9, x41, x419000, x419001 => if x41 = true then (spec_ReadFraction.j3 k x0 x4 x5 x8 x9 x8 1) else (spec_ReadFraction.j3 k x0 x4 x5 x8 x9 x419000 x419001)
def spec_ReadFraction.j3 : Nat → ByteArray → ByteArray → Int → Int → Int → Int → Int → Option (Int × Int × Bool)
 | 0, _, _, _, _, _, _, _ => none
 | k + 1, x0, x4, x5, x8, x9, x419000, x419001 => if x9 > 0 then (if x9 < (x4.size : Int) then (if 0 ≤ x9 then (spec_ReadFraction.j4 k x0 x4 x5 x8 x9 ((bt x4 x9) == 47) x419000 x419001) else (none)) else (spec_ReadFraction.j4 k x0 x4 x5 x8 x9 false x419000 x419001)) else (spec_ReadFraction.j4 k x0 x4 x5 x8 x9 false x419000 x419001)
def spec_ReadFraction.j4 : Nat → ByteArray → ByteArray → Int → Int → Int → Bool → Int → Int → Option (Int × Int × Bool)
 | 0, _, _, _, _, _, _, _, _ => none
 | k + 1, x0, x4, x5, x8, x9, x57, x419000, x419001 => if x57 = true then ((spec_l2Digits.f k x4 (wrap64 (x9 + 1)) 7).bind fun bt421 => (if bt421.2 = (x4.size : Int) then (if bt421.1 > 0 then (spec_ReadFraction.j5 k x0 x5 x8 bt421.1) else (spec_ReadFraction.j5 k x0 x5 x419000 x419001)) else (spec_ReadFraction.j5 k x0 x5 x419000 x419001))) else (spec_ReadFraction.j5 k x0 x5 x419000 x419001)
end
def spec_ReadFraction.f (k : Nat) (a0 : ByteArray) : Option (Int × Int × Bool) := if a0.toList = ([] : List UInt8) then (spec_ReadFraction.j0 k a0 a0 1 false) else (if 0 < (a0.size : Int) then (spec_ReadFraction.j0 k a0 a0 1 ((bt a0 0) == 45)) else (none))
theorem spec_ReadFraction.mono_l : ∀ k, (∀ y0 y1 y2 y3, LeO (spec_ReadFraction.j0 k y0 y1 y2 y3) (spec_ReadFraction.j0 (k + 1) y0 y1 y2 y3)) ∧ (∀ y0 y1 y2, LeO (spec_ReadFraction.j1 k y0 y1 y2) (spec_ReadFraction.j1 (k + 1) y0 y1 y2)) ∧ (∀ y0 y1 y2 y3, LeO (spec_ReadFraction.j5 k y0 y1 y2 y3) (spec_ReadFraction.j5 (k + 1) y0 y1 y2 y3)) ∧ (∀ y0 y1 y2 y3 y4 y5 y6 y7, LeO (spec_ReadFraction.j2 k y0 y1 y2 y3 y4 y5 y6 y7) (spec_ReadFraction.j2 (k + 1) y0 y1 y2 y3 y4 y5 y6 y7)) ∧ (∀ y0 y1 y2 y3 y4 y5 y6, LeO (spec_ReadFraction.j3 k y0 y1 y2 y3 y4 y5 y6) (spec_ReadFraction.j3 (k + 1) y0 y1 y2 y3 y4 y5 y6)) ∧ (∀ y0 y1 y2 y3 y4 y5 y6 y7, LeO (spec_ReadFraction.j4 k y0 y1 y2 y3 y4 y5 y6 y7) (spec_ReadFraction.j4 (k + 1) y0 y1 y2 y3 y4 y5 y6 y7))
 | 0 => ⟨fun _ _ _ _ r h => by simp [spec_ReadFraction.j0] at h, fun _ _ _ r h => by simp [spec_ReadFraction.j1] at h, fun _ _ _ _ r h => by simp [spec_ReadFraction.j5] at h, fun _ _ _ _ _ _ _ _ r h => by simp [spec_ReadFraction.j2] at h, fun _ _ _ _ _ _ _ r h => by simp [spec_ReadFraction.j3] at h, fun _ _ _ _ _ _ _ _ r h => by simp [spec_ReadFraction.j4] at h⟩
 | k + 1 => by
  obtain ⟨ih0, ih1, ih2, ih3, ih4, ih5⟩ := spec_ReadFraction.mono_l k
  refine ⟨?_, ?_, ?_, ?_, ?_, ?_⟩
  ·intro y0 y1 y2 y3
   unfold spec_ReadFraction.j0
   repeat' first
   | (with_reducible exact ih0 _ _ _ _)
   | (with_reducible exact ih1 _ _ _)
   | (with_reducible exact ih2 _ _ _ _)
   | (with_reducible exact ih3 _ _ _ _ _ _ _ _)
   | (with_reducible exact ih4 _ _ _ _ _ _ _)
   | (with_reducible exact ih5 _ _ _ _ _ _ _ _)
   | (with_reducible exact spec_DecimalOf.mono _ _)
   | (with_reducible exact spec_FractionText.mono _ _ _)
   | (with_reducible exact spec_l2Digits.mono _ _ _ _)
   | (with_reducible exact LeO.refl _)
   | (with_reducible exact LeO.none _)
   | (with_reducible refine LeO.ite ?_ ?_)
   | (with_reducible refine LeO.bind ?_ (fun _ => ?_))
   | exact ih0 _ _ _ _
   | exact ih1 _ _ _
   | exact ih2 _ _ _ _
   | exact ih3 _ _ _ _ _ _ _ _
   | exact ih4 _ _ _ _ _ _ _
   | exact ih5 _ _ _ _ _ _ _ _
   | exact spec_DecimalOf.mono _ _
   | exact spec_FractionText.mono _ _ _
   | exact spec_l2Digits.mono _ _ _ _
   | exact LeO.none _
   | refine LeO.ite ?_ ?_
   | refine LeO.bind ?_ (fun _ => ?_)
  ·intro y0 y1 y2
   unfold spec_ReadFraction.j1
   repeat' first
   | (with_reducible exact ih0 _ _ _ _)
   | (with_reducible exact ih1 _ _ _)
   | (with_reducible exact ih2 _ _ _ _)
   | (with_reducible exact ih3 _ _ _ _ _ _ _ _)
   | (with_reducible exact ih4 _ _ _ _ _ _ _)
   | (with_reducible exact ih5 _ _ _ _ _ _ _ _)
   | (with_reducible exact spec_DecimalOf.mono _ _)
   | (with_reducible exact spec_FractionText.mono _ _ _)
   | (with_reducible exact spec_l2Digits.mono _ _ _ _)
   | (with_reducible exact LeO.refl _)
   | (with_reducible exact LeO.none _)
   | (with_reducible refine LeO.ite ?_ ?_)
   | (with_reducible refine LeO.bind ?_ (fun _ => ?_))
   | exact ih0 _ _ _ _
   | exact ih1 _ _ _
   | exact ih2 _ _ _ _
   | exact ih3 _ _ _ _ _ _ _ _
   | exact ih4 _ _ _ _ _ _ _
   | exact ih5 _ _ _ _ _ _ _ _
   | exact spec_DecimalOf.mono _ _
   | exact spec_FractionText.mono _ _ _
   | exact spec_l2Digits.mono _ _ _ _
   | exact LeO.none _
   | refine LeO.ite ?_ ?_
   | refine LeO.bind ?_ (fun _ => ?_)
  ·intro y0 y1 y2 y3
   unfold spec_ReadFraction.j5
   repeat' first
   | (with_reducible exact ih0 _ _ _ _)
   | (with_reducible exact ih1 _ _ _)
   | (with_reducible exact ih2 _ _ _ _)
   | (with_reducible exact ih3 _ _ _ _ _ _ _ _)
   | (with_reducible exact ih4 _ _ _ _ _ _ _)
   | (with_reducible exact ih5 _ _ _ _ _ _ _ _)
   | (with_reducible exact spec_DecimalOf.mono _ _)
   | (with_reducible exact spec_FractionText.mono _ _ _)
   | (with_reducible exact spec_l2Digits.mono _ _ _ _)
   | (with_reducible exact LeO.refl _)
   | (with_reducible exact LeO.none _)
   | (with_reducible refine LeO.ite ?_ ?_)
   | (with_reducible refine LeO.bind ?_ (fun _ => ?_))
   | exact ih0 _ _ _ _
   | exact ih1 _ _ _
   | exact ih2 _ _ _ _
   | exact ih3 _ _ _ _ _ _ _ _
   | exact ih4 _ _ _ _ _ _ _
   | exact ih5 _ _ _ _ _ _ _ _
   | exact spec_DecimalOf.mono _ _
   | exact spec_FractionText.mono _ _ _
   | exact spec_l2Digits.mono _ _ _ _
   | exact LeO.none _
   | refine LeO.ite ?_ ?_
   | refine LeO.bind ?_ (fun _ => ?_)
  ·intro y0 y1 y2 y3 y4 y5 y6 y7
   unfold spec_ReadFraction.j2
   repeat' first
   | (with_reducible exact ih0 _ _ _ _)
   | (with_reducible exact ih1 _ _ _)
   | (with_reducible exact ih2 _ _ _ _)
   | (with_reducible exact ih3 _ _ _ _ _ _ _ _)
   | (with_reducible exact ih4 _ _ _ _ _ _ _)
   | (with_reducible exact ih5 _ _ _ _ _ _ _ _)
   | (with_reducible exact spec_DecimalOf.mono _ _)
   | (with_reducible exact spec_FractionText.mono _ _ _)
   | (with_reducible exact spec_l2Digits.mono _ _ _ _)
   | (with_reducible exact LeO.refl _)
   | (with_reducible exact LeO.none _)
   | (with_reducible refine LeO.ite ?_ ?_)
   | (with_reducible refine LeO.bind ?_ (fun _ => ?_))
   | exact ih0 _ _ _ _
   | exact ih1 _ _ _
   | exact ih2 _ _ _ _
   | exact ih3 _ _ _ _ _ _ _ _
   | exact ih4 _ _ _ _ _ _ _
   | exact ih5 _ _ _ _ _ _ _ _
   | exact spec_DecimalOf.mono _ _
   | exact spec_FractionText.mono _ _ _
   | exact spec_l2Digits.mono _ _ _ _
   | exact LeO.none _
   | refine LeO.ite ?_ ?_
   | refine LeO.bind ?_ (fun _ => ?_)
  ·intro y0 y1 y2 y3 y4 y5 y6
   unfold spec_ReadFraction.j3
   repeat' first
   | (with_reducible exact ih0 _ _ _ _)
   | (with_reducible exact ih1 _ _ _)
   | (with_reducible exact ih2 _ _ _ _)
   | (with_reducible exact ih3 _ _ _ _ _ _ _ _)
   | (with_reducible exact ih4 _ _ _ _ _ _ _)
   | (with_reducible exact ih5 _ _ _ _ _ _ _ _)
   | (with_reducible exact spec_DecimalOf.mono _ _)
   | (with_reducible exact spec_FractionText.mono _ _ _)
   | (with_reducible exact spec_l2Digits.mono _ _ _ _)
   | (with_reducible exact LeO.refl _)
   | (with_reducible exact LeO.none _)
   | (with_reducible refine LeO.ite ?_ ?_)
   | (with_reducible refine LeO.bind ?_ (fun _ => ?_))
   | exact ih0 _ _ _ _
   | exact ih1 _ _ _
   | exact ih2 _ _ _ _
   | exact ih3 _ _ _ _ _ _ _ _
   | exact ih4 _ _ _ _ _ _ _
   | exact ih5 _ _ _ _ _ _ _ _
   | exact spec_DecimalOf.mono _ _
   | exact spec_FractionText.mono _ _ _
   | exact spec_l2Digits.mono _ _ _ _
   | exact LeO.none _
   | refine LeO.ite ?_ ?_
   | refine LeO.bind ?_ (fun _ => ?_)
  ·intro y0 y1 y2 y3 y4 y5 y6 y7
   unfold spec_ReadFraction.j4
   repeat' first
   | (with_reducible exact ih0 _ _ _ _)
   | (with_reducible exact ih1 _ _ _)
   | (with_reducible exact ih2 _ _ _ _)
   | (with_reducible exact ih3 _ _ _ _ _ _ _ _)
   | (with_reducible exact ih4 _ _ _ _ _ _ _)
   | (with_reducible exact ih5 _ _ _ _ _ _ _ _)
   | (with_reducible exact spec_DecimalOf.mono _ _)
   | (with_reducible exact spec_FractionText.mono _ _ _)
   | (with_reducible exact spec_l2Digits.mono _ _ _ _)
   | (with_reducible exact LeO.refl _)
   | (with_reducible exact LeO.none _)
   | (with_reducible refine LeO.ite ?_ ?_)
   | (with_reducible refine LeO.bind ?_ (fun _ => ?_))
   | exact ih0 _ _ _ _
   | exact ih1 _ _ _
   | exact ih2 _ _ _ _
   | exact ih3 _ _ _ _ _ _ _ _
   | exact ih4 _ _ _ _ _ _ _
   | exact ih5 _ _ _ _ _ _ _ _
   | exact spec_DecimalOf.mono _ _
   | exact spec_FractionText.mono _ _ _
   | exact spec_l2Digits.mono _ _ _ _
   | exact LeO.none _
   | refine LeO.ite ?_ ?_
   | refine LeO.bind ?_ (fun _ => ?_)
theorem spec_ReadFraction.mono : ∀ a0 k, LeO (spec_ReadFraction.f k a0) (spec_ReadFraction.f (k + 1) a0) := by
 intro a0 k
 obtain ⟨ih0, ih1, ih2, ih3, ih4, ih5⟩ := spec_ReadFraction.mono_l k
 unfold spec_ReadFraction.f
 repeat' first
   | (with_reducible exact ih0 _ _ _ _)
   | (with_reducible exact ih1 _ _ _)
   | (with_reducible exact ih2 _ _ _ _)
   | (with_reducible exact ih3 _ _ _ _ _ _ _ _)
   | (with_reducible exact ih4 _ _ _ _ _ _ _)
   | (with_reducible exact ih5 _ _ _ _ _ _ _ _)
   | (with_reducible exact spec_DecimalOf.mono _ _)
   | (with_reducible exact spec_FractionText.mono _ _ _)
   | (with_reducible exact spec_l2Digits.mono _ _ _ _)
   | (with_reducible exact LeO.refl _)
   | (with_reducible exact LeO.none _)
   | (with_reducible refine LeO.ite ?_ ?_)
   | (with_reducible refine LeO.bind ?_ (fun _ => ?_))
   | exact ih0 _ _ _ _
   | exact ih1 _ _ _
   | exact ih2 _ _ _ _
   | exact ih3 _ _ _ _ _ _ _ _
   | exact ih4 _ _ _ _ _ _ _
   | exact ih5 _ _ _ _ _ _ _ _
   | exact spec_DecimalOf.mono _ _
   | exact spec_FractionText.mono _ _ _
   | exact spec_l2Digits.mono _ _ _ _
   | exact LeO.none _
   | refine LeO.ite ?_ ?_
   | refine LeO.bind ?_ (fun _ => ?_)
set_option maxHeartbeats 8000000 in
set_option maxRecDepth 100000 in
theorem spec_ReadFraction.calls (k : Nat) (a0 : ByteArray) (r1 : Int) (r2 : Int) (r3 : Bool) (w : World) (h : spec_ReadFraction.f k a0 = some (r1, r2, r3)) :
  Calls Tryz.prog 39 #[.string a0] w fun e w' => e = .returned (.tuple #[.agg #[.int .i64 r1, .int .i64 r2], .bool r3]) ∧ Below w.heap.size w w' := by
 have hu49 := Tryz.underlying49
 have HB := Aside0.mk (Below.refl w.heap.size w)
 have H : (if a0.toList = ([] : List UInt8) then (spec_ReadFraction.j0 k a0 a0 1 false) else (if 0 < (a0.size : Int) then (spec_ReadFraction.j0 k a0 a0 1 ((bt a0 0) == 45)) else (none))) = some (r1, r2, r3) := h
 clear h
 have HC2 := Aside0.mk H
 clear H
 go_enter Tryz.func39, Tryz.ntmps39
 go_upto_region 3 with (first | ((with_reducible refine gate_dst (N := 2) rfl ?_); (try (refine gate_guard (by rfl) ?_; dsimp only)); refine box_event ?hg (N := 2) ?hd (cs := #[.int .i64 0, .int .i64 0]) (t := 49) ?hr ?_; (case hd => rfl); (case hg => rfl); (case hr => first | (go_simp; done) | (go_simp; rfl)); intro gb414 hg w3 hbox hb; have n0_ := Aside0.mk (below_step (zz17_0_ HB.out) hb); have n1_ := Aside0.mk (hbox); have n2_ := Aside0.mk ((by rw [hg]; exact (below_size (zz17_0_ HB.out)) : w.heap.size ≤ gb414)); have n3_ := Aside0.mk ((by rw [hg]; exact (below_size (zz17_0_ HB.out)) : w.heap.size ≤ gb414)); clear HB; have HB := n0_; have BK414 := n1_; have GW414 := n2_; have GE414 := n3_; clear n0_ n1_ n2_ n3_; clear hb hbox hg))
 (try simp only [Act.put, List.setIfInBounds_toArray, List.set_cons_zero, List.set_cons_succ])
 go_cut [19] (fun v19 wc => ∃ (kq : Nat) (x19_1 : Bool), v19 = .bool x19_1 ∧ Aside0 (spec_ReadFraction.j0 kq a0 a0 1 x19_1 = some (r1, r2, r3)) ∧ Aside0 (kq ≤ k) ∧ Aside0 (wc.heap[gb414]? = some (.cells #[.int .i64 0, .int .i64 0] 49 (0, 0))) ∧ Aside0 (Below w.heap.size w wc))
 case first =>
  have H := HC2.out
  clear HC2
  by_cases c4 : a0.toList = ([] : List UInt8)
  ·rw [if_pos c4] at H
   have c4b0 : (a0.toList == ([] : List UInt8)) = true := beq_iff_eq.mpr c4
   have c4b1 : (a0.toList != ([] : List UInt8)) = false := bne_eq_false_iff_eq.mpr c4
   clear c4
   (first | rw [c4b0] | (simp only [i64_w, i32_w]; rw [c4b0]) | skip)
   have H' := Aside0.mk H
   clear H
   go_wp2
   go_meet
   case rel => exact ⟨_, (false), (by first | rfl | (simp; done) | (simp [*]; done)), H', ⟨by first | omega | exact Nat.le_refl _⟩, ⟨zz17_2_ BK414.out⟩, ⟨zz17_3_ HB.out GE414.out⟩⟩
  ·rw [if_neg c4] at H
   have c4b0 : (a0.toList == ([] : List UInt8)) = false := beq_eq_false_iff_ne.mpr c4
   have c4b1 : (a0.toList != ([] : List UInt8)) = true := bne_iff_ne.mpr c4
   (first | rw [c4b0] | (simp only [i64_w, i32_w]; rw [c4b0]) | skip)
   by_cases c5 : 0 < (a0.size : Int)
   ·rw [if_pos c5] at H
    have c5b0 : decide (0 < (a0.size : Int)) = true := decide_eq_true c5
    have c5b1 : decide (0 < a0.size) = true := decide_eq_true (by omega)
    clear c5
    have H' := Aside0.mk H
    clear H
    have p6 : 0 ≤ (0 : Int) := (by omega)
    have q6 : 0 < a0.size := (by have : (0 : Int) < (a0.size : Int) := of_decide_eq_true (by first | (with_reducible assumption) | assumption); omega)
    have hx6 : ∀ h : 0 < a0.size, ((a0[0]'h).toNat : Int) = bt a0 0 := bt_at a0 0
    clear p6
    have qi6 : (0 < (a0.size : Int)) = True := eq_true (of_decide_eq_true (by first | (with_reducible assumption) | assumption))
    replace q6 := eq_true q6
    go_wp2
    go_meet
    case rel => exact ⟨_, (((bt a0 0) == 45)), (by first | rfl | (simp; done) | (simp [*]; done)), H', ⟨by first | omega | exact Nat.le_refl _⟩, ⟨zz17_2_ BK414.out⟩, ⟨zz17_3_ HB.out GE414.out⟩⟩
   ·rw [if_neg c5] at H
    exact absurd H (by simp)
 case rest =>
  clear HC2
  try clear p2
  try clear c3
  try clear c4
  try clear c4b0
  try clear c4b1
  try clear c5
  try clear c5b0
  try clear c5b1
  try clear p6
  try clear q6
  try clear hx6
  try clear qi6
  try clear p6
  try clear q6
  obtain ⟨kq, x19_1, rfl, HA, HJ1, BK414, HB⟩ := hcut
  cases kq with
  | zero => exact absurd HA.out (by simp [spec_ReadFraction.j0])
  | succ kj1 =>
   have H := HA.out
   clear HA
   simp only [spec_ReadFraction.j0] at H
   have HC7 := Aside0.mk H
   clear H
   go_upto_if 19 with (fail)
   go_cut [4, 5] (fun v4 v5 wc => ∃ (kq : Nat) (x4_6 : ByteArray) (x5_6 : Int), v4 = .string x4_6 ∧ v5 = .int .i64 x5_6 ∧ Aside0 (spec_ReadFraction.j1 kq a0 x4_6 x5_6 = some (r1, r2, r3)) ∧ Aside0 (kq ≤ kj1) ∧ Aside0 (wc.heap[gb414]? = some (.cells #[.int .i64 0, .int .i64 0] 49 (0, 0))) ∧ Aside0 (Below w.heap.size w wc))
   case first =>
    have H := HC7.out
    clear HC7
    by_cases c8 : x19_1 = true
    ·subst c8
     rw [if_pos rfl] at H
     by_cases c9 : 1 ≤ (a0.size : Int)
     ·rw [if_pos c9] at H
      have c9b0 := eq_true c9
      have c9b1 : decide (1 ≤ (a0.size : Int)) = true := decide_eq_true c9
      clear c9
      have H' := Aside0.mk H
      clear H
      go_wp2
      go_meet
      case rel => exact ⟨_, (a0.extract 1 a0.size), ((-1)), (by first | rfl | (simp; done) | (simp [*]; done)), (by first | rfl | (simp; done) | (simp [*]; done)), H', ⟨by have := HJ1.out; first | omega | exact Nat.le_refl _⟩, ⟨zz17_2_ BK414.out⟩, ⟨zz17_3_ HB.out GE414.out⟩⟩
     ·rw [if_neg c9] at H
      exact absurd H (by simp)
    ·replace c8 := Bool.eq_false_iff.mpr c8
     subst c8
     rw [if_neg (show ¬ (false = true) by decide)] at H
     have H' := Aside0.mk H
     clear H
     go_wp2
     go_meet
     case rel => exact ⟨_, (a0), (1), (by first | rfl | (simp; done) | (simp [*]; done)), (by first | rfl | (simp; done) | (simp [*]; done)), H', ⟨by have := HJ1.out; first | omega | exact Nat.le_refl _⟩, ⟨zz17_2_ BK414.out⟩, ⟨zz17_3_ HB.out GE414.out⟩⟩
   case rest =>
    clear HC7
    try clear p2
    try clear c3
    try clear c4
    try clear c4b0
    try clear c4b1
    try clear c5
    try clear c5b0
    try clear c5b1
    try clear p6
    try clear q6
    try clear hx6
    try clear qi6
    try clear c8
    try clear c9
    try clear c9b0
    try clear c9b1
    try clear p2
    try clear p6
    try clear q6
    obtain ⟨kq, x4_6, x5_6, rfl, rfl, HA, HJ6, BK414, HB⟩ := hcut
    cases kq with
    | zero => exact absurd HA.out (by simp [spec_ReadFraction.j1])
    | succ kj6 =>
     have H := HA.out
     clear HA
     simp only [spec_ReadFraction.j1] at H
     replace H := Option.bind_eq_some_iff.mp H
     obtain ⟨⟨t415, t416, t417⟩, A100, H⟩ := H
     try dsimp only at H
     have A10 := Aside0.mk A100
     clear A100
     have HC11 := Aside0.mk H
     clear H
     go_upto_if 28 with (first | ((with_reducible refine gate_callee (f := 54) rfl ?_); refine goesL_ (some 24) rfl rfl Tryz.func54 (by kernel_rfl) rfl #[.string x4_6] rfl (zz17_1_) ?_; (with_reducible refine (spec_DecimalOf.calls kj6 x4_6 t415 t416 t417 _ A10.out).mono ?_); rintro e w12 ⟨rfl, hb⟩; refine ⟨_, rfl, ?_⟩; have n0_ := Aside0.mk (blk_below (g := gb414) (o := .cells #[.int .i64 0, .int .i64 0] 49 (0, 0)) (zz17_2_ BK414.out) hb); have n1_ := Aside0.mk (below_step (zz17_3_ HB.out GE414.out) hb); clear BK414; clear HB; have BK414 := n0_; have HB := n1_; clear n0_ n1_; (try clear hb); (try clear hb2); (try clear hk); (try clear hi)) | ((with_reducible refine gate_dst (N := 6) rfl ?_); (try (refine gate_guard (by rfl) ?_; dsimp only)); refine box_event ?hg (N := 6) ?hd (cs := #[.int .i64 0, .int .i64 0]) (t := 49) ?hr ?_; (case hd => rfl); (case hg => rfl); (case hr => first | (go_simp; done) | (go_simp; rfl)); intro gb418 hg w13 hbox hb; have n0_ := Aside0.mk (blk_below (g := gb414) (o := .cells #[.int .i64 0, .int .i64 0] 49 (0, 0)) (zz17_2_ BK414.out) hb); have n1_ := Aside0.mk (below_step (zz17_3_ HB.out GE414.out) hb); have n2_ := Aside0.mk (hbox); have n3_ := Aside0.mk ((by rw [hg]; exact (below_size (zz17_3_ HB.out GE414.out)) : w.heap.size ≤ gb418)); have n4_ := Aside0.mk ((by rw [hg]; exact (below_size (zz17_3_ HB.out GE414.out)) : w.heap.size ≤ gb418)); have n5_ := Aside0.mk ((by rw [hg]; exact Nat.ne_of_lt (blk_lt (g := gb414) (o := .cells #[.int .i64 0, .int .i64 0] 49 (0, 0)) (zz17_2_ BK414.out)) : gb414 ≠ gb418)); have n6_ := Aside0.mk ((by rw [hg]; exact Nat.ne_of_gt (blk_lt (g := gb414) (o := .cells #[.int .i64 0, .int .i64 0] 49 (0, 0)) (zz17_2_ BK414.out)) : gb418 ≠ gb414)); clear BK414; clear HB; have BK414 := n0_; have HB := n1_; have BK418 := n2_; have GW418 := n3_; have GE418 := n4_; have NB414_418 := n5_; have NB418_414 := n6_; clear n0_ n1_ n2_ n3_ n4_ n5_ n6_; clear hb hbox hg; have hnb14 := NB418_414.out; have hnc14 := NB414_418.out; have hcz15_0 : w13.cell? ⟨gb418, 0, none⟩ = some (.int .i64 0) := (blk_cell BK418.out 0).trans rfl; have hcz15_1 : w13.cell? ⟨gb418, 1, none⟩ = some (.int .i64 0) := (blk_cell BK418.out 1).trans rfl; have hfz15_0 := blk_frozen BK418.out 0; have hfz15_1 := blk_frozen BK418.out 1))
     (try simp only [Act.put, List.setIfInBounds_toArray, List.set_cons_zero, List.set_cons_succ])
     go_cut [] (fun wc => ∃ (kq : Nat) (x419000_10 : Int) (x419001_10 : Int), Aside0 (spec_ReadFraction.j5 kq a0 x5_6 x419000_10 x419001_10 = some (r1, r2, r3)) ∧ Aside0 (kq ≤ kj6) ∧ Aside0 (wc.heap[gb414]? = some (.cells #[.int .i64 0, .int .i64 0] 49 (0, 0))) ∧ Aside0 (wc.heap[gb418]? = some (.cells #[.int .i64 x419000_10, .int .i64 x419001_10] 49 (0, 0))) ∧ Aside0 (Below w.heap.size w wc))
     case first =>
      have H := HC11.out
      clear HC11
      by_cases c16 : t417 = true
      ·subst c16
       rw [if_pos rfl] at H
       have H' := Aside0.mk H
       clear H
       go_wp2
       go_meet
       case rel => exact ⟨_, (t415), (t416), H', ⟨by have := HJ1.out; have := HJ6.out; first | omega | exact Nat.le_refl _⟩, ⟨by (with_reducible repeat (first | refine blk_drewN ?_ _ | refine blk_drew ?_ | refine blk_alloc ?_ _)); refine blk_far ?_ NB414_418.out _; (with_reducible repeat (first | refine blk_drewN ?_ _ | refine blk_drew ?_ | refine blk_alloc ?_ _)); refine blk_far ?_ NB414_418.out _; (with_reducible repeat (first | refine blk_drewN ?_ _ | refine blk_drew ?_ | refine blk_alloc ?_ _)); exact BK414.out⟩, ⟨by (with_reducible repeat (first | refine blk_drewN ?_ _ | refine blk_drew ?_ | refine blk_alloc ?_ _)); refine blk_put (cs := #[.int .i64 t415, .int .i64 0]) ?_ 1 _ rfl; (with_reducible repeat (first | refine blk_drewN ?_ _ | refine blk_drew ?_ | refine blk_alloc ?_ _)); refine blk_put (cs := #[.int .i64 0, .int .i64 0]) ?_ 0 _ rfl; (with_reducible repeat (first | refine blk_drewN ?_ _ | refine blk_drew ?_ | refine blk_alloc ?_ _)); exact BK418.out⟩, ⟨zz17_4_ HB.out GE414.out GE418.out⟩⟩
      ·replace c16 := Bool.eq_false_iff.mpr c16
       subst c16
       rw [if_neg (show ¬ (false = true) by decide)] at H
       replace H := Option.bind_eq_some_iff.mp H
       obtain ⟨⟨t419, t420⟩, A170, H⟩ := H
       try dsimp only at H
       have A17 := Aside0.mk A170
       clear A170
       have HC18 := Aside0.mk H
       clear H
       go_upto_region 9 with (first | ((with_reducible refine gate_callee (f := 55) rfl ?_); refine goesL_ (some 31) rfl rfl Tryz.func55 (by kernel_rfl) rfl #[.string x4_6, .int .i64 0, .int .i64 10] rfl (zz17_1_) ?_; (with_reducible refine (spec_l2Digits.calls kj6 x4_6 0 10 t419 t420 _ A17.out).mono ?_); rintro e w' ⟨rfl, ⟨nd, rfl⟩⟩; refine ⟨_, rfl, ?_⟩))
       (try simp only [Act.put, List.setIfInBounds_toArray, List.set_cons_zero, List.set_cons_succ])
       go_cut [41] (fun v41 wc => ∃ (kq : Nat) (x41_17 : Bool), v41 = .bool x41_17 ∧ Aside0 (spec_ReadFraction.j2 kq a0 x4_6 x5_6 t419 t420 x41_17 t415 t416 = some (r1, r2, r3)) ∧ Aside0 (kq ≤ kj6) ∧ Aside0 (wc.heap[gb414]? = some (.cells #[.int .i64 0, .int .i64 0] 49 (0, 0))) ∧ Aside0 (wc.heap[gb418]? = some (.cells #[.int .i64 t415, .int .i64 t416] 49 (0, 0))) ∧ Aside0 (Below w.heap.size w wc))
       case first =>
        have H := HC18.out
        clear HC18
        by_cases c19 : t420 > 0
        ·rw [if_pos c19] at H
         have c19b0 : decide (0 < t420) = true := decide_eq_true c19
         clear c19
         (first | rw [c19b0] | (simp only [i64_w, i32_w]; rw [c19b0]) | skip)
         have H' := Aside0.mk H
         clear H
         go_wp2
         go_meet
         case rel => exact ⟨_, ((t420 == (x4_6.size : Int))), (by first | rfl | (simp; done) | (simp [*]; done)), H', ⟨by have := HJ1.out; have := HJ6.out; first | omega | exact Nat.le_refl _⟩, ⟨by (with_reducible repeat (first | refine blk_drewN ?_ _ | refine blk_drew ?_ | refine blk_alloc ?_ _)); refine blk_far ?_ NB414_418.out _; (with_reducible repeat (first | refine blk_drewN ?_ _ | refine blk_drew ?_ | refine blk_alloc ?_ _)); refine blk_far ?_ NB414_418.out _; (with_reducible repeat (first | refine blk_drewN ?_ _ | refine blk_drew ?_ | refine blk_alloc ?_ _)); exact BK414.out⟩, ⟨by (with_reducible repeat (first | refine blk_drewN ?_ _ | refine blk_drew ?_ | refine blk_alloc ?_ _)); refine blk_put (cs := #[.int .i64 t415, .int .i64 0]) ?_ 1 _ rfl; (with_reducible repeat (first | refine blk_drewN ?_ _ | refine blk_drew ?_ | refine blk_alloc ?_ _)); refine blk_put (cs := #[.int .i64 0, .int .i64 0]) ?_ 0 _ rfl; (with_reducible repeat (first | refine blk_drewN ?_ _ | refine blk_drew ?_ | refine blk_alloc ?_ _)); exact BK418.out⟩, ⟨zz17_4_ HB.out GE414.out GE418.out⟩⟩
        ·rw [if_neg c19] at H
         have c19b0 : decide (0 < t420) = false := decide_eq_false c19
         clear c19
         (first | rw [c19b0] | (simp only [i64_w, i32_w]; rw [c19b0]) | skip)
         have H' := Aside0.mk H
         clear H
         go_wp2
         go_meet
         case rel => exact ⟨_, (false), (by first | rfl | (simp; done) | (simp [*]; done)), H', ⟨by have := HJ1.out; have := HJ6.out; first | omega | exact Nat.le_refl _⟩, ⟨by (with_reducible repeat (first | refine blk_drewN ?_ _ | refine blk_drew ?_ | refine blk_alloc ?_ _)); refine blk_far ?_ NB414_418.out _; (with_reducible repeat (first | refine blk_drewN ?_ _ | refine blk_drew ?_ | refine blk_alloc ?_ _)); refine blk_far ?_ NB414_418.out _; (with_reducible repeat (first | refine blk_drewN ?_ _ | refine blk_drew ?_ | refine blk_alloc ?_ _)); exact BK414.out⟩, ⟨by (with_reducible repeat (first | refine blk_drewN ?_ _ | refine blk_drew ?_ | refine blk_alloc ?_ _)); refine blk_put (cs := #[.int .i64 t415, .int .i64 0]) ?_ 1 _ rfl; (with_reducible repeat (first | refine blk_drewN ?_ _ | refine blk_drew ?_ | refine blk_alloc ?_ _)); refine blk_put (cs := #[.int .i64 0, .int .i64 0]) ?_ 0 _ rfl; (with_reducible repeat (first | refine blk_drewN ?_ _ | refine blk_drew ?_ | refine blk_alloc ?_ _)); exact BK418.out⟩, ⟨zz17_4_ HB.out GE414.out GE418.out⟩⟩
       case rest =>
        clear HC18
        try clear c1
        try clear p2
        try clear c3
        try clear c4
        try clear c4b0
        try clear c4b1
        try clear c5
        try clear c5b0
        try clear c5b1
        try clear p6
        try clear q6
        try clear hx6
        try clear qi6
        try clear c8
        try clear c9
        try clear c9b0
        try clear c9b1
        try clear c14
        try clear c16
        try clear c19
        try clear c19b0
        try clear hcz15_0
        try clear hcz15_1
        try clear hfz15_0
        try clear hfz15_1
        try clear p2
        try clear p6
        try clear q6
        obtain ⟨kq, x41_17, rfl, HA, HJ17, BK414, BK418, HB⟩ := hcut
        cases kq with
        | zero => exact absurd HA.out (by simp [spec_ReadFraction.j2])
        | succ kj17 =>
         have H := HA.out
         clear HA
         simp only [spec_ReadFraction.j2] at H
         have HC20 := Aside0.mk H
         clear H
         go_upto_if 41 with (fail)
         go_cut [] (fun wc => ∃ (kq : Nat) (x419000_19 : Int) (x419001_19 : Int), Aside0 (spec_ReadFraction.j3 kq a0 x4_6 x5_6 t419 t420 x419000_19 x419001_19 = some (r1, r2, r3)) ∧ Aside0 (kq ≤ kj17) ∧ Aside0 (wc.heap[gb414]? = some (.cells #[.int .i64 0, .int .i64 0] 49 (0, 0))) ∧ Aside0 (wc.heap[gb418]? = some (.cells #[.int .i64 x419000_19, .int .i64 x419001_19] 49 (0, 0))) ∧ Aside0 (Below w.heap.size w wc))
         case first =>
          have H := HC20.out
          clear HC20
          by_cases c21 : x41_17 = true
          ·subst c21
           rw [if_pos rfl] at H
           have H' := Aside0.mk H
           clear H
           have hnb22 := NB418_414.out
           have hnc22 := NB414_418.out
           have hcz23_0 : wc.cell? ⟨gb418, 0, none⟩ = some (.int .i64 t415) := (blk_cell BK418.out 0).trans rfl
           have hcz23_1 : wc.cell? ⟨gb418, 1, none⟩ = some (.int .i64 t416) := (blk_cell BK418.out 1).trans rfl
           have hfz23_0 := blk_frozen BK418.out 0
           have hfz23_1 := blk_frozen BK418.out 1
           go_wp2
           go_meet
           case rel => exact ⟨_, (t419), (1), H', ⟨by have := HJ1.out; have := HJ6.out; have := HJ17.out; first | omega | exact Nat.le_refl _⟩, ⟨by (with_reducible repeat (first | refine blk_drewN ?_ _ | refine blk_drew ?_ | refine blk_alloc ?_ _)); refine blk_far ?_ NB414_418.out _; (with_reducible repeat (first | refine blk_drewN ?_ _ | refine blk_drew ?_ | refine blk_alloc ?_ _)); refine blk_far ?_ NB414_418.out _; (with_reducible repeat (first | refine blk_drewN ?_ _ | refine blk_drew ?_ | refine blk_alloc ?_ _)); exact BK414.out⟩, ⟨by (with_reducible repeat (first | refine blk_drewN ?_ _ | refine blk_drew ?_ | refine blk_alloc ?_ _)); refine blk_put (cs := #[.int .i64 t419, .int .i64 t416]) ?_ 1 _ rfl; (with_reducible repeat (first | refine blk_drewN ?_ _ | refine blk_drew ?_ | refine blk_alloc ?_ _)); refine blk_put (cs := #[.int .i64 t415, .int .i64 t416]) ?_ 0 _ rfl; (with_reducible repeat (first | refine blk_drewN ?_ _ | refine blk_drew ?_ | refine blk_alloc ?_ _)); exact BK418.out⟩, ⟨zz17_4_ HB.out GE414.out GE418.out⟩⟩
          ·replace c21 := Bool.eq_false_iff.mpr c21
           subst c21
           rw [if_neg (show ¬ (false = true) by decide)] at H
           have H' := Aside0.mk H
           clear H
           go_wp2
           go_meet
           case rel => exact ⟨_, (t415), (t416), H', ⟨by have := HJ1.out; have := HJ6.out; have := HJ17.out; first | omega | exact Nat.le_refl _⟩, ⟨zz17_2_ BK414.out⟩, ⟨zz17_2_ BK418.out⟩, ⟨zz17_4_ HB.out GE414.out GE418.out⟩⟩
         case rest =>
          clear HC20
          try clear c1
          try clear c2
          try clear p2
          try clear c3
          try clear c4
          try clear c4b0
          try clear c4b1
          try clear c5
          try clear c5b0
          try clear c5b1
          try clear p6
          try clear q6
          try clear hx6
          try clear qi6
          try clear c8
          try clear c9
          try clear c9b0
          try clear c9b1
          try clear c14
          try clear c16
          try clear c19
          try clear c19b0
          try clear c21
          try clear c22
          try clear hcz15_0
          try clear hcz15_1
          try clear hcz23_0
          try clear hcz23_1
          try clear hfz15_0
          try clear hfz15_1
          try clear hfz23_0
          try clear hfz23_1
          try clear p2
          try clear p6
          try clear q6
          obtain ⟨kq, x419000_19, x419001_19, HA, HJ19, BK414, BK418, HB⟩ := hcut
          cases kq with
          | zero => exact absurd HA.out (by simp [spec_ReadFraction.j3])
          | succ kj19 =>
           have H := HA.out
           clear HA
           simp only [spec_ReadFraction.j3] at H
           have HC24 := Aside0.mk H
           clear H
           go_upto_region 11 with (fail)
           go_cut [57] (fun v57 wc => ∃ (kq : Nat) (x57_23 : Bool), v57 = .bool x57_23 ∧ Aside0 (spec_ReadFraction.j4 kq a0 x4_6 x5_6 t419 t420 x57_23 x419000_19 x419001_19 = some (r1, r2, r3)) ∧ Aside0 (kq ≤ kj19) ∧ Aside0 (wc.heap[gb414]? = some (.cells #[.int .i64 0, .int .i64 0] 49 (0, 0))) ∧ Aside0 (wc.heap[gb418]? = some (.cells #[.int .i64 x419000_19, .int .i64 x419001_19] 49 (0, 0))) ∧ Aside0 (Below w.heap.size w wc))
           case first =>
            have H := HC24.out
            clear HC24
            by_cases c25 : t420 > 0
            ·rw [if_pos c25] at H
             have c25b0 : decide (0 < t420) = true := decide_eq_true c25
             clear c25
             (first | rw [c25b0] | (simp only [i64_w, i32_w]; rw [c25b0]) | skip)
             by_cases c26 : t420 < (x4_6.size : Int)
             ·rw [if_pos c26] at H
              have c26b0 : decide (t420 < (x4_6.size : Int)) = true := decide_eq_true c26
              clear c26
              by_cases c27 : 0 ≤ t420
              ·rw [if_pos c27] at H
               have c27b0 : decide (0 ≤ t420) = true := decide_eq_true c27
               clear c27
               have H' := Aside0.mk H
               clear H
               have p28 : 0 ≤ (t420 : Int) := of_decide_eq_true (by first | (with_reducible assumption) | assumption)
               have q28 : t420 < (x4_6.size : Int) := of_decide_eq_true (by first | (with_reducible assumption) | assumption)
               have hx28 := bt_at x4_6 t420
               replace p28 := eq_true p28
               replace q28 := eq_true q28
               go_wp2
               go_meet
               case rel => exact ⟨_, (((bt x4_6 t420) == 47)), (by first | rfl | (simp; done) | (simp [*]; done)), H', ⟨by have := HJ1.out; have := HJ6.out; have := HJ17.out; have := HJ19.out; first | omega | exact Nat.le_refl _⟩, ⟨zz17_2_ BK414.out⟩, ⟨zz17_2_ BK418.out⟩, ⟨zz17_4_ HB.out GE414.out GE418.out⟩⟩
              ·rw [if_neg c27] at H
               exact absurd H (by simp)
             ·rw [if_neg c26] at H
              have c26b0 : decide (t420 < (x4_6.size : Int)) = false := decide_eq_false c26
              clear c26
              have H' := Aside0.mk H
              clear H
              go_wp2
              go_meet
              case rel => exact ⟨_, (false), (by first | rfl | (simp; done) | (simp [*]; done)), H', ⟨by have := HJ1.out; have := HJ6.out; have := HJ17.out; have := HJ19.out; first | omega | exact Nat.le_refl _⟩, ⟨zz17_2_ BK414.out⟩, ⟨zz17_2_ BK418.out⟩, ⟨zz17_4_ HB.out GE414.out GE418.out⟩⟩
            ·rw [if_neg c25] at H
             have c25b0 : decide (0 < t420) = false := decide_eq_false c25
             clear c25
             (first | rw [c25b0] | (simp only [i64_w, i32_w]; rw [c25b0]) | skip)
             have H' := Aside0.mk H
             clear H
             go_wp2
             go_meet
             case rel => exact ⟨_, (false), (by first | rfl | (simp; done) | (simp [*]; done)), H', ⟨by have := HJ1.out; have := HJ6.out; have := HJ17.out; have := HJ19.out; first | omega | exact Nat.le_refl _⟩, ⟨zz17_2_ BK414.out⟩, ⟨zz17_2_ BK418.out⟩, ⟨zz17_4_ HB.out GE414.out GE418.out⟩⟩
           case rest =>
            clear HC24
            try clear c1
            try clear c2
            try clear p2
            try clear q2
            try clear hx2
            try clear c3
            try clear c4
            try clear c4b0
            try clear c4b1
            try clear c5
            try clear c5b0
            try clear c5b1
            try clear p6
            try clear q6
            try clear hx6
            try clear qi6
            try clear c8
            try clear c9
            try clear c9b0
            try clear c9b1
            try clear c14
            try clear c16
            try clear c19
            try clear c19b0
            try clear c21
            try clear c22
            try clear c25
            try clear c25b0
            try clear c26
            try clear c26b0
            try clear c27
            try clear c27b0
            try clear p28
            try clear q28
            try clear hx28
            try clear hcz15_0
            try clear hcz15_1
            try clear hcz23_0
            try clear hcz23_1
            try clear hfz15_0
            try clear hfz15_1
            try clear hfz23_0
            try clear hfz23_1
            try clear p2
            try clear p28
            try clear p6
            try clear q28
            try clear q6
            obtain ⟨kq, x57_23, rfl, HA, HJ23, BK414, BK418, HB⟩ := hcut
            cases kq with
            | zero => exact absurd HA.out (by simp [spec_ReadFraction.j4])
            | succ kj23 =>
             have H := HA.out
             clear HA
             simp only [spec_ReadFraction.j4] at H
             by_cases c29 : x57_23 = true
             ·subst c29
              rw [if_pos rfl] at H
              replace H := Option.bind_eq_some_iff.mp H
              obtain ⟨⟨t421, t422⟩, A300, H⟩ := H
              try dsimp only at H
              have A30 := Aside0.mk A300
              clear A300
              by_cases c31 : t422 = (x4_6.size : Int)
              ·rw [if_pos c31] at H
               have c31b0 : (t422 == (x4_6.size : Int)) = true := beq_iff_eq.mpr c31
               have c31b1 : (t422 != (x4_6.size : Int)) = false := bne_eq_false_iff_eq.mpr c31
               clear c31
               by_cases c32 : t421 > 0
               ·rw [if_pos c32] at H
                have c32b0 : decide (0 < t421) = true := decide_eq_true c32
                clear c32
                have H' := Aside0.mk H
                clear H
                go_wp2_with (first | ((with_reducible refine gate_callee (f := 55) rfl ?_); refine goesL_ (some 62) rfl rfl Tryz.func55 (by kernel_rfl) rfl #[.string x4_6, .int .i64 (wrap64 (t420 + 1)), .int .i64 7] rfl (zz17_1_) ?_; (with_reducible refine (spec_l2Digits.calls kj23 x4_6 (wrap64 (t420 + 1)) 7 t421 t422 _ A30.out).mono ?_); rintro e w' ⟨rfl, ⟨nd, rfl⟩⟩; refine ⟨_, rfl, ?_⟩; (try (rw [drewN_self wc]; generalize hq_ : World.drewN wc _ = wc; have n0_ : Aside0 (wc.heap[gb414]? = some (.cells #[.int .i64 0, .int .i64 0] 49 (0, 0))) := ⟨by rw [← hq_]; exact (zz17_2_ BK414.out)⟩; have n1_ : Aside0 (wc.heap[gb418]? = some (.cells #[.int .i64 x419000_19, .int .i64 x419001_19] 49 (0, 0))) := ⟨by rw [← hq_]; exact (zz17_2_ BK418.out)⟩; have n2_ : Aside0 (Below w.heap.size w wc) := ⟨by rw [← hq_]; exact (zz17_4_ HB.out GE414.out GE418.out)⟩; clear BK414 BK418 HB hq_; have BK414 := n0_; have BK418 := n1_; have HB := n2_; clear n0_ n1_ n2_; (try have hcz23_0 : wc.cell? ⟨gb418, 0, none⟩ = some (.int .i64 t415) := (blk_cell BK418.out 0).trans rfl); (try have hcz23_1 : wc.cell? ⟨gb418, 1, none⟩ = some (.int .i64 t416) := (blk_cell BK418.out 1).trans rfl); (try have hfz23_0 := blk_frozen BK418.out 0); (try have hfz23_1 := blk_frozen BK418.out 1))); have hnb33 := NB418_414.out; have hnc33 := NB414_418.out; have hcz34_0 : wc.cell? ⟨gb418, 0, none⟩ = some (.int .i64 x419000_19) := (blk_cell BK418.out 0).trans rfl; have hcz34_1 : wc.cell? ⟨gb418, 1, none⟩ = some (.int .i64 x419001_19) := (blk_cell BK418.out 1).trans rfl; have hfz34_0 := blk_frozen BK418.out 0; have hfz34_1 := blk_frozen BK418.out 1))
                go_meet
                case rel => exact ⟨_, (t419), (t421), H', ⟨by have := HJ1.out; have := HJ6.out; have := HJ17.out; have := HJ19.out; have := HJ23.out; first | omega | exact Nat.le_refl _⟩, ⟨by (with_reducible repeat (first | refine blk_drewN ?_ _ | refine blk_drew ?_ | refine blk_alloc ?_ _)); refine blk_far ?_ NB414_418.out _; (with_reducible repeat (first | refine blk_drewN ?_ _ | refine blk_drew ?_ | refine blk_alloc ?_ _)); refine blk_far ?_ NB414_418.out _; (with_reducible repeat (first | refine blk_drewN ?_ _ | refine blk_drew ?_ | refine blk_alloc ?_ _)); exact BK414.out⟩, ⟨by (with_reducible repeat (first | refine blk_drewN ?_ _ | refine blk_drew ?_ | refine blk_alloc ?_ _)); refine blk_put (cs := #[.int .i64 t419, .int .i64 x419001_19]) ?_ 1 _ rfl; (with_reducible repeat (first | refine blk_drewN ?_ _ | refine blk_drew ?_ | refine blk_alloc ?_ _)); refine blk_put (cs := #[.int .i64 x419000_19, .int .i64 x419001_19]) ?_ 0 _ rfl; (with_reducible repeat (first | refine blk_drewN ?_ _ | refine blk_drew ?_ | refine blk_alloc ?_ _)); exact BK418.out⟩, ⟨zz17_4_ HB.out GE414.out GE418.out⟩⟩
               ·rw [if_neg c32] at H
                have c32b0 : decide (0 < t421) = false := decide_eq_false c32
                clear c32
                have H' := Aside0.mk H
                clear H
                go_wp2_with (first | ((with_reducible refine gate_callee (f := 55) rfl ?_); refine goesL_ (some 62) rfl rfl Tryz.func55 (by kernel_rfl) rfl #[.string x4_6, .int .i64 (wrap64 (t420 + 1)), .int .i64 7] rfl (zz17_1_) ?_; (with_reducible refine (spec_l2Digits.calls kj23 x4_6 (wrap64 (t420 + 1)) 7 t421 t422 _ A30.out).mono ?_); rintro e w' ⟨rfl, ⟨nd, rfl⟩⟩; refine ⟨_, rfl, ?_⟩))
                go_meet
                case rel => exact ⟨_, (x419000_19), (x419001_19), H', ⟨by have := HJ1.out; have := HJ6.out; have := HJ17.out; have := HJ19.out; have := HJ23.out; first | omega | exact Nat.le_refl _⟩, ⟨zz17_2_ BK414.out⟩, ⟨zz17_2_ BK418.out⟩, ⟨zz17_4_ HB.out GE414.out GE418.out⟩⟩
              ·rw [if_neg c31] at H
               have c31b0 : (t422 == (x4_6.size : Int)) = false := beq_eq_false_iff_ne.mpr c31
               have c31b1 : (t422 != (x4_6.size : Int)) = true := bne_iff_ne.mpr c31
               have H' := Aside0.mk H
               clear H
               go_wp2_with (first | ((with_reducible refine gate_callee (f := 55) rfl ?_); refine goesL_ (some 62) rfl rfl Tryz.func55 (by kernel_rfl) rfl #[.string x4_6, .int .i64 (wrap64 (t420 + 1)), .int .i64 7] rfl (zz17_1_) ?_; (with_reducible refine (spec_l2Digits.calls kj23 x4_6 (wrap64 (t420 + 1)) 7 t421 t422 _ A30.out).mono ?_); rintro e w' ⟨rfl, ⟨nd, rfl⟩⟩; refine ⟨_, rfl, ?_⟩))
               go_meet
               case rel => exact ⟨_, (x419000_19), (x419001_19), H', ⟨by have := HJ1.out; have := HJ6.out; have := HJ17.out; have := HJ19.out; have := HJ23.out; first | omega | exact Nat.le_refl _⟩, ⟨zz17_2_ BK414.out⟩, ⟨zz17_2_ BK418.out⟩, ⟨zz17_4_ HB.out GE414.out GE418.out⟩⟩
             ·replace c29 := Bool.eq_false_iff.mpr c29
              subst c29
              rw [if_neg (show ¬ (false = true) by decide)] at H
              have H' := Aside0.mk H
              clear H
              go_wp2
              go_meet
              case rel => exact ⟨_, (x419000_19), (x419001_19), H', ⟨by have := HJ1.out; have := HJ6.out; have := HJ17.out; have := HJ19.out; have := HJ23.out; first | omega | exact Nat.le_refl _⟩, ⟨zz17_2_ BK414.out⟩, ⟨zz17_2_ BK418.out⟩, ⟨zz17_4_ HB.out GE414.out GE418.out⟩⟩
     case rest =>
      clear HC11
      try clear c1
      try clear c2
      try clear p2
      try clear q2
      try clear hx2
      try clear c3
      try clear c4
      try clear c4b0
      try clear c4b1
      try clear c5
      try clear c5b0
      try clear c5b1
      try clear p6
      try clear q6
      try clear hx6
      try clear qi6
      try clear c8
      try clear c9
      try clear c9b0
      try clear c9b1
      try clear c14
      try clear c16
      try clear c19
      try clear c19b0
      try clear c21
      try clear c22
      try clear c25
      try clear c25b0
      try clear c26
      try clear c26b0
      try clear c27
      try clear c27b0
      try clear p28
      try clear q28
      try clear hx28
      try clear c29
      try clear c31
      try clear c31b0
      try clear c31b1
      try clear c32
      try clear c32b0
      try clear c33
      try clear hcz15_0
      try clear hcz15_1
      try clear hcz23_0
      try clear hcz23_1
      try clear hcz34_0
      try clear hcz34_1
      try clear hfz15_0
      try clear hfz15_1
      try clear hfz23_0
      try clear hfz23_1
      try clear hfz34_0
      try clear hfz34_1
      try clear p2
      try clear p28
      try clear p6
      try clear q2
      try clear q28
      try clear q6
      obtain ⟨kq, x419000_10, x419001_10, HA, HJ10, BK414, BK418, HB⟩ := hcut
      cases kq with
      | zero => exact absurd HA.out (by simp [spec_ReadFraction.j5])
      | succ kj10 =>
       have H := HA.out
       clear HA
       simp only [spec_ReadFraction.j5] at H
       by_cases c35 : a0.toList = ([] : List UInt8)
       ·rw [if_pos c35] at H
        have c35b0 : (a0.toList == ([] : List UInt8)) = true := beq_iff_eq.mpr c35
        have c35b1 : (a0.toList != ([] : List UInt8)) = false := bne_eq_false_iff_eq.mpr c35
        clear c35
        simp only [Option.some.injEq, Prod.mk.injEq] at H
        obtain ⟨rfl, rfl, rfl⟩ := H
        have hnb36 := NB418_414.out
        have hnc36 := NB414_418.out
        have hcz37_0 : wc.cell? ⟨gb418, 0, none⟩ = some (.int .i64 x419000_10) := (blk_cell BK418.out 0).trans rfl
        have hcz37_1 : wc.cell? ⟨gb418, 1, none⟩ = some (.int .i64 x419001_10) := (blk_cell BK418.out 1).trans rfl
        have hfz37_0 := blk_frozen BK418.out 0
        have hfz37_1 := blk_frozen BK418.out 1
        have hcz38_0 : wc.cell? ⟨gb414, 0, none⟩ = some (.int .i64 0) := (blk_cell BK414.out 0).trans rfl
        have hcz38_1 : wc.cell? ⟨gb414, 1, none⟩ = some (.int .i64 0) := (blk_cell BK414.out 1).trans rfl
        have hfz38_0 := blk_frozen BK414.out 0
        have hfz38_1 := blk_frozen BK414.out 1
        go_wp2
        refine bodyPost_ret (results_ct rfl _ _ gb414 49 #[.int .i64 0, .int .i64 0] (0, 0) _ rfl (by (with_reducible repeat (first | refine blk_drewN ?_ _ | refine blk_drew ?_ | refine blk_alloc ?_ _)); refine blk_put (cs := #[.int .i64 0, .int .i64 0]) ?_ 1 _ rfl; (with_reducible repeat (first | refine blk_drewN ?_ _ | refine blk_drew ?_ | refine blk_alloc ?_ _)); refine blk_put (cs := #[.int .i64 0, .int .i64 0]) ?_ 0 _ rfl; (with_reducible repeat (first | refine blk_drewN ?_ _ | refine blk_drew ?_ | refine blk_alloc ?_ _)); refine blk_far ?_ NB414_418.out _; (with_reducible repeat (first | refine blk_drewN ?_ _ | refine blk_drew ?_ | refine blk_alloc ?_ _)); exact BK414.out) Tryz.underlying49 rfl (by kernel_rfl)) rfl ?_
        exact ⟨by first | rfl | (rw [ne_nil_isEmpty]; done) | (simp [ne_nil_isEmpty]; done) | (simp [errW_none, errW_some] <;> rfl) | (simp [*, errW_none, errW_some] <;> rfl), zz17_4_ HB.out GE414.out GE418.out⟩
       ·rw [if_neg c35] at H
        have c35b0 : (a0.toList == ([] : List UInt8)) = false := beq_eq_false_iff_ne.mpr c35
        have c35b1 : (a0.toList != ([] : List UInt8)) = true := bne_iff_ne.mpr c35
        replace H := Option.bind_eq_some_iff.mp H
        obtain ⟨t423, A390, H⟩ := H
        try dsimp only at H
        have A39 := Aside0.mk A390
        clear A390
        by_cases c40 : t423.toList = a0.toList
        ·rw [if_pos c40] at H
         have c40b0 : (t423.toList == a0.toList) = true := beq_iff_eq.mpr c40
         have c40b1 : (t423.toList != a0.toList) = false := bne_eq_false_iff_eq.mpr c40
         clear c40
         simp only [Option.some.injEq, Prod.mk.injEq] at H
         obtain ⟨rfl, rfl, rfl⟩ := H
         have hnb41 := NB418_414.out
         have hnc41 := NB414_418.out
         have hcz42_0 : wc.cell? ⟨gb418, 0, none⟩ = some (.int .i64 x419000_10) := (blk_cell BK418.out 0).trans rfl
         have hcz42_1 : wc.cell? ⟨gb418, 1, none⟩ = some (.int .i64 x419001_10) := (blk_cell BK418.out 1).trans rfl
         have hfz42_0 := blk_frozen BK418.out 0
         have hfz42_1 := blk_frozen BK418.out 1
         go_wp2_with (first | (go_at_call 56; (with_reducible refine (spec_FractionText.calls kj10 (wrap64 (x5_6 * x419000_10)) x419001_10 t423 _ A39.out).mono ?_); rintro e w43 ⟨rfl, hb⟩; have n0_ := Aside0.mk (blk_below (g := gb414) (o := .cells #[.int .i64 0, .int .i64 0] 49 (0, 0)) (zz17_5_ NB414_418.out BK414.out) hb); have n1_ := Aside0.mk (blk_below (g := gb418) (o := .cells #[.int .i64 (wrap64 (x5_6 * x419000_10)), .int .i64 x419001_10] 49 (0, 0)) (by (with_reducible repeat (first | refine blk_drewN ?_ _ | refine blk_drew ?_ | refine blk_alloc ?_ _)); refine blk_put (cs := #[.int .i64 x419000_10, .int .i64 x419001_10]) ?_ 0 _ rfl; (with_reducible repeat (first | refine blk_drewN ?_ _ | refine blk_drew ?_ | refine blk_alloc ?_ _)); exact BK418.out) hb); have n2_ := Aside0.mk (below_step (zz17_4_ HB.out GE414.out GE418.out) hb); clear BK414; clear BK418; clear HB; have BK414 := n0_; have BK418 := n1_; have HB := n2_; clear n0_ n1_ n2_; (try clear hb); (try clear hb2); (try clear hk); (try clear hi); have hcz44_0 : w43.cell? ⟨gb418, 0, none⟩ = some (.int .i64 (wrap64 (x5_6 * x419000_10))) := (blk_cell BK418.out 0).trans rfl; have hcz44_1 : w43.cell? ⟨gb418, 1, none⟩ = some (.int .i64 x419001_10) := (blk_cell BK418.out 1).trans rfl; have hfz44_0 := blk_frozen BK418.out 0; have hfz44_1 := blk_frozen BK418.out 1; have hcz45_0 : w43.cell? ⟨gb414, 0, none⟩ = some (.int .i64 0) := (blk_cell BK414.out 0).trans rfl; have hcz45_1 : w43.cell? ⟨gb414, 1, none⟩ = some (.int .i64 0) := (blk_cell BK414.out 1).trans rfl; have hfz45_0 := blk_frozen BK414.out 0; have hfz45_1 := blk_frozen BK414.out 1))
         refine bodyPost_ret (results_ct rfl _ _ gb414 49 #[.int .i64 (wrap64 (x5_6 * x419000_10)), .int .i64 x419001_10] (0, 0) _ rfl (by (with_reducible repeat (first | refine blk_drewN ?_ _ | refine blk_drew ?_ | refine blk_alloc ?_ _)); refine blk_put (cs := #[.int .i64 (wrap64 (x5_6 * x419000_10)), .int .i64 0]) ?_ 1 _ rfl; (with_reducible repeat (first | refine blk_drewN ?_ _ | refine blk_drew ?_ | refine blk_alloc ?_ _)); refine blk_put (cs := #[.int .i64 0, .int .i64 0]) ?_ 0 _ rfl; (with_reducible repeat (first | refine blk_drewN ?_ _ | refine blk_drew ?_ | refine blk_alloc ?_ _)); exact BK414.out) Tryz.underlying49 rfl (by kernel_rfl)) rfl ?_
         exact ⟨by first | rfl | (rw [ne_nil_isEmpty]; done) | (simp [ne_nil_isEmpty]; done) | (simp [errW_none, errW_some] <;> rfl) | (simp [*, errW_none, errW_some] <;> rfl), zz17_4_ HB.out GE414.out GE418.out⟩
        ·rw [if_neg c40] at H
         have c40b0 : (t423.toList == a0.toList) = false := beq_eq_false_iff_ne.mpr c40
         have c40b1 : (t423.toList != a0.toList) = true := bne_iff_ne.mpr c40
         simp only [Option.some.injEq, Prod.mk.injEq] at H
         obtain ⟨rfl, rfl, rfl⟩ := H
         have hnb46 := NB418_414.out
         have hnc46 := NB414_418.out
         have hcz47_0 : wc.cell? ⟨gb418, 0, none⟩ = some (.int .i64 x419000_10) := (blk_cell BK418.out 0).trans rfl
         have hcz47_1 : wc.cell? ⟨gb418, 1, none⟩ = some (.int .i64 x419001_10) := (blk_cell BK418.out 1).trans rfl
         have hfz47_0 := blk_frozen BK418.out 0
         have hfz47_1 := blk_frozen BK418.out 1
         go_wp2_with (first | (go_at_call 56; (with_reducible refine (spec_FractionText.calls kj10 (wrap64 (x5_6 * x419000_10)) x419001_10 t423 _ A39.out).mono ?_); rintro e w48 ⟨rfl, hb⟩; have n0_ := Aside0.mk (blk_below (g := gb414) (o := .cells #[.int .i64 0, .int .i64 0] 49 (0, 0)) (zz17_5_ NB414_418.out BK414.out) hb); have n1_ := Aside0.mk (blk_below (g := gb418) (o := .cells #[.int .i64 (wrap64 (x5_6 * x419000_10)), .int .i64 x419001_10] 49 (0, 0)) (by (with_reducible repeat (first | refine blk_drewN ?_ _ | refine blk_drew ?_ | refine blk_alloc ?_ _)); refine blk_put (cs := #[.int .i64 x419000_10, .int .i64 x419001_10]) ?_ 0 _ rfl; (with_reducible repeat (first | refine blk_drewN ?_ _ | refine blk_drew ?_ | refine blk_alloc ?_ _)); exact BK418.out) hb); have n2_ := Aside0.mk (below_step (zz17_4_ HB.out GE414.out GE418.out) hb); clear BK414; clear BK418; clear HB; have BK414 := n0_; have BK418 := n1_; have HB := n2_; clear n0_ n1_ n2_; (try clear hb); (try clear hb2); (try clear hk); (try clear hi); have hcz49_0 : w48.cell? ⟨gb414, 0, none⟩ = some (.int .i64 0) := (blk_cell BK414.out 0).trans rfl; have hcz49_1 : w48.cell? ⟨gb414, 1, none⟩ = some (.int .i64 0) := (blk_cell BK414.out 1).trans rfl; have hfz49_0 := blk_frozen BK414.out 0; have hfz49_1 := blk_frozen BK414.out 1))
         refine bodyPost_ret (results_ct rfl _ _ gb414 49 #[.int .i64 0, .int .i64 0] (0, 0) _ rfl (by (with_reducible repeat (first | refine blk_drewN ?_ _ | refine blk_drew ?_ | refine blk_alloc ?_ _)); refine blk_put (cs := #[.int .i64 0, .int .i64 0]) ?_ 1 _ rfl; (with_reducible repeat (first | refine blk_drewN ?_ _ | refine blk_drew ?_ | refine blk_alloc ?_ _)); refine blk_put (cs := #[.int .i64 0, .int .i64 0]) ?_ 0 _ rfl; (with_reducible repeat (first | refine blk_drewN ?_ _ | refine blk_drew ?_ | refine blk_alloc ?_ _)); exact BK414.out) Tryz.underlying49 rfl (by kernel_rfl)) rfl ?_
         exact ⟨by first | rfl | (rw [ne_nil_isEmpty]; done) | (simp [ne_nil_isEmpty]; done) | (simp [errW_none, errW_some] <;> rfl) | (simp [*, errW_none, errW_some] <;> rfl), zz17_4_ HB.out GE414.out GE418.out⟩

end Go.Proofs.YtifeiepociopoaaGreatDoor.PEd
