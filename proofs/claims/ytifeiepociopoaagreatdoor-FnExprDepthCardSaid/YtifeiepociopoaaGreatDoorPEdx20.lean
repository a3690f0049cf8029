-- Written for this session by its program hprint.py over the kit's print: functions, and contracts that the walk of the Go code proves.
import Derived.Test.YtifeiepociopoaaGreatDoorPEdx0
import Derived.Test.YtifeiepociopoaaGreatDoorPEdx13
import Derived.Test.YtifeiepociopoaaGreatDoorPEdx17
import Derived.Test.YtifeiepociopoaaGreatDoorPEdx18
import Derived.Test.YtifeiepociopoaaGreatDoorPEdx19
namespace Go.Proofs.YtifeiepociopoaaGreatDoor.PEd
open Go.RowKit Go.Proofs.YtifeiepociopoaaGreatDoor.Hand Go.Proofs.YtifeiepociopoaaGreatDoorW.PrintWords Go.Proofs.YtifeiepociopoaaGreatDoorW.PrintLast Go.Proofs.YtifeiepociopoaaGreatDoorW.PrintMore
attribute [local go_sem] max2_int min2_int max_two min_two max_three min_three max_four min_four   -- for this text's walks alone
set_option linter.unusedVariables false
set_option linter.unusedSimpArgs false

/-! ### spec_CellValid: function 29 -/
theorem zz20_0_ {P1 Q : Prop} (h1 : P1) (f : P1 → Q := by intro zq1_; repeat (first | (with_reducible first | exact zq1_ | apply below_alloc | apply pw_below_drewN | apply below_drew1) | exact zq1_)) : Q := f h1
theorem zz20_1_ {Q : Prop} (f : Q := by (try simp only [List.map_toArray, List.map_cons, List.map_nil]); first | done | rfl | (simp only [List.length_drop, List.length_take]; rfl)) : Q := f
theorem zz20_2_ {P1 Q : Prop} (h1 : P1) (f : P1 → Q := by intro zq1_; (with_reducible repeat (first | refine blk_drewN ?_ _ | refine blk_drew ?_ | refine blk_alloc ?_ _)); exact zq1_) : Q := f h1
theorem zz20_3_ {P1 P2 Q : Prop} (h1 : P1) (h2 : P2) (f : P1 → P2 → Q := by intro zq1_ zq2_; repeat (first | (with_reducible first | exact zq1_ | apply below_alloc | apply pw_below_drewN | apply below_drew1 | refine below_set ?_ zq2_) | exact zq1_)) : Q := f h1 h2
theorem zz20_4_ {P1 P2 P3 Q : Prop} (h1 : P1) (h2 : P2) (h3 : P3) (f : P1 → P2 → P3 → Q := by intro zq1_ zq2_ zq3_; repeat (first | (with_reducible first | exact zq1_ | apply below_alloc | apply pw_below_drewN | apply below_drew1 | refine below_set ?_ zq2_ | refine below_set ?_ zq3_) | exact zq1_)) : Q := f h1 h2 h3
def spec_CellValid.f (k : Nat) (a0_0 : Int) (a0_1 : ByteArray) (a0_2 : Int) : Option (Bool) := if a0_0 = 1 then ((spec_ReadFraction.f k a0_1).bind fun bt428 => (if bt428.2.2 = true then (if bt428.1 ≥ 0 then (if bt428.2.1 = 0 then (none) else (if ((1000000 : Int) % bt428.2.1) = 0 then (some (a0_2 == 0)) else (some false))) else (some false)) else (some false))) else (if a0_0 = 2 then ((spec_TextValid.f k a0_1).bind fun t432 => (if t432 = true then (if (a0_1.size : Int) ≤ 60 then (some (a0_2 == 0)) else (some false)) else (some false))) else (if a0_0 = 3 then (if a0_1.toList = ([116, 114, 117, 101] : List UInt8) then (some (a0_2 == 0)) else (if a0_1.toList = ([102, 97, 108, 115, 101] : List UInt8) then (some (a0_2 == 0)) else (some false))) else (if a0_0 = 4 then ((spec_NameValid.f k a0_1).bind fun t433 => (if t433 = true then (if (a0_1.size : Int) ≤ 60 then (some (a0_2 == 0)) else (some false)) else (some false))) else (if a0_0 = 5 then (if a0_1.toList = ([] : List UInt8) then ((spec_l1In.f a0_2 0 8).bind fun t434 => (some t434)) else (some false)) else (if a0_0 = 6 then ((spec_NameValid.f k a0_1).bind fun t435 => (if t435 = true then ((spec_l1Has.f k a0_1 46).bind fun t436 => (if t436 = true then (some false) else ((spec_l1In.f a0_2 0 8).bind fun t437 => (some t437)))) else (some false))) else (if a0_0 = 7 then (if a0_1.toList = ([33] : List UInt8) then (some (a0_2 == 1)) else (if a0_1.toList = ([45] : List UInt8) then (some (a0_2 == 1)) else (some false))) else (if a0_0 = 8 then ((spec_l5Binary.f k a0_1).bind fun t438 => (if t438 > 0 then (some (a0_2 == 2)) else (some false))) else (if a0_0 = 9 then (if a0_1.toList = ([] : List UInt8) then (some (a0_2 == 3)) else (some false)) else (some false)))))))))
theorem spec_CellValid.mono : ∀ a0 a1 a2 k, LeO (spec_CellValid.f k a0 a1 a2) (spec_CellValid.f (k + 1) a0 a1 a2) := by
 intro a0 a1 a2 k
 unfold spec_CellValid.f
 repeat' first
   | (with_reducible exact spec_NameValid.mono _ _)
   | (with_reducible exact spec_ReadFraction.mono _ _)
   | (with_reducible exact spec_TextValid.mono _ _)
   | (with_reducible exact spec_l1Has.mono _ _ _)
   | (with_reducible exact spec_l5Binary.mono _ _)
   | (with_reducible exact LeO.refl _)
   | (with_reducible exact LeO.none _)
   | (with_reducible refine LeO.ite ?_ ?_)
   | (with_reducible refine LeO.bind ?_ (fun _ => ?_))
   | exact spec_NameValid.mono _ _
   | exact spec_ReadFraction.mono _ _
   | exact spec_TextValid.mono _ _
   | exact spec_l1Has.mono _ _ _
   | exact spec_l5Binary.mono _ _
   | exact LeO.none _
   | refine LeO.ite ?_ ?_
   | refine LeO.bind ?_ (fun _ => ?_)
set_option maxHeartbeats 8000000 in
set_option maxRecDepth 100000 in
theorem spec_CellValid.calls (k : Nat) (a0_0 : Int) (a0_1 : ByteArray) (a0_2 : Int) (r : Bool) (w : World) (h : spec_CellValid.f k a0_0 a0_1 a0_2 = some r) :
  Calls Tryz.prog 29 #[.agg #[.int .i64 a0_0, .string a0_1, .int .i64 a0_2]] w fun e w' => e = .returned (.bool r) ∧ Below w.heap.size w w' := by
 have hu35 := Tryz.underlying35
 have hu49 := Tryz.underlying49
 have HB := Aside0.mk (Below.refl w.heap.size w)
 have H : (if a0_0 = 1 then ((spec_ReadFraction.f k a0_1).bind fun bt428 => (if bt428.2.2 = true then (if bt428.1 ≥ 0 then (if bt428.2.1 = 0 then (none) else (if ((1000000 : Int) % bt428.2.1) = 0 then (some (a0_2 == 0)) else (some false))) else (some false)) else (some false))) else (if a0_0 = 2 then ((spec_TextValid.f k a0_1).bind fun t432 => (if t432 = true then (if (a0_1.size : Int) ≤ 60 then (some (a0_2 == 0)) else (some false)) else (some false))) else (if a0_0 = 3 then (if a0_1.toList = ([116, 114, 117, 101] : List UInt8) then (some (a0_2 == 0)) else (if a0_1.toList = ([102, 97, 108, 115, 101] : List UInt8) then (some (a0_2 == 0)) else (some false))) else (if a0_0 = 4 then ((spec_NameValid.f k a0_1).bind fun t433 => (if t433 = true then (if (a0_1.size : Int) ≤ 60 then (some (a0_2 == 0)) else (some false)) else (some false))) else (if a0_0 = 5 then (if a0_1.toList = ([] : List UInt8) then ((spec_l1In.f a0_2 0 8).bind fun t434 => (some t434)) else (some false)) else (if a0_0 = 6 then ((spec_NameValid.f k a0_1).bind fun t435 => (if t435 = true then ((spec_l1Has.f k a0_1 46).bind fun t436 => (if t436 = true then (some false) else ((spec_l1In.f a0_2 0 8).bind fun t437 => (some t437)))) else (some false))) else (if a0_0 = 7 then (if a0_1.toList = ([33] : List UInt8) then (some (a0_2 == 1)) else (if a0_1.toList = ([45] : List UInt8) then (some (a0_2 == 1)) else (some false))) else (if a0_0 = 8 then ((spec_l5Binary.f k a0_1).bind fun t438 => (if t438 > 0 then (some (a0_2 == 2)) else (some false))) else (if a0_0 = 9 then (if a0_1.toList = ([] : List UInt8) then (some (a0_2 == 3)) else (some false)) else (some false)))))))))) = some r := h
 clear h
 by_cases c2 : a0_0 = 1
 ·rw [if_pos c2] at H
  have c2b0 : (a0_0 == 1) = true := beq_iff_eq.mpr c2
  have c2b1 : (a0_0 != 1) = false := bne_eq_false_iff_eq.mpr c2
  clear c2
  replace H := Option.bind_eq_some_iff.mp H
  obtain ⟨⟨t428, t429, t430⟩, A30, H⟩ := H
  try dsimp only at H
  have A3 := Aside0.mk A30
  clear A30
  by_cases c4 : t430 = true
  ·subst c4
   rw [if_pos rfl] at H
   by_cases c5 : t428 ≥ 0
   ·rw [if_pos c5] at H
    have c5b0 : decide (0 ≤ t428) = true := decide_eq_true c5
    clear c5
    by_cases c6 : t429 = 0
    ·rw [if_pos c6] at H
     exact absurd H (by simp)
    ·rw [if_neg c6] at H
     have c6b0 : (t429 == 0) = false := beq_eq_false_iff_ne.mpr c6
     have c6b1 : (t429 != 0) = true := bne_iff_ne.mpr c6
     by_cases c7 : ((1000000 : Int) % t429) = 0
     ·rw [if_pos c7] at H
      have c7b0 : (((1000000 : Int) % t429) == 0) = true := beq_iff_eq.mpr c7
      have c7b1 : (((1000000 : Int) % t429) != 0) = false := bne_eq_false_iff_eq.mpr c7
      clear c7
      obtain rfl := Option.some.inj H
      go_enter Tryz.func29, Tryz.ntmps29
      go_wp2_with (first | ((with_reducible refine gate_dst (N := 1) rfl ?_); (try (refine gate_guard (by rfl) ?_; dsimp only)); refine box_event ?hg (N := 1) ?hd (cs := #[.int .i64 a0_0, .string a0_1, .int .i64 a0_2]) (t := 35) ?hr ?_; (case hd => rfl); (case hg => rfl); (case hr => first | (go_simp; done) | (go_simp; rfl)); intro gb427 hg w8 hbox hb; have n0_ := Aside0.mk (below_step (zz20_0_ HB.out) hb); have n1_ := Aside0.mk (hbox); have n2_ := Aside0.mk ((by rw [hg]; exact (below_size (zz20_0_ HB.out)) : w.heap.size ≤ gb427)); have n3_ := Aside0.mk ((by rw [hg]; exact (below_size (zz20_0_ HB.out)) : w.heap.size ≤ gb427)); clear HB; have HB := n0_; have BK427 := n1_; have GW427 := n2_; have GE427 := n3_; clear n0_ n1_ n2_ n3_; clear hb hbox hg; have hcz9_0 : w8.cell? ⟨gb427, 0, none⟩ = some (.int .i64 a0_0) := (blk_cell BK427.out 0).trans rfl; have hcz9_1 : w8.cell? ⟨gb427, 1, none⟩ = some (.string a0_1) := (blk_cell BK427.out 1).trans rfl; have hcz9_2 : w8.cell? ⟨gb427, 2, none⟩ = some (.int .i64 a0_2) := (blk_cell BK427.out 2).trans rfl; have hfz9_0 := blk_frozen BK427.out 0; have hfz9_1 := blk_frozen BK427.out 1; have hfz9_2 := blk_frozen BK427.out 2) | ((with_reducible refine gate_callee (f := 39) rfl ?_); refine goesL_ (some 12) rfl rfl Tryz.func39 (by kernel_rfl) rfl #[.string a0_1] rfl (zz20_1_) ?_; (with_reducible refine (spec_ReadFraction.calls k a0_1 t428 t429 true _ A3.out).mono ?_); rintro e w10 ⟨rfl, hb⟩; refine ⟨_, rfl, ?_⟩; have n0_ := Aside0.mk (blk_below (g := gb427) (o := .cells #[.int .i64 a0_0, .string a0_1, .int .i64 a0_2] 35 (0, 0)) (zz20_2_ BK427.out) hb); have n1_ := Aside0.mk (below_step (zz20_3_ HB.out GE427.out) hb); clear BK427; clear HB; have BK427 := n0_; have HB := n1_; clear n0_ n1_; (try clear hb); (try clear hb2); (try clear hk); (try clear hi)) | ((with_reducible refine gate_dst (N := 3) rfl ?_); (try (refine gate_guard (by rfl) ?_; dsimp only)); refine box_event ?hg (N := 3) ?hd (cs := #[.int .i64 0, .int .i64 0]) (t := 49) ?hr ?_; (case hd => rfl); (case hg => rfl); (case hr => first | (go_simp; done) | (go_simp; rfl)); intro gb431 hg w11 hbox hb; have n0_ := Aside0.mk (blk_below (g := gb427) (o := .cells #[.int .i64 a0_0, .string a0_1, .int .i64 a0_2] 35 (0, 0)) (zz20_2_ BK427.out) hb); have n1_ := Aside0.mk (below_step (zz20_3_ HB.out GE427.out) hb); have n2_ := Aside0.mk (hbox); have n3_ := Aside0.mk ((by rw [hg]; exact (below_size (zz20_3_ HB.out GE427.out)) : w.heap.size ≤ gb431)); have n4_ := Aside0.mk ((by rw [hg]; exact (below_size (zz20_3_ HB.out GE427.out)) : w.heap.size ≤ gb431)); have n5_ := Aside0.mk ((by rw [hg]; exact Nat.ne_of_lt (blk_lt (g := gb427) (o := .cells #[.int .i64 a0_0, .string a0_1, .int .i64 a0_2] 35 (0, 0)) (zz20_2_ BK427.out)) : gb427 ≠ gb431)); have n6_ := Aside0.mk ((by rw [hg]; exact Nat.ne_of_gt (blk_lt (g := gb427) (o := .cells #[.int .i64 a0_0, .string a0_1, .int .i64 a0_2] 35 (0, 0)) (zz20_2_ BK427.out)) : gb431 ≠ gb427)); clear BK427; clear HB; have BK427 := n0_; have HB := n1_; have BK431 := n2_; have GW431 := n3_; have GE431 := n4_; have NB427_431 := n5_; have NB431_427 := n6_; clear n0_ n1_ n2_ n3_ n4_ n5_ n6_; clear hb hbox hg; have hnb12 := NB431_427.out; have hnc12 := NB427_431.out; have hcz13_0 : w11.cell? ⟨gb431, 0, none⟩ = some (.int .i64 0) := (blk_cell BK431.out 0).trans rfl; have hcz13_1 : w11.cell? ⟨gb431, 1, none⟩ = some (.int .i64 0) := (blk_cell BK431.out 1).trans rfl; have hfz13_0 := blk_frozen BK431.out 0; have hfz13_1 := blk_frozen BK431.out 1; have hcz14_0 : w11.cell? ⟨gb427, 0, none⟩ = some (.int .i64 a0_0) := (blk_cell BK427.out 0).trans rfl; have hcz14_1 : w11.cell? ⟨gb427, 1, none⟩ = some (.string a0_1) := (blk_cell BK427.out 1).trans rfl; have hcz14_2 : w11.cell? ⟨gb427, 2, none⟩ = some (.int .i64 a0_2) := (blk_cell BK427.out 2).trans rfl; have hfz14_0 := blk_frozen BK427.out 0; have hfz14_1 := blk_frozen BK427.out 1; have hfz14_2 := blk_frozen BK427.out 2))
      go_ret
      exact ⟨by first | rfl | (rw [ne_nil_isEmpty]; done) | (simp [ne_nil_isEmpty]; done) | (simp [errW_none, errW_some] <;> rfl) | (simp [*, errW_none, errW_some] <;> rfl), zz20_4_ HB.out GE427.out GE431.out⟩
     ·rw [if_neg c7] at H
      have c7b0 : (((1000000 : Int) % t429) == 0) = false := beq_eq_false_iff_ne.mpr c7
      have c7b1 : (((1000000 : Int) % t429) != 0) = true := bne_iff_ne.mpr c7
      obtain rfl := Option.some.inj H
      go_enter Tryz.func29, Tryz.ntmps29
      go_wp2_with (first | ((with_reducible refine gate_dst (N := 1) rfl ?_); (try (refine gate_guard (by rfl) ?_; dsimp only)); refine box_event ?hg (N := 1) ?hd (cs := #[.int .i64 a0_0, .string a0_1, .int .i64 a0_2]) (t := 35) ?hr ?_; (case hd => rfl); (case hg => rfl); (case hr => first | (go_simp; done) | (go_simp; rfl)); intro gb427 hg w15 hbox hb; have n0_ := Aside0.mk (below_step (zz20_0_ HB.out) hb); have n1_ := Aside0.mk (hbox); have n2_ := Aside0.mk ((by rw [hg]; exact (below_size (zz20_0_ HB.out)) : w.heap.size ≤ gb427)); have n3_ := Aside0.mk ((by rw [hg]; exact (below_size (zz20_0_ HB.out)) : w.heap.size ≤ gb427)); clear HB; have HB := n0_; have BK427 := n1_; have GW427 := n2_; have GE427 := n3_; clear n0_ n1_ n2_ n3_; clear hb hbox hg; have hcz16_0 : w15.cell? ⟨gb427, 0, none⟩ = some (.int .i64 a0_0) := (blk_cell BK427.out 0).trans rfl; have hcz16_1 : w15.cell? ⟨gb427, 1, none⟩ = some (.string a0_1) := (blk_cell BK427.out 1).trans rfl; have hcz16_2 : w15.cell? ⟨gb427, 2, none⟩ = some (.int .i64 a0_2) := (blk_cell BK427.out 2).trans rfl; have hfz16_0 := blk_frozen BK427.out 0; have hfz16_1 := blk_frozen BK427.out 1; have hfz16_2 := blk_frozen BK427.out 2) | ((with_reducible refine gate_callee (f := 39) rfl ?_); refine goesL_ (some 12) rfl rfl Tryz.func39 (by kernel_rfl) rfl #[.string a0_1] rfl (zz20_1_) ?_; (with_reducible refine (spec_ReadFraction.calls k a0_1 t428 t429 true _ A3.out).mono ?_); rintro e w17 ⟨rfl, hb⟩; refine ⟨_, rfl, ?_⟩; have n0_ := Aside0.mk (blk_below (g := gb427) (o := .cells #[.int .i64 a0_0, .string a0_1, .int .i64 a0_2] 35 (0, 0)) (zz20_2_ BK427.out) hb); have n1_ := Aside0.mk (below_step (zz20_3_ HB.out GE427.out) hb); clear BK427; clear HB; have BK427 := n0_; have HB := n1_; clear n0_ n1_; (try clear hb); (try clear hb2); (try clear hk); (try clear hi)) | ((with_reducible refine gate_dst (N := 3) rfl ?_); (try (refine gate_guard (by rfl) ?_; dsimp only)); refine box_event ?hg (N := 3) ?hd (cs := #[.int .i64 0, .int .i64 0]) (t := 49) ?hr ?_; (case hd => rfl); (case hg => rfl); (case hr => first | (go_simp; done) | (go_simp; rfl)); intro gb431 hg w18 hbox hb; have n0_ := Aside0.mk (blk_below (g := gb427) (o := .cells #[.int .i64 a0_0, .string a0_1, .int .i64 a0_2] 35 (0, 0)) (zz20_2_ BK427.out) hb); have n1_ := Aside0.mk (below_step (zz20_3_ HB.out GE427.out) hb); have n2_ := Aside0.mk (hbox); have n3_ := Aside0.mk ((by rw [hg]; exact (below_size (zz20_3_ HB.out GE427.out)) : w.heap.size ≤ gb431)); have n4_ := Aside0.mk ((by rw [hg]; exact (below_size (zz20_3_ HB.out GE427.out)) : w.heap.size ≤ gb431)); have n5_ := Aside0.mk ((by rw [hg]; exact Nat.ne_of_lt (blk_lt (g := gb427) (o := .cells #[.int .i64 a0_0, .string a0_1, .int .i64 a0_2] 35 (0, 0)) (zz20_2_ BK427.out)) : gb427 ≠ gb431)); have n6_ := Aside0.mk ((by rw [hg]; exact Nat.ne_of_gt (blk_lt (g := gb427) (o := .cells #[.int .i64 a0_0, .string a0_1, .int .i64 a0_2] 35 (0, 0)) (zz20_2_ BK427.out)) : gb431 ≠ gb427)); clear BK427; clear HB; have BK427 := n0_; have HB := n1_; have BK431 := n2_; have GW431 := n3_; have GE431 := n4_; have NB427_431 := n5_; have NB431_427 := n6_; clear n0_ n1_ n2_ n3_ n4_ n5_ n6_; clear hb hbox hg; have hnb19 := NB431_427.out; have hnc19 := NB427_431.out; have hcz20_0 : w18.cell? ⟨gb431, 0, none⟩ = some (.int .i64 0) := (blk_cell BK431.out 0).trans rfl; have hcz20_1 : w18.cell? ⟨gb431, 1, none⟩ = some (.int .i64 0) := (blk_cell BK431.out 1).trans rfl; have hfz20_0 := blk_frozen BK431.out 0; have hfz20_1 := blk_frozen BK431.out 1))
      go_ret
      exact ⟨by first | rfl | (rw [ne_nil_isEmpty]; done) | (simp [ne_nil_isEmpty]; done) | (simp [errW_none, errW_some] <;> rfl) | (simp [*, errW_none, errW_some] <;> rfl), zz20_4_ HB.out GE427.out GE431.out⟩
   ·rw [if_neg c5] at H
    have c5b0 : decide (0 ≤ t428) = false := decide_eq_false c5
    clear c5
    obtain rfl := Option.some.inj H
    go_enter Tryz.func29, Tryz.ntmps29
    go_wp2_with (first | ((with_reducible refine gate_dst (N := 1) rfl ?_); (try (refine gate_guard (by rfl) ?_; dsimp only)); refine box_event ?hg (N := 1) ?hd (cs := #[.int .i64 a0_0, .string a0_1, .int .i64 a0_2]) (t := 35) ?hr ?_; (case hd => rfl); (case hg => rfl); (case hr => first | (go_simp; done) | (go_simp; rfl)); intro gb427 hg w21 hbox hb; have n0_ := Aside0.mk (below_step (zz20_0_ HB.out) hb); have n1_ := Aside0.mk (hbox); have n2_ := Aside0.mk ((by rw [hg]; exact (below_size (zz20_0_ HB.out)) : w.heap.size ≤ gb427)); have n3_ := Aside0.mk ((by rw [hg]; exact (below_size (zz20_0_ HB.out)) : w.heap.size ≤ gb427)); clear HB; have HB := n0_; have BK427 := n1_; have GW427 := n2_; have GE427 := n3_; clear n0_ n1_ n2_ n3_; clear hb hbox hg; have hcz22_0 : w21.cell? ⟨gb427, 0, none⟩ = some (.int .i64 a0_0) := (blk_cell BK427.out 0).trans rfl; have hcz22_1 : w21.cell? ⟨gb427, 1, none⟩ = some (.string a0_1) := (blk_cell BK427.out 1).trans rfl; have hcz22_2 : w21.cell? ⟨gb427, 2, none⟩ = some (.int .i64 a0_2) := (blk_cell BK427.out 2).trans rfl; have hfz22_0 := blk_frozen BK427.out 0; have hfz22_1 := blk_frozen BK427.out 1; have hfz22_2 := blk_frozen BK427.out 2) | ((with_reducible refine gate_callee (f := 39) rfl ?_); refine goesL_ (some 12) rfl rfl Tryz.func39 (by kernel_rfl) rfl #[.string a0_1] rfl (zz20_1_) ?_; (with_reducible refine (spec_ReadFraction.calls k a0_1 t428 t429 true _ A3.out).mono ?_); rintro e w23 ⟨rfl, hb⟩; refine ⟨_, rfl, ?_⟩; have n0_ := Aside0.mk (blk_below (g := gb427) (o := .cells #[.int .i64 a0_0, .string a0_1, .int .i64 a0_2] 35 (0, 0)) (zz20_2_ BK427.out) hb); have n1_ := Aside0.mk (below_step (zz20_3_ HB.out GE427.out) hb); clear BK427; clear HB; have BK427 := n0_; have HB := n1_; clear n0_ n1_; (try clear hb); (try clear hb2); (try clear hk); (try clear hi)) | ((with_reducible refine gate_dst (N := 3) rfl ?_); (try (refine gate_guard (by rfl) ?_; dsimp only)); refine box_event ?hg (N := 3) ?hd (cs := #[.int .i64 0, .int .i64 0]) (t := 49) ?hr ?_; (case hd => rfl); (case hg => rfl); (case hr => first | (go_simp; done) | (go_simp; rfl)); intro gb431 hg w24 hbox hb; have n0_ := Aside0.mk (blk_below (g := gb427) (o := .cells #[.int .i64 a0_0, .string a0_1, .int .i64 a0_2] 35 (0, 0)) (zz20_2_ BK427.out) hb); have n1_ := Aside0.mk (below_step (zz20_3_ HB.out GE427.out) hb); have n2_ := Aside0.mk (hbox); have n3_ := Aside0.mk ((by rw [hg]; exact (below_size (zz20_3_ HB.out GE427.out)) : w.heap.size ≤ gb431)); have n4_ := Aside0.mk ((by rw [hg]; exact (below_size (zz20_3_ HB.out GE427.out)) : w.heap.size ≤ gb431)); have n5_ := Aside0.mk ((by rw [hg]; exact Nat.ne_of_lt (blk_lt (g := gb427) (o := .cells #[.int .i64 a0_0, .string a0_1, .int .i64 a0_2] 35 (0, 0)) (zz20_2_ BK427.out)) : gb427 ≠ gb431)); have n6_ := Aside0.mk ((by rw [hg]; exact Nat.ne_of_gt (blk_lt (g := gb427) (o := .cells #[.int .i64 a0_0, .string a0_1, .int .i64 a0_2] 35 (0, 0)) (zz20_2_ BK427.out)) : gb431 ≠ gb427)); clear BK427; clear HB; have BK427 := n0_; have HB := n1_; have BK431 := n2_; have GW431 := n3_; have GE431 := n4_; have NB427_431 := n5_; have NB431_427 := n6_; clear n0_ n1_ n2_ n3_ n4_ n5_ n6_; clear hb hbox hg; have hnb25 := NB431_427.out; have hnc25 := NB427_431.out; have hcz26_0 : w24.cell? ⟨gb431, 0, none⟩ = some (.int .i64 0) := (blk_cell BK431.out 0).trans rfl; have hcz26_1 : w24.cell? ⟨gb431, 1, none⟩ = some (.int .i64 0) := (blk_cell BK431.out 1).trans rfl; have hfz26_0 := blk_frozen BK431.out 0; have hfz26_1 := blk_frozen BK431.out 1))
    go_ret
    exact ⟨by first | rfl | (rw [ne_nil_isEmpty]; done) | (simp [ne_nil_isEmpty]; done) | (simp [errW_none, errW_some] <;> rfl) | (simp [*, errW_none, errW_some] <;> rfl), zz20_4_ HB.out GE427.out GE431.out⟩
  ·replace c4 := Bool.eq_false_iff.mpr c4
   subst c4
   rw [if_neg (show ¬ (false = true) by decide)] at H
   obtain rfl := Option.some.inj H
   go_enter Tryz.func29, Tryz.ntmps29
   go_wp2_with (first | ((with_reducible refine gate_dst (N := 1) rfl ?_); (try (refine gate_guard (by rfl) ?_; dsimp only)); refine box_event ?hg (N := 1) ?hd (cs := #[.int .i64 a0_0, .string a0_1, .int .i64 a0_2]) (t := 35) ?hr ?_; (case hd => rfl); (case hg => rfl); (case hr => first | (go_simp; done) | (go_simp; rfl)); intro gb427 hg w27 hbox hb; have n0_ := Aside0.mk (below_step (zz20_0_ HB.out) hb); have n1_ := Aside0.mk (hbox); have n2_ := Aside0.mk ((by rw [hg]; exact (below_size (zz20_0_ HB.out)) : w.heap.size ≤ gb427)); have n3_ := Aside0.mk ((by rw [hg]; exact (below_size (zz20_0_ HB.out)) : w.heap.size ≤ gb427)); clear HB; have HB := n0_; have BK427 := n1_; have GW427 := n2_; have GE427 := n3_; clear n0_ n1_ n2_ n3_; clear hb hbox hg; have hcz28_0 : w27.cell? ⟨gb427, 0, none⟩ = some (.int .i64 a0_0) := (blk_cell BK427.out 0).trans rfl; have hcz28_1 : w27.cell? ⟨gb427, 1, none⟩ = some (.string a0_1) := (blk_cell BK427.out 1).trans rfl; have hcz28_2 : w27.cell? ⟨gb427, 2, none⟩ = some (.int .i64 a0_2) := (blk_cell BK427.out 2).trans rfl; have hfz28_0 := blk_frozen BK427.out 0; have hfz28_1 := blk_frozen BK427.out 1; have hfz28_2 := blk_frozen BK427.out 2) | ((with_reducible refine gate_callee (f := 39) rfl ?_); refine goesL_ (some 12) rfl rfl Tryz.func39 (by kernel_rfl) rfl #[.string a0_1] rfl (zz20_1_) ?_; (with_reducible refine (spec_ReadFraction.calls k a0_1 t428 t429 false _ A3.out).mono ?_); rintro e w29 ⟨rfl, hb⟩; refine ⟨_, rfl, ?_⟩; have n0_ := Aside0.mk (blk_below (g := gb427) (o := .cells #[.int .i64 a0_0, .string a0_1, .int .i64 a0_2] 35 (0, 0)) (zz20_2_ BK427.out) hb); have n1_ := Aside0.mk (below_step (zz20_3_ HB.out GE427.out) hb); clear BK427; clear HB; have BK427 := n0_; have HB := n1_; clear n0_ n1_; (try clear hb); (try clear hb2); (try clear hk); (try clear hi)) | ((with_reducible refine gate_dst (N := 3) rfl ?_); (try (refine gate_guard (by rfl) ?_; dsimp only)); refine box_event ?hg (N := 3) ?hd (cs := #[.int .i64 0, .int .i64 0]) (t := 49) ?hr ?_; (case hd => rfl); (case hg => rfl); (case hr => first | (go_simp; done) | (go_simp; rfl)); intro gb431 hg w30 hbox hb; have n0_ := Aside0.mk (blk_below (g := gb427) (o := .cells #[.int .i64 a0_0, .string a0_1, .int .i64 a0_2] 35 (0, 0)) (zz20_2_ BK427.out) hb); have n1_ := Aside0.mk (below_step (zz20_3_ HB.out GE427.out) hb); have n2_ := Aside0.mk (hbox); have n3_ := Aside0.mk ((by rw [hg]; exact (below_size (zz20_3_ HB.out GE427.out)) : w.heap.size ≤ gb431)); have n4_ := Aside0.mk ((by rw [hg]; exact (below_size (zz20_3_ HB.out GE427.out)) : w.heap.size ≤ gb431)); have n5_ := Aside0.mk ((by rw [hg]; exact Nat.ne_of_lt (blk_lt (g := gb427) (o := .cells #[.int .i64 a0_0, .string a0_1, .int .i64 a0_2] 35 (0, 0)) (zz20_2_ BK427.out)) : gb427 ≠ gb431)); have n6_ := Aside0.mk ((by rw [hg]; exact Nat.ne_of_gt (blk_lt (g := gb427) (o := .cells #[.int .i64 a0_0, .string a0_1, .int .i64 a0_2] 35 (0, 0)) (zz20_2_ BK427.out)) : gb431 ≠ gb427)); clear BK427; clear HB; have BK427 := n0_; have HB := n1_; have BK431 := n2_; have GW431 := n3_; have GE431 := n4_; have NB427_431 := n5_; have NB431_427 := n6_; clear n0_ n1_ n2_ n3_ n4_ n5_ n6_; clear hb hbox hg; have hnb31 := NB431_427.out; have hnc31 := NB427_431.out; have hcz32_0 : w30.cell? ⟨gb431, 0, none⟩ = some (.int .i64 0) := (blk_cell BK431.out 0).trans rfl; have hcz32_1 : w30.cell? ⟨gb431, 1, none⟩ = some (.int .i64 0) := (blk_cell BK431.out 1).trans rfl; have hfz32_0 := blk_frozen BK431.out 0; have hfz32_1 := blk_frozen BK431.out 1))
   go_ret
   exact ⟨by first | rfl | (rw [ne_nil_isEmpty]; done) | (simp [ne_nil_isEmpty]; done) | (simp [errW_none, errW_some] <;> rfl) | (simp [*, errW_none, errW_some] <;> rfl), zz20_4_ HB.out GE427.out GE431.out⟩
 ·rw [if_neg c2] at H
  have c2b0 : (a0_0 == 1) = false := beq_eq_false_iff_ne.mpr c2
  have c2b1 : (a0_0 != 1) = true := bne_iff_ne.mpr c2
  by_cases c33 : a0_0 = 2
  ·rw [if_pos c33] at H
   have c33b0 : (a0_0 == 2) = true := beq_iff_eq.mpr c33
   have c33b1 : (a0_0 != 2) = false := bne_eq_false_iff_eq.mpr c33
   clear c33
   replace H := Option.bind_eq_some_iff.mp H
   obtain ⟨t432, A340, H⟩ := H
   try dsimp only at H
   have A34 := Aside0.mk A340
   clear A340
   by_cases c35 : t432 = true
   ·subst c35
    rw [if_pos rfl] at H
    by_cases c36 : (a0_1.size : Int) ≤ 60
    ·rw [if_pos c36] at H
     have c36b0 : decide ((a0_1.size : Int) ≤ 60) = true := decide_eq_true c36
     have c36b1 : decide (a0_1.size ≤ 60) = true := decide_eq_true (by omega)
     clear c36
     obtain rfl := Option.some.inj H
     go_enter Tryz.func29, Tryz.ntmps29
     go_wp2_with (first | ((with_reducible refine gate_dst (N := 1) rfl ?_); (try (refine gate_guard (by rfl) ?_; dsimp only)); refine box_event ?hg (N := 1) ?hd (cs := #[.int .i64 a0_0, .string a0_1, .int .i64 a0_2]) (t := 35) ?hr ?_; (case hd => rfl); (case hg => rfl); (case hr => first | (go_simp; done) | (go_simp; rfl)); intro gb427 hg w37 hbox hb; have n0_ := Aside0.mk (below_step (zz20_0_ HB.out) hb); have n1_ := Aside0.mk (hbox); have n2_ := Aside0.mk ((by rw [hg]; exact (below_size (zz20_0_ HB.out)) : w.heap.size ≤ gb427)); have n3_ := Aside0.mk ((by rw [hg]; exact (below_size (zz20_0_ HB.out)) : w.heap.size ≤ gb427)); clear HB; have HB := n0_; have BK427 := n1_; have GW427 := n2_; have GE427 := n3_; clear n0_ n1_ n2_ n3_; clear hb hbox hg; have hcz38_0 : w37.cell? ⟨gb427, 0, none⟩ = some (.int .i64 a0_0) := (blk_cell BK427.out 0).trans rfl; have hcz38_1 : w37.cell? ⟨gb427, 1, none⟩ = some (.string a0_1) := (blk_cell BK427.out 1).trans rfl; have hcz38_2 : w37.cell? ⟨gb427, 2, none⟩ = some (.int .i64 a0_2) := (blk_cell BK427.out 2).trans rfl; have hfz38_0 := blk_frozen BK427.out 0; have hfz38_1 := blk_frozen BK427.out 1; have hfz38_2 := blk_frozen BK427.out 2) | ((with_reducible refine gate_callee (f := 40) rfl ?_); refine goesL_ (some 36) rfl rfl Tryz.func40 (by kernel_rfl) rfl #[.string a0_1] rfl (zz20_1_) ?_; (with_reducible refine (spec_TextValid.calls k a0_1 true _ A34.out).mono ?_); rintro e w' ⟨rfl, ⟨nd, rfl⟩⟩; refine ⟨_, rfl, ?_⟩))
     go_ret
     exact ⟨by first | rfl | (rw [ne_nil_isEmpty]; done) | (simp [ne_nil_isEmpty]; done) | (simp [errW_none, errW_some] <;> rfl) | (simp [*, errW_none, errW_some] <;> rfl), zz20_3_ HB.out GE427.out⟩
    ·rw [if_neg c36] at H
     have c36b0 : decide ((a0_1.size : Int) ≤ 60) = false := decide_eq_false c36
     have c36b1 : decide (a0_1.size ≤ 60) = false := decide_eq_false (by omega)
     clear c36
     obtain rfl := Option.some.inj H
     go_enter Tryz.func29, Tryz.ntmps29
     go_wp2_with (first | ((with_reducible refine gate_dst (N := 1) rfl ?_); (try (refine gate_guard (by rfl) ?_; dsimp only)); refine box_event ?hg (N := 1) ?hd (cs := #[.int .i64 a0_0, .string a0_1, .int .i64 a0_2]) (t := 35) ?hr ?_; (case hd => rfl); (case hg => rfl); (case hr => first | (go_simp; done) | (go_simp; rfl)); intro gb427 hg w39 hbox hb; have n0_ := Aside0.mk (below_step (zz20_0_ HB.out) hb); have n1_ := Aside0.mk (hbox); have n2_ := Aside0.mk ((by rw [hg]; exact (below_size (zz20_0_ HB.out)) : w.heap.size ≤ gb427)); have n3_ := Aside0.mk ((by rw [hg]; exact (below_size (zz20_0_ HB.out)) : w.heap.size ≤ gb427)); clear HB; have HB := n0_; have BK427 := n1_; have GW427 := n2_; have GE427 := n3_; clear n0_ n1_ n2_ n3_; clear hb hbox hg; have hcz40_0 : w39.cell? ⟨gb427, 0, none⟩ = some (.int .i64 a0_0) := (blk_cell BK427.out 0).trans rfl; have hcz40_1 : w39.cell? ⟨gb427, 1, none⟩ = some (.string a0_1) := (blk_cell BK427.out 1).trans rfl; have hcz40_2 : w39.cell? ⟨gb427, 2, none⟩ = some (.int .i64 a0_2) := (blk_cell BK427.out 2).trans rfl; have hfz40_0 := blk_frozen BK427.out 0; have hfz40_1 := blk_frozen BK427.out 1; have hfz40_2 := blk_frozen BK427.out 2) | ((with_reducible refine gate_callee (f := 40) rfl ?_); refine goesL_ (some 36) rfl rfl Tryz.func40 (by kernel_rfl) rfl #[.string a0_1] rfl (zz20_1_) ?_; (with_reducible refine (spec_TextValid.calls k a0_1 true _ A34.out).mono ?_); rintro e w' ⟨rfl, ⟨nd, rfl⟩⟩; refine ⟨_, rfl, ?_⟩))
     go_ret
     exact ⟨by first | rfl | (rw [ne_nil_isEmpty]; done) | (simp [ne_nil_isEmpty]; done) | (simp [errW_none, errW_some] <;> rfl) | (simp [*, errW_none, errW_some] <;> rfl), zz20_3_ HB.out GE427.out⟩
   ·replace c35 := Bool.eq_false_iff.mpr c35
    subst c35
    rw [if_neg (show ¬ (false = true) by decide)] at H
    obtain rfl := Option.some.inj H
    go_enter Tryz.func29, Tryz.ntmps29
    go_wp2_with (first | ((with_reducible refine gate_dst (N := 1) rfl ?_); (try (refine gate_guard (by rfl) ?_; dsimp only)); refine box_event ?hg (N := 1) ?hd (cs := #[.int .i64 a0_0, .string a0_1, .int .i64 a0_2]) (t := 35) ?hr ?_; (case hd => rfl); (case hg => rfl); (case hr => first | (go_simp; done) | (go_simp; rfl)); intro gb427 hg w41 hbox hb; have n0_ := Aside0.mk (below_step (zz20_0_ HB.out) hb); have n1_ := Aside0.mk (hbox); have n2_ := Aside0.mk ((by rw [hg]; exact (below_size (zz20_0_ HB.out)) : w.heap.size ≤ gb427)); have n3_ := Aside0.mk ((by rw [hg]; exact (below_size (zz20_0_ HB.out)) : w.heap.size ≤ gb427)); clear HB; have HB := n0_; have BK427 := n1_; have GW427 := n2_; have GE427 := n3_; clear n0_ n1_ n2_ n3_; clear hb hbox hg; have hcz42_0 : w41.cell? ⟨gb427, 0, none⟩ = some (.int .i64 a0_0) := (blk_cell BK427.out 0).trans rfl; have hcz42_1 : w41.cell? ⟨gb427, 1, none⟩ = some (.string a0_1) := (blk_cell BK427.out 1).trans rfl; have hcz42_2 : w41.cell? ⟨gb427, 2, none⟩ = some (.int .i64 a0_2) := (blk_cell BK427.out 2).trans rfl; have hfz42_0 := blk_frozen BK427.out 0; have hfz42_1 := blk_frozen BK427.out 1; have hfz42_2 := blk_frozen BK427.out 2) | ((with_reducible refine gate_callee (f := 40) rfl ?_); refine goesL_ (some 36) rfl rfl Tryz.func40 (by kernel_rfl) rfl #[.string a0_1] rfl (zz20_1_) ?_; (with_reducible refine (spec_TextValid.calls k a0_1 false _ A34.out).mono ?_); rintro e w' ⟨rfl, ⟨nd, rfl⟩⟩; refine ⟨_, rfl, ?_⟩))
    go_ret
    exact ⟨by first | rfl | (rw [ne_nil_isEmpty]; done) | (simp [ne_nil_isEmpty]; done) | (simp [errW_none, errW_some] <;> rfl) | (simp [*, errW_none, errW_some] <;> rfl), zz20_3_ HB.out GE427.out⟩
  ·rw [if_neg c33] at H
   have c33b0 : (a0_0 == 2) = false := beq_eq_false_iff_ne.mpr c33
   have c33b1 : (a0_0 != 2) = true := bne_iff_ne.mpr c33
   by_cases c43 : a0_0 = 3
   ·rw [if_pos c43] at H
    have c43b0 : (a0_0 == 3) = true := beq_iff_eq.mpr c43
    have c43b1 : (a0_0 != 3) = false := bne_eq_false_iff_eq.mpr c43
    clear c43
    by_cases c44 : a0_1.toList = ([116, 114, 117, 101] : List UInt8)
    ·rw [if_pos c44] at H
     have c44b0 : (a0_1.toList == ([116, 114, 117, 101] : List UInt8)) = true := beq_iff_eq.mpr c44
     have c44b1 : (a0_1.toList != ([116, 114, 117, 101] : List UInt8)) = false := bne_eq_false_iff_eq.mpr c44
     clear c44
     obtain rfl := Option.some.inj H
     go_enter Tryz.func29, Tryz.ntmps29
     go_wp2_with (first | ((with_reducible refine gate_dst (N := 1) rfl ?_); (try (refine gate_guard (by rfl) ?_; dsimp only)); refine box_event ?hg (N := 1) ?hd (cs := #[.int .i64 a0_0, .string a0_1, .int .i64 a0_2]) (t := 35) ?hr ?_; (case hd => rfl); (case hg => rfl); (case hr => first | (go_simp; done) | (go_simp; rfl)); intro gb427 hg w45 hbox hb; have n0_ := Aside0.mk (below_step (zz20_0_ HB.out) hb); have n1_ := Aside0.mk (hbox); have n2_ := Aside0.mk ((by rw [hg]; exact (below_size (zz20_0_ HB.out)) : w.heap.size ≤ gb427)); have n3_ := Aside0.mk ((by rw [hg]; exact (below_size (zz20_0_ HB.out)) : w.heap.size ≤ gb427)); clear HB; have HB := n0_; have BK427 := n1_; have GW427 := n2_; have GE427 := n3_; clear n0_ n1_ n2_ n3_; clear hb hbox hg; have hcz46_0 : w45.cell? ⟨gb427, 0, none⟩ = some (.int .i64 a0_0) := (blk_cell BK427.out 0).trans rfl; have hcz46_1 : w45.cell? ⟨gb427, 1, none⟩ = some (.string a0_1) := (blk_cell BK427.out 1).trans rfl; have hcz46_2 : w45.cell? ⟨gb427, 2, none⟩ = some (.int .i64 a0_2) := (blk_cell BK427.out 2).trans rfl; have hfz46_0 := blk_frozen BK427.out 0; have hfz46_1 := blk_frozen BK427.out 1; have hfz46_2 := blk_frozen BK427.out 2))
     go_ret
     exact ⟨by first | rfl | (rw [ne_nil_isEmpty]; done) | (simp [ne_nil_isEmpty]; done) | (simp [errW_none, errW_some] <;> rfl) | (simp [*, errW_none, errW_some] <;> rfl), zz20_3_ HB.out GE427.out⟩
    ·rw [if_neg c44] at H
     have c44b0 : (a0_1.toList == ([116, 114, 117, 101] : List UInt8)) = false := beq_eq_false_iff_ne.mpr c44
     have c44b1 : (a0_1.toList != ([116, 114, 117, 101] : List UInt8)) = true := bne_iff_ne.mpr c44
     by_cases c47 : a0_1.toList = ([102, 97, 108, 115, 101] : List UInt8)
     ·rw [if_pos c47] at H
      have c47b0 : (a0_1.toList == ([102, 97, 108, 115, 101] : List UInt8)) = true := beq_iff_eq.mpr c47
      have c47b1 : (a0_1.toList != ([102, 97, 108, 115, 101] : List UInt8)) = false := bne_eq_false_iff_eq.mpr c47
      clear c47
      obtain rfl := Option.some.inj H
      go_enter Tryz.func29, Tryz.ntmps29
      go_wp2_with (first | ((with_reducible refine gate_dst (N := 1) rfl ?_); (try (refine gate_guard (by rfl) ?_; dsimp only)); refine box_event ?hg (N := 1) ?hd (cs := #[.int .i64 a0_0, .string a0_1, .int .i64 a0_2]) (t := 35) ?hr ?_; (case hd => rfl); (case hg => rfl); (case hr => first | (go_simp; done) | (go_simp; rfl)); intro gb427 hg w48 hbox hb; have n0_ := Aside0.mk (below_step (zz20_0_ HB.out) hb); have n1_ := Aside0.mk (hbox); have n2_ := Aside0.mk ((by rw [hg]; exact (below_size (zz20_0_ HB.out)) : w.heap.size ≤ gb427)); have n3_ := Aside0.mk ((by rw [hg]; exact (below_size (zz20_0_ HB.out)) : w.heap.size ≤ gb427)); clear HB; have HB := n0_; have BK427 := n1_; have GW427 := n2_; have GE427 := n3_; clear n0_ n1_ n2_ n3_; clear hb hbox hg; have hcz49_0 : w48.cell? ⟨gb427, 0, none⟩ = some (.int .i64 a0_0) := (blk_cell BK427.out 0).trans rfl; have hcz49_1 : w48.cell? ⟨gb427, 1, none⟩ = some (.string a0_1) := (blk_cell BK427.out 1).trans rfl; have hcz49_2 : w48.cell? ⟨gb427, 2, none⟩ = some (.int .i64 a0_2) := (blk_cell BK427.out 2).trans rfl; have hfz49_0 := blk_frozen BK427.out 0; have hfz49_1 := blk_frozen BK427.out 1; have hfz49_2 := blk_frozen BK427.out 2))
      go_ret
      exact ⟨by first | rfl | (rw [ne_nil_isEmpty]; done) | (simp [ne_nil_isEmpty]; done) | (simp [errW_none, errW_some] <;> rfl) | (simp [*, errW_none, errW_some] <;> rfl), zz20_3_ HB.out GE427.out⟩
     ·rw [if_neg c47] at H
      have c47b0 : (a0_1.toList == ([102, 97, 108, 115, 101] : List UInt8)) = false := beq_eq_false_iff_ne.mpr c47
      have c47b1 : (a0_1.toList != ([102, 97, 108, 115, 101] : List UInt8)) = true := bne_iff_ne.mpr c47
      obtain rfl := Option.some.inj H
      go_enter Tryz.func29, Tryz.ntmps29
      go_wp2_with (first | ((with_reducible refine gate_dst (N := 1) rfl ?_); (try (refine gate_guard (by rfl) ?_; dsimp only)); refine box_event ?hg (N := 1) ?hd (cs := #[.int .i64 a0_0, .string a0_1, .int .i64 a0_2]) (t := 35) ?hr ?_; (case hd => rfl); (case hg => rfl); (case hr => first | (go_simp; done) | (go_simp; rfl)); intro gb427 hg w50 hbox hb; have n0_ := Aside0.mk (below_step (zz20_0_ HB.out) hb); have n1_ := Aside0.mk (hbox); have n2_ := Aside0.mk ((by rw [hg]; exact (below_size (zz20_0_ HB.out)) : w.heap.size ≤ gb427)); have n3_ := Aside0.mk ((by rw [hg]; exact (below_size (zz20_0_ HB.out)) : w.heap.size ≤ gb427)); clear HB; have HB := n0_; have BK427 := n1_; have GW427 := n2_; have GE427 := n3_; clear n0_ n1_ n2_ n3_; clear hb hbox hg; have hcz51_0 : w50.cell? ⟨gb427, 0, none⟩ = some (.int .i64 a0_0) := (blk_cell BK427.out 0).trans rfl; have hcz51_1 : w50.cell? ⟨gb427, 1, none⟩ = some (.string a0_1) := (blk_cell BK427.out 1).trans rfl; have hcz51_2 : w50.cell? ⟨gb427, 2, none⟩ = some (.int .i64 a0_2) := (blk_cell BK427.out 2).trans rfl; have hfz51_0 := blk_frozen BK427.out 0; have hfz51_1 := blk_frozen BK427.out 1; have hfz51_2 := blk_frozen BK427.out 2))
      go_ret
      exact ⟨by first | rfl | (rw [ne_nil_isEmpty]; done) | (simp [ne_nil_isEmpty]; done) | (simp [errW_none, errW_some] <;> rfl) | (simp [*, errW_none, errW_some] <;> rfl), zz20_3_ HB.out GE427.out⟩
   ·rw [if_neg c43] at H
    have c43b0 : (a0_0 == 3) = false := beq_eq_false_iff_ne.mpr c43
    have c43b1 : (a0_0 != 3) = true := bne_iff_ne.mpr c43
    by_cases c52 : a0_0 = 4
    ·rw [if_pos c52] at H
     have c52b0 : (a0_0 == 4) = true := beq_iff_eq.mpr c52
     have c52b1 : (a0_0 != 4) = false := bne_eq_false_iff_eq.mpr c52
     clear c52
     replace H := Option.bind_eq_some_iff.mp H
     obtain ⟨t433, A530, H⟩ := H
     try dsimp only at H
     have A53 := Aside0.mk A530
     clear A530
     by_cases c54 : t433 = true
     ·subst c54
      rw [if_pos rfl] at H
      by_cases c55 : (a0_1.size : Int) ≤ 60
      ·rw [if_pos c55] at H
       have c55b0 : decide ((a0_1.size : Int) ≤ 60) = true := decide_eq_true c55
       have c55b1 : decide (a0_1.size ≤ 60) = true := decide_eq_true (by omega)
       clear c55
       obtain rfl := Option.some.inj H
       go_enter Tryz.func29, Tryz.ntmps29
       go_wp2_with (first | ((with_reducible refine gate_dst (N := 1) rfl ?_); (try (refine gate_guard (by rfl) ?_; dsimp only)); refine box_event ?hg (N := 1) ?hd (cs := #[.int .i64 a0_0, .string a0_1, .int .i64 a0_2]) (t := 35) ?hr ?_; (case hd => rfl); (case hg => rfl); (case hr => first | (go_simp; done) | (go_simp; rfl)); intro gb427 hg w56 hbox hb; have n0_ := Aside0.mk (below_step (zz20_0_ HB.out) hb); have n1_ := Aside0.mk (hbox); have n2_ := Aside0.mk ((by rw [hg]; exact (below_size (zz20_0_ HB.out)) : w.heap.size ≤ gb427)); have n3_ := Aside0.mk ((by rw [hg]; exact (below_size (zz20_0_ HB.out)) : w.heap.size ≤ gb427)); clear HB; have HB := n0_; have BK427 := n1_; have GW427 := n2_; have GE427 := n3_; clear n0_ n1_ n2_ n3_; clear hb hbox hg; have hcz57_0 : w56.cell? ⟨gb427, 0, none⟩ = some (.int .i64 a0_0) := (blk_cell BK427.out 0).trans rfl; have hcz57_1 : w56.cell? ⟨gb427, 1, none⟩ = some (.string a0_1) := (blk_cell BK427.out 1).trans rfl; have hcz57_2 : w56.cell? ⟨gb427, 2, none⟩ = some (.int .i64 a0_2) := (blk_cell BK427.out 2).trans rfl; have hfz57_0 := blk_frozen BK427.out 0; have hfz57_1 := blk_frozen BK427.out 1; have hfz57_2 := blk_frozen BK427.out 2) | ((with_reducible refine gate_callee (f := 41) rfl ?_); refine goesL_ (some 67) rfl rfl Tryz.func41 (by kernel_rfl) rfl #[.string a0_1] rfl (zz20_1_) ?_; (with_reducible refine (spec_NameValid.calls k a0_1 true _ A53.out).mono ?_); rintro e w' ⟨rfl, ⟨nd, rfl⟩⟩; refine ⟨_, rfl, ?_⟩))
       go_ret
       exact ⟨by first | rfl | (rw [ne_nil_isEmpty]; done) | (simp [ne_nil_isEmpty]; done) | (simp [errW_none, errW_some] <;> rfl) | (simp [*, errW_none, errW_some] <;> rfl), zz20_3_ HB.out GE427.out⟩
      ·rw [if_neg c55] at H
       have c55b0 : decide ((a0_1.size : Int) ≤ 60) = false := decide_eq_false c55
       have c55b1 : decide (a0_1.size ≤ 60) = false := decide_eq_false (by omega)
       clear c55
       obtain rfl := Option.some.inj H
       go_enter Tryz.func29, Tryz.ntmps29
       go_wp2_with (first | ((with_reducible refine gate_dst (N := 1) rfl ?_); (try (refine gate_guard (by rfl) ?_; dsimp only)); refine box_event ?hg (N := 1) ?hd (cs := #[.int .i64 a0_0, .string a0_1, .int .i64 a0_2]) (t := 35) ?hr ?_; (case hd => rfl); (case hg => rfl); (case hr => first | (go_simp; done) | (go_simp; rfl)); intro gb427 hg w58 hbox hb; have n0_ := Aside0.mk (below_step (zz20_0_ HB.out) hb); have n1_ := Aside0.mk (hbox); have n2_ := Aside0.mk ((by rw [hg]; exact (below_size (zz20_0_ HB.out)) : w.heap.size ≤ gb427)); have n3_ := Aside0.mk ((by rw [hg]; exact (below_size (zz20_0_ HB.out)) : w.heap.size ≤ gb427)); clear HB; have HB := n0_; have BK427 := n1_; have GW427 := n2_; have GE427 := n3_; clear n0_ n1_ n2_ n3_; clear hb hbox hg; have hcz59_0 : w58.cell? ⟨gb427, 0, none⟩ = some (.int .i64 a0_0) := (blk_cell BK427.out 0).trans rfl; have hcz59_1 : w58.cell? ⟨gb427, 1, none⟩ = some (.string a0_1) := (blk_cell BK427.out 1).trans rfl; have hcz59_2 : w58.cell? ⟨gb427, 2, none⟩ = some (.int .i64 a0_2) := (blk_cell BK427.out 2).trans rfl; have hfz59_0 := blk_frozen BK427.out 0; have hfz59_1 := blk_frozen BK427.out 1; have hfz59_2 := blk_frozen BK427.out 2) | ((with_reducible refine gate_callee (f := 41) rfl ?_); refine goesL_ (some 67) rfl rfl Tryz.func41 (by kernel_rfl) rfl #[.string a0_1] rfl (zz20_1_) ?_; (with_reducible refine (spec_NameValid.calls k a0_1 true _ A53.out).mono ?_); rintro e w' ⟨rfl, ⟨nd, rfl⟩⟩; refine ⟨_, rfl, ?_⟩))
       go_ret
       exact ⟨by first | rfl | (rw [ne_nil_isEmpty]; done) | (simp [ne_nil_isEmpty]; done) | (simp [errW_none, errW_some] <;> rfl) | (simp [*, errW_none, errW_some] <;> rfl), zz20_3_ HB.out GE427.out⟩
     ·replace c54 := Bool.eq_false_iff.mpr c54
      subst c54
      rw [if_neg (show ¬ (false = true) by decide)] at H
      obtain rfl := Option.some.inj H
      go_enter Tryz.func29, Tryz.ntmps29
      go_wp2_with (first | ((with_reducible refine gate_dst (N := 1) rfl ?_); (try (refine gate_guard (by rfl) ?_; dsimp only)); refine box_event ?hg (N := 1) ?hd (cs := #[.int .i64 a0_0, .string a0_1, .int .i64 a0_2]) (t := 35) ?hr ?_; (case hd => rfl); (case hg => rfl); (case hr => first | (go_simp; done) | (go_simp; rfl)); intro gb427 hg w60 hbox hb; have n0_ := Aside0.mk (below_step (zz20_0_ HB.out) hb); have n1_ := Aside0.mk (hbox); have n2_ := Aside0.mk ((by rw [hg]; exact (below_size (zz20_0_ HB.out)) : w.heap.size ≤ gb427)); have n3_ := Aside0.mk ((by rw [hg]; exact (below_size (zz20_0_ HB.out)) : w.heap.size ≤ gb427)); clear HB; have HB := n0_; have BK427 := n1_; have GW427 := n2_; have GE427 := n3_; clear n0_ n1_ n2_ n3_; clear hb hbox hg; have hcz61_0 : w60.cell? ⟨gb427, 0, none⟩ = some (.int .i64 a0_0) := (blk_cell BK427.out 0).trans rfl; have hcz61_1 : w60.cell? ⟨gb427, 1, none⟩ = some (.string a0_1) := (blk_cell BK427.out 1).trans rfl; have hcz61_2 : w60.cell? ⟨gb427, 2, none⟩ = some (.int .i64 a0_2) := (blk_cell BK427.out 2).trans rfl; have hfz61_0 := blk_frozen BK427.out 0; have hfz61_1 := blk_frozen BK427.out 1; have hfz61_2 := blk_frozen BK427.out 2) | ((with_reducible refine gate_callee (f := 41) rfl ?_); refine goesL_ (some 67) rfl rfl Tryz.func41 (by kernel_rfl) rfl #[.string a0_1] rfl (zz20_1_) ?_; (with_reducible refine (spec_NameValid.calls k a0_1 false _ A53.out).mono ?_); rintro e w' ⟨rfl, ⟨nd, rfl⟩⟩; refine ⟨_, rfl, ?_⟩))
      go_ret
      exact ⟨by first | rfl | (rw [ne_nil_isEmpty]; done) | (simp [ne_nil_isEmpty]; done) | (simp [errW_none, errW_some] <;> rfl) | (simp [*, errW_none, errW_some] <;> rfl), zz20_3_ HB.out GE427.out⟩
    ·rw [if_neg c52] at H
     have c52b0 : (a0_0 == 4) = false := beq_eq_false_iff_ne.mpr c52
     have c52b1 : (a0_0 != 4) = true := bne_iff_ne.mpr c52
     by_cases c62 : a0_0 = 5
     ·rw [if_pos c62] at H
      have c62b0 : (a0_0 == 5) = true := beq_iff_eq.mpr c62
      have c62b1 : (a0_0 != 5) = false := bne_eq_false_iff_eq.mpr c62
      clear c62
      by_cases c63 : a0_1.toList = ([] : List UInt8)
      ·rw [if_pos c63] at H
       have c63b0 : (a0_1.toList == ([] : List UInt8)) = true := beq_iff_eq.mpr c63
       have c63b1 : (a0_1.toList != ([] : List UInt8)) = false := bne_eq_false_iff_eq.mpr c63
       clear c63
       replace H := Option.bind_eq_some_iff.mp H
       obtain ⟨t434, A640, H⟩ := H
       try dsimp only at H
       have A64 := Aside0.mk A640
       clear A640
       obtain rfl := Option.some.inj H
       go_enter Tryz.func29, Tryz.ntmps29
       go_wp2_with (first | ((with_reducible refine gate_dst (N := 1) rfl ?_); (try (refine gate_guard (by rfl) ?_; dsimp only)); refine box_event ?hg (N := 1) ?hd (cs := #[.int .i64 a0_0, .string a0_1, .int .i64 a0_2]) (t := 35) ?hr ?_; (case hd => rfl); (case hg => rfl); (case hr => first | (go_simp; done) | (go_simp; rfl)); intro gb427 hg w65 hbox hb; have n0_ := Aside0.mk (below_step (zz20_0_ HB.out) hb); have n1_ := Aside0.mk (hbox); have n2_ := Aside0.mk ((by rw [hg]; exact (below_size (zz20_0_ HB.out)) : w.heap.size ≤ gb427)); have n3_ := Aside0.mk ((by rw [hg]; exact (below_size (zz20_0_ HB.out)) : w.heap.size ≤ gb427)); clear HB; have HB := n0_; have BK427 := n1_; have GW427 := n2_; have GE427 := n3_; clear n0_ n1_ n2_ n3_; clear hb hbox hg; have hcz66_0 : w65.cell? ⟨gb427, 0, none⟩ = some (.int .i64 a0_0) := (blk_cell BK427.out 0).trans rfl; have hcz66_1 : w65.cell? ⟨gb427, 1, none⟩ = some (.string a0_1) := (blk_cell BK427.out 1).trans rfl; have hcz66_2 : w65.cell? ⟨gb427, 2, none⟩ = some (.int .i64 a0_2) := (blk_cell BK427.out 2).trans rfl; have hfz66_0 := blk_frozen BK427.out 0; have hfz66_1 := blk_frozen BK427.out 1; have hfz66_2 := blk_frozen BK427.out 2) | (go_at_call 21; (with_reducible refine (spec_l1In.calls a0_2 0 8 t434 _ A64.out).mono ?_); rintro e w' ⟨rfl, ⟨nd, rfl⟩⟩))
       go_ret
       exact ⟨by first | rfl | (rw [ne_nil_isEmpty]; done) | (simp [ne_nil_isEmpty]; done) | (simp [errW_none, errW_some] <;> rfl) | (simp [*, errW_none, errW_some] <;> rfl), zz20_3_ HB.out GE427.out⟩
      ·rw [if_neg c63] at H
       have c63b0 : (a0_1.toList == ([] : List UInt8)) = false := beq_eq_false_iff_ne.mpr c63
       have c63b1 : (a0_1.toList != ([] : List UInt8)) = true := bne_iff_ne.mpr c63
       obtain rfl := Option.some.inj H
       go_enter Tryz.func29, Tryz.ntmps29
       go_wp2_with (first | ((with_reducible refine gate_dst (N := 1) rfl ?_); (try (refine gate_guard (by rfl) ?_; dsimp only)); refine box_event ?hg (N := 1) ?hd (cs := #[.int .i64 a0_0, .string a0_1, .int .i64 a0_2]) (t := 35) ?hr ?_; (case hd => rfl); (case hg => rfl); (case hr => first | (go_simp; done) | (go_simp; rfl)); intro gb427 hg w67 hbox hb; have n0_ := Aside0.mk (below_step (zz20_0_ HB.out) hb); have n1_ := Aside0.mk (hbox); have n2_ := Aside0.mk ((by rw [hg]; exact (below_size (zz20_0_ HB.out)) : w.heap.size ≤ gb427)); have n3_ := Aside0.mk ((by rw [hg]; exact (below_size (zz20_0_ HB.out)) : w.heap.size ≤ gb427)); clear HB; have HB := n0_; have BK427 := n1_; have GW427 := n2_; have GE427 := n3_; clear n0_ n1_ n2_ n3_; clear hb hbox hg; have hcz68_0 : w67.cell? ⟨gb427, 0, none⟩ = some (.int .i64 a0_0) := (blk_cell BK427.out 0).trans rfl; have hcz68_1 : w67.cell? ⟨gb427, 1, none⟩ = some (.string a0_1) := (blk_cell BK427.out 1).trans rfl; have hcz68_2 : w67.cell? ⟨gb427, 2, none⟩ = some (.int .i64 a0_2) := (blk_cell BK427.out 2).trans rfl; have hfz68_0 := blk_frozen BK427.out 0; have hfz68_1 := blk_frozen BK427.out 1; have hfz68_2 := blk_frozen BK427.out 2))
       go_ret
       exact ⟨by first | rfl | (rw [ne_nil_isEmpty]; done) | (simp [ne_nil_isEmpty]; done) | (simp [errW_none, errW_some] <;> rfl) | (simp [*, errW_none, errW_some] <;> rfl), zz20_3_ HB.out GE427.out⟩
     ·rw [if_neg c62] at H
      have c62b0 : (a0_0 == 5) = false := beq_eq_false_iff_ne.mpr c62
      have c62b1 : (a0_0 != 5) = true := bne_iff_ne.mpr c62
      by_cases c69 : a0_0 = 6
      ·rw [if_pos c69] at H
       have c69b0 : (a0_0 == 6) = true := beq_iff_eq.mpr c69
       have c69b1 : (a0_0 != 6) = false := bne_eq_false_iff_eq.mpr c69
       clear c69
       replace H := Option.bind_eq_some_iff.mp H
       obtain ⟨t435, A700, H⟩ := H
       try dsimp only at H
       have A70 := Aside0.mk A700
       clear A700
       by_cases c71 : t435 = true
       ·subst c71
        rw [if_pos rfl] at H
        replace H := Option.bind_eq_some_iff.mp H
        obtain ⟨t436, A720, H⟩ := H
        try dsimp only at H
        have A72 := Aside0.mk A720
        clear A720
        by_cases c73 : t436 = true
        ·subst c73
         rw [if_pos rfl] at H
         obtain rfl := Option.some.inj H
         go_enter Tryz.func29, Tryz.ntmps29
         go_wp2_with (first | ((with_reducible refine gate_dst (N := 1) rfl ?_); (try (refine gate_guard (by rfl) ?_; dsimp only)); refine box_event ?hg (N := 1) ?hd (cs := #[.int .i64 a0_0, .string a0_1, .int .i64 a0_2]) (t := 35) ?hr ?_; (case hd => rfl); (case hg => rfl); (case hr => first | (go_simp; done) | (go_simp; rfl)); intro gb427 hg w74 hbox hb; have n0_ := Aside0.mk (below_step (zz20_0_ HB.out) hb); have n1_ := Aside0.mk (hbox); have n2_ := Aside0.mk ((by rw [hg]; exact (below_size (zz20_0_ HB.out)) : w.heap.size ≤ gb427)); have n3_ := Aside0.mk ((by rw [hg]; exact (below_size (zz20_0_ HB.out)) : w.heap.size ≤ gb427)); clear HB; have HB := n0_; have BK427 := n1_; have GW427 := n2_; have GE427 := n3_; clear n0_ n1_ n2_ n3_; clear hb hbox hg; have hcz75_0 : w74.cell? ⟨gb427, 0, none⟩ = some (.int .i64 a0_0) := (blk_cell BK427.out 0).trans rfl; have hcz75_1 : w74.cell? ⟨gb427, 1, none⟩ = some (.string a0_1) := (blk_cell BK427.out 1).trans rfl; have hcz75_2 : w74.cell? ⟨gb427, 2, none⟩ = some (.int .i64 a0_2) := (blk_cell BK427.out 2).trans rfl; have hfz75_0 := blk_frozen BK427.out 0; have hfz75_1 := blk_frozen BK427.out 1; have hfz75_2 := blk_frozen BK427.out 2) | ((with_reducible refine gate_callee (f := 41) rfl ?_); refine goesL_ (some 93) rfl rfl Tryz.func41 (by kernel_rfl) rfl #[.string a0_1] rfl (zz20_1_) ?_; (with_reducible refine (spec_NameValid.calls k a0_1 true _ A70.out).mono ?_); rintro e w' ⟨rfl, ⟨nd, rfl⟩⟩; refine ⟨_, rfl, ?_⟩) | (go_at_call 42; (with_reducible refine (spec_l1Has.calls k a0_1 46 true _ A72.out).mono ?_); rintro e w' ⟨rfl, ⟨nd, rfl⟩⟩))
         go_ret
         exact ⟨by first | rfl | (rw [ne_nil_isEmpty]; done) | (simp [ne_nil_isEmpty]; done) | (simp [errW_none, errW_some] <;> rfl) | (simp [*, errW_none, errW_some] <;> rfl), zz20_3_ HB.out GE427.out⟩
        ·replace c73 := Bool.eq_false_iff.mpr c73
         subst c73
         rw [if_neg (show ¬ (false = true) by decide)] at H
         replace H := Option.bind_eq_some_iff.mp H
         obtain ⟨t437, A760, H⟩ := H
         try dsimp only at H
         have A76 := Aside0.mk A760
         clear A760
         obtain rfl := Option.some.inj H
         go_enter Tryz.func29, Tryz.ntmps29
         go_wp2_with (first | ((with_reducible refine gate_dst (N := 1) rfl ?_); (try (refine gate_guard (by rfl) ?_; dsimp only)); refine box_event ?hg (N := 1) ?hd (cs := #[.int .i64 a0_0, .string a0_1, .int .i64 a0_2]) (t := 35) ?hr ?_; (case hd => rfl); (case hg => rfl); (case hr => first | (go_simp; done) | (go_simp; rfl)); intro gb427 hg w77 hbox hb; have n0_ := Aside0.mk (below_step (zz20_0_ HB.out) hb); have n1_ := Aside0.mk (hbox); have n2_ := Aside0.mk ((by rw [hg]; exact (below_size (zz20_0_ HB.out)) : w.heap.size ≤ gb427)); have n3_ := Aside0.mk ((by rw [hg]; exact (below_size (zz20_0_ HB.out)) : w.heap.size ≤ gb427)); clear HB; have HB := n0_; have BK427 := n1_; have GW427 := n2_; have GE427 := n3_; clear n0_ n1_ n2_ n3_; clear hb hbox hg; have hcz78_0 : w77.cell? ⟨gb427, 0, none⟩ = some (.int .i64 a0_0) := (blk_cell BK427.out 0).trans rfl; have hcz78_1 : w77.cell? ⟨gb427, 1, none⟩ = some (.string a0_1) := (blk_cell BK427.out 1).trans rfl; have hcz78_2 : w77.cell? ⟨gb427, 2, none⟩ = some (.int .i64 a0_2) := (blk_cell BK427.out 2).trans rfl; have hfz78_0 := blk_frozen BK427.out 0; have hfz78_1 := blk_frozen BK427.out 1; have hfz78_2 := blk_frozen BK427.out 2) | ((with_reducible refine gate_callee (f := 41) rfl ?_); refine goesL_ (some 93) rfl rfl Tryz.func41 (by kernel_rfl) rfl #[.string a0_1] rfl (zz20_1_) ?_; (with_reducible refine (spec_NameValid.calls k a0_1 true _ A70.out).mono ?_); rintro e w' ⟨rfl, ⟨nd, rfl⟩⟩; refine ⟨_, rfl, ?_⟩) | (go_at_call 42; (with_reducible refine (spec_l1Has.calls k a0_1 46 false _ A72.out).mono ?_); rintro e w' ⟨rfl, ⟨nd, rfl⟩⟩) | (go_at_call 21; (with_reducible refine (spec_l1In.calls a0_2 0 8 t437 _ A76.out).mono ?_); rintro e w' ⟨rfl, ⟨nd, rfl⟩⟩))
         go_ret
         exact ⟨by first | rfl | (rw [ne_nil_isEmpty]; done) | (simp [ne_nil_isEmpty]; done) | (simp [errW_none, errW_some] <;> rfl) | (simp [*, errW_none, errW_some] <;> rfl), zz20_3_ HB.out GE427.out⟩
       ·replace c71 := Bool.eq_false_iff.mpr c71
        subst c71
        rw [if_neg (show ¬ (false = true) by decide)] at H
        obtain rfl := Option.some.inj H
        go_enter Tryz.func29, Tryz.ntmps29
        go_wp2_with (first | ((with_reducible refine gate_dst (N := 1) rfl ?_); (try (refine gate_guard (by rfl) ?_; dsimp only)); refine box_event ?hg (N := 1) ?hd (cs := #[.int .i64 a0_0, .string a0_1, .int .i64 a0_2]) (t := 35) ?hr ?_; (case hd => rfl); (case hg => rfl); (case hr => first | (go_simp; done) | (go_simp; rfl)); intro gb427 hg w79 hbox hb; have n0_ := Aside0.mk (below_step (zz20_0_ HB.out) hb); have n1_ := Aside0.mk (hbox); have n2_ := Aside0.mk ((by rw [hg]; exact (below_size (zz20_0_ HB.out)) : w.heap.size ≤ gb427)); have n3_ := Aside0.mk ((by rw [hg]; exact (below_size (zz20_0_ HB.out)) : w.heap.size ≤ gb427)); clear HB; have HB := n0_; have BK427 := n1_; have GW427 := n2_; have GE427 := n3_; clear n0_ n1_ n2_ n3_; clear hb hbox hg; have hcz80_0 : w79.cell? ⟨gb427, 0, none⟩ = some (.int .i64 a0_0) := (blk_cell BK427.out 0).trans rfl; have hcz80_1 : w79.cell? ⟨gb427, 1, none⟩ = some (.string a0_1) := (blk_cell BK427.out 1).trans rfl; have hcz80_2 : w79.cell? ⟨gb427, 2, none⟩ = some (.int .i64 a0_2) := (blk_cell BK427.out 2).trans rfl; have hfz80_0 := blk_frozen BK427.out 0; have hfz80_1 := blk_frozen BK427.out 1; have hfz80_2 := blk_frozen BK427.out 2) | ((with_reducible refine gate_callee (f := 41) rfl ?_); refine goesL_ (some 93) rfl rfl Tryz.func41 (by kernel_rfl) rfl #[.string a0_1] rfl (zz20_1_) ?_; (with_reducible refine (spec_NameValid.calls k a0_1 false _ A70.out).mono ?_); rintro e w' ⟨rfl, ⟨nd, rfl⟩⟩; refine ⟨_, rfl, ?_⟩))
        go_ret
        exact ⟨by first | rfl | (rw [ne_nil_isEmpty]; done) | (simp [ne_nil_isEmpty]; done) | (simp [errW_none, errW_some] <;> rfl) | (simp [*, errW_none, errW_some] <;> rfl), zz20_3_ HB.out GE427.out⟩
      ·rw [if_neg c69] at H
       have c69b0 : (a0_0 == 6) = false := beq_eq_false_iff_ne.mpr c69
       have c69b1 : (a0_0 != 6) = true := bne_iff_ne.mpr c69
       by_cases c81 : a0_0 = 7
       ·rw [if_pos c81] at H
        have c81b0 : (a0_0 == 7) = true := beq_iff_eq.mpr c81
        have c81b1 : (a0_0 != 7) = false := bne_eq_false_iff_eq.mpr c81
        clear c81
        by_cases c82 : a0_1.toList = ([33] : List UInt8)
        ·rw [if_pos c82] at H
         have c82b0 : (a0_1.toList == ([33] : List UInt8)) = true := beq_iff_eq.mpr c82
         have c82b1 : (a0_1.toList != ([33] : List UInt8)) = false := bne_eq_false_iff_eq.mpr c82
         clear c82
         obtain rfl := Option.some.inj H
         go_enter Tryz.func29, Tryz.ntmps29
         go_wp2_with (first | ((with_reducible refine gate_dst (N := 1) rfl ?_); (try (refine gate_guard (by rfl) ?_; dsimp only)); refine box_event ?hg (N := 1) ?hd (cs := #[.int .i64 a0_0, .string a0_1, .int .i64 a0_2]) (t := 35) ?hr ?_; (case hd => rfl); (case hg => rfl); (case hr => first | (go_simp; done) | (go_simp; rfl)); intro gb427 hg w83 hbox hb; have n0_ := Aside0.mk (below_step (zz20_0_ HB.out) hb); have n1_ := Aside0.mk (hbox); have n2_ := Aside0.mk ((by rw [hg]; exact (below_size (zz20_0_ HB.out)) : w.heap.size ≤ gb427)); have n3_ := Aside0.mk ((by rw [hg]; exact (below_size (zz20_0_ HB.out)) : w.heap.size ≤ gb427)); clear HB; have HB := n0_; have BK427 := n1_; have GW427 := n2_; have GE427 := n3_; clear n0_ n1_ n2_ n3_; clear hb hbox hg; have hcz84_0 : w83.cell? ⟨gb427, 0, none⟩ = some (.int .i64 a0_0) := (blk_cell BK427.out 0).trans rfl; have hcz84_1 : w83.cell? ⟨gb427, 1, none⟩ = some (.string a0_1) := (blk_cell BK427.out 1).trans rfl; have hcz84_2 : w83.cell? ⟨gb427, 2, none⟩ = some (.int .i64 a0_2) := (blk_cell BK427.out 2).trans rfl; have hfz84_0 := blk_frozen BK427.out 0; have hfz84_1 := blk_frozen BK427.out 1; have hfz84_2 := blk_frozen BK427.out 2))
         go_ret
         exact ⟨by first | rfl | (rw [ne_nil_isEmpty]; done) | (simp [ne_nil_isEmpty]; done) | (simp [errW_none, errW_some] <;> rfl) | (simp [*, errW_none, errW_some] <;> rfl), zz20_3_ HB.out GE427.out⟩
        ·rw [if_neg c82] at H
         have c82b0 : (a0_1.toList == ([33] : List UInt8)) = false := beq_eq_false_iff_ne.mpr c82
         have c82b1 : (a0_1.toList != ([33] : List UInt8)) = true := bne_iff_ne.mpr c82
         by_cases c85 : a0_1.toList = ([45] : List UInt8)
         ·rw [if_pos c85] at H
          have c85b0 : (a0_1.toList == ([45] : List UInt8)) = true := beq_iff_eq.mpr c85
          have c85b1 : (a0_1.toList != ([45] : List UInt8)) = false := bne_eq_false_iff_eq.mpr c85
          clear c85
          obtain rfl := Option.some.inj H
          go_enter Tryz.func29, Tryz.ntmps29
          go_wp2_with (first | ((with_reducible refine gate_dst (N := 1) rfl ?_); (try (refine gate_guard (by rfl) ?_; dsimp only)); refine box_event ?hg (N := 1) ?hd (cs := #[.int .i64 a0_0, .string a0_1, .int .i64 a0_2]) (t := 35) ?hr ?_; (case hd => rfl); (case hg => rfl); (case hr => first | (go_simp; done) | (go_simp; rfl)); intro gb427 hg w86 hbox hb; have n0_ := Aside0.mk (below_step (zz20_0_ HB.out) hb); have n1_ := Aside0.mk (hbox); have n2_ := Aside0.mk ((by rw [hg]; exact (below_size (zz20_0_ HB.out)) : w.heap.size ≤ gb427)); have n3_ := Aside0.mk ((by rw [hg]; exact (below_size (zz20_0_ HB.out)) : w.heap.size ≤ gb427)); clear HB; have HB := n0_; have BK427 := n1_; have GW427 := n2_; have GE427 := n3_; clear n0_ n1_ n2_ n3_; clear hb hbox hg; have hcz87_0 : w86.cell? ⟨gb427, 0, none⟩ = some (.int .i64 a0_0) := (blk_cell BK427.out 0).trans rfl; have hcz87_1 : w86.cell? ⟨gb427, 1, none⟩ = some (.string a0_1) := (blk_cell BK427.out 1).trans rfl; have hcz87_2 : w86.cell? ⟨gb427, 2, none⟩ = some (.int .i64 a0_2) := (blk_cell BK427.out 2).trans rfl; have hfz87_0 := blk_frozen BK427.out 0; have hfz87_1 := blk_frozen BK427.out 1; have hfz87_2 := blk_frozen BK427.out 2))
          go_ret
          exact ⟨by first | rfl | (rw [ne_nil_isEmpty]; done) | (simp [ne_nil_isEmpty]; done) | (simp [errW_none, errW_some] <;> rfl) | (simp [*, errW_none, errW_some] <;> rfl), zz20_3_ HB.out GE427.out⟩
         ·rw [if_neg c85] at H
          have c85b0 : (a0_1.toList == ([45] : List UInt8)) = false := beq_eq_false_iff_ne.mpr c85
          have c85b1 : (a0_1.toList != ([45] : List UInt8)) = true := bne_iff_ne.mpr c85
          obtain rfl := Option.some.inj H
          go_enter Tryz.func29, Tryz.ntmps29
          go_wp2_with (first | ((with_reducible refine gate_dst (N := 1) rfl ?_); (try (refine gate_guard (by rfl) ?_; dsimp only)); refine box_event ?hg (N := 1) ?hd (cs := #[.int .i64 a0_0, .string a0_1, .int .i64 a0_2]) (t := 35) ?hr ?_; (case hd => rfl); (case hg => rfl); (case hr => first | (go_simp; done) | (go_simp; rfl)); intro gb427 hg w88 hbox hb; have n0_ := Aside0.mk (below_step (zz20_0_ HB.out) hb); have n1_ := Aside0.mk (hbox); have n2_ := Aside0.mk ((by rw [hg]; exact (below_size (zz20_0_ HB.out)) : w.heap.size ≤ gb427)); have n3_ := Aside0.mk ((by rw [hg]; exact (below_size (zz20_0_ HB.out)) : w.heap.size ≤ gb427)); clear HB; have HB := n0_; have BK427 := n1_; have GW427 := n2_; have GE427 := n3_; clear n0_ n1_ n2_ n3_; clear hb hbox hg; have hcz89_0 : w88.cell? ⟨gb427, 0, none⟩ = some (.int .i64 a0_0) := (blk_cell BK427.out 0).trans rfl; have hcz89_1 : w88.cell? ⟨gb427, 1, none⟩ = some (.string a0_1) := (blk_cell BK427.out 1).trans rfl; have hcz89_2 : w88.cell? ⟨gb427, 2, none⟩ = some (.int .i64 a0_2) := (blk_cell BK427.out 2).trans rfl; have hfz89_0 := blk_frozen BK427.out 0; have hfz89_1 := blk_frozen BK427.out 1; have hfz89_2 := blk_frozen BK427.out 2))
          go_ret
          exact ⟨by first | rfl | (rw [ne_nil_isEmpty]; done) | (simp [ne_nil_isEmpty]; done) | (simp [errW_none, errW_some] <;> rfl) | (simp [*, errW_none, errW_some] <;> rfl), zz20_3_ HB.out GE427.out⟩
       ·rw [if_neg c81] at H
        have c81b0 : (a0_0 == 7) = false := beq_eq_false_iff_ne.mpr c81
        have c81b1 : (a0_0 != 7) = true := bne_iff_ne.mpr c81
        by_cases c90 : a0_0 = 8
        ·rw [if_pos c90] at H
         have c90b0 : (a0_0 == 8) = true := beq_iff_eq.mpr c90
         have c90b1 : (a0_0 != 8) = false := bne_eq_false_iff_eq.mpr c90
         clear c90
         replace H := Option.bind_eq_some_iff.mp H
         obtain ⟨t438, A910, H⟩ := H
         try dsimp only at H
         have A91 := Aside0.mk A910
         clear A910
         by_cases c92 : t438 > 0
         ·rw [if_pos c92] at H
          have c92b0 : decide (0 < t438) = true := decide_eq_true c92
          clear c92
          obtain rfl := Option.some.inj H
          go_enter Tryz.func29, Tryz.ntmps29
          go_wp2_with (first | ((with_reducible refine gate_dst (N := 1) rfl ?_); (try (refine gate_guard (by rfl) ?_; dsimp only)); refine box_event ?hg (N := 1) ?hd (cs := #[.int .i64 a0_0, .string a0_1, .int .i64 a0_2]) (t := 35) ?hr ?_; (case hd => rfl); (case hg => rfl); (case hr => first | (go_simp; done) | (go_simp; rfl)); intro gb427 hg w93 hbox hb; have n0_ := Aside0.mk (below_step (zz20_0_ HB.out) hb); have n1_ := Aside0.mk (hbox); have n2_ := Aside0.mk ((by rw [hg]; exact (below_size (zz20_0_ HB.out)) : w.heap.size ≤ gb427)); have n3_ := Aside0.mk ((by rw [hg]; exact (below_size (zz20_0_ HB.out)) : w.heap.size ≤ gb427)); clear HB; have HB := n0_; have BK427 := n1_; have GW427 := n2_; have GE427 := n3_; clear n0_ n1_ n2_ n3_; clear hb hbox hg; have hcz94_0 : w93.cell? ⟨gb427, 0, none⟩ = some (.int .i64 a0_0) := (blk_cell BK427.out 0).trans rfl; have hcz94_1 : w93.cell? ⟨gb427, 1, none⟩ = some (.string a0_1) := (blk_cell BK427.out 1).trans rfl; have hcz94_2 : w93.cell? ⟨gb427, 2, none⟩ = some (.int .i64 a0_2) := (blk_cell BK427.out 2).trans rfl; have hfz94_0 := blk_frozen BK427.out 0; have hfz94_1 := blk_frozen BK427.out 1; have hfz94_2 := blk_frozen BK427.out 2) | ((with_reducible refine gate_callee (f := 43) rfl ?_); refine goesL_ (some 124) rfl rfl Tryz.func43 (by kernel_rfl) rfl #[.string a0_1] rfl (zz20_1_) ?_; (with_reducible refine (spec_l5Binary.calls k a0_1 t438 _ A91.out).mono ?_); rintro e w' ⟨rfl, ⟨nd, rfl⟩⟩; refine ⟨_, rfl, ?_⟩))
          go_ret
          exact ⟨by first | rfl | (rw [ne_nil_isEmpty]; done) | (simp [ne_nil_isEmpty]; done) | (simp [errW_none, errW_some] <;> rfl) | (simp [*, errW_none, errW_some] <;> rfl), zz20_3_ HB.out GE427.out⟩
         ·rw [if_neg c92] at H
          have c92b0 : decide (0 < t438) = false := decide_eq_false c92
          clear c92
          obtain rfl := Option.some.inj H
          go_enter Tryz.func29, Tryz.ntmps29
          go_wp2_with (first | ((with_reducible refine gate_dst (N := 1) rfl ?_); (try (refine gate_guard (by rfl) ?_; dsimp only)); refine box_event ?hg (N := 1) ?hd (cs := #[.int .i64 a0_0, .string a0_1, .int .i64 a0_2]) (t := 35) ?hr ?_; (case hd => rfl); (case hg => rfl); (case hr => first | (go_simp; done) | (go_simp; rfl)); intro gb427 hg w95 hbox hb; have n0_ := Aside0.mk (below_step (zz20_0_ HB.out) hb); have n1_ := Aside0.mk (hbox); have n2_ := Aside0.mk ((by rw [hg]; exact (below_size (zz20_0_ HB.out)) : w.heap.size ≤ gb427)); have n3_ := Aside0.mk ((by rw [hg]; exact (below_size (zz20_0_ HB.out)) : w.heap.size ≤ gb427)); clear HB; have HB := n0_; have BK427 := n1_; have GW427 := n2_; have GE427 := n3_; clear n0_ n1_ n2_ n3_; clear hb hbox hg; have hcz96_0 : w95.cell? ⟨gb427, 0, none⟩ = some (.int .i64 a0_0) := (blk_cell BK427.out 0).trans rfl; have hcz96_1 : w95.cell? ⟨gb427, 1, none⟩ = some (.string a0_1) := (blk_cell BK427.out 1).trans rfl; have hcz96_2 : w95.cell? ⟨gb427, 2, none⟩ = some (.int .i64 a0_2) := (blk_cell BK427.out 2).trans rfl; have hfz96_0 := blk_frozen BK427.out 0; have hfz96_1 := blk_frozen BK427.out 1; have hfz96_2 := blk_frozen BK427.out 2) | ((with_reducible refine gate_callee (f := 43) rfl ?_); refine goesL_ (some 124) rfl rfl Tryz.func43 (by kernel_rfl) rfl #[.string a0_1] rfl (zz20_1_) ?_; (with_reducible refine (spec_l5Binary.calls k a0_1 t438 _ A91.out).mono ?_); rintro e w' ⟨rfl, ⟨nd, rfl⟩⟩; refine ⟨_, rfl, ?_⟩))
          go_ret
          exact ⟨by first | rfl | (rw [ne_nil_isEmpty]; done) | (simp [ne_nil_isEmpty]; done) | (simp [errW_none, errW_some] <;> rfl) | (simp [*, errW_none, errW_some] <;> rfl), zz20_3_ HB.out GE427.out⟩
        ·rw [if_neg c90] at H
         have c90b0 : (a0_0 == 8) = false := beq_eq_false_iff_ne.mpr c90
         have c90b1 : (a0_0 != 8) = true := bne_iff_ne.mpr c90
         by_cases c97 : a0_0 = 9
         ·rw [if_pos c97] at H
          have c97b0 : (a0_0 == 9) = true := beq_iff_eq.mpr c97
          have c97b1 : (a0_0 != 9) = false := bne_eq_false_iff_eq.mpr c97
          clear c97
          by_cases c98 : a0_1.toList = ([] : List UInt8)
          ·rw [if_pos c98] at H
           have c98b0 : (a0_1.toList == ([] : List UInt8)) = true := beq_iff_eq.mpr c98
           have c98b1 : (a0_1.toList != ([] : List UInt8)) = false := bne_eq_false_iff_eq.mpr c98
           clear c98
           obtain rfl := Option.some.inj H
           go_enter Tryz.func29, Tryz.ntmps29
           go_wp2_with (first | ((with_reducible refine gate_dst (N := 1) rfl ?_); (try (refine gate_guard (by rfl) ?_; dsimp only)); refine box_event ?hg (N := 1) ?hd (cs := #[.int .i64 a0_0, .string a0_1, .int .i64 a0_2]) (t := 35) ?hr ?_; (case hd => rfl); (case hg => rfl); (case hr => first | (go_simp; done) | (go_simp; rfl)); intro gb427 hg w99 hbox hb; have n0_ := Aside0.mk (below_step (zz20_0_ HB.out) hb); have n1_ := Aside0.mk (hbox); have n2_ := Aside0.mk ((by rw [hg]; exact (below_size (zz20_0_ HB.out)) : w.heap.size ≤ gb427)); have n3_ := Aside0.mk ((by rw [hg]; exact (below_size (zz20_0_ HB.out)) : w.heap.size ≤ gb427)); clear HB; have HB := n0_; have BK427 := n1_; have GW427 := n2_; have GE427 := n3_; clear n0_ n1_ n2_ n3_; clear hb hbox hg; have hcz100_0 : w99.cell? ⟨gb427, 0, none⟩ = some (.int .i64 a0_0) := (blk_cell BK427.out 0).trans rfl; have hcz100_1 : w99.cell? ⟨gb427, 1, none⟩ = some (.string a0_1) := (blk_cell BK427.out 1).trans rfl; have hcz100_2 : w99.cell? ⟨gb427, 2, none⟩ = some (.int .i64 a0_2) := (blk_cell BK427.out 2).trans rfl; have hfz100_0 := blk_frozen BK427.out 0; have hfz100_1 := blk_frozen BK427.out 1; have hfz100_2 := blk_frozen BK427.out 2))
           go_ret
           exact ⟨by first | rfl | (rw [ne_nil_isEmpty]; done) | (simp [ne_nil_isEmpty]; done) | (simp [errW_none, errW_some] <;> rfl) | (simp [*, errW_none, errW_some] <;> rfl), zz20_3_ HB.out GE427.out⟩
          ·rw [if_neg c98] at H
           have c98b0 : (a0_1.toList == ([] : List UInt8)) = false := beq_eq_false_iff_ne.mpr c98
           have c98b1 : (a0_1.toList != ([] : List UInt8)) = true := bne_iff_ne.mpr c98
           obtain rfl := Option.some.inj H
           go_enter Tryz.func29, Tryz.ntmps29
           go_wp2_with (first | ((with_reducible refine gate_dst (N := 1) rfl ?_); (try (refine gate_guard (by rfl) ?_; dsimp only)); refine box_event ?hg (N := 1) ?hd (cs := #[.int .i64 a0_0, .string a0_1, .int .i64 a0_2]) (t := 35) ?hr ?_; (case hd => rfl); (case hg => rfl); (case hr => first | (go_simp; done) | (go_simp; rfl)); intro gb427 hg w101 hbox hb; have n0_ := Aside0.mk (below_step (zz20_0_ HB.out) hb); have n1_ := Aside0.mk (hbox); have n2_ := Aside0.mk ((by rw [hg]; exact (below_size (zz20_0_ HB.out)) : w.heap.size ≤ gb427)); have n3_ := Aside0.mk ((by rw [hg]; exact (below_size (zz20_0_ HB.out)) : w.heap.size ≤ gb427)); clear HB; have HB := n0_; have BK427 := n1_; have GW427 := n2_; have GE427 := n3_; clear n0_ n1_ n2_ n3_; clear hb hbox hg; have hcz102_0 : w101.cell? ⟨gb427, 0, none⟩ = some (.int .i64 a0_0) := (blk_cell BK427.out 0).trans rfl; have hcz102_1 : w101.cell? ⟨gb427, 1, none⟩ = some (.string a0_1) := (blk_cell BK427.out 1).trans rfl; have hcz102_2 : w101.cell? ⟨gb427, 2, none⟩ = some (.int .i64 a0_2) := (blk_cell BK427.out 2).trans rfl; have hfz102_0 := blk_frozen BK427.out 0; have hfz102_1 := blk_frozen BK427.out 1; have hfz102_2 := blk_frozen BK427.out 2))
           go_ret
           exact ⟨by first | rfl | (rw [ne_nil_isEmpty]; done) | (simp [ne_nil_isEmpty]; done) | (simp [errW_none, errW_some] <;> rfl) | (simp [*, errW_none, errW_some] <;> rfl), zz20_3_ HB.out GE427.out⟩
         ·rw [if_neg c97] at H
          have c97b0 : (a0_0 == 9) = false := beq_eq_false_iff_ne.mpr c97
          have c97b1 : (a0_0 != 9) = true := bne_iff_ne.mpr c97
          obtain rfl := Option.some.inj H
          go_enter Tryz.func29, Tryz.ntmps29
          go_wp2_with (first | ((with_reducible refine gate_dst (N := 1) rfl ?_); (try (refine gate_guard (by rfl) ?_; dsimp only)); refine box_event ?hg (N := 1) ?hd (cs := #[.int .i64 a0_0, .string a0_1, .int .i64 a0_2]) (t := 35) ?hr ?_; (case hd => rfl); (case hg => rfl); (case hr => first | (go_simp; done) | (go_simp; rfl)); intro gb427 hg w103 hbox hb; have n0_ := Aside0.mk (below_step (zz20_0_ HB.out) hb); have n1_ := Aside0.mk (hbox); have n2_ := Aside0.mk ((by rw [hg]; exact (below_size (zz20_0_ HB.out)) : w.heap.size ≤ gb427)); have n3_ := Aside0.mk ((by rw [hg]; exact (below_size (zz20_0_ HB.out)) : w.heap.size ≤ gb427)); clear HB; have HB := n0_; have BK427 := n1_; have GW427 := n2_; have GE427 := n3_; clear n0_ n1_ n2_ n3_; clear hb hbox hg; have hcz104_0 : w103.cell? ⟨gb427, 0, none⟩ = some (.int .i64 a0_0) := (blk_cell BK427.out 0).trans rfl; have hcz104_1 : w103.cell? ⟨gb427, 1, none⟩ = some (.string a0_1) := (blk_cell BK427.out 1).trans rfl; have hcz104_2 : w103.cell? ⟨gb427, 2, none⟩ = some (.int .i64 a0_2) := (blk_cell BK427.out 2).trans rfl; have hfz104_0 := blk_frozen BK427.out 0; have hfz104_1 := blk_frozen BK427.out 1; have hfz104_2 := blk_frozen BK427.out 2))
          go_ret
          exact ⟨by first | rfl | (rw [ne_nil_isEmpty]; done) | (simp [ne_nil_isEmpty]; done) | (simp [errW_none, errW_some] <;> rfl) | (simp [*, errW_none, errW_some] <;> rfl), zz20_3_ HB.out GE427.out⟩

end Go.Proofs.YtifeiepociopoaaGreatDoor.PEd
