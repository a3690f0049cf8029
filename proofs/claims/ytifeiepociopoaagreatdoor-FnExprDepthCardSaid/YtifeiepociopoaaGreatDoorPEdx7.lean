-- Written for this session by its program hprint.py over the kit's print: functions, and contracts that the walk of the Go code proves.
import Derived.Test.YtifeiepociopoaaGreatDoorPEdx0
import Derived.Test.YtifeiepociopoaaGreatDoorPEdx1
import Derived.Test.YtifeiepociopoaaGreatDoorPEdx4
import Derived.Test.YtifeiepociopoaaGreatDoorPEdx6
namespace Go.Proofs.YtifeiepociopoaaGreatDoor.PEd
open Go.RowKit Go.Proofs.YtifeiepociopoaaGreatDoor.Hand Go.Proofs.YtifeiepociopoaaGreatDoorW.PrintWords Go.Proofs.YtifeiepociopoaaGreatDoorW.PrintLast Go.Proofs.YtifeiepociopoaaGreatDoorW.PrintMore
attribute [local go_sem] max2_int min2_int max_two min_two max_three min_three max_four min_four   -- for this text's walks alone
set_option linter.unusedVariables false
set_option linter.unusedSimpArgs false

/-! ### impl_CellValid: function 24 -/
theorem zz7_0_ {P1 Q : Prop} (h1 : P1) (f : P1 → Q := by intro zq1_; repeat (first | (with_reducible first | exact zq1_ | apply below_alloc | apply pw_below_drewN | apply below_drew1) | exact zq1_)) : Q := f h1
theorem zz7_1_ {Q : Prop} (f : Q := by (try simp only [List.map_toArray, List.map_cons, List.map_nil]); first | done | rfl | (simp only [List.length_drop, List.length_take]; rfl)) : Q := f
theorem zz7_2_ {P1 Q : Prop} (h1 : P1) (f : P1 → Q := by intro zq1_; (with_reducible repeat (first | refine blk_drewN ?_ _ | refine blk_drew ?_ | refine blk_alloc ?_ _)); exact zq1_) : Q := f h1
theorem zz7_3_ {P1 P2 Q : Prop} (h1 : P1) (h2 : P2) (f : P1 → P2 → Q := by intro zq1_ zq2_; repeat (first | (with_reducible first | exact zq1_ | apply below_alloc | apply pw_below_drewN | apply below_drew1 | refine below_set ?_ zq2_) | exact zq1_)) : Q := f h1 h2
theorem zz7_4_ {P1 P2 P3 Q : Prop} (h1 : P1) (h2 : P2) (h3 : P3) (f : P1 → P2 → P3 → Q := by intro zq1_ zq2_ zq3_; repeat (first | (with_reducible first | exact zq1_ | apply below_alloc | apply pw_below_drewN | apply below_drew1 | refine below_set ?_ zq2_ | refine below_set ?_ zq3_) | exact zq1_)) : Q := f h1 h2 h3
def impl_CellValid.f (k : Nat) (a0_0 : Int) (a0_1 : ByteArray) (a0_2 : Int) : Option (Bool) := if a0_0 = 1 then ((impl_ReadFraction.f k a0_1).bind fun bt187 => (if bt187.2.2 = true then (if bt187.1 ≥ 0 then (if bt187.2.1 = 0 then (none) else (if ((1000000 : Int) % bt187.2.1) = 0 then (some (a0_2 == 0)) else (some false))) else (some false)) else (some false))) else (if a0_0 = 2 then ((impl_TextValid.f k a0_1).bind fun t191 => (if t191 = true then (if (a0_1.size : Int) ≤ 60 then (some (a0_2 == 0)) else (some false)) else (some false))) else (if a0_0 = 3 then (if a0_1.toList = ([116, 114, 117, 101] : List UInt8) then (some (a0_2 == 0)) else (if a0_1.toList = ([102, 97, 108, 115, 101] : List UInt8) then (some (a0_2 == 0)) else (some false))) else (if a0_0 = 4 then ((impl_NameValid.f k a0_1).bind fun t192 => (if t192 = true then (some (a0_2 == 0)) else (some false))) else (if a0_0 = 5 then (if a0_1.toList = ([] : List UInt8) then ((impl_in.f a0_2 0 8).bind fun t193 => (some t193)) else (some false)) else (if a0_0 = 6 then ((impl_plainName.f k a0_1).bind fun t194 => (if t194 = true then ((impl_in.f a0_2 0 8).bind fun t195 => (some t195)) else (some false))) else (if a0_0 = 7 then (if a0_1.toList = ([33] : List UInt8) then (some (a0_2 == 1)) else (if a0_1.toList = ([45] : List UInt8) then (some (a0_2 == 1)) else (some false))) else (if a0_0 = 8 then ((impl_rankOf.f k a0_1).bind fun t196 => (if t196 > 0 then (some (a0_2 == 2)) else (some false))) else (if a0_0 = 9 then (if a0_1.toList = ([] : List UInt8) then (some (a0_2 == 3)) else (some false)) else (some false)))))))))
theorem impl_CellValid.mono : ∀ a0 a1 a2 k, LeO (impl_CellValid.f k a0 a1 a2) (impl_CellValid.f (k + 1) a0 a1 a2) := by
 intro a0 a1 a2 k
 unfold impl_CellValid.f
 repeat' first
   | (with_reducible exact impl_NameValid.mono _ _)
   | (with_reducible exact impl_ReadFraction.mono _ _)
   | (with_reducible exact impl_TextValid.mono _ _)
   | (with_reducible exact impl_plainName.mono _ _)
   | (with_reducible exact impl_rankOf.mono _ _)
   | (with_reducible exact LeO.refl _)
   | (with_reducible exact LeO.none _)
   | (with_reducible refine LeO.ite ?_ ?_)
   | (with_reducible refine LeO.bind ?_ (fun _ => ?_))
   | exact impl_NameValid.mono _ _
   | exact impl_ReadFraction.mono _ _
   | exact impl_TextValid.mono _ _
   | exact impl_plainName.mono _ _
   | exact impl_rankOf.mono _ _
   | exact LeO.none _
   | refine LeO.ite ?_ ?_
   | refine LeO.bind ?_ (fun _ => ?_)
set_option maxHeartbeats 8000000 in
set_option maxRecDepth 100000 in
theorem impl_CellValid.calls (k : Nat) (a0_0 : Int) (a0_1 : ByteArray) (a0_2 : Int) (r : Bool) (w : World) (htab : Tab10 w) (h : impl_CellValid.f k a0_0 a0_1 a0_2 = some r) :
  Calls Tryz.prog 24 #[.agg #[.int .i64 a0_0, .string a0_1, .int .i64 a0_2]] w fun e w' => e = .returned (.bool r) ∧ Below w.heap.size w w' := by
 have HTAB := Aside0.mk htab
 clear htab
 have hu35 := Tryz.underlying35
 have hu49 := Tryz.underlying49
 have HB := Aside0.mk (Below.refl w.heap.size w)
 have H : (if a0_0 = 1 then ((impl_ReadFraction.f k a0_1).bind fun bt187 => (if bt187.2.2 = true then (if bt187.1 ≥ 0 then (if bt187.2.1 = 0 then (none) else (if ((1000000 : Int) % bt187.2.1) = 0 then (some (a0_2 == 0)) else (some false))) else (some false)) else (some false))) else (if a0_0 = 2 then ((impl_TextValid.f k a0_1).bind fun t191 => (if t191 = true then (if (a0_1.size : Int) ≤ 60 then (some (a0_2 == 0)) else (some false)) else (some false))) else (if a0_0 = 3 then (if a0_1.toList = ([116, 114, 117, 101] : List UInt8) then (some (a0_2 == 0)) else (if a0_1.toList = ([102, 97, 108, 115, 101] : List UInt8) then (some (a0_2 == 0)) else (some false))) else (if a0_0 = 4 then ((impl_NameValid.f k a0_1).bind fun t192 => (if t192 = true then (some (a0_2 == 0)) else (some false))) else (if a0_0 = 5 then (if a0_1.toList = ([] : List UInt8) then ((impl_in.f a0_2 0 8).bind fun t193 => (some t193)) else (some false)) else (if a0_0 = 6 then ((impl_plainName.f k a0_1).bind fun t194 => (if t194 = true then ((impl_in.f a0_2 0 8).bind fun t195 => (some t195)) else (some false))) else (if a0_0 = 7 then (if a0_1.toList = ([33] : List UInt8) then (some (a0_2 == 1)) else (if a0_1.toList = ([45] : List UInt8) then (some (a0_2 == 1)) else (some false))) else (if a0_0 = 8 then ((impl_rankOf.f k a0_1).bind fun t196 => (if t196 > 0 then (some (a0_2 == 2)) else (some false))) else (if a0_0 = 9 then (if a0_1.toList = ([] : List UInt8) then (some (a0_2 == 3)) else (some false)) else (some false)))))))))) = some r := h
 clear h
 by_cases c2 : a0_0 = 1
 ·rw [if_pos c2] at H
  have c2b0 : (a0_0 == 1) = true := beq_iff_eq.mpr c2
  have c2b1 : (a0_0 != 1) = false := bne_eq_false_iff_eq.mpr c2
  clear c2
  replace H := Option.bind_eq_some_iff.mp H
  obtain ⟨⟨t187, t188, t189⟩, A30, H⟩ := H
  try dsimp only at H
  have A3 := Aside0.mk A30
  clear A30
  by_cases c4 : t189 = true
  ·subst c4
   rw [if_pos rfl] at H
   by_cases c5 : t187 ≥ 0
   ·rw [if_pos c5] at H
    have c5b0 : decide (0 ≤ t187) = true := decide_eq_true c5
    clear c5
    by_cases c6 : t188 = 0
    ·rw [if_pos c6] at H
     exact absurd H (by simp)
    ·rw [if_neg c6] at H
     have c6b0 : (t188 == 0) = false := beq_eq_false_iff_ne.mpr c6
     have c6b1 : (t188 != 0) = true := bne_iff_ne.mpr c6
     by_cases c7 : ((1000000 : Int) % t188) = 0
     ·rw [if_pos c7] at H
      have c7b0 : (((1000000 : Int) % t188) == 0) = true := beq_iff_eq.mpr c7
      have c7b1 : (((1000000 : Int) % t188) != 0) = false := bne_eq_false_iff_eq.mpr c7
      clear c7
      obtain rfl := Option.some.inj H
      go_enter Tryz.func24, Tryz.ntmps24
      go_wp2_with (first | ((with_reducible refine gate_dst (N := 1) rfl ?_); (try (refine gate_guard (by rfl) ?_; dsimp only)); refine box_event ?hg (N := 1) ?hd (cs := #[.int .i64 a0_0, .string a0_1, .int .i64 a0_2]) (t := 35) ?hr ?_; (case hd => rfl); (case hg => rfl); (case hr => first | (go_simp; done) | (go_simp; rfl)); intro gb186 hg w8 hbox hb; have n0_ := Aside0.mk (below_step (zz7_0_ HB.out) hb); have n1_ := Aside0.mk (hbox); have n2_ := Aside0.mk ((by rw [hg]; exact (below_size (zz7_0_ HB.out)) : w.heap.size ≤ gb186)); have n3_ := Aside0.mk ((by rw [hg]; exact (below_size (zz7_0_ HB.out)) : w.heap.size ≤ gb186)); clear HB; have HB := n0_; have BK186 := n1_; have GW186 := n2_; have GE186 := n3_; clear n0_ n1_ n2_ n3_; clear hb hbox hg; have hcz9_0 : w8.cell? ⟨gb186, 0, none⟩ = some (.int .i64 a0_0) := (blk_cell BK186.out 0).trans rfl; have hcz9_1 : w8.cell? ⟨gb186, 1, none⟩ = some (.string a0_1) := (blk_cell BK186.out 1).trans rfl; have hcz9_2 : w8.cell? ⟨gb186, 2, none⟩ = some (.int .i64 a0_2) := (blk_cell BK186.out 2).trans rfl; have hfz9_0 := blk_frozen BK186.out 0; have hfz9_1 := blk_frozen BK186.out 1; have hfz9_2 := blk_frozen BK186.out 2) | ((with_reducible refine gate_callee (f := 31) rfl ?_); refine goesL_ (some 12) rfl rfl Tryz.func31 (by kernel_rfl) rfl #[.string a0_1] rfl (zz7_1_) ?_; (with_reducible refine (impl_ReadFraction.calls k a0_1 t187 t188 true _ (by first | exact HTAB.out | exact tab_at HTAB.out (by repeat (first | (with_reducible first | exact HB.out | apply below_alloc | apply pw_below_drewN | apply below_drew1 | refine below_set ?_ (GE186).out) | exact HB.out))) A3.out).mono ?_); rintro e w10 ⟨rfl, hb⟩; refine ⟨_, rfl, ?_⟩; have n0_ := Aside0.mk (blk_below (g := gb186) (o := .cells #[.int .i64 a0_0, .string a0_1, .int .i64 a0_2] 35 (0, 0)) (zz7_2_ BK186.out) hb); have n1_ := Aside0.mk (below_step (zz7_3_ HB.out GE186.out) hb); clear BK186; clear HB; have BK186 := n0_; have HB := n1_; clear n0_ n1_; (try clear hb); (try clear hb2); (try clear hk); (try clear hi)) | ((with_reducible refine gate_dst (N := 3) rfl ?_); (try (refine gate_guard (by rfl) ?_; dsimp only)); refine box_event ?hg (N := 3) ?hd (cs := #[.int .i64 0, .int .i64 0]) (t := 49) ?hr ?_; (case hd => rfl); (case hg => rfl); (case hr => first | (go_simp; done) | (go_simp; rfl)); intro gb190 hg w11 hbox hb; have n0_ := Aside0.mk (blk_below (g := gb186) (o := .cells #[.int .i64 a0_0, .string a0_1, .int .i64 a0_2] 35 (0, 0)) (zz7_2_ BK186.out) hb); have n1_ := Aside0.mk (below_step (zz7_3_ HB.out GE186.out) hb); have n2_ := Aside0.mk (hbox); have n3_ := Aside0.mk ((by rw [hg]; exact (below_size (zz7_3_ HB.out GE186.out)) : w.heap.size ≤ gb190)); have n4_ := Aside0.mk ((by rw [hg]; exact (below_size (zz7_3_ HB.out GE186.out)) : w.heap.size ≤ gb190)); have n5_ := Aside0.mk ((by rw [hg]; exact Nat.ne_of_lt (blk_lt (g := gb186) (o := .cells #[.int .i64 a0_0, .string a0_1, .int .i64 a0_2] 35 (0, 0)) (zz7_2_ BK186.out)) : gb186 ≠ gb190)); have n6_ := Aside0.mk ((by rw [hg]; exact Nat.ne_of_gt (blk_lt (g := gb186) (o := .cells #[.int .i64 a0_0, .string a0_1, .int .i64 a0_2] 35 (0, 0)) (zz7_2_ BK186.out)) : gb190 ≠ gb186)); clear BK186; clear HB; have BK186 := n0_; have HB := n1_; have BK190 := n2_; have GW190 := n3_; have GE190 := n4_; have NB186_190 := n5_; have NB190_186 := n6_; clear n0_ n1_ n2_ n3_ n4_ n5_ n6_; clear hb hbox hg; have hnb12 := NB190_186.out; have hnc12 := NB186_190.out; have hcz13_0 : w11.cell? ⟨gb190, 0, none⟩ = some (.int .i64 0) := (blk_cell BK190.out 0).trans rfl; have hcz13_1 : w11.cell? ⟨gb190, 1, none⟩ = some (.int .i64 0) := (blk_cell BK190.out 1).trans rfl; have hfz13_0 := blk_frozen BK190.out 0; have hfz13_1 := blk_frozen BK190.out 1; have hcz14_0 : w11.cell? ⟨gb186, 0, none⟩ = some (.int .i64 a0_0) := (blk_cell BK186.out 0).trans rfl; have hcz14_1 : w11.cell? ⟨gb186, 1, none⟩ = some (.string a0_1) := (blk_cell BK186.out 1).trans rfl; have hcz14_2 : w11.cell? ⟨gb186, 2, none⟩ = some (.int .i64 a0_2) := (blk_cell BK186.out 2).trans rfl; have hfz14_0 := blk_frozen BK186.out 0; have hfz14_1 := blk_frozen BK186.out 1; have hfz14_2 := blk_frozen BK186.out 2))
      go_ret
      exact ⟨by first | rfl | (rw [ne_nil_isEmpty]; done) | (simp [ne_nil_isEmpty]; done) | (simp [errW_none, errW_some] <;> rfl) | (simp [*, errW_none, errW_some] <;> rfl), zz7_4_ HB.out GE186.out GE190.out⟩
     ·rw [if_neg c7] at H
      have c7b0 : (((1000000 : Int) % t188) == 0) = false := beq_eq_false_iff_ne.mpr c7
      have c7b1 : (((1000000 : Int) % t188) != 0) = true := bne_iff_ne.mpr c7
      obtain rfl := Option.some.inj H
      go_enter Tryz.func24, Tryz.ntmps24
      go_wp2_with (first | ((with_reducible refine gate_dst (N := 1) rfl ?_); (try (refine gate_guard (by rfl) ?_; dsimp only)); refine box_event ?hg (N := 1) ?hd (cs := #[.int .i64 a0_0, .string a0_1, .int .i64 a0_2]) (t := 35) ?hr ?_; (case hd => rfl); (case hg => rfl); (case hr => first | (go_simp; done) | (go_simp; rfl)); intro gb186 hg w15 hbox hb; have n0_ := Aside0.mk (below_step (zz7_0_ HB.out) hb); have n1_ := Aside0.mk (hbox); have n2_ := Aside0.mk ((by rw [hg]; exact (below_size (zz7_0_ HB.out)) : w.heap.size ≤ gb186)); have n3_ := Aside0.mk ((by rw [hg]; exact (below_size (zz7_0_ HB.out)) : w.heap.size ≤ gb186)); clear HB; have HB := n0_; have BK186 := n1_; have GW186 := n2_; have GE186 := n3_; clear n0_ n1_ n2_ n3_; clear hb hbox hg; have hcz16_0 : w15.cell? ⟨gb186, 0, none⟩ = some (.int .i64 a0_0) := (blk_cell BK186.out 0).trans rfl; have hcz16_1 : w15.cell? ⟨gb186, 1, none⟩ = some (.string a0_1) := (blk_cell BK186.out 1).trans rfl; have hcz16_2 : w15.cell? ⟨gb186, 2, none⟩ = some (.int .i64 a0_2) := (blk_cell BK186.out 2).trans rfl; have hfz16_0 := blk_frozen BK186.out 0; have hfz16_1 := blk_frozen BK186.out 1; have hfz16_2 := blk_frozen BK186.out 2) | ((with_reducible refine gate_callee (f := 31) rfl ?_); refine goesL_ (some 12) rfl rfl Tryz.func31 (by kernel_rfl) rfl #[.string a0_1] rfl (zz7_1_) ?_; (with_reducible refine (impl_ReadFraction.calls k a0_1 t187 t188 true _ (by first | exact HTAB.out | exact tab_at HTAB.out (by repeat (first | (with_reducible first | exact HB.out | apply below_alloc | apply pw_below_drewN | apply below_drew1 | refine below_set ?_ (GE186).out | refine below_set ?_ (GE190).out) | exact HB.out))) A3.out).mono ?_); rintro e w17 ⟨rfl, hb⟩; refine ⟨_, rfl, ?_⟩; have n0_ := Aside0.mk (blk_below (g := gb186) (o := .cells #[.int .i64 a0_0, .string a0_1, .int .i64 a0_2] 35 (0, 0)) (zz7_2_ BK186.out) hb); have n1_ := Aside0.mk (below_step (zz7_3_ HB.out GE186.out) hb); clear BK186; clear HB; have BK186 := n0_; have HB := n1_; clear n0_ n1_; (try clear hb); (try clear hb2); (try clear hk); (try clear hi)) | ((with_reducible refine gate_dst (N := 3) rfl ?_); (try (refine gate_guard (by rfl) ?_; dsimp only)); refine box_event ?hg (N := 3) ?hd (cs := #[.int .i64 0, .int .i64 0]) (t := 49) ?hr ?_; (case hd => rfl); (case hg => rfl); (case hr => first | (go_simp; done) | (go_simp; rfl)); intro gb190 hg w18 hbox hb; have n0_ := Aside0.mk (blk_below (g := gb186) (o := .cells #[.int .i64 a0_0, .string a0_1, .int .i64 a0_2] 35 (0, 0)) (zz7_2_ BK186.out) hb); have n1_ := Aside0.mk (below_step (zz7_3_ HB.out GE186.out) hb); have n2_ := Aside0.mk (hbox); have n3_ := Aside0.mk ((by rw [hg]; exact (below_size (zz7_3_ HB.out GE186.out)) : w.heap.size ≤ gb190)); have n4_ := Aside0.mk ((by rw [hg]; exact (below_size (zz7_3_ HB.out GE186.out)) : w.heap.size ≤ gb190)); have n5_ := Aside0.mk ((by rw [hg]; exact Nat.ne_of_lt (blk_lt (g := gb186) (o := .cells #[.int .i64 a0_0, .string a0_1, .int .i64 a0_2] 35 (0, 0)) (zz7_2_ BK186.out)) : gb186 ≠ gb190)); have n6_ := Aside0.mk ((by rw [hg]; exact Nat.ne_of_gt (blk_lt (g := gb186) (o := .cells #[.int .i64 a0_0, .string a0_1, .int .i64 a0_2] 35 (0, 0)) (zz7_2_ BK186.out)) : gb190 ≠ gb186)); clear BK186; clear HB; have BK186 := n0_; have HB := n1_; have BK190 := n2_; have GW190 := n3_; have GE190 := n4_; have NB186_190 := n5_; have NB190_186 := n6_; clear n0_ n1_ n2_ n3_ n4_ n5_ n6_; clear hb hbox hg; have hnb19 := NB190_186.out; have hnc19 := NB186_190.out; have hcz20_0 : w18.cell? ⟨gb190, 0, none⟩ = some (.int .i64 0) := (blk_cell BK190.out 0).trans rfl; have hcz20_1 : w18.cell? ⟨gb190, 1, none⟩ = some (.int .i64 0) := (blk_cell BK190.out 1).trans rfl; have hfz20_0 := blk_frozen BK190.out 0; have hfz20_1 := blk_frozen BK190.out 1))
      go_ret
      exact ⟨by first | rfl | (rw [ne_nil_isEmpty]; done) | (simp [ne_nil_isEmpty]; done) | (simp [errW_none, errW_some] <;> rfl) | (simp [*, errW_none, errW_some] <;> rfl), zz7_4_ HB.out GE186.out GE190.out⟩
   ·rw [if_neg c5] at H
    have c5b0 : decide (0 ≤ t187) = false := decide_eq_false c5
    clear c5
    obtain rfl := Option.some.inj H
    go_enter Tryz.func24, Tryz.ntmps24
    go_wp2_with (first | ((with_reducible refine gate_dst (N := 1) rfl ?_); (try (refine gate_guard (by rfl) ?_; dsimp only)); refine box_event ?hg (N := 1) ?hd (cs := #[.int .i64 a0_0, .string a0_1, .int .i64 a0_2]) (t := 35) ?hr ?_; (case hd => rfl); (case hg => rfl); (case hr => first | (go_simp; done) | (go_simp; rfl)); intro gb186 hg w21 hbox hb; have n0_ := Aside0.mk (below_step (zz7_0_ HB.out) hb); have n1_ := Aside0.mk (hbox); have n2_ := Aside0.mk ((by rw [hg]; exact (below_size (zz7_0_ HB.out)) : w.heap.size ≤ gb186)); have n3_ := Aside0.mk ((by rw [hg]; exact (below_size (zz7_0_ HB.out)) : w.heap.size ≤ gb186)); clear HB; have HB := n0_; have BK186 := n1_; have GW186 := n2_; have GE186 := n3_; clear n0_ n1_ n2_ n3_; clear hb hbox hg; have hcz22_0 : w21.cell? ⟨gb186, 0, none⟩ = some (.int .i64 a0_0) := (blk_cell BK186.out 0).trans rfl; have hcz22_1 : w21.cell? ⟨gb186, 1, none⟩ = some (.string a0_1) := (blk_cell BK186.out 1).trans rfl; have hcz22_2 : w21.cell? ⟨gb186, 2, none⟩ = some (.int .i64 a0_2) := (blk_cell BK186.out 2).trans rfl; have hfz22_0 := blk_frozen BK186.out 0; have hfz22_1 := blk_frozen BK186.out 1; have hfz22_2 := blk_frozen BK186.out 2) | ((with_reducible refine gate_callee (f := 31) rfl ?_); refine goesL_ (some 12) rfl rfl Tryz.func31 (by kernel_rfl) rfl #[.string a0_1] rfl (zz7_1_) ?_; (with_reducible refine (impl_ReadFraction.calls k a0_1 t187 t188 true _ (by first | exact HTAB.out | exact tab_at HTAB.out (by repeat (first | (with_reducible first | exact HB.out | apply below_alloc | apply pw_below_drewN | apply below_drew1 | refine below_set ?_ (GE186).out | refine below_set ?_ (GE190).out) | exact HB.out))) A3.out).mono ?_); rintro e w23 ⟨rfl, hb⟩; refine ⟨_, rfl, ?_⟩; have n0_ := Aside0.mk (blk_below (g := gb186) (o := .cells #[.int .i64 a0_0, .string a0_1, .int .i64 a0_2] 35 (0, 0)) (zz7_2_ BK186.out) hb); have n1_ := Aside0.mk (below_step (zz7_3_ HB.out GE186.out) hb); clear BK186; clear HB; have BK186 := n0_; have HB := n1_; clear n0_ n1_; (try clear hb); (try clear hb2); (try clear hk); (try clear hi)) | ((with_reducible refine gate_dst (N := 3) rfl ?_); (try (refine gate_guard (by rfl) ?_; dsimp only)); refine box_event ?hg (N := 3) ?hd (cs := #[.int .i64 0, .int .i64 0]) (t := 49) ?hr ?_; (case hd => rfl); (case hg => rfl); (case hr => first | (go_simp; done) | (go_simp; rfl)); intro gb190 hg w24 hbox hb; have n0_ := Aside0.mk (blk_below (g := gb186) (o := .cells #[.int .i64 a0_0, .string a0_1, .int .i64 a0_2] 35 (0, 0)) (zz7_2_ BK186.out) hb); have n1_ := Aside0.mk (below_step (zz7_3_ HB.out GE186.out) hb); have n2_ := Aside0.mk (hbox); have n3_ := Aside0.mk ((by rw [hg]; exact (below_size (zz7_3_ HB.out GE186.out)) : w.heap.size ≤ gb190)); have n4_ := Aside0.mk ((by rw [hg]; exact (below_size (zz7_3_ HB.out GE186.out)) : w.heap.size ≤ gb190)); have n5_ := Aside0.mk ((by rw [hg]; exact Nat.ne_of_lt (blk_lt (g := gb186) (o := .cells #[.int .i64 a0_0, .string a0_1, .int .i64 a0_2] 35 (0, 0)) (zz7_2_ BK186.out)) : gb186 ≠ gb190)); have n6_ := Aside0.mk ((by rw [hg]; exact Nat.ne_of_gt (blk_lt (g := gb186) (o := .cells #[.int .i64 a0_0, .string a0_1, .int .i64 a0_2] 35 (0, 0)) (zz7_2_ BK186.out)) : gb190 ≠ gb186)); clear BK186; clear HB; have BK186 := n0_; have HB := n1_; have BK190 := n2_; have GW190 := n3_; have GE190 := n4_; have NB186_190 := n5_; have NB190_186 := n6_; clear n0_ n1_ n2_ n3_ n4_ n5_ n6_; clear hb hbox hg; have hnb25 := NB190_186.out; have hnc25 := NB186_190.out; have hcz26_0 : w24.cell? ⟨gb190, 0, none⟩ = some (.int .i64 0) := (blk_cell BK190.out 0).trans rfl; have hcz26_1 : w24.cell? ⟨gb190, 1, none⟩ = some (.int .i64 0) := (blk_cell BK190.out 1).trans rfl; have hfz26_0 := blk_frozen BK190.out 0; have hfz26_1 := blk_frozen BK190.out 1))
    go_ret
    exact ⟨by first | rfl | (rw [ne_nil_isEmpty]; done) | (simp [ne_nil_isEmpty]; done) | (simp [errW_none, errW_some] <;> rfl) | (simp [*, errW_none, errW_some] <;> rfl), zz7_4_ HB.out GE186.out GE190.out⟩
  ·replace c4 := Bool.eq_false_iff.mpr c4
   subst c4
   rw [if_neg (show ¬ (false = true) by decide)] at H
   obtain rfl := Option.some.inj H
   go_enter Tryz.func24, Tryz.ntmps24
   go_wp2_with (first | ((with_reducible refine gate_dst (N := 1) rfl ?_); (try (refine gate_guard (by rfl) ?_; dsimp only)); refine box_event ?hg (N := 1) ?hd (cs := #[.int .i64 a0_0, .string a0_1, .int .i64 a0_2]) (t := 35) ?hr ?_; (case hd => rfl); (case hg => rfl); (case hr => first | (go_simp; done) | (go_simp; rfl)); intro gb186 hg w27 hbox hb; have n0_ := Aside0.mk (below_step (zz7_0_ HB.out) hb); have n1_ := Aside0.mk (hbox); have n2_ := Aside0.mk ((by rw [hg]; exact (below_size (zz7_0_ HB.out)) : w.heap.size ≤ gb186)); have n3_ := Aside0.mk ((by rw [hg]; exact (below_size (zz7_0_ HB.out)) : w.heap.size ≤ gb186)); clear HB; have HB := n0_; have BK186 := n1_; have GW186 := n2_; have GE186 := n3_; clear n0_ n1_ n2_ n3_; clear hb hbox hg; have hcz28_0 : w27.cell? ⟨gb186, 0, none⟩ = some (.int .i64 a0_0) := (blk_cell BK186.out 0).trans rfl; have hcz28_1 : w27.cell? ⟨gb186, 1, none⟩ = some (.string a0_1) := (blk_cell BK186.out 1).trans rfl; have hcz28_2 : w27.cell? ⟨gb186, 2, none⟩ = some (.int .i64 a0_2) := (blk_cell BK186.out 2).trans rfl; have hfz28_0 := blk_frozen BK186.out 0; have hfz28_1 := blk_frozen BK186.out 1; have hfz28_2 := blk_frozen BK186.out 2) | ((with_reducible refine gate_callee (f := 31) rfl ?_); refine goesL_ (some 12) rfl rfl Tryz.func31 (by kernel_rfl) rfl #[.string a0_1] rfl (zz7_1_) ?_; (with_reducible refine (impl_ReadFraction.calls k a0_1 t187 t188 false _ (by first | exact HTAB.out | exact tab_at HTAB.out (by repeat (first | (with_reducible first | exact HB.out | apply below_alloc | apply pw_below_drewN | apply below_drew1 | refine below_set ?_ (GE186).out | refine below_set ?_ (GE190).out) | exact HB.out))) A3.out).mono ?_); rintro e w29 ⟨rfl, hb⟩; refine ⟨_, rfl, ?_⟩; have n0_ := Aside0.mk (blk_below (g := gb186) (o := .cells #[.int .i64 a0_0, .string a0_1, .int .i64 a0_2] 35 (0, 0)) (zz7_2_ BK186.out) hb); have n1_ := Aside0.mk (below_step (zz7_3_ HB.out GE186.out) hb); clear BK186; clear HB; have BK186 := n0_; have HB := n1_; clear n0_ n1_; (try clear hb); (try clear hb2); (try clear hk); (try clear hi)) | ((with_reducible refine gate_dst (N := 3) rfl ?_); (try (refine gate_guard (by rfl) ?_; dsimp only)); refine box_event ?hg (N := 3) ?hd (cs := #[.int .i64 0, .int .i64 0]) (t := 49) ?hr ?_; (case hd => rfl); (case hg => rfl); (case hr => first | (go_simp; done) | (go_simp; rfl)); intro gb190 hg w30 hbox hb; have n0_ := Aside0.mk (blk_below (g := gb186) (o := .cells #[.int .i64 a0_0, .string a0_1, .int .i64 a0_2] 35 (0, 0)) (zz7_2_ BK186.out) hb); have n1_ := Aside0.mk (below_step (zz7_3_ HB.out GE186.out) hb); have n2_ := Aside0.mk (hbox); have n3_ := Aside0.mk ((by rw [hg]; exact (below_size (zz7_3_ HB.out GE186.out)) : w.heap.size ≤ gb190)); have n4_ := Aside0.mk ((by rw [hg]; exact (below_size (zz7_3_ HB.out GE186.out)) : w.heap.size ≤ gb190)); have n5_ := Aside0.mk ((by rw [hg]; exact Nat.ne_of_lt (blk_lt (g := gb186) (o := .cells #[.int .i64 a0_0, .string a0_1, .int .i64 a0_2] 35 (0, 0)) (zz7_2_ BK186.out)) : gb186 ≠ gb190)); have n6_ := Aside0.mk ((by rw [hg]; exact Nat.ne_of_gt (blk_lt (g := gb186) (o := .cells #[.int .i64 a0_0, .string a0_1, .int .i64 a0_2] 35 (0, 0)) (zz7_2_ BK186.out)) : gb190 ≠ gb186)); clear BK186; clear HB; have BK186 := n0_; have HB := n1_; have BK190 := n2_; have GW190 := n3_; have GE190 := n4_; have NB186_190 := n5_; have NB190_186 := n6_; clear n0_ n1_ n2_ n3_ n4_ n5_ n6_; clear hb hbox hg; have hnb31 := NB190_186.out; have hnc31 := NB186_190.out; have hcz32_0 : w30.cell? ⟨gb190, 0, none⟩ = some (.int .i64 0) := (blk_cell BK190.out 0).trans rfl; have hcz32_1 : w30.cell? ⟨gb190, 1, none⟩ = some (.int .i64 0) := (blk_cell BK190.out 1).trans rfl; have hfz32_0 := blk_frozen BK190.out 0; have hfz32_1 := blk_frozen BK190.out 1))
   go_ret
   exact ⟨by first | rfl | (rw [ne_nil_isEmpty]; done) | (simp [ne_nil_isEmpty]; done) | (simp [errW_none, errW_some] <;> rfl) | (simp [*, errW_none, errW_some] <;> rfl), zz7_4_ HB.out GE186.out GE190.out⟩
 ·rw [if_neg c2] at H
  have c2b0 : (a0_0 == 1) = false := beq_eq_false_iff_ne.mpr c2
  have c2b1 : (a0_0 != 1) = true := bne_iff_ne.mpr c2
  by_cases c33 : a0_0 = 2
  ·rw [if_pos c33] at H
   have c33b0 : (a0_0 == 2) = true := beq_iff_eq.mpr c33
   have c33b1 : (a0_0 != 2) = false := bne_eq_false_iff_eq.mpr c33
   clear c33
   replace H := Option.bind_eq_some_iff.mp H
   obtain ⟨t191, A340, H⟩ := H
   try dsimp only at H
   have A34 := Aside0.mk A340
   clear A340
   by_cases c35 : t191 = true
   ·subst c35
    rw [if_pos rfl] at H
    by_cases c36 : (a0_1.size : Int) ≤ 60
    ·rw [if_pos c36] at H
     have c36b0 : decide ((a0_1.size : Int) ≤ 60) = true := decide_eq_true c36
     have c36b1 : decide (a0_1.size ≤ 60) = true := decide_eq_true (by omega)
     clear c36
     obtain rfl := Option.some.inj H
     go_enter Tryz.func24, Tryz.ntmps24
     go_wp2_with (first | ((with_reducible refine gate_dst (N := 1) rfl ?_); (try (refine gate_guard (by rfl) ?_; dsimp only)); refine box_event ?hg (N := 1) ?hd (cs := #[.int .i64 a0_0, .string a0_1, .int .i64 a0_2]) (t := 35) ?hr ?_; (case hd => rfl); (case hg => rfl); (case hr => first | (go_simp; done) | (go_simp; rfl)); intro gb186 hg w37 hbox hb; have n0_ := Aside0.mk (below_step (zz7_0_ HB.out) hb); have n1_ := Aside0.mk (hbox); have n2_ := Aside0.mk ((by rw [hg]; exact (below_size (zz7_0_ HB.out)) : w.heap.size ≤ gb186)); have n3_ := Aside0.mk ((by rw [hg]; exact (below_size (zz7_0_ HB.out)) : w.heap.size ≤ gb186)); clear HB; have HB := n0_; have BK186 := n1_; have GW186 := n2_; have GE186 := n3_; clear n0_ n1_ n2_ n3_; clear hb hbox hg; have hcz38_0 : w37.cell? ⟨gb186, 0, none⟩ = some (.int .i64 a0_0) := (blk_cell BK186.out 0).trans rfl; have hcz38_1 : w37.cell? ⟨gb186, 1, none⟩ = some (.string a0_1) := (blk_cell BK186.out 1).trans rfl; have hcz38_2 : w37.cell? ⟨gb186, 2, none⟩ = some (.int .i64 a0_2) := (blk_cell BK186.out 2).trans rfl; have hfz38_0 := blk_frozen BK186.out 0; have hfz38_1 := blk_frozen BK186.out 1; have hfz38_2 := blk_frozen BK186.out 2) | ((with_reducible refine gate_callee (f := 23) rfl ?_); refine goesL_ (some 36) rfl rfl Tryz.func23 (by kernel_rfl) rfl #[.string a0_1] rfl (zz7_1_) ?_; (with_reducible refine (impl_TextValid.calls k a0_1 true _ A34.out).mono ?_); rintro e w' ⟨rfl, ⟨nd, rfl⟩⟩; refine ⟨_, rfl, ?_⟩))
     go_ret
     exact ⟨by first | rfl | (rw [ne_nil_isEmpty]; done) | (simp [ne_nil_isEmpty]; done) | (simp [errW_none, errW_some] <;> rfl) | (simp [*, errW_none, errW_some] <;> rfl), zz7_3_ HB.out GE186.out⟩
    ·rw [if_neg c36] at H
     have c36b0 : decide ((a0_1.size : Int) ≤ 60) = false := decide_eq_false c36
     have c36b1 : decide (a0_1.size ≤ 60) = false := decide_eq_false (by omega)
     clear c36
     obtain rfl := Option.some.inj H
     go_enter Tryz.func24, Tryz.ntmps24
     go_wp2_with (first | ((with_reducible refine gate_dst (N := 1) rfl ?_); (try (refine gate_guard (by rfl) ?_; dsimp only)); refine box_event ?hg (N := 1) ?hd (cs := #[.int .i64 a0_0, .string a0_1, .int .i64 a0_2]) (t := 35) ?hr ?_; (case hd => rfl); (case hg => rfl); (case hr => first | (go_simp; done) | (go_simp; rfl)); intro gb186 hg w39 hbox hb; have n0_ := Aside0.mk (below_step (zz7_0_ HB.out) hb); have n1_ := Aside0.mk (hbox); have n2_ := Aside0.mk ((by rw [hg]; exact (below_size (zz7_0_ HB.out)) : w.heap.size ≤ gb186)); have n3_ := Aside0.mk ((by rw [hg]; exact (below_size (zz7_0_ HB.out)) : w.heap.size ≤ gb186)); clear HB; have HB := n0_; have BK186 := n1_; have GW186 := n2_; have GE186 := n3_; clear n0_ n1_ n2_ n3_; clear hb hbox hg; have hcz40_0 : w39.cell? ⟨gb186, 0, none⟩ = some (.int .i64 a0_0) := (blk_cell BK186.out 0).trans rfl; have hcz40_1 : w39.cell? ⟨gb186, 1, none⟩ = some (.string a0_1) := (blk_cell BK186.out 1).trans rfl; have hcz40_2 : w39.cell? ⟨gb186, 2, none⟩ = some (.int .i64 a0_2) := (blk_cell BK186.out 2).trans rfl; have hfz40_0 := blk_frozen BK186.out 0; have hfz40_1 := blk_frozen BK186.out 1; have hfz40_2 := blk_frozen BK186.out 2) | ((with_reducible refine gate_callee (f := 23) rfl ?_); refine goesL_ (some 36) rfl rfl Tryz.func23 (by kernel_rfl) rfl #[.string a0_1] rfl (zz7_1_) ?_; (with_reducible refine (impl_TextValid.calls k a0_1 true _ A34.out).mono ?_); rintro e w' ⟨rfl, ⟨nd, rfl⟩⟩; refine ⟨_, rfl, ?_⟩))
     go_ret
     exact ⟨by first | rfl | (rw [ne_nil_isEmpty]; done) | (simp [ne_nil_isEmpty]; done) | (simp [errW_none, errW_some] <;> rfl) | (simp [*, errW_none, errW_some] <;> rfl), zz7_3_ HB.out GE186.out⟩
   ·replace c35 := Bool.eq_false_iff.mpr c35
    subst c35
    rw [if_neg (show ¬ (false = true) by decide)] at H
    obtain rfl := Option.some.inj H
    go_enter Tryz.func24, Tryz.ntmps24
    go_wp2_with (first | ((with_reducible refine gate_dst (N := 1) rfl ?_); (try (refine gate_guard (by rfl) ?_; dsimp only)); refine box_event ?hg (N := 1) ?hd (cs := #[.int .i64 a0_0, .string a0_1, .int .i64 a0_2]) (t := 35) ?hr ?_; (case hd => rfl); (case hg => rfl); (case hr => first | (go_simp; done) | (go_simp; rfl)); intro gb186 hg w41 hbox hb; have n0_ := Aside0.mk (below_step (zz7_0_ HB.out) hb); have n1_ := Aside0.mk (hbox); have n2_ := Aside0.mk ((by rw [hg]; exact (below_size (zz7_0_ HB.out)) : w.heap.size ≤ gb186)); have n3_ := Aside0.mk ((by rw [hg]; exact (below_size (zz7_0_ HB.out)) : w.heap.size ≤ gb186)); clear HB; have HB := n0_; have BK186 := n1_; have GW186 := n2_; have GE186 := n3_; clear n0_ n1_ n2_ n3_; clear hb hbox hg; have hcz42_0 : w41.cell? ⟨gb186, 0, none⟩ = some (.int .i64 a0_0) := (blk_cell BK186.out 0).trans rfl; have hcz42_1 : w41.cell? ⟨gb186, 1, none⟩ = some (.string a0_1) := (blk_cell BK186.out 1).trans rfl; have hcz42_2 : w41.cell? ⟨gb186, 2, none⟩ = some (.int .i64 a0_2) := (blk_cell BK186.out 2).trans rfl; have hfz42_0 := blk_frozen BK186.out 0; have hfz42_1 := blk_frozen BK186.out 1; have hfz42_2 := blk_frozen BK186.out 2) | ((with_reducible refine gate_callee (f := 23) rfl ?_); refine goesL_ (some 36) rfl rfl Tryz.func23 (by kernel_rfl) rfl #[.string a0_1] rfl (zz7_1_) ?_; (with_reducible refine (impl_TextValid.calls k a0_1 false _ A34.out).mono ?_); rintro e w' ⟨rfl, ⟨nd, rfl⟩⟩; refine ⟨_, rfl, ?_⟩))
    go_ret
    exact ⟨by first | rfl | (rw [ne_nil_isEmpty]; done) | (simp [ne_nil_isEmpty]; done) | (simp [errW_none, errW_some] <;> rfl) | (simp [*, errW_none, errW_some] <;> rfl), zz7_3_ HB.out GE186.out⟩
  ·rw [if_neg c33] at H
   have c33b0 : (a0_0 == 2) = false := beq_eq_false_iff_ne.mpr c33
   have c33b1 : (a0_0 != 2) = true := bne_iff_ne.mpr c33
   by_cases c43 : a0_0 = 3
   ·rw [if_pos c43] at H
    have c43b0 : (a0_0 == 3) = true := beq_iff_eq.mpr c43
    have c43b1 : (a0_0 != 3) = false := bne_eq_false_iff_eq.mpr c43
    clear c43
    by_cases c44 : a0_1.toList = ([116, 114, 117, 101] : List UInt8)
    ·rw [if_pos c44] at H
     have c44b0 : (a0_1.toList == ([116, 114, 117, 101] : List UInt8)) = true := beq_iff_eq.mpr c44
     have c44b1 : (a0_1.toList != ([116, 114, 117, 101] : List UInt8)) = false := bne_eq_false_iff_eq.mpr c44
     clear c44
     obtain rfl := Option.some.inj H
     go_enter Tryz.func24, Tryz.ntmps24
     go_wp2_with (first | ((with_reducible refine gate_dst (N := 1) rfl ?_); (try (refine gate_guard (by rfl) ?_; dsimp only)); refine box_event ?hg (N := 1) ?hd (cs := #[.int .i64 a0_0, .string a0_1, .int .i64 a0_2]) (t := 35) ?hr ?_; (case hd => rfl); (case hg => rfl); (case hr => first | (go_simp; done) | (go_simp; rfl)); intro gb186 hg w45 hbox hb; have n0_ := Aside0.mk (below_step (zz7_0_ HB.out) hb); have n1_ := Aside0.mk (hbox); have n2_ := Aside0.mk ((by rw [hg]; exact (below_size (zz7_0_ HB.out)) : w.heap.size ≤ gb186)); have n3_ := Aside0.mk ((by rw [hg]; exact (below_size (zz7_0_ HB.out)) : w.heap.size ≤ gb186)); clear HB; have HB := n0_; have BK186 := n1_; have GW186 := n2_; have GE186 := n3_; clear n0_ n1_ n2_ n3_; clear hb hbox hg; have hcz46_0 : w45.cell? ⟨gb186, 0, none⟩ = some (.int .i64 a0_0) := (blk_cell BK186.out 0).trans rfl; have hcz46_1 : w45.cell? ⟨gb186, 1, none⟩ = some (.string a0_1) := (blk_cell BK186.out 1).trans rfl; have hcz46_2 : w45.cell? ⟨gb186, 2, none⟩ = some (.int .i64 a0_2) := (blk_cell BK186.out 2).trans rfl; have hfz46_0 := blk_frozen BK186.out 0; have hfz46_1 := blk_frozen BK186.out 1; have hfz46_2 := blk_frozen BK186.out 2))
     go_ret
     exact ⟨by first | rfl | (rw [ne_nil_isEmpty]; done) | (simp [ne_nil_isEmpty]; done) | (simp [errW_none, errW_some] <;> rfl) | (simp [*, errW_none, errW_some] <;> rfl), zz7_3_ HB.out GE186.out⟩
    ·rw [if_neg c44] at H
     have c44b0 : (a0_1.toList == ([116, 114, 117, 101] : List UInt8)) = false := beq_eq_false_iff_ne.mpr c44
     have c44b1 : (a0_1.toList != ([116, 114, 117, 101] : List UInt8)) = true := bne_iff_ne.mpr c44
     by_cases c47 : a0_1.toList = ([102, 97, 108, 115, 101] : List UInt8)
     ·rw [if_pos c47] at H
      have c47b0 : (a0_1.toList == ([102, 97, 108, 115, 101] : List UInt8)) = true := beq_iff_eq.mpr c47
      have c47b1 : (a0_1.toList != ([102, 97, 108, 115, 101] : List UInt8)) = false := bne_eq_false_iff_eq.mpr c47
      clear c47
      obtain rfl := Option.some.inj H
      go_enter Tryz.func24, Tryz.ntmps24
      go_wp2_with (first | ((with_reducible refine gate_dst (N := 1) rfl ?_); (try (refine gate_guard (by rfl) ?_; dsimp only)); refine box_event ?hg (N := 1) ?hd (cs := #[.int .i64 a0_0, .string a0_1, .int .i64 a0_2]) (t := 35) ?hr ?_; (case hd => rfl); (case hg => rfl); (case hr => first | (go_simp; done) | (go_simp; rfl)); intro gb186 hg w48 hbox hb; have n0_ := Aside0.mk (below_step (zz7_0_ HB.out) hb); have n1_ := Aside0.mk (hbox); have n2_ := Aside0.mk ((by rw [hg]; exact (below_size (zz7_0_ HB.out)) : w.heap.size ≤ gb186)); have n3_ := Aside0.mk ((by rw [hg]; exact (below_size (zz7_0_ HB.out)) : w.heap.size ≤ gb186)); clear HB; have HB := n0_; have BK186 := n1_; have GW186 := n2_; have GE186 := n3_; clear n0_ n1_ n2_ n3_; clear hb hbox hg; have hcz49_0 : w48.cell? ⟨gb186, 0, none⟩ = some (.int .i64 a0_0) := (blk_cell BK186.out 0).trans rfl; have hcz49_1 : w48.cell? ⟨gb186, 1, none⟩ = some (.string a0_1) := (blk_cell BK186.out 1).trans rfl; have hcz49_2 : w48.cell? ⟨gb186, 2, none⟩ = some (.int .i64 a0_2) := (blk_cell BK186.out 2).trans rfl; have hfz49_0 := blk_frozen BK186.out 0; have hfz49_1 := blk_frozen BK186.out 1; have hfz49_2 := blk_frozen BK186.out 2))
      go_ret
      exact ⟨by first | rfl | (rw [ne_nil_isEmpty]; done) | (simp [ne_nil_isEmpty]; done) | (simp [errW_none, errW_some] <;> rfl) | (simp [*, errW_none, errW_some] <;> rfl), zz7_3_ HB.out GE186.out⟩
     ·rw [if_neg c47] at H
      have c47b0 : (a0_1.toList == ([102, 97, 108, 115, 101] : List UInt8)) = false := beq_eq_false_iff_ne.mpr c47
      have c47b1 : (a0_1.toList != ([102, 97, 108, 115, 101] : List UInt8)) = true := bne_iff_ne.mpr c47
      obtain rfl := Option.some.inj H
      go_enter Tryz.func24, Tryz.ntmps24
      go_wp2_with (first | ((with_reducible refine gate_dst (N := 1) rfl ?_); (try (refine gate_guard (by rfl) ?_; dsimp only)); refine box_event ?hg (N := 1) ?hd (cs := #[.int .i64 a0_0, .string a0_1, .int .i64 a0_2]) (t := 35) ?hr ?_; (case hd => rfl); (case hg => rfl); (case hr => first | (go_simp; done) | (go_simp; rfl)); intro gb186 hg w50 hbox hb; have n0_ := Aside0.mk (below_step (zz7_0_ HB.out) hb); have n1_ := Aside0.mk (hbox); have n2_ := Aside0.mk ((by rw [hg]; exact (below_size (zz7_0_ HB.out)) : w.heap.size ≤ gb186)); have n3_ := Aside0.mk ((by rw [hg]; exact (below_size (zz7_0_ HB.out)) : w.heap.size ≤ gb186)); clear HB; have HB := n0_; have BK186 := n1_; have GW186 := n2_; have GE186 := n3_; clear n0_ n1_ n2_ n3_; clear hb hbox hg; have hcz51_0 : w50.cell? ⟨gb186, 0, none⟩ = some (.int .i64 a0_0) := (blk_cell BK186.out 0).trans rfl; have hcz51_1 : w50.cell? ⟨gb186, 1, none⟩ = some (.string a0_1) := (blk_cell BK186.out 1).trans rfl; have hcz51_2 : w50.cell? ⟨gb186, 2, none⟩ = some (.int .i64 a0_2) := (blk_cell BK186.out 2).trans rfl; have hfz51_0 := blk_frozen BK186.out 0; have hfz51_1 := blk_frozen BK186.out 1; have hfz51_2 := blk_frozen BK186.out 2))
      go_ret
      exact ⟨by first | rfl | (rw [ne_nil_isEmpty]; done) | (simp [ne_nil_isEmpty]; done) | (simp [errW_none, errW_some] <;> rfl) | (simp [*, errW_none, errW_some] <;> rfl), zz7_3_ HB.out GE186.out⟩
   ·rw [if_neg c43] at H
    have c43b0 : (a0_0 == 3) = false := beq_eq_false_iff_ne.mpr c43
    have c43b1 : (a0_0 != 3) = true := bne_iff_ne.mpr c43
    by_cases c52 : a0_0 = 4
    ·rw [if_pos c52] at H
     have c52b0 : (a0_0 == 4) = true := beq_iff_eq.mpr c52
     have c52b1 : (a0_0 != 4) = false := bne_eq_false_iff_eq.mpr c52
     clear c52
     replace H := Option.bind_eq_some_iff.mp H
     obtain ⟨t192, A530, H⟩ := H
     try dsimp only at H
     have A53 := Aside0.mk A530
     clear A530
     by_cases c54 : t192 = true
     ·subst c54
      rw [if_pos rfl] at H
      obtain rfl := Option.some.inj H
      go_enter Tryz.func24, Tryz.ntmps24
      go_wp2_with (first | ((with_reducible refine gate_dst (N := 1) rfl ?_); (try (refine gate_guard (by rfl) ?_; dsimp only)); refine box_event ?hg (N := 1) ?hd (cs := #[.int .i64 a0_0, .string a0_1, .int .i64 a0_2]) (t := 35) ?hr ?_; (case hd => rfl); (case hg => rfl); (case hr => first | (go_simp; done) | (go_simp; rfl)); intro gb186 hg w55 hbox hb; have n0_ := Aside0.mk (below_step (zz7_0_ HB.out) hb); have n1_ := Aside0.mk (hbox); have n2_ := Aside0.mk ((by rw [hg]; exact (below_size (zz7_0_ HB.out)) : w.heap.size ≤ gb186)); have n3_ := Aside0.mk ((by rw [hg]; exact (below_size (zz7_0_ HB.out)) : w.heap.size ≤ gb186)); clear HB; have HB := n0_; have BK186 := n1_; have GW186 := n2_; have GE186 := n3_; clear n0_ n1_ n2_ n3_; clear hb hbox hg; have hcz56_0 : w55.cell? ⟨gb186, 0, none⟩ = some (.int .i64 a0_0) := (blk_cell BK186.out 0).trans rfl; have hcz56_1 : w55.cell? ⟨gb186, 1, none⟩ = some (.string a0_1) := (blk_cell BK186.out 1).trans rfl; have hcz56_2 : w55.cell? ⟨gb186, 2, none⟩ = some (.int .i64 a0_2) := (blk_cell BK186.out 2).trans rfl; have hfz56_0 := blk_frozen BK186.out 0; have hfz56_1 := blk_frozen BK186.out 1; have hfz56_2 := blk_frozen BK186.out 2) | ((with_reducible refine gate_callee (f := 32) rfl ?_); refine goesL_ (some 67) rfl rfl Tryz.func32 (by kernel_rfl) rfl #[.string a0_1] rfl (zz7_1_) ?_; (with_reducible refine (impl_NameValid.calls k a0_1 true _ A53.out).mono ?_); rintro e w57 ⟨rfl, hb⟩; refine ⟨_, rfl, ?_⟩; have n0_ := Aside0.mk (blk_below (g := gb186) (o := .cells #[.int .i64 a0_0, .string a0_1, .int .i64 a0_2] 35 (0, 0)) (zz7_2_ BK186.out) hb); have n1_ := Aside0.mk (below_step (zz7_3_ HB.out GE186.out) hb); clear BK186; clear HB; have BK186 := n0_; have HB := n1_; clear n0_ n1_; (try clear hb); (try clear hb2); (try clear hk); (try clear hi); have hcz58_0 : w57.cell? ⟨gb186, 0, none⟩ = some (.int .i64 a0_0) := (blk_cell BK186.out 0).trans rfl; have hcz58_1 : w57.cell? ⟨gb186, 1, none⟩ = some (.string a0_1) := (blk_cell BK186.out 1).trans rfl; have hcz58_2 : w57.cell? ⟨gb186, 2, none⟩ = some (.int .i64 a0_2) := (blk_cell BK186.out 2).trans rfl; have hfz58_0 := blk_frozen BK186.out 0; have hfz58_1 := blk_frozen BK186.out 1; have hfz58_2 := blk_frozen BK186.out 2))
      go_ret
      exact ⟨by first | rfl | (rw [ne_nil_isEmpty]; done) | (simp [ne_nil_isEmpty]; done) | (simp [errW_none, errW_some] <;> rfl) | (simp [*, errW_none, errW_some] <;> rfl), zz7_3_ HB.out GE186.out⟩
     ·replace c54 := Bool.eq_false_iff.mpr c54
      subst c54
      rw [if_neg (show ¬ (false = true) by decide)] at H
      obtain rfl := Option.some.inj H
      go_enter Tryz.func24, Tryz.ntmps24
      go_wp2_with (first | ((with_reducible refine gate_dst (N := 1) rfl ?_); (try (refine gate_guard (by rfl) ?_; dsimp only)); refine box_event ?hg (N := 1) ?hd (cs := #[.int .i64 a0_0, .string a0_1, .int .i64 a0_2]) (t := 35) ?hr ?_; (case hd => rfl); (case hg => rfl); (case hr => first | (go_simp; done) | (go_simp; rfl)); intro gb186 hg w59 hbox hb; have n0_ := Aside0.mk (below_step (zz7_0_ HB.out) hb); have n1_ := Aside0.mk (hbox); have n2_ := Aside0.mk ((by rw [hg]; exact (below_size (zz7_0_ HB.out)) : w.heap.size ≤ gb186)); have n3_ := Aside0.mk ((by rw [hg]; exact (below_size (zz7_0_ HB.out)) : w.heap.size ≤ gb186)); clear HB; have HB := n0_; have BK186 := n1_; have GW186 := n2_; have GE186 := n3_; clear n0_ n1_ n2_ n3_; clear hb hbox hg; have hcz60_0 : w59.cell? ⟨gb186, 0, none⟩ = some (.int .i64 a0_0) := (blk_cell BK186.out 0).trans rfl; have hcz60_1 : w59.cell? ⟨gb186, 1, none⟩ = some (.string a0_1) := (blk_cell BK186.out 1).trans rfl; have hcz60_2 : w59.cell? ⟨gb186, 2, none⟩ = some (.int .i64 a0_2) := (blk_cell BK186.out 2).trans rfl; have hfz60_0 := blk_frozen BK186.out 0; have hfz60_1 := blk_frozen BK186.out 1; have hfz60_2 := blk_frozen BK186.out 2) | ((with_reducible refine gate_callee (f := 32) rfl ?_); refine goesL_ (some 67) rfl rfl Tryz.func32 (by kernel_rfl) rfl #[.string a0_1] rfl (zz7_1_) ?_; (with_reducible refine (impl_NameValid.calls k a0_1 false _ A53.out).mono ?_); rintro e w61 ⟨rfl, hb⟩; refine ⟨_, rfl, ?_⟩; have n0_ := Aside0.mk (blk_below (g := gb186) (o := .cells #[.int .i64 a0_0, .string a0_1, .int .i64 a0_2] 35 (0, 0)) (zz7_2_ BK186.out) hb); have n1_ := Aside0.mk (below_step (zz7_3_ HB.out GE186.out) hb); clear BK186; clear HB; have BK186 := n0_; have HB := n1_; clear n0_ n1_; (try clear hb); (try clear hb2); (try clear hk); (try clear hi)))
      go_ret
      exact ⟨by first | rfl | (rw [ne_nil_isEmpty]; done) | (simp [ne_nil_isEmpty]; done) | (simp [errW_none, errW_some] <;> rfl) | (simp [*, errW_none, errW_some] <;> rfl), zz7_3_ HB.out GE186.out⟩
    ·rw [if_neg c52] at H
     have c52b0 : (a0_0 == 4) = false := beq_eq_false_iff_ne.mpr c52
     have c52b1 : (a0_0 != 4) = true := bne_iff_ne.mpr c52
     by_cases c62 : a0_0 = 5
     ·rw [if_pos c62] at H
      have c62b0 : (a0_0 == 5) = true := beq_iff_eq.mpr c62
      have c62b1 : (a0_0 != 5) = false := bne_eq_false_iff_eq.mpr c62
      clear c62
      by_cases c63 : a0_1.toList = ([] : List UInt8)
      ·rw [if_pos c63] at H
       have c63b0 : (a0_1.toList == ([] : List UInt8)) = true := beq_iff_eq.mpr c63
       have c63b1 : (a0_1.toList != ([] : List UInt8)) = false := bne_eq_false_iff_eq.mpr c63
       clear c63
       replace H := Option.bind_eq_some_iff.mp H
       obtain ⟨t193, A640, H⟩ := H
       try dsimp only at H
       have A64 := Aside0.mk A640
       clear A640
       obtain rfl := Option.some.inj H
       go_enter Tryz.func24, Tryz.ntmps24
       go_wp2_with (first | ((with_reducible refine gate_dst (N := 1) rfl ?_); (try (refine gate_guard (by rfl) ?_; dsimp only)); refine box_event ?hg (N := 1) ?hd (cs := #[.int .i64 a0_0, .string a0_1, .int .i64 a0_2]) (t := 35) ?hr ?_; (case hd => rfl); (case hg => rfl); (case hr => first | (go_simp; done) | (go_simp; rfl)); intro gb186 hg w65 hbox hb; have n0_ := Aside0.mk (below_step (zz7_0_ HB.out) hb); have n1_ := Aside0.mk (hbox); have n2_ := Aside0.mk ((by rw [hg]; exact (below_size (zz7_0_ HB.out)) : w.heap.size ≤ gb186)); have n3_ := Aside0.mk ((by rw [hg]; exact (below_size (zz7_0_ HB.out)) : w.heap.size ≤ gb186)); clear HB; have HB := n0_; have BK186 := n1_; have GW186 := n2_; have GE186 := n3_; clear n0_ n1_ n2_ n3_; clear hb hbox hg; have hcz66_0 : w65.cell? ⟨gb186, 0, none⟩ = some (.int .i64 a0_0) := (blk_cell BK186.out 0).trans rfl; have hcz66_1 : w65.cell? ⟨gb186, 1, none⟩ = some (.string a0_1) := (blk_cell BK186.out 1).trans rfl; have hcz66_2 : w65.cell? ⟨gb186, 2, none⟩ = some (.int .i64 a0_2) := (blk_cell BK186.out 2).trans rfl; have hfz66_0 := blk_frozen BK186.out 0; have hfz66_1 := blk_frozen BK186.out 1; have hfz66_2 := blk_frozen BK186.out 2) | (go_at_call 19; (with_reducible refine (impl_in.calls a0_2 0 8 t193 _ A64.out).mono ?_); rintro e w' ⟨rfl, ⟨nd, rfl⟩⟩))
       go_ret
       exact ⟨by first | rfl | (rw [ne_nil_isEmpty]; done) | (simp [ne_nil_isEmpty]; done) | (simp [errW_none, errW_some] <;> rfl) | (simp [*, errW_none, errW_some] <;> rfl), zz7_3_ HB.out GE186.out⟩
      ·rw [if_neg c63] at H
       have c63b0 : (a0_1.toList == ([] : List UInt8)) = false := beq_eq_false_iff_ne.mpr c63
       have c63b1 : (a0_1.toList != ([] : List UInt8)) = true := bne_iff_ne.mpr c63
       obtain rfl := Option.some.inj H
       go_enter Tryz.func24, Tryz.ntmps24
       go_wp2_with (first | ((with_reducible refine gate_dst (N := 1) rfl ?_); (try (refine gate_guard (by rfl) ?_; dsimp only)); refine box_event ?hg (N := 1) ?hd (cs := #[.int .i64 a0_0, .string a0_1, .int .i64 a0_2]) (t := 35) ?hr ?_; (case hd => rfl); (case hg => rfl); (case hr => first | (go_simp; done) | (go_simp; rfl)); intro gb186 hg w67 hbox hb; have n0_ := Aside0.mk (below_step (zz7_0_ HB.out) hb); have n1_ := Aside0.mk (hbox); have n2_ := Aside0.mk ((by rw [hg]; exact (below_size (zz7_0_ HB.out)) : w.heap.size ≤ gb186)); have n3_ := Aside0.mk ((by rw [hg]; exact (below_size (zz7_0_ HB.out)) : w.heap.size ≤ gb186)); clear HB; have HB := n0_; have BK186 := n1_; have GW186 := n2_; have GE186 := n3_; clear n0_ n1_ n2_ n3_; clear hb hbox hg; have hcz68_0 : w67.cell? ⟨gb186, 0, none⟩ = some (.int .i64 a0_0) := (blk_cell BK186.out 0).trans rfl; have hcz68_1 : w67.cell? ⟨gb186, 1, none⟩ = some (.string a0_1) := (blk_cell BK186.out 1).trans rfl; have hcz68_2 : w67.cell? ⟨gb186, 2, none⟩ = some (.int .i64 a0_2) := (blk_cell BK186.out 2).trans rfl; have hfz68_0 := blk_frozen BK186.out 0; have hfz68_1 := blk_frozen BK186.out 1; have hfz68_2 := blk_frozen BK186.out 2))
       go_ret
       exact ⟨by first | rfl | (rw [ne_nil_isEmpty]; done) | (simp [ne_nil_isEmpty]; done) | (simp [errW_none, errW_some] <;> rfl) | (simp [*, errW_none, errW_some] <;> rfl), zz7_3_ HB.out GE186.out⟩
     ·rw [if_neg c62] at H
      have c62b0 : (a0_0 == 5) = false := beq_eq_false_iff_ne.mpr c62
      have c62b1 : (a0_0 != 5) = true := bne_iff_ne.mpr c62
      by_cases c69 : a0_0 = 6
      ·rw [if_pos c69] at H
       have c69b0 : (a0_0 == 6) = true := beq_iff_eq.mpr c69
       have c69b1 : (a0_0 != 6) = false := bne_eq_false_iff_eq.mpr c69
       clear c69
       replace H := Option.bind_eq_some_iff.mp H
       obtain ⟨t194, A700, H⟩ := H
       try dsimp only at H
       have A70 := Aside0.mk A700
       clear A700
       by_cases c71 : t194 = true
       ·subst c71
        rw [if_pos rfl] at H
        replace H := Option.bind_eq_some_iff.mp H
        obtain ⟨t195, A720, H⟩ := H
        try dsimp only at H
        have A72 := Aside0.mk A720
        clear A720
        obtain rfl := Option.some.inj H
        go_enter Tryz.func24, Tryz.ntmps24
        go_wp2_with (first | ((with_reducible refine gate_dst (N := 1) rfl ?_); (try (refine gate_guard (by rfl) ?_; dsimp only)); refine box_event ?hg (N := 1) ?hd (cs := #[.int .i64 a0_0, .string a0_1, .int .i64 a0_2]) (t := 35) ?hr ?_; (case hd => rfl); (case hg => rfl); (case hr => first | (go_simp; done) | (go_simp; rfl)); intro gb186 hg w73 hbox hb; have n0_ := Aside0.mk (below_step (zz7_0_ HB.out) hb); have n1_ := Aside0.mk (hbox); have n2_ := Aside0.mk ((by rw [hg]; exact (below_size (zz7_0_ HB.out)) : w.heap.size ≤ gb186)); have n3_ := Aside0.mk ((by rw [hg]; exact (below_size (zz7_0_ HB.out)) : w.heap.size ≤ gb186)); clear HB; have HB := n0_; have BK186 := n1_; have GW186 := n2_; have GE186 := n3_; clear n0_ n1_ n2_ n3_; clear hb hbox hg; have hcz74_0 : w73.cell? ⟨gb186, 0, none⟩ = some (.int .i64 a0_0) := (blk_cell BK186.out 0).trans rfl; have hcz74_1 : w73.cell? ⟨gb186, 1, none⟩ = some (.string a0_1) := (blk_cell BK186.out 1).trans rfl; have hcz74_2 : w73.cell? ⟨gb186, 2, none⟩ = some (.int .i64 a0_2) := (blk_cell BK186.out 2).trans rfl; have hfz74_0 := blk_frozen BK186.out 0; have hfz74_1 := blk_frozen BK186.out 1; have hfz74_2 := blk_frozen BK186.out 2) | ((with_reducible refine gate_callee (f := 33) rfl ?_); refine goesL_ (some 87) rfl rfl Tryz.func33 (by kernel_rfl) rfl #[.string a0_1] rfl (zz7_1_) ?_; (with_reducible refine (impl_plainName.calls k a0_1 true _ A70.out).mono ?_); rintro e w75 ⟨rfl, hb⟩; refine ⟨_, rfl, ?_⟩; have n0_ := Aside0.mk (blk_below (g := gb186) (o := .cells #[.int .i64 a0_0, .string a0_1, .int .i64 a0_2] 35 (0, 0)) (zz7_2_ BK186.out) hb); have n1_ := Aside0.mk (below_step (zz7_3_ HB.out GE186.out) hb); clear BK186; clear HB; have BK186 := n0_; have HB := n1_; clear n0_ n1_; (try clear hb); (try clear hb2); (try clear hk); (try clear hi); have hcz76_0 : w75.cell? ⟨gb186, 0, none⟩ = some (.int .i64 a0_0) := (blk_cell BK186.out 0).trans rfl; have hcz76_1 : w75.cell? ⟨gb186, 1, none⟩ = some (.string a0_1) := (blk_cell BK186.out 1).trans rfl; have hcz76_2 : w75.cell? ⟨gb186, 2, none⟩ = some (.int .i64 a0_2) := (blk_cell BK186.out 2).trans rfl; have hfz76_0 := blk_frozen BK186.out 0; have hfz76_1 := blk_frozen BK186.out 1; have hfz76_2 := blk_frozen BK186.out 2) | (go_at_call 19; (with_reducible refine (impl_in.calls a0_2 0 8 t195 _ A72.out).mono ?_); rintro e w' ⟨rfl, ⟨nd, rfl⟩⟩))
        go_ret
        exact ⟨by first | rfl | (rw [ne_nil_isEmpty]; done) | (simp [ne_nil_isEmpty]; done) | (simp [errW_none, errW_some] <;> rfl) | (simp [*, errW_none, errW_some] <;> rfl), zz7_3_ HB.out GE186.out⟩
       ·replace c71 := Bool.eq_false_iff.mpr c71
        subst c71
        rw [if_neg (show ¬ (false = true) by decide)] at H
        obtain rfl := Option.some.inj H
        go_enter Tryz.func24, Tryz.ntmps24
        go_wp2_with (first | ((with_reducible refine gate_dst (N := 1) rfl ?_); (try (refine gate_guard (by rfl) ?_; dsimp only)); refine box_event ?hg (N := 1) ?hd (cs := #[.int .i64 a0_0, .string a0_1, .int .i64 a0_2]) (t := 35) ?hr ?_; (case hd => rfl); (case hg => rfl); (case hr => first | (go_simp; done) | (go_simp; rfl)); intro gb186 hg w77 hbox hb; have n0_ := Aside0.mk (below_step (zz7_0_ HB.out) hb); have n1_ := Aside0.mk (hbox); have n2_ := Aside0.mk ((by rw [hg]; exact (below_size (zz7_0_ HB.out)) : w.heap.size ≤ gb186)); have n3_ := Aside0.mk ((by rw [hg]; exact (below_size (zz7_0_ HB.out)) : w.heap.size ≤ gb186)); clear HB; have HB := n0_; have BK186 := n1_; have GW186 := n2_; have GE186 := n3_; clear n0_ n1_ n2_ n3_; clear hb hbox hg; have hcz78_0 : w77.cell? ⟨gb186, 0, none⟩ = some (.int .i64 a0_0) := (blk_cell BK186.out 0).trans rfl; have hcz78_1 : w77.cell? ⟨gb186, 1, none⟩ = some (.string a0_1) := (blk_cell BK186.out 1).trans rfl; have hcz78_2 : w77.cell? ⟨gb186, 2, none⟩ = some (.int .i64 a0_2) := (blk_cell BK186.out 2).trans rfl; have hfz78_0 := blk_frozen BK186.out 0; have hfz78_1 := blk_frozen BK186.out 1; have hfz78_2 := blk_frozen BK186.out 2) | ((with_reducible refine gate_callee (f := 33) rfl ?_); refine goesL_ (some 87) rfl rfl Tryz.func33 (by kernel_rfl) rfl #[.string a0_1] rfl (zz7_1_) ?_; (with_reducible refine (impl_plainName.calls k a0_1 false _ A70.out).mono ?_); rintro e w79 ⟨rfl, hb⟩; refine ⟨_, rfl, ?_⟩; have n0_ := Aside0.mk (blk_below (g := gb186) (o := .cells #[.int .i64 a0_0, .string a0_1, .int .i64 a0_2] 35 (0, 0)) (zz7_2_ BK186.out) hb); have n1_ := Aside0.mk (below_step (zz7_3_ HB.out GE186.out) hb); clear BK186; clear HB; have BK186 := n0_; have HB := n1_; clear n0_ n1_; (try clear hb); (try clear hb2); (try clear hk); (try clear hi)))
        go_ret
        exact ⟨by first | rfl | (rw [ne_nil_isEmpty]; done) | (simp [ne_nil_isEmpty]; done) | (simp [errW_none, errW_some] <;> rfl) | (simp [*, errW_none, errW_some] <;> rfl), zz7_3_ HB.out GE186.out⟩
      ·rw [if_neg c69] at H
       have c69b0 : (a0_0 == 6) = false := beq_eq_false_iff_ne.mpr c69
       have c69b1 : (a0_0 != 6) = true := bne_iff_ne.mpr c69
       by_cases c80 : a0_0 = 7
       ·rw [if_pos c80] at H
        have c80b0 : (a0_0 == 7) = true := beq_iff_eq.mpr c80
        have c80b1 : (a0_0 != 7) = false := bne_eq_false_iff_eq.mpr c80
        clear c80
        by_cases c81 : a0_1.toList = ([33] : List UInt8)
        ·rw [if_pos c81] at H
         have c81b0 : (a0_1.toList == ([33] : List UInt8)) = true := beq_iff_eq.mpr c81
         have c81b1 : (a0_1.toList != ([33] : List UInt8)) = false := bne_eq_false_iff_eq.mpr c81
         clear c81
         obtain rfl := Option.some.inj H
         go_enter Tryz.func24, Tryz.ntmps24
         go_wp2_with (first | ((with_reducible refine gate_dst (N := 1) rfl ?_); (try (refine gate_guard (by rfl) ?_; dsimp only)); refine box_event ?hg (N := 1) ?hd (cs := #[.int .i64 a0_0, .string a0_1, .int .i64 a0_2]) (t := 35) ?hr ?_; (case hd => rfl); (case hg => rfl); (case hr => first | (go_simp; done) | (go_simp; rfl)); intro gb186 hg w82 hbox hb; have n0_ := Aside0.mk (below_step (zz7_0_ HB.out) hb); have n1_ := Aside0.mk (hbox); have n2_ := Aside0.mk ((by rw [hg]; exact (below_size (zz7_0_ HB.out)) : w.heap.size ≤ gb186)); have n3_ := Aside0.mk ((by rw [hg]; exact (below_size (zz7_0_ HB.out)) : w.heap.size ≤ gb186)); clear HB; have HB := n0_; have BK186 := n1_; have GW186 := n2_; have GE186 := n3_; clear n0_ n1_ n2_ n3_; clear hb hbox hg; have hcz83_0 : w82.cell? ⟨gb186, 0, none⟩ = some (.int .i64 a0_0) := (blk_cell BK186.out 0).trans rfl; have hcz83_1 : w82.cell? ⟨gb186, 1, none⟩ = some (.string a0_1) := (blk_cell BK186.out 1).trans rfl; have hcz83_2 : w82.cell? ⟨gb186, 2, none⟩ = some (.int .i64 a0_2) := (blk_cell BK186.out 2).trans rfl; have hfz83_0 := blk_frozen BK186.out 0; have hfz83_1 := blk_frozen BK186.out 1; have hfz83_2 := blk_frozen BK186.out 2))
         go_ret
         exact ⟨by first | rfl | (rw [ne_nil_isEmpty]; done) | (simp [ne_nil_isEmpty]; done) | (simp [errW_none, errW_some] <;> rfl) | (simp [*, errW_none, errW_some] <;> rfl), zz7_3_ HB.out GE186.out⟩
        ·rw [if_neg c81] at H
         have c81b0 : (a0_1.toList == ([33] : List UInt8)) = false := beq_eq_false_iff_ne.mpr c81
         have c81b1 : (a0_1.toList != ([33] : List UInt8)) = true := bne_iff_ne.mpr c81
         by_cases c84 : a0_1.toList = ([45] : List UInt8)
         ·rw [if_pos c84] at H
          have c84b0 : (a0_1.toList == ([45] : List UInt8)) = true := beq_iff_eq.mpr c84
          have c84b1 : (a0_1.toList != ([45] : List UInt8)) = false := bne_eq_false_iff_eq.mpr c84
          clear c84
          obtain rfl := Option.some.inj H
          go_enter Tryz.func24, Tryz.ntmps24
          go_wp2_with (first | ((with_reducible refine gate_dst (N := 1) rfl ?_); (try (refine gate_guard (by rfl) ?_; dsimp only)); refine box_event ?hg (N := 1) ?hd (cs := #[.int .i64 a0_0, .string a0_1, .int .i64 a0_2]) (t := 35) ?hr ?_; (case hd => rfl); (case hg => rfl); (case hr => first | (go_simp; done) | (go_simp; rfl)); intro gb186 hg w85 hbox hb; have n0_ := Aside0.mk (below_step (zz7_0_ HB.out) hb); have n1_ := Aside0.mk (hbox); have n2_ := Aside0.mk ((by rw [hg]; exact (below_size (zz7_0_ HB.out)) : w.heap.size ≤ gb186)); have n3_ := Aside0.mk ((by rw [hg]; exact (below_size (zz7_0_ HB.out)) : w.heap.size ≤ gb186)); clear HB; have HB := n0_; have BK186 := n1_; have GW186 := n2_; have GE186 := n3_; clear n0_ n1_ n2_ n3_; clear hb hbox hg; have hcz86_0 : w85.cell? ⟨gb186, 0, none⟩ = some (.int .i64 a0_0) := (blk_cell BK186.out 0).trans rfl; have hcz86_1 : w85.cell? ⟨gb186, 1, none⟩ = some (.string a0_1) := (blk_cell BK186.out 1).trans rfl; have hcz86_2 : w85.cell? ⟨gb186, 2, none⟩ = some (.int .i64 a0_2) := (blk_cell BK186.out 2).trans rfl; have hfz86_0 := blk_frozen BK186.out 0; have hfz86_1 := blk_frozen BK186.out 1; have hfz86_2 := blk_frozen BK186.out 2))
          go_ret
          exact ⟨by first | rfl | (rw [ne_nil_isEmpty]; done) | (simp [ne_nil_isEmpty]; done) | (simp [errW_none, errW_some] <;> rfl) | (simp [*, errW_none, errW_some] <;> rfl), zz7_3_ HB.out GE186.out⟩
         ·rw [if_neg c84] at H
          have c84b0 : (a0_1.toList == ([45] : List UInt8)) = false := beq_eq_false_iff_ne.mpr c84
          have c84b1 : (a0_1.toList != ([45] : List UInt8)) = true := bne_iff_ne.mpr c84
          obtain rfl := Option.some.inj H
          go_enter Tryz.func24, Tryz.ntmps24
          go_wp2_with (first | ((with_reducible refine gate_dst (N := 1) rfl ?_); (try (refine gate_guard (by rfl) ?_; dsimp only)); refine box_event ?hg (N := 1) ?hd (cs := #[.int .i64 a0_0, .string a0_1, .int .i64 a0_2]) (t := 35) ?hr ?_; (case hd => rfl); (case hg => rfl); (case hr => first | (go_simp; done) | (go_simp; rfl)); intro gb186 hg w87 hbox hb; have n0_ := Aside0.mk (below_step (zz7_0_ HB.out) hb); have n1_ := Aside0.mk (hbox); have n2_ := Aside0.mk ((by rw [hg]; exact (below_size (zz7_0_ HB.out)) : w.heap.size ≤ gb186)); have n3_ := Aside0.mk ((by rw [hg]; exact (below_size (zz7_0_ HB.out)) : w.heap.size ≤ gb186)); clear HB; have HB := n0_; have BK186 := n1_; have GW186 := n2_; have GE186 := n3_; clear n0_ n1_ n2_ n3_; clear hb hbox hg; have hcz88_0 : w87.cell? ⟨gb186, 0, none⟩ = some (.int .i64 a0_0) := (blk_cell BK186.out 0).trans rfl; have hcz88_1 : w87.cell? ⟨gb186, 1, none⟩ = some (.string a0_1) := (blk_cell BK186.out 1).trans rfl; have hcz88_2 : w87.cell? ⟨gb186, 2, none⟩ = some (.int .i64 a0_2) := (blk_cell BK186.out 2).trans rfl; have hfz88_0 := blk_frozen BK186.out 0; have hfz88_1 := blk_frozen BK186.out 1; have hfz88_2 := blk_frozen BK186.out 2))
          go_ret
          exact ⟨by first | rfl | (rw [ne_nil_isEmpty]; done) | (simp [ne_nil_isEmpty]; done) | (simp [errW_none, errW_some] <;> rfl) | (simp [*, errW_none, errW_some] <;> rfl), zz7_3_ HB.out GE186.out⟩
       ·rw [if_neg c80] at H
        have c80b0 : (a0_0 == 7) = false := beq_eq_false_iff_ne.mpr c80
        have c80b1 : (a0_0 != 7) = true := bne_iff_ne.mpr c80
        by_cases c89 : a0_0 = 8
        ·rw [if_pos c89] at H
         have c89b0 : (a0_0 == 8) = true := beq_iff_eq.mpr c89
         have c89b1 : (a0_0 != 8) = false := bne_eq_false_iff_eq.mpr c89
         clear c89
         replace H := Option.bind_eq_some_iff.mp H
         obtain ⟨t196, A900, H⟩ := H
         try dsimp only at H
         have A90 := Aside0.mk A900
         clear A900
         by_cases c91 : t196 > 0
         ·rw [if_pos c91] at H
          have c91b0 : decide (0 < t196) = true := decide_eq_true c91
          clear c91
          obtain rfl := Option.some.inj H
          go_enter Tryz.func24, Tryz.ntmps24
          go_wp2_with (first | ((with_reducible refine gate_dst (N := 1) rfl ?_); (try (refine gate_guard (by rfl) ?_; dsimp only)); refine box_event ?hg (N := 1) ?hd (cs := #[.int .i64 a0_0, .string a0_1, .int .i64 a0_2]) (t := 35) ?hr ?_; (case hd => rfl); (case hg => rfl); (case hr => first | (go_simp; done) | (go_simp; rfl)); intro gb186 hg w92 hbox hb; have n0_ := Aside0.mk (below_step (zz7_0_ HB.out) hb); have n1_ := Aside0.mk (hbox); have n2_ := Aside0.mk ((by rw [hg]; exact (below_size (zz7_0_ HB.out)) : w.heap.size ≤ gb186)); have n3_ := Aside0.mk ((by rw [hg]; exact (below_size (zz7_0_ HB.out)) : w.heap.size ≤ gb186)); clear HB; have HB := n0_; have BK186 := n1_; have GW186 := n2_; have GE186 := n3_; clear n0_ n1_ n2_ n3_; clear hb hbox hg; have hcz93_0 : w92.cell? ⟨gb186, 0, none⟩ = some (.int .i64 a0_0) := (blk_cell BK186.out 0).trans rfl; have hcz93_1 : w92.cell? ⟨gb186, 1, none⟩ = some (.string a0_1) := (blk_cell BK186.out 1).trans rfl; have hcz93_2 : w92.cell? ⟨gb186, 2, none⟩ = some (.int .i64 a0_2) := (blk_cell BK186.out 2).trans rfl; have hfz93_0 := blk_frozen BK186.out 0; have hfz93_1 := blk_frozen BK186.out 1; have hfz93_2 := blk_frozen BK186.out 2) | ((with_reducible refine gate_callee (f := 34) rfl ?_); refine goesL_ (some 112) rfl rfl Tryz.func34 (by kernel_rfl) rfl #[.string a0_1] rfl (zz7_1_) ?_; (with_reducible refine (impl_rankOf.calls k a0_1 t196 _ A90.out).mono ?_); rintro e w' ⟨rfl, ⟨nd, rfl⟩⟩; refine ⟨_, rfl, ?_⟩))
          go_ret
          exact ⟨by first | rfl | (rw [ne_nil_isEmpty]; done) | (simp [ne_nil_isEmpty]; done) | (simp [errW_none, errW_some] <;> rfl) | (simp [*, errW_none, errW_some] <;> rfl), zz7_3_ HB.out GE186.out⟩
         ·rw [if_neg c91] at H
          have c91b0 : decide (0 < t196) = false := decide_eq_false c91
          clear c91
          obtain rfl := Option.some.inj H
          go_enter Tryz.func24, Tryz.ntmps24
          go_wp2_with (first | ((with_reducible refine gate_dst (N := 1) rfl ?_); (try (refine gate_guard (by rfl) ?_; dsimp only)); refine box_event ?hg (N := 1) ?hd (cs := #[.int .i64 a0_0, .string a0_1, .int .i64 a0_2]) (t := 35) ?hr ?_; (case hd => rfl); (case hg => rfl); (case hr => first | (go_simp; done) | (go_simp; rfl)); intro gb186 hg w94 hbox hb; have n0_ := Aside0.mk (below_step (zz7_0_ HB.out) hb); have n1_ := Aside0.mk (hbox); have n2_ := Aside0.mk ((by rw [hg]; exact (below_size (zz7_0_ HB.out)) : w.heap.size ≤ gb186)); have n3_ := Aside0.mk ((by rw [hg]; exact (below_size (zz7_0_ HB.out)) : w.heap.size ≤ gb186)); clear HB; have HB := n0_; have BK186 := n1_; have GW186 := n2_; have GE186 := n3_; clear n0_ n1_ n2_ n3_; clear hb hbox hg; have hcz95_0 : w94.cell? ⟨gb186, 0, none⟩ = some (.int .i64 a0_0) := (blk_cell BK186.out 0).trans rfl; have hcz95_1 : w94.cell? ⟨gb186, 1, none⟩ = some (.string a0_1) := (blk_cell BK186.out 1).trans rfl; have hcz95_2 : w94.cell? ⟨gb186, 2, none⟩ = some (.int .i64 a0_2) := (blk_cell BK186.out 2).trans rfl; have hfz95_0 := blk_frozen BK186.out 0; have hfz95_1 := blk_frozen BK186.out 1; have hfz95_2 := blk_frozen BK186.out 2) | ((with_reducible refine gate_callee (f := 34) rfl ?_); refine goesL_ (some 112) rfl rfl Tryz.func34 (by kernel_rfl) rfl #[.string a0_1] rfl (zz7_1_) ?_; (with_reducible refine (impl_rankOf.calls k a0_1 t196 _ A90.out).mono ?_); rintro e w' ⟨rfl, ⟨nd, rfl⟩⟩; refine ⟨_, rfl, ?_⟩))
          go_ret
          exact ⟨by first | rfl | (rw [ne_nil_isEmpty]; done) | (simp [ne_nil_isEmpty]; done) | (simp [errW_none, errW_some] <;> rfl) | (simp [*, errW_none, errW_some] <;> rfl), zz7_3_ HB.out GE186.out⟩
        ·rw [if_neg c89] at H
         have c89b0 : (a0_0 == 8) = false := beq_eq_false_iff_ne.mpr c89
         have c89b1 : (a0_0 != 8) = true := bne_iff_ne.mpr c89
         by_cases c96 : a0_0 = 9
         ·rw [if_pos c96] at H
          have c96b0 : (a0_0 == 9) = true := beq_iff_eq.mpr c96
          have c96b1 : (a0_0 != 9) = false := bne_eq_false_iff_eq.mpr c96
          clear c96
          by_cases c97 : a0_1.toList = ([] : List UInt8)
          ·rw [if_pos c97] at H
           have c97b0 : (a0_1.toList == ([] : List UInt8)) = true := beq_iff_eq.mpr c97
           have c97b1 : (a0_1.toList != ([] : List UInt8)) = false := bne_eq_false_iff_eq.mpr c97
           clear c97
           obtain rfl := Option.some.inj H
           go_enter Tryz.func24, Tryz.ntmps24
           go_wp2_with (first | ((with_reducible refine gate_dst (N := 1) rfl ?_); (try (refine gate_guard (by rfl) ?_; dsimp only)); refine box_event ?hg (N := 1) ?hd (cs := #[.int .i64 a0_0, .string a0_1, .int .i64 a0_2]) (t := 35) ?hr ?_; (case hd => rfl); (case hg => rfl); (case hr => first | (go_simp; done) | (go_simp; rfl)); intro gb186 hg w98 hbox hb; have n0_ := Aside0.mk (below_step (zz7_0_ HB.out) hb); have n1_ := Aside0.mk (hbox); have n2_ := Aside0.mk ((by rw [hg]; exact (below_size (zz7_0_ HB.out)) : w.heap.size ≤ gb186)); have n3_ := Aside0.mk ((by rw [hg]; exact (below_size (zz7_0_ HB.out)) : w.heap.size ≤ gb186)); clear HB; have HB := n0_; have BK186 := n1_; have GW186 := n2_; have GE186 := n3_; clear n0_ n1_ n2_ n3_; clear hb hbox hg; have hcz99_0 : w98.cell? ⟨gb186, 0, none⟩ = some (.int .i64 a0_0) := (blk_cell BK186.out 0).trans rfl; have hcz99_1 : w98.cell? ⟨gb186, 1, none⟩ = some (.string a0_1) := (blk_cell BK186.out 1).trans rfl; have hcz99_2 : w98.cell? ⟨gb186, 2, none⟩ = some (.int .i64 a0_2) := (blk_cell BK186.out 2).trans rfl; have hfz99_0 := blk_frozen BK186.out 0; have hfz99_1 := blk_frozen BK186.out 1; have hfz99_2 := blk_frozen BK186.out 2))
           go_ret
           exact ⟨by first | rfl | (rw [ne_nil_isEmpty]; done) | (simp [ne_nil_isEmpty]; done) | (simp [errW_none, errW_some] <;> rfl) | (simp [*, errW_none, errW_some] <;> rfl), zz7_3_ HB.out GE186.out⟩
          ·rw [if_neg c97] at H
           have c97b0 : (a0_1.toList == ([] : List UInt8)) = false := beq_eq_false_iff_ne.mpr c97
           have c97b1 : (a0_1.toList != ([] : List UInt8)) = true := bne_iff_ne.mpr c97
           obtain rfl := Option.some.inj H
           go_enter Tryz.func24, Tryz.ntmps24
           go_wp2_with (first | ((with_reducible refine gate_dst (N := 1) rfl ?_); (try (refine gate_guard (by rfl) ?_; dsimp only)); refine box_event ?hg (N := 1) ?hd (cs := #[.int .i64 a0_0, .string a0_1, .int .i64 a0_2]) (t := 35) ?hr ?_; (case hd => rfl); (case hg => rfl); (case hr => first | (go_simp; done) | (go_simp; rfl)); intro gb186 hg w100 hbox hb; have n0_ := Aside0.mk (below_step (zz7_0_ HB.out) hb); have n1_ := Aside0.mk (hbox); have n2_ := Aside0.mk ((by rw [hg]; exact (below_size (zz7_0_ HB.out)) : w.heap.size ≤ gb186)); have n3_ := Aside0.mk ((by rw [hg]; exact (below_size (zz7_0_ HB.out)) : w.heap.size ≤ gb186)); clear HB; have HB := n0_; have BK186 := n1_; have GW186 := n2_; have GE186 := n3_; clear n0_ n1_ n2_ n3_; clear hb hbox hg; have hcz101_0 : w100.cell? ⟨gb186, 0, none⟩ = some (.int .i64 a0_0) := (blk_cell BK186.out 0).trans rfl; have hcz101_1 : w100.cell? ⟨gb186, 1, none⟩ = some (.string a0_1) := (blk_cell BK186.out 1).trans rfl; have hcz101_2 : w100.cell? ⟨gb186, 2, none⟩ = some (.int .i64 a0_2) := (blk_cell BK186.out 2).trans rfl; have hfz101_0 := blk_frozen BK186.out 0; have hfz101_1 := blk_frozen BK186.out 1; have hfz101_2 := blk_frozen BK186.out 2))
           go_ret
           exact ⟨by first | rfl | (rw [ne_nil_isEmpty]; done) | (simp [ne_nil_isEmpty]; done) | (simp [errW_none, errW_some] <;> rfl) | (simp [*, errW_none, errW_some] <;> rfl), zz7_3_ HB.out GE186.out⟩
         ·rw [if_neg c96] at H
          have c96b0 : (a0_0 == 9) = false := beq_eq_false_iff_ne.mpr c96
          have c96b1 : (a0_0 != 9) = true := bne_iff_ne.mpr c96
          obtain rfl := Option.some.inj H
          go_enter Tryz.func24, Tryz.ntmps24
          go_wp2_with (first | ((with_reducible refine gate_dst (N := 1) rfl ?_); (try (refine gate_guard (by rfl) ?_; dsimp only)); refine box_event ?hg (N := 1) ?hd (cs := #[.int .i64 a0_0, .string a0_1, .int .i64 a0_2]) (t := 35) ?hr ?_; (case hd => rfl); (case hg => rfl); (case hr => first | (go_simp; done) | (go_simp; rfl)); intro gb186 hg w102 hbox hb; have n0_ := Aside0.mk (below_step (zz7_0_ HB.out) hb); have n1_ := Aside0.mk (hbox); have n2_ := Aside0.mk ((by rw [hg]; exact (below_size (zz7_0_ HB.out)) : w.heap.size ≤ gb186)); have n3_ := Aside0.mk ((by rw [hg]; exact (below_size (zz7_0_ HB.out)) : w.heap.size ≤ gb186)); clear HB; have HB := n0_; have BK186 := n1_; have GW186 := n2_; have GE186 := n3_; clear n0_ n1_ n2_ n3_; clear hb hbox hg; have hcz103_0 : w102.cell? ⟨gb186, 0, none⟩ = some (.int .i64 a0_0) := (blk_cell BK186.out 0).trans rfl; have hcz103_1 : w102.cell? ⟨gb186, 1, none⟩ = some (.string a0_1) := (blk_cell BK186.out 1).trans rfl; have hcz103_2 : w102.cell? ⟨gb186, 2, none⟩ = some (.int .i64 a0_2) := (blk_cell BK186.out 2).trans rfl; have hfz103_0 := blk_frozen BK186.out 0; have hfz103_1 := blk_frozen BK186.out 1; have hfz103_2 := blk_frozen BK186.out 2))
          go_ret
          exact ⟨by first | rfl | (rw [ne_nil_isEmpty]; done) | (simp [ne_nil_isEmpty]; done) | (simp [errW_none, errW_some] <;> rfl) | (simp [*, errW_none, errW_some] <;> rfl), zz7_3_ HB.out GE186.out⟩

end Go.Proofs.YtifeiepociopoaaGreatDoor.PEd
