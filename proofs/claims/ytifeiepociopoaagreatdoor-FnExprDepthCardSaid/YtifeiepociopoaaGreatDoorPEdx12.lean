-- Written for this session by its program hprint.py over the kit's print: functions, and contracts that the walk of the Go code proves.
import Derived.Test.YtifeiepociopoaaGreatDoorPEdx0
import Derived.Test.YtifeiepociopoaaGreatDoorPEdx9
import Derived.Test.YtifeiepociopoaaGreatDoorPEdx11
namespace Go.Proofs.YtifeiepociopoaaGreatDoor.PEd
open Go.RowKit Go.Proofs.YtifeiepociopoaaGreatDoor.Hand Go.Proofs.YtifeiepociopoaaGreatDoorW.PrintWords Go.Proofs.YtifeiepociopoaaGreatDoorW.PrintLast Go.Proofs.YtifeiepociopoaaGreatDoorW.PrintMore
attribute [local go_sem] max2_int min2_int max_two min_two max_three min_three max_four min_four   -- for this text's walks alone
set_option linter.unusedVariables false
set_option linter.unusedSimpArgs false

/-! ### spec_l20Expr: function 26 -/
theorem zz12_0_ {Q : Prop} (f : Q := by (try simp only [List.map_toArray, List.map_cons, List.map_nil]); first | done | rfl | (simp only [List.length_drop, List.length_take]; rfl)) : Q := f
theorem zz12_4_ {P1 Q : Prop} (h1 : P1) (f : P1 → Q := by intro zq1_; repeat (first | (with_reducible first | exact zq1_ | apply IsS47.alloc | apply IsS47.drewN | apply IsS47.drew | apply IsS47.set_1) | exact zq1_)) : Q := f h1
theorem zz12_6_ {P1 P2 Q : Prop} (h1 : P1) (h2 : P2) (f : P1 → P2 → Q := by intro zq1_ zq2_; repeat (first | (with_reducible first | exact zq1_ | apply below_alloc | apply pw_below_drewN | apply below_drew1 | refine below_set ?_ (IsS47.ge zq2_)) | exact zq1_)) : Q := f h1 h2
theorem zz12_1_ {P1 Q : Prop} (h1 : P1) (f : P1 → Q := by intro zq1_; repeat (first | (with_reducible first | exact zq1_ | apply KeepBut.set_ | apply keep_drewN | apply keep_drew | apply keep_alloc) | exact zq1_)) : Q := f h1
theorem zz12_2_ {Q : Prop} (f : Q := by first | (with_reducible assumption) | assumption) : Q := f
theorem zz12_3_ {P1 Q : Prop} (h1 : P1) (f : P1 → Q := by intro zq1_; (with_reducible repeat (first | apply Kd.R_alloc | apply Kd.R_drewN | apply Kd.R_drew)); exact zq1_) : Q := f h1
theorem zz12_5_ {P1 Q : Prop} (h1 : P1) (f : P1 → Q := by intro zq1_; (with_reducible repeat (first | apply Kd.Q_alloc | apply Kd.Q_drewN | apply Kd.Q_drew)); exact zq1_) : Q := f h1
mutual
def spec_l20Expr.j0 : Nat → Int → List (S35) → List Int → Int → Option ((List (S35)) × Int)
 | 0, _, _, _, _ => none
 | k + 1, x1, x5, x1000, x1001 => (spec_l20Rd_odd.f k x1000 x1001 x1).bind fun bt325 => (if bt325.1 = true then ((spec_l20Rd_pick.f k x1000 bt325.2 6).bind fun bt327 => (if bt327.1 = 0 then (if x5.length < 4398046511104 then (some ((x5 ++ [(⟨1, (⟨#[49]⟩ : ByteArray), 0⟩ : S35)]), bt327.2)) else (none)) else (if bt327.1 = 1 then (if 1 ≤ (x5.length : Int) then (some ((x5.drop (1 : Int).toNat), bt327.2)) else (none)) else (if bt327.1 = 2 then ((spec_l20Rd_pick.f k x1000 bt327.2 (x5.length : Int)).bind fun bt335 => ((spec_l20Rd_pick.f k x1000 bt335.2 11).bind fun bt337 => (if 0 ≤ bt335.1 then (if bt335.1 < (x5.length : Int) then (some ((x5.set (bt335.1 : Int).toNat (⟨bt337.1, (rd_T35 x5 bt335.1).f1, (rd_T35 x5 bt335.1).f2⟩ : S35)), bt337.2)) else (none)) else (none)))) else (if bt327.1 = 3 then ((spec_l20Rd_pick.f k x1000 bt327.2 (x5.length : Int)).bind fun bt340 => ((some (([(-1), 4, 9] : List Int) : List Int)).bind fun y342 => ((spec_l20Rd_pick.f k x1000 bt340.2 3).bind fun bt345 => (if 0 ≤ bt345.1 then (if bt345.1 < (y342.length : Int) then (if 0 ≤ bt340.1 then (if bt340.1 < (x5.length : Int) then (some ((x5.set (bt340.1 : Int).toNat (⟨(rd_T35 x5 bt340.1).f0, (rd_T35 x5 bt340.1).f1, rd y342 bt345.1⟩ : S35)), bt345.2)) else (none)) else (none)) else (none)) else (none))))) else (if bt327.1 = 4 then (spec_l20Expr.l0 k x5 0 x1000 bt327.2) else ((spec_l20Rd_pick.f k x1000 bt327.2 (x5.length : Int)).bind fun bt355 => (if 0 ≤ bt355.1 then (if bt355.1 < (x5.length : Int) then (some ((x5.set (bt355.1 : Int).toNat (⟨(rd_T35 x5 bt355.1).f0, (⟨#[63]⟩ : ByteArray), (rd_T35 x5 bt355.1).f2⟩ : S35)), bt355.2)) else (none)) else (none))))))))) else (some (x5, bt325.2)))
def spec_l20Expr.l0 : Nat → List (S35) → Int → List Int → Int → Option ((List (S35)) × Int)
 | 0, _, _, _, _ => none
 | k + 1, x5, x6, x1000, x1001 => if x6 < 12 then ((some (([(⟨7, (⟨#[33]⟩ : ByteArray), 1⟩ : S35)] : List (S35)) : List (S35))).bind fun y349 => (if y349.length + x5.length < 4398046511104 then (spec_l20Expr.l0 k (y349 ++ x5) (wrap64 (x6 + 1)) x1000 x1001) else (none))) else (some (x5, x1001))
end
def spec_l20Expr.f (k : Nat) (s0_0 : List Int) (s0_1 : Int) (a1 : Int) : Option ((List (S35)) × Int) := (spec_l20Rd_pick.f k s0_0 s0_1 4).bind fun bt315 => ((spec_l20Cells.f k s0_0 bt315.2 (wrap64 (1 + bt315.1))).bind fun bt317 => (if (bt317.1.length : Int) > 60 then (if 1 ≤ (bt317.1.length : Int) then ((some (bt317.1.take (1 : Int).toNat : List (S35))).bind fun y321 => (if 0 < (y321.length : Int) then (spec_l20Expr.j0 k a1 (y321.set (0 : Int).toNat (⟨1, (⟨#[55]⟩ : ByteArray), 0⟩ : S35)) s0_0 bt317.2) else (none))) else (none)) else (spec_l20Expr.j0 k a1 bt317.1 s0_0 bt317.2)))
theorem spec_l20Expr.mono_l : ∀ k, (∀ y0 y1 y2 y3, LeO (spec_l20Expr.j0 k y0 y1 y2 y3) (spec_l20Expr.j0 (k + 1) y0 y1 y2 y3)) ∧ (∀ y0 y1 y2 y3, LeO (spec_l20Expr.l0 k y0 y1 y2 y3) (spec_l20Expr.l0 (k + 1) y0 y1 y2 y3))
 | 0 => ⟨fun _ _ _ _ r h => by simp [spec_l20Expr.j0] at h, fun _ _ _ _ r h => by simp [spec_l20Expr.l0] at h⟩
 | k + 1 => by
  obtain ⟨ih0, ih1⟩ := spec_l20Expr.mono_l k
  refine ⟨?_, ?_⟩
  ·intro y0 y1 y2 y3
   unfold spec_l20Expr.j0
   repeat' first
   | (with_reducible exact ih0 _ _ _ _)
   | (with_reducible exact ih1 _ _ _ _)
   | (with_reducible exact spec_l20Cells.mono _ _ _ _)
   | (with_reducible exact spec_l20Rd_odd.mono _ _ _ _)
   | (with_reducible exact spec_l20Rd_pick.mono _ _ _ _)
   | (with_reducible exact LeO.refl _)
   | (with_reducible exact LeO.none _)
   | (with_reducible refine LeO.ite ?_ ?_)
   | (with_reducible refine LeO.bind ?_ (fun _ => ?_))
   | exact ih0 _ _ _ _
   | exact ih1 _ _ _ _
   | exact spec_l20Cells.mono _ _ _ _
   | exact spec_l20Rd_odd.mono _ _ _ _
   | exact spec_l20Rd_pick.mono _ _ _ _
   | exact LeO.none _
   | refine LeO.ite ?_ ?_
   | refine LeO.bind ?_ (fun _ => ?_)
  ·intro y0 y1 y2 y3
   unfold spec_l20Expr.l0
   repeat' first
   | (with_reducible exact ih0 _ _ _ _)
   | (with_reducible exact ih1 _ _ _ _)
   | (with_reducible exact spec_l20Cells.mono _ _ _ _)
   | (with_reducible exact spec_l20Rd_odd.mono _ _ _ _)
   | (with_reducible exact spec_l20Rd_pick.mono _ _ _ _)
   | (with_reducible exact LeO.refl _)
   | (with_reducible exact LeO.none _)
   | (with_reducible refine LeO.ite ?_ ?_)
   | (with_reducible refine LeO.bind ?_ (fun _ => ?_))
   | exact ih0 _ _ _ _
   | exact ih1 _ _ _ _
   | exact spec_l20Cells.mono _ _ _ _
   | exact spec_l20Rd_odd.mono _ _ _ _
   | exact spec_l20Rd_pick.mono _ _ _ _
   | exact LeO.none _
   | refine LeO.ite ?_ ?_
   | refine LeO.bind ?_ (fun _ => ?_)
theorem spec_l20Expr.mono : ∀ a0 a1 a2 k, LeO (spec_l20Expr.f k a0 a1 a2) (spec_l20Expr.f (k + 1) a0 a1 a2) := by
 intro a0 a1 a2 k
 obtain ⟨ih0, ih1⟩ := spec_l20Expr.mono_l k
 unfold spec_l20Expr.f
 repeat' first
   | (with_reducible exact ih0 _ _ _ _)
   | (with_reducible exact ih1 _ _ _ _)
   | (with_reducible exact spec_l20Cells.mono _ _ _ _)
   | (with_reducible exact spec_l20Rd_odd.mono _ _ _ _)
   | (with_reducible exact spec_l20Rd_pick.mono _ _ _ _)
   | (with_reducible exact LeO.refl _)
   | (with_reducible exact LeO.none _)
   | (with_reducible refine LeO.ite ?_ ?_)
   | (with_reducible refine LeO.bind ?_ (fun _ => ?_))
   | exact ih0 _ _ _ _
   | exact ih1 _ _ _ _
   | exact spec_l20Cells.mono _ _ _ _
   | exact spec_l20Rd_odd.mono _ _ _ _
   | exact spec_l20Rd_pick.mono _ _ _ _
   | exact LeO.none _
   | refine LeO.ite ?_ ?_
   | refine LeO.bind ?_ (fun _ => ?_)
set_option maxHeartbeats 8000000 in
set_option maxRecDepth 100000 in
theorem spec_l20Expr.calls (k : Nat) (g : Nat) (s0_0 : List Int) (s0_1 : Int) (a1 : Int) (r1 : List (S35)) (r2 : Int) (w0 w : World) (hI : IsS47 w0 w g s0_0 s0_1) (hB : Below w0.heap.size w0 w) (h : spec_l20Expr.f k s0_0 s0_1 a1 = some (r1, r2)) :
  Calls Tryz.prog 26 #[.pointer (some ⟨g, 0, none⟩), .int .i64 a1] w fun e w' => ∃ v0_ : Value, e = .returned (v0_) ∧ Kd.Q k35 35 w' w.heap.size (fun _ => True) v0_ r1 ∧ IsS47 w0 w' g s0_0 r2 ∧ Below w0.heap.size w0 w' ∧ KeepBut w w' g none := by
 have hu35 := Tryz.underlying35
 have HI0 := Aside0.mk hI
 have HK := Aside0.mk (KeepBut.refl w g none)
 have HL := Aside0.mk hB.size
 clear hI
 have HW0 := Aside0.mk hB.size
 have HB := Aside0.mk hB
 clear hB
 have H : ((spec_l20Rd_pick.f k s0_0 s0_1 4).bind fun bt315 => ((spec_l20Cells.f k s0_0 bt315.2 (wrap64 (1 + bt315.1))).bind fun bt317 => (if (bt317.1.length : Int) > 60 then (if 1 ≤ (bt317.1.length : Int) then ((some (bt317.1.take (1 : Int).toNat : List (S35))).bind fun y321 => (if 0 < (y321.length : Int) then (spec_l20Expr.j0 k a1 (y321.set (0 : Int).toNat (⟨1, (⟨#[55]⟩ : ByteArray), 0⟩ : S35)) s0_0 bt317.2) else (none))) else (none)) else (spec_l20Expr.j0 k a1 bt317.1 s0_0 bt317.2)))) = some (r1, r2) := h
 clear h
 replace H := Option.bind_eq_some_iff.mp H
 obtain ⟨⟨t315, t316⟩, A30, H⟩ := H
 try dsimp only at H
 have A3 := Aside0.mk A30
 clear A30
 replace H := Option.bind_eq_some_iff.mp H
 obtain ⟨⟨t317, t320⟩, A40, H⟩ := H
 try dsimp only at H
 have A4 := Aside0.mk A40
 clear A40
 have HC5 := Aside0.mk H
 clear H
 go_enter Tryz.func26, Tryz.ntmps26
 go_upto_if 14 with (first | ((with_reducible refine gate_callee (f := 30) rfl ?_); refine goesL_ (some 9) rfl rfl Tryz.func30 (by kernel_rfl) rfl #[.pointer (some ⟨g, 0, none⟩), .int .i64 4] rfl (zz12_0_) ?_; (with_reducible refine (spec_l20Rd_pick.calls k g s0_0 s0_1 4 t315 t316 w0 _ ?side1 ?side2 A3.out).mono ?_); (case side1 => exact zz12_4_ HI0.out); (case side2 => exact zz12_6_ HB.out HI0.out); rintro e w6 ⟨rfl, hi, hb, hk⟩; refine ⟨_, rfl, ?_⟩; have n0_ := Aside0.mk (KeepBut.trans (zz12_1_ HK.out) hk (.inl rfl)); have n1_ := Aside0.mk (hb); have n2_ := Aside0.mk (hi); clear HK; clear HB; clear HI0; have HK := n0_; have HB := n1_; have HI0 := n2_; clear n0_ n1_ n2_; (try clear hb); (try clear hb2); (try clear hk); (try clear hi)) | ((with_reducible refine gate_callee (f := 35) rfl ?_); refine goesL_ (some 11) rfl rfl Tryz.func35 (by kernel_rfl) rfl #[.pointer (some ⟨g, 0, none⟩), .int .i64 (wrap64 (1 + t315))] rfl (zz12_0_) ?_; (with_reducible refine (spec_l20Cells.calls k g s0_0 t316 (wrap64 (1 + t315)) t317 t320 w0 _ ?side1 ?side2 A4.out).mono ?_); (case side1 => exact zz12_4_ HI0.out); (case side2 => exact zz12_6_ HB.out HI0.out); rintro e w7 ⟨v318, rfl, ho0, hi, hb, hk⟩; refine ⟨_, rfl, ?_⟩; have n0_ := Aside0.mk (Kd.R_lower ho0 (keep_size (w := w) (g := g) (row := none) (zz12_1_ HK.out))); have n1_ := Aside0.mk (KeepBut.trans (zz12_1_ HK.out) hk (.inl rfl)); have n2_ := Aside0.mk (hb); have n3_ := Aside0.mk (hi); clear HK; clear HB; clear HI0; have HO319 := n0_; have HK := n1_; have HB := n2_; have HI0 := n3_; clear n0_ n1_ n2_ n3_; (try clear hb); (try clear hb2); (try clear hk); (try clear hi); (try clear ho0); obtain ⟨Ao8, co8, eo8⟩ := Kd.R_slice HO319.out; subst eo8))
 (try simp only [Act.put, List.setIfInBounds_toArray, List.set_cons_zero, List.set_cons_succ])
 go_cut [5] (fun v5 wc => ∃ (kq : Nat) (x5_4 : List (S35)), Aside0 (spec_l20Expr.j0 kq a1 x5_4 s0_0 t320 = some (r1, r2)) ∧ Aside0 (kq ≤ k) ∧ Aside0 (Kd.Q k35 35 wc w.heap.size (fun _ => True) v5 x5_4) ∧ Aside0 (IsS47 w0 wc g s0_0 t320) ∧ Aside0 (KeepBut w wc g none) ∧ Aside0 (Below w0.heap.size w0 wc))
 case first =>
  have H := HC5.out
  clear HC5
  by_cases c9 : (t317.length : Int) > 60
  ·rw [if_pos c9] at H
   have c9b0 : decide (60 < (t317.length : Int)) = true := decide_eq_true c9
   have c9b1 : decide (60 < t317.length) = true := decide_eq_true (by omega)
   clear c9
   (first | rw [c9b0] | (simp only [i64_w, i32_w]; rw [c9b0]) | skip)
   by_cases c10 : 1 ≤ (t317.length : Int)
   ·rw [if_pos c10] at H
    have c10b0 := eq_true c10
    have c10b1 : decide (1 ≤ (t317.length : Int)) = true := decide_eq_true c10
    clear c10
    obtain ⟨y321, hy321⟩ : ∃ y_ : List (S35), y_ = (t317.take (1 : Int).toNat) := ⟨_, rfl⟩
    replace H : (if 0 < (y321.length : Int) then (spec_l20Expr.j0 k a1 (y321.set (0 : Int).toNat (⟨1, (⟨#[55]⟩ : ByteArray), 0⟩ : S35)) s0_0 t320) else (none)) = some (r1, r2) := by first | (rw [hy321]; with_reducible exact H) | (have H2_ := (Option.bind_some _ _).symm.trans H; rw [hy321]; with_reducible exact H2_) | (have H2_ := (Option.bind_some _ _).symm.trans H; with_reducible exact H2_) | with_reducible exact H | (rw [hy321]; exact H) | exact H
    have Ny321 := Aside0.mk hy321
    clear hy321
    by_cases c11 : 0 < (y321.length : Int)
    ·rw [if_pos c11] at H
     have c11b0 : decide (0 < (y321.length : Int)) = true := decide_eq_true c11
     have c11b1 : decide (0 < y321.length) = true := decide_eq_true (by omega)
     clear c11
     obtain ⟨y324, hy324⟩ : ∃ y_ : List (S35), y_ = (y321.set (0 : Int).toNat (⟨1, (⟨#[55]⟩ : ByteArray), 0⟩ : S35)) := ⟨_, rfl⟩
     replace H : (spec_l20Expr.j0 k a1 y324 s0_0 t320) = some (r1, r2) := by first | (rw [hy324]; with_reducible exact H) | (have H2_ := (Option.bind_some _ _).symm.trans H; rw [hy324]; with_reducible exact H2_) | (have H2_ := (Option.bind_some _ _).symm.trans H; with_reducible exact H2_) | with_reducible exact H | (rw [hy324]; exact H) | exact H
     have Ny324 := Aside0.mk hy324
     clear hy324
     have H' := Aside0.mk H
     clear H
     have q13 : (1 : Int) ≤ ((t317.length : Int) : Int) := of_decide_eq_true (zz12_2_)
     obtain ⟨i013, hi013, _, hsz13, _⟩ := info_parts info35
     have hcut13 := cut_to (P := Tryz.prog) 23 35 .i64 Tryz.underlying23 hi013 Ao8 t317.length co8 1 (by omega) q13 (Kd.R_reads' HO319.out).2.1
     have hr13 := Kd.R_take (m := (1 : Int).toNat) HO319.out (by omega)
     have hy13 : y321.length = (1 : Int).toNat := (by rw [Ny321.out, List.length_take]; omega)
     rw [← Ny321.out] at hr13
     rw [← hy13] at hr13 hcut13
     clear hy13 hi013 hsz13 HO319
     have HO323 := Aside0.mk hr13
     clear hr13
     replace q13 := eq_true q13
     have p12 : 0 ≤ (0 : Int) := (by omega)
     have q12 : (0 : Int) < ((y321.length : Int) : Int) := of_decide_eq_true (zz12_2_)
     have qi12 : (0 < y321.length) = True := eq_true (by omega)
     obtain ⟨go12, co12, eo12, gb12, gl12, cl12, HG12⟩ := Kd.R_form HO323.out (by omega)
     (first | cases eo12 | (injection eo12 with ea_ en_ ec_; (first | subst ea_ | (injection ea_ with ea_; subst ea_)); subst ec_; clear en_))
     have GB12 := Aside0.mk gb12
     have GG12 := Aside0.mk HG12
     clear gb12 gl12 HG12
     obtain ⟨ce12, hcl12, hM12, hcc12, hfr12⟩ := Kd.R_elem HO323.out z35 (0 : Int) p12 q12
     obtain rfl := k35_openM hM12
     have hx12_0 : w7.cell? ⟨go12, (0 : Int).toNat * 3, none⟩ = some (.int .i64 ((rd_T35 y321 0).f0)) := hcc12 0 _ rfl
     have hx12_1 : w7.cell? ⟨go12, (0 : Int).toNat * 3 + 1, none⟩ = some (.string ((rd_T35 y321 0).f1)) := hcc12 1 _ rfl
     have hx12_2 : w7.cell? ⟨go12, (0 : Int).toNat * 3 + 2, none⟩ = some (.int .i64 ((rd_T35 y321 0).f2)) := hcc12 2 _ rfl
     have hf12_0 : w7.frozen? ⟨go12, (0 : Int).toNat * 3, none⟩ = false := hfr12 0
     have hf12_1 : w7.frozen? ⟨go12, (0 : Int).toNat * 3 + 1, none⟩ = false := hfr12 1
     have hf12_2 : w7.frozen? ⟨go12, (0 : Int).toNat * 3 + 2, none⟩ = false := hfr12 2
     clear hcl12 hcc12 hfr12 hM12
     (try rw [show ((0 : Int)).toNat = 0 from rfl] at hx12_0)
     (try simp only [Nat.reduceMul, Nat.zero_mul, Nat.zero_add, Nat.reduceAdd] at hx12_0)
     (try rw [show ((0 : Int)).toNat = 0 from rfl] at hf12_0)
     (try simp only [Nat.reduceMul, Nat.zero_mul, Nat.zero_add, Nat.reduceAdd] at hf12_0)
     (try rw [show ((0 : Int)).toNat = 0 from rfl] at hx12_1)
     (try simp only [Nat.reduceMul, Nat.zero_mul, Nat.zero_add, Nat.reduceAdd] at hx12_1)
     (try rw [show ((0 : Int)).toNat = 0 from rfl] at hf12_1)
     (try simp only [Nat.reduceMul, Nat.zero_mul, Nat.zero_add, Nat.reduceAdd] at hf12_1)
     (try rw [show ((0 : Int)).toNat = 0 from rfl] at hx12_2)
     (try simp only [Nat.reduceMul, Nat.zero_mul, Nat.zero_add, Nat.reduceAdd] at hx12_2)
     (try rw [show ((0 : Int)).toNat = 0 from rfl] at hf12_2)
     (try simp only [Nat.reduceMul, Nat.zero_mul, Nat.zero_add, Nat.reduceAdd] at hf12_2)
     replace p12 := eq_true p12
     replace q12 := eq_true q12
     have HX14 := Aside0.mk (show Kd.R k35 35 w7 w.heap.size (fun _ => True) (.slice (some ⟨go12, 0, none⟩) y321.length co8) y321 from (zz12_3_ HO323.out))
     obtain ⟨ce14, hcl14, hM14, hcc14, hfr14⟩ := Kd.R_elem HX14.out z35 (0 : Int) (by omega) (by have h_ : (0 : Int) < ((y321.length : Int) : Int) := of_decide_eq_true (zz12_2_); first | exact h_ | (have e_ := (Kd.R_reads' HO323.out).1; omega) | simpa using h_)
     obtain rfl := k35_openM hM14
     have HP14 := Kd.R_seg HX14.out (0 : Int) (by omega) (by have h_ : (0 : Int) < ((y321.length : Int) : Int) := of_decide_eq_true (zz12_2_); first | exact h_ | (have e_ := (Kd.R_reads' HO323.out).1; omega) | simpa using h_) (seg := [.int .i64 1, .string (⟨#[55]⟩ : ByteArray), .int .i64 0]) (j := 0) hcl14 hcc14 (show 3 ≤ 3 from by decide) (x' := (⟨1, (⟨#[55]⟩ : ByteArray), 0⟩ : S35)) (k35_mkM _ _ _ (⟨1, (⟨#[55]⟩ : ByteArray), 0⟩ : S35) ) (fun _ hk => hk)
     have hx14_0 := hcc14 0 _ rfl
     (try simp only [show (k35).sz = 3 from rfl, Nat.mul_one, Nat.add_zero] at hx14_0)
     (try rw [show ((0 : Int)).toNat = 0 from rfl] at hx14_0)
     (try simp only [Nat.reduceMul, Nat.zero_mul, Nat.zero_add, Nat.reduceAdd] at hx14_0)
     have hf14_0 := hfr14 0
     (try simp only [show (k35).sz = 3 from rfl, Nat.mul_one, Nat.add_zero] at hf14_0)
     (try rw [show ((0 : Int)).toNat = 0 from rfl] at hf14_0)
     (try simp only [Nat.reduceMul, Nat.zero_mul, Nat.zero_add, Nat.reduceAdd] at hf14_0)
     have hx14_1 := hcc14 1 _ rfl
     (try simp only [show (k35).sz = 3 from rfl, Nat.mul_one, Nat.add_zero] at hx14_1)
     (try rw [show ((0 : Int)).toNat = 0 from rfl] at hx14_1)
     (try simp only [Nat.reduceMul, Nat.zero_mul, Nat.zero_add, Nat.reduceAdd] at hx14_1)
     have hf14_1 := hfr14 1
     (try simp only [show (k35).sz = 3 from rfl, Nat.mul_one, Nat.add_zero] at hf14_1)
     (try rw [show ((0 : Int)).toNat = 0 from rfl] at hf14_1)
     (try simp only [Nat.reduceMul, Nat.zero_mul, Nat.zero_add, Nat.reduceAdd] at hf14_1)
     have hx14_2 := hcc14 2 _ rfl
     (try simp only [show (k35).sz = 3 from rfl, Nat.mul_one, Nat.add_zero] at hx14_2)
     (try rw [show ((0 : Int)).toNat = 0 from rfl] at hx14_2)
     (try simp only [Nat.reduceMul, Nat.zero_mul, Nat.zero_add, Nat.reduceAdd] at hx14_2)
     have hf14_2 := hfr14 2
     (try simp only [show (k35).sz = 3 from rfl, Nat.mul_one, Nat.add_zero] at hf14_2)
     (try rw [show ((0 : Int)).toNat = 0 from rfl] at hf14_2)
     (try simp only [Nat.reduceMul, Nat.zero_mul, Nat.zero_add, Nat.reduceAdd] at hf14_2)
     clear hcl14 hcc14 hfr14 hM14
     go_wp2_with (first | ((with_reducible refine gate_store (t := 35) (p := 19) rfl ?_); refine store_event (t := 35) (p := 19) (v := ?vo_w15) (w1 := (((w7.setCell ⟨go12, 0, none⟩ (.int .i64 1)).setCell ⟨go12, 1, none⟩ (.string (⟨#[55]⟩ : ByteArray))).setCell ⟨go12, 2, none⟩ (.int .i64 0))) ?hg ?ho ?hn ?hr ?_; (case ho => rfl); (case hg => rfl); (case hn => rfl); (case hr => first | (go_simp; done) | (go_simp; rfl)); intro w15 hw; have hg : w7.grownBy w15 (some go12) := (by rw [hw]; exact HP14.2); have hp_ : Kd.R k35 35 w15 w.heap.size (fun _ => True) (.slice (some ⟨go12, 0, none⟩) y321.length co8) y324 := (by rw [hw, Ny324.out]; exact HP14.1); clear HP14; have n0_ := Aside0.mk (IsS47.grown (zz12_4_ HI0.out) hg (IsS47.own_ne HI0.out HO323.out (by decide))); have n1_ := Aside0.mk (hp_); have n2_ := Aside0.mk ((by rw [hw]; exact below_set (below_set (below_set (HB.out) (Nat.le_trans HL.out GB12.out)) (Nat.le_trans HL.out GB12.out)) (Nat.le_trans HL.out GB12.out) : Below w0.heap.size w0 w15)); have n3_ := Aside0.mk (KeepBut.trans (zz12_1_ HK.out) (KeepBut.of_grown hg g) (Kd.R_base2 HO323.out)); clear HI0; clear HO323; clear HB; clear HK; have HI0 := n0_; have HO323 := n1_; have HB := n2_; have HK := n3_; clear n0_ n1_ n2_ n3_; clear hg hw hp_))
     go_meet
     case rel => exact ⟨_, (y324), H', ⟨by first | omega | exact Nat.le_refl _⟩, ⟨Kd.Q_of_R (zz12_3_ HO323.out)⟩, ⟨zz12_4_ HI0.out⟩, ⟨zz12_1_ HK.out⟩, ⟨zz12_6_ HB.out HI0.out⟩⟩
    ·rw [if_neg c11] at H
     exact absurd H (by simp)
   ·rw [if_neg c10] at H
    exact absurd H (by simp)
  ·rw [if_neg c9] at H
   have c9b0 : decide (60 < (t317.length : Int)) = false := decide_eq_false c9
   have c9b1 : decide (60 < t317.length) = false := decide_eq_false (by omega)
   clear c9
   (first | rw [c9b0] | (simp only [i64_w, i32_w]; rw [c9b0]) | skip)
   have H' := Aside0.mk H
   clear H
   go_wp2
   go_meet
   case rel => exact ⟨_, (t317), H', ⟨by first | omega | exact Nat.le_refl _⟩, ⟨Kd.Q_of_R (zz12_3_ HO319.out)⟩, ⟨zz12_4_ HI0.out⟩, ⟨zz12_1_ HK.out⟩, ⟨zz12_6_ HB.out HI0.out⟩⟩
 case rest =>
  clear HC5
  try clear c1
  try clear p1
  try clear q1
  try clear hx1
  try clear qi1
  try clear c2
  try clear p2
  try clear c3
  try clear p6
  try clear c9
  try clear c9b0
  try clear c9b1
  try clear c10
  try clear c10b0
  try clear c10b1
  try clear c11
  try clear c11b0
  try clear c11b1
  try clear c12
  try clear p12
  try clear q12
  try clear hx12
  try clear qi12
  try clear hf12
  try clear q13
  try clear c14
  try clear hx14
  try clear hf14
  try clear hx12_0
  try clear hx12_1
  try clear hx12_2
  try clear hx14_0
  try clear hx14_1
  try clear hx14_2
  try clear p12
  try clear q12
  try clear q13
  obtain ⟨kq, x5_4, HA, HJ4, HO_5, HI0, HK, HB⟩ := hcut
  cases kq with
  | zero => exact absurd HA.out (by simp [spec_l20Expr.j0])
  | succ kj4 =>
   have H := HA.out
   clear HA
   simp only [spec_l20Expr.j0] at H
   replace H := Option.bind_eq_some_iff.mp H
   obtain ⟨⟨t325, t326⟩, A160, H⟩ := H
   try dsimp only at H
   have A16 := Aside0.mk A160
   clear A160
   by_cases c17 : t325 = true
   ·subst c17
    rw [if_pos rfl] at H
    replace H := Option.bind_eq_some_iff.mp H
    obtain ⟨⟨t327, t328⟩, A180, H⟩ := H
    try dsimp only at H
    have A18 := Aside0.mk A180
    clear A180
    by_cases c19 : t327 = 0
    ·rw [if_pos c19] at H
     have c19b0 : (t327 == 0) = true := beq_iff_eq.mpr c19
     have c19b1 : (t327 != 0) = false := bne_eq_false_iff_eq.mpr c19
     clear c19
     by_cases c20 : x5_4.length < 4398046511104
     ·rw [if_pos c20] at H
      have LMc20 := Aside0.mk c20
      clear c20
      obtain ⟨y329, hy329⟩ : ∃ y_ : List (S35), y_ = (x5_4 ++ [(⟨1, (⟨#[49]⟩ : ByteArray), 0⟩ : S35)]) := ⟨_, rfl⟩
      replace H : (some (y329, t328)) = some (r1, r2) := by first | (rw [hy329]; with_reducible exact H) | (have H2_ := (Option.bind_some _ _).symm.trans H; rw [hy329]; with_reducible exact H2_) | (have H2_ := (Option.bind_some _ _).symm.trans H; with_reducible exact H2_) | with_reducible exact H | (rw [hy329]; exact H) | exact H
      have Ny329 := Aside0.mk hy329
      clear hy329
      simp only [Option.some.injEq, Prod.mk.injEq] at H
      obtain ⟨rfl, rfl⟩ := H
      go_wp2_with (first | ((with_reducible refine gate_callee (f := 36) rfl ?_); refine goesL_ (some 22) rfl rfl Tryz.func36 (by kernel_rfl) rfl #[.pointer (some ⟨g, 0, none⟩), .int .i64 a1] rfl (zz12_0_) ?_; (with_reducible refine (spec_l20Rd_odd.calls kj4 g s0_0 t320 a1 true t326 w0 _ ?side1 ?side2 A16.out).mono ?_); (case side1 => exact zz12_4_ HI0.out); (case side2 => exact zz12_6_ HB.out HI0.out); rintro e w21 ⟨rfl, hi, hb, hk⟩; refine ⟨_, rfl, ?_⟩; have n0_ := Aside0.mk (Kd.Q_mono (Kd.Q_keep (IsS47.apartQ (show IsS47 w0 _ g s0_0 t320 from by repeat (first | (with_reducible first | exact HI0.out | apply IsS47.alloc | apply IsS47.drewN | apply IsS47.drew | apply IsS47.set_1) | exact HI0.out)) (zz12_5_ HO_5.out) (by decide)) hk (fun _ h => h.2)) (fun _ h => h.1)); have n1_ := Aside0.mk (KeepBut.trans (zz12_1_ HK.out) hk (.inl rfl)); have n2_ := Aside0.mk (hb); have n3_ := Aside0.mk (hi); clear HO_5; clear HK; clear HB; clear HI0; have HO_5 := n0_; have HK := n1_; have HB := n2_; have HI0 := n3_; clear n0_ n1_ n2_ n3_; (try clear hb); (try clear hb2); (try clear hk); (try clear hi)) | ((with_reducible refine gate_callee (f := 30) rfl ?_); refine goesL_ (some 24) rfl rfl Tryz.func30 (by kernel_rfl) rfl #[.pointer (some ⟨g, 0, none⟩), .int .i64 6] rfl (zz12_0_) ?_; (with_reducible refine (spec_l20Rd_pick.calls kj4 g s0_0 t326 6 t327 t328 w0 _ ?side1 ?side2 A18.out).mono ?_); (case side1 => exact zz12_4_ HI0.out); (case side2 => exact zz12_6_ HB.out HI0.out); rintro e w22 ⟨rfl, hi, hb, hk⟩; refine ⟨_, rfl, ?_⟩; have n0_ := Aside0.mk (Kd.Q_mono (Kd.Q_keep (IsS47.apartQ (show IsS47 w0 _ g s0_0 t326 from by repeat (first | (with_reducible first | exact HI0.out | apply IsS47.alloc | apply IsS47.drewN | apply IsS47.drew | apply IsS47.set_1) | exact HI0.out)) (zz12_5_ HO_5.out) (by decide)) hk (fun _ h => h.2)) (fun _ h => h.1)); have n1_ := Aside0.mk (KeepBut.trans (zz12_1_ HK.out) hk (.inl rfl)); have n2_ := Aside0.mk (hb); have n3_ := Aside0.mk (hi); clear HO_5; clear HK; clear HB; clear HI0; have HO_5 := n0_; have HK := n1_; have HB := n2_; have HI0 := n3_; clear n0_ n1_ n2_ n3_; (try clear hb); (try clear hb2); (try clear hk); (try clear hi)) | ((with_reducible refine gate_builtin (b := .append) (xs := #[.tmp 34, .tmp 36]) rfl ?_); at_builtin; refine Kd.Q_append k35 w.heap.size rfl (.tmp 34) (.tmp 36) 23 35 (.agg #[(.int .i64 0), (.string ⟨#[]⟩), (.int .i64 0)]) 32 rfl Tryz.underlying23 info35 rfl (by decide) (by omega) u5 x5_4 (⟨1, (⟨#[49]⟩ : ByteArray), 0⟩ : S35) [.int .i64 1, .string (⟨#[49]⟩ : ByteArray), .int .i64 0] (fun _ => True) (fun _ => False) rfl rfl ?aP (fun _ hk => hk.elim) ?aF ?aO (Below.refl _ _) ?aS ?aL ?_; (case aP => exact k35_mkM _ _ _ (⟨1, (⟨#[49]⟩ : ByteArray), 0⟩ : S35)); (case aF => exact (fun _ _ => trivial)); (case aO => exact (zz12_5_ HO_5.out)); (case aS => exact (keep_size (w := w) (g := g) (row := none) (zz12_1_ HK.out))); (case aL => have := LMc20.out; omega); intro v330 w23 ho hb hg hat; rw [← Ny329.out] at ho; have n0_ := Aside0.mk (IsS47.grown (zz12_4_ HI0.out) hg (IsS47.own_neQ HI0.out HO_5.out (by decide))); have n1_ := Aside0.mk (below_weaken (zz12_6_ HB.out HI0.out) HL.out hb); have n2_ := Aside0.mk (KeepBut.trans (zz12_1_ HK.out) (KeepBut.of_grown hg g) (Kd.Q_base2 HO_5.out)); have n3_ := Aside0.mk (ho); clear HI0; clear HB; clear HK; clear HO_5; have HI0 := n0_; have HB := n1_; have HK := n2_; have HO331 := n3_; clear n0_ n1_ n2_ n3_; clear ho hb hg hat))
      go_ret
      exact ⟨_, by first | rfl | (simp [errW_none, errW_some] <;> rfl) | (simp [*, errW_none, errW_some] <;> rfl), zz12_5_ HO331.out, zz12_4_ HI0.out, zz12_6_ HB.out HI0.out, zz12_1_ HK.out⟩
     ·rw [if_neg c20] at H
      exact absurd H (by simp)
    ·rw [if_neg c19] at H
     have c19b0 : (t327 == 0) = false := beq_eq_false_iff_ne.mpr c19
     have c19b1 : (t327 != 0) = true := bne_iff_ne.mpr c19
     by_cases c24 : t327 = 1
     ·rw [if_pos c24] at H
      have c24b0 : (t327 == 1) = true := beq_iff_eq.mpr c24
      have c24b1 : (t327 != 1) = false := bne_eq_false_iff_eq.mpr c24
      clear c24
      by_cases c25 : 1 ≤ (x5_4.length : Int)
      ·rw [if_pos c25] at H
       have c25b0 := eq_true c25
       have c25b1 : decide (1 ≤ (x5_4.length : Int)) = true := decide_eq_true c25
       clear c25
       obtain ⟨y332, hy332⟩ : ∃ y_ : List (S35), y_ = (x5_4.drop (1 : Int).toNat) := ⟨_, rfl⟩
       replace H : (some (y332, t328)) = some (r1, r2) := by first | (rw [hy332]; with_reducible exact H) | (have H2_ := (Option.bind_some _ _).symm.trans H; rw [hy332]; with_reducible exact H2_) | (have H2_ := (Option.bind_some _ _).symm.trans H; with_reducible exact H2_) | with_reducible exact H | (rw [hy332]; exact H) | exact H
       have Ny332 := Aside0.mk hy332
       clear hy332
       simp only [Option.some.injEq, Prod.mk.injEq] at H
       obtain ⟨rfl, rfl⟩ := H
       go_wp2_with (first | ((with_reducible refine gate_callee (f := 36) rfl ?_); refine goesL_ (some 22) rfl rfl Tryz.func36 (by kernel_rfl) rfl #[.pointer (some ⟨g, 0, none⟩), .int .i64 a1] rfl (zz12_0_) ?_; (with_reducible refine (spec_l20Rd_odd.calls kj4 g s0_0 t320 a1 true t326 w0 _ ?side1 ?side2 A16.out).mono ?_); (case side1 => exact zz12_4_ HI0.out); (case side2 => exact zz12_6_ HB.out HI0.out); rintro e w26 ⟨rfl, hi, hb, hk⟩; refine ⟨_, rfl, ?_⟩; have n0_ := Aside0.mk (Kd.Q_mono (Kd.Q_keep (IsS47.apartQ (show IsS47 w0 _ g s0_0 t320 from by repeat (first | (with_reducible first | exact HI0.out | apply IsS47.alloc | apply IsS47.drewN | apply IsS47.drew | apply IsS47.set_1) | exact HI0.out)) (zz12_5_ HO_5.out) (by decide)) hk (fun _ h => h.2)) (fun _ h => h.1)); have n1_ := Aside0.mk (KeepBut.trans (zz12_1_ HK.out) hk (.inl rfl)); have n2_ := Aside0.mk (hb); have n3_ := Aside0.mk (hi); clear HO_5; clear HK; clear HB; clear HI0; have HO_5 := n0_; have HK := n1_; have HB := n2_; have HI0 := n3_; clear n0_ n1_ n2_ n3_; (try clear hb); (try clear hb2); (try clear hk); (try clear hi)) | ((with_reducible refine gate_callee (f := 30) rfl ?_); refine goesL_ (some 24) rfl rfl Tryz.func30 (by kernel_rfl) rfl #[.pointer (some ⟨g, 0, none⟩), .int .i64 6] rfl (zz12_0_) ?_; (with_reducible refine (spec_l20Rd_pick.calls kj4 g s0_0 t326 6 t327 t328 w0 _ ?side1 ?side2 A18.out).mono ?_); (case side1 => exact zz12_4_ HI0.out); (case side2 => exact zz12_6_ HB.out HI0.out); rintro e w27 ⟨rfl, hi, hb, hk⟩; refine ⟨_, rfl, ?_⟩; have n0_ := Aside0.mk (Kd.Q_mono (Kd.Q_keep (IsS47.apartQ (show IsS47 w0 _ g s0_0 t326 from by repeat (first | (with_reducible first | exact HI0.out | apply IsS47.alloc | apply IsS47.drewN | apply IsS47.drew | apply IsS47.set_1) | exact HI0.out)) (zz12_5_ HO_5.out) (by decide)) hk (fun _ h => h.2)) (fun _ h => h.1)); have n1_ := Aside0.mk (KeepBut.trans (zz12_1_ HK.out) hk (.inl rfl)); have n2_ := Aside0.mk (hb); have n3_ := Aside0.mk (hi); clear HO_5; clear HK; clear HB; clear HI0; have HO_5 := n0_; have HK := n1_; have HB := n2_; have HI0 := n3_; clear n0_ n1_ n2_ n3_; (try clear hb); (try clear hb2); (try clear hk); (try clear hi); obtain ⟨Ao28, co28, eo28, _⟩ := Kd.Q_slice HO_5.out; subst eo28; have q29 : (1 : Int) ≤ ((x5_4.length : Int) : Int) := of_decide_eq_true (zz12_2_); obtain ⟨i029, hi029, _, hsz29, _⟩ := info_parts info35; have hcut29 := cut_from (P := Tryz.prog) 23 35 .i64 Tryz.underlying23 hi029 3 hsz29 Ao28 x5_4.length co28 1 (by omega) q29; have hr29 := Kd.Q_drop (k := (1 : Int).toNat) HO_5.out (by omega); obtain ⟨A29, hA29⟩ : ∃ A1, A1 = (if co28 = (1 : Int).toNat then Ao28 else (Ao28 : Option Addr).map (·.add ((1 : Int).toNat * 3))) := ⟨_, rfl⟩; obtain ⟨c29, hc29⟩ : ∃ c1, c1 = co28 - (1 : Int).toNat := ⟨_, rfl⟩; have hy29 : y332.length = x5_4.length - (1 : Int).toNat := (by rw [Ny332.out, List.length_drop]); rw [← Ny332.out] at hr29; rw [← hy29, ← hA29, ← hc29] at hcut29; replace hr29 : Kd.Q k35 35 w27 w.heap.size (fun _ => True) (.slice A29 y332.length c29) y332 := (by rw [hA29, hc29, hy29]; exact hr29); have HE29 : Aside0 ((Value.slice A29 y332.length c29).ownBlock = (.slice Ao28 x5_4.length co28 : Value).ownBlock) := ⟨by rw [hA29]; split <;> (cases (Ao28 : Option Addr) <;> rfl)⟩; clear hy29 hi029 hsz29 HO_5 hA29 hc29; have HO334 := Aside0.mk hr29; clear hr29; replace q29 := eq_true q29))
       go_ret
       exact ⟨_, by first | rfl | (simp [errW_none, errW_some] <;> rfl) | (simp [*, errW_none, errW_some] <;> rfl), zz12_5_ HO334.out, zz12_4_ HI0.out, zz12_6_ HB.out HI0.out, zz12_1_ HK.out⟩
      ·rw [if_neg c25] at H
       exact absurd H (by simp)
     ·rw [if_neg c24] at H
      have c24b0 : (t327 == 1) = false := beq_eq_false_iff_ne.mpr c24
      have c24b1 : (t327 != 1) = true := bne_iff_ne.mpr c24
      by_cases c30 : t327 = 2
      ·rw [if_pos c30] at H
       have c30b0 : (t327 == 2) = true := beq_iff_eq.mpr c30
       have c30b1 : (t327 != 2) = false := bne_eq_false_iff_eq.mpr c30
       clear c30
       replace H := Option.bind_eq_some_iff.mp H
       obtain ⟨⟨t335, t336⟩, A310, H⟩ := H
       try dsimp only at H
       have A31 := Aside0.mk A310
       clear A310
       replace H := Option.bind_eq_some_iff.mp H
       obtain ⟨⟨t337, t338⟩, A320, H⟩ := H
       try dsimp only at H
       have A32 := Aside0.mk A320
       clear A320
       by_cases c33 : 0 ≤ t335
       ·rw [if_pos c33] at H
        have c33b0 : decide (0 ≤ t335) = true := decide_eq_true c33
        clear c33
        by_cases c34 : t335 < (x5_4.length : Int)
        ·rw [if_pos c34] at H
         have c34b0 : decide (t335 < (x5_4.length : Int)) = true := decide_eq_true c34
         clear c34
         obtain ⟨y339, hy339⟩ : ∃ y_ : List (S35), y_ = (x5_4.set (t335 : Int).toNat (⟨t337, (rd_T35 x5_4 t335).f1, (rd_T35 x5_4 t335).f2⟩ : S35)) := ⟨_, rfl⟩
         replace H : (some (y339, t338)) = some (r1, r2) := by first | (rw [hy339]; with_reducible exact H) | (have H2_ := (Option.bind_some _ _).symm.trans H; rw [hy339]; with_reducible exact H2_) | (have H2_ := (Option.bind_some _ _).symm.trans H; with_reducible exact H2_) | with_reducible exact H | (rw [hy339]; exact H) | exact H
         have Ny339 := Aside0.mk hy339
         clear hy339
         simp only [Option.some.injEq, Prod.mk.injEq] at H
         obtain ⟨rfl, rfl⟩ := H
         go_wp2_with (first | ((with_reducible refine gate_callee (f := 36) rfl ?_); refine goesL_ (some 22) rfl rfl Tryz.func36 (by kernel_rfl) rfl #[.pointer (some ⟨g, 0, none⟩), .int .i64 a1] rfl (zz12_0_) ?_; (with_reducible refine (spec_l20Rd_odd.calls kj4 g s0_0 t320 a1 true t326 w0 _ ?side1 ?side2 A16.out).mono ?_); (case side1 => exact zz12_4_ HI0.out); (case side2 => exact zz12_6_ HB.out HI0.out); rintro e w36 ⟨rfl, hi, hb, hk⟩; refine ⟨_, rfl, ?_⟩; have n0_ := Aside0.mk (Kd.Q_mono (Kd.Q_keep (IsS47.apartQ (show IsS47 w0 _ g s0_0 t320 from by repeat (first | (with_reducible first | exact HI0.out | apply IsS47.alloc | apply IsS47.drewN | apply IsS47.drew | apply IsS47.set_1) | exact HI0.out)) (zz12_5_ HO_5.out) (by decide)) hk (fun _ h => h.2)) (fun _ h => h.1)); have n1_ := Aside0.mk (KeepBut.trans (zz12_1_ HK.out) hk (.inl rfl)); have n2_ := Aside0.mk (hb); have n3_ := Aside0.mk (hi); clear HO_5; clear HK; clear HB; clear HI0; have HO_5 := n0_; have HK := n1_; have HB := n2_; have HI0 := n3_; clear n0_ n1_ n2_ n3_; (try clear hb); (try clear hb2); (try clear hk); (try clear hi)) | ((with_reducible refine gate_callee (f := 30) rfl ?_); refine goesL_ (some 24) rfl rfl Tryz.func30 (by kernel_rfl) rfl #[.pointer (some ⟨g, 0, none⟩), .int .i64 6] rfl (zz12_0_) ?_; (with_reducible refine (spec_l20Rd_pick.calls kj4 g s0_0 t326 6 t327 t328 w0 _ ?side1 ?side2 A18.out).mono ?_); (case side1 => exact zz12_4_ HI0.out); (case side2 => exact zz12_6_ HB.out HI0.out); rintro e w37 ⟨rfl, hi, hb, hk⟩; refine ⟨_, rfl, ?_⟩; have n0_ := Aside0.mk (Kd.Q_mono (Kd.Q_keep (IsS47.apartQ (show IsS47 w0 _ g s0_0 t326 from by repeat (first | (with_reducible first | exact HI0.out | apply IsS47.alloc | apply IsS47.drewN | apply IsS47.drew | apply IsS47.set_1) | exact HI0.out)) (zz12_5_ HO_5.out) (by decide)) hk (fun _ h => h.2)) (fun _ h => h.1)); have n1_ := Aside0.mk (KeepBut.trans (zz12_1_ HK.out) hk (.inl rfl)); have n2_ := Aside0.mk (hb); have n3_ := Aside0.mk (hi); clear HO_5; clear HK; clear HB; clear HI0; have HO_5 := n0_; have HK := n1_; have HB := n2_; have HI0 := n3_; clear n0_ n1_ n2_ n3_; (try clear hb); (try clear hb2); (try clear hk); (try clear hi); obtain ⟨Ao38, co38, eo38, _⟩ := Kd.Q_slice HO_5.out; subst eo38) | ((with_reducible refine gate_callee (f := 30) rfl ?_); refine goesL_ (some 48) rfl rfl Tryz.func30 (by kernel_rfl) rfl #[.pointer (some ⟨g, 0, none⟩), .int .i64 (x5_4.length : Int)] rfl (zz12_0_) ?_; (with_reducible refine (spec_l20Rd_pick.calls kj4 g s0_0 t328 (x5_4.length : Int) t335 t336 w0 _ ?side1 ?side2 A31.out).mono ?_); (case side1 => exact zz12_4_ HI0.out); (case side2 => exact zz12_6_ HB.out HI0.out); rintro e w39 ⟨rfl, hi, hb, hk⟩; refine ⟨_, rfl, ?_⟩; have n0_ := Aside0.mk (Kd.Q_mono (Kd.Q_keep (IsS47.apartQ (show IsS47 w0 _ g s0_0 t328 from by repeat (first | (with_reducible first | exact HI0.out | apply IsS47.alloc | apply IsS47.drewN | apply IsS47.drew | apply IsS47.set_1) | exact HI0.out)) (zz12_5_ HO_5.out) (by decide)) hk (fun _ h => h.2)) (fun _ h => h.1)); have n1_ := Aside0.mk (KeepBut.trans (zz12_1_ HK.out) hk (.inl rfl)); have n2_ := Aside0.mk (hb); have n3_ := Aside0.mk (hi); clear HO_5; clear HK; clear HB; clear HI0; have HO_5 := n0_; have HK := n1_; have HB := n2_; have HI0 := n3_; clear n0_ n1_ n2_ n3_; (try clear hb); (try clear hb2); (try clear hk); (try clear hi)) | ((with_reducible refine gate_callee (f := 30) rfl ?_); refine goesL_ (some 50) rfl rfl Tryz.func30 (by kernel_rfl) rfl #[.pointer (some ⟨g, 0, none⟩), .int .i64 11] rfl (zz12_0_) ?_; (with_reducible refine (spec_l20Rd_pick.calls kj4 g s0_0 t336 11 t337 t338 w0 _ ?side1 ?side2 A32.out).mono ?_); (case side1 => exact zz12_4_ HI0.out); (case side2 => exact zz12_6_ HB.out HI0.out); rintro e w40 ⟨rfl, hi, hb, hk⟩; refine ⟨_, rfl, ?_⟩; have n0_ := Aside0.mk (Kd.Q_mono (Kd.Q_keep (IsS47.apartQ (show IsS47 w0 _ g s0_0 t336 from by repeat (first | (with_reducible first | exact HI0.out | apply IsS47.alloc | apply IsS47.drewN | apply IsS47.drew | apply IsS47.set_1) | exact HI0.out)) (zz12_5_ HO_5.out) (by decide)) hk (fun _ h => h.2)) (fun _ h => h.1)); have n1_ := Aside0.mk (KeepBut.trans (zz12_1_ HK.out) hk (.inl rfl)); have n2_ := Aside0.mk (hb); have n3_ := Aside0.mk (hi); clear HO_5; clear HK; clear HB; clear HI0; have HO_5 := n0_; have HK := n1_; have HB := n2_; have HI0 := n3_; clear n0_ n1_ n2_ n3_; (try clear hb); (try clear hb2); (try clear hk); (try clear hi); have p35 : 0 ≤ (t335 : Int) := of_decide_eq_true (zz12_2_); have q35 : (t335 : Int) < ((x5_4.length : Int) : Int) := of_decide_eq_true (zz12_2_); obtain ⟨go35, oo35, co35, eo35, gb35, gl35, cl35, HG35⟩ := Kd.Q_form HO_5.out (by omega); (first | cases eo35 | (injection eo35 with ea_ en_ ec_; (first | subst ea_ | (injection ea_ with ea_; subst ea_)); subst ec_; clear en_)); have GB35 := Aside0.mk gb35; have GG35 := Aside0.mk HG35; clear gb35 gl35 HG35; obtain ⟨ce35, hcl35, hM35, hcc35, hfr35⟩ := Kd.Q_elem HO_5.out z35 (t335 : Int) p35 q35; obtain rfl := k35_openM hM35; have hx35_0 : w40.cell? ⟨go35, oo35 + (t335 : Int).toNat * 3, none⟩ = some (.int .i64 ((rd_T35 x5_4 t335).f0)) := hcc35 0 _ rfl; have hx35_1 : w40.cell? ⟨go35, oo35 + (t335 : Int).toNat * 3 + 1, none⟩ = some (.string ((rd_T35 x5_4 t335).f1)) := hcc35 1 _ rfl; have hx35_2 : w40.cell? ⟨go35, oo35 + (t335 : Int).toNat * 3 + 2, none⟩ = some (.int .i64 ((rd_T35 x5_4 t335).f2)) := hcc35 2 _ rfl; have hf35_0 : w40.frozen? ⟨go35, oo35 + (t335 : Int).toNat * 3, none⟩ = false := hfr35 0; have hf35_1 : w40.frozen? ⟨go35, oo35 + (t335 : Int).toNat * 3 + 1, none⟩ = false := hfr35 1; have hf35_2 : w40.frozen? ⟨go35, oo35 + (t335 : Int).toNat * 3 + 2, none⟩ = false := hfr35 2; clear hcl35 hcc35 hfr35 hM35; replace p35 := eq_true p35; replace q35 := eq_true q35; have HX41 := Aside0.mk (show Kd.Q k35 35 w40 w.heap.size (fun _ => True) (.slice (some ⟨go35, oo35, none⟩) x5_4.length co38) x5_4 from (zz12_5_ HO_5.out)); obtain ⟨ce41, hcl41, hM41, hcc41, hfr41⟩ := Kd.Q_elem HX41.out z35 (t335 : Int) (of_decide_eq_true (zz12_2_)) (by have h_ : (t335 : Int) < ((x5_4.length : Int) : Int) := of_decide_eq_true (zz12_2_); first | exact h_ | (have e_ := (Kd.Q_reads' HO_5.out).1; omega) | simpa using h_); obtain rfl := k35_openM hM41; have HP41 := Kd.Q_seg HX41.out (t335 : Int) (of_decide_eq_true (zz12_2_)) (by have h_ : (t335 : Int) < ((x5_4.length : Int) : Int) := of_decide_eq_true (zz12_2_); first | exact h_ | (have e_ := (Kd.Q_reads' HO_5.out).1; omega) | simpa using h_) (seg := [.int .i64 t337]) (j := 0) hcl41 hcc41 (show 1 ≤ 3 from by decide) (x' := (⟨t337, (rd_T35 x5_4 t335).f1, (rd_T35 x5_4 t335).f2⟩ : S35)) (k35_mkM _ _ _ (⟨t337, (rd_T35 x5_4 t335).f1, (rd_T35 x5_4 t335).f2⟩ : S35) ) (fun _ hk => hk); have hx41_0 := hcc41 0 _ rfl; (try simp only [show (k35).sz = 3 from rfl, Nat.mul_one, Nat.add_zero] at hx41_0); have hf41_0 := hfr41 0; (try simp only [show (k35).sz = 3 from rfl, Nat.mul_one, Nat.add_zero] at hf41_0); clear hcl41 hcc41 hfr41 hM41) | ((with_reducible refine gate_store (t := 3) (p := 52) rfl ?_); refine store_event (t := 3) (p := 52) (v := ?vo_w42) (w1 := (w40.setCell ⟨go35, oo35 + (t335 : Int).toNat * 3, none⟩ (.int .i64 t337))) ?hg ?ho ?hn ?hr ?_; (case ho => rfl); (case hg => rfl); (case hn => rfl); (case hr => first | (go_simp; done) | (go_simp; rfl)); intro w42 hw; have hg : w40.grownBy w42 (some go35) := (by rw [hw]; exact HP41.2); have hp_ : Kd.Q k35 35 w42 w.heap.size (fun _ => True) (.slice (some ⟨go35, oo35, none⟩) x5_4.length co38) y339 := (by rw [hw, Ny339.out]; exact HP41.1); clear HP41; have n0_ := Aside0.mk (hp_); have n1_ := Aside0.mk (IsS47.grown (zz12_4_ HI0.out) hg (IsS47.own_neQ HI0.out HO_5.out (by decide))); have n2_ := Aside0.mk ((by rw [hw]; exact below_set (HB.out) (Nat.le_trans HL.out GB35.out) : Below w0.heap.size w0 w42)); have n3_ := Aside0.mk (KeepBut.trans (zz12_1_ HK.out) (KeepBut.of_grown hg g) (Kd.Q_base2 HO_5.out)); clear HO_5; clear HI0; clear HB; clear HK; have HO_5 := n0_; have HI0 := n1_; have HB := n2_; have HK := n3_; clear n0_ n1_ n2_ n3_; clear hg hw hp_))
         go_ret
         exact ⟨_, by first | rfl | (simp [errW_none, errW_some] <;> rfl) | (simp [*, errW_none, errW_some] <;> rfl), zz12_5_ HO_5.out, zz12_4_ HI0.out, zz12_6_ HB.out HI0.out, zz12_1_ HK.out⟩
        ·rw [if_neg c34] at H
         exact absurd H (by simp)
       ·rw [if_neg c33] at H
        exact absurd H (by simp)
      ·rw [if_neg c30] at H
       have c30b0 : (t327 == 2) = false := beq_eq_false_iff_ne.mpr c30
       have c30b1 : (t327 != 2) = true := bne_iff_ne.mpr c30
       by_cases c43 : t327 = 3
       ·rw [if_pos c43] at H
        have c43b0 : (t327 == 3) = true := beq_iff_eq.mpr c43
        have c43b1 : (t327 != 3) = false := bne_eq_false_iff_eq.mpr c43
        clear c43
        replace H := Option.bind_eq_some_iff.mp H
        obtain ⟨⟨t340, t341⟩, A440, H⟩ := H
        try dsimp only at H
        have A44 := Aside0.mk A440
        clear A440
        obtain ⟨y342, hy342⟩ : ∃ y_ : List Int, y_ = (([(-1), 4, 9] : List Int)) := ⟨_, rfl⟩
        replace H : ((spec_l20Rd_pick.f kj4 s0_0 t341 3).bind fun bt345 => (if 0 ≤ bt345.1 then (if bt345.1 < (y342.length : Int) then (if 0 ≤ t340 then (if t340 < (x5_4.length : Int) then (some ((x5_4.set (t340 : Int).toNat (⟨(rd_T35 x5_4 t340).f0, (rd_T35 x5_4 t340).f1, rd y342 bt345.1⟩ : S35)), bt345.2)) else (none)) else (none)) else (none)) else (none))) = some (r1, r2) := by first | (rw [hy342]; with_reducible exact H) | (have H2_ := (Option.bind_some _ _).symm.trans H; rw [hy342]; with_reducible exact H2_) | (have H2_ := (Option.bind_some _ _).symm.trans H; with_reducible exact H2_) | with_reducible exact H | (rw [hy342]; exact H) | exact H
        have Ny342 := Aside0.mk hy342
        clear hy342
        replace H := Option.bind_eq_some_iff.mp H
        obtain ⟨⟨t345, t346⟩, A450, H⟩ := H
        try dsimp only at H
        have A45 := Aside0.mk A450
        clear A450
        by_cases c46 : 0 ≤ t345
        ·rw [if_pos c46] at H
         have c46b0 : decide (0 ≤ t345) = true := decide_eq_true c46
         clear c46
         by_cases c47 : t345 < (y342.length : Int)
         ·rw [if_pos c47] at H
          have c47b0 : decide (t345 < (y342.length : Int)) = true := decide_eq_true c47
          clear c47
          by_cases c48 : 0 ≤ t340
          ·rw [if_pos c48] at H
           have c48b0 : decide (0 ≤ t340) = true := decide_eq_true c48
           clear c48
           by_cases c49 : t340 < (x5_4.length : Int)
           ·rw [if_pos c49] at H
            have c49b0 : decide (t340 < (x5_4.length : Int)) = true := decide_eq_true c49
            clear c49
            obtain ⟨y348, hy348⟩ : ∃ y_ : List (S35), y_ = (x5_4.set (t340 : Int).toNat (⟨(rd_T35 x5_4 t340).f0, (rd_T35 x5_4 t340).f1, rd y342 t345⟩ : S35)) := ⟨_, rfl⟩
            replace H : (some (y348, t346)) = some (r1, r2) := by first | (rw [hy348]; with_reducible exact H) | (have H2_ := (Option.bind_some _ _).symm.trans H; rw [hy348]; with_reducible exact H2_) | (have H2_ := (Option.bind_some _ _).symm.trans H; with_reducible exact H2_) | with_reducible exact H | (rw [hy348]; exact H) | exact H
            have Ny348 := Aside0.mk hy348
            clear hy348
            simp only [Option.some.injEq, Prod.mk.injEq] at H
            obtain ⟨rfl, rfl⟩ := H
            go_wp2_with (first | ((with_reducible refine gate_callee (f := 36) rfl ?_); refine goesL_ (some 22) rfl rfl Tryz.func36 (by kernel_rfl) rfl #[.pointer (some ⟨g, 0, none⟩), .int .i64 a1] rfl (zz12_0_) ?_; (with_reducible refine (spec_l20Rd_odd.calls kj4 g s0_0 t320 a1 true t326 w0 _ ?side1 ?side2 A16.out).mono ?_); (case side1 => exact zz12_4_ HI0.out); (case side2 => exact zz12_6_ HB.out HI0.out); rintro e w51 ⟨rfl, hi, hb, hk⟩; refine ⟨_, rfl, ?_⟩; have n0_ := Aside0.mk (Kd.Q_mono (Kd.Q_keep (IsS47.apartQ (show IsS47 w0 _ g s0_0 t320 from by repeat (first | (with_reducible first | exact HI0.out | apply IsS47.alloc | apply IsS47.drewN | apply IsS47.drew | apply IsS47.set_1) | exact HI0.out)) (zz12_5_ HO_5.out) (by decide)) hk (fun _ h => h.2)) (fun _ h => h.1)); have n1_ := Aside0.mk (KeepBut.trans (zz12_1_ HK.out) hk (.inl rfl)); have n2_ := Aside0.mk (hb); have n3_ := Aside0.mk (hi); clear HO_5; clear HK; clear HB; clear HI0; have HO_5 := n0_; have HK := n1_; have HB := n2_; have HI0 := n3_; clear n0_ n1_ n2_ n3_; (try clear hb); (try clear hb2); (try clear hk); (try clear hi)) | ((with_reducible refine gate_callee (f := 30) rfl ?_); refine goesL_ (some 24) rfl rfl Tryz.func30 (by kernel_rfl) rfl #[.pointer (some ⟨g, 0, none⟩), .int .i64 6] rfl (zz12_0_) ?_; (with_reducible refine (spec_l20Rd_pick.calls kj4 g s0_0 t326 6 t327 t328 w0 _ ?side1 ?side2 A18.out).mono ?_); (case side1 => exact zz12_4_ HI0.out); (case side2 => exact zz12_6_ HB.out HI0.out); rintro e w52 ⟨rfl, hi, hb, hk⟩; refine ⟨_, rfl, ?_⟩; have n0_ := Aside0.mk (Kd.Q_mono (Kd.Q_keep (IsS47.apartQ (show IsS47 w0 _ g s0_0 t326 from by repeat (first | (with_reducible first | exact HI0.out | apply IsS47.alloc | apply IsS47.drewN | apply IsS47.drew | apply IsS47.set_1) | exact HI0.out)) (zz12_5_ HO_5.out) (by decide)) hk (fun _ h => h.2)) (fun _ h => h.1)); have n1_ := Aside0.mk (KeepBut.trans (zz12_1_ HK.out) hk (.inl rfl)); have n2_ := Aside0.mk (hb); have n3_ := Aside0.mk (hi); clear HO_5; clear HK; clear HB; clear HI0; have HO_5 := n0_; have HK := n1_; have HB := n2_; have HI0 := n3_; clear n0_ n1_ n2_ n3_; (try clear hb); (try clear hb2); (try clear hk); (try clear hi); obtain ⟨Ao53, co53, eo53, _⟩ := Kd.Q_slice HO_5.out; subst eo53) | ((with_reducible refine gate_callee (f := 30) rfl ?_); refine goesL_ (some 59) rfl rfl Tryz.func30 (by kernel_rfl) rfl #[.pointer (some ⟨g, 0, none⟩), .int .i64 (x5_4.length : Int)] rfl (zz12_0_) ?_; (with_reducible refine (spec_l20Rd_pick.calls kj4 g s0_0 t328 (x5_4.length : Int) t340 t341 w0 _ ?side1 ?side2 A44.out).mono ?_); (case side1 => exact zz12_4_ HI0.out); (case side2 => exact zz12_6_ HB.out HI0.out); rintro e w54 ⟨rfl, hi, hb, hk⟩; refine ⟨_, rfl, ?_⟩; have n0_ := Aside0.mk (Kd.Q_mono (Kd.Q_keep (IsS47.apartQ (show IsS47 w0 _ g s0_0 t328 from by repeat (first | (with_reducible first | exact HI0.out | apply IsS47.alloc | apply IsS47.drewN | apply IsS47.drew | apply IsS47.set_1) | exact HI0.out)) (zz12_5_ HO_5.out) (by decide)) hk (fun _ h => h.2)) (fun _ h => h.1)); have n1_ := Aside0.mk (KeepBut.trans (zz12_1_ HK.out) hk (.inl rfl)); have n2_ := Aside0.mk (hb); have n3_ := Aside0.mk (hi); clear HO_5; clear HK; clear HB; clear HI0; have HO_5 := n0_; have HK := n1_; have HB := n2_; have HI0 := n3_; clear n0_ n1_ n2_ n3_; (try clear hb); (try clear hb2); (try clear hk); (try clear hi)) | ((with_reducible refine gate_dst (N := 60) rfl ?_); refine Kd.R_lit (Kd.int .i64) _ 3 ?hg (N := 60) ?hd (xs := ([(-1), 4, 9] : List Int)) (inner := [.int .i64 (-1), .int .i64 4, .int .i64 9]) (ok := fun _ => True) (okp := fun _ => True) ?hr ?hp (fun _ hk => hk) trivial (Below.refl _ _) (Nat.le_refl _) (by simp) ?_; (case hd => rfl); (case hg => rfl); (case hr => first | (go_simp; done) | (go_simp; rfl)); (case hp => exact (Reps.one (show Kd.M (Kd.int .i64) _ _ _ (-1) [.int .i64 (-1)] from rfl) (Reps.one (show Kd.M (Kd.int .i64) _ _ _ 4 [.int .i64 4] from rfl) (Reps.one (show Kd.M (Kd.int .i64) _ _ _ 9 [.int .i64 9] from rfl) (Reps.none _ _))))); intro v343 w55 ho56 hb hg_ hnew_; clear hg_ hnew_; (first | rw [← Ny342.out] at ho56 | (simp only [Int.reduceToNat] at ho56; rw [← Ny342.out] at ho56)); have n0_ := Aside0.mk (Kd.Q_below (zz12_5_ HO_5.out) hb); have n1_ := Aside0.mk (Kd.R_lower ho56 (keep_size (w := w) (g := g) (row := none) (zz12_1_ HK.out))); have n2_ := Aside0.mk (IsS47.below (zz12_4_ HI0.out) hb); have n3_ := Aside0.mk (KeepBut.trans (zz12_1_ HK.out) (KeepBut.of_below hb g none) (.inl rfl)); have n4_ := Aside0.mk (below_step (zz12_6_ HB.out HI0.out) hb); clear HO_5; clear HI0; clear HK; clear HB; have HO_5 := n0_; have HO344 := n1_; have HI0 := n2_; have HK := n3_; have HB := n4_; clear n0_ n1_ n2_ n3_ n4_; clear hb ho56) | ((with_reducible refine gate_callee (f := 30) rfl ?_); refine goesL_ (some 62) rfl rfl Tryz.func30 (by kernel_rfl) rfl #[.pointer (some ⟨g, 0, none⟩), .int .i64 3] rfl (zz12_0_) ?_; (with_reducible refine (spec_l20Rd_pick.calls kj4 g s0_0 t341 3 t345 t346 w0 _ ?side1 ?side2 A45.out).mono ?_); (case side1 => exact zz12_4_ HI0.out); (case side2 => exact zz12_6_ HB.out HI0.out); rintro e w57 ⟨rfl, hi, hb, hk⟩; refine ⟨_, rfl, ?_⟩; have n0_ := Aside0.mk (Kd.Q_mono (Kd.Q_keep (IsS47.apartQ (show IsS47 w0 _ g s0_0 t341 from by repeat (first | (with_reducible first | exact HI0.out | apply IsS47.alloc | apply IsS47.drewN | apply IsS47.drew | apply IsS47.set_1) | exact HI0.out)) (zz12_5_ HO_5.out) (by decide)) hk (fun _ h => h.2)) (fun _ h => h.1)); have n1_ := Aside0.mk (Kd.R_mono (Kd.R_keep (IsS47.apart (show IsS47 w0 _ g s0_0 t341 from by repeat (first | (with_reducible first | exact HI0.out | apply IsS47.alloc | apply IsS47.drewN | apply IsS47.drew | apply IsS47.set_1) | exact HI0.out)) (zz12_3_ HO344.out) (by decide)) hk (fun _ h => h.2)) (fun _ h => h.1)); have n2_ := Aside0.mk (KeepBut.trans (zz12_1_ HK.out) hk (.inl rfl)); have n3_ := Aside0.mk (hb); have n4_ := Aside0.mk (hi); clear HO_5; clear HO344; clear HK; clear HB; clear HI0; have HO_5 := n0_; have HO344 := n1_; have HK := n2_; have HB := n3_; have HI0 := n4_; clear n0_ n1_ n2_ n3_ n4_; (try clear hb); (try clear hb2); (try clear hk); (try clear hi); obtain ⟨Ao58, co58, eo58⟩ := Kd.R_slice HO344.out; subst eo58; have p347 : 0 ≤ (t345 : Int) := of_decide_eq_true (zz12_2_); have q347 : t345 < (y342.length : Int) := of_decide_eq_true (zz12_2_); obtain ⟨ad347, e347, hx347_0⟩ := Kd.at_int (Kd.R_reads' HO344.out).2.2 t345 p347 q347; cases e347; replace p347 := eq_true p347; replace q347 := eq_true q347; have p50 : 0 ≤ (t340 : Int) := of_decide_eq_true (zz12_2_); have q50 : (t340 : Int) < ((x5_4.length : Int) : Int) := of_decide_eq_true (zz12_2_); obtain ⟨go50, oo50, co50, eo50, gb50, gl50, cl50, HG50⟩ := Kd.Q_form HO_5.out (by omega); (first | cases eo50 | (injection eo50 with ea_ en_ ec_; (first | subst ea_ | (injection ea_ with ea_; subst ea_)); subst ec_; clear en_)); have GB50 := Aside0.mk gb50; have GG50 := Aside0.mk HG50; clear gb50 gl50 HG50; obtain ⟨ce50, hcl50, hM50, hcc50, hfr50⟩ := Kd.Q_elem HO_5.out z35 (t340 : Int) p50 q50; obtain rfl := k35_openM hM50; have hx50_0 : w57.cell? ⟨go50, oo50 + (t340 : Int).toNat * 3, none⟩ = some (.int .i64 ((rd_T35 x5_4 t340).f0)) := hcc50 0 _ rfl; have hx50_1 : w57.cell? ⟨go50, oo50 + (t340 : Int).toNat * 3 + 1, none⟩ = some (.string ((rd_T35 x5_4 t340).f1)) := hcc50 1 _ rfl; have hx50_2 : w57.cell? ⟨go50, oo50 + (t340 : Int).toNat * 3 + 2, none⟩ = some (.int .i64 ((rd_T35 x5_4 t340).f2)) := hcc50 2 _ rfl; have hf50_0 : w57.frozen? ⟨go50, oo50 + (t340 : Int).toNat * 3, none⟩ = false := hfr50 0; have hf50_1 : w57.frozen? ⟨go50, oo50 + (t340 : Int).toNat * 3 + 1, none⟩ = false := hfr50 1; have hf50_2 : w57.frozen? ⟨go50, oo50 + (t340 : Int).toNat * 3 + 2, none⟩ = false := hfr50 2; clear hcl50 hcc50 hfr50 hM50; replace p50 := eq_true p50; replace q50 := eq_true q50; have HX59 := Aside0.mk (show Kd.Q k35 35 w57 w.heap.size (fun _ => True) (.slice (some ⟨go50, oo50, none⟩) x5_4.length co53) x5_4 from (zz12_5_ HO_5.out)); obtain ⟨ce59, hcl59, hM59, hcc59, hfr59⟩ := Kd.Q_elem HX59.out z35 (t340 : Int) (of_decide_eq_true (zz12_2_)) (by have h_ : (t340 : Int) < ((x5_4.length : Int) : Int) := of_decide_eq_true (zz12_2_); first | exact h_ | (have e_ := (Kd.Q_reads' HO_5.out).1; omega) | simpa using h_); obtain rfl := k35_openM hM59; have HP59 := Kd.Q_seg HX59.out (t340 : Int) (of_decide_eq_true (zz12_2_)) (by have h_ : (t340 : Int) < ((x5_4.length : Int) : Int) := of_decide_eq_true (zz12_2_); first | exact h_ | (have e_ := (Kd.Q_reads' HO_5.out).1; omega) | simpa using h_) (seg := [.int .i64 (rd y342 t345)]) (j := 2) hcl59 hcc59 (show 3 ≤ 3 from by decide) (x' := (⟨(rd_T35 x5_4 t340).f0, (rd_T35 x5_4 t340).f1, rd y342 t345⟩ : S35)) (k35_mkM _ _ _ (⟨(rd_T35 x5_4 t340).f0, (rd_T35 x5_4 t340).f1, rd y342 t345⟩ : S35) ) (fun _ hk => hk); have hx59_2 := hcc59 2 _ rfl; (try simp only [show (k35).sz = 3 from rfl, Nat.mul_one, Nat.add_zero] at hx59_2); have hf59_2 := hfr59 2; (try simp only [show (k35).sz = 3 from rfl, Nat.mul_one, Nat.add_zero] at hf59_2); clear hcl59 hcc59 hfr59 hM59) | ((with_reducible refine gate_store (t := 3) (p := 66) rfl ?_); refine store_event (t := 3) (p := 66) (v := ?vo_w60) (w1 := (w57.setCell ⟨go50, oo50 + (t340 : Int).toNat * 3 + 2, none⟩ (.int .i64 (rd y342 t345)))) ?hg ?ho ?hn ?hr ?_; (case ho => rfl); (case hg => rfl); (case hn => rfl); (case hr => first | (go_simp; done) | (go_simp; rfl)); intro w60 hw; have hg : w57.grownBy w60 (some go50) := (by rw [hw]; exact HP59.2); have hp_ : Kd.Q k35 35 w60 w.heap.size (fun _ => True) (.slice (some ⟨go50, oo50, none⟩) x5_4.length co53) y348 := (by rw [hw, Ny348.out]; exact HP59.1); clear HP59; have n0_ := Aside0.mk (hp_); have n1_ := Aside0.mk (IsS47.grown (zz12_4_ HI0.out) hg (IsS47.own_neQ HI0.out HO_5.out (by decide))); have n2_ := Aside0.mk (Kd.R_over' (v := (.slice (some ⟨go50, oo50, none⟩) x5_4.length co53)) (zz12_3_ HO344.out) (Kd.Q_typed HO_5.out) (by decide) hg); have n3_ := Aside0.mk ((by rw [hw]; exact below_set (HB.out) (Nat.le_trans HL.out GB50.out) : Below w0.heap.size w0 w60)); have n4_ := Aside0.mk (KeepBut.trans (zz12_1_ HK.out) (KeepBut.of_grown hg g) (Kd.Q_base2 HO_5.out)); clear HO_5; clear HI0; clear HO344; clear HB; clear HK; have HO_5 := n0_; have HI0 := n1_; have HO344 := n2_; have HB := n3_; have HK := n4_; clear n0_ n1_ n2_ n3_ n4_; clear hg hw hp_))
            go_ret
            exact ⟨_, by first | rfl | (simp [errW_none, errW_some] <;> rfl) | (simp [*, errW_none, errW_some] <;> rfl), zz12_5_ HO_5.out, zz12_4_ HI0.out, zz12_6_ HB.out HI0.out, zz12_1_ HK.out⟩
           ·rw [if_neg c49] at H
            exact absurd H (by simp)
          ·rw [if_neg c48] at H
           exact absurd H (by simp)
         ·rw [if_neg c47] at H
          exact absurd H (by simp)
        ·rw [if_neg c46] at H
         exact absurd H (by simp)
       ·rw [if_neg c43] at H
        have c43b0 : (t327 == 3) = false := beq_eq_false_iff_ne.mpr c43
        have c43b1 : (t327 != 3) = true := bne_iff_ne.mpr c43
        by_cases c61 : t327 = 4
        ·rw [if_pos c61] at H
         have c61b0 : (t327 == 4) = true := beq_iff_eq.mpr c61
         have c61b1 : (t327 != 4) = false := bne_eq_false_iff_eq.mpr c61
         clear c61
         have H' := Aside0.mk H
         clear H
         go_wp2_with (first | ((with_reducible refine gate_callee (f := 36) rfl ?_); refine goesL_ (some 22) rfl rfl Tryz.func36 (by kernel_rfl) rfl #[.pointer (some ⟨g, 0, none⟩), .int .i64 a1] rfl (zz12_0_) ?_; (with_reducible refine (spec_l20Rd_odd.calls kj4 g s0_0 t320 a1 true t326 w0 _ ?side1 ?side2 A16.out).mono ?_); (case side1 => exact zz12_4_ HI0.out); (case side2 => exact zz12_6_ HB.out HI0.out); rintro e w62 ⟨rfl, hi, hb, hk⟩; refine ⟨_, rfl, ?_⟩; have n0_ := Aside0.mk (Kd.Q_mono (Kd.Q_keep (IsS47.apartQ (show IsS47 w0 _ g s0_0 t320 from by repeat (first | (with_reducible first | exact HI0.out | apply IsS47.alloc | apply IsS47.drewN | apply IsS47.drew | apply IsS47.set_1) | exact HI0.out)) (zz12_5_ HO_5.out) (by decide)) hk (fun _ h => h.2)) (fun _ h => h.1)); have n1_ := Aside0.mk (KeepBut.trans (zz12_1_ HK.out) hk (.inl rfl)); have n2_ := Aside0.mk (hb); have n3_ := Aside0.mk (hi); clear HO_5; clear HK; clear HB; clear HI0; have HO_5 := n0_; have HK := n1_; have HB := n2_; have HI0 := n3_; clear n0_ n1_ n2_ n3_; (try clear hb); (try clear hb2); (try clear hk); (try clear hi)) | ((with_reducible refine gate_callee (f := 30) rfl ?_); refine goesL_ (some 24) rfl rfl Tryz.func30 (by kernel_rfl) rfl #[.pointer (some ⟨g, 0, none⟩), .int .i64 6] rfl (zz12_0_) ?_; (with_reducible refine (spec_l20Rd_pick.calls kj4 g s0_0 t326 6 t327 t328 w0 _ ?side1 ?side2 A18.out).mono ?_); (case side1 => exact zz12_4_ HI0.out); (case side2 => exact zz12_6_ HB.out HI0.out); rintro e w63 ⟨rfl, hi, hb, hk⟩; refine ⟨_, rfl, ?_⟩; have n0_ := Aside0.mk (Kd.Q_mono (Kd.Q_keep (IsS47.apartQ (show IsS47 w0 _ g s0_0 t326 from by repeat (first | (with_reducible first | exact HI0.out | apply IsS47.alloc | apply IsS47.drewN | apply IsS47.drew | apply IsS47.set_1) | exact HI0.out)) (zz12_5_ HO_5.out) (by decide)) hk (fun _ h => h.2)) (fun _ h => h.1)); have n1_ := Aside0.mk (KeepBut.trans (zz12_1_ HK.out) hk (.inl rfl)); have n2_ := Aside0.mk (hb); have n3_ := Aside0.mk (hi); clear HO_5; clear HK; clear HB; clear HI0; have HO_5 := n0_; have HK := n1_; have HB := n2_; have HI0 := n3_; clear n0_ n1_ n2_ n3_; (try clear hb); (try clear hb2); (try clear hk); (try clear hi)))
         go_loopg [5, 6] kj4 (fun kq v5 v6 w' => ∃ (x5_2 : List (S35)) (x6_2 : Int), v6 = .int .i64 x6_2 ∧ Aside0 (spec_l20Expr.l0 kq x5_2 x6_2 s0_0 t328 = some (r1, r2)) ∧ Aside0 (kq ≤ kj4) ∧ Aside0 (Kd.Q k35 35 w' w.heap.size (fun _ => True) v5 x5_2) ∧ Aside0 (IsS47 w0 w' g s0_0 t328) ∧ Aside0 (KeepBut w w' g none) ∧ Aside0 (Below w0.heap.size w0 w'))
         case atStart => exact ⟨(x5_4), (0), (by first | rfl | (simp; done) | (simp [*]; done)), H', ⟨Nat.le_refl _⟩, ⟨zz12_5_ HO_5.out⟩, ⟨zz12_4_ HI0.out⟩, ⟨zz12_1_ HK.out⟩, ⟨zz12_6_ HB.out HI0.out⟩⟩
         case round =>
          clear H'
          try clear c1
          try clear p1
          try clear q1
          try clear hx1
          try clear qi1
          try clear c2
          try clear p2
          try clear q2
          try clear c3
          try clear p3
          try clear q3
          try clear hx3
          try clear hf3
          try clear c4
          try clear hx4
          try clear hf4
          try clear c5
          try clear p5
          try clear q5
          try clear hx5
          try clear hf5
          try clear c6
          try clear p6
          try clear c9
          try clear c9b0
          try clear c9b1
          try clear c10
          try clear c10b0
          try clear c10b1
          try clear c11
          try clear c11b0
          try clear c11b1
          try clear c12
          try clear p12
          try clear q12
          try clear hx12
          try clear qi12
          try clear hf12
          try clear q13
          try clear c14
          try clear hx14
          try clear hf14
          try clear c17
          try clear c19
          try clear c19b0
          try clear c19b1
          try clear c20
          try clear c24
          try clear c24b0
          try clear c24b1
          try clear c25
          try clear c25b0
          try clear c25b1
          try clear c26
          try clear c29
          try clear q29
          try clear c30
          try clear c30b0
          try clear c30b1
          try clear c33
          try clear c33b0
          try clear c34
          try clear c34b0
          try clear p34
          try clear q34
          try clear hx34
          try clear c35
          try clear p35
          try clear q35
          try clear hx35
          try clear hf35
          try clear c36
          try clear c41
          try clear hx41
          try clear hf41
          try clear c43
          try clear c43b0
          try clear c43b1
          try clear c46
          try clear c46b0
          try clear c47
          try clear c47b0
          try clear c48
          try clear c48b0
          try clear c49
          try clear c49b0
          try clear c50
          try clear p50
          try clear q50
          try clear hx50
          try clear hf50
          try clear c59
          try clear hx59
          try clear hf59
          try clear c61
          try clear c61b0
          try clear c61b1
          try clear hx12_0
          try clear hx12_1
          try clear hx12_2
          try clear hx14_0
          try clear hx14_1
          try clear hx14_2
          try clear hx347_0
          try clear hx35_0
          try clear hx35_1
          try clear hx35_2
          try clear hx41_0
          try clear hx50_0
          try clear hx50_1
          try clear hx50_2
          try clear hx59_2
          try clear p1
          try clear p12
          try clear p2
          try clear p347
          try clear p35
          try clear p50
          try clear p6
          try clear q1
          try clear q12
          try clear q13
          try clear q29
          try clear q347
          try clear q35
          try clear q50
          obtain ⟨x5_2, x6_2, rfl, HA, HK2, HO_5, HI0, HK, HB⟩ := hrel
          cases gk with
          | zero => exact absurd HA.out (by simp [spec_l20Expr.l0])
          | succ k2 =>
           have H := HA.out
           clear HA
           simp only [spec_l20Expr.l0] at H
           by_cases c64 : x6_2 < 12
           ·rw [if_pos c64] at H
            have c64b0 : decide (x6_2 < 12) = true := decide_eq_true c64
            clear c64
            obtain ⟨y349, hy349⟩ : ∃ y_ : List (S35), y_ = (([(⟨7, (⟨#[33]⟩ : ByteArray), 1⟩ : S35)] : List (S35))) := ⟨_, rfl⟩
            replace H : (if y349.length + x5_2.length < 4398046511104 then (spec_l20Expr.l0 k2 (y349 ++ x5_2) (wrap64 (x6_2 + 1)) s0_0 t328) else (none)) = some (r1, r2) := by first | (rw [hy349]; with_reducible exact H) | (have H2_ := (Option.bind_some _ _).symm.trans H; rw [hy349]; with_reducible exact H2_) | (have H2_ := (Option.bind_some _ _).symm.trans H; with_reducible exact H2_) | with_reducible exact H | (rw [hy349]; exact H) | exact H
            have Ny349 := Aside0.mk hy349
            clear hy349
            by_cases c65 : y349.length + x5_2.length < 4398046511104
            ·rw [if_pos c65] at H
             have LMc65 := Aside0.mk c65
             clear c65
             obtain ⟨y352, hy352⟩ : ∃ y_ : List (S35), y_ = (y349 ++ x5_2) := ⟨_, rfl⟩
             replace H : (spec_l20Expr.l0 k2 y352 (wrap64 (x6_2 + 1)) s0_0 t328) = some (r1, r2) := by first | (rw [hy352]; with_reducible exact H) | (have H2_ := (Option.bind_some _ _).symm.trans H; rw [hy352]; with_reducible exact H2_) | (have H2_ := (Option.bind_some _ _).symm.trans H; with_reducible exact H2_) | with_reducible exact H | (rw [hy352]; exact H) | exact H
             have Ny352 := Aside0.mk hy352
             clear hy352
             have H' := Aside0.mk H
             clear H
             go_wp2_with (first | ((with_reducible refine gate_dst (N := 74) rfl ?_); refine Kd.R_lit k35 _ 35 ?hg (N := 74) ?hd (xs := ([(⟨7, (⟨#[33]⟩ : ByteArray), 1⟩ : S35)] : List (S35))) (inner := [.int .i64 7, .string (⟨#[33]⟩ : ByteArray), .int .i64 1]) (ok := fun _ => True) (okp := fun _ => True) ?hr ?hp (fun _ hk => hk) trivial (Below.refl _ _) (Nat.le_refl _) (by simp) ?_; (case hd => rfl); (case hg => rfl); (case hr => first | (go_simp; done) | (go_simp; rfl)); (case hp => exact (Reps.c3 (show Kd.M k35 _ _ _ (⟨7, (⟨#[33]⟩ : ByteArray), 1⟩ : S35) [.int .i64 7, .string (⟨#[33]⟩ : ByteArray), .int .i64 1] from (k35_mkM _ _ _ (⟨7, (⟨#[33]⟩ : ByteArray), 1⟩ : S35) )) (Reps.none _ _))); intro v350 w66 ho67 hb hg_ hnew_; clear hg_ hnew_; (first | rw [← Ny349.out] at ho67 | (simp only [Int.reduceToNat] at ho67; rw [← Ny349.out] at ho67)); have n0_ := Aside0.mk (Kd.Q_elder' (zz12_5_ HO_5.out) (Kd.R_base ho67) hb); have n1_ := Aside0.mk (Kd.R_lower (Kd.R_new' ho67 (Kd.Q_lt (zz12_5_ HO_5.out))) (keep_size (w := w) (g := g) (row := none) (zz12_1_ HK.out))); have n2_ := Aside0.mk (IsS47.below (zz12_4_ HI0.out) hb); have n3_ := Aside0.mk (KeepBut.trans (zz12_1_ HK.out) (KeepBut.of_below hb g none) (.inl rfl)); have n4_ := Aside0.mk (below_step (zz12_6_ HB.out HI0.out) hb); clear HO_5; clear HI0; clear HK; clear HB; have HO_5 := n0_; have HO351 := n1_; have HI0 := n2_; have HK := n3_; have HB := n4_; clear n0_ n1_ n2_ n3_ n4_; clear hb ho67; obtain ⟨Ao69, co69, eo69, _⟩ := Kd.Q_slice HO_5.out; subst eo69) | ((with_reducible refine gate_builtin (b := .append) (xs := #[.tmp 74, .tmp 75]) rfl ?_); at_builtin; refine Kd.R_append_rows k35 w.heap.size rfl (.tmp 74) (.tmp 75) 23 35 (.agg #[(.int .i64 0), (.string ⟨#[]⟩), (.int .i64 0)]) 32 rfl Tryz.underlying23 info35 rfl (by decide) (by omega) v350 y349 x5_2 _ _ _ (fun k_ => some k_ ≠ (.slice Ao69 x5_2.length co69 : Value).ownBlock) (fun _ => False) rfl rfl ?aO ?aR (fun _ _ h => h) (fun _ h => h.elim) ?aF (Below.refl _ _) ?aS ?aL ?_; (case aR => repeat (first | exact (Kd.Q_reads' HO_5.out).2.2 | (with_reducible refine Kd.C_alloc ?_ _) | (with_reducible refine Kd.C_drewN ?_ _) | (with_reducible refine Kd.C_drew ?_))); (case aF => exact (fun k_ hk => Kd.fresh' (Kd.Q_lt (zz12_5_ HO_5.out)) k_ hk)); (case aO => exact (by (with_reducible repeat (first | apply Kd.R_alloc | apply Kd.R_drewN | apply Kd.R_drew)); exact Kd.R_mono HO351.out (fun _ hk => hk.2))); (case aS => exact (keep_size (w := w) (g := g) (row := none) (zz12_1_ HK.out))); (case aL => have := LMc65.out; omega); intro v353 w68 ho hb hg hat; rw [← Ny352.out] at ho; have n0_ := Aside0.mk (Kd.Q_after (ok := (fun _ => True)) (zz12_5_ HO_5.out) hg hat); have n1_ := Aside0.mk (IsS47.grown (zz12_4_ HI0.out) hg (IsS47.own_ne HI0.out HO351.out (by decide))); have n2_ := Aside0.mk (below_weaken (zz12_6_ HB.out HI0.out) HL.out hb); have n3_ := Aside0.mk (KeepBut.trans (zz12_1_ HK.out) (KeepBut.of_grown hg g) (Kd.R_base2 HO351.out)); have n4_ := Aside0.mk (ho); clear HO_5; clear HI0; clear HB; clear HK; clear HO351; have HO_5 := n0_; have HI0 := n1_; have HB := n2_; have HK := n3_; have HO354 := n4_; clear n0_ n1_ n2_ n3_ n4_; clear ho hb hg hat))
             go_roundg k2
             case measure => have := HJ4.out; have := HK2.out; omega
             case rel => exact ⟨(y352), (wrap64 (x6_2 + 1)), (by first | rfl | (simp; done) | (simp [*]; done)), H', ⟨by have := HJ4.out; have := HK2.out; omega⟩, ⟨Kd.Q_of_R (by (with_reducible repeat (first | apply Kd.R_alloc | apply Kd.R_drewN | apply Kd.R_drew)); exact Kd.R_mono HO354.out (fun _ hk => trivial))⟩, ⟨zz12_4_ HI0.out⟩, ⟨zz12_1_ HK.out⟩, ⟨zz12_6_ HB.out HI0.out⟩⟩
            ·rw [if_neg c65] at H
             exact absurd H (by simp)
           ·rw [if_neg c64] at H
            have c64b0 : decide (x6_2 < 12) = false := decide_eq_false c64
            clear c64
            simp only [Option.some.injEq, Prod.mk.injEq] at H
            obtain ⟨rfl, rfl⟩ := H
            go_wp2
            go_ret
            exact ⟨_, by first | rfl | (simp [errW_none, errW_some] <;> rfl) | (simp [*, errW_none, errW_some] <;> rfl), zz12_5_ HO_5.out, zz12_4_ HI0.out, zz12_6_ HB.out HI0.out, zz12_1_ HK.out⟩
        ·rw [if_neg c61] at H
         have c61b0 : (t327 == 4) = false := beq_eq_false_iff_ne.mpr c61
         have c61b1 : (t327 != 4) = true := bne_iff_ne.mpr c61
         replace H := Option.bind_eq_some_iff.mp H
         obtain ⟨⟨t355, t356⟩, A700, H⟩ := H
         try dsimp only at H
         have A70 := Aside0.mk A700
         clear A700
         by_cases c71 : 0 ≤ t355
         ·rw [if_pos c71] at H
          have c71b0 : decide (0 ≤ t355) = true := decide_eq_true c71
          clear c71
          by_cases c72 : t355 < (x5_4.length : Int)
          ·rw [if_pos c72] at H
           have c72b0 : decide (t355 < (x5_4.length : Int)) = true := decide_eq_true c72
           clear c72
           obtain ⟨y357, hy357⟩ : ∃ y_ : List (S35), y_ = (x5_4.set (t355 : Int).toNat (⟨(rd_T35 x5_4 t355).f0, (⟨#[63]⟩ : ByteArray), (rd_T35 x5_4 t355).f2⟩ : S35)) := ⟨_, rfl⟩
           replace H : (some (y357, t356)) = some (r1, r2) := by first | (rw [hy357]; with_reducible exact H) | (have H2_ := (Option.bind_some _ _).symm.trans H; rw [hy357]; with_reducible exact H2_) | (have H2_ := (Option.bind_some _ _).symm.trans H; with_reducible exact H2_) | with_reducible exact H | (rw [hy357]; exact H) | exact H
           have Ny357 := Aside0.mk hy357
           clear hy357
           simp only [Option.some.injEq, Prod.mk.injEq] at H
           obtain ⟨rfl, rfl⟩ := H
           go_wp2_with (first | ((with_reducible refine gate_callee (f := 36) rfl ?_); refine goesL_ (some 22) rfl rfl Tryz.func36 (by kernel_rfl) rfl #[.pointer (some ⟨g, 0, none⟩), .int .i64 a1] rfl (zz12_0_) ?_; (with_reducible refine (spec_l20Rd_odd.calls kj4 g s0_0 t320 a1 true t326 w0 _ ?side1 ?side2 A16.out).mono ?_); (case side1 => exact zz12_4_ HI0.out); (case side2 => exact zz12_6_ HB.out HI0.out); rintro e w74 ⟨rfl, hi, hb, hk⟩; refine ⟨_, rfl, ?_⟩; have n0_ := Aside0.mk (Kd.Q_mono (Kd.Q_keep (IsS47.apartQ (show IsS47 w0 _ g s0_0 t320 from by repeat (first | (with_reducible first | exact HI0.out | apply IsS47.alloc | apply IsS47.drewN | apply IsS47.drew | apply IsS47.set_1) | exact HI0.out)) (zz12_5_ HO_5.out) (by decide)) hk (fun _ h => h.2)) (fun _ h => h.1)); have n1_ := Aside0.mk (KeepBut.trans (zz12_1_ HK.out) hk (.inl rfl)); have n2_ := Aside0.mk (hb); have n3_ := Aside0.mk (hi); clear HO_5; clear HK; clear HB; clear HI0; have HO_5 := n0_; have HK := n1_; have HB := n2_; have HI0 := n3_; clear n0_ n1_ n2_ n3_; (try clear hb); (try clear hb2); (try clear hk); (try clear hi)) | ((with_reducible refine gate_callee (f := 30) rfl ?_); refine goesL_ (some 24) rfl rfl Tryz.func30 (by kernel_rfl) rfl #[.pointer (some ⟨g, 0, none⟩), .int .i64 6] rfl (zz12_0_) ?_; (with_reducible refine (spec_l20Rd_pick.calls kj4 g s0_0 t326 6 t327 t328 w0 _ ?side1 ?side2 A18.out).mono ?_); (case side1 => exact zz12_4_ HI0.out); (case side2 => exact zz12_6_ HB.out HI0.out); rintro e w75 ⟨rfl, hi, hb, hk⟩; refine ⟨_, rfl, ?_⟩; have n0_ := Aside0.mk (Kd.Q_mono (Kd.Q_keep (IsS47.apartQ (show IsS47 w0 _ g s0_0 t326 from by repeat (first | (with_reducible first | exact HI0.out | apply IsS47.alloc | apply IsS47.drewN | apply IsS47.drew | apply IsS47.set_1) | exact HI0.out)) (zz12_5_ HO_5.out) (by decide)) hk (fun _ h => h.2)) (fun _ h => h.1)); have n1_ := Aside0.mk (KeepBut.trans (zz12_1_ HK.out) hk (.inl rfl)); have n2_ := Aside0.mk (hb); have n3_ := Aside0.mk (hi); clear HO_5; clear HK; clear HB; clear HI0; have HO_5 := n0_; have HK := n1_; have HB := n2_; have HI0 := n3_; clear n0_ n1_ n2_ n3_; (try clear hb); (try clear hb2); (try clear hk); (try clear hi); obtain ⟨Ao76, co76, eo76, _⟩ := Kd.Q_slice HO_5.out; subst eo76) | ((with_reducible refine gate_callee (f := 30) rfl ?_); refine goesL_ (some 29) rfl rfl Tryz.func30 (by kernel_rfl) rfl #[.pointer (some ⟨g, 0, none⟩), .int .i64 (x5_4.length : Int)] rfl (zz12_0_) ?_; (with_reducible refine (spec_l20Rd_pick.calls kj4 g s0_0 t328 (x5_4.length : Int) t355 t356 w0 _ ?side1 ?side2 A70.out).mono ?_); (case side1 => exact zz12_4_ HI0.out); (case side2 => exact zz12_6_ HB.out HI0.out); rintro e w77 ⟨rfl, hi, hb, hk⟩; refine ⟨_, rfl, ?_⟩; have n0_ := Aside0.mk (Kd.Q_mono (Kd.Q_keep (IsS47.apartQ (show IsS47 w0 _ g s0_0 t328 from by repeat (first | (with_reducible first | exact HI0.out | apply IsS47.alloc | apply IsS47.drewN | apply IsS47.drew | apply IsS47.set_1) | exact HI0.out)) (zz12_5_ HO_5.out) (by decide)) hk (fun _ h => h.2)) (fun _ h => h.1)); have n1_ := Aside0.mk (KeepBut.trans (zz12_1_ HK.out) hk (.inl rfl)); have n2_ := Aside0.mk (hb); have n3_ := Aside0.mk (hi); clear HO_5; clear HK; clear HB; clear HI0; have HO_5 := n0_; have HK := n1_; have HB := n2_; have HI0 := n3_; clear n0_ n1_ n2_ n3_; (try clear hb); (try clear hb2); (try clear hk); (try clear hi); have p73 : 0 ≤ (t355 : Int) := of_decide_eq_true (zz12_2_); have q73 : (t355 : Int) < ((x5_4.length : Int) : Int) := of_decide_eq_true (zz12_2_); obtain ⟨go73, oo73, co73, eo73, gb73, gl73, cl73, HG73⟩ := Kd.Q_form HO_5.out (by omega); (first | cases eo73 | (injection eo73 with ea_ en_ ec_; (first | subst ea_ | (injection ea_ with ea_; subst ea_)); subst ec_; clear en_)); have GB73 := Aside0.mk gb73; have GG73 := Aside0.mk HG73; clear gb73 gl73 HG73; obtain ⟨ce73, hcl73, hM73, hcc73, hfr73⟩ := Kd.Q_elem HO_5.out z35 (t355 : Int) p73 q73; obtain rfl := k35_openM hM73; have hx73_0 : w77.cell? ⟨go73, oo73 + (t355 : Int).toNat * 3, none⟩ = some (.int .i64 ((rd_T35 x5_4 t355).f0)) := hcc73 0 _ rfl; have hx73_1 : w77.cell? ⟨go73, oo73 + (t355 : Int).toNat * 3 + 1, none⟩ = some (.string ((rd_T35 x5_4 t355).f1)) := hcc73 1 _ rfl; have hx73_2 : w77.cell? ⟨go73, oo73 + (t355 : Int).toNat * 3 + 2, none⟩ = some (.int .i64 ((rd_T35 x5_4 t355).f2)) := hcc73 2 _ rfl; have hf73_0 : w77.frozen? ⟨go73, oo73 + (t355 : Int).toNat * 3, none⟩ = false := hfr73 0; have hf73_1 : w77.frozen? ⟨go73, oo73 + (t355 : Int).toNat * 3 + 1, none⟩ = false := hfr73 1; have hf73_2 : w77.frozen? ⟨go73, oo73 + (t355 : Int).toNat * 3 + 2, none⟩ = false := hfr73 2; clear hcl73 hcc73 hfr73 hM73; replace p73 := eq_true p73; replace q73 := eq_true q73; have HX78 := Aside0.mk (show Kd.Q k35 35 w77 w.heap.size (fun _ => True) (.slice (some ⟨go73, oo73, none⟩) x5_4.length co76) x5_4 from (zz12_5_ HO_5.out)); obtain ⟨ce78, hcl78, hM78, hcc78, hfr78⟩ := Kd.Q_elem HX78.out z35 (t355 : Int) (of_decide_eq_true (zz12_2_)) (by have h_ : (t355 : Int) < ((x5_4.length : Int) : Int) := of_decide_eq_true (zz12_2_); first | exact h_ | (have e_ := (Kd.Q_reads' HO_5.out).1; omega) | simpa using h_); obtain rfl := k35_openM hM78; have HP78 := Kd.Q_seg HX78.out (t355 : Int) (of_decide_eq_true (zz12_2_)) (by have h_ : (t355 : Int) < ((x5_4.length : Int) : Int) := of_decide_eq_true (zz12_2_); first | exact h_ | (have e_ := (Kd.Q_reads' HO_5.out).1; omega) | simpa using h_) (seg := [.string (⟨#[63]⟩ : ByteArray)]) (j := 1) hcl78 hcc78 (show 2 ≤ 3 from by decide) (x' := (⟨(rd_T35 x5_4 t355).f0, (⟨#[63]⟩ : ByteArray), (rd_T35 x5_4 t355).f2⟩ : S35)) (k35_mkM _ _ _ (⟨(rd_T35 x5_4 t355).f0, (⟨#[63]⟩ : ByteArray), (rd_T35 x5_4 t355).f2⟩ : S35) ) (fun _ hk => hk); have hx78_1 := hcc78 1 _ rfl; (try simp only [show (k35).sz = 3 from rfl, Nat.mul_one, Nat.add_zero] at hx78_1); have hf78_1 := hfr78 1; (try simp only [show (k35).sz = 3 from rfl, Nat.mul_one, Nat.add_zero] at hf78_1); clear hcl78 hcc78 hfr78 hM78) | ((with_reducible refine gate_store (t := 9) (p := 31) rfl ?_); refine store_event (t := 9) (p := 31) (v := ?vo_w79) (w1 := (w77.setCell ⟨go73, oo73 + (t355 : Int).toNat * 3 + 1, none⟩ (.string (⟨#[63]⟩ : ByteArray)))) ?hg ?ho ?hn ?hr ?_; (case ho => rfl); (case hg => rfl); (case hn => rfl); (case hr => first | (go_simp; done) | (go_simp; rfl)); intro w79 hw; have hg : w77.grownBy w79 (some go73) := (by rw [hw]; exact HP78.2); have hp_ : Kd.Q k35 35 w79 w.heap.size (fun _ => True) (.slice (some ⟨go73, oo73, none⟩) x5_4.length co76) y357 := (by rw [hw, Ny357.out]; exact HP78.1); clear HP78; have n0_ := Aside0.mk (hp_); have n1_ := Aside0.mk (IsS47.grown (zz12_4_ HI0.out) hg (IsS47.own_neQ HI0.out HO_5.out (by decide))); have n2_ := Aside0.mk ((by rw [hw]; exact below_set (HB.out) (Nat.le_trans HL.out GB73.out) : Below w0.heap.size w0 w79)); have n3_ := Aside0.mk (KeepBut.trans (zz12_1_ HK.out) (KeepBut.of_grown hg g) (Kd.Q_base2 HO_5.out)); clear HO_5; clear HI0; clear HB; clear HK; have HO_5 := n0_; have HI0 := n1_; have HB := n2_; have HK := n3_; clear n0_ n1_ n2_ n3_; clear hg hw hp_))
           go_ret
           exact ⟨_, by first | rfl | (simp [errW_none, errW_some] <;> rfl) | (simp [*, errW_none, errW_some] <;> rfl), zz12_5_ HO_5.out, zz12_4_ HI0.out, zz12_6_ HB.out HI0.out, zz12_1_ HK.out⟩
          ·rw [if_neg c72] at H
           exact absurd H (by simp)
         ·rw [if_neg c71] at H
          exact absurd H (by simp)
   ·replace c17 := Bool.eq_false_iff.mpr c17
    subst c17
    rw [if_neg (show ¬ (false = true) by decide)] at H
    simp only [Option.some.injEq, Prod.mk.injEq] at H
    obtain ⟨rfl, rfl⟩ := H
    go_wp2_with (first | ((with_reducible refine gate_callee (f := 36) rfl ?_); refine goesL_ (some 22) rfl rfl Tryz.func36 (by kernel_rfl) rfl #[.pointer (some ⟨g, 0, none⟩), .int .i64 a1] rfl (zz12_0_) ?_; (with_reducible refine (spec_l20Rd_odd.calls kj4 g s0_0 t320 a1 false t326 w0 _ ?side1 ?side2 A16.out).mono ?_); (case side1 => exact zz12_4_ HI0.out); (case side2 => exact zz12_6_ HB.out HI0.out); rintro e w80 ⟨rfl, hi, hb, hk⟩; refine ⟨_, rfl, ?_⟩; have n0_ := Aside0.mk (Kd.Q_mono (Kd.Q_keep (IsS47.apartQ (show IsS47 w0 _ g s0_0 t320 from by repeat (first | (with_reducible first | exact HI0.out | apply IsS47.alloc | apply IsS47.drewN | apply IsS47.drew | apply IsS47.set_1) | exact HI0.out)) (zz12_5_ HO_5.out) (by decide)) hk (fun _ h => h.2)) (fun _ h => h.1)); have n1_ := Aside0.mk (KeepBut.trans (zz12_1_ HK.out) hk (.inl rfl)); have n2_ := Aside0.mk (hb); have n3_ := Aside0.mk (hi); clear HO_5; clear HK; clear HB; clear HI0; have HO_5 := n0_; have HK := n1_; have HB := n2_; have HI0 := n3_; clear n0_ n1_ n2_ n3_; (try clear hb); (try clear hb2); (try clear hk); (try clear hi)))
    go_ret
    exact ⟨_, by first | rfl | (simp [errW_none, errW_some] <;> rfl) | (simp [*, errW_none, errW_some] <;> rfl), zz12_5_ HO_5.out, zz12_4_ HI0.out, zz12_6_ HB.out HI0.out, zz12_1_ HK.out⟩

end Go.Proofs.YtifeiepociopoaaGreatDoor.PEd
