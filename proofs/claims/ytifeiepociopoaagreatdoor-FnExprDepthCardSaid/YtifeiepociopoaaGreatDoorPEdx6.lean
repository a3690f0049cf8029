-- Written for this session by its program hprint.py over the kit's print: functions, and contracts that the walk of the Go code proves.
import Derived.Test.YtifeiepociopoaaGreatDoorPEdx0
import Derived.Test.YtifeiepociopoaaGreatDoorPEdx1
import Derived.Test.YtifeiepociopoaaGreatDoorPEdx5
namespace Go.Proofs.YtifeiepociopoaaGreatDoor.PEd
open Go.RowKit Go.Proofs.YtifeiepociopoaaGreatDoor.Hand Go.Proofs.YtifeiepociopoaaGreatDoorW.PrintWords Go.Proofs.YtifeiepociopoaaGreatDoorW.PrintLast Go.Proofs.YtifeiepociopoaaGreatDoorW.PrintMore
attribute [local go_sem] max2_int min2_int max_two min_two max_three min_three max_four min_four   -- for this text's walks alone
set_option linter.unusedVariables false
set_option linter.unusedSimpArgs false

/-! ### impl_partValid: function 51 -/
theorem zz6_0_ {Q : Prop} (f : Q := by repeat (first | exact Drawn0.refl _ | apply Drawn0.step)) : Q := f
theorem zz6_1_ {Q : Prop} (f : Q := by first | (with_reducible assumption) | assumption) : Q := f
theorem zz6_2_ {Q : Prop} (f : Q := by (try simp only [List.map_toArray, List.map_cons, List.map_nil]); first | done | rfl | (simp only [List.length_drop, List.length_take]; rfl)) : Q := f
def impl_partValid.l0 : Nat → ByteArray → Int → Option (Bool)
 | 0, _, _ => none
 | k + 1, x0, x3 => if x3 < (x0.size : Int) then (if 0 ≤ x3 then ((impl_isSmall.f (bt x0 x3)).bind fun t177 => (if t177 = true then (impl_partValid.l0 k x0 (wrap64 (x3 + 1))) else (if x3 = 0 then (some false) else ((impl_isDigit.f (bt x0 x3)).bind fun t178 => (if t178 = true then (impl_partValid.l0 k x0 (wrap64 (x3 + 1))) else (if (bt x0 x3) = 95 then (impl_partValid.l0 k x0 (wrap64 (x3 + 1))) else (some false))))))) else (none)) else ((impl_in.f (x0.size : Int) 1 12).bind fun t176 => (some t176))
def impl_partValid.f (k : Nat) (a0 : ByteArray) : Option (Bool) := impl_partValid.l0 k a0 0
theorem impl_partValid.mono_l : ∀ k, (∀ y0 y1, LeO (impl_partValid.l0 k y0 y1) (impl_partValid.l0 (k + 1) y0 y1))
 | 0 => fun _ _ r h => by simp [impl_partValid.l0] at h
 | k + 1 => by
  have ih0 := impl_partValid.mono_l k
  ·intro y0 y1
   unfold impl_partValid.l0
   repeat' first
   | (with_reducible exact ih0 _ _)
   | (with_reducible exact LeO.refl _)
   | (with_reducible exact LeO.none _)
   | (with_reducible refine LeO.ite ?_ ?_)
   | (with_reducible refine LeO.bind ?_ (fun _ => ?_))
   | exact ih0 _ _
   | exact LeO.none _
   | refine LeO.ite ?_ ?_
   | refine LeO.bind ?_ (fun _ => ?_)
theorem impl_partValid.mono : ∀ a0 k, LeO (impl_partValid.f k a0) (impl_partValid.f (k + 1) a0) := by
 intro a0 k
 have ih0 := impl_partValid.mono_l k
 unfold impl_partValid.f
 repeat' first
   | (with_reducible exact ih0 _ _)
   | (with_reducible exact LeO.refl _)
   | (with_reducible exact LeO.none _)
   | (with_reducible refine LeO.ite ?_ ?_)
   | (with_reducible refine LeO.bind ?_ (fun _ => ?_))
   | exact ih0 _ _
   | exact LeO.none _
   | refine LeO.ite ?_ ?_
   | refine LeO.bind ?_ (fun _ => ?_)
set_option maxHeartbeats 8000000 in
set_option maxRecDepth 100000 in
theorem impl_partValid.calls (k : Nat) (a0 : ByteArray) (r : Bool) (w : World) (h : impl_partValid.f k a0 = some r) :
  Calls Tryz.prog 51 #[.string a0] w fun e w' => e = .returned (.bool r) ∧ Drawn0 w w' := by
 have H : (impl_partValid.l0 k a0 0) = some r := h
 clear h
 have H' := Aside0.mk H
 clear H
 go_enter Tryz.func51, Tryz.ntmps51
 go_wp2
 go_loopg [3] k (fun kq v3 w' => ∃ (x3_1 : Int), v3 = .int .i64 x3_1 ∧ Aside0 (impl_partValid.l0 kq a0 x3_1 = some r) ∧ Aside0 (kq ≤ k) ∧ Drawn0 w w')
 case atStart => exact ⟨(0), (by first | rfl | (simp; done) | (simp [*]; done)), H', ⟨Nat.le_refl _⟩, zz6_0_⟩
 case round =>
  clear H'
  obtain ⟨x3_1, rfl, HA, HK1, ⟨m1, rfl⟩⟩ := hrel
  cases gk with
  | zero => exact absurd HA.out (by simp [impl_partValid.l0])
  | succ k1 =>
   have H := HA.out
   clear HA
   simp only [impl_partValid.l0] at H
   by_cases c2 : x3_1 < (a0.size : Int)
   ·rw [if_pos c2] at H
    have c2b0 : decide (x3_1 < (a0.size : Int)) = true := decide_eq_true c2
    clear c2
    by_cases c3 : 0 ≤ x3_1
    ·rw [if_pos c3] at H
     have c3b0 : decide (0 ≤ x3_1) = true := decide_eq_true c3
     clear c3
     replace H := Option.bind_eq_some_iff.mp H
     obtain ⟨t177, A50, H⟩ := H
     try dsimp only at H
     have A5 := Aside0.mk A50
     clear A50
     by_cases c6 : t177 = true
     ·subst c6
      rw [if_pos rfl] at H
      have H' := Aside0.mk H
      clear H
      have p4 : 0 ≤ (x3_1 : Int) := of_decide_eq_true (zz6_1_)
      have q4 : x3_1 < (a0.size : Int) := of_decide_eq_true (zz6_1_)
      have hx4 := bt_at a0 x3_1
      replace p4 := eq_true p4
      replace q4 := eq_true q4
      go_wp2_with (first | ((with_reducible refine gate_callee (f := 67) rfl ?_); refine goesL_ (some 13) rfl rfl Tryz.func67 (by kernel_rfl) rfl #[.int .u8 (bt a0 x3_1)] rfl (zz6_2_) ?_; (with_reducible refine (impl_isSmall.calls (bt a0 x3_1) true _ A5.out).mono ?_); rintro e w' ⟨rfl, ⟨nd, rfl⟩⟩; refine ⟨_, rfl, ?_⟩))
      go_roundg k1
      case measure => have := HK1.out; omega
      case rel => exact ⟨(wrap64 (x3_1 + 1)), (by first | rfl | (simp; done) | (simp [*]; done)), H', ⟨by have := HK1.out; omega⟩, zz6_0_⟩
     ·replace c6 := Bool.eq_false_iff.mpr c6
      subst c6
      rw [if_neg (show ¬ (false = true) by decide)] at H
      by_cases c7 : x3_1 = 0
      ·rw [if_pos c7] at H
       have c7b0 : (x3_1 == 0) = true := beq_iff_eq.mpr c7
       have c7b1 : (x3_1 != 0) = false := bne_eq_false_iff_eq.mpr c7
       clear c7
       obtain rfl := Option.some.inj H
       have p4 : 0 ≤ (x3_1 : Int) := of_decide_eq_true (zz6_1_)
       have q4 : x3_1 < (a0.size : Int) := of_decide_eq_true (zz6_1_)
       have hx4 := bt_at a0 x3_1
       replace p4 := eq_true p4
       replace q4 := eq_true q4
       go_wp2_with (first | ((with_reducible refine gate_callee (f := 67) rfl ?_); refine goesL_ (some 13) rfl rfl Tryz.func67 (by kernel_rfl) rfl #[.int .u8 (bt a0 x3_1)] rfl (zz6_2_) ?_; (with_reducible refine (impl_isSmall.calls (bt a0 x3_1) false _ A5.out).mono ?_); rintro e w' ⟨rfl, ⟨nd, rfl⟩⟩; refine ⟨_, rfl, ?_⟩))
       go_ret
       exact ⟨by first | rfl | (simp; done) | (simp [*]; done), zz6_0_⟩
      ·rw [if_neg c7] at H
       have c7b0 : (x3_1 == 0) = false := beq_eq_false_iff_ne.mpr c7
       have c7b1 : (x3_1 != 0) = true := bne_iff_ne.mpr c7
       replace H := Option.bind_eq_some_iff.mp H
       obtain ⟨t178, A90, H⟩ := H
       try dsimp only at H
       have A9 := Aside0.mk A90
       clear A90
       by_cases c10 : t178 = true
       ·subst c10
        rw [if_pos rfl] at H
        have H' := Aside0.mk H
        clear H
        have p4 : 0 ≤ (x3_1 : Int) := of_decide_eq_true (zz6_1_)
        have q4 : x3_1 < (a0.size : Int) := of_decide_eq_true (zz6_1_)
        have hx4 := bt_at a0 x3_1
        replace p4 := eq_true p4
        replace q4 := eq_true q4
        go_wp2_with (first | ((with_reducible refine gate_callee (f := 67) rfl ?_); refine goesL_ (some 13) rfl rfl Tryz.func67 (by kernel_rfl) rfl #[.int .u8 (bt a0 x3_1)] rfl (zz6_2_) ?_; (with_reducible refine (impl_isSmall.calls (bt a0 x3_1) false _ A5.out).mono ?_); rintro e w' ⟨rfl, ⟨nd, rfl⟩⟩; refine ⟨_, rfl, ?_⟩; have p8 : 0 ≤ (x3_1 : Int) := of_decide_eq_true (zz6_1_); have q8 : x3_1 < (a0.size : Int) := of_decide_eq_true (zz6_1_); have hx8 := bt_at a0 x3_1; replace p8 := eq_true p8; replace q8 := eq_true q8) | (go_at_call 68; (with_reducible refine (impl_isDigit.calls (bt a0 x3_1) true _ A9.out).mono ?_); rintro e w' ⟨rfl, ⟨nd, rfl⟩⟩))
        go_roundg k1
        case measure => have := HK1.out; omega
        case rel => exact ⟨(wrap64 (x3_1 + 1)), (by first | rfl | (simp; done) | (simp [*]; done)), H', ⟨by have := HK1.out; omega⟩, zz6_0_⟩
       ·replace c10 := Bool.eq_false_iff.mpr c10
        subst c10
        rw [if_neg (show ¬ (false = true) by decide)] at H
        by_cases c12 : (bt a0 x3_1) = 95
        ·rw [if_pos c12] at H
         have c12b0 : ((bt a0 x3_1) == 95) = true := beq_iff_eq.mpr c12
         have c12b1 : ((bt a0 x3_1) != 95) = false := bne_eq_false_iff_eq.mpr c12
         clear c12
         have H' := Aside0.mk H
         clear H
         have p4 : 0 ≤ (x3_1 : Int) := of_decide_eq_true (zz6_1_)
         have q4 : x3_1 < (a0.size : Int) := of_decide_eq_true (zz6_1_)
         have hx4 := bt_at a0 x3_1
         replace p4 := eq_true p4
         replace q4 := eq_true q4
         go_wp2_with (first | ((with_reducible refine gate_callee (f := 67) rfl ?_); refine goesL_ (some 13) rfl rfl Tryz.func67 (by kernel_rfl) rfl #[.int .u8 (bt a0 x3_1)] rfl (zz6_2_) ?_; (with_reducible refine (impl_isSmall.calls (bt a0 x3_1) false _ A5.out).mono ?_); rintro e w' ⟨rfl, ⟨nd, rfl⟩⟩; refine ⟨_, rfl, ?_⟩; have p8 : 0 ≤ (x3_1 : Int) := of_decide_eq_true (zz6_1_); have q8 : x3_1 < (a0.size : Int) := of_decide_eq_true (zz6_1_); have hx8 := bt_at a0 x3_1; replace p8 := eq_true p8; replace q8 := eq_true q8) | (go_at_call 68; (with_reducible refine (impl_isDigit.calls (bt a0 x3_1) false _ A9.out).mono ?_); rintro e w' ⟨rfl, ⟨nd, rfl⟩⟩; have p11 : 0 ≤ (x3_1 : Int) := of_decide_eq_true (zz6_1_); have q11 : x3_1 < (a0.size : Int) := of_decide_eq_true (zz6_1_); have hx11 := bt_at a0 x3_1; replace p11 := eq_true p11; replace q11 := eq_true q11))
         go_roundg k1
         case measure => have := HK1.out; omega
         case rel => exact ⟨(wrap64 (x3_1 + 1)), (by first | rfl | (simp; done) | (simp [*]; done)), H', ⟨by have := HK1.out; omega⟩, zz6_0_⟩
        ·rw [if_neg c12] at H
         have c12b0 : ((bt a0 x3_1) == 95) = false := beq_eq_false_iff_ne.mpr c12
         have c12b1 : ((bt a0 x3_1) != 95) = true := bne_iff_ne.mpr c12
         obtain rfl := Option.some.inj H
         have p4 : 0 ≤ (x3_1 : Int) := of_decide_eq_true (zz6_1_)
         have q4 : x3_1 < (a0.size : Int) := of_decide_eq_true (zz6_1_)
         have hx4 := bt_at a0 x3_1
         replace p4 := eq_true p4
         replace q4 := eq_true q4
         go_wp2_with (first | ((with_reducible refine gate_callee (f := 67) rfl ?_); refine goesL_ (some 13) rfl rfl Tryz.func67 (by kernel_rfl) rfl #[.int .u8 (bt a0 x3_1)] rfl (zz6_2_) ?_; (with_reducible refine (impl_isSmall.calls (bt a0 x3_1) false _ A5.out).mono ?_); rintro e w' ⟨rfl, ⟨nd, rfl⟩⟩; refine ⟨_, rfl, ?_⟩; have p8 : 0 ≤ (x3_1 : Int) := of_decide_eq_true (zz6_1_); have q8 : x3_1 < (a0.size : Int) := of_decide_eq_true (zz6_1_); have hx8 := bt_at a0 x3_1; replace p8 := eq_true p8; replace q8 := eq_true q8) | (go_at_call 68; (with_reducible refine (impl_isDigit.calls (bt a0 x3_1) false _ A9.out).mono ?_); rintro e w' ⟨rfl, ⟨nd, rfl⟩⟩; have p11 : 0 ≤ (x3_1 : Int) := of_decide_eq_true (zz6_1_); have q11 : x3_1 < (a0.size : Int) := of_decide_eq_true (zz6_1_); have hx11 := bt_at a0 x3_1; replace p11 := eq_true p11; replace q11 := eq_true q11))
         go_ret
         exact ⟨by first | rfl | (simp; done) | (simp [*]; done), zz6_0_⟩
    ·rw [if_neg c3] at H
     exact absurd H (by simp)
   ·rw [if_neg c2] at H
    have c2b0 : decide (x3_1 < (a0.size : Int)) = false := decide_eq_false c2
    clear c2
    replace H := Option.bind_eq_some_iff.mp H
    obtain ⟨t176, A130, H⟩ := H
    try dsimp only at H
    have A13 := Aside0.mk A130
    clear A130
    obtain rfl := Option.some.inj H
    go_wp2_with (first | ((with_reducible refine gate_callee (f := 19) rfl ?_); refine goesL_ (some 34) rfl rfl Tryz.func19 (by kernel_rfl) rfl #[.int .i64 (a0.size : Int), .int .i64 1, .int .i64 12] rfl (zz6_2_) ?_; (with_reducible refine (impl_in.calls (a0.size : Int) 1 12 t176 _ A13.out).mono ?_); rintro e w' ⟨rfl, ⟨nd, rfl⟩⟩; refine ⟨_, rfl, ?_⟩))
    go_ret
    exact ⟨by first | rfl | (simp; done) | (simp [*]; done), zz6_0_⟩

/-! ### impl_NameValid: function 32 -/
theorem zz6_3_ {P1 Q : Prop} (h1 : P1) (f : P1 → Q := by intro zq1_; repeat (first | (with_reducible first | exact zq1_ | apply below_alloc | apply pw_below_drewN | apply below_drew1) | exact zq1_)) : Q := f h1
def impl_NameValid.l0 : Nat → ByteArray → List ByteArray → Int → Int → Option (Bool)
 | 0, _, _, _, _ => none
 | k + 1, x0, x6, x7, x8 => if x8 < x7 then (if 0 ≤ x8 then (if x8 < (x6.length : Int) then ((impl_partValid.f k (rdOf ByteArray.empty x6 x8)).bind fun t183 => (if t183 = true then (impl_NameValid.l0 k x0 x6 x7 (wrap64 (x8 + 1))) else (some false))) else (none)) else (none)) else (if x0.toList = ([116, 114, 117, 101] : List UInt8) then (some false) else (some (x0.toList != ([102, 97, 108, 115, 101] : List UInt8))))
def impl_NameValid.f (k : Nat) (a0 : ByteArray) : Option (Bool) := (strings_Split.f k a0 (⟨#[46]⟩ : ByteArray)).bind fun t179 => (impl_NameValid.l0 k a0 t179 (t179.length : Int) 0)
theorem impl_NameValid.mono_l : ∀ k, (∀ y0 y1 y2 y3, LeO (impl_NameValid.l0 k y0 y1 y2 y3) (impl_NameValid.l0 (k + 1) y0 y1 y2 y3))
 | 0 => fun _ _ _ _ r h => by simp [impl_NameValid.l0] at h
 | k + 1 => by
  have ih0 := impl_NameValid.mono_l k
  ·intro y0 y1 y2 y3
   unfold impl_NameValid.l0
   repeat' first
   | (with_reducible exact ih0 _ _ _ _)
   | (with_reducible exact impl_partValid.mono _ _)
   | (with_reducible exact strings_Split.mono _ _ _)
   | (with_reducible exact LeO.refl _)
   | (with_reducible exact LeO.none _)
   | (with_reducible refine LeO.ite ?_ ?_)
   | (with_reducible refine LeO.bind ?_ (fun _ => ?_))
   | exact ih0 _ _ _ _
   | exact impl_partValid.mono _ _
   | exact strings_Split.mono _ _ _
   | exact LeO.none _
   | refine LeO.ite ?_ ?_
   | refine LeO.bind ?_ (fun _ => ?_)
theorem impl_NameValid.mono : ∀ a0 k, LeO (impl_NameValid.f k a0) (impl_NameValid.f (k + 1) a0) := by
 intro a0 k
 have ih0 := impl_NameValid.mono_l k
 unfold impl_NameValid.f
 repeat' first
   | (with_reducible exact ih0 _ _ _ _)
   | (with_reducible exact impl_partValid.mono _ _)
   | (with_reducible exact strings_Split.mono _ _ _)
   | (with_reducible exact LeO.refl _)
   | (with_reducible exact LeO.none _)
   | (with_reducible refine LeO.ite ?_ ?_)
   | (with_reducible refine LeO.bind ?_ (fun _ => ?_))
   | exact ih0 _ _ _ _
   | exact impl_partValid.mono _ _
   | exact strings_Split.mono _ _ _
   | exact LeO.none _
   | refine LeO.ite ?_ ?_
   | refine LeO.bind ?_ (fun _ => ?_)
set_option maxHeartbeats 8000000 in
set_option maxRecDepth 100000 in
theorem impl_NameValid.calls (k : Nat) (a0 : ByteArray) (r : Bool) (w : World) (h : impl_NameValid.f k a0 = some r) :
  Calls Tryz.prog 32 #[.string a0] w fun e w' => e = .returned (.bool r) ∧ Below w.heap.size w w' := by
 have HB := Aside0.mk (Below.refl w.heap.size w)
 have H : ((strings_Split.f k a0 (⟨#[46]⟩ : ByteArray)).bind fun t179 => (impl_NameValid.l0 k a0 t179 (t179.length : Int) 0)) = some r := h
 clear h
 replace H := Option.bind_eq_some_iff.mp H
 obtain ⟨t179, A20, H⟩ := H
 try dsimp only at H
 have A2 := Aside0.mk A20
 clear A20
 have H' := Aside0.mk H
 clear H
 go_enter Tryz.func32, Tryz.ntmps32
 go_wp2_with (first | ((with_reducible refine gate_callee (f := 50) rfl ?_); refine goesL_ (some 6) rfl rfl Tryz.func50 (by kernel_rfl) rfl #[.string a0, .string (⟨#[46]⟩ : ByteArray)] rfl (zz6_2_) ?_; (with_reducible refine (strings_Split.calls k a0 (⟨#[46]⟩ : ByteArray) t179 _ A2.out).mono ?_); rintro e w3 ⟨v180, rfl, ho0, hb⟩; refine ⟨_, rfl, ?_⟩; have n0_ := Aside0.mk (Kd.R_lower ho0 (below_size (zz6_3_ HB.out))); have n1_ := Aside0.mk (below_step (zz6_3_ HB.out) hb); clear HB; have HO181 := n0_; have HB := n1_; clear n0_ n1_; (try clear hb); (try clear hb2); (try clear hk); (try clear hi); (try clear ho0); obtain ⟨Ao4, co4, eo4⟩ := Kd.R_slice HO181.out; subst eo4))
 go_loopg [8] k (fun kq v8 w' => ∃ (x8_1 : Int), v8 = .int .i64 x8_1 ∧ Aside0 (impl_NameValid.l0 kq a0 t179 (t179.length : Int) x8_1 = some r) ∧ Aside0 (kq ≤ k) ∧ Aside0 (Kd.R Kd.string 9 w' w.heap.size (fun _ => True) (.slice Ao4 t179.length co4) t179) ∧ Aside0 (Below w.heap.size w w'))
 case atStart => exact ⟨(0), (by first | rfl | (simp; done) | (simp [*]; done)), H', ⟨Nat.le_refl _⟩, ⟨by (with_reducible repeat (first | apply Kd.R_alloc | apply Kd.R_drewN | apply Kd.R_drew)); exact HO181.out⟩, ⟨zz6_3_ HB.out⟩⟩
 case round =>
  clear H'
  try clear p2
  try clear c3
  obtain ⟨x8_1, rfl, HA, HK1, HO_6, HB⟩ := hrel
  cases gk with
  | zero => exact absurd HA.out (by simp [impl_NameValid.l0])
  | succ k1 =>
   have H := HA.out
   clear HA
   simp only [impl_NameValid.l0] at H
   by_cases c5 : x8_1 < (t179.length : Int)
   ·rw [if_pos c5] at H
    have c5b0 : decide (x8_1 < (t179.length : Int)) = true := decide_eq_true c5
    clear c5
    by_cases c6 : 0 ≤ x8_1
    ·rw [if_pos c6] at H
     have c6b0 : decide (0 ≤ x8_1) = true := decide_eq_true c6
     clear c6
     by_cases c7 : x8_1 < (t179.length : Int)
     ·rw [if_pos c7] at H
      have c7b0 : decide (x8_1 < (t179.length : Int)) = true := decide_eq_true c7
      clear c7
      replace H := Option.bind_eq_some_iff.mp H
      obtain ⟨t183, A80, H⟩ := H
      try dsimp only at H
      have A8 := Aside0.mk A80
      clear A80
      by_cases c9 : t183 = true
      ·subst c9
       rw [if_pos rfl] at H
       have H' := Aside0.mk H
       clear H
       have p182 : 0 ≤ (x8_1 : Int) := of_decide_eq_true (zz6_1_)
       have q182 : x8_1 < (t179.length : Int) := of_decide_eq_true (zz6_1_)
       obtain ⟨ad182, e182, hx182_0⟩ := Kd.at_string (Kd.R_reads' HO_6.out).2.2 x8_1 p182 q182
       cases e182
       replace p182 := eq_true p182
       replace q182 := eq_true q182
       go_wp2_with (first | ((with_reducible refine gate_callee (f := 51) rfl ?_); refine goesL_ (some 13) rfl rfl Tryz.func51 (by kernel_rfl) rfl #[.string (rdOf ByteArray.empty t179 x8_1)] rfl (zz6_2_) ?_; (with_reducible refine (impl_partValid.calls k1 (rdOf ByteArray.empty t179 x8_1) true _ A8.out).mono ?_); rintro e w' ⟨rfl, ⟨nd, rfl⟩⟩; refine ⟨_, rfl, ?_⟩))
       go_roundg k1
       case measure => have := HK1.out; omega
       case rel => exact ⟨(wrap64 (x8_1 + 1)), (by first | rfl | (simp; done) | (simp [*]; done)), H', ⟨by have := HK1.out; omega⟩, ⟨by (with_reducible repeat (first | apply Kd.R_alloc | apply Kd.R_drewN | apply Kd.R_drew)); exact HO_6.out⟩, ⟨zz6_3_ HB.out⟩⟩
      ·replace c9 := Bool.eq_false_iff.mpr c9
       subst c9
       rw [if_neg (show ¬ (false = true) by decide)] at H
       obtain rfl := Option.some.inj H
       have p182 : 0 ≤ (x8_1 : Int) := of_decide_eq_true (zz6_1_)
       have q182 : x8_1 < (t179.length : Int) := of_decide_eq_true (zz6_1_)
       obtain ⟨ad182, e182, hx182_0⟩ := Kd.at_string (Kd.R_reads' HO_6.out).2.2 x8_1 p182 q182
       cases e182
       replace p182 := eq_true p182
       replace q182 := eq_true q182
       go_wp2_with (first | ((with_reducible refine gate_callee (f := 51) rfl ?_); refine goesL_ (some 13) rfl rfl Tryz.func51 (by kernel_rfl) rfl #[.string (rdOf ByteArray.empty t179 x8_1)] rfl (zz6_2_) ?_; (with_reducible refine (impl_partValid.calls k1 (rdOf ByteArray.empty t179 x8_1) false _ A8.out).mono ?_); rintro e w' ⟨rfl, ⟨nd, rfl⟩⟩; refine ⟨_, rfl, ?_⟩))
       go_ret
       exact ⟨by first | rfl | (simp [errW_none, errW_some] <;> rfl) | (simp [*, errW_none, errW_some] <;> rfl), zz6_3_ HB.out⟩
     ·rw [if_neg c7] at H
      exact absurd H (by simp)
    ·rw [if_neg c6] at H
     exact absurd H (by simp)
   ·rw [if_neg c5] at H
    have c5b0 : decide (x8_1 < (t179.length : Int)) = false := decide_eq_false c5
    clear c5
    by_cases c10 : a0.toList = ([116, 114, 117, 101] : List UInt8)
    ·rw [if_pos c10] at H
     have c10b0 : (a0.toList == ([116, 114, 117, 101] : List UInt8)) = true := beq_iff_eq.mpr c10
     have c10b1 : (a0.toList != ([116, 114, 117, 101] : List UInt8)) = false := bne_eq_false_iff_eq.mpr c10
     clear c10
     obtain rfl := Option.some.inj H
     go_wp2
     go_ret
     exact ⟨by first | rfl | (simp [errW_none, errW_some] <;> rfl) | (simp [*, errW_none, errW_some] <;> rfl), zz6_3_ HB.out⟩
    ·rw [if_neg c10] at H
     have c10b0 : (a0.toList == ([116, 114, 117, 101] : List UInt8)) = false := beq_eq_false_iff_ne.mpr c10
     have c10b1 : (a0.toList != ([116, 114, 117, 101] : List UInt8)) = true := bne_iff_ne.mpr c10
     obtain rfl := Option.some.inj H
     go_wp2
     go_ret
     exact ⟨by first | rfl | (simp [errW_none, errW_some] <;> rfl) | (simp [*, errW_none, errW_some] <;> rfl), zz6_3_ HB.out⟩

-- by hand: function 52 (strings_Contains): the text Hand

/-! ### impl_plainName: function 33 -/
def impl_plainName.f (k : Nat) (a0 : ByteArray) : Option (Bool) := (impl_NameValid.f k a0).bind fun t184 => (if t184 = true then ((strings_Contains.f a0 (⟨#[46]⟩ : ByteArray)).bind fun t185 => (some (!t185))) else (some false))
theorem impl_plainName.mono : ∀ a0 k, LeO (impl_plainName.f k a0) (impl_plainName.f (k + 1) a0) := by
 intro a0 k
 unfold impl_plainName.f
 repeat' first
   | (with_reducible exact impl_NameValid.mono _ _)
   | (with_reducible exact LeO.refl _)
   | (with_reducible exact LeO.none _)
   | (with_reducible refine LeO.ite ?_ ?_)
   | (with_reducible refine LeO.bind ?_ (fun _ => ?_))
   | exact impl_NameValid.mono _ _
   | exact LeO.none _
   | refine LeO.ite ?_ ?_
   | refine LeO.bind ?_ (fun _ => ?_)
set_option maxHeartbeats 8000000 in
set_option maxRecDepth 100000 in
theorem impl_plainName.calls (k : Nat) (a0 : ByteArray) (r : Bool) (w : World) (h : impl_plainName.f k a0 = some r) :
  Calls Tryz.prog 33 #[.string a0] w fun e w' => e = .returned (.bool r) ∧ Below w.heap.size w w' := by
 have HB := Aside0.mk (Below.refl w.heap.size w)
 have H : ((impl_NameValid.f k a0).bind fun t184 => (if t184 = true then ((strings_Contains.f a0 (⟨#[46]⟩ : ByteArray)).bind fun t185 => (some (!t185))) else (some false))) = some r := h
 clear h
 replace H := Option.bind_eq_some_iff.mp H
 obtain ⟨t184, A20, H⟩ := H
 try dsimp only at H
 have A2 := Aside0.mk A20
 clear A20
 by_cases c3 : t184 = true
 ·subst c3
  rw [if_pos rfl] at H
  replace H := Option.bind_eq_some_iff.mp H
  obtain ⟨t185, A40, H⟩ := H
  try dsimp only at H
  have A4 := Aside0.mk A40
  clear A40
  obtain rfl := Option.some.inj H
  go_enter Tryz.func33, Tryz.ntmps33
  go_wp2_with (first | ((with_reducible refine gate_callee (f := 32) rfl ?_); refine goesL_ (some 4) rfl rfl Tryz.func32 (by kernel_rfl) rfl #[.string a0] rfl (zz6_2_) ?_; (with_reducible refine (impl_NameValid.calls k a0 true _ A2.out).mono ?_); rintro e w5 ⟨rfl, hb⟩; refine ⟨_, rfl, ?_⟩; have n0_ := Aside0.mk (below_step (zz6_3_ HB.out) hb); clear HB; have HB := n0_; clear n0_; (try clear hb); (try clear hb2); (try clear hk); (try clear hi)) | (go_at_call 52; (with_reducible refine (strings_Contains.calls a0 (⟨#[46]⟩ : ByteArray) t185 _ A4.out).mono ?_); rintro e w' ⟨rfl, ⟨nd, rfl⟩⟩))
  go_ret
  exact ⟨by first | rfl | (simp [errW_none, errW_some] <;> rfl) | (simp [*, errW_none, errW_some] <;> rfl), zz6_3_ HB.out⟩
 ·replace c3 := Bool.eq_false_iff.mpr c3
  subst c3
  rw [if_neg (show ¬ (false = true) by decide)] at H
  obtain rfl := Option.some.inj H
  go_enter Tryz.func33, Tryz.ntmps33
  go_wp2_with (first | ((with_reducible refine gate_callee (f := 32) rfl ?_); refine goesL_ (some 4) rfl rfl Tryz.func32 (by kernel_rfl) rfl #[.string a0] rfl (zz6_2_) ?_; (with_reducible refine (impl_NameValid.calls k a0 false _ A2.out).mono ?_); rintro e w6 ⟨rfl, hb⟩; refine ⟨_, rfl, ?_⟩; have n0_ := Aside0.mk (below_step (zz6_3_ HB.out) hb); clear HB; have HB := n0_; clear n0_; (try clear hb); (try clear hb2); (try clear hk); (try clear hi)))
  go_ret
  exact ⟨by first | rfl | (simp [errW_none, errW_some] <;> rfl) | (simp [*, errW_none, errW_some] <;> rfl), zz6_3_ HB.out⟩

/-! ### impl_rankOf: function 34 -/
mutual
def impl_rankOf.j0 : Nat → ByteArray → Bool → Option (Int)
 | 0, _, _ => none
 | k + 1, x3, x8 => if x8 = true then (some 4) else (if x3.toList = ([43] : List UInt8) then (impl_rankOf.j1 k x3 (x3.toList == ([43] : List UInt8))) else (impl_rankOf.j1 k x3 (x3.toList == ([45] : List UInt8))))
def impl_rankOf.j1 : Nat → ByteArray → Bool → Option (Int)
 | 0, _, _ => none
 | k + 1, x3, x15 => if x15 = true then (some 5) else (if x3.toList = ([42] : List UInt8) then (some 6) else (if x3.toList = ([47] : List UInt8) then (some 6) else (if x3.toList = ([37] : List UInt8) then (some 6) else (some 0))))
end
def impl_rankOf.f (k : Nat) (a0 : ByteArray) : Option (Int) := if a0.toList = ([124, 124] : List UInt8) then (some 2) else (if a0.toList = ([38, 38] : List UInt8) then (some 3) else (if a0.toList = ([61, 61] : List UInt8) then (impl_rankOf.j0 k a0 (a0.toList == ([61, 61] : List UInt8))) else (if a0.toList = ([33, 61] : List UInt8) then (impl_rankOf.j0 k a0 (a0.toList == ([33, 61] : List UInt8))) else (if a0.toList = ([60] : List UInt8) then (impl_rankOf.j0 k a0 (a0.toList == ([60] : List UInt8))) else (if a0.toList = ([60, 61] : List UInt8) then (impl_rankOf.j0 k a0 (a0.toList == ([60, 61] : List UInt8))) else (if a0.toList = ([62] : List UInt8) then (impl_rankOf.j0 k a0 (a0.toList == ([62] : List UInt8))) else (impl_rankOf.j0 k a0 (a0.toList == ([62, 61] : List UInt8)))))))))
theorem impl_rankOf.mono_l : ∀ k, (∀ y0 y1, LeO (impl_rankOf.j0 k y0 y1) (impl_rankOf.j0 (k + 1) y0 y1)) ∧ (∀ y0 y1, LeO (impl_rankOf.j1 k y0 y1) (impl_rankOf.j1 (k + 1) y0 y1))
 | 0 => ⟨fun _ _ r h => by simp [impl_rankOf.j0] at h, fun _ _ r h => by simp [impl_rankOf.j1] at h⟩
 | k + 1 => by
  obtain ⟨ih0, ih1⟩ := impl_rankOf.mono_l k
  refine ⟨?_, ?_⟩
  ·intro y0 y1
   unfold impl_rankOf.j0
   repeat' first
   | (with_reducible exact ih0 _ _)
   | (with_reducible exact ih1 _ _)
   | (with_reducible exact LeO.refl _)
   | (with_reducible exact LeO.none _)
   | (with_reducible refine LeO.ite ?_ ?_)
   | (with_reducible refine LeO.bind ?_ (fun _ => ?_))
   | exact ih0 _ _
   | exact ih1 _ _
   | exact LeO.none _
   | refine LeO.ite ?_ ?_
   | refine LeO.bind ?_ (fun _ => ?_)
  ·intro y0 y1
   unfold impl_rankOf.j1
   repeat' first
   | (with_reducible exact ih0 _ _)
   | (with_reducible exact ih1 _ _)
   | (with_reducible exact LeO.refl _)
   | (with_reducible exact LeO.none _)
   | (with_reducible refine LeO.ite ?_ ?_)
   | (with_reducible refine LeO.bind ?_ (fun _ => ?_))
   | exact ih0 _ _
   | exact ih1 _ _
   | exact LeO.none _
   | refine LeO.ite ?_ ?_
   | refine LeO.bind ?_ (fun _ => ?_)
theorem impl_rankOf.mono : ∀ a0 k, LeO (impl_rankOf.f k a0) (impl_rankOf.f (k + 1) a0) := by
 intro a0 k
 obtain ⟨ih0, ih1⟩ := impl_rankOf.mono_l k
 unfold impl_rankOf.f
 repeat' first
   | (with_reducible exact ih0 _ _)
   | (with_reducible exact ih1 _ _)
   | (with_reducible exact LeO.refl _)
   | (with_reducible exact LeO.none _)
   | (with_reducible refine LeO.ite ?_ ?_)
   | (with_reducible refine LeO.bind ?_ (fun _ => ?_))
   | exact ih0 _ _
   | exact ih1 _ _
   | exact LeO.none _
   | refine LeO.ite ?_ ?_
   | refine LeO.bind ?_ (fun _ => ?_)
set_option maxHeartbeats 8000000 in
set_option maxRecDepth 100000 in
theorem impl_rankOf.calls (k : Nat) (a0 : ByteArray) (r : Int) (w : World) (h : impl_rankOf.f k a0 = some r) :
  Calls Tryz.prog 34 #[.string a0] w fun e w' => e = .returned (.int .i64 r) ∧ Drawn0 w w' := by
 have H : (if a0.toList = ([124, 124] : List UInt8) then (some 2) else (if a0.toList = ([38, 38] : List UInt8) then (some 3) else (if a0.toList = ([61, 61] : List UInt8) then (impl_rankOf.j0 k a0 (a0.toList == ([61, 61] : List UInt8))) else (if a0.toList = ([33, 61] : List UInt8) then (impl_rankOf.j0 k a0 (a0.toList == ([33, 61] : List UInt8))) else (if a0.toList = ([60] : List UInt8) then (impl_rankOf.j0 k a0 (a0.toList == ([60] : List UInt8))) else (if a0.toList = ([60, 61] : List UInt8) then (impl_rankOf.j0 k a0 (a0.toList == ([60, 61] : List UInt8))) else (if a0.toList = ([62] : List UInt8) then (impl_rankOf.j0 k a0 (a0.toList == ([62] : List UInt8))) else (impl_rankOf.j0 k a0 (a0.toList == ([62, 61] : List UInt8)))))))))) = some r := h
 clear h
 by_cases c2 : a0.toList = ([124, 124] : List UInt8)
 ·rw [if_pos c2] at H
  have c2b0 : (a0.toList == ([124, 124] : List UInt8)) = true := beq_iff_eq.mpr c2
  have c2b1 : (a0.toList != ([124, 124] : List UInt8)) = false := bne_eq_false_iff_eq.mpr c2
  clear c2
  obtain rfl := Option.some.inj H
  go_enter Tryz.func34, Tryz.ntmps34
  go_wp2
  go_ret
  exact ⟨by first | rfl | (simp; done) | (simp [*]; done), zz6_0_⟩
 ·rw [if_neg c2] at H
  have c2b0 : (a0.toList == ([124, 124] : List UInt8)) = false := beq_eq_false_iff_ne.mpr c2
  have c2b1 : (a0.toList != ([124, 124] : List UInt8)) = true := bne_iff_ne.mpr c2
  by_cases c3 : a0.toList = ([38, 38] : List UInt8)
  ·rw [if_pos c3] at H
   have c3b0 : (a0.toList == ([38, 38] : List UInt8)) = true := beq_iff_eq.mpr c3
   have c3b1 : (a0.toList != ([38, 38] : List UInt8)) = false := bne_eq_false_iff_eq.mpr c3
   clear c3
   obtain rfl := Option.some.inj H
   go_enter Tryz.func34, Tryz.ntmps34
   go_wp2
   go_ret
   exact ⟨by first | rfl | (simp; done) | (simp [*]; done), zz6_0_⟩
  ·rw [if_neg c3] at H
   have c3b0 : (a0.toList == ([38, 38] : List UInt8)) = false := beq_eq_false_iff_ne.mpr c3
   have c3b1 : (a0.toList != ([38, 38] : List UInt8)) = true := bne_iff_ne.mpr c3
   have HC4 := Aside0.mk H
   clear H
   go_enter Tryz.func34, Tryz.ntmps34
   go_upto_if 8 with (fail)
   go_cut [8] (fun v8 wc => ∃ (kq : Nat) (x8_3 : Bool), v8 = .bool x8_3 ∧ Aside0 (impl_rankOf.j0 kq a0 x8_3 = some r) ∧ Aside0 (kq ≤ k) ∧ Drawn0 w wc)
   case first =>
    have H := HC4.out
    clear HC4
    by_cases c5 : a0.toList = ([61, 61] : List UInt8)
    ·rw [if_pos c5] at H
     have c5b0 : (a0.toList == ([61, 61] : List UInt8)) = true := beq_iff_eq.mpr c5
     have c5b1 : (a0.toList != ([61, 61] : List UInt8)) = false := bne_eq_false_iff_eq.mpr c5
     clear c5
     (first | rw [c5b0] | (simp only [i64_w, i32_w]; rw [c5b0]) | skip)
     have H' := Aside0.mk H
     clear H
     go_wp2
     go_meet
     case rel => exact ⟨_, ((a0.toList == ([61, 61] : List UInt8))), (by first | rfl | (simp; done) | (simp [*]; done)), H', ⟨by first | omega | exact Nat.le_refl _⟩, zz6_0_⟩
    ·rw [if_neg c5] at H
     have c5b0 : (a0.toList == ([61, 61] : List UInt8)) = false := beq_eq_false_iff_ne.mpr c5
     have c5b1 : (a0.toList != ([61, 61] : List UInt8)) = true := bne_iff_ne.mpr c5
     (first | rw [c5b0] | (simp only [i64_w, i32_w]; rw [c5b0]) | skip)
     by_cases c6 : a0.toList = ([33, 61] : List UInt8)
     ·rw [if_pos c6] at H
      have c6b0 : (a0.toList == ([33, 61] : List UInt8)) = true := beq_iff_eq.mpr c6
      have c6b1 : (a0.toList != ([33, 61] : List UInt8)) = false := bne_eq_false_iff_eq.mpr c6
      clear c6
      have H' := Aside0.mk H
      clear H
      go_wp2
      go_meet
      case rel => exact ⟨_, ((a0.toList == ([33, 61] : List UInt8))), (by first | rfl | (simp; done) | (simp [*]; done)), H', ⟨by first | omega | exact Nat.le_refl _⟩, zz6_0_⟩
     ·rw [if_neg c6] at H
      have c6b0 : (a0.toList == ([33, 61] : List UInt8)) = false := beq_eq_false_iff_ne.mpr c6
      have c6b1 : (a0.toList != ([33, 61] : List UInt8)) = true := bne_iff_ne.mpr c6
      by_cases c7 : a0.toList = ([60] : List UInt8)
      ·rw [if_pos c7] at H
       have c7b0 : (a0.toList == ([60] : List UInt8)) = true := beq_iff_eq.mpr c7
       have c7b1 : (a0.toList != ([60] : List UInt8)) = false := bne_eq_false_iff_eq.mpr c7
       clear c7
       have H' := Aside0.mk H
       clear H
       go_wp2
       go_meet
       case rel => exact ⟨_, ((a0.toList == ([60] : List UInt8))), (by first | rfl | (simp; done) | (simp [*]; done)), H', ⟨by first | omega | exact Nat.le_refl _⟩, zz6_0_⟩
      ·rw [if_neg c7] at H
       have c7b0 : (a0.toList == ([60] : List UInt8)) = false := beq_eq_false_iff_ne.mpr c7
       have c7b1 : (a0.toList != ([60] : List UInt8)) = true := bne_iff_ne.mpr c7
       by_cases c8 : a0.toList = ([60, 61] : List UInt8)
       ·rw [if_pos c8] at H
        have c8b0 : (a0.toList == ([60, 61] : List UInt8)) = true := beq_iff_eq.mpr c8
        have c8b1 : (a0.toList != ([60, 61] : List UInt8)) = false := bne_eq_false_iff_eq.mpr c8
        clear c8
        have H' := Aside0.mk H
        clear H
        go_wp2
        go_meet
        case rel => exact ⟨_, ((a0.toList == ([60, 61] : List UInt8))), (by first | rfl | (simp; done) | (simp [*]; done)), H', ⟨by first | omega | exact Nat.le_refl _⟩, zz6_0_⟩
       ·rw [if_neg c8] at H
        have c8b0 : (a0.toList == ([60, 61] : List UInt8)) = false := beq_eq_false_iff_ne.mpr c8
        have c8b1 : (a0.toList != ([60, 61] : List UInt8)) = true := bne_iff_ne.mpr c8
        by_cases c9 : a0.toList = ([62] : List UInt8)
        ·rw [if_pos c9] at H
         have c9b0 : (a0.toList == ([62] : List UInt8)) = true := beq_iff_eq.mpr c9
         have c9b1 : (a0.toList != ([62] : List UInt8)) = false := bne_eq_false_iff_eq.mpr c9
         clear c9
         have H' := Aside0.mk H
         clear H
         go_wp2
         go_meet
         case rel => exact ⟨_, ((a0.toList == ([62] : List UInt8))), (by first | rfl | (simp; done) | (simp [*]; done)), H', ⟨by first | omega | exact Nat.le_refl _⟩, zz6_0_⟩
        ·rw [if_neg c9] at H
         have c9b0 : (a0.toList == ([62] : List UInt8)) = false := beq_eq_false_iff_ne.mpr c9
         have c9b1 : (a0.toList != ([62] : List UInt8)) = true := bne_iff_ne.mpr c9
         have H' := Aside0.mk H
         clear H
         go_wp2
         go_meet
         case rel => exact ⟨_, ((a0.toList == ([62, 61] : List UInt8))), (by first | rfl | (simp; done) | (simp [*]; done)), H', ⟨by first | omega | exact Nat.le_refl _⟩, zz6_0_⟩
   case rest =>
    clear HC4
    try clear c2
    try clear c2b0
    try clear c2b1
    try clear p2
    try clear c3
    try clear c3b0
    try clear c3b1
    try clear c5
    try clear c5b0
    try clear c5b1
    try clear c6
    try clear c6b0
    try clear c6b1
    try clear c7
    try clear c7b0
    try clear c7b1
    try clear c8
    try clear c8b0
    try clear c8b1
    try clear c9
    try clear c9b0
    try clear c9b1
    obtain ⟨kq, x8_3, rfl, HA, HJ3, ⟨mc3, rfl⟩⟩ := hcut
    cases kq with
    | zero => exact absurd HA.out (by simp [impl_rankOf.j0])
    | succ kj3 =>
     have H := HA.out
     clear HA
     simp only [impl_rankOf.j0] at H
     by_cases c10 : x8_3 = true
     ·subst c10
      rw [if_pos rfl] at H
      obtain rfl := Option.some.inj H
      go_wp2
      go_ret
      exact ⟨by first | rfl | (simp; done) | (simp [*]; done), zz6_0_⟩
     ·replace c10 := Bool.eq_false_iff.mpr c10
      subst c10
      rw [if_neg (show ¬ (false = true) by decide)] at H
      have HC11 := Aside0.mk H
      clear H
      go_upto_if 15 with (fail)
      go_cut [15] (fun v15 wc => ∃ (kq : Nat) (x15_10 : Bool), v15 = .bool x15_10 ∧ Aside0 (impl_rankOf.j1 kq a0 x15_10 = some r) ∧ Aside0 (kq ≤ kj3) ∧ Drawn0 w wc)
      case first =>
       have H := HC11.out
       clear HC11
       by_cases c12 : a0.toList = ([43] : List UInt8)
       ·rw [if_pos c12] at H
        have c12b0 : (a0.toList == ([43] : List UInt8)) = true := beq_iff_eq.mpr c12
        have c12b1 : (a0.toList != ([43] : List UInt8)) = false := bne_eq_false_iff_eq.mpr c12
        clear c12
        (first | rw [c12b0] | (simp only [i64_w, i32_w]; rw [c12b0]) | skip)
        have H' := Aside0.mk H
        clear H
        go_wp2
        go_meet
        case rel => exact ⟨_, ((a0.toList == ([43] : List UInt8))), (by first | rfl | (simp; done) | (simp [*]; done)), H', ⟨by have := HJ3.out; first | omega | exact Nat.le_refl _⟩, zz6_0_⟩
       ·rw [if_neg c12] at H
        have c12b0 : (a0.toList == ([43] : List UInt8)) = false := beq_eq_false_iff_ne.mpr c12
        have c12b1 : (a0.toList != ([43] : List UInt8)) = true := bne_iff_ne.mpr c12
        (first | rw [c12b0] | (simp only [i64_w, i32_w]; rw [c12b0]) | skip)
        have H' := Aside0.mk H
        clear H
        go_wp2
        go_meet
        case rel => exact ⟨_, ((a0.toList == ([45] : List UInt8))), (by first | rfl | (simp; done) | (simp [*]; done)), H', ⟨by have := HJ3.out; first | omega | exact Nat.le_refl _⟩, zz6_0_⟩
      case rest =>
       clear HC11
       try clear c1
       try clear c2
       try clear c2b0
       try clear c2b1
       try clear p2
       try clear c3
       try clear c3b0
       try clear c3b1
       try clear c5
       try clear c5b0
       try clear c5b1
       try clear c6
       try clear c6b0
       try clear c6b1
       try clear c7
       try clear c7b0
       try clear c7b1
       try clear c8
       try clear c8b0
       try clear c8b1
       try clear c9
       try clear c9b0
       try clear c9b1
       try clear c10
       try clear c12
       try clear c12b0
       try clear c12b1
       try clear p2
       obtain ⟨kq, x15_10, rfl, HA, HJ10, ⟨mc10, rfl⟩⟩ := hcut
       cases kq with
       | zero => exact absurd HA.out (by simp [impl_rankOf.j1])
       | succ kj10 =>
        have H := HA.out
        clear HA
        simp only [impl_rankOf.j1] at H
        by_cases c13 : x15_10 = true
        ·subst c13
         rw [if_pos rfl] at H
         obtain rfl := Option.some.inj H
         go_wp2
         go_ret
         exact ⟨by first | rfl | (simp; done) | (simp [*]; done), zz6_0_⟩
        ·replace c13 := Bool.eq_false_iff.mpr c13
         subst c13
         rw [if_neg (show ¬ (false = true) by decide)] at H
         by_cases c14 : a0.toList = ([42] : List UInt8)
         ·rw [if_pos c14] at H
          have c14b0 : (a0.toList == ([42] : List UInt8)) = true := beq_iff_eq.mpr c14
          have c14b1 : (a0.toList != ([42] : List UInt8)) = false := bne_eq_false_iff_eq.mpr c14
          clear c14
          obtain rfl := Option.some.inj H
          go_wp2
          go_ret
          exact ⟨by first | rfl | (simp; done) | (simp [*]; done), zz6_0_⟩
         ·rw [if_neg c14] at H
          have c14b0 : (a0.toList == ([42] : List UInt8)) = false := beq_eq_false_iff_ne.mpr c14
          have c14b1 : (a0.toList != ([42] : List UInt8)) = true := bne_iff_ne.mpr c14
          by_cases c15 : a0.toList = ([47] : List UInt8)
          ·rw [if_pos c15] at H
           have c15b0 : (a0.toList == ([47] : List UInt8)) = true := beq_iff_eq.mpr c15
           have c15b1 : (a0.toList != ([47] : List UInt8)) = false := bne_eq_false_iff_eq.mpr c15
           clear c15
           obtain rfl := Option.some.inj H
           go_wp2
           go_ret
           exact ⟨by first | rfl | (simp; done) | (simp [*]; done), zz6_0_⟩
          ·rw [if_neg c15] at H
           have c15b0 : (a0.toList == ([47] : List UInt8)) = false := beq_eq_false_iff_ne.mpr c15
           have c15b1 : (a0.toList != ([47] : List UInt8)) = true := bne_iff_ne.mpr c15
           by_cases c16 : a0.toList = ([37] : List UInt8)
           ·rw [if_pos c16] at H
            have c16b0 : (a0.toList == ([37] : List UInt8)) = true := beq_iff_eq.mpr c16
            have c16b1 : (a0.toList != ([37] : List UInt8)) = false := bne_eq_false_iff_eq.mpr c16
            clear c16
            obtain rfl := Option.some.inj H
            go_wp2
            go_ret
            exact ⟨by first | rfl | (simp; done) | (simp [*]; done), zz6_0_⟩
           ·rw [if_neg c16] at H
            have c16b0 : (a0.toList == ([37] : List UInt8)) = false := beq_eq_false_iff_ne.mpr c16
            have c16b1 : (a0.toList != ([37] : List UInt8)) = true := bne_iff_ne.mpr c16
            obtain rfl := Option.some.inj H
            go_wp2
            go_ret
            exact ⟨by first | rfl | (simp; done) | (simp [*]; done), zz6_0_⟩

end Go.Proofs.YtifeiepociopoaaGreatDoor.PEd
