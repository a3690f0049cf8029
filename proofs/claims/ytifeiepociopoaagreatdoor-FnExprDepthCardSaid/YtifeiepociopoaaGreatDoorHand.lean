/- Functions of Go's library by hand: what each returns at the arguments that this program gives it, and the contract of the call, by the shelf's contract. Where a function here answers none nothing is said. -/
import Derived.Test.YtifeiepociopoaaGreatDoorShelf
import Derived.Test.YtifeiepociopoaaGreatDoorV
import Derived.Laws.CopyRow
import Derived.Laws.CopyOwn
import Derived.Lib.AppendIntMem
import Derived.Lib.LaidU8
namespace Go.Proofs.YtifeiepociopoaaGreatDoor.Hand
open Go.RowKit Go.Proofs.YtifeiepociopoaaGreatDoorW.PrintWords
set_option linter.unusedVariables false
set_option linter.unusedSimpArgs false
theorem one_byte {a : ByteArray} (h : a.size = 1) : ∃ c, a = (⟨#[c]⟩ : ByteArray) := by
  obtain ⟨⟨l⟩⟩ := a
  match l, h with
  | [c], _ => exact ⟨c, rfl⟩
theorem ne_nil_isEmpty (l : List UInt8) : (l != ([] : List UInt8)) = !l.isEmpty := by cases l <;> rfl
theorem one_get (c : UInt8) : (⟨#[c]⟩ : ByteArray).data.toList.getD 0 0 = c := rfl
/-! strings.Contains at a substr of one byte -/
def strings_Contains.f (a0 : ByteArray) (a1 : ByteArray) : Option (Bool) := if a1.size = 1 then some (decide (0 ≤ Lib.indexByte a0.data.toList (a1.data.toList.getD 0 0))) else none
theorem strings_Contains.calls (a0 : ByteArray) (a1 : ByteArray) (r : Bool) (w : World) (h : strings_Contains.f a0 a1 = some r) :
    Calls Tryz.prog 52 #[.string a0, .string a1] w fun e w' => e = .returned (.bool r) ∧ Drawn0 w w' := by
  unfold strings_Contains.f at h
  by_cases h1 : a1.size = 1
  · rw [if_pos h1] at h
    obtain rfl := Option.some.inj h
    obtain ⟨c, rfl⟩ := one_byte h1
    exact (Tryz.strings_Contains_one a0 c w).mono fun e w' ⟨he, hw⟩ => ⟨he, by rw [hw]; exact Drawn0.refl _⟩
  · rw [if_neg h1] at h; cases h
/-! strings.Count at a substr of one byte -/
def strings_Count.f (a0 : ByteArray) (a1 : ByteArray) : Option (Int) := if a1.size = 1 then some ((Lib.countByte a0.data.toList (a1.data.toList.getD 0 0) : Int)) else none
theorem strings_Count.calls (a0 : ByteArray) (a1 : ByteArray) (r : Int) (w : World) (h : strings_Count.f a0 a1 = some r) :
    Calls Tryz.prog 83 #[.string a0, .string a1] w fun e w' => e = .returned (.int .i64 r) ∧ Drawn0 w w' := by
  unfold strings_Count.f at h
  by_cases h1 : a1.size = 1
  · rw [if_pos h1] at h
    obtain rfl := Option.some.inj h
    obtain ⟨c, rfl⟩ := one_byte h1
    exact (Tryz.strings_Count_one a0 c w).mono fun e w' ⟨he, hw⟩ => ⟨he, by rw [hw]; exact Drawn0.refl _⟩
  · rw [if_neg h1] at h; cases h
/-! strings.Index at a substr of one byte -/
def strings_Index.f (a0 : ByteArray) (a1 : ByteArray) : Option (Int) := if a1.size = 1 then some (Lib.indexByte a0.data.toList (a1.data.toList.getD 0 0)) else none
theorem strings_Index.calls (a0 : ByteArray) (a1 : ByteArray) (r : Int) (w : World) (h : strings_Index.f a0 a1 = some r) :
    Calls Tryz.prog 69 #[.string a0, .string a1] w fun e w' => e = .returned (.int .i64 r) ∧ Drawn0 w w' := by
  unfold strings_Index.f at h
  by_cases h1 : a1.size = 1
  · rw [if_pos h1] at h
    obtain rfl := Option.some.inj h
    obtain ⟨c, rfl⟩ := one_byte h1
    exact (Tryz.strings_Index_one a0 c w).mono fun e w' ⟨he, hw⟩ => ⟨he, by rw [hw]; exact Drawn0.refl _⟩
  · rw [if_neg h1] at h; cases h
/-! internal/stringslite.Index at a substr of one byte -/
def stringslite_Index.f (a0 : ByteArray) (a1 : ByteArray) : Option (Int) := if a1.size = 1 then some (Lib.indexByte a0.data.toList (a1.data.toList.getD 0 0)) else none
theorem stringslite_Index.calls (a0 : ByteArray) (a1 : ByteArray) (r : Int) (w : World) (h : stringslite_Index.f a0 a1 = some r) :
    Calls Tryz.prog 75 #[.string a0, .string a1] w fun e w' => e = .returned (.int .i64 r) ∧ Drawn0 w w' := by
  unfold stringslite_Index.f at h
  by_cases h1 : a1.size = 1
  · rw [if_pos h1] at h
    obtain rfl := Option.some.inj h
    obtain ⟨c, rfl⟩ := one_byte h1
    exact (Tryz.stringslite_Index_one a0 c w).mono fun e w' ⟨he, hw⟩ => ⟨he, by rw [hw]; exact Drawn0.refl _⟩
  · rw [if_neg h1] at h; cases h
/-! strconv.Itoa, where the table of powers of ten reads as the program lays it, and stays so -/
abbrev Tab10 (w : World) : Prop := Lib.TabBelow Tryz.prog w.heap.size w "internal/strconv.uint64pow10" .u64 Lib.pow10Tab
theorem tab_at {w w1 : World} (h : Tab10 w) (hb : Below w.heap.size w w1) : Tab10 w1 := fun w' hb' => h w' (below_step hb hb')
def strconv_Itoa.f (a0 : Int) : Option (ByteArray) := if -9223372036854775808 ≤ a0 ∧ a0 ≤ 9223372036854775807 then some ⟨(Lib.itoa a0).toArray⟩ else none
theorem strconv_Itoa.calls (a0 : Int) (r : ByteArray) (w : World) (htab : Tab10 w) (h : strconv_Itoa.f a0 = some r) :
    Calls Tryz.prog 65 #[.int .i64 a0] w fun e w' => e = .returned (.string r) ∧ Below w.heap.size w w' := by
  unfold strconv_Itoa.f at h
  by_cases h1 : -9223372036854775808 ≤ a0 ∧ a0 ≤ 9223372036854775807
  · rw [if_pos h1] at h
    obtain rfl := Option.some.inj h
    refine (Tryz.strconv_Itoa a0 h1.1 h1.2 w htab.here).mono fun e w' ⟨he, k, os, hw⟩ => ⟨he, ?_⟩
    rw [hw]
    exact Lib.below_grow _ w (Nat.le_refl _) k os
  · rw [if_neg h1] at h; cases h
theorem tab_of_reads {w : World} (h : Lib.VarReads Tryz.prog w "internal/strconv.uint64pow10" (Lib.tabData .u64 Lib.pow10Tab)) : Tab10 w := by
  obtain ⟨g, t, cs, fuel, p, hg, hty, hvar, hd⟩ := h
  have hg' : Tryz.prog.globalNamed "internal/strconv.uint64pow10" = some 3 := by kernel_rfl
  obtain rfl := Option.some.inj (hg'.symm.trans hg)
  have ht' : (Tryz.prog.globals[3]?).map (·.type) = some 112 := by kernel_rfl
  obtain rfl := Option.some.inj (ht'.symm.trans hty)
  refine Lib.tabBelow_of_tabIs ?_
  unfold Lib.TabIs
  rw [hvar, ← Lib.cells_of_tab Tryz.underlying112 Tryz.underlying88 (by kernel_rfl) (by kernel_rfl) hd]
/-! strconv.Atoi, at at most eighteen bytes that are a numeral -/
def strconv_Atoi.f (a0 : ByteArray) : Option (Int × Option Int) := if a0.size ≤ 18 then (Lib.atoi a0.data.toList).map fun n => (n, none) else none
theorem strconv_Atoi.calls (a0 : ByteArray) (r1 : Int) (r2 : Option Int) (w : World) (h : strconv_Atoi.f a0 = some (r1, r2)) :
    Calls Tryz.prog 48 #[.string a0] w fun e w' => e = .returned (.tuple #[.int .i64 r1, .nilIface]) ∧ Below w.heap.size w w' := by
  unfold strconv_Atoi.f at h
  by_cases h1 : a0.size ≤ 18
  · rw [if_pos h1] at h
    obtain ⟨n, hn, he⟩ := Option.map_eq_some_iff.1 h
    simp only [Prod.mk.injEq] at he
    obtain ⟨rfl, rfl⟩ := he
    refine (Tryz.strconv_Atoi a0 n h1 hn w).mono fun e w' ⟨he, t, hw⟩ => ⟨he, ?_⟩
    rw [hw]
    exact ⟨rfl, rfl, rfl, by rw [Lib.bytesWorld_size]; omega, fun b hb => Lib.bytesWorld_at_old w _ t b hb⟩
  · rw [if_neg h1] at h; cases h
/-! copy of a whole row into a row of the same length that the call made; the elements' cells hold no address -/
section
variable {P : Program} {ops : Array Oper} {o : Oper} {rest : List Oper} {a : Act} {Q : Exit → Act → World → Prop}
theorem run_copy_all (w : World) (dT sT ty elem : TypeId) (sz g dCap n : Nat) (ad : Addr) (sCap : Nat) (cur : Array Value) (t : TypeId) (cs : List Value)
    (hu : P.underlying dT = some (.slice elem)) (hs : (P.info? elem).map (·.size) = some sz)
    (hg : w.heap[g]? = some (.cells cur t (0, 0))) (hn : cs.length = n * sz)
    (hsrc : ∀ j v, cs[j]? = some v → w.cell? (ad.add j) = some v) (hfit : cs.length ≤ cur.size) (h1 : ∀ v ∈ cs, v.oneCell' = true) :
    (Builtin.copy_ #[dT, sT] ty #[.slice (some ⟨g, 0, none⟩) n dCap, .slice (some ad) n sCap]).run P w =
      .ok (goInt n) (w.setRow g (cs ++ cur.toList.drop cs.length).toArray) := by
  have hl := run_loadCells_list (P := P) w ad cs hsrc
  have hst := run_storeCells_at P g 0 t cs 0 cur w hg (by simpa using hfit) h1
  cases hq : P.info? elem with
  | none => simp [hq] at hs
  | some i =>
    have hi : i.size = sz := by simpa [hq] using hs
    have hmin : Nat.min n n = n := Nat.min_self n
    simp [Builtin.copy_, run_underlying hu, Builtin.lenOf, Builtin.firstCells, sizeOf, typeInfo, hq, hi, ← hn, hl, hst]
theorem cells_of_row {α : Type} {d : Kd α} {w : World} {ad : Addr} (xs : List α)
    (h : ∀ j p, xs[j]? = some p → ∃ c, c.length = d.sz ∧ d.K w p c ∧ ∀ i u, c[i]? = some u → w.cell? (ad.add (j * d.sz + i)) = some u) :
    ∀ m, m ≤ xs.length → ∃ cs, Reps (d.K w) d.sz (xs.take m) cs ∧ (∀ i u, cs[i]? = some u → w.cell? (ad.add i) = some u) ∧ ∀ v ∈ cs, v.oneCell' = true
  | 0, _ => ⟨[], by rw [List.take_zero]; exact Reps.none _ _, fun i u hi => by simp at hi, fun v hv => by simp at hv⟩
  | m + 1, hm => by
    obtain ⟨cs, hr, hc, h1⟩ := cells_of_row xs h m (by omega)
    obtain ⟨c, hl, hk, hcell⟩ := h m _ (List.getElem?_eq_getElem (by omega))
    refine ⟨cs ++ c, ?_, ?_, ?_⟩
    · rw [List.take_succ_eq_append_getElem (by omega)]
      exact hr.snoc hk hl
    · intro i u hi
      have hlen : cs.length = m * d.sz := by rw [hr.1, List.length_take, Nat.min_eq_left (by omega)]
      rcases Nat.lt_or_ge i cs.length with hlt | hge
      · rw [List.getElem?_append_left hlt] at hi
        exact hc i u hi
      · rw [List.getElem?_append_right hge] at hi
        have := hcell _ u hi
        rw [hlen] at hge this
        rwa [show m * d.sz + (i - m * d.sz) = i by omega] at this
    · intro v hv
      rcases List.mem_append.1 hv with hv | hv
      · exact h1 v hv
      · exact d.K_one hk v hv
theorem wp_copy_all {α : Type} (d : Kd α) {w0 w : World} (base e : Nat) (hgd : o.guard = none) (x y : Operand) (t : TypeId)
    (ho : o.op = .call { callee := .builtin .copy, args := #[x, y], argTypes := #[t, t] }) (hu : P.underlying t = some (.slice e)) (hsz : (P.info? e).map (·.size) = some d.sz)
    (v : Value) (zs xs : List α) {ok : Nat → Prop} (hR : d.R e w base ok v zs) (hzx : zs.length = xs.length) (hpos : 0 < xs.length) (A : Option Addr) (c : Nat)
    (hx : a.eval x = v) (hy : a.eval y = .slice A xs.length c) (hC : d.C w A xs.length xs) (hKM : ∀ (w w' : World) base ok p cs, d.K w p cs → d.M w' base ok p cs)
    (HB : Below base w0 w)
    (h : ∀ w', d.R e w' base ok v xs → Below base w0 w' → wpList P ops Q rest (a.put o.dst (goInt xs.length)) w') : wpList P ops Q (o :: rest) a w := by
  obtain ⟨hok, inner, ⟨hl, hv⟩, hreps⟩ := hR
  rcases hv with ⟨_, h0⟩ | ⟨g, cap, cur, rfl, hg, hh, hcap, hmax, hcur, htake⟩
  · omega
  obtain ⟨_, _, hrow⟩ := hC
  obtain ⟨ad, rfl, hcells⟩ := hrow hpos
  obtain ⟨cs, hr, hsrc, h1⟩ := cells_of_row (d := d) xs hcells xs.length (Nat.le_refl _)
  rw [List.take_length] at hr
  have hfit : cs.length ≤ cur.size := by
    rw [hr.1, hcur]; exact Nat.mul_le_mul_right _ (by omega)
  rw [hzx] at hx
  have hrun := run_copy_all (P := P) w t t o.type e d.sz g cap xs.length ad c cur e cs hu hsz hh hr.1 hsrc hfit h1
  refine wpList_plain hgd fun K hK => ?_
  unfold Oper.wp
  simp [execOp, ho, resolve, invoke, builtin, hx, hy, hrun, Result.andThen]
  refine hK _ _ (h _ ?_ (below_setRow HB hg _))
  refine ⟨hok, cs, ⟨hr.1, .inr ⟨g, cap, _, by rw [hzx], hg, setRow_heap w g cur _ e (0, 0) hh, by omega, hmax, ?_, ?_⟩⟩, hr.imp_ fun p c hk => hKM _ _ _ _ _ _ hk⟩
  · simp; omega
  · rw [← hr.1]; simp
end

end Go.Proofs.YtifeiepociopoaaGreatDoor.Hand
