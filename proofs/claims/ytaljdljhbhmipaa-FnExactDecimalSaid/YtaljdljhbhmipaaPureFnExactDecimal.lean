/- For every whole number the program's Decimal answers what the reference's Decimal answers. -/
import Derived.Test.YtaljdljhbhmipaaOFnExactDecimalx1
import Derived.Test.YtaljdljhbhmipaaMath
namespace Go.Proofs.Ytaljdljhbhmipaa.Pure
open Go.RowKit Go.Proofs.Ytaljdljhbhmipaa.PFnExactDecimal Go.Proofs.YtaljdljhbhmipaaW.PrintWords Go.Proofs.YtaljdljhbhmipaaW.PrintLast Go.Proofs.YtaljdljhbhmipaaW.PrintMore
set_option linter.unusedVariables false

theorem spec_l01Figure_is (m : Nat) (h : m < 10) : spec_l01Figure.f (m : Int) = some ((48 + m : Nat) : Int) := by
  unfold spec_l01Figure.f
  rw [if_pos (by omega), Math.wrap_in (by omega) (by omega)]
  congr 1
  omega
theorem spec_Decimal_l0 (b : Bool) (d : Nat) : ∀ (x : Int) (l : List UInt8), x.natAbs < 10 ^ d → l.length + d ≤ 30 → -9223372036854775808 ≤ x → x ≤ 9223372036854775807 →
    Ev (fun k => spec_Decimal.l0 k x b (Math.mkS l)) (if b = true then Math.mkS (45 :: Math.decA x.natAbs l) else Math.mkS (Math.decA x.natAbs l)) := by
  have hz : ∀ (l : List UInt8), l.length ≤ 30 → Ev (fun k => spec_Decimal.l0 k 0 b (Math.mkS l)) (if b = true then Math.mkS (45 :: Math.decA (0 : Int).natAbs l) else Math.mkS (Math.decA (0 : Int).natAbs l)) := by
    intro l hl
    refine Ev.step (f := fun _ => some (if b = true then Math.mkS (45 :: Math.decA (0 : Int).natAbs l) else Math.mkS (Math.decA (0 : Int).natAbs l))) (fun k => ?_) (Math.Ev.const rfl)
    show spec_Decimal.l0 (k + 1) 0 b _ = _
    rw [spec_Decimal.l0, if_pos rfl, show (0 : Int).natAbs = 0 from rfl, Math.decA_zero]
    by_cases hb : b = true
    · rw [if_pos hb, if_pos hb, if_pos (by rw [Math.mkS_size]; omega)]
      have := Math.mkS_append [45] l
      exact congrArg some this
    · rw [if_neg hb, if_neg hb]
  induction d with
  | zero =>
    intro x l hx hl h1 h2
    obtain rfl : x = 0 := by simp at hx; omega
    exact hz l (by omega)
  | succ d ih =>
    intro x l hx hl h1 h2
    by_cases c : x = 0
    · subst c
      exact hz l (by omega)
    · have ha := Math.tmod_abs x
      have hd := Math.tdiv_abs x
      have hp : (10 : Nat) ^ (d + 1) = 10 ^ d * 10 := Nat.pow_succ ..
      have hm : x.natAbs % 10 < 10 := Nat.mod_lt _ (by decide)
      have hf := spec_l01Figure_is (x.natAbs % 10) hm
      have hnext := ih (Int.tdiv x 10) (UInt8.ofNat (48 + x.natAbs % 10) :: l) (by omega) (by rw [List.length_cons]; omega) (by omega) (by omega)
      rw [hd, ← Math.decA_pos (by omega)] at hnext
      have hdig := Math.digits_of (x.natAbs % 10) hm l
      refine Ev.step (fun k => ?_) hnext
      show spec_Decimal.l0 (k + 1) x b _ = _
      rw [spec_Decimal.l0, if_neg c]
      have hsz : (strOfNums [((48 + x.natAbs % 10 : Nat) : Int)]).size + (Math.mkS l).size ≤ 9223372036854775807 := by rw [strOfNums_size, Math.mkS_size, List.length_singleton]; omega
      have hwd : wrap64 (Int.tdiv x 10) = Int.tdiv x 10 := Math.wrap_in (by omega) (by omega)
      by_cases hneg : Int.tmod x 10 < 0
      · have e : wrap64 (-(Int.tmod x 10)) = ((x.natAbs % 10 : Nat) : Int) := by rw [Math.wrap_in (by omega) (by omega)]; omega
        rw [if_pos hneg, e, hf]
        simp only [Option.bind_some]
        rw [if_pos hsz, hdig, hwd]
      · have e : Int.tmod x 10 = ((x.natAbs % 10 : Nat) : Int) := by omega
        rw [if_neg hneg, e, hf]
        simp only [Option.bind_some]
        rw [if_pos hsz, hdig, hwd]
theorem spec_Decimal_ev (x : Int) (h1 : -9223372036854775808 ≤ x) (h2 : x ≤ 9223372036854775807) : Ev (fun k => spec_Decimal.f k x) (Math.decS x) := by
  unfold Math.decS
  by_cases c : x = 0
  · rw [if_pos c]
    exact ⟨0, fun k _ => by show spec_Decimal.f k x = _; unfold spec_Decimal.f; rw [if_pos c]; rfl⟩
  · rw [if_neg c]
    refine Ev.congr (fun k => by unfold spec_Decimal.f; rw [if_neg c]) ?_
    have := spec_Decimal_l0 (decide (x < 0)) 20 x [] (by simp only [Nat.reducePow]; omega) (by decide) h1 h2
    by_cases hn : x < 0
    · rw [decide_eq_true hn] at this ⊢
      rw [if_pos rfl] at this
      rw [if_pos hn]
      exact this
    · rw [decide_eq_false hn] at this ⊢
      rw [if_neg (by decide)] at this
      rw [if_neg hn]
      exact this
theorem impl_Decimal_l0 (n : Int) (d : Nat) : ∀ (x : Int) (l : List UInt8), x.natAbs < 10 ^ d → l.length + d ≤ 30 → -9223372036854775808 ≤ x → x ≤ 9223372036854775807 →
    Ev (fun k => impl_Decimal.l0 k n (Math.mkS l) x) (if n < 0 then Math.mkS (45 :: Math.decA x.natAbs l) else Math.mkS (Math.decA x.natAbs l)) := by
  have hz : ∀ (l : List UInt8), l.length ≤ 30 → Ev (fun k => impl_Decimal.l0 k n (Math.mkS l) 0) (if n < 0 then Math.mkS (45 :: Math.decA (0 : Int).natAbs l) else Math.mkS (Math.decA (0 : Int).natAbs l)) := by
    intro l hl
    refine Ev.step (f := fun _ => some (if n < 0 then Math.mkS (45 :: Math.decA (0 : Int).natAbs l) else Math.mkS (Math.decA (0 : Int).natAbs l))) (fun k => ?_) (Math.Ev.const rfl)
    show impl_Decimal.l0 (k + 1) n _ 0 = _
    rw [impl_Decimal.l0, if_pos rfl, show (0 : Int).natAbs = 0 from rfl, Math.decA_zero]
    by_cases hb : n < 0
    · rw [if_pos hb, if_pos hb, if_pos (by rw [Math.mkS_size]; omega)]
      have := Math.mkS_append [45] l
      exact congrArg some this
    · rw [if_neg hb, if_neg hb]
  induction d with
  | zero =>
    intro x l hx hl h1 h2
    obtain rfl : x = 0 := by simp at hx; omega
    exact hz l (by omega)
  | succ d ih =>
    intro x l hx hl h1 h2
    by_cases c : x = 0
    · subst c
      exact hz l (by omega)
    · have ha := Math.tmod_abs x
      have hd := Math.tdiv_abs x
      have hp : (10 : Nat) ^ (d + 1) = 10 ^ d * 10 := Nat.pow_succ ..
      have hm : x.natAbs % 10 < 10 := Nat.mod_lt _ (by decide)
      have hnext := ih (Int.tdiv x 10) (UInt8.ofNat (48 + x.natAbs % 10) :: l) (by omega) (by rw [List.length_cons]; omega) (by omega) (by omega)
      rw [hd, ← Math.decA_pos (by omega)] at hnext
      have hfig := Math.figure_of (x.natAbs % 10) hm
      have hwd : wrap64 (Int.tdiv x 10) = Int.tdiv x 10 := Math.wrap_in (by omega) (by omega)
      have hmx : mx (Int.tmod x 10) (wrap64 (-(Int.tmod x 10))) = ((x.natAbs % 10 : Nat) : Int) := by
        rw [Math.wrap_in (by omega) (by omega)]
        unfold mx
        split <;> omega
      refine Ev.step (fun k => ?_) hnext
      show impl_Decimal.l0 (k + 1) n _ x = _
      rw [impl_Decimal.l0, if_neg c, hmx, hwd]
      rw [show wrap64 (((x.natAbs % 10 : Nat) : Int) + 1) = ((x.natAbs % 10 + 1 : Nat) : Int) from by rw [Math.wrap_in (by omega) (by omega)]; omega]
      rw [if_pos (by omega), if_pos (by omega), if_pos (by omega), Int.toNat_natCast, Int.toNat_natCast, hfig, Math.mkS_append, if_pos (by rw [Math.mkS_size, Math.mkS_size, List.length_singleton]; omega)]
      rfl
theorem impl_Decimal_ev (x : Int) (h1 : -9223372036854775808 ≤ x) (h2 : x ≤ 9223372036854775807) : Ev (fun k => impl_Decimal.f k x) (Math.decS x) := by
  unfold Math.decS
  by_cases c : x = 0
  · rw [if_pos c]
    exact ⟨0, fun k _ => by show impl_Decimal.f k x = _; unfold impl_Decimal.f; rw [if_pos c]; rfl⟩
  · rw [if_neg c]
    refine Ev.congr (fun k => by unfold impl_Decimal.f; rw [if_neg c]) ?_
    exact impl_Decimal_l0 x 20 x [] (by simp only [Nat.reducePow]; omega) (by decide) h1 h2
theorem FnExactDecimal : laws_FnExactDecimal.Pure := by
  intro x hx
  refine Ev.rounds ?_
  refine Ev.congr (fun k => by unfold laws_FnExactDecimal.f; rfl) ?_
  exact Math.Ev.both (r := true) (f := fun _ (x y : ByteArray) => (if y.toList = x.toList then (some true) else (some false))) (spec_Decimal_ev x (Math.wf_i64 hx).1 (Math.wf_i64 hx).2) (impl_Decimal_ev x (Math.wf_i64 hx).1 (Math.wf_i64 hx).2) (fun _ => by simp)
end Go.Proofs.Ytaljdljhbhmipaa.Pure
