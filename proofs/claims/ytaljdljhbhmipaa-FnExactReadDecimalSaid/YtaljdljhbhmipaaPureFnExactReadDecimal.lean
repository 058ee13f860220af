/- For every text the program's ReadDecimal answers what the reference's ReadDecimal answers. -/
import Derived.Test.YtaljdljhbhmipaaOFnExactReadDecimalx1
import Derived.Test.YtaljdljhbhmipaaMath
namespace Go.Proofs.Ytaljdljhbhmipaa.Pure
open Go.RowKit Go.Proofs.Ytaljdljhbhmipaa.PFnExactReadDecimal Go.Proofs.YtaljdljhbhmipaaW.PrintWords Go.Proofs.YtaljdljhbhmipaaW.PrintLast Go.Proofs.YtaljdljhbhmipaaW.PrintMore
set_option linter.unusedVariables false

theorem impl_within_is (a lo hi : Int) : impl_within.f a lo hi = some (decide (lo ≤ a ∧ a ≤ hi)) := by
  unfold impl_within.f
  by_cases h : a ≥ lo
  · rw [if_pos h]
    by_cases h2 : a ≤ hi
    · simp [h, h2]
    · simp [h2]
  · rw [if_neg h]
    have : ¬ lo ≤ a := h
    simp [this]
theorem spec_l01Figure_is (m : Nat) (h : m < 10) : spec_l01Figure.f (m : Int) = some ((48 + m : Nat) : Int) := by
  unfold spec_l01Figure.f
  rw [if_pos (by omega), Math.wrap_in (by omega) (by omega)]
  congr 1
  omega
theorem spec_Decimal_l0 (b : Bool) (d : Nat) : ∀ (x : Int) (l : List UInt8), x.natAbs < 10 ^ d → l.length + d ≤ 30 → -9223372036854775808 ≤ x → x ≤ 9223372036854775807 →
    Ev (fun k => spec_Decimal.l0 k x b (Math.mkS l)) (if b = true then Math.mkS (45 :: Math.decA x.natAbs l) else Math.mkS (Math.decA x.natAbs l)) := by
  have hz : ∀ (l : List UInt8), l.length ≤ 30 → Ev (fun k => spec_Decimal.l0 k 0 b (Math.mkS l)) (if b = true then Math.mkS (45 :: Math.decA (0 : Int).natAbs l) else Math.mkS (Math.decA (0 : Int).natAbs l)) := by
    intro l hl
    refine Ev.step (f := fun _ => some (if b = true then Math.mkS (45 :: Math.decA (0 : Int).natAbs l) else Math.mkS (Math.decA (0 : Int).natAbs l))) (fun k => ?_) (Math.Ev.const rfl)
    show spec_Decimal.l0 (k + 1) 0 b _ = _
    rw [spec_Decimal.l0, if_pos rfl, show (0 : Int).natAbs = 0 from rfl, Math.decA_zero]
    by_cases hb : b = true
    · rw [if_pos hb, if_pos hb, if_pos (by rw [Math.mkS_size]; omega)]
      have := Math.mkS_append [45] l
      exact congrArg some this
    · rw [if_neg hb, if_neg hb]
  induction d with
  | zero =>
    intro x l hx hl h1 h2
    obtain rfl : x = 0 := by simp at hx; omega
    exact hz l (by omega)
  | succ d ih =>
    intro x l hx hl h1 h2
    by_cases c : x = 0
    · subst c
      exact hz l (by omega)
    · have ha := Math.tmod_abs x
      have hd := Math.tdiv_abs x
      have hp : (10 : Nat) ^ (d + 1) = 10 ^ d * 10 := Nat.pow_succ ..
      have hm : x.natAbs % 10 < 10 := Nat.mod_lt _ (by decide)
      have hf := spec_l01Figure_is (x.natAbs % 10) hm
      have hnext := ih (Int.tdiv x 10) (UInt8.ofNat (48 + x.natAbs % 10) :: l) (by omega) (by rw [List.length_cons]; omega) (by omega) (by omega)
      rw [hd, ← Math.decA_pos (by omega)] at hnext
      have hdig := Math.digits_of (x.natAbs % 10) hm l
      refine Ev.step (fun k => ?_) hnext
      show spec_Decimal.l0 (k + 1) x b _ = _
      rw [spec_Decimal.l0, if_neg c]
      have hsz : (strOfNums [((48 + x.natAbs % 10 : Nat) : Int)]).size + (Math.mkS l).size ≤ 9223372036854775807 := by rw [strOfNums_size, Math.mkS_size, List.length_singleton]; omega
      have hwd : wrap64 (Int.tdiv x 10) = Int.tdiv x 10 := Math.wrap_in (by omega) (by omega)
      by_cases hneg : Int.tmod x 10 < 0
      · have e : wrap64 (-(Int.tmod x 10)) = ((x.natAbs % 10 : Nat) : Int) := by rw [Math.wrap_in (by omega) (by omega)]; omega
        rw [if_pos hneg, e, hf]
        simp only [Option.bind_some]
        rw [if_pos hsz, hdig, hwd]
      · have e : Int.tmod x 10 = ((x.natAbs % 10 : Nat) : Int) := by omega
        rw [if_neg hneg, e, hf]
        simp only [Option.bind_some]
        rw [if_pos hsz, hdig, hwd]
theorem spec_Decimal_ev (x : Int) (h1 : -9223372036854775808 ≤ x) (h2 : x ≤ 9223372036854775807) : Ev (fun k => spec_Decimal.f k x) (Math.decS x) := by
  unfold Math.decS
  by_cases c : x = 0
  · rw [if_pos c]
    exact ⟨0, fun k _ => by show spec_Decimal.f k x = _; unfold spec_Decimal.f; rw [if_pos c]; rfl⟩
  · rw [if_neg c]
    refine Ev.congr (fun k => by unfold spec_Decimal.f; rw [if_neg c]) ?_
    have := spec_Decimal_l0 (decide (x < 0)) 20 x [] (by simp only [Nat.reducePow]; omega) (by decide) h1 h2
    by_cases hn : x < 0
    · rw [decide_eq_true hn] at this ⊢
      rw [if_pos rfl] at this
      rw [if_pos hn]
      exact this
    · rw [decide_eq_false hn] at this ⊢
      rw [if_neg (by decide)] at this
      rw [if_neg hn]
      exact this
theorem impl_Decimal_l0 (n : Int) (d : Nat) : ∀ (x : Int) (l : List UInt8), x.natAbs < 10 ^ d → l.length + d ≤ 30 → -9223372036854775808 ≤ x → x ≤ 9223372036854775807 →
    Ev (fun k => impl_Decimal.l0 k n (Math.mkS l) x) (if n < 0 then Math.mkS (45 :: Math.decA x.natAbs l) else Math.mkS (Math.decA x.natAbs l)) := by
  have hz : ∀ (l : List UInt8), l.length ≤ 30 → Ev (fun k => impl_Decimal.l0 k n (Math.mkS l) 0) (if n < 0 then Math.mkS (45 :: Math.decA (0 : Int).natAbs l) else Math.mkS (Math.decA (0 : Int).natAbs l)) := by
    intro l hl
    refine Ev.step (f := fun _ => some (if n < 0 then Math.mkS (45 :: Math.decA (0 : Int).natAbs l) else Math.mkS (Math.decA (0 : Int).natAbs l))) (fun k => ?_) (Math.Ev.const rfl)
    show impl_Decimal.l0 (k + 1) n _ 0 = _
    rw [impl_Decimal.l0, if_pos rfl, show (0 : Int).natAbs = 0 from rfl, Math.decA_zero]
    by_cases hb : n < 0
    · rw [if_pos hb, if_pos hb, if_pos (by rw [Math.mkS_size]; omega)]
      have := Math.mkS_append [45] l
      exact congrArg some this
    · rw [if_neg hb, if_neg hb]
  induction d with
  | zero =>
    intro x l hx hl h1 h2
    obtain rfl : x = 0 := by simp at hx; omega
    exact hz l (by omega)
  | succ d ih =>
    intro x l hx hl h1 h2
    by_cases c : x = 0
    · subst c
      exact hz l (by omega)
    · have ha := Math.tmod_abs x
      have hd := Math.tdiv_abs x
      have hp : (10 : Nat) ^ (d + 1) = 10 ^ d * 10 := Nat.pow_succ ..
      have hm : x.natAbs % 10 < 10 := Nat.mod_lt _ (by decide)
      have hnext := ih (Int.tdiv x 10) (UInt8.ofNat (48 + x.natAbs % 10) :: l) (by omega) (by rw [List.length_cons]; omega) (by omega) (by omega)
      rw [hd, ← Math.decA_pos (by omega)] at hnext
      have hfig := Math.figure_of (x.natAbs % 10) hm
      have hwd : wrap64 (Int.tdiv x 10) = Int.tdiv x 10 := Math.wrap_in (by omega) (by omega)
      have hmx : mx (Int.tmod x 10) (wrap64 (-(Int.tmod x 10))) = ((x.natAbs % 10 : Nat) : Int) := by
        rw [Math.wrap_in (by omega) (by omega)]
        unfold mx
        split <;> omega
      refine Ev.step (fun k => ?_) hnext
      show impl_Decimal.l0 (k + 1) n _ x = _
      rw [impl_Decimal.l0, if_neg c, hmx, hwd]
      rw [show wrap64 (((x.natAbs % 10 : Nat) : Int) + 1) = ((x.natAbs % 10 + 1 : Nat) : Int) from by rw [Math.wrap_in (by omega) (by omega)]; omega]
      rw [if_pos (by omega), if_pos (by omega), if_pos (by omega), Int.toNat_natCast, Int.toNat_natCast, hfig, Math.mkS_append, if_pos (by rw [Math.mkS_size, Math.mkS_size, List.length_singleton]; omega)]
      rfl
theorem impl_Decimal_ev (x : Int) (h1 : -9223372036854775808 ≤ x) (h2 : x ≤ 9223372036854775807) : Ev (fun k => impl_Decimal.f k x) (Math.decS x) := by
  unfold Math.decS
  by_cases c : x = 0
  · rw [if_pos c]
    exact ⟨0, fun k _ => by show impl_Decimal.f k x = _; unfold impl_Decimal.f; rw [if_pos c]; rfl⟩
  · rw [if_neg c]
    refine Ev.congr (fun k => by unfold impl_Decimal.f; rw [if_neg c]) ?_
    exact impl_Decimal_l0 x 20 x [] (by simp only [Nat.reducePow]; omega) (by decide) h1 h2
theorem spec_ReadDecimal_l0 (s : ByteArray) (hs : s.size ≤ 10) (d : Nat) : ∀ (i n : Nat), i + d = s.size → n < 10 ^ i →
    Ev (fun k => spec_ReadDecimal.l0 k s (n : Int) (i : Int)) (Math.decEnd s (Math.figN (s.data.toList.drop i) n)) := by
  induction d with
  | zero =>
    intro i n hi hn
    have ht := Math.ten_le (i := i) (by omega)
    rw [List.drop_eq_nil_of_le (by rw [Math.size_data]; omega)]
    show Ev _ (Math.decEnd s (some n))
    unfold Math.decEnd
    by_cases c : n > 1000000000
    · simp only [if_pos c]
      refine Ev.step (f := fun _ => some (0, false)) (fun k => ?_) (Math.Ev.const rfl)
      show spec_ReadDecimal.l0 (k + 1) s _ _ = _
      rw [spec_ReadDecimal.l0, if_neg (by omega), if_pos (by omega)]
    · simp only [if_neg c]
      refine Ev.step (f := fun k => (spec_Decimal.f k (n : Int)).bind fun t109 => (if t109.toList = s.toList then (some ((n : Int), true)) else (some (0, false)))) (fun k => ?_) ?_
      · show spec_ReadDecimal.l0 (k + 1) s _ _ = _
        rw [spec_ReadDecimal.l0, if_neg (by omega), if_neg (by omega)]
      · refine Ev.bind (f := fun _ (t109 : ByteArray) => (if t109.toList = s.toList then (some ((n : Int), true)) else (some (0, false)))) (spec_Decimal_ev (n : Int) (by omega) (by omega)) (Math.Ev.const ?_)
        by_cases e : Math.decS (n : Int) = s
        · rw [if_pos (Math.str_eq.2 e), if_pos e]
        · rw [if_neg (fun h => e (Math.str_eq.1 h)), if_neg e]
  | succ d ih =>
    intro i n hi hn
    have ht := Math.ten_le (i := i) (by omega)
    have hp : (10 : Nat) ^ (i + 1) = 10 ^ i * 10 := Nat.pow_succ ..
    have hlt : i < s.size := by omega
    rw [Math.drop_at s i hlt]
    simp only [Math.figN]
    rw [Math.bt_byte s i hlt]
    have hb := bt_range s (i : Int)
    have hnext := ih (i + 1) (10 * n + ((bt s (i : Int)).toNat - 48)) (by omega)
    generalize hbt : bt s (i : Int) = c at *
    by_cases hc : c.toNat < 48 ∨ c.toNat > 57
    · rw [if_pos hc]
      refine Ev.step (f := fun _ => some (0, false)) (fun k => ?_) (Math.Ev.const rfl)
      show spec_ReadDecimal.l0 (k + 1) s _ _ = _
      rw [spec_ReadDecimal.l0, if_pos (by omega), if_pos (by omega), hbt]
      by_cases h48 : c < 48
      · rw [if_pos h48]
      · rw [if_neg h48, if_pos (by omega)]
    · rw [if_neg hc]
      refine Ev.step (fun k => ?_) (hnext (by omega))
      show spec_ReadDecimal.l0 (k + 1) s _ _ = _
      rw [spec_ReadDecimal.l0, if_pos (by omega), if_pos (by omega), hbt, if_neg (by omega), if_neg (by omega)]
      rw [Math.wrap_in (n := 10 * (n : Int)) (by omega) (by omega)]
      rw [Math.wrap_in (n := c) (by omega) (by omega), Math.wrap_in (n := 10 * (n : Int) + c) (by omega) (by omega), show wrap64 (10 * (n : Int) + c - 48) = ((10 * n + (c.toNat - 48) : Nat) : Int) from by rw [Math.wrap_in (by omega) (by omega)]; omega]
      rw [show wrap64 ((i : Int) + 1) = ((i + 1 : Nat) : Int) from by rw [Math.wrap_in (by omega) (by omega)]; omega]
theorem spec_ReadDecimal_ev (s : ByteArray) : Ev (fun k => spec_ReadDecimal.f k s) (Math.readDec s) := by
  unfold Math.readDec
  by_cases c : s.size ≤ 10
  · rw [if_pos c]
    refine Ev.congr (fun k => by unfold spec_ReadDecimal.f; rw [if_neg (by omega)]) ?_
    exact spec_ReadDecimal_l0 s c s.size 0 0 (by omega) (by decide)
  · rw [if_neg c]
    exact ⟨0, fun k _ => by show spec_ReadDecimal.f k s = _; unfold spec_ReadDecimal.f; rw [if_pos (by omega)]⟩
theorem impl_ReadDecimal_l0 (s : ByteArray) (hs : s.size ≤ 10) (d : Nat) : ∀ (i n : Nat), i + d = s.size → n < 10 ^ i →
    Ev (fun k => impl_ReadDecimal.l0 k s (n : Int) (i : Int)) (Math.decEnd s (Math.figN (s.data.toList.drop i) n)) := by
  induction d with
  | zero =>
    intro i n hi hn
    have ht := Math.ten_le (i := i) (by omega)
    rw [List.drop_eq_nil_of_le (by rw [Math.size_data]; omega)]
    show Ev _ (Math.decEnd s (some n))
    unfold Math.decEnd
    by_cases c : n > 1000000000
    · simp only [if_pos c]
      refine Ev.step (f := fun _ => some (0, false)) (fun k => ?_) (Math.Ev.const rfl)
      show impl_ReadDecimal.l0 (k + 1) s _ _ = _
      rw [impl_ReadDecimal.l0, if_neg (by omega), if_pos (by omega)]
    · simp only [if_neg c]
      refine Ev.step (f := fun k => (impl_Decimal.f k (n : Int)).bind fun t109 => (if t109.toList = s.toList then (some ((n : Int), true)) else (some (0, false)))) (fun k => ?_) ?_
      · show impl_ReadDecimal.l0 (k + 1) s _ _ = _
        rw [impl_ReadDecimal.l0, if_neg (by omega), if_neg (by omega)]
      · refine Ev.bind (f := fun _ (t109 : ByteArray) => (if t109.toList = s.toList then (some ((n : Int), true)) else (some (0, false)))) (impl_Decimal_ev (n : Int) (by omega) (by omega)) (Math.Ev.const ?_)
        by_cases e : Math.decS (n : Int) = s
        · rw [if_pos (Math.str_eq.2 e), if_pos e]
        · rw [if_neg (fun h => e (Math.str_eq.1 h)), if_neg e]
  | succ d ih =>
    intro i n hi hn
    have ht := Math.ten_le (i := i) (by omega)
    have hp : (10 : Nat) ^ (i + 1) = 10 ^ i * 10 := Nat.pow_succ ..
    have hlt : i < s.size := by omega
    rw [Math.drop_at s i hlt]
    simp only [Math.figN]
    rw [Math.bt_byte s i hlt]
    have hb := bt_range s (i : Int)
    have hnext := ih (i + 1) (10 * n + ((bt s (i : Int)).toNat - 48)) (by omega)
    generalize hbt : bt s (i : Int) = c at *
    by_cases hc : c.toNat < 48 ∨ c.toNat > 57
    · rw [if_pos hc]
      refine Ev.step (f := fun _ => some (0, false)) (fun k => ?_) (Math.Ev.const rfl)
      show impl_ReadDecimal.l0 (k + 1) s _ _ = _
      rw [impl_ReadDecimal.l0, if_pos (by omega), if_pos (by omega), hbt]
      by_cases h48 : c < 48
      · rw [if_pos h48]
      · rw [if_neg h48, if_pos (by omega)]
    · rw [if_neg hc]
      refine Ev.step (fun k => ?_) (hnext (by omega))
      show impl_ReadDecimal.l0 (k + 1) s _ _ = _
      rw [impl_ReadDecimal.l0, if_pos (by omega), if_pos (by omega), hbt, if_neg (by omega), if_neg (by omega)]
      rw [Math.wrap_in (n := 10 * (n : Int)) (by omega) (by omega)]
      rw [show wrap64 (10 * (n : Int) + (c - 48) % 256) = ((10 * n + (c.toNat - 48) : Nat) : Int) from by rw [Math.wrap_in (by omega) (by omega)]; omega]
      rw [show wrap64 ((i : Int) + 1) = ((i + 1 : Nat) : Int) from by rw [Math.wrap_in (by omega) (by omega)]; omega]
theorem impl_ReadDecimal_ev (s : ByteArray) : Ev (fun k => impl_ReadDecimal.f k s) (Math.readDec s) := by
  unfold Math.readDec
  by_cases c : 1 ≤ s.size ∧ s.size ≤ 10
  · rw [if_pos c.2]
    refine Ev.congr (fun k => by unfold impl_ReadDecimal.f; rw [impl_within_is, Option.bind_some, if_pos (decide_eq_true (by omega))]) ?_
    exact impl_ReadDecimal_l0 s c.2 s.size 0 0 (by omega) (by decide)
  · have e : (if s.size ≤ 10 then Math.decEnd s (Math.figN s.data.toList 0) else (0, false)) = (0, false) := by
      by_cases h : s.size ≤ 10
      · have hn : s.data.toList = [] := List.eq_nil_of_length_eq_zero (by rw [Math.size_data]; omega)
        rw [if_pos h, hn]
        show Math.decEnd s (some 0) = _
        unfold Math.decEnd
        simp only
        rw [if_neg (by decide), if_neg (fun e => ?_)]
        rw [← e] at c h
        exact c (by decide)
      · rw [if_neg h]
    rw [e]
    exact ⟨0, fun k _ => by show impl_ReadDecimal.f k s = _; unfold impl_ReadDecimal.f; rw [impl_within_is, Option.bind_some, if_neg (by rw [decide_eq_false (by omega)]; decide)]⟩
theorem FnExactReadDecimal : laws_FnExactReadDecimal.Pure := by
  intro s hs
  refine Ev.rounds ?_
  by_cases hc : (s.size : Int) > 1048576
  · exact ⟨0, fun k _ => by show laws_FnExactReadDecimal.f k s = _; unfold laws_FnExactReadDecimal.f; rw [if_pos hc]⟩
  · refine Ev.congr (fun k => by unfold laws_FnExactReadDecimal.f; rw [if_neg hc]) ?_
    exact Math.Ev.both (r := true) (f := fun _ (x y : Int × Bool) => (if y.1 = x.1 then (if (y.2 != x.2) = true then (some false) else (some true)) else (some false))) (spec_ReadDecimal_ev s) (impl_ReadDecimal_ev s) (fun _ => by simp)
end Go.Proofs.Ytaljdljhbhmipaa.Pure
