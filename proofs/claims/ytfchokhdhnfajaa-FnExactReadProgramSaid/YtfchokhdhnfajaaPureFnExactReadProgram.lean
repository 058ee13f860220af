/- For every text the program's ReadProgram answers what the reference's ReadProgram answers, and its list shares no memory with another answer. -/
import Derived.Test.YtfchokhdhnfajaaPFnExactReadProgramx7
import Derived.Test.YtfchokhdhnfajaaMath
namespace Go.Proofs.Ytfchokhdhnfajaa.Pure
open Go.RowKit Go.Proofs.Ytfchokhdhnfajaa.PFnExactReadProgram Go.Proofs.YtfchokhdhnfajaaW.PrintWords Go.Proofs.YtfchokhdhnfajaaW.PrintLast Go.Proofs.YtfchokhdhnfajaaW.PrintMore
set_option linter.unusedVariables false

theorem spec_l01In_is (a lo hi : Int) : spec_l01In.f a lo hi = some (decide (lo ≤ a ∧ a ≤ hi)) := by
  unfold spec_l01In.f
  by_cases h : a ≥ lo
  · rw [if_pos h]
    by_cases h2 : a ≤ hi
    · simp [h, h2]
    · simp [h2]
  · rw [if_neg h]
    have : ¬ lo ≤ a := h
    simp [this]
theorem impl_within_is (a lo hi : Int) : impl_within.f a lo hi = some (decide (lo ≤ a ∧ a ≤ hi)) := by
  unfold impl_within.f
  by_cases h : a ≥ lo
  · rw [if_pos h]
    by_cases h2 : a ≤ hi
    · simp [h, h2]
    · simp [h2]
  · rw [if_neg h]
    have : ¬ lo ≤ a := h
    simp [this]
theorem spec_HalfOk_is (a : Int) : spec_HalfOk.f a = some (decide (0 ≤ a ∧ a ≤ 4294967295)) := by unfold spec_HalfOk.f; rw [spec_l01In_is]; rfl
theorem impl_HalfOk_is (a : Int) : impl_HalfOk.f a = some (decide (0 ≤ a ∧ a ≤ 4294967295)) := by unfold impl_HalfOk.f; rw [impl_within_is]; rfl
def InsP (o c y n : Int) : Prop := (1 ≤ o ∧ o ≤ 8) ∧ (0 ≤ c ∧ c ≤ 4294967295) ∧ (0 ≤ y ∧ y ≤ 15) ∧ (0 ≤ n ∧ n ≤ 15) ∧ ((3 ≤ o ∧ o ≤ 6) ∨ (y = 0 ∧ n = 0)) ∧ (o = 1 → c < 8) ∧ (o = 7 → c < 400)
instance (o c y n : Int) : Decidable (InsP o c y n) := by unfold InsP; infer_instance
theorem spec_InsOk_ev (o c y n : Int) : Ev (fun k => spec_InsOk.f k o c y n) (decide (InsP o c y n)) := by
  refine ⟨2, fun k hk => ?_⟩
  obtain ⟨m, rfl⟩ : ∃ m, k = m + 2 := ⟨k - 2, by omega⟩
  show spec_InsOk.f (m + 2) o c y n = _
  unfold spec_InsOk.f
  rw [spec_l01In_is, spec_HalfOk_is, spec_l01In_is, spec_l01In_is]
  simp only [Option.bind_some]
  have hf : ¬ InsP o c y n → spec_InsOk.j0 (m + 2) true o c y n = some (decide (InsP o c y n)) := by
    intro h
    rw [spec_InsOk.j0, if_pos rfl, decide_eq_false h]
  by_cases h1 : 1 ≤ o ∧ o ≤ 8
  · by_cases h2 : 0 ≤ c ∧ c ≤ 4294967295
    · by_cases h3 : 0 ≤ y ∧ y ≤ 15
      · by_cases h4 : 0 ≤ n ∧ n ≤ 15
        · rw [if_pos (decide_eq_true h1), if_pos (decide_eq_true h2), if_pos (decide_eq_true h3), decide_eq_true h4]
          show spec_InsOk.j0 (m + 2) false o c y n = _
          rw [spec_InsOk.j0, if_neg (by decide)]
          have ha : spec_l06Ask.f o = some (decide (3 ≤ o ∧ o ≤ 6)) := by unfold spec_l06Ask.f; rw [spec_l01In_is]; rfl
          rw [ha]
          simp only [Option.bind_some]
          by_cases h5 : 3 ≤ o ∧ o ≤ 6
          · rw [if_pos (decide_eq_true h5), spec_InsOk.j1, if_neg (by decide), if_neg (by omega), if_neg (by omega)]
            have : InsP o c y n := ⟨h1, h2, h3, h4, .inl h5, fun e => by omega, fun e => by omega⟩
            rw [decide_eq_true this]
          · rw [if_neg (by rw [decide_eq_false h5]; decide)]
            by_cases h6 : y = 0
            · rw [if_pos h6]
              by_cases h7 : n = 0
              · rw [show (n != 0) = false from by simp [h7], spec_InsOk.j1, if_neg (by decide)]
                by_cases h8 : o = 1
                · rw [if_pos h8]
                  congr 1
                  refine decide_eq_decide.2 ⟨fun h => ⟨h1, h2, h3, h4, .inr ⟨h6, h7⟩, fun _ => h, fun e => by omega⟩, fun h => h.2.2.2.2.2.1 h8⟩
                · rw [if_neg h8]
                  by_cases h9 : o = 7
                  · rw [if_pos h9]
                    congr 1
                    refine decide_eq_decide.2 ⟨fun h => ⟨h1, h2, h3, h4, .inr ⟨h6, h7⟩, fun e => by omega, fun _ => h⟩, fun h => h.2.2.2.2.2.2 h9⟩
                  · rw [if_neg h9]
                    have : InsP o c y n := ⟨h1, h2, h3, h4, .inr ⟨h6, h7⟩, fun e => absurd e h8, fun e => absurd e h9⟩
                    rw [decide_eq_true this]
              · rw [show (n != 0) = true from by simp [h7], spec_InsOk.j1, if_pos rfl]
                have : ¬ InsP o c y n := fun h => by have := h.2.2.2.2.1; omega
                rw [decide_eq_false this]
            · rw [if_neg h6, spec_InsOk.j1, if_pos rfl]
              have : ¬ InsP o c y n := fun h => by have := h.2.2.2.2.1; omega
              rw [decide_eq_false this]
        · rw [if_pos (decide_eq_true h1), if_pos (decide_eq_true h2), if_pos (decide_eq_true h3), decide_eq_false h4]
          exact hf (fun h => h4 h.2.2.2.1)
      · rw [if_pos (decide_eq_true h1), if_pos (decide_eq_true h2), if_neg (by rw [decide_eq_false h3]; decide)]
        exact hf (fun h => h3 h.2.2.1)
    · rw [if_pos (decide_eq_true h1), if_neg (by rw [decide_eq_false h2]; decide)]
      exact hf (fun h => h2 h.2.1)
  · rw [if_neg (by rw [decide_eq_false h1]; decide)]
    exact hf (fun h => h1 h.1)
theorem impl_asks_is (o c y n : Int) : impl_Ins_asks.f o c y n = some (decide (3 ≤ o ∧ o ≤ 6)) := by unfold impl_Ins_asks.f; rw [impl_within_is]; rfl
theorem impl_InsOk_ev (o c y n : Int) : Ev (fun k => impl_InsOk.f k o c y n) (decide (InsP o c y n)) := by
  refine ⟨2, fun k hk => ?_⟩
  obtain ⟨m, rfl⟩ : ∃ m, k = m + 2 := ⟨k - 2, by omega⟩
  show impl_InsOk.f (m + 2) o c y n = _
  unfold impl_InsOk.f
  rw [impl_asks_is]
  simp only [Option.bind_some]
  by_cases h5 : 3 ≤ o ∧ o ≤ 6
  · rw [if_pos (decide_eq_true h5), impl_HalfOk_is, impl_within_is, impl_within_is]
    simp only [Option.bind_some]
    by_cases h2 : 0 ≤ c ∧ c ≤ 4294967295
    · rw [if_pos (decide_eq_true h2)]
      by_cases h3 : 0 ≤ y ∧ y ≤ 15
      · rw [if_pos (decide_eq_true h3)]
        congr 1
        exact decide_eq_decide.2 ⟨fun h => ⟨by omega, h2, h3, h, .inl h5, fun e => by omega, fun e => by omega⟩, fun h => h.2.2.2.1⟩
      · rw [if_neg (by rw [decide_eq_false h3]; decide), decide_eq_false (fun h : InsP o c y n => h3 h.2.2.1)]
    · rw [if_neg (by rw [decide_eq_false h2]; decide), decide_eq_false (fun h : InsP o c y n => h2 h.2.1)]
  · rw [if_neg (by rw [decide_eq_false h5]; decide)]
    have hf : ¬ InsP o c y n → impl_InsOk.j0 (m + 2) true o c y n = some (decide (InsP o c y n)) := by
      intro h
      rw [impl_InsOk.j0, if_pos rfl, decide_eq_false h]
    by_cases h6 : y = 0
    · rw [if_pos h6]
      by_cases h7 : n = 0
      · rw [show (n != 0) = false from by simp [h7], impl_InsOk.j0, if_neg (by decide), impl_within_is, impl_within_is, impl_HalfOk_is]
        simp only [Option.bind_some]
        by_cases h8 : o = 1
        · rw [if_pos h8]
          congr 1
          exact decide_eq_decide.2 ⟨fun h => ⟨by omega, by omega, by omega, by omega, .inr ⟨h6, h7⟩, fun _ => by omega, fun e => by omega⟩, fun h => by have := h.2.2.2.2.2.1 h8; have := h.2.1; omega⟩
        · rw [if_neg h8]
          by_cases h9 : o = 7
          · rw [if_pos h9]
            congr 1
            exact decide_eq_decide.2 ⟨fun h => ⟨by omega, by omega, by omega, by omega, .inr ⟨h6, h7⟩, fun e => by omega, fun _ => by omega⟩, fun h => by have := h.2.2.2.2.2.2 h9; have := h.2.1; omega⟩
          · rw [if_neg h9]
            by_cases h10 : o = 2
            · rw [if_pos h10]
              congr 1
              exact decide_eq_decide.2 ⟨fun h => ⟨by omega, h, by omega, by omega, .inr ⟨h6, h7⟩, fun e => by omega, fun e => by omega⟩, fun h => h.2.1⟩
            · rw [if_neg h10]
              by_cases h11 : o = 8
              · rw [if_pos h11]
                congr 1
                exact decide_eq_decide.2 ⟨fun h => ⟨by omega, h, by omega, by omega, .inr ⟨h6, h7⟩, fun e => by omega, fun e => by omega⟩, fun h => h.2.1⟩
              · rw [if_neg h11, decide_eq_false (fun h : InsP o c y n => by have := h.1; omega)]
      · rw [show (n != 0) = true from by simp [h7]]
        exact hf (fun h => by have := h.2.2.2.2.1; omega)
    · rw [if_neg h6]
      exact hf (fun h => by have := h.2.2.2.2.1; omega)
theorem rd_at (l : List S25) (i : Nat) (h : i < l.length) : rd_T25 l (i : Int) = l[i] := by
  unfold rd_T25
  rw [Int.toNat_natCast, List.getD_eq_getElem?_getD, List.getElem?_eq_getElem h]
  rfl
def insS (o c y n : Int) : ByteArray := strOfNums [o % 256, y % 256, n % 256] ++ Math.fourS c
theorem insS_size (o c y n : Int) : (insS o c y n).size = 7 := by unfold insS; rw [Math.size_append, Math.fourS_size, strOfNums_size]; rfl
def insText (o c y n : Int) : ByteArray × Bool := if InsP o c y n then (insS o c y n, true) else (⟨#[]⟩, false)
theorem spec_InsText_ev (o c y n : Int) : Ev (fun k => spec_InsText.f k o c y n) (insText o c y n) := by
  refine Ev.congr (fun k => by unfold spec_InsText.f; rfl) ?_
  refine Ev.bind (f := fun _ t116 => (if t116 = true then ((some (([o % 256, y % 256, n % 256] : List Int) : List Int)).bind fun y117 => ((spec_l06Four.f c).bind fun t120 => (if (strOfNums y117).size + t120.size ≤ 9223372036854775807 then (some ((strOfNums y117) ++ t120, true)) else (none)))) else (some ((⟨#[]⟩ : ByteArray), false)))) (spec_InsOk_ev o c y n) (Math.Ev.const ?_)
  unfold insText
  by_cases h : InsP o c y n
  · rw [if_pos (decide_eq_true h), if_pos h]
    show (if (strOfNums [o % 256, y % 256, n % 256]).size + (Math.fourS c).size ≤ 9223372036854775807 then (some ((strOfNums [o % 256, y % 256, n % 256]) ++ (Math.fourS c), true)) else (none)) = _
    rw [if_pos (by rw [Math.fourS_size, strOfNums_size, show ([o % 256, y % 256, n % 256] : List Int).length = 3 from rfl]; omega)]
    rfl
  · rw [if_neg (by rw [decide_eq_false h]; decide), if_neg h]
def progA : List S25 → ByteArray → Option ByteArray
  | [], acc => some acc
  | x :: l, acc => if InsP x.f0 x.f1 x.f2 x.f3 then progA l (acc ++ insS x.f0 x.f1 x.f2 x.f3) else none
def progEnd : Option ByteArray → ByteArray × Bool
  | some s => (s, true)
  | none => (⟨#[]⟩, false)
def progText (l : List S25) : ByteArray × Bool := if 1 ≤ l.length ∧ l.length ≤ 400 then progEnd (progA l (⟨#[]⟩ : ByteArray)) else (⟨#[]⟩, false)
theorem spec_ProgramText_l0 (l : List S25) (hl : l.length ≤ 2000000) (d : Nat) : ∀ (i : Nat) (acc : ByteArray), i + d = l.length → acc.size ≤ 7 * i →
    Ev (fun k => spec_ProgramText.l0 k l acc (i : Int)) (if 1 ≤ l.length ∧ l.length ≤ 400 then progEnd (progA (l.drop i) acc) else (⟨#[]⟩, false)) := by
  induction d with
  | zero =>
    intro i acc hi ha
    rw [List.drop_eq_nil_of_le (by omega)]
    refine Ev.step (f := fun _ => some (if 1 ≤ l.length ∧ l.length ≤ 400 then progEnd (progA [] acc) else (⟨#[]⟩, false))) (fun k => ?_) (Math.Ev.const rfl)
    show spec_ProgramText.l0 (k + 1) l acc _ = _
    rw [spec_ProgramText.l0, if_neg (by omega), spec_l01In_is, Option.bind_some]
    by_cases c : 1 ≤ l.length ∧ l.length ≤ 400
    · rw [if_pos (decide_eq_true (by omega)), if_pos c]
      rfl
    · rw [if_neg (by rw [decide_eq_false (by omega)]; decide), if_neg c]
  | succ d ih =>
    intro i acc hi ha
    have hlt : i < l.length := by omega
    rw [List.drop_eq_getElem_cons hlt]
    simp only [progA]
    refine Ev.step (f := fun k => (spec_InsText.f k l[i].f0 l[i].f1 l[i].f2 l[i].f3).bind fun bt119 => (if bt119.2 = true then (if acc.size + bt119.1.size ≤ 9223372036854775807 then (spec_ProgramText.l0 k l (acc ++ bt119.1) ((i + 1 : Nat) : Int)) else (none)) else (some ((⟨#[]⟩ : ByteArray), false)))) (fun k => ?_) ?_
    · show spec_ProgramText.l0 (k + 1) l acc _ = _
      rw [spec_ProgramText.l0, if_pos (by omega), if_pos (by omega), rd_at l i hlt, show wrap64 ((i : Int) + 1) = ((i + 1 : Nat) : Int) from by rw [Math.wrap_in (by omega) (by omega)]; omega]
    · refine Ev.bind (f := fun k (bt119 : ByteArray × Bool) => (if bt119.2 = true then (if acc.size + bt119.1.size ≤ 9223372036854775807 then (spec_ProgramText.l0 k l (acc ++ bt119.1) ((i + 1 : Nat) : Int)) else (none)) else (some ((⟨#[]⟩ : ByteArray), false)))) (spec_InsText_ev _ _ _ _) ?_
      unfold insText
      by_cases c : InsP l[i].f0 l[i].f1 l[i].f2 l[i].f3
      · rw [if_pos c, if_pos c]
        have hsz := insS_size l[i].f0 l[i].f1 l[i].f2 l[i].f3
        have hsz2 : acc.size + (insS l[i].f0 l[i].f1 l[i].f2 l[i].f3).size ≤ 9223372036854775807 := by omega
        refine Ev.congr (fun k => (if_pos rfl).trans (if_pos hsz2)) ?_
        exact ih (i + 1) _ (by omega) (by rw [Math.size_append, hsz]; omega)
      · rw [if_neg c, if_neg c]
        have e : (if 1 ≤ l.length ∧ l.length ≤ 400 then progEnd none else ((⟨#[]⟩ : ByteArray), false)) = ((⟨#[]⟩ : ByteArray), false) := by split <;> rfl
        rw [e]
        exact Math.Ev.const rfl
theorem spec_ProgramText_ev (l : List S25) (hl : l.length ≤ 2000000) : Ev (fun k => spec_ProgramText.f k l) (progText l) :=
  spec_ProgramText_l0 l hl l.length 0 _ (by omega) (by decide)
theorem impl_fourAt_is (s : ByteArray) (hs : s.size ≤ 140737488351232) (p : Nat) (h : p + 4 ≤ s.size) : impl_fourAt.f s (p : Int) = some ((Math.fourN s p : Nat) : Int) := by
  unfold impl_fourAt.f
  rw [show wrap64 ((p : Int) + 1) = ((p + 1 : Nat) : Int) from by rw [Math.wrap_in (by omega) (by omega)]; omega, show wrap64 ((p : Int) + 2) = ((p + 2 : Nat) : Int) from by rw [Math.wrap_in (by omega) (by omega)]; omega, show wrap64 ((p : Int) + 3) = ((p + 3 : Nat) : Int) from by rw [Math.wrap_in (by omega) (by omega)]; omega]
  rw [if_pos (by omega), if_pos (by omega), if_pos (by omega), if_pos (by omega), if_pos (by omega), if_pos (by omega), if_pos (by omega), if_pos (by omega)]
  have := Math.four_join _ _ _ _ (Math.bt_lt s (p : Int)) (Math.bt_lt s ((p + 1 : Nat) : Int)) (Math.bt_lt s ((p + 2 : Nat) : Int)) (Math.bt_lt s ((p + 3 : Nat) : Int))
  rw [← Math.bt_cast, ← Math.bt_cast, ← Math.bt_cast, ← Math.bt_cast] at this
  rw [this]
  rfl
def readIns (s : ByteArray) : Int × Int × Int × Int × Bool :=
  if s.size = 7 then if InsP (bt s 0) ((Math.fourN s 3 : Nat) : Int) (bt s 1) (bt s 2) then (bt s 0, ((Math.fourN s 3 : Nat) : Int), bt s 1, bt s 2, true) else (0, 0, 0, 0, false) else (0, 0, 0, 0, false)
theorem spec_ReadIns_ev (s : ByteArray) : Ev (fun k => spec_ReadIns.f k s) (readIns s) := by
  unfold readIns
  by_cases h : s.size = 7
  · rw [if_pos h]
    have hj : Go.bits .or .i64 (Go.bits .or .i64 (Go.bits .or .i64 (wrap64 ((wrap64 (bt s 3)) * 16777216)) (wrap64 ((wrap64 (bt s 4)) * 65536))) (wrap64 ((wrap64 (bt s 5)) * 256))) (wrap64 (bt s 6)) = ((Math.fourN s 3 : Nat) : Int) := by
      have := Math.four_join _ _ _ _ (Math.bt_lt s 3) (Math.bt_lt s 4) (Math.bt_lt s 5) (Math.bt_lt s 6)
      rw [← Math.bt_cast, ← Math.bt_cast, ← Math.bt_cast, ← Math.bt_cast] at this
      exact this
    have hw : ∀ i, wrap64 (bt s i) = bt s i := fun i => by have := bt_range s i; exact Math.wrap_in (by omega) (by omega)
    refine Ev.congr (f := fun k => (spec_InsOk.f k (bt s 0) ((Math.fourN s 3 : Nat) : Int) (bt s 1) (bt s 2)).bind fun t111 => (if t111 = true then (some (bt s 0, ((Math.fourN s 3 : Nat) : Int), bt s 1, bt s 2, true)) else (some (0, 0, 0, 0, false)))) (fun k => ?_) ?_
    · unfold spec_ReadIns.f
      rw [if_pos (by omega), if_pos (by omega), if_pos (by omega), if_pos (by omega), if_pos (by omega), if_pos (by omega), if_pos (by omega), if_pos (by omega), hj, hw, hw, hw]
    · refine Ev.bind (f := fun _ t111 => (if t111 = true then (some (bt s 0, ((Math.fourN s 3 : Nat) : Int), bt s 1, bt s 2, true)) else (some (0, 0, 0, 0, false)))) (spec_InsOk_ev _ _ _ _) (Math.Ev.const ?_)
      by_cases c : InsP (bt s 0) ((Math.fourN s 3 : Nat) : Int) (bt s 1) (bt s 2)
      · rw [if_pos (decide_eq_true c), if_pos c]
      · rw [if_neg (by rw [decide_eq_false c]; decide), if_neg c]
  · rw [if_neg h]
    exact ⟨0, fun k _ => by show spec_ReadIns.f k s = _; unfold spec_ReadIns.f; rw [if_neg (by omega)]⟩
theorem impl_ReadIns_ev (s : ByteArray) : Ev (fun k => impl_ReadIns.f k s) (readIns s) := by
  unfold readIns
  by_cases h : s.size = 7
  · rw [if_pos h]
    have hw : ∀ i, wrap64 (bt s i) = bt s i := fun i => by have := bt_range s i; exact Math.wrap_in (by omega) (by omega)
    have hj : impl_fourAt.f s 3 = some ((Math.fourN s 3 : Nat) : Int) := impl_fourAt_is s (by omega) 3 (by omega)
    refine Ev.congr (f := fun k => (impl_InsOk.f k (bt s 0) ((Math.fourN s 3 : Nat) : Int) (bt s 1) (bt s 2)).bind fun t111 => (if t111 = true then (some (bt s 0, ((Math.fourN s 3 : Nat) : Int), bt s 1, bt s 2, true)) else (some (0, 0, 0, 0, false)))) (fun k => ?_) ?_
    · unfold impl_ReadIns.f
      rw [if_pos (by omega), if_pos (by omega), if_pos (by omega), if_pos (by omega), hj, hw, hw, hw]
      rfl
    · refine Ev.bind (f := fun _ t111 => (if t111 = true then (some (bt s 0, ((Math.fourN s 3 : Nat) : Int), bt s 1, bt s 2, true)) else (some (0, 0, 0, 0, false)))) (impl_InsOk_ev _ _ _ _) (Math.Ev.const ?_)
      by_cases c : InsP (bt s 0) ((Math.fourN s 3 : Nat) : Int) (bt s 1) (bt s 2)
      · rw [if_pos (decide_eq_true c), if_pos c]
      · rw [if_neg (by rw [decide_eq_false c]; decide), if_neg c]
  · rw [if_neg h]
    exact ⟨0, fun k _ => by show impl_ReadIns.f k s = _; unfold impl_ReadIns.f; rw [if_neg (by omega)]⟩
theorem eqInsS_l0 (l : List S25) (hl : l.length ≤ 2000000) (d : Nat) : ∀ (i : Nat), i + d = l.length → Ev (fun k => laws_eqInsS.l0 k l l (i : Int)) true := by
  induction d with
  | zero =>
    intro i hi
    refine Ev.step (f := fun _ => some true) (fun k => ?_) (Math.Ev.const rfl)
    show laws_eqInsS.l0 (k + 1) l l _ = _
    rw [laws_eqInsS.l0, if_neg (by omega)]
  | succ d ih =>
    intro i hi
    refine Ev.step (fun k => ?_) (ih (i + 1) (by omega))
    show laws_eqInsS.l0 (k + 1) l l _ = _
    rw [laws_eqInsS.l0, if_pos (by omega), if_pos (by omega), if_pos (by omega)]
    unfold laws_eqIns.f
    rw [if_pos rfl, if_pos rfl, if_pos rfl, if_pos rfl, Option.bind_some, if_pos rfl]
    rw [show wrap64 ((i : Int) + 1) = ((i + 1 : Nat) : Int) from by rw [Math.wrap_in (by omega) (by omega)]; omega]
theorem eqInsS_ev (l : List S25) (hl : l.length ≤ 2000000) : Ev (fun k => laws_eqInsS.f k l l) true := by
  refine Ev.congr (fun k => by unfold laws_eqInsS.f; rw [if_pos rfl]) ?_
  exact eqInsS_l0 l hl l.length 0 (by omega)
theorem markInsS_l0 (d : Nat) : ∀ (l : List S25) (i m : Nat), i + d = l.length → m + 4 * d ≤ 100000000 → l.length ≤ 2000000 →
    ∃ l' : List S25, l'.length = l.length ∧ (∀ j, j < i → l'[j]? = l[j]?) ∧
      Ev (fun k => laws_markInsS.l0 k l (m : Int) (i : Int)) (((m + 4 * d : Nat) : Int), l') ∧ Ev (fun k => laws_heldInsS.l0 k l' (m : Int) (i : Int)) ((m + 4 * d : Nat) : Int) := by
  induction d with
  | zero =>
    intro l i m hi h2 hl
    refine ⟨l, rfl, fun _ _ => rfl, Ev.step (f := fun _ => some (((m : Nat) : Int), l)) (fun k => ?_) (Math.Ev.const rfl), Ev.step (f := fun _ => some ((m : Nat) : Int)) (fun k => ?_) (Math.Ev.const rfl)⟩
    · show laws_markInsS.l0 (k + 1) l _ _ = _
      rw [laws_markInsS.l0, if_neg (by omega)]
    · show laws_heldInsS.l0 (k + 1) l _ _ = _
      rw [laws_heldInsS.l0, if_neg (by omega)]
  | succ d ih =>
    intro l i m hi h2 hl
    have hlt : i < l.length := by omega
    have e1 : PLift (wrap64 ((m : Int) + 1) = ((m + 1 : Nat) : Int)) := ⟨by rw [Math.wrap_in (by omega) (by omega)]; omega⟩
    have e2 : PLift (wrap64 (((m + 1 : Nat) : Int) + 1) = ((m + 2 : Nat) : Int)) := ⟨by rw [Math.wrap_in (by omega) (by omega)]; omega⟩
    have e3 : PLift (wrap64 (((m + 2 : Nat) : Int) + 1) = ((m + 3 : Nat) : Int)) := ⟨by rw [Math.wrap_in (by omega) (by omega)]; omega⟩
    have e4 : PLift (wrap64 (((m + 3 : Nat) : Int) + 1) = ((m + 4 : Nat) : Int)) := ⟨by rw [Math.wrap_in (by omega) (by omega)]; omega⟩
    have e5 : PLift (wrap64 ((i : Int) + 1) = ((i + 1 : Nat) : Int)) := ⟨by rw [Math.wrap_in (by omega) (by omega)]; omega⟩
    have hset : ∀ (l : List S25) (x : S25) (h : i < l.length), rd_T25 (l.set i x) (i : Int) = x := by
      intro l x h
      rw [rd_at _ i (by rw [List.length_set]; exact h), List.getElem_set_self]
    obtain ⟨l', hlen, hkeep, hm, hh⟩ := ih (l.set i ⟨(m : Int), ((m + 1 : Nat) : Int), ((m + 2 : Nat) : Int), ((m + 3 : Nat) : Int)⟩) (i + 1) (m + 4) (by rw [List.length_set]; omega) (by omega) (by rw [List.length_set]; exact hl)
    rw [List.length_set] at hlen
    refine ⟨l', hlen, fun j hj => ?_, ?_, ?_⟩
    · rw [hkeep j (by omega), List.getElem?_set_ne (by omega)]
    · rw [show m + 4 * (d + 1) = m + 4 + 4 * d from by omega]
      refine Ev.step (fun k => ?_) hm
      show laws_markInsS.l0 (k + 1) l _ _ = _
      rw [laws_markInsS.l0, if_pos (by omega), if_pos (by omega), e1.down, e2.down, e3.down, e4.down, e5.down, Int.toNat_natCast]
      have hset1 : ∀ x : S25, rd_T25 (l.set i x) (i : Int) = x := fun x => hset l x hlt
      simp only [Option.bind_some, List.set_set, hset1]
    · rw [show m + 4 * (d + 1) = m + 4 + 4 * d from by omega]
      have hx : rd_T25 l' (i : Int) = ⟨(m : Int), ((m + 1 : Nat) : Int), ((m + 2 : Nat) : Int), ((m + 3 : Nat) : Int)⟩ := by
        have := hkeep i (by omega)
        rw [List.getElem?_set_self hlt, List.getElem?_eq_getElem (by omega)] at this
        rw [rd_at l' i (by omega)]
        exact Option.some.inj this
      refine Ev.step (fun k => ?_) hh
      show laws_heldInsS.l0 (k + 1) l' _ _ = _
      rw [laws_heldInsS.l0, if_pos (by omega), if_pos (by omega), hx]
      simp only [e1.down, e2.down, e3.down, e4.down, e5.down, if_true]
theorem markInsS_ev (l : List S25) (hl : l.length ≤ 2000000) : ∃ l' : List S25, ∃ q : Int, 0 ≤ q ∧ Ev (fun k => laws_markInsS.f k l 1) (q, l') ∧ Ev (fun k => laws_heldInsS.f k l' 1) q := by
  obtain ⟨l', _, _, hm, hh⟩ := markInsS_l0 l.length l 0 1 (by omega) (by omega) (by omega)
  exact ⟨l', _, Int.natCast_nonneg _, hm, hh⟩
theorem ext_data (s : ByteArray) (a b : Nat) : (s.extract a b).data.toList = (s.data.toList.drop a).take (b - a) := by simp
theorem ins_back (s : ByteArray) (h : s.size = 7) : insS (bt s 0) ((Math.fourN s 3 : Nat) : Int) (bt s 1) (bt s 2) = s := by
  have hlt : Math.fourN s 3 < 4294967296 := by
    have h0 := Math.bt_lt s ((3 : Nat) : Int)
    have h1 := Math.bt_lt s ((3 + 1 : Nat) : Int)
    have h2 := Math.bt_lt s ((3 + 2 : Nat) : Int)
    have h3 := Math.bt_lt s ((3 + 3 : Nat) : Int)
    unfold Math.fourN
    omega
  have e := (Math.four_eq s 3 (by omega) (Math.fourN s 3) hlt).2 rfl
  unfold insS
  rw [← e]
  apply Math.str_eq.1
  rw [Lib.toList_data, Lib.toList_data, ByteArray.data_append, Array.toList_append, ext_data, strOfNums_data]
  have b0 := bt_range s 0
  have b1 := bt_range s 1
  have b2 := bt_range s 2
  rw [show bt s 0 % 256 = bt s 0 from by omega, show bt s 1 % 256 = bt s 1 from by omega, show bt s 2 % 256 = bt s 2 from by omega]
  have d0 := Math.drop_at s 0 (by omega)
  have d1 := Math.drop_at s 1 (by omega)
  have d2 := Math.drop_at s 2 (by omega)
  rw [Math.byte_at s 0 (by omega)] at d0
  rw [Math.byte_at s 1 (by omega)] at d1
  rw [Math.byte_at s 2 (by omega)] at d2
  rw [List.take_of_length_le (by rw [List.length_drop, Math.size_data]; omega)]
  rw [List.drop_zero] at d0
  rw [d0, d1, d2]
  rfl
def word (r : Int × Int × Int × Int × Bool) : S25 := ⟨r.1, r.2.1, r.2.2.1, r.2.2.2.1⟩
def prgA (s : ByteArray) : Nat → Nat → List S25 → Option (List S25)
  | 0, _, acc => some acc
  | d + 1, p, acc => if (readIns (s.extract p (p + 7))).2.2.2.2 = true then prgA s d (p + 7) (acc ++ [word (readIns (s.extract p (p + 7)))]) else none
theorem prgA_len (s : ByteArray) : ∀ (d p : Nat) (acc l : List S25), prgA s d p acc = some l → l.length = acc.length + d
  | 0, p, acc, l, h => by
    simp only [prgA, Option.some.injEq] at h
    rw [← h]
    rfl
  | d + 1, p, acc, l, h => by
    simp only [prgA] at h
    split at h
    · have := prgA_len s d _ _ l h
      rw [List.length_append, List.length_singleton] at this
      omega
    · exact absurd h (by simp)
theorem progA_append : ∀ (l : List S25) (x : S25) (t : ByteArray), progA (l ++ [x]) t = (progA l t).bind fun u => if InsP x.f0 x.f1 x.f2 x.f3 then some (u ++ insS x.f0 x.f1 x.f2 x.f3) else none
  | [], x, t => by simp only [List.nil_append, progA, Option.bind_some]
  | y :: l, x, t => by
    simp only [List.cons_append, progA]
    split
    · exact progA_append l x _
    · rfl
theorem read_ok (s : ByteArray) (h : (readIns s).2.2.2.2 = true) : InsP (word (readIns s)).f0 (word (readIns s)).f1 (word (readIns s)).f2 (word (readIns s)).f3 ∧ insS (word (readIns s)).f0 (word (readIns s)).f1 (word (readIns s)).f2 (word (readIns s)).f3 = s := by
  unfold readIns at h ⊢
  by_cases c : s.size = 7
  · rw [if_pos c] at h ⊢
    by_cases d : InsP (bt s 0) ((Math.fourN s 3 : Nat) : Int) (bt s 1) (bt s 2)
    · rw [if_pos d]
      exact ⟨d, ins_back s c⟩
    · rw [if_neg d] at h
      exact absurd h (by decide)
  · rw [if_neg c] at h
    exact absurd h (by decide)
theorem ext_join (s : ByteArray) (p : Nat) (h : p + 7 ≤ s.size) : s.extract 0 p ++ s.extract p (p + 7) = s.extract 0 (p + 7) := by
  apply Math.str_eq.1
  rw [Lib.toList_data, Lib.toList_data, ByteArray.data_append, Array.toList_append, ext_data, ext_data, ext_data, List.drop_zero, Nat.sub_zero, Nat.sub_zero, show p + 7 - p = 7 from by omega]
  rw [List.take_add]
theorem prgA_text (s : ByteArray) : ∀ (d p : Nat) (acc l : List S25), prgA s d p acc = some l → p + 7 * d ≤ s.size → progA acc (⟨#[]⟩ : ByteArray) = some (s.extract 0 p) → progA l (⟨#[]⟩ : ByteArray) = some (s.extract 0 (p + 7 * d))
  | 0, p, acc, l, h, _, ha => by
    simp only [prgA, Option.some.injEq] at h
    rw [← h]
    exact ha
  | d + 1, p, acc, l, h, hp, ha => by
    simp only [prgA] at h
    split at h
    · rename_i hr
      obtain ⟨r1, r2⟩ := read_ok _ hr
      have := prgA_text s d (p + 7) _ l h (by omega) (by
        rw [progA_append, ha, Option.bind_some, if_pos r1, r2, ext_join s p (by omega)])
      rw [show p + 7 * (d + 1) = p + 7 + 7 * d from by omega]
      exact this
    · exact absurd h (by simp)
def prgEnd : Option (List S25) → List S25 × Bool
  | some l => (l, true)
  | none => ([], false)
def readProg (s : ByteArray) : List S25 × Bool := if s.size % 7 = 0 ∧ 1 ≤ s.size / 7 ∧ s.size / 7 ≤ 400 then prgEnd (prgA s (s.size / 7) 0 []) else ([], false)
theorem impl_ReadProgram_l0 (s : ByteArray) (hs : s.size ≤ 1048576) (d : Nat) : ∀ (p : Nat) (acc : List S25), p + 7 * d = s.size → acc.length + d ≤ 1000000 →
    Ev (fun k => impl_ReadProgram.l0 k s acc (p : Int)) (prgEnd (prgA s d p acc)) := by
  induction d with
  | zero =>
    intro p acc hp ha
    refine Ev.step (f := fun _ => some (acc, true)) (fun k => ?_) (Math.Ev.const rfl)
    show impl_ReadProgram.l0 (k + 1) s acc _ = _
    rw [impl_ReadProgram.l0, if_neg (by omega)]
  | succ d ih =>
    intro p acc hp ha
    have e7 : PLift (wrap64 ((p : Int) + 7) = ((p + 7 : Nat) : Int)) := ⟨by rw [Math.wrap_in (by omega) (by omega)]; omega⟩
    refine Ev.step (f := fun k => (impl_ReadIns.f k (s.extract p (p + 7))).bind fun bt176 => (if bt176.2.2.2.2 = true then (impl_ReadProgram.l0 k s (acc ++ [word bt176]) ((p + 7 : Nat) : Int)) else (some ([], false)))) (fun k => ?_) ?_
    · show impl_ReadProgram.l0 (k + 1) s acc _ = _
      rw [impl_ReadProgram.l0, if_pos (by omega), if_pos (by omega), e7.down, if_pos (by omega), if_pos (by omega), Int.toNat_natCast, Int.toNat_natCast]
      congr 1
      funext bt176
      rw [if_pos (show acc.length < 4398046511104 by omega)]
      rfl
    · refine Ev.bind (f := fun k bt176 => (if bt176.2.2.2.2 = true then (impl_ReadProgram.l0 k s (acc ++ [word bt176]) ((p + 7 : Nat) : Int)) else (some ([], false)))) (impl_ReadIns_ev (s.extract p (p + 7))) ?_
      simp only [prgA]
      by_cases c : (readIns (s.extract p (p + 7))).2.2.2.2 = true
      · rw [if_pos c]
        exact Ev.congr (fun k => if_pos c) (ih (p + 7) _ (by omega) (by rw [List.length_append, List.length_singleton]; omega))
      · rw [if_neg c]
        exact Ev.congr (f := fun _ => some ([], false)) (fun k => if_neg c) (Math.Ev.const rfl)
theorem impl_ReadProgram_ev (s : ByteArray) (hs : s.size ≤ 1048576) : Ev (fun k => impl_ReadProgram.f k s) (readProg s) := by
  unfold readProg
  have hno : Ev (fun k => impl_ReadProgram.j0 k s true) ([], false) := Ev.step (f := fun _ => some ([], false)) (fun k => by rw [impl_ReadProgram.j0, if_pos rfl]) (Math.Ev.const rfl)
  by_cases c7 : s.size % 7 = 0
  · have ew : PLift (wrap64 ((s.size : Int) / 7) = ((s.size / 7 : Nat) : Int)) := ⟨by rw [Math.wrap_in (by omega) (by omega)]; omega⟩
    refine Ev.congr (f := fun k => impl_ReadProgram.j0 k s (!decide (1 ≤ ((s.size / 7 : Nat) : Int) ∧ ((s.size / 7 : Nat) : Int) ≤ 400))) (fun k => ?_) ?_
    · show impl_ReadProgram.f k s = _
      unfold impl_ReadProgram.f
      rw [if_pos (by omega), ew.down, impl_within_is, Option.bind_some]
    · by_cases c : 1 ≤ s.size / 7 ∧ s.size / 7 ≤ 400
      · rw [if_pos ⟨c7, c⟩, decide_eq_true (by omega)]
        refine Ev.step (fun k => by rw [impl_ReadProgram.j0, if_neg (by decide)]) ?_
        exact impl_ReadProgram_l0 s hs (s.size / 7) 0 [] (by omega) (by rw [List.length_nil]; omega)
      · rw [if_neg (fun e => c e.2), decide_eq_false (by omega)]
        exact hno
  · rw [if_neg (fun e => c7 e.1)]
    refine Ev.congr (f := fun k => impl_ReadProgram.j0 k s true) (fun k => ?_) hno
    show impl_ReadProgram.f k s = _
    unfold impl_ReadProgram.f
    rw [if_neg (by omega)]
def backEnd (s : ByteArray) : Option (List S25) → List S25 × Bool
  | some l => if (progText l).2 = true ∧ (progText l).1 = s then (l, true) else ([], false)
  | none => ([], false)
theorem spec_ReadProgram_l0 (s : ByteArray) (hs : s.size ≤ 1048576) (m : Nat) (hm : 7 * m ≤ s.size) (hm2 : m ≤ 401) (hm3 : m = 401 ∨ s.size < 7 * m + 7) (d : Nat) : ∀ (i : Nat) (acc : List S25), i + d = m → acc.length = i →
    Ev (fun k => spec_ReadProgram.l0 k s acc ((7 * i : Nat) : Int)) (backEnd s (prgA s d (7 * i) acc)) := by
  have e7 : ∀ i : Nat, i ≤ 401 → PLift (wrap64 (((7 * i : Nat) : Int) + 7) = ((7 * i + 7 : Nat) : Int)) := fun i hi => ⟨by rw [Math.wrap_in (by omega) (by omega)]; omega⟩
  induction d with
  | zero =>
    intro i acc hi ha
    refine Ev.step (f := fun k => spec_ReadProgram.j1 k s acc ((7 * i : Nat) : Int) false) (fun k => ?_) ?_
    · show spec_ReadProgram.l0 (k + 1) s acc _ = _
      rw [spec_ReadProgram.l0, (e7 i (by omega)).down]
      by_cases c : ((7 * i + 7 : Nat) : Int) ≤ (s.size : Int)
      · rw [if_pos c, decide_eq_false (by omega)]
      · rw [if_neg c]
    · refine Ev.step (f := fun k => (spec_ProgramText.f k acc).bind fun bt145 => (if bt145.2 = true then (if bt145.1.toList = s.toList then (some (acc, true)) else (some ([], false))) else (some ([], false)))) (fun k => ?_) ?_
      · show spec_ReadProgram.j1 (k + 1) s acc _ _ = _
        rw [spec_ReadProgram.j1, if_neg (by decide)]
      · refine Ev.bind (f := fun _ (bt145 : ByteArray × Bool) => (if bt145.2 = true then (if bt145.1.toList = s.toList then (some (acc, true)) else (some ([], false))) else (some ([], false)))) (spec_ProgramText_ev acc (by omega)) (Math.Ev.const ?_)
        show _ = some (if (progText acc).2 = true ∧ (progText acc).1 = s then (acc, true) else ([], false))
        by_cases c : (progText acc).2 = true
        · rw [if_pos c]
          by_cases c2 : (progText acc).1 = s
          · rw [if_pos (Math.str_eq.2 c2), if_pos ⟨c, c2⟩]
          · rw [if_neg (fun e => c2 (Math.str_eq.1 e)), if_neg (fun e => c2 e.2)]
        · rw [if_neg c, if_neg (fun e => c e.1)]
  | succ d ih =>
    intro i acc hi ha
    refine Ev.step (f := fun k => spec_ReadProgram.j1 k s acc ((7 * i : Nat) : Int) true) (fun k => ?_) ?_
    · show spec_ReadProgram.l0 (k + 1) s acc _ = _
      rw [spec_ReadProgram.l0, (e7 i (by omega)).down, if_pos (by omega), decide_eq_true (by omega)]
    · refine Ev.step (f := fun k => (spec_ReadIns.f k (s.extract (7 * i) (7 * i + 7))).bind fun bt176 => (if bt176.2.2.2.2 = true then (spec_ReadProgram.l0 k s (acc ++ [word bt176]) ((7 * i + 7 : Nat) : Int)) else (some ([], false)))) (fun k => ?_) ?_
      · show spec_ReadProgram.j1 (k + 1) s acc _ _ = _
        rw [spec_ReadProgram.j1, if_pos rfl, (e7 i (by omega)).down, if_pos (by omega), if_pos (by omega), if_pos (by omega), Int.toNat_natCast, Int.toNat_natCast]
        congr 1
        funext bt176
        rw [if_pos (show acc.length < 4398046511104 by omega)]
        rfl
      · refine Ev.bind (f := fun k bt176 => (if bt176.2.2.2.2 = true then (spec_ReadProgram.l0 k s (acc ++ [word bt176]) ((7 * i + 7 : Nat) : Int)) else (some ([], false)))) (spec_ReadIns_ev (s.extract (7 * i) (7 * i + 7))) ?_
        simp only [prgA]
        by_cases c : (readIns (s.extract (7 * i) (7 * i + 7))).2.2.2.2 = true
        · rw [if_pos c]
          exact Ev.congr (fun k => if_pos c) (ih (i + 1) _ (by omega) (by rw [List.length_append, List.length_singleton]; omega))
        · rw [if_neg c]
          exact Ev.congr (f := fun _ => some ([], false)) (fun k => if_neg c) (Math.Ev.const rfl)
theorem spec_ReadProgram_ev (s : ByteArray) (hs : s.size ≤ 1048576) : Ev (fun k => spec_ReadProgram.f k s) (readProg s) := by
  have key : ∀ m, 7 * m ≤ s.size → m ≤ 401 → (m = 401 ∨ s.size < 7 * m + 7) → Ev (fun k => spec_ReadProgram.f k s) (backEnd s (prgA s m 0 [])) := fun m h1 h2 h3 => spec_ReadProgram_l0 s hs m h1 h2 h3 m 0 [] (by omega) rfl
  unfold readProg
  have hfail : ∀ m, 7 * m ≤ s.size → (m = 0 ∨ 400 < m ∨ 7 * m < s.size) → backEnd s (prgA s m 0 []) = ([], false) := by
    intro m h1 h2
    cases hp : prgA s m 0 [] with
    | none => rfl
    | some l =>
      have hl := prgA_len s m 0 [] l hp
      rw [List.length_nil, Nat.zero_add] at hl
      have ht := prgA_text s m 0 [] l hp (by omega) (by
        have : s.extract 0 0 = (⟨#[]⟩ : ByteArray) := by
          apply Math.str_eq.1
          rw [Lib.toList_data, Lib.toList_data, ext_data]
          rfl
        rw [this]
        rfl)
      show (if (progText l).2 = true ∧ (progText l).1 = s then (l, true) else ([], false)) = _
      rw [if_neg]
      rintro ⟨e1, e2⟩
      unfold progText at e1 e2
      by_cases c : 1 ≤ l.length ∧ l.length ≤ 400
      · rw [if_pos c, ht] at e2
        have := congrArg ByteArray.size e2
        simp only [progEnd, ByteArray.size_extract] at this
        omega
      · rw [if_neg c] at e1
        exact absurd e1 (by decide)
  by_cases c : s.size % 7 = 0 ∧ 1 ≤ s.size / 7 ∧ s.size / 7 ≤ 400
  · rw [if_pos c]
    have h := key (s.size / 7) (by omega) (by omega) (by omega)
    cases hp : prgA s (s.size / 7) 0 [] with
    | none => rw [hp] at h; exact h
    | some l =>
      rw [hp] at h
      have hl := prgA_len s _ 0 [] l hp
      rw [List.length_nil, Nat.zero_add] at hl
      have ht := prgA_text s _ 0 [] l hp (by omega) (by
        have : s.extract 0 0 = (⟨#[]⟩ : ByteArray) := by
          apply Math.str_eq.1
          rw [Lib.toList_data, Lib.toList_data, ext_data]
          rfl
        rw [this]
        rfl)
      have hs2 : s.extract 0 (0 + 7 * (s.size / 7)) = s := by
        apply Math.str_eq.1
        rw [Lib.toList_data, Lib.toList_data, ext_data, List.drop_zero]
        exact List.take_of_length_le (by rw [Math.size_data]; omega)
      rw [hs2] at ht
      have e : backEnd s (some l) = (l, true) := by
        show (if (progText l).2 = true ∧ (progText l).1 = s then (l, true) else ([], false)) = _
        unfold progText
        rw [if_pos (show 1 ≤ l.length ∧ l.length ≤ 400 from by omega), ht]
        simp [progEnd]
      rw [e] at h
      exact h
  · rw [if_neg c]
    by_cases c4 : s.size / 7 ≤ 400
    · have h := key (s.size / 7) (by omega) (by omega) (by omega)
      rw [hfail _ (by omega) (by omega)] at h
      exact h
    · have h := key 401 (by omega) (by omega) (by omega)
      rw [hfail _ (by omega) (by omega)] at h
      exact h
theorem readProg_len (s : ByteArray) : (readProg s).1.length ≤ 400 := by
  unfold readProg
  split
  · rename_i c
    cases hp : prgA s (s.size / 7) 0 [] with
    | none => simp [prgEnd]
    | some l =>
      have hl := prgA_len s _ 0 [] l hp
      rw [List.length_nil, Nat.zero_add] at hl
      simp only [prgEnd]
      omega
  · simp
theorem FnExactReadProgram : laws_FnExactReadProgram.Pure := by
  intro s _
  refine Ev.rounds ?_
  by_cases hc : (s.size : Int) > 1048576
  · exact ⟨0, fun k _ => by show laws_FnExactReadProgram.f k s = _; unfold laws_FnExactReadProgram.f; rw [if_pos hc]⟩
  · refine Ev.congr (fun k => by unfold laws_FnExactReadProgram.f; rw [if_neg hc]) ?_
    have h1 := spec_ReadProgram_ev s (by omega)
    have h2 := impl_ReadProgram_ev s (by omega)
    have hlen := readProg_len s
    generalize readProg s = r at *
    have heq := eqInsS_ev r.1 (by omega)
    obtain ⟨l', q, hq, hm, hh⟩ := markInsS_ev r.1 (by omega)
    refine Ev.bind (f := fun k (x : List S25 × Bool) => ((impl_ReadProgram.f k s).bind fun y => ((laws_eqInsS.f k y.1 x.1).bind fun t149 => (if t149 = true then (laws_FnExactReadProgram.j0 k s x.1 x.2 y.1 (y.2 != x.2)) else (laws_FnExactReadProgram.j0 k s x.1 x.2 y.1 true))))) h1 ?_
    refine Ev.bind (f := fun k (y : List S25 × Bool) => ((laws_eqInsS.f k y.1 r.1).bind fun t149 => (if t149 = true then (laws_FnExactReadProgram.j0 k s r.1 r.2 y.1 (y.2 != r.2)) else (laws_FnExactReadProgram.j0 k s r.1 r.2 y.1 true)))) h2 ?_
    refine Ev.bind (f := fun k t149 => (if t149 = true then (laws_FnExactReadProgram.j0 k s r.1 r.2 r.1 (r.2 != r.2)) else (laws_FnExactReadProgram.j0 k s r.1 r.2 r.1 true))) heq ?_
    rw [show (r.2 != r.2) = false from by simp]
    refine Ev.congr (fun k => if_pos rfl) ?_
    refine Ev.step (fun k => by rw [laws_FnExactReadProgram.j0, if_neg (by decide)]) ?_
    refine Ev.bind (f := fun k (x : Int × List S25) => ((laws_heldInsS.f k x.2 1).bind fun t152 => (if t152 < 0 then (some false) else (if t152 = x.1 then ((impl_ReadProgram.f k s).bind fun bt153 => ((laws_eqInsS.f k bt153.1 r.1).bind fun t157 => (if t157 = true then (laws_FnExactReadProgram.j1 k x.2 x.1 (bt153.2 != r.2)) else (laws_FnExactReadProgram.j1 k x.2 x.1 true)))) else (some false))))) hm ?_
    refine Ev.bind (f := fun k t152 => (if t152 < 0 then (some false) else (if t152 = q then ((impl_ReadProgram.f k s).bind fun bt153 => ((laws_eqInsS.f k bt153.1 r.1).bind fun t157 => (if t157 = true then (laws_FnExactReadProgram.j1 k l' q (bt153.2 != r.2)) else (laws_FnExactReadProgram.j1 k l' q true)))) else (some false)))) hh ?_
    refine Ev.congr (fun k => (if_neg (by omega)).trans (if_pos rfl)) ?_
    refine Ev.bind (f := fun k (bt153 : List S25 × Bool) => ((laws_eqInsS.f k bt153.1 r.1).bind fun t157 => (if t157 = true then (laws_FnExactReadProgram.j1 k l' q (bt153.2 != r.2)) else (laws_FnExactReadProgram.j1 k l' q true)))) h2 ?_
    refine Ev.bind (f := fun k t157 => (if t157 = true then (laws_FnExactReadProgram.j1 k l' q (r.2 != r.2)) else (laws_FnExactReadProgram.j1 k l' q true))) heq ?_
    rw [show (r.2 != r.2) = false from by simp]
    refine Ev.congr (fun k => if_pos rfl) ?_
    refine Ev.step (fun k => by rw [laws_FnExactReadProgram.j1, if_neg (by decide)]) ?_
    refine Ev.bind (f := fun _ t158 => (if t158 < 0 then (some false) else (if t158 = q then (some true) else (some false)))) hh (Math.Ev.const ?_)
    rw [if_neg (by omega), if_pos rfl]
end Go.Proofs.Ytfchokhdhnfajaa.Pure
