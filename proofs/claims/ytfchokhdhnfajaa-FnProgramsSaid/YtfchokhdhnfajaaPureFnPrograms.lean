/- FnPrograms: a program's text is read back as the program, and what is read is written back as it was. -/
import Derived.Test.YtfchokhdhnfajaaOFnProgramsx12
import Derived.Test.YtfchokhdhnfajaaMath
namespace Go.Proofs.Ytfchokhdhnfajaa.Pure
open Go.RowKit Go.Proofs.Ytfchokhdhnfajaa.PFnPrograms Go.Proofs.YtfchokhdhnfajaaW.PrintWords Go.Proofs.YtfchokhdhnfajaaW.PrintLast Go.Proofs.YtfchokhdhnfajaaW.PrintMore
set_option linter.unusedVariables false
theorem spec_l01In_is (a lo hi : Int) : spec_l01In.f a lo hi = some (decide (lo ≤ a ∧ a ≤ hi)) := by
  unfold spec_l01In.f
  by_cases h : a ≥ lo
  · rw [if_pos h]
    by_cases h2 : a ≤ hi
    · simp [h, h2]
    · simp [h2]
  · rw [if_neg h]
    have : ¬ lo ≤ a := h
    simp [this]
theorem impl_within_is (a lo hi : Int) : impl_within.f a lo hi = some (decide (lo ≤ a ∧ a ≤ hi)) := by
  unfold impl_within.f
  by_cases h : a ≥ lo
  · rw [if_pos h]
    by_cases h2 : a ≤ hi
    · simp [h, h2]
    · simp [h2]
  · rw [if_neg h]
    have : ¬ lo ≤ a := h
    simp [this]
theorem spec_HalfOk_is (a : Int) : spec_HalfOk.f a = some (decide (0 ≤ a ∧ a ≤ 4294967295)) := by unfold spec_HalfOk.f; rw [spec_l01In_is]; rfl
theorem impl_HalfOk_is (a : Int) : impl_HalfOk.f a = some (decide (0 ≤ a ∧ a ≤ 4294967295)) := by unfold impl_HalfOk.f; rw [impl_within_is]; rfl
def InsP (o c y n : Int) : Prop := (1 ≤ o ∧ o ≤ 8) ∧ (0 ≤ c ∧ c ≤ 4294967295) ∧ (0 ≤ y ∧ y ≤ 15) ∧ (0 ≤ n ∧ n ≤ 15) ∧ ((3 ≤ o ∧ o ≤ 6) ∨ (y = 0 ∧ n = 0)) ∧ (o = 1 → c < 8) ∧ (o = 7 → c < 400)
instance (o c y n : Int) : Decidable (InsP o c y n) := by unfold InsP; infer_instance
theorem spec_InsOk_ev (o c y n : Int) : Ev (fun k => spec_InsOk.f k o c y n) (decide (InsP o c y n)) := by
  refine ⟨2, fun k hk => ?_⟩
  obtain ⟨m, rfl⟩ : ∃ m, k = m + 2 := ⟨k - 2, by omega⟩
  show spec_InsOk.f (m + 2) o c y n = _
  unfold spec_InsOk.f
  rw [spec_l01In_is, spec_HalfOk_is, spec_l01In_is, spec_l01In_is]
  simp only [Option.bind_some]
  have hf : ¬ InsP o c y n → spec_InsOk.j0 (m + 2) true o c y n = some (decide (InsP o c y n)) := by
    intro h
    rw [spec_InsOk.j0, if_pos rfl, decide_eq_false h]
  by_cases h1 : 1 ≤ o ∧ o ≤ 8
  · by_cases h2 : 0 ≤ c ∧ c ≤ 4294967295
    · by_cases h3 : 0 ≤ y ∧ y ≤ 15
      · by_cases h4 : 0 ≤ n ∧ n ≤ 15
        · rw [if_pos (decide_eq_true h1), if_pos (decide_eq_true h2), if_pos (decide_eq_true h3), decide_eq_true h4]
          show spec_InsOk.j0 (m + 2) false o c y n = _
          rw [spec_InsOk.j0, if_neg (by decide)]
          have ha : spec_l06Ask.f o = some (decide (3 ≤ o ∧ o ≤ 6)) := by unfold spec_l06Ask.f; rw [spec_l01In_is]; rfl
          rw [ha]
          simp only [Option.bind_some]
          by_cases h5 : 3 ≤ o ∧ o ≤ 6
          · rw [if_pos (decide_eq_true h5), spec_InsOk.j1, if_neg (by decide), if_neg (by omega), if_neg (by omega)]
            have : InsP o c y n := ⟨h1, h2, h3, h4, .inl h5, fun e => by omega, fun e => by omega⟩
            rw [decide_eq_true this]
          · rw [if_neg (by rw [decide_eq_false h5]; decide)]
            by_cases h6 : y = 0
            · rw [if_pos h6]
              by_cases h7 : n = 0
              · rw [show (n != 0) = false from by simp [h7], spec_InsOk.j1, if_neg (by decide)]
                by_cases h8 : o = 1
                · rw [if_pos h8]
                  congr 1
                  refine decide_eq_decide.2 ⟨fun h => ⟨h1, h2, h3, h4, .inr ⟨h6, h7⟩, fun _ => h, fun e => by omega⟩, fun h => h.2.2.2.2.2.1 h8⟩
                · rw [if_neg h8]
                  by_cases h9 : o = 7
                  · rw [if_pos h9]
                    congr 1
                    refine decide_eq_decide.2 ⟨fun h => ⟨h1, h2, h3, h4, .inr ⟨h6, h7⟩, fun e => by omega, fun _ => h⟩, fun h => h.2.2.2.2.2.2 h9⟩
                  · rw [if_neg h9]
                    have : InsP o c y n := ⟨h1, h2, h3, h4, .inr ⟨h6, h7⟩, fun e => absurd e h8, fun e => absurd e h9⟩
                    rw [decide_eq_true this]
              · rw [show (n != 0) = true from by simp [h7], spec_InsOk.j1, if_pos rfl]
                have : ¬ InsP o c y n := fun h => by have := h.2.2.2.2.1; omega
                rw [decide_eq_false this]
            · rw [if_neg h6, spec_InsOk.j1, if_pos rfl]
              have : ¬ InsP o c y n := fun h => by have := h.2.2.2.2.1; omega
              rw [decide_eq_false this]
        · rw [if_pos (decide_eq_true h1), if_pos (decide_eq_true h2), if_pos (decide_eq_true h3), decide_eq_false h4]
          exact hf (fun h => h4 h.2.2.2.1)
      · rw [if_pos (decide_eq_true h1), if_pos (decide_eq_true h2), if_neg (by rw [decide_eq_false h3]; decide)]
        exact hf (fun h => h3 h.2.2.1)
    · rw [if_pos (decide_eq_true h1), if_neg (by rw [decide_eq_false h2]; decide)]
      exact hf (fun h => h2 h.2.1)
  · rw [if_neg (by rw [decide_eq_false h1]; decide)]
    exact hf (fun h => h1 h.1)
theorem impl_asks_is (o c y n : Int) : impl_Ins_asks.f o c y n = some (decide (3 ≤ o ∧ o ≤ 6)) := by unfold impl_Ins_asks.f; rw [impl_within_is]; rfl
theorem impl_InsOk_ev (o c y n : Int) : Ev (fun k => impl_InsOk.f k o c y n) (decide (InsP o c y n)) := by
  refine ⟨2, fun k hk => ?_⟩
  obtain ⟨m, rfl⟩ : ∃ m, k = m + 2 := ⟨k - 2, by omega⟩
  show impl_InsOk.f (m + 2) o c y n = _
  unfold impl_InsOk.f
  rw [impl_asks_is]
  simp only [Option.bind_some]
  by_cases h5 : 3 ≤ o ∧ o ≤ 6
  · rw [if_pos (decide_eq_true h5), impl_HalfOk_is, impl_within_is, impl_within_is]
    simp only [Option.bind_some]
    by_cases h2 : 0 ≤ c ∧ c ≤ 4294967295
    · rw [if_pos (decide_eq_true h2)]
      by_cases h3 : 0 ≤ y ∧ y ≤ 15
      · rw [if_pos (decide_eq_true h3)]
        congr 1
        exact decide_eq_decide.2 ⟨fun h => ⟨by omega, h2, h3, h, .inl h5, fun e => by omega, fun e => by omega⟩, fun h => h.2.2.2.1⟩
      · rw [if_neg (by rw [decide_eq_false h3]; decide), decide_eq_false (fun h : InsP o c y n => h3 h.2.2.1)]
    · rw [if_neg (by rw [decide_eq_false h2]; decide), decide_eq_false (fun h : InsP o c y n => h2 h.2.1)]
  · rw [if_neg (by rw [decide_eq_false h5]; decide)]
    have hf : ¬ InsP o c y n → impl_InsOk.j0 (m + 2) true o c y n = some (decide (InsP o c y n)) := by
      intro h
      rw [impl_InsOk.j0, if_pos rfl, decide_eq_false h]
    by_cases h6 : y = 0
    · rw [if_pos h6]
      by_cases h7 : n = 0
      · rw [show (n != 0) = false from by simp [h7], impl_InsOk.j0, if_neg (by decide), impl_within_is, impl_within_is, impl_HalfOk_is]
        simp only [Option.bind_some]
        by_cases h8 : o = 1
        · rw [if_pos h8]
          congr 1
          exact decide_eq_decide.2 ⟨fun h => ⟨by omega, by omega, by omega, by omega, .inr ⟨h6, h7⟩, fun _ => by omega, fun e => by omega⟩, fun h => by have := h.2.2.2.2.2.1 h8; have := h.2.1; omega⟩
        · rw [if_neg h8]
          by_cases h9 : o = 7
          · rw [if_pos h9]
            congr 1
            exact decide_eq_decide.2 ⟨fun h => ⟨by omega, by omega, by omega, by omega, .inr ⟨h6, h7⟩, fun e => by omega, fun _ => by omega⟩, fun h => by have := h.2.2.2.2.2.2 h9; have := h.2.1; omega⟩
          · rw [if_neg h9]
            by_cases h10 : o = 2
            · rw [if_pos h10]
              congr 1
              exact decide_eq_decide.2 ⟨fun h => ⟨by omega, h, by omega, by omega, .inr ⟨h6, h7⟩, fun e => by omega, fun e => by omega⟩, fun h => h.2.1⟩
            · rw [if_neg h10]
              by_cases h11 : o = 8
              · rw [if_pos h11]
                congr 1
                exact decide_eq_decide.2 ⟨fun h => ⟨by omega, h, by omega, by omega, .inr ⟨h6, h7⟩, fun e => by omega, fun e => by omega⟩, fun h => h.2.1⟩
              · rw [if_neg h11, decide_eq_false (fun h : InsP o c y n => by have := h.1; omega)]
      · rw [show (n != 0) = true from by simp [h7]]
        exact hf (fun h => by have := h.2.2.2.2.1; omega)
    · rw [if_neg h6]
      exact hf (fun h => by have := h.2.2.2.2.1; omega)
theorem rd_at (l : List S25) (i : Nat) (h : i < l.length) : rd_T25 l (i : Int) = l[i] := by
  unfold rd_T25
  rw [Int.toNat_natCast, List.getD_eq_getElem?_getD, List.getElem?_eq_getElem h]
  rfl
def insS (o c y n : Int) : ByteArray := strOfNums [o % 256, y % 256, n % 256] ++ Math.fourS c
theorem insS_size (o c y n : Int) : (insS o c y n).size = 7 := by unfold insS; rw [Math.size_append, Math.fourS_size, strOfNums_size]; rfl
def insText (o c y n : Int) : ByteArray × Bool := if InsP o c y n then (insS o c y n, true) else (⟨#[]⟩, false)
theorem spec_InsText_ev (o c y n : Int) : Ev (fun k => spec_InsText.f k o c y n) (insText o c y n) := by
  refine Ev.congr (fun k => by unfold spec_InsText.f; rfl) ?_
  refine Ev.bind (f := fun _ t116 => (if t116 = true then ((some (([o % 256, y % 256, n % 256] : List Int) : List Int)).bind fun y117 => ((spec_l06Four.f c).bind fun t120 => (if (strOfNums y117).size + t120.size ≤ 9223372036854775807 then (some ((strOfNums y117) ++ t120, true)) else (none)))) else (some ((⟨#[]⟩ : ByteArray), false)))) (spec_InsOk_ev o c y n) (Math.Ev.const ?_)
  unfold insText
  by_cases h : InsP o c y n
  · rw [if_pos (decide_eq_true h), if_pos h]
    show (if (strOfNums [o % 256, y % 256, n % 256]).size + (Math.fourS c).size ≤ 9223372036854775807 then (some ((strOfNums [o % 256, y % 256, n % 256]) ++ (Math.fourS c), true)) else (none)) = _
    rw [if_pos (by rw [Math.fourS_size, strOfNums_size, show ([o % 256, y % 256, n % 256] : List Int).length = 3 from rfl]; omega)]
    rfl
  · rw [if_neg (by rw [decide_eq_false h]; decide), if_neg h]
def progA : List S25 → ByteArray → Option ByteArray
  | [], acc => some acc
  | x :: l, acc => if InsP x.f0 x.f1 x.f2 x.f3 then progA l (acc ++ insS x.f0 x.f1 x.f2 x.f3) else none
def progEnd : Option ByteArray → ByteArray × Bool
  | some s => (s, true)
  | none => (⟨#[]⟩, false)
def progText (l : List S25) : ByteArray × Bool := if 1 ≤ l.length ∧ l.length ≤ 400 then progEnd (progA l (⟨#[]⟩ : ByteArray)) else (⟨#[]⟩, false)
theorem spec_ProgramText_l0 (l : List S25) (hl : l.length ≤ 2000000) (d : Nat) : ∀ (i : Nat) (acc : ByteArray), i + d = l.length → acc.size ≤ 7 * i →
    Ev (fun k => spec_ProgramText.l0 k l acc (i : Int)) (if 1 ≤ l.length ∧ l.length ≤ 400 then progEnd (progA (l.drop i) acc) else (⟨#[]⟩, false)) := by
  induction d with
  | zero =>
    intro i acc hi ha
    rw [List.drop_eq_nil_of_le (by omega)]
    refine Ev.step (f := fun _ => some (if 1 ≤ l.length ∧ l.length ≤ 400 then progEnd (progA [] acc) else (⟨#[]⟩, false))) (fun k => ?_) (Math.Ev.const rfl)
    show spec_ProgramText.l0 (k + 1) l acc _ = _
    rw [spec_ProgramText.l0, if_neg (by omega), spec_l01In_is, Option.bind_some]
    by_cases c : 1 ≤ l.length ∧ l.length ≤ 400
    · rw [if_pos (decide_eq_true (by omega)), if_pos c]
      rfl
    · rw [if_neg (by rw [decide_eq_false (by omega)]; decide), if_neg c]
  | succ d ih =>
    intro i acc hi ha
    have hlt : i < l.length := by omega
    rw [List.drop_eq_getElem_cons hlt]
    simp only [progA]
    refine Ev.step (f := fun k => (spec_InsText.f k l[i].f0 l[i].f1 l[i].f2 l[i].f3).bind fun bt119 => (if bt119.2 = true then (if acc.size + bt119.1.size ≤ 9223372036854775807 then (spec_ProgramText.l0 k l (acc ++ bt119.1) ((i + 1 : Nat) : Int)) else (none)) else (some ((⟨#[]⟩ : ByteArray), false)))) (fun k => ?_) ?_
    · show spec_ProgramText.l0 (k + 1) l acc _ = _
      rw [spec_ProgramText.l0, if_pos (by omega), if_pos (by omega), rd_at l i hlt, show wrap64 ((i : Int) + 1) = ((i + 1 : Nat) : Int) from by rw [Math.wrap_in (by omega) (by omega)]; omega]
    · refine Ev.bind (f := fun k (bt119 : ByteArray × Bool) => (if bt119.2 = true then (if acc.size + bt119.1.size ≤ 9223372036854775807 then (spec_ProgramText.l0 k l (acc ++ bt119.1) ((i + 1 : Nat) : Int)) else (none)) else (some ((⟨#[]⟩ : ByteArray), false)))) (spec_InsText_ev _ _ _ _) ?_
      unfold insText
      by_cases c : InsP l[i].f0 l[i].f1 l[i].f2 l[i].f3
      · rw [if_pos c, if_pos c]
        have hsz := insS_size l[i].f0 l[i].f1 l[i].f2 l[i].f3
        have hsz2 : acc.size + (insS l[i].f0 l[i].f1 l[i].f2 l[i].f3).size ≤ 9223372036854775807 := by omega
        refine Ev.congr (fun k => (if_pos rfl).trans (if_pos hsz2)) ?_
        exact ih (i + 1) _ (by omega) (by rw [Math.size_append, hsz]; omega)
      · rw [if_neg c, if_neg c]
        have e : (if 1 ≤ l.length ∧ l.length ≤ 400 then progEnd none else ((⟨#[]⟩ : ByteArray), false)) = ((⟨#[]⟩ : ByteArray), false) := by split <;> rfl
        rw [e]
        exact Math.Ev.const rfl
theorem spec_ProgramText_ev (l : List S25) (hl : l.length ≤ 2000000) : Ev (fun k => spec_ProgramText.f k l) (progText l) :=
  spec_ProgramText_l0 l hl l.length 0 _ (by omega) (by decide)
theorem impl_fourAt_is (s : ByteArray) (hs : s.size ≤ 140737488351232) (p : Nat) (h : p + 4 ≤ s.size) : impl_fourAt.f s (p : Int) = some ((Math.fourN s p : Nat) : Int) := by
  unfold impl_fourAt.f
  rw [show wrap64 ((p : Int) + 1) = ((p + 1 : Nat) : Int) from by rw [Math.wrap_in (by omega) (by omega)]; omega, show wrap64 ((p : Int) + 2) = ((p + 2 : Nat) : Int) from by rw [Math.wrap_in (by omega) (by omega)]; omega, show wrap64 ((p : Int) + 3) = ((p + 3 : Nat) : Int) from by rw [Math.wrap_in (by omega) (by omega)]; omega]
  rw [if_pos (by omega), if_pos (by omega), if_pos (by omega), if_pos (by omega), if_pos (by omega), if_pos (by omega), if_pos (by omega), if_pos (by omega)]
  have := Math.four_join _ _ _ _ (Math.bt_lt s (p : Int)) (Math.bt_lt s ((p + 1 : Nat) : Int)) (Math.bt_lt s ((p + 2 : Nat) : Int)) (Math.bt_lt s ((p + 3 : Nat) : Int))
  rw [← Math.bt_cast, ← Math.bt_cast, ← Math.bt_cast, ← Math.bt_cast] at this
  rw [this]
  rfl
def readIns (s : ByteArray) : Int × Int × Int × Int × Bool :=
  if s.size = 7 then if InsP (bt s 0) ((Math.fourN s 3 : Nat) : Int) (bt s 1) (bt s 2) then (bt s 0, ((Math.fourN s 3 : Nat) : Int), bt s 1, bt s 2, true) else (0, 0, 0, 0, false) else (0, 0, 0, 0, false)
theorem spec_ReadIns_ev (s : ByteArray) : Ev (fun k => spec_ReadIns.f k s) (readIns s) := by
  unfold readIns
  by_cases h : s.size = 7
  · rw [if_pos h]
    have hj : Go.bits .or .i64 (Go.bits .or .i64 (Go.bits .or .i64 (wrap64 ((wrap64 (bt s 3)) * 16777216)) (wrap64 ((wrap64 (bt s 4)) * 65536))) (wrap64 ((wrap64 (bt s 5)) * 256))) (wrap64 (bt s 6)) = ((Math.fourN s 3 : Nat) : Int) := by
      have := Math.four_join _ _ _ _ (Math.bt_lt s 3) (Math.bt_lt s 4) (Math.bt_lt s 5) (Math.bt_lt s 6)
      rw [← Math.bt_cast, ← Math.bt_cast, ← Math.bt_cast, ← Math.bt_cast] at this
      exact this
    have hw : ∀ i, wrap64 (bt s i) = bt s i := fun i => by have := bt_range s i; exact Math.wrap_in (by omega) (by omega)
    refine Ev.congr (f := fun k => (spec_InsOk.f k (bt s 0) ((Math.fourN s 3 : Nat) : Int) (bt s 1) (bt s 2)).bind fun t111 => (if t111 = true then (some (bt s 0, ((Math.fourN s 3 : Nat) : Int), bt s 1, bt s 2, true)) else (some (0, 0, 0, 0, false)))) (fun k => ?_) ?_
    · unfold spec_ReadIns.f
      rw [if_pos (by omega), if_pos (by omega), if_pos (by omega), if_pos (by omega), if_pos (by omega), if_pos (by omega), if_pos (by omega), if_pos (by omega), hj, hw, hw, hw]
    · refine Ev.bind (f := fun _ t111 => (if t111 = true then (some (bt s 0, ((Math.fourN s 3 : Nat) : Int), bt s 1, bt s 2, true)) else (some (0, 0, 0, 0, false)))) (spec_InsOk_ev _ _ _ _) (Math.Ev.const ?_)
      by_cases c : InsP (bt s 0) ((Math.fourN s 3 : Nat) : Int) (bt s 1) (bt s 2)
      · rw [if_pos (decide_eq_true c), if_pos c]
      · rw [if_neg (by rw [decide_eq_false c]; decide), if_neg c]
  · rw [if_neg h]
    exact ⟨0, fun k _ => by show spec_ReadIns.f k s = _; unfold spec_ReadIns.f; rw [if_neg (by omega)]⟩
theorem impl_ReadIns_ev (s : ByteArray) : Ev (fun k => impl_ReadIns.f k s) (readIns s) := by
  unfold readIns
  by_cases h : s.size = 7
  · rw [if_pos h]
    have hw : ∀ i, wrap64 (bt s i) = bt s i := fun i => by have := bt_range s i; exact Math.wrap_in (by omega) (by omega)
    have hj : impl_fourAt.f s 3 = some ((Math.fourN s 3 : Nat) : Int) := impl_fourAt_is s (by omega) 3 (by omega)
    refine Ev.congr (f := fun k => (impl_InsOk.f k (bt s 0) ((Math.fourN s 3 : Nat) : Int) (bt s 1) (bt s 2)).bind fun t111 => (if t111 = true then (some (bt s 0, ((Math.fourN s 3 : Nat) : Int), bt s 1, bt s 2, true)) else (some (0, 0, 0, 0, false)))) (fun k => ?_) ?_
    · unfold impl_ReadIns.f
      rw [if_pos (by omega), if_pos (by omega), if_pos (by omega), if_pos (by omega), hj, hw, hw, hw]
      rfl
    · refine Ev.bind (f := fun _ t111 => (if t111 = true then (some (bt s 0, ((Math.fourN s 3 : Nat) : Int), bt s 1, bt s 2, true)) else (some (0, 0, 0, 0, false)))) (impl_InsOk_ev _ _ _ _) (Math.Ev.const ?_)
      by_cases c : InsP (bt s 0) ((Math.fourN s 3 : Nat) : Int) (bt s 1) (bt s 2)
      · rw [if_pos (decide_eq_true c), if_pos c]
      · rw [if_neg (by rw [decide_eq_false c]; decide), if_neg c]
  · rw [if_neg h]
    exact ⟨0, fun k _ => by show impl_ReadIns.f k s = _; unfold impl_ReadIns.f; rw [if_neg (by omega)]⟩
theorem ext_data (s : ByteArray) (a b : Nat) : (s.extract a b).data.toList = (s.data.toList.drop a).take (b - a) := by simp
theorem ins_back (s : ByteArray) (h : s.size = 7) : insS (bt s 0) ((Math.fourN s 3 : Nat) : Int) (bt s 1) (bt s 2) = s := by
  have hlt : Math.fourN s 3 < 4294967296 := by
    have h0 := Math.bt_lt s ((3 : Nat) : Int)
    have h1 := Math.bt_lt s ((3 + 1 : Nat) : Int)
    have h2 := Math.bt_lt s ((3 + 2 : Nat) : Int)
    have h3 := Math.bt_lt s ((3 + 3 : Nat) : Int)
    unfold Math.fourN
    omega
  have e := (Math.four_eq s 3 (by omega) (Math.fourN s 3) hlt).2 rfl
  unfold insS
  rw [← e]
  apply Math.str_eq.1
  rw [Lib.toList_data, Lib.toList_data, ByteArray.data_append, Array.toList_append, ext_data, strOfNums_data]
  have b0 := bt_range s 0
  have b1 := bt_range s 1
  have b2 := bt_range s 2
  rw [show bt s 0 % 256 = bt s 0 from by omega, show bt s 1 % 256 = bt s 1 from by omega, show bt s 2 % 256 = bt s 2 from by omega]
  have d0 := Math.drop_at s 0 (by omega)
  have d1 := Math.drop_at s 1 (by omega)
  have d2 := Math.drop_at s 2 (by omega)
  rw [Math.byte_at s 0 (by omega)] at d0
  rw [Math.byte_at s 1 (by omega)] at d1
  rw [Math.byte_at s 2 (by omega)] at d2
  rw [List.take_of_length_le (by rw [List.length_drop, Math.size_data]; omega)]
  rw [List.drop_zero] at d0
  rw [d0, d1, d2]
  rfl
def word (r : Int × Int × Int × Int × Bool) : S25 := ⟨r.1, r.2.1, r.2.2.1, r.2.2.2.1⟩
def prgA (s : ByteArray) : Nat → Nat → List S25 → Option (List S25)
  | 0, _, acc => some acc
  | d + 1, p, acc => if (readIns (s.extract p (p + 7))).2.2.2.2 = true then prgA s d (p + 7) (acc ++ [word (readIns (s.extract p (p + 7)))]) else none
theorem prgA_len (s : ByteArray) : ∀ (d p : Nat) (acc l : List S25), prgA s d p acc = some l → l.length = acc.length + d
  | 0, p, acc, l, h => by
    simp only [prgA, Option.some.injEq] at h
    rw [← h]
    rfl
  | d + 1, p, acc, l, h => by
    simp only [prgA] at h
    split at h
    · have := prgA_len s d _ _ l h
      rw [List.length_append, List.length_singleton] at this
      omega
    · exact absurd h (by simp)
theorem progA_append : ∀ (l : List S25) (x : S25) (t : ByteArray), progA (l ++ [x]) t = (progA l t).bind fun u => if InsP x.f0 x.f1 x.f2 x.f3 then some (u ++ insS x.f0 x.f1 x.f2 x.f3) else none
  | [], x, t => by simp only [List.nil_append, progA, Option.bind_some]
  | y :: l, x, t => by
    simp only [List.cons_append, progA]
    split
    · exact progA_append l x _
    · rfl
theorem read_ok (s : ByteArray) (h : (readIns s).2.2.2.2 = true) : InsP (word (readIns s)).f0 (word (readIns s)).f1 (word (readIns s)).f2 (word (readIns s)).f3 ∧ insS (word (readIns s)).f0 (word (readIns s)).f1 (word (readIns s)).f2 (word (readIns s)).f3 = s := by
  unfold readIns at h ⊢
  by_cases c : s.size = 7
  · rw [if_pos c] at h ⊢
    by_cases d : InsP (bt s 0) ((Math.fourN s 3 : Nat) : Int) (bt s 1) (bt s 2)
    · rw [if_pos d]
      exact ⟨d, ins_back s c⟩
    · rw [if_neg d] at h
      exact absurd h (by decide)
  · rw [if_neg c] at h
    exact absurd h (by decide)
theorem ext_join (s : ByteArray) (p : Nat) (h : p + 7 ≤ s.size) : s.extract 0 p ++ s.extract p (p + 7) = s.extract 0 (p + 7) := by
  apply Math.str_eq.1
  rw [Lib.toList_data, Lib.toList_data, ByteArray.data_append, Array.toList_append, ext_data, ext_data, ext_data, List.drop_zero, Nat.sub_zero, Nat.sub_zero, show p + 7 - p = 7 from by omega]
  rw [List.take_add]
theorem prgA_text (s : ByteArray) : ∀ (d p : Nat) (acc l : List S25), prgA s d p acc = some l → p + 7 * d ≤ s.size → progA acc (⟨#[]⟩ : ByteArray) = some (s.extract 0 p) → progA l (⟨#[]⟩ : ByteArray) = some (s.extract 0 (p + 7 * d))
  | 0, p, acc, l, h, _, ha => by
    simp only [prgA, Option.some.injEq] at h
    rw [← h]
    exact ha
  | d + 1, p, acc, l, h, hp, ha => by
    simp only [prgA] at h
    split at h
    · rename_i hr
      obtain ⟨r1, r2⟩ := read_ok _ hr
      have := prgA_text s d (p + 7) _ l h (by omega) (by
        rw [progA_append, ha, Option.bind_some, if_pos r1, r2, ext_join s p (by omega)])
      rw [show p + 7 * (d + 1) = p + 7 + 7 * d from by omega]
      exact this
    · exact absurd h (by simp)
def prgEnd : Option (List S25) → List S25 × Bool
  | some l => (l, true)
  | none => ([], false)
def readProg (s : ByteArray) : List S25 × Bool := if s.size % 7 = 0 ∧ 1 ≤ s.size / 7 ∧ s.size / 7 ≤ 400 then prgEnd (prgA s (s.size / 7) 0 []) else ([], false)
theorem impl_ReadProgram_l0 (s : ByteArray) (hs : s.size ≤ 1048576) (d : Nat) : ∀ (p : Nat) (acc : List S25), p + 7 * d = s.size → acc.length + d ≤ 1000000 →
    Ev (fun k => impl_ReadProgram.l0 k s acc (p : Int)) (prgEnd (prgA s d p acc)) := by
  induction d with
  | zero =>
    intro p acc hp ha
    refine Ev.step (f := fun _ => some (acc, true)) (fun k => ?_) (Math.Ev.const rfl)
    show impl_ReadProgram.l0 (k + 1) s acc _ = _
    rw [impl_ReadProgram.l0, if_neg (by omega)]
  | succ d ih =>
    intro p acc hp ha
    have e7 : PLift (wrap64 ((p : Int) + 7) = ((p + 7 : Nat) : Int)) := ⟨by rw [Math.wrap_in (by omega) (by omega)]; omega⟩
    refine Ev.step (f := fun k => (impl_ReadIns.f k (s.extract p (p + 7))).bind fun bt176 => (if bt176.2.2.2.2 = true then (impl_ReadProgram.l0 k s (acc ++ [word bt176]) ((p + 7 : Nat) : Int)) else (some ([], false)))) (fun k => ?_) ?_
    · show impl_ReadProgram.l0 (k + 1) s acc _ = _
      rw [impl_ReadProgram.l0, if_pos (by omega), if_pos (by omega), e7.down, if_pos (by omega), if_pos (by omega), Int.toNat_natCast, Int.toNat_natCast]
      congr 1
      funext bt176
      rw [if_pos (show acc.length < 4398046511104 by omega)]
      rfl
    · refine Ev.bind (f := fun k bt176 => (if bt176.2.2.2.2 = true then (impl_ReadProgram.l0 k s (acc ++ [word bt176]) ((p + 7 : Nat) : Int)) else (some ([], false)))) (impl_ReadIns_ev (s.extract p (p + 7))) ?_
      simp only [prgA]
      by_cases c : (readIns (s.extract p (p + 7))).2.2.2.2 = true
      · rw [if_pos c]
        exact Ev.congr (fun k => if_pos c) (ih (p + 7) _ (by omega) (by rw [List.length_append, List.length_singleton]; omega))
      · rw [if_neg c]
        exact Ev.congr (f := fun _ => some ([], false)) (fun k => if_neg c) (Math.Ev.const rfl)
theorem impl_ReadProgram_ev (s : ByteArray) (hs : s.size ≤ 1048576) : Ev (fun k => impl_ReadProgram.f k s) (readProg s) := by
  unfold readProg
  have hno : Ev (fun k => impl_ReadProgram.j0 k s true) ([], false) := Ev.step (f := fun _ => some ([], false)) (fun k => by rw [impl_ReadProgram.j0, if_pos rfl]) (Math.Ev.const rfl)
  by_cases c7 : s.size % 7 = 0
  · have ew : PLift (wrap64 ((s.size : Int) / 7) = ((s.size / 7 : Nat) : Int)) := ⟨by rw [Math.wrap_in (by omega) (by omega)]; omega⟩
    refine Ev.congr (f := fun k => impl_ReadProgram.j0 k s (!decide (1 ≤ ((s.size / 7 : Nat) : Int) ∧ ((s.size / 7 : Nat) : Int) ≤ 400))) (fun k => ?_) ?_
    · show impl_ReadProgram.f k s = _
      unfold impl_ReadProgram.f
      rw [if_pos (by omega), ew.down, impl_within_is, Option.bind_some]
    · by_cases c : 1 ≤ s.size / 7 ∧ s.size / 7 ≤ 400
      · rw [if_pos ⟨c7, c⟩, decide_eq_true (by omega)]
        refine Ev.step (fun k => by rw [impl_ReadProgram.j0, if_neg (by decide)]) ?_
        exact impl_ReadProgram_l0 s hs (s.size / 7) 0 [] (by omega) (by rw [List.length_nil]; omega)
      · rw [if_neg (fun e => c e.2), decide_eq_false (by omega)]
        exact hno
  · rw [if_neg (fun e => c7 e.1)]
    refine Ev.congr (f := fun k => impl_ReadProgram.j0 k s true) (fun k => ?_) hno
    show impl_ReadProgram.f k s = _
    unfold impl_ReadProgram.f
    rw [if_neg (by omega)]
def backEnd (s : ByteArray) : Option (List S25) → List S25 × Bool
  | some l => if (progText l).2 = true ∧ (progText l).1 = s then (l, true) else ([], false)
  | none => ([], false)
theorem spec_ReadProgram_l0 (s : ByteArray) (hs : s.size ≤ 1048576) (m : Nat) (hm : 7 * m ≤ s.size) (hm2 : m ≤ 401) (hm3 : m = 401 ∨ s.size < 7 * m + 7) (d : Nat) : ∀ (i : Nat) (acc : List S25), i + d = m → acc.length = i →
    Ev (fun k => spec_ReadProgram.l0 k s acc ((7 * i : Nat) : Int)) (backEnd s (prgA s d (7 * i) acc)) := by
  have e7 : ∀ i : Nat, i ≤ 401 → PLift (wrap64 (((7 * i : Nat) : Int) + 7) = ((7 * i + 7 : Nat) : Int)) := fun i hi => ⟨by rw [Math.wrap_in (by omega) (by omega)]; omega⟩
  induction d with
  | zero =>
    intro i acc hi ha
    refine Ev.step (f := fun k => spec_ReadProgram.j1 k s acc ((7 * i : Nat) : Int) false) (fun k => ?_) ?_
    · show spec_ReadProgram.l0 (k + 1) s acc _ = _
      rw [spec_ReadProgram.l0, (e7 i (by omega)).down]
      by_cases c : ((7 * i + 7 : Nat) : Int) ≤ (s.size : Int)
      · rw [if_pos c, decide_eq_false (by omega)]
      · rw [if_neg c]
    · refine Ev.step (f := fun k => (spec_ProgramText.f k acc).bind fun bt145 => (if bt145.2 = true then (if bt145.1.toList = s.toList then (some (acc, true)) else (some ([], false))) else (some ([], false)))) (fun k => ?_) ?_
      · show spec_ReadProgram.j1 (k + 1) s acc _ _ = _
        rw [spec_ReadProgram.j1, if_neg (by decide)]
      · refine Ev.bind (f := fun _ (bt145 : ByteArray × Bool) => (if bt145.2 = true then (if bt145.1.toList = s.toList then (some (acc, true)) else (some ([], false))) else (some ([], false)))) (spec_ProgramText_ev acc (by omega)) (Math.Ev.const ?_)
        show _ = some (if (progText acc).2 = true ∧ (progText acc).1 = s then (acc, true) else ([], false))
        by_cases c : (progText acc).2 = true
        · rw [if_pos c]
          by_cases c2 : (progText acc).1 = s
          · rw [if_pos (Math.str_eq.2 c2), if_pos ⟨c, c2⟩]
          · rw [if_neg (fun e => c2 (Math.str_eq.1 e)), if_neg (fun e => c2 e.2)]
        · rw [if_neg c, if_neg (fun e => c e.1)]
  | succ d ih =>
    intro i acc hi ha
    refine Ev.step (f := fun k => spec_ReadProgram.j1 k s acc ((7 * i : Nat) : Int) true) (fun k => ?_) ?_
    · show spec_ReadProgram.l0 (k + 1) s acc _ = _
      rw [spec_ReadProgram.l0, (e7 i (by omega)).down, if_pos (by omega), decide_eq_true (by omega)]
    · refine Ev.step (f := fun k => (spec_ReadIns.f k (s.extract (7 * i) (7 * i + 7))).bind fun bt176 => (if bt176.2.2.2.2 = true then (spec_ReadProgram.l0 k s (acc ++ [word bt176]) ((7 * i + 7 : Nat) : Int)) else (some ([], false)))) (fun k => ?_) ?_
      · show spec_ReadProgram.j1 (k + 1) s acc _ _ = _
        rw [spec_ReadProgram.j1, if_pos rfl, (e7 i (by omega)).down, if_pos (by omega), if_pos (by omega), if_pos (by omega), Int.toNat_natCast, Int.toNat_natCast]
        congr 1
        funext bt176
        rw [if_pos (show acc.length < 4398046511104 by omega)]
        rfl
      · refine Ev.bind (f := fun k bt176 => (if bt176.2.2.2.2 = true then (spec_ReadProgram.l0 k s (acc ++ [word bt176]) ((7 * i + 7 : Nat) : Int)) else (some ([], false)))) (spec_ReadIns_ev (s.extract (7 * i) (7 * i + 7))) ?_
        simp only [prgA]
        by_cases c : (readIns (s.extract (7 * i) (7 * i + 7))).2.2.2.2 = true
        · rw [if_pos c]
          exact Ev.congr (fun k => if_pos c) (ih (i + 1) _ (by omega) (by rw [List.length_append, List.length_singleton]; omega))
        · rw [if_neg c]
          exact Ev.congr (f := fun _ => some ([], false)) (fun k => if_neg c) (Math.Ev.const rfl)
theorem spec_ReadProgram_ev (s : ByteArray) (hs : s.size ≤ 1048576) : Ev (fun k => spec_ReadProgram.f k s) (readProg s) := by
  have key : ∀ m, 7 * m ≤ s.size → m ≤ 401 → (m = 401 ∨ s.size < 7 * m + 7) → Ev (fun k => spec_ReadProgram.f k s) (backEnd s (prgA s m 0 [])) := fun m h1 h2 h3 => spec_ReadProgram_l0 s hs m h1 h2 h3 m 0 [] (by omega) rfl
  unfold readProg
  have hfail : ∀ m, 7 * m ≤ s.size → (m = 0 ∨ 400 < m ∨ 7 * m < s.size) → backEnd s (prgA s m 0 []) = ([], false) := by
    intro m h1 h2
    cases hp : prgA s m 0 [] with
    | none => rfl
    | some l =>
      have hl := prgA_len s m 0 [] l hp
      rw [List.length_nil, Nat.zero_add] at hl
      have ht := prgA_text s m 0 [] l hp (by omega) (by
        have : s.extract 0 0 = (⟨#[]⟩ : ByteArray) := by
          apply Math.str_eq.1
          rw [Lib.toList_data, Lib.toList_data, ext_data]
          rfl
        rw [this]
        rfl)
      show (if (progText l).2 = true ∧ (progText l).1 = s then (l, true) else ([], false)) = _
      rw [if_neg]
      rintro ⟨e1, e2⟩
      unfold progText at e1 e2
      by_cases c : 1 ≤ l.length ∧ l.length ≤ 400
      · rw [if_pos c, ht] at e2
        have := congrArg ByteArray.size e2
        simp only [progEnd, ByteArray.size_extract] at this
        omega
      · rw [if_neg c] at e1
        exact absurd e1 (by decide)
  by_cases c : s.size % 7 = 0 ∧ 1 ≤ s.size / 7 ∧ s.size / 7 ≤ 400
  · rw [if_pos c]
    have h := key (s.size / 7) (by omega) (by omega) (by omega)
    cases hp : prgA s (s.size / 7) 0 [] with
    | none => rw [hp] at h; exact h
    | some l =>
      rw [hp] at h
      have hl := prgA_len s _ 0 [] l hp
      rw [List.length_nil, Nat.zero_add] at hl
      have ht := prgA_text s _ 0 [] l hp (by omega) (by
        have : s.extract 0 0 = (⟨#[]⟩ : ByteArray) := by
          apply Math.str_eq.1
          rw [Lib.toList_data, Lib.toList_data, ext_data]
          rfl
        rw [this]
        rfl)
      have hs2 : s.extract 0 (0 + 7 * (s.size / 7)) = s := by
        apply Math.str_eq.1
        rw [Lib.toList_data, Lib.toList_data, ext_data, List.drop_zero]
        exact List.take_of_length_le (by rw [Math.size_data]; omega)
      rw [hs2] at ht
      have e : backEnd s (some l) = (l, true) := by
        show (if (progText l).2 = true ∧ (progText l).1 = s then (l, true) else ([], false)) = _
        unfold progText
        rw [if_pos (show 1 ≤ l.length ∧ l.length ≤ 400 from by omega), ht]
        simp [progEnd]
      rw [e] at h
      exact h
  · rw [if_neg c]
    by_cases c4 : s.size / 7 ≤ 400
    · have h := key (s.size / 7) (by omega) (by omega) (by omega)
      rw [hfail _ (by omega) (by omega)] at h
      exact h
    · have h := key 401 (by omega) (by omega) (by omega)
      rw [hfail _ (by omega) (by omega)] at h
      exact h
theorem readProg_len (s : ByteArray) : (readProg s).1.length ≤ 400 := by
  unfold readProg
  split
  · rename_i c
    cases hp : prgA s (s.size / 7) 0 [] with
    | none => simp [prgEnd]
    | some l =>
      have hl := prgA_len s _ 0 [] l hp
      rw [List.length_nil, Nat.zero_add] at hl
      simp only [prgEnd]
      omega
  · simp
theorem impl_InsText_ev (o c y n : Int) : Ev (fun k => impl_InsText.f k o c y n) (insText o c y n) := by
  refine Ev.congr (fun k => by unfold impl_InsText.f; rfl) ?_
  refine Ev.bind (f := fun _ t116 => (if t116 = true then ((some (([o % 256, y % 256, n % 256] : List Int) : List Int)).bind fun y117 => ((impl_four.f c).bind fun t120 => (if (strOfNums y117).size + t120.size ≤ 9223372036854775807 then (some ((strOfNums y117) ++ t120, true)) else (none)))) else (some ((⟨#[]⟩ : ByteArray), false)))) (impl_InsOk_ev o c y n) (Math.Ev.const ?_)
  unfold insText
  by_cases h : InsP o c y n
  · rw [if_pos (decide_eq_true h), if_pos h]
    show (if (strOfNums [o % 256, y % 256, n % 256]).size + (Math.fourS c).size ≤ 9223372036854775807 then (some ((strOfNums [o % 256, y % 256, n % 256]) ++ (Math.fourS c), true)) else (none)) = _
    rw [if_pos (by rw [Math.fourS_size, strOfNums_size, show ([o % 256, y % 256, n % 256] : List Int).length = 3 from rfl]; omega)]
    rfl
  · rw [if_neg (by rw [decide_eq_false h]; decide), if_neg h]
theorem impl_ProgramText_l0 (l : List S25) (hl : l.length ≤ 2000000) (d : Nat) : ∀ (i : Nat) (acc : ByteArray), i + d = l.length → acc.size ≤ 7 * i →
    Ev (fun k => impl_ProgramText.l0 k acc l (l.length : Int) (i : Int)) (progEnd (progA (l.drop i) acc)) := by
  induction d with
  | zero =>
    intro i acc hi ha
    rw [List.drop_eq_nil_of_le (by omega)]
    refine Ev.step (f := fun _ => some (progEnd (progA [] acc))) (fun k => ?_) (Math.Ev.const rfl)
    show impl_ProgramText.l0 (k + 1) acc l _ _ = _
    rw [impl_ProgramText.l0, if_neg (by omega)]
    rfl
  | succ d ih =>
    intro i acc hi ha
    have hlt : i < l.length := by omega
    rw [List.drop_eq_getElem_cons hlt]
    simp only [progA]
    refine Ev.step (f := fun k => (impl_InsText.f k l[i].f0 l[i].f1 l[i].f2 l[i].f3).bind fun bt119 => (if bt119.2 = true then (if acc.size + bt119.1.size ≤ 9223372036854775807 then (impl_ProgramText.l0 k (acc ++ bt119.1) l (l.length : Int) ((i + 1 : Nat) : Int)) else (none)) else (some ((⟨#[]⟩ : ByteArray), false)))) (fun k => ?_) ?_
    · show impl_ProgramText.l0 (k + 1) acc l _ _ = _
      rw [impl_ProgramText.l0, if_pos (by omega), if_pos (by omega), if_pos (by omega), rd_at l i hlt, show wrap64 ((i : Int) + 1) = ((i + 1 : Nat) : Int) from by rw [Math.wrap_in (by omega) (by omega)]; omega]
    · refine Ev.bind (f := fun k (bt119 : ByteArray × Bool) => (if bt119.2 = true then (if acc.size + bt119.1.size ≤ 9223372036854775807 then (impl_ProgramText.l0 k (acc ++ bt119.1) l (l.length : Int) ((i + 1 : Nat) : Int)) else (none)) else (some ((⟨#[]⟩ : ByteArray), false)))) (impl_InsText_ev _ _ _ _) ?_
      unfold insText
      by_cases c : InsP l[i].f0 l[i].f1 l[i].f2 l[i].f3
      · rw [if_pos c, if_pos c]
        have hsz := insS_size l[i].f0 l[i].f1 l[i].f2 l[i].f3
        have hsz2 : acc.size + (insS l[i].f0 l[i].f1 l[i].f2 l[i].f3).size ≤ 9223372036854775807 := by omega
        refine Ev.congr (fun k => (if_pos rfl).trans (if_pos hsz2)) ?_
        exact ih (i + 1) _ (by omega) (by rw [Math.size_append, hsz]; omega)
      · rw [if_neg c, if_neg c]
        exact Math.Ev.const rfl
theorem impl_ProgramText_ev (l : List S25) (hl : l.length ≤ 2000000) : Ev (fun k => impl_ProgramText.f k l) (progText l) := by
  refine Ev.congr (fun k => by unfold impl_ProgramText.f; rw [impl_within_is, Option.bind_some]) ?_
  unfold progText
  by_cases c : 1 ≤ l.length ∧ l.length ≤ 400
  · rw [if_pos c]
    refine Ev.congr (fun k => if_pos (decide_eq_true (by omega))) ?_
    exact impl_ProgramText_l0 l hl l.length 0 _ (by omega) (by decide)
  · rw [if_neg c]
    exact Ev.congr (f := fun _ => some ((⟨#[]⟩ : ByteArray), false)) (fun k => by rw [decide_eq_false (by omega)]; rfl) (Math.Ev.const rfl)
def resultOf (a b : Int) : Int := if (0 ≤ a ∧ a ≤ 5) ∧ (0 ≤ b ∧ b ≤ 65535) then 65536 * a + b else 0
theorem spec_ResultOf_is (a b : Int) : spec_ResultOf.f a b = some (resultOf a b) := by
  unfold spec_ResultOf.f resultOf
  rw [spec_l01In_is, spec_l01In_is, Option.bind_some, Option.bind_some]
  by_cases h : 0 ≤ a ∧ a ≤ 5
  · rw [if_pos (decide_eq_true h)]
    by_cases h2 : 0 ≤ b ∧ b ≤ 65535
    · rw [if_pos (decide_eq_true h2), if_pos ⟨h, h2⟩, Math.wrap_in (n := 65536 * a) (by omega) (by omega), Math.wrap_in (by omega) (by omega)]
    · rw [if_neg (by rw [decide_eq_false h2]; decide), if_neg (fun e => h2 e.2)]
  · rw [if_neg (by rw [decide_eq_false h]; decide), if_neg (fun e => h e.1)]
theorem new_l0 (l : List Int) (hl : l.length ≤ 2000000) (d : Nat) : ∀ (i : Nat) (x : Int), i + d = l.length → ∃ h, Ev (fun k => spec_l01New.l0 k l x (i : Int)) (l, 0, h) := by
  induction d with
  | zero =>
    intro i x hi
    refine ⟨x, Ev.step (f := fun _ => some (l, 0, x)) (fun k => ?_) (Math.Ev.const rfl)⟩
    show spec_l01New.l0 (k + 1) l x _ = _
    rw [spec_l01New.l0, if_neg (by omega)]
  | succ d ih =>
    intro i x hi
    by_cases c : (i : Int) < 4000
    · obtain ⟨h, hh⟩ := ih (i + 1) (Go.bits .and .i64 (wrap64 ((wrap64 ((wrap64 (x * 131)) + (wrap64 (rd l (i : Int))))) + 7)) 1073741823) (by omega)
      refine ⟨h, Ev.step (fun k => ?_) hh⟩
      show spec_l01New.l0 (k + 1) l x _ = _
      rw [spec_l01New.l0, if_pos (by omega), if_pos c, if_pos (by omega), show wrap64 ((i : Int) + 1) = ((i + 1 : Nat) : Int) from by rw [Math.wrap_in (by omega) (by omega)]; omega]
    · refine ⟨x, Ev.step (f := fun _ => some (l, 0, x)) (fun k => ?_) (Math.Ev.const rfl)⟩
      show spec_l01New.l0 (k + 1) l x _ = _
      rw [spec_l01New.l0, if_pos (by omega), if_neg c]
theorem new_ev (l : List Int) (hl : l.length ≤ 2000000) : ∃ h, Ev (fun k => spec_l01New.f k l) (l, 0, h) := new_l0 l hl l.length 0 _ (by omega)
def Cur (l : List Int) (i : Int) : Prop := 0 ≤ i ∧ i ≤ l.length ∧ l.length ≤ 2000000
theorem byte_ok {l : List Int} {i : Int} (c : Cur l i) (h : Int) : ∃ x i' h', spec_l01Byte.f l i h = some (x, i', h') ∧ Cur l i' ∧ 0 ≤ x ∧ x ≤ 255 := by
  unfold Cur at c
  unfold spec_l01Byte.f
  by_cases hlt : i < (l.length : Int)
  · rw [if_pos hlt, if_pos c.1]
    refine ⟨_, _, _, rfl, ?_, Math.and255 _⟩
    unfold Cur
    rw [Math.wrap_in (n := i + 1) (by omega) (by omega)]
    omega
  · rw [if_neg hlt]
    exact ⟨_, _, _, rfl, c, Math.and255 _⟩
theorem below_ok {l : List Int} {i : Int} (c : Cur l i) (h : Int) (n : Int) : ∃ x i' h', spec_l01Below.f l i h n = some (x, i', h') ∧ Cur l i' ∧ 0 ≤ x ∧ (0 < n → x < n) ∧ (n ≤ 0 → x = 0) := by
  unfold spec_l01Below.f
  by_cases h0 : n ≤ 0
  · rw [if_pos h0]
    exact ⟨0, i, h, rfl, c, by omega, by omega, fun _ => rfl⟩
  · rw [if_neg h0]
    by_cases h1 : n ≤ 256
    · rw [if_pos h1]
      obtain ⟨x, i1, g1, e1, c1, x0, x1⟩ := byte_ok c h
      rw [e1, Option.bind_some, if_neg (by omega)]
      refine ⟨_, i1, g1, rfl, c1, ?_, fun _ => ?_, fun e => absurd e h0⟩
      · exact Int.tmod_nonneg _ x0
      · exact Int.tmod_lt_of_pos _ (by omega)
    · rw [if_neg h1]
      obtain ⟨x, i1, g1, e1, c1, x0, x1⟩ := byte_ok c h
      obtain ⟨y, i2, g2, e2, c2, y0, y1⟩ := byte_ok c1 g1
      obtain ⟨z, i3, g3, e3, c3, z0, z1⟩ := byte_ok c2 g2
      obtain ⟨u, i4, g4, e4, c4, u0, u1⟩ := byte_ok c3 g3
      rw [e1, Option.bind_some, e2, Option.bind_some, e3, Option.bind_some, e4, Option.bind_some, if_neg (by omega)]
      rw [Math.wrap_in (n := x * 16777216) (by omega) (by omega), Math.wrap_in (n := y * 65536) (by omega) (by omega), Math.wrap_in (n := z * 256) (by omega) (by omega)]
      rw [Math.wrap_in (n := x * 16777216 + y * 65536) (by omega) (by omega)]
      rw [Math.wrap_in (n := x * 16777216 + y * 65536 + z * 256) (by omega) (by omega)]
      rw [Math.wrap_in (n := x * 16777216 + y * 65536 + z * 256 + u) (by omega) (by omega)]
      refine ⟨_, i4, g4, rfl, c4, ?_, fun _ => ?_, fun e => absurd e h0⟩
      · exact Int.tmod_nonneg _ (by omega)
      · exact Int.tmod_lt_of_pos _ (by omega)
theorem pickInt_ok {l : List Int} {i : Int} (c : Cur l i) (h : Int) (xs : List Int) (hx : 0 < xs.length) : ∃ x i' h', spec_l01PickInt.f l i h xs = some (x, i', h') ∧ Cur l i' ∧ x ∈ xs := by
  unfold spec_l01PickInt.f
  obtain ⟨x, i1, g1, e1, c1, x0, x1, _⟩ := below_ok c h (xs.length : Int)
  have hlt := x1 (by omega)
  rw [e1, Option.bind_some, if_pos x0, if_pos hlt]
  refine ⟨_, _, _, rfl, c1, ?_⟩
  unfold rd
  rw [List.getD_eq_getElem?_getD, List.getElem?_eq_getElem (by omega)]
  exact List.getElem_mem _
theorem cur0 {l : List Int} (hl : l.length ≤ 2000000) : Cur l 0 := ⟨by omega, by omega, hl⟩
theorem half_ok {l : List Int} {i : Int} (c : Cur l i) (h : Int) : ∃ x i' h', spec_l04Half.f l i h = some (x, i', h') ∧ Cur l i' ∧ 0 ≤ x ∧ x ≤ 4294967295 := by
  unfold spec_l04Half.f
  obtain ⟨b, i1, g1, e1, c1, b0, b1, _⟩ := below_ok c h 12
  obtain ⟨x, i2, g2, e2, c2, hx⟩ := pickInt_ok c1 g1 [0, 1, 2, 3, 5, 7, 255, 4294967295, 2147483648, b] (by simp)
  rw [e1, Option.bind_some, e2, Option.bind_some]
  have hb := b1 (by omega)
  refine ⟨_, _, _, rfl, c2, ?_⟩
  simp only [List.mem_cons, List.not_mem_nil, or_false] at hx
  omega
theorem big_is (l : List Int) : laws_big.f l = some (decide ((l.length : Int) > 1048576)) := rfl
theorem text_l0 {l : List Int} (n d : Nat) (hn : n ≤ 5000) : ∀ (j : Nat) (acc : List Int) (i h : Int), j + d = n → acc.length ≤ j → Cur l i → ∃ s i' h', Ev (fun k => spec_l01Text.l0 k (n : Int) acc (j : Int) l i h) (s, i', h') ∧ Cur l i' ∧ s.size = acc.length + d := by
  induction d with
  | zero =>
    intro j acc i h hj ha c
    refine ⟨strOfNums acc, i, h, Ev.step (f := fun _ => some (strOfNums acc, i, h)) (fun k => ?_) (Math.Ev.const rfl), c, by rw [strOfNums_size]; omega⟩
    show spec_l01Text.l0 (k + 1) _ acc _ l i h = _
    rw [spec_l01Text.l0, if_neg (by omega)]
  | succ d ih =>
    intro j acc i h hj ha c
    obtain ⟨x, i1, g1, e1, c1, x0, x1⟩ := byte_ok c h
    obtain ⟨s, i', h', hs, c', hz⟩ := ih (j + 1) (acc ++ [x % 256]) i1 g1 (by omega) (by rw [List.length_append, List.length_singleton]; omega) c1
    rw [List.length_append, List.length_singleton] at hz
    refine ⟨s, i', h', Ev.step (fun k => ?_) hs, c', by omega⟩
    show spec_l01Text.l0 (k + 1) _ acc _ l i h = _
    rw [spec_l01Text.l0, if_pos (by omega), e1, Option.bind_some, if_pos (by omega), show wrap64 ((j : Int) + 1) = ((j + 1 : Nat) : Int) from by rw [Math.wrap_in (by omega) (by omega)]; omega]
theorem text_ok {l : List Int} {i : Int} (c : Cur l i) (h : Int) (n : Nat) (hn : n ≤ 5000) : ∃ s i' h', Ev (fun k => spec_l01Text.f k l i h (n : Int)) (s, i', h') ∧ Cur l i' ∧ s.size = n := by
  obtain ⟨s, i', h', hs, c', hz⟩ := text_l0 n n hn 0 [] i h (by omega) (by simp) c
  have e : Ev (fun k => spec_l01Text.j0 k (n : Int) l i h) (s, i', h') := Ev.step (f := fun k => spec_l01Text.l0 k (n : Int) [] ((0 : Nat) : Int) l i h) (fun k => rfl) hs
  exact ⟨s, i', h', Ev.congr (fun k => by unfold spec_l01Text.f; rw [if_neg (by omega)]) e, c', by simpa using hz⟩
theorem ins_ok {l : List Int} {i : Int} (c : Cur l i) (h : Int) : ∃ o k y n i' h', Ev (fun m => spec_l06Ins.f m l i h) (o, k, y, n, i', h') ∧ Cur l i' ∧ InsP o k y n := by
  obtain ⟨b, i1, g1, e1, c1, b0, b1, _⟩ := below_ok c h 8
  have hb := b1 (by omega)
  obtain ⟨hf, i2, g2, e2, c2, f0, f1⟩ := half_ok c1 g1
  have ew : PLift (wrap64 (1 + b) = 1 + b) := ⟨Math.wrap_in (by omega) (by omega)⟩
  refine (?_ : ∃ o k y n i' h', Ev (fun m => if 1 + b = 1 then ((spec_l01Below.f l i2 g2 8).bind fun bt141 => (some (1 + b, bt141.1, 0, 0, bt141.2.1, bt141.2.2))) else (if 1 + b = 7 then ((spec_l01Below.f l i2 g2 4).bind fun bt144 => (some (1 + b, bt144.1, 0, 0, bt144.2.1, bt144.2.2))) else (if 1 + b = 3 then (spec_l06Ins.j0 m (1 + b) ((1 + b) == 3) l i2 g2 (1 + b) hf 0 0) else (if 1 + b = 4 then (spec_l06Ins.j0 m (1 + b) ((1 + b) == 4) l i2 g2 (1 + b) hf 0 0) else (if 1 + b = 5 then (spec_l06Ins.j0 m (1 + b) ((1 + b) == 5) l i2 g2 (1 + b) hf 0 0) else (spec_l06Ins.j0 m (1 + b) ((1 + b) == 6) l i2 g2 (1 + b) hf 0 0)))))) (o, k, y, n, i', h') ∧ Cur l i' ∧ InsP o k y n).imp fun o ⟨k, y, n, i', h', q, r⟩ => ⟨k, y, n, i', h', Ev.congr (fun m => by unfold spec_l06Ins.f; rw [e1, Option.bind_some, e2, Option.bind_some, ew.down]) q, r⟩
  have ask : ∀ o : Int, 3 ≤ o → o ≤ 6 → ∃ o' k y n i' h', Ev (fun m => spec_l06Ins.j0 m o true l i2 g2 o hf 0 0) (o', k, y, n, i', h') ∧ Cur l i' ∧ InsP o' k y n := by
    intro o ho ho2
    obtain ⟨y, i3, g3, e3, c3, y0, y1, _⟩ := below_ok c2 g2 4
    obtain ⟨n, i4, g4, e4, c4, n0, n1, _⟩ := below_ok c3 g3 4
    have := y1 (by omega)
    have := n1 (by omega)
    refine ⟨o, hf, y, n, i4, g4, Ev.step (f := fun _ => some (o, hf, y, n, i4, g4)) (fun m => ?_) (Math.Ev.const rfl), c4, by unfold InsP; omega⟩
    rw [spec_l06Ins.j0, if_pos rfl, e3, Option.bind_some, e4, Option.bind_some]
  by_cases h1 : 1 + b = 1
  · obtain ⟨k, i3, g3, e3, c3, k0, k1, _⟩ := below_ok c2 g2 8
    have := k1 (by omega)
    exact ⟨1 + b, k, 0, 0, i3, g3, Ev.congr (f := fun _ => some (1 + b, k, 0, 0, i3, g3)) (fun m => by rw [if_pos h1, e3]; rfl) (Math.Ev.const rfl), c3, by unfold InsP; omega⟩
  · by_cases h7 : 1 + b = 7
    · obtain ⟨k, i3, g3, e3, c3, k0, k1, _⟩ := below_ok c2 g2 4
      have := k1 (by omega)
      exact ⟨1 + b, k, 0, 0, i3, g3, Ev.congr (f := fun _ => some (1 + b, k, 0, 0, i3, g3)) (fun m => by rw [if_neg h1, if_pos h7, e3]; rfl) (Math.Ev.const rfl), c3, by unfold InsP; omega⟩
    · by_cases h3 : 1 + b = 3
      · obtain ⟨o, k, y, n, i3, g3, q, r⟩ := ask (1 + b) (by omega) (by omega)
        exact ⟨o, k, y, n, i3, g3, Ev.congr (fun m => by rw [if_neg h1, if_neg h7, if_pos h3, show ((1 + b) == 3) = true from by simpa using h3]) q, r⟩
      · by_cases h4 : 1 + b = 4
        · obtain ⟨o, k, y, n, i3, g3, q, r⟩ := ask (1 + b) (by omega) (by omega)
          exact ⟨o, k, y, n, i3, g3, Ev.congr (fun m => by rw [if_neg h1, if_neg h7, if_neg h3, if_pos h4, show ((1 + b) == 4) = true from by simpa using h4]) q, r⟩
        · by_cases h5 : 1 + b = 5
          · obtain ⟨o, k, y, n, i3, g3, q, r⟩ := ask (1 + b) (by omega) (by omega)
            exact ⟨o, k, y, n, i3, g3, Ev.congr (fun m => by rw [if_neg h1, if_neg h7, if_neg h3, if_neg h4, if_pos h5, show ((1 + b) == 5) = true from by simpa using h5]) q, r⟩
          · by_cases h6 : 1 + b = 6
            · obtain ⟨o, k, y, n, i3, g3, q, r⟩ := ask (1 + b) (by omega) (by omega)
              exact ⟨o, k, y, n, i3, g3, Ev.congr (fun m => by rw [if_neg h1, if_neg h7, if_neg h3, if_neg h4, if_neg h5, show ((1 + b) == 6) = true from by simpa using h6]) q, r⟩
            · have hno : ((1 + b) == 6) = false := by simpa using h6
              by_cases h8 : 1 + b = 8
              · obtain ⟨x, i3, g3, e3, c3, x0, x1, _⟩ := below_ok c2 g2 6
                obtain ⟨y, i4, g4, e4, c4, y0, y1, _⟩ := below_ok c3 g3 5
                have := x1 (by omega)
                have := y1 (by omega)
                have hr : resultOf x y = 65536 * x + y := by unfold resultOf; rw [if_pos (by omega)]
                refine ⟨1 + b, resultOf x y, 0, 0, i4, g4, Ev.congr (fun m => by rw [if_neg h1, if_neg h7, if_neg h3, if_neg h4, if_neg h5, hno]) (Ev.step (f := fun _ => some (1 + b, resultOf x y, 0, 0, i4, g4)) (fun m => ?_) (Math.Ev.const rfl)), c4, by rw [hr]; unfold InsP; omega⟩
                rw [spec_l06Ins.j0, if_neg (by decide), if_pos h8, e3, Option.bind_some, e4, Option.bind_some, spec_ResultOf_is, Option.bind_some]
              · refine ⟨1 + b, hf, 0, 0, i2, g2, Ev.congr (fun m => by rw [if_neg h1, if_neg h7, if_neg h3, if_neg h4, if_neg h5, hno]) (Ev.step (f := fun _ => some (1 + b, hf, 0, 0, i2, g2)) (fun m => ?_) (Math.Ev.const rfl)), c2, by unfold InsP; omega⟩
                rw [spec_l06Ins.j0, if_neg (by decide), if_neg h8]
theorem insP_less {o k y n m : Int} (h : InsP o k y n) (hm : 1 ≤ m) : (o = 7 → InsP o (Int.tmod k m) y n) ∧ ((3 ≤ o ∧ o ≤ 6) → InsP o k (Int.tmod y m) (Int.tmod n m)) := by
  unfold InsP at h ⊢
  have low : ∀ x : Int, 0 ≤ x → 0 ≤ Int.tmod x m ∧ Int.tmod x m ≤ x := by
    intro x hx
    obtain ⟨a, rfl⟩ := Int.eq_ofNat_of_zero_le hx
    obtain ⟨b, rfl⟩ := Int.eq_ofNat_of_zero_le (show 0 ≤ m by omega)
    have h9 : Int.tmod (a : Int) (b : Int) = ((a % b : Nat) : Int) := rfl
    have h8 := Nat.mod_le a b
    omega
  have h1 := low k (by omega)
  have h2 := low y (by omega)
  have h3 := low n (by omega)
  generalize Int.tmod k m = k' at *
  generalize Int.tmod y m = y' at *
  generalize Int.tmod n m = n' at *
  omega
theorem program_l0 {l : List Int} (nn : Nat) (hn : nn ≤ 1000) (d : Nat) : ∀ (j : Nat) (acc : List S25) (i h : Int), j + d = nn → acc.length = j → Cur l i → (∀ x ∈ acc, InsP x.f0 x.f1 x.f2 x.f3) →
    ∃ p i' h', Ev (fun k => spec_l06Program.l0 k acc (nn : Int) (j : Int) l i h) (p, i', h') ∧ Cur l i' ∧ p.length = nn + 1 ∧ ∀ x ∈ p, InsP x.f0 x.f1 x.f2 x.f3 := by
  have more : ∀ (acc : List S25) (x : S25), (∀ x ∈ acc, InsP x.f0 x.f1 x.f2 x.f3) → InsP x.f0 x.f1 x.f2 x.f3 → ∀ y ∈ acc ++ [x], InsP y.f0 y.f1 y.f2 y.f3 := by
    intro acc x ha hx y hy
    rcases List.mem_append.1 hy with h | h
    · exact ha y h
    · rw [List.mem_singleton.1 h]
      exact hx
  induction d with
  | zero =>
    intro j acc i h hj ha c hall
    obtain ⟨x, i3, g3, e3, c3, x0, x1, _⟩ := below_ok c h 6
    obtain ⟨y, i4, g4, e4, c4, y0, y1, _⟩ := below_ok c3 g3 5
    have := x1 (by omega)
    have := y1 (by omega)
    have hr : resultOf x y = 65536 * x + y := by unfold resultOf; rw [if_pos (by omega)]
    refine ⟨acc ++ [⟨8, resultOf x y, 0, 0⟩], i4, g4, Ev.step (f := fun _ => some (acc ++ [⟨8, resultOf x y, 0, 0⟩], i4, g4)) (fun k => ?_) (Math.Ev.const rfl), c4, by rw [List.length_append, List.length_singleton]; omega, more _ _ hall (by show InsP 8 (resultOf x y) 0 0; rw [hr]; unfold InsP; omega)⟩
    show spec_l06Program.l0 (k + 1) acc _ _ l i h = _
    rw [spec_l06Program.l0, if_neg (by omega), e3, Option.bind_some, e4, Option.bind_some, spec_ResultOf_is, Option.bind_some, if_pos (show acc.length < 4398046511104 by omega)]
  | succ d ih =>
    intro j acc i h hj ha c hall
    obtain ⟨o, k, y, n, i1, g1, q1, c1, hI⟩ := ins_ok c h
    have el : PLift (wrap64 ((nn : Int) - (j : Int)) = (nn : Int) - (j : Int)) := ⟨Math.wrap_in (by omega) (by omega)⟩
    have ej : PLift (wrap64 ((j : Int) + 1) = ((j + 1 : Nat) : Int)) := ⟨by rw [Math.wrap_in (by omega) (by omega)]; omega⟩
    have hask : spec_l06Ask.f o = some (decide (3 ≤ o ∧ o ≤ 6)) := by unfold spec_l06Ask.f; rw [spec_l01In_is]; rfl
    obtain ⟨l7, la⟩ := insP_less hI (show (1 : Int) ≤ (nn : Int) - (j : Int) by omega)
    have step : ∀ x : S25, InsP x.f0 x.f1 x.f2 x.f3 → (∀ mm, spec_l06Ins.f mm l i h = some (o, k, y, n, i1, g1) → spec_l06Program.l0 (mm + 1) acc (nn : Int) (j : Int) l i h = spec_l06Program.l0 mm (acc ++ [x]) (nn : Int) ((j + 1 : Nat) : Int) l i1 g1) →
        ∃ p i' h', Ev (fun k => spec_l06Program.l0 k acc (nn : Int) (j : Int) l i h) (p, i', h') ∧ Cur l i' ∧ p.length = nn + 1 ∧ ∀ x ∈ p, InsP x.f0 x.f1 x.f2 x.f3 := by
      intro x hx hgo
      obtain ⟨p, i2, g2, q2, c2, hp⟩ := ih (j + 1) (acc ++ [x]) i1 g1 (by omega) (by rw [List.length_append, List.length_singleton]; omega) c1 (more _ _ hall hx)
      refine ⟨p, i2, g2, ?_, c2, hp⟩
      obtain ⟨K1, q1⟩ := q1
      obtain ⟨K2, q2⟩ := q2
      refine ⟨max K1 K2 + 1, fun kk hk => ?_⟩
      obtain ⟨mm, rfl⟩ : ∃ mm, kk = mm + 1 := ⟨kk - 1, by omega⟩
      have w1 := q1 mm (by omega)
      have w2 := q2 mm (by omega)
      exact (hgo mm w1).trans w2
    by_cases h7 : o = 7
    · refine step ⟨o, Int.tmod k ((nn : Int) - (j : Int)), y, n⟩ (l7 h7) (fun mm w => ?_)
      rw [spec_l06Program.l0, if_pos (by omega), el.down, ej.down, w, Option.bind_some]
      dsimp only
      rw [if_pos h7, if_neg (by omega), hask, Option.bind_some, if_neg (by rw [decide_eq_false (by omega)]; decide), if_pos (show acc.length < 4398046511104 by omega)]
    · by_cases h36 : 3 ≤ o ∧ o ≤ 6
      · refine step ⟨o, k, Int.tmod y ((nn : Int) - (j : Int)), Int.tmod n ((nn : Int) - (j : Int))⟩ (la h36) (fun mm w => ?_)
        rw [spec_l06Program.l0, if_pos (by omega), el.down, ej.down, w, Option.bind_some]
        dsimp only
        rw [if_neg h7, hask, Option.bind_some, if_pos (decide_eq_true h36), if_neg (by omega), if_pos (show acc.length < 4398046511104 by omega)]
      · refine step ⟨o, k, y, n⟩ hI (fun mm w => ?_)
        rw [spec_l06Program.l0, if_pos (by omega), el.down, ej.down, w, Option.bind_some]
        dsimp only
        rw [if_neg h7, hask, Option.bind_some, if_neg (by rw [decide_eq_false h36]; decide), if_pos (show acc.length < 4398046511104 by omega)]
theorem program_cur {l : List Int} {i : Int} (c : Cur l i) (h : Int) : ∃ p i' h', Ev (fun k => spec_l06Program.f k l i h) (p, i', h') ∧ Cur l i' ∧ (1 ≤ p.length ∧ p.length ≤ 13) ∧ ∀ x ∈ p, InsP x.f0 x.f1 x.f2 x.f3 := by
  obtain ⟨b, i1, g1, e1, c1, b0, b1, _⟩ := below_ok c h 12
  have hb := b1 (by omega)
  obtain ⟨m, hm⟩ := Int.eq_ofNat_of_zero_le (show 0 ≤ 1 + b by omega)
  obtain ⟨p, i2, g2, q2, c2, hl, hp⟩ := program_l0 m (by omega) m 0 [] i1 g1 (by omega) rfl c1 (fun x hx => by simp at hx)
  refine ⟨p, i2, g2, Ev.congr (fun k => ?_) q2, c2, by omega, hp⟩
  show spec_l06Program.f k l i h = _
  unfold spec_l06Program.f
  rw [e1, Option.bind_some, Math.wrap_in (n := 1 + b) (by omega) (by omega), hm]
  rfl
theorem drawProgram_ev {l : List Int} (hl : l.length ≤ 2000000) : ∃ p : List S25, Ev (fun k => spec_DrawProgram.f k l) p ∧ (1 ≤ p.length ∧ p.length ≤ 13) ∧ ∀ x ∈ p, InsP x.f0 x.f1 x.f2 x.f3 := by
  obtain ⟨h, hnew⟩ := new_ev l hl
  obtain ⟨p, i1, g1, q1, c1, hp⟩ := program_cur (cur0 hl) h
  refine ⟨p, ?_, hp⟩
  refine Ev.congr (fun k => by unfold spec_DrawProgram.f; rfl) ?_
  refine Ev.bind (f := fun k (bt200 : List Int × Int × Int) => ((spec_l06Program.f k bt200.1 bt200.2.1 bt200.2.2).bind fun bt204 => (some bt204.1))) hnew ?_
  exact Ev.bind (f := fun _ (bt204 : List S25 × Int × Int) => (some bt204.1)) q1 (Math.Ev.const rfl)
theorem any_cur {l : List Int} {i : Int} (c : Cur l i) (h : Int) : ∃ p i' h', Ev (fun k => spec_l06Any.f k l i h) (p, i', h') ∧ Cur l i' ∧ p.length ≤ 13 := by
  obtain ⟨a, i1, g1, e1, c1, a0, a1, _⟩ := below_ok c h 12
  obtain ⟨b, i2, g2, e2, c2, b0, b1, _⟩ := below_ok c1 g1 60
  obtain ⟨p, i3, g3, ⟨K, hK⟩, c3, hp, _⟩ := program_cur c2 g2
  have t0 : 0 ≤ Int.tmod b (p.length : Int) := Int.tmod_nonneg _ b0
  have t1 : Int.tmod b (p.length : Int) < (p.length : Int) := Int.tmod_lt_of_pos _ (by omega)
  have s0 : 0 ≤ Int.tmod b 3 := Int.tmod_nonneg _ b0
  have s1 : Int.tmod b 3 < 3 := Int.tmod_lt_of_pos _ (by omega)
  by_cases h0 : a = 0
  · refine ⟨p.set (Int.tmod b (p.length : Int)).toNat ⟨Int.tmod b 10, (rd_T25 p (Int.tmod b (p.length : Int))).f1, (rd_T25 p (Int.tmod b (p.length : Int))).f2, (rd_T25 p (Int.tmod b (p.length : Int))).f3⟩, i3, g3, ⟨K, fun k hk => ?_⟩, c3, by rw [List.length_set]; omega⟩
    have w := hK k hk
    dsimp only at w ⊢
    unfold spec_l06Any.f
    rw [e1, Option.bind_some, e2, Option.bind_some, Option.bind_some, w, Option.bind_some]
    dsimp only
    rw [if_pos (by rw [List.length_nil]; omega), Option.bind_some, List.nil_append, if_neg (by omega), if_pos h0, if_pos t0, if_pos t1]
  · by_cases h1 : a = 1
    · refine ⟨p.set (Int.tmod b (p.length : Int)).toNat ⟨(rd_T25 p (Int.tmod b (p.length : Int))).f0, (rd_T25 p (Int.tmod b (p.length : Int))).f1, rd [15, 16, (-1)] (Int.tmod b 3), (rd_T25 p (Int.tmod b (p.length : Int))).f3⟩, i3, g3, ⟨K, fun k hk => ?_⟩, c3, by rw [List.length_set]; omega⟩
      have w := hK k hk
      dsimp only at w ⊢
      unfold spec_l06Any.f
      rw [e1, Option.bind_some, e2, Option.bind_some, Option.bind_some, w, Option.bind_some]
      dsimp only
      rw [if_pos (by rw [List.length_nil]; omega), Option.bind_some, List.nil_append, if_neg (by omega), if_neg h0, if_pos h1, Option.bind_some, if_pos s0, if_pos (by simp only [List.length_cons, List.length_nil]; omega), if_pos t0, if_pos t1]
    · by_cases h2 : a = 2
      · refine ⟨p.set (Int.tmod b (p.length : Int)).toNat ⟨(rd_T25 p (Int.tmod b (p.length : Int))).f0, rd [(-1), 4294967296, 400] (Int.tmod b 3), (rd_T25 p (Int.tmod b (p.length : Int))).f2, (rd_T25 p (Int.tmod b (p.length : Int))).f3⟩, i3, g3, ⟨K, fun k hk => ?_⟩, c3, by rw [List.length_set]; omega⟩
        have w := hK k hk
        dsimp only at w ⊢
        unfold spec_l06Any.f
        rw [e1, Option.bind_some, e2, Option.bind_some, Option.bind_some, w, Option.bind_some]
        dsimp only
        rw [if_pos (by rw [List.length_nil]; omega), Option.bind_some, List.nil_append, if_neg (by omega), if_neg h0, if_neg h1, if_pos h2, Option.bind_some, if_pos s0, if_pos (by simp only [List.length_cons, List.length_nil]; omega), if_pos t0, if_pos t1]
      · by_cases h3 : a = 3
        · refine ⟨p.take ((p.length : Int) - 1).toNat, i3, g3, ⟨K, fun k hk => ?_⟩, c3, by rw [List.length_take]; omega⟩
          have w := hK k hk
          dsimp only at w ⊢
          unfold spec_l06Any.f
          rw [e1, Option.bind_some, e2, Option.bind_some, Option.bind_some, w, Option.bind_some]
          dsimp only
          rw [if_pos (by rw [List.length_nil]; omega), Option.bind_some, List.nil_append, if_neg (by omega), if_neg h0, if_neg h1, if_neg h2, if_pos h3, Math.wrap_in (n := (p.length : Int) - 1) (by omega) (by omega), if_pos (by omega), if_pos (by omega)]
        · by_cases h4 : a = 4
          · refine ⟨p.set (Int.tmod b (p.length : Int)).toNat ⟨7, Int.tmod b 14, 0, 0⟩, i3, g3, ⟨K, fun k hk => ?_⟩, c3, by rw [List.length_set]; omega⟩
            have w := hK k hk
            dsimp only at w ⊢
            unfold spec_l06Any.f
            rw [e1, Option.bind_some, e2, Option.bind_some, Option.bind_some, w, Option.bind_some]
            dsimp only
            rw [if_pos (by rw [List.length_nil]; omega), Option.bind_some, List.nil_append, if_neg (by omega), if_neg h0, if_neg h1, if_neg h2, if_neg h3, if_pos h4, if_pos t0, if_pos t1]
          · refine ⟨p, i3, g3, ⟨K, fun k hk => ?_⟩, c3, by omega⟩
            have w := hK k hk
            dsimp only at w ⊢
            unfold spec_l06Any.f
            rw [e1, Option.bind_some, e2, Option.bind_some, Option.bind_some, w, Option.bind_some]
            dsimp only
            rw [if_pos (by rw [List.length_nil]; omega), Option.bind_some, List.nil_append, if_neg (by omega), if_neg h0, if_neg h1, if_neg h2, if_neg h3, if_neg h4]
theorem one_text {l : List Int} {i : Int} (c : Cur l i) (h : Int) : ∃ s i' h', Ev (fun k => spec_l01Text.f k l i h 1) (s, i', h') ∧ Cur l i' ∧ s.size = 1 := text_ok c h 1 (by omega)
theorem spoilt_cur {l : List Int} {i : Int} (c : Cur l i) (h : Int) (s : ByteArray) (hs : s.size ≤ 1000000) : ∃ t i' h', Ev (fun k => spec_l02Spoilt.f k l i h s) (t, i', h') ∧ Cur l i' ∧ t.size ≤ s.size + 1 := by
  obtain ⟨a, i1, g1, e1, c1, a0, a1, _⟩ := below_ok c h 12
  have last : ∀ b : Bool, ∃ t i' h', Ev (fun k => spec_l02Spoilt.j0 k s b l i1 g1) (t, i', h') ∧ Cur l i' ∧ t.size ≤ s.size + 1 := by
    intro b
    cases b with
    | false => exact ⟨s, i1, g1, Ev.step (f := fun _ => some (s, i1, g1)) (fun k => by rw [spec_l02Spoilt.j0, if_neg (by decide)]) (Math.Ev.const rfl), c1, by omega⟩
    | true =>
      by_cases hz : (s.size : Int) > 0
      · obtain ⟨x, i2, g2, e2, c2, x0, x1, _⟩ := below_ok c1 g1 (s.size : Int)
        have hx := x1 (by omega)
        obtain ⟨t, i3, g3, ⟨K, hK⟩, c3, ht⟩ := one_text c2 g2
        have z1 : (s.extract 0 x.toNat).size ≤ s.size := by rw [ByteArray.size_extract]; omega
        have z2 : (s.extract (x + 1).toNat s.size).size ≤ s.size := by rw [ByteArray.size_extract]; omega
        have z3 : ((s.extract 0 x.toNat ++ t) ++ s.extract (x + 1).toNat s.size).size ≤ s.size + 1 := by
          rw [Math.size_append, Math.size_append, ByteArray.size_extract, ByteArray.size_extract, ht]
          omega
        refine ⟨(s.extract 0 x.toNat ++ t) ++ s.extract (x + 1).toNat s.size, i3, g3, ⟨K + 1, fun k hk => ?_⟩, c3, z3⟩
        obtain ⟨m, rfl⟩ : ∃ m, k = m + 1 := ⟨k - 1, by omega⟩
        have w := hK m (by omega)
        dsimp only at w ⊢
        rw [spec_l02Spoilt.j0, if_pos rfl, if_pos hz, e2, Option.bind_some]
        dsimp only
        rw [if_pos x0, if_pos (by omega), w, Option.bind_some]
        dsimp only
        rw [Math.wrap_in (n := x + 1) (by omega) (by omega), if_pos (by omega), if_pos (by omega), if_pos (by omega), if_pos (by rw [Math.size_append]; omega)]
      · exact ⟨s, i1, g1, Ev.step (f := fun _ => some (s, i1, g1)) (fun k => by rw [spec_l02Spoilt.j0, if_pos rfl, if_neg hz]) (Math.Ev.const rfl), c1, by omega⟩
  by_cases h0 : a = 0
  · obtain ⟨t, i2, g2, q2, c2, ht⟩ := one_text c1 g1
    refine ⟨s ++ t, i2, g2, ?_, c2, by rw [Math.size_append]; omega⟩
    obtain ⟨K, hK⟩ := q2
    refine ⟨K, fun k hk => ?_⟩
    have w := hK k hk
    dsimp only at w ⊢
    unfold spec_l02Spoilt.f
    rw [e1, Option.bind_some, if_pos h0, w, Option.bind_some]
    dsimp only
    rw [if_pos (by omega)]
  · by_cases h1 : a = 1
    · obtain ⟨x, i2, g2, e2, c2, x0, x1, _⟩ := below_ok c1 g1 ((s.size : Int) + 1)
      have hx := x1 (by omega)
      refine ⟨s.extract 0 x.toNat, i2, g2, ⟨0, fun k _ => ?_⟩, c2, by rw [ByteArray.size_extract]; omega⟩
      show spec_l02Spoilt.f k l i h s = _
      unfold spec_l02Spoilt.f
      rw [e1, Option.bind_some, if_neg h0, if_pos h1, Math.wrap_in (n := (s.size : Int) + 1) (by omega) (by omega), e2, Option.bind_some, if_pos x0, if_pos (by omega)]
    · by_cases h2 : a = 2
      · obtain ⟨t, i2, g2, q, r⟩ := last (a == 2)
        exact ⟨t, i2, g2, Ev.congr (fun k => by unfold spec_l02Spoilt.f; rw [e1, Option.bind_some, if_neg h0, if_neg h1, if_pos h2]) q, r⟩
      · obtain ⟨t, i2, g2, q, r⟩ := last (a == 3)
        exact ⟨t, i2, g2, Ev.congr (fun k => by unfold spec_l02Spoilt.f; rw [e1, Option.bind_some, if_neg h0, if_neg h1, if_neg h2]) q, r⟩
theorem progA_pre : ∀ (l : List S25) (acc s : ByteArray), progA l acc = some s → ∃ t : ByteArray, s = acc ++ t ∧ t.size = 7 * l.length
  | [], acc, s, h => by
    simp only [progA, Option.some.injEq] at h
    refine ⟨⟨#[]⟩, ?_, rfl⟩
    rw [← h]
    apply Math.str_eq.1
    rw [Lib.toList_data, Lib.toList_data, ByteArray.data_append, Array.toList_append]
    simp
  | x :: l, acc, s, h => by
    simp only [progA] at h
    split at h
    · obtain ⟨t, ht, hz⟩ := progA_pre l _ s h
      refine ⟨insS x.f0 x.f1 x.f2 x.f3 ++ t, ?_, ?_⟩
      · rw [ht, ByteArray.append_assoc]
      · rw [Math.size_append, insS_size, hz, List.length_cons]
        omega
    · exact absurd h (by simp)
theorem progA_all : ∀ (l : List S25) (acc : ByteArray), (∀ x ∈ l, InsP x.f0 x.f1 x.f2 x.f3) → ∃ s, progA l acc = some s
  | [], acc, _ => ⟨acc, rfl⟩
  | x :: l, acc, h => by
    simp only [progA]
    rw [if_pos (h x List.mem_cons_self)]
    exact progA_all l _ (fun y hy => h y (List.mem_cons_of_mem _ hy))
theorem insS_data (o c y n : Int) : (insS o c y n).data.toList = [UInt8.ofNat (o % 256).toNat, UInt8.ofNat (y % 256).toNat, UInt8.ofNat (n % 256).toNat, UInt8.ofNat ((c / 16777216) % 256).toNat, UInt8.ofNat ((c / 65536) % 256).toNat, UInt8.ofNat ((c / 256) % 256).toNat, UInt8.ofNat (c % 256).toNat] := by
  unfold insS Math.fourS
  rw [ByteArray.data_append, Array.toList_append, strOfNums_data, strOfNums_data]
  rfl
theorem bt_data (s : ByteArray) (i x : Nat) (hx : x < 256) (h : s.data.toList[i]? = some (UInt8.ofNat x)) : bt s (i : Int) = (x : Int) := by
  obtain ⟨hi, he⟩ := List.getElem?_eq_some_iff.1 h
  rw [Math.bt_nat s i (by rw [← Math.size_data]; exact hi), he, UInt8.toNat_ofNat_of_lt' (by simpa using hx)]
theorem read_back {o c y n : Int} (h : InsP o c y n) : readIns (insS o c y n) = (o, c, y, n, true) := by
  have hd := insS_data o c y n
  have hI := h
  unfold InsP at h
  have b0 : bt (insS o c y n) 0 = o := by
    have := bt_data (insS o c y n) 0 (o % 256).toNat (by omega) (by rw [hd]; rfl)
    rw [show ((0 : Nat) : Int) = 0 from rfl] at this
    omega
  have b1 : bt (insS o c y n) 1 = y := by
    have := bt_data (insS o c y n) 1 (y % 256).toNat (by omega) (by rw [hd]; rfl)
    rw [show ((1 : Nat) : Int) = 1 from rfl] at this
    omega
  have b2 : bt (insS o c y n) 2 = n := by
    have := bt_data (insS o c y n) 2 (n % 256).toNat (by omega) (by rw [hd]; rfl)
    rw [show ((2 : Nat) : Int) = 2 from rfl] at this
    omega
  have f : ((Math.fourN (insS o c y n) 3 : Nat) : Int) = c := by
    have h0 := bt_data (insS o c y n) 3 ((c / 16777216) % 256).toNat (by omega) (by rw [hd]; rfl)
    have h1 := bt_data (insS o c y n) (3 + 1) ((c / 65536) % 256).toNat (by omega) (by rw [hd]; rfl)
    have h2 := bt_data (insS o c y n) (3 + 2) ((c / 256) % 256).toNat (by omega) (by rw [hd]; rfl)
    have h3 := bt_data (insS o c y n) (3 + 3) (c % 256).toNat (by omega) (by rw [hd]; rfl)
    unfold Math.fourN
    rw [h0, h1, h2, h3]
    omega
  unfold readIns
  rw [if_pos (insS_size o c y n), b0, b1, b2, f, if_pos hI]
theorem prgA_back : ∀ (l : List S25) (acc s : ByteArray) (A : List S25), progA l acc = some s → prgA s l.length acc.size A = some (A ++ l)
  | [], acc, s, A, _ => by simp [prgA]
  | x :: l, acc, s, A, h => by
    simp only [progA] at h
    split at h
    · rename_i hI
      obtain ⟨t, ht, _⟩ := progA_pre l _ s h
      have he : s.extract acc.size (acc.size + 7) = insS x.f0 x.f1 x.f2 x.f3 := by
        rw [ht]
        apply Math.str_eq.1
        rw [Lib.toList_data, Lib.toList_data, ext_data, ByteArray.data_append, ByteArray.data_append, Array.toList_append, Array.toList_append, List.append_assoc, ← Math.size_data acc, List.drop_left, show acc.data.toList.length + 7 - acc.data.toList.length = (insS x.f0 x.f1 x.f2 x.f3).data.toList.length from by rw [Math.size_data, Math.size_data, insS_size]; omega, List.take_left]
      have hn := prgA_back l _ s (A ++ [x]) h
      rw [Math.size_append, insS_size] at hn
      simp only [List.length_cons, prgA]
      rw [he, read_back hI, if_pos rfl, show word (x.f0, x.f1, x.f2, x.f3, true) = x from rfl, hn, List.append_assoc]
      rfl
    · exact absurd h (by simp)
theorem prog_round (p : List S25) (hp : 1 ≤ p.length ∧ p.length ≤ 13) (hI : ∀ x ∈ p, InsP x.f0 x.f1 x.f2 x.f3) : ∃ s : ByteArray, progText p = (s, true) ∧ readProg s = (p, true) ∧ s.size ≤ 1000 := by
  obtain ⟨s, hs⟩ := progA_all p (⟨#[]⟩ : ByteArray) hI
  obtain ⟨t, ht, hz⟩ := progA_pre p _ s hs
  have hb := prgA_back p _ s [] hs
  have e : s.size = 7 * p.length := by rw [ht, Math.size_append, hz]; show 0 + 7 * p.length = _; omega
  have e2 : s.size / 7 = p.length := by omega
  refine ⟨s, ?_, ?_, by omega⟩
  · unfold progText
    rw [if_pos (by omega), hs]
    rfl
  · unfold readProg
    rw [if_pos (by omega), e2]
    have hb0 : prgA s p.length 0 [] = some p := hb
    rw [hb0]
    rfl
theorem ext_all (s : ByteArray) (n : Nat) (h : n = s.size) : s.extract 0 n = s := by
  apply Math.str_eq.1
  rw [Lib.toList_data, Lib.toList_data, ext_data, List.drop_zero, List.take_of_length_le (by rw [Math.size_data]; omega)]
theorem readProg_text (u : ByteArray) (h : (readProg u).2 = true) : (progText (readProg u).1).1 = u := by
  by_cases c : u.size % 7 = 0 ∧ 1 ≤ u.size / 7 ∧ u.size / 7 ≤ 400
  · cases hp : prgA u (u.size / 7) 0 [] with
    | none =>
      unfold readProg at h
      rw [if_pos c, hp] at h
      exact absurd h (by decide)
    | some l =>
      have hl := prgA_len u _ 0 [] l hp
      rw [List.length_nil, Nat.zero_add] at hl
      have ht := prgA_text u _ 0 [] l hp (by omega) (by simp only [progA]; congr 1; apply Math.str_eq.1; rw [Lib.toList_data, Lib.toList_data, ext_data]; simp)
      unfold readProg
      rw [if_pos c, hp]
      simp only [prgEnd]
      unfold progText
      rw [if_pos (by omega), ht]
      exact ext_all u _ (by omega)
  · unfold readProg at h
    rw [if_neg c] at h
    exact absurd h (by decide)
theorem progText_size (p : List S25) (hp : p.length ≤ 13) : (progText p).1.size ≤ 1000 := by
  unfold progText
  split
  · cases h : progA p (⟨#[]⟩ : ByteArray) with
    | none => exact Nat.zero_le _
    | some s =>
      obtain ⟨t, ht, hz⟩ := progA_pre p _ s h
      show s.size ≤ 1000
      rw [ht, Math.size_append, hz]
      show 0 + 7 * p.length ≤ 1000
      omega
  · exact Nat.zero_le _
theorem insText_size (o c y n : Int) : (insText o c y n).1.size ≤ 7 := by
  unfold insText
  split
  · rw [insS_size]
    exact Nat.le_refl _
  · exact Nat.zero_le _
theorem drawReadProgram_ev {l : List Int} (hl : l.length ≤ 2000000) : ∃ u : ByteArray, Ev (fun k => spec_DrawReadProgram.f k l) u ∧ u.size ≤ 2000 := by
  obtain ⟨h, ⟨K1, hK1⟩⟩ := new_ev l hl
  obtain ⟨a, i1, g1, e1, c1, a0, _⟩ := below_ok (cur0 hl) h 4
  obtain ⟨p, i2, g2, ⟨K2, hK2⟩, c2, hp⟩ := any_cur c1 g1
  obtain ⟨K3, hK3⟩ := spec_ProgramText_ev p (by omega)
  have hz := progText_size p hp
  obtain ⟨t, i3, g3, ⟨K4, hK4⟩, c3, ht⟩ := spoilt_cur c2 g2 (progText p).1 (by omega)
  by_cases h0 : a = 0
  · refine ⟨t, ⟨K1 + K2 + K3 + K4, fun k hk => ?_⟩, by omega⟩
    have k1 := hK1 k (by omega)
    have k2 := hK2 k (by omega)
    have k3 := hK3 k (by omega)
    have k4 := hK4 k (by omega)
    dsimp only at k1 k2 k3 k4 ⊢
    unfold spec_DrawReadProgram.f
    rw [k1, Option.bind_some, e1, Option.bind_some]
    dsimp only
    rw [k2, Option.bind_some, k3, Option.bind_some, if_pos h0, k4]
    rfl
  · by_cases h1 : a = 1
    · refine ⟨(progText p).1 ++ ⟨#[120]⟩, ⟨K1 + K2 + K3 + K4, fun k hk => ?_⟩, by rw [Math.size_append]; show (progText p).1.size + 1 ≤ 2000; omega⟩
      have k1 := hK1 k (by omega)
      have k2 := hK2 k (by omega)
      have k3 := hK3 k (by omega)
      dsimp only at k1 k2 k3 ⊢
      unfold spec_DrawReadProgram.f
      rw [k1, Option.bind_some, e1, Option.bind_some]
      dsimp only
      rw [k2, Option.bind_some, k3, Option.bind_some, if_neg h0, if_pos h1, if_pos (by omega)]
    · refine ⟨(progText p).1, ⟨K1 + K2 + K3 + K4, fun k hk => ?_⟩, by omega⟩
      have k1 := hK1 k (by omega)
      have k2 := hK2 k (by omega)
      have k3 := hK3 k (by omega)
      dsimp only at k1 k2 k3 ⊢
      unfold spec_DrawReadProgram.f
      rw [k1, Option.bind_some, e1, Option.bind_some]
      dsimp only
      rw [k2, Option.bind_some, k3, Option.bind_some, if_neg h0, if_neg h1]
theorem drawInsOk_ev {l : List Int} (hl : l.length ≤ 2000000) : ∃ a1 a2 a3 a4 : Int, Ev (fun k => spec_DrawInsOk.f k l) (a1, a2, a3, a4) := by
  obtain ⟨h, ⟨K1, hK1⟩⟩ := new_ev l hl
  obtain ⟨p, i2, g2, ⟨K2, hK2⟩, c2, hp⟩ := any_cur (cur0 hl) h
  by_cases hz : (p.length : Int) = 0
  · refine ⟨0, 0, 0, 0, K1 + K2, fun k hk => ?_⟩
    have k1 := hK1 k (by omega)
    have k2 := hK2 k (by omega)
    dsimp only at k1 k2 ⊢
    unfold spec_DrawInsOk.f
    rw [k1, Option.bind_some]
    dsimp only
    rw [k2, Option.bind_some]
    dsimp only
    rw [if_pos hz]
  · obtain ⟨b, i3, g3, e3, c3, b0, b1, _⟩ := below_ok c2 g2 (p.length : Int)
    have hb := b1 (by omega)
    refine ⟨(rd_T25 p b).f0, (rd_T25 p b).f1, (rd_T25 p b).f2, (rd_T25 p b).f3, K1 + K2, fun k hk => ?_⟩
    have k1 := hK1 k (by omega)
    have k2 := hK2 k (by omega)
    dsimp only at k1 k2 ⊢
    unfold spec_DrawInsOk.f
    rw [k1, Option.bind_some]
    dsimp only
    rw [k2, Option.bind_some]
    dsimp only
    rw [if_neg hz, e3, Option.bind_some, if_pos b0, if_pos hb]
theorem drawInsText_ev {l : List Int} (hl : l.length ≤ 2000000) : ∃ a1 a2 a3 a4 : Int, Ev (fun k => spec_DrawInsText.f k l) (a1, a2, a3, a4) := by
  obtain ⟨a1, a2, a3, a4, K, hK⟩ := drawInsOk_ev hl
  refine ⟨a1, a2, a3, a4, K, fun k hk => ?_⟩
  have k1 := hK k hk
  dsimp only at k1 ⊢
  unfold spec_DrawInsText.f
  rw [k1]
  rfl
theorem drawReadIns_ev {l : List Int} (hl : l.length ≤ 2000000) : ∃ u : ByteArray, Ev (fun k => spec_DrawReadIns.f k l) u := by
  obtain ⟨h, ⟨K1, hK1⟩⟩ := new_ev l hl
  obtain ⟨a, i1, g1, e1, c1, a0, _⟩ := below_ok (cur0 hl) h 4
  obtain ⟨x1, x2, x3, x4, K2, hK2⟩ := drawInsOk_ev hl
  obtain ⟨K3, hK3⟩ := spec_InsText_ev x1 x2 x3 x4
  have hz := insText_size x1 x2 x3 x4
  obtain ⟨t, i3, g3, ⟨K4, hK4⟩, c3, ht⟩ := spoilt_cur c1 g1 (insText x1 x2 x3 x4).1 (by omega)
  by_cases h0 : a = 0
  · refine ⟨t, ⟨K1 + K2 + K3 + K4, fun k hk => ?_⟩⟩
    have k1 := hK1 k (by omega)
    have k2 := hK2 k (by omega)
    have k3 := hK3 k (by omega)
    have k4 := hK4 k (by omega)
    dsimp only at k1 k2 k3 k4 ⊢
    unfold spec_DrawReadIns.f
    rw [k1, Option.bind_some, e1, Option.bind_some]
    dsimp only
    rw [k2, Option.bind_some, k3, Option.bind_some, if_pos h0, k4]
    rfl
  · by_cases h1 : a = 1
    · refine ⟨(insText x1 x2 x3 x4).1 ++ ⟨#[120]⟩, ⟨K1 + K2 + K3 + K4, fun k hk => ?_⟩⟩
      have k1 := hK1 k (by omega)
      have k2 := hK2 k (by omega)
      have k3 := hK3 k (by omega)
      dsimp only at k1 k2 k3 ⊢
      unfold spec_DrawReadIns.f
      rw [k1, Option.bind_some, e1, Option.bind_some]
      dsimp only
      rw [k2, Option.bind_some, k3, Option.bind_some, if_neg h0, if_pos h1, if_pos (by omega)]
    · refine ⟨(insText x1 x2 x3 x4).1, ⟨K1 + K2 + K3 + K4, fun k hk => ?_⟩⟩
      have k1 := hK1 k (by omega)
      have k2 := hK2 k (by omega)
      have k3 := hK3 k (by omega)
      dsimp only at k1 k2 k3 ⊢
      unfold spec_DrawReadIns.f
      rw [k1, Option.bind_some, e1, Option.bind_some]
      dsimp only
      rw [k2, Option.bind_some, k3, Option.bind_some, if_neg h0, if_neg h1]
theorem drawProgramText_ev {l : List Int} (hl : l.length ≤ 2000000) : ∃ p : List S25, Ev (fun k => spec_DrawProgramText.f k l) p ∧ p.length ≤ 13 := by
  obtain ⟨h, ⟨K1, hK1⟩⟩ := new_ev l hl
  obtain ⟨p, i2, g2, ⟨K2, hK2⟩, c2, hp⟩ := any_cur (cur0 hl) h
  refine ⟨p, ⟨K1 + K2, fun k hk => ?_⟩, hp⟩
  have k1 := hK1 k (by omega)
  have k2 := hK2 k (by omega)
  dsimp only at k1 k2 ⊢
  unfold spec_DrawProgramText.f
  rw [k1, Option.bind_some]
  dsimp only
  rw [k2, Option.bind_some]
theorem sameIns_l0 (l : List S25) (hl : l.length ≤ 2000000) (d : Nat) : ∀ (i : Nat), i + d = l.length → Ev (fun k => laws_sameIns.l0 k l l (i : Int)) true := by
  induction d with
  | zero =>
    intro i hi
    refine Ev.step (f := fun _ => some true) (fun k => ?_) (Math.Ev.const rfl)
    show laws_sameIns.l0 (k + 1) l l _ = _
    rw [laws_sameIns.l0, if_neg (by omega)]
  | succ d ih =>
    intro i hi
    refine Ev.step (fun k => ?_) (ih (i + 1) (by omega))
    show laws_sameIns.l0 (k + 1) l l _ = _
    rw [laws_sameIns.l0, if_pos (by omega), if_pos (by omega), if_pos (by omega), if_neg (by simp)]
    rw [show wrap64 ((i : Int) + 1) = ((i + 1 : Nat) : Int) from by rw [Math.wrap_in (by omega) (by omega)]; omega]
theorem sameIns_ev (l : List S25) (hl : l.length ≤ 2000000) : Ev (fun k => laws_sameIns.f k l l) true := by
  refine Ev.congr (fun k => by unfold laws_sameIns.f; rw [if_pos rfl]) ?_
  exact sameIns_l0 l hl l.length 0 (by omega)
theorem FnPrograms : laws_FnPrograms.Pure := by
  intro l _ _ _
  by_cases hb : (l.length : Int) > 1048576
  · exact ⟨0, Or.inl (by rw [big_is, decide_eq_true hb])⟩
  · have hl : l.length ≤ 2000000 := by omega
    obtain ⟨p, ⟨K1, hK1⟩, hp, hI⟩ := drawProgram_ev hl
    obtain ⟨s, hs, hr, hz⟩ := prog_round p hp hI
    obtain ⟨K2, hK2⟩ := impl_ProgramText_ev p (by omega)
    obtain ⟨K3, hK3⟩ := impl_ReadProgram_ev s (by omega)
    obtain ⟨K3b, hK3b⟩ := sameIns_ev p (by omega)
    obtain ⟨u, ⟨K4, hK4⟩, hu⟩ := drawReadProgram_ev hl
    obtain ⟨K5, hK5⟩ := impl_ReadProgram_ev u (by omega)
    obtain ⟨K6, hK6⟩ := spec_ReadProgram_ev u (by omega)
    have hy := readProg_len u
    obtain ⟨K7, hK7⟩ := impl_ProgramText_ev (readProg u).1 (by omega)
    obtain ⟨a1, a2, a3, a4, K8, hK8⟩ := drawInsText_ev hl
    obtain ⟨K9, hK9⟩ := impl_InsText_ev a1 a2 a3 a4
    obtain ⟨K10, hK10⟩ := impl_ReadIns_ev (insText a1 a2 a3 a4).1
    obtain ⟨K11, hK11⟩ := spec_InsOk_ev a1 a2 a3 a4
    obtain ⟨K12, hK12⟩ := impl_InsOk_ev a1 a2 a3 a4
    obtain ⟨v, K13, hK13⟩ := drawReadIns_ev hl
    obtain ⟨K14, hK14⟩ := impl_ReadIns_ev v
    obtain ⟨K15, hK15⟩ := spec_ReadIns_ev v
    have hback : (insText a1 a2 a3 a4).2 = true → readIns (insText a1 a2 a3 a4).1 = (a1, a2, a3, a4, true) := by
      intro h
      unfold insText at h ⊢
      split at h
      · rename_i hq
        rw [if_pos hq]
        exact read_back hq
      · exact absurd h (by decide)
    have hone : decide (InsP a1 a2 a3 a4) = (insText a1 a2 a3 a4).2 := by
      unfold insText
      by_cases hq : InsP a1 a2 a3 a4
      · rw [if_pos hq]
        exact decide_eq_true hq
      · rw [if_neg hq]
        exact decide_eq_false hq
    rw [hone] at hK11 hK12
    have hcould : (readIns v).2.2.2.2 = true → (insText (readIns v).1 (readIns v).2.1 (readIns v).2.2.1 (readIns v).2.2.2.1).1 = v := by
      intro h
      obtain ⟨r1, r2⟩ := read_ok v h
      unfold insText
      have r1' : InsP (readIns v).1 (readIns v).2.1 (readIns v).2.2.1 (readIns v).2.2.2.1 := r1
      rw [if_pos r1']
      exact r2
    obtain ⟨K16, hK16⟩ := impl_InsText_ev (readIns v).1 (readIns v).2.1 (readIns v).2.2.1 (readIns v).2.2.2.1
    obtain ⟨d, ⟨K17, hK17⟩, hd⟩ := drawProgramText_ev hl
    obtain ⟨K18, hK18⟩ := impl_ProgramText_ev d (by omega)
    obtain ⟨K19, hK19⟩ := spec_ProgramText_ev d (by omega)
    obtain ⟨k, hk⟩ : ∃ k, k = K1 + K2 + K3 + K3b + K4 + K5 + K6 + K7 + K8 + K9 + K10 + K11 + K12 + K13 + K14 + K15 + K16 + K17 + K18 + K19 := ⟨_, rfl⟩
    have w2 := hK2 k (by omega)
    have w3 := hK3 k (by omega)
    rw [hs] at w2
    rw [hr] at w3
    refine ⟨k, Or.inr ⟨by rw [big_is, decide_eq_false hb], p, (readProg u).1, (readProg u).1, d, s, u, (progText (readProg u).1).1, (insText a1 a2 a3 a4).1, v, (insText (readIns v).1 (readIns v).2.1 (readIns v).2.2.1 (readIns v).2.2.2.1).1, (progText d).1,
      (readProg u).2, (progText (readProg u).1).2, (insText a1 a2 a3 a4).2, (readIns (insText a1 a2 a3 a4).1).2.2.2.2, (readIns v).2.2.2.2, (insText (readIns v).1 (readIns v).2.1 (readIns v).2.2.1 (readIns v).2.2.2.1).2, (progText d).2,
      a1, a2, a3, a4, (readIns (insText a1 a2 a3 a4).1).1, (readIns (insText a1 a2 a3 a4).1).2.1, (readIns (insText a1 a2 a3 a4).1).2.2.1, (readIns (insText a1 a2 a3 a4).1).2.2.2.1,
      (readIns v).1, (readIns v).2.1, (readIns v).2.2.1, (readIns v).2.2.2.1, (readIns v).1, (readIns v).2.1, (readIns v).2.2.1, (readIns v).2.2.2.1,
      hK1 k (by omega), w2, w3, hK3b k (by omega), hK4 k (by omega), hK5 k (by omega), hK6 k (by omega), hK7 k (by omega), hK8 k (by omega), hK9 k (by omega), hK10 k (by omega), hK11 k (by omega), hK12 k (by omega),
      hK13 k (by omega), hK14 k (by omega), hK15 k (by omega), hK16 k (by omega), hK17 k (by omega), hK18 k (by omega), hK19 k (by omega), readProg_text u, ?_, hcould⟩⟩
    intro h
    rw [hback h]
    exact ⟨rfl, rfl, rfl, rfl, rfl⟩
end Go.Proofs.Ytfchokhdhnfajaa.Pure
