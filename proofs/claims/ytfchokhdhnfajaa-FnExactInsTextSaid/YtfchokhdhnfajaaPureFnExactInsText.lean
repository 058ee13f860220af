/- For every word of four whole numbers the program's InsText answers what the reference's InsText answers. -/
import Derived.Test.YtfchokhdhnfajaaPFnExactInsTextx3
import Derived.Test.YtfchokhdhnfajaaMath
import Derived.Test.YtfchokhdhnfajaaOpen
namespace Go.Proofs.Ytfchokhdhnfajaa.Pure
open Go.RowKit Go.Proofs.Ytfchokhdhnfajaa.PFnExactInsText Go.Proofs.YtfchokhdhnfajaaW.PrintWords Go.Proofs.YtfchokhdhnfajaaW.PrintLast Go.Proofs.YtfchokhdhnfajaaW.PrintMore
set_option linter.unusedVariables false

theorem spec_l01In_is (a lo hi : Int) : spec_l01In.f a lo hi = some (decide (lo ≤ a ∧ a ≤ hi)) := by
  unfold spec_l01In.f
  by_cases h : a ≥ lo
  · rw [if_pos h]
    by_cases h2 : a ≤ hi
    · simp [h, h2]
    · simp [h2]
  · rw [if_neg h]
    have : ¬ lo ≤ a := h
    simp [this]
theorem impl_within_is (a lo hi : Int) : impl_within.f a lo hi = some (decide (lo ≤ a ∧ a ≤ hi)) := by
  unfold impl_within.f
  by_cases h : a ≥ lo
  · rw [if_pos h]
    by_cases h2 : a ≤ hi
    · simp [h, h2]
    · simp [h2]
  · rw [if_neg h]
    have : ¬ lo ≤ a := h
    simp [this]
theorem spec_HalfOk_is (a : Int) : spec_HalfOk.f a = some (decide (0 ≤ a ∧ a ≤ 4294967295)) := by unfold spec_HalfOk.f; rw [spec_l01In_is]; rfl
theorem impl_HalfOk_is (a : Int) : impl_HalfOk.f a = some (decide (0 ≤ a ∧ a ≤ 4294967295)) := by unfold impl_HalfOk.f; rw [impl_within_is]; rfl
def InsP (o c y n : Int) : Prop := (1 ≤ o ∧ o ≤ 8) ∧ (0 ≤ c ∧ c ≤ 4294967295) ∧ (0 ≤ y ∧ y ≤ 15) ∧ (0 ≤ n ∧ n ≤ 15) ∧ ((3 ≤ o ∧ o ≤ 6) ∨ (y = 0 ∧ n = 0)) ∧ (o = 1 → c < 8) ∧ (o = 7 → c < 400)
instance (o c y n : Int) : Decidable (InsP o c y n) := by unfold InsP; infer_instance
theorem spec_InsOk_ev (o c y n : Int) : Ev (fun k => spec_InsOk.f k o c y n) (decide (InsP o c y n)) := by
  refine ⟨2, fun k hk => ?_⟩
  obtain ⟨m, rfl⟩ : ∃ m, k = m + 2 := ⟨k - 2, by omega⟩
  show spec_InsOk.f (m + 2) o c y n = _
  unfold spec_InsOk.f
  rw [spec_l01In_is, spec_HalfOk_is, spec_l01In_is, spec_l01In_is]
  simp only [Option.bind_some]
  have hf : ¬ InsP o c y n → spec_InsOk.j0 (m + 2) true o c y n = some (decide (InsP o c y n)) := by
    intro h
    rw [spec_InsOk.j0, if_pos rfl, decide_eq_false h]
  by_cases h1 : 1 ≤ o ∧ o ≤ 8
  · by_cases h2 : 0 ≤ c ∧ c ≤ 4294967295
    · by_cases h3 : 0 ≤ y ∧ y ≤ 15
      · by_cases h4 : 0 ≤ n ∧ n ≤ 15
        · rw [if_pos (decide_eq_true h1), if_pos (decide_eq_true h2), if_pos (decide_eq_true h3), decide_eq_true h4]
          show spec_InsOk.j0 (m + 2) false o c y n = _
          rw [spec_InsOk.j0, if_neg (by decide)]
          have ha : spec_l06Ask.f o = some (decide (3 ≤ o ∧ o ≤ 6)) := by unfold spec_l06Ask.f; rw [spec_l01In_is]; rfl
          rw [ha]
          simp only [Option.bind_some]
          by_cases h5 : 3 ≤ o ∧ o ≤ 6
          · rw [if_pos (decide_eq_true h5), spec_InsOk.j1, if_neg (by decide), if_neg (by omega), if_neg (by omega)]
            have : InsP o c y n := ⟨h1, h2, h3, h4, .inl h5, fun e => by omega, fun e => by omega⟩
            rw [decide_eq_true this]
          · rw [if_neg (by rw [decide_eq_false h5]; decide)]
            by_cases h6 : y = 0
            · rw [if_pos h6]
              by_cases h7 : n = 0
              · rw [show (n != 0) = false from by simp [h7], spec_InsOk.j1, if_neg (by decide)]
                by_cases h8 : o = 1
                · rw [if_pos h8]
                  congr 1
                  refine decide_eq_decide.2 ⟨fun h => ⟨h1, h2, h3, h4, .inr ⟨h6, h7⟩, fun _ => h, fun e => by omega⟩, fun h => h.2.2.2.2.2.1 h8⟩
                · rw [if_neg h8]
                  by_cases h9 : o = 7
                  · rw [if_pos h9]
                    congr 1
                    refine decide_eq_decide.2 ⟨fun h => ⟨h1, h2, h3, h4, .inr ⟨h6, h7⟩, fun e => by omega, fun _ => h⟩, fun h => h.2.2.2.2.2.2 h9⟩
                  · rw [if_neg h9]
                    have : InsP o c y n := ⟨h1, h2, h3, h4, .inr ⟨h6, h7⟩, fun e => absurd e h8, fun e => absurd e h9⟩
                    rw [decide_eq_true this]
              · rw [show (n != 0) = true from by simp [h7], spec_InsOk.j1, if_pos rfl]
                have : ¬ InsP o c y n := fun h => by have := h.2.2.2.2.1; omega
                rw [decide_eq_false this]
            · rw [if_neg h6, spec_InsOk.j1, if_pos rfl]
              have : ¬ InsP o c y n := fun h => by have := h.2.2.2.2.1; omega
              rw [decide_eq_false this]
        · rw [if_pos (decide_eq_true h1), if_pos (decide_eq_true h2), if_pos (decide_eq_true h3), decide_eq_false h4]
          exact hf (fun h => h4 h.2.2.2.1)
      · rw [if_pos (decide_eq_true h1), if_pos (decide_eq_true h2), if_neg (by rw [decide_eq_false h3]; decide)]
        exact hf (fun h => h3 h.2.2.1)
    · rw [if_pos (decide_eq_true h1), if_neg (by rw [decide_eq_false h2]; decide)]
      exact hf (fun h => h2 h.2.1)
  · rw [if_neg (by rw [decide_eq_false h1]; decide)]
    exact hf (fun h => h1 h.1)
theorem impl_asks_is (o c y n : Int) : impl_Ins_asks.f o c y n = some (decide (3 ≤ o ∧ o ≤ 6)) := by unfold impl_Ins_asks.f; rw [impl_within_is]; rfl
theorem impl_InsOk_ev (o c y n : Int) : Ev (fun k => impl_InsOk.f k o c y n) (decide (InsP o c y n)) := by
  refine ⟨2, fun k hk => ?_⟩
  obtain ⟨m, rfl⟩ : ∃ m, k = m + 2 := ⟨k - 2, by omega⟩
  show impl_InsOk.f (m + 2) o c y n = _
  unfold impl_InsOk.f
  rw [impl_asks_is]
  simp only [Option.bind_some]
  by_cases h5 : 3 ≤ o ∧ o ≤ 6
  · rw [if_pos (decide_eq_true h5), impl_HalfOk_is, impl_within_is, impl_within_is]
    simp only [Option.bind_some]
    by_cases h2 : 0 ≤ c ∧ c ≤ 4294967295
    · rw [if_pos (decide_eq_true h2)]
      by_cases h3 : 0 ≤ y ∧ y ≤ 15
      · rw [if_pos (decide_eq_true h3)]
        congr 1
        exact decide_eq_decide.2 ⟨fun h => ⟨by omega, h2, h3, h, .inl h5, fun e => by omega, fun e => by omega⟩, fun h => h.2.2.2.1⟩
      · rw [if_neg (by rw [decide_eq_false h3]; decide), decide_eq_false (fun h : InsP o c y n => h3 h.2.2.1)]
    · rw [if_neg (by rw [decide_eq_false h2]; decide), decide_eq_false (fun h : InsP o c y n => h2 h.2.1)]
  · rw [if_neg (by rw [decide_eq_false h5]; decide)]
    have hf : ¬ InsP o c y n → impl_InsOk.j0 (m + 2) true o c y n = some (decide (InsP o c y n)) := by
      intro h
      rw [impl_InsOk.j0, if_pos rfl, decide_eq_false h]
    by_cases h6 : y = 0
    · rw [if_pos h6]
      by_cases h7 : n = 0
      · rw [show (n != 0) = false from by simp [h7], impl_InsOk.j0, if_neg (by decide), impl_within_is, impl_within_is, impl_HalfOk_is]
        simp only [Option.bind_some]
        by_cases h8 : o = 1
        · rw [if_pos h8]
          congr 1
          exact decide_eq_decide.2 ⟨fun h => ⟨by omega, by omega, by omega, by omega, .inr ⟨h6, h7⟩, fun _ => by omega, fun e => by omega⟩, fun h => by have := h.2.2.2.2.2.1 h8; have := h.2.1; omega⟩
        · rw [if_neg h8]
          by_cases h9 : o = 7
          · rw [if_pos h9]
            congr 1
            exact decide_eq_decide.2 ⟨fun h => ⟨by omega, by omega, by omega, by omega, .inr ⟨h6, h7⟩, fun e => by omega, fun _ => by omega⟩, fun h => by have := h.2.2.2.2.2.2 h9; have := h.2.1; omega⟩
          · rw [if_neg h9]
            by_cases h10 : o = 2
            · rw [if_pos h10]
              congr 1
              exact decide_eq_decide.2 ⟨fun h => ⟨by omega, h, by omega, by omega, .inr ⟨h6, h7⟩, fun e => by omega, fun e => by omega⟩, fun h => h.2.1⟩
            · rw [if_neg h10]
              by_cases h11 : o = 8
              · rw [if_pos h11]
                congr 1
                exact decide_eq_decide.2 ⟨fun h => ⟨by omega, h, by omega, by omega, .inr ⟨h6, h7⟩, fun e => by omega, fun e => by omega⟩, fun h => h.2.1⟩
              · rw [if_neg h11, decide_eq_false (fun h : InsP o c y n => by have := h.1; omega)]
      · rw [show (n != 0) = true from by simp [h7]]
        exact hf (fun h => by have := h.2.2.2.2.1; omega)
    · rw [if_neg h6]
      exact hf (fun h => by have := h.2.2.2.2.1; omega)
def insS (o c y n : Int) : ByteArray := strOfNums [o % 256, y % 256, n % 256] ++ Math.fourS c
theorem insS_size (o c y n : Int) : (insS o c y n).size = 7 := by unfold insS; rw [Math.size_append, Math.fourS_size, strOfNums_size]; rfl
def insText (o c y n : Int) : ByteArray × Bool := if InsP o c y n then (insS o c y n, true) else (⟨#[]⟩, false)
theorem spec_InsText_ev (o c y n : Int) : Ev (fun k => spec_InsText.f k o c y n) (insText o c y n) := by
  refine Ev.congr (fun k => by unfold spec_InsText.f; rfl) ?_
  refine Ev.bind (f := fun _ t116 => (if t116 = true then ((some (([o % 256, y % 256, n % 256] : List Int) : List Int)).bind fun y117 => ((spec_l06Four.f c).bind fun t120 => (if (strOfNums y117).size + t120.size ≤ 9223372036854775807 then (some ((strOfNums y117) ++ t120, true)) else (none)))) else (some ((⟨#[]⟩ : ByteArray), false)))) (spec_InsOk_ev o c y n) (Math.Ev.const ?_)
  unfold insText
  by_cases h : InsP o c y n
  · rw [if_pos (decide_eq_true h), if_pos h]
    show (if (strOfNums [o % 256, y % 256, n % 256]).size + (Math.fourS c).size ≤ 9223372036854775807 then (some ((strOfNums [o % 256, y % 256, n % 256]) ++ (Math.fourS c), true)) else (none)) = _
    rw [if_pos (by rw [Math.fourS_size, strOfNums_size, show ([o % 256, y % 256, n % 256] : List Int).length = 3 from rfl]; omega)]
    rfl
  · rw [if_neg (by rw [decide_eq_false h]; decide), if_neg h]
theorem impl_InsText_ev (o c y n : Int) : Ev (fun k => impl_InsText.f k o c y n) (insText o c y n) := by
  refine Ev.congr (fun k => by unfold impl_InsText.f; rfl) ?_
  refine Ev.bind (f := fun _ t116 => (if t116 = true then ((some (([o % 256, y % 256, n % 256] : List Int) : List Int)).bind fun y117 => ((impl_four.f c).bind fun t120 => (if (strOfNums y117).size + t120.size ≤ 9223372036854775807 then (some ((strOfNums y117) ++ t120, true)) else (none)))) else (some ((⟨#[]⟩ : ByteArray), false)))) (impl_InsOk_ev o c y n) (Math.Ev.const ?_)
  unfold insText
  by_cases h : InsP o c y n
  · rw [if_pos (decide_eq_true h), if_pos h]
    show (if (strOfNums [o % 256, y % 256, n % 256]).size + (Math.fourS c).size ≤ 9223372036854775807 then (some ((strOfNums [o % 256, y % 256, n % 256]) ++ (Math.fourS c), true)) else (none)) = _
    rw [if_pos (by rw [Math.fourS_size, strOfNums_size, show ([o % 256, y % 256, n % 256] : List Int).length = 3 from rfl]; omega)]
    rfl
  · rw [if_neg (by rw [decide_eq_false h]; decide), if_neg h]
theorem FnExactInsText : ∀ o c y n : Int, Open.i64ok o → Open.i64ok c → Open.i64ok y → Open.i64ok n → ∃ k, laws_FnExactInsText.f k o c y n = some true := by
  intro o c y n _ _ _ _
  refine Ev.rounds ?_
  refine Ev.congr (f := fun k => (spec_InsText.f k o c y n).bind fun x => (impl_InsText.f k o c y n).bind fun z => (if z.1.toList = x.1.toList then (if (z.2 != x.2) = true then (some false) else (some true)) else (some false))) (fun k => ?_) ?_
  · unfold laws_FnExactInsText.f laws_toIns.f
    rfl
  · exact Math.Ev.both (r := true) (f := fun _ (x z : ByteArray × Bool) => (if z.1.toList = x.1.toList then (if (z.2 != x.2) = true then (some false) else (some true)) else (some false))) (spec_InsText_ev o c y n) (impl_InsText_ev o c y n) (fun _ => by simp)
end Go.Proofs.Ytfchokhdhnfajaa.Pure
