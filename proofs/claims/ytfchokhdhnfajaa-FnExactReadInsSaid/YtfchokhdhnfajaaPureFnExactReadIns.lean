/- For every text the program's ReadIns answers what the reference's ReadIns answers. -/
import Derived.Test.YtfchokhdhnfajaaPFnExactReadInsx4
import Derived.Test.YtfchokhdhnfajaaMath
namespace Go.Proofs.Ytfchokhdhnfajaa.Pure
open Go.RowKit Go.Proofs.Ytfchokhdhnfajaa.PFnExactReadIns Go.Proofs.YtfchokhdhnfajaaW.PrintWords Go.Proofs.YtfchokhdhnfajaaW.PrintLast Go.Proofs.YtfchokhdhnfajaaW.PrintMore
set_option linter.unusedVariables false

theorem spec_l01In_is (a lo hi : Int) : spec_l01In.f a lo hi = some (decide (lo ≤ a ∧ a ≤ hi)) := by
  unfold spec_l01In.f
  by_cases h : a ≥ lo
  · rw [if_pos h]
    by_cases h2 : a ≤ hi
    · simp [h, h2]
    · simp [h2]
  · rw [if_neg h]
    have : ¬ lo ≤ a := h
    simp [this]
theorem impl_within_is (a lo hi : Int) : impl_within.f a lo hi = some (decide (lo ≤ a ∧ a ≤ hi)) := by
  unfold impl_within.f
  by_cases h : a ≥ lo
  · rw [if_pos h]
    by_cases h2 : a ≤ hi
    · simp [h, h2]
    · simp [h2]
  · rw [if_neg h]
    have : ¬ lo ≤ a := h
    simp [this]
theorem spec_HalfOk_is (a : Int) : spec_HalfOk.f a = some (decide (0 ≤ a ∧ a ≤ 4294967295)) := by unfold spec_HalfOk.f; rw [spec_l01In_is]; rfl
theorem impl_HalfOk_is (a : Int) : impl_HalfOk.f a = some (decide (0 ≤ a ∧ a ≤ 4294967295)) := by unfold impl_HalfOk.f; rw [impl_within_is]; rfl
def InsP (o c y n : Int) : Prop := (1 ≤ o ∧ o ≤ 8) ∧ (0 ≤ c ∧ c ≤ 4294967295) ∧ (0 ≤ y ∧ y ≤ 15) ∧ (0 ≤ n ∧ n ≤ 15) ∧ ((3 ≤ o ∧ o ≤ 6) ∨ (y = 0 ∧ n = 0)) ∧ (o = 1 → c < 8) ∧ (o = 7 → c < 400)
instance (o c y n : Int) : Decidable (InsP o c y n) := by unfold InsP; infer_instance
theorem spec_InsOk_ev (o c y n : Int) : Ev (fun k => spec_InsOk.f k o c y n) (decide (InsP o c y n)) := by
  refine ⟨2, fun k hk => ?_⟩
  obtain ⟨m, rfl⟩ : ∃ m, k = m + 2 := ⟨k - 2, by omega⟩
  show spec_InsOk.f (m + 2) o c y n = _
  unfold spec_InsOk.f
  rw [spec_l01In_is, spec_HalfOk_is, spec_l01In_is, spec_l01In_is]
  simp only [Option.bind_some]
  have hf : ¬ InsP o c y n → spec_InsOk.j0 (m + 2) true o c y n = some (decide (InsP o c y n)) := by
    intro h
    rw [spec_InsOk.j0, if_pos rfl, decide_eq_false h]
  by_cases h1 : 1 ≤ o ∧ o ≤ 8
  · by_cases h2 : 0 ≤ c ∧ c ≤ 4294967295
    · by_cases h3 : 0 ≤ y ∧ y ≤ 15
      · by_cases h4 : 0 ≤ n ∧ n ≤ 15
        · rw [if_pos (decide_eq_true h1), if_pos (decide_eq_true h2), if_pos (decide_eq_true h3), decide_eq_true h4]
          show spec_InsOk.j0 (m + 2) false o c y n = _
          rw [spec_InsOk.j0, if_neg (by decide)]
          have ha : spec_l06Ask.f o = some (decide (3 ≤ o ∧ o ≤ 6)) := by unfold spec_l06Ask.f; rw [spec_l01In_is]; rfl
          rw [ha]
          simp only [Option.bind_some]
          by_cases h5 : 3 ≤ o ∧ o ≤ 6
          · rw [if_pos (decide_eq_true h5), spec_InsOk.j1, if_neg (by decide), if_neg (by omega), if_neg (by omega)]
            have : InsP o c y n := ⟨h1, h2, h3, h4, .inl h5, fun e => by omega, fun e => by omega⟩
            rw [decide_eq_true this]
          · rw [if_neg (by rw [decide_eq_false h5]; decide)]
            by_cases h6 : y = 0
            · rw [if_pos h6]
              by_cases h7 : n = 0
              · rw [show (n != 0) = false from by simp [h7], spec_InsOk.j1, if_neg (by decide)]
                by_cases h8 : o = 1
                · rw [if_pos h8]
                  congr 1
                  refine decide_eq_decide.2 ⟨fun h => ⟨h1, h2, h3, h4, .inr ⟨h6, h7⟩, fun _ => h, fun e => by omega⟩, fun h => h.2.2.2.2.2.1 h8⟩
                · rw [if_neg h8]
                  by_cases h9 : o = 7
                  · rw [if_pos h9]
                    congr 1
                    refine decide_eq_decide.2 ⟨fun h => ⟨h1, h2, h3, h4, .inr ⟨h6, h7⟩, fun e => by omega, fun _ => h⟩, fun h => h.2.2.2.2.2.2 h9⟩
                  · rw [if_neg h9]
                    have : InsP o c y n := ⟨h1, h2, h3, h4, .inr ⟨h6, h7⟩, fun e => absurd e h8, fun e => absurd e h9⟩
                    rw [decide_eq_true this]
              · rw [show (n != 0) = true from by simp [h7], spec_InsOk.j1, if_pos rfl]
                have : ¬ InsP o c y n := fun h => by have := h.2.2.2.2.1; omega
                rw [decide_eq_false this]
            · rw [if_neg h6, spec_InsOk.j1, if_pos rfl]
              have : ¬ InsP o c y n := fun h => by have := h.2.2.2.2.1; omega
              rw [decide_eq_false this]
        · rw [if_pos (decide_eq_true h1), if_pos (decide_eq_true h2), if_pos (decide_eq_true h3), decide_eq_false h4]
          exact hf (fun h => h4 h.2.2.2.1)
      · rw [if_pos (decide_eq_true h1), if_pos (decide_eq_true h2), if_neg (by rw [decide_eq_false h3]; decide)]
        exact hf (fun h => h3 h.2.2.1)
    · rw [if_pos (decide_eq_true h1), if_neg (by rw [decide_eq_false h2]; decide)]
      exact hf (fun h => h2 h.2.1)
  · rw [if_neg (by rw [decide_eq_false h1]; decide)]
    exact hf (fun h => h1 h.1)
theorem impl_asks_is (o c y n : Int) : impl_Ins_asks.f o c y n = some (decide (3 ≤ o ∧ o ≤ 6)) := by unfold impl_Ins_asks.f; rw [impl_within_is]; rfl
theorem impl_InsOk_ev (o c y n : Int) : Ev (fun k => impl_InsOk.f k o c y n) (decide (InsP o c y n)) := by
  refine ⟨2, fun k hk => ?_⟩
  obtain ⟨m, rfl⟩ : ∃ m, k = m + 2 := ⟨k - 2, by omega⟩
  show impl_InsOk.f (m + 2) o c y n = _
  unfold impl_InsOk.f
  rw [impl_asks_is]
  simp only [Option.bind_some]
  by_cases h5 : 3 ≤ o ∧ o ≤ 6
  · rw [if_pos (decide_eq_true h5), impl_HalfOk_is, impl_within_is, impl_within_is]
    simp only [Option.bind_some]
    by_cases h2 : 0 ≤ c ∧ c ≤ 4294967295
    · rw [if_pos (decide_eq_true h2)]
      by_cases h3 : 0 ≤ y ∧ y ≤ 15
      · rw [if_pos (decide_eq_true h3)]
        congr 1
        exact decide_eq_decide.2 ⟨fun h => ⟨by omega, h2, h3, h, .inl h5, fun e => by omega, fun e => by omega⟩, fun h => h.2.2.2.1⟩
      · rw [if_neg (by rw [decide_eq_false h3]; decide), decide_eq_false (fun h : InsP o c y n => h3 h.2.2.1)]
    · rw [if_neg (by rw [decide_eq_false h2]; decide), decide_eq_false (fun h : InsP o c y n => h2 h.2.1)]
  · rw [if_neg (by rw [decide_eq_false h5]; decide)]
    have hf : ¬ InsP o c y n → impl_InsOk.j0 (m + 2) true o c y n = some (decide (InsP o c y n)) := by
      intro h
      rw [impl_InsOk.j0, if_pos rfl, decide_eq_false h]
    by_cases h6 : y = 0
    · rw [if_pos h6]
      by_cases h7 : n = 0
      · rw [show (n != 0) = false from by simp [h7], impl_InsOk.j0, if_neg (by decide), impl_within_is, impl_within_is, impl_HalfOk_is]
        simp only [Option.bind_some]
        by_cases h8 : o = 1
        · rw [if_pos h8]
          congr 1
          exact decide_eq_decide.2 ⟨fun h => ⟨by omega, by omega, by omega, by omega, .inr ⟨h6, h7⟩, fun _ => by omega, fun e => by omega⟩, fun h => by have := h.2.2.2.2.2.1 h8; have := h.2.1; omega⟩
        · rw [if_neg h8]
          by_cases h9 : o = 7
          · rw [if_pos h9]
            congr 1
            exact decide_eq_decide.2 ⟨fun h => ⟨by omega, by omega, by omega, by omega, .inr ⟨h6, h7⟩, fun e => by omega, fun _ => by omega⟩, fun h => by have := h.2.2.2.2.2.2 h9; have := h.2.1; omega⟩
          · rw [if_neg h9]
            by_cases h10 : o = 2
            · rw [if_pos h10]
              congr 1
              exact decide_eq_decide.2 ⟨fun h => ⟨by omega, h, by omega, by omega, .inr ⟨h6, h7⟩, fun e => by omega, fun e => by omega⟩, fun h => h.2.1⟩
            · rw [if_neg h10]
              by_cases h11 : o = 8
              · rw [if_pos h11]
                congr 1
                exact decide_eq_decide.2 ⟨fun h => ⟨by omega, h, by omega, by omega, .inr ⟨h6, h7⟩, fun e => by omega, fun e => by omega⟩, fun h => h.2.1⟩
              · rw [if_neg h11, decide_eq_false (fun h : InsP o c y n => by have := h.1; omega)]
      · rw [show (n != 0) = true from by simp [h7]]
        exact hf (fun h => by have := h.2.2.2.2.1; omega)
    · rw [if_neg h6]
      exact hf (fun h => by have := h.2.2.2.2.1; omega)
theorem impl_fourAt_is (s : ByteArray) (hs : s.size ≤ 140737488351232) (p : Nat) (h : p + 4 ≤ s.size) : impl_fourAt.f s (p : Int) = some ((Math.fourN s p : Nat) : Int) := by
  unfold impl_fourAt.f
  rw [show wrap64 ((p : Int) + 1) = ((p + 1 : Nat) : Int) from by rw [Math.wrap_in (by omega) (by omega)]; omega, show wrap64 ((p : Int) + 2) = ((p + 2 : Nat) : Int) from by rw [Math.wrap_in (by omega) (by omega)]; omega, show wrap64 ((p : Int) + 3) = ((p + 3 : Nat) : Int) from by rw [Math.wrap_in (by omega) (by omega)]; omega]
  rw [if_pos (by omega), if_pos (by omega), if_pos (by omega), if_pos (by omega), if_pos (by omega), if_pos (by omega), if_pos (by omega), if_pos (by omega)]
  have := Math.four_join _ _ _ _ (Math.bt_lt s (p : Int)) (Math.bt_lt s ((p + 1 : Nat) : Int)) (Math.bt_lt s ((p + 2 : Nat) : Int)) (Math.bt_lt s ((p + 3 : Nat) : Int))
  rw [← Math.bt_cast, ← Math.bt_cast, ← Math.bt_cast, ← Math.bt_cast] at this
  rw [this]
  rfl
def readIns (s : ByteArray) : Int × Int × Int × Int × Bool :=
  if s.size = 7 then if InsP (bt s 0) ((Math.fourN s 3 : Nat) : Int) (bt s 1) (bt s 2) then (bt s 0, ((Math.fourN s 3 : Nat) : Int), bt s 1, bt s 2, true) else (0, 0, 0, 0, false) else (0, 0, 0, 0, false)
theorem spec_ReadIns_ev (s : ByteArray) : Ev (fun k => spec_ReadIns.f k s) (readIns s) := by
  unfold readIns
  by_cases h : s.size = 7
  · rw [if_pos h]
    have hj : Go.bits .or .i64 (Go.bits .or .i64 (Go.bits .or .i64 (wrap64 ((wrap64 (bt s 3)) * 16777216)) (wrap64 ((wrap64 (bt s 4)) * 65536))) (wrap64 ((wrap64 (bt s 5)) * 256))) (wrap64 (bt s 6)) = ((Math.fourN s 3 : Nat) : Int) := by
      have := Math.four_join _ _ _ _ (Math.bt_lt s 3) (Math.bt_lt s 4) (Math.bt_lt s 5) (Math.bt_lt s 6)
      rw [← Math.bt_cast, ← Math.bt_cast, ← Math.bt_cast, ← Math.bt_cast] at this
      exact this
    have hw : ∀ i, wrap64 (bt s i) = bt s i := fun i => by have := bt_range s i; exact Math.wrap_in (by omega) (by omega)
    refine Ev.congr (f := fun k => (spec_InsOk.f k (bt s 0) ((Math.fourN s 3 : Nat) : Int) (bt s 1) (bt s 2)).bind fun t111 => (if t111 = true then (some (bt s 0, ((Math.fourN s 3 : Nat) : Int), bt s 1, bt s 2, true)) else (some (0, 0, 0, 0, false)))) (fun k => ?_) ?_
    · unfold spec_ReadIns.f
      rw [if_pos (by omega), if_pos (by omega), if_pos (by omega), if_pos (by omega), if_pos (by omega), if_pos (by omega), if_pos (by omega), if_pos (by omega), hj, hw, hw, hw]
    · refine Ev.bind (f := fun _ t111 => (if t111 = true then (some (bt s 0, ((Math.fourN s 3 : Nat) : Int), bt s 1, bt s 2, true)) else (some (0, 0, 0, 0, false)))) (spec_InsOk_ev _ _ _ _) (Math.Ev.const ?_)
      by_cases c : InsP (bt s 0) ((Math.fourN s 3 : Nat) : Int) (bt s 1) (bt s 2)
      · rw [if_pos (decide_eq_true c), if_pos c]
      · rw [if_neg (by rw [decide_eq_false c]; decide), if_neg c]
  · rw [if_neg h]
    exact ⟨0, fun k _ => by show spec_ReadIns.f k s = _; unfold spec_ReadIns.f; rw [if_neg (by omega)]⟩
theorem impl_ReadIns_ev (s : ByteArray) : Ev (fun k => impl_ReadIns.f k s) (readIns s) := by
  unfold readIns
  by_cases h : s.size = 7
  · rw [if_pos h]
    have hw : ∀ i, wrap64 (bt s i) = bt s i := fun i => by have := bt_range s i; exact Math.wrap_in (by omega) (by omega)
    have hj : impl_fourAt.f s 3 = some ((Math.fourN s 3 : Nat) : Int) := impl_fourAt_is s (by omega) 3 (by omega)
    refine Ev.congr (f := fun k => (impl_InsOk.f k (bt s 0) ((Math.fourN s 3 : Nat) : Int) (bt s 1) (bt s 2)).bind fun t111 => (if t111 = true then (some (bt s 0, ((Math.fourN s 3 : Nat) : Int), bt s 1, bt s 2, true)) else (some (0, 0, 0, 0, false)))) (fun k => ?_) ?_
    · unfold impl_ReadIns.f
      rw [if_pos (by omega), if_pos (by omega), if_pos (by omega), if_pos (by omega), hj, hw, hw, hw]
      rfl
    · refine Ev.bind (f := fun _ t111 => (if t111 = true then (some (bt s 0, ((Math.fourN s 3 : Nat) : Int), bt s 1, bt s 2, true)) else (some (0, 0, 0, 0, false)))) (impl_InsOk_ev _ _ _ _) (Math.Ev.const ?_)
      by_cases c : InsP (bt s 0) ((Math.fourN s 3 : Nat) : Int) (bt s 1) (bt s 2)
      · rw [if_pos (decide_eq_true c), if_pos c]
      · rw [if_neg (by rw [decide_eq_false c]; decide), if_neg c]
  · rw [if_neg h]
    exact ⟨0, fun k _ => by show impl_ReadIns.f k s = _; unfold impl_ReadIns.f; rw [if_neg (by omega)]⟩
theorem FnExactReadIns : laws_FnExactReadIns.Pure := by
  intro s hs
  refine Ev.rounds ?_
  by_cases hc : (s.size : Int) > 1048576
  · exact ⟨0, fun k _ => by show laws_FnExactReadIns.f k s = _; unfold laws_FnExactReadIns.f; rw [if_pos hc]⟩
  · refine Ev.congr (fun k => by unfold laws_FnExactReadIns.f; rw [if_neg hc]) ?_
    refine Math.Ev.both (r := true) (f := fun _ (x z : Int × Int × Int × Int × Bool) => ((laws_eqIns.f z.1 z.2.1 z.2.2.1 z.2.2.2.1 x.1 x.2.1 x.2.2.1 x.2.2.2.1).bind fun t142 => (if t142 = true then (if (z.2.2.2.2 != x.2.2.2.2) = true then (some false) else (some true)) else (some false)))) (spec_ReadIns_ev s) (impl_ReadIns_ev s) (fun _ => ?_)
    unfold laws_eqIns.f
    simp
end Go.Proofs.Ytfchokhdhnfajaa.Pure
