/- For every text the program's ShortText answers what the reference's ShortText answers. -/
import Derived.Test.YtaljdljhbhmipaaPFnExactShortTextx1
import Derived.Test.YtaljdljhbhmipaaMath
namespace Go.Proofs.Ytaljdljhbhmipaa.Pure
open Go.RowKit Go.Proofs.Ytaljdljhbhmipaa.PFnExactShortText Go.Proofs.YtaljdljhbhmipaaW.PrintWords Go.Proofs.YtaljdljhbhmipaaW.PrintLast Go.Proofs.YtaljdljhbhmipaaW.PrintMore
set_option linter.unusedVariables false

theorem impl_within_is (a lo hi : Int) : impl_within.f a lo hi = some (decide (lo ≤ a ∧ a ≤ hi)) := by
  unfold impl_within.f
  by_cases h : a ≥ lo
  · rw [if_pos h]
    by_cases h2 : a ≤ hi
    · simp [h, h2]
    · simp [h2]
  · rw [if_neg h]
    have : ¬ lo ≤ a := h
    simp [this]
theorem spec_l01Var_l0 (n : Nat) : ∀ (acc : List Int), n < 4294967296 → acc.length + n < 140737488355328 →
    Ev (fun k => spec_l01Var.l0 k (n : Int) acc) (strOfNums (acc ++ Math.varI n)) := by
  induction n using Nat.strongRecOn with
  | ind n ih =>
    intro acc hn ha
    by_cases h : n > 127
    · refine Ev.step (f := fun k => spec_l01Var.l0 k ((n / 128 : Nat) : Int) (acc ++ [((n % 128 + 128 : Nat) : Int)])) (fun k => ?_) ?_
      · show spec_l01Var.l0 (k + 1) (n : Int) acc = _
        rw [spec_l01Var.l0, if_pos (by omega), if_pos (by omega)]
        rw [Int.tdiv_eq_ediv_of_nonneg (by omega), Int.tmod_eq_emod_of_nonneg (by omega)]
        rw [Math.wrap_in (n := (n : Int) / 128) (by omega) (by omega), Math.wrap_in (n := (n : Int) % 128 + 128) (by omega) (by omega)]
        rw [show ((n : Int) % 128 + 128) % 256 = ((n % 128 + 128 : Nat) : Int) from by omega]
        rfl
      · have := ih (n / 128) (by omega) (acc ++ [((n % 128 + 128 : Nat) : Int)]) (by omega) (by rw [List.length_append, List.length_singleton]; omega)
        rw [Math.varI_big h]
        rw [List.append_assoc] at this
        exact this
    · refine Ev.step (f := fun _ => some (strOfNums (acc ++ Math.varI n))) (fun k => ?_) (Math.Ev.const rfl)
      show spec_l01Var.l0 (k + 1) (n : Int) acc = _
      rw [spec_l01Var.l0, if_neg (by omega), if_pos (by omega), Math.varI_small h]
      rw [show (n : Int) % 256 = (n : Int) from by omega]
theorem spec_l01Var_ev (n : Nat) (hn : n < 4294967296) : Ev (fun k => spec_l01Var.f k (n : Int)) (Math.varS n) := by
  have := spec_l01Var_l0 n [] hn (by simp only [List.length_nil]; omega)
  rw [List.nil_append] at this
  exact this
def varOk (a : Int) : ByteArray × Bool := if 0 ≤ a ∧ a ≤ 1000000000 then (Math.varS a.toNat, true) else (⟨#[]⟩, false)
theorem impl_VarText_l0 (n : Nat) : ∀ (acc : List Int), n < 4294967296 → acc.length + n < 140737488355328 →
    Ev (fun k => impl_VarText.l0 k (n : Int) acc) (strOfNums (acc ++ Math.varI n), true) := by
  induction n using Nat.strongRecOn with
  | ind n ih =>
    intro acc hn ha
    by_cases h : n > 127
    · refine Ev.step (f := fun k => impl_VarText.l0 k ((n / 128 : Nat) : Int) (acc ++ [((n % 128 + 128 : Nat) : Int)])) (fun k => ?_) ?_
      · show impl_VarText.l0 (k + 1) (n : Int) acc = _
        rw [impl_VarText.l0, if_pos (by omega), if_pos (by omega), Math.or128 n]
        rfl
      · have := ih (n / 128) (by omega) (acc ++ [((n % 128 + 128 : Nat) : Int)]) (by omega) (by rw [List.length_append, List.length_singleton]; omega)
        rw [Math.varI_big h]
        rw [List.append_assoc] at this
        exact this
    · refine Ev.step (f := fun _ => some (strOfNums (acc ++ Math.varI n), true)) (fun k => ?_) (Math.Ev.const rfl)
      show impl_VarText.l0 (k + 1) (n : Int) acc = _
      rw [impl_VarText.l0, if_neg (by omega), if_pos (by omega), Math.varI_small h]
      rw [show (n : Int) % 256 = (n : Int) from by omega]
theorem impl_VarText_ev (a : Int) : Ev (fun k => impl_VarText.f k a) (varOk a) := by
  refine Ev.congr (f := fun k => (if decide (0 ≤ a ∧ a ≤ 1000000000) = true then (impl_VarText.l0 k a (([] : List Int))) else (some ((⟨#[]⟩ : ByteArray), false)))) (fun k => ?_) ?_
  · show impl_VarText.f k a = _
    unfold impl_VarText.f
    rw [impl_within_is]
    rfl
  · unfold varOk
    by_cases h : 0 ≤ a ∧ a ≤ 1000000000
    · simp only [h, and_self, decide_true, if_true]
      obtain ⟨n, rfl⟩ := Int.eq_ofNat_of_zero_le h.1
      have := impl_VarText_l0 n [] (by omega) (by simp only [List.length_nil]; omega)
      rw [List.nil_append] at this
      exact this
    · rw [if_neg h]
      simp only [h, decide_false]
      exact Math.Ev.const rfl
theorem spec_ShortText_ev (s : ByteArray) (hs : s.size ≤ 140737488351232) : Ev (fun k => spec_ShortText.f k s) (Math.shortS s) := by
  unfold Math.shortS
  by_cases h : (s.size : Int) > 20000
  · rw [if_pos h]
    exact ⟨0, fun k _ => by show spec_ShortText.f k s = _; unfold spec_ShortText.f; rw [if_pos h]⟩
  · rw [if_neg h]
    refine Ev.congr (fun k => by unfold spec_ShortText.f; rw [if_neg h]) ?_
    have hz := Math.varS_size s.size
    exact Ev.bind (f := fun _ (t110 : ByteArray) => (if t110.size + s.size ≤ 9223372036854775807 then (some (t110 ++ s, true)) else (none))) (spec_l01Var_ev s.size (by omega)) (Math.Ev.const (if_pos (by omega)))
theorem impl_ShortText_ev (s : ByteArray) (hs : s.size ≤ 140737488351232) : Ev (fun k => impl_ShortText.f k s) (Math.shortS s) := by
  unfold Math.shortS
  by_cases h : (s.size : Int) > 20000
  · rw [if_pos h]
    exact ⟨0, fun k _ => by show impl_ShortText.f k s = _; unfold impl_ShortText.f; rw [if_pos h]⟩
  · rw [if_neg h]
    refine Ev.congr (fun k => by unfold impl_ShortText.f; rw [if_neg h]) ?_
    have hz := Math.varS_size s.size
    have hv := impl_VarText_ev (s.size : Int)
    unfold varOk at hv
    rw [if_pos (by omega), Int.toNat_natCast] at hv
    exact Ev.bind (f := fun _ (bt121 : ByteArray × Bool) => (if bt121.1.size + s.size ≤ 9223372036854775807 then (some (bt121.1 ++ s, true)) else (none))) hv (Math.Ev.const (if_pos (by show (Math.varS s.size).size + s.size ≤ _; omega)))
theorem FnExactShortText : laws_FnExactShortText.Pure := by
  intro s hs
  refine Ev.rounds ?_
  by_cases hc : (s.size : Int) > 1048576
  · exact ⟨0, fun k _ => by show laws_FnExactShortText.f k s = _; unfold laws_FnExactShortText.f; rw [if_pos hc]⟩
  · refine Ev.congr (fun k => by unfold laws_FnExactShortText.f; rw [if_neg hc]) ?_
    exact Math.Ev.both (r := true) (f := fun _ (x y : ByteArray × Bool) => (if y.1.toList = x.1.toList then (if (y.2 != x.2) = true then (some false) else (some true)) else (some false))) (spec_ShortText_ev s hs) (impl_ShortText_ev s hs) (fun _ => by simp)
end Go.Proofs.Ytaljdljhbhmipaa.Pure
