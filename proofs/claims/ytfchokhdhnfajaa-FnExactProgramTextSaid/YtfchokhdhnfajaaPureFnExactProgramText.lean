/- For every list of words the program's ProgramText answers what the reference's ProgramText answers, and leaves the list as it is. -/
import Derived.Test.YtfchokhdhnfajaaPFnExactProgramTextx4
import Derived.Test.YtfchokhdhnfajaaMath
import Derived.Test.YtfchokhdhnfajaaOpen
namespace Go.Proofs.Ytfchokhdhnfajaa.Pure
open Go.RowKit Go.Proofs.Ytfchokhdhnfajaa.PFnExactProgramText Go.Proofs.YtfchokhdhnfajaaW.PrintWords Go.Proofs.YtfchokhdhnfajaaW.PrintLast Go.Proofs.YtfchokhdhnfajaaW.PrintMore
set_option linter.unusedVariables false

theorem spec_l01In_is (a lo hi : Int) : spec_l01In.f a lo hi = some (decide (lo ≤ a ∧ a ≤ hi)) := by
  unfold spec_l01In.f
  by_cases h : a ≥ lo
  · rw [if_pos h]
    by_cases h2 : a ≤ hi
    · simp [h, h2]
    · simp [h2]
  · rw [if_neg h]
    have : ¬ lo ≤ a := h
    simp [this]
theorem impl_within_is (a lo hi : Int) : impl_within.f a lo hi = some (decide (lo ≤ a ∧ a ≤ hi)) := by
  unfold impl_within.f
  by_cases h : a ≥ lo
  · rw [if_pos h]
    by_cases h2 : a ≤ hi
    · simp [h, h2]
    · simp [h2]
  · rw [if_neg h]
    have : ¬ lo ≤ a := h
    simp [this]
theorem spec_HalfOk_is (a : Int) : spec_HalfOk.f a = some (decide (0 ≤ a ∧ a ≤ 4294967295)) := by unfold spec_HalfOk.f; rw [spec_l01In_is]; rfl
theorem impl_HalfOk_is (a : Int) : impl_HalfOk.f a = some (decide (0 ≤ a ∧ a ≤ 4294967295)) := by unfold impl_HalfOk.f; rw [impl_within_is]; rfl
def InsP (o c y n : Int) : Prop := (1 ≤ o ∧ o ≤ 8) ∧ (0 ≤ c ∧ c ≤ 4294967295) ∧ (0 ≤ y ∧ y ≤ 15) ∧ (0 ≤ n ∧ n ≤ 15) ∧ ((3 ≤ o ∧ o ≤ 6) ∨ (y = 0 ∧ n = 0)) ∧ (o = 1 → c < 8) ∧ (o = 7 → c < 400)
instance (o c y n : Int) : Decidable (InsP o c y n) := by unfold InsP; infer_instance
theorem spec_InsOk_ev (o c y n : Int) : Ev (fun k => spec_InsOk.f k o c y n) (decide (InsP o c y n)) := by
  refine ⟨2, fun k hk => ?_⟩
  obtain ⟨m, rfl⟩ : ∃ m, k = m + 2 := ⟨k - 2, by omega⟩
  show spec_InsOk.f (m + 2) o c y n = _
  unfold spec_InsOk.f
  rw [spec_l01In_is, spec_HalfOk_is, spec_l01In_is, spec_l01In_is]
  simp only [Option.bind_some]
  have hf : ¬ InsP o c y n → spec_InsOk.j0 (m + 2) true o c y n = some (decide (InsP o c y n)) := by
    intro h
    rw [spec_InsOk.j0, if_pos rfl, decide_eq_false h]
  by_cases h1 : 1 ≤ o ∧ o ≤ 8
  · by_cases h2 : 0 ≤ c ∧ c ≤ 4294967295
    · by_cases h3 : 0 ≤ y ∧ y ≤ 15
      · by_cases h4 : 0 ≤ n ∧ n ≤ 15
        · rw [if_pos (decide_eq_true h1), if_pos (decide_eq_true h2), if_pos (decide_eq_true h3), decide_eq_true h4]
          show spec_InsOk.j0 (m + 2) false o c y n = _
          rw [spec_InsOk.j0, if_neg (by decide)]
          have ha : spec_l06Ask.f o = some (decide (3 ≤ o ∧ o ≤ 6)) := by unfold spec_l06Ask.f; rw [spec_l01In_is]; rfl
          rw [ha]
          simp only [Option.bind_some]
          by_cases h5 : 3 ≤ o ∧ o ≤ 6
          · rw [if_pos (decide_eq_true h5), spec_InsOk.j1, if_neg (by decide), if_neg (by omega), if_neg (by omega)]
            have : InsP o c y n := ⟨h1, h2, h3, h4, .inl h5, fun e => by omega, fun e => by omega⟩
            rw [decide_eq_true this]
          · rw [if_neg (by rw [decide_eq_false h5]; decide)]
            by_cases h6 : y = 0
            · rw [if_pos h6]
              by_cases h7 : n = 0
              · rw [show (n != 0) = false from by simp [h7], spec_InsOk.j1, if_neg (by decide)]
                by_cases h8 : o = 1
                · rw [if_pos h8]
                  congr 1
                  refine decide_eq_decide.2 ⟨fun h => ⟨h1, h2, h3, h4, .inr ⟨h6, h7⟩, fun _ => h, fun e => by omega⟩, fun h => h.2.2.2.2.2.1 h8⟩
                · rw [if_neg h8]
                  by_cases h9 : o = 7
                  · rw [if_pos h9]
                    congr 1
                    refine decide_eq_decide.2 ⟨fun h => ⟨h1, h2, h3, h4, .inr ⟨h6, h7⟩, fun e => by omega, fun _ => h⟩, fun h => h.2.2.2.2.2.2 h9⟩
                  · rw [if_neg h9]
                    have : InsP o c y n := ⟨h1, h2, h3, h4, .inr ⟨h6, h7⟩, fun e => absurd e h8, fun e => absurd e h9⟩
                    rw [decide_eq_true this]
              · rw [show (n != 0) = true from by simp [h7], spec_InsOk.j1, if_pos rfl]
                have : ¬ InsP o c y n := fun h => by have := h.2.2.2.2.1; omega
                rw [decide_eq_false this]
            · rw [if_neg h6, spec_InsOk.j1, if_pos rfl]
              have : ¬ InsP o c y n := fun h => by have := h.2.2.2.2.1; omega
              rw [decide_eq_false this]
        · rw [if_pos (decide_eq_true h1), if_pos (decide_eq_true h2), if_pos (decide_eq_true h3), decide_eq_false h4]
          exact hf (fun h => h4 h.2.2.2.1)
      · rw [if_pos (decide_eq_true h1), if_pos (decide_eq_true h2), if_neg (by rw [decide_eq_false h3]; decide)]
        exact hf (fun h => h3 h.2.2.1)
    · rw [if_pos (decide_eq_true h1), if_neg (by rw [decide_eq_false h2]; decide)]
      exact hf (fun h => h2 h.2.1)
  · rw [if_neg (by rw [decide_eq_false h1]; decide)]
    exact hf (fun h => h1 h.1)
theorem impl_asks_is (o c y n : Int) : impl_Ins_asks.f o c y n = some (decide (3 ≤ o ∧ o ≤ 6)) := by unfold impl_Ins_asks.f; rw [impl_within_is]; rfl
theorem impl_InsOk_ev (o c y n : Int) : Ev (fun k => impl_InsOk.f k o c y n) (decide (InsP o c y n)) := by
  refine ⟨2, fun k hk => ?_⟩
  obtain ⟨m, rfl⟩ : ∃ m, k = m + 2 := ⟨k - 2, by omega⟩
  show impl_InsOk.f (m + 2) o c y n = _
  unfold impl_InsOk.f
  rw [impl_asks_is]
  simp only [Option.bind_some]
  by_cases h5 : 3 ≤ o ∧ o ≤ 6
  · rw [if_pos (decide_eq_true h5), impl_HalfOk_is, impl_within_is, impl_within_is]
    simp only [Option.bind_some]
    by_cases h2 : 0 ≤ c ∧ c ≤ 4294967295
    · rw [if_pos (decide_eq_true h2)]
      by_cases h3 : 0 ≤ y ∧ y ≤ 15
      · rw [if_pos (decide_eq_true h3)]
        congr 1
        exact decide_eq_decide.2 ⟨fun h => ⟨by omega, h2, h3, h, .inl h5, fun e => by omega, fun e => by omega⟩, fun h => h.2.2.2.1⟩
      · rw [if_neg (by rw [decide_eq_false h3]; decide), decide_eq_false (fun h : InsP o c y n => h3 h.2.2.1)]
    · rw [if_neg (by rw [decide_eq_false h2]; decide), decide_eq_false (fun h : InsP o c y n => h2 h.2.1)]
  · rw [if_neg (by rw [decide_eq_false h5]; decide)]
    have hf : ¬ InsP o c y n → impl_InsOk.j0 (m + 2) true o c y n = some (decide (InsP o c y n)) := by
      intro h
      rw [impl_InsOk.j0, if_pos rfl, decide_eq_false h]
    by_cases h6 : y = 0
    · rw [if_pos h6]
      by_cases h7 : n = 0
      · rw [show (n != 0) = false from by simp [h7], impl_InsOk.j0, if_neg (by decide), impl_within_is, impl_within_is, impl_HalfOk_is]
        simp only [Option.bind_some]
        by_cases h8 : o = 1
        · rw [if_pos h8]
          congr 1
          exact decide_eq_decide.2 ⟨fun h => ⟨by omega, by omega, by omega, by omega, .inr ⟨h6, h7⟩, fun _ => by omega, fun e => by omega⟩, fun h => by have := h.2.2.2.2.2.1 h8; have := h.2.1; omega⟩
        · rw [if_neg h8]
          by_cases h9 : o = 7
          · rw [if_pos h9]
            congr 1
            exact decide_eq_decide.2 ⟨fun h => ⟨by omega, by omega, by omega, by omega, .inr ⟨h6, h7⟩, fun e => by omega, fun _ => by omega⟩, fun h => by have := h.2.2.2.2.2.2 h9; have := h.2.1; omega⟩
          · rw [if_neg h9]
            by_cases h10 : o = 2
            · rw [if_pos h10]
              congr 1
              exact decide_eq_decide.2 ⟨fun h => ⟨by omega, h, by omega, by omega, .inr ⟨h6, h7⟩, fun e => by omega, fun e => by omega⟩, fun h => h.2.1⟩
            · rw [if_neg h10]
              by_cases h11 : o = 8
              · rw [if_pos h11]
                congr 1
                exact decide_eq_decide.2 ⟨fun h => ⟨by omega, h, by omega, by omega, .inr ⟨h6, h7⟩, fun e => by omega, fun e => by omega⟩, fun h => h.2.1⟩
              · rw [if_neg h11, decide_eq_false (fun h : InsP o c y n => by have := h.1; omega)]
      · rw [show (n != 0) = true from by simp [h7]]
        exact hf (fun h => by have := h.2.2.2.2.1; omega)
    · rw [if_neg h6]
      exact hf (fun h => by have := h.2.2.2.2.1; omega)
def insS (o c y n : Int) : ByteArray := strOfNums [o % 256, y % 256, n % 256] ++ Math.fourS c
theorem insS_size (o c y n : Int) : (insS o c y n).size = 7 := by unfold insS; rw [Math.size_append, Math.fourS_size, strOfNums_size]; rfl
def insText (o c y n : Int) : ByteArray × Bool := if InsP o c y n then (insS o c y n, true) else (⟨#[]⟩, false)
theorem spec_InsText_ev (o c y n : Int) : Ev (fun k => spec_InsText.f k o c y n) (insText o c y n) := by
  refine Ev.congr (fun k => by unfold spec_InsText.f; rfl) ?_
  refine Ev.bind (f := fun _ t116 => (if t116 = true then ((some (([o % 256, y % 256, n % 256] : List Int) : List Int)).bind fun y117 => ((spec_l06Four.f c).bind fun t120 => (if (strOfNums y117).size + t120.size ≤ 9223372036854775807 then (some ((strOfNums y117) ++ t120, true)) else (none)))) else (some ((⟨#[]⟩ : ByteArray), false)))) (spec_InsOk_ev o c y n) (Math.Ev.const ?_)
  unfold insText
  by_cases h : InsP o c y n
  · rw [if_pos (decide_eq_true h), if_pos h]
    show (if (strOfNums [o % 256, y % 256, n % 256]).size + (Math.fourS c).size ≤ 9223372036854775807 then (some ((strOfNums [o % 256, y % 256, n % 256]) ++ (Math.fourS c), true)) else (none)) = _
    rw [if_pos (by rw [Math.fourS_size, strOfNums_size, show ([o % 256, y % 256, n % 256] : List Int).length = 3 from rfl]; omega)]
    rfl
  · rw [if_neg (by rw [decide_eq_false h]; decide), if_neg h]
theorem impl_InsText_ev (o c y n : Int) : Ev (fun k => impl_InsText.f k o c y n) (insText o c y n) := by
  refine Ev.congr (fun k => by unfold impl_InsText.f; rfl) ?_
  refine Ev.bind (f := fun _ t116 => (if t116 = true then ((some (([o % 256, y % 256, n % 256] : List Int) : List Int)).bind fun y117 => ((impl_four.f c).bind fun t120 => (if (strOfNums y117).size + t120.size ≤ 9223372036854775807 then (some ((strOfNums y117) ++ t120, true)) else (none)))) else (some ((⟨#[]⟩ : ByteArray), false)))) (impl_InsOk_ev o c y n) (Math.Ev.const ?_)
  unfold insText
  by_cases h : InsP o c y n
  · rw [if_pos (decide_eq_true h), if_pos h]
    show (if (strOfNums [o % 256, y % 256, n % 256]).size + (Math.fourS c).size ≤ 9223372036854775807 then (some ((strOfNums [o % 256, y % 256, n % 256]) ++ (Math.fourS c), true)) else (none)) = _
    rw [if_pos (by rw [Math.fourS_size, strOfNums_size, show ([o % 256, y % 256, n % 256] : List Int).length = 3 from rfl]; omega)]
    rfl
  · rw [if_neg (by rw [decide_eq_false h]; decide), if_neg h]
def conv (x : S23) : S25 := ⟨x.f0, x.f1, x.f2, x.f3⟩
theorem rd_at (l : List S25) (i : Nat) (h : i < l.length) : rd_T25 l (i : Int) = l[i] := by
  unfold rd_T25
  rw [Int.toNat_natCast, List.getD_eq_getElem?_getD, List.getElem?_eq_getElem h]
  rfl
theorem rd_atL (l : List S23) (i : Nat) (h : i < l.length) : rd_T23 l (i : Int) = l[i] := by
  unfold rd_T23
  rw [Int.toNat_natCast, List.getD_eq_getElem?_getD, List.getElem?_eq_getElem h]
  rfl
theorem toInsS_l0 (l : List S23) (hl : l.length ≤ 2000000) (d : Nat) : ∀ (i : Nat) (acc : List S25), i + d = l.length → acc.length = l.length → (∀ j, j < i → acc[j]? = (l.map conv)[j]?) →
    Ev (fun k => laws_toInsS.l0 k l acc (i : Int)) (l.map conv) := by
  induction d with
  | zero =>
    intro i acc hi ha hj
    have e : acc = l.map conv := by
      apply List.ext_getElem?
      intro j
      by_cases c : j < i
      · exact hj j c
      · rw [List.getElem?_eq_none (by omega), List.getElem?_eq_none (by rw [List.length_map]; omega)]
    refine Ev.step (f := fun _ => some (l.map conv)) (fun k => ?_) (Math.Ev.const rfl)
    show laws_toInsS.l0 (k + 1) l acc _ = _
    rw [laws_toInsS.l0, if_neg (by omega), e]
  | succ d ih =>
    intro i acc hi ha hj
    have hlt : i < l.length := by omega
    refine Ev.step (fun k => ?_) (ih (i + 1) (acc.set i (conv l[i])) (by omega) (by rw [List.length_set]; exact ha) (fun j hlj => ?_))
    · show laws_toInsS.l0 (k + 1) l acc _ = _
      rw [laws_toInsS.l0, if_pos (by omega), if_pos (by omega), rd_atL l i hlt]
      unfold laws_toIns.f
      rw [Option.bind_some, if_pos (by omega), Int.toNat_natCast, show wrap64 ((i : Int) + 1) = ((i + 1 : Nat) : Int) from by rw [Math.wrap_in (by omega) (by omega)]; omega]
      rfl
    · by_cases c : j = i
      · subst c
        rw [List.getElem?_set_self (by omega), List.getElem?_map, List.getElem?_eq_getElem hlt]
        rfl
      · rw [List.getElem?_set_ne (by omega)]
        exact hj j (by omega)
theorem toInsS_ev (l : List S23) (hl : l.length ≤ 2000000) : Ev (fun k => laws_toInsS.f k l) (l.map conv) := by
  refine Ev.congr (fun k => by unfold laws_toInsS.f; rw [if_pos (by omega), if_pos (by omega), Int.toNat_natCast]) ?_
  exact toInsS_l0 l hl l.length 0 (List.replicate l.length z25) (by omega) (by rw [List.length_replicate]) (fun j h => by omega)
theorem szInsS_small (l : List S23) (a : Int) (h : (l.length : Int) ≤ a) (ha : a ≤ 1048576) : laws_szInsS.f l a = some (a - l.length) := by
  unfold laws_szInsS.f
  rw [Math.wrap_in (by omega) (by omega), if_neg (by omega)]
theorem szInsS_big (l : List S23) (a : Int) (h : ¬ (l.length : Int) ≤ a) (ha : 0 ≤ a) (hb : a ≤ 1048576) (hl : l.length ≤ 9223372036854775807) : laws_szInsS.f l a = some (-1) := by
  unfold laws_szInsS.f
  rw [Math.wrap_in (by omega) (by omega), if_pos (by omega)]
theorem eqInsS_l0 (l : List S25) (hl : l.length ≤ 2000000) (d : Nat) : ∀ (i : Nat), i + d = l.length → Ev (fun k => laws_eqInsS.l0 k l l (i : Int)) true := by
  induction d with
  | zero =>
    intro i hi
    refine Ev.step (f := fun _ => some true) (fun k => ?_) (Math.Ev.const rfl)
    show laws_eqInsS.l0 (k + 1) l l _ = _
    rw [laws_eqInsS.l0, if_neg (by omega)]
  | succ d ih =>
    intro i hi
    refine Ev.step (fun k => ?_) (ih (i + 1) (by omega))
    show laws_eqInsS.l0 (k + 1) l l _ = _
    rw [laws_eqInsS.l0, if_pos (by omega), if_pos (by omega), if_pos (by omega)]
    unfold laws_eqIns.f
    rw [if_pos rfl, if_pos rfl, if_pos rfl, if_pos rfl, Option.bind_some, if_pos rfl]
    rw [show wrap64 ((i : Int) + 1) = ((i + 1 : Nat) : Int) from by rw [Math.wrap_in (by omega) (by omega)]; omega]
theorem eqInsS_ev (l : List S25) (hl : l.length ≤ 2000000) : Ev (fun k => laws_eqInsS.f k l l) true := by
  refine Ev.congr (fun k => by unfold laws_eqInsS.f; rw [if_pos rfl]) ?_
  exact eqInsS_l0 l hl l.length 0 (by omega)
def progA : List S25 → ByteArray → Option ByteArray
  | [], acc => some acc
  | x :: l, acc => if InsP x.f0 x.f1 x.f2 x.f3 then progA l (acc ++ insS x.f0 x.f1 x.f2 x.f3) else none
def progEnd : Option ByteArray → ByteArray × Bool
  | some s => (s, true)
  | none => (⟨#[]⟩, false)
def progText (l : List S25) : ByteArray × Bool := if 1 ≤ l.length ∧ l.length ≤ 400 then progEnd (progA l (⟨#[]⟩ : ByteArray)) else (⟨#[]⟩, false)
theorem spec_ProgramText_l0 (l : List S25) (hl : l.length ≤ 2000000) (d : Nat) : ∀ (i : Nat) (acc : ByteArray), i + d = l.length → acc.size ≤ 7 * i →
    Ev (fun k => spec_ProgramText.l0 k l acc (i : Int)) (if 1 ≤ l.length ∧ l.length ≤ 400 then progEnd (progA (l.drop i) acc) else (⟨#[]⟩, false)) := by
  induction d with
  | zero =>
    intro i acc hi ha
    rw [List.drop_eq_nil_of_le (by omega)]
    refine Ev.step (f := fun _ => some (if 1 ≤ l.length ∧ l.length ≤ 400 then progEnd (progA [] acc) else (⟨#[]⟩, false))) (fun k => ?_) (Math.Ev.const rfl)
    show spec_ProgramText.l0 (k + 1) l acc _ = _
    rw [spec_ProgramText.l0, if_neg (by omega), spec_l01In_is, Option.bind_some]
    by_cases c : 1 ≤ l.length ∧ l.length ≤ 400
    · rw [if_pos (decide_eq_true (by omega)), if_pos c]
      rfl
    · rw [if_neg (by rw [decide_eq_false (by omega)]; decide), if_neg c]
  | succ d ih =>
    intro i acc hi ha
    have hlt : i < l.length := by omega
    rw [List.drop_eq_getElem_cons hlt]
    simp only [progA]
    refine Ev.step (f := fun k => (spec_InsText.f k l[i].f0 l[i].f1 l[i].f2 l[i].f3).bind fun bt119 => (if bt119.2 = true then (if acc.size + bt119.1.size ≤ 9223372036854775807 then (spec_ProgramText.l0 k l (acc ++ bt119.1) ((i + 1 : Nat) : Int)) else (none)) else (some ((⟨#[]⟩ : ByteArray), false)))) (fun k => ?_) ?_
    · show spec_ProgramText.l0 (k + 1) l acc _ = _
      rw [spec_ProgramText.l0, if_pos (by omega), if_pos (by omega), rd_at l i hlt, show wrap64 ((i : Int) + 1) = ((i + 1 : Nat) : Int) from by rw [Math.wrap_in (by omega) (by omega)]; omega]
    · refine Ev.bind (f := fun k (bt119 : ByteArray × Bool) => (if bt119.2 = true then (if acc.size + bt119.1.size ≤ 9223372036854775807 then (spec_ProgramText.l0 k l (acc ++ bt119.1) ((i + 1 : Nat) : Int)) else (none)) else (some ((⟨#[]⟩ : ByteArray), false)))) (spec_InsText_ev _ _ _ _) ?_
      unfold insText
      by_cases c : InsP l[i].f0 l[i].f1 l[i].f2 l[i].f3
      · rw [if_pos c, if_pos c]
        have hsz := insS_size l[i].f0 l[i].f1 l[i].f2 l[i].f3
        have hsz2 : acc.size + (insS l[i].f0 l[i].f1 l[i].f2 l[i].f3).size ≤ 9223372036854775807 := by omega
        refine Ev.congr (fun k => (if_pos rfl).trans (if_pos hsz2)) ?_
        exact ih (i + 1) _ (by omega) (by rw [Math.size_append, hsz]; omega)
      · rw [if_neg c, if_neg c]
        have e : (if 1 ≤ l.length ∧ l.length ≤ 400 then progEnd none else ((⟨#[]⟩ : ByteArray), false)) = ((⟨#[]⟩ : ByteArray), false) := by split <;> rfl
        rw [e]
        exact Math.Ev.const rfl
theorem spec_ProgramText_ev (l : List S25) (hl : l.length ≤ 2000000) : Ev (fun k => spec_ProgramText.f k l) (progText l) :=
  spec_ProgramText_l0 l hl l.length 0 _ (by omega) (by decide)
theorem impl_ProgramText_l0 (l : List S25) (hl : l.length ≤ 2000000) (d : Nat) : ∀ (i : Nat) (acc : ByteArray), i + d = l.length → acc.size ≤ 7 * i →
    Ev (fun k => impl_ProgramText.l0 k acc l (l.length : Int) (i : Int)) (progEnd (progA (l.drop i) acc)) := by
  induction d with
  | zero =>
    intro i acc hi ha
    rw [List.drop_eq_nil_of_le (by omega)]
    refine Ev.step (f := fun _ => some (progEnd (progA [] acc))) (fun k => ?_) (Math.Ev.const rfl)
    show impl_ProgramText.l0 (k + 1) acc l _ _ = _
    rw [impl_ProgramText.l0, if_neg (by omega)]
    rfl
  | succ d ih =>
    intro i acc hi ha
    have hlt : i < l.length := by omega
    rw [List.drop_eq_getElem_cons hlt]
    simp only [progA]
    refine Ev.step (f := fun k => (impl_InsText.f k l[i].f0 l[i].f1 l[i].f2 l[i].f3).bind fun bt119 => (if bt119.2 = true then (if acc.size + bt119.1.size ≤ 9223372036854775807 then (impl_ProgramText.l0 k (acc ++ bt119.1) l (l.length : Int) ((i + 1 : Nat) : Int)) else (none)) else (some ((⟨#[]⟩ : ByteArray), false)))) (fun k => ?_) ?_
    · show impl_ProgramText.l0 (k + 1) acc l _ _ = _
      rw [impl_ProgramText.l0, if_pos (by omega), if_pos (by omega), if_pos (by omega), rd_at l i hlt, show wrap64 ((i : Int) + 1) = ((i + 1 : Nat) : Int) from by rw [Math.wrap_in (by omega) (by omega)]; omega]
    · refine Ev.bind (f := fun k (bt119 : ByteArray × Bool) => (if bt119.2 = true then (if acc.size + bt119.1.size ≤ 9223372036854775807 then (impl_ProgramText.l0 k (acc ++ bt119.1) l (l.length : Int) ((i + 1 : Nat) : Int)) else (none)) else (some ((⟨#[]⟩ : ByteArray), false)))) (impl_InsText_ev _ _ _ _) ?_
      unfold insText
      by_cases c : InsP l[i].f0 l[i].f1 l[i].f2 l[i].f3
      · rw [if_pos c, if_pos c]
        have hsz := insS_size l[i].f0 l[i].f1 l[i].f2 l[i].f3
        have hsz2 : acc.size + (insS l[i].f0 l[i].f1 l[i].f2 l[i].f3).size ≤ 9223372036854775807 := by omega
        refine Ev.congr (fun k => (if_pos rfl).trans (if_pos hsz2)) ?_
        exact ih (i + 1) _ (by omega) (by rw [Math.size_append, hsz]; omega)
      · rw [if_neg c, if_neg c]
        exact Math.Ev.const rfl
theorem impl_ProgramText_ev (l : List S25) (hl : l.length ≤ 2000000) : Ev (fun k => impl_ProgramText.f k l) (progText l) := by
  refine Ev.congr (fun k => by unfold impl_ProgramText.f; rw [impl_within_is, Option.bind_some]) ?_
  unfold progText
  by_cases c : 1 ≤ l.length ∧ l.length ≤ 400
  · rw [if_pos c]
    refine Ev.congr (fun k => if_pos (decide_eq_true (by omega))) ?_
    exact impl_ProgramText_l0 l hl l.length 0 _ (by omega) (by decide)
  · rw [if_neg c]
    exact Ev.congr (f := fun _ => some ((⟨#[]⟩ : ByteArray), false)) (fun k => by rw [decide_eq_false (by omega)]; rfl) (Math.Ev.const rfl)
theorem FnExactProgramText : ∀ l : List S23, (∀ p ∈ l, Open.i64ok p.f0 ∧ Open.i64ok p.f1 ∧ Open.i64ok p.f2 ∧ Open.i64ok p.f3) → (l = [] ∨ l.length ≤ 9223372036854775807) → ∃ k, laws_FnExactProgramText.f k l = some true := by
  intro l _ hl0
  have hl9 : l.length ≤ 9223372036854775807 := by rcases hl0 with rfl | h <;> simp_all
  refine Ev.rounds ?_
  by_cases hb : (l.length : Int) ≤ 1048576
  · refine Ev.congr (fun k => by unfold laws_FnExactProgramText.f; rw [szInsS_small l _ hb (by omega), Option.bind_some, if_neg (by omega)]) ?_
    have ht := toInsS_ev l (by omega)
    have hlen : (l.map conv).length ≤ 2000000 := by rw [List.length_map]; omega
    generalize l.map conv = m at *
    refine Ev.bind (f := fun k t166 => ((spec_ProgramText.f k t166).bind fun bt169 => ((laws_toInsS.f k l).bind fun t171 => ((impl_ProgramText.f k t171).bind fun bt174 => (if bt174.1.toList = bt169.1.toList then (laws_FnExactProgramText.j0 k l t171 (bt174.2 != bt169.2)) else (laws_FnExactProgramText.j0 k l t171 true)))))) ht ?_
    refine Ev.bind (f := fun k (bt169 : ByteArray × Bool) => ((laws_toInsS.f k l).bind fun t171 => ((impl_ProgramText.f k t171).bind fun bt174 => (if bt174.1.toList = bt169.1.toList then (laws_FnExactProgramText.j0 k l t171 (bt174.2 != bt169.2)) else (laws_FnExactProgramText.j0 k l t171 true))))) (spec_ProgramText_ev m hlen) ?_
    refine Ev.bind (f := fun k t171 => ((impl_ProgramText.f k t171).bind fun bt174 => (if bt174.1.toList = (progText m).1.toList then (laws_FnExactProgramText.j0 k l t171 (bt174.2 != (progText m).2)) else (laws_FnExactProgramText.j0 k l t171 true)))) ht ?_
    refine Ev.bind (f := fun k (bt174 : ByteArray × Bool) => (if bt174.1.toList = (progText m).1.toList then (laws_FnExactProgramText.j0 k l m (bt174.2 != (progText m).2)) else (laws_FnExactProgramText.j0 k l m true))) (impl_ProgramText_ev m hlen) ?_
    refine Ev.congr (f := fun k => laws_FnExactProgramText.j0 k l m false) (fun k => by rw [if_pos rfl]; simp) ?_
    refine Ev.step (fun k => by rw [laws_FnExactProgramText.j0, if_neg (by decide)]) ?_
    refine Ev.bind (f := fun k t176 => ((laws_eqInsS.f k m t176).bind fun t179 => (if t179 = true then (some true) else (some false)))) ht ?_
    refine Ev.bind (f := fun k t179 => (if t179 = true then (some true) else (some false))) (eqInsS_ev m hlen) (Math.Ev.const (if_pos rfl))
  · exact ⟨0, fun k _ => by show laws_FnExactProgramText.f k l = _; unfold laws_FnExactProgramText.f; rw [szInsS_big l _ hb (by omega) (by omega) (by omega), Option.bind_some, if_pos (by omega)]⟩
end Go.Proofs.Ytfchokhdhnfajaa.Pure
