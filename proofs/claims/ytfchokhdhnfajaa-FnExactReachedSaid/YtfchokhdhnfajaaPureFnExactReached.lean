/- For every program the program's Reached answers what the reference's Reached answers, leaves the program as it is, and shares no memory with another answer. -/
import Derived.Test.YtfchokhdhnfajaaOFnExactReachedx6
import Derived.Test.YtfchokhdhnfajaaMath
import Derived.Test.YtfchokhdhnfajaaOpen
namespace Go.Proofs.Ytfchokhdhnfajaa.Pure
open Go.RowKit Go.Proofs.Ytfchokhdhnfajaa.PFnExactReached Go.Proofs.YtfchokhdhnfajaaW.PrintWords Go.Proofs.YtfchokhdhnfajaaW.PrintLast Go.Proofs.YtfchokhdhnfajaaW.PrintMore
set_option linter.unusedVariables false

theorem spec_l01In_is (a lo hi : Int) : spec_l01In.f a lo hi = some (decide (lo ≤ a ∧ a ≤ hi)) := by
  unfold spec_l01In.f
  by_cases h : a ≥ lo
  · rw [if_pos h]
    by_cases h2 : a ≤ hi
    · simp [h, h2]
    · simp [h2]
  · rw [if_neg h]
    have : ¬ lo ≤ a := h
    simp [this]
theorem impl_within_is (a lo hi : Int) : impl_within.f a lo hi = some (decide (lo ≤ a ∧ a ≤ hi)) := by
  unfold impl_within.f
  by_cases h : a ≥ lo
  · rw [if_pos h]
    by_cases h2 : a ≤ hi
    · simp [h, h2]
    · simp [h2]
  · rw [if_neg h]
    have : ¬ lo ≤ a := h
    simp [this]
theorem spec_HalfOk_is (a : Int) : spec_HalfOk.f a = some (decide (0 ≤ a ∧ a ≤ 4294967295)) := by unfold spec_HalfOk.f; rw [spec_l01In_is]; rfl
theorem impl_HalfOk_is (a : Int) : impl_HalfOk.f a = some (decide (0 ≤ a ∧ a ≤ 4294967295)) := by unfold impl_HalfOk.f; rw [impl_within_is]; rfl
def InsP (o c y n : Int) : Prop := (1 ≤ o ∧ o ≤ 8) ∧ (0 ≤ c ∧ c ≤ 4294967295) ∧ (0 ≤ y ∧ y ≤ 15) ∧ (0 ≤ n ∧ n ≤ 15) ∧ ((3 ≤ o ∧ o ≤ 6) ∨ (y = 0 ∧ n = 0)) ∧ (o = 1 → c < 8) ∧ (o = 7 → c < 400)
instance (o c y n : Int) : Decidable (InsP o c y n) := by unfold InsP; infer_instance
theorem spec_InsOk_ev (o c y n : Int) : Ev (fun k => spec_InsOk.f k o c y n) (decide (InsP o c y n)) := by
  refine ⟨2, fun k hk => ?_⟩
  obtain ⟨m, rfl⟩ : ∃ m, k = m + 2 := ⟨k - 2, by omega⟩
  show spec_InsOk.f (m + 2) o c y n = _
  unfold spec_InsOk.f
  rw [spec_l01In_is, spec_HalfOk_is, spec_l01In_is, spec_l01In_is]
  simp only [Option.bind_some]
  have hf : ¬ InsP o c y n → spec_InsOk.j0 (m + 2) true o c y n = some (decide (InsP o c y n)) := by
    intro h
    rw [spec_InsOk.j0, if_pos rfl, decide_eq_false h]
  by_cases h1 : 1 ≤ o ∧ o ≤ 8
  · by_cases h2 : 0 ≤ c ∧ c ≤ 4294967295
    · by_cases h3 : 0 ≤ y ∧ y ≤ 15
      · by_cases h4 : 0 ≤ n ∧ n ≤ 15
        · rw [if_pos (decide_eq_true h1), if_pos (decide_eq_true h2), if_pos (decide_eq_true h3), decide_eq_true h4]
          show spec_InsOk.j0 (m + 2) false o c y n = _
          rw [spec_InsOk.j0, if_neg (by decide)]
          have ha : spec_l06Ask.f o = some (decide (3 ≤ o ∧ o ≤ 6)) := by unfold spec_l06Ask.f; rw [spec_l01In_is]; rfl
          rw [ha]
          simp only [Option.bind_some]
          by_cases h5 : 3 ≤ o ∧ o ≤ 6
          · rw [if_pos (decide_eq_true h5), spec_InsOk.j1, if_neg (by decide), if_neg (by omega), if_neg (by omega)]
            have : InsP o c y n := ⟨h1, h2, h3, h4, .inl h5, fun e => by omega, fun e => by omega⟩
            rw [decide_eq_true this]
          · rw [if_neg (by rw [decide_eq_false h5]; decide)]
            by_cases h6 : y = 0
            · rw [if_pos h6]
              by_cases h7 : n = 0
              · rw [show (n != 0) = false from by simp [h7], spec_InsOk.j1, if_neg (by decide)]
                by_cases h8 : o = 1
                · rw [if_pos h8]
                  congr 1
                  refine decide_eq_decide.2 ⟨fun h => ⟨h1, h2, h3, h4, .inr ⟨h6, h7⟩, fun _ => h, fun e => by omega⟩, fun h => h.2.2.2.2.2.1 h8⟩
                · rw [if_neg h8]
                  by_cases h9 : o = 7
                  · rw [if_pos h9]
                    congr 1
                    refine decide_eq_decide.2 ⟨fun h => ⟨h1, h2, h3, h4, .inr ⟨h6, h7⟩, fun e => by omega, fun _ => h⟩, fun h => h.2.2.2.2.2.2 h9⟩
                  · rw [if_neg h9]
                    have : InsP o c y n := ⟨h1, h2, h3, h4, .inr ⟨h6, h7⟩, fun e => absurd e h8, fun e => absurd e h9⟩
                    rw [decide_eq_true this]
              · rw [show (n != 0) = true from by simp [h7], spec_InsOk.j1, if_pos rfl]
                have : ¬ InsP o c y n := fun h => by have := h.2.2.2.2.1; omega
                rw [decide_eq_false this]
            · rw [if_neg h6, spec_InsOk.j1, if_pos rfl]
              have : ¬ InsP o c y n := fun h => by have := h.2.2.2.2.1; omega
              rw [decide_eq_false this]
        · rw [if_pos (decide_eq_true h1), if_pos (decide_eq_true h2), if_pos (decide_eq_true h3), decide_eq_false h4]
          exact hf (fun h => h4 h.2.2.2.1)
      · rw [if_pos (decide_eq_true h1), if_pos (decide_eq_true h2), if_neg (by rw [decide_eq_false h3]; decide)]
        exact hf (fun h => h3 h.2.2.1)
    · rw [if_pos (decide_eq_true h1), if_neg (by rw [decide_eq_false h2]; decide)]
      exact hf (fun h => h2 h.2.1)
  · rw [if_neg (by rw [decide_eq_false h1]; decide)]
    exact hf (fun h => h1 h.1)
theorem impl_asks_is (o c y n : Int) : impl_Ins_asks.f o c y n = some (decide (3 ≤ o ∧ o ≤ 6)) := by unfold impl_Ins_asks.f; rw [impl_within_is]; rfl
theorem impl_InsOk_ev (o c y n : Int) : Ev (fun k => impl_InsOk.f k o c y n) (decide (InsP o c y n)) := by
  refine ⟨2, fun k hk => ?_⟩
  obtain ⟨m, rfl⟩ : ∃ m, k = m + 2 := ⟨k - 2, by omega⟩
  show impl_InsOk.f (m + 2) o c y n = _
  unfold impl_InsOk.f
  rw [impl_asks_is]
  simp only [Option.bind_some]
  by_cases h5 : 3 ≤ o ∧ o ≤ 6
  · rw [if_pos (decide_eq_true h5), impl_HalfOk_is, impl_within_is, impl_within_is]
    simp only [Option.bind_some]
    by_cases h2 : 0 ≤ c ∧ c ≤ 4294967295
    · rw [if_pos (decide_eq_true h2)]
      by_cases h3 : 0 ≤ y ∧ y ≤ 15
      · rw [if_pos (decide_eq_true h3)]
        congr 1
        exact decide_eq_decide.2 ⟨fun h => ⟨by omega, h2, h3, h, .inl h5, fun e => by omega, fun e => by omega⟩, fun h => h.2.2.2.1⟩
      · rw [if_neg (by rw [decide_eq_false h3]; decide), decide_eq_false (fun h : InsP o c y n => h3 h.2.2.1)]
    · rw [if_neg (by rw [decide_eq_false h2]; decide), decide_eq_false (fun h : InsP o c y n => h2 h.2.1)]
  · rw [if_neg (by rw [decide_eq_false h5]; decide)]
    have hf : ¬ InsP o c y n → impl_InsOk.j0 (m + 2) true o c y n = some (decide (InsP o c y n)) := by
      intro h
      rw [impl_InsOk.j0, if_pos rfl, decide_eq_false h]
    by_cases h6 : y = 0
    · rw [if_pos h6]
      by_cases h7 : n = 0
      · rw [show (n != 0) = false from by simp [h7], impl_InsOk.j0, if_neg (by decide), impl_within_is, impl_within_is, impl_HalfOk_is]
        simp only [Option.bind_some]
        by_cases h8 : o = 1
        · rw [if_pos h8]
          congr 1
          exact decide_eq_decide.2 ⟨fun h => ⟨by omega, by omega, by omega, by omega, .inr ⟨h6, h7⟩, fun _ => by omega, fun e => by omega⟩, fun h => by have := h.2.2.2.2.2.1 h8; have := h.2.1; omega⟩
        · rw [if_neg h8]
          by_cases h9 : o = 7
          · rw [if_pos h9]
            congr 1
            exact decide_eq_decide.2 ⟨fun h => ⟨by omega, by omega, by omega, by omega, .inr ⟨h6, h7⟩, fun e => by omega, fun _ => by omega⟩, fun h => by have := h.2.2.2.2.2.2 h9; have := h.2.1; omega⟩
          · rw [if_neg h9]
            by_cases h10 : o = 2
            · rw [if_pos h10]
              congr 1
              exact decide_eq_decide.2 ⟨fun h => ⟨by omega, h, by omega, by omega, .inr ⟨h6, h7⟩, fun e => by omega, fun e => by omega⟩, fun h => h.2.1⟩
            · rw [if_neg h10]
              by_cases h11 : o = 8
              · rw [if_pos h11]
                congr 1
                exact decide_eq_decide.2 ⟨fun h => ⟨by omega, h, by omega, by omega, .inr ⟨h6, h7⟩, fun e => by omega, fun e => by omega⟩, fun h => h.2.1⟩
              · rw [if_neg h11, decide_eq_false (fun h : InsP o c y n => by have := h.1; omega)]
      · rw [show (n != 0) = true from by simp [h7]]
        exact hf (fun h => by have := h.2.2.2.2.1; omega)
    · rw [if_neg h6]
      exact hf (fun h => by have := h.2.2.2.2.1; omega)
def conv (x : S23) : S25 := ⟨x.f0, x.f1, x.f2, x.f3⟩
theorem rd_at (l : List S25) (i : Nat) (h : i < l.length) : rd_T25 l (i : Int) = l[i] := by
  unfold rd_T25
  rw [Int.toNat_natCast, List.getD_eq_getElem?_getD, List.getElem?_eq_getElem h]
  rfl
theorem rd_atL (l : List S23) (i : Nat) (h : i < l.length) : rd_T23 l (i : Int) = l[i] := by
  unfold rd_T23
  rw [Int.toNat_natCast, List.getD_eq_getElem?_getD, List.getElem?_eq_getElem h]
  rfl
theorem toInsS_l0 (l : List S23) (hl : l.length ≤ 2000000) (d : Nat) : ∀ (i : Nat) (acc : List S25), i + d = l.length → acc.length = l.length → (∀ j, j < i → acc[j]? = (l.map conv)[j]?) →
    Ev (fun k => laws_toInsS.l0 k l acc (i : Int)) (l.map conv) := by
  induction d with
  | zero =>
    intro i acc hi ha hj
    have e : acc = l.map conv := by
      apply List.ext_getElem?
      intro j
      by_cases c : j < i
      · exact hj j c
      · rw [List.getElem?_eq_none (by omega), List.getElem?_eq_none (by rw [List.length_map]; omega)]
    refine Ev.step (f := fun _ => some (l.map conv)) (fun k => ?_) (Math.Ev.const rfl)
    show laws_toInsS.l0 (k + 1) l acc _ = _
    rw [laws_toInsS.l0, if_neg (by omega), e]
  | succ d ih =>
    intro i acc hi ha hj
    have hlt : i < l.length := by omega
    refine Ev.step (fun k => ?_) (ih (i + 1) (acc.set i (conv l[i])) (by omega) (by rw [List.length_set]; exact ha) (fun j hlj => ?_))
    · show laws_toInsS.l0 (k + 1) l acc _ = _
      rw [laws_toInsS.l0, if_pos (by omega), if_pos (by omega), rd_atL l i hlt]
      unfold laws_toIns.f
      rw [Option.bind_some, if_pos (by omega), Int.toNat_natCast, show wrap64 ((i : Int) + 1) = ((i + 1 : Nat) : Int) from by rw [Math.wrap_in (by omega) (by omega)]; omega]
      rfl
    · by_cases c : j = i
      · subst c
        rw [List.getElem?_set_self (by omega), List.getElem?_map, List.getElem?_eq_getElem hlt]
        rfl
      · rw [List.getElem?_set_ne (by omega)]
        exact hj j (by omega)
theorem toInsS_ev (l : List S23) (hl : l.length ≤ 2000000) : Ev (fun k => laws_toInsS.f k l) (l.map conv) := by
  refine Ev.congr (fun k => by unfold laws_toInsS.f; rw [if_pos (by omega), if_pos (by omega), Int.toNat_natCast]) ?_
  exact toInsS_l0 l hl l.length 0 (List.replicate l.length z25) (by omega) (by rw [List.length_replicate]) (fun j h => by omega)
theorem szInsS_small (l : List S23) (a : Int) (h : (l.length : Int) ≤ a) (ha : a ≤ 1048576) : laws_szInsS.f l a = some (a - l.length) := by
  unfold laws_szInsS.f
  rw [Math.wrap_in (by omega) (by omega), if_neg (by omega)]
theorem szInsS_big (l : List S23) (a : Int) (h : ¬ (l.length : Int) ≤ a) (ha : 0 ≤ a) (hb : a ≤ 1048576) (hl : l.length ≤ 9223372036854775807) : laws_szInsS.f l a = some (-1) := by
  unfold laws_szInsS.f
  rw [Math.wrap_in (by omega) (by omega), if_pos (by omega)]
theorem eqInsS_l0 (l : List S25) (hl : l.length ≤ 2000000) (d : Nat) : ∀ (i : Nat), i + d = l.length → Ev (fun k => laws_eqInsS.l0 k l l (i : Int)) true := by
  induction d with
  | zero =>
    intro i hi
    refine Ev.step (f := fun _ => some true) (fun k => ?_) (Math.Ev.const rfl)
    show laws_eqInsS.l0 (k + 1) l l _ = _
    rw [laws_eqInsS.l0, if_neg (by omega)]
  | succ d ih =>
    intro i hi
    refine Ev.step (fun k => ?_) (ih (i + 1) (by omega))
    show laws_eqInsS.l0 (k + 1) l l _ = _
    rw [laws_eqInsS.l0, if_pos (by omega), if_pos (by omega), if_pos (by omega)]
    unfold laws_eqIns.f
    rw [if_pos rfl, if_pos rfl, if_pos rfl, if_pos rfl, Option.bind_some, if_pos rfl]
    rw [show wrap64 ((i : Int) + 1) = ((i + 1 : Nat) : Int) from by rw [Math.wrap_in (by omega) (by omega)]; omega]
theorem eqInsS_ev (l : List S25) (hl : l.length ≤ 2000000) : Ev (fun k => laws_eqInsS.f k l l) true := by
  refine Ev.congr (fun k => by unfold laws_eqInsS.f; rw [if_pos rfl]) ?_
  exact eqInsS_l0 l hl l.length 0 (by omega)
def farOk (n : Nat) (i : Nat) (x : S25) : Prop := ((3 ≤ x.f0 ∧ x.f0 ≤ 6) → (i : Int) + 1 + x.f2 < n ∧ (i : Int) + 1 + x.f3 < n) ∧ (x.f0 = 7 → (i : Int) + 1 + x.f1 < n)
instance (n i : Nat) (x : S25) : Decidable (farOk n i x) := by unfold farOk; infer_instance
def wordsOk (n : Nat) : List S25 → Nat → Bool
  | [], _ => true
  | x :: l, i => decide (InsP x.f0 x.f1 x.f2 x.f3 ∧ farOk n i x) && wordsOk n l (i + 1)
def lastRet (l : List S25) : Bool := (rd_T25 l ((l.length - 1 : Nat) : Int)).f0 == 8
def checkB (l : List S25) : Bool := decide (1 ≤ l.length ∧ l.length ≤ 400) && (wordsOk l.length l 0 && lastRet l)
theorem spec_Check_l0 (l : List S25) (hl : 1 ≤ l.length) (hl2 : l.length ≤ 400) (d : Nat) : ∀ (i : Nat), i + d = l.length →
    Ev (fun k => spec_CheckProgram.l0 k l (i : Int)) (wordsOk l.length (l.drop i) i && lastRet l) := by
  induction d with
  | zero =>
    intro i hi
    rw [List.drop_eq_nil_of_le (by omega)]
    refine Ev.step (f := fun _ => some (lastRet l)) (fun k => ?_) (Math.Ev.const (by simp [wordsOk]))
    show spec_CheckProgram.l0 (k + 1) l (i : Int) = _
    rw [spec_CheckProgram.l0, if_neg (by omega), show wrap64 ((l.length : Int) - 1) = ((l.length - 1 : Nat) : Int) from by rw [Math.wrap_in (by omega) (by omega)]; omega, if_pos (by omega), if_pos (by omega)]
    rfl
  | succ d ih =>
    intro i hi
    have hlt : i < l.length := by omega
    have e1 : PLift (wrap64 ((i : Int) + 1) = ((i + 1 : Nat) : Int)) := ⟨by rw [Math.wrap_in (by omega) (by omega)]; omega⟩
    rw [List.drop_eq_getElem_cons hlt]
    simp only [wordsOk]
    have hlast : i + 1 = l.length → lastRet l = (l[i].f0 == 8) := by
      intro h
      unfold lastRet
      rw [show l.length - 1 = i from by omega, rd_at l i hlt]
    generalize hx : l[i] = x at *
    have hnext := ih (i + 1) (by omega)
    refine Ev.step (f := fun k => (spec_InsOk.f k x.f0 x.f1 x.f2 x.f3).bind fun t130 => (if t130 = true then (if x.f0 = 8 then (spec_CheckProgram.l0 k l ((i + 1 : Nat) : Int)) else ((spec_l07Far.f x.f0 x.f1 x.f2 x.f3).bind fun t133 => (if (wrap64 (((i + 1 : Nat) : Int) + t133)) ≥ (l.length : Int) then (some false) else (spec_CheckProgram.l0 k l ((i + 1 : Nat) : Int))))) else (some false))) (fun k => ?_) ?_
    · show spec_CheckProgram.l0 (k + 1) l (i : Int) = _
      rw [spec_CheckProgram.l0, if_pos (by omega), if_pos (by omega), rd_at l i hlt, hx, e1.down]
    · refine Ev.bind (f := fun k t130 => (if t130 = true then (if x.f0 = 8 then (spec_CheckProgram.l0 k l ((i + 1 : Nat) : Int)) else ((spec_l07Far.f x.f0 x.f1 x.f2 x.f3).bind fun t133 => (if (wrap64 (((i + 1 : Nat) : Int) + t133)) ≥ (l.length : Int) then (some false) else (spec_CheckProgram.l0 k l ((i + 1 : Nat) : Int))))) else (some false))) (spec_InsOk_ev _ _ _ _) ?_
      by_cases c : InsP x.f0 x.f1 x.f2 x.f3
      · refine Ev.congr (f := fun k => if x.f0 = 8 then (spec_CheckProgram.l0 k l ((i + 1 : Nat) : Int)) else ((spec_l07Far.f x.f0 x.f1 x.f2 x.f3).bind fun t133 => (if (wrap64 (((i + 1 : Nat) : Int) + t133)) ≥ (l.length : Int) then (some false) else (spec_CheckProgram.l0 k l ((i + 1 : Nat) : Int))))) (fun k => if_pos (decide_eq_true c)) ?_
        have c' := c
        unfold InsP at c'
        by_cases h8 : x.f0 = 8
        · have hw : InsP x.f0 x.f1 x.f2 x.f3 ∧ farOk l.length i x := ⟨c, by unfold farOk; omega⟩
          rw [decide_eq_true hw, Bool.true_and]
          exact Ev.congr (fun k => if_pos h8) hnext
        · refine Ev.congr (fun k => if_neg h8) ?_
          obtain ⟨far, hfar, h7, hyn, hb0, hb1⟩ : ∃ far : Int, spec_l07Far.f x.f0 x.f1 x.f2 x.f3 = some far ∧ (x.f0 = 7 → far = x.f1) ∧ (x.f0 ≠ 7 → x.f2 ≤ far ∧ x.f3 ≤ far ∧ (far = x.f2 ∨ far = x.f3)) ∧ 0 ≤ far ∧ far ≤ 4294967295 := by
            unfold spec_l07Far.f
            by_cases h7 : x.f0 = 7
            · exact ⟨x.f1, by rw [if_pos h7], fun _ => rfl, fun h => absurd h7 h, by omega, by omega⟩
            · by_cases hyn : x.f2 > x.f3
              · exact ⟨x.f2, by rw [if_neg h7, if_pos hyn], fun h => absurd h h7, fun _ => by omega, by omega, by omega⟩
              · exact ⟨x.f3, by rw [if_neg h7, if_neg hyn], fun h => absurd h h7, fun _ => by omega, by omega, by omega⟩
          rw [hfar]
          have ew : PLift (wrap64 (((i + 1 : Nat) : Int) + far) = (i : Int) + 1 + far) := ⟨by rw [Math.wrap_in (by omega) (by omega)]; omega⟩
          refine Ev.congr (f := fun k => if (i : Int) + 1 + far ≥ (l.length : Int) then (some false) else (spec_CheckProgram.l0 k l ((i + 1 : Nat) : Int))) (fun k => by rw [Option.bind_some, ew.down]) ?_
          by_cases hge : (i : Int) + 1 + far ≥ (l.length : Int)
          · refine Ev.congr (f := fun _ => some false) (fun k => if_pos hge) (Math.Ev.const ?_)
            congr 1
            by_cases hw : farOk l.length i x
            · have hw' := hw
              unfold farOk at hw'
              rw [hlast (by omega), show (x.f0 == 8) = false from by simpa using h8, Bool.and_false]
            · rw [decide_eq_false (fun h => hw h.2), Bool.false_and, Bool.false_and]
          · refine Ev.congr (fun k => if_neg hge) ?_
            have hw : InsP x.f0 x.f1 x.f2 x.f3 ∧ farOk l.length i x := ⟨c, by unfold farOk; omega⟩
            rw [decide_eq_true hw, Bool.true_and]
            exact hnext
      · rw [decide_eq_false (fun h : InsP x.f0 x.f1 x.f2 x.f3 ∧ farOk l.length i x => c h.1), Bool.false_and, Bool.false_and]
        exact Ev.congr (f := fun _ => some false) (fun k => by rw [decide_eq_false c]; rfl) (Math.Ev.const rfl)
theorem spec_Check_ev (l : List S25) : Ev (fun k => spec_CheckProgram.f k l) (checkB l) := by
  refine Ev.congr (f := fun k => if decide (1 ≤ (l.length : Int) ∧ (l.length : Int) ≤ 400) = true then (spec_CheckProgram.l0 k l 0) else (some false)) (fun k => by unfold spec_CheckProgram.f; rw [spec_l01In_is, Option.bind_some]) ?_
  unfold checkB
  by_cases c : 1 ≤ l.length ∧ l.length ≤ 400
  · rw [decide_eq_true c, Bool.true_and]
    refine Ev.congr (fun k => if_pos (decide_eq_true (by omega))) ?_
    exact spec_Check_l0 l c.1 c.2 l.length 0 (by omega)
  · rw [decide_eq_false c, Bool.false_and]
    exact Ev.congr (f := fun _ => some false) (fun k => by rw [decide_eq_false (by omega)]; rfl) (Math.Ev.const rfl)
theorem impl_farthest_is (x : S25) (i : Nat) (hi : i ≤ 1000) (c : InsP x.f0 x.f1 x.f2 x.f3) (n : Nat) (hn : i < n) :
    ∃ far : Int, impl_farthest.f x.f0 x.f1 x.f2 x.f3 (i : Int) = some far ∧ (far ≥ (n : Int) ↔ ¬ farOk n i x) := by
  unfold impl_farthest.f
  rw [impl_asks_is, Option.bind_some]
  unfold InsP at c
  by_cases h : 3 ≤ x.f0 ∧ x.f0 ≤ 6
  · refine ⟨(i : Int) + 1 + mx x.f2 x.f3, ?_, ?_⟩
    · rw [if_pos (decide_eq_true h)]
      have : 0 ≤ mx x.f2 x.f3 ∧ mx x.f2 x.f3 ≤ 15 := by unfold mx; split <;> omega
      rw [Math.wrap_in (n := (i : Int) + 1) (by omega) (by omega), Math.wrap_in (by omega) (by omega)]
    · unfold mx farOk
      split <;> omega
  · rw [if_neg (by rw [decide_eq_false h]; decide)]
    by_cases h7 : x.f0 = 7
    · refine ⟨(i : Int) + 1 + x.f1, ?_, ?_⟩
      · rw [if_pos h7, Math.wrap_in (n := (i : Int) + 1) (by omega) (by omega), Math.wrap_in (by omega) (by omega)]
      · unfold farOk
        omega
    · refine ⟨(i : Int), by rw [if_neg h7], ?_⟩
      unfold farOk
      omega
theorem impl_Check_l0 (l : List S25) (hl : 1 ≤ l.length) (hl2 : l.length ≤ 400) (d : Nat) : ∀ (i : Nat), i + d = l.length →
    Ev (fun k => impl_CheckProgram.l0 k (l.length : Int) l (l.length : Int) (i : Int)) (wordsOk l.length (l.drop i) i) := by
  induction d with
  | zero =>
    intro i hi
    rw [List.drop_eq_nil_of_le (by omega)]
    refine Ev.step (f := fun _ => some true) (fun k => ?_) (Math.Ev.const rfl)
    show impl_CheckProgram.l0 (k + 1) _ l _ (i : Int) = _
    rw [impl_CheckProgram.l0, if_neg (by omega)]
  | succ d ih =>
    intro i hi
    have hlt : i < l.length := by omega
    have e1 : PLift (wrap64 ((i : Int) + 1) = ((i + 1 : Nat) : Int)) := ⟨by rw [Math.wrap_in (by omega) (by omega)]; omega⟩
    rw [List.drop_eq_getElem_cons hlt]
    simp only [wordsOk]
    have hnext := ih (i + 1) (by omega)
    generalize hx : l[i] = x at *
    refine Ev.step (f := fun k => (impl_InsOk.f k x.f0 x.f1 x.f2 x.f3).bind fun t130 => (if t130 = true then ((impl_farthest.f x.f0 x.f1 x.f2 x.f3 (i : Int)).bind fun t153 => (if t153 ≥ (l.length : Int) then (some false) else (impl_CheckProgram.l0 k (l.length : Int) l (l.length : Int) ((i + 1 : Nat) : Int)))) else (some false))) (fun k => ?_) ?_
    · show impl_CheckProgram.l0 (k + 1) _ l _ (i : Int) = _
      rw [impl_CheckProgram.l0, if_pos (by omega), if_pos (by omega), if_pos (by omega), rd_at l i hlt, hx, e1.down]
    · refine Ev.bind (f := fun k t130 => (if t130 = true then ((impl_farthest.f x.f0 x.f1 x.f2 x.f3 (i : Int)).bind fun t153 => (if t153 ≥ (l.length : Int) then (some false) else (impl_CheckProgram.l0 k (l.length : Int) l (l.length : Int) ((i + 1 : Nat) : Int)))) else (some false))) (impl_InsOk_ev _ _ _ _) ?_
      by_cases c : InsP x.f0 x.f1 x.f2 x.f3
      · refine Ev.congr (fun k => if_pos (decide_eq_true c)) ?_
        obtain ⟨far, hfar, hiff⟩ := impl_farthest_is x i (by omega) c l.length hlt
        rw [hfar]
        refine Ev.congr (f := fun k => if far ≥ (l.length : Int) then (some false) else (impl_CheckProgram.l0 k (l.length : Int) l (l.length : Int) ((i + 1 : Nat) : Int))) (fun k => Option.bind_some _ _) ?_
        by_cases hge : far ≥ (l.length : Int)
        · rw [decide_eq_false (fun h => hiff.1 hge h.2), Bool.false_and]
          exact Ev.congr (f := fun _ => some false) (fun k => if_pos hge) (Math.Ev.const rfl)
        · have hw : farOk l.length i x := Decidable.of_not_not (fun h => hge (hiff.2 h))
          rw [decide_eq_true (⟨c, hw⟩ : InsP x.f0 x.f1 x.f2 x.f3 ∧ farOk l.length i x), Bool.true_and]
          exact Ev.congr (fun k => if_neg hge) hnext
      · rw [decide_eq_false (fun h : InsP x.f0 x.f1 x.f2 x.f3 ∧ farOk l.length i x => c h.1), Bool.false_and]
        exact Ev.congr (f := fun _ => some false) (fun k => by rw [decide_eq_false c]; rfl) (Math.Ev.const rfl)
theorem impl_Check_ev (l : List S25) : Ev (fun k => impl_CheckProgram.f k l) (checkB l) := by
  unfold checkB
  by_cases c : 1 ≤ l.length ∧ l.length ≤ 400
  · rw [decide_eq_true c, Bool.true_and]
    refine Ev.congr (f := fun k => impl_CheckProgram.j0 k l (l.length : Int) (!lastRet l)) (fun k => ?_) ?_
    · show impl_CheckProgram.f k l = _
      unfold impl_CheckProgram.f
      rw [impl_within_is, Option.bind_some, if_pos (decide_eq_true (by omega)), show wrap64 ((l.length : Int) - 1) = ((l.length - 1 : Nat) : Int) from by rw [Math.wrap_in (by omega) (by omega)]; omega, if_pos (by omega), if_pos (by omega)]
      rfl
    · by_cases h : lastRet l = true
      · rw [h, Bool.and_true]
        refine Ev.step (fun k => by rw [impl_CheckProgram.j0, if_neg (by decide)]) ?_
        exact impl_Check_l0 l c.1 c.2 l.length 0 (by omega)
      · rw [Bool.eq_false_iff.2 h, Bool.and_false]
        exact Ev.step (f := fun _ => some false) (fun k => by rw [impl_CheckProgram.j0, if_pos (by decide)]) (Math.Ev.const rfl)
  · rw [decide_eq_false c, Bool.false_and]
    refine Ev.congr (f := fun k => impl_CheckProgram.j0 k l (l.length : Int) true) (fun k => ?_) ?_
    · show impl_CheckProgram.f k l = _
      unfold impl_CheckProgram.f
      rw [impl_within_is, Option.bind_some, if_neg (by rw [decide_eq_false (by omega)]; decide)]
    · exact Ev.step (f := fun _ => some false) (fun k => by rw [impl_CheckProgram.j0, if_pos rfl]) (Math.Ev.const rfl)
theorem wordsOk_at (n : Nat) : ∀ (l : List S25) (i j : Nat) (h : j < l.length), wordsOk n l i = true → InsP l[j].f0 l[j].f1 l[j].f2 l[j].f3 ∧ farOk n (i + j) l[j]
  | [], i, j, h, _ => by simp at h
  | x :: l, i, 0, h, hw => by
    simp only [wordsOk, Bool.and_eq_true, decide_eq_true_eq] at hw
    exact hw.1
  | x :: l, i, j + 1, h, hw => by
    simp only [wordsOk, Bool.and_eq_true, decide_eq_true_eq] at hw
    have := wordsOk_at n l (i + 1) j (by simpa using h) hw.2
    rw [show i + 1 + j = i + (j + 1) from by omega] at this
    exact this
theorem check_at {l : List S25} (h : checkB l = true) : (1 ≤ l.length ∧ l.length ≤ 400) ∧ ∀ (j : Nat) (hj : j < l.length), InsP l[j].f0 l[j].f1 l[j].f2 l[j].f3 ∧ farOk l.length j l[j] ∧ (j + 1 = l.length → l[j].f0 = 8) := by
  unfold checkB at h
  simp only [Bool.and_eq_true, decide_eq_true_eq] at h
  refine ⟨h.1, fun j hj => ?_⟩
  have := wordsOk_at l.length l 0 j hj h.2.1
  rw [Nat.zero_add] at this
  refine ⟨this.1, this.2, fun e => ?_⟩
  have hr := h.2.2
  unfold lastRet at hr
  rw [show l.length - 1 = j from by omega, rd_at l j hj] at hr
  simpa using hr
theorem markInsS_l0 (d : Nat) : ∀ (l : List S25) (i m : Nat), i + d = l.length → m + 4 * d ≤ 100000000 → l.length ≤ 2000000 →
    ∃ l' : List S25, l'.length = l.length ∧ (∀ j, j < i → l'[j]? = l[j]?) ∧
      Ev (fun k => laws_markInsS.l0 k l (m : Int) (i : Int)) (((m + 4 * d : Nat) : Int), l') := by
  induction d with
  | zero =>
    intro l i m hi h2 hl
    refine ⟨l, rfl, fun _ _ => rfl, Ev.step (f := fun _ => some (((m : Nat) : Int), l)) (fun k => ?_) (Math.Ev.const rfl)⟩
    · show laws_markInsS.l0 (k + 1) l _ _ = _
      rw [laws_markInsS.l0, if_neg (by omega)]
  | succ d ih =>
    intro l i m hi h2 hl
    have hlt : i < l.length := by omega
    have e1 : PLift (wrap64 ((m : Int) + 1) = ((m + 1 : Nat) : Int)) := ⟨by rw [Math.wrap_in (by omega) (by omega)]; omega⟩
    have e2 : PLift (wrap64 (((m + 1 : Nat) : Int) + 1) = ((m + 2 : Nat) : Int)) := ⟨by rw [Math.wrap_in (by omega) (by omega)]; omega⟩
    have e3 : PLift (wrap64 (((m + 2 : Nat) : Int) + 1) = ((m + 3 : Nat) : Int)) := ⟨by rw [Math.wrap_in (by omega) (by omega)]; omega⟩
    have e4 : PLift (wrap64 (((m + 3 : Nat) : Int) + 1) = ((m + 4 : Nat) : Int)) := ⟨by rw [Math.wrap_in (by omega) (by omega)]; omega⟩
    have e5 : PLift (wrap64 ((i : Int) + 1) = ((i + 1 : Nat) : Int)) := ⟨by rw [Math.wrap_in (by omega) (by omega)]; omega⟩
    have hset : ∀ (l : List S25) (x : S25) (h : i < l.length), rd_T25 (l.set i x) (i : Int) = x := by
      intro l x h
      rw [rd_at _ i (by rw [List.length_set]; exact h), List.getElem_set_self]
    obtain ⟨l', hlen, hkeep, hm⟩ := ih (l.set i ⟨(m : Int), ((m + 1 : Nat) : Int), ((m + 2 : Nat) : Int), ((m + 3 : Nat) : Int)⟩) (i + 1) (m + 4) (by rw [List.length_set]; omega) (by omega) (by rw [List.length_set]; exact hl)
    rw [List.length_set] at hlen
    refine ⟨l', hlen, fun j hj => ?_, ?_⟩
    · rw [hkeep j (by omega), List.getElem?_set_ne (by omega)]
    · rw [show m + 4 * (d + 1) = m + 4 + 4 * d from by omega]
      refine Ev.step (fun k => ?_) hm
      show laws_markInsS.l0 (k + 1) l _ _ = _
      rw [laws_markInsS.l0, if_pos (by omega), if_pos (by omega), e1.down, e2.down, e3.down, e4.down, e5.down, Int.toNat_natCast]
      have hset1 : ∀ x : S25, rd_T25 (l.set i x) (i : Int) = x := fun x => hset l x hlt
      simp only [Option.bind_some, List.set_set, hset1]
theorem markInsS_ev (l : List S25) (hl : l.length ≤ 2000000) : ∃ l' : List S25, ∃ q : Int, 0 ≤ q ∧ Ev (fun k => laws_markInsS.f k l 1) (q, l') := by
  obtain ⟨l', _, _, hm⟩ := markInsS_l0 l.length l 0 1 (by omega) (by omega) (by omega)
  exact ⟨l', _, Int.natCast_nonneg _, hm⟩
theorem rdb_at (l : List Bool) (i : Nat) (h : i < l.length) : rdOf false l (i : Int) = l[i] := by
  unfold rdOf
  rw [Int.toNat_natCast, List.getD_eq_getElem?_getD, List.getElem?_eq_getElem h]
  rfl
theorem eqBoolS_l0 (l : List Bool) (hl : l.length ≤ 2000000) (d : Nat) : ∀ (i : Nat), i + d = l.length → Ev (fun k => laws_eqBoolS.l0 k l l (i : Int)) true := by
  induction d with
  | zero =>
    intro i hi
    refine Ev.step (f := fun _ => some true) (fun k => ?_) (Math.Ev.const rfl)
    show laws_eqBoolS.l0 (k + 1) l l _ = _
    rw [laws_eqBoolS.l0, if_neg (by omega)]
  | succ d ih =>
    intro i hi
    refine Ev.step (fun k => ?_) (ih (i + 1) (by omega))
    show laws_eqBoolS.l0 (k + 1) l l _ = _
    rw [laws_eqBoolS.l0, if_pos (by omega), if_pos (by omega), if_pos (by omega), if_neg (by simp)]
    rw [show wrap64 ((i : Int) + 1) = ((i + 1 : Nat) : Int) from by rw [Math.wrap_in (by omega) (by omega)]; omega]
theorem eqBoolS_ev (l : List Bool) (hl : l.length ≤ 2000000) : Ev (fun k => laws_eqBoolS.f k l l) true := by
  refine Ev.congr (fun k => by unfold laws_eqBoolS.f; rw [if_pos rfl]) ?_
  exact eqBoolS_l0 l hl l.length 0 (by omega)
theorem markBoolS_l0 (d : Nat) : ∀ (l : List Bool) (i m : Nat), i + d = l.length → m + d ≤ 100000000 → l.length ≤ 2000000 →
    ∃ l' : List Bool, l'.length = l.length ∧ (∀ j, j < i → l'[j]? = l[j]?) ∧
      Ev (fun k => laws_markBoolS.l0 k l (m : Int) (i : Int)) (((m + d : Nat) : Int), l') ∧ Ev (fun k => laws_heldBoolS.l0 k l' (m : Int) (i : Int)) ((m + d : Nat) : Int) := by
  induction d with
  | zero =>
    intro l i m hi h2 hl
    refine ⟨l, rfl, fun _ _ => rfl, Ev.step (f := fun _ => some (((m : Nat) : Int), l)) (fun k => ?_) (Math.Ev.const rfl), Ev.step (f := fun _ => some ((m : Nat) : Int)) (fun k => ?_) (Math.Ev.const rfl)⟩
    · show laws_markBoolS.l0 (k + 1) l _ _ = _
      rw [laws_markBoolS.l0, if_neg (by omega)]
    · show laws_heldBoolS.l0 (k + 1) l _ _ = _
      rw [laws_heldBoolS.l0, if_neg (by omega)]
  | succ d ih =>
    intro l i m hi h2 hl
    have hlt : i < l.length := by omega
    have e1 : PLift (wrap64 ((m : Int) + 1) = ((m + 1 : Nat) : Int)) := ⟨by rw [Math.wrap_in (by omega) (by omega)]; omega⟩
    have e5 : PLift (wrap64 ((i : Int) + 1) = ((i + 1 : Nat) : Int)) := ⟨by rw [Math.wrap_in (by omega) (by omega)]; omega⟩
    obtain ⟨l', hlen, hkeep, hm, hh⟩ := ih (l.set i ((Int.tmod (m : Int) 3) == 0)) (i + 1) (m + 1) (by rw [List.length_set]; omega) (by omega) (by rw [List.length_set]; exact hl)
    rw [List.length_set] at hlen
    refine ⟨l', hlen, fun j hj => ?_, ?_, ?_⟩
    · rw [hkeep j (by omega), List.getElem?_set_ne (by omega)]
    · rw [show m + (d + 1) = m + 1 + d from by omega]
      refine Ev.step (fun k => ?_) hm
      show laws_markBoolS.l0 (k + 1) l _ _ = _
      rw [laws_markBoolS.l0, if_pos (by omega), if_pos (by omega), e1.down, e5.down, Int.toNat_natCast]
    · rw [show m + (d + 1) = m + 1 + d from by omega]
      have hx : rdOf false l' (i : Int) = ((Int.tmod (m : Int) 3) == 0) := by
        have := hkeep i (by omega)
        rw [List.getElem?_set_self hlt, List.getElem?_eq_getElem (by omega)] at this
        rw [rdb_at l' i (by omega)]
        exact Option.some.inj this
      refine Ev.step (fun k => ?_) hh
      show laws_heldBoolS.l0 (k + 1) l' _ _ = _
      rw [laws_heldBoolS.l0, if_pos (by omega), if_pos (by omega), hx, e1.down, e5.down, if_neg (by simp)]
theorem markBoolS_ev (l : List Bool) (hl : l.length ≤ 2000000) : ∃ l' : List Bool, ∃ q : Int, 0 ≤ q ∧ Ev (fun k => laws_markBoolS.f k l 1) (q, l') ∧ Ev (fun k => laws_heldBoolS.f k l' 1) q := by
  obtain ⟨l', _, _, hm, hh⟩ := markBoolS_l0 l.length l 0 1 (by omega) (by omega) (by omega)
  exact ⟨l', _, Int.natCast_nonneg _, hm, hh⟩
theorem set_two (o : List Bool) (a b : Nat) : (o.set a true).set b true = (o.set b true).set a true := by
  by_cases h : a = b
  · subst h; rfl
  · exact List.set_comm _ _ h
theorem ways_run (l : List S25) (i : Nat) (hi : i ≤ 1000) (w : List Nat) (d : Nat) : ∀ (j : Nat) (o : List Bool) (r : List Bool), j + d = w.length → w.length ≤ 10 → (∀ g ∈ w, g < o.length) →
    Ev (fun k => impl_Reached.l0 k ((w.drop j).foldl (fun o g => o.set g true) o) l (l.length : Int) ((i + 1 : Nat) : Int)) r →
    Ev (fun k => impl_Reached.l1 k o l (l.length : Int) (i : Int) (w.map (fun g : Nat => (g : Int))) ((w.map (fun g : Nat => (g : Int))).length : Int) (j : Int)) r := by
  induction d with
  | zero =>
    intro j o r hj hw hg h
    rw [List.drop_eq_nil_of_le (by omega)] at h
    refine Ev.step (fun k => ?_) h
    show impl_Reached.l1 (k + 1) o l _ _ _ _ _ = _
    rw [impl_Reached.l1, if_neg (by rw [List.length_map]; omega), show wrap64 ((i : Int) + 1) = ((i + 1 : Nat) : Int) from by rw [Math.wrap_in (by omega) (by omega)]; omega]
    rfl
  | succ d ih =>
    intro j o r hj hw hg h
    have hlt : j < w.length := by omega
    rw [List.drop_eq_getElem_cons hlt] at h
    have hx : rd (w.map (fun g : Nat => (g : Int))) (j : Int) = (w[j] : Int) := by
      unfold rd
      rw [Int.toNat_natCast, List.getD_eq_getElem?_getD, List.getElem?_map, List.getElem?_eq_getElem hlt]
      rfl
    have hb := hg w[j] (List.getElem_mem hlt)
    refine Ev.step (fun k => ?_) (ih (j + 1) (o.set w[j] true) r (by omega) hw (fun g hm => by rw [List.length_set]; exact hg g hm) h)
    show impl_Reached.l1 (k + 1) o l _ _ _ _ _ = _
    rw [impl_Reached.l1, if_pos (by rw [List.length_map]; omega), if_pos (by omega), if_pos (by rw [List.length_map]; omega), hx, if_pos (by omega), if_pos (by omega), Int.toNat_natCast, show wrap64 ((j : Int) + 1) = ((j + 1 : Nat) : Int) from by rw [Math.wrap_in (by omega) (by omega)]; omega]
theorem ways_ev (x : S25) (i : Nat) (hi : i ≤ 1000) (c : InsP x.f0 x.f1 x.f2 x.f3) (n : Nat) (hF : farOk n i x) (h8 : x.f0 ≠ 8) (hlast : i + 1 < n) :
    ∃ w : List Nat, Ev (fun k => impl_ways.f k x.f0 x.f1 x.f2 x.f3 (i : Int)) (w.map (fun g : Nat => (g : Int))) ∧ w.length ≤ 10 ∧ (∀ g ∈ w, g < n) ∧
      (x.f0 = 7 → ∃ q : Nat, x.f1 = (q : Int) ∧ ∀ o : List Bool, w.foldl (fun o g => o.set g true) o = o.set (i + 1 + q) true) ∧
      (x.f0 ≠ 7 → ∃ p q : Nat, x.f2 = (p : Int) ∧ x.f3 = (q : Int) ∧ i + 1 + p < n ∧ i + 1 + q < n ∧ ∀ o : List Bool, w.foldl (fun o g => o.set g true) o = (o.set (i + 1 + p) true).set (i + 1 + q) true) := by
  have c' := c
  unfold InsP at c'
  have hF' := hF
  unfold farOk at hF'
  have e1 : PLift (wrap64 ((i : Int) + 1) = ((i + 1 : Nat) : Int)) := ⟨by rw [Math.wrap_in (by omega) (by omega)]; omega⟩
  have hadd : ∀ g : Nat, g ≤ 1000 → wrap64 (((i + 1 : Nat) : Int) + (g : Int)) = ((i + 1 + g : Nat) : Int) := fun g hg => by rw [Math.wrap_in (by omega) (by omega)]; omega
  by_cases h7 : x.f0 = 7
  · obtain ⟨q, hq⟩ := Int.eq_ofNat_of_zero_le (show 0 ≤ x.f1 by omega)
    refine ⟨[i + 1 + q], ⟨0, fun k _ => ?_⟩, by simp, fun g hg => ?_, fun _ => ⟨q, hq, fun o => rfl⟩, fun h => absurd h7 h⟩
    · show impl_ways.f k x.f0 x.f1 x.f2 x.f3 (i : Int) = _
      unfold impl_ways.f
      rw [if_neg h8, if_pos h7, e1.down, hq, hadd q (by omega)]
      rfl
    · rw [List.mem_singleton.1 hg]
      omega
  · obtain ⟨p, hp⟩ := Int.eq_ofNat_of_zero_le (show 0 ≤ x.f2 by omega)
    obtain ⟨q, hq⟩ := Int.eq_ofNat_of_zero_le (show 0 ≤ x.f3 by omega)
    have hpq : i + 1 + p < n ∧ i + 1 + q < n := by omega
    by_cases ha : 3 ≤ x.f0 ∧ x.f0 ≤ 6
    · by_cases hne : p = q
      · refine ⟨[i + 1 + p], ⟨1, fun k hk => ?_⟩, by simp, fun g hg => ?_, fun h => absurd h h7, fun _ => ⟨p, q, hp, hq, hpq.1, hpq.2, fun o => ?_⟩⟩
        · obtain ⟨m, rfl⟩ : ∃ m, k = m + 1 := ⟨k - 1, by omega⟩
          show impl_ways.f (m + 1) x.f0 x.f1 x.f2 x.f3 (i : Int) = _
          unfold impl_ways.f
          rw [if_neg h8, if_neg h7, impl_asks_is, Option.bind_some, if_pos (decide_eq_true ha), show (x.f2 != x.f3) = false from by rw [hp, hq, hne]; simp, impl_ways.j0, if_neg (by decide), impl_asks_is, Option.bind_some, if_pos (decide_eq_true ha), e1.down, hp, hadd p (by omega)]
          rfl
        · rw [List.mem_singleton.1 hg]
          omega
        · rw [hne, List.set_set]
          rfl
      · by_cases hlt : p < q
        · refine ⟨[i + 1 + p, i + 1 + q], ⟨1, fun k hk => ?_⟩, by simp, fun g hg => ?_, fun h => absurd h h7, fun _ => ⟨p, q, hp, hq, hpq.1, hpq.2, fun o => rfl⟩⟩
          · obtain ⟨m, rfl⟩ : ∃ m, k = m + 1 := ⟨k - 1, by omega⟩
            show impl_ways.f (m + 1) x.f0 x.f1 x.f2 x.f3 (i : Int) = _
            unfold impl_ways.f
            rw [if_neg h8, if_neg h7, impl_asks_is, Option.bind_some, if_pos (decide_eq_true ha), show (x.f2 != x.f3) = true from by rw [hp, hq, bne_iff_ne]; omega, impl_ways.j0, if_pos rfl, e1.down, show mn x.f2 x.f3 = (p : Int) from by unfold mn; rw [if_neg (by omega), hp], show mx x.f2 x.f3 = (q : Int) from by unfold mx; rw [if_pos (by omega), hq], hadd p (by omega), hadd q (by omega)]
            rfl
          · simp only [List.mem_cons, List.not_mem_nil, or_false] at hg
            omega
        · refine ⟨[i + 1 + q, i + 1 + p], ⟨1, fun k hk => ?_⟩, by simp, fun g hg => ?_, fun h => absurd h h7, fun _ => ⟨p, q, hp, hq, hpq.1, hpq.2, fun o => ?_⟩⟩
          · obtain ⟨m, rfl⟩ : ∃ m, k = m + 1 := ⟨k - 1, by omega⟩
            show impl_ways.f (m + 1) x.f0 x.f1 x.f2 x.f3 (i : Int) = _
            unfold impl_ways.f
            rw [if_neg h8, if_neg h7, impl_asks_is, Option.bind_some, if_pos (decide_eq_true ha), show (x.f2 != x.f3) = true from by rw [hp, hq, bne_iff_ne]; omega, impl_ways.j0, if_pos rfl, e1.down, show mn x.f2 x.f3 = (q : Int) from by unfold mn; rw [if_pos (by omega), hq], show mx x.f2 x.f3 = (p : Int) from by unfold mx; rw [if_neg (by omega), hp], hadd p (by omega), hadd q (by omega)]
            rfl
          · simp only [List.mem_cons, List.not_mem_nil, or_false] at hg
            omega
          · exact set_two o _ _
    · have hp0 : p = 0 := by omega
      have hq0 : q = 0 := by omega
      refine ⟨[i + 1], ⟨1, fun k hk => ?_⟩, by simp, fun g hg => ?_, fun h => absurd h h7, fun _ => ⟨p, q, hp, hq, hpq.1, hpq.2, fun o => ?_⟩⟩
      · obtain ⟨m, rfl⟩ : ∃ m, k = m + 1 := ⟨k - 1, by omega⟩
        show impl_ways.f (m + 1) x.f0 x.f1 x.f2 x.f3 (i : Int) = _
        unfold impl_ways.f
        rw [if_neg h8, if_neg h7, impl_asks_is, Option.bind_some, if_neg (by rw [decide_eq_false ha]; decide), impl_ways.j0, if_neg (by decide), impl_asks_is, Option.bind_some, if_neg (by rw [decide_eq_false ha]; decide), e1.down]
        rfl
      · rw [List.mem_singleton.1 hg]
        omega
      · subst hp0 hq0
        rw [Nat.add_zero, List.set_set]
        rfl
theorem reach_both (l : List S25) (hc : checkB l = true) (d : Nat) : ∀ (i : Nat) (o : List Bool), i + d = l.length → o.length = l.length → (0 < i → o[0]? = some true) → o[0]? = some true →
    ∃ r : List Bool, Ev (fun k => spec_Reached.l0 k l o (i : Int)) r ∧ Ev (fun k => impl_Reached.l0 k o l (l.length : Int) (i : Int)) r ∧ r.length = l.length ∧ r[0]? = some true := by
  obtain ⟨⟨hn1, hn2⟩, hat⟩ := check_at hc
  have set0 : ∀ (o : List Bool) (g : Nat), o[0]? = some true → (o.set g true)[0]? = some true := by
    intro o g h
    by_cases c : g = 0
    · subst c
      rw [List.getElem?_set_self (by
        rcases Nat.eq_zero_or_pos o.length with e | e
        · rw [List.getElem?_eq_none (by omega)] at h
          exact absurd h (by simp)
        · exact e)]
    · rw [List.getElem?_set_ne c]
      exact h
  induction d with
  | zero =>
    intro i o hi ho _ h0
    refine ⟨o, Ev.step (f := fun _ => some o) (fun k => ?_) (Math.Ev.const rfl), Ev.step (f := fun _ => some o) (fun k => ?_) (Math.Ev.const rfl), ho, h0⟩
    · show spec_Reached.l0 (k + 1) l o _ = _
      rw [spec_Reached.l0, if_neg (by omega)]
    · show impl_Reached.l0 (k + 1) o l _ _ = _
      rw [impl_Reached.l0, if_neg (by omega)]
  | succ d ih =>
    intro i o hi ho _ h0
    have hlt : i < l.length := by omega
    obtain ⟨hI, hF, hL⟩ := hat i hlt
    have e1 : PLift (wrap64 ((i : Int) + 1) = ((i + 1 : Nat) : Int)) := ⟨by rw [Math.wrap_in (by omega) (by omega)]; omega⟩
    have hrd := rd_at l i hlt
    have hob := rdb_at o i (by omega)
    generalize hx : l[i] = x at *
    have hadd : ∀ g : Nat, g ≤ 1000 → wrap64 (((i + 1 : Nat) : Int) + (g : Int)) = ((i + 1 + g : Nat) : Int) := fun g hg => by rw [Math.wrap_in (by omega) (by omega)]; omega
    by_cases hb : o[i]'(by omega) = true
    · by_cases h8 : x.f0 = 8
      · obtain ⟨r, r1, r2, r3⟩ := ih (i + 1) o (by omega) ho (fun _ => h0) h0
        refine ⟨r, Ev.step (f := fun k => spec_Reached.j1 k l o (i : Int) true x.f0 x.f1 x.f2 x.f3) (fun k => ?_) (Ev.step (fun k => ?_) r1), Ev.step (f := fun k => (impl_ways.f k x.f0 x.f1 x.f2 x.f3 (i : Int)).bind fun t171 => (impl_Reached.l1 k o l (l.length : Int) (i : Int) t171 (t171.length : Int) 0)) (fun k => ?_) ?_, r3⟩
        · show spec_Reached.l0 (k + 1) l o _ = _
          rw [spec_Reached.l0, if_pos (by omega), if_pos (by omega), if_pos (by omega), hob, if_pos hb, hrd, show (x.f0 == 8) = true from by simpa using h8]
        · show spec_Reached.j1 (k + 1) l o _ _ _ _ _ _ = _
          rw [spec_Reached.j1, if_pos rfl, e1.down]
        · show impl_Reached.l0 (k + 1) o l _ _ = _
          rw [impl_Reached.l0, if_pos (by omega), if_pos (by omega), if_pos (by omega), if_pos (by omega), hob, if_pos hb, hrd]
        · refine Ev.bind (f := fun k t171 => (impl_Reached.l1 k o l (l.length : Int) (i : Int) t171 (t171.length : Int) 0)) (a := ([] : List Int)) ⟨0, fun k _ => ?_⟩ ?_
          · show impl_ways.f k x.f0 x.f1 x.f2 x.f3 (i : Int) = _
            unfold impl_ways.f
            rw [if_pos h8]
          · exact ways_run l i (by omega) [] 0 0 o r rfl (by simp) (fun g hg => by simp at hg) r2
      · have hlast : i + 1 < l.length := by
          rcases Nat.lt_or_ge (i + 1) l.length with h | h
          · exact h
          · exact absurd (hL (by omega)) h8
        obtain ⟨w, w1, w2, w3, w4, w5⟩ := ways_ev x i (by omega) hI l.length hF h8 hlast
        obtain ⟨o', ho', hfold, hspec⟩ : ∃ o' : List Bool, (o'.length = l.length ∧ o'[0]? = some true) ∧ w.foldl (fun o g => o.set g true) o = o' ∧
            ∀ r, Ev (fun k => spec_Reached.l0 k l o' ((i + 1 : Nat) : Int)) r → Ev (fun k => spec_Reached.j1 k l o (i : Int) false x.f0 x.f1 x.f2 x.f3) r := by
          have hI' := hI
          unfold InsP at hI'
          have hF' := hF
          unfold farOk at hF'
          by_cases h7 : x.f0 = 7
          · obtain ⟨q, hq, hf⟩ := w4 h7
            refine ⟨_, ⟨by rw [List.length_set, ho], set0 o _ h0⟩, hf o, fun r hr => Ev.step (fun k => ?_) hr⟩
            show spec_Reached.j1 (k + 1) l o _ _ _ _ _ _ = _
            rw [spec_Reached.j1, if_neg (by decide), if_pos h7, e1.down, hq, hadd q (by omega), if_pos (by omega), if_pos (by omega), Int.toNat_natCast]
          · obtain ⟨p, q, hp, hq, hpn, hqn, hf⟩ := w5 h7
            refine ⟨_, ⟨by rw [List.length_set, List.length_set, ho], set0 _ _ (set0 o _ h0)⟩, hf o, fun r hr => Ev.step (fun k => ?_) hr⟩
            show spec_Reached.j1 (k + 1) l o _ _ _ _ _ _ = _
            rw [spec_Reached.j1, if_neg (by decide), if_neg h7, e1.down, hp, hq, hadd q (by omega), hadd p (by omega), if_pos (by omega), if_pos (by omega), if_pos (by omega), if_pos (by omega), Int.toNat_natCast, Int.toNat_natCast]
        obtain ⟨r, r1, r2, r3⟩ := ih (i + 1) o' (by omega) ho'.1 (fun _ => ho'.2) ho'.2
        refine ⟨r, Ev.step (f := fun k => spec_Reached.j1 k l o (i : Int) false x.f0 x.f1 x.f2 x.f3) (fun k => ?_) (hspec r r1), Ev.step (f := fun k => (impl_ways.f k x.f0 x.f1 x.f2 x.f3 (i : Int)).bind fun t171 => (impl_Reached.l1 k o l (l.length : Int) (i : Int) t171 (t171.length : Int) 0)) (fun k => ?_) ?_, r3⟩
        · show spec_Reached.l0 (k + 1) l o _ = _
          rw [spec_Reached.l0, if_pos (by omega), if_pos (by omega), if_pos (by omega), hob, if_pos hb, hrd, show (x.f0 == 8) = false from by simpa using h8]
        · show impl_Reached.l0 (k + 1) o l _ _ = _
          rw [impl_Reached.l0, if_pos (by omega), if_pos (by omega), if_pos (by omega), if_pos (by omega), hob, if_pos hb, hrd]
        · refine Ev.bind (f := fun k t171 => (impl_Reached.l1 k o l (l.length : Int) (i : Int) t171 (t171.length : Int) 0)) w1 ?_
          refine ways_run l i (by omega) w w.length 0 o r (by omega) w2 (fun g hg => by rw [ho]; exact w3 g hg) ?_
          rw [List.drop_zero, hfold]
          exact r2
    · obtain ⟨r, r1, r2, r3⟩ := ih (i + 1) o (by omega) ho (fun _ => h0) h0
      refine ⟨r, Ev.step (f := fun k => spec_Reached.j1 k l o (i : Int) true x.f0 x.f1 x.f2 x.f3) (fun k => ?_) (Ev.step (fun k => ?_) r1), Ev.step (fun k => ?_) r2, r3⟩
      · show spec_Reached.l0 (k + 1) l o _ = _
        rw [spec_Reached.l0, if_pos (by omega), if_pos (by omega), if_pos (by omega), hob, if_neg hb, hrd]
      · show spec_Reached.j1 (k + 1) l o _ _ _ _ _ _ = _
        rw [spec_Reached.j1, if_pos rfl, e1.down]
      · show impl_Reached.l0 (k + 1) o l _ _ = _
        rw [impl_Reached.l0, if_pos (by omega), if_pos (by omega), if_pos (by omega), if_pos (by omega), hob, if_neg hb, e1.down]
theorem reach_ev (l : List S25) : ∃ r : List Bool, Ev (fun k => spec_Reached.f k l) r ∧ Ev (fun k => impl_Reached.f k l) r ∧ r.length ≤ 2000000 ∧ (checkB l = true → r.length = l.length ∧ r[0]? = some true) := by
  have sgo : ∀ {r : List Bool}, Ev (fun k => if checkB l = true then (if 0 ≤ (l.length : Int) then (if ((l.length : Int) : Int).toNat ≤ 281474976710656 then ((some (List.replicate ((l.length : Int) : Int).toNat false : List Bool)).bind fun y196 => (if 0 < (y196.length : Int) then (spec_Reached.l0 k l (y196.set (0 : Int).toNat true) 0) else (none))) else (none)) else (none)) else (some (([] : List Bool)))) r → Ev (fun k => spec_Reached.f k l) r := fun h =>
    Ev.congr (fun k => by unfold spec_Reached.f; rfl) (Ev.bind (f := fun k t192 => (if t192 = true then (if 0 ≤ (l.length : Int) then (if ((l.length : Int) : Int).toNat ≤ 281474976710656 then ((some (List.replicate ((l.length : Int) : Int).toNat false : List Bool)).bind fun y196 => (if 0 < (y196.length : Int) then (spec_Reached.l0 k l (y196.set (0 : Int).toNat true) 0) else (none))) else (none)) else (none)) else (some (([] : List Bool))))) (spec_Check_ev l) h)
  have igo : ∀ {r : List Bool}, Ev (fun k => if checkB l = true then (if 0 ≤ (l.length : Int) then (if ((l.length : Int) : Int).toNat ≤ 281474976710656 then ((some (List.replicate ((l.length : Int) : Int).toNat false : List Bool)).bind fun y196 => (if 0 < (y196.length : Int) then (impl_Reached.l0 k (y196.set (0 : Int).toNat true) l (l.length : Int) 0) else (none))) else (none)) else (none)) else (some (([] : List Bool)))) r → Ev (fun k => impl_Reached.f k l) r := fun h =>
    Ev.congr (fun k => by unfold impl_Reached.f; rfl) (Ev.bind (f := fun k t192 => (if t192 = true then (if 0 ≤ (l.length : Int) then (if ((l.length : Int) : Int).toNat ≤ 281474976710656 then ((some (List.replicate ((l.length : Int) : Int).toNat false : List Bool)).bind fun y196 => (if 0 < (y196.length : Int) then (impl_Reached.l0 k (y196.set (0 : Int).toNat true) l (l.length : Int) 0) else (none))) else (none)) else (none)) else (some (([] : List Bool))))) (impl_Check_ev l) h)
  by_cases c : checkB l = true
  · have hn := (check_at c).1
    obtain ⟨r, r1, r2, r3, r4⟩ := reach_both l c l.length 0 ((List.replicate l.length false).set 0 true) (by omega) (by rw [List.length_set, List.length_replicate]) (fun h => absurd h (by omega)) (by rw [List.getElem?_set_self (by rw [List.length_replicate]; omega)])
    refine ⟨r, sgo (Ev.congr (fun k => ?_) r1), igo (Ev.congr (fun k => ?_) r2), by omega, fun _ => ⟨r3, r4⟩⟩
    · rw [if_pos c, if_pos (by omega), if_pos (by omega), Option.bind_some, if_pos (by rw [List.length_replicate]; omega), Int.toNat_natCast]
      rfl
    · rw [if_pos c, if_pos (by omega), if_pos (by omega), Option.bind_some, if_pos (by rw [List.length_replicate]; omega), Int.toNat_natCast]
      rfl
  · exact ⟨[], sgo (Ev.congr (f := fun _ => some []) (fun k => if_neg c) (Math.Ev.const rfl)), igo (Ev.congr (f := fun _ => some []) (fun k => if_neg c) (Math.Ev.const rfl)), by simp, fun h => absurd h c⟩
theorem FnExactReached : ∀ (l : List S23), (∀ p ∈ l, Open.i64ok p.f0 ∧ Open.i64ok p.f1 ∧ Open.i64ok p.f2 ∧ Open.i64ok p.f3) → (l = [] ∨ l.length ≤ 9223372036854775807) → ∃ k, laws_FnExactReached.f k l = some true := by
  intro l _ hl0
  have hl9 : l.length ≤ 9223372036854775807 := by rcases hl0 with rfl | h <;> simp_all
  refine Ev.rounds ?_
  by_cases hb : (l.length : Int) ≤ 1048576
  · refine Ev.congr (fun k => by unfold laws_FnExactReached.f; rw [szInsS_small l _ hb (by omega), Option.bind_some, if_neg (by omega)]) ?_
    have ht := toInsS_ev l (by omega)
    have hlen : (l.map conv).length ≤ 2000000 := by rw [List.length_map]; omega
    generalize l.map conv = m at *
    obtain ⟨r, r1, r2, r3, _⟩ := reach_ev m
    have hq := eqBoolS_ev r r3
    obtain ⟨m', q, q0, hm⟩ := markInsS_ev m hlen
    obtain ⟨r', p, p0, hmb, hhb⟩ := markBoolS_ev r r3
    refine Ev.bind (f := fun k t211 => ((spec_Reached.f k t211).bind fun t214 => ((laws_toInsS.f k l).bind fun t217 => ((impl_Reached.f k t217).bind fun t220 => ((laws_eqBoolS.f k t220 t214).bind fun t223 => (if t223 = true then ((laws_toInsS.f k l).bind fun t224 => ((laws_eqInsS.f k t217 t224).bind fun t227 => (if t227 = true then ((laws_markInsS.f k t217 1).bind fun bt228 => (if bt228.1 < 0 then (laws_FnExactReached.j0 k l t214 t220 true) else ((laws_eqBoolS.f k t220 t214).bind fun t230 => (laws_FnExactReached.j0 k l t214 t220 (!t230))))) else (some false)))) else (some false))))))) ht ?_
    refine Ev.bind (f := fun k t214 => ((laws_toInsS.f k l).bind fun t217 => ((impl_Reached.f k t217).bind fun t220 => ((laws_eqBoolS.f k t220 t214).bind fun t223 => (if t223 = true then ((laws_toInsS.f k l).bind fun t224 => ((laws_eqInsS.f k t217 t224).bind fun t227 => (if t227 = true then ((laws_markInsS.f k t217 1).bind fun bt228 => (if bt228.1 < 0 then (laws_FnExactReached.j0 k l t214 t220 true) else ((laws_eqBoolS.f k t220 t214).bind fun t230 => (laws_FnExactReached.j0 k l t214 t220 (!t230))))) else (some false)))) else (some false)))))) r1 ?_
    refine Ev.bind (f := fun k t217 => ((impl_Reached.f k t217).bind fun t220 => ((laws_eqBoolS.f k t220 r).bind fun t223 => (if t223 = true then ((laws_toInsS.f k l).bind fun t224 => ((laws_eqInsS.f k t217 t224).bind fun t227 => (if t227 = true then ((laws_markInsS.f k t217 1).bind fun bt228 => (if bt228.1 < 0 then (laws_FnExactReached.j0 k l r t220 true) else ((laws_eqBoolS.f k t220 r).bind fun t230 => (laws_FnExactReached.j0 k l r t220 (!t230))))) else (some false)))) else (some false))))) ht ?_
    refine Ev.bind (f := fun k t220 => ((laws_eqBoolS.f k t220 r).bind fun t223 => (if t223 = true then ((laws_toInsS.f k l).bind fun t224 => ((laws_eqInsS.f k m t224).bind fun t227 => (if t227 = true then ((laws_markInsS.f k m 1).bind fun bt228 => (if bt228.1 < 0 then (laws_FnExactReached.j0 k l r t220 true) else ((laws_eqBoolS.f k t220 r).bind fun t230 => (laws_FnExactReached.j0 k l r t220 (!t230))))) else (some false)))) else (some false)))) r2 ?_
    refine Ev.bind (f := fun k t223 => (if t223 = true then ((laws_toInsS.f k l).bind fun t224 => ((laws_eqInsS.f k m t224).bind fun t227 => (if t227 = true then ((laws_markInsS.f k m 1).bind fun bt228 => (if bt228.1 < 0 then (laws_FnExactReached.j0 k l r r true) else ((laws_eqBoolS.f k r r).bind fun t230 => (laws_FnExactReached.j0 k l r r (!t230))))) else (some false)))) else (some false))) hq ?_
    refine Ev.congr (fun k => if_pos rfl) ?_
    refine Ev.bind (f := fun k t224 => ((laws_eqInsS.f k m t224).bind fun t227 => (if t227 = true then ((laws_markInsS.f k m 1).bind fun bt228 => (if bt228.1 < 0 then (laws_FnExactReached.j0 k l r r true) else ((laws_eqBoolS.f k r r).bind fun t230 => (laws_FnExactReached.j0 k l r r (!t230))))) else (some false)))) ht ?_
    refine Ev.bind (f := fun k t227 => (if t227 = true then ((laws_markInsS.f k m 1).bind fun bt228 => (if bt228.1 < 0 then (laws_FnExactReached.j0 k l r r true) else ((laws_eqBoolS.f k r r).bind fun t230 => (laws_FnExactReached.j0 k l r r (!t230))))) else (some false))) (eqInsS_ev m hlen) ?_
    refine Ev.congr (fun k => if_pos rfl) ?_
    refine Ev.bind (f := fun k (bt228 : Int × List S25) => (if bt228.1 < 0 then (laws_FnExactReached.j0 k l r r true) else ((laws_eqBoolS.f k r r).bind fun t230 => (laws_FnExactReached.j0 k l r r (!t230))))) hm ?_
    refine Ev.congr (fun k => if_neg (by show ¬ q < 0; omega)) ?_
    refine Ev.bind (f := fun k t230 => (laws_FnExactReached.j0 k l r r (!t230))) hq ?_
    refine Ev.step (fun k => by rw [laws_FnExactReached.j0, if_neg (by decide)]) ?_
    refine Ev.bind (f := fun k (bt231 : Int × List Bool) => ((laws_heldBoolS.f k bt231.2 1).bind fun t233 => (if t233 < 0 then (some false) else (if t233 = bt231.1 then ((laws_toInsS.f k l).bind fun t234 => ((impl_Reached.f k t234).bind fun t237 => ((laws_eqBoolS.f k t237 r).bind fun t240 => (if t240 = true then ((laws_heldBoolS.f k bt231.2 1).bind fun t241 => (if t241 < 0 then (some false) else (if t241 = bt231.1 then (some true) else (some false)))) else (some false))))) else (some false))))) hmb ?_
    refine Ev.bind (f := fun k t233 => (if t233 < 0 then (some false) else (if t233 = p then ((laws_toInsS.f k l).bind fun t234 => ((impl_Reached.f k t234).bind fun t237 => ((laws_eqBoolS.f k t237 r).bind fun t240 => (if t240 = true then ((laws_heldBoolS.f k r' 1).bind fun t241 => (if t241 < 0 then (some false) else (if t241 = p then (some true) else (some false)))) else (some false))))) else (some false)))) hhb ?_
    refine Ev.congr (fun k => (if_neg (by omega)).trans (if_pos rfl)) ?_
    refine Ev.bind (f := fun k t234 => ((impl_Reached.f k t234).bind fun t237 => ((laws_eqBoolS.f k t237 r).bind fun t240 => (if t240 = true then ((laws_heldBoolS.f k r' 1).bind fun t241 => (if t241 < 0 then (some false) else (if t241 = p then (some true) else (some false)))) else (some false))))) ht ?_
    refine Ev.bind (f := fun k t237 => ((laws_eqBoolS.f k t237 r).bind fun t240 => (if t240 = true then ((laws_heldBoolS.f k r' 1).bind fun t241 => (if t241 < 0 then (some false) else (if t241 = p then (some true) else (some false)))) else (some false)))) r2 ?_
    refine Ev.bind (f := fun k t240 => (if t240 = true then ((laws_heldBoolS.f k r' 1).bind fun t241 => (if t241 < 0 then (some false) else (if t241 = p then (some true) else (some false)))) else (some false))) hq ?_
    refine Ev.congr (fun k => if_pos rfl) ?_
    refine Ev.bind (f := fun k t241 => (if t241 < 0 then (some false) else (if t241 = p then (some true) else (some false)))) hhb (Math.Ev.const ?_)
    rw [if_neg (by omega), if_pos rfl]
  · exact ⟨0, fun k _ => by show laws_FnExactReached.f k l = _; unfold laws_FnExactReached.f; rw [szInsS_big l _ hb (by omega) (by omega) (by omega), Option.bind_some, if_pos (by omega)]⟩
end Go.Proofs.Ytfchokhdhnfajaa.Pure
