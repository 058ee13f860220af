/- For every program and every call the program's Run answers what the reference's Run answers, and leaves both as they are. -/
import Derived.Test.YtfchokhdhnfajaaPFnExactRunx7
import Derived.Test.YtfchokhdhnfajaaMath
import Derived.Test.YtfchokhdhnfajaaOpen
namespace Go.Proofs.Ytfchokhdhnfajaa.Pure
open Go.RowKit Go.Proofs.Ytfchokhdhnfajaa.PFnExactRun Go.Proofs.YtfchokhdhnfajaaW.PrintWords Go.Proofs.YtfchokhdhnfajaaW.PrintLast Go.Proofs.YtfchokhdhnfajaaW.PrintMore
set_option linter.unusedVariables false

theorem spec_l01In_is (a lo hi : Int) : spec_l01In.f a lo hi = some (decide (lo ≤ a ∧ a ≤ hi)) := by
  unfold spec_l01In.f
  by_cases h : a ≥ lo
  · rw [if_pos h]
    by_cases h2 : a ≤ hi
    · simp [h, h2]
    · simp [h2]
  · rw [if_neg h]
    have : ¬ lo ≤ a := h
    simp [this]
theorem impl_within_is (a lo hi : Int) : impl_within.f a lo hi = some (decide (lo ≤ a ∧ a ≤ hi)) := by
  unfold impl_within.f
  by_cases h : a ≥ lo
  · rw [if_pos h]
    by_cases h2 : a ≤ hi
    · simp [h, h2]
    · simp [h2]
  · rw [if_neg h]
    have : ¬ lo ≤ a := h
    simp [this]
theorem spec_HalfOk_is (a : Int) : spec_HalfOk.f a = some (decide (0 ≤ a ∧ a ≤ 4294967295)) := by unfold spec_HalfOk.f; rw [spec_l01In_is]; rfl
theorem impl_HalfOk_is (a : Int) : impl_HalfOk.f a = some (decide (0 ≤ a ∧ a ≤ 4294967295)) := by unfold impl_HalfOk.f; rw [impl_within_is]; rfl
def wideOk (a b : Int) : Bool := decide (0 ≤ a ∧ a ≤ 4294967295) && decide (0 ≤ b ∧ b ≤ 4294967295)
theorem spec_WideOk_is (a b : Int) : spec_WideOk.f a b = some (wideOk a b) := by
  unfold spec_WideOk.f wideOk
  rw [spec_HalfOk_is, spec_HalfOk_is]
  by_cases h : 0 ≤ a ∧ a ≤ 4294967295 <;> simp [h]
theorem impl_WideOk_is (a b : Int) : impl_WideOk.f a b = some (wideOk a b) := by
  unfold impl_WideOk.f wideOk
  rw [impl_HalfOk_is, impl_HalfOk_is]
  by_cases h : 0 ≤ a ∧ a ≤ 4294967295 <;> simp [h]
def widesOk : List S107 → Bool
  | [] => true
  | x :: l => wideOk x.f0 x.f1 && widesOk l
def callB (a b : Int) (l : List S107) : Bool := widesOk l && (decide (0 ≤ a ∧ a ≤ 4294967295) && (decide (0 ≤ b ∧ b ≤ 4294967295) && ((l.length : Int) == 3)))
theorem rd_atW (l : List S107) (i : Nat) (h : i < l.length) : rd_T107 l (i : Int) = l[i] := by
  unfold rd_T107
  rw [Int.toNat_natCast, List.getD_eq_getElem?_getD, List.getElem?_eq_getElem h]
  rfl
theorem callEnd (a b : Int) (l : List S107) (F : Int → Option Bool) (hF : ∀ x, F x = some (decide (0 ≤ x ∧ x ≤ 4294967295))) :
    ((F a).bind fun t110 => (if t110 = true then ((F b).bind fun t111 => (if t111 = true then (some ((l.length : Int) == 3)) else (some false))) else (some false))) = some (decide (0 ≤ a ∧ a ≤ 4294967295) && (decide (0 ≤ b ∧ b ≤ 4294967295) && ((l.length : Int) == 3))) := by
  rw [hF, hF]
  by_cases h1 : 0 ≤ a ∧ a ≤ 4294967295 <;> by_cases h2 : 0 ≤ b ∧ b ≤ 4294967295 <;> simp [h1, h2]
theorem spec_CallOk_l0 (a b : Int) (l : List S107) (hl : l.length ≤ 2000000) (d : Nat) : ∀ (i : Nat), i + d = l.length →
    Ev (fun k => spec_CallOk.l0 k (i : Int) a b l) (widesOk (l.drop i) && (decide (0 ≤ a ∧ a ≤ 4294967295) && (decide (0 ≤ b ∧ b ≤ 4294967295) && ((l.length : Int) == 3)))) := by
  induction d with
  | zero =>
    intro i hi
    rw [List.drop_eq_nil_of_le (by omega)]
    refine Ev.step (f := fun _ => some (decide (0 ≤ a ∧ a ≤ 4294967295) && (decide (0 ≤ b ∧ b ≤ 4294967295) && ((l.length : Int) == 3)))) (fun k => ?_) (Math.Ev.const (by simp [widesOk]))
    show spec_CallOk.l0 (k + 1) (i : Int) a b l = _
    rw [spec_CallOk.l0, if_neg (by omega)]
    exact callEnd a b l _ spec_HalfOk_is
  | succ d ih =>
    intro i hi
    have hlt : i < l.length := by omega
    rw [List.drop_eq_getElem_cons hlt]
    simp only [widesOk]
    by_cases c : wideOk l[i].f0 l[i].f1 = true
    · rw [c, Bool.true_and]
      refine Ev.step (fun k => ?_) (ih (i + 1) (by omega))
      show spec_CallOk.l0 (k + 1) (i : Int) a b l = _
      rw [spec_CallOk.l0, if_pos (by omega), if_pos (by omega), rd_atW l i hlt, spec_WideOk_is, Option.bind_some, if_pos c, show wrap64 ((i : Int) + 1) = ((i + 1 : Nat) : Int) from by rw [Math.wrap_in (by omega) (by omega)]; omega]
    · rw [Bool.eq_false_iff.2 c, Bool.false_and, Bool.false_and]
      refine Ev.step (f := fun _ => some false) (fun k => ?_) (Math.Ev.const rfl)
      show spec_CallOk.l0 (k + 1) (i : Int) a b l = _
      rw [spec_CallOk.l0, if_pos (by omega), if_pos (by omega), rd_atW l i hlt, spec_WideOk_is, Option.bind_some, if_neg c]
theorem spec_CallOk_ev (a b : Int) (l : List S107) (hl : l.length ≤ 2000000) : Ev (fun k => spec_CallOk.f k a b l) (callB a b l) := spec_CallOk_l0 a b l hl l.length 0 (by omega)
theorem impl_CallOk_l0 (a b : Int) (l : List S107) (hl : l.length ≤ 2000000) (d : Nat) : ∀ (i : Nat), i + d = l.length →
    Ev (fun k => impl_CallOk.l0 k l (l.length : Int) (i : Int) a b l) (widesOk (l.drop i) && (decide (0 ≤ a ∧ a ≤ 4294967295) && (decide (0 ≤ b ∧ b ≤ 4294967295) && ((l.length : Int) == 3)))) := by
  induction d with
  | zero =>
    intro i hi
    rw [List.drop_eq_nil_of_le (by omega)]
    refine Ev.step (f := fun _ => some (decide (0 ≤ a ∧ a ≤ 4294967295) && (decide (0 ≤ b ∧ b ≤ 4294967295) && ((l.length : Int) == 3)))) (fun k => ?_) (Math.Ev.const (by simp [widesOk]))
    show impl_CallOk.l0 (k + 1) l _ (i : Int) a b l = _
    rw [impl_CallOk.l0, if_neg (by omega)]
    exact callEnd a b l _ impl_HalfOk_is
  | succ d ih =>
    intro i hi
    have hlt : i < l.length := by omega
    rw [List.drop_eq_getElem_cons hlt]
    simp only [widesOk]
    by_cases c : wideOk l[i].f0 l[i].f1 = true
    · rw [c, Bool.true_and]
      refine Ev.step (fun k => ?_) (ih (i + 1) (by omega))
      show impl_CallOk.l0 (k + 1) l _ (i : Int) a b l = _
      rw [impl_CallOk.l0, if_pos (by omega), if_pos (by omega), if_pos (by omega), rd_atW l i hlt, impl_WideOk_is, Option.bind_some, if_pos c, show wrap64 ((i : Int) + 1) = ((i + 1 : Nat) : Int) from by rw [Math.wrap_in (by omega) (by omega)]; omega]
    · rw [Bool.eq_false_iff.2 c, Bool.false_and, Bool.false_and]
      refine Ev.step (f := fun _ => some false) (fun k => ?_) (Math.Ev.const rfl)
      show impl_CallOk.l0 (k + 1) l _ (i : Int) a b l = _
      rw [impl_CallOk.l0, if_pos (by omega), if_pos (by omega), if_pos (by omega), rd_atW l i hlt, impl_WideOk_is, Option.bind_some, if_neg c]
theorem impl_CallOk_ev (a b : Int) (l : List S107) (hl : l.length ≤ 2000000) : Ev (fun k => impl_CallOk.f k a b l) (callB a b l) := impl_CallOk_l0 a b l hl l.length 0 (by omega)
theorem callB_len {a b : Int} {l : List S107} (h : callB a b l = true) : l.length = 3 := by
  unfold callB at h
  simp at h
  omega
def fieldAt (a b : Int) (l : List S107) (p : Int) : Int × Bool :=
  if callB a b l = true ∧ (0 ≤ p ∧ p ≤ 7) then
    if p = 0 then (b, true) else if p = 1 then (a, true) else if Int.tmod p 2 = 0 then ((rd_T107 l (p / 2 - 1)).f1, true) else ((rd_T107 l (p / 2 - 1)).f0, true)
  else (0, false)
theorem spec_FieldAt_ev (a b : Int) (l : List S107) (hl : l.length ≤ 2000000) (p : Int) (hp : -9223372036854775808 ≤ p ∧ p ≤ 9223372036854775807) : Ev (fun k => spec_FieldAt.f k a b l p) (fieldAt a b l p) := by
  refine Ev.congr (f := fun k => (spec_CallOk.f k a b l).bind fun t137 => (if t137 = true then (spec_FieldAt.j0 k p (!decide (0 ≤ p ∧ p ≤ 7)) a b l) else (spec_FieldAt.j0 k p true a b l))) (fun k => by unfold spec_FieldAt.f; rw [spec_l01In_is]; rfl) ?_
  refine Ev.bind (f := fun k t137 => (if t137 = true then (spec_FieldAt.j0 k p (!decide (0 ≤ p ∧ p ≤ 7)) a b l) else (spec_FieldAt.j0 k p true a b l))) (spec_CallOk_ev a b l hl) ?_
  unfold fieldAt
  have hno : Ev (fun k => spec_FieldAt.j0 k p true a b l) (0, false) := Ev.step (f := fun _ => some (0, false)) (fun k => by rw [spec_FieldAt.j0, if_pos rfl]) (Math.Ev.const rfl)
  by_cases c : callB a b l = true
  · have h3 := callB_len c
    by_cases h : 0 ≤ p ∧ p ≤ 7
    · rw [if_pos ⟨c, h⟩]
      refine Ev.congr (f := fun k => spec_FieldAt.j0 k p false a b l) (fun k => by rw [if_pos c, decide_eq_true h]; rfl) ?_
      refine Ev.step (f := fun _ => some (if p = 0 then (b, true) else if p = 1 then (a, true) else if Int.tmod p 2 = 0 then ((rd_T107 l (p / 2 - 1)).f1, true) else ((rd_T107 l (p / 2 - 1)).f0, true))) (fun k => ?_) (Math.Ev.const rfl)
      rw [spec_FieldAt.j0, if_neg (by decide)]
      by_cases h0 : p = 0
      · rw [if_pos h0, if_pos h0]
      · rw [if_neg h0, if_neg h0]
        by_cases h1 : p = 1
        · rw [if_pos h1, if_pos h1]
        · rw [if_neg h1, if_neg h1]
          have e : wrap64 (Int.tdiv (wrap64 (p - 2)) 2) = p / 2 - 1 := by
            rw [Math.wrap_in (n := p - 2) (by omega) (by omega), Int.tdiv_eq_ediv_of_nonneg (by omega), Math.wrap_in (by omega) (by omega)]
            omega
          rw [e, if_pos (by omega), if_pos (by omega)]
          split <;> rfl
    · rw [if_neg (fun e => h e.2)]
      refine Ev.congr (f := fun k => spec_FieldAt.j0 k p true a b l) (fun k => by rw [if_pos c, decide_eq_false h]; rfl) hno
  · rw [if_neg (fun e => c e.1)]
    exact Ev.congr (f := fun k => spec_FieldAt.j0 k p true a b l) (fun k => by rw [if_neg c]) hno
theorem impl_FieldAt_ev (a b : Int) (l : List S107) (hl : l.length ≤ 2000000) (p : Int) (hp : -9223372036854775808 ≤ p ∧ p ≤ 9223372036854775807) : Ev (fun k => impl_FieldAt.f k a b l p) (fieldAt a b l p) := by
  refine Ev.congr (f := fun k => (impl_CallOk.f k a b l).bind fun t137 => (if t137 = true then (impl_FieldAt.j0 k p (!decide (0 ≤ p ∧ p ≤ 7)) a b l) else (impl_FieldAt.j0 k p true a b l))) (fun k => by unfold impl_FieldAt.f; rw [impl_within_is]; rfl) ?_
  refine Ev.bind (f := fun k t137 => (if t137 = true then (impl_FieldAt.j0 k p (!decide (0 ≤ p ∧ p ≤ 7)) a b l) else (impl_FieldAt.j0 k p true a b l))) (impl_CallOk_ev a b l hl) ?_
  unfold fieldAt
  have hno : Ev (fun k => impl_FieldAt.j0 k p true a b l) (0, false) := Ev.step (f := fun _ => some (0, false)) (fun k => by rw [impl_FieldAt.j0, if_pos rfl]) (Math.Ev.const rfl)
  by_cases c : callB a b l = true
  · have h3 := callB_len c
    by_cases h : 0 ≤ p ∧ p ≤ 7
    · rw [if_pos ⟨c, h⟩]
      refine Ev.congr (f := fun k => impl_FieldAt.j0 k p false a b l) (fun k => by rw [if_pos c, decide_eq_true h]; rfl) ?_
      refine Ev.step (f := fun _ => some (if p = 0 then (b, true) else if p = 1 then (a, true) else if Int.tmod p 2 = 0 then ((rd_T107 l (p / 2 - 1)).f1, true) else ((rd_T107 l (p / 2 - 1)).f0, true))) (fun k => ?_) (Math.Ev.const rfl)
      rw [impl_FieldAt.j0, if_neg (by decide)]
      by_cases h0 : p = 0
      · rw [if_pos h0, if_pos h0]
      · rw [if_neg h0, if_neg h0]
        by_cases h1 : p = 1
        · rw [if_pos h1, if_pos h1]
        · rw [if_neg h1, if_neg h1]
          have e : wrap64 (wrap64 (Int.tdiv p 2) - 1) = p / 2 - 1 := by
            rw [Int.tdiv_eq_ediv_of_nonneg (by omega), Math.wrap_in (n := p / 2) (by omega) (by omega), Math.wrap_in (by omega) (by omega)]
          rw [e]
          by_cases ht : Int.tmod p 2 = 0
          · rw [if_pos ht, if_pos ht, if_pos (by omega), if_pos (by omega)]
          · rw [if_neg ht, if_neg ht, if_pos (by omega), if_pos (by omega)]
    · rw [if_neg (fun e => h e.2)]
      refine Ev.congr (f := fun k => impl_FieldAt.j0 k p true a b l) (fun k => by rw [if_pos c, decide_eq_false h]; rfl) hno
  · rw [if_neg (fun e => c e.1)]
    exact Ev.congr (f := fun k => impl_FieldAt.j0 k p true a b l) (fun k => by rw [if_neg c]) hno
def convW (x : S109) : S107 := ⟨x.f0, x.f1⟩
theorem rd_atLW (l : List S109) (i : Nat) (h : i < l.length) : rd_T109 l (i : Int) = l[i] := by
  unfold rd_T109
  rw [Int.toNat_natCast, List.getD_eq_getElem?_getD, List.getElem?_eq_getElem h]
  rfl
theorem toWideS_l0 (l : List S109) (hl : l.length ≤ 2000000) (d : Nat) : ∀ (i : Nat) (acc : List S107), i + d = l.length → acc.length = l.length → (∀ j, j < i → acc[j]? = (l.map convW)[j]?) →
    Ev (fun k => laws_toWideS.l0 k l acc (i : Int)) (l.map convW) := by
  induction d with
  | zero =>
    intro i acc hi ha hj
    have e : acc = l.map convW := by
      apply List.ext_getElem?
      intro j
      by_cases c : j < i
      · exact hj j c
      · rw [List.getElem?_eq_none (by omega), List.getElem?_eq_none (by rw [List.length_map]; omega)]
    refine Ev.step (f := fun _ => some (l.map convW)) (fun k => ?_) (Math.Ev.const rfl)
    show laws_toWideS.l0 (k + 1) l acc _ = _
    rw [laws_toWideS.l0, if_neg (by omega), e]
  | succ d ih =>
    intro i acc hi ha hj
    have hlt : i < l.length := by omega
    refine Ev.step (fun k => ?_) (ih (i + 1) (acc.set i (convW l[i])) (by omega) (by rw [List.length_set]; exact ha) (fun j hlj => ?_))
    · show laws_toWideS.l0 (k + 1) l acc _ = _
      rw [laws_toWideS.l0, if_pos (by omega), if_pos (by omega), rd_atLW l i hlt]
      unfold laws_toWide.f
      rw [Option.bind_some, if_pos (by omega), Int.toNat_natCast, show wrap64 ((i : Int) + 1) = ((i + 1 : Nat) : Int) from by rw [Math.wrap_in (by omega) (by omega)]; omega]
      rfl
    · by_cases c : j = i
      · subst c
        rw [List.getElem?_set_self (by omega), List.getElem?_map, List.getElem?_eq_getElem hlt]
        rfl
      · rw [List.getElem?_set_ne (by omega)]
        exact hj j (by omega)
theorem toCall_ev (a b : Int) (l : List S109) (hl : l.length ≤ 2000000) : Ev (fun k => laws_toCall.f k a b l) (a, b, l.map convW) := by
  refine Ev.congr (f := fun k => (laws_toWideS.l0 k l (List.replicate l.length z107) 0).bind fun t125 => (some (a, b, t125))) (fun k => by unfold laws_toCall.f laws_toWideS.f; rw [if_pos (by omega), if_pos (by omega), Int.toNat_natCast]) ?_
  exact Ev.bind (f := fun _ t125 => (some (a, b, t125))) (toWideS_l0 l hl l.length 0 (List.replicate l.length z107) (by omega) (by rw [List.length_replicate]) (fun j h => by omega)) (Math.Ev.const rfl)
theorem szCall_small (a b : Int) (l : List S109) (m : Int) (h : (l.length : Int) ≤ m) (hm : m ≤ 1048576) : laws_szCall.f a b l m = some (m - l.length) := by
  unfold laws_szCall.f laws_szWideS.f
  rw [Math.wrap_in (by omega) (by omega), if_neg (by omega), Option.bind_some, if_neg (by omega)]
theorem szCall_big (a b : Int) (l : List S109) (m : Int) (h : ¬ (l.length : Int) ≤ m) (h0 : 0 ≤ m) (hm : m ≤ 1048576) (hl : l.length ≤ 9223372036854775807) : laws_szCall.f a b l m = some (-1) := by
  unfold laws_szCall.f laws_szWideS.f
  rw [Math.wrap_in (by omega) (by omega), if_pos (by omega), Option.bind_some, if_pos (by omega)]
theorem eqWideS_l0 (l : List S107) (hl : l.length ≤ 2000000) (d : Nat) : ∀ (i : Nat), i + d = l.length → Ev (fun k => laws_eqWideS.l0 k l l (i : Int)) true := by
  induction d with
  | zero =>
    intro i hi
    refine Ev.step (f := fun _ => some true) (fun k => ?_) (Math.Ev.const rfl)
    show laws_eqWideS.l0 (k + 1) l l _ = _
    rw [laws_eqWideS.l0, if_neg (by omega)]
  | succ d ih =>
    intro i hi
    refine Ev.step (fun k => ?_) (ih (i + 1) (by omega))
    show laws_eqWideS.l0 (k + 1) l l _ = _
    rw [laws_eqWideS.l0, if_pos (by omega), if_pos (by omega), if_pos (by omega)]
    unfold laws_eqWide.f
    rw [if_pos rfl, if_pos rfl, Option.bind_some, if_pos rfl]
    rw [show wrap64 ((i : Int) + 1) = ((i + 1 : Nat) : Int) from by rw [Math.wrap_in (by omega) (by omega)]; omega]
theorem eqCall_ev (a b : Int) (l : List S107) (hl : l.length ≤ 2000000) : Ev (fun k => laws_eqCall.f k a b l a b l) true := by
  refine Ev.congr (f := fun k => (laws_eqWideS.l0 k l l 0).bind fun t145 => (if t145 = true then (some true) else (some false))) (fun k => by unfold laws_eqCall.f laws_eqWideS.f; rw [if_pos rfl, if_pos rfl, if_pos rfl]) ?_
  exact Ev.bind (f := fun _ t145 => (if t145 = true then (some true) else (some false))) (eqWideS_l0 l hl l.length 0 (by omega)) (Math.Ev.const (if_pos rfl))
def InsP (o c y n : Int) : Prop := (1 ≤ o ∧ o ≤ 8) ∧ (0 ≤ c ∧ c ≤ 4294967295) ∧ (0 ≤ y ∧ y ≤ 15) ∧ (0 ≤ n ∧ n ≤ 15) ∧ ((3 ≤ o ∧ o ≤ 6) ∨ (y = 0 ∧ n = 0)) ∧ (o = 1 → c < 8) ∧ (o = 7 → c < 400)
instance (o c y n : Int) : Decidable (InsP o c y n) := by unfold InsP; infer_instance
theorem spec_InsOk_ev (o c y n : Int) : Ev (fun k => spec_InsOk.f k o c y n) (decide (InsP o c y n)) := by
  refine ⟨2, fun k hk => ?_⟩
  obtain ⟨m, rfl⟩ : ∃ m, k = m + 2 := ⟨k - 2, by omega⟩
  show spec_InsOk.f (m + 2) o c y n = _
  unfold spec_InsOk.f
  rw [spec_l01In_is, spec_HalfOk_is, spec_l01In_is, spec_l01In_is]
  simp only [Option.bind_some]
  have hf : ¬ InsP o c y n → spec_InsOk.j0 (m + 2) true o c y n = some (decide (InsP o c y n)) := by
    intro h
    rw [spec_InsOk.j0, if_pos rfl, decide_eq_false h]
  by_cases h1 : 1 ≤ o ∧ o ≤ 8
  · by_cases h2 : 0 ≤ c ∧ c ≤ 4294967295
    · by_cases h3 : 0 ≤ y ∧ y ≤ 15
      · by_cases h4 : 0 ≤ n ∧ n ≤ 15
        · rw [if_pos (decide_eq_true h1), if_pos (decide_eq_true h2), if_pos (decide_eq_true h3), decide_eq_true h4]
          show spec_InsOk.j0 (m + 2) false o c y n = _
          rw [spec_InsOk.j0, if_neg (by decide)]
          have ha : spec_l06Ask.f o = some (decide (3 ≤ o ∧ o ≤ 6)) := by unfold spec_l06Ask.f; rw [spec_l01In_is]; rfl
          rw [ha]
          simp only [Option.bind_some]
          by_cases h5 : 3 ≤ o ∧ o ≤ 6
          · rw [if_pos (decide_eq_true h5), spec_InsOk.j1, if_neg (by decide), if_neg (by omega), if_neg (by omega)]
            have : InsP o c y n := ⟨h1, h2, h3, h4, .inl h5, fun e => by omega, fun e => by omega⟩
            rw [decide_eq_true this]
          · rw [if_neg (by rw [decide_eq_false h5]; decide)]
            by_cases h6 : y = 0
            · rw [if_pos h6]
              by_cases h7 : n = 0
              · rw [show (n != 0) = false from by simp [h7], spec_InsOk.j1, if_neg (by decide)]
                by_cases h8 : o = 1
                · rw [if_pos h8]
                  congr 1
                  refine decide_eq_decide.2 ⟨fun h => ⟨h1, h2, h3, h4, .inr ⟨h6, h7⟩, fun _ => h, fun e => by omega⟩, fun h => h.2.2.2.2.2.1 h8⟩
                · rw [if_neg h8]
                  by_cases h9 : o = 7
                  · rw [if_pos h9]
                    congr 1
                    refine decide_eq_decide.2 ⟨fun h => ⟨h1, h2, h3, h4, .inr ⟨h6, h7⟩, fun e => by omega, fun _ => h⟩, fun h => h.2.2.2.2.2.2 h9⟩
                  · rw [if_neg h9]
                    have : InsP o c y n := ⟨h1, h2, h3, h4, .inr ⟨h6, h7⟩, fun e => absurd e h8, fun e => absurd e h9⟩
                    rw [decide_eq_true this]
              · rw [show (n != 0) = true from by simp [h7], spec_InsOk.j1, if_pos rfl]
                have : ¬ InsP o c y n := fun h => by have := h.2.2.2.2.1; omega
                rw [decide_eq_false this]
            · rw [if_neg h6, spec_InsOk.j1, if_pos rfl]
              have : ¬ InsP o c y n := fun h => by have := h.2.2.2.2.1; omega
              rw [decide_eq_false this]
        · rw [if_pos (decide_eq_true h1), if_pos (decide_eq_true h2), if_pos (decide_eq_true h3), decide_eq_false h4]
          exact hf (fun h => h4 h.2.2.2.1)
      · rw [if_pos (decide_eq_true h1), if_pos (decide_eq_true h2), if_neg (by rw [decide_eq_false h3]; decide)]
        exact hf (fun h => h3 h.2.2.1)
    · rw [if_pos (decide_eq_true h1), if_neg (by rw [decide_eq_false h2]; decide)]
      exact hf (fun h => h2 h.2.1)
  · rw [if_neg (by rw [decide_eq_false h1]; decide)]
    exact hf (fun h => h1 h.1)
theorem impl_asks_is (o c y n : Int) : impl_Ins_asks.f o c y n = some (decide (3 ≤ o ∧ o ≤ 6)) := by unfold impl_Ins_asks.f; rw [impl_within_is]; rfl
theorem impl_InsOk_ev (o c y n : Int) : Ev (fun k => impl_InsOk.f k o c y n) (decide (InsP o c y n)) := by
  refine ⟨2, fun k hk => ?_⟩
  obtain ⟨m, rfl⟩ : ∃ m, k = m + 2 := ⟨k - 2, by omega⟩
  show impl_InsOk.f (m + 2) o c y n = _
  unfold impl_InsOk.f
  rw [impl_asks_is]
  simp only [Option.bind_some]
  by_cases h5 : 3 ≤ o ∧ o ≤ 6
  · rw [if_pos (decide_eq_true h5), impl_HalfOk_is, impl_within_is, impl_within_is]
    simp only [Option.bind_some]
    by_cases h2 : 0 ≤ c ∧ c ≤ 4294967295
    · rw [if_pos (decide_eq_true h2)]
      by_cases h3 : 0 ≤ y ∧ y ≤ 15
      · rw [if_pos (decide_eq_true h3)]
        congr 1
        exact decide_eq_decide.2 ⟨fun h => ⟨by omega, h2, h3, h, .inl h5, fun e => by omega, fun e => by omega⟩, fun h => h.2.2.2.1⟩
      · rw [if_neg (by rw [decide_eq_false h3]; decide), decide_eq_false (fun h : InsP o c y n => h3 h.2.2.1)]
    · rw [if_neg (by rw [decide_eq_false h2]; decide), decide_eq_false (fun h : InsP o c y n => h2 h.2.1)]
  · rw [if_neg (by rw [decide_eq_false h5]; decide)]
    have hf : ¬ InsP o c y n → impl_InsOk.j0 (m + 2) true o c y n = some (decide (InsP o c y n)) := by
      intro h
      rw [impl_InsOk.j0, if_pos rfl, decide_eq_false h]
    by_cases h6 : y = 0
    · rw [if_pos h6]
      by_cases h7 : n = 0
      · rw [show (n != 0) = false from by simp [h7], impl_InsOk.j0, if_neg (by decide), impl_within_is, impl_within_is, impl_HalfOk_is]
        simp only [Option.bind_some]
        by_cases h8 : o = 1
        · rw [if_pos h8]
          congr 1
          exact decide_eq_decide.2 ⟨fun h => ⟨by omega, by omega, by omega, by omega, .inr ⟨h6, h7⟩, fun _ => by omega, fun e => by omega⟩, fun h => by have := h.2.2.2.2.2.1 h8; have := h.2.1; omega⟩
        · rw [if_neg h8]
          by_cases h9 : o = 7
          · rw [if_pos h9]
            congr 1
            exact decide_eq_decide.2 ⟨fun h => ⟨by omega, by omega, by omega, by omega, .inr ⟨h6, h7⟩, fun e => by omega, fun _ => by omega⟩, fun h => by have := h.2.2.2.2.2.2 h9; have := h.2.1; omega⟩
          · rw [if_neg h9]
            by_cases h10 : o = 2
            · rw [if_pos h10]
              congr 1
              exact decide_eq_decide.2 ⟨fun h => ⟨by omega, h, by omega, by omega, .inr ⟨h6, h7⟩, fun e => by omega, fun e => by omega⟩, fun h => h.2.1⟩
            · rw [if_neg h10]
              by_cases h11 : o = 8
              · rw [if_pos h11]
                congr 1
                exact decide_eq_decide.2 ⟨fun h => ⟨by omega, h, by omega, by omega, .inr ⟨h6, h7⟩, fun e => by omega, fun e => by omega⟩, fun h => h.2.1⟩
              · rw [if_neg h11, decide_eq_false (fun h : InsP o c y n => by have := h.1; omega)]
      · rw [show (n != 0) = true from by simp [h7]]
        exact hf (fun h => by have := h.2.2.2.2.1; omega)
    · rw [if_neg h6]
      exact hf (fun h => by have := h.2.2.2.2.1; omega)
def conv (x : S23) : S25 := ⟨x.f0, x.f1, x.f2, x.f3⟩
theorem rd_at (l : List S25) (i : Nat) (h : i < l.length) : rd_T25 l (i : Int) = l[i] := by
  unfold rd_T25
  rw [Int.toNat_natCast, List.getD_eq_getElem?_getD, List.getElem?_eq_getElem h]
  rfl
theorem rd_atL (l : List S23) (i : Nat) (h : i < l.length) : rd_T23 l (i : Int) = l[i] := by
  unfold rd_T23
  rw [Int.toNat_natCast, List.getD_eq_getElem?_getD, List.getElem?_eq_getElem h]
  rfl
theorem toInsS_l0 (l : List S23) (hl : l.length ≤ 2000000) (d : Nat) : ∀ (i : Nat) (acc : List S25), i + d = l.length → acc.length = l.length → (∀ j, j < i → acc[j]? = (l.map conv)[j]?) →
    Ev (fun k => laws_toInsS.l0 k l acc (i : Int)) (l.map conv) := by
  induction d with
  | zero =>
    intro i acc hi ha hj
    have e : acc = l.map conv := by
      apply List.ext_getElem?
      intro j
      by_cases c : j < i
      · exact hj j c
      · rw [List.getElem?_eq_none (by omega), List.getElem?_eq_none (by rw [List.length_map]; omega)]
    refine Ev.step (f := fun _ => some (l.map conv)) (fun k => ?_) (Math.Ev.const rfl)
    show laws_toInsS.l0 (k + 1) l acc _ = _
    rw [laws_toInsS.l0, if_neg (by omega), e]
  | succ d ih =>
    intro i acc hi ha hj
    have hlt : i < l.length := by omega
    refine Ev.step (fun k => ?_) (ih (i + 1) (acc.set i (conv l[i])) (by omega) (by rw [List.length_set]; exact ha) (fun j hlj => ?_))
    · show laws_toInsS.l0 (k + 1) l acc _ = _
      rw [laws_toInsS.l0, if_pos (by omega), if_pos (by omega), rd_atL l i hlt]
      unfold laws_toIns.f
      rw [Option.bind_some, if_pos (by omega), Int.toNat_natCast, show wrap64 ((i : Int) + 1) = ((i + 1 : Nat) : Int) from by rw [Math.wrap_in (by omega) (by omega)]; omega]
      rfl
    · by_cases c : j = i
      · subst c
        rw [List.getElem?_set_self (by omega), List.getElem?_map, List.getElem?_eq_getElem hlt]
        rfl
      · rw [List.getElem?_set_ne (by omega)]
        exact hj j (by omega)
theorem toInsS_ev (l : List S23) (hl : l.length ≤ 2000000) : Ev (fun k => laws_toInsS.f k l) (l.map conv) := by
  refine Ev.congr (fun k => by unfold laws_toInsS.f; rw [if_pos (by omega), if_pos (by omega), Int.toNat_natCast]) ?_
  exact toInsS_l0 l hl l.length 0 (List.replicate l.length z25) (by omega) (by rw [List.length_replicate]) (fun j h => by omega)
theorem szInsS_small (l : List S23) (a : Int) (h : (l.length : Int) ≤ a) (ha : a ≤ 1048576) : laws_szInsS.f l a = some (a - l.length) := by
  unfold laws_szInsS.f
  rw [Math.wrap_in (by omega) (by omega), if_neg (by omega)]
theorem szInsS_big (l : List S23) (a : Int) (h : ¬ (l.length : Int) ≤ a) (ha : 0 ≤ a) (hb : a ≤ 1048576) (hl : l.length ≤ 9223372036854775807) : laws_szInsS.f l a = some (-1) := by
  unfold laws_szInsS.f
  rw [Math.wrap_in (by omega) (by omega), if_pos (by omega)]
theorem eqInsS_l0 (l : List S25) (hl : l.length ≤ 2000000) (d : Nat) : ∀ (i : Nat), i + d = l.length → Ev (fun k => laws_eqInsS.l0 k l l (i : Int)) true := by
  induction d with
  | zero =>
    intro i hi
    refine Ev.step (f := fun _ => some true) (fun k => ?_) (Math.Ev.const rfl)
    show laws_eqInsS.l0 (k + 1) l l _ = _
    rw [laws_eqInsS.l0, if_neg (by omega)]
  | succ d ih =>
    intro i hi
    refine Ev.step (fun k => ?_) (ih (i + 1) (by omega))
    show laws_eqInsS.l0 (k + 1) l l _ = _
    rw [laws_eqInsS.l0, if_pos (by omega), if_pos (by omega), if_pos (by omega)]
    unfold laws_eqIns.f
    rw [if_pos rfl, if_pos rfl, if_pos rfl, if_pos rfl, Option.bind_some, if_pos rfl]
    rw [show wrap64 ((i : Int) + 1) = ((i + 1 : Nat) : Int) from by rw [Math.wrap_in (by omega) (by omega)]; omega]
theorem eqInsS_ev (l : List S25) (hl : l.length ≤ 2000000) : Ev (fun k => laws_eqInsS.f k l l) true := by
  refine Ev.congr (fun k => by unfold laws_eqInsS.f; rw [if_pos rfl]) ?_
  exact eqInsS_l0 l hl l.length 0 (by omega)
def farOk (n : Nat) (i : Nat) (x : S25) : Prop := ((3 ≤ x.f0 ∧ x.f0 ≤ 6) → (i : Int) + 1 + x.f2 < n ∧ (i : Int) + 1 + x.f3 < n) ∧ (x.f0 = 7 → (i : Int) + 1 + x.f1 < n)
instance (n i : Nat) (x : S25) : Decidable (farOk n i x) := by unfold farOk; infer_instance
def wordsOk (n : Nat) : List S25 → Nat → Bool
  | [], _ => true
  | x :: l, i => decide (InsP x.f0 x.f1 x.f2 x.f3 ∧ farOk n i x) && wordsOk n l (i + 1)
def lastRet (l : List S25) : Bool := (rd_T25 l ((l.length - 1 : Nat) : Int)).f0 == 8
def checkB (l : List S25) : Bool := decide (1 ≤ l.length ∧ l.length ≤ 400) && (wordsOk l.length l 0 && lastRet l)
theorem spec_Check_l0 (l : List S25) (hl : 1 ≤ l.length) (hl2 : l.length ≤ 400) (d : Nat) : ∀ (i : Nat), i + d = l.length →
    Ev (fun k => spec_CheckProgram.l0 k l (i : Int)) (wordsOk l.length (l.drop i) i && lastRet l) := by
  induction d with
  | zero =>
    intro i hi
    rw [List.drop_eq_nil_of_le (by omega)]
    refine Ev.step (f := fun _ => some (lastRet l)) (fun k => ?_) (Math.Ev.const (by simp [wordsOk]))
    show spec_CheckProgram.l0 (k + 1) l (i : Int) = _
    rw [spec_CheckProgram.l0, if_neg (by omega), show wrap64 ((l.length : Int) - 1) = ((l.length - 1 : Nat) : Int) from by rw [Math.wrap_in (by omega) (by omega)]; omega, if_pos (by omega), if_pos (by omega)]
    rfl
  | succ d ih =>
    intro i hi
    have hlt : i < l.length := by omega
    have e1 : PLift (wrap64 ((i : Int) + 1) = ((i + 1 : Nat) : Int)) := ⟨by rw [Math.wrap_in (by omega) (by omega)]; omega⟩
    rw [List.drop_eq_getElem_cons hlt]
    simp only [wordsOk]
    have hlast : i + 1 = l.length → lastRet l = (l[i].f0 == 8) := by
      intro h
      unfold lastRet
      rw [show l.length - 1 = i from by omega, rd_at l i hlt]
    generalize hx : l[i] = x at *
    have hnext := ih (i + 1) (by omega)
    refine Ev.step (f := fun k => (spec_InsOk.f k x.f0 x.f1 x.f2 x.f3).bind fun t130 => (if t130 = true then (if x.f0 = 8 then (spec_CheckProgram.l0 k l ((i + 1 : Nat) : Int)) else ((spec_l07Far.f x.f0 x.f1 x.f2 x.f3).bind fun t133 => (if (wrap64 (((i + 1 : Nat) : Int) + t133)) ≥ (l.length : Int) then (some false) else (spec_CheckProgram.l0 k l ((i + 1 : Nat) : Int))))) else (some false))) (fun k => ?_) ?_
    · show spec_CheckProgram.l0 (k + 1) l (i : Int) = _
      rw [spec_CheckProgram.l0, if_pos (by omega), if_pos (by omega), rd_at l i hlt, hx, e1.down]
    · refine Ev.bind (f := fun k t130 => (if t130 = true then (if x.f0 = 8 then (spec_CheckProgram.l0 k l ((i + 1 : Nat) : Int)) else ((spec_l07Far.f x.f0 x.f1 x.f2 x.f3).bind fun t133 => (if (wrap64 (((i + 1 : Nat) : Int) + t133)) ≥ (l.length : Int) then (some false) else (spec_CheckProgram.l0 k l ((i + 1 : Nat) : Int))))) else (some false))) (spec_InsOk_ev _ _ _ _) ?_
      by_cases c : InsP x.f0 x.f1 x.f2 x.f3
      · refine Ev.congr (f := fun k => if x.f0 = 8 then (spec_CheckProgram.l0 k l ((i + 1 : Nat) : Int)) else ((spec_l07Far.f x.f0 x.f1 x.f2 x.f3).bind fun t133 => (if (wrap64 (((i + 1 : Nat) : Int) + t133)) ≥ (l.length : Int) then (some false) else (spec_CheckProgram.l0 k l ((i + 1 : Nat) : Int))))) (fun k => if_pos (decide_eq_true c)) ?_
        have c' := c
        unfold InsP at c'
        by_cases h8 : x.f0 = 8
        · have hw : InsP x.f0 x.f1 x.f2 x.f3 ∧ farOk l.length i x := ⟨c, by unfold farOk; omega⟩
          rw [decide_eq_true hw, Bool.true_and]
          exact Ev.congr (fun k => if_pos h8) hnext
        · refine Ev.congr (fun k => if_neg h8) ?_
          obtain ⟨far, hfar, h7, hyn, hb0, hb1⟩ : ∃ far : Int, spec_l07Far.f x.f0 x.f1 x.f2 x.f3 = some far ∧ (x.f0 = 7 → far = x.f1) ∧ (x.f0 ≠ 7 → x.f2 ≤ far ∧ x.f3 ≤ far ∧ (far = x.f2 ∨ far = x.f3)) ∧ 0 ≤ far ∧ far ≤ 4294967295 := by
            unfold spec_l07Far.f
            by_cases h7 : x.f0 = 7
            · exact ⟨x.f1, by rw [if_pos h7], fun _ => rfl, fun h => absurd h7 h, by omega, by omega⟩
            · by_cases hyn : x.f2 > x.f3
              · exact ⟨x.f2, by rw [if_neg h7, if_pos hyn], fun h => absurd h h7, fun _ => by omega, by omega, by omega⟩
              · exact ⟨x.f3, by rw [if_neg h7, if_neg hyn], fun h => absurd h h7, fun _ => by omega, by omega, by omega⟩
          rw [hfar]
          have ew : PLift (wrap64 (((i + 1 : Nat) : Int) + far) = (i : Int) + 1 + far) := ⟨by rw [Math.wrap_in (by omega) (by omega)]; omega⟩
          refine Ev.congr (f := fun k => if (i : Int) + 1 + far ≥ (l.length : Int) then (some false) else (spec_CheckProgram.l0 k l ((i + 1 : Nat) : Int))) (fun k => by rw [Option.bind_some, ew.down]) ?_
          by_cases hge : (i : Int) + 1 + far ≥ (l.length : Int)
          · refine Ev.congr (f := fun _ => some false) (fun k => if_pos hge) (Math.Ev.const ?_)
            congr 1
            by_cases hw : farOk l.length i x
            · have hw' := hw
              unfold farOk at hw'
              rw [hlast (by omega), show (x.f0 == 8) = false from by simpa using h8, Bool.and_false]
            · rw [decide_eq_false (fun h => hw h.2), Bool.false_and, Bool.false_and]
          · refine Ev.congr (fun k => if_neg hge) ?_
            have hw : InsP x.f0 x.f1 x.f2 x.f3 ∧ farOk l.length i x := ⟨c, by unfold farOk; omega⟩
            rw [decide_eq_true hw, Bool.true_and]
            exact hnext
      · rw [decide_eq_false (fun h : InsP x.f0 x.f1 x.f2 x.f3 ∧ farOk l.length i x => c h.1), Bool.false_and, Bool.false_and]
        exact Ev.congr (f := fun _ => some false) (fun k => by rw [decide_eq_false c]; rfl) (Math.Ev.const rfl)
theorem spec_Check_ev (l : List S25) : Ev (fun k => spec_CheckProgram.f k l) (checkB l) := by
  refine Ev.congr (f := fun k => if decide (1 ≤ (l.length : Int) ∧ (l.length : Int) ≤ 400) = true then (spec_CheckProgram.l0 k l 0) else (some false)) (fun k => by unfold spec_CheckProgram.f; rw [spec_l01In_is, Option.bind_some]) ?_
  unfold checkB
  by_cases c : 1 ≤ l.length ∧ l.length ≤ 400
  · rw [decide_eq_true c, Bool.true_and]
    refine Ev.congr (fun k => if_pos (decide_eq_true (by omega))) ?_
    exact spec_Check_l0 l c.1 c.2 l.length 0 (by omega)
  · rw [decide_eq_false c, Bool.false_and]
    exact Ev.congr (f := fun _ => some false) (fun k => by rw [decide_eq_false (by omega)]; rfl) (Math.Ev.const rfl)
theorem impl_farthest_is (x : S25) (i : Nat) (hi : i ≤ 1000) (c : InsP x.f0 x.f1 x.f2 x.f3) (n : Nat) (hn : i < n) :
    ∃ far : Int, impl_farthest.f x.f0 x.f1 x.f2 x.f3 (i : Int) = some far ∧ (far ≥ (n : Int) ↔ ¬ farOk n i x) := by
  unfold impl_farthest.f
  rw [impl_asks_is, Option.bind_some]
  unfold InsP at c
  by_cases h : 3 ≤ x.f0 ∧ x.f0 ≤ 6
  · refine ⟨(i : Int) + 1 + mx x.f2 x.f3, ?_, ?_⟩
    · rw [if_pos (decide_eq_true h)]
      have : 0 ≤ mx x.f2 x.f3 ∧ mx x.f2 x.f3 ≤ 15 := by unfold mx; split <;> omega
      rw [Math.wrap_in (n := (i : Int) + 1) (by omega) (by omega), Math.wrap_in (by omega) (by omega)]
    · unfold mx farOk
      split <;> omega
  · rw [if_neg (by rw [decide_eq_false h]; decide)]
    by_cases h7 : x.f0 = 7
    · refine ⟨(i : Int) + 1 + x.f1, ?_, ?_⟩
      · rw [if_pos h7, Math.wrap_in (n := (i : Int) + 1) (by omega) (by omega), Math.wrap_in (by omega) (by omega)]
      · unfold farOk
        omega
    · refine ⟨(i : Int), by rw [if_neg h7], ?_⟩
      unfold farOk
      omega
theorem impl_Check_l0 (l : List S25) (hl : 1 ≤ l.length) (hl2 : l.length ≤ 400) (d : Nat) : ∀ (i : Nat), i + d = l.length →
    Ev (fun k => impl_CheckProgram.l0 k (l.length : Int) l (l.length : Int) (i : Int)) (wordsOk l.length (l.drop i) i) := by
  induction d with
  | zero =>
    intro i hi
    rw [List.drop_eq_nil_of_le (by omega)]
    refine Ev.step (f := fun _ => some true) (fun k => ?_) (Math.Ev.const rfl)
    show impl_CheckProgram.l0 (k + 1) _ l _ (i : Int) = _
    rw [impl_CheckProgram.l0, if_neg (by omega)]
  | succ d ih =>
    intro i hi
    have hlt : i < l.length := by omega
    have e1 : PLift (wrap64 ((i : Int) + 1) = ((i + 1 : Nat) : Int)) := ⟨by rw [Math.wrap_in (by omega) (by omega)]; omega⟩
    rw [List.drop_eq_getElem_cons hlt]
    simp only [wordsOk]
    have hnext := ih (i + 1) (by omega)
    generalize hx : l[i] = x at *
    refine Ev.step (f := fun k => (impl_InsOk.f k x.f0 x.f1 x.f2 x.f3).bind fun t130 => (if t130 = true then ((impl_farthest.f x.f0 x.f1 x.f2 x.f3 (i : Int)).bind fun t153 => (if t153 ≥ (l.length : Int) then (some false) else (impl_CheckProgram.l0 k (l.length : Int) l (l.length : Int) ((i + 1 : Nat) : Int)))) else (some false))) (fun k => ?_) ?_
    · show impl_CheckProgram.l0 (k + 1) _ l _ (i : Int) = _
      rw [impl_CheckProgram.l0, if_pos (by omega), if_pos (by omega), if_pos (by omega), rd_at l i hlt, hx, e1.down]
    · refine Ev.bind (f := fun k t130 => (if t130 = true then ((impl_farthest.f x.f0 x.f1 x.f2 x.f3 (i : Int)).bind fun t153 => (if t153 ≥ (l.length : Int) then (some false) else (impl_CheckProgram.l0 k (l.length : Int) l (l.length : Int) ((i + 1 : Nat) : Int)))) else (some false))) (impl_InsOk_ev _ _ _ _) ?_
      by_cases c : InsP x.f0 x.f1 x.f2 x.f3
      · refine Ev.congr (fun k => if_pos (decide_eq_true c)) ?_
        obtain ⟨far, hfar, hiff⟩ := impl_farthest_is x i (by omega) c l.length hlt
        rw [hfar]
        refine Ev.congr (f := fun k => if far ≥ (l.length : Int) then (some false) else (impl_CheckProgram.l0 k (l.length : Int) l (l.length : Int) ((i + 1 : Nat) : Int))) (fun k => Option.bind_some _ _) ?_
        by_cases hge : far ≥ (l.length : Int)
        · rw [decide_eq_false (fun h => hiff.1 hge h.2), Bool.false_and]
          exact Ev.congr (f := fun _ => some false) (fun k => if_pos hge) (Math.Ev.const rfl)
        · have hw : farOk l.length i x := Decidable.of_not_not (fun h => hge (hiff.2 h))
          rw [decide_eq_true (⟨c, hw⟩ : InsP x.f0 x.f1 x.f2 x.f3 ∧ farOk l.length i x), Bool.true_and]
          exact Ev.congr (fun k => if_neg hge) hnext
      · rw [decide_eq_false (fun h : InsP x.f0 x.f1 x.f2 x.f3 ∧ farOk l.length i x => c h.1), Bool.false_and]
        exact Ev.congr (f := fun _ => some false) (fun k => by rw [decide_eq_false c]; rfl) (Math.Ev.const rfl)
theorem impl_Check_ev (l : List S25) : Ev (fun k => impl_CheckProgram.f k l) (checkB l) := by
  unfold checkB
  by_cases c : 1 ≤ l.length ∧ l.length ≤ 400
  · rw [decide_eq_true c, Bool.true_and]
    refine Ev.congr (f := fun k => impl_CheckProgram.j0 k l (l.length : Int) (!lastRet l)) (fun k => ?_) ?_
    · show impl_CheckProgram.f k l = _
      unfold impl_CheckProgram.f
      rw [impl_within_is, Option.bind_some, if_pos (decide_eq_true (by omega)), show wrap64 ((l.length : Int) - 1) = ((l.length - 1 : Nat) : Int) from by rw [Math.wrap_in (by omega) (by omega)]; omega, if_pos (by omega), if_pos (by omega)]
      rfl
    · by_cases h : lastRet l = true
      · rw [h, Bool.and_true]
        refine Ev.step (fun k => by rw [impl_CheckProgram.j0, if_neg (by decide)]) ?_
        exact impl_Check_l0 l c.1 c.2 l.length 0 (by omega)
      · rw [Bool.eq_false_iff.2 h, Bool.and_false]
        exact Ev.step (f := fun _ => some false) (fun k => by rw [impl_CheckProgram.j0, if_pos (by decide)]) (Math.Ev.const rfl)
  · rw [decide_eq_false c, Bool.false_and]
    refine Ev.congr (f := fun k => impl_CheckProgram.j0 k l (l.length : Int) true) (fun k => ?_) ?_
    · show impl_CheckProgram.f k l = _
      unfold impl_CheckProgram.f
      rw [impl_within_is, Option.bind_some, if_neg (by rw [decide_eq_false (by omega)]; decide)]
    · exact Ev.step (f := fun _ => some false) (fun k => by rw [impl_CheckProgram.j0, if_pos rfl]) (Math.Ev.const rfl)
theorem wordsOk_at (n : Nat) : ∀ (l : List S25) (i j : Nat) (h : j < l.length), wordsOk n l i = true → InsP l[j].f0 l[j].f1 l[j].f2 l[j].f3 ∧ farOk n (i + j) l[j]
  | [], i, j, h, _ => by simp at h
  | x :: l, i, 0, h, hw => by
    simp only [wordsOk, Bool.and_eq_true, decide_eq_true_eq] at hw
    exact hw.1
  | x :: l, i, j + 1, h, hw => by
    simp only [wordsOk, Bool.and_eq_true, decide_eq_true_eq] at hw
    have := wordsOk_at n l (i + 1) j (by simpa using h) hw.2
    rw [show i + 1 + j = i + (j + 1) from by omega] at this
    exact this
theorem check_at {l : List S25} (h : checkB l = true) : (1 ≤ l.length ∧ l.length ≤ 400) ∧ ∀ (j : Nat) (hj : j < l.length), InsP l[j].f0 l[j].f1 l[j].f2 l[j].f3 ∧ farOk l.length j l[j] ∧ (j + 1 = l.length → l[j].f0 = 8) := by
  unfold checkB at h
  simp only [Bool.and_eq_true, decide_eq_true_eq] at h
  refine ⟨h.1, fun j hj => ?_⟩
  have := wordsOk_at l.length l 0 j hj h.2.1
  rw [Nat.zero_add] at this
  refine ⟨this.1, this.2, fun e => ?_⟩
  have hr := h.2.2
  unfold lastRet at hr
  rw [show l.length - 1 = j from by omega, rd_at l j hj] at hr
  simpa using hr
theorem load_bounds (x : S25) (c : InsP x.f0 x.f1 x.f2 x.f3) : -9223372036854775808 ≤ x.f1 ∧ x.f1 ≤ 9223372036854775807 := by
  unfold InsP at c
  omega
theorem run_both (l : List S25) (a b : Int) (cl : List S107) (hcl : cl.length ≤ 2000000) (hc : checkB l = true) (d : Nat) : ∀ (i s : Nat) (reg : Int), i + d = l.length → 1 ≤ d → s ≤ i →
    ∃ r : Int × Int, Ev (fun k => spec_Run.l0 k l reg (s : Int) (i : Int) a b cl) r ∧ Ev (fun k => impl_Run.l0 k l reg (i : Int) ((s + 1 : Nat) : Int) a b cl) r ∧
      ((s : Int) + 1 ≤ r.2 ∧ r.2 ≤ l.length) ∧ ∃ (j : Nat) (hj : j < l.length), l[j].f0 = 8 ∧ l[j].f1 = r.1 := by
  obtain ⟨⟨hn1, hn2⟩, hat⟩ := check_at hc
  induction d using Nat.strongRecOn with
  | ind d ih =>
    intro i s reg hi hd hs
    have hlt : i < l.length := by omega
    obtain ⟨hI, hF, hL⟩ := hat i hlt
    have hI' := hI
    unfold InsP at hI'
    have hF' := hF
    unfold farOk at hF'
    have e1 : PLift (wrap64 ((i : Int) + 1) = ((i + 1 : Nat) : Int)) := ⟨by rw [Math.wrap_in (by omega) (by omega)]; omega⟩
    have e2 : PLift (wrap64 ((s : Int) + 1) = ((s + 1 : Nat) : Int)) := ⟨by rw [Math.wrap_in (by omega) (by omega)]; omega⟩
    have e3 : PLift (wrap64 (((s + 1 : Nat) : Int) + 1) = ((s + 1 + 1 : Nat) : Int)) := ⟨by rw [Math.wrap_in (by omega) (by omega)]; omega⟩
    have hrd := rd_at l i hlt
    generalize hx : l[i] = x at *
    have jump : ∀ (g : Int) (q : Nat) (reg' : Int), g = (q : Int) → (i : Int) + 1 + g < l.length →
        ∃ r : Int × Int, Ev (fun k => spec_Run.l0 k l reg' ((s + 1 : Nat) : Int) ((i + 1 + q : Nat) : Int) a b cl) r ∧ Ev (fun k => impl_Run.l0 k l reg' ((i + 1 + q : Nat) : Int) ((s + 1 + 1 : Nat) : Int) a b cl) r ∧
          (((s + 1 : Nat) : Int) + 1 ≤ r.2 ∧ r.2 ≤ l.length) ∧ ∃ (j : Nat) (hj : j < l.length), l[j].f0 = 8 ∧ l[j].f1 = r.1 := by
      intro g q reg' hg hlt2
      exact ih (l.length - (i + 1 + q)) (by omega) (i + 1 + q) (s + 1) reg' (by omega) (by omega) (by omega)
    have weak : ∀ {r : Int × Int}, (((s + 1 : Nat) : Int) + 1 ≤ r.2 ∧ r.2 ≤ l.length) → ((s : Int) + 1 ≤ r.2 ∧ r.2 ≤ l.length) := fun h => ⟨by omega, h.2⟩
    by_cases h1 : x.f0 = 1
    · obtain ⟨r, r1, r2, r3, r4⟩ := jump 0 0 (fieldAt a b cl x.f1).1 rfl (by omega)
      have hb := load_bounds x hI
      refine ⟨r, ?_, ?_, weak r3, r4⟩
      · refine Ev.step (f := fun k => (spec_FieldAt.f k a b cl x.f1).bind fun bt155 => (spec_Run.l0 k l bt155.1 ((s + 1 : Nat) : Int) ((i + 1 : Nat) : Int) a b cl)) (fun k => ?_) ?_
        · show spec_Run.l0 (k + 1) l _ _ _ a b cl = _
          rw [spec_Run.l0, if_pos (by omega), if_pos (by omega), hrd, if_pos h1, e1.down, e2.down]
        · exact Ev.bind (f := fun k (bt155 : Int × Bool) => (spec_Run.l0 k l bt155.1 ((s + 1 : Nat) : Int) ((i + 1 : Nat) : Int) a b cl)) (spec_FieldAt_ev a b cl hcl x.f1 hb) r1
      · refine Ev.step (f := fun k => (impl_FieldAt.f k a b cl x.f1).bind fun bt155 => (impl_Run.l0 k l bt155.1 ((i + 1 : Nat) : Int) ((s + 1 + 1 : Nat) : Int) a b cl)) (fun k => ?_) ?_
        · show impl_Run.l0 (k + 1) l _ _ _ a b cl = _
          rw [impl_Run.l0, if_pos (by omega), if_pos (by omega), hrd, if_pos h1, e1.down, e3.down]
        · exact Ev.bind (f := fun k (bt155 : Int × Bool) => (impl_Run.l0 k l bt155.1 ((i + 1 : Nat) : Int) ((s + 1 + 1 : Nat) : Int) a b cl)) (impl_FieldAt_ev a b cl hcl x.f1 hb) r2
    · by_cases h2 : x.f0 = 2
      · obtain ⟨r, r1, r2, r3, r4⟩ := jump 0 0 (Go.bits .and .i64 reg x.f1) rfl (by omega)
        refine ⟨r, Ev.step (fun k => ?_) r1, Ev.step (fun k => ?_) r2, weak r3, r4⟩
        · show spec_Run.l0 (k + 1) l _ _ _ a b cl = _
          rw [spec_Run.l0, if_pos (by omega), if_pos (by omega), hrd, if_neg h1, if_pos h2, e1.down, e2.down]
        · show impl_Run.l0 (k + 1) l _ _ _ a b cl = _
          rw [impl_Run.l0, if_pos (by omega), if_pos (by omega), hrd, if_neg h1, if_pos h2, e1.down, e3.down]
      · by_cases h7 : x.f0 = 7
        · obtain ⟨q, hq⟩ := Int.eq_ofNat_of_zero_le (show 0 ≤ x.f1 by omega)
          obtain ⟨r, r1, r2, r3, r4⟩ := jump x.f1 q reg hq (by omega)
          have e4 : PLift (wrap64 (wrap64 ((i : Int) + x.f1) + 1) = ((i + 1 + q : Nat) : Int)) := ⟨by rw [Math.wrap_in (n := (i : Int) + x.f1) (by omega) (by omega), Math.wrap_in (by omega) (by omega)]; omega⟩
          have e5 : PLift (wrap64 (((i + 1 : Nat) : Int) + x.f1) = ((i + 1 + q : Nat) : Int)) := ⟨by rw [Math.wrap_in (by omega) (by omega)]; omega⟩
          refine ⟨r, Ev.step (fun k => ?_) r1, Ev.step (fun k => ?_) r2, weak r3, r4⟩
          · show spec_Run.l0 (k + 1) l _ _ _ a b cl = _
            rw [spec_Run.l0, if_pos (by omega), if_pos (by omega), hrd, if_neg h1, if_neg h2, if_pos h7, e2.down, e4.down]
          · show impl_Run.l0 (k + 1) l _ _ _ a b cl = _
            rw [impl_Run.l0, if_pos (by omega), if_pos (by omega), hrd, if_neg h1, if_neg h2, if_pos h7, e1.down, e3.down, e5.down]
        · by_cases h8 : x.f0 = 8
          · refine ⟨(x.f1, ((s + 1 : Nat) : Int)), Ev.step (f := fun _ => some (x.f1, ((s + 1 : Nat) : Int))) (fun k => ?_) (Math.Ev.const rfl), Ev.step (f := fun _ => some (x.f1, ((s + 1 : Nat) : Int))) (fun k => ?_) (Math.Ev.const rfl), ⟨by show (s : Int) + 1 ≤ ((s + 1 : Nat) : Int); omega, by show ((s + 1 : Nat) : Int) ≤ _; omega⟩, i, hlt, by rw [hx]; exact h8, by rw [hx]⟩
            · show spec_Run.l0 (k + 1) l _ _ _ a b cl = _
              rw [spec_Run.l0, if_pos (by omega), if_pos (by omega), hrd, if_neg h1, if_neg h2, if_neg h7, if_pos h8, e2.down]
            · show impl_Run.l0 (k + 1) l _ _ _ a b cl = _
              rw [impl_Run.l0, if_pos (by omega), if_pos (by omega), hrd, if_neg h1, if_neg h2, if_neg h7, if_pos h8]
          · obtain ⟨ans, ha1, ha2⟩ : ∃ ans : Bool, spec_l07Asks.f x.f0 x.f1 x.f2 x.f3 reg = some ans ∧ impl_Ins_holds.f x.f0 x.f1 x.f2 x.f3 reg = some ans := by
              unfold spec_l07Asks.f impl_Ins_holds.f
              split
              · exact ⟨_, rfl, rfl⟩
              · split
                · exact ⟨_, rfl, rfl⟩
                · split
                  · exact ⟨_, rfl, rfl⟩
                  · exact ⟨_, rfl, rfl⟩
            have hgo : ∀ g : Int, 0 ≤ g → g ≤ 15 → (i : Int) + 1 + g < l.length → ∃ q : Nat, wrap64 (wrap64 ((i : Int) + g) + 1) = ((i + 1 + q : Nat) : Int) ∧ wrap64 (((i + 1 : Nat) : Int) + g) = ((i + 1 + q : Nat) : Int) ∧ g = (q : Int) := by
              intro g g0 g1 g2
              obtain ⟨q, hq⟩ := Int.eq_ofNat_of_zero_le g0
              exact ⟨q, by rw [Math.wrap_in (n := (i : Int) + g) (by omega) (by omega), Math.wrap_in (by omega) (by omega)]; omega, by rw [Math.wrap_in (by omega) (by omega)]; omega, hq⟩
            cases hans : ans with
            | true =>
              obtain ⟨q, q1, q2, q3⟩ := hgo x.f2 (by omega) (by omega) (by omega)
              have Q1 := PLift.up q1
              have Q2 := PLift.up q2
              clear q1 q2
              obtain ⟨r, r1, r2, r3, r4⟩ := jump x.f2 q reg q3 (by omega)
              refine ⟨r, Ev.step (fun k => ?_) r1, Ev.step (fun k => ?_) r2, weak r3, r4⟩
              · show spec_Run.l0 (k + 1) l _ _ _ a b cl = _
                rw [spec_Run.l0, if_pos (by omega), if_pos (by omega), hrd, if_neg h1, if_neg h2, if_neg h7, if_neg h8, ha1, Option.bind_some, if_pos hans, e2.down, Q1.down]
              · show impl_Run.l0 (k + 1) l _ _ _ a b cl = _
                rw [impl_Run.l0, if_pos (by omega), if_pos (by omega), hrd, if_neg h1, if_neg h2, if_neg h7, if_neg h8, ha2, Option.bind_some, if_pos hans, e1.down, e3.down, Q2.down]
            | false =>
              obtain ⟨q, q1, q2, q3⟩ := hgo x.f3 (by omega) (by omega) (by omega)
              have Q1 := PLift.up q1
              have Q2 := PLift.up q2
              clear q1 q2
              obtain ⟨r, r1, r2, r3, r4⟩ := jump x.f3 q reg q3 (by omega)
              have hans' : ¬ ans = true := by rw [hans]; decide
              refine ⟨r, Ev.step (fun k => ?_) r1, Ev.step (fun k => ?_) r2, weak r3, r4⟩
              · show spec_Run.l0 (k + 1) l _ _ _ a b cl = _
                rw [spec_Run.l0, if_pos (by omega), if_pos (by omega), hrd, if_neg h1, if_neg h2, if_neg h7, if_neg h8, ha1, Option.bind_some, if_neg hans', e2.down, Q1.down]
              · show impl_Run.l0 (k + 1) l _ _ _ a b cl = _
                rw [impl_Run.l0, if_pos (by omega), if_pos (by omega), hrd, if_neg h1, if_neg h2, if_neg h7, if_neg h8, ha2, Option.bind_some, if_neg hans', e1.down, e3.down, Q2.down]
theorem run_ev (l : List S25) (a b : Int) (cl : List S107) (hcl : cl.length ≤ 2000000) : ∃ r : Int × Int, Ev (fun k => spec_Run.f k l a b cl) r ∧ Ev (fun k => impl_Run.f k l a b cl) r ∧
    (checkB l = true → callB a b cl = true → (1 ≤ r.2 ∧ r.2 ≤ l.length) ∧ ∃ (j : Nat) (hj : j < l.length), l[j].f0 = 8 ∧ l[j].f1 = r.1) := by
  have sno : Ev (fun k => spec_Run.j0 k l true a b cl) (0, 0) := Ev.step (f := fun _ => some (0, 0)) (fun k => by rw [spec_Run.j0, if_pos rfl]) (Math.Ev.const rfl)
  have ino : Ev (fun k => impl_Run.j0 k l true a b cl) (0, 0) := Ev.step (f := fun _ => some (0, 0)) (fun k => by rw [impl_Run.j0, if_pos rfl]) (Math.Ev.const rfl)
  have sgo : ∀ {r : Int × Int}, Ev (fun k => if checkB l = true then ((spec_CallOk.f k a b cl).bind fun t152 => (spec_Run.j0 k l (!t152) a b cl)) else (spec_Run.j0 k l true a b cl)) r → Ev (fun k => spec_Run.f k l a b cl) r := fun h =>
    Ev.congr (fun k => by unfold spec_Run.f; rfl) (Ev.bind (f := fun k t151 => (if t151 = true then ((spec_CallOk.f k a b cl).bind fun t152 => (spec_Run.j0 k l (!t152) a b cl)) else (spec_Run.j0 k l true a b cl))) (spec_Check_ev l) h)
  have igo : ∀ {r : Int × Int}, Ev (fun k => if checkB l = true then ((impl_CallOk.f k a b cl).bind fun t152 => (impl_Run.j0 k l (!t152) a b cl)) else (impl_Run.j0 k l true a b cl)) r → Ev (fun k => impl_Run.f k l a b cl) r := fun h =>
    Ev.congr (fun k => by unfold impl_Run.f; rfl) (Ev.bind (f := fun k t151 => (if t151 = true then ((impl_CallOk.f k a b cl).bind fun t152 => (impl_Run.j0 k l (!t152) a b cl)) else (impl_Run.j0 k l true a b cl))) (impl_Check_ev l) h)
  by_cases c : checkB l = true
  · have sb : ∀ {r : Int × Int}, Ev (fun k => spec_Run.j0 k l (!callB a b cl) a b cl) r → Ev (fun k => spec_Run.f k l a b cl) r := fun h =>
      sgo (Ev.congr (fun k => if_pos c) (Ev.bind (f := fun k t152 => (spec_Run.j0 k l (!t152) a b cl)) (spec_CallOk_ev a b cl hcl) h))
    have ib : ∀ {r : Int × Int}, Ev (fun k => impl_Run.j0 k l (!callB a b cl) a b cl) r → Ev (fun k => impl_Run.f k l a b cl) r := fun h =>
      igo (Ev.congr (fun k => if_pos c) (Ev.bind (f := fun k t152 => (impl_Run.j0 k l (!t152) a b cl)) (impl_CallOk_ev a b cl hcl) h))
    by_cases cc : callB a b cl = true
    · have hn := (check_at c).1
      obtain ⟨r, r1, r2, r3, r4⟩ := run_both l a b cl hcl c l.length 0 0 0 (by omega) (by omega) (by omega)
      rw [cc] at sb ib
      exact ⟨r, sb (Ev.step (fun k => by rw [spec_Run.j0, if_neg (by decide)]; rfl) r1), ib (Ev.step (fun k => by rw [impl_Run.j0, if_neg (by decide)]; rfl) r2), fun _ _ => ⟨⟨by omega, r3.2⟩, r4⟩⟩
    · rw [Bool.eq_false_iff.2 cc] at sb ib
      exact ⟨(0, 0), sb sno, ib ino, fun _ h => absurd h cc⟩
  · exact ⟨(0, 0), sgo (Ev.congr (fun k => if_neg c) sno), igo (Ev.congr (fun k => if_neg c) ino), fun h => absurd h c⟩
theorem FnExactRun : ∀ (l : List S23) (a b : Int) (cl : List S109), (∀ p ∈ l, Open.i64ok p.f0 ∧ Open.i64ok p.f1 ∧ Open.i64ok p.f2 ∧ Open.i64ok p.f3) → (l = [] ∨ l.length ≤ 9223372036854775807) → Open.i64ok a → Open.i64ok b → (∀ p ∈ cl, Open.i64ok p.f0 ∧ Open.i64ok p.f1) → (cl = [] ∨ cl.length ≤ 9223372036854775807) → ∃ k, laws_FnExactRun.f k l a b cl = some true := by
  intro l a b cl _ hl0 _ _ _ hcl0
  have hl9 : l.length ≤ 9223372036854775807 := by rcases hl0 with rfl | h <;> simp_all
  have hc9 : cl.length ≤ 9223372036854775807 := by rcases hcl0 with rfl | h <;> simp_all
  refine Ev.rounds ?_
  by_cases hb : (l.length : Int) ≤ 1048576
  · by_cases hb2 : (cl.length : Int) ≤ 1048576 - l.length
    · refine Ev.congr (fun k => by unfold laws_FnExactRun.f; rw [szInsS_small l _ hb (by omega), Option.bind_some, if_neg (by omega), szCall_small a b cl _ hb2 (by omega), Option.bind_some, if_neg (by omega)]) ?_
      have ht := toInsS_ev l (by omega)
      have hlen : (l.map conv).length ≤ 2000000 := by rw [List.length_map]; omega
      have hc := toCall_ev a b cl (by omega)
      have hclen : (cl.map convW).length ≤ 2000000 := by rw [List.length_map]; omega
      generalize l.map conv = m at *
      generalize cl.map convW = cm at *
      obtain ⟨r, r1, r2, _⟩ := run_ev m a b cm hclen
      refine Ev.bind (f := fun k t228 => ((laws_toCall.f k a b cl).bind fun bt231 => ((spec_Run.f k t228 bt231.1 bt231.2.1 bt231.2.2).bind fun bt236 => ((laws_toInsS.f k l).bind fun t238 => ((laws_toCall.f k a b cl).bind fun bt241 => ((impl_Run.f k t238 bt241.1 bt241.2.1 bt241.2.2).bind fun bt247 => (if bt247.1 = bt236.1 then (laws_FnExactRun.j0 k l t238 (bt247.2 != bt236.2) a b cl bt241.1 bt241.2.1 bt241.2.2) else (laws_FnExactRun.j0 k l t238 true a b cl bt241.1 bt241.2.1 bt241.2.2)))))))) ht ?_
      refine Ev.bind (f := fun k (bt231 : Int × Int × List S107) => ((spec_Run.f k m bt231.1 bt231.2.1 bt231.2.2).bind fun bt236 => ((laws_toInsS.f k l).bind fun t238 => ((laws_toCall.f k a b cl).bind fun bt241 => ((impl_Run.f k t238 bt241.1 bt241.2.1 bt241.2.2).bind fun bt247 => (if bt247.1 = bt236.1 then (laws_FnExactRun.j0 k l t238 (bt247.2 != bt236.2) a b cl bt241.1 bt241.2.1 bt241.2.2) else (laws_FnExactRun.j0 k l t238 true a b cl bt241.1 bt241.2.1 bt241.2.2))))))) hc ?_
      refine Ev.bind (f := fun k (bt236 : Int × Int) => ((laws_toInsS.f k l).bind fun t238 => ((laws_toCall.f k a b cl).bind fun bt241 => ((impl_Run.f k t238 bt241.1 bt241.2.1 bt241.2.2).bind fun bt247 => (if bt247.1 = bt236.1 then (laws_FnExactRun.j0 k l t238 (bt247.2 != bt236.2) a b cl bt241.1 bt241.2.1 bt241.2.2) else (laws_FnExactRun.j0 k l t238 true a b cl bt241.1 bt241.2.1 bt241.2.2)))))) r1 ?_
      refine Ev.bind (f := fun k t238 => ((laws_toCall.f k a b cl).bind fun bt241 => ((impl_Run.f k t238 bt241.1 bt241.2.1 bt241.2.2).bind fun bt247 => (if bt247.1 = r.1 then (laws_FnExactRun.j0 k l t238 (bt247.2 != r.2) a b cl bt241.1 bt241.2.1 bt241.2.2) else (laws_FnExactRun.j0 k l t238 true a b cl bt241.1 bt241.2.1 bt241.2.2))))) ht ?_
      refine Ev.bind (f := fun k (bt241 : Int × Int × List S107) => ((impl_Run.f k m bt241.1 bt241.2.1 bt241.2.2).bind fun bt247 => (if bt247.1 = r.1 then (laws_FnExactRun.j0 k l m (bt247.2 != r.2) a b cl bt241.1 bt241.2.1 bt241.2.2) else (laws_FnExactRun.j0 k l m true a b cl bt241.1 bt241.2.1 bt241.2.2)))) hc ?_
      refine Ev.bind (f := fun k (bt247 : Int × Int) => (if bt247.1 = r.1 then (laws_FnExactRun.j0 k l m (bt247.2 != r.2) a b cl a b cm) else (laws_FnExactRun.j0 k l m true a b cl a b cm))) r2 ?_
      refine Ev.congr (f := fun k => laws_FnExactRun.j0 k l m false a b cl a b cm) (fun k => by rw [if_pos rfl]; simp) ?_
      refine Ev.step (fun k => by rw [laws_FnExactRun.j0, if_neg (by decide)]) ?_
      refine Ev.bind (f := fun k t249 => ((laws_eqInsS.f k m t249).bind fun t252 => (if t252 = true then ((laws_toCall.f k a b cl).bind fun bt253 => ((laws_eqCall.f k a b cm bt253.1 bt253.2.1 bt253.2.2).bind fun t258 => (if t258 = true then (some true) else (some false)))) else (some false)))) ht ?_
      refine Ev.bind (f := fun k t252 => (if t252 = true then ((laws_toCall.f k a b cl).bind fun bt253 => ((laws_eqCall.f k a b cm bt253.1 bt253.2.1 bt253.2.2).bind fun t258 => (if t258 = true then (some true) else (some false)))) else (some false))) (eqInsS_ev m hlen) ?_
      refine Ev.congr (fun k => if_pos rfl) ?_
      refine Ev.bind (f := fun k (bt253 : Int × Int × List S107) => ((laws_eqCall.f k a b cm bt253.1 bt253.2.1 bt253.2.2).bind fun t258 => (if t258 = true then (some true) else (some false)))) hc ?_
      exact Ev.bind (f := fun _ t166 => (if t166 = true then (some true) else (some false))) (eqCall_ev a b cm hclen) (Math.Ev.const (if_pos rfl))
    · exact ⟨0, fun k _ => by show laws_FnExactRun.f k l a b cl = _; unfold laws_FnExactRun.f; rw [szInsS_small l _ hb (by omega), Option.bind_some, if_neg (by omega), szCall_big a b cl _ hb2 (by omega) (by omega) (by omega), Option.bind_some, if_pos (by omega)]⟩
  · exact ⟨0, fun k _ => by show laws_FnExactRun.f k l a b cl = _; unfold laws_FnExactRun.f; rw [szInsS_big l _ hb (by omega) (by omega) (by omega), Option.bind_some, if_pos (by omega)]⟩
end Go.Proofs.Ytfchokhdhnfajaa.Pure
