/- For every call and every place the program's FieldAt answers what the reference's FieldAt answers, and leaves the call as it is. -/
import Derived.Test.YtppjbaogabicdaaPFnExactFieldAtx3
import Derived.Test.YtppjbaogabicdaaMath
import Derived.Test.YtppjbaogabicdaaOpen
namespace Go.Proofs.Ytppjbaogabicdaa.Pure
open Go.RowKit Go.Proofs.Ytppjbaogabicdaa.PFnExactFieldAt Go.Proofs.YtppjbaogabicdaaW.PrintWords Go.Proofs.YtppjbaogabicdaaW.PrintLast Go.Proofs.YtppjbaogabicdaaW.PrintMore
set_option linter.unusedVariables false

theorem spec_l01In_is (a lo hi : Int) : spec_l01In.f a lo hi = some (decide (lo ≤ a ∧ a ≤ hi)) := by
  unfold spec_l01In.f
  by_cases h : a ≥ lo
  · rw [if_pos h]
    by_cases h2 : a ≤ hi
    · simp [h, h2]
    · simp [h2]
  · rw [if_neg h]
    have : ¬ lo ≤ a := h
    simp [this]
theorem impl_within_is (a lo hi : Int) : impl_within.f a lo hi = some (decide (lo ≤ a ∧ a ≤ hi)) := by
  unfold impl_within.f
  by_cases h : a ≥ lo
  · rw [if_pos h]
    by_cases h2 : a ≤ hi
    · simp [h, h2]
    · simp [h2]
  · rw [if_neg h]
    have : ¬ lo ≤ a := h
    simp [this]
theorem spec_HalfOk_is (a : Int) : spec_HalfOk.f a = some (decide (0 ≤ a ∧ a ≤ 4294967295)) := by unfold spec_HalfOk.f; rw [spec_l01In_is]; rfl
theorem impl_HalfOk_is (a : Int) : impl_HalfOk.f a = some (decide (0 ≤ a ∧ a ≤ 4294967295)) := by unfold impl_HalfOk.f; rw [impl_within_is]; rfl
def wideOk (a b : Int) : Bool := decide (0 ≤ a ∧ a ≤ 4294967295) && decide (0 ≤ b ∧ b ≤ 4294967295)
theorem spec_WideOk_is (a b : Int) : spec_WideOk.f a b = some (wideOk a b) := by
  unfold spec_WideOk.f wideOk
  rw [spec_HalfOk_is, spec_HalfOk_is]
  by_cases h : 0 ≤ a ∧ a ≤ 4294967295 <;> simp [h]
theorem impl_WideOk_is (a b : Int) : impl_WideOk.f a b = some (wideOk a b) := by
  unfold impl_WideOk.f wideOk
  rw [impl_HalfOk_is, impl_HalfOk_is]
  by_cases h : 0 ≤ a ∧ a ≤ 4294967295 <;> simp [h]
def widesOk : List S45 → Bool
  | [] => true
  | x :: l => wideOk x.f0 x.f1 && widesOk l
def callB (a b : Int) (l : List S45) : Bool := widesOk l && (decide (0 ≤ a ∧ a ≤ 4294967295) && (decide (0 ≤ b ∧ b ≤ 4294967295) && ((l.length : Int) == 3)))
theorem rd_atW (l : List S45) (i : Nat) (h : i < l.length) : rd_T45 l (i : Int) = l[i] := by
  unfold rd_T45
  rw [Int.toNat_natCast, List.getD_eq_getElem?_getD, List.getElem?_eq_getElem h]
  rfl
theorem callEnd (a b : Int) (l : List S45) (F : Int → Option Bool) (hF : ∀ x, F x = some (decide (0 ≤ x ∧ x ≤ 4294967295))) :
    ((F a).bind fun t110 => (if t110 = true then ((F b).bind fun t111 => (if t111 = true then (some ((l.length : Int) == 3)) else (some false))) else (some false))) = some (decide (0 ≤ a ∧ a ≤ 4294967295) && (decide (0 ≤ b ∧ b ≤ 4294967295) && ((l.length : Int) == 3))) := by
  rw [hF, hF]
  by_cases h1 : 0 ≤ a ∧ a ≤ 4294967295 <;> by_cases h2 : 0 ≤ b ∧ b ≤ 4294967295 <;> simp [h1, h2]
theorem spec_CallOk_l0 (a b : Int) (l : List S45) (hl : l.length ≤ 2000000) (d : Nat) : ∀ (i : Nat), i + d = l.length →
    Ev (fun k => spec_CallOk.l0 k (i : Int) a b l) (widesOk (l.drop i) && (decide (0 ≤ a ∧ a ≤ 4294967295) && (decide (0 ≤ b ∧ b ≤ 4294967295) && ((l.length : Int) == 3)))) := by
  induction d with
  | zero =>
    intro i hi
    rw [List.drop_eq_nil_of_le (by omega)]
    refine Ev.step (f := fun _ => some (decide (0 ≤ a ∧ a ≤ 4294967295) && (decide (0 ≤ b ∧ b ≤ 4294967295) && ((l.length : Int) == 3)))) (fun k => ?_) (Math.Ev.const (by simp [widesOk]))
    show spec_CallOk.l0 (k + 1) (i : Int) a b l = _
    rw [spec_CallOk.l0, if_neg (by omega)]
    exact callEnd a b l _ spec_HalfOk_is
  | succ d ih =>
    intro i hi
    have hlt : i < l.length := by omega
    rw [List.drop_eq_getElem_cons hlt]
    simp only [widesOk]
    by_cases c : wideOk l[i].f0 l[i].f1 = true
    · rw [c, Bool.true_and]
      refine Ev.step (fun k => ?_) (ih (i + 1) (by omega))
      show spec_CallOk.l0 (k + 1) (i : Int) a b l = _
      rw [spec_CallOk.l0, if_pos (by omega), if_pos (by omega), rd_atW l i hlt, spec_WideOk_is, Option.bind_some, if_pos c, show wrap64 ((i : Int) + 1) = ((i + 1 : Nat) : Int) from by rw [Math.wrap_in (by omega) (by omega)]; omega]
    · rw [Bool.eq_false_iff.2 c, Bool.false_and, Bool.false_and]
      refine Ev.step (f := fun _ => some false) (fun k => ?_) (Math.Ev.const rfl)
      show spec_CallOk.l0 (k + 1) (i : Int) a b l = _
      rw [spec_CallOk.l0, if_pos (by omega), if_pos (by omega), rd_atW l i hlt, spec_WideOk_is, Option.bind_some, if_neg c]
theorem spec_CallOk_ev (a b : Int) (l : List S45) (hl : l.length ≤ 2000000) : Ev (fun k => spec_CallOk.f k a b l) (callB a b l) := spec_CallOk_l0 a b l hl l.length 0 (by omega)
theorem impl_CallOk_l0 (a b : Int) (l : List S45) (hl : l.length ≤ 2000000) (d : Nat) : ∀ (i : Nat), i + d = l.length →
    Ev (fun k => impl_CallOk.l0 k l (l.length : Int) (i : Int) a b l) (widesOk (l.drop i) && (decide (0 ≤ a ∧ a ≤ 4294967295) && (decide (0 ≤ b ∧ b ≤ 4294967295) && ((l.length : Int) == 3)))) := by
  induction d with
  | zero =>
    intro i hi
    rw [List.drop_eq_nil_of_le (by omega)]
    refine Ev.step (f := fun _ => some (decide (0 ≤ a ∧ a ≤ 4294967295) && (decide (0 ≤ b ∧ b ≤ 4294967295) && ((l.length : Int) == 3)))) (fun k => ?_) (Math.Ev.const (by simp [widesOk]))
    show impl_CallOk.l0 (k + 1) l _ (i : Int) a b l = _
    rw [impl_CallOk.l0, if_neg (by omega)]
    exact callEnd a b l _ impl_HalfOk_is
  | succ d ih =>
    intro i hi
    have hlt : i < l.length := by omega
    rw [List.drop_eq_getElem_cons hlt]
    simp only [widesOk]
    by_cases c : wideOk l[i].f0 l[i].f1 = true
    · rw [c, Bool.true_and]
      refine Ev.step (fun k => ?_) (ih (i + 1) (by omega))
      show impl_CallOk.l0 (k + 1) l _ (i : Int) a b l = _
      rw [impl_CallOk.l0, if_pos (by omega), if_pos (by omega), if_pos (by omega), rd_atW l i hlt, impl_WideOk_is, Option.bind_some, if_pos c, show wrap64 ((i : Int) + 1) = ((i + 1 : Nat) : Int) from by rw [Math.wrap_in (by omega) (by omega)]; omega]
    · rw [Bool.eq_false_iff.2 c, Bool.false_and, Bool.false_and]
      refine Ev.step (f := fun _ => some false) (fun k => ?_) (Math.Ev.const rfl)
      show impl_CallOk.l0 (k + 1) l _ (i : Int) a b l = _
      rw [impl_CallOk.l0, if_pos (by omega), if_pos (by omega), if_pos (by omega), rd_atW l i hlt, impl_WideOk_is, Option.bind_some, if_neg c]
theorem impl_CallOk_ev (a b : Int) (l : List S45) (hl : l.length ≤ 2000000) : Ev (fun k => impl_CallOk.f k a b l) (callB a b l) := impl_CallOk_l0 a b l hl l.length 0 (by omega)
theorem callB_len {a b : Int} {l : List S45} (h : callB a b l = true) : l.length = 3 := by
  unfold callB at h
  simp at h
  omega
def fieldAt (a b : Int) (l : List S45) (p : Int) : Int × Bool :=
  if callB a b l = true ∧ (0 ≤ p ∧ p ≤ 7) then
    if p = 0 then (b, true) else if p = 1 then (a, true) else if Int.tmod p 2 = 0 then ((rd_T45 l (p / 2 - 1)).f1, true) else ((rd_T45 l (p / 2 - 1)).f0, true)
  else (0, false)
theorem spec_FieldAt_ev (a b : Int) (l : List S45) (hl : l.length ≤ 2000000) (p : Int) (hp : -9223372036854775808 ≤ p ∧ p ≤ 9223372036854775807) : Ev (fun k => spec_FieldAt.f k a b l p) (fieldAt a b l p) := by
  refine Ev.congr (f := fun k => (spec_CallOk.f k a b l).bind fun t137 => (if t137 = true then (spec_FieldAt.j0 k p (!decide (0 ≤ p ∧ p ≤ 7)) a b l) else (spec_FieldAt.j0 k p true a b l))) (fun k => by unfold spec_FieldAt.f; rw [spec_l01In_is]; rfl) ?_
  refine Ev.bind (f := fun k t137 => (if t137 = true then (spec_FieldAt.j0 k p (!decide (0 ≤ p ∧ p ≤ 7)) a b l) else (spec_FieldAt.j0 k p true a b l))) (spec_CallOk_ev a b l hl) ?_
  unfold fieldAt
  have hno : Ev (fun k => spec_FieldAt.j0 k p true a b l) (0, false) := Ev.step (f := fun _ => some (0, false)) (fun k => by rw [spec_FieldAt.j0, if_pos rfl]) (Math.Ev.const rfl)
  by_cases c : callB a b l = true
  · have h3 := callB_len c
    by_cases h : 0 ≤ p ∧ p ≤ 7
    · rw [if_pos ⟨c, h⟩]
      refine Ev.congr (f := fun k => spec_FieldAt.j0 k p false a b l) (fun k => by rw [if_pos c, decide_eq_true h]; rfl) ?_
      refine Ev.step (f := fun _ => some (if p = 0 then (b, true) else if p = 1 then (a, true) else if Int.tmod p 2 = 0 then ((rd_T45 l (p / 2 - 1)).f1, true) else ((rd_T45 l (p / 2 - 1)).f0, true))) (fun k => ?_) (Math.Ev.const rfl)
      rw [spec_FieldAt.j0, if_neg (by decide)]
      by_cases h0 : p = 0
      · rw [if_pos h0, if_pos h0]
      · rw [if_neg h0, if_neg h0]
        by_cases h1 : p = 1
        · rw [if_pos h1, if_pos h1]
        · rw [if_neg h1, if_neg h1]
          have e : wrap64 (Int.tdiv (wrap64 (p - 2)) 2) = p / 2 - 1 := by
            rw [Math.wrap_in (n := p - 2) (by omega) (by omega), Int.tdiv_eq_ediv_of_nonneg (by omega), Math.wrap_in (by omega) (by omega)]
            omega
          rw [e, if_pos (by omega), if_pos (by omega)]
          split <;> rfl
    · rw [if_neg (fun e => h e.2)]
      refine Ev.congr (f := fun k => spec_FieldAt.j0 k p true a b l) (fun k => by rw [if_pos c, decide_eq_false h]; rfl) hno
  · rw [if_neg (fun e => c e.1)]
    exact Ev.congr (f := fun k => spec_FieldAt.j0 k p true a b l) (fun k => by rw [if_neg c]) hno
theorem impl_FieldAt_ev (a b : Int) (l : List S45) (hl : l.length ≤ 2000000) (p : Int) (hp : -9223372036854775808 ≤ p ∧ p ≤ 9223372036854775807) : Ev (fun k => impl_FieldAt.f k a b l p) (fieldAt a b l p) := by
  refine Ev.congr (f := fun k => (impl_CallOk.f k a b l).bind fun t137 => (if t137 = true then (impl_FieldAt.j0 k p (!decide (0 ≤ p ∧ p ≤ 7)) a b l) else (impl_FieldAt.j0 k p true a b l))) (fun k => by unfold impl_FieldAt.f; rw [impl_within_is]; rfl) ?_
  refine Ev.bind (f := fun k t137 => (if t137 = true then (impl_FieldAt.j0 k p (!decide (0 ≤ p ∧ p ≤ 7)) a b l) else (impl_FieldAt.j0 k p true a b l))) (impl_CallOk_ev a b l hl) ?_
  unfold fieldAt
  have hno : Ev (fun k => impl_FieldAt.j0 k p true a b l) (0, false) := Ev.step (f := fun _ => some (0, false)) (fun k => by rw [impl_FieldAt.j0, if_pos rfl]) (Math.Ev.const rfl)
  by_cases c : callB a b l = true
  · have h3 := callB_len c
    by_cases h : 0 ≤ p ∧ p ≤ 7
    · rw [if_pos ⟨c, h⟩]
      refine Ev.congr (f := fun k => impl_FieldAt.j0 k p false a b l) (fun k => by rw [if_pos c, decide_eq_true h]; rfl) ?_
      refine Ev.step (f := fun _ => some (if p = 0 then (b, true) else if p = 1 then (a, true) else if Int.tmod p 2 = 0 then ((rd_T45 l (p / 2 - 1)).f1, true) else ((rd_T45 l (p / 2 - 1)).f0, true))) (fun k => ?_) (Math.Ev.const rfl)
      rw [impl_FieldAt.j0, if_neg (by decide)]
      by_cases h0 : p = 0
      · rw [if_pos h0, if_pos h0]
      · rw [if_neg h0, if_neg h0]
        by_cases h1 : p = 1
        · rw [if_pos h1, if_pos h1]
        · rw [if_neg h1, if_neg h1]
          have e : wrap64 (wrap64 (Int.tdiv p 2) - 1) = p / 2 - 1 := by
            rw [Int.tdiv_eq_ediv_of_nonneg (by omega), Math.wrap_in (n := p / 2) (by omega) (by omega), Math.wrap_in (by omega) (by omega)]
          rw [e]
          by_cases ht : Int.tmod p 2 = 0
          · rw [if_pos ht, if_pos ht, if_pos (by omega), if_pos (by omega)]
          · rw [if_neg ht, if_neg ht, if_pos (by omega), if_pos (by omega)]
    · rw [if_neg (fun e => h e.2)]
      refine Ev.congr (f := fun k => impl_FieldAt.j0 k p true a b l) (fun k => by rw [if_pos c, decide_eq_false h]; rfl) hno
  · rw [if_neg (fun e => c e.1)]
    exact Ev.congr (f := fun k => impl_FieldAt.j0 k p true a b l) (fun k => by rw [if_neg c]) hno
def convW (x : S85) : S45 := ⟨x.f0, x.f1⟩
theorem rd_atLW (l : List S85) (i : Nat) (h : i < l.length) : rd_T85 l (i : Int) = l[i] := by
  unfold rd_T85
  rw [Int.toNat_natCast, List.getD_eq_getElem?_getD, List.getElem?_eq_getElem h]
  rfl
theorem toWideS_l0 (l : List S85) (hl : l.length ≤ 2000000) (d : Nat) : ∀ (i : Nat) (acc : List S45), i + d = l.length → acc.length = l.length → (∀ j, j < i → acc[j]? = (l.map convW)[j]?) →
    Ev (fun k => laws_toWideS.l0 k l acc (i : Int)) (l.map convW) := by
  induction d with
  | zero =>
    intro i acc hi ha hj
    have e : acc = l.map convW := by
      apply List.ext_getElem?
      intro j
      by_cases c : j < i
      · exact hj j c
      · rw [List.getElem?_eq_none (by omega), List.getElem?_eq_none (by rw [List.length_map]; omega)]
    refine Ev.step (f := fun _ => some (l.map convW)) (fun k => ?_) (Math.Ev.const rfl)
    show laws_toWideS.l0 (k + 1) l acc _ = _
    rw [laws_toWideS.l0, if_neg (by omega), e]
  | succ d ih =>
    intro i acc hi ha hj
    have hlt : i < l.length := by omega
    refine Ev.step (fun k => ?_) (ih (i + 1) (acc.set i (convW l[i])) (by omega) (by rw [List.length_set]; exact ha) (fun j hlj => ?_))
    · show laws_toWideS.l0 (k + 1) l acc _ = _
      rw [laws_toWideS.l0, if_pos (by omega), if_pos (by omega), rd_atLW l i hlt]
      unfold laws_toWide.f
      rw [Option.bind_some, if_pos (by omega), Int.toNat_natCast, show wrap64 ((i : Int) + 1) = ((i + 1 : Nat) : Int) from by rw [Math.wrap_in (by omega) (by omega)]; omega]
      rfl
    · by_cases c : j = i
      · subst c
        rw [List.getElem?_set_self (by omega), List.getElem?_map, List.getElem?_eq_getElem hlt]
        rfl
      · rw [List.getElem?_set_ne (by omega)]
        exact hj j (by omega)
theorem toCall_ev (a b : Int) (l : List S85) (hl : l.length ≤ 2000000) : Ev (fun k => laws_toCall.f k a b l) (a, b, l.map convW) := by
  refine Ev.congr (f := fun k => (laws_toWideS.l0 k l (List.replicate l.length z45) 0).bind fun t125 => (some (a, b, t125))) (fun k => by unfold laws_toCall.f laws_toWideS.f; rw [if_pos (by omega), if_pos (by omega), Int.toNat_natCast]) ?_
  exact Ev.bind (f := fun _ t125 => (some (a, b, t125))) (toWideS_l0 l hl l.length 0 (List.replicate l.length z45) (by omega) (by rw [List.length_replicate]) (fun j h => by omega)) (Math.Ev.const rfl)
theorem szCall_small (a b : Int) (l : List S85) (m : Int) (h : (l.length : Int) ≤ m) (hm : m ≤ 1048576) : laws_szCall.f a b l m = some (m - l.length) := by
  unfold laws_szCall.f laws_szWideS.f
  rw [Math.wrap_in (by omega) (by omega), if_neg (by omega), Option.bind_some, if_neg (by omega)]
theorem szCall_big (a b : Int) (l : List S85) (m : Int) (h : ¬ (l.length : Int) ≤ m) (h0 : 0 ≤ m) (hm : m ≤ 1048576) (hl : l.length ≤ 9223372036854775807) : laws_szCall.f a b l m = some (-1) := by
  unfold laws_szCall.f laws_szWideS.f
  rw [Math.wrap_in (by omega) (by omega), if_pos (by omega), Option.bind_some, if_pos (by omega)]
theorem eqWideS_l0 (l : List S45) (hl : l.length ≤ 2000000) (d : Nat) : ∀ (i : Nat), i + d = l.length → Ev (fun k => laws_eqWideS.l0 k l l (i : Int)) true := by
  induction d with
  | zero =>
    intro i hi
    refine Ev.step (f := fun _ => some true) (fun k => ?_) (Math.Ev.const rfl)
    show laws_eqWideS.l0 (k + 1) l l _ = _
    rw [laws_eqWideS.l0, if_neg (by omega)]
  | succ d ih =>
    intro i hi
    refine Ev.step (fun k => ?_) (ih (i + 1) (by omega))
    show laws_eqWideS.l0 (k + 1) l l _ = _
    rw [laws_eqWideS.l0, if_pos (by omega), if_pos (by omega), if_pos (by omega)]
    unfold laws_eqWide.f
    rw [if_pos rfl, if_pos rfl, Option.bind_some, if_pos rfl]
    rw [show wrap64 ((i : Int) + 1) = ((i + 1 : Nat) : Int) from by rw [Math.wrap_in (by omega) (by omega)]; omega]
theorem eqCall_ev (a b : Int) (l : List S45) (hl : l.length ≤ 2000000) : Ev (fun k => laws_eqCall.f k a b l a b l) true := by
  refine Ev.congr (f := fun k => (laws_eqWideS.l0 k l l 0).bind fun t145 => (if t145 = true then (some true) else (some false))) (fun k => by unfold laws_eqCall.f laws_eqWideS.f; rw [if_pos rfl, if_pos rfl, if_pos rfl]) ?_
  exact Ev.bind (f := fun _ t145 => (if t145 = true then (some true) else (some false))) (eqWideS_l0 l hl l.length 0 (by omega)) (Math.Ev.const (if_pos rfl))
theorem FnExactFieldAt : ∀ (a b : Int) (l : List S85) (p : Int), Open.i64ok a → Open.i64ok b → (∀ p ∈ l, Open.i64ok p.f0 ∧ Open.i64ok p.f1) → (l = [] ∨ l.length ≤ 9223372036854775807) → Open.i64ok p → ∃ k, laws_FnExactFieldAt.f k a b l p = some true := by
  intro a b l p _ _ _ hl0 wp
  have hl9 : l.length ≤ 9223372036854775807 := by rcases hl0 with rfl | h <;> simp_all
  have hp := Math.wf_i64 wp
  refine Ev.rounds ?_
  by_cases hb : (l.length : Int) ≤ 1048576
  · refine Ev.congr (fun k => by unfold laws_FnExactFieldAt.f; rw [szCall_small a b l _ hb (by omega), Option.bind_some, if_neg (by omega)]) ?_
    have ht := toCall_ev a b l (by omega)
    have hlen : (l.map convW).length ≤ 2000000 := by rw [List.length_map]; omega
    generalize l.map convW = m at *
    refine Ev.bind (f := fun k (bt158 : Int × Int × List S45) => ((spec_FieldAt.f k bt158.1 bt158.2.1 bt158.2.2 p).bind fun bt163 => ((laws_toCall.f k a b l).bind fun bt165 => ((impl_FieldAt.f k bt165.1 bt165.2.1 bt165.2.2 p).bind fun bt171 => (if bt171.1 = bt163.1 then (laws_FnExactFieldAt.j0 k (bt171.2 != bt163.2) a b l bt165.1 bt165.2.1 bt165.2.2) else (laws_FnExactFieldAt.j0 k true a b l bt165.1 bt165.2.1 bt165.2.2)))))) ht ?_
    refine Ev.bind (f := fun k (bt163 : Int × Bool) => ((laws_toCall.f k a b l).bind fun bt165 => ((impl_FieldAt.f k bt165.1 bt165.2.1 bt165.2.2 p).bind fun bt171 => (if bt171.1 = bt163.1 then (laws_FnExactFieldAt.j0 k (bt171.2 != bt163.2) a b l bt165.1 bt165.2.1 bt165.2.2) else (laws_FnExactFieldAt.j0 k true a b l bt165.1 bt165.2.1 bt165.2.2))))) (spec_FieldAt_ev a b m hlen p hp) ?_
    refine Ev.bind (f := fun k (bt165 : Int × Int × List S45) => ((impl_FieldAt.f k bt165.1 bt165.2.1 bt165.2.2 p).bind fun bt171 => (if bt171.1 = (fieldAt a b m p).1 then (laws_FnExactFieldAt.j0 k (bt171.2 != (fieldAt a b m p).2) a b l bt165.1 bt165.2.1 bt165.2.2) else (laws_FnExactFieldAt.j0 k true a b l bt165.1 bt165.2.1 bt165.2.2)))) ht ?_
    refine Ev.bind (f := fun k (bt171 : Int × Bool) => (if bt171.1 = (fieldAt a b m p).1 then (laws_FnExactFieldAt.j0 k (bt171.2 != (fieldAt a b m p).2) a b l a b m) else (laws_FnExactFieldAt.j0 k true a b l a b m))) (impl_FieldAt_ev a b m hlen p hp) ?_
    refine Ev.congr (f := fun k => laws_FnExactFieldAt.j0 k false a b l a b m) (fun k => by rw [if_pos rfl]; simp) ?_
    refine Ev.step (fun k => by rw [laws_FnExactFieldAt.j0, if_neg (by decide)]) ?_
    refine Ev.bind (f := fun k (bt161 : Int × Int × List S45) => ((laws_eqCall.f k a b m bt161.1 bt161.2.1 bt161.2.2).bind fun t166 => (if t166 = true then (some true) else (some false)))) ht ?_
    exact Ev.bind (f := fun _ t166 => (if t166 = true then (some true) else (some false))) (eqCall_ev a b m hlen) (Math.Ev.const (if_pos rfl))
  · exact ⟨0, fun k _ => by show laws_FnExactFieldAt.f k a b l p = _; unfold laws_FnExactFieldAt.f; rw [szCall_big a b l _ hb (by omega) (by omega) (by omega), Option.bind_some, if_pos (by omega)]⟩
end Go.Proofs.Ytppjbaogabicdaa.Pure
