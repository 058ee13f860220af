/- FnFields: each place of a call tells what it has; there are no others. -/
import Derived.Test.YtppjbaogabicdaaOFnFieldsx6
import Derived.Test.YtppjbaogabicdaaMath
namespace Go.Proofs.Ytppjbaogabicdaa.Pure
open Go.RowKit Go.Proofs.Ytppjbaogabicdaa.PFnFields Go.Proofs.YtppjbaogabicdaaW.PrintWords Go.Proofs.YtppjbaogabicdaaW.PrintLast Go.Proofs.YtppjbaogabicdaaW.PrintMore
set_option linter.unusedVariables false
theorem spec_l01In_is (a lo hi : Int) : spec_l01In.f a lo hi = some (decide (lo ≤ a ∧ a ≤ hi)) := by
  unfold spec_l01In.f
  by_cases h : a ≥ lo
  · rw [if_pos h]
    by_cases h2 : a ≤ hi
    · simp [h, h2]
    · simp [h2]
  · rw [if_neg h]
    have : ¬ lo ≤ a := h
    simp [this]
theorem impl_within_is (a lo hi : Int) : impl_within.f a lo hi = some (decide (lo ≤ a ∧ a ≤ hi)) := by
  unfold impl_within.f
  by_cases h : a ≥ lo
  · rw [if_pos h]
    by_cases h2 : a ≤ hi
    · simp [h, h2]
    · simp [h2]
  · rw [if_neg h]
    have : ¬ lo ≤ a := h
    simp [this]
theorem spec_HalfOk_is (a : Int) : spec_HalfOk.f a = some (decide (0 ≤ a ∧ a ≤ 4294967295)) := by unfold spec_HalfOk.f; rw [spec_l01In_is]; rfl
theorem impl_HalfOk_is (a : Int) : impl_HalfOk.f a = some (decide (0 ≤ a ∧ a ≤ 4294967295)) := by unfold impl_HalfOk.f; rw [impl_within_is]; rfl
def wideOk (a b : Int) : Bool := decide (0 ≤ a ∧ a ≤ 4294967295) && decide (0 ≤ b ∧ b ≤ 4294967295)
theorem spec_WideOk_is (a b : Int) : spec_WideOk.f a b = some (wideOk a b) := by
  unfold spec_WideOk.f wideOk
  rw [spec_HalfOk_is, spec_HalfOk_is]
  by_cases h : 0 ≤ a ∧ a ≤ 4294967295 <;> simp [h]
theorem impl_WideOk_is (a b : Int) : impl_WideOk.f a b = some (wideOk a b) := by
  unfold impl_WideOk.f wideOk
  rw [impl_HalfOk_is, impl_HalfOk_is]
  by_cases h : 0 ≤ a ∧ a ≤ 4294967295 <;> simp [h]
def widesOk : List S45 → Bool
  | [] => true
  | x :: l => wideOk x.f0 x.f1 && widesOk l
def callB (a b : Int) (l : List S45) : Bool := widesOk l && (decide (0 ≤ a ∧ a ≤ 4294967295) && (decide (0 ≤ b ∧ b ≤ 4294967295) && ((l.length : Int) == 3)))
theorem rd_atW (l : List S45) (i : Nat) (h : i < l.length) : rd_T45 l (i : Int) = l[i] := by
  unfold rd_T45
  rw [Int.toNat_natCast, List.getD_eq_getElem?_getD, List.getElem?_eq_getElem h]
  rfl
theorem callEnd (a b : Int) (l : List S45) (F : Int → Option Bool) (hF : ∀ x, F x = some (decide (0 ≤ x ∧ x ≤ 4294967295))) :
    ((F a).bind fun t110 => (if t110 = true then ((F b).bind fun t111 => (if t111 = true then (some ((l.length : Int) == 3)) else (some false))) else (some false))) = some (decide (0 ≤ a ∧ a ≤ 4294967295) && (decide (0 ≤ b ∧ b ≤ 4294967295) && ((l.length : Int) == 3))) := by
  rw [hF, hF]
  by_cases h1 : 0 ≤ a ∧ a ≤ 4294967295 <;> by_cases h2 : 0 ≤ b ∧ b ≤ 4294967295 <;> simp [h1, h2]
theorem spec_CallOk_l0 (a b : Int) (l : List S45) (hl : l.length ≤ 2000000) (d : Nat) : ∀ (i : Nat), i + d = l.length →
    Ev (fun k => spec_CallOk.l0 k (i : Int) a b l) (widesOk (l.drop i) && (decide (0 ≤ a ∧ a ≤ 4294967295) && (decide (0 ≤ b ∧ b ≤ 4294967295) && ((l.length : Int) == 3)))) := by
  induction d with
  | zero =>
    intro i hi
    rw [List.drop_eq_nil_of_le (by omega)]
    refine Ev.step (f := fun _ => some (decide (0 ≤ a ∧ a ≤ 4294967295) && (decide (0 ≤ b ∧ b ≤ 4294967295) && ((l.length : Int) == 3)))) (fun k => ?_) (Math.Ev.const (by simp [widesOk]))
    show spec_CallOk.l0 (k + 1) (i : Int) a b l = _
    rw [spec_CallOk.l0, if_neg (by omega)]
    exact callEnd a b l _ spec_HalfOk_is
  | succ d ih =>
    intro i hi
    have hlt : i < l.length := by omega
    rw [List.drop_eq_getElem_cons hlt]
    simp only [widesOk]
    by_cases c : wideOk l[i].f0 l[i].f1 = true
    · rw [c, Bool.true_and]
      refine Ev.step (fun k => ?_) (ih (i + 1) (by omega))
      show spec_CallOk.l0 (k + 1) (i : Int) a b l = _
      rw [spec_CallOk.l0, if_pos (by omega), if_pos (by omega), rd_atW l i hlt, spec_WideOk_is, Option.bind_some, if_pos c, show wrap64 ((i : Int) + 1) = ((i + 1 : Nat) : Int) from by rw [Math.wrap_in (by omega) (by omega)]; omega]
    · rw [Bool.eq_false_iff.2 c, Bool.false_and, Bool.false_and]
      refine Ev.step (f := fun _ => some false) (fun k => ?_) (Math.Ev.const rfl)
      show spec_CallOk.l0 (k + 1) (i : Int) a b l = _
      rw [spec_CallOk.l0, if_pos (by omega), if_pos (by omega), rd_atW l i hlt, spec_WideOk_is, Option.bind_some, if_neg c]
theorem spec_CallOk_ev (a b : Int) (l : List S45) (hl : l.length ≤ 2000000) : Ev (fun k => spec_CallOk.f k a b l) (callB a b l) := spec_CallOk_l0 a b l hl l.length 0 (by omega)
theorem impl_CallOk_l0 (a b : Int) (l : List S45) (hl : l.length ≤ 2000000) (d : Nat) : ∀ (i : Nat), i + d = l.length →
    Ev (fun k => impl_CallOk.l0 k l (l.length : Int) (i : Int) a b l) (widesOk (l.drop i) && (decide (0 ≤ a ∧ a ≤ 4294967295) && (decide (0 ≤ b ∧ b ≤ 4294967295) && ((l.length : Int) == 3)))) := by
  induction d with
  | zero =>
    intro i hi
    rw [List.drop_eq_nil_of_le (by omega)]
    refine Ev.step (f := fun _ => some (decide (0 ≤ a ∧ a ≤ 4294967295) && (decide (0 ≤ b ∧ b ≤ 4294967295) && ((l.length : Int) == 3)))) (fun k => ?_) (Math.Ev.const (by simp [widesOk]))
    show impl_CallOk.l0 (k + 1) l _ (i : Int) a b l = _
    rw [impl_CallOk.l0, if_neg (by omega)]
    exact callEnd a b l _ impl_HalfOk_is
  | succ d ih =>
    intro i hi
    have hlt : i < l.length := by omega
    rw [List.drop_eq_getElem_cons hlt]
    simp only [widesOk]
    by_cases c : wideOk l[i].f0 l[i].f1 = true
    · rw [c, Bool.true_and]
      refine Ev.step (fun k => ?_) (ih (i + 1) (by omega))
      show impl_CallOk.l0 (k + 1) l _ (i : Int) a b l = _
      rw [impl_CallOk.l0, if_pos (by omega), if_pos (by omega), if_pos (by omega), rd_atW l i hlt, impl_WideOk_is, Option.bind_some, if_pos c, show wrap64 ((i : Int) + 1) = ((i + 1 : Nat) : Int) from by rw [Math.wrap_in (by omega) (by omega)]; omega]
    · rw [Bool.eq_false_iff.2 c, Bool.false_and, Bool.false_and]
      refine Ev.step (f := fun _ => some false) (fun k => ?_) (Math.Ev.const rfl)
      show impl_CallOk.l0 (k + 1) l _ (i : Int) a b l = _
      rw [impl_CallOk.l0, if_pos (by omega), if_pos (by omega), if_pos (by omega), rd_atW l i hlt, impl_WideOk_is, Option.bind_some, if_neg c]
theorem impl_CallOk_ev (a b : Int) (l : List S45) (hl : l.length ≤ 2000000) : Ev (fun k => impl_CallOk.f k a b l) (callB a b l) := impl_CallOk_l0 a b l hl l.length 0 (by omega)
theorem callB_len {a b : Int} {l : List S45} (h : callB a b l = true) : l.length = 3 := by
  unfold callB at h
  simp at h
  omega
def fieldAt (a b : Int) (l : List S45) (p : Int) : Int × Bool :=
  if callB a b l = true ∧ (0 ≤ p ∧ p ≤ 7) then
    if p = 0 then (b, true) else if p = 1 then (a, true) else if Int.tmod p 2 = 0 then ((rd_T45 l (p / 2 - 1)).f1, true) else ((rd_T45 l (p / 2 - 1)).f0, true)
  else (0, false)
theorem spec_FieldAt_ev (a b : Int) (l : List S45) (hl : l.length ≤ 2000000) (p : Int) (hp : -9223372036854775808 ≤ p ∧ p ≤ 9223372036854775807) : Ev (fun k => spec_FieldAt.f k a b l p) (fieldAt a b l p) := by
  refine Ev.congr (f := fun k => (spec_CallOk.f k a b l).bind fun t137 => (if t137 = true then (spec_FieldAt.j0 k p (!decide (0 ≤ p ∧ p ≤ 7)) a b l) else (spec_FieldAt.j0 k p true a b l))) (fun k => by unfold spec_FieldAt.f; rw [spec_l01In_is]; rfl) ?_
  refine Ev.bind (f := fun k t137 => (if t137 = true then (spec_FieldAt.j0 k p (!decide (0 ≤ p ∧ p ≤ 7)) a b l) else (spec_FieldAt.j0 k p true a b l))) (spec_CallOk_ev a b l hl) ?_
  unfold fieldAt
  have hno : Ev (fun k => spec_FieldAt.j0 k p true a b l) (0, false) := Ev.step (f := fun _ => some (0, false)) (fun k => by rw [spec_FieldAt.j0, if_pos rfl]) (Math.Ev.const rfl)
  by_cases c : callB a b l = true
  · have h3 := callB_len c
    by_cases h : 0 ≤ p ∧ p ≤ 7
    · rw [if_pos ⟨c, h⟩]
      refine Ev.congr (f := fun k => spec_FieldAt.j0 k p false a b l) (fun k => by rw [if_pos c, decide_eq_true h]; rfl) ?_
      refine Ev.step (f := fun _ => some (if p = 0 then (b, true) else if p = 1 then (a, true) else if Int.tmod p 2 = 0 then ((rd_T45 l (p / 2 - 1)).f1, true) else ((rd_T45 l (p / 2 - 1)).f0, true))) (fun k => ?_) (Math.Ev.const rfl)
      rw [spec_FieldAt.j0, if_neg (by decide)]
      by_cases h0 : p = 0
      · rw [if_pos h0, if_pos h0]
      · rw [if_neg h0, if_neg h0]
        by_cases h1 : p = 1
        · rw [if_pos h1, if_pos h1]
        · rw [if_neg h1, if_neg h1]
          have e : wrap64 (Int.tdiv (wrap64 (p - 2)) 2) = p / 2 - 1 := by
            rw [Math.wrap_in (n := p - 2) (by omega) (by omega), Int.tdiv_eq_ediv_of_nonneg (by omega), Math.wrap_in (by omega) (by omega)]
            omega
          rw [e, if_pos (by omega), if_pos (by omega)]
          split <;> rfl
    · rw [if_neg (fun e => h e.2)]
      refine Ev.congr (f := fun k => spec_FieldAt.j0 k p true a b l) (fun k => by rw [if_pos c, decide_eq_false h]; rfl) hno
  · rw [if_neg (fun e => c e.1)]
    exact Ev.congr (f := fun k => spec_FieldAt.j0 k p true a b l) (fun k => by rw [if_neg c]) hno
theorem impl_FieldAt_ev (a b : Int) (l : List S45) (hl : l.length ≤ 2000000) (p : Int) (hp : -9223372036854775808 ≤ p ∧ p ≤ 9223372036854775807) : Ev (fun k => impl_FieldAt.f k a b l p) (fieldAt a b l p) := by
  refine Ev.congr (f := fun k => (impl_CallOk.f k a b l).bind fun t137 => (if t137 = true then (impl_FieldAt.j0 k p (!decide (0 ≤ p ∧ p ≤ 7)) a b l) else (impl_FieldAt.j0 k p true a b l))) (fun k => by unfold impl_FieldAt.f; rw [impl_within_is]; rfl) ?_
  refine Ev.bind (f := fun k t137 => (if t137 = true then (impl_FieldAt.j0 k p (!decide (0 ≤ p ∧ p ≤ 7)) a b l) else (impl_FieldAt.j0 k p true a b l))) (impl_CallOk_ev a b l hl) ?_
  unfold fieldAt
  have hno : Ev (fun k => impl_FieldAt.j0 k p true a b l) (0, false) := Ev.step (f := fun _ => some (0, false)) (fun k => by rw [impl_FieldAt.j0, if_pos rfl]) (Math.Ev.const rfl)
  by_cases c : callB a b l = true
  · have h3 := callB_len c
    by_cases h : 0 ≤ p ∧ p ≤ 7
    · rw [if_pos ⟨c, h⟩]
      refine Ev.congr (f := fun k => impl_FieldAt.j0 k p false a b l) (fun k => by rw [if_pos c, decide_eq_true h]; rfl) ?_
      refine Ev.step (f := fun _ => some (if p = 0 then (b, true) else if p = 1 then (a, true) else if Int.tmod p 2 = 0 then ((rd_T45 l (p / 2 - 1)).f1, true) else ((rd_T45 l (p / 2 - 1)).f0, true))) (fun k => ?_) (Math.Ev.const rfl)
      rw [impl_FieldAt.j0, if_neg (by decide)]
      by_cases h0 : p = 0
      · rw [if_pos h0, if_pos h0]
      · rw [if_neg h0, if_neg h0]
        by_cases h1 : p = 1
        · rw [if_pos h1, if_pos h1]
        · rw [if_neg h1, if_neg h1]
          have e : wrap64 (wrap64 (Int.tdiv p 2) - 1) = p / 2 - 1 := by
            rw [Int.tdiv_eq_ediv_of_nonneg (by omega), Math.wrap_in (n := p / 2) (by omega) (by omega), Math.wrap_in (by omega) (by omega)]
          rw [e]
          by_cases ht : Int.tmod p 2 = 0
          · rw [if_pos ht, if_pos ht, if_pos (by omega), if_pos (by omega)]
          · rw [if_neg ht, if_neg ht, if_pos (by omega), if_pos (by omega)]
    · rw [if_neg (fun e => h e.2)]
      refine Ev.congr (f := fun k => impl_FieldAt.j0 k p true a b l) (fun k => by rw [if_pos c, decide_eq_false h]; rfl) hno
  · rw [if_neg (fun e => c e.1)]
    exact Ev.congr (f := fun k => impl_FieldAt.j0 k p true a b l) (fun k => by rw [if_neg c]) hno
theorem big_is (l : List Int) : laws_big.f l = some (decide ((l.length : Int) > 1048576)) := rfl
theorem new_l0 (l : List Int) (hl : l.length ≤ 2000000) (d : Nat) : ∀ (i : Nat) (x : Int), i + d = l.length → ∃ h, Ev (fun k => spec_l01New.l0 k l x (i : Int)) (l, 0, h) := by
  induction d with
  | zero =>
    intro i x hi
    refine ⟨x, Ev.step (f := fun _ => some (l, 0, x)) (fun k => ?_) (Math.Ev.const rfl)⟩
    show spec_l01New.l0 (k + 1) l x _ = _
    rw [spec_l01New.l0, if_neg (by omega)]
  | succ d ih =>
    intro i x hi
    by_cases c : (i : Int) < 4000
    · obtain ⟨h, hh⟩ := ih (i + 1) (Go.bits .and .i64 (wrap64 ((wrap64 ((wrap64 (x * 131)) + (wrap64 (rd l (i : Int))))) + 7)) 1073741823) (by omega)
      refine ⟨h, Ev.step (fun k => ?_) hh⟩
      show spec_l01New.l0 (k + 1) l x _ = _
      rw [spec_l01New.l0, if_pos (by omega), if_pos c, if_pos (by omega), show wrap64 ((i : Int) + 1) = ((i + 1 : Nat) : Int) from by rw [Math.wrap_in (by omega) (by omega)]; omega]
    · refine ⟨x, Ev.step (f := fun _ => some (l, 0, x)) (fun k => ?_) (Math.Ev.const rfl)⟩
      show spec_l01New.l0 (k + 1) l x _ = _
      rw [spec_l01New.l0, if_pos (by omega), if_neg c]
theorem new_ev (l : List Int) (hl : l.length ≤ 2000000) : ∃ h, Ev (fun k => spec_l01New.f k l) (l, 0, h) := new_l0 l hl l.length 0 _ (by omega)
def Cur (l : List Int) (i : Int) : Prop := 0 ≤ i ∧ i ≤ l.length ∧ l.length ≤ 2000000
theorem byte_ok {l : List Int} {i : Int} (c : Cur l i) (h : Int) : ∃ x i' h', spec_l01Byte.f l i h = some (x, i', h') ∧ Cur l i' ∧ 0 ≤ x ∧ x ≤ 255 := by
  unfold Cur at c
  unfold spec_l01Byte.f
  by_cases hlt : i < (l.length : Int)
  · rw [if_pos hlt, if_pos c.1]
    refine ⟨_, _, _, rfl, ?_, Math.and255 _⟩
    unfold Cur
    rw [Math.wrap_in (n := i + 1) (by omega) (by omega)]
    omega
  · rw [if_neg hlt]
    exact ⟨_, _, _, rfl, c, Math.and255 _⟩
theorem below_ok {l : List Int} {i : Int} (c : Cur l i) (h : Int) (n : Int) : ∃ x i' h', spec_l01Below.f l i h n = some (x, i', h') ∧ Cur l i' ∧ 0 ≤ x ∧ (0 < n → x < n) ∧ (n ≤ 0 → x = 0) := by
  unfold spec_l01Below.f
  by_cases h0 : n ≤ 0
  · rw [if_pos h0]
    exact ⟨0, i, h, rfl, c, by omega, by omega, fun _ => rfl⟩
  · rw [if_neg h0]
    by_cases h1 : n ≤ 256
    · rw [if_pos h1]
      obtain ⟨x, i1, g1, e1, c1, x0, x1⟩ := byte_ok c h
      rw [e1, Option.bind_some, if_neg (by omega)]
      refine ⟨_, i1, g1, rfl, c1, ?_, fun _ => ?_, fun e => absurd e h0⟩
      · exact Int.tmod_nonneg _ x0
      · exact Int.tmod_lt_of_pos _ (by omega)
    · rw [if_neg h1]
      obtain ⟨x, i1, g1, e1, c1, x0, x1⟩ := byte_ok c h
      obtain ⟨y, i2, g2, e2, c2, y0, y1⟩ := byte_ok c1 g1
      obtain ⟨z, i3, g3, e3, c3, z0, z1⟩ := byte_ok c2 g2
      obtain ⟨u, i4, g4, e4, c4, u0, u1⟩ := byte_ok c3 g3
      rw [e1, Option.bind_some, e2, Option.bind_some, e3, Option.bind_some, e4, Option.bind_some, if_neg (by omega)]
      rw [Math.wrap_in (n := x * 16777216) (by omega) (by omega), Math.wrap_in (n := y * 65536) (by omega) (by omega), Math.wrap_in (n := z * 256) (by omega) (by omega)]
      rw [Math.wrap_in (n := x * 16777216 + y * 65536) (by omega) (by omega)]
      rw [Math.wrap_in (n := x * 16777216 + y * 65536 + z * 256) (by omega) (by omega)]
      rw [Math.wrap_in (n := x * 16777216 + y * 65536 + z * 256 + u) (by omega) (by omega)]
      refine ⟨_, i4, g4, rfl, c4, ?_, fun _ => ?_, fun e => absurd e h0⟩
      · exact Int.tmod_nonneg _ (by omega)
      · exact Int.tmod_lt_of_pos _ (by omega)
theorem once_ok {l : List Int} {i : Int} (c : Cur l i) (h : Int) (n : Int) : ∃ b i' h', spec_l01Once.f l i h n = some (b, i', h') ∧ Cur l i' := by
  unfold spec_l01Once.f
  obtain ⟨x, i1, g1, e1, c1, _⟩ := below_ok c h n
  rw [e1, Option.bind_some]
  exact ⟨_, _, _, rfl, c1⟩
theorem pickInt_ok {l : List Int} {i : Int} (c : Cur l i) (h : Int) (xs : List Int) (hx : 0 < xs.length) : ∃ x i' h', spec_l01PickInt.f l i h xs = some (x, i', h') ∧ Cur l i' ∧ x ∈ xs := by
  unfold spec_l01PickInt.f
  obtain ⟨x, i1, g1, e1, c1, x0, x1, _⟩ := below_ok c h (xs.length : Int)
  have hlt := x1 (by omega)
  rw [e1, Option.bind_some, if_pos x0, if_pos hlt]
  refine ⟨_, _, _, rfl, c1, ?_⟩
  unfold rd
  rw [List.getD_eq_getElem?_getD, List.getElem?_eq_getElem (by omega)]
  exact List.getElem_mem _
theorem cur0 {l : List Int} (hl : l.length ≤ 2000000) : Cur l 0 := ⟨by omega, by omega, hl⟩
theorem half_ok {l : List Int} {i : Int} (c : Cur l i) (h : Int) : ∃ x i' h', spec_l04Half.f l i h = some (x, i', h') ∧ Cur l i' ∧ 0 ≤ x ∧ x ≤ 4294967295 := by
  unfold spec_l04Half.f
  obtain ⟨b, i1, g1, e1, c1, b0, b1, _⟩ := below_ok c h 12
  obtain ⟨x, i2, g2, e2, c2, hx⟩ := pickInt_ok c1 g1 [0, 1, 2, 3, 5, 7, 255, 4294967295, 2147483648, b] (by simp)
  rw [e1, Option.bind_some, e2, Option.bind_some]
  have hb := b1 (by omega)
  refine ⟨_, _, _, rfl, c2, ?_⟩
  simp only [List.mem_cons, List.not_mem_nil, or_false] at hx
  omega
theorem wide_ok {l : List Int} {i : Int} (c : Cur l i) (h : Int) : ∃ a b i' h', spec_l04Wide.f l i h = some (a, b, i', h') ∧ Cur l i' ∧ (0 ≤ a ∧ a ≤ 4294967295) ∧ (0 ≤ b ∧ b ≤ 4294967295) := by
  unfold spec_l04Wide.f
  obtain ⟨x, i1, g1, e1, c1, x0⟩ := half_ok c h
  obtain ⟨b, i2, g2, e2, c2⟩ := once_ok c1 g1 3
  rw [e1, Option.bind_some, e2, Option.bind_some]
  by_cases hb : b = true
  · obtain ⟨y, i3, g3, e3, c3, y0⟩ := half_ok c2 g2
    rw [if_pos hb, e3, Option.bind_some]
    exact ⟨_, _, _, _, rfl, c3, y0, x0⟩
  · rw [if_neg hb]
    exact ⟨_, _, _, _, rfl, c2, by omega, x0⟩
theorem call_l0 {l : List Int} (a b : Int) (d : Nat) : ∀ (j : Nat) (acc : List S45) (i h : Int), j + d = 3 → acc.length = j → Cur l i → (∀ x ∈ acc, (0 ≤ x.f0 ∧ x.f0 ≤ 4294967295) ∧ (0 ≤ x.f1 ∧ x.f1 ≤ 4294967295)) →
    ∃ p i' h', Ev (fun k => spec_l04Call.l0 k (j : Int) l i h a b acc) (a, b, p, i', h') ∧ Cur l i' ∧ p.length = 3 ∧ ∀ x ∈ p, (0 ≤ x.f0 ∧ x.f0 ≤ 4294967295) ∧ (0 ≤ x.f1 ∧ x.f1 ≤ 4294967295) := by
  induction d with
  | zero =>
    intro j acc i h hj ha c hall
    refine ⟨acc, i, h, Ev.step (f := fun _ => some (a, b, acc, i, h)) (fun k => ?_) (Math.Ev.const rfl), c, by omega, hall⟩
    show spec_l04Call.l0 (k + 1) (j : Int) l i h a b acc = _
    rw [spec_l04Call.l0, if_neg (by omega)]
  | succ d ih =>
    intro j acc i h hj ha c hall
    obtain ⟨x, y, i1, g1, e1, c1, x0, y0⟩ := wide_ok c h
    obtain ⟨p, i2, g2, q2, r⟩ := ih (j + 1) (acc ++ [⟨x, y⟩]) i1 g1 (by omega) (by rw [List.length_append, List.length_singleton]; omega) c1 (fun z hz => by
      rcases List.mem_append.1 hz with h | h
      · exact hall z h
      · rw [List.mem_singleton.1 h]
        exact ⟨x0, y0⟩)
    refine ⟨p, i2, g2, Ev.step (fun k => ?_) q2, r⟩
    show spec_l04Call.l0 (k + 1) (j : Int) l i h a b acc = _
    rw [spec_l04Call.l0, if_pos (by omega), e1, Option.bind_some, if_pos (show acc.length < 8796093022208 by omega), show wrap64 ((j : Int) + 1) = ((j + 1 : Nat) : Int) from by rw [Math.wrap_in (by omega) (by omega)]; omega]
def RightCall (a b : Int) (p : List S45) : Prop := (0 ≤ a ∧ a ≤ 4294967295) ∧ (0 ≤ b ∧ b ≤ 4294967295) ∧ p.length = 3 ∧ ∀ x ∈ p, (0 ≤ x.f0 ∧ x.f0 ≤ 4294967295) ∧ (0 ≤ x.f1 ∧ x.f1 ≤ 4294967295)
theorem call_cur {l : List Int} {i : Int} (c : Cur l i) (h : Int) : ∃ a b p i' h', Ev (fun k => spec_l04Call.f k l i h) (a, b, p, i', h') ∧ Cur l i' ∧ RightCall a b p := by
  obtain ⟨x, i1, g1, e1, c1, hx⟩ := pickInt_ok c h [62, 62, 62, 62, 3] (by simp)
  obtain ⟨y, i2, g2, e2, c2, hy⟩ := pickInt_ok c1 g1 [0, 1, 2, 3, 4, 6, 9, 11, 4294967295, 77] (by simp)
  obtain ⟨p, i3, g3, q3, c3, hp⟩ := call_l0 x y 3 0 [] i2 g2 rfl rfl c2 (fun x hx => by simp at hx)
  simp only [List.mem_cons, List.not_mem_nil, or_false] at hx hy
  refine ⟨x, y, p, i3, g3, Ev.congr (fun k => ?_) q3, c3, by omega, by omega, hp⟩
  show spec_l04Call.f k l i h = _
  unfold spec_l04Call.f
  rw [e1, Option.bind_some, e2, Option.bind_some]
  rfl
theorem drawCall_ev {l : List Int} (hl : l.length ≤ 2000000) : ∃ a b p, Ev (fun k => spec_DrawCall.f k l) (a, b, p) ∧ RightCall a b p := by
  obtain ⟨h, hnew⟩ := new_ev l hl
  obtain ⟨a, b, p, i1, g1, q1, c1, hp⟩ := call_cur (cur0 hl) h
  refine ⟨a, b, p, ?_, hp⟩
  refine Ev.congr (fun k => by unfold spec_DrawCall.f; rfl) ?_
  refine Ev.bind (f := fun k (bt338 : List Int × Int × Int) => ((spec_l04Call.f k bt338.1 bt338.2.1 bt338.2.2).bind fun bt342 => (some (bt342.1, bt342.2.1, bt342.2.2.1)))) hnew ?_
  exact Ev.bind (f := fun _ (bt342 : Int × Int × List S45 × Int × Int) => (some (bt342.1, bt342.2.1, bt342.2.2.1))) q1 (Math.Ev.const rfl)
theorem any_ok {l : List Int} {i : Int} (c : Cur l i) (h : Int) : ∃ a b p i' h', Ev (fun k => spec_l04Any.f k l i h) (a, b, p, i', h') ∧ Cur l i' ∧ p.length ≤ 3 := by
  obtain ⟨q, i1, g1, e1, c1, _⟩ := below_ok c h 10
  obtain ⟨a, b, p, i2, g2, hp, c2, _, _, h3, _⟩ := call_cur c1 g1
  have main : ∃ a' b' p' i' h', (if q = 0 then ((spec_l01PickInt.f l i2 g2 (([(-1), 4294967296] : List Int))).bind fun bt237 => (some (a, bt237.1, p, bt237.2.1, bt237.2.2))) else (if q = 1 then (if 1 ≤ (p.length : Int) then (some (a, b, (p.drop (1 : Int).toNat), i2, g2)) else (none)) else (if q = 2 then (if 1 < (p.length : Int) then (some (a, b, (p.set (1 : Int).toNat (⟨(-1), (rd_T45 p 1).f1⟩ : S45)), i2, g2)) else (none)) else (if q = 3 then (some (4294967296, b, p, i2, g2)) else (some (a, b, p, i2, g2)))))) = some (a', b', p', i', h') ∧ Cur l i' ∧ p'.length ≤ 3 := by
    by_cases q0 : q = 0
    · obtain ⟨x, i3, g3, e3, c3, _⟩ := pickInt_ok c2 g2 [(-1), 4294967296] (by decide)
      refine ⟨a, x, p, i3, g3, by rw [if_pos q0, e3, Option.bind_some], c3, by omega⟩
    · rw [if_neg q0]
      by_cases q1 : q = 1
      · exact ⟨_, _, _, _, _, by rw [if_pos q1, if_pos (by omega)], c2, by rw [List.length_drop]; omega⟩
      · rw [if_neg q1]
        by_cases q2 : q = 2
        · exact ⟨_, _, _, _, _, by rw [if_pos q2, if_pos (by omega)], c2, by rw [List.length_set]; omega⟩
        · rw [if_neg q2]
          by_cases q3 : q = 3
          · exact ⟨_, _, _, _, _, by rw [if_pos q3], c2, by omega⟩
          · exact ⟨_, _, _, _, _, by rw [if_neg q3], c2, by omega⟩
  obtain ⟨a', b', p', i', h', e, c', hp'⟩ := main
  refine ⟨a', b', p', i', h', ?_, c', hp'⟩
  refine Ev.congr (fun k => by unfold spec_l04Any.f; rw [e1, Option.bind_some]) ?_
  exact Ev.bind (f := fun _ (bt226 : Int × Int × List S45 × Int × Int) => (if q = 0 then ((spec_l01PickInt.f l bt226.2.2.2.1 bt226.2.2.2.2 (([(-1), 4294967296] : List Int))).bind fun bt237 => (some (bt226.1, bt237.1, bt226.2.2.1, bt237.2.1, bt237.2.2))) else (if q = 1 then (if 1 ≤ (bt226.2.2.1.length : Int) then (some (bt226.1, bt226.2.1, (bt226.2.2.1.drop (1 : Int).toNat), bt226.2.2.2.1, bt226.2.2.2.2)) else (none)) else (if q = 2 then (if 1 < (bt226.2.2.1.length : Int) then (some (bt226.1, bt226.2.1, (bt226.2.2.1.set (1 : Int).toNat (⟨(-1), (rd_T45 bt226.2.2.1 1).f1⟩ : S45)), bt226.2.2.2.1, bt226.2.2.2.2)) else (none)) else (if q = 3 then (some (4294967296, bt226.2.1, bt226.2.2.1, bt226.2.2.2.1, bt226.2.2.2.2)) else (some (bt226.1, bt226.2.1, bt226.2.2.1, bt226.2.2.2.1, bt226.2.2.2.2))))))) hp (Math.Ev.const e)
theorem place_ok {l : List Int} {i : Int} (c : Cur l i) (h : Int) : ∃ x i' h', spec_l01Place.f l i h 7 = some (x, i', h') ∧ Cur l i' ∧ -9223372036854775808 ≤ x ∧ x ≤ 9223372036854775807 := by
  unfold spec_l01Place.f
  obtain ⟨b, i1, g1, e1, c1⟩ := once_ok c h 15
  rw [e1, Option.bind_some]
  by_cases hb : b = true
  · obtain ⟨x, i2, g2, e2, c2, hx⟩ := pickInt_ok c1 g1 [(-1), 7, wrap64 (7 + 1), 9223372036854775807, (-9223372036854775808)] (by decide)
    rw [if_pos hb, e2, Option.bind_some]
    refine ⟨_, _, _, rfl, c2, ?_⟩
    rw [show wrap64 (7 + 1) = 8 from by rw [Math.wrap_in (by omega) (by omega)]; omega] at hx
    simp only [List.mem_cons, List.not_mem_nil, or_false] at hx
    omega
  · obtain ⟨x, i2, g2, e2, c2, x0, x1, _⟩ := below_ok c1 g1 7
    have hx1 := x1 (by omega)
    rw [if_neg hb, e2, Option.bind_some]
    exact ⟨_, _, _, rfl, c2, by omega, by omega⟩
theorem drawFieldAt_ev {l : List Int} (hl : l.length ≤ 2000000) : ∃ a b p x, Ev (fun k => spec_DrawFieldAt.f k l) (a, b, p, x) ∧ p.length ≤ 3 ∧ -9223372036854775808 ≤ x ∧ x ≤ 9223372036854775807 := by
  obtain ⟨h, hn⟩ := new_ev l hl
  obtain ⟨x, i1, g1, e1, c1, hx⟩ := place_ok (cur0 hl) h
  obtain ⟨a, b, p, i2, g2, hp, c2, h3⟩ := any_ok c1 g1
  refine ⟨a, b, p, x, Ev.congr (fun k => by unfold spec_DrawFieldAt.f; rfl) (Ev.bind (f := fun k (bt245 : List Int × Int × Int) => ((spec_l01Place.f bt245.1 bt245.2.1 bt245.2.2 7).bind fun bt249 => ((spec_l04Any.f k bt245.1 bt249.2.1 bt249.2.2).bind fun bt252 => (some (bt252.1, bt252.2.1, bt252.2.2.1, bt249.1))))) hn ?_), h3, hx⟩
  refine Ev.congr (fun k => ?_) (Ev.bind (f := fun _ (bt252 : Int × Int × List S45 × Int × Int) => (some (bt252.1, bt252.2.1, bt252.2.2.1, x))) hp (Math.Ev.const rfl))
  dsimp only
  rw [e1, Option.bind_some]
theorem drawCallOk_ev {l : List Int} (hl : l.length ≤ 2000000) : ∃ a b p, Ev (fun k => spec_DrawCallOk.f k l) (a, b, p) ∧ p.length ≤ 3 := by
  obtain ⟨h, hn⟩ := new_ev l hl
  obtain ⟨a, b, p, i2, g2, hp, c2, h3⟩ := any_ok (cur0 hl) h
  refine ⟨a, b, p, Ev.congr (fun k => by unfold spec_DrawCallOk.f; rfl) (Ev.bind (f := fun k (bt260 : List Int × Int × Int) => ((spec_l04Any.f k bt260.1 bt260.2.1 bt260.2.2).bind fun bt264 => (some (bt264.1, bt264.2.1, bt264.2.2.1)))) hn ?_), h3⟩
  exact Ev.bind (f := fun _ (bt264 : Int × Int × List S45 × Int × Int) => (some (bt264.1, bt264.2.1, bt264.2.2.1))) hp (Math.Ev.const rfl)
theorem drawHalfOk_ev {l : List Int} (hl : l.length ≤ 2000000) : ∃ x, Ev (fun k => spec_DrawHalfOk.f k l) x := by
  obtain ⟨h, hn⟩ := new_ev l hl
  obtain ⟨x, i1, g1, e1, c1, _⟩ := pickInt_ok (cur0 hl) h [0, 1, 4294967295, 4294967296, (-1)] (by decide)
  refine ⟨x, Ev.congr (fun k => by unfold spec_DrawHalfOk.f; rfl) (Ev.bind (f := fun k (bt271 : List Int × Int × Int) => ((spec_l01PickInt.f bt271.1 bt271.2.1 bt271.2.2 (([0, 1, 4294967295, 4294967296, (-1)] : List Int))).bind fun bt278 => (some bt278.1))) hn ⟨0, fun k _ => ?_⟩)⟩
  dsimp only
  rw [e1, Option.bind_some]
theorem wides_right {p : List S45} (h : ∀ x ∈ p, (0 ≤ x.f0 ∧ x.f0 ≤ 4294967295) ∧ (0 ≤ x.f1 ∧ x.f1 ≤ 4294967295)) : widesOk p = true := by
  induction p with
  | nil => rfl
  | cons x p ih =>
    have hx := h x List.mem_cons_self
    simp only [widesOk, wideOk]
    rw [decide_eq_true hx.1, decide_eq_true hx.2, ih (fun y hy => h y (List.mem_cons_of_mem _ hy))]
    rfl
theorem call_right {a b : Int} {p : List S45} (h : RightCall a b p) : callB a b p = true := by
  obtain ⟨h1, h2, h3, h4⟩ := h
  unfold callB
  rw [wides_right h4, decide_eq_true h1, decide_eq_true h2, h3]
  rfl
theorem all_fields (a b : Int) (p : List S45) (hp : p.length ≤ 2000000) : ∀ n : Nat, n ≤ 9 → ∃ K, ∀ k, K ≤ k → ∀ q : Nat, q < n → impl_FieldAt.f k a b p (q : Int) = some (fieldAt a b p (q : Int)) := by
  intro n
  induction n with
  | zero => intro _; exact ⟨0, fun k _ q hq => absurd hq (by omega)⟩
  | succ n ih =>
    intro hn
    obtain ⟨K, hK⟩ := ih (by omega)
    obtain ⟨K2, hK2⟩ := impl_FieldAt_ev a b p hp (n : Int) (by omega)
    refine ⟨K + K2, fun k hk q hq => ?_⟩
    by_cases c : q < n
    · exact hK k (by omega) q c
    · obtain rfl : q = n := by omega
      exact hK2 k (by omega)
theorem field_lo {a b : Int} {p : List S45} (h : callB a b p = true) (j : Nat) (hj : j < 3) : fieldAt a b p ((2 + 2 * j : Nat) : Int) = ((rd_T45 p (j : Int)).f1, true) := by
  unfold fieldAt
  rw [if_pos ⟨h, by omega⟩, if_neg (by omega), if_neg (by omega), if_pos (by rw [Int.tmod_eq_emod_of_nonneg (by omega)]; omega), show ((2 + 2 * j : Nat) : Int) / 2 - 1 = (j : Int) by omega]
theorem field_hi {a b : Int} {p : List S45} (h : callB a b p = true) (j : Nat) (hj : j < 3) : fieldAt a b p ((3 + 2 * j : Nat) : Int) = ((rd_T45 p (j : Int)).f0, true) := by
  unfold fieldAt
  rw [if_pos ⟨h, by omega⟩, if_neg (by omega), if_neg (by omega), if_neg (by rw [Int.tmod_eq_emod_of_nonneg (by omega)]; omega), show ((3 + 2 * j : Nat) : Int) / 2 - 1 = (j : Int) by omega]
def fin (k : Nat) (x0 : List Int) (x288000 x288001 : Int) (x288002 : List S45) : Option Bool := ((spec_DrawFieldAt.f k x0).bind fun bt299 => ((impl_FieldAt.f k bt299.1 bt299.2.1 bt299.2.2.1 bt299.2.2.2).bind fun bt306 => ((spec_FieldAt.f k bt299.1 bt299.2.1 bt299.2.2.1 bt299.2.2.2).bind fun bt308 => ((spec_DrawCallOk.f k x0).bind fun bt310 => ((spec_DrawHalfOk.f k x0).bind fun t316 => ((impl_FieldAt.f k x288000 x288001 x288002 8).bind fun bt317 => (if (bt306.2 == bt308.2) = true then (if bt306.1 = bt308.1 then ((impl_CallOk.f k bt310.1 bt310.2.1 bt310.2.2).bind fun t319 => ((spec_CallOk.f k bt310.1 bt310.2.1 bt310.2.2).bind fun t320 => (if (t319 == t320) = true then ((impl_HalfOk.f t316).bind fun t321 => ((spec_HalfOk.f t316).bind fun t322 => (if (t321 == t322) = true then (some (!bt317.2)) else (some false)))) else (some false)))) else (some false)) else (some false))))))))
theorem law_l0 {l : List Int} {a b : Int} {p : List S45} (h : callB a b p = true) (K : Nat) (hF : ∀ k, K ≤ k → ∀ q : Nat, q < 9 → impl_FieldAt.f k a b p (q : Int) = some (fieldAt a b p (q : Int))) : ∀ (m j : Nat), j + m = 3 → ∀ k, K ≤ k → laws_FnFields.l0 (m + 1 + k) l (j : Int) a b p = fin k l a b p := by
  have h3 := callB_len h
  intro m
  induction m with
  | zero =>
    intro j hj k hk
    rw [show 0 + 1 + k = k + 1 by omega, laws_FnFields.l0, if_neg (by omega)]
    rfl
  | succ m ih =>
    intro j hj k hk
    have e1 : wrap64 (2 + wrap64 (2 * (j : Int))) = ((2 + 2 * j : Nat) : Int) := by rw [Math.wrap_in (n := 2 * (j : Int)) (by omega) (by omega), Math.wrap_in (by omega) (by omega)]; omega
    have e2 : wrap64 (3 + wrap64 (2 * (j : Int))) = ((3 + 2 * j : Nat) : Int) := by rw [Math.wrap_in (n := 2 * (j : Int)) (by omega) (by omega), Math.wrap_in (by omega) (by omega)]; omega
    rw [show m + 1 + 1 + k = (m + 1 + k) + 1 by omega, laws_FnFields.l0, if_pos (by omega), e1, e2, hF _ (by omega) _ (by omega), Option.bind_some, hF _ (by omega) _ (by omega), Option.bind_some, field_lo h j (by omega), field_hi h j (by omega)]
    clear e1 e2
    rw [if_pos rfl, if_pos rfl, if_pos (by omega), if_pos (by omega), if_pos rfl, if_pos rfl, show wrap64 ((j : Int) + 1) = ((j + 1 : Nat) : Int) from by rw [Math.wrap_in (by omega) (by omega)]; omega]
    exact ih (j + 1) (by omega) k hk
theorem FnFields : laws_FnFields.Pure := by
  intro l _ _ _
  by_cases hb : (l.length : Int) > 1048576
  · refine ⟨0, ?_⟩
    unfold laws_FnFields.f laws_big.f
    rw [Option.bind_some, if_pos (decide_eq_true hb)]
  · have hl : l.length ≤ 2000000 := by omega
    obtain ⟨a, b, p, ⟨K1, hK1⟩, hr⟩ := drawCall_ev hl
    have hc := call_right hr
    have h3 := callB_len hc
    obtain ⟨K2, hK2⟩ := all_fields a b p (by omega) 9 (by omega)
    obtain ⟨K3, hK3⟩ := impl_CallOk_ev a b p (by omega)
    obtain ⟨ya, yb, yp, x, ⟨K4, hK4⟩, hy3, hx⟩ := drawFieldAt_ev hl
    obtain ⟨K5, hK5⟩ := impl_FieldAt_ev ya yb yp (by omega) x hx
    obtain ⟨K6, hK6⟩ := spec_FieldAt_ev ya yb yp (by omega) x hx
    obtain ⟨za, zb, zp, ⟨K7, hK7⟩, hz3⟩ := drawCallOk_ev hl
    obtain ⟨K8, hK8⟩ := impl_CallOk_ev za zb zp (by omega)
    obtain ⟨K9, hK9⟩ := spec_CallOk_ev za zb zp (by omega)
    obtain ⟨n, ⟨K10, hK10⟩⟩ := drawHalfOk_ev hl
    obtain ⟨k, hk⟩ : ∃ k, k = K1 + K2 + K3 + K4 + K5 + K6 + K7 + K8 + K9 + K10 := ⟨_, rfl⟩
    have hfin : fin k l a b p = some true := by
      have k2 := hK2 k (by omega) 8 (by omega)
      have k4 := hK4 k (by omega)
      have k5 := hK5 k (by omega)
      have k6 := hK6 k (by omega)
      have k7 := hK7 k (by omega)
      have k8 := hK8 k (by omega)
      have k9 := hK9 k (by omega)
      have k10 := hK10 k (by omega)
      dsimp only at k4 k5 k6 k7 k8 k9 k10
      have k2' : impl_FieldAt.f k a b p 8 = some (0, false) := by
        refine k2.trans ?_
        unfold fieldAt
        rw [if_neg (by omega)]
      unfold fin
      rw [k4, Option.bind_some]
      dsimp only
      rw [k5, Option.bind_some, k6, Option.bind_some, k7, Option.bind_some]
      dsimp only
      rw [k10, Option.bind_some, k2', Option.bind_some, if_pos (beq_self_eq_true _), if_pos rfl, k8, Option.bind_some, k9, Option.bind_some, if_pos (beq_self_eq_true _), impl_HalfOk_is, spec_HalfOk_is, Option.bind_some, Option.bind_some, if_pos (beq_self_eq_true _)]
      rfl
    refine ⟨(3 + 1 + k) + 1, ?_⟩
    have k1 : spec_DrawCall.f ((3 + 1 + k) + 1) l = some (a, b, p) := hK1 _ (by omega)
    have f0 : impl_FieldAt.f ((3 + 1 + k) + 1) a b p 0 = some (b, true) := by
      refine (hK2 _ (by omega) 0 (by omega)).trans ?_
      unfold fieldAt
      rw [if_pos ⟨hc, by omega⟩, if_pos (by omega)]
    have f1 : impl_FieldAt.f ((3 + 1 + k) + 1) a b p 1 = some (a, true) := by
      refine (hK2 _ (by omega) 1 (by omega)).trans ?_
      unfold fieldAt
      rw [if_pos ⟨hc, by omega⟩, if_neg (by omega), if_pos (by omega)]
    have f3 : impl_CallOk.f ((3 + 1 + k) + 1) a b p = some (callB a b p) := hK3 _ (by omega)
    unfold laws_FnFields.f
    rw [big_is, Option.bind_some, if_neg (by rw [decide_eq_false hb]; decide), k1, Option.bind_some]
    dsimp only
    rw [f0, Option.bind_some, f1, Option.bind_some]
    dsimp only
    rw [if_pos rfl, if_pos rfl, if_pos rfl, if_pos rfl, f3, Option.bind_some, hc, laws_FnFields.j0, if_neg (by decide)]
    exact (law_l0 (l := l) hc K2 hK2 3 0 (by omega) k (by omega)).trans hfin
end Go.Proofs.Ytppjbaogabicdaa.Pure
