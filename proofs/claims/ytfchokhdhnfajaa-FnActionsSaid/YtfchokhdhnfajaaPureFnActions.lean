/- Of two drawn results the stricter one counts, whichever stands first, and of alike ones the first; ResultOf, ActionIn and ActionName answer what the reference answers at drawn places. -/
import Derived.Test.YtfchokhdhnfajaaMyFnActions
import Derived.Test.YtfchokhdhnfajaaMath
namespace Go.Proofs.Ytfchokhdhnfajaa.Pure
open Go.RowKit Go.Proofs.Ytfchokhdhnfajaa.PFnActions Go.Proofs.YtfchokhdhnfajaaW.PrintWords Go.Proofs.YtfchokhdhnfajaaW.PrintLast Go.Proofs.YtfchokhdhnfajaaW.PrintMore
set_option linter.unusedVariables false

theorem spec_l01In_is (a lo hi : Int) : spec_l01In.f a lo hi = some (decide (lo ≤ a ∧ a ≤ hi)) := by
  unfold spec_l01In.f
  by_cases h : a ≥ lo
  · rw [if_pos h]
    by_cases h2 : a ≤ hi
    · simp [h, h2]
    · simp [h2]
  · rw [if_neg h]
    have : ¬ lo ≤ a := h
    simp [this]
theorem impl_within_is (a lo hi : Int) : impl_within.f a lo hi = some (decide (lo ≤ a ∧ a ≤ hi)) := by
  unfold impl_within.f
  by_cases h : a ≥ lo
  · rw [if_pos h]
    by_cases h2 : a ≤ hi
    · simp [h, h2]
    · simp [h2]
  · rw [if_neg h]
    have : ¬ lo ≤ a := h
    simp [this]
theorem big_is (l : List Int) : laws_big.f l = some (decide ((l.length : Int) > 1048576)) := rfl
theorem new_l0 (l : List Int) (hl : l.length ≤ 2000000) (d : Nat) : ∀ (i : Nat) (x : Int), i + d = l.length → ∃ h, Ev (fun k => spec_l01New.l0 k l x (i : Int)) (l, 0, h) := by
  induction d with
  | zero =>
    intro i x hi
    refine ⟨x, Ev.step (f := fun _ => some (l, 0, x)) (fun k => ?_) (Math.Ev.const rfl)⟩
    show spec_l01New.l0 (k + 1) l x _ = _
    rw [spec_l01New.l0, if_neg (by omega)]
  | succ d ih =>
    intro i x hi
    by_cases c : (i : Int) < 4000
    · obtain ⟨h, hh⟩ := ih (i + 1) (Go.bits .and .i64 (wrap64 ((wrap64 ((wrap64 (x * 131)) + (wrap64 (rd l (i : Int))))) + 7)) 1073741823) (by omega)
      refine ⟨h, Ev.step (fun k => ?_) hh⟩
      show spec_l01New.l0 (k + 1) l x _ = _
      rw [spec_l01New.l0, if_pos (by omega), if_pos c, if_pos (by omega), show wrap64 ((i : Int) + 1) = ((i + 1 : Nat) : Int) from by rw [Math.wrap_in (by omega) (by omega)]; omega]
    · refine ⟨x, Ev.step (f := fun _ => some (l, 0, x)) (fun k => ?_) (Math.Ev.const rfl)⟩
      show spec_l01New.l0 (k + 1) l x _ = _
      rw [spec_l01New.l0, if_pos (by omega), if_neg c]
theorem new_ev (l : List Int) (hl : l.length ≤ 2000000) : ∃ h, Ev (fun k => spec_l01New.f k l) (l, 0, h) := new_l0 l hl l.length 0 _ (by omega)
def Cur (l : List Int) (i : Int) : Prop := 0 ≤ i ∧ i ≤ l.length ∧ l.length ≤ 2000000
theorem byte_ok {l : List Int} {i : Int} (c : Cur l i) (h : Int) : ∃ x i' h', spec_l01Byte.f l i h = some (x, i', h') ∧ Cur l i' ∧ 0 ≤ x ∧ x ≤ 255 := by
  unfold Cur at c
  unfold spec_l01Byte.f
  by_cases hlt : i < (l.length : Int)
  · rw [if_pos hlt, if_pos c.1]
    refine ⟨_, _, _, rfl, ?_, Math.and255 _⟩
    unfold Cur
    rw [Math.wrap_in (n := i + 1) (by omega) (by omega)]
    omega
  · rw [if_neg hlt]
    exact ⟨_, _, _, rfl, c, Math.and255 _⟩
theorem below_ok {l : List Int} {i : Int} (c : Cur l i) (h : Int) (n : Int) : ∃ x i' h', spec_l01Below.f l i h n = some (x, i', h') ∧ Cur l i' ∧ 0 ≤ x ∧ (0 < n → x < n) ∧ (n ≤ 0 → x = 0) := by
  unfold spec_l01Below.f
  by_cases h0 : n ≤ 0
  · rw [if_pos h0]
    exact ⟨0, i, h, rfl, c, by omega, by omega, fun _ => rfl⟩
  · rw [if_neg h0]
    by_cases h1 : n ≤ 256
    · rw [if_pos h1]
      obtain ⟨x, i1, g1, e1, c1, x0, x1⟩ := byte_ok c h
      rw [e1, Option.bind_some, if_neg (by omega)]
      refine ⟨_, i1, g1, rfl, c1, ?_, fun _ => ?_, fun e => absurd e h0⟩
      · exact Int.tmod_nonneg _ x0
      · exact Int.tmod_lt_of_pos _ (by omega)
    · rw [if_neg h1]
      obtain ⟨x, i1, g1, e1, c1, x0, x1⟩ := byte_ok c h
      obtain ⟨y, i2, g2, e2, c2, y0, y1⟩ := byte_ok c1 g1
      obtain ⟨z, i3, g3, e3, c3, z0, z1⟩ := byte_ok c2 g2
      obtain ⟨u, i4, g4, e4, c4, u0, u1⟩ := byte_ok c3 g3
      rw [e1, Option.bind_some, e2, Option.bind_some, e3, Option.bind_some, e4, Option.bind_some, if_neg (by omega)]
      rw [Math.wrap_in (n := x * 16777216) (by omega) (by omega), Math.wrap_in (n := y * 65536) (by omega) (by omega), Math.wrap_in (n := z * 256) (by omega) (by omega)]
      rw [Math.wrap_in (n := x * 16777216 + y * 65536) (by omega) (by omega)]
      rw [Math.wrap_in (n := x * 16777216 + y * 65536 + z * 256) (by omega) (by omega)]
      rw [Math.wrap_in (n := x * 16777216 + y * 65536 + z * 256 + u) (by omega) (by omega)]
      refine ⟨_, i4, g4, rfl, c4, ?_, fun _ => ?_, fun e => absurd e h0⟩
      · exact Int.tmod_nonneg _ (by omega)
      · exact Int.tmod_lt_of_pos _ (by omega)
theorem once_ok {l : List Int} {i : Int} (c : Cur l i) (h : Int) (n : Int) : ∃ b i' h', spec_l01Once.f l i h n = some (b, i', h') ∧ Cur l i' := by
  unfold spec_l01Once.f
  obtain ⟨x, i1, g1, e1, c1, _⟩ := below_ok c h n
  rw [e1, Option.bind_some]
  exact ⟨_, _, _, rfl, c1⟩
theorem pickInt_ok {l : List Int} {i : Int} (c : Cur l i) (h : Int) (xs : List Int) (hx : 0 < xs.length) : ∃ x i' h', spec_l01PickInt.f l i h xs = some (x, i', h') ∧ Cur l i' ∧ x ∈ xs := by
  unfold spec_l01PickInt.f
  obtain ⟨x, i1, g1, e1, c1, x0, x1, _⟩ := below_ok c h (xs.length : Int)
  have hlt := x1 (by omega)
  rw [e1, Option.bind_some, if_pos x0, if_pos hlt]
  refine ⟨_, _, _, rfl, c1, ?_⟩
  unfold rd
  rw [List.getD_eq_getElem?_getD, List.getElem?_eq_getElem (by omega)]
  exact List.getElem_mem _
theorem cur0 {l : List Int} (hl : l.length ≤ 2000000) : Cur l 0 := ⟨by omega, by omega, hl⟩
def actIn (a : Int) : Int := if 0 ≤ a ∧ a ≤ 393215 then a / 65536 else 0
theorem spec_ActionIn_is (a : Int) : spec_ActionIn.f a = some (actIn a) := by
  unfold spec_ActionIn.f actIn
  rw [spec_l01In_is, Option.bind_some]
  by_cases h : 0 ≤ a ∧ a ≤ 393215
  · rw [if_pos (decide_eq_true h), if_pos h, Int.tdiv_eq_ediv_of_nonneg h.1, Math.wrap_in (by omega) (by omega)]
  · rw [if_neg (by rw [decide_eq_false h]; decide), if_neg h]
theorem impl_ActionIn_is (a : Int) : impl_ActionIn.f a = some (actIn a) := by
  unfold impl_ActionIn.f actIn
  rw [impl_within_is, Option.bind_some]
  by_cases h : 0 ≤ a ∧ a ≤ 393215
  · rw [if_pos (decide_eq_true h), if_pos h, Int.tdiv_eq_ediv_of_nonneg h.1, Math.wrap_in (by omega) (by omega)]
  · rw [if_neg (by rw [decide_eq_false h]; decide), if_neg h]
def stricter (a b : Int) : Int := if actIn b < actIn a then b else a
theorem impl_Stricter_is (a b : Int) : impl_Stricter.f a b = some (stricter a b) := by
  unfold impl_Stricter.f stricter
  rw [impl_ActionIn_is, impl_ActionIn_is, Option.bind_some, Option.bind_some]
  split <;> rfl
def resultOf (a b : Int) : Int := if (0 ≤ a ∧ a ≤ 5) ∧ (0 ≤ b ∧ b ≤ 65535) then 65536 * a + b else 0
theorem spec_ResultOf_is (a b : Int) : spec_ResultOf.f a b = some (resultOf a b) := by
  unfold spec_ResultOf.f resultOf
  rw [spec_l01In_is, spec_l01In_is, Option.bind_some, Option.bind_some]
  by_cases h : 0 ≤ a ∧ a ≤ 5
  · rw [if_pos (decide_eq_true h)]
    by_cases h2 : 0 ≤ b ∧ b ≤ 65535
    · rw [if_pos (decide_eq_true h2), if_pos ⟨h, h2⟩, Math.wrap_in (n := 65536 * a) (by omega) (by omega), Math.wrap_in (by omega) (by omega)]
    · rw [if_neg (by rw [decide_eq_false h2]; decide), if_neg (fun e => h2 e.2)]
  · rw [if_neg (by rw [decide_eq_false h]; decide), if_neg (fun e => h e.1)]
theorem impl_ResultOf_is (a b : Int) : impl_ResultOf.f a b = some (resultOf a b) := by
  unfold impl_ResultOf.f resultOf
  rw [impl_within_is, impl_within_is, Option.bind_some, Option.bind_some]
  by_cases h : 0 ≤ a ∧ a ≤ 5
  · rw [if_pos (decide_eq_true h)]
    by_cases h2 : 0 ≤ b ∧ b ≤ 65535
    · rw [if_pos (decide_eq_true h2), if_pos ⟨h, h2⟩, Math.wrap_in (n := 65536 * a) (by omega) (by omega), Math.wrap_in (by omega) (by omega)]
    · rw [if_neg (by rw [decide_eq_false h2]; decide), if_neg (fun e => h2 e.2)]
  · rw [if_neg (by rw [decide_eq_false h]; decide), if_neg (fun e => h e.1)]
theorem name_both (a : Int) : ∃ s, spec_ActionName.f a = some s ∧ impl_ActionName.f a = some s := by
  have e : impl_ActionName.f a = spec_ActionName.f a := rfl
  rw [e]
  have s : ∃ r, spec_ActionName.f a = some r := by
    unfold spec_ActionName.f spec_l05Names.f
    rw [spec_l01In_is, Option.bind_some]
    by_cases h : 0 ≤ a ∧ a ≤ 5
    · rw [if_pos (decide_eq_true h), Option.bind_some, if_pos h.1, if_pos (by simp; omega)]
      exact ⟨_, rfl⟩
    · rw [if_neg (by rw [decide_eq_false h]; decide)]
      exact ⟨_, rfl⟩
  obtain ⟨r, hr⟩ := s
  exact ⟨r, hr, hr⟩
theorem FnActions {A0 : Option Addr} {c0 : Nat} {l : List Int} {w : World} (hr0 : Kd.C (Kd.int .u8) w A0 l.length l) (hc0 : l.length ≤ c0) (hm0 : l.length ≤ maxLen) :
    Calls Try.prog 14 #[.slice A0 l.length c0] w fun e w' => e = .returned (.bool true) ∧ Below w.heap.size w w' := by
  by_cases hb : (l.length : Int) > 1048576
  · exact laws_FnActions.way0 0 _ _ l w hr0 hc0 (by rw [big_is, decide_eq_true hb])
  · have hbig : laws_big.f l = some false := by rw [big_is, decide_eq_false hb]
    have hl : l.length ≤ 2000000 := by omega
    obtain ⟨h, hnew⟩ := new_ev l hl
    have d1 : ∃ ab : Int × Int, Ev (fun k => spec_DrawStricter.f k l) ab := by
      obtain ⟨x1, i1, g1, e1, c1, _⟩ := below_ok (cur0 hl) h 6
      obtain ⟨x2, i2, g2, e2, c2, _⟩ := below_ok c1 g1 5
      obtain ⟨x3, i3, g3, e3, c3, _⟩ := below_ok c2 g2 6
      obtain ⟨x4, i4, g4, e4, c4, _⟩ := below_ok c3 g3 5
      obtain ⟨b, i5, g5, e5, c5⟩ := once_ok c4 g4 8
      refine ⟨if b = true then (resultOf x1 x2, -1) else (resultOf x1 x2, resultOf x3 x4), ?_⟩
      refine Ev.congr (fun k => by unfold spec_DrawStricter.f; rfl) ?_
      refine Ev.bind (f := fun k (bt125 : List Int × Int × Int) => ((spec_l01Below.f bt125.1 bt125.2.1 bt125.2.2 6).bind fun bt129 => ((spec_l01Below.f bt125.1 bt129.2.1 bt129.2.2 5).bind fun bt132 => ((spec_ResultOf.f bt129.1 bt132.1).bind fun t135 => ((spec_l01Below.f bt125.1 bt132.2.1 bt132.2.2 6).bind fun bt136 => ((spec_l01Below.f bt125.1 bt136.2.1 bt136.2.2 5).bind fun bt139 => ((spec_ResultOf.f bt136.1 bt139.1).bind fun t142 => ((spec_l01Once.f bt125.1 bt139.2.1 bt139.2.2 8).bind fun bt143 => (if bt143.1 = true then (some (t135, (-1))) else (some (t135, t142))))))))))) hnew (Math.Ev.const ?_)
      simp only [e1, e2, e3, e4, e5, spec_ResultOf_is, Option.bind_some]
      split <;> rfl
    have d2 : ∃ ab : Int × Int, Ev (fun k => spec_DrawResultOf.f k l) ab := by
      obtain ⟨x1, i1, g1, e1, c1, _⟩ := below_ok (cur0 hl) h 8
      obtain ⟨x2, i2, g2, e2, c2, _⟩ := pickInt_ok c1 g1 [0, 1, 13, 65535, 65536, (-1)] (by decide)
      refine ⟨(wrap64 (x1 - 1), x2), ?_⟩
      refine Ev.congr (fun k => by unfold spec_DrawResultOf.f; rfl) ?_
      refine Ev.bind (f := fun k (bt153 : List Int × Int × Int) => ((spec_l01Below.f bt153.1 bt153.2.1 bt153.2.2 8).bind fun bt157 => ((spec_l01PickInt.f bt153.1 bt157.2.1 bt157.2.2 (([0, 1, 13, 65535, 65536, (-1)] : List Int))).bind fun bt163 => (some (wrap64 (bt157.1 - 1), bt163.1))))) hnew (Math.Ev.const ?_)
      simp only [e1, e2, Option.bind_some]
    have d3 : ∃ n : Int, Ev (fun k => spec_DrawActionIn.f k l) n := by
      obtain ⟨x2, i2, g2, e2, c2, _⟩ := pickInt_ok (cur0 hl) h [0, 65535, 65536, 327680, 393215, 393216, (-1), 262150] (by decide)
      refine ⟨x2, ?_⟩
      refine Ev.congr (fun k => by unfold spec_DrawActionIn.f; rfl) ?_
      refine Ev.bind (f := fun k (bt168 : List Int × Int × Int) => ((spec_l01PickInt.f bt168.1 bt168.2.1 bt168.2.2 (([0, 65535, 65536, 327680, 393215, 393216, (-1), 262150] : List Int))).bind fun bt175 => (some bt175.1))) hnew (Math.Ev.const ?_)
      simp only [e2, Option.bind_some]
    have d4 : ∃ n : Int, Ev (fun k => spec_DrawActionName.f k l) n := by
      obtain ⟨x1, i1, g1, e1, c1, _⟩ := below_ok (cur0 hl) h 8
      refine ⟨wrap64 (x1 - 1), ?_⟩
      refine Ev.congr (fun k => by unfold spec_DrawActionName.f; rfl) ?_
      refine Ev.bind (f := fun k (bt178 : List Int × Int × Int) => ((spec_l01Below.f bt178.1 bt178.2.1 bt178.2.2 8).bind fun bt182 => (some (wrap64 (bt182.1 - 1))))) hnew (Math.Ev.const ?_)
      simp only [e1, Option.bind_some]
    obtain ⟨⟨a, b⟩, d1⟩ := d1
    obtain ⟨⟨y, z⟩, d2⟩ := d2
    obtain ⟨n, d3⟩ := d3
    obtain ⟨m, d4⟩ := d4
    obtain ⟨nm, n1, n2⟩ := name_both m
    obtain ⟨K1, d1⟩ := d1
    obtain ⟨K2, d2⟩ := d2
    obtain ⟨K3, d3⟩ := d3
    obtain ⟨K4, d4⟩ := d4
    obtain ⟨k, hk⟩ : ∃ k, k = max (max K1 K2) (max K3 K4) := ⟨_, rfl⟩
    have q1 := d1 k (by omega)
    have q2 := d2 k (by omega)
    have q3 := d3 k (by omega)
    have q4 := d4 k (by omega)
    simp only at q1 q2 q3 q4
    have r4 : actIn (resultOf 4 77) = 4 := by decide
    have saa : stricter a a = a := by unfold stricter; split <;> rfl
    by_cases c : actIn b < actIn a
    · have s1 : stricter a b = b := by unfold stricter; rw [if_pos c]
      have s2 : stricter b a = b := by unfold stricter; rw [if_neg (by omega)]
      have hne : ¬ b = a := fun e => by rw [e] at c; omega
      have := laws_FnActions.way2 k _ _ l w hr0 hc0 hbig q1 (impl_Stricter_is a b) q2 (impl_ResultOf_is y z) q3 q4 (by rw [s1]; exact hne) s1 (impl_ActionIn_is _) (impl_ActionIn_is a) (by rw [s1]; omega) (impl_ActionIn_is b) (by rw [s1]; omega) (impl_Stricter_is b a) (impl_ActionIn_is _) (by rw [s1, s2]) (spec_ResultOf_is y z) rfl (impl_ActionIn_is n) (spec_ActionIn_is n) rfl n2 n1 rfl (impl_ResultOf_is 4 77) (impl_ActionIn_is _) r4 (impl_Stricter_is a a)
      rw [saa, beq_self_eq_true] at this
      exact this
    · have s1 : stricter a b = a := by unfold stricter; rw [if_neg c]
      have s2 : actIn (stricter b a) = actIn a := by
        unfold stricter
        split
        · rfl
        · omega
      have := laws_FnActions.way1 k _ _ l w hr0 hc0 hbig q1 (impl_Stricter_is a b) q2 (impl_ResultOf_is y z) q3 q4 s1 (impl_ActionIn_is _) (impl_ActionIn_is a) (by rw [s1]; omega) (impl_ActionIn_is b) (by rw [s1]; omega) (impl_Stricter_is b a) (impl_ActionIn_is _) (by rw [s1, s2]) (spec_ResultOf_is y z) rfl (impl_ActionIn_is n) (spec_ActionIn_is n) rfl n2 n1 rfl (impl_ResultOf_is 4 77) (impl_ActionIn_is _) r4 (impl_Stricter_is a a)
      rw [saa, beq_self_eq_true] at this
      exact this
end Go.Proofs.Ytfchokhdhnfajaa.Pure
