/- Wide numbers are in one order, high halves first; what is masked has no bit that the mask has not; and at drawn places WideCmp, WideAnd and WideOk answer what the reference answers. -/
import Derived.Test.YtppjbaogabicdaaMyFnWide1
import Derived.Test.YtppjbaogabicdaaMyFnWide2
import Derived.Test.YtppjbaogabicdaaMyFnWide3
import Derived.Test.YtppjbaogabicdaaMath
namespace Go.Proofs.Ytppjbaogabicdaa.Pure
open Go.RowKit Go.Proofs.Ytppjbaogabicdaa.PFnWide Go.Proofs.YtppjbaogabicdaaW.PrintWords Go.Proofs.YtppjbaogabicdaaW.PrintLast Go.Proofs.YtppjbaogabicdaaW.PrintMore
set_option linter.unusedVariables false

theorem spec_l01In_is (a lo hi : Int) : spec_l01In.f a lo hi = some (decide (lo ≤ a ∧ a ≤ hi)) := by
  unfold spec_l01In.f
  by_cases h : a ≥ lo
  · rw [if_pos h]
    by_cases h2 : a ≤ hi
    · simp [h, h2]
    · simp [h2]
  · rw [if_neg h]
    have : ¬ lo ≤ a := h
    simp [this]
theorem impl_within_is (a lo hi : Int) : impl_within.f a lo hi = some (decide (lo ≤ a ∧ a ≤ hi)) := by
  unfold impl_within.f
  by_cases h : a ≥ lo
  · rw [if_pos h]
    by_cases h2 : a ≤ hi
    · simp [h, h2]
    · simp [h2]
  · rw [if_neg h]
    have : ¬ lo ≤ a := h
    simp [this]
theorem big_is (l : List Int) : laws_big.f l = some (decide ((l.length : Int) > 1048576)) := rfl
theorem new_l0 (l : List Int) (hl : l.length ≤ 2000000) (d : Nat) : ∀ (i : Nat) (x : Int), i + d = l.length → ∃ h, Ev (fun k => spec_l01New.l0 k l x (i : Int)) (l, 0, h) := by
  induction d with
  | zero =>
    intro i x hi
    refine ⟨x, Ev.step (f := fun _ => some (l, 0, x)) (fun k => ?_) (Math.Ev.const rfl)⟩
    show spec_l01New.l0 (k + 1) l x _ = _
    rw [spec_l01New.l0, if_neg (by omega)]
  | succ d ih =>
    intro i x hi
    by_cases c : (i : Int) < 4000
    · obtain ⟨h, hh⟩ := ih (i + 1) (Go.bits .and .i64 (wrap64 ((wrap64 ((wrap64 (x * 131)) + (wrap64 (rd l (i : Int))))) + 7)) 1073741823) (by omega)
      refine ⟨h, Ev.step (fun k => ?_) hh⟩
      show spec_l01New.l0 (k + 1) l x _ = _
      rw [spec_l01New.l0, if_pos (by omega), if_pos c, if_pos (by omega), show wrap64 ((i : Int) + 1) = ((i + 1 : Nat) : Int) from by rw [Math.wrap_in (by omega) (by omega)]; omega]
    · refine ⟨x, Ev.step (f := fun _ => some (l, 0, x)) (fun k => ?_) (Math.Ev.const rfl)⟩
      show spec_l01New.l0 (k + 1) l x _ = _
      rw [spec_l01New.l0, if_pos (by omega), if_neg c]
theorem new_ev (l : List Int) (hl : l.length ≤ 2000000) : ∃ h, Ev (fun k => spec_l01New.f k l) (l, 0, h) := new_l0 l hl l.length 0 _ (by omega)
def Cur (l : List Int) (i : Int) : Prop := 0 ≤ i ∧ i ≤ l.length ∧ l.length ≤ 2000000
theorem byte_ok {l : List Int} {i : Int} (c : Cur l i) (h : Int) : ∃ x i' h', spec_l01Byte.f l i h = some (x, i', h') ∧ Cur l i' ∧ 0 ≤ x ∧ x ≤ 255 := by
  unfold Cur at c
  unfold spec_l01Byte.f
  by_cases hlt : i < (l.length : Int)
  · rw [if_pos hlt, if_pos c.1]
    refine ⟨_, _, _, rfl, ?_, Math.and255 _⟩
    unfold Cur
    rw [Math.wrap_in (n := i + 1) (by omega) (by omega)]
    omega
  · rw [if_neg hlt]
    exact ⟨_, _, _, rfl, c, Math.and255 _⟩
theorem below_ok {l : List Int} {i : Int} (c : Cur l i) (h : Int) (n : Int) : ∃ x i' h', spec_l01Below.f l i h n = some (x, i', h') ∧ Cur l i' ∧ 0 ≤ x ∧ (0 < n → x < n) ∧ (n ≤ 0 → x = 0) := by
  unfold spec_l01Below.f
  by_cases h0 : n ≤ 0
  · rw [if_pos h0]
    exact ⟨0, i, h, rfl, c, by omega, by omega, fun _ => rfl⟩
  · rw [if_neg h0]
    by_cases h1 : n ≤ 256
    · rw [if_pos h1]
      obtain ⟨x, i1, g1, e1, c1, x0, x1⟩ := byte_ok c h
      rw [e1, Option.bind_some, if_neg (by omega)]
      refine ⟨_, i1, g1, rfl, c1, ?_, fun _ => ?_, fun e => absurd e h0⟩
      · exact Int.tmod_nonneg _ x0
      · exact Int.tmod_lt_of_pos _ (by omega)
    · rw [if_neg h1]
      obtain ⟨x, i1, g1, e1, c1, x0, x1⟩ := byte_ok c h
      obtain ⟨y, i2, g2, e2, c2, y0, y1⟩ := byte_ok c1 g1
      obtain ⟨z, i3, g3, e3, c3, z0, z1⟩ := byte_ok c2 g2
      obtain ⟨u, i4, g4, e4, c4, u0, u1⟩ := byte_ok c3 g3
      rw [e1, Option.bind_some, e2, Option.bind_some, e3, Option.bind_some, e4, Option.bind_some, if_neg (by omega)]
      rw [Math.wrap_in (n := x * 16777216) (by omega) (by omega), Math.wrap_in (n := y * 65536) (by omega) (by omega), Math.wrap_in (n := z * 256) (by omega) (by omega)]
      rw [Math.wrap_in (n := x * 16777216 + y * 65536) (by omega) (by omega)]
      rw [Math.wrap_in (n := x * 16777216 + y * 65536 + z * 256) (by omega) (by omega)]
      rw [Math.wrap_in (n := x * 16777216 + y * 65536 + z * 256 + u) (by omega) (by omega)]
      refine ⟨_, i4, g4, rfl, c4, ?_, fun _ => ?_, fun e => absurd e h0⟩
      · exact Int.tmod_nonneg _ (by omega)
      · exact Int.tmod_lt_of_pos _ (by omega)
theorem once_ok {l : List Int} {i : Int} (c : Cur l i) (h : Int) (n : Int) : ∃ b i' h', spec_l01Once.f l i h n = some (b, i', h') ∧ Cur l i' := by
  unfold spec_l01Once.f
  obtain ⟨x, i1, g1, e1, c1, _⟩ := below_ok c h n
  rw [e1, Option.bind_some]
  exact ⟨_, _, _, rfl, c1⟩
theorem pickInt_ok {l : List Int} {i : Int} (c : Cur l i) (h : Int) (xs : List Int) (hx : 0 < xs.length) : ∃ x i' h', spec_l01PickInt.f l i h xs = some (x, i', h') ∧ Cur l i' ∧ x ∈ xs := by
  unfold spec_l01PickInt.f
  obtain ⟨x, i1, g1, e1, c1, x0, x1, _⟩ := below_ok c h (xs.length : Int)
  have hlt := x1 (by omega)
  rw [e1, Option.bind_some, if_pos x0, if_pos hlt]
  refine ⟨_, _, _, rfl, c1, ?_⟩
  unfold rd
  rw [List.getD_eq_getElem?_getD, List.getElem?_eq_getElem (by omega)]
  exact List.getElem_mem _
theorem cur0 {l : List Int} (hl : l.length ≤ 2000000) : Cur l 0 := ⟨by omega, by omega, hl⟩
theorem half_ok {l : List Int} {i : Int} (c : Cur l i) (h : Int) : ∃ x i' h', spec_l04Half.f l i h = some (x, i', h') ∧ Cur l i' ∧ 0 ≤ x ∧ x ≤ 4294967295 := by
  unfold spec_l04Half.f
  obtain ⟨b, i1, g1, e1, c1, b0, b1, _⟩ := below_ok c h 12
  obtain ⟨x, i2, g2, e2, c2, hx⟩ := pickInt_ok c1 g1 [0, 1, 2, 3, 5, 7, 255, 4294967295, 2147483648, b] (by simp)
  rw [e1, Option.bind_some, e2, Option.bind_some]
  have hb := b1 (by omega)
  refine ⟨_, _, _, rfl, c2, ?_⟩
  simp only [List.mem_cons, List.not_mem_nil, or_false] at hx
  omega
theorem wide_ok {l : List Int} {i : Int} (c : Cur l i) (h : Int) : ∃ a b i' h', spec_l04Wide.f l i h = some (a, b, i', h') ∧ Cur l i' ∧ (0 ≤ a ∧ a ≤ 4294967295) ∧ (0 ≤ b ∧ b ≤ 4294967295) := by
  unfold spec_l04Wide.f
  obtain ⟨x, i1, g1, e1, c1, x0⟩ := half_ok c h
  obtain ⟨b, i2, g2, e2, c2⟩ := once_ok c1 g1 3
  rw [e1, Option.bind_some, e2, Option.bind_some]
  by_cases hb : b = true
  · obtain ⟨y, i3, g3, e3, c3, y0⟩ := half_ok c2 g2
    rw [if_pos hb, e3, Option.bind_some]
    exact ⟨_, _, _, _, rfl, c3, y0, x0⟩
  · rw [if_neg hb]
    exact ⟨_, _, _, _, rfl, c2, by omega, x0⟩
theorem call_l0 {l : List Int} (a b : Int) (d : Nat) : ∀ (j : Nat) (acc : List S45) (i h : Int), j + d = 3 → acc.length = j → Cur l i → (∀ x ∈ acc, (0 ≤ x.f0 ∧ x.f0 ≤ 4294967295) ∧ (0 ≤ x.f1 ∧ x.f1 ≤ 4294967295)) →
    ∃ p i' h', Ev (fun k => spec_l04Call.l0 k (j : Int) l i h a b acc) (a, b, p, i', h') ∧ Cur l i' ∧ p.length = 3 ∧ ∀ x ∈ p, (0 ≤ x.f0 ∧ x.f0 ≤ 4294967295) ∧ (0 ≤ x.f1 ∧ x.f1 ≤ 4294967295) := by
  induction d with
  | zero =>
    intro j acc i h hj ha c hall
    refine ⟨acc, i, h, Ev.step (f := fun _ => some (a, b, acc, i, h)) (fun k => ?_) (Math.Ev.const rfl), c, by omega, hall⟩
    show spec_l04Call.l0 (k + 1) (j : Int) l i h a b acc = _
    rw [spec_l04Call.l0, if_neg (by omega)]
  | succ d ih =>
    intro j acc i h hj ha c hall
    obtain ⟨x, y, i1, g1, e1, c1, x0, y0⟩ := wide_ok c h
    obtain ⟨p, i2, g2, q2, r⟩ := ih (j + 1) (acc ++ [⟨x, y⟩]) i1 g1 (by omega) (by rw [List.length_append, List.length_singleton]; omega) c1 (fun z hz => by
      rcases List.mem_append.1 hz with h | h
      · exact hall z h
      · rw [List.mem_singleton.1 h]
        exact ⟨x0, y0⟩)
    refine ⟨p, i2, g2, Ev.step (fun k => ?_) q2, r⟩
    show spec_l04Call.l0 (k + 1) (j : Int) l i h a b acc = _
    rw [spec_l04Call.l0, if_pos (by omega), e1, Option.bind_some, if_pos (show acc.length < 8796093022208 by omega), show wrap64 ((j : Int) + 1) = ((j + 1 : Nat) : Int) from by rw [Math.wrap_in (by omega) (by omega)]; omega]
def RightCall (a b : Int) (p : List S45) : Prop := (0 ≤ a ∧ a ≤ 4294967295) ∧ (0 ≤ b ∧ b ≤ 4294967295) ∧ p.length = 3 ∧ ∀ x ∈ p, (0 ≤ x.f0 ∧ x.f0 ≤ 4294967295) ∧ (0 ≤ x.f1 ∧ x.f1 ≤ 4294967295)
theorem call_cur {l : List Int} {i : Int} (c : Cur l i) (h : Int) : ∃ a b p i' h', Ev (fun k => spec_l04Call.f k l i h) (a, b, p, i', h') ∧ Cur l i' ∧ RightCall a b p := by
  obtain ⟨x, i1, g1, e1, c1, hx⟩ := pickInt_ok c h [62, 62, 62, 62, 3] (by simp)
  obtain ⟨y, i2, g2, e2, c2, hy⟩ := pickInt_ok c1 g1 [0, 1, 2, 3, 4, 6, 9, 11, 4294967295, 77] (by simp)
  obtain ⟨p, i3, g3, q3, c3, hp⟩ := call_l0 x y 3 0 [] i2 g2 rfl rfl c2 (fun x hx => by simp at hx)
  simp only [List.mem_cons, List.not_mem_nil, or_false] at hx hy
  refine ⟨x, y, p, i3, g3, Ev.congr (fun k => ?_) q3, c3, by omega, by omega, hp⟩
  show spec_l04Call.f k l i h = _
  unfold spec_l04Call.f
  rw [e1, Option.bind_some, e2, Option.bind_some]
  rfl
theorem drawCall_ev {l : List Int} (hl : l.length ≤ 2000000) : ∃ a b p, Ev (fun k => spec_DrawCall.f k l) (a, b, p) ∧ RightCall a b p := by
  obtain ⟨h, hnew⟩ := new_ev l hl
  obtain ⟨a, b, p, i1, g1, q1, c1, hp⟩ := call_cur (cur0 hl) h
  refine ⟨a, b, p, ?_, hp⟩
  refine Ev.congr (fun k => by unfold spec_DrawCall.f; rfl) ?_
  refine Ev.bind (f := fun k (bt338 : List Int × Int × Int) => ((spec_l04Call.f k bt338.1 bt338.2.1 bt338.2.2).bind fun bt342 => (some (bt342.1, bt342.2.1, bt342.2.2.1)))) hnew ?_
  exact Ev.bind (f := fun _ (bt342 : Int × Int × List S45 × Int × Int) => (some (bt342.1, bt342.2.1, bt342.2.2.1))) q1 (Math.Ev.const rfl)
theorem drawWideCmp_ev {l : List Int} (hl : l.length ≤ 2000000) : ∃ a b c d, Ev (fun k => spec_DrawWideCmp.f k l) (a, b, c, d) := by
  obtain ⟨h, hnew⟩ := new_ev l hl
  obtain ⟨x, y, i1, g1, e1, c1, _⟩ := wide_ok (cur0 hl) h
  obtain ⟨z, u, i2, g2, e2, c2, _⟩ := wide_ok c1 g1
  obtain ⟨q, i3, g3, e3, c3, _⟩ := below_ok c2 g2 8
  have hp : ∃ r : Int × Int × Int × Int, Ev (fun k => spec_l04Pair.f k l) r := by
    refine ⟨if q = 0 then ((-1), y, z, u) else (if q = 1 then (x, y, x, y) else (x, y, z, u)), ?_⟩
    refine Ev.congr (fun k => by unfold spec_l04Pair.f; rfl) ?_
    refine Ev.bind (f := fun _ (bt196 : List Int × Int × Int) => ((spec_l04Wide.f bt196.1 bt196.2.1 bt196.2.2).bind fun bt200 => ((spec_l04Wide.f bt196.1 bt200.2.2.1 bt200.2.2.2).bind fun bt205 => ((spec_l01Below.f bt196.1 bt205.2.2.1 bt205.2.2.2 8).bind fun bt210 => (if bt210.1 = 0 then (some ((-1), bt200.2.1, bt205.1, bt205.2.1)) else (if bt210.1 = 1 then (some (bt200.1, bt200.2.1, bt200.1, bt200.2.1)) else (some (bt200.1, bt200.2.1, bt205.1, bt205.2.1)))))))) hnew (Math.Ev.const ?_)
    simp only [e1, e2, e3, Option.bind_some]
    split
    · rfl
    · split <;> rfl
  obtain ⟨⟨a, b, c, d⟩, hr⟩ := hp
  exact ⟨a, b, c, d, Ev.congr (fun k => by unfold spec_DrawWideCmp.f; rfl) (Ev.bind (f := fun _ (bt215 : Int × Int × Int × Int) => (some (bt215.1, bt215.2.1, bt215.2.2.1, bt215.2.2.2))) hr (Math.Ev.const rfl))⟩
theorem spec_HalfOk_is (a : Int) : spec_HalfOk.f a = some (decide (0 ≤ a ∧ a ≤ 4294967295)) := by unfold spec_HalfOk.f; rw [spec_l01In_is]; rfl
theorem impl_HalfOk_is (a : Int) : impl_HalfOk.f a = some (decide (0 ≤ a ∧ a ≤ 4294967295)) := by unfold impl_HalfOk.f; rw [impl_within_is]; rfl
def wideOk (a b : Int) : Bool := decide (0 ≤ a ∧ a ≤ 4294967295) && decide (0 ≤ b ∧ b ≤ 4294967295)
theorem spec_WideOk_is (a b : Int) : spec_WideOk.f a b = some (wideOk a b) := by
  unfold spec_WideOk.f wideOk
  rw [spec_HalfOk_is, spec_HalfOk_is]
  by_cases h : 0 ≤ a ∧ a ≤ 4294967295 <;> simp [h]
theorem impl_WideOk_is (a b : Int) : impl_WideOk.f a b = some (wideOk a b) := by
  unfold impl_WideOk.f wideOk
  rw [impl_HalfOk_is, impl_HalfOk_is]
  by_cases h : 0 ≤ a ∧ a ≤ 4294967295 <;> simp [h]
def wand (a b c d : Int) : Int × Int := if wideOk a b = true ∧ wideOk c d = true then (Go.bits .and .i64 a c, Go.bits .and .i64 b d) else (0, 0)
theorem spec_WideAnd_is (a b c d : Int) : spec_WideAnd.f a b c d = some (wand a b c d) := by
  unfold spec_WideAnd.f wand
  rw [spec_WideOk_is, spec_WideOk_is]
  simp only [Option.bind_some]
  by_cases h : wideOk a b = true
  · by_cases h2 : wideOk c d = true
    · rw [if_pos h, if_pos h2, if_pos ⟨h, h2⟩]
    · rw [if_pos h, if_neg h2, if_neg (fun e => h2 e.2)]
  · rw [if_neg h, if_neg (fun e => h e.1)]
theorem impl_WideAnd_is (a b c d : Int) : impl_WideAnd.f a b c d = some (wand a b c d) := by
  unfold impl_WideAnd.f wand
  rw [impl_WideOk_is, impl_WideOk_is]
  simp only [Option.bind_some]
  by_cases h : wideOk a b = true
  · by_cases h2 : wideOk c d = true
    · rw [if_pos h, if_pos h2, if_pos ⟨h, h2⟩]
    · rw [if_pos h, if_neg h2, if_neg (fun e => h2 e.2)]
  · rw [if_neg h, if_neg (fun e => h e.1)]
def cmp (a b : Int) : Int := if a < b then -1 else if a > b then 1 else 0
theorem spec_l04Cmp_is (a b : Int) : spec_l04Cmp.f a b = some (cmp a b) := by
  unfold spec_l04Cmp.f cmp
  split
  · rfl
  · split <;> rfl
theorem impl_compare_is (a b : Int) : impl_compare.f a b = some (cmp a b) := by
  unfold impl_compare.f cmp
  split
  · rfl
  · split <;> rfl
def wcmp (a b c d : Int) : Int := if a = c then cmp b d else cmp a c
theorem spec_WideCmp_is (a b c d : Int) : spec_WideCmp.f a b c d = some (wcmp a b c d) := by
  unfold spec_WideCmp.f wcmp
  rw [spec_l04Cmp_is, spec_l04Cmp_is]
  simp only [Option.bind_some]
  by_cases h : a = c
  · have : cmp a c = 0 := by unfold cmp; rw [if_neg (by omega), if_neg (by omega)]
    rw [if_pos this, if_pos h]
  · have : ¬ cmp a c = 0 := by
      unfold cmp
      split
      · decide
      · rw [if_pos (by omega)]
        decide
    rw [if_neg this, if_neg h]
theorem impl_WideCmp_is (a b c d : Int) : impl_WideCmp.f a b c d = some (wcmp a b c d) := by
  unfold impl_WideCmp.f wcmp
  rw [impl_compare_is, impl_compare_is]
  simp only [Option.bind_some]
  split <;> rfl
theorem cmp_neg (a b : Int) : cmp a b = -cmp b a := by
  unfold cmp
  split <;> split <;> (try split) <;> omega
theorem cmp_vals (a b : Int) : cmp a b = -1 ∨ cmp a b = 0 ∨ cmp a b = 1 := by unfold cmp; split; (exact .inl rfl); split; (exact .inr (.inr rfl)); exact .inr (.inl rfl)
theorem cmp_lt (a b : Int) : cmp a b < 0 ↔ a < b := by unfold cmp; split; omega; split <;> omega
theorem cmp_zero (a b : Int) : cmp a b = 0 ↔ a = b := by unfold cmp; split; omega; split <;> omega
theorem wcmp_neg (a b c d : Int) : wcmp a b c d = -wcmp c d a b := by
  unfold wcmp
  by_cases h : a = c
  · rw [if_pos h, if_pos h.symm, cmp_neg]
  · rw [if_neg h, if_neg (fun e => h e.symm), cmp_neg]
theorem wcmp_vals (a b c d : Int) : wcmp a b c d = -1 ∨ wcmp a b c d = 0 ∨ wcmp a b c d = 1 := by unfold wcmp; split <;> exact cmp_vals _ _
theorem wcmp_lt (a b c d : Int) : wcmp a b c d < 0 ↔ (a < c ∨ (a = c ∧ b < d)) := by
  unfold wcmp
  by_cases h : a = c
  · rw [if_pos h, cmp_lt]
    omega
  · rw [if_neg h, cmp_lt]
    omega
theorem wcmp_zero (a b c d : Int) : wcmp a b c d = 0 ↔ (a = c ∧ b = d) := by
  unfold wcmp
  by_cases h : a = c
  · rw [if_pos h, cmp_zero]
    exact ⟨fun e => ⟨h, e⟩, fun e => e.2⟩
  · rw [if_neg h, cmp_zero]
    exact ⟨fun e => absurd e h, fun e => absurd e.1 h⟩
theorem and_half (a b : Int) (ha : 0 ≤ a ∧ a ≤ 4294967295) (hb : 0 ≤ b ∧ b ≤ 4294967295) : Go.bits .and .i64 a b = ((a.toNat &&& b.toNat : Nat) : Int) := by
  obtain ⟨x, rfl⟩ := Int.eq_ofNat_of_zero_le ha.1
  obtain ⟨y, rfl⟩ := Int.eq_ofNat_of_zero_le hb.1
  rw [Int.toNat_natCast, Int.toNat_natCast]
  exact (bits_nat .i64 62 (by decide) Math.wraps_i64 x y (by omega) (by omega)).1
theorem and_laws (a b : Int) (ha : 0 ≤ a ∧ a ≤ 4294967295) (hb : 0 ≤ b ∧ b ≤ 4294967295) :
    Go.bits .and .i64 a b = Go.bits .and .i64 b a ∧ (0 ≤ Go.bits .and .i64 a b ∧ Go.bits .and .i64 a b ≤ 4294967295) ∧ Go.bits .and .i64 a b ≤ a ∧ Go.bits .and .i64 (Go.bits .and .i64 a b) a = Go.bits .and .i64 a b := by
  have h1 := and_half a b ha hb
  have h2 := and_half b a hb ha
  have hle : a.toNat &&& b.toNat ≤ a.toNat := Nat.and_le_left
  have h3 : 0 ≤ Go.bits .and .i64 a b ∧ Go.bits .and .i64 a b ≤ 4294967295 := by rw [h1]; omega
  refine ⟨by rw [h1, h2, Nat.and_comm], h3, by rw [h1]; omega, ?_⟩
  rw [and_half _ a h3 ha, h1, Int.toNat_natCast, Nat.and_comm (a.toNat &&& b.toNat), ← Nat.and_assoc, Nat.and_self]
theorem wideOk_of {a b : Int} (ha : 0 ≤ a ∧ a ≤ 4294967295) (hb : 0 ≤ b ∧ b ≤ 4294967295) : wideOk a b = true := by unfold wideOk; rw [decide_eq_true ha, decide_eq_true hb]; rfl
theorem FnWide {A0 : Option Addr} {c0 : Nat} {l : List Int} {w : World} (hr0 : Kd.C (Kd.int .u8) w A0 l.length l) (hc0 : l.length ≤ c0) (hm0 : l.length ≤ maxLen) :
    Calls Try.prog 5 #[.slice A0 l.length c0] w fun e w' => e = .returned (.bool true) ∧ Below w.heap.size w w' := by
  by_cases hb : (l.length : Int) > 1048576
  · exact laws_FnWide.way0 0 _ _ l w hr0 hc0 (by rw [big_is, decide_eq_true hb])
  · have hbig : laws_big.f l = some false := by rw [big_is, decide_eq_false hb]
    have hl : l.length ≤ 2000000 := by omega
    obtain ⟨h, hnew⟩ := new_ev l hl
    obtain ⟨ar, nm, p, d1, hR⟩ := drawCall_ev hl
    obtain ⟨u1, u2, v1, v2, d2⟩ := drawWideCmp_ev hl
    obtain ⟨K1, d1⟩ := d1
    obtain ⟨K2, d2⟩ := d2
    obtain ⟨k, hk⟩ : ∃ k, k = max K1 K2 := ⟨_, rfl⟩
    have q1 := d1 k (by omega)
    have q2 := d2 k (by omega)
    simp only at q1 q2
    obtain ⟨_, _, hlen, hall⟩ := hR
    obtain ⟨a, b, c, hp⟩ : ∃ a b c, p = [a, b, c] := by
      match p, hlen with
      | [a, b, c], _ => exact ⟨a, b, c, rfl⟩
    have ha := hall a (by rw [hp]; simp)
    have hb' := hall b (by rw [hp]; simp)
    have hc' := hall c (by rw [hp]; simp)
    have r0 : rd_T45 p 0 = a := by rw [hp]; rfl
    have r1 : rd_T45 p 1 = b := by rw [hp]; rfl
    have r2 : rd_T45 p 2 = c := by rw [hp]; rfl
    have wa : wand a.f0 a.f1 b.f0 b.f1 = (Go.bits .and .i64 a.f0 b.f0, Go.bits .and .i64 a.f1 b.f1) := by unfold wand; rw [if_pos ⟨wideOk_of ha.1 ha.2, wideOk_of hb'.1 hb'.2⟩]
    have wb : wand b.f0 b.f1 a.f0 a.f1 = (Go.bits .and .i64 b.f0 a.f0, Go.bits .and .i64 b.f1 a.f1) := by unfold wand; rw [if_pos ⟨wideOk_of hb'.1 hb'.2, wideOk_of ha.1 ha.2⟩]
    obtain ⟨x1, x2, x3, x4⟩ := and_laws a.f0 b.f0 ha.1 hb'.1
    obtain ⟨y1, y2, y3, y4⟩ := and_laws a.f1 b.f1 ha.2 hb'.2
    have wm : wand (Go.bits .and .i64 a.f0 b.f0) (Go.bits .and .i64 a.f1 b.f1) a.f0 a.f1 = (Go.bits .and .i64 a.f0 b.f0, Go.bits .and .i64 a.f1 b.f1) := by unfold wand; rw [if_pos ⟨wideOk_of x2 y2, wideOk_of ha.1 ha.2⟩, x4, y4]
    have hneg : wcmp (rd_T45 p 0).f0 (rd_T45 p 0).f1 (rd_T45 p 1).f0 (rd_T45 p 1).f1 = wrap64 (-wcmp (rd_T45 p 1).f0 (rd_T45 p 1).f1 (rd_T45 p 0).f0 (rd_T45 p 0).f1) := by
      rw [Math.wrap_in (by have := wcmp_vals (rd_T45 p 1).f0 (rd_T45 p 1).f1 (rd_T45 p 0).f0 (rd_T45 p 0).f1; omega) (by have := wcmp_vals (rd_T45 p 1).f0 (rd_T45 p 1).f1 (rd_T45 p 0).f0 (rd_T45 p 0).f1; omega)]
      exact wcmp_neg _ _ _ _
    have heq : ((wcmp (rd_T45 p 0).f0 (rd_T45 p 0).f1 (rd_T45 p 1).f0 (rd_T45 p 1).f1 == 0) == (((rd_T45 p 0).f0) == ((rd_T45 p 1).f0) && (((rd_T45 p 0).f1) == ((rd_T45 p 1).f1)))) = true := by
      rw [beq_iff_eq, Bool.eq_iff_iff, beq_iff_eq, Bool.and_eq_true, beq_iff_eq, beq_iff_eq]
      exact wcmp_zero _ _ _ _
    have hsym : ((wand (rd_T45 p 0).f0 (rd_T45 p 0).f1 (rd_T45 p 1).f0 (rd_T45 p 1).f1).1 == (wand (rd_T45 p 1).f0 (rd_T45 p 1).f1 (rd_T45 p 0).f0 (rd_T45 p 0).f1).1 && ((wand (rd_T45 p 0).f0 (rd_T45 p 0).f1 (rd_T45 p 1).f0 (rd_T45 p 1).f1).2 == (wand (rd_T45 p 1).f0 (rd_T45 p 1).f1 (rd_T45 p 0).f0 (rd_T45 p 0).f1).2)) = true := by
      rw [r0, r1, wa, wb, x1, y1]
      simp
    have hmask : ((wand (wand (rd_T45 p 0).f0 (rd_T45 p 0).f1 (rd_T45 p 1).f0 (rd_T45 p 1).f1).1 (wand (rd_T45 p 0).f0 (rd_T45 p 0).f1 (rd_T45 p 1).f0 (rd_T45 p 1).f1).2 (rd_T45 p 0).f0 (rd_T45 p 0).f1).1 == (wand (rd_T45 p 0).f0 (rd_T45 p 0).f1 (rd_T45 p 1).f0 (rd_T45 p 1).f1).1 && ((wand (wand (rd_T45 p 0).f0 (rd_T45 p 0).f1 (rd_T45 p 1).f0 (rd_T45 p 1).f1).1 (wand (rd_T45 p 0).f0 (rd_T45 p 0).f1 (rd_T45 p 1).f0 (rd_T45 p 1).f1).2 (rd_T45 p 0).f0 (rd_T45 p 0).f1).2 == (wand (rd_T45 p 0).f0 (rd_T45 p 0).f1 (rd_T45 p 1).f0 (rd_T45 p 1).f1).2)) = true := by
      rw [r0, r1, wa]
      simp only
      rw [wm]
      simp
    have hle : wcmp (wand (rd_T45 p 0).f0 (rd_T45 p 0).f1 (rd_T45 p 1).f0 (rd_T45 p 1).f1).1 (wand (rd_T45 p 0).f0 (rd_T45 p 0).f1 (rd_T45 p 1).f0 (rd_T45 p 1).f1).2 (rd_T45 p 0).f0 (rd_T45 p 0).f1 ≤ 0 := by
      rw [r0, r1, wa]
      simp only
      generalize Go.bits .and .i64 a.f0 b.f0 = m0 at *
      generalize Go.bits .and .i64 a.f1 b.f1 = m1 at *
      by_cases hz : m0 = a.f0 ∧ m1 = a.f1
      · exact Int.le_of_eq ((wcmp_zero _ _ _ _).2 hz)
      · exact Int.le_of_lt ((wcmp_lt _ _ _ _).2 (by omega))
    have hok : impl_WideOk.f (rd_T45 p 0).f0 (rd_T45 p 0).f1 = some true := by rw [impl_WideOk_is, r0, wideOk_of ha.1 ha.2]
    by_cases g1 : wcmp (rd_T45 p 0).f0 (rd_T45 p 0).f1 (rd_T45 p 1).f0 (rd_T45 p 1).f1 ≥ 0
    · have := laws_FnWide.way1 k _ _ l w hr0 hc0 hbig q1 (by rw [hp]; simp) (by rw [hp]; simp) (by rw [hp]; simp) (impl_WideCmp_is _ _ _ _) (impl_WideAnd_is _ _ _ _) q2 (impl_WideCmp_is _ _ _ _) hneg heq g1 (impl_WideAnd_is _ _ _ _) hsym (impl_WideAnd_is _ _ _ _) hmask (impl_WideCmp_is _ _ _ _) hle (impl_WideCmp_is _ _ _ _) (spec_WideCmp_is _ _ _ _) rfl (impl_WideAnd_is _ _ _ _) (spec_WideAnd_is _ _ _ _) (by simp) hok (impl_WideOk_is _ _) (spec_WideOk_is _ _)
      rw [beq_self_eq_true] at this
      exact this
    · by_cases g2 : wcmp (rd_T45 p 1).f0 (rd_T45 p 1).f1 (rd_T45 p 2).f0 (rd_T45 p 2).f1 ≥ 0
      · have := laws_FnWide.way2 k _ _ l w hr0 hc0 hbig q1 (by rw [hp]; simp) (by rw [hp]; simp) (by rw [hp]; simp) (impl_WideCmp_is _ _ _ _) (impl_WideAnd_is _ _ _ _) q2 (impl_WideCmp_is _ _ _ _) hneg heq g1 (impl_WideCmp_is _ _ _ _) g2 (impl_WideAnd_is _ _ _ _) hsym (impl_WideAnd_is _ _ _ _) hmask (impl_WideCmp_is _ _ _ _) hle (impl_WideCmp_is _ _ _ _) (spec_WideCmp_is _ _ _ _) rfl (impl_WideAnd_is _ _ _ _) (spec_WideAnd_is _ _ _ _) (by simp) hok (impl_WideOk_is _ _) (spec_WideOk_is _ _)
        rw [beq_self_eq_true] at this
        exact this
      · have g3 : wcmp (rd_T45 p 0).f0 (rd_T45 p 0).f1 (rd_T45 p 2).f0 (rd_T45 p 2).f1 < 0 := by
          have h1 := (wcmp_lt _ _ _ _).1 (show wcmp (rd_T45 p 0).f0 (rd_T45 p 0).f1 (rd_T45 p 1).f0 (rd_T45 p 1).f1 < 0 by omega)
          have h2 := (wcmp_lt _ _ _ _).1 (show wcmp (rd_T45 p 1).f0 (rd_T45 p 1).f1 (rd_T45 p 2).f0 (rd_T45 p 2).f1 < 0 by omega)
          exact (wcmp_lt _ _ _ _).2 (by omega)
        have := laws_FnWide.way3 k _ _ l w hr0 hc0 hbig q1 (by rw [hp]; simp) (by rw [hp]; simp) (by rw [hp]; simp) (impl_WideCmp_is _ _ _ _) (impl_WideAnd_is _ _ _ _) q2 (impl_WideCmp_is _ _ _ _) hneg heq g1 (impl_WideCmp_is _ _ _ _) g2 (impl_WideCmp_is _ _ _ _) g3 (impl_WideAnd_is _ _ _ _) hsym (impl_WideAnd_is _ _ _ _) hmask (impl_WideCmp_is _ _ _ _) hle (impl_WideCmp_is _ _ _ _) (spec_WideCmp_is _ _ _ _) rfl (impl_WideAnd_is _ _ _ _) (spec_WideAnd_is _ _ _ _) (by simp) hok (impl_WideOk_is _ _) (spec_WideOk_is _ _)
        rw [beq_self_eq_true] at this
        exact this
end Go.Proofs.Ytppjbaogabicdaa.Pure
