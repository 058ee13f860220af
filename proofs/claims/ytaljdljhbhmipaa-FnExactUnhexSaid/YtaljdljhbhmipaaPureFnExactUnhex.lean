/- Unhex: the program's Unhex and the reference's tell the same bytes of a text of figures, or that it is none. -/
import Derived.Test.YtaljdljhbhmipaaOFnExactUnhexx1
import Derived.Test.YtaljdljhbhmipaaMath
namespace Go.Proofs.Ytaljdljhbhmipaa.Pure
open Go.RowKit Go.Proofs.Ytaljdljhbhmipaa.PFnExactUnhex Go.Proofs.YtaljdljhbhmipaaW.PrintWords Go.Proofs.YtaljdljhbhmipaaW.PrintLast Go.Proofs.YtaljdljhbhmipaaW.PrintMore
set_option linter.unusedVariables false

def figV (x : Nat) : Int := if 48 ≤ x ∧ x ≤ 57 then (x : Int) - 48 else if 97 ≤ x ∧ x ≤ 102 then (x : Int) - 87 else -1
def unL : List UInt8 → Option (List Int)
  | a :: b :: t => if figV a.toNat < 0 then none else if figV b.toNat < 0 then none else (unL t).map (fun l => (16 * figV a.toNat + figV b.toNat) :: l)
  | _ => some []
def unEnd (acc : List Int) : Option (List Int) → ByteArray × Bool
  | none => (⟨#[]⟩, false)
  | some l => (strOfNums (acc ++ l), true)
def unhexS (s : ByteArray) : ByteArray × Bool := if (s.size : Int) > 40000 then (⟨#[]⟩, false) else if (s.size : Int) % 2 ≠ 0 then (⟨#[]⟩, false) else unEnd [] (unL s.data.toList)
theorem wrap_one (i : Nat) (h : i < 4611686018427387904) : wrap64 ((i : Int) + 1) = ((i + 1 : Nat) : Int) := by
  rw [Math.wrap_in (by omega) (by omega)]
  omega
theorem wrap_two (i : Nat) (h : i < 4611686018427387904) : wrap64 ((i : Int) + 2) = ((i + 2 : Nat) : Int) := by
  rw [Math.wrap_in (by omega) (by omega)]
  omega
theorem figV_le (x : Nat) : figV x ≤ 15 := by unfold figV; split; omega; split <;> omega
theorem figV_ge (x : Nat) : -1 ≤ figV x := by unfold figV; split; omega; split <;> omega
theorem unL_cons (a b : UInt8) (t : List UInt8) : unL (a :: b :: t) = if figV a.toNat < 0 then none else if figV b.toNat < 0 then none else (unL t).map (fun l => (16 * figV a.toNat + figV b.toNat) :: l) := rfl
theorem unEnd_map (acc : List Int) (x : Int) (o : Option (List Int)) : unEnd acc (o.map fun l => x :: l) = unEnd (acc ++ [x]) o := by
  cases o with
  | none => rfl
  | some l => simp [unEnd]
theorem or_fig (a b : Int) (ha : 0 ≤ a) (ha2 : a ≤ 15) (hb : 0 ≤ b) (hb2 : b ≤ 15) : Go.bits .or .i64 (wrap64 (a * 16)) b % 256 = 16 * a + b := by
  obtain ⟨x, rfl⟩ := Int.eq_ofNat_of_zero_le ha
  obtain ⟨y, rfl⟩ := Int.eq_ofNat_of_zero_le hb
  rw [Math.wrap_in (by omega) (by omega), show (x : Int) * 16 = ((x * 16 : Nat) : Int) from by omega, Math.or_high (x * 16) y 4 (by omega) (by omega) (by omega) (by omega)]
  omega
theorem spec_l01Value_ev (x : Nat) (hx : x < 256) : Ev (fun k => spec_l01Value.f k (x : Int)) (figV x) := by
  have hj : ∀ b : Bool, (b = true → 48 ≤ x ∧ x ≤ 57) → (b = false → ¬ (48 ≤ x ∧ x ≤ 57)) → Ev (fun k => spec_l01Value.j0 k (x : Int) b) (figV x) := by
    intro b h1 h2
    refine Ev.step (f := fun _ => some (figV x)) (fun k => ?_) (Math.Ev.const rfl)
    show spec_l01Value.j0 (k + 1) _ _ = _
    rw [spec_l01Value.j0]
    cases b with
    | true =>
      have := h1 rfl
      rw [if_pos rfl, Math.wrap_in (n := (x : Int)) (by omega) (by omega), Math.wrap_in (by omega) (by omega)]
      unfold figV
      rw [if_pos this]
    | false =>
      have := h2 rfl
      rw [if_neg (by decide)]
      unfold figV
      rw [if_neg this]
      by_cases c : (x : Int) ≥ 97
      · rw [if_pos c]
        by_cases c2 : (x : Int) ≤ 102
        · rw [if_pos c2, Math.wrap_in (n := (x : Int)) (by omega) (by omega), Math.wrap_in (n := (x : Int) - 97) (by omega) (by omega), Math.wrap_in (by omega) (by omega), if_pos (by omega)]
          congr 1
          omega
        · rw [if_neg c2, if_neg (by omega)]
      · rw [if_neg c, if_neg (by omega)]
  unfold spec_l01Value.f
  by_cases c : (x : Int) ≥ 48
  · simp only [c, if_true]
    refine hj _ (fun h => ?_) (fun h => ?_)
    · have := of_decide_eq_true h
      omega
    · have := of_decide_eq_false h
      omega
  · simp only [c, if_false]
    exact hj false (fun h => by cases h) (fun _ => by omega)
theorem impl_figure_ev (x : Nat) (hx : x < 256) : Ev (fun k => impl_figure.f k (x : Int)) (figV x) := by
  have hj : ∀ b : Bool, (b = true → 48 ≤ x ∧ x ≤ 57) → (b = false → ¬ (48 ≤ x ∧ x ≤ 57)) → Ev (fun k => impl_figure.j0 k (x : Int) b) (figV x) := by
    intro b h1 h2
    refine Ev.step (f := fun _ => some (figV x)) (fun k => ?_) (Math.Ev.const rfl)
    show impl_figure.j0 (k + 1) _ _ = _
    rw [impl_figure.j0]
    cases b with
    | true =>
      have := h1 rfl
      rw [if_pos rfl]
      unfold figV
      rw [if_pos this]
      congr 1
      omega
    | false =>
      have := h2 rfl
      rw [if_neg (by decide)]
      unfold figV
      rw [if_neg this]
      by_cases c : (x : Int) ≥ 97
      · rw [if_pos c]
        by_cases c2 : (x : Int) ≤ 102
        · rw [if_pos c2, if_pos (by omega)]
          congr 1
          omega
        · rw [if_neg c2, if_neg (by omega)]
      · rw [if_neg c, if_neg (by omega)]
  unfold impl_figure.f
  by_cases c : (x : Int) ≥ 48
  · simp only [c, if_true]
    refine hj _ (fun h => ?_) (fun h => ?_)
    · have := of_decide_eq_true h
      omega
    · have := of_decide_eq_false h
      omega
  · simp only [c, if_false]
    exact hj false (fun h => by cases h) (fun _ => by omega)
theorem spec_Unhex_l0 (s : ByteArray) (hs : s.size ≤ 40000) (n : Nat) : ∀ (i : Nat) (acc : List Int), i + 2 * n = s.size → acc.length ≤ i →
    Ev (fun k => spec_Unhex.l0 k s acc (i : Int)) (unEnd acc (unL (s.data.toList.drop i))) := by
  induction n with
  | zero =>
    intro i acc hi ha
    rw [List.drop_of_length_le (by rw [Math.size_data]; omega)]
    refine Ev.step (f := fun _ => some (strOfNums acc, true)) (fun k => ?_) (Math.Ev.const (by simp [unL, unEnd]))
    show spec_Unhex.l0 (k + 1) s acc (i : Int) = _
    rw [spec_Unhex.l0, if_neg (by omega)]
  | succ n ih =>
    intro i acc hi ha
    have hl : i + 1 < s.data.toList.length := by rw [Math.size_data]; omega
    have hb0 := (s.data.toList[i]'(by omega)).toNat_lt
    have hb1 := (s.data.toList[i + 1]'hl).toNat_lt
    have hd : s.data.toList.drop i = s.data.toList[i]'(by omega) :: s.data.toList[i + 1]'hl :: s.data.toList.drop (i + 2) := by
      rw [Math.drop_at s i (by omega), Math.drop_at s (i + 1) (by omega)]
    have e1 : bt s (i : Int) = ((s.data.toList[i]'(by omega)).toNat : Int) := Math.bt_nat s i (by omega)
    have e2 : bt s ((i + 1 : Nat) : Int) = ((s.data.toList[i + 1]'hl).toNat : Int) := Math.bt_nat s (i + 1) (by omega)
    rw [hd, unL_cons]
    generalize (s.data.toList[i]'(by omega)).toNat = x at *
    generalize (s.data.toList[i + 1]'hl).toNat = y at *
    have c1 : ((0 : Int) ≤ ((i + 1 : Nat) : Int)) = True := eq_true (by omega)
    have c2 : (((i + 1 : Nat) : Int) < (s.size : Int)) = True := eq_true (by omega)
    have c3 : (acc.length < 140737488355328) = True := eq_true (by omega)
    have f1 := figV_le x
    have f2 := figV_ge x
    have f3 := figV_le y
    have f4 := figV_ge y
    refine Ev.step (f := fun k => (spec_l01Value.f k (x : Int)).bind fun t1 => (spec_l01Value.f k (y : Int)).bind fun t2 => if t1 < 0 then some ((⟨#[]⟩ : ByteArray), false) else if t2 < 0 then some ((⟨#[]⟩ : ByteArray), false) else spec_Unhex.l0 k s (acc ++ [(wrap64 ((wrap64 (16 * t1)) + t2)) % 256]) ((i + 2 : Nat) : Int)) (fun k => ?_) ?_
    · show spec_Unhex.l0 (k + 1) s acc (i : Int) = _
      rw [spec_Unhex.l0, if_pos (by omega), if_pos (by omega)]
      have hi2 : i < 4611686018427387904 := by omega
      simp only [wrap_one i hi2, wrap_two i hi2, c1, c2, c3, if_true, e1, e2]
    · refine Ev.bind (f := fun k t1 => (spec_l01Value.f k (y : Int)).bind fun t2 => if t1 < 0 then some ((⟨#[]⟩ : ByteArray), false) else if t2 < 0 then some ((⟨#[]⟩ : ByteArray), false) else spec_Unhex.l0 k s (acc ++ [(wrap64 ((wrap64 (16 * t1)) + t2)) % 256]) ((i + 2 : Nat) : Int)) (spec_l01Value_ev x hb0) ?_
      refine Ev.bind (f := fun k t2 => if figV x < 0 then some ((⟨#[]⟩ : ByteArray), false) else if t2 < 0 then some ((⟨#[]⟩ : ByteArray), false) else spec_Unhex.l0 k s (acc ++ [(wrap64 ((wrap64 (16 * (figV x))) + t2)) % 256]) ((i + 2 : Nat) : Int)) (spec_l01Value_ev y hb1) ?_
      by_cases g1 : figV x < 0
      · simp only [g1, if_true]
        exact Math.Ev.const rfl
      · by_cases g2 : figV y < 0
        · simp only [g1, g2, if_true, if_false]
          exact Math.Ev.const rfl
        · simp only [g1, g2, if_false]
          rw [unEnd_map, show (wrap64 ((wrap64 (16 * (figV x))) + (figV y))) % 256 = 16 * figV x + figV y from by rw [Math.wrap_in (n := 16 * figV x) (by omega) (by omega), Math.wrap_in (by omega) (by omega)]; omega]
          exact ih (i + 2) (acc ++ [16 * figV x + figV y]) (by omega) (by rw [List.length_append, List.length_singleton]; omega)
theorem spec_Unhex_ev (s : ByteArray) : Ev (fun k => spec_Unhex.f k s) (unhexS s) := by
  unfold unhexS spec_Unhex.f
  by_cases h : (s.size : Int) > 40000
  · simp only [h, if_true]
    refine Ev.step (f := fun _ => some ((⟨#[]⟩ : ByteArray), false)) (fun k => ?_) (Math.Ev.const rfl)
    show spec_Unhex.j0 (k + 1) _ _ = _
    rw [spec_Unhex.j0, if_pos rfl]
  · simp only [h, if_false]
    by_cases h2 : (s.size : Int) % 2 ≠ 0
    · rw [if_pos h2]
      refine Ev.step (f := fun _ => some ((⟨#[]⟩ : ByteArray), false)) (fun k => ?_) (Math.Ev.const rfl)
      show spec_Unhex.j0 (k + 1) _ _ = _
      rw [spec_Unhex.j0, if_pos (by simpa using h2)]
    · rw [if_neg h2]
      refine Ev.step (f := fun k => spec_Unhex.l0 k s [] 0) (fun k => ?_) ?_
      · show spec_Unhex.j0 (k + 1) _ _ = _
        rw [spec_Unhex.j0, if_neg (by simpa using h2)]
      · have := spec_Unhex_l0 s (by omega) (s.size / 2) 0 [] (by omega) (by simp)
        simpa using this
theorem impl_Unhex_l0 (s : ByteArray) (hs : s.size ≤ 40000) (n : Nat) : ∀ (i : Nat) (acc : List Int), i + 2 * n = s.size → acc.length ≤ i →
    Ev (fun k => impl_Unhex.l0 k s acc (i : Int)) (unEnd acc (unL (s.data.toList.drop i))) := by
  induction n with
  | zero =>
    intro i acc hi ha
    rw [List.drop_of_length_le (by rw [Math.size_data]; omega)]
    refine Ev.step (f := fun _ => some (strOfNums acc, true)) (fun k => ?_) (Math.Ev.const (by simp [unL, unEnd]))
    show impl_Unhex.l0 (k + 1) s acc (i : Int) = _
    rw [impl_Unhex.l0, if_neg (by omega)]
  | succ n ih =>
    intro i acc hi ha
    have hl : i + 1 < s.data.toList.length := by rw [Math.size_data]; omega
    have hb0 := (s.data.toList[i]'(by omega)).toNat_lt
    have hb1 := (s.data.toList[i + 1]'hl).toNat_lt
    have hd : s.data.toList.drop i = s.data.toList[i]'(by omega) :: s.data.toList[i + 1]'hl :: s.data.toList.drop (i + 2) := by
      rw [Math.drop_at s i (by omega), Math.drop_at s (i + 1) (by omega)]
    have e1 : bt s (i : Int) = ((s.data.toList[i]'(by omega)).toNat : Int) := Math.bt_nat s i (by omega)
    have e2 : bt s ((i + 1 : Nat) : Int) = ((s.data.toList[i + 1]'hl).toNat : Int) := Math.bt_nat s (i + 1) (by omega)
    rw [hd, unL_cons]
    generalize (s.data.toList[i]'(by omega)).toNat = x at *
    generalize (s.data.toList[i + 1]'hl).toNat = y at *
    have c1 : ((0 : Int) ≤ ((i + 1 : Nat) : Int)) = True := eq_true (by omega)
    have c2 : (((i + 1 : Nat) : Int) < (s.size : Int)) = True := eq_true (by omega)
    have c3 : (acc.length < 140737488355328) = True := eq_true (by omega)
    have f1 := figV_le x
    have f2 := figV_ge x
    have f3 := figV_le y
    have f4 := figV_ge y
    refine Ev.step (f := fun k => (impl_figure.f k (x : Int)).bind fun t1 => (impl_figure.f k (y : Int)).bind fun t2 => if t1 < 0 then some ((⟨#[]⟩ : ByteArray), false) else if t2 < 0 then some ((⟨#[]⟩ : ByteArray), false) else impl_Unhex.l0 k s (acc ++ [(Go.bits .or .i64 (wrap64 (t1 * 16)) t2) % 256]) ((i + 2 : Nat) : Int)) (fun k => ?_) ?_
    · show impl_Unhex.l0 (k + 1) s acc (i : Int) = _
      rw [impl_Unhex.l0, if_pos (by omega), if_pos (by omega)]
      have hi2 : i < 4611686018427387904 := by omega
      simp only [wrap_one i hi2, wrap_two i hi2, c1, c2, c3, if_true, e1, e2]
    · refine Ev.bind (f := fun k t1 => (impl_figure.f k (y : Int)).bind fun t2 => if t1 < 0 then some ((⟨#[]⟩ : ByteArray), false) else if t2 < 0 then some ((⟨#[]⟩ : ByteArray), false) else impl_Unhex.l0 k s (acc ++ [(Go.bits .or .i64 (wrap64 (t1 * 16)) t2) % 256]) ((i + 2 : Nat) : Int)) (impl_figure_ev x hb0) ?_
      refine Ev.bind (f := fun k t2 => if figV x < 0 then some ((⟨#[]⟩ : ByteArray), false) else if t2 < 0 then some ((⟨#[]⟩ : ByteArray), false) else impl_Unhex.l0 k s (acc ++ [(Go.bits .or .i64 (wrap64 ((figV x) * 16)) t2) % 256]) ((i + 2 : Nat) : Int)) (impl_figure_ev y hb1) ?_
      by_cases g1 : figV x < 0
      · simp only [g1, if_true]
        exact Math.Ev.const rfl
      · by_cases g2 : figV y < 0
        · simp only [g1, g2, if_true, if_false]
          exact Math.Ev.const rfl
        · simp only [g1, g2, if_false]
          rw [unEnd_map, show (Go.bits .or .i64 (wrap64 ((figV x) * 16)) (figV y)) % 256 = 16 * figV x + figV y from or_fig _ _ (by omega) (by omega) (by omega) (by omega)]
          exact ih (i + 2) (acc ++ [16 * figV x + figV y]) (by omega) (by rw [List.length_append, List.length_singleton]; omega)
theorem impl_Unhex_ev (s : ByteArray) (hs : s.size ≤ 140737488351232) : Ev (fun k => impl_Unhex.f k s) (unhexS s) := by
  unfold unhexS impl_Unhex.f
  have yes : Ev (fun k => impl_Unhex.j0 k s true) ((⟨#[]⟩ : ByteArray), false) := by
    refine Ev.step (f := fun _ => some ((⟨#[]⟩ : ByteArray), false)) (fun k => ?_) (Math.Ev.const rfl)
    show impl_Unhex.j0 (k + 1) _ _ = _
    rw [impl_Unhex.j0, if_pos rfl]
  by_cases h2 : (s.size : Int) % 2 = 0
  · simp only [h2, if_true]
    by_cases h : (s.size : Int) > 40000
    · simp only [h, decide_true, if_true]
      exact yes
    · simp only [h, decide_false, if_false, ne_eq, not_true_eq_false]
      refine Ev.step (f := fun k => impl_Unhex.l0 k s [] 0) (fun k => ?_) ?_
      · show impl_Unhex.j0 (k + 1) _ _ = _
        rw [impl_Unhex.j0, if_neg (by decide), Math.wrap_in (by omega) (by omega), if_pos (by omega), if_pos (by omega)]
      · have := impl_Unhex_l0 s (by omega) (s.size / 2) 0 [] (by omega) (by simp)
        simpa using this
  · simp only [h2, if_false, ne_eq, not_false_eq_true, if_true]
    have e : (if (s.size : Int) > 40000 then ((⟨#[]⟩ : ByteArray), false) else ((⟨#[]⟩ : ByteArray), false)) = ((⟨#[]⟩ : ByteArray), false) := by split <;> rfl
    rw [e]
    exact yes
theorem FnExactUnhex : laws_FnExactUnhex.Pure := by
  intro s hs
  show ∃ k, laws_FnExactUnhex.f k s = some true
  unfold laws_FnExactUnhex.f
  by_cases h : (s.size : Int) > 1048576
  · exact ⟨0, if_pos h⟩
  · have := Math.Ev.both (f := fun _ bt121 bt123 => (if bt123.1.toList = bt121.1.toList then (if (bt123.2 != bt121.2) = true then (some false) else (some true)) else (some false))) (r := true) (spec_Unhex_ev s) (impl_Unhex_ev s hs) (fun k => by simp)
    obtain ⟨k0, hk⟩ := this
    refine ⟨k0, ?_⟩
    rw [if_neg h]
    exact hk k0 (Nat.le_refl _)

end Go.Proofs.Ytaljdljhbhmipaa.Pure
