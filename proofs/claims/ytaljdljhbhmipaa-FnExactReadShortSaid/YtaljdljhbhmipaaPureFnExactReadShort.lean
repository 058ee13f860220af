/- For every text and every place the program's ReadShort answers what the reference's ReadShort answers. -/
import Derived.Test.YtaljdljhbhmipaaPFnExactReadShortx2
import Derived.Test.YtaljdljhbhmipaaMath
namespace Go.Proofs.Ytaljdljhbhmipaa.Pure
open Go.RowKit Go.Proofs.Ytaljdljhbhmipaa.PFnExactReadShort Go.Proofs.YtaljdljhbhmipaaW.PrintWords Go.Proofs.YtaljdljhbhmipaaW.PrintLast Go.Proofs.YtaljdljhbhmipaaW.PrintMore
set_option linter.unusedVariables false

theorem spec_l01In_is (a lo hi : Int) : spec_l01In.f a lo hi = some (decide (lo ≤ a ∧ a ≤ hi)) := by
  unfold spec_l01In.f
  by_cases h : a ≥ lo
  · rw [if_pos h]
    by_cases h2 : a ≤ hi
    · simp [h, h2]
    · simp [h2]
  · rw [if_neg h]
    have : ¬ lo ≤ a := h
    simp [this]
theorem impl_within_is (a lo hi : Int) : impl_within.f a lo hi = some (decide (lo ≤ a ∧ a ≤ hi)) := by
  unfold impl_within.f
  by_cases h : a ≥ lo
  · rw [if_pos h]
    by_cases h2 : a ≤ hi
    · simp [h, h2]
    · simp [h2]
  · rw [if_neg h]
    have : ¬ lo ≤ a := h
    simp [this]
theorem spec_l01Var_l0 (n : Nat) : ∀ (acc : List Int), n < 4294967296 → acc.length + n < 140737488355328 →
    Ev (fun k => spec_l01Var.l0 k (n : Int) acc) (strOfNums (acc ++ Math.varI n)) := by
  induction n using Nat.strongRecOn with
  | ind n ih =>
    intro acc hn ha
    by_cases h : n > 127
    · refine Ev.step (f := fun k => spec_l01Var.l0 k ((n / 128 : Nat) : Int) (acc ++ [((n % 128 + 128 : Nat) : Int)])) (fun k => ?_) ?_
      · show spec_l01Var.l0 (k + 1) (n : Int) acc = _
        rw [spec_l01Var.l0, if_pos (by omega), if_pos (by omega)]
        rw [Int.tdiv_eq_ediv_of_nonneg (by omega), Int.tmod_eq_emod_of_nonneg (by omega)]
        rw [Math.wrap_in (n := (n : Int) / 128) (by omega) (by omega), Math.wrap_in (n := (n : Int) % 128 + 128) (by omega) (by omega)]
        rw [show ((n : Int) % 128 + 128) % 256 = ((n % 128 + 128 : Nat) : Int) from by omega]
        rfl
      · have := ih (n / 128) (by omega) (acc ++ [((n % 128 + 128 : Nat) : Int)]) (by omega) (by rw [List.length_append, List.length_singleton]; omega)
        rw [Math.varI_big h]
        rw [List.append_assoc] at this
        exact this
    · refine Ev.step (f := fun _ => some (strOfNums (acc ++ Math.varI n))) (fun k => ?_) (Math.Ev.const rfl)
      show spec_l01Var.l0 (k + 1) (n : Int) acc = _
      rw [spec_l01Var.l0, if_neg (by omega), if_pos (by omega), Math.varI_small h]
      rw [show (n : Int) % 256 = (n : Int) from by omega]
theorem spec_l01Var_ev (n : Nat) (hn : n < 4294967296) : Ev (fun k => spec_l01Var.f k (n : Int)) (Math.varS n) := by
  have := spec_l01Var_l0 n [] hn (by simp only [List.length_nil]; omega)
  rw [List.nil_append] at this
  exact this
def varOk (a : Int) : ByteArray × Bool := if 0 ≤ a ∧ a ≤ 1000000000 then (Math.varS a.toNat, true) else (⟨#[]⟩, false)
theorem impl_VarText_l0 (n : Nat) : ∀ (acc : List Int), n < 4294967296 → acc.length + n < 140737488355328 →
    Ev (fun k => impl_VarText.l0 k (n : Int) acc) (strOfNums (acc ++ Math.varI n), true) := by
  induction n using Nat.strongRecOn with
  | ind n ih =>
    intro acc hn ha
    by_cases h : n > 127
    · refine Ev.step (f := fun k => impl_VarText.l0 k ((n / 128 : Nat) : Int) (acc ++ [((n % 128 + 128 : Nat) : Int)])) (fun k => ?_) ?_
      · show impl_VarText.l0 (k + 1) (n : Int) acc = _
        rw [impl_VarText.l0, if_pos (by omega), if_pos (by omega), Math.or128 n]
        rfl
      · have := ih (n / 128) (by omega) (acc ++ [((n % 128 + 128 : Nat) : Int)]) (by omega) (by rw [List.length_append, List.length_singleton]; omega)
        rw [Math.varI_big h]
        rw [List.append_assoc] at this
        exact this
    · refine Ev.step (f := fun _ => some (strOfNums (acc ++ Math.varI n), true)) (fun k => ?_) (Math.Ev.const rfl)
      show impl_VarText.l0 (k + 1) (n : Int) acc = _
      rw [impl_VarText.l0, if_neg (by omega), if_pos (by omega), Math.varI_small h]
      rw [show (n : Int) % 256 = (n : Int) from by omega]
theorem impl_VarText_ev (a : Int) : Ev (fun k => impl_VarText.f k a) (varOk a) := by
  refine Ev.congr (f := fun k => (if decide (0 ≤ a ∧ a ≤ 1000000000) = true then (impl_VarText.l0 k a (([] : List Int))) else (some ((⟨#[]⟩ : ByteArray), false)))) (fun k => ?_) ?_
  · show impl_VarText.f k a = _
    unfold impl_VarText.f
    rw [impl_within_is]
    rfl
  · unfold varOk
    by_cases h : 0 ≤ a ∧ a ≤ 1000000000
    · simp only [h, and_self, decide_true, if_true]
      obtain ⟨n, rfl⟩ := Int.eq_ofNat_of_zero_le h.1
      have := impl_VarText_l0 n [] (by omega) (by simp only [List.length_nil]; omega)
      rw [List.nil_append] at this
      exact this
    · rw [if_neg h]
      simp only [h, decide_false]
      exact Math.Ev.const rfl
set_option maxHeartbeats 2000000 in
theorem spec_ReadVar_l0 (s : ByteArray) (hs : s.size ≤ 140737488351232) (p : Nat) (hp : p ≤ s.size) (d : Nat) : ∀ (i n : Nat), i + d = 5 → n < 2 ^ (7 * i) →
    Ev (fun k => spec_ReadVar.l0 k s (p : Int) (n : Int) ((2 ^ (7 * i) : Nat) : Int) ((p + i : Nat) : Int)) (Math.readV s p d i n) := by
  induction d with
  | zero =>
    intro i n hi hn
    refine Ev.step (f := fun k => spec_ReadVar.j1 k s (p : Int) (n : Int) ((2 ^ (7 * i) : Nat) : Int) ((p + i : Nat) : Int) false) (fun k => ?_) ?_
    · show spec_ReadVar.l0 (k + 1) s _ _ _ _ = _
      rw [spec_ReadVar.l0]
      have : decide (((p + i : Nat) : Int) < wrap64 ((p : Int) + 5)) = false := decide_eq_false (by rw [Math.wrap_in (by omega) (by omega)]; omega)
      rw [this]
      split <;> rfl
    · refine Ev.step (f := fun _ => some (0, 0, false)) (fun k => ?_) (Math.Ev.const rfl)
      show spec_ReadVar.j1 (k + 1) s _ _ _ _ _ = _
      rw [spec_ReadVar.j1, if_neg (by decide)]
  | succ d ih =>
    intro i n hi hn
    by_cases hlt : p + i < s.size
    · have hb := bt_range s ((p + i : Nat) : Int)
      have hq := Math.seven_le (i := i) (by omega)
      have hq0 := Nat.two_pow_pos (7 * i)
      have hih := ih (i + 1) (n + (bt s ((p + i : Nat) : Int)).toNat % 128 * 2 ^ (7 * i)) (by omega)
      have hs7 := Math.seven_succ i
      have hm1 : (bt s ((p + i : Nat) : Int)).toNat % 128 * 2 ^ (7 * i) ≤ 127 * 2 ^ (7 * i) := Nat.mul_le_mul_right _ (by omega)
      simp only [Math.readV]
      rw [if_pos hlt]
      generalize hbt : bt s ((p + i : Nat) : Int) = b at *
      obtain ⟨c, rfl⟩ := Int.eq_ofNat_of_zero_le hb.1
      rw [Int.toNat_natCast] at *
      rw [hs7] at hih
      generalize hqq : 2 ^ (7 * i) = q at *
      have e1 : PLift (wrap64 (Int.tmod (wrap64 (c : Int)) 128 * (q : Int)) = ((c % 128 * q : Nat) : Int)) := ⟨by
        rw [Math.wrap_in (n := (c : Int)) (by omega) (by omega), Int.tmod_eq_emod_of_nonneg (by omega)]
        have : (c : Int) % 128 * (q : Int) = ((c % 128 * q : Nat) : Int) := by simp
        rw [this]
        exact Math.wrap_in (by omega) (by omega)⟩
      generalize hmm : c % 128 * q = m at *
      clear hmm hqq
      have e2 : PLift (wrap64 ((n : Int) + (m : Int)) = ((n + m : Nat) : Int)) := ⟨by rw [Math.wrap_in (by omega) (by omega)]; omega⟩
      have e3 : PLift (wrap64 (((p + i : Nat) : Int) + 1) = ((p + i + 1 : Nat) : Int)) := ⟨by rw [Math.wrap_in (by omega) (by omega)]; omega⟩
      refine Ev.step (f := fun k => spec_ReadVar.j1 k s (p : Int) (n : Int) (q : Int) ((p + i : Nat) : Int) true) (fun k => ?_) ?_
      · show spec_ReadVar.l0 (k + 1) s _ _ _ _ = _
        rw [spec_ReadVar.l0, if_pos (by omega)]
        have : decide (((p + i : Nat) : Int) < wrap64 ((p : Int) + 5)) = true := decide_eq_true (by rw [Math.wrap_in (by omega) (by omega)]; omega)
        rw [this]
      · by_cases hc : c < 128
        · rw [if_pos hc]
          by_cases hn9 : n + m ≤ 1000000000
          · refine Ev.step (f := fun k => (spec_l01Var.f k ((n + m : Nat) : Int)).bind fun t111 => (if t111.toList = (s.extract p (p + i + 1)).toList then (some (((n + m : Nat) : Int), ((p + i + 1 : Nat) : Int), true)) else (some (0, 0, false)))) (fun k => ?_) ?_
            · show spec_ReadVar.j1 (k + 1) s _ _ _ _ _ = _
              rw [spec_ReadVar.j1, if_pos rfl, if_pos (by omega), if_pos (by omega), hbt, if_pos (by omega), e1.down, e2.down, if_neg (by omega), e3.down]
              simp only [if_pos (show (0 : Int) ≤ (p : Int) from by omega), if_pos (show (p : Int) ≤ ((p + i + 1 : Nat) : Int) from by omega), if_pos (show ((p + i + 1 : Nat) : Int) ≤ (s.size : Int) from by omega), Int.toNat_natCast]
            · refine Ev.bind (f := fun _ t111 => (if t111.toList = (s.extract p (p + i + 1)).toList then (some (((n + m : Nat) : Int), ((p + i + 1 : Nat) : Int), true)) else (some (0, 0, false)))) (spec_l01Var_ev (n + m) (by omega)) (Math.Ev.const ?_)
              by_cases hx : Math.varS (n + m) = s.extract p (p + i + 1)
              · rw [if_pos (Math.str_eq.2 hx), if_pos ⟨hn9, hx⟩]
              · rw [if_neg (fun h => hx (Math.str_eq.1 h)), if_neg (fun h => hx h.2)]
          · refine Ev.step (f := fun _ => some (0, 0, false)) (fun k => ?_) (Math.Ev.const ?_)
            · show spec_ReadVar.j1 (k + 1) s _ _ _ _ _ = _
              rw [spec_ReadVar.j1, if_pos rfl, if_pos (by omega), if_pos (by omega), hbt, if_pos (by omega), e1.down, e2.down, if_pos (by omega)]
            · rw [if_neg (fun h => hn9 h.1)]
        · rw [if_neg hc]
          refine Ev.step (f := fun k => spec_ReadVar.l0 k s (p : Int) ((n + m : Nat) : Int) ((q * 128 : Nat) : Int) ((p + (i + 1) : Nat) : Int)) (fun k => ?_) (hih (by omega))
          show spec_ReadVar.j1 (k + 1) s _ _ _ _ _ = _
          rw [spec_ReadVar.j1, if_pos rfl, if_pos (by omega), if_pos (by omega), hbt, if_neg (by omega), e1.down, e2.down, e3.down]
          rw [Math.wrap_in (n := (q : Int) * 128) (by omega) (by omega), show (q : Int) * 128 = ((q * 128 : Nat) : Int) from by omega, show p + i + 1 = p + (i + 1) from by omega]
    · have e : Math.readV s p (d + 1) i n = (0, 0, false) := by simp only [Math.readV]; rw [if_neg hlt]
      rw [e]
      refine Ev.step (f := fun k => spec_ReadVar.j1 k s (p : Int) (n : Int) ((2 ^ (7 * i) : Nat) : Int) ((p + i : Nat) : Int) false) (fun k => ?_) ?_
      · show spec_ReadVar.l0 (k + 1) s _ _ _ _ = _
        rw [spec_ReadVar.l0, if_neg (by omega)]
      · refine Ev.step (f := fun _ => some (0, 0, false)) (fun k => ?_) (Math.Ev.const rfl)
        show spec_ReadVar.j1 (k + 1) s _ _ _ _ _ = _
        rw [spec_ReadVar.j1, if_neg (by decide)]
theorem spec_ReadVar_ev (s : ByteArray) (hs : s.size ≤ 140737488351232) (a : Int) : Ev (fun k => spec_ReadVar.f k s a) (Math.readVar s a) := by
  refine Ev.congr (f := fun k => (if decide (0 ≤ a ∧ a ≤ (s.size : Int)) = true then (spec_ReadVar.l0 k s a 0 1 a) else (some (0, 0, false)))) (fun k => ?_) ?_
  · show spec_ReadVar.f k s a = _
    unfold spec_ReadVar.f
    rw [spec_l01In_is]
    rfl
  · unfold Math.readVar
    by_cases h : 0 ≤ a ∧ a ≤ (s.size : Int)
    · simp only [h, and_self, decide_true, if_true]
      obtain ⟨p, rfl⟩ := Int.eq_ofNat_of_zero_le h.1
      exact spec_ReadVar_l0 s hs p (by omega) 5 0 0 rfl (by decide)
    · rw [if_neg h]
      simp only [h, decide_false]
      exact Math.Ev.const rfl
set_option maxHeartbeats 2000000 in
theorem impl_ReadVar_l0 (s : ByteArray) (hs : s.size ≤ 140737488351232) (p : Nat) (hp : p ≤ s.size) (d : Nat) : ∀ (i n : Nat), i + d = 5 → n < 2 ^ (7 * i) →
    Ev (fun k => impl_ReadVar.l0 k s (p : Int) (n : Int) (i : Int)) (Math.readV s p d i n) := by
  induction d with
  | zero =>
    intro i n hi hn
    refine Ev.step (f := fun k => impl_ReadVar.j1 k s (p : Int) (n : Int) (i : Int) false) (fun k => ?_) ?_
    · show impl_ReadVar.l0 (k + 1) s _ _ _ = _
      rw [impl_ReadVar.l0, if_neg (by omega)]
    · refine Ev.step (f := fun _ => some (0, 0, false)) (fun k => ?_) (Math.Ev.const rfl)
      show impl_ReadVar.j1 (k + 1) s _ _ _ _ = _
      rw [impl_ReadVar.j1, if_neg (by decide)]
  | succ d ih =>
    intro i n hi hn
    have e4 : PLift (wrap64 ((p : Int) + (i : Int)) = ((p + i : Nat) : Int)) := ⟨by rw [Math.wrap_in (by omega) (by omega)]; omega⟩
    refine Ev.step (f := fun k => impl_ReadVar.j1 k s (p : Int) (n : Int) (i : Int) (decide (p + i < s.size))) (fun k => ?_) ?_
    · show impl_ReadVar.l0 (k + 1) s _ _ _ = _
      rw [impl_ReadVar.l0, if_pos (by omega), e4.down]
      congr 1
      exact decide_eq_decide.2 (by omega)
    by_cases hlt : p + i < s.size
    · rw [decide_eq_true hlt]
      have hb := bt_range s ((p + i : Nat) : Int)
      have hq := Math.seven_le (i := i) (by omega)
      have hq0 := Nat.two_pow_pos (7 * i)
      have hih := ih (i + 1) (n + (bt s ((p + i : Nat) : Int)).toNat % 128 * 2 ^ (7 * i)) (by omega)
      have hs7 := Math.seven_succ i
      have hm1 : (bt s ((p + i : Nat) : Int)).toNat % 128 * 2 ^ (7 * i) ≤ 127 * 2 ^ (7 * i) := Nat.mul_le_mul_right _ (by omega)
      simp only [Math.readV]
      rw [if_pos hlt]
      generalize hbt : bt s ((p + i : Nat) : Int) = b at *
      obtain ⟨c, rfl⟩ := Int.eq_ofNat_of_zero_le hb.1
      rw [Int.toNat_natCast] at *
      have e7 : PLift (wrap64 (7 * (i : Int)) = ((7 * i : Nat) : Int)) := ⟨by rw [Math.wrap_in (by omega) (by omega)]; omega⟩
      have e1 : PLift (shl .i64 (wrap64 (Go.bits .and .u8 (c : Int) 127)) ((7 * i : Nat) : Int) = ((c % 128 * 2 ^ (7 * i) : Nat) : Int)) := ⟨by
        rw [Math.u8_and127 _ (by omega) (by omega), Math.wrap_in (by omega) (by omega)]
        exact Math.shl_is (c % 128) (7 * i) (by omega) (by omega)⟩
      have e2 : PLift (Go.bits .or .i64 (n : Int) ((c % 128 * 2 ^ (7 * i) : Nat) : Int) = ((n + c % 128 * 2 ^ (7 * i) : Nat) : Int)) := ⟨Math.or_join n (c % 128) (7 * i) hn (by omega) (by omega)⟩
      rw [hs7] at hih
      generalize hqq : 2 ^ (7 * i) = q at *
      generalize hmm : c % 128 * q = m at *
      clear hmm hqq
      have e3 : PLift (wrap64 (((p + i : Nat) : Int) + 1) = ((p + i + 1 : Nat) : Int)) := ⟨by rw [Math.wrap_in (by omega) (by omega)]; omega⟩
      have e5 : PLift (wrap64 ((i : Int) + 1) = ((i + 1 : Nat) : Int)) := ⟨by rw [Math.wrap_in (by omega) (by omega)]; omega⟩
      by_cases hc : c < 128
      · rw [if_pos hc]
        refine Ev.step (f := fun k => (impl_VarText.f k ((n + m : Nat) : Int)).bind fun bt123 => (if bt123.2 = true then (if bt123.1.toList = (s.extract p (p + i + 1)).toList then (some (((n + m : Nat) : Int), ((p + i + 1 : Nat) : Int), true)) else (some (0, 0, false))) else (some (0, 0, false)))) (fun k => ?_) ?_
        · show impl_ReadVar.j1 (k + 1) s _ _ _ _ = _
          rw [impl_ReadVar.j1, if_pos rfl, e4.down, if_pos (by omega), if_pos (by omega), e7.down, if_pos (by omega), hbt, if_neg (by omega), e1.down, e2.down, e3.down]
          simp only [if_pos (show (0 : Int) ≤ (p : Int) from by omega), if_pos (show (p : Int) ≤ ((p + i + 1 : Nat) : Int) from by omega), if_pos (show ((p + i + 1 : Nat) : Int) ≤ (s.size : Int) from by omega), Int.toNat_natCast]
        · refine Ev.bind (f := fun _ (bt123 : ByteArray × Bool) => (if bt123.2 = true then (if bt123.1.toList = (s.extract p (p + i + 1)).toList then (some (((n + m : Nat) : Int), ((p + i + 1 : Nat) : Int), true)) else (some (0, 0, false))) else (some (0, 0, false)))) (impl_VarText_ev ((n + m : Nat) : Int)) (Math.Ev.const ?_)
          unfold varOk
          by_cases hn9 : n + m ≤ 1000000000
          · rw [if_pos (show (0 : Int) ≤ ((n + m : Nat) : Int) ∧ ((n + m : Nat) : Int) ≤ 1000000000 from by omega), Int.toNat_natCast]
            simp only [if_true]
            by_cases hx : Math.varS (n + m) = s.extract p (p + i + 1)
            · rw [if_pos (Math.str_eq.2 hx), if_pos ⟨hn9, hx⟩]
            · rw [if_neg (fun h => hx (Math.str_eq.1 h)), if_neg (fun h => hx h.2)]
          · rw [if_neg (show ¬ ((0 : Int) ≤ ((n + m : Nat) : Int) ∧ ((n + m : Nat) : Int) ≤ 1000000000) from by omega)]
            rw [if_neg (by decide), if_neg (fun h => hn9 h.1)]
      · rw [if_neg hc]
        refine Ev.step (f := fun k => impl_ReadVar.l0 k s (p : Int) ((n + m : Nat) : Int) ((i + 1 : Nat) : Int)) (fun k => ?_) (hih (by omega))
        show impl_ReadVar.j1 (k + 1) s _ _ _ _ = _
        rw [impl_ReadVar.j1, if_pos rfl, e4.down, if_pos (by omega), if_pos (by omega), e7.down, if_pos (by omega), hbt, if_pos (by omega), e1.down, e2.down, e5.down]
    · rw [decide_eq_false hlt]
      have e : Math.readV s p (d + 1) i n = (0, 0, false) := by simp only [Math.readV]; rw [if_neg hlt]
      rw [e]
      refine Ev.step (f := fun _ => some (0, 0, false)) (fun k => ?_) (Math.Ev.const rfl)
      show impl_ReadVar.j1 (k + 1) s _ _ _ _ = _
      rw [impl_ReadVar.j1, if_neg (by decide)]
theorem impl_ReadVar_ev (s : ByteArray) (hs : s.size ≤ 140737488351232) (a : Int) : Ev (fun k => impl_ReadVar.f k s a) (Math.readVar s a) := by
  refine Ev.congr (f := fun k => (if decide (0 ≤ a ∧ a ≤ (s.size : Int)) = true then (impl_ReadVar.l0 k s a 0 0) else (some (0, 0, false)))) (fun k => ?_) ?_
  · show impl_ReadVar.f k s a = _
    unfold impl_ReadVar.f
    rw [impl_within_is]
    rfl
  · unfold Math.readVar
    by_cases h : 0 ≤ a ∧ a ≤ (s.size : Int)
    · simp only [h, and_self, decide_true, if_true]
      obtain ⟨p, rfl⟩ := Int.eq_ofNat_of_zero_le h.1
      exact impl_ReadVar_l0 s hs p (by omega) 5 0 0 rfl (by decide)
    · rw [if_neg h]
      simp only [h, decide_false]
      exact Math.Ev.const rfl
theorem spec_ReadShort_ev (s : ByteArray) (hs : s.size ≤ 140737488351232) (a : Int) : Ev (fun k => spec_ReadShort.f k s a) (Math.readShort s a) := by
  refine Ev.congr (fun k => by unfold spec_ReadShort.f; rfl) ?_
  refine Ev.bind (f := fun _ (bt112 : Int × Int × Bool) => (if bt112.2.2 = true then (if bt112.1 > 20000 then (some ((⟨#[]⟩ : ByteArray), 0, false)) else (if bt112.1 > (wrap64 ((s.size : Int) - bt112.2.1)) then (some ((⟨#[]⟩ : ByteArray), 0, false)) else (if 0 ≤ bt112.2.1 then (if bt112.2.1 ≤ (wrap64 (bt112.2.1 + bt112.1)) then (if (wrap64 (bt112.2.1 + bt112.1)) ≤ (s.size : Int) then (some (s.extract (bt112.2.1 : Int).toNat ((wrap64 (bt112.2.1 + bt112.1)) : Int).toNat, wrap64 (bt112.2.1 + bt112.1), true)) else (none)) else (none)) else (none)))) else (some ((⟨#[]⟩ : ByteArray), 0, false)))) (spec_ReadVar_ev s hs a) (Math.Ev.const ?_)
  unfold Math.readShort
  obtain ⟨h1, h2, h3, h4⟩ := Math.readVar_bounds s a
  generalize Math.readVar s a = r at *
  by_cases c : r.2.2 = true
  · rw [if_pos c, if_pos c]
    by_cases c2 : r.1 > 20000
    · rw [if_pos c2, if_pos c2]
    · rw [if_neg c2, if_neg c2]
      rw [Math.wrap_in (n := (s.size : Int) - r.2.1) (by omega) (by omega)]
      by_cases c3 : r.1 > (s.size : Int) - r.2.1
      · rw [if_pos c3, if_pos c3]
      · rw [if_neg c3, if_neg c3, if_pos h3, Math.wrap_in (n := r.2.1 + r.1) (by omega) (by omega), if_pos (by omega), if_pos (by omega)]
  · rw [if_neg c, if_neg c]
theorem impl_ReadShort_ev (s : ByteArray) (hs : s.size ≤ 140737488351232) (a : Int) : Ev (fun k => impl_ReadShort.f k s a) (Math.readShort s a) := by
  refine Ev.congr (fun k => by unfold impl_ReadShort.f; rfl) ?_
  refine Ev.bind (f := fun _ (bt112 : Int × Int × Bool) => (if bt112.2.2 = true then (if bt112.1 > 20000 then (some ((⟨#[]⟩ : ByteArray), 0, false)) else (if bt112.1 > (wrap64 ((s.size : Int) - bt112.2.1)) then (some ((⟨#[]⟩ : ByteArray), 0, false)) else (if 0 ≤ bt112.2.1 then (if bt112.2.1 ≤ (wrap64 (bt112.2.1 + bt112.1)) then (if (wrap64 (bt112.2.1 + bt112.1)) ≤ (s.size : Int) then (some (s.extract (bt112.2.1 : Int).toNat ((wrap64 (bt112.2.1 + bt112.1)) : Int).toNat, wrap64 (bt112.2.1 + bt112.1), true)) else (none)) else (none)) else (none)))) else (some ((⟨#[]⟩ : ByteArray), 0, false)))) (impl_ReadVar_ev s hs a) (Math.Ev.const ?_)
  unfold Math.readShort
  obtain ⟨h1, h2, h3, h4⟩ := Math.readVar_bounds s a
  generalize Math.readVar s a = r at *
  by_cases c : r.2.2 = true
  · rw [if_pos c, if_pos c]
    by_cases c2 : r.1 > 20000
    · rw [if_pos c2, if_pos c2]
    · rw [if_neg c2, if_neg c2]
      rw [Math.wrap_in (n := (s.size : Int) - r.2.1) (by omega) (by omega)]
      by_cases c3 : r.1 > (s.size : Int) - r.2.1
      · rw [if_pos c3, if_pos c3]
      · rw [if_neg c3, if_neg c3, if_pos h3, Math.wrap_in (n := r.2.1 + r.1) (by omega) (by omega), if_pos (by omega), if_pos (by omega)]
  · rw [if_neg c, if_neg c]
theorem FnExactReadShort : laws_FnExactReadShort.Pure := by
  intro s a hs _
  refine Ev.rounds ?_
  by_cases hc : (s.size : Int) > 1048576
  · exact ⟨0, fun k _ => by show laws_FnExactReadShort.f k s a = _; unfold laws_FnExactReadShort.f; rw [if_pos hc]⟩
  · refine Ev.congr (fun k => by unfold laws_FnExactReadShort.f; rw [if_neg hc]) ?_
    exact Math.Ev.both (r := true) (f := fun _ (x y : ByteArray × Int × Bool) => (if y.1.toList = x.1.toList then (if y.2.1 = x.2.1 then (if (y.2.2 != x.2.2) = true then (some false) else (some true)) else (some false)) else (some false))) (spec_ReadShort_ev s hs a) (impl_ReadShort_ev s hs a) (fun _ => by simp)
end Go.Proofs.Ytaljdljhbhmipaa.Pure
