/- A drawn number in 0 .. MaxNumber comes back from VarText and from Decimal, a drawn text from ShortText and Hex. -/
import Derived.Test.YtppjbaogabicdaaOFnNumbersx4
import Derived.Test.YtppjbaogabicdaaMath
namespace Go.Proofs.Ytppjbaogabicdaa.Pure
open Go.RowKit Go.Proofs.Ytppjbaogabicdaa.PFnNumbers Go.Proofs.YtppjbaogabicdaaW.PrintWords Go.Proofs.YtppjbaogabicdaaW.PrintLast Go.Proofs.YtppjbaogabicdaaW.PrintMore
set_option linter.unusedVariables false

theorem impl_within_is (a lo hi : Int) : impl_within.f a lo hi = some (decide (lo ≤ a ∧ a ≤ hi)) := by
  unfold impl_within.f
  by_cases h : a ≥ lo
  · rw [if_pos h]
    by_cases h2 : a ≤ hi
    · simp [h, h2]
    · simp [h2]
  · rw [if_neg h]
    have : ¬ lo ≤ a := h
    simp [this]
def varOk (a : Int) : ByteArray × Bool := if 0 ≤ a ∧ a ≤ 1000000000 then (Math.varS a.toNat, true) else (⟨#[]⟩, false)
theorem impl_VarText_l0 (n : Nat) : ∀ (acc : List Int), n < 4294967296 → acc.length + n < 140737488355328 →
    Ev (fun k => impl_VarText.l0 k (n : Int) acc) (strOfNums (acc ++ Math.varI n), true) := by
  induction n using Nat.strongRecOn with
  | ind n ih =>
    intro acc hn ha
    by_cases h : n > 127
    · refine Ev.step (f := fun k => impl_VarText.l0 k ((n / 128 : Nat) : Int) (acc ++ [((n % 128 + 128 : Nat) : Int)])) (fun k => ?_) ?_
      · show impl_VarText.l0 (k + 1) (n : Int) acc = _
        rw [impl_VarText.l0, if_pos (by omega), if_pos (by omega), Math.or128 n]
        rfl
      · have := ih (n / 128) (by omega) (acc ++ [((n % 128 + 128 : Nat) : Int)]) (by omega) (by rw [List.length_append, List.length_singleton]; omega)
        rw [Math.varI_big h]
        rw [List.append_assoc] at this
        exact this
    · refine Ev.step (f := fun _ => some (strOfNums (acc ++ Math.varI n), true)) (fun k => ?_) (Math.Ev.const rfl)
      show impl_VarText.l0 (k + 1) (n : Int) acc = _
      rw [impl_VarText.l0, if_neg (by omega), if_pos (by omega), Math.varI_small h]
      rw [show (n : Int) % 256 = (n : Int) from by omega]
theorem impl_VarText_ev (a : Int) : Ev (fun k => impl_VarText.f k a) (varOk a) := by
  refine Ev.congr (f := fun k => (if decide (0 ≤ a ∧ a ≤ 1000000000) = true then (impl_VarText.l0 k a (([] : List Int))) else (some ((⟨#[]⟩ : ByteArray), false)))) (fun k => ?_) ?_
  · show impl_VarText.f k a = _
    unfold impl_VarText.f
    rw [impl_within_is]
    rfl
  · unfold varOk
    by_cases h : 0 ≤ a ∧ a ≤ 1000000000
    · simp only [h, and_self, decide_true, if_true]
      obtain ⟨n, rfl⟩ := Int.eq_ofNat_of_zero_le h.1
      have := impl_VarText_l0 n [] (by omega) (by simp only [List.length_nil]; omega)
      rw [List.nil_append] at this
      exact this
    · rw [if_neg h]
      simp only [h, decide_false]
      exact Math.Ev.const rfl
set_option maxHeartbeats 2000000 in
theorem impl_ReadVar_l0 (s : ByteArray) (hs : s.size ≤ 140737488351232) (p : Nat) (hp : p ≤ s.size) (d : Nat) : ∀ (i n : Nat), i + d = 5 → n < 2 ^ (7 * i) →
    Ev (fun k => impl_ReadVar.l0 k s (p : Int) (n : Int) (i : Int)) (Math.readV s p d i n) := by
  induction d with
  | zero =>
    intro i n hi hn
    refine Ev.step (f := fun k => impl_ReadVar.j1 k s (p : Int) (n : Int) (i : Int) false) (fun k => ?_) ?_
    · show impl_ReadVar.l0 (k + 1) s _ _ _ = _
      rw [impl_ReadVar.l0, if_neg (by omega)]
    · refine Ev.step (f := fun _ => some (0, 0, false)) (fun k => ?_) (Math.Ev.const rfl)
      show impl_ReadVar.j1 (k + 1) s _ _ _ _ = _
      rw [impl_ReadVar.j1, if_neg (by decide)]
  | succ d ih =>
    intro i n hi hn
    have e4 : PLift (wrap64 ((p : Int) + (i : Int)) = ((p + i : Nat) : Int)) := ⟨by rw [Math.wrap_in (by omega) (by omega)]; omega⟩
    refine Ev.step (f := fun k => impl_ReadVar.j1 k s (p : Int) (n : Int) (i : Int) (decide (p + i < s.size))) (fun k => ?_) ?_
    · show impl_ReadVar.l0 (k + 1) s _ _ _ = _
      rw [impl_ReadVar.l0, if_pos (by omega), e4.down]
      congr 1
      exact decide_eq_decide.2 (by omega)
    by_cases hlt : p + i < s.size
    · rw [decide_eq_true hlt]
      have hb := bt_range s ((p + i : Nat) : Int)
      have hq := Math.seven_le (i := i) (by omega)
      have hq0 := Nat.two_pow_pos (7 * i)
      have hih := ih (i + 1) (n + (bt s ((p + i : Nat) : Int)).toNat % 128 * 2 ^ (7 * i)) (by omega)
      have hs7 := Math.seven_succ i
      have hm1 : (bt s ((p + i : Nat) : Int)).toNat % 128 * 2 ^ (7 * i) ≤ 127 * 2 ^ (7 * i) := Nat.mul_le_mul_right _ (by omega)
      simp only [Math.readV]
      rw [if_pos hlt]
      generalize hbt : bt s ((p + i : Nat) : Int) = b at *
      obtain ⟨c, rfl⟩ := Int.eq_ofNat_of_zero_le hb.1
      rw [Int.toNat_natCast] at *
      have e7 : PLift (wrap64 (7 * (i : Int)) = ((7 * i : Nat) : Int)) := ⟨by rw [Math.wrap_in (by omega) (by omega)]; omega⟩
      have e1 : PLift (shl .i64 (wrap64 (Go.bits .and .u8 (c : Int) 127)) ((7 * i : Nat) : Int) = ((c % 128 * 2 ^ (7 * i) : Nat) : Int)) := ⟨by
        rw [Math.u8_and127 _ (by omega) (by omega), Math.wrap_in (by omega) (by omega)]
        exact Math.shl_is (c % 128) (7 * i) (by omega) (by omega)⟩
      have e2 : PLift (Go.bits .or .i64 (n : Int) ((c % 128 * 2 ^ (7 * i) : Nat) : Int) = ((n + c % 128 * 2 ^ (7 * i) : Nat) : Int)) := ⟨Math.or_join n (c % 128) (7 * i) hn (by omega) (by omega)⟩
      rw [hs7] at hih
      generalize hqq : 2 ^ (7 * i) = q at *
      generalize hmm : c % 128 * q = m at *
      clear hmm hqq
      have e3 : PLift (wrap64 (((p + i : Nat) : Int) + 1) = ((p + i + 1 : Nat) : Int)) := ⟨by rw [Math.wrap_in (by omega) (by omega)]; omega⟩
      have e5 : PLift (wrap64 ((i : Int) + 1) = ((i + 1 : Nat) : Int)) := ⟨by rw [Math.wrap_in (by omega) (by omega)]; omega⟩
      by_cases hc : c < 128
      · rw [if_pos hc]
        refine Ev.step (f := fun k => (impl_VarText.f k ((n + m : Nat) : Int)).bind fun bt123 => (if bt123.2 = true then (if bt123.1.toList = (s.extract p (p + i + 1)).toList then (some (((n + m : Nat) : Int), ((p + i + 1 : Nat) : Int), true)) else (some (0, 0, false))) else (some (0, 0, false)))) (fun k => ?_) ?_
        · show impl_ReadVar.j1 (k + 1) s _ _ _ _ = _
          rw [impl_ReadVar.j1, if_pos rfl, e4.down, if_pos (by omega), if_pos (by omega), e7.down, if_pos (by omega), hbt, if_neg (by omega), e1.down, e2.down, e3.down]
          simp only [if_pos (show (0 : Int) ≤ (p : Int) from by omega), if_pos (show (p : Int) ≤ ((p + i + 1 : Nat) : Int) from by omega), if_pos (show ((p + i + 1 : Nat) : Int) ≤ (s.size : Int) from by omega), Int.toNat_natCast]
        · refine Ev.bind (f := fun _ (bt123 : ByteArray × Bool) => (if bt123.2 = true then (if bt123.1.toList = (s.extract p (p + i + 1)).toList then (some (((n + m : Nat) : Int), ((p + i + 1 : Nat) : Int), true)) else (some (0, 0, false))) else (some (0, 0, false)))) (impl_VarText_ev ((n + m : Nat) : Int)) (Math.Ev.const ?_)
          unfold varOk
          by_cases hn9 : n + m ≤ 1000000000
          · rw [if_pos (show (0 : Int) ≤ ((n + m : Nat) : Int) ∧ ((n + m : Nat) : Int) ≤ 1000000000 from by omega), Int.toNat_natCast]
            simp only [if_true]
            by_cases hx : Math.varS (n + m) = s.extract p (p + i + 1)
            · rw [if_pos (Math.str_eq.2 hx), if_pos ⟨hn9, hx⟩]
            · rw [if_neg (fun h => hx (Math.str_eq.1 h)), if_neg (fun h => hx h.2)]
          · rw [if_neg (show ¬ ((0 : Int) ≤ ((n + m : Nat) : Int) ∧ ((n + m : Nat) : Int) ≤ 1000000000) from by omega)]
            rw [if_neg (by decide), if_neg (fun h => hn9 h.1)]
      · rw [if_neg hc]
        refine Ev.step (f := fun k => impl_ReadVar.l0 k s (p : Int) ((n + m : Nat) : Int) ((i + 1 : Nat) : Int)) (fun k => ?_) (hih (by omega))
        show impl_ReadVar.j1 (k + 1) s _ _ _ _ = _
        rw [impl_ReadVar.j1, if_pos rfl, e4.down, if_pos (by omega), if_pos (by omega), e7.down, if_pos (by omega), hbt, if_pos (by omega), e1.down, e2.down, e5.down]
    · rw [decide_eq_false hlt]
      have e : Math.readV s p (d + 1) i n = (0, 0, false) := by simp only [Math.readV]; rw [if_neg hlt]
      rw [e]
      refine Ev.step (f := fun _ => some (0, 0, false)) (fun k => ?_) (Math.Ev.const rfl)
      show impl_ReadVar.j1 (k + 1) s _ _ _ _ = _
      rw [impl_ReadVar.j1, if_neg (by decide)]
theorem impl_ReadVar_ev (s : ByteArray) (hs : s.size ≤ 140737488351232) (a : Int) : Ev (fun k => impl_ReadVar.f k s a) (Math.readVar s a) := by
  refine Ev.congr (f := fun k => (if decide (0 ≤ a ∧ a ≤ (s.size : Int)) = true then (impl_ReadVar.l0 k s a 0 0) else (some (0, 0, false)))) (fun k => ?_) ?_
  · show impl_ReadVar.f k s a = _
    unfold impl_ReadVar.f
    rw [impl_within_is]
    rfl
  · unfold Math.readVar
    by_cases h : 0 ≤ a ∧ a ≤ (s.size : Int)
    · simp only [h, and_self, decide_true, if_true]
      obtain ⟨p, rfl⟩ := Int.eq_ofNat_of_zero_le h.1
      exact impl_ReadVar_l0 s hs p (by omega) 5 0 0 rfl (by decide)
    · rw [if_neg h]
      simp only [h, decide_false]
      exact Math.Ev.const rfl
theorem impl_Decimal_l0 (n : Int) (d : Nat) : ∀ (x : Int) (l : List UInt8), x.natAbs < 10 ^ d → l.length + d ≤ 30 → -9223372036854775808 ≤ x → x ≤ 9223372036854775807 →
    Ev (fun k => impl_Decimal.l0 k n (Math.mkS l) x) (if n < 0 then Math.mkS (45 :: Math.decA x.natAbs l) else Math.mkS (Math.decA x.natAbs l)) := by
  have hz : ∀ (l : List UInt8), l.length ≤ 30 → Ev (fun k => impl_Decimal.l0 k n (Math.mkS l) 0) (if n < 0 then Math.mkS (45 :: Math.decA (0 : Int).natAbs l) else Math.mkS (Math.decA (0 : Int).natAbs l)) := by
    intro l hl
    refine Ev.step (f := fun _ => some (if n < 0 then Math.mkS (45 :: Math.decA (0 : Int).natAbs l) else Math.mkS (Math.decA (0 : Int).natAbs l))) (fun k => ?_) (Math.Ev.const rfl)
    show impl_Decimal.l0 (k + 1) n _ 0 = _
    rw [impl_Decimal.l0, if_pos rfl, show (0 : Int).natAbs = 0 from rfl, Math.decA_zero]
    by_cases hb : n < 0
    · rw [if_pos hb, if_pos hb, if_pos (by rw [Math.mkS_size]; omega)]
      have := Math.mkS_append [45] l
      exact congrArg some this
    · rw [if_neg hb, if_neg hb]
  induction d with
  | zero =>
    intro x l hx hl h1 h2
    obtain rfl : x = 0 := by simp at hx; omega
    exact hz l (by omega)
  | succ d ih =>
    intro x l hx hl h1 h2
    by_cases c : x = 0
    · subst c
      exact hz l (by omega)
    · have ha := Math.tmod_abs x
      have hd := Math.tdiv_abs x
      have hp : (10 : Nat) ^ (d + 1) = 10 ^ d * 10 := Nat.pow_succ ..
      have hm : x.natAbs % 10 < 10 := Nat.mod_lt _ (by decide)
      have hnext := ih (Int.tdiv x 10) (UInt8.ofNat (48 + x.natAbs % 10) :: l) (by omega) (by rw [List.length_cons]; omega) (by omega) (by omega)
      rw [hd, ← Math.decA_pos (by omega)] at hnext
      have hfig := Math.figure_of (x.natAbs % 10) hm
      have hwd : wrap64 (Int.tdiv x 10) = Int.tdiv x 10 := Math.wrap_in (by omega) (by omega)
      have hmx : mx (Int.tmod x 10) (wrap64 (-(Int.tmod x 10))) = ((x.natAbs % 10 : Nat) : Int) := by
        rw [Math.wrap_in (by omega) (by omega)]
        unfold mx
        split <;> omega
      refine Ev.step (fun k => ?_) hnext
      show impl_Decimal.l0 (k + 1) n _ x = _
      rw [impl_Decimal.l0, if_neg c, hmx, hwd]
      rw [show wrap64 (((x.natAbs % 10 : Nat) : Int) + 1) = ((x.natAbs % 10 + 1 : Nat) : Int) from by rw [Math.wrap_in (by omega) (by omega)]; omega]
      rw [if_pos (by omega), if_pos (by omega), if_pos (by omega), Int.toNat_natCast, Int.toNat_natCast, hfig, Math.mkS_append, if_pos (by rw [Math.mkS_size, Math.mkS_size, List.length_singleton]; omega)]
      rfl
theorem impl_Decimal_ev (x : Int) (h1 : -9223372036854775808 ≤ x) (h2 : x ≤ 9223372036854775807) : Ev (fun k => impl_Decimal.f k x) (Math.decS x) := by
  unfold Math.decS
  by_cases c : x = 0
  · rw [if_pos c]
    exact ⟨0, fun k _ => by show impl_Decimal.f k x = _; unfold impl_Decimal.f; rw [if_pos c]; rfl⟩
  · rw [if_neg c]
    refine Ev.congr (fun k => by unfold impl_Decimal.f; rw [if_neg c]) ?_
    exact impl_Decimal_l0 x 20 x [] (by simp only [Nat.reducePow]; omega) (by decide) h1 h2
theorem impl_ReadDecimal_l0 (s : ByteArray) (hs : s.size ≤ 10) (d : Nat) : ∀ (i n : Nat), i + d = s.size → n < 10 ^ i →
    Ev (fun k => impl_ReadDecimal.l0 k s (n : Int) (i : Int)) (Math.decEnd s (Math.figN (s.data.toList.drop i) n)) := by
  induction d with
  | zero =>
    intro i n hi hn
    have ht := Math.ten_le (i := i) (by omega)
    rw [List.drop_eq_nil_of_le (by rw [Math.size_data]; omega)]
    show Ev _ (Math.decEnd s (some n))
    unfold Math.decEnd
    by_cases c : n > 1000000000
    · simp only [if_pos c]
      refine Ev.step (f := fun _ => some (0, false)) (fun k => ?_) (Math.Ev.const rfl)
      show impl_ReadDecimal.l0 (k + 1) s _ _ = _
      rw [impl_ReadDecimal.l0, if_neg (by omega), if_pos (by omega)]
    · simp only [if_neg c]
      refine Ev.step (f := fun k => (impl_Decimal.f k (n : Int)).bind fun t109 => (if t109.toList = s.toList then (some ((n : Int), true)) else (some (0, false)))) (fun k => ?_) ?_
      · show impl_ReadDecimal.l0 (k + 1) s _ _ = _
        rw [impl_ReadDecimal.l0, if_neg (by omega), if_neg (by omega)]
      · refine Ev.bind (f := fun _ (t109 : ByteArray) => (if t109.toList = s.toList then (some ((n : Int), true)) else (some (0, false)))) (impl_Decimal_ev (n : Int) (by omega) (by omega)) (Math.Ev.const ?_)
        by_cases e : Math.decS (n : Int) = s
        · rw [if_pos (Math.str_eq.2 e), if_pos e]
        · rw [if_neg (fun h => e (Math.str_eq.1 h)), if_neg e]
  | succ d ih =>
    intro i n hi hn
    have ht := Math.ten_le (i := i) (by omega)
    have hp : (10 : Nat) ^ (i + 1) = 10 ^ i * 10 := Nat.pow_succ ..
    have hlt : i < s.size := by omega
    rw [Math.drop_at s i hlt]
    simp only [Math.figN]
    rw [Math.bt_byte s i hlt]
    have hb := bt_range s (i : Int)
    have hnext := ih (i + 1) (10 * n + ((bt s (i : Int)).toNat - 48)) (by omega)
    generalize hbt : bt s (i : Int) = c at *
    by_cases hc : c.toNat < 48 ∨ c.toNat > 57
    · rw [if_pos hc]
      refine Ev.step (f := fun _ => some (0, false)) (fun k => ?_) (Math.Ev.const rfl)
      show impl_ReadDecimal.l0 (k + 1) s _ _ = _
      rw [impl_ReadDecimal.l0, if_pos (by omega), if_pos (by omega), hbt]
      by_cases h48 : c < 48
      · rw [if_pos h48]
      · rw [if_neg h48, if_pos (by omega)]
    · rw [if_neg hc]
      refine Ev.step (fun k => ?_) (hnext (by omega))
      show impl_ReadDecimal.l0 (k + 1) s _ _ = _
      rw [impl_ReadDecimal.l0, if_pos (by omega), if_pos (by omega), hbt, if_neg (by omega), if_neg (by omega)]
      rw [Math.wrap_in (n := 10 * (n : Int)) (by omega) (by omega)]
      rw [show wrap64 (10 * (n : Int) + (c - 48) % 256) = ((10 * n + (c.toNat - 48) : Nat) : Int) from by rw [Math.wrap_in (by omega) (by omega)]; omega]
      rw [show wrap64 ((i : Int) + 1) = ((i + 1 : Nat) : Int) from by rw [Math.wrap_in (by omega) (by omega)]; omega]
theorem impl_ReadDecimal_ev (s : ByteArray) : Ev (fun k => impl_ReadDecimal.f k s) (Math.readDec s) := by
  unfold Math.readDec
  by_cases c : 1 ≤ s.size ∧ s.size ≤ 10
  · rw [if_pos c.2]
    refine Ev.congr (fun k => by unfold impl_ReadDecimal.f; rw [impl_within_is, Option.bind_some, if_pos (decide_eq_true (by omega))]) ?_
    exact impl_ReadDecimal_l0 s c.2 s.size 0 0 (by omega) (by decide)
  · have e : (if s.size ≤ 10 then Math.decEnd s (Math.figN s.data.toList 0) else (0, false)) = (0, false) := by
      by_cases h : s.size ≤ 10
      · have hn : s.data.toList = [] := List.eq_nil_of_length_eq_zero (by rw [Math.size_data]; omega)
        rw [if_pos h, hn]
        show Math.decEnd s (some 0) = _
        unfold Math.decEnd
        simp only
        rw [if_neg (by decide), if_neg (fun e => ?_)]
        rw [← e] at c h
        exact c (by decide)
      · rw [if_neg h]
    rw [e]
    exact ⟨0, fun k _ => by show impl_ReadDecimal.f k s = _; unfold impl_ReadDecimal.f; rw [impl_within_is, Option.bind_some, if_neg (by rw [decide_eq_false (by omega)]; decide)]⟩
theorem impl_ShortText_ev (s : ByteArray) (hs : s.size ≤ 140737488351232) : Ev (fun k => impl_ShortText.f k s) (Math.shortS s) := by
  unfold Math.shortS
  by_cases h : (s.size : Int) > 20000
  · rw [if_pos h]
    exact ⟨0, fun k _ => by show impl_ShortText.f k s = _; unfold impl_ShortText.f; rw [if_pos h]⟩
  · rw [if_neg h]
    refine Ev.congr (fun k => by unfold impl_ShortText.f; rw [if_neg h]) ?_
    have hz := Math.varS_size s.size
    have hv := impl_VarText_ev (s.size : Int)
    unfold varOk at hv
    rw [if_pos (by omega), Int.toNat_natCast] at hv
    exact Ev.bind (f := fun _ (bt121 : ByteArray × Bool) => (if bt121.1.size + s.size ≤ 9223372036854775807 then (some (bt121.1 ++ s, true)) else (none))) hv (Math.Ev.const (if_pos (by show (Math.varS s.size).size + s.size ≤ _; omega)))
theorem impl_ReadShort_ev (s : ByteArray) (hs : s.size ≤ 140737488351232) (a : Int) : Ev (fun k => impl_ReadShort.f k s a) (Math.readShort s a) := by
  refine Ev.congr (fun k => by unfold impl_ReadShort.f; rfl) ?_
  refine Ev.bind (f := fun _ (bt112 : Int × Int × Bool) => (if bt112.2.2 = true then (if bt112.1 > 20000 then (some ((⟨#[]⟩ : ByteArray), 0, false)) else (if bt112.1 > (wrap64 ((s.size : Int) - bt112.2.1)) then (some ((⟨#[]⟩ : ByteArray), 0, false)) else (if 0 ≤ bt112.2.1 then (if bt112.2.1 ≤ (wrap64 (bt112.2.1 + bt112.1)) then (if (wrap64 (bt112.2.1 + bt112.1)) ≤ (s.size : Int) then (some (s.extract (bt112.2.1 : Int).toNat ((wrap64 (bt112.2.1 + bt112.1)) : Int).toNat, wrap64 (bt112.2.1 + bt112.1), true)) else (none)) else (none)) else (none)))) else (some ((⟨#[]⟩ : ByteArray), 0, false)))) (impl_ReadVar_ev s hs a) (Math.Ev.const ?_)
  unfold Math.readShort
  obtain ⟨h1, h2, h3, h4⟩ := Math.readVar_bounds s a
  generalize Math.readVar s a = r at *
  by_cases c : r.2.2 = true
  · rw [if_pos c, if_pos c]
    by_cases c2 : r.1 > 20000
    · rw [if_pos c2, if_pos c2]
    · rw [if_neg c2, if_neg c2]
      rw [Math.wrap_in (n := (s.size : Int) - r.2.1) (by omega) (by omega)]
      by_cases c3 : r.1 > (s.size : Int) - r.2.1
      · rw [if_pos c3, if_pos c3]
      · rw [if_neg c3, if_neg c3, if_pos h3, Math.wrap_in (n := r.2.1 + r.1) (by omega) (by omega), if_pos (by omega), if_pos (by omega)]
  · rw [if_neg c, if_neg c]
def hx (d : Nat) : Int := if d < 10 then ((48 + d : Nat) : Int) else ((87 + d : Nat) : Int)
def hexL (l : List UInt8) : List Int := l.flatMap fun b => [hx (b.toNat / 16), hx (b.toNat % 16)]
def hexS (s : ByteArray) : ByteArray × Bool := if (s.size : Int) > 20000 then (⟨#[]⟩, false) else (strOfNums (hexL s.data.toList), true)
theorem hx_figs : ∀ d : Fin 16, bt (⟨#[48, 49, 50, 51, 52, 53, 54, 55, 56, 57, 97, 98, 99, 100, 101, 102]⟩ : ByteArray) ((d.val : Nat) : Int) = hx d.val := by decide
theorem hexL_cons (b : UInt8) (l : List UInt8) : hexL (b :: l) = [hx (b.toNat / 16), hx (b.toNat % 16)] ++ hexL l := rfl
theorem u8_and15 (x : Int) (h0 : 0 ≤ x) (h1 : x < 256) : Go.bits .and .u8 x 15 = x % 16 := bits_mask .u8 8 (by decide) wraps_u8 4 (by decide) x h0 h1
theorem impl_Hex_l0 (s : ByteArray) (hs : s.size ≤ 20000) (n : Nat) : ∀ (i : Nat) (acc : List Int), i + n = s.size → acc.length ≤ 2 * i →
    Ev (fun k => impl_Hex.l0 k s acc (i : Int)) (strOfNums (acc ++ hexL (s.data.toList.drop i)), true) := by
  induction n with
  | zero =>
    intro i acc hi ha
    refine Ev.step (f := fun _ => some (strOfNums (acc ++ hexL (s.data.toList.drop i)), true)) (fun k => ?_) (Math.Ev.const rfl)
    show impl_Hex.l0 (k + 1) s acc (i : Int) = _
    rw [impl_Hex.l0, if_neg (by omega), List.drop_of_length_le (by rw [Math.size_data]; omega)]
    simp [hexL]
  | succ n ih =>
    intro i acc hi ha
    have hb := (s.data.toList[i]'(by rw [Math.size_data]; omega)).toNat_lt
    refine Ev.step (f := fun k => impl_Hex.l0 k s (acc ++ [hx ((s.data.toList[i]'(by rw [Math.size_data]; omega)).toNat / 16), hx ((s.data.toList[i]'(by rw [Math.size_data]; omega)).toNat % 16)]) ((i + 1 : Nat) : Int)) (fun k => ?_) ?_
    · show impl_Hex.l0 (k + 1) s acc (i : Int) = _
      rw [impl_Hex.l0, if_pos (by omega), if_pos (by omega), Math.bt_nat s i (by omega)]
      rw [u8_and15 _ (by omega) (by omega)]
      rw [show ((s.data.toList[i]'(by rw [Math.size_data]; omega)).toNat : Int) / 16 = (((s.data.toList[i]'(by rw [Math.size_data]; omega)).toNat / 16 : Nat) : Int) from by omega, show ((s.data.toList[i]'(by rw [Math.size_data]; omega)).toNat : Int) % 16 = (((s.data.toList[i]'(by rw [Math.size_data]; omega)).toNat % 16 : Nat) : Int) from by omega]
      rw [if_pos (by omega), if_pos (by omega), if_pos (by omega), if_pos (by omega)]
      rw [hx_figs ⟨(s.data.toList[i]'(by rw [Math.size_data]; omega)).toNat / 16, by omega⟩, hx_figs ⟨(s.data.toList[i]'(by rw [Math.size_data]; omega)).toNat % 16, by omega⟩]
      simp only [Option.bind_some]
      rw [if_pos (by simp only [List.length_cons, List.length_nil]; omega), Math.wrap_in (by omega) (by omega)]
      rfl
    · have := ih (i + 1) (acc ++ [hx ((s.data.toList[i]'(by rw [Math.size_data]; omega)).toNat / 16), hx ((s.data.toList[i]'(by rw [Math.size_data]; omega)).toNat % 16)]) (by omega) (by simp only [List.length_append, List.length_cons, List.length_nil]; omega)
      rw [Math.drop_at s i (by omega), hexL_cons, ← List.append_assoc]
      exact this
theorem impl_Hex_ev (s : ByteArray) : Ev (fun k => impl_Hex.f k s) (hexS s) := by
  unfold hexS impl_Hex.f
  by_cases h : (s.size : Int) > 20000
  · rw [if_pos h]
    simp only [h, if_true]
    exact Math.Ev.const rfl
  · simp only [h, if_false]
    refine Ev.congr (f := fun k => impl_Hex.l0 k s [] 0) (fun k => by rw [Math.wrap_in (by omega) (by omega), if_pos (by omega), if_pos (by omega)]) ?_
    have := impl_Hex_l0 s (by omega) s.size 0 [] (by omega) (by simp)
    simpa using this
def figV (x : Nat) : Int := if 48 ≤ x ∧ x ≤ 57 then (x : Int) - 48 else if 97 ≤ x ∧ x ≤ 102 then (x : Int) - 87 else -1
def unL : List UInt8 → Option (List Int)
  | a :: b :: t => if figV a.toNat < 0 then none else if figV b.toNat < 0 then none else (unL t).map (fun l => (16 * figV a.toNat + figV b.toNat) :: l)
  | _ => some []
def unEnd (acc : List Int) : Option (List Int) → ByteArray × Bool
  | none => (⟨#[]⟩, false)
  | some l => (strOfNums (acc ++ l), true)
def unhexS (s : ByteArray) : ByteArray × Bool := if (s.size : Int) > 40000 then (⟨#[]⟩, false) else if (s.size : Int) % 2 ≠ 0 then (⟨#[]⟩, false) else unEnd [] (unL s.data.toList)
theorem wrap_one (i : Nat) (h : i < 4611686018427387904) : wrap64 ((i : Int) + 1) = ((i + 1 : Nat) : Int) := by
  rw [Math.wrap_in (by omega) (by omega)]
  omega
theorem wrap_two (i : Nat) (h : i < 4611686018427387904) : wrap64 ((i : Int) + 2) = ((i + 2 : Nat) : Int) := by
  rw [Math.wrap_in (by omega) (by omega)]
  omega
theorem figV_le (x : Nat) : figV x ≤ 15 := by unfold figV; split; omega; split <;> omega
theorem figV_ge (x : Nat) : -1 ≤ figV x := by unfold figV; split; omega; split <;> omega
theorem unL_cons (a b : UInt8) (t : List UInt8) : unL (a :: b :: t) = if figV a.toNat < 0 then none else if figV b.toNat < 0 then none else (unL t).map (fun l => (16 * figV a.toNat + figV b.toNat) :: l) := rfl
theorem unEnd_map (acc : List Int) (x : Int) (o : Option (List Int)) : unEnd acc (o.map fun l => x :: l) = unEnd (acc ++ [x]) o := by
  cases o with
  | none => rfl
  | some l => simp [unEnd]
theorem or_fig (a b : Int) (ha : 0 ≤ a) (ha2 : a ≤ 15) (hb : 0 ≤ b) (hb2 : b ≤ 15) : Go.bits .or .i64 (wrap64 (a * 16)) b % 256 = 16 * a + b := by
  obtain ⟨x, rfl⟩ := Int.eq_ofNat_of_zero_le ha
  obtain ⟨y, rfl⟩ := Int.eq_ofNat_of_zero_le hb
  rw [Math.wrap_in (by omega) (by omega), show (x : Int) * 16 = ((x * 16 : Nat) : Int) from by omega, Math.or_high (x * 16) y 4 (by omega) (by omega) (by omega) (by omega)]
  omega
theorem impl_figure_ev (x : Nat) (hx : x < 256) : Ev (fun k => impl_figure.f k (x : Int)) (figV x) := by
  have hj : ∀ b : Bool, (b = true → 48 ≤ x ∧ x ≤ 57) → (b = false → ¬ (48 ≤ x ∧ x ≤ 57)) → Ev (fun k => impl_figure.j0 k (x : Int) b) (figV x) := by
    intro b h1 h2
    refine Ev.step (f := fun _ => some (figV x)) (fun k => ?_) (Math.Ev.const rfl)
    show impl_figure.j0 (k + 1) _ _ = _
    rw [impl_figure.j0]
    cases b with
    | true =>
      have := h1 rfl
      rw [if_pos rfl]
      unfold figV
      rw [if_pos this]
      congr 1
      omega
    | false =>
      have := h2 rfl
      rw [if_neg (by decide)]
      unfold figV
      rw [if_neg this]
      by_cases c : (x : Int) ≥ 97
      · rw [if_pos c]
        by_cases c2 : (x : Int) ≤ 102
        · rw [if_pos c2, if_pos (by omega)]
          congr 1
          omega
        · rw [if_neg c2, if_neg (by omega)]
      · rw [if_neg c, if_neg (by omega)]
  unfold impl_figure.f
  by_cases c : (x : Int) ≥ 48
  · simp only [c, if_true]
    refine hj _ (fun h => ?_) (fun h => ?_)
    · have := of_decide_eq_true h
      omega
    · have := of_decide_eq_false h
      omega
  · simp only [c, if_false]
    exact hj false (fun h => by cases h) (fun _ => by omega)
theorem impl_Unhex_l0 (s : ByteArray) (hs : s.size ≤ 40000) (n : Nat) : ∀ (i : Nat) (acc : List Int), i + 2 * n = s.size → acc.length ≤ i →
    Ev (fun k => impl_Unhex.l0 k s acc (i : Int)) (unEnd acc (unL (s.data.toList.drop i))) := by
  induction n with
  | zero =>
    intro i acc hi ha
    rw [List.drop_of_length_le (by rw [Math.size_data]; omega)]
    refine Ev.step (f := fun _ => some (strOfNums acc, true)) (fun k => ?_) (Math.Ev.const (by simp [unL, unEnd]))
    show impl_Unhex.l0 (k + 1) s acc (i : Int) = _
    rw [impl_Unhex.l0, if_neg (by omega)]
  | succ n ih =>
    intro i acc hi ha
    have hl : i + 1 < s.data.toList.length := by rw [Math.size_data]; omega
    have hb0 := (s.data.toList[i]'(by omega)).toNat_lt
    have hb1 := (s.data.toList[i + 1]'hl).toNat_lt
    have hd : s.data.toList.drop i = s.data.toList[i]'(by omega) :: s.data.toList[i + 1]'hl :: s.data.toList.drop (i + 2) := by
      rw [Math.drop_at s i (by omega), Math.drop_at s (i + 1) (by omega)]
    have e1 : bt s (i : Int) = ((s.data.toList[i]'(by omega)).toNat : Int) := Math.bt_nat s i (by omega)
    have e2 : bt s ((i + 1 : Nat) : Int) = ((s.data.toList[i + 1]'hl).toNat : Int) := Math.bt_nat s (i + 1) (by omega)
    rw [hd, unL_cons]
    generalize (s.data.toList[i]'(by omega)).toNat = x at *
    generalize (s.data.toList[i + 1]'hl).toNat = y at *
    have c1 : ((0 : Int) ≤ ((i + 1 : Nat) : Int)) = True := eq_true (by omega)
    have c2 : (((i + 1 : Nat) : Int) < (s.size : Int)) = True := eq_true (by omega)
    have c3 : (acc.length < 140737488355328) = True := eq_true (by omega)
    have f1 := figV_le x
    have f2 := figV_ge x
    have f3 := figV_le y
    have f4 := figV_ge y
    refine Ev.step (f := fun k => (impl_figure.f k (x : Int)).bind fun t1 => (impl_figure.f k (y : Int)).bind fun t2 => if t1 < 0 then some ((⟨#[]⟩ : ByteArray), false) else if t2 < 0 then some ((⟨#[]⟩ : ByteArray), false) else impl_Unhex.l0 k s (acc ++ [(Go.bits .or .i64 (wrap64 (t1 * 16)) t2) % 256]) ((i + 2 : Nat) : Int)) (fun k => ?_) ?_
    · show impl_Unhex.l0 (k + 1) s acc (i : Int) = _
      rw [impl_Unhex.l0, if_pos (by omega), if_pos (by omega)]
      have hi2 : i < 4611686018427387904 := by omega
      simp only [wrap_one i hi2, wrap_two i hi2, c1, c2, c3, if_true, e1, e2]
    · refine Ev.bind (f := fun k t1 => (impl_figure.f k (y : Int)).bind fun t2 => if t1 < 0 then some ((⟨#[]⟩ : ByteArray), false) else if t2 < 0 then some ((⟨#[]⟩ : ByteArray), false) else impl_Unhex.l0 k s (acc ++ [(Go.bits .or .i64 (wrap64 (t1 * 16)) t2) % 256]) ((i + 2 : Nat) : Int)) (impl_figure_ev x hb0) ?_
      refine Ev.bind (f := fun k t2 => if figV x < 0 then some ((⟨#[]⟩ : ByteArray), false) else if t2 < 0 then some ((⟨#[]⟩ : ByteArray), false) else impl_Unhex.l0 k s (acc ++ [(Go.bits .or .i64 (wrap64 ((figV x) * 16)) t2) % 256]) ((i + 2 : Nat) : Int)) (impl_figure_ev y hb1) ?_
      by_cases g1 : figV x < 0
      · simp only [g1, if_true]
        exact Math.Ev.const rfl
      · by_cases g2 : figV y < 0
        · simp only [g1, g2, if_true, if_false]
          exact Math.Ev.const rfl
        · simp only [g1, g2, if_false]
          rw [unEnd_map, show (Go.bits .or .i64 (wrap64 ((figV x) * 16)) (figV y)) % 256 = 16 * figV x + figV y from or_fig _ _ (by omega) (by omega) (by omega) (by omega)]
          exact ih (i + 2) (acc ++ [16 * figV x + figV y]) (by omega) (by rw [List.length_append, List.length_singleton]; omega)
theorem impl_Unhex_ev (s : ByteArray) (hs : s.size ≤ 140737488351232) : Ev (fun k => impl_Unhex.f k s) (unhexS s) := by
  unfold unhexS impl_Unhex.f
  have yes : Ev (fun k => impl_Unhex.j0 k s true) ((⟨#[]⟩ : ByteArray), false) := by
    refine Ev.step (f := fun _ => some ((⟨#[]⟩ : ByteArray), false)) (fun k => ?_) (Math.Ev.const rfl)
    show impl_Unhex.j0 (k + 1) _ _ = _
    rw [impl_Unhex.j0, if_pos rfl]
  by_cases h2 : (s.size : Int) % 2 = 0
  · simp only [h2, if_true]
    by_cases h : (s.size : Int) > 40000
    · simp only [h, decide_true, if_true]
      exact yes
    · simp only [h, decide_false, if_false, ne_eq, not_true_eq_false]
      refine Ev.step (f := fun k => impl_Unhex.l0 k s [] 0) (fun k => ?_) ?_
      · show impl_Unhex.j0 (k + 1) _ _ = _
        rw [impl_Unhex.j0, if_neg (by decide), Math.wrap_in (by omega) (by omega), if_pos (by omega), if_pos (by omega)]
      · have := impl_Unhex_l0 s (by omega) (s.size / 2) 0 [] (by omega) (by simp)
        simpa using this
  · simp only [h2, if_false, ne_eq, not_false_eq_true, if_true]
    have e : (if (s.size : Int) > 40000 then ((⟨#[]⟩ : ByteArray), false) else ((⟨#[]⟩ : ByteArray), false)) = ((⟨#[]⟩ : ByteArray), false) := by split <;> rfl
    rw [e]
    exact yes
theorem ext_list (s : ByteArray) (a b : Nat) : (s.extract a b).data.toList = (s.data.toList.drop a).take (b - a) := by
  rw [ByteArray.data_extract, Array.toList_extract, List.extract_eq_take_drop]
theorem varI_byte (n : Nat) : ∀ x ∈ Math.varI n, 0 ≤ x ∧ x < 256 := by
  induction n using Nat.strongRecOn with
  | ind n ih =>
    by_cases h : n > 127
    · rw [Math.varI_big h]
      intro x hx
      rcases List.mem_cons.1 hx with rfl | hx
      · omega
      · exact ih (n / 128) (by omega) x hx
    · rw [Math.varI_small h]
      intro x hx
      rw [List.mem_singleton] at hx
      omega
theorem bt_of_extract (s : ByteArray) (p : Nat) (xs : List Int) (hb : ∀ x ∈ xs, 0 ≤ x ∧ x < 256) (hsz : p + xs.length ≤ s.size) (hx : s.extract p (p + xs.length) = strOfNums xs) (j : Nat) (hj : j < xs.length) : bt s ((p + j : Nat) : Int) = xs[j] := by
  rw [Math.bt_nat s (p + j) (by omega)]
  have e := congrArg (fun t : ByteArray => t.data.toList[j]?) hx
  simp only [ext_list, strOfNums_data] at e
  rw [List.getElem?_take, if_pos (by omega), List.getElem?_drop, List.getElem?_eq_getElem (by rw [Math.size_data]; omega), List.getElem?_map, List.getElem?_eq_getElem hj] at e
  simp only [Option.map_some, Option.some.injEq] at e
  rw [e]
  have := hb xs[j] (List.getElem_mem _)
  rw [UInt8.toNat_ofNat']
  omega
theorem readV_round (s : ByteArray) (p n : Nat) (hn : n ≤ 1000000000) (hsz : p + (Math.varI n).length ≤ s.size) (hx : s.extract p (p + (Math.varI n).length) = Math.varS n) (d : Nat) :
    ∀ (i hi lo : Nat), n = lo + hi * 2 ^ (7 * i) → (∃ pre : List Int, pre.length = i ∧ Math.varI n = pre ++ Math.varI hi) → hi < 2 ^ (7 * (d + 1)) →
      Math.readV s p (d + 1) i lo = ((n : Int), ((p + (Math.varI n).length : Nat) : Int), true) := by
  have hb := varI_byte n
  induction d with
  | zero =>
    intro i hi lo e ⟨pre, hl, hv⟩ hlt
    have hs : ¬ hi > 127 := by simp only [Nat.zero_add, Nat.mul_one] at hlt; omega
    rw [Math.varI_small hs] at hv
    have hlen : (Math.varI n).length = i + 1 := by rw [hv, List.length_append, List.length_singleton, hl]
    have hbt : bt s ((p + i : Nat) : Int) = (hi : Int) := by
      rw [bt_of_extract s p _ hb hsz hx i (by omega)]
      simp only [hv]
      rw [List.getElem_append_right (by omega)]
      simp [hl]
    simp only [Math.readV]
    rw [hbt, Int.toNat_natCast, if_pos (by omega), if_pos (by omega), Nat.mod_eq_of_lt (show hi < 128 by omega), ← e, if_pos ⟨hn, by rw [← hx, hlen]; rfl⟩, hlen]
    rfl
  | succ d ih =>
    intro i hi lo e ⟨pre, hl, hv⟩ hlt
    by_cases hs : hi > 127
    · have hv2 := hv
      rw [Math.varI_big hs] at hv2
      have hlen : i < (Math.varI n).length := by rw [hv2, List.length_append, List.length_cons, hl]; omega
      have hbt : bt s ((p + i : Nat) : Int) = ((hi % 128 + 128 : Nat) : Int) := by
        rw [bt_of_extract s p _ hb hsz hx i hlen]
        simp only [hv2]
        rw [List.getElem_append_right (by omega)]
        simp [hl]
      rw [Math.readV, if_pos (by omega), hbt, Int.toNat_natCast, if_neg (by omega)]
      refine ih (i + 1) (hi / 128) _ ?_ ⟨pre ++ [((hi % 128 + 128 : Nat) : Int)], by rw [List.length_append, List.length_singleton, hl], by rw [hv2, List.append_assoc]; rfl⟩ ?_
      · rw [Math.seven_succ, show (hi % 128 + 128) % 128 = hi % 128 from by omega]
        have h1 : hi = hi % 128 + 128 * (hi / 128) := by omega
        generalize 2 ^ (7 * i) = q at *
        have h2 : hi * q = hi % 128 * q + hi / 128 * (q * 128) := by
          calc hi * q = (hi % 128 + 128 * (hi / 128)) * q := by rw [← h1]
            _ = hi % 128 * q + 128 * (hi / 128) * q := Nat.add_mul _ _ _
            _ = hi % 128 * q + hi / 128 * (q * 128) := by rw [Nat.mul_comm 128 (hi / 128), Nat.mul_assoc, Nat.mul_comm 128 q]
        omega
      · rw [show 7 * (d + 1 + 1) = 7 * (d + 1) + 7 from by omega, Nat.pow_add] at hlt
        generalize 2 ^ (7 * (d + 1)) = q at *
        omega
    · rw [Math.varI_small hs] at hv
      have hlen : (Math.varI n).length = i + 1 := by rw [hv, List.length_append, List.length_singleton, hl]
      have hbt : bt s ((p + i : Nat) : Int) = (hi : Int) := by
        rw [bt_of_extract s p _ hb hsz hx i (by omega)]
        simp only [hv]
        rw [List.getElem_append_right (by omega)]
        simp [hl]
      rw [Math.readV, hbt, Int.toNat_natCast, if_pos (by omega), if_pos (by omega), Nat.mod_eq_of_lt (show hi < 128 by omega), ← e, if_pos ⟨hn, by rw [← hx, hlen]; rfl⟩, hlen]
      rfl
theorem varS_len (n : Nat) : (Math.varS n).size = (Math.varI n).length := by rw [Math.varS, strOfNums_size]
theorem ext_mid (a b c : ByteArray) : (a ++ b ++ c).extract a.size (a.size + b.size) = b := by
  apply Math.str_eq.1
  rw [Lib.toList_data, Lib.toList_data, ext_list]
  rw [ByteArray.data_append, Array.toList_append, ByteArray.data_append, Array.toList_append, List.append_assoc]
  rw [List.drop_left' (by rw [Math.size_data]), List.take_left' (by rw [Math.size_data]; omega)]
theorem readVar_mid (a c : ByteArray) (n : Nat) (hn : n ≤ 1000000000) : Math.readVar (a ++ Math.varS n ++ c) ((a.size : Nat) : Int) = ((n : Int), ((a.size + (Math.varS n).size : Nat) : Int), true) := by
  have hsz : (a ++ Math.varS n ++ c).size = a.size + (Math.varS n).size + c.size := by rw [Math.size_append, Math.size_append]
  unfold Math.readVar
  rw [if_pos (by omega), Int.toNat_natCast]
  have := readV_round (a ++ Math.varS n ++ c) a.size n hn (by rw [hsz, varS_len]; omega) (by rw [← varS_len]; exact ext_mid a _ c) 4 0 n 0 (by simp) ⟨[], rfl, rfl⟩ (by simp only [Nat.reducePow, Nat.reduceMul, Nat.reduceAdd]; omega)
  rw [this, varS_len]
theorem ext_tail (a b : ByteArray) : (a ++ b).extract a.size (a.size + b.size) = b := by
  apply Math.str_eq.1
  rw [Lib.toList_data, Lib.toList_data, ext_list]
  rw [ByteArray.data_append, Array.toList_append]
  rw [List.drop_left' (by rw [Math.size_data]), List.take_of_length_le (by rw [Math.size_data]; omega)]
theorem app_empty (a : ByteArray) : a ++ (⟨#[]⟩ : ByteArray) = a := by
  apply Math.str_eq.1
  rw [Lib.toList_data, Lib.toList_data, ByteArray.data_append, Array.toList_append]
  simp
theorem empty_app (a : ByteArray) : (⟨#[]⟩ : ByteArray) ++ a = a := by
  apply Math.str_eq.1
  rw [Lib.toList_data, Lib.toList_data, ByteArray.data_append, Array.toList_append]
  simp
theorem readShort_round (t : ByteArray) (ht : t.size ≤ 20000) : Math.readShort (Math.varS t.size ++ t) 0 = (t, (((Math.varS t.size ++ t).size : Nat) : Int), true) := by
  have e := readVar_mid (⟨#[]⟩ : ByteArray) t t.size (by omega)
  rw [empty_app] at e
  have e0 : (((⟨#[]⟩ : ByteArray).size : Nat) : Int) = 0 := rfl
  rw [e0] at e
  have hz : (⟨#[]⟩ : ByteArray).size = 0 := rfl
  rw [hz, Nat.zero_add] at e
  unfold Math.readShort
  rw [e]
  have hs := Math.size_append (Math.varS t.size) t
  simp only [if_true]
  rw [if_neg (by omega), if_neg (by omega)]
  rw [show ((((Math.varS t.size).size : Nat) : Int) + ((t.size : Nat) : Int)).toNat = (Math.varS t.size).size + t.size from by omega, Int.toNat_natCast, ext_tail, hs]
  simp only [Prod.mk.injEq, true_and, and_true]
  omega
theorem figN_decA (n : Nat) : ∀ l, Math.figN (Math.decA n l) 0 = Math.figN l n := by
  induction n using Nat.strongRecOn with
  | ind n ih =>
    intro l
    by_cases h : n = 0
    · subst h
      rw [Math.decA_zero]
    · rw [Math.decA_pos h, ih (n / 10) (by omega)]
      have hb : (UInt8.ofNat (48 + n % 10)).toNat = 48 + n % 10 := by rw [UInt8.toNat_ofNat']; omega
      rw [Math.figN, hb, if_neg (by omega)]
      congr 1
      omega
theorem decA_len (d : Nat) : ∀ (n : Nat) (l : List UInt8), n < 10 ^ d → (Math.decA n l).length ≤ d + l.length := by
  induction d with
  | zero =>
    intro n l h
    obtain rfl : n = 0 := by simp at h; omega
    rw [Math.decA_zero]
    omega
  | succ d ih =>
    intro n l h
    by_cases h0 : n = 0
    · subst h0
      rw [Math.decA_zero]
      omega
    · rw [Math.decA_pos h0]
      have := ih (n / 10) (UInt8.ofNat (48 + n % 10) :: l) (by rw [Nat.pow_succ] at h; omega)
      rw [List.length_cons] at this
      omega
theorem readDec_round (n : Nat) (hn : n ≤ 1000000000) : Math.readDec (Math.decS (n : Int)) = ((n : Int), true) := by
  unfold Math.readDec
  by_cases h0 : n = 0
  · subst h0
    decide
  · have e : Math.decS (n : Int) = Math.mkS (Math.decA n []) := by
      unfold Math.decS
      rw [if_neg (by omega), if_neg (by omega), Int.natAbs_natCast]
    have hl := decA_len 10 n [] (by simp only [Nat.reducePow]; omega)
    rw [List.length_nil, Nat.add_zero] at hl
    have hf : Math.figN (Math.decS (n : Int)).data.toList 0 = some n := by
      rw [e, Math.mkS_data, figN_decA]
      rfl
    rw [if_pos (by rw [e, Math.mkS_size]; exact hl), hf, Math.decEnd, if_neg (by omega), if_pos rfl]
theorem figV_hx : ∀ d : Fin 16, figV (UInt8.ofNat (hx d.val).toNat).toNat = (d.val : Int) := by decide
theorem unL_hexL (l : List UInt8) : unL ((hexL l).map fun n => UInt8.ofNat n.toNat) = some (l.map fun b => (b.toNat : Int)) := by
  induction l with
  | nil => rfl
  | cons b l ih =>
    have hb := b.toNat_lt
    rw [hexL_cons, List.map_append, List.map_cons, List.map_cons, List.map_nil]
    show unL (_ :: _ :: _) = _
    have f1 := figV_hx ⟨b.toNat / 16, by omega⟩
    have f2 := figV_hx ⟨b.toNat % 16, by omega⟩
    simp only at f1 f2
    rw [unL_cons, f1, f2, if_neg (by omega), if_neg (by omega)]
    show Option.map _ (unL ((hexL l).map fun n => UInt8.ofNat n.toNat)) = _
    rw [ih]
    simp only [Option.map_some, List.map_cons, Option.some.injEq, List.cons.injEq, and_true]
    omega
theorem hexL_len (l : List UInt8) : (hexL l).length = 2 * l.length := by
  induction l with
  | nil => rfl
  | cons b l ih =>
    rw [hexL_cons, List.length_append, ih]
    simp only [List.length_cons, List.length_nil]
    omega
theorem str_bytes (t : ByteArray) : strOfNums (t.data.toList.map fun b => (b.toNat : Int)) = t := by
  apply Math.str_eq.1
  rw [Lib.toList_data, Lib.toList_data, strOfNums_data, List.map_map]
  conv => rhs; rw [← List.map_id t.data.toList]
  apply List.map_congr_left
  intro b _
  simp
theorem hex_round (t : ByteArray) (ht : t.size ≤ 20000) : hexS t = (strOfNums (hexL t.data.toList), true) ∧ unhexS (strOfNums (hexL t.data.toList)) = (t, true) := by
  have hl := hexL_len t.data.toList
  rw [Math.size_data] at hl
  constructor
  · unfold hexS
    rw [if_neg (by omega)]
  · unfold unhexS
    rw [strOfNums_size, hl, if_neg (by omega), if_neg (by omega), strOfNums_data, unL_hexL, unEnd, List.nil_append, str_bytes]
theorem big_is (l : List Int) : laws_big.f l = some (decide ((l.length : Int) > 1048576)) := rfl
theorem new_l0 (l : List Int) (hl : l.length ≤ 2000000) (d : Nat) : ∀ (i : Nat) (x : Int), i + d = l.length → ∃ h, Ev (fun k => spec_l01New.l0 k l x (i : Int)) (l, 0, h) := by
  induction d with
  | zero =>
    intro i x hi
    refine ⟨x, Ev.step (f := fun _ => some (l, 0, x)) (fun k => ?_) (Math.Ev.const rfl)⟩
    show spec_l01New.l0 (k + 1) l x _ = _
    rw [spec_l01New.l0, if_neg (by omega)]
  | succ d ih =>
    intro i x hi
    by_cases c : (i : Int) < 4000
    · obtain ⟨h, hh⟩ := ih (i + 1) (Go.bits .and .i64 (wrap64 ((wrap64 ((wrap64 (x * 131)) + (wrap64 (rd l (i : Int))))) + 7)) 1073741823) (by omega)
      refine ⟨h, Ev.step (fun k => ?_) hh⟩
      show spec_l01New.l0 (k + 1) l x _ = _
      rw [spec_l01New.l0, if_pos (by omega), if_pos c, if_pos (by omega), show wrap64 ((i : Int) + 1) = ((i + 1 : Nat) : Int) from by rw [Math.wrap_in (by omega) (by omega)]; omega]
    · refine ⟨x, Ev.step (f := fun _ => some (l, 0, x)) (fun k => ?_) (Math.Ev.const rfl)⟩
      show spec_l01New.l0 (k + 1) l x _ = _
      rw [spec_l01New.l0, if_pos (by omega), if_neg c]
theorem new_ev (l : List Int) (hl : l.length ≤ 2000000) : ∃ h, Ev (fun k => spec_l01New.f k l) (l, 0, h) := new_l0 l hl l.length 0 _ (by omega)
def Cur (l : List Int) (i : Int) : Prop := 0 ≤ i ∧ i ≤ l.length ∧ l.length ≤ 2000000
theorem byte_ok {l : List Int} {i : Int} (c : Cur l i) (h : Int) : ∃ x i' h', spec_l01Byte.f l i h = some (x, i', h') ∧ Cur l i' ∧ 0 ≤ x ∧ x ≤ 255 := by
  unfold Cur at c
  unfold spec_l01Byte.f
  by_cases hlt : i < (l.length : Int)
  · rw [if_pos hlt, if_pos c.1]
    refine ⟨_, _, _, rfl, ?_, Math.and255 _⟩
    unfold Cur
    rw [Math.wrap_in (n := i + 1) (by omega) (by omega)]
    omega
  · rw [if_neg hlt]
    exact ⟨_, _, _, rfl, c, Math.and255 _⟩
theorem below_ok {l : List Int} {i : Int} (c : Cur l i) (h : Int) (n : Int) : ∃ x i' h', spec_l01Below.f l i h n = some (x, i', h') ∧ Cur l i' ∧ 0 ≤ x ∧ (0 < n → x < n) ∧ (n ≤ 0 → x = 0) := by
  unfold spec_l01Below.f
  by_cases h0 : n ≤ 0
  · rw [if_pos h0]
    exact ⟨0, i, h, rfl, c, by omega, by omega, fun _ => rfl⟩
  · rw [if_neg h0]
    by_cases h1 : n ≤ 256
    · rw [if_pos h1]
      obtain ⟨x, i1, g1, e1, c1, x0, x1⟩ := byte_ok c h
      rw [e1, Option.bind_some, if_neg (by omega)]
      refine ⟨_, i1, g1, rfl, c1, ?_, fun _ => ?_, fun e => absurd e h0⟩
      · exact Int.tmod_nonneg _ x0
      · exact Int.tmod_lt_of_pos _ (by omega)
    · rw [if_neg h1]
      obtain ⟨x, i1, g1, e1, c1, x0, x1⟩ := byte_ok c h
      obtain ⟨y, i2, g2, e2, c2, y0, y1⟩ := byte_ok c1 g1
      obtain ⟨z, i3, g3, e3, c3, z0, z1⟩ := byte_ok c2 g2
      obtain ⟨u, i4, g4, e4, c4, u0, u1⟩ := byte_ok c3 g3
      rw [e1, Option.bind_some, e2, Option.bind_some, e3, Option.bind_some, e4, Option.bind_some, if_neg (by omega)]
      rw [Math.wrap_in (n := x * 16777216) (by omega) (by omega), Math.wrap_in (n := y * 65536) (by omega) (by omega), Math.wrap_in (n := z * 256) (by omega) (by omega)]
      rw [Math.wrap_in (n := x * 16777216 + y * 65536) (by omega) (by omega)]
      rw [Math.wrap_in (n := x * 16777216 + y * 65536 + z * 256) (by omega) (by omega)]
      rw [Math.wrap_in (n := x * 16777216 + y * 65536 + z * 256 + u) (by omega) (by omega)]
      refine ⟨_, i4, g4, rfl, c4, ?_, fun _ => ?_, fun e => absurd e h0⟩
      · exact Int.tmod_nonneg _ (by omega)
      · exact Int.tmod_lt_of_pos _ (by omega)
theorem once_ok {l : List Int} {i : Int} (c : Cur l i) (h : Int) (n : Int) : ∃ b i' h', spec_l01Once.f l i h n = some (b, i', h') ∧ Cur l i' := by
  unfold spec_l01Once.f
  obtain ⟨x, i1, g1, e1, c1, _⟩ := below_ok c h n
  rw [e1, Option.bind_some]
  exact ⟨_, _, _, rfl, c1⟩
theorem pickInt_ok {l : List Int} {i : Int} (c : Cur l i) (h : Int) (xs : List Int) (hx : 0 < xs.length) : ∃ x i' h', spec_l01PickInt.f l i h xs = some (x, i', h') ∧ Cur l i' ∧ x ∈ xs := by
  unfold spec_l01PickInt.f
  obtain ⟨x, i1, g1, e1, c1, x0, x1, _⟩ := below_ok c h (xs.length : Int)
  have hlt := x1 (by omega)
  rw [e1, Option.bind_some, if_pos x0, if_pos hlt]
  refine ⟨_, _, _, rfl, c1, ?_⟩
  unfold rd
  rw [List.getD_eq_getElem?_getD, List.getElem?_eq_getElem (by omega)]
  exact List.getElem_mem _
theorem cur0 {l : List Int} (hl : l.length ≤ 2000000) : Cur l 0 := ⟨by omega, by omega, hl⟩
theorem text_l0 {l : List Int} (n d : Nat) (hn : n ≤ 5000) : ∀ (j : Nat) (acc : List Int) (i h : Int), j + d = n → acc.length ≤ j → Cur l i → ∃ s i' h', Ev (fun k => spec_l01Text.l0 k (n : Int) acc (j : Int) l i h) (s, i', h') ∧ Cur l i' ∧ s.size ≤ acc.length + d := by
  induction d with
  | zero =>
    intro j acc i h hj ha c
    refine ⟨strOfNums acc, i, h, Ev.step (f := fun _ => some (strOfNums acc, i, h)) (fun k => ?_) (Math.Ev.const rfl), c, by rw [strOfNums_size]; omega⟩
    show spec_l01Text.l0 (k + 1) _ acc _ l i h = _
    rw [spec_l01Text.l0, if_neg (by omega)]
  | succ d ih =>
    intro j acc i h hj ha c
    obtain ⟨x, i1, g1, e1, c1, x0, x1⟩ := byte_ok c h
    obtain ⟨s, i', h', hs, c', hz⟩ := ih (j + 1) (acc ++ [x % 256]) i1 g1 (by omega) (by rw [List.length_append, List.length_singleton]; omega) c1
    rw [List.length_append, List.length_singleton] at hz
    refine ⟨s, i', h', Ev.step (fun k => ?_) hs, c', by omega⟩
    show spec_l01Text.l0 (k + 1) _ acc _ l i h = _
    rw [spec_l01Text.l0, if_pos (by omega), e1, Option.bind_some, if_pos (by omega), show wrap64 ((j : Int) + 1) = ((j + 1 : Nat) : Int) from by rw [Math.wrap_in (by omega) (by omega)]; omega]
theorem text_ok {l : List Int} {i : Int} (c : Cur l i) (h : Int) (n : Nat) : ∃ s i' h', Ev (fun k => spec_l01Text.f k l i h (n : Int)) (s, i', h') ∧ Cur l i' ∧ s.size ≤ n := by
  have go : ∀ m : Nat, m ≤ 5000 → ∃ s i' h', Ev (fun k => spec_l01Text.j0 k (m : Int) l i h) (s, i', h') ∧ Cur l i' ∧ s.size ≤ m := by
    intro m hm
    obtain ⟨s, i', h', hs, c', hz⟩ := text_l0 m m hm 0 [] i h (by omega) (by simp) c
    refine ⟨s, i', h', Ev.step (f := fun k => spec_l01Text.l0 k (m : Int) [] ((0 : Nat) : Int) l i h) (fun k => rfl) hs, c', by simpa using hz⟩
  by_cases hn : (n : Int) > 5000
  · obtain ⟨s, i', h', hs, c', hz⟩ := go 5000 (by omega)
    exact ⟨s, i', h', Ev.congr (fun k => by unfold spec_l01Text.f; rw [if_pos hn]; rfl) hs, c', by omega⟩
  · obtain ⟨s, i', h', hs, c', hz⟩ := go n (by omega)
    exact ⟨s, i', h', Ev.congr (fun k => by unfold spec_l01Text.f; rw [if_neg hn]) hs, c', hz⟩
theorem long_l0 (n : Nat) (hn : n ≤ 100000) (x : Int) (d : Nat) : ∀ (j : Nat) (acc : List Int), j + d = n → acc.length = n → ∃ s, Ev (fun k => spec_l01Long.l0 k (n : Int) x acc (j : Int)) s ∧ s.size = n := by
  induction d with
  | zero =>
    intro j acc hj ha
    refine ⟨strOfNums acc, Ev.step (f := fun _ => some (strOfNums acc)) (fun k => ?_) (Math.Ev.const rfl), by rw [strOfNums_size]; omega⟩
    show spec_l01Long.l0 (k + 1) _ _ acc _ = _
    rw [spec_l01Long.l0, if_neg (by omega)]
  | succ d ih =>
    intro j acc hj ha
    obtain ⟨s, hs, hz⟩ := ih (j + 1) (acc.set j x) (by omega) (by rw [List.length_set]; exact ha)
    refine ⟨s, Ev.step (fun k => ?_) hs, hz⟩
    show spec_l01Long.l0 (k + 1) _ _ acc _ = _
    rw [spec_l01Long.l0, if_pos (by omega), if_pos (by omega), if_pos (by omega), Int.toNat_natCast, show wrap64 ((j : Int) + 1) = ((j + 1 : Nat) : Int) from by rw [Math.wrap_in (by omega) (by omega)]; omega]
theorem long_ok (n : Nat) (hn : n ≤ 100000) (x : Int) : ∃ s, Ev (fun k => spec_l01Long.f k (n : Int) x) s ∧ s.size = n := by
  obtain ⟨s, hs, hz⟩ := long_l0 n hn x n 0 (List.replicate n 0) (by omega) (by rw [List.length_replicate])
  refine ⟨s, Ev.congr (fun k => ?_) hs, hz⟩
  unfold spec_l01Long.f
  rw [if_pos (by omega), if_pos (by omega), Int.toNat_natCast]
  rfl
theorem drawVarText_ev {l : List Int} (hl : l.length ≤ 2000000) : ∃ n : Int, Ev (fun k => spec_DrawVarText.f k l) n := by
  obtain ⟨h, hnew⟩ := new_ev l hl
  have hq : ∃ x i' h', spec_l01Number.f l 0 h = some (x, i', h') := by
    unfold spec_l01Number.f
    obtain ⟨x, i1, g1, e1, c1, _⟩ := below_ok (cur0 hl) h 4
    rw [e1, Option.bind_some]
    simp only
    split
    · obtain ⟨y, i2, g2, e2, _⟩ := pickInt_ok c1 g1 [(-1), 0, 127, 128, 16383, 16384, 1000000000, 1000000001, 9223372036854775807, (-9223372036854775808)] (by decide)
      rw [e2, Option.bind_some]
      exact ⟨_, _, _, rfl⟩
    · split
      · obtain ⟨y, i2, g2, e2, _⟩ := below_ok c1 g1 1000000000
        rw [e2, Option.bind_some]
        exact ⟨_, _, _, rfl⟩
      · obtain ⟨y, i2, g2, e2, _⟩ := below_ok c1 g1 400
        rw [e2, Option.bind_some]
        exact ⟨_, _, _, rfl⟩
  obtain ⟨x, i', h', e⟩ := hq
  refine ⟨x, Ev.congr (fun k => by unfold spec_DrawVarText.f; rfl) (Ev.bind (f := fun _ (bt139 : List Int × Int × Int) => ((spec_l01Number.f bt139.1 bt139.2.1 bt139.2.2).bind fun bt143 => (some bt143.1))) hnew (Math.Ev.const ?_))⟩
  simp only [e, Option.bind_some]
theorem drawHex_ev {l : List Int} (hl : l.length ≤ 2000000) : ∃ t : ByteArray, Ev (fun k => spec_DrawHex.f k l) t := by
  obtain ⟨h, hnew⟩ := new_ev l hl
  obtain ⟨b, i1, g1, e1, c1⟩ := once_ok (cur0 hl) h 60
  have main : ∃ t : ByteArray, Ev (fun k => (if b = true then ((spec_l01Below.f l i1 g1 2).bind fun bt184 => ((spec_l01Long.f k (wrap64 (20000 + bt184.1)) 200).bind fun t187 => (some t187))) else ((spec_l01Below.f l i1 g1 30).bind fun bt188 => ((spec_l01Text.f k l bt188.2.1 bt188.2.2 bt188.1).bind fun bt191 => (some bt191.1))))) t := by
    cases b with
    | true =>
      obtain ⟨x, i2, g2, e2, c2, x0, x1, _⟩ := below_ok c1 g1 2
      have hx := x1 (by omega)
      simp only [if_true, e2, Option.bind_some]
      obtain ⟨m, rfl⟩ := Int.eq_ofNat_of_zero_le x0
      obtain ⟨s, hs, _⟩ := long_ok (20000 + m) (by omega) 200
      refine ⟨s, ?_⟩
      rw [show wrap64 (20000 + (m : Int)) = ((20000 + m : Nat) : Int) from by rw [Math.wrap_in (by omega) (by omega)]; omega]
      exact Ev.bind (f := fun _ t187 => some t187) hs (Math.Ev.const rfl)
    | false =>
      obtain ⟨x, i2, g2, e2, c2, x0, x1, _⟩ := below_ok c1 g1 30
      simp only [Bool.false_eq_true, if_false, e2, Option.bind_some]
      obtain ⟨m, rfl⟩ := Int.eq_ofNat_of_zero_le x0
      obtain ⟨s, i3, g3, hs, _⟩ := text_ok c2 g2 m
      exact ⟨s, Ev.bind (f := fun _ (bt191 : ByteArray × Int × Int) => some bt191.1) hs (Math.Ev.const rfl)⟩
  obtain ⟨t, ht⟩ := main
  refine ⟨t, Ev.congr (fun k => by unfold spec_DrawHex.f; rfl) (Ev.bind (f := fun k (bt177 : List Int × Int × Int) => ((spec_l01Once.f bt177.1 bt177.2.1 bt177.2.2 60).bind fun bt181 => (if bt181.1 = true then ((spec_l01Below.f bt177.1 bt181.2.1 bt181.2.2 2).bind fun bt184 => ((spec_l01Long.f k (wrap64 (20000 + bt184.1)) 200).bind fun t187 => (some t187))) else ((spec_l01Below.f bt177.1 bt181.2.1 bt181.2.2 30).bind fun bt188 => ((spec_l01Text.f k bt177.1 bt188.2.1 bt188.2.2 bt188.1).bind fun bt191 => (some bt191.1)))))) hnew ?_)⟩
  refine Ev.congr (fun k => ?_) ht
  simp only [e1, Option.bind_some]
theorem FnNumbers : laws_FnNumbers.Pure := by
  intro l hm hm2 hw
  show ∃ k, laws_FnNumbers.f k l = some true
  by_cases hb : (l.length : Int) > 1048576
  · exact ⟨0, by unfold laws_FnNumbers.f; rw [big_is, Option.bind_some, if_pos (decide_eq_true hb)]⟩
  · have hl : l.length ≤ 2000000 := by omega
    obtain ⟨n0, d1⟩ := drawVarText_ev hl
    obtain ⟨t0, d2⟩ := drawHex_ev hl
    obtain ⟨n, hnv, hn⟩ : ∃ n : Nat, n ≤ 1000000000 ∧ (n : Int) = if n0 < 0 then 12345 else if n0 > 1000000000 then 12345 else n0 := by
      by_cases c1 : n0 < 0
      · exact ⟨12345, by omega, by rw [if_pos c1]; rfl⟩
      · by_cases c2 : n0 > 1000000000
        · exact ⟨12345, by omega, by rw [if_neg c1, if_pos c2]; rfl⟩
        · exact ⟨n0.toNat, by omega, by rw [if_neg c1, if_neg c2]; omega⟩
    obtain ⟨t, htz, ht⟩ : ∃ t : ByteArray, t.size ≤ 300 ∧ t = if (t0.size : Int) > 300 then (⟨#[97, 98, 99]⟩ : ByteArray) else t0 := by
      by_cases c1 : (t0.size : Int) > 300
      · exact ⟨_, by rw [if_pos c1]; decide, rfl⟩
      · exact ⟨_, by rw [if_neg c1]; omega, rfl⟩
    have hvs := Math.varS_size n
    have d3 := impl_VarText_ev (n : Int)
    rw [show varOk (n : Int) = (Math.varS n, true) from by unfold varOk; rw [if_pos (by omega), Int.toNat_natCast]] at d3
    have hs1 : (((⟨#[120]⟩ : ByteArray) ++ Math.varS n) ++ (⟨#[121]⟩ : ByteArray)).size = 1 + (Math.varS n).size + 1 := by rw [Math.size_append, Math.size_append]; rfl
    have d4 := impl_ReadVar_ev (((⟨#[120]⟩ : ByteArray) ++ Math.varS n) ++ (⟨#[121]⟩ : ByteArray)) (by omega) 1
    have r4 := readVar_mid (⟨#[120]⟩ : ByteArray) (⟨#[121]⟩ : ByteArray) n hnv
    rw [show (((⟨#[120]⟩ : ByteArray).size : Nat) : Int) = 1 from rfl] at r4
    rw [r4] at d4
    have d5 := impl_Decimal_ev (n : Int) (by omega) (by omega)
    have d6 := impl_ReadDecimal_ev (Math.decS (n : Int))
    rw [readDec_round n hnv] at d6
    have d7 := impl_ShortText_ev t (by omega)
    rw [show Math.shortS t = (Math.varS t.size ++ t, true) from by unfold Math.shortS; rw [if_neg (by omega)]] at d7
    have hvt := Math.varS_size t.size
    have hs2 := Math.size_append (Math.varS t.size) t
    have d8 := impl_ReadShort_ev (Math.varS t.size ++ t) (by omega) 0
    rw [readShort_round t (by omega)] at d8
    have hr := hex_round t (by omega)
    have d9 := impl_Hex_ev t
    rw [hr.1] at d9
    have hhl := hexL_len t.data.toList
    rw [Math.size_data] at hhl
    have d10 := impl_Unhex_ev (strOfNums (hexL t.data.toList)) (by rw [strOfNums_size, hhl]; omega)
    rw [hr.2] at d10
    obtain ⟨K1, d1⟩ := d1
    obtain ⟨K2, d2⟩ := d2
    obtain ⟨K3, d3⟩ := d3
    obtain ⟨K4, d4⟩ := d4
    obtain ⟨K5, d5⟩ := d5
    obtain ⟨K6, d6⟩ := d6
    obtain ⟨K7, d7⟩ := d7
    obtain ⟨K8, d8⟩ := d8
    obtain ⟨K9, d9⟩ := d9
    obtain ⟨K10, d10⟩ := d10
    obtain ⟨K, hK⟩ : ∃ K, K = K1 + K2 + K3 + K4 + K5 + K6 + K7 + K8 + K9 + K10 := ⟨_, rfl⟩
    have q1 := d1 (K + 3) (by omega)
    have q2 := d2 (K + 1) (by omega)
    have q3 := d3 (K + 1) (by omega)
    have q4 := d4 (K + 1) (by omega)
    have q5 := d5 (K + 1) (by omega)
    have q6 := d6 (K + 1) (by omega)
    have q7 := d7 K (by omega)
    have q8 := d8 K (by omega)
    have q9 := d9 K (by omega)
    have q10 := d10 K (by omega)
    simp only at q1 q2 q3 q4 q5 q6 q7 q8 q9 q10
    have hs3 : (1 + (Math.varS n).size ≤ 9223372036854775807) = True := eq_true (by omega)
    have hs4 : (((⟨#[120]⟩ : ByteArray) ++ Math.varS n).size + 1 ≤ 9223372036854775807) = True := eq_true (by rw [Math.size_append]; show 1 + _ + 1 ≤ _; omega)
    have hw3 : PLift (wrap64 (((Math.varS n).size : Int) + 1) = (((⟨#[120]⟩ : ByteArray).size + (Math.varS n).size : Nat) : Int)) := ⟨by rw [Math.wrap_in (by omega) (by omega)]; show _ = ((1 + _ : Nat) : Int); omega⟩
    clear d1 d2 d3 d4 d5 d6 d7 d8 d9 d10
    have j2 : laws_FnNumbers.j2 (K + 1) (n : Int) (Math.varS n) true (n : Int) (((⟨#[120]⟩ : ByteArray).size + (Math.varS n).size : Nat) : Int) true (n : Int) true t = some true := by
      rw [laws_FnNumbers.j2, q7, Option.bind_some, q8, Option.bind_some, q9, Option.bind_some, q10, Option.bind_some]
      simp only [if_true, hw3.down, beq_self_eq_true]
    have j1 : laws_FnNumbers.j1 (K + 2) l (n : Int) = some true := by
      rw [laws_FnNumbers.j1, q3, Option.bind_some]
      simp only [hs3, hs4, if_true]
      rw [q4, Option.bind_some, q5, Option.bind_some, q6, Option.bind_some, q2, Option.bind_some]
      by_cases c1 : (t0.size : Int) > 300
      · rw [if_pos c1]
        rw [if_pos c1] at ht
        rw [← ht]
        exact j2
      · rw [if_neg c1]
        rw [if_neg c1] at ht
        rw [← ht]
        exact j2
    refine ⟨K + 3, ?_⟩
    unfold laws_FnNumbers.f
    rw [big_is, Option.bind_some, if_neg (by rw [decide_eq_false hb]; decide), q1, Option.bind_some]
    by_cases c1 : n0 < 0
    · rw [if_pos c1] at hn
      rw [if_pos c1, laws_FnNumbers.j0, if_pos rfl, ← hn]
      exact j1
    · rw [if_neg c1]
      by_cases c2 : n0 > 1000000000
      · rw [if_neg c1, if_pos c2] at hn
        rw [laws_FnNumbers.j0, if_pos (decide_eq_true c2), ← hn]
        exact j1
      · rw [if_neg c1, if_neg c2] at hn
        rw [laws_FnNumbers.j0, if_neg (by rw [decide_eq_false c2]; decide), ← hn]
        exact j1

end Go.Proofs.Ytppjbaogabicdaa.Pure
