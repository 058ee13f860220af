/- For every text the program's Unsealed answers what the reference's Unsealed answers. -/
import Derived.Test.YtaljdljhbhmipaaPFnExactUnsealedx2
import Derived.Test.YtaljdljhbhmipaaMath
namespace Go.Proofs.Ytaljdljhbhmipaa.Pure
open Go.RowKit Go.Proofs.Ytaljdljhbhmipaa.PFnExactUnsealed Go.Proofs.YtaljdljhbhmipaaW.PrintWords Go.Proofs.YtaljdljhbhmipaaW.PrintLast Go.Proofs.YtaljdljhbhmipaaW.PrintMore
set_option linter.unusedVariables false

theorem impl_within_is (a lo hi : Int) : impl_within.f a lo hi = some (decide (lo ≤ a ∧ a ≤ hi)) := by
  unfold impl_within.f
  by_cases h : a ≥ lo
  · rw [if_pos h]
    by_cases h2 : a ≤ hi
    · simp [h, h2]
    · simp [h2]
  · rw [if_neg h]
    have : ¬ lo ≤ a := h
    simp [this]
theorem u32_xor_nat' (a b : Nat) (ha : a < 4294967296) (hb : b < 4294967296) : Go.bits .xor .u32 (a : Int) (b : Int) = ((a ^^^ b : Nat) : Int) := u32_xor_nat a b ha hb
theorem spec_SumMore_l1 (s : ByteArray) (i : Int) (d : Nat) : ∀ (k x : Nat), x < 4294967296 → d ≤ 8 →
    spec_SumMore.l1 (k + d + 1) (x : Int) s i (8 - (d : Int)) = spec_SumMore.l0 k (Math.crcBits d x : Nat) s (wrap64 (i + 1)) := by
  induction d with
  | zero =>
    intro k x hx _
    rw [spec_SumMore.l1]
    rw [if_neg (by omega)]
    rfl
  | succ d ih =>
    intro k x hx hd
    have hw : wrap64 (8 - ((d + 1 : Nat) : Int) + 1) = 8 - (d : Int) := by unfold wrap64; omega
    have e : k + (d + 1) + 1 = (k + d + 1) + 1 := by omega
    rw [e]
    rw [spec_SumMore.l1]
    rw [if_pos (by omega), hw]
    have hm : (Int.tmod (x : Int) 2) = ((x % 2 : Nat) : Int) := by rw [Int.tmod_eq_emod_of_nonneg (by omega)]; omega
    have hh : ((Int.tdiv (x : Int) 2) % 4294967296) = ((x / 2 : Nat) : Int) := by rw [Int.tdiv_eq_ediv_of_nonneg (by omega)]; omega
    have hxor : Go.bits .xor .u32 ((x / 2 : Nat) : Int) 3558460437 = (((x / 2) ^^^ 3558460437 : Nat) : Int) := u32_xor_nat' (x / 2) 3558460437 (by omega) (by omega)
    rw [hm, hh, hxor]
    by_cases c : x % 2 = 1
    · rw [if_pos (by omega)]
      have := ih k (Math.crcBit x) (Math.crcBit_lt hx) (by omega)
      unfold Math.crcBit at this
      rw [if_pos c] at this
      rw [this]
      simp only [Math.crcBits, Math.crcBit, if_pos c]
    · rw [if_neg (by omega)]
      have := ih k (Math.crcBit x) (Math.crcBit_lt hx) (by omega)
      unfold Math.crcBit at this
      rw [if_neg c] at this
      rw [this]
      simp only [Math.crcBits, Math.crcBit, if_neg c]
theorem spec_SumMore_l0 (s : ByteArray) (hs : s.size ≤ 140737488351232) (d : Nat) : ∀ (k x i : Nat), x < 4294967296 → i + d = s.size →
    spec_SumMore.l0 (k + 10 * d + 1) (x : Int) s (i : Int) = some ((Math.crc x (s.data.toList.drop i) : Nat) : Int) := by
  induction d with
  | zero =>
    intro k x i hx hi
    rw [spec_SumMore.l0]
    rw [if_neg (by omega), List.drop_eq_nil_of_le (by rw [Math.size_data]; omega)]
    rfl
  | succ d ih =>
    intro k x i hx hi
    have e : k + 10 * (d + 1) + 1 = ((k + 10 * d + 1) + 8 + 1) + 1 := by omega
    rw [e]
    rw [spec_SumMore.l0]
    have hlt : i < s.size := by omega
    have hb := (s.data.toList[i]'(by rw [Math.size_data]; exact hlt)).toNat_lt
    rw [if_pos (by omega), if_pos (by omega), Math.bt_nat s i hlt]
    rw [show (((s.data.toList[i]'(by rw [Math.size_data]; exact hlt)).toNat : Int) % 4294967296) = (((s.data.toList[i]'(by rw [Math.size_data]; exact hlt)).toNat : Nat) : Int) from by omega]
    rw [u32_xor_nat' _ _ hx (by omega)]
    have h1 := spec_SumMore_l1 s i 8 (k + 10 * d + 1) (x ^^^ (s.data.toList[i]'(by rw [Math.size_data]; exact hlt)).toNat) (Nat.xor_lt_two_pow (n := 32) (by omega) (by omega)) (by omega)
    rw [show ((8 : Int) - ((8 : Nat) : Int)) = 0 from by omega] at h1
    rw [h1, show wrap64 ((i : Int) + 1) = ((i + 1 : Nat) : Int) from by unfold wrap64; omega]
    have h2 := ih k _ (i + 1) (Math.crcByte_lt (b := (s.data.toList[i]'(by rw [Math.size_data]; exact hlt)).toNat) hx (by omega)) (by omega)
    rw [Math.drop_at s i hlt]
    exact h2
theorem spec_SumMore_ev (s : ByteArray) (hs : s.size ≤ 140737488351232) (x : Nat) (hx : x < 4294967296) : Ev (fun k => spec_SumMore.f k (x : Int) s) ((Math.crc x s.data.toList : Nat) : Int) := by
  refine Ev.of (k := 10 * s.size + 1) (spec_SumMore.mono (x : Int) s) ?_
  have := spec_SumMore_l0 s hs s.size 0 x 0 hx (by omega)
  rw [Nat.zero_add] at this
  exact this
theorem impl_SumMore_l1 (s : ByteArray) (i : Int) (d : Nat) : ∀ (k x : Nat), x < 4294967296 → d ≤ 8 →
    impl_SumMore.l1 (k + d + 1) (x : Int) s i (8 - (d : Int)) = impl_SumMore.l0 k (Math.crcBits d x : Nat) s (wrap64 (i + 1)) := by
  induction d with
  | zero =>
    intro k x hx _
    rw [impl_SumMore.l1]
    rw [if_neg (by omega)]
    rfl
  | succ d ih =>
    intro k x hx hd
    have hw : wrap64 (8 - ((d + 1 : Nat) : Int) + 1) = 8 - (d : Int) := by unfold wrap64; omega
    have e : k + (d + 1) + 1 = (k + d + 1) + 1 := by omega
    rw [e]
    rw [impl_SumMore.l1]
    rw [if_pos (by omega), hw]
    have hm : (Go.bits .and .u32 (x : Int) 1) = ((x % 2 : Nat) : Int) := by have := u32_and_nat x 1 hx (by omega); rw [Nat.and_one_is_mod] at this; exact this
    have hh : ((x : Int) / 2) = ((x / 2 : Nat) : Int) := by omega
    have hxor : Go.bits .xor .u32 ((x / 2 : Nat) : Int) 3558460437 = (((x / 2) ^^^ 3558460437 : Nat) : Int) := u32_xor_nat' (x / 2) 3558460437 (by omega) (by omega)
    rw [hm, hh, hxor]
    by_cases c : x % 2 = 1
    · rw [if_pos (by omega)]
      have := ih k (Math.crcBit x) (Math.crcBit_lt hx) (by omega)
      unfold Math.crcBit at this
      rw [if_pos c] at this
      rw [this]
      simp only [Math.crcBits, Math.crcBit, if_pos c]
    · rw [if_neg (by omega)]
      have := ih k (Math.crcBit x) (Math.crcBit_lt hx) (by omega)
      unfold Math.crcBit at this
      rw [if_neg c] at this
      rw [this]
      simp only [Math.crcBits, Math.crcBit, if_neg c]
theorem impl_SumMore_l0 (s : ByteArray) (hs : s.size ≤ 140737488351232) (d : Nat) : ∀ (k x i : Nat), x < 4294967296 → i + d = s.size →
    impl_SumMore.l0 (k + 10 * d + 1) (x : Int) s (i : Int) = some ((Math.crc x (s.data.toList.drop i) : Nat) : Int) := by
  induction d with
  | zero =>
    intro k x i hx hi
    rw [impl_SumMore.l0]
    rw [if_neg (by omega), List.drop_eq_nil_of_le (by rw [Math.size_data]; omega)]
    rfl
  | succ d ih =>
    intro k x i hx hi
    have e : k + 10 * (d + 1) + 1 = ((k + 10 * d + 1) + 8 + 1) + 1 := by omega
    rw [e]
    rw [impl_SumMore.l0]
    have hlt : i < s.size := by omega
    have hb := (s.data.toList[i]'(by rw [Math.size_data]; exact hlt)).toNat_lt
    rw [if_pos (by omega), if_pos (by omega), Math.bt_nat s i hlt]
    rw [show (((s.data.toList[i]'(by rw [Math.size_data]; exact hlt)).toNat : Int) % 4294967296) = (((s.data.toList[i]'(by rw [Math.size_data]; exact hlt)).toNat : Nat) : Int) from by omega]
    rw [u32_xor_nat' _ _ hx (by omega)]
    have h1 := impl_SumMore_l1 s i 8 (k + 10 * d + 1) (x ^^^ (s.data.toList[i]'(by rw [Math.size_data]; exact hlt)).toNat) (Nat.xor_lt_two_pow (n := 32) (by omega) (by omega)) (by omega)
    rw [show ((8 : Int) - ((8 : Nat) : Int)) = 0 from by omega] at h1
    rw [h1, show wrap64 ((i : Int) + 1) = ((i + 1 : Nat) : Int) from by unfold wrap64; omega]
    have h2 := ih k _ (i + 1) (Math.crcByte_lt (b := (s.data.toList[i]'(by rw [Math.size_data]; exact hlt)).toNat) hx (by omega)) (by omega)
    rw [Math.drop_at s i hlt]
    exact h2
theorem impl_SumMore_ev (s : ByteArray) (hs : s.size ≤ 140737488351232) (x : Nat) (hx : x < 4294967296) : Ev (fun k => impl_SumMore.f k (x : Int) s) ((Math.crc x s.data.toList : Nat) : Int) := by
  refine Ev.of (k := 10 * s.size + 1) (impl_SumMore.mono (x : Int) s) ?_
  have := impl_SumMore_l0 s hs s.size 0 x 0 hx (by omega)
  rw [Nat.zero_add] at this
  exact this
theorem spec_SumOf_ev (s : ByteArray) (hs : s.size ≤ 140737488351232) : Ev (fun k => spec_SumOf.f k s) ((Math.crc 4294967295 s.data.toList : Nat) : Int) := by
  have h := spec_SumMore_ev s hs 4294967295 (by omega)
  exact Ev.bind (f := fun _ t => some t) h (Math.Ev.const rfl)
theorem impl_SumOf_ev (s : ByteArray) (hs : s.size ≤ 140737488351232) : Ev (fun k => impl_SumOf.f k s) ((Math.crc 4294967295 s.data.toList : Nat) : Int) := by
  have h := impl_SumMore_ev s hs 4294967295 (by omega)
  exact Ev.bind (f := fun _ t => some t) h (Math.Ev.const rfl)
def unsealS (s : ByteArray) : ByteArray × Bool :=
  if 4 ≤ s.size ∧ s.size ≤ 20004 ∧ Math.crc 4294967295 (s.extract 0 (s.size - 4)).data.toList = Math.fourN s (s.size - 4) then (s.extract 0 (s.size - 4), true) else (⟨#[]⟩, false)
theorem spec_Unsealed_ev (s : ByteArray) (hs : s.size ≤ 140737488351232) : Ev (fun k => spec_Unsealed.f k s) (unsealS s) := by
  have hw : wrap64 ((s.size : Int) - 4) = (s.size : Int) - 4 := Math.wrap_in (by omega) (by omega)
  unfold unsealS
  by_cases h4 : 4 ≤ s.size ∧ s.size ≤ 20004
  · obtain ⟨p, hp⟩ : ∃ p, p + 4 = s.size := ⟨s.size - 4, by omega⟩
    have hw2 : wrap64 ((s.size : Int) - 4) = (p : Int) := by rw [hw]; omega
    have hp4 : s.size - 4 = p := by omega
    rw [hp4]
    refine Ev.congr (f := fun k => (spec_SumOf.f k (s.extract 0 p)).bind fun t105 => ((spec_l02Four.f t105).bind fun t106 => (if (s.extract p s.size).toList = t106.toList then (some (s.extract 0 p, true)) else (some ((⟨#[]⟩ : ByteArray), false))))) (fun k => ?_) ?_
    · unfold spec_Unsealed.f
      rw [hw2, if_neg (by omega), if_neg (by omega), if_pos (by omega), if_pos (by omega), Int.toNat_natCast]
    · have hx : (s.extract 0 p).size ≤ 140737488351232 := by rw [ByteArray.size_extract]; omega
      refine Ev.bind (f := fun _ t105 => (spec_l02Four.f t105).bind fun t106 => (if (s.extract p s.size).toList = t106.toList then (some (s.extract 0 p, true)) else (some ((⟨#[]⟩ : ByteArray), false)))) (spec_SumOf_ev _ hx) (Math.Ev.const ?_)
      have hl := Math.crc_lt (s.extract 0 p).data.toList (x := 4294967295) (by omega)
      have hfe := Math.four_eq s p hp _ hl
      show (if (s.extract p s.size).toList = (Math.fourS ((Math.crc 4294967295 (s.extract 0 p).data.toList : Nat) : Int)).toList then (some (s.extract 0 p, true)) else (some ((⟨#[]⟩ : ByteArray), false))) = _
      by_cases c : Math.crc 4294967295 (s.extract 0 p).data.toList = Math.fourN s p
      · rw [if_pos (Math.str_eq.2 (hfe.2 c)), if_pos ⟨h4.1, h4.2, c⟩]
      · rw [if_neg (fun e => c (hfe.1 (Math.str_eq.1 e))), if_neg (fun e => c e.2.2)]
  · rw [if_neg (fun e => h4 ⟨e.1, e.2.1⟩)]
    refine ⟨0, fun k _ => ?_⟩
    show spec_Unsealed.f k s = _
    unfold spec_Unsealed.f
    rw [hw]
    by_cases c : (s.size : Int) - 4 < 0
    · rw [if_pos c]
    · rw [if_neg c, if_pos (by omega)]
theorem impl_fourAt_is (s : ByteArray) (hs : s.size ≤ 140737488351232) (p : Nat) (h : p + 4 ≤ s.size) : impl_fourAt.f s (p : Int) = some ((Math.fourN s p : Nat) : Int) := by
  unfold impl_fourAt.f
  rw [show wrap64 ((p : Int) + 1) = ((p + 1 : Nat) : Int) from by rw [Math.wrap_in (by omega) (by omega)]; omega, show wrap64 ((p : Int) + 2) = ((p + 2 : Nat) : Int) from by rw [Math.wrap_in (by omega) (by omega)]; omega, show wrap64 ((p : Int) + 3) = ((p + 3 : Nat) : Int) from by rw [Math.wrap_in (by omega) (by omega)]; omega]
  rw [if_pos (by omega), if_pos (by omega), if_pos (by omega), if_pos (by omega), if_pos (by omega), if_pos (by omega), if_pos (by omega), if_pos (by omega)]
  have := Math.four_join _ _ _ _ (Math.bt_lt s (p : Int)) (Math.bt_lt s ((p + 1 : Nat) : Int)) (Math.bt_lt s ((p + 2 : Nat) : Int)) (Math.bt_lt s ((p + 3 : Nat) : Int))
  rw [← Math.bt_cast, ← Math.bt_cast, ← Math.bt_cast, ← Math.bt_cast] at this
  rw [this]
  rfl
theorem impl_Unsealed_ev (s : ByteArray) (hs : s.size ≤ 140737488351232) : Ev (fun k => impl_Unsealed.f k s) (unsealS s) := by
  have hw : wrap64 ((s.size : Int) - 4) = (s.size : Int) - 4 := Math.wrap_in (by omega) (by omega)
  unfold unsealS
  by_cases h4 : 4 ≤ s.size ∧ s.size ≤ 20004
  · obtain ⟨p, hp⟩ : ∃ p, p + 4 = s.size := ⟨s.size - 4, by omega⟩
    have hw2 : wrap64 ((s.size : Int) - 4) = (p : Int) := by rw [hw]; omega
    have hp4 : s.size - 4 = p := by omega
    rw [hp4]
    refine Ev.congr (f := fun k => (impl_SumOf.f k (s.extract 0 p)).bind fun t109 => ((impl_fourAt.f s (p : Int)).bind fun t110 => (if (wrap64 (t109)) = t110 then (some (s.extract 0 p, true)) else (some ((⟨#[]⟩ : ByteArray), false))))) (fun k => ?_) ?_
    · unfold impl_Unsealed.f
      rw [hw2, impl_within_is, Option.bind_some, if_pos (decide_eq_true (by omega)), if_pos (by omega), if_pos (by omega), Int.toNat_natCast]
    · have hx : (s.extract 0 p).size ≤ 140737488351232 := by rw [ByteArray.size_extract]; omega
      refine Ev.bind (f := fun _ t109 => (impl_fourAt.f s (p : Int)).bind fun t110 => (if (wrap64 (t109)) = t110 then (some (s.extract 0 p, true)) else (some ((⟨#[]⟩ : ByteArray), false)))) (impl_SumOf_ev _ hx) (Math.Ev.const ?_)
      have hl := Math.crc_lt (s.extract 0 p).data.toList (x := 4294967295) (by omega)
      rw [impl_fourAt_is s hs p (by omega), Option.bind_some, Math.wrap_in (by omega) (by omega)]
      by_cases c : Math.crc 4294967295 (s.extract 0 p).data.toList = Math.fourN s p
      · rw [if_pos (by omega), if_pos ⟨h4.1, h4.2, c⟩]
      · rw [if_neg (by omega), if_neg (fun e => c e.2.2)]
  · rw [if_neg (fun e => h4 ⟨e.1, e.2.1⟩)]
    refine ⟨0, fun k _ => ?_⟩
    show impl_Unsealed.f k s = _
    unfold impl_Unsealed.f
    rw [hw, impl_within_is, Option.bind_some, if_neg (by rw [decide_eq_false (by omega)]; decide)]
theorem FnExactUnsealed : laws_FnExactUnsealed.Pure := by
  intro s hs
  refine Ev.rounds ?_
  by_cases hc : (s.size : Int) > 1048576
  · exact ⟨0, fun k _ => by show laws_FnExactUnsealed.f k s = _; unfold laws_FnExactUnsealed.f; rw [if_pos hc]⟩
  · refine Ev.congr (fun k => by unfold laws_FnExactUnsealed.f; rw [if_neg hc]) ?_
    exact Math.Ev.both (r := true) (f := fun _ (x y : ByteArray × Bool) => (if y.1.toList = x.1.toList then (if (y.2 != x.2) = true then (some false) else (some true)) else (some false))) (spec_Unsealed_ev s hs) (impl_Unsealed_ev s hs) (fun _ => by simp)
end Go.Proofs.Ytaljdljhbhmipaa.Pure
