/- For every text the program's Sealed answers what the reference's Sealed answers. -/
import Derived.Test.YtaljdljhbhmipaaPFnExactSealedx1
import Derived.Test.YtaljdljhbhmipaaMath
namespace Go.Proofs.Ytaljdljhbhmipaa.Pure
open Go.RowKit Go.Proofs.Ytaljdljhbhmipaa.PFnExactSealed Go.Proofs.YtaljdljhbhmipaaW.PrintWords Go.Proofs.YtaljdljhbhmipaaW.PrintLast Go.Proofs.YtaljdljhbhmipaaW.PrintMore
set_option linter.unusedVariables false

theorem u32_xor_nat' (a b : Nat) (ha : a < 4294967296) (hb : b < 4294967296) : Go.bits .xor .u32 (a : Int) (b : Int) = ((a ^^^ b : Nat) : Int) := u32_xor_nat a b ha hb
theorem spec_SumMore_l1 (s : ByteArray) (i : Int) (d : Nat) : ∀ (k x : Nat), x < 4294967296 → d ≤ 8 →
    spec_SumMore.l1 (k + d + 1) (x : Int) s i (8 - (d : Int)) = spec_SumMore.l0 k (Math.crcBits d x : Nat) s (wrap64 (i + 1)) := by
  induction d with
  | zero =>
    intro k x hx _
    rw [spec_SumMore.l1]
    rw [if_neg (by omega)]
    rfl
  | succ d ih =>
    intro k x hx hd
    have hw : wrap64 (8 - ((d + 1 : Nat) : Int) + 1) = 8 - (d : Int) := by unfold wrap64; omega
    have e : k + (d + 1) + 1 = (k + d + 1) + 1 := by omega
    rw [e]
    rw [spec_SumMore.l1]
    rw [if_pos (by omega), hw]
    have hm : (Int.tmod (x : Int) 2) = ((x % 2 : Nat) : Int) := by rw [Int.tmod_eq_emod_of_nonneg (by omega)]; omega
    have hh : ((Int.tdiv (x : Int) 2) % 4294967296) = ((x / 2 : Nat) : Int) := by rw [Int.tdiv_eq_ediv_of_nonneg (by omega)]; omega
    have hxor : Go.bits .xor .u32 ((x / 2 : Nat) : Int) 3558460437 = (((x / 2) ^^^ 3558460437 : Nat) : Int) := u32_xor_nat' (x / 2) 3558460437 (by omega) (by omega)
    rw [hm, hh, hxor]
    by_cases c : x % 2 = 1
    · rw [if_pos (by omega)]
      have := ih k (Math.crcBit x) (Math.crcBit_lt hx) (by omega)
      unfold Math.crcBit at this
      rw [if_pos c] at this
      rw [this]
      simp only [Math.crcBits, Math.crcBit, if_pos c]
    · rw [if_neg (by omega)]
      have := ih k (Math.crcBit x) (Math.crcBit_lt hx) (by omega)
      unfold Math.crcBit at this
      rw [if_neg c] at this
      rw [this]
      simp only [Math.crcBits, Math.crcBit, if_neg c]
theorem spec_SumMore_l0 (s : ByteArray) (hs : s.size ≤ 140737488351232) (d : Nat) : ∀ (k x i : Nat), x < 4294967296 → i + d = s.size →
    spec_SumMore.l0 (k + 10 * d + 1) (x : Int) s (i : Int) = some ((Math.crc x (s.data.toList.drop i) : Nat) : Int) := by
  induction d with
  | zero =>
    intro k x i hx hi
    rw [spec_SumMore.l0]
    rw [if_neg (by omega), List.drop_eq_nil_of_le (by rw [Math.size_data]; omega)]
    rfl
  | succ d ih =>
    intro k x i hx hi
    have e : k + 10 * (d + 1) + 1 = ((k + 10 * d + 1) + 8 + 1) + 1 := by omega
    rw [e]
    rw [spec_SumMore.l0]
    have hlt : i < s.size := by omega
    have hb := (s.data.toList[i]'(by rw [Math.size_data]; exact hlt)).toNat_lt
    rw [if_pos (by omega), if_pos (by omega), Math.bt_nat s i hlt]
    rw [show (((s.data.toList[i]'(by rw [Math.size_data]; exact hlt)).toNat : Int) % 4294967296) = (((s.data.toList[i]'(by rw [Math.size_data]; exact hlt)).toNat : Nat) : Int) from by omega]
    rw [u32_xor_nat' _ _ hx (by omega)]
    have h1 := spec_SumMore_l1 s i 8 (k + 10 * d + 1) (x ^^^ (s.data.toList[i]'(by rw [Math.size_data]; exact hlt)).toNat) (Nat.xor_lt_two_pow (n := 32) (by omega) (by omega)) (by omega)
    rw [show ((8 : Int) - ((8 : Nat) : Int)) = 0 from by omega] at h1
    rw [h1, show wrap64 ((i : Int) + 1) = ((i + 1 : Nat) : Int) from by unfold wrap64; omega]
    have h2 := ih k _ (i + 1) (Math.crcByte_lt (b := (s.data.toList[i]'(by rw [Math.size_data]; exact hlt)).toNat) hx (by omega)) (by omega)
    rw [Math.drop_at s i hlt]
    exact h2
theorem spec_SumMore_ev (s : ByteArray) (hs : s.size ≤ 140737488351232) (x : Nat) (hx : x < 4294967296) : Ev (fun k => spec_SumMore.f k (x : Int) s) ((Math.crc x s.data.toList : Nat) : Int) := by
  refine Ev.of (k := 10 * s.size + 1) (spec_SumMore.mono (x : Int) s) ?_
  have := spec_SumMore_l0 s hs s.size 0 x 0 hx (by omega)
  rw [Nat.zero_add] at this
  exact this
theorem impl_SumMore_l1 (s : ByteArray) (i : Int) (d : Nat) : ∀ (k x : Nat), x < 4294967296 → d ≤ 8 →
    impl_SumMore.l1 (k + d + 1) (x : Int) s i (8 - (d : Int)) = impl_SumMore.l0 k (Math.crcBits d x : Nat) s (wrap64 (i + 1)) := by
  induction d with
  | zero =>
    intro k x hx _
    rw [impl_SumMore.l1]
    rw [if_neg (by omega)]
    rfl
  | succ d ih =>
    intro k x hx hd
    have hw : wrap64 (8 - ((d + 1 : Nat) : Int) + 1) = 8 - (d : Int) := by unfold wrap64; omega
    have e : k + (d + 1) + 1 = (k + d + 1) + 1 := by omega
    rw [e]
    rw [impl_SumMore.l1]
    rw [if_pos (by omega), hw]
    have hm : (Go.bits .and .u32 (x : Int) 1) = ((x % 2 : Nat) : Int) := by have := u32_and_nat x 1 hx (by omega); rw [Nat.and_one_is_mod] at this; exact this
    have hh : ((x : Int) / 2) = ((x / 2 : Nat) : Int) := by omega
    have hxor : Go.bits .xor .u32 ((x / 2 : Nat) : Int) 3558460437 = (((x / 2) ^^^ 3558460437 : Nat) : Int) := u32_xor_nat' (x / 2) 3558460437 (by omega) (by omega)
    rw [hm, hh, hxor]
    by_cases c : x % 2 = 1
    · rw [if_pos (by omega)]
      have := ih k (Math.crcBit x) (Math.crcBit_lt hx) (by omega)
      unfold Math.crcBit at this
      rw [if_pos c] at this
      rw [this]
      simp only [Math.crcBits, Math.crcBit, if_pos c]
    · rw [if_neg (by omega)]
      have := ih k (Math.crcBit x) (Math.crcBit_lt hx) (by omega)
      unfold Math.crcBit at this
      rw [if_neg c] at this
      rw [this]
      simp only [Math.crcBits, Math.crcBit, if_neg c]
theorem impl_SumMore_l0 (s : ByteArray) (hs : s.size ≤ 140737488351232) (d : Nat) : ∀ (k x i : Nat), x < 4294967296 → i + d = s.size →
    impl_SumMore.l0 (k + 10 * d + 1) (x : Int) s (i : Int) = some ((Math.crc x (s.data.toList.drop i) : Nat) : Int) := by
  induction d with
  | zero =>
    intro k x i hx hi
    rw [impl_SumMore.l0]
    rw [if_neg (by omega), List.drop_eq_nil_of_le (by rw [Math.size_data]; omega)]
    rfl
  | succ d ih =>
    intro k x i hx hi
    have e : k + 10 * (d + 1) + 1 = ((k + 10 * d + 1) + 8 + 1) + 1 := by omega
    rw [e]
    rw [impl_SumMore.l0]
    have hlt : i < s.size := by omega
    have hb := (s.data.toList[i]'(by rw [Math.size_data]; exact hlt)).toNat_lt
    rw [if_pos (by omega), if_pos (by omega), Math.bt_nat s i hlt]
    rw [show (((s.data.toList[i]'(by rw [Math.size_data]; exact hlt)).toNat : Int) % 4294967296) = (((s.data.toList[i]'(by rw [Math.size_data]; exact hlt)).toNat : Nat) : Int) from by omega]
    rw [u32_xor_nat' _ _ hx (by omega)]
    have h1 := impl_SumMore_l1 s i 8 (k + 10 * d + 1) (x ^^^ (s.data.toList[i]'(by rw [Math.size_data]; exact hlt)).toNat) (Nat.xor_lt_two_pow (n := 32) (by omega) (by omega)) (by omega)
    rw [show ((8 : Int) - ((8 : Nat) : Int)) = 0 from by omega] at h1
    rw [h1, show wrap64 ((i : Int) + 1) = ((i + 1 : Nat) : Int) from by unfold wrap64; omega]
    have h2 := ih k _ (i + 1) (Math.crcByte_lt (b := (s.data.toList[i]'(by rw [Math.size_data]; exact hlt)).toNat) hx (by omega)) (by omega)
    rw [Math.drop_at s i hlt]
    exact h2
theorem impl_SumMore_ev (s : ByteArray) (hs : s.size ≤ 140737488351232) (x : Nat) (hx : x < 4294967296) : Ev (fun k => impl_SumMore.f k (x : Int) s) ((Math.crc x s.data.toList : Nat) : Int) := by
  refine Ev.of (k := 10 * s.size + 1) (impl_SumMore.mono (x : Int) s) ?_
  have := impl_SumMore_l0 s hs s.size 0 x 0 hx (by omega)
  rw [Nat.zero_add] at this
  exact this
theorem spec_SumOf_ev (s : ByteArray) (hs : s.size ≤ 140737488351232) : Ev (fun k => spec_SumOf.f k s) ((Math.crc 4294967295 s.data.toList : Nat) : Int) := by
  have h := spec_SumMore_ev s hs 4294967295 (by omega)
  exact Ev.bind (f := fun _ t => some t) h (Math.Ev.const rfl)
theorem impl_SumOf_ev (s : ByteArray) (hs : s.size ≤ 140737488351232) : Ev (fun k => impl_SumOf.f k s) ((Math.crc 4294967295 s.data.toList : Nat) : Int) := by
  have h := impl_SumMore_ev s hs 4294967295 (by omega)
  exact Ev.bind (f := fun _ t => some t) h (Math.Ev.const rfl)
theorem spec_Sealed_ev (s : ByteArray) (hs : s.size ≤ 140737488351232) : Ev (fun k => spec_Sealed.f k s) (if (s.size : Int) > 20000 then ((⟨#[]⟩ : ByteArray), false) else (Math.sealS s, true)) := by
  by_cases h : (s.size : Int) > 20000
  · rw [if_pos h]
    exact ⟨0, fun k _ => by show spec_Sealed.f k s = _; unfold spec_Sealed.f; rw [if_pos h]⟩
  · rw [if_neg h]
    refine Ev.congr (fun k => by unfold spec_Sealed.f; rw [if_neg h]) ?_
    refine Ev.bind (f := fun _ t105 => (spec_l02Four.f t105).bind fun t106 => (if s.size + t106.size ≤ 9223372036854775807 then (some (s ++ t106, true)) else (none))) (spec_SumOf_ev s hs) (Math.Ev.const ?_)
    show (if s.size + (Math.fourS _).size ≤ 9223372036854775807 then (some (s ++ (Math.fourS _), true)) else (none)) = some (Math.sealS s, true)
    rw [Math.fourS_size, if_pos (by omega)]
    rfl
theorem impl_Sealed_ev (s : ByteArray) (hs : s.size ≤ 140737488351232) : Ev (fun k => impl_Sealed.f k s) (if (s.size : Int) > 20000 then ((⟨#[]⟩ : ByteArray), false) else (Math.sealS s, true)) := by
  by_cases h : (s.size : Int) > 20000
  · rw [if_pos h]
    exact ⟨0, fun k _ => by show impl_Sealed.f k s = _; unfold impl_Sealed.f; rw [if_pos h]⟩
  · rw [if_neg h]
    refine Ev.congr (fun k => by unfold impl_Sealed.f; rw [if_neg h]) ?_
    refine Ev.bind (f := fun _ t111 => (impl_four.f (wrap64 (t111))).bind fun t112 => (if s.size + t112.size ≤ 9223372036854775807 then (some (s ++ t112, true)) else (none))) (impl_SumOf_ev s hs) (Math.Ev.const ?_)
    have hl := Math.crc_lt s.data.toList (x := 4294967295) (by omega)
    show ((impl_four.f (wrap64 ((Math.crc 4294967295 s.data.toList : Nat) : Int))).bind fun t112 => (if s.size + t112.size ≤ 9223372036854775807 then (some (s ++ t112, true)) else (none))) = some (Math.sealS s, true)
    rw [Math.wrap_in (by omega) (by omega)]
    show (if s.size + (Math.fourS _).size ≤ 9223372036854775807 then (some (s ++ (Math.fourS _), true)) else (none)) = some (Math.sealS s, true)
    rw [Math.fourS_size, if_pos (by omega)]
    rfl
theorem FnExactSealed : laws_FnExactSealed.Pure := by
  intro s hs
  refine Ev.rounds ?_
  by_cases hc : (s.size : Int) > 1048576
  · exact ⟨0, fun k _ => by show laws_FnExactSealed.f k s = _; unfold laws_FnExactSealed.f; rw [if_pos hc]⟩
  · refine Ev.congr (fun k => by unfold laws_FnExactSealed.f; rw [if_neg hc]) ?_
    exact Math.Ev.both (r := true) (f := fun _ (x y : ByteArray × Bool) => (if y.1.toList = x.1.toList then (if (y.2 != x.2) = true then (some false) else (some true)) else (some false))) (spec_Sealed_ev s hs) (impl_Sealed_ev s hs) (fun _ => by simp)
end Go.Proofs.Ytaljdljhbhmipaa.Pure
