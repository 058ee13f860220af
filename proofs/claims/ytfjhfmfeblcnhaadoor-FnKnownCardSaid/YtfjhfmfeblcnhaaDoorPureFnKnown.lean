/- Known digests: the program's answers for three texts, by the kernel; the places drawn are never none. -/
import Derived.Test.YtfjhfmfeblcnhaaDoorOFnKnownx3
import Derived.Test.YtfjhfmfeblcnhaaDoorMath
import Derived.KernelRfl
namespace Go.Proofs.YtfjhfmfeblcnhaaDoor.Pure
open Go.RowKit Go.Proofs.YtfjhfmfeblcnhaaDoor.PFnKnown Go.Proofs.YtfjhfmfeblcnhaaDoorW.PrintWords Go.Proofs.YtfjhfmfeblcnhaaDoorW.PrintLast Go.Proofs.YtfjhfmfeblcnhaaDoorW.PrintMore
set_option linter.unusedVariables false
theorem new_l0 (l : List Int) (hl : l.length ≤ 2000000) (d : Nat) : ∀ (i : Nat) (x : Int), i + d = l.length → ∃ h, Ev (fun k => spec_l01New.l0 k l x (i : Int)) (l, 0, h) := by
  induction d with
  | zero =>
    intro i x hi
    refine ⟨x, Ev.step (f := fun _ => some (l, 0, x)) (fun k => ?_) (Math.Ev.const rfl)⟩
    show spec_l01New.l0 (k + 1) l x _ = _
    rw [spec_l01New.l0, if_neg (by omega)]
  | succ d ih =>
    intro i x hi
    by_cases c : (i : Int) < 4000
    · obtain ⟨h, hh⟩ := ih (i + 1) (Go.bits .and .i64 (wrap64 ((wrap64 ((wrap64 (x * 131)) + (wrap64 (rd l (i : Int))))) + 7)) 1073741823) (by omega)
      refine ⟨h, Ev.step (fun k => ?_) hh⟩
      show spec_l01New.l0 (k + 1) l x _ = _
      rw [spec_l01New.l0, if_pos (by omega), if_pos c, if_pos (by omega), show wrap64 ((i : Int) + 1) = ((i + 1 : Nat) : Int) from by rw [Math.wrap_in (by omega) (by omega)]; omega]
    · refine ⟨x, Ev.step (f := fun _ => some (l, 0, x)) (fun k => ?_) (Math.Ev.const rfl)⟩
      show spec_l01New.l0 (k + 1) l x _ = _
      rw [spec_l01New.l0, if_pos (by omega), if_neg c]
theorem new_ev (l : List Int) (hl : l.length ≤ 2000000) : ∃ h, Ev (fun k => spec_l01New.f k l) (l, 0, h) := new_l0 l hl l.length 0 _ (by omega)
def Cur (l : List Int) (i : Int) : Prop := 0 ≤ i ∧ i ≤ l.length ∧ l.length ≤ 2000000
theorem byte_ok {l : List Int} {i : Int} (c : Cur l i) (h : Int) : ∃ x i' h', spec_l01Byte.f l i h = some (x, i', h') ∧ Cur l i' ∧ 0 ≤ x ∧ x ≤ 255 := by
  unfold Cur at c
  unfold spec_l01Byte.f
  by_cases hlt : i < (l.length : Int)
  · rw [if_pos hlt, if_pos c.1]
    refine ⟨_, _, _, rfl, ?_, Math.and255 _⟩
    unfold Cur
    rw [Math.wrap_in (n := i + 1) (by omega) (by omega)]
    omega
  · rw [if_neg hlt]
    exact ⟨_, _, _, rfl, c, Math.and255 _⟩
theorem below_ok {l : List Int} {i : Int} (c : Cur l i) (h : Int) (n : Int) : ∃ x i' h', spec_l01Below.f l i h n = some (x, i', h') ∧ Cur l i' ∧ 0 ≤ x ∧ (0 < n → x < n) ∧ (n ≤ 0 → x = 0) := by
  unfold spec_l01Below.f
  by_cases h0 : n ≤ 0
  · rw [if_pos h0]
    exact ⟨0, i, h, rfl, c, by omega, by omega, fun _ => rfl⟩
  · rw [if_neg h0]
    by_cases h1 : n ≤ 256
    · rw [if_pos h1]
      obtain ⟨x, i1, g1, e1, c1, x0, x1⟩ := byte_ok c h
      rw [e1, Option.bind_some, if_neg (by omega)]
      refine ⟨_, i1, g1, rfl, c1, ?_, fun _ => ?_, fun e => absurd e h0⟩
      · exact Int.tmod_nonneg _ x0
      · exact Int.tmod_lt_of_pos _ (by omega)
    · rw [if_neg h1]
      obtain ⟨x, i1, g1, e1, c1, x0, x1⟩ := byte_ok c h
      obtain ⟨y, i2, g2, e2, c2, y0, y1⟩ := byte_ok c1 g1
      obtain ⟨z, i3, g3, e3, c3, z0, z1⟩ := byte_ok c2 g2
      obtain ⟨u, i4, g4, e4, c4, u0, u1⟩ := byte_ok c3 g3
      rw [e1, Option.bind_some, e2, Option.bind_some, e3, Option.bind_some, e4, Option.bind_some, if_neg (by omega)]
      rw [Math.wrap_in (n := x * 16777216) (by omega) (by omega), Math.wrap_in (n := y * 65536) (by omega) (by omega), Math.wrap_in (n := z * 256) (by omega) (by omega)]
      rw [Math.wrap_in (n := x * 16777216 + y * 65536) (by omega) (by omega)]
      rw [Math.wrap_in (n := x * 16777216 + y * 65536 + z * 256) (by omega) (by omega)]
      rw [Math.wrap_in (n := x * 16777216 + y * 65536 + z * 256 + u) (by omega) (by omega)]
      refine ⟨_, i4, g4, rfl, c4, ?_, fun _ => ?_, fun e => absurd e h0⟩
      · exact Int.tmod_nonneg _ (by omega)
      · exact Int.tmod_lt_of_pos _ (by omega)
theorem cur0 {l : List Int} (hl : l.length ≤ 2000000) : Cur l 0 := ⟨by omega, by omega, hl⟩
theorem places_l0 {l : List Int} (d : Nat) : ∀ (j : Nat) (acc : List Int) (i h : Int), j + d = 12 → acc.length = j → Cur l i → ∃ s, Ev (fun k => spec_DrawPlaces.l0 k acc (j : Int) l i h) s ∧ s.length = 12 := by
  induction d with
  | zero =>
    intro j acc i h hj ha c
    refine ⟨acc, Ev.step (f := fun _ => some acc) (fun k => ?_) (Math.Ev.const rfl), by omega⟩
    show spec_DrawPlaces.l0 (k + 1) acc _ l i h = _
    rw [spec_DrawPlaces.l0, if_neg (by omega)]
  | succ d ih =>
    intro j acc i h hj ha c
    obtain ⟨x, i1, g1, e1, c1, x0, x1⟩ := below_ok c h 10000
    obtain ⟨s, hs, hz⟩ := ih (j + 1) (acc ++ [x]) i1 g1 (by omega) (by rw [List.length_append, List.length_singleton]; omega) c1
    refine ⟨s, Ev.step (fun k => ?_) hs, hz⟩
    show spec_DrawPlaces.l0 (k + 1) acc _ l i h = _
    rw [spec_DrawPlaces.l0, if_pos (by omega), e1, Option.bind_some, if_pos (by omega), show wrap64 ((j : Int) + 1) = ((j + 1 : Nat) : Int) from by rw [Math.wrap_in (by omega) (by omega)]; omega]
theorem places_ok (l : List Int) (hl : l.length ≤ 2000000) : ∃ s, Ev (fun k => spec_DrawPlaces.f k l) s ∧ s.length = 12 := by
  obtain ⟨h, hn⟩ := new_ev l hl
  obtain ⟨x, i1, g1, e1, c1, _, _⟩ := byte_ok (cur0 hl) h
  obtain ⟨s, hs, hz⟩ := places_l0 12 0 [] i1 g1 (by omega) rfl c1
  refine ⟨s, ?_, hz⟩
  unfold spec_DrawPlaces.f
  refine Ev.bind hn ?_
  refine Ev.congr (fun k => ?_) hs
  dsimp only
  rw [e1, Option.bind_some]
  rfl
def e0 : ByteArray := ⟨#[101, 51, 98, 48, 99, 52, 52, 50, 57, 56, 102, 99, 49, 99, 49, 52, 57, 97, 102, 98, 102, 52, 99, 56, 57, 57, 54, 102, 98, 57, 50, 52, 50, 55, 97, 101, 52, 49, 101, 52, 54, 52, 57, 98, 57, 51, 52, 99, 97, 52, 57, 53, 57, 57, 49, 98, 55, 56, 53, 50, 98, 56, 53, 53]⟩
def e1 : ByteArray := ⟨#[98, 97, 55, 56, 49, 54, 98, 102, 56, 102, 48, 49, 99, 102, 101, 97, 52, 49, 52, 49, 52, 48, 100, 101, 53, 100, 97, 101, 50, 50, 50, 51, 98, 48, 48, 51, 54, 49, 97, 51, 57, 54, 49, 55, 55, 97, 57, 99, 98, 52, 49, 48, 102, 102, 54, 49, 102, 50, 48, 48, 49, 53, 97, 100]⟩
def e2 : ByteArray := ⟨#[50, 52, 56, 100, 54, 97, 54, 49, 100, 50, 48, 54, 51, 56, 98, 56, 101, 53, 99, 48, 50, 54, 57, 51, 48, 99, 51, 101, 54, 48, 51, 57, 97, 51, 51, 99, 101, 52, 53, 57, 54, 52, 102, 102, 50, 49, 54, 55, 102, 54, 101, 99, 101, 100, 100, 52, 49, 57, 100, 98, 48, 54, 99, 49]⟩
theorem dig0 : impl_DigestHex.f 40 (⟨#[]⟩ : ByteArray) = some e0 := by kernel_rfl
theorem dig1 : impl_DigestHex.f 40 (⟨#[97, 98, 99]⟩ : ByteArray) = some e1 := by kernel_rfl
theorem dig2 : impl_DigestHex.f 40 (⟨#[97, 98, 99, 100, 98, 99, 100, 101, 99, 100, 101, 102, 100, 101, 102, 103, 101, 102, 103, 104, 102, 103, 104, 105, 103, 104, 105, 106, 104, 105, 106, 107, 105, 106, 107, 108, 106, 107, 108, 109, 107, 108, 109, 110, 108, 109, 110, 111, 109, 110, 111, 112, 110, 111, 112, 113]⟩ : ByteArray) = some e2 := by kernel_rfl
theorem FnKnown : laws_FnKnown.Pure := by
  intro l0 _ _ _
  by_cases hb : (l0.length : Int) > 1048576
  · refine ⟨0, ?_⟩
    unfold laws_FnKnown.f laws_big.f
    rw [Option.bind_some, if_pos (decide_eq_true hb)]
  · obtain ⟨s, ⟨K, hK⟩, hz⟩ := places_ok l0 (by omega)
    refine ⟨K + 40, ?_⟩
    have hk : spec_DrawPlaces.f (K + 40) l0 = some s := hK (K + 40) (by omega)
    have g : ∀ a b, impl_DigestHex.f 40 a = some b → impl_DigestHex.f (K + 40) a = some b := fun a b h => at_rounds (fun k => impl_DigestHex.mono a k) (by omega) h
    unfold laws_FnKnown.f laws_big.f
    rw [Option.bind_some, if_neg (by rw [decide_eq_false hb]; decide), hk, Option.bind_some, if_pos (by omega)]
    split
    · rw [g _ _ dig0, Option.bind_some, Lib.toList_data]
      exact rfl
    · split
      · rw [g _ _ dig1, Option.bind_some, Lib.toList_data]
        exact rfl
      · rw [g _ _ dig2, Option.bind_some, Lib.toList_data]
        exact rfl
end Go.Proofs.YtfjhfmfeblcnhaaDoor.Pure
