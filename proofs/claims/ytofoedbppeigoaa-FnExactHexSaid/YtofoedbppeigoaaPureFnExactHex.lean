/- Hex: the program's Hex and the reference's tell the same figures of a text's bytes. -/
import Derived.Test.YtofoedbppeigoaaOFnExactHexx1
import Derived.Test.YtofoedbppeigoaaMath
namespace Go.Proofs.Ytofoedbppeigoaa.Pure
open Go.RowKit Go.Proofs.Ytofoedbppeigoaa.PFnExactHex Go.Proofs.YtofoedbppeigoaaW.PrintWords Go.Proofs.YtofoedbppeigoaaW.PrintLast Go.Proofs.YtofoedbppeigoaaW.PrintMore
set_option linter.unusedVariables false

def hx (d : Nat) : Int := if d < 10 then ((48 + d : Nat) : Int) else ((87 + d : Nat) : Int)
def hexL (l : List UInt8) : List Int := l.flatMap fun b => [hx (b.toNat / 16), hx (b.toNat % 16)]
def hexS (s : ByteArray) : ByteArray × Bool := if (s.size : Int) > 20000 then (⟨#[]⟩, false) else (strOfNums (hexL s.data.toList), true)
theorem hx_figs : ∀ d : Fin 16, bt (⟨#[48, 49, 50, 51, 52, 53, 54, 55, 56, 57, 97, 98, 99, 100, 101, 102]⟩ : ByteArray) ((d.val : Nat) : Int) = hx d.val := by decide
theorem hexL_cons (b : UInt8) (l : List UInt8) : hexL (b :: l) = [hx (b.toNat / 16), hx (b.toNat % 16)] ++ hexL l := rfl
theorem u8_and15 (x : Int) (h0 : 0 ≤ x) (h1 : x < 256) : Go.bits .and .u8 x 15 = x % 16 := bits_mask .u8 8 (by decide) wraps_u8 4 (by decide) x h0 h1
theorem spec_l01Figure_hx (m : Nat) (h : m < 16) : spec_l01Figure.f (m : Int) = some (hx m) := by
  unfold spec_l01Figure.f hx
  by_cases c : m < 10
  · rw [if_pos (by omega), if_pos c, Math.wrap_in (by omega) (by omega)]
    congr 1
    omega
  · rw [if_neg (by omega), if_neg c, Math.wrap_in (n := 97 + (m : Int)) (by omega) (by omega), Math.wrap_in (by omega) (by omega)]
    congr 1
    omega
theorem spec_Hex_l0 (s : ByteArray) (hs : s.size ≤ 20000) (n : Nat) : ∀ (i : Nat) (acc : List Int), i + n = s.size → acc.length ≤ 2 * i →
    Ev (fun k => spec_Hex.l0 k s acc (i : Int)) (strOfNums (acc ++ hexL (s.data.toList.drop i)), true) := by
  induction n with
  | zero =>
    intro i acc hi ha
    refine Ev.step (f := fun _ => some (strOfNums (acc ++ hexL (s.data.toList.drop i)), true)) (fun k => ?_) (Math.Ev.const rfl)
    show spec_Hex.l0 (k + 1) s acc (i : Int) = _
    rw [spec_Hex.l0, if_neg (by omega), List.drop_of_length_le (by rw [Math.size_data]; omega)]
    simp [hexL]
  | succ n ih =>
    intro i acc hi ha
    have hb := (s.data.toList[i]'(by rw [Math.size_data]; omega)).toNat_lt
    refine Ev.step (f := fun k => spec_Hex.l0 k s (acc ++ [hx ((s.data.toList[i]'(by rw [Math.size_data]; omega)).toNat / 16), hx ((s.data.toList[i]'(by rw [Math.size_data]; omega)).toNat % 16)]) ((i + 1 : Nat) : Int)) (fun k => ?_) ?_
    · show spec_Hex.l0 (k + 1) s acc (i : Int) = _
      rw [spec_Hex.l0, if_pos (by omega), if_pos (by omega), Math.bt_nat s i (by omega)]
      rw [Math.wrap_in (n := ((s.data.toList[i]'(by rw [Math.size_data]; omega)).toNat : Int)) (by omega) (by omega), Int.tdiv_eq_ediv_of_nonneg (by omega), Int.tmod_eq_emod_of_nonneg (by omega)]
      rw [Math.wrap_in (n := ((s.data.toList[i]'(by rw [Math.size_data]; omega)).toNat : Int) / 16) (by omega) (by omega)]
      rw [show ((s.data.toList[i]'(by rw [Math.size_data]; omega)).toNat : Int) / 16 = (((s.data.toList[i]'(by rw [Math.size_data]; omega)).toNat / 16 : Nat) : Int) from by omega, show ((s.data.toList[i]'(by rw [Math.size_data]; omega)).toNat : Int) % 16 = (((s.data.toList[i]'(by rw [Math.size_data]; omega)).toNat % 16 : Nat) : Int) from by omega]
      rw [spec_l01Figure_hx _ (by omega), spec_l01Figure_hx _ (by omega)]
      simp only [Option.bind_some]
      rw [if_pos (by simp only [List.length_cons, List.length_nil]; omega), Math.wrap_in (by omega) (by omega)]
      rfl
    · have := ih (i + 1) (acc ++ [hx ((s.data.toList[i]'(by rw [Math.size_data]; omega)).toNat / 16), hx ((s.data.toList[i]'(by rw [Math.size_data]; omega)).toNat % 16)]) (by omega) (by simp only [List.length_append, List.length_cons, List.length_nil]; omega)
      rw [Math.drop_at s i (by omega), hexL_cons, ← List.append_assoc]
      exact this
theorem spec_Hex_ev (s : ByteArray) : Ev (fun k => spec_Hex.f k s) (hexS s) := by
  unfold hexS spec_Hex.f
  by_cases h : (s.size : Int) > 20000
  · rw [if_pos h]
    simp only [h, if_true]
    exact Math.Ev.const rfl
  · rw [if_neg h]
    simp only [h, if_false]
    have := spec_Hex_l0 s (by omega) s.size 0 [] (by omega) (by simp)
    simpa using this
theorem impl_Hex_l0 (s : ByteArray) (hs : s.size ≤ 20000) (n : Nat) : ∀ (i : Nat) (acc : List Int), i + n = s.size → acc.length ≤ 2 * i →
    Ev (fun k => impl_Hex.l0 k s acc (i : Int)) (strOfNums (acc ++ hexL (s.data.toList.drop i)), true) := by
  induction n with
  | zero =>
    intro i acc hi ha
    refine Ev.step (f := fun _ => some (strOfNums (acc ++ hexL (s.data.toList.drop i)), true)) (fun k => ?_) (Math.Ev.const rfl)
    show impl_Hex.l0 (k + 1) s acc (i : Int) = _
    rw [impl_Hex.l0, if_neg (by omega), List.drop_of_length_le (by rw [Math.size_data]; omega)]
    simp [hexL]
  | succ n ih =>
    intro i acc hi ha
    have hb := (s.data.toList[i]'(by rw [Math.size_data]; omega)).toNat_lt
    refine Ev.step (f := fun k => impl_Hex.l0 k s (acc ++ [hx ((s.data.toList[i]'(by rw [Math.size_data]; omega)).toNat / 16), hx ((s.data.toList[i]'(by rw [Math.size_data]; omega)).toNat % 16)]) ((i + 1 : Nat) : Int)) (fun k => ?_) ?_
    · show impl_Hex.l0 (k + 1) s acc (i : Int) = _
      rw [impl_Hex.l0, if_pos (by omega), if_pos (by omega), Math.bt_nat s i (by omega)]
      rw [u8_and15 _ (by omega) (by omega)]
      rw [show ((s.data.toList[i]'(by rw [Math.size_data]; omega)).toNat : Int) / 16 = (((s.data.toList[i]'(by rw [Math.size_data]; omega)).toNat / 16 : Nat) : Int) from by omega, show ((s.data.toList[i]'(by rw [Math.size_data]; omega)).toNat : Int) % 16 = (((s.data.toList[i]'(by rw [Math.size_data]; omega)).toNat % 16 : Nat) : Int) from by omega]
      rw [if_pos (by omega), if_pos (by omega), if_pos (by omega), if_pos (by omega)]
      rw [hx_figs ⟨(s.data.toList[i]'(by rw [Math.size_data]; omega)).toNat / 16, by omega⟩, hx_figs ⟨(s.data.toList[i]'(by rw [Math.size_data]; omega)).toNat % 16, by omega⟩]
      simp only [Option.bind_some]
      rw [if_pos (by simp only [List.length_cons, List.length_nil]; omega), Math.wrap_in (by omega) (by omega)]
      rfl
    · have := ih (i + 1) (acc ++ [hx ((s.data.toList[i]'(by rw [Math.size_data]; omega)).toNat / 16), hx ((s.data.toList[i]'(by rw [Math.size_data]; omega)).toNat % 16)]) (by omega) (by simp only [List.length_append, List.length_cons, List.length_nil]; omega)
      rw [Math.drop_at s i (by omega), hexL_cons, ← List.append_assoc]
      exact this
theorem impl_Hex_ev (s : ByteArray) : Ev (fun k => impl_Hex.f k s) (hexS s) := by
  unfold hexS impl_Hex.f
  by_cases h : (s.size : Int) > 20000
  · rw [if_pos h]
    simp only [h, if_true]
    exact Math.Ev.const rfl
  · simp only [h, if_false]
    refine Ev.congr (f := fun k => impl_Hex.l0 k s [] 0) (fun k => by rw [Math.wrap_in (by omega) (by omega), if_pos (by omega), if_pos (by omega)]) ?_
    have := impl_Hex_l0 s (by omega) s.size 0 [] (by omega) (by simp)
    simpa using this
theorem FnExactHex : laws_FnExactHex.Pure := by
  intro s hs
  show ∃ k, laws_FnExactHex.f k s = some true
  unfold laws_FnExactHex.f
  by_cases h : (s.size : Int) > 1048576
  · exact ⟨0, if_pos h⟩
  · have := Math.Ev.both (f := fun _ bt121 bt123 => (if bt123.1.toList = bt121.1.toList then (if (bt123.2 != bt121.2) = true then (some false) else (some true)) else (some false))) (r := true) (spec_Hex_ev s) (impl_Hex_ev s) (fun k => by simp)
    obtain ⟨k0, hk⟩ := this
    refine ⟨k0, ?_⟩
    rw [if_neg h]
    exact hk k0 (Nat.le_refl _)

end Go.Proofs.Ytofoedbppeigoaa.Pure
