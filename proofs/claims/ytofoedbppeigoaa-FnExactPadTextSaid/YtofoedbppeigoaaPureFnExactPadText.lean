/- PadText: what the program pads a text with is what the reference pads it with. -/
import Derived.Test.YtofoedbppeigoaaOFnExactPadTextx1
import Derived.Test.YtofoedbppeigoaaMath
import Derived.Test.YtofoedbppeigoaaPad
namespace Go.Proofs.Ytofoedbppeigoaa.Pure
open Go.RowKit Go.Proofs.Ytofoedbppeigoaa.PFnExactPadText Go.Proofs.YtofoedbppeigoaaW.PrintWords Go.Proofs.YtofoedbppeigoaaW.PrintLast Go.Proofs.YtofoedbppeigoaaW.PrintMore Go.Proofs.Ytofoedbppeigoaa.Hand
set_option linter.unusedVariables false

theorem strOfNums_app (a b : List Int) : strOfNums (a ++ b) = strOfNums a ++ strOfNums b := by
  apply Math.str_eq.1
  rw [Lib.toList_data, Lib.toList_data, strOfNums_data, ByteArray.data_append, Array.toList_append, strOfNums_data, strOfNums_data, List.map_append]
theorem pad_zeros (n : Nat) (h : n ≤ 140737488351232) : Int.tmod (wrap64 (64 - Int.tmod (wrap64 ((n : Int) + 9)) 64)) 64 = ((padZ n : Nat) : Int) := by
  have e1 : Int.tmod ((n : Int) + 9) 64 = ((n : Int) + 9) % 64 := Int.tmod_eq_emod_of_nonneg (by omega)
  have h1 := Int.emod_nonneg ((n : Int) + 9) (show (64 : Int) ≠ 0 by decide)
  have h2 := Int.emod_lt_of_pos ((n : Int) + 9) (show (0 : Int) < 64 by decide)
  rw [Math.wrap_in (n := (n : Int) + 9) (by omega) (by omega), e1]
  clear e1
  rw [Math.wrap_in (n := 64 - ((n : Int) + 9) % 64) (by omega) (by omega), Int.tmod_eq_emod_of_nonneg (by omega)]
  unfold padZ
  omega
theorem padL_size (s : ByteArray) : (padL s).length = s.size + 9 + padZ s.size := by
  unfold padL
  rw [List.length_append, List.length_append, List.length_append, bytesI_length, List.length_replicate]
  show s.size + 1 + padZ s.size + 8 = _
  omega
theorem eight_is (n : Int) (h : 0 ≤ n) : eightL n 8 = [n / 4294967296 / 16777216 % 256, n / 4294967296 / 65536 % 256, n / 4294967296 / 256 % 256, n / 4294967296 % 256] ++ [n / 16777216 % 256, n / 65536 % 256, n / 256 % 256, n % 256] := by
  simp only [eightL, Nat.reduceMul, Int.reducePow, List.cons_append, List.nil_append, List.cons.injEq, and_true]
  refine ⟨by omega, by omega, by omega, trivial, trivial, trivial, trivial, by omega⟩
theorem impl_PadText_is (s : ByteArray) (h : s.size ≤ 140737488351232) : impl_PadText.f s = some (strOfNums (padL s)) := by
  have hz : padZ s.size < 64 := by unfold padZ; omega
  have h1 : (s ++ (⟨#[128]⟩ : ByteArray)).size = s.size + 1 := Math.size_append _ _
  have h2 : (strOfNums (List.replicate (padZ s.size) 0)).size = padZ s.size := by rw [strOfNums_size, List.length_replicate]
  have h3 := Math.size_append (s ++ (⟨#[128]⟩ : ByteArray)) (strOfNums (List.replicate (padZ s.size) 0))
  unfold impl_PadText.f impl_four.f
  rw [if_pos (by omega), pad_zeros s.size h, if_pos (by omega), Int.toNat_natCast, if_pos (by omega), Option.bind_some, if_pos (by omega), Option.bind_some, if_pos (by rw [strOfNums_size]; simp only [List.length_cons, List.length_nil]; omega), Option.bind_some]
  rw [if_pos (by rw [Math.size_append, strOfNums_size, strOfNums_size]; simp only [List.length_cons, List.length_nil]; omega)]
  rw [Math.wrap_in (n := 8 * (s.size : Int)) (by omega) (by omega)]
  unfold padL
  rw [eight_is (8 * (s.size : Int)) (by omega), ← List.append_assoc]
  rw [strOfNums_app, strOfNums_app, strOfNums_app, strOfNums_app, strOf_bytesI]
  rfl
theorem FnExactPadText : laws_FnExactPadText.Pure := by
  intro s hs
  unfold laws_FnExactPadText.f
  by_cases h : (s.size : Int) > 1048576
  · rw [if_pos h]
  · rw [if_neg h, show spec_PadText.f s = some (strOfNums (padL s)) from if_pos hs, Option.bind_some, impl_PadText_is s hs, Option.bind_some, if_pos rfl]

end Go.Proofs.Ytofoedbppeigoaa.Pure
