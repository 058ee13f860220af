/- ShaBlock: the program's and the reference's tell one and the same, in memory of their own. -/
import Derived.Test.YtfjhfmfeblcnhaaDoorOFnExactShaBlockx2
namespace Go.Proofs.YtfjhfmfeblcnhaaDoor.Pure
open Go.RowKit Go.Proofs.YtfjhfmfeblcnhaaDoor.PFnExactShaBlock Go.Proofs.YtfjhfmfeblcnhaaDoor.Hand Go.Proofs.YtfjhfmfeblcnhaaDoorW.PrintWords
set_option linter.unusedVariables false
theorem rd_at (x : List Int) (j : Nat) (h : j < x.length) : rd x (j : Int) = x[j] := by
  unfold rd
  rw [Int.toNat_natCast, List.getD_eq_getElem?_getD, List.getElem?_eq_getElem h, Option.getD_some]
theorem wr (j : Nat) (h : j ≤ 3000000) : wrap64 ((j : Int) + 1) = ((j + 1 : Nat) : Int) := by unfold wrap64; omega
theorem to_l (x : List Int) (hx : x.length ≤ 1048576) : ∀ m j, j + m = x.length → ∀ k, laws_toIntS.l0 (m + 1 + k) x (x.take j ++ List.replicate m 0) (j : Int) = some x := by
  intro m
  induction m with
  | zero =>
    intro j hj k
    rw [show 0 + 1 + k = k + 1 by omega]
    unfold laws_toIntS.l0
    rw [if_neg (by omega), List.take_of_length_le (by omega), List.replicate_zero, List.append_nil]
  | succ m ih =>
    intro j hj k
    rw [show m + 1 + 1 + k = (m + 1 + k) + 1 by omega]
    unfold laws_toIntS.l0
    have hl : (x.take j).length = j := by rw [List.length_take]; omega
    rw [if_pos (by omega), if_pos (by omega), if_pos (by rw [List.length_append, List.length_replicate, hl]; omega), wr j (by omega), Int.toNat_natCast, rd_at x j (by omega)]
    rw [List.set_append_right _ _ (by omega), hl, Nat.sub_self, List.replicate_succ, List.set_cons_zero, show x[j]'(by omega) :: List.replicate m 0 = [x[j]'(by omega)] ++ List.replicate m 0 from rfl, ← List.append_assoc, ← List.take_succ_eq_append_getElem (by omega)]
    exact ih (j + 1) (by omega) k
theorem to_f (x : List Int) (hx : x.length ≤ 1048576) (k : Nat) (hk : x.length + 1 ≤ k) : laws_toIntS.f k x = some x := by
  obtain ⟨d, rfl⟩ : ∃ d, k = x.length + 1 + d := ⟨k - (x.length + 1), by omega⟩
  unfold laws_toIntS.f
  rw [if_pos (by omega), Int.toNat_natCast, if_pos (by omega)]
  have h := to_l x hx x.length 0 (by omega) d
  rw [List.take_zero, List.nil_append] at h
  exact h
theorem eq_l (x : List Int) (hx : x.length ≤ 1048576) : ∀ m j, j + m = x.length → ∀ k, laws_eqIntS.l0 (m + 1 + k) x x (j : Int) = some true := by
  intro m
  induction m with
  | zero =>
    intro j hj k
    rw [show 0 + 1 + k = k + 1 by omega]
    unfold laws_eqIntS.l0
    rw [if_neg (by omega)]
  | succ m ih =>
    intro j hj k
    rw [show m + 1 + 1 + k = (m + 1 + k) + 1 by omega]
    unfold laws_eqIntS.l0
    rw [if_pos (by omega), if_pos (by omega), if_pos (by omega), if_pos rfl, wr j (by omega)]
    exact ih (j + 1) (by omega) k
theorem eq_f (x : List Int) (hx : x.length ≤ 1048576) (k : Nat) (hk : x.length + 1 ≤ k) : laws_eqIntS.f k x x = some true := by
  obtain ⟨d, rfl⟩ : ∃ d, k = x.length + 1 + d := ⟨k - (x.length + 1), by omega⟩
  unfold laws_eqIntS.f
  rw [if_pos rfl]
  exact eq_l x hx x.length 0 (by omega) d
def marks (n : Nat) : List Int := (List.range n).map fun i => ((1 + i : Nat) : Int)
theorem marks_len (n : Nat) : (marks n).length = n := by simp [marks]
theorem marks_succ (n : Nat) : marks (n + 1) = marks n ++ [((1 + n : Nat) : Int)] := by simp [marks, List.range_succ]
theorem mark_l (x : List Int) (hx : x.length ≤ 1048576) : ∀ m j, j + m = x.length → ∀ k, laws_markIntS.l0 (m + 1 + k) (marks j ++ x.drop j) ((1 + j : Nat) : Int) (j : Int) = some (((1 + x.length : Nat) : Int), marks x.length) := by
  intro m
  induction m with
  | zero =>
    intro j hj k
    have e : j = x.length := by omega
    subst e
    rw [show 0 + 1 + k = k + 1 by omega]
    unfold laws_markIntS.l0
    rw [List.drop_of_length_le (Nat.le_refl _), List.append_nil, if_neg (by rw [marks_len]; omega)]
  | succ m ih =>
    intro j hj k
    rw [show m + 1 + 1 + k = (m + 1 + k) + 1 by omega]
    unfold laws_markIntS.l0
    rw [if_pos (by rw [List.length_append, marks_len, List.length_drop]; omega), if_pos (by omega), wr j (by omega), Int.toNat_natCast]
    rw [show wrap64 (((1 + j : Nat) : Int) + 1) = ((1 + (j + 1) : Nat) : Int) by unfold wrap64; omega]
    rw [List.set_append_right _ _ (by rw [marks_len]; omega), marks_len, Nat.sub_self, List.drop_eq_getElem_cons (by omega), List.set_cons_zero, show ((1 + j : Nat) : Int) :: x.drop (j + 1) = [((1 + j : Nat) : Int)] ++ x.drop (j + 1) from rfl, ← List.append_assoc, ← marks_succ]
    exact ih (j + 1) (by omega) k
theorem mark_f (x : List Int) (hx : x.length ≤ 1048576) (k : Nat) (hk : x.length + 1 ≤ k) : laws_markIntS.f k x 1 = some (((1 + x.length : Nat) : Int), marks x.length) := by
  obtain ⟨d, rfl⟩ : ∃ d, k = x.length + 1 + d := ⟨k - (x.length + 1), by omega⟩
  exact mark_l x hx x.length 0 (by omega) d
theorem marks_at (n j : Nat) (h : j < n) : rd (marks n) (j : Int) = ((1 + j : Nat) : Int) := by
  rw [rd_at _ _ (by rw [marks_len]; exact h)]
  simp [marks]
theorem held_l (n : Nat) (hn : n ≤ 1048576) : ∀ m j, j + m = n → ∀ k, laws_heldIntS.l0 (m + 1 + k) (marks n) ((1 + j : Nat) : Int) (j : Int) = some ((1 + n : Nat) : Int) := by
  intro m
  induction m with
  | zero =>
    intro j hj k
    have e : j = n := by omega
    subst e
    rw [show 0 + 1 + k = k + 1 by omega]
    unfold laws_heldIntS.l0
    rw [if_neg (by rw [marks_len]; omega)]
  | succ m ih =>
    intro j hj k
    rw [show m + 1 + 1 + k = (m + 1 + k) + 1 by omega]
    unfold laws_heldIntS.l0
    rw [if_pos (by rw [marks_len]; omega), if_pos (by omega), if_pos (marks_at n j (by omega)), wr j (by omega)]
    rw [show wrap64 (((1 + j : Nat) : Int) + 1) = ((1 + (j + 1) : Nat) : Int) by unfold wrap64; omega]
    exact ih (j + 1) (by omega) k
theorem held_f (n : Nat) (hn : n ≤ 1048576) (k : Nat) (hk : n + 1 ≤ k) : laws_heldIntS.f k (marks n) 1 = some ((1 + n : Nat) : Int) := by
  obtain ⟨d, rfl⟩ : ∃ d, k = n + 1 + d := ⟨k - (n + 1), by omega⟩
  exact held_l n hn n 0 (by omega) d
theorem block_len (l : List Int) (s : ByteArray) (h : l.length ≤ 1048576) : (blockF l s).length ≤ 1048576 := by
  unfold blockF
  split
  · rename_i hc
    rw [intsU_len, Sha.blk_len (by rw [toU_len]; exact hc.1)]
    decide
  · exact h
theorem FnExactShaBlock : laws_FnExactShaBlock.Pure := by
  intro l0 a1 _ _ _ _
  by_cases h1 : (l0.length : Int) > 1048576
  · exact ⟨0, by unfold laws_FnExactShaBlock.f; rw [if_pos h1]⟩
  by_cases h2 : (a1.size : Int) > 1048576
  · exact ⟨0, by unfold laws_FnExactShaBlock.f; rw [if_neg h1, if_pos h2]⟩
  have hl : l0.length ≤ 1048576 := by omega
  obtain ⟨B, hB⟩ : ∃ B, blockF l0 a1 = B := ⟨_, rfl⟩
  have hb : B.length ≤ 1048576 := by rw [← hB]; exact block_len l0 a1 hl
  have e1 : spec_ShaBlock.f l0 a1 = some B := by unfold spec_ShaBlock.f; rw [if_pos (by omega), hB]
  have e2 : impl_ShaBlock.f l0 a1 = some B := by unfold impl_ShaBlock.f; rw [if_pos (by omega), hB]
  refine ⟨l0.length + B.length + 4 + 1, ?_⟩
  unfold laws_FnExactShaBlock.f
  rw [if_neg h1, if_neg h2, to_f l0 hl _ (by omega), Option.bind_some, e1, Option.bind_some, Option.bind_some, e2, Option.bind_some, eq_f B hb _ (by omega), Option.bind_some, if_pos rfl, Option.bind_some, eq_f l0 hl _ (by omega), Option.bind_some, if_pos rfl, mark_f l0 hl _ (by omega), Option.bind_some, if_neg (by dsimp only; omega), Option.bind_some]
  rw [laws_FnExactShaBlock.j0, if_neg (by decide), mark_f B hb _ (by omega), Option.bind_some]
  dsimp only
  rw [held_f B.length hb _ (by omega), Option.bind_some, if_neg (by omega), if_pos rfl, to_f l0 hl _ (by omega), Option.bind_some, e2, Option.bind_some, eq_f B hb _ (by omega), Option.bind_some, if_pos rfl, Option.bind_some, if_neg (by omega), if_pos rfl]
end Go.Proofs.YtfjhfmfeblcnhaaDoor.Pure
