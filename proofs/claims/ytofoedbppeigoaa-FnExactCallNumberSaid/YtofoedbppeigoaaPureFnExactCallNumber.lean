/- For every text the program's CallNumber answers what the reference's CallNumber answers. -/
import Derived.Test.YtofoedbppeigoaaPFnExactCallNumberx1
namespace Go.Proofs.Ytofoedbppeigoaa.Pure
open Go.RowKit Go.Proofs.Ytofoedbppeigoaa.PFnExactCallNumber Go.Proofs.YtofoedbppeigoaaW.PrintWords Go.Proofs.YtofoedbppeigoaaW.PrintLast

theorem FnExactCallNumber : laws_FnExactCallNumber.Pure := by
  intro s _
  have e : ∀ (d : Nat) (l : List ByteArray) (k : Nat) (i : Int), 0 ≤ i → l.length ≤ 4000 → (l.length : Int) - i ≤ d → d < k →
      ∃ r, spec_CallNumber.l0 k s l i = some r ∧ impl_CallNumber.l0 k s l (l.length : Int) i = some r := by
    intro d
    induction d with
    | zero =>
      intro l k i h0 hl hd hk
      obtain ⟨k, rfl⟩ : ∃ m, k = m + 1 := ⟨k - 1, by omega⟩
      simp only [spec_CallNumber.l0, impl_CallNumber.l0]
      rw [if_neg (by omega), if_neg (by omega)]
      exact ⟨_, rfl, rfl⟩
    | succ d ih =>
      intro l k i h0 hl hd hk
      obtain ⟨k, rfl⟩ : ∃ m, k = m + 1 := ⟨k - 1, by omega⟩
      simp only [spec_CallNumber.l0, impl_CallNumber.l0]
      by_cases h1 : i < (l.length : Int)
      · simp only [if_pos h1, if_pos h0]
        by_cases h2 : (rdOf ByteArray.empty l i).toList = s.toList
        · simp only [if_pos h2]
          exact ⟨_, rfl, rfl⟩
        · simp only [if_neg h2]
          have hw : wrap64 (i + 1) = i + 1 := by unfold wrap64; omega
          rw [hw]
          exact ih l k (i + 1) (by omega) hl (by omega) (by omega)
      · simp only [if_neg h1]
        exact ⟨_, rfl, rfl⟩
  refine ⟨5000, ?_⟩
  unfold laws_FnExactCallNumber.f spec_CallNumber.f impl_CallNumber.f
  split
  · rfl
  · have e1 : spec_CallNames.f = impl_CallNames.f := rfl
    obtain ⟨l, hl, hn⟩ : ∃ l, impl_CallNames.f = some l ∧ l.length ≤ 4000 := ⟨_, rfl, by simp⟩
    obtain ⟨r, h1, h2⟩ := e 4000 l 5000 0 (by omega) hn (by omega) (by omega)
    rw [e1, hl]
    simp only [Option.bind_some]
    rw [h1, h2]
    simp
end Go.Proofs.Ytofoedbppeigoaa.Pure
