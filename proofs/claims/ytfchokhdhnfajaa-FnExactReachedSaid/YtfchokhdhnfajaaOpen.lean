/- How arguments that are structs of whole numbers, and slices of these, are read: as plain lists of numbers. -/
import Derived.Test.YtfchokhdhnfajaaWMore
import Derived.Deep.Slices
import Derived.Deep.Fields
import Derived.Lib.SmallJoins
import Derived.ChangeSame
import Derived.OpenShut
import Derived.ChangeOld
import Derived.SizedLaws
import Derived.Carry
namespace Go.Proofs.Ytfchokhdhnfajaa.Open
open Go Go.Joins Go.ChangeShapes Go.WideShapes Go.RowKit Go.Deep Go.Proofs.YtfchokhdhnfajaaW.PrintWords
set_option linter.unusedVariables false

theorem list_of {α : Type} {Q : Nat → α → Prop} : ∀ n, (∀ i, i < n → ∃ x, Q i x) → ∃ l : List α, l.length = n ∧ ∀ i x, l[i]? = some x → Q i x
  | 0, _ => ⟨[], rfl, fun i x h => by simp at h⟩
  | n + 1, h => by
    obtain ⟨l, hl, hq⟩ := list_of n (fun i hi => h i (by omega))
    obtain ⟨x, hx⟩ := h n (by omega)
    refine ⟨l ++ [x], by rw [List.length_append, hl]; rfl, fun i y hy => ?_⟩
    by_cases c : i < l.length
    · rw [List.getElem?_append_left c] at hy
      exact hq i y hy
    · have hi : i = n := by
        have := (List.getElem?_eq_some_iff.1 hy).1
        rw [List.length_append, List.length_singleton] at this
        omega
      subst hi
      rw [List.getElem?_append_right (by omega), hl, Nat.sub_self] at hy
      have : x = y := by simpa using hy
      exact this ▸ hx

def i64ok (a : Int) : Prop := (Lit.int .i64 a).wf = true
section
variable {H : Type} {enc : TypeId × Value → H} {P : Program} {w : World} {base : Nat} {spare : Nat → Bool} {held : Bool}
theorem cells2 {e : TypeId} {f0 f1 : Field} {n : Nat} {cs : List Value} {x : DataW H × List MemPlace} (he : P.underlying e = some (.struct #[f0, f1])) (hone : oneCellFields P #[f0, f1] = true) (hC : P.cellsOf e = 2)
    (i0 : P.underlying f0.type = some (.int .i64)) (i1 : P.underlying f1.type = some (.int .i64)) (h : DataW.trod enc P w base spare held n e cs = some x) :
    ∃ a b : Int, cs = [.int .i64 a, .int .i64 b] ∧ i64ok a ∧ i64ok b := by
  obtain ⟨y0, y1, n, hx, hl, h0, h1⟩ := trod_struct2 he h
  obtain ⟨o0, k0⟩ := hone_of hone 0 f0 rfl
  obtain ⟨o1, k1⟩ := hone_of hone 1 f1 rfl
  rw [hC] at hl
  rw [o0, k0] at h0
  rw [o1, k1] at h1
  match cs, hl with
  | [c0, c1], _ =>
    obtain ⟨a, ha, _, wa⟩ := DataW.trod_int i0 h0
    obtain ⟨b, hb, _, wb⟩ := DataW.trod_int i1 h1
    simp at ha hb
    exact ⟨a, b, by rw [ha, hb], wa, wb⟩
theorem cells4 {e : TypeId} {f0 f1 f2 f3 : Field} {n : Nat} {cs : List Value} {x : DataW H × List MemPlace} (he : P.underlying e = some (.struct #[f0, f1, f2, f3])) (hone : oneCellFields P #[f0, f1, f2, f3] = true) (hC : P.cellsOf e = 4)
    (i0 : P.underlying f0.type = some (.int .i64)) (i1 : P.underlying f1.type = some (.int .i64)) (i2 : P.underlying f2.type = some (.int .i64)) (i3 : P.underlying f3.type = some (.int .i64)) (h : DataW.trod enc P w base spare held n e cs = some x) :
    ∃ a b c d : Int, cs = [.int .i64 a, .int .i64 b, .int .i64 c, .int .i64 d] ∧ i64ok a ∧ i64ok b ∧ i64ok c ∧ i64ok d := by
  obtain ⟨y0, y1, y2, y3, n, hx, hl, h0, h1, h2, h3⟩ := trod_struct4 he h
  obtain ⟨o0, k0⟩ := hone_of hone 0 f0 rfl
  obtain ⟨o1, k1⟩ := hone_of hone 1 f1 rfl
  obtain ⟨o2, k2⟩ := hone_of hone 2 f2 rfl
  obtain ⟨o3, k3⟩ := hone_of hone 3 f3 rfl
  rw [hC] at hl
  rw [o0, k0] at h0
  rw [o1, k1] at h1
  rw [o2, k2] at h2
  rw [o3, k3] at h3
  match cs, hl with
  | [c0, c1, c2, c3], _ =>
    obtain ⟨a, ha, _, wa⟩ := DataW.trod_int i0 h0
    obtain ⟨b, hb, _, wb⟩ := DataW.trod_int i1 h1
    obtain ⟨c, hc, _, wc⟩ := DataW.trod_int i2 h2
    obtain ⟨d, hd, _, wd⟩ := DataW.trod_int i3 h3
    simp at ha hb hc hd
    exact ⟨a, b, c, d, by rw [ha, hb, hc, hd], wa, wb, wc, wd⟩
/-- A slice whose elements' cells all read as something: a list. -/
theorem row_of {α : Type} {t e : TypeId} {size fuel : Nat} {cs : List Value} {x : DataW H × List MemPlace} (R : α → List Value → Prop) (ht : P.underlying t = some (.slice e)) (hC : P.cellsOf e = size)
    (hel : ∀ n cs y, DataW.trod enc P w base spare held n e cs = some y → ∃ p, R p cs) (h : DataW.trod enc P w base spare held fuel t cs = some x) :
    ∃ (A : Option Addr) (l : List α) (c : Nat), cs = [.slice A l.length c] ∧ l.length ≤ c ∧ (l = [] ∨ c ≤ maxLen) ∧ ReadsRow R size w A l.length l := by
  rcases open_slice ht h with ⟨h0, _⟩ | ⟨a, len, cap, m, n, D, Pl, hcs, _, hl, hm, hmm, _, hi⟩
  · exact ⟨none, [], 0, h0, by simp, .inl rfl, rfl, by simp, fun hn => by simp at hn⟩
  · have hlm : len ≤ m := by rw [hmm]; split <;> omega
    obtain ⟨l, hlen, hq⟩ := list_of (α := α) (Q := fun i p => ∃ c, c.length = size ∧ R p c ∧ ∀ k u, c[k]? = some u → w.cell? (a.add (i * size + k)) = some u) len (fun i hlt => by
      obtain ⟨cs', hc, htr⟩ := hi i (by omega)
      rw [hC] at hc
      obtain ⟨_, hcl, hat⟩ := World.cells?_some hc
      obtain ⟨p, hp⟩ := hel _ _ _ htr
      refine ⟨p, cs', hcl, hp, fun k u hu => ?_⟩
      have hk : k < size := by
        have := (List.getElem?_eq_some_iff.1 hu).1
        omega
      rw [← Go.Deep.add_add, hat k hk, hu])
    refine ⟨some a, l, cap, by rw [hlen]; exact hcs, by rw [hlen]; exact hl, .inr hm, rfl, ?_, fun _ => ⟨a, rfl, fun j p hj => hq j p hj⟩⟩
    unfold maxLen at hm
    omega
theorem row_all {α : Type} {R : α → List Value → Prop} {Q : α → Prop} {size n : Nat} {A : Option Addr} {l : List α} (h : ReadsRow (fun p cs => R p cs ∧ Q p) size w A n l) : ∀ p ∈ l, Q p := by
  intro p hp
  obtain ⟨j, hj, rfl⟩ := List.getElem_of_mem hp
  obtain ⟨ad, _, hc⟩ := h.2.2 (by have := h.1; omega)
  obtain ⟨c, _, hr, _⟩ := hc j _ (List.getElem?_eq_getElem hj)
  exact hr.2
end
end Go.Proofs.Ytfchokhdhnfajaa.Open
