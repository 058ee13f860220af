/- What ShaBlock tells of a state in numbers and a block. -/
import Derived.Test.YtfjhfmfeblcnhaaDoorSha4
namespace Go.Proofs.YtfjhfmfeblcnhaaDoor.Hand
open Go.RowKit Go.Proofs.YtfjhfmfeblcnhaaDoorW.PrintWords Go.Proofs.YtfjhfmfeblcnhaaDoorW.PrintLast Go.Proofs.YtfjhfmfeblcnhaaDoorW.PrintMore Go.Proofs.YtfjhfmfeblcnhaaDoor.Sha
set_option linter.unusedVariables false
def intsU (l : List UInt32) : List Int := l.map fun x => ((x.toNat : Nat) : Int)
def halfB (x : Int) : Bool := decide (0 ≤ x ∧ x ≤ 4294967295)
def toU (l : List Int) : List UInt32 := l.map fun x => UInt32.ofNat x.toNat
def blockF (l : List Int) (s : ByteArray) : List Int := if l.length = 8 ∧ s.size = 64 ∧ l.all halfB = true then intsU (blk (toU l) s keys64) else l
theorem toU_len (l : List Int) : (toU l).length = l.length := by simp [toU]
theorem halfB_iff (x : Int) : halfB x = true ↔ 0 ≤ x ∧ x ≤ 4294967295 := by simp [halfB]
theorem toU_snoc (l : List Int) (j : Nat) (h : j < l.length) : (toU l).take (j + 1) = (toU l).take j ++ [UInt32.ofNat (rd l (j : Int)).toNat] := by
  rw [List.take_succ_eq_append_getElem (by rw [toU_len]; exact h)]
  congr 2
  unfold toU rd
  rw [List.getElem_map, Int.toNat_natCast, List.getD_eq_getElem?_getD, List.getElem?_eq_getElem h]
  rfl
theorem u32_word (x : Int) (h : 0 ≤ x ∧ x ≤ 4294967295) : x % 4294967296 = (((UInt32.ofNat x.toNat).toNat : Nat) : Int) := by
  rw [UInt32.toNat_ofNat']
  omega
theorem not_all (l : List Int) (j : Nat) (h : j < l.length) (hb : ¬ (0 ≤ rd l (j : Int) ∧ rd l (j : Int) ≤ 4294967295)) : l.all halfB = false := by
  rw [List.all_eq_false]
  refine ⟨l[j], List.getElem_mem h, ?_⟩
  unfold rd at hb
  rw [Int.toNat_natCast, List.getD_eq_getElem?_getD, List.getElem?_eq_getElem h, Option.getD_some] at hb
  rw [halfB_iff]
  exact hb
theorem all_of (l : List Int) (n : Nat) (hn : l.length = n) (h : ∀ j, j < n → 0 ≤ rd l (j : Int) ∧ rd l (j : Int) ≤ 4294967295) : l.all halfB = true := by
  rw [List.all_eq_true]
  intro x hx
  obtain ⟨j, hj, rfl⟩ := List.mem_iff_getElem.1 hx
  have := h j (by omega)
  unfold rd at this
  rw [Int.toNat_natCast, List.getD_eq_getElem?_getD, List.getElem?_eq_getElem hj, Option.getD_some] at this
  exact (halfB_iff _).2 this
/-- The first j numbers are told anew. -/
def mixI (l r : List Int) (j : Nat) : List Int := l.take j ++ r.drop j
theorem mixI_len {l r : List Int} (h : l.length = 8) (h2 : r.length = 8) {j : Nat} (hj : j ≤ 8) : (mixI l r j).length = 8 := by
  unfold mixI
  rw [List.length_append, List.length_take, List.length_drop, h, h2]
  omega
theorem mixI_set {l r : List Int} (h : l.length = 8) (h2 : r.length = 8) {j : Nat} (hj : j < 8) (x : Int) (hx : l[j]'(by omega) = x) : (mixI l r j).set j x = mixI l r (j + 1) := by
  unfold mixI
  have hl : (l.take j).length = j := by rw [List.length_take, h]; omega
  rw [List.set_append_right _ _ (by omega), hl, Nat.sub_self, List.drop_eq_getElem_cons (by omega : j < r.length), List.set_cons_zero]
  rw [List.take_succ_eq_append_getElem (by omega), List.append_assoc, hx]
  rfl
theorem mixI_all {l r : List Int} (h : l.length = 8) (h2 : r.length = 8) : mixI l r 8 = l := by
  unfold mixI
  rw [List.take_of_length_le (by omega), List.drop_of_length_le (by omega), List.append_nil]
theorem intsU_len (l : List UInt32) : (intsU l).length = l.length := by simp [intsU]
theorem intsU_get (l : List UInt32) (j : Nat) (h : j < l.length) (x : UInt32) (hx : l.getD j 0 = x) : (intsU l)[j]'(by rw [intsU_len]; exact h) = ((x.toNat : Nat) : Int) := by
  rw [← hx, List.getD_eq_getElem?_getD, List.getElem?_eq_getElem h, Option.getD_some]
  simp [intsU]
theorem spec_l03Block_eight (a b c d e f g h : UInt32) (s : ByteArray) (hs : s.size = 64) (w : World) :
    Calls Tryd.prog 35 #[.agg #[.int .u32 ((a.toNat : Nat) : Int), .int .u32 ((b.toNat : Nat) : Int), .int .u32 ((c.toNat : Nat) : Int), .int .u32 ((d.toNat : Nat) : Int), .int .u32 ((e.toNat : Nat) : Int), .int .u32 ((f.toNat : Nat) : Int), .int .u32 ((g.toNat : Nat) : Int), .int .u32 ((h.toNat : Nat) : Int)], .string s, .agg (cellsU keys64)] w fun e' w' => e' = .returned (.agg (cellsU (blk [a, b, c, d, e, f, g, h] s keys64))) ∧ Below w.heap.size w w' :=
  spec_l03Block.calls [a, b, c, d, e, f, g, h] keys64 s rfl rfl hs w
end Go.Proofs.YtfjhfmfeblcnhaaDoor.Hand
