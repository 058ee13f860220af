/- SHA-256 on lists of 32-bit words: plain definitions and laws, and how the machine's numbers spell its steps. -/
import Derived.Test.YtfjhfmfeblcnhaaDoorArrU
import Derived.Test.YtfjhfmfeblcnhaaDoorMath
namespace Go.Proofs.YtfjhfmfeblcnhaaDoor.Sha
open Go.RowKit Go.Proofs.YtfjhfmfeblcnhaaDoorW.PrintWords
set_option linter.unusedVariables false
def rr (x n : UInt32) : UInt32 := (x >>> n) ||| (x <<< (32 - n))
def sg0 (x : UInt32) : UInt32 := rr x 7 ^^^ rr x 18 ^^^ (x >>> 3)
def sg1 (x : UInt32) : UInt32 := rr x 17 ^^^ rr x 19 ^^^ (x >>> 10)
def big0 (x : UInt32) : UInt32 := rr x 2 ^^^ rr x 13 ^^^ rr x 22
def big1 (x : UInt32) : UInt32 := rr x 6 ^^^ rr x 11 ^^^ rr x 25
def chs (e f g : UInt32) : UInt32 := (e &&& f) ^^^ ((e ^^^ 4294967295) &&& g)
def maj (a b c : UInt32) : UInt32 := (a &&& b) ^^^ (a &&& c) ^^^ (b &&& c)
/-- The word in four bytes of a text. -/
def wordAt (s : ByteArray) (p : Nat) : UInt32 := UInt32.ofNat (Math.fourN s p)
def words16 (s : ByteArray) : List UInt32 := (List.range 16).map fun i => wordAt s (4 * i)
/-- The next word of a schedule. -/
def nextW (l : List UInt32) : UInt32 := l.getD (l.length - 16) 0 + sg0 (l.getD (l.length - 15) 0) + l.getD (l.length - 7) 0 + sg1 (l.getD (l.length - 2) 0)
def sch (s : ByteArray) : Nat → List UInt32
  | 0 => words16 s
  | j + 1 => sch s j ++ [nextW (sch s j)]
def rnd (st : List UInt32) (k w : UInt32) : List UInt32 :=
  match st with
  | [a, b, c, d, e, f, g, h] =>
    let t := h + big1 e + chs e f g + k + w
    [t + (big0 a + maj a b c), a, b, c, d + t, e, f, g]
  | _ => []
def rounds (st keys ws : List UInt32) : Nat → List UInt32
  | 0 => st
  | j + 1 => rnd (rounds st keys ws j) (keys.getD j 0) (ws.getD j 0)
/-- The state behind a block. -/
def blk (st : List UInt32) (s : ByteArray) (keys : List UInt32) : List UInt32 := List.zipWith (· + ·) st (rounds st keys (sch s 48) 64)
theorem words16_len (s : ByteArray) : (words16 s).length = 16 := by simp [words16]
theorem sch_len (s : ByteArray) (j : Nat) : (sch s j).length = 16 + j := by
  induction j with
  | zero => exact words16_len s
  | succ j ih => rw [sch, List.length_append, ih]; rfl
theorem rnd_len {st : List UInt32} (h : st.length = 8) (k w : UInt32) : (rnd st k w).length = 8 := by
  match st, h with
  | [a, b, c, d, e, f, g, h], _ => rfl
theorem rounds_len {st keys ws : List UInt32} (h : st.length = 8) (j : Nat) : (rounds st keys ws j).length = 8 := by
  induction j with
  | zero => exact h
  | succ j ih => exact rnd_len ih _ _
theorem eight_of {st : List UInt32} (h : st.length = 8) : ∃ a b c d e f g h, st = [a, b, c, d, e, f, g, h] := by
  match st, h with
  | [a, b, c, d, e, f, g, h], _ => exact ⟨a, b, c, d, e, f, g, h, rfl⟩
theorem blk_len {st : List UInt32} (h : st.length = 8) (s : ByteArray) (keys : List UInt32) : (blk st s keys).length = 8 := by
  unfold blk
  rw [List.length_zipWith, rounds_len h, h]
  rfl
/-! ### an array that is filled from its begin -/
def pad (l : List UInt32) (n : Nat) : List UInt32 := l ++ List.replicate (n - l.length) 0
theorem pad_len (l : List UInt32) {n : Nat} (h : l.length ≤ n) : (pad l n).length = n := by
  unfold pad
  rw [List.length_append, List.length_replicate]
  omega
theorem pad_set (l : List UInt32) {n : Nat} (h : l.length < n) (x : UInt32) : (pad l n).set l.length x = pad (l ++ [x]) n := by
  unfold pad
  rw [List.set_append_right _ _ (Nat.le_refl _), Nat.sub_self, show n - l.length = (n - (l ++ [x]).length) + 1 by rw [List.length_append, List.length_singleton]; omega, List.replicate_succ, List.set_cons_zero, List.append_assoc]
  rfl
theorem pad_get (l : List UInt32) (n i : Nat) (h : i < l.length) : (pad l n).getD i 0 = l.getD i 0 := by
  unfold pad
  simp only [List.getD_eq_getElem?_getD]
  rw [List.getElem?_append_left h]
theorem pad_full (l : List UInt32) {n : Nat} (h : l.length = n) : pad l n = l := by
  unfold pad
  rw [h, Nat.sub_self]
  simp
/-! ### the machine's numbers -/
theorem u32_of (x : UInt32) : ((x.toNat : Nat) : Int) < 4294967296 ∧ 0 ≤ ((x.toNat : Nat) : Int) := by have := x.toNat_lt; omega
theorem wraps_u32 (n : Int) (h0 : 0 ≤ n) (h1 : n < 2 ^ 32) : IntKind.u32.wrap n = n := by rw [IntKind.wrap_u32]; omega
theorem m_xor (x y : UInt32) : Go.bits .xor .u32 ((x.toNat : Nat) : Int) ((y.toNat : Nat) : Int) = (((x ^^^ y).toNat : Nat) : Int) := by
  rw [u32_xor_nat _ _ x.toNat_lt y.toNat_lt, UInt32.toNat_xor]
theorem m_and (x y : UInt32) : Go.bits .and .u32 ((x.toNat : Nat) : Int) ((y.toNat : Nat) : Int) = (((x &&& y).toNat : Nat) : Int) := by
  rw [u32_and_nat _ _ x.toNat_lt y.toNat_lt, UInt32.toNat_and]
theorem m_or (x y : UInt32) : Go.bits .or .u32 ((x.toNat : Nat) : Int) ((y.toNat : Nat) : Int) = (((x ||| y).toNat : Nat) : Int) := by
  rw [(bits_nat .u32 32 (by decide) wraps_u32 _ _ x.toNat_lt y.toNat_lt).2, UInt32.toNat_or]
theorem m_add (x y : UInt32) : (((x.toNat : Nat) : Int) + ((y.toNat : Nat) : Int)) % 4294967296 = (((x + y).toNat : Nat) : Int) := by
  rw [UInt32.toNat_add]
  omega
theorem m_shr (x n : UInt32) (m : Nat) (h : n.toNat = m) (hm : m < 32) : ((x.toNat : Nat) : Int) / ((2 ^ m : Nat) : Int) = (((x >>> n).toNat : Nat) : Int) := by
  rw [UInt32.toNat_shiftRight, h, Nat.mod_eq_of_lt hm, Nat.shiftRight_eq_div_pow]
  omega
theorem sh3 (x : UInt32) : ((x.toNat : Nat) : Int) / (8 : Int) = (((x >>> 3).toNat : Nat) : Int) := m_shr x 3 3 rfl (by decide)
theorem sh10 (x : UInt32) : ((x.toNat : Nat) : Int) / (1024 : Int) = (((x >>> 10).toNat : Nat) : Int) := m_shr x 10 10 rfl (by decide)
theorem sg0_is (x : UInt32) : Go.bits .xor .u32 (Go.bits .xor .u32 (((rr x 7).toNat : Nat) : Int) (((rr x 18).toNat : Nat) : Int)) (((x.toNat : Nat) : Int) / (8 : Int)) = (((sg0 x).toNat : Nat) : Int) := by rw [sh3, m_xor, m_xor]; rfl
theorem sg1_is (x : UInt32) : Go.bits .xor .u32 (Go.bits .xor .u32 (((rr x 17).toNat : Nat) : Int) (((rr x 19).toNat : Nat) : Int)) (((x.toNat : Nat) : Int) / (1024 : Int)) = (((sg1 x).toNat : Nat) : Int) := by rw [sh10, m_xor, m_xor]; rfl
theorem big0_is (x : UInt32) : Go.bits .xor .u32 (Go.bits .xor .u32 (((rr x 2).toNat : Nat) : Int) (((rr x 13).toNat : Nat) : Int)) (((rr x 22).toNat : Nat) : Int) = (((big0 x).toNat : Nat) : Int) := by rw [m_xor, m_xor]; rfl
theorem big1_is (x : UInt32) : Go.bits .xor .u32 (Go.bits .xor .u32 (((rr x 6).toNat : Nat) : Int) (((rr x 11).toNat : Nat) : Int)) (((rr x 25).toNat : Nat) : Int) = (((big1 x).toNat : Nat) : Int) := by rw [m_xor, m_xor]; rfl
theorem chs_is (e f g : UInt32) : Go.bits .xor .u32 (Go.bits .and .u32 ((e.toNat : Nat) : Int) ((f.toNat : Nat) : Int)) (Go.bits .and .u32 (Go.bits .xor .u32 ((e.toNat : Nat) : Int) 4294967295) ((g.toNat : Nat) : Int)) = (((chs e f g).toNat : Nat) : Int) := by
  have h : (4294967295 : Int) = (((4294967295 : UInt32).toNat : Nat) : Int) := rfl
  rw [h, m_xor, m_and, m_and, m_xor]
  rfl
theorem maj_is (a b c : UInt32) : Go.bits .xor .u32 (Go.bits .xor .u32 (Go.bits .and .u32 ((a.toNat : Nat) : Int) ((b.toNat : Nat) : Int)) (Go.bits .and .u32 ((a.toNat : Nat) : Int) ((c.toNat : Nat) : Int))) (Go.bits .and .u32 ((b.toNat : Nat) : Int) ((c.toNat : Nat) : Int)) = (((maj a b c).toNat : Nat) : Int) := by
  rw [m_and, m_and, m_and, m_xor, m_xor]
  rfl
theorem add4 (a b c d : UInt32) : (((a.toNat : Nat) : Int) + ((b.toNat : Nat) : Int) + ((c.toNat : Nat) : Int) + ((d.toNat : Nat) : Int)) % 4294967296 = (((a + b + c + d).toNat : Nat) : Int) := by
  rw [UInt32.toNat_add, UInt32.toNat_add, UInt32.toNat_add]
  omega
theorem add5 (a b c d e : UInt32) : (((a.toNat : Nat) : Int) + ((b.toNat : Nat) : Int) + ((c.toNat : Nat) : Int) + ((d.toNat : Nat) : Int) + ((e.toNat : Nat) : Int)) % 4294967296 = (((a + b + c + d + e).toNat : Nat) : Int) := by
  rw [UInt32.toNat_add, UInt32.toNat_add, UInt32.toNat_add, UInt32.toNat_add]
  omega
theorem one_is (h x c k w : UInt32) : ((((h.toNat : Nat) : Int) + ((x.toNat : Nat) : Int) + ((c.toNat : Nat) : Int) + ((k.toNat : Nat) : Int)) % 4294967296 + ((w.toNat : Nat) : Int)) % 4294967296 = (((h + x + c + k + w).toNat : Nat) : Int) := by
  rw [add4, m_add]
theorem six_is (d h x c k w : UInt32) : (((d.toNat : Nat) : Int) + (((h.toNat : Nat) : Int) + ((x.toNat : Nat) : Int) + ((c.toNat : Nat) : Int) + ((k.toNat : Nat) : Int) + ((w.toNat : Nat) : Int))) % 4294967296 = (((d + (h + x + c + k + w)).toNat : Nat) : Int) := by
  rw [UInt32.toNat_add, UInt32.toNat_add, UInt32.toNat_add, UInt32.toNat_add, UInt32.toNat_add]
  omega
theorem seven_is (h x c k w p q : UInt32) : (((h.toNat : Nat) : Int) + ((x.toNat : Nat) : Int) + ((c.toNat : Nat) : Int) + ((k.toNat : Nat) : Int) + ((w.toNat : Nat) : Int) + (((p.toNat : Nat) : Int) + ((q.toNat : Nat) : Int))) % 4294967296 = (((h + x + c + k + w + (p + q)).toNat : Nat) : Int) := by
  rw [UInt32.toNat_add, UInt32.toNat_add, UInt32.toNat_add, UInt32.toNat_add, UInt32.toNat_add, UInt32.toNat_add]
  omega
end Go.Proofs.YtfjhfmfeblcnhaaDoor.Sha
