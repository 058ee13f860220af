/- Plain lemmas on numbers and bytes, without any Go: sums of 32 bits, texts as lists of bytes. -/
import Derived.Test.YtfchokhdhnfajaaWWords
import Derived.Test.YtfchokhdhnfajaaWMore
import Derived.Laws.BitsAllLaws
import Derived.Laws.BitsLemmas
import Derived.Lib.Strings
namespace Go.Proofs.Ytfchokhdhnfajaa.Math
open Go.RowKit Go.Proofs.YtfchokhdhnfajaaW.PrintWords Go.Proofs.YtfchokhdhnfajaaW.PrintMore
set_option linter.unusedVariables false

theorem wrap_in {n : Int} (h : -9223372036854775808 ≤ n) (h2 : n ≤ 9223372036854775807) : wrap64 n = n := by unfold wrap64; omega

/-! ### sums -/
def crcBit (x : Nat) : Nat := if x % 2 = 1 then (x / 2) ^^^ 3558460437 else x / 2
def crcBits : Nat → Nat → Nat
  | 0, x => x
  | d + 1, x => crcBits d (crcBit x)
def crcByte (x b : Nat) : Nat := crcBits 8 (x ^^^ b)
def crc (x : Nat) (l : List UInt8) : Nat := l.foldl (fun s b => crcByte s b.toNat) x
theorem crcBit_lt {x : Nat} (h : x < 4294967296) : crcBit x < 4294967296 := by
  unfold crcBit
  split
  · exact Nat.xor_lt_two_pow (n := 32) (by omega) (by omega)
  · omega
theorem crcBits_lt (d : Nat) : ∀ {x : Nat}, x < 4294967296 → crcBits d x < 4294967296 := by
  induction d with
  | zero => intro x h; exact h
  | succ d ih => intro x h; exact ih (crcBit_lt h)
theorem crcByte_lt {x b : Nat} (h : x < 4294967296) (hb : b < 4294967296) : crcByte x b < 4294967296 :=
  crcBits_lt 8 (Nat.xor_lt_two_pow (n := 32) (by omega) (by omega))
theorem crc_lt (l : List UInt8) : ∀ {x : Nat}, x < 4294967296 → crc x l < 4294967296 := by
  induction l with
  | nil => intro x h; exact h
  | cons b l ih => intro x h; exact ih (crcByte_lt h (by have := b.toNat_lt; omega))
theorem crc_append (x : Nat) (l m : List UInt8) : crc x (l ++ m) = crc (crc x l) m := by simp [crc, List.foldl_append]

/-! ### texts -/
theorem size_data (s : ByteArray) : s.data.toList.length = s.size := by rw [Array.length_toList]; rfl
theorem bt_nat (s : ByteArray) (i : Nat) (h : i < s.size) : bt s (i : Int) = ((s.data.toList[i]'(by rw [size_data]; exact h)).toNat : Int) := by
  unfold bt
  rw [dif_pos (by simpa using h)]
  rfl
theorem drop_at (s : ByteArray) (i : Nat) (h : i < s.size) : s.data.toList.drop i = s.data.toList[i]'(by rw [size_data]; exact h) :: s.data.toList.drop (i + 1) := by
  rw [List.drop_eq_getElem_cons]
theorem str_eq {a b : ByteArray} : a.toList = b.toList ↔ a = b := by
  rw [Lib.toList_data, Lib.toList_data]
  constructor
  · intro h
    cases a; cases b
    simp only [ByteArray.mk.injEq]
    exact Array.toList_inj.mp h
  · rintro rfl; rfl
/-! ### numbers in bytes -/
def varI (n : Nat) : List Int := if n > 127 then ((n % 128 + 128 : Nat) : Int) :: varI (n / 128) else [(n : Int)]
termination_by n
decreasing_by omega
theorem varI_big {n : Nat} (h : n > 127) : varI n = ((n % 128 + 128 : Nat) : Int) :: varI (n / 128) := by rw [varI, if_pos h]
theorem varI_small {n : Nat} (h : ¬ n > 127) : varI n = [(n : Int)] := by rw [varI, if_neg h]
def varS (n : Nat) : ByteArray := strOfNums (varI n)
theorem or128 (n : Nat) : Go.bits .or .i64 (Go.bits .and .i64 (n : Int) 127) 128 % 256 = ((n % 128 + 128 : Nat) : Int) := by
  have h1 : Go.bits .and .i64 (n : Int) 127 = ((n % 128 : Nat) : Int) := by
    have e : (BitVec.ofInt 64 (n : Int) &&& BitVec.ofInt 64 127).toNat = n % 128 := by
      rw [BitVec.toNat_and]
      have : (BitVec.ofInt 64 (n : Int)).toNat = n % 2 ^ 64 := by simp
      rw [this, show (BitVec.ofInt 64 127).toNat = 2 ^ 7 - 1 from rfl, Nat.and_two_pow_sub_one_eq_mod]
      omega
    show IntKind.i64.wrap ((BitVec.ofInt 64 (n : Int) &&& BitVec.ofInt 64 127).toNat : Int) = _
    rw [e, IntKind.wrap_i64]
    omega
  rw [h1]
  have h2 : Go.bits .or .i64 ((n % 128 : Nat) : Int) 128 = ((n % 128 + 128 : Nat) : Int) := by
    have e : (BitVec.ofInt 64 ((n % 128 : Nat) : Int) ||| BitVec.ofInt 64 128).toNat = n % 128 + 128 := by
      rw [BitVec.toNat_or]
      have : (BitVec.ofInt 64 ((n % 128 : Nat) : Int)).toNat = n % 128 := by simp; omega
      rw [this, show (BitVec.ofInt 64 128).toNat = 2 ^ 7 * 1 from rfl, Nat.or_comm, ← Nat.two_pow_add_eq_or_of_lt (by omega)]
      omega
    show IntKind.i64.wrap ((BitVec.ofInt 64 ((n % 128 : Nat) : Int) ||| BitVec.ofInt 64 128).toNat : Int) = _
    rw [e, IntKind.wrap_i64]
    omega
  rw [h2]
  omega
theorem wf_i64 {a : Int} (h : (Lit.int .i64 a).wf = true) : -9223372036854775808 ≤ a ∧ a ≤ 9223372036854775807 := by
  simp only [Lit.wf, IntKind.min, IntKind.max, IntKind.signed, IntKind.bits, Bool.and_eq_true] at h
  simp at h
  omega
theorem wf_u32 {a : Int} (h : (Lit.int .u32 a).wf = true) : 0 ≤ a ∧ a < 4294967296 := by
  simp only [Lit.wf, IntKind.min, IntKind.max, IntKind.signed, IntKind.bits, Bool.and_eq_true] at h
  simp at h
  omega
/-- What two functions tell alike, a law that holds them against each other finds alike. -/
theorem Ev.both {α β : Type} {g h : Nat → Option α} {f : Nat → α → α → Option β} {a : α} {r : β} (hg : Ev g a) (hh : Ev h a) (hf : ∀ k, f k a a = some r) :
    Ev (fun k => (g k).bind fun x => (h k).bind fun y => f k x y) r :=
  Ev.bind hg (Ev.bind (f := fun k y => f k a y) hh ⟨0, fun k _ => hf k⟩) (f := fun k x => (h k).bind fun y => f k x y)
theorem Ev.const {α : Type} {o : Option α} {r : α} (h : o = some r) : Ev (fun _ => o) r := ⟨0, fun _ _ => h⟩
/-! ### numbers out of bytes -/
theorem u8_and127 (x : Int) (h0 : 0 ≤ x) (h1 : x < 256) : Go.bits .and .u8 x 127 = x % 128 := bits_mask .u8 8 (by decide) wraps_u8 7 (by decide) x h0 h1
theorem wraps_i64 (n : Int) (h₀ : 0 ≤ n) (h₁ : n < 2 ^ 62) : IntKind.i64.wrap n = n := by rw [IntKind.wrap_i64]; omega
theorem bits_or_comm (k : IntKind) (x y : Int) : Go.bits .or k x y = Go.bits .or k y x := by
  show k.wrap _ = k.wrap _
  rw [BitVec.or_comm]
theorem or_join (n m j : Nat) (hn : n < 2 ^ j) (hj : j ≤ 62) (ht : m * 2 ^ j < 2 ^ 62) : Go.bits .or .i64 (n : Int) ((m * 2 ^ j : Nat) : Int) = ((n + m * 2 ^ j : Nat) : Int) := by
  have hn' : n < 2 ^ 62 := Nat.lt_of_lt_of_le hn (Nat.pow_le_pow_right (by decide) hj)
  rw [(bits_nat .i64 62 (by decide) wraps_i64 n (m * 2 ^ j) hn' ht).2]
  rw [Nat.or_comm, Nat.mul_comm m, ← Nat.two_pow_add_eq_or_of_lt hn, Nat.add_comm]
theorem shl_is (m j : Nat) (hj : j ≤ 60) (hm : m * 2 ^ j < 2 ^ 62) : shl .i64 (m : Int) (j : Int) = ((m * 2 ^ j : Nat) : Int) := by
  unfold shl
  rw [show min (j : Int).toNat IntKind.i64.bits = j from by rw [Int.toNat_natCast]; exact Nat.min_eq_left (Nat.le_trans hj (by decide))]
  have e : (m : Int) * 2 ^ j = ((m * 2 ^ j : Nat) : Int) := by simp
  rw [e]
  exact wraps_i64 _ (by omega) (by exact_mod_cast hm)
def readV (s : ByteArray) (p : Nat) : Nat → Nat → Nat → Int × Int × Bool
  | 0, _, _ => (0, 0, false)
  | d + 1, i, n =>
    if p + i < s.size then
      if (bt s ((p + i : Nat) : Int)).toNat < 128 then
        if n + (bt s ((p + i : Nat) : Int)).toNat % 128 * 2 ^ (7 * i) ≤ 1000000000 ∧ varS (n + (bt s ((p + i : Nat) : Int)).toNat % 128 * 2 ^ (7 * i)) = s.extract p (p + i + 1) then
          (((n + (bt s ((p + i : Nat) : Int)).toNat % 128 * 2 ^ (7 * i) : Nat) : Int), ((p + i + 1 : Nat) : Int), true)
        else (0, 0, false)
      else readV s p d (i + 1) (n + (bt s ((p + i : Nat) : Int)).toNat % 128 * 2 ^ (7 * i))
    else (0, 0, false)
def readVar (s : ByteArray) (a : Int) : Int × Int × Bool := if 0 ≤ a ∧ a ≤ s.size then readV s a.toNat 5 0 0 else (0, 0, false)
theorem seven_le {i : Nat} (h : i ≤ 4) : 2 ^ (7 * i) ≤ 268435456 := Nat.le_trans (Nat.pow_le_pow_right (by decide) (show 7 * i ≤ 28 by omega)) (by decide)
theorem seven_succ (i : Nat) : 2 ^ (7 * (i + 1)) = 2 ^ (7 * i) * 128 := by rw [show 7 * (i + 1) = 7 * i + 7 from by omega, Nat.pow_add]

theorem varI_len (n : Nat) : (varI n).length ≤ n + 1 := by
  induction n using Nat.strongRecOn with
  | ind n ih =>
    by_cases h : n > 127
    · rw [varI_big h, List.length_cons]
      have := ih (n / 128) (by omega)
      omega
    · rw [varI_small h, List.length_singleton]
      omega
theorem varS_size (n : Nat) : (varS n).size ≤ n + 1 := by rw [varS, strOfNums_size]; exact varI_len n
theorem size_append (a b : ByteArray) : (a ++ b).size = a.size + b.size := ByteArray.size_append
/-! ### four bytes -/
def fourS (x : Int) : ByteArray := strOfNums [(x / 16777216) % 256, (x / 65536) % 256, (x / 256) % 256, x % 256]
theorem fourS_size (x : Int) : (fourS x).size = 4 := by rw [fourS, strOfNums_size]; rfl
def sealS (s : ByteArray) : ByteArray := s ++ fourS ((crc 4294967295 s.data.toList : Nat) : Int)
theorem or_high (x y : Nat) (i : Nat) (hx : x % 2 ^ i = 0) (hx1 : x < 2 ^ 62) (hy : y < 2 ^ i) (hy1 : y < 2 ^ 62) : Go.bits .or .i64 (x : Int) (y : Int) = ((x + y : Nat) : Int) := by
  have := bits_join .i64 62 (by decide) wraps_i64 i (x : Int) (y : Int) (by omega) (by exact_mod_cast hx) (by exact_mod_cast hx1) (by omega) (by exact_mod_cast hy) (by exact_mod_cast hy1)
  rw [this]
  omega
theorem four_join (a b c d : Nat) (ha : a < 256) (hb : b < 256) (hc : c < 256) (hd : d < 256) :
    Go.bits .or .i64 (Go.bits .or .i64 (Go.bits .or .i64 (wrap64 ((wrap64 (a : Int)) * 16777216)) (wrap64 ((wrap64 (b : Int)) * 65536))) (wrap64 ((wrap64 (c : Int)) * 256))) (wrap64 (d : Int)) = ((a * 16777216 + b * 65536 + c * 256 + d : Nat) : Int) := by
  rw [wrap_in (n := (a : Int)) (by omega) (by omega), wrap_in (n := (b : Int)) (by omega) (by omega), wrap_in (n := (c : Int)) (by omega) (by omega), wrap_in (n := (d : Int)) (by omega) (by omega)]
  rw [wrap_in (n := (a : Int) * 16777216) (by omega) (by omega), wrap_in (n := (b : Int) * 65536) (by omega) (by omega), wrap_in (n := (c : Int) * 256) (by omega) (by omega)]
  have h1 := or_high (a * 16777216) (b * 65536) 24 (by omega) (by omega) (by omega) (by omega)
  have h2 := or_high (a * 16777216 + b * 65536) (c * 256) 16 (by omega) (by omega) (by omega) (by omega)
  have h3 := or_high (a * 16777216 + b * 65536 + c * 256) d 8 (by omega) (by omega) (by omega) (by omega)
  rw [show (a : Int) * 16777216 = ((a * 16777216 : Nat) : Int) from by omega, show (b : Int) * 65536 = ((b * 65536 : Nat) : Int) from by omega, show (c : Int) * 256 = ((c * 256 : Nat) : Int) from by omega, h1, h2, h3]
def fourN (s : ByteArray) (p : Nat) : Nat := (bt s (p : Int)).toNat * 16777216 + (bt s ((p + 1 : Nat) : Int)).toNat * 65536 + (bt s ((p + 2 : Nat) : Int)).toNat * 256 + (bt s ((p + 3 : Nat) : Int)).toNat
theorem bt_lt (s : ByteArray) (i : Int) : (bt s i).toNat < 256 := by have := bt_range s i; omega
theorem bt_cast (s : ByteArray) (i : Int) : bt s i = (((bt s i).toNat : Nat) : Int) := by have := bt_range s i; omega
theorem byte_at (s : ByteArray) (i : Nat) (h : i < s.size) : s.data.toList[i]'(by rw [size_data]; exact h) = UInt8.ofNat (bt s (i : Int)).toNat := by
  rw [bt_nat s i h, Int.toNat_natCast]
  exact (UInt8.ofNat_toNat).symm
theorem drop_four (s : ByteArray) (p : Nat) (h : p + 4 = s.size) : s.extract p s.size = strOfNums [bt s (p : Int), bt s ((p + 1 : Nat) : Int), bt s ((p + 2 : Nat) : Int), bt s ((p + 3 : Nat) : Int)] := by
  apply str_eq.1
  rw [Lib.toList_data, Lib.toList_data, strOfNums_data]
  have e : (s.extract p s.size).data.toList = s.data.toList.drop p := by
    simp
    rw [List.take_of_length_le (by rw [List.length_drop, size_data]; omega)]
  rw [e, drop_at s p (by omega), drop_at s (p + 1) (by omega), drop_at s (p + 2) (by omega), drop_at s (p + 3) (by omega), List.drop_eq_nil_of_le (by rw [size_data]; omega)]
  rw [byte_at s p (by omega), byte_at s (p + 1) (by omega), byte_at s (p + 2) (by omega), byte_at s (p + 3) (by omega)]
  rfl
theorem ofNat_inj {a b : Nat} (ha : a < 256) (hb : b < 256) (h : UInt8.ofNat a = UInt8.ofNat b) : a = b := by
  have := congrArg UInt8.toNat h
  simp at this
  omega
theorem four_eq (s : ByteArray) (p : Nat) (h : p + 4 = s.size) (x : Nat) (hx : x < 4294967296) : s.extract p s.size = fourS (x : Int) ↔ x = fourN s p := by
  rw [drop_four s p h]
  have l0 := bt_lt s (p : Int)
  have l1 := bt_lt s ((p + 1 : Nat) : Int)
  have l2 := bt_lt s ((p + 2 : Nat) : Int)
  have l3 := bt_lt s ((p + 3 : Nat) : Int)
  have b0 := bt_range s (p : Int)
  have b1 := bt_range s ((p + 1 : Nat) : Int)
  have b2 := bt_range s ((p + 2 : Nat) : Int)
  have b3 := bt_range s ((p + 3 : Nat) : Int)
  unfold fourN fourS
  generalize bt s (p : Int) = c0 at *
  generalize bt s ((p + 1 : Nat) : Int) = c1 at *
  generalize bt s ((p + 2 : Nat) : Int) = c2 at *
  generalize bt s ((p + 3 : Nat) : Int) = c3 at *
  constructor
  · intro e
    have e2 := congrArg (fun t : ByteArray => t.data.toList) e
    simp only [strOfNums_data, List.map_cons, List.map_nil, List.cons.injEq, and_true] at e2
    obtain ⟨h0, h1, h2, h3⟩ := e2
    have g0 := ofNat_inj l0 (by omega) h0
    have g1 := ofNat_inj l1 (by omega) h1
    have g2 := ofNat_inj l2 (by omega) h2
    have g3 := ofNat_inj l3 (by omega) h3
    omega
  · intro e
    have h0 : (x : Int) / 16777216 % 256 = c0 := by omega
    have h1 : (x : Int) / 65536 % 256 = c1 := by omega
    have h2 : (x : Int) / 256 % 256 = c2 := by omega
    have h3 : (x : Int) % 256 = c3 := by omega
    rw [h0, h1, h2, h3]

theorem readV_bounds (s : ByteArray) (p d : Nat) : ∀ i n, 0 ≤ (readV s p d i n).1 ∧ (readV s p d i n).1 ≤ 1000000000 ∧ 0 ≤ (readV s p d i n).2.1 ∧ (readV s p d i n).2.1 ≤ s.size := by
  induction d with
  | zero => intro i n; simp only [readV]; omega
  | succ d ih =>
    intro i n
    simp only [readV]
    split
    · split
      · split
        · rename_i h1 h2 h3
          exact ⟨Int.natCast_nonneg _, by have := h3.1; show ((_ : Nat) : Int) ≤ _; omega, Int.natCast_nonneg _, by show ((p + i + 1 : Nat) : Int) ≤ _; omega⟩
        · show (0 : Int) ≤ 0 ∧ (0 : Int) ≤ 1000000000 ∧ (0 : Int) ≤ 0 ∧ (0 : Int) ≤ s.size
          omega
      · exact ih _ _
    · show (0 : Int) ≤ 0 ∧ (0 : Int) ≤ 1000000000 ∧ (0 : Int) ≤ 0 ∧ (0 : Int) ≤ s.size
      omega
theorem readVar_bounds (s : ByteArray) (a : Int) : 0 ≤ (readVar s a).1 ∧ (readVar s a).1 ≤ 1000000000 ∧ 0 ≤ (readVar s a).2.1 ∧ (readVar s a).2.1 ≤ s.size := by
  unfold readVar
  split
  · exact readV_bounds s _ _ _ _
  · show (0 : Int) ≤ 0 ∧ (0 : Int) ≤ 1000000000 ∧ (0 : Int) ≤ 0 ∧ (0 : Int) ≤ s.size
    omega
def readShort (s : ByteArray) (a : Int) : ByteArray × Int × Bool :=
  if (readVar s a).2.2 = true then
    if (readVar s a).1 > 20000 then (⟨#[]⟩, 0, false)
    else if (readVar s a).1 > (s.size : Int) - (readVar s a).2.1 then (⟨#[]⟩, 0, false)
    else (s.extract (readVar s a).2.1.toNat ((readVar s a).2.1 + (readVar s a).1).toNat, (readVar s a).2.1 + (readVar s a).1, true)
  else (⟨#[]⟩, 0, false)
def shortS (s : ByteArray) : ByteArray × Bool := if (s.size : Int) > 20000 then (⟨#[]⟩, false) else (varS s.size ++ s, true)
/-! ### decimal figures -/
def mkS (l : List UInt8) : ByteArray := ⟨l.toArray⟩
theorem mkS_size (l : List UInt8) : (mkS l).size = l.length := by simp [mkS, ByteArray.size]
theorem mkS_data (l : List UInt8) : (mkS l).data.toList = l := rfl
theorem mkS_append (l m : List UInt8) : mkS l ++ mkS m = mkS (l ++ m) := by
  apply str_eq.1
  rw [Lib.toList_data, Lib.toList_data, ByteArray.data_append, Array.toList_append]
  rfl
theorem strOfNums_mkS (xs : List Int) : strOfNums xs = mkS (xs.map fun n => UInt8.ofNat n.toNat) := rfl
def decA (n : Nat) (l : List UInt8) : List UInt8 := if n = 0 then l else decA (n / 10) (UInt8.ofNat (48 + n % 10) :: l)
termination_by n
decreasing_by omega
theorem decA_zero (l : List UInt8) : decA 0 l = l := by rw [decA]; rfl
theorem decA_pos {n : Nat} (h : n ≠ 0) (l : List UInt8) : decA n l = decA (n / 10) (UInt8.ofNat (48 + n % 10) :: l) := by rw [decA, if_neg h]
def decS (x : Int) : ByteArray := if x = 0 then mkS [48] else if x < 0 then mkS (45 :: decA x.natAbs []) else mkS (decA x.natAbs [])
theorem tmod_abs (x : Int) : (Int.tmod x 10).natAbs = x.natAbs % 10 := by rw [Int.natAbs_tmod]; rfl
theorem tdiv_abs (x : Int) : (Int.tdiv x 10).natAbs = x.natAbs / 10 := by rw [Int.natAbs_tdiv]; rfl
theorem digits_of (m : Nat) (h : m < 10) (l : List UInt8) : strOfNums [((48 + m : Nat) : Int)] ++ mkS l = mkS (UInt8.ofNat (48 + m) :: l) := by
  rw [strOfNums_mkS, mkS_append]
  rfl
theorem figure_of : ∀ (m : Nat), m < 10 → (⟨#[48, 49, 50, 51, 52, 53, 54, 55, 56, 57, 97, 98, 99, 100, 101, 102]⟩ : ByteArray).extract m (m + 1) = mkS [UInt8.ofNat (48 + m)] := by decide

def figN : List UInt8 → Nat → Option Nat
  | [], n => some n
  | b :: l, n => if b.toNat < 48 ∨ b.toNat > 57 then none else figN l (10 * n + (b.toNat - 48))
def decEnd (s : ByteArray) : Option Nat → Int × Bool
  | none => (0, false)
  | some m => if m > 1000000000 then (0, false) else if decS (m : Int) = s then ((m : Int), true) else (0, false)
def readDec (s : ByteArray) : Int × Bool := if s.size ≤ 10 then decEnd s (figN s.data.toList 0) else (0, false)
theorem bt_byte (s : ByteArray) (i : Nat) (h : i < s.size) : (s.data.toList[i]'(by rw [size_data]; exact h)).toNat = (bt s (i : Int)).toNat := by rw [bt_nat s i h, Int.toNat_natCast]
theorem ten_le {i : Nat} (h : i ≤ 10) : 10 ^ i ≤ 10000000000 := Nat.le_trans (Nat.pow_le_pow_right (by decide) h) (by decide)

/-! ### a byte of a drawn number -/
theorem and255 (x : Int) : 0 ≤ Go.bits .and .i64 x 255 ∧ Go.bits .and .i64 x 255 ≤ 255 := by
  have e : Go.bits .and .i64 x 255 = (((BitVec.ofInt 64 x &&& BitVec.ofInt 64 255).toNat : Nat) : Int) := by
    show IntKind.i64.wrap ((BitVec.ofInt 64 x &&& BitVec.ofInt 64 255).toNat : Int) = _
    have h : (BitVec.ofInt 64 x &&& BitVec.ofInt 64 255).toNat ≤ 255 := by
      rw [BitVec.toNat_and]
      exact Nat.and_le_right
    rw [IntKind.wrap_i64]
    omega
  have h : (BitVec.ofInt 64 x &&& BitVec.ofInt 64 255).toNat ≤ 255 := by
    rw [BitVec.toNat_and]
    exact Nat.and_le_right
  rw [e]
  omega
end Go.Proofs.Ytfchokhdhnfajaa.Math
