/- Plain lemmas on numbers and bytes, without any Go: sums of 32 bits, texts as lists of bytes. -/
import Derived.Test.YtofoedbppeigoaaWWords
import Derived.Laws.BitsAllLaws
import Derived.Laws.BitsLemmas
import Derived.Lib.Strings
namespace Go.Proofs.Ytofoedbppeigoaa.Math
open Go.RowKit Go.Proofs.YtofoedbppeigoaaW.PrintWords

theorem wrap_in {n : Int} (h : -9223372036854775808 ≤ n) (h2 : n ≤ 9223372036854775807) : wrap64 n = n := by unfold wrap64; omega

/-! ### sums -/
def crcBit (x : Nat) : Nat := if x % 2 = 1 then (x / 2) ^^^ 3558460437 else x / 2
def crcBits : Nat → Nat → Nat
  | 0, x => x
  | d + 1, x => crcBits d (crcBit x)
def crcByte (x b : Nat) : Nat := crcBits 8 (x ^^^ b)
def crc (x : Nat) (l : List UInt8) : Nat := l.foldl (fun s b => crcByte s b.toNat) x
theorem crcBit_lt {x : Nat} (h : x < 4294967296) : crcBit x < 4294967296 := by
  unfold crcBit
  split
  · exact Nat.xor_lt_two_pow (n := 32) (by omega) (by omega)
  · omega
theorem crcBits_lt (d : Nat) : ∀ {x : Nat}, x < 4294967296 → crcBits d x < 4294967296 := by
  induction d with
  | zero => intro x h; exact h
  | succ d ih => intro x h; exact ih (crcBit_lt h)
theorem crcByte_lt {x b : Nat} (h : x < 4294967296) (hb : b < 4294967296) : crcByte x b < 4294967296 :=
  crcBits_lt 8 (Nat.xor_lt_two_pow (n := 32) (by omega) (by omega))
theorem crc_lt (l : List UInt8) : ∀ {x : Nat}, x < 4294967296 → crc x l < 4294967296 := by
  induction l with
  | nil => intro x h; exact h
  | cons b l ih => intro x h; exact ih (crcByte_lt h (by have := b.toNat_lt; omega))
theorem crc_append (x : Nat) (l m : List UInt8) : crc x (l ++ m) = crc (crc x l) m := by simp [crc, List.foldl_append]

/-! ### texts -/
theorem size_data (s : ByteArray) : s.data.toList.length = s.size := by rw [Array.length_toList]; rfl
theorem bt_nat (s : ByteArray) (i : Nat) (h : i < s.size) : bt s (i : Int) = ((s.data.toList[i]'(by rw [size_data]; exact h)).toNat : Int) := by
  unfold bt
  rw [dif_pos (by simpa using h)]
  rfl
theorem drop_at (s : ByteArray) (i : Nat) (h : i < s.size) : s.data.toList.drop i = s.data.toList[i]'(by rw [size_data]; exact h) :: s.data.toList.drop (i + 1) := by
  rw [List.drop_eq_getElem_cons]
theorem str_eq {a b : ByteArray} : a.toList = b.toList ↔ a = b := by
  rw [Lib.toList_data, Lib.toList_data]
  constructor
  · intro h
    cases a; cases b
    simp only [ByteArray.mk.injEq]
    exact Array.toList_inj.mp h
  · rintro rfl; rfl
/-! ### numbers in bytes -/
def varI (n : Nat) : List Int := if n > 127 then ((n % 128 + 128 : Nat) : Int) :: varI (n / 128) else [(n : Int)]
termination_by n
decreasing_by omega
theorem varI_big {n : Nat} (h : n > 127) : varI n = ((n % 128 + 128 : Nat) : Int) :: varI (n / 128) := by rw [varI, if_pos h]
theorem varI_small {n : Nat} (h : ¬ n > 127) : varI n = [(n : Int)] := by rw [varI, if_neg h]
def varS (n : Nat) : ByteArray := strOfNums (varI n)
theorem or128 (n : Nat) : Go.bits .or .i64 (Go.bits .and .i64 (n : Int) 127) 128 % 256 = ((n % 128 + 128 : Nat) : Int) := by
  have h1 : Go.bits .and .i64 (n : Int) 127 = ((n % 128 : Nat) : Int) := by
    have e : (BitVec.ofInt 64 (n : Int) &&& BitVec.ofInt 64 127).toNat = n % 128 := by
      rw [BitVec.toNat_and]
      have : (BitVec.ofInt 64 (n : Int)).toNat = n % 2 ^ 64 := by simp
      rw [this, show (BitVec.ofInt 64 127).toNat = 2 ^ 7 - 1 from rfl, Nat.and_two_pow_sub_one_eq_mod]
      omega
    show IntKind.i64.wrap ((BitVec.ofInt 64 (n : Int) &&& BitVec.ofInt 64 127).toNat : Int) = _
    rw [e, IntKind.wrap_i64]
    omega
  rw [h1]
  have h2 : Go.bits .or .i64 ((n % 128 : Nat) : Int) 128 = ((n % 128 + 128 : Nat) : Int) := by
    have e : (BitVec.ofInt 64 ((n % 128 : Nat) : Int) ||| BitVec.ofInt 64 128).toNat = n % 128 + 128 := by
      rw [BitVec.toNat_or]
      have : (BitVec.ofInt 64 ((n % 128 : Nat) : Int)).toNat = n % 128 := by simp; omega
      rw [this, show (BitVec.ofInt 64 128).toNat = 2 ^ 7 * 1 from rfl, Nat.or_comm, ← Nat.two_pow_add_eq_or_of_lt (by omega)]
      omega
    show IntKind.i64.wrap ((BitVec.ofInt 64 ((n % 128 : Nat) : Int) ||| BitVec.ofInt 64 128).toNat : Int) = _
    rw [e, IntKind.wrap_i64]
    omega
  rw [h2]
  omega
theorem wf_i64 {a : Int} (h : (Lit.int .i64 a).wf = true) : -9223372036854775808 ≤ a ∧ a ≤ 9223372036854775807 := by
  simp only [Lit.wf, IntKind.min, IntKind.max, IntKind.signed, IntKind.bits, Bool.and_eq_true] at h
  simp at h
  omega
theorem wf_u32 {a : Int} (h : (Lit.int .u32 a).wf = true) : 0 ≤ a ∧ a < 4294967296 := by
  simp only [Lit.wf, IntKind.min, IntKind.max, IntKind.signed, IntKind.bits, Bool.and_eq_true] at h
  simp at h
  omega
/-- What two functions tell alike, a law that holds them against each other finds alike. -/
theorem Ev.both {α β : Type} {g h : Nat → Option α} {f : Nat → α → α → Option β} {a : α} {r : β} (hg : Ev g a) (hh : Ev h a) (hf : ∀ k, f k a a = some r) :
    Ev (fun k => (g k).bind fun x => (h k).bind fun y => f k x y) r :=
  Ev.bind hg (Ev.bind (f := fun k y => f k a y) hh ⟨0, fun k _ => hf k⟩) (f := fun k x => (h k).bind fun y => f k x y)
theorem Ev.const {α : Type} {o : Option α} {r : α} (h : o = some r) : Ev (fun _ => o) r := ⟨0, fun _ _ => h⟩
end Go.Proofs.Ytofoedbppeigoaa.Math
