/- spec.l03Turn and bits.RotateLeft32 by hand. -/
import Derived.Test.YtfjhfmfeblcnhaaDoorProg
import Derived.Below
import Derived.Deep.Draws
import Derived.Deep.AppendLies
import Derived.Maps.AppendAt
import Derived.OwnWalk
import Derived.Laws.BytesArg
import Derived.Laws.MakeOwn
import Derived.Laws.OwnMore
import Derived.Deep.OwnRows
import Derived.Tactics
import Derived.Lib.ConvBytes
import Derived.Laws.Slices
import Derived.WalkKit
import Derived.KernelRfl
import Derived.RowKit3
import Derived.Deep.LoopGhost
import Derived.Deep.QuietTactic
import Derived.BigQuiet
import Derived.WideLaws
import Derived.Deep.DeepCutAuto
import Derived.Deep.CutBlock
import Derived.Deep.RegionHeld3
import Derived.Laws.Rows
import Derived.Lib.AppendStr
import Derived.ArgAppend
import Derived.Laws.IdiomCopy
import Derived.OrdersHeld
import Derived.Laws.BitsLemmas
import Derived.RowKit
import Derived.Test.YtfjhfmfeblcnhaaDoorWMore
import Derived.Test.YtfjhfmfeblcnhaaDoorSha
namespace Go.Proofs.YtfjhfmfeblcnhaaDoor.Hand
open Go.RowKit Go.Proofs.YtfjhfmfeblcnhaaDoorW.PrintWords Go.Proofs.YtfjhfmfeblcnhaaDoorW.PrintLast Go.Proofs.YtfjhfmfeblcnhaaDoorW.PrintMore Go.Proofs.YtfjhfmfeblcnhaaDoor.Sha
attribute [local go_sem] max2_int min2_int max_two min_two max_three min_three max_four min_four
set_option linter.unusedVariables false
set_option linter.unusedSimpArgs false
theorem turn_is (x : UInt32) (n : Nat) (h0 : 0 < n) (h1 : n < 32) : Go.bits .or .u32 (((x.toNat : Nat) : Int) / 2 ^ n) (((x.toNat : Nat) : Int) * 2 ^ (32 - n) % 4294967296) = (((rr x (UInt32.ofNat n)).toNat : Nat) : Int) := by
  have hn : (UInt32.ofNat n).toNat = n := by rw [UInt32.toNat_ofNat']; omega
  have hm : (32 - UInt32.ofNat n : UInt32).toNat = 32 - n := by
    rw [UInt32.toNat_sub, hn]
    show (2 ^ 32 - n + 32) % 2 ^ 32 = 32 - n
    omega
  have e1 : ((x.toNat : Nat) : Int) / 2 ^ n = (((x >>> UInt32.ofNat n).toNat : Nat) : Int) := by
    rw [UInt32.toNat_shiftRight, hn, Nat.mod_eq_of_lt h1, Nat.shiftRight_eq_div_pow]
    simp
  have e2 : ((x.toNat : Nat) : Int) * 2 ^ (32 - n) % 4294967296 = (((x <<< (32 - UInt32.ofNat n)).toNat : Nat) : Int) := by
    rw [UInt32.toNat_shiftLeft, hm, Nat.mod_eq_of_lt (show 32 - n < 32 by omega), Nat.shiftLeft_eq]
    simp
  rw [e1, e2, m_or]
  rfl
set_option maxHeartbeats 1000000 in
set_option maxRecDepth 100000 in
theorem spec_l03Turn.calls (x : UInt32) (n : Nat) (h0 : 0 < n) (h1 : n < 32) (w : World) :
    Calls Tryd.prog 49 #[.int .u32 ((x.toNat : Nat) : Int), .int .u64 (n : Int)] w fun e w' => e = .returned (.int .u32 (((rr x (UInt32.ofNat n)).toNat : Nat) : Int)) ∧ w' = w := by
  have HT := Aside0.mk (turn_is x n h0 h1)
  go_enter Tryd.func49, Tryd.ntmps49
  go_wp2
  rw [HT.out]
  go_ret
  exact ⟨rfl, rfl⟩
theorem low5 (n : Nat) (h0 : 0 < n) (h1 : n < 32) : Go.bits .and .u64 (IntKind.u64.wrap (-(n : Int))) 31 = ((32 - n : Nat) : Int) := by
  have : ∀ n : Fin 32, 0 < n.val → Go.bits .and .u64 (IntKind.u64.wrap (-(n.val : Int))) 31 = ((32 - n.val : Nat) : Int) := by decide
  exact this ⟨n, h1⟩ h0
set_option maxHeartbeats 1000000 in
set_option maxRecDepth 100000 in
theorem rotl_calls (x : UInt32) (n : Nat) (h0 : 0 < n) (h1 : n < 32) (w : World) :
    Calls Tryd.prog 39 #[.int .u32 ((x.toNat : Nat) : Int), .int .i64 (-(n : Int))] w fun e w' => e = .returned (.int .u32 (((rr x (UInt32.ofNat n)).toNat : Nat) : Int)) ∧ w' = w := by
  obtain ⟨m, hm⟩ : ∃ m, m = 32 - n := ⟨_, rfl⟩
  have he := low5 n h0 h1
  have ht := turn_is x n h0 h1
  rw [Math.bits_or_comm] at ht
  rw [← hm] at he ht
  have hb : m < 32 := by omega
  have hb0 : 0 < m := by omega
  have hn : n = 32 - m := by omega
  rw [hn] at ht
  have HT := Aside0.mk ht
  have HN := Aside0.mk hn
  clear ht hn hm h0 h1
  go_enter Tryd.func39, Tryd.ntmps39
  go_wp2
  rw [HT.out, ← HN.out]
  go_ret
  exact ⟨rfl, rfl⟩
/-- A call that leaves the world alone, behind a quiet region. -/
theorem quiet_again {P : Program} {f : FuncId} {args : Array Value} {w : World} {a n : Nat} {v : Value} (h : Calls P f args (w.drewN (a + n)) fun e w' => e = .returned v ∧ w' = w.drewN (a + n)) :
    Calls P f args (w.drewN (a + n)) fun e w' => e = .returned v ∧ ∃ m, w' = w.drewN (a + m) := by
  refine h.mono fun e w' hh => ?_
  exact ⟨hh.1, n, hh.2⟩
theorem turn_any (x : UInt32) (n : Int) (h0 : 0 < n) (h1 : n < 32) (w : World) :
    Calls Tryd.prog 49 #[.int .u32 ((x.toNat : Nat) : Int), .int .u64 n] w fun e w' => e = .returned (.int .u32 (((rr x (UInt32.ofNat n.toNat)).toNat : Nat) : Int)) ∧ w' = w := by
  obtain ⟨m, rfl⟩ := Int.eq_ofNat_of_zero_le (show 0 ≤ n by omega)
  exact spec_l03Turn.calls x m (by omega) (by omega) w
theorem rotl_any (x : UInt32) (n : Int) (h0 : n < 0) (h1 : -32 < n) (w : World) :
    Calls Tryd.prog 39 #[.int .u32 ((x.toNat : Nat) : Int), .int .i64 n] w fun e w' => e = .returned (.int .u32 (((rr x (UInt32.ofNat (-n).toNat)).toNat : Nat) : Int)) ∧ w' = w := by
  obtain ⟨m, hm⟩ := Int.eq_ofNat_of_zero_le (show 0 ≤ -n by omega)
  obtain rfl : n = -(m : Int) := by omega
  rw [Int.neg_neg, Int.toNat_natCast]
  exact rotl_calls x m (by omega) (by omega) w
end Go.Proofs.YtfjhfmfeblcnhaaDoor.Hand
