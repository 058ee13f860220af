/- impl.ShaBlock by hand, and the small functions that it calls. -/
import Derived.Test.YtfjhfmfeblcnhaaDoorProg
import Derived.Below
import Derived.Deep.Draws
import Derived.Deep.AppendLies
import Derived.Maps.AppendAt
import Derived.OwnWalk
import Derived.Laws.BytesArg
import Derived.Laws.MakeOwn
import Derived.Laws.OwnMore
import Derived.Deep.OwnRows
import Derived.Tactics
import Derived.Lib.ConvBytes
import Derived.Laws.Slices
import Derived.WalkKit
import Derived.KernelRfl
import Derived.RowKit3
import Derived.Deep.LoopGhost
import Derived.Deep.QuietTactic
import Derived.BigQuiet
import Derived.WideLaws
import Derived.Deep.DeepCutAuto
import Derived.Deep.CutBlock
import Derived.Deep.RegionHeld3
import Derived.Laws.Rows
import Derived.Lib.AppendStr
import Derived.ArgAppend
import Derived.Laws.IdiomCopy
import Derived.OrdersHeld
import Derived.Laws.BitsLemmas
import Derived.RowKit
import Derived.Test.YtfjhfmfeblcnhaaDoorWMore
import Derived.Test.YtfjhfmfeblcnhaaDoorSha6
import Derived.BigRegion
namespace Go.Proofs.YtfjhfmfeblcnhaaDoor.Hand
open Go.RowKit Go.Proofs.YtfjhfmfeblcnhaaDoorW.PrintWords Go.Proofs.YtfjhfmfeblcnhaaDoorW.PrintLast Go.Proofs.YtfjhfmfeblcnhaaDoorW.PrintMore Go.Proofs.YtfjhfmfeblcnhaaDoor.Sha
attribute [local go_sem] max2_int min2_int max_two min_two max_three min_three max_four min_four
set_option linter.unusedVariables false
set_option linter.unusedSimpArgs false
set_option maxRecDepth 100000 in
theorem impl_in_yes (x : Int) (h0 : 0 ≤ x) (h1 : x ≤ 4294967295) (w : World) : Calls Tryd.prog 43 #[.int .i64 x, .int .i64 0, .int .i64 4294967295] w fun e w' => e = .returned (.bool true) ∧ w' = w := by
  have b0 : decide (0 ≤ x) = true := decide_eq_true h0
  have b1 : decide (x ≤ 4294967295) = true := decide_eq_true h1
  clear h0 h1
  go_enter Tryd.func43, Tryd.ntmps43
  go_wp2
  go_ret
  exact ⟨rfl, rfl⟩
set_option maxRecDepth 100000 in
theorem impl_in_no (x : Int) (h : ¬ (0 ≤ x ∧ x ≤ 4294967295)) (w : World) : Calls Tryd.prog 43 #[.int .i64 x, .int .i64 0, .int .i64 4294967295] w fun e w' => e = .returned (.bool false) ∧ w' = w := by
  by_cases h0 : 0 ≤ x
  · have b0 : decide (0 ≤ x) = true := decide_eq_true h0
    have b1 : decide (x ≤ 4294967295) = false := decide_eq_false (fun e => h ⟨h0, e⟩)
    clear h0 h
    go_enter Tryd.func43, Tryd.ntmps43
    go_wp2
    go_ret
    exact ⟨rfl, rfl⟩
  · have b0 : decide (0 ≤ x) = false := decide_eq_false h0
    clear h0 h
    go_enter Tryd.func43, Tryd.ntmps43
    go_wp2
    go_ret
    exact ⟨rfl, rfl⟩
set_option maxRecDepth 100000 in
theorem impl_half_yes (x : Int) (h0 : 0 ≤ x) (h1 : x ≤ 4294967295) (w : World) : Calls Tryd.prog 37 #[.int .i64 x] w fun e w' => e = .returned (.bool true) ∧ w' = w := by
  have c := impl_in_yes x h0 h1
  clear h0 h1
  have HC := Aside0.mk c
  clear c
  go_enter Tryd.func37, Tryd.ntmps37
  go_wp2_with (go_at_call 43; refine (HC.out _).mono ?_; rintro e w' ⟨rfl, rfl⟩)
  go_ret
  exact ⟨rfl, rfl⟩
set_option maxRecDepth 100000 in
theorem impl_half_no (x : Int) (h : ¬ (0 ≤ x ∧ x ≤ 4294967295)) (w : World) : Calls Tryd.prog 37 #[.int .i64 x] w fun e w' => e = .returned (.bool false) ∧ w' = w := by
  have c := impl_in_no x h
  clear h
  have HC := Aside0.mk c
  clear c
  go_enter Tryd.func37, Tryd.ntmps37
  go_wp2_with (go_at_call 43; refine (HC.out _).mono ?_; rintro e w' ⟨rfl, rfl⟩)
  go_ret
  exact ⟨rfl, rfl⟩
theorem four_or64 (c0 c1 c2 c3 : Nat) (h0 : c0 < 256) (h1 : c1 < 256) (h2 : c2 < 256) (h3 : c3 < 256) :
    Go.bits .or .i64 (Go.bits .or .i64 (Go.bits .or .i64 ((c0 : Int) * 16777216) ((c1 : Int) * 65536)) ((c2 : Int) * 256)) (c3 : Int) = ((c0 * 16777216 + c1 * 65536 + c2 * 256 + c3 : Nat) : Int) := by
  rw [show (c0 : Int) * 16777216 = ((c0 * 16777216 : Nat) : Int) from by omega, show (c1 : Int) * 65536 = ((c1 * 65536 : Nat) : Int) from by omega, show (c2 : Int) * 256 = ((c2 * 256 : Nat) : Int) from by omega]
  rw [Math.or_high (c0 * 16777216) (c1 * 65536) 24 (by omega) (by omega) (by omega) (by omega)]
  rw [Math.or_high (c0 * 16777216 + c1 * 65536) (c2 * 256) 16 (by omega) (by omega) (by omega) (by omega)]
  rw [Math.or_high (c0 * 16777216 + c1 * 65536 + c2 * 256) c3 8 (by omega) (by omega) (by omega) (by omega)]
set_option maxHeartbeats 4000000 in
set_option maxRecDepth 100000 in
theorem impl_fourAt_calls (s : ByteArray) (p : Nat) (hp : p + 4 ≤ s.size) (hs : s.size ≤ 1000) (w : World) : Calls Tryd.prog 38 #[.string s, .int .i64 (p : Int)] w fun e w' => e = .returned (.int .i64 ((Math.fourN s p : Nat) : Int)) ∧ ∃ n, w' = w.drewN n := by
  have i0 := index_at s p (by omega)
  have i1 := index_at s (p + 1) (by omega)
  have i2 := index_at s (p + 2) (by omega)
  have i3 := index_at s (p + 3) (by omega)
  obtain ⟨c0, hc0, e0⟩ : ∃ c : Nat, c < 256 ∧ (bt s ((p : Nat) : Int)).toNat = c := ⟨_, Math.bt_lt s _, rfl⟩
  obtain ⟨c1, hc1, e1⟩ : ∃ c : Nat, c < 256 ∧ (bt s ((p + 1 : Nat) : Int)).toNat = c := ⟨_, Math.bt_lt s _, rfl⟩
  obtain ⟨c2, hc2, e2⟩ : ∃ c : Nat, c < 256 ∧ (bt s ((p + 2 : Nat) : Int)).toNat = c := ⟨_, Math.bt_lt s _, rfl⟩
  obtain ⟨c3, hc3, e3⟩ : ∃ c : Nat, c < 256 ∧ (bt s ((p + 3 : Nat) : Int)).toNat = c := ⟨_, Math.bt_lt s _, rfl⟩
  rw [e0] at i0
  rw [e1] at i1
  rw [e2] at i2
  rw [e3] at i3
  have HE : Aside0 (Math.fourN s p = c0 * 16777216 + c1 * 65536 + c2 * 256 + c3) := ⟨by unfold Math.fourN; rw [e0, e1, e2, e3]⟩
  clear e0 e1 e2 e3
  simp only [Int.natCast_add, Int.cast_ofNat_Int] at i0 i1 i2 i3
  have hp2 : (p : Int) ≤ 1000 := by omega
  have HP := Aside0.mk hp
  clear hp hs
  go_enter Tryd.func38, Tryd.ntmps38
  go_wp2
  go_quiet (fail)
  go_wp2
  go_ret
  exact ⟨by rw [HE.out, four_or64 c0 c1 c2 c3 hc0 hc1 hc2 hc3]; rfl, _, rfl⟩
/-- What lies in the blocks that the program's ShaBlock has made: its words v and its schedule. -/
def BaseI (w1 w' : World) (g gs : Nat) (vl wl : List UInt32) : Prop := ArrU w' g 48 vl ∧ ArrU w' gs 51 wl ∧ g < gs ∧ Below g w1 w'
theorem BaseI.drewN {w1 w' : World} {g gs : Nat} {vl wl : List UInt32} (h : BaseI w1 w' g gs vl wl) (n : Nat) : BaseI w1 (w'.drewN n) g gs vl wl := ⟨h.1, h.2.1, h.2.2.1, pw_below_drewN h.2.2.2 n⟩
theorem BaseI.drew {w1 w' : World} {g gs : Nat} {vl wl : List UInt32} (h : BaseI w1 w' g gs vl wl) : BaseI w1 w'.drew g gs vl wl := ⟨h.1, h.2.1, h.2.2.1, below_drew h.2.2.2⟩
theorem BaseI.setW {w1 w' : World} {g gs : Nat} {vl wl : List UInt32} (h : BaseI w1 w' g gs vl wl) (i : Nat) (x : UInt32) : BaseI w1 (w'.setCell ⟨gs, i, none⟩ (wv x)) g gs vl (wl.set i x) :=
  ⟨h.1.far (by show g ≠ gs; have := h.2.2.1; omega) _, h.2.1.set i x, h.2.2.1, h.2.2.2.setCell (by show g ≤ gs; have := h.2.2.1; omega) _⟩
theorem BaseI.setV {w1 w' : World} {g gs : Nat} {vl wl : List UInt32} (h : BaseI w1 w' g gs vl wl) (i : Nat) (x : UInt32) : BaseI w1 (w'.setCell ⟨g, i, none⟩ (wv x)) g gs (vl.set i x) wl :=
  ⟨h.1.set i x, h.2.1.far (by show gs ≠ g; have := h.2.2.1; omega) _, h.2.2.1, h.2.2.2.setCell (Nat.le_refl _) _⟩
theorem word_of (n : Nat) : ((n : Nat) : Int) % 4294967296 = (((UInt32.ofNat n).toNat : Nat) : Int) := by
  rw [UInt32.toNat_ofNat']
  omega
end Go.Proofs.YtfjhfmfeblcnhaaDoor.Hand
