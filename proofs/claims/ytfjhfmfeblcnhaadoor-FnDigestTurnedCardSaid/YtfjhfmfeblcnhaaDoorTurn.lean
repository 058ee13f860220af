/- laws.turned by hand: a text's one byte is turned: the walk and what it computes. -/
import Derived.Test.YtfjhfmfeblcnhaaDoorProg
import Derived.Below
import Derived.Deep.Draws
import Derived.Deep.AppendLies
import Derived.Maps.AppendAt
import Derived.OwnWalk
import Derived.Laws.BytesArg
import Derived.Laws.MakeOwn
import Derived.Laws.OwnMore
import Derived.Deep.OwnRows
import Derived.Tactics
import Derived.Lib.ConvBytes
import Derived.Laws.Slices
import Derived.WalkKit
import Derived.KernelRfl
import Derived.RowKit3
import Derived.Deep.LoopGhost
import Derived.Deep.QuietTactic
import Derived.BigQuiet
import Derived.WideLaws
import Derived.Deep.DeepCutAuto
import Derived.Deep.CutBlock
import Derived.Deep.RegionHeld3
import Derived.Laws.Rows
import Derived.Lib.AppendStr
import Derived.ArgAppend
import Derived.Laws.IdiomCopy
import Derived.OrdersHeld
import Derived.Laws.BitsLemmas
import Derived.RowKit
import Derived.Test.YtfjhfmfeblcnhaaDoorWMore
import Derived.Test.YtfjhfmfeblcnhaaDoorMark
namespace Go.Proofs.YtfjhfmfeblcnhaaDoor.Hand
open Go.RowKit Go.Proofs.YtfjhfmfeblcnhaaDoorW.PrintWords Go.Proofs.YtfjhfmfeblcnhaaDoorW.PrintLast Go.Proofs.YtfjhfmfeblcnhaaDoorW.PrintMore
attribute [local go_sem] max2_int min2_int max_two min_two max_three min_three max_four min_four
set_option linter.unusedSimpArgs false
set_option linter.unusedVariables false
/-- The text with its byte i turned by 1 + m (1 to 255). -/
def turnS (s : ByteArray) (i m : Nat) : ByteArray := strOfNums ((bytesI s).set i (Go.bits .xor .u8 (((s.data.toList.getD i 0).toNat : Nat) : Int) (1 + ((m : Nat) : Int))))
def turnOk (s : ByteArray) (l : List Int) : Bool := decide (0 < s.size ∧ s.size ≤ 140737488351232 ∧ 2 ≤ l.length ∧ 0 ≤ rd l 0 ∧ rd l 0 ≤ 4611686018427387904 ∧ 0 ≤ rd l 1 ∧ rd l 1 ≤ 4611686018427387904)
def laws_turned.f (a0 : ByteArray) (l1 : List Int) : Option ByteArray :=
  if turnOk a0 l1 = true then some (turnS a0 ((rd l1 0).toNat % a0.size) ((rd l1 1).toNat % 255)) else none
theorem wrap_m1 (m : Nat) (hm : m < 255) : IntKind.i64.wrap (1 + ((m : Nat) : Int)) = (1 + ((m : Nat) : Int)) := by rw [IntKind.wrap_i64]; omega
theorem wrap_m2 (m : Nat) (hm : m < 255) : wrap64 (1 + ((m : Nat) : Int)) = (1 + ((m : Nat) : Int)) := by unfold wrap64; omega
theorem wrap_m3 (m : Nat) (hm : m < 255) : IntKind.u8.wrap (1 + ((m : Nat) : Int)) = (1 + ((m : Nat) : Int)) := by rw [IntKind.wrap_u8]; omega
set_option maxHeartbeats 1000000 in
set_option maxRecDepth 100000 in
theorem laws_turned.calls (a0 : ByteArray) (A1 : Option Addr) (c1 : Nat) (l1 : List Int) (r : ByteArray) (w : World) (hr1 : Kd.C (Kd.int .i64) w A1 l1.length l1) (hc1 : l1.length ≤ c1) (h : laws_turned.f a0 l1 = some r) :
    Calls Tryd.prog 25 #[.string a0, .slice A1 l1.length c1] w fun e w' => e = .returned (.string r) ∧ Below w.heap.size w w' := by
  obtain ⟨hok, hr⟩ : turnOk a0 l1 = true ∧ turnS a0 ((rd l1 0).toNat % a0.size) ((rd l1 1).toNat % 255) = r := by
    unfold laws_turned.f at h
    split at h
    · exact ⟨‹_›, Option.some.inj h⟩
    · cases h
  clear h
  obtain ⟨hs0, hs, hl2, hp0, hp1, hq0, hq1⟩ := of_decide_eq_true hok
  clear hok
  have HR := Aside0.mk hr
  clear hr
  have hC := Kd.C_below hr1 (bytesWorld_below w 5 a0)
  obtain ⟨ad, e0, x0⟩ := Kd.at_int hC 0 (by decide) (by omega)
  cases e0
  obtain ⟨ad1, e1, x1⟩ := Kd.at_int hC 1 (by decide) (by omega)
  cases e1
  obtain ⟨p, ep⟩ := Int.eq_ofNat_of_zero_le hp0
  obtain ⟨q, eq⟩ := Int.eq_ofNat_of_zero_le hq0
  rw [ep] at x0 hp1 HR
  rw [eq] at hq1 HR
  rw [Int.toNat_natCast] at HR
  rw [Int.toNat_natCast] at HR
  have ha0 : ad.add 0 = ad := by unfold Addr.add; split <;> simp_all
  rw [show (0 : Int).toNat = 0 from rfl, ha0] at x0
  rw [show (1 : Int).toNat = 1 from rfl] at x1
  replace x1 : (Lib.bytesWorld w 5 a0).cell? ⟨ad.block, ad.off + 1, none⟩ = some (.int .i64 (rd l1 1)) := x1
  rw [eq] at x1
  clear hp0 hq0 ep eq hr1 hC ha0
  obtain ⟨i, ei⟩ : ∃ i, p % a0.size = i := ⟨_, rfl⟩
  obtain ⟨m, em⟩ : ∃ m, q % 255 = m := ⟨_, rfl⟩
  have hi : i < a0.size := by rw [← ei]; exact Nat.mod_lt _ hs0
  have hm : m < 255 := by omega
  have t0 : Int.tmod (p : Int) (a0.size : Int) = ((i : Nat) : Int) := by rw [Int.tmod_eq_emod_of_nonneg (by omega), ← ei]; omega
  have t1 : Int.tmod (q : Int) 255 = ((m : Nat) : Int) := by rw [Int.tmod_eq_emod_of_nonneg (by omega)]; omega
  rw [ei, em] at HR
  clear ei em
  have t2 : (q : Int) % 255 = ((m : Nat) : Int) := by rw [← t1, Int.tmod_eq_emod_of_nonneg (by omega)]
  have hO := OwnM.conv w w.heap.size 5 a0 (Nat.le_refl _) (by simp only [maxLen]; omega)
  obtain ⟨u, eu⟩ : ∃ u, (a0.data.toList.getD i 0).toNat = u := ⟨_, rfl⟩
  have hget : (nums .u8 (bytesI a0))[i]? = some (.int .u8 ((u : Nat) : Int)) := by
    rw [← eu]
    unfold nums bytesI
    rw [List.getElem?_map, List.getElem?_map, List.getElem?_eq_getElem (by rw [Array.length_toList]; exact hi), List.getD_eq_getElem?_getD, List.getElem?_eq_getElem (by rw [Array.length_toList]; exact hi)]
    rfl
  obtain ⟨hc, hf⟩ := hO.cell rfl i _ hget
  unfold turnS at HR
  rw [eu] at HR
  clear eu hget
  have HO := Aside0.mk (hO.store i (.int .u8 (Go.bits .xor .u8 ((u : Nat) : Int) (1 + ((m : Nat) : Int)))))
  clear hO
  have d0 : ((a0.size : Int) == 0) = false := by rw [beq_eq_false_iff_ne]; omega
  have d1 : (a0.size == 0) = false := by rw [beq_eq_false_iff_ne]; omega
  have d2 : decide ((a0.size : Int) = 0) = false := decide_eq_false (by omega)
  have i0 : (0 ≤ ((i : Nat) : Int)) = True := eq_true (by omega)
  have i1 : (((i : Nat) : Int) < (a0.size : Int)) = True := eq_true (by omega)
  have i2 : (i < a0.size) = True := eq_true hi
  have hne : (a0 = ByteArray.empty) = False := eq_false (by rintro rfl; exact absurd hs0 (by decide))
  clear hc1
  generalize l1.length = n1 at hl2 ⊢
  have l0 : (0 < n1) = True := eq_true (by omega)
  have l2 : (1 < n1) = True := eq_true (by omega)
  have l3 : (n1 = 0) = False := eq_false (by omega)
  have l4 : ((0 : Int) < (n1 : Int)) = True := eq_true (by omega)
  have l5 : ((1 : Int) < (n1 : Int)) = True := eq_true (by omega)
  have m1 := wrap_m1 m hm
  have m2 := wrap_m2 m hm
  have m3 := wrap_m3 m hm
  have kc : ∀ w : World, (convert 9 22 (.string a0)).run Tryd.prog w = .ok (.slice (some ⟨w.heap.size, 0, none⟩) a0.size (grownCap w a0.size 0 5)) (Lib.bytesWorld w 5 a0) := fun w => Lib.run_convert_string_bytes w 9 22 5 a0 Tryd.underlying9 Tryd.underlying22 Tryd.underlying5
  have HS := Aside0.mk (And.intro hs hs0)
  clear hs hs0 hl2 hp1 hq1 hi hm
  go_enter Tryd.func25, Tryd.ntmps25
  go_wp2
  go_region
  have hcv := OwnM.text (P := Tryd.prog) (src := 22) (dst := 9) (xs := (bytesI a0).set i (Go.bits .xor .u8 ((u : Nat) : Int) (1 + ((m : Nat) : Int)))) (show OwnM (((Lib.bytesWorld w 5 a0).setCell ⟨w.heap.size, i, none⟩ (.int .u8 (Go.bits .xor .u8 ((u : Nat) : Int) (1 + ((m : Nat) : Int))))).drew) w.heap.size 5 (.slice (some ⟨w.heap.size, 0, none⟩) a0.size (grownCap w a0.size 0 5)) _ from by
    have h := HO.out
    unfold nums at h ⊢
    rw [List.map_set]
    exact h) Tryd.underlying22 Tryd.underlying5 Tryd.underlying9
  go_wp2
  go_ret
  exact ⟨by rw [HR.out]; rfl, below_drew ((bytesWorld_below w 5 a0).setCell (Nat.le_refl _) _)⟩
end Go.Proofs.YtfjhfmfeblcnhaaDoor.Hand
