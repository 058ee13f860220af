/- spec.PadText by hand: the walk and what it computes. -/
import Derived.Test.YtfjhfmfeblcnhaaDoorProg
import Derived.Below
import Derived.Deep.Draws
import Derived.Deep.AppendLies
import Derived.Maps.AppendAt
import Derived.OwnWalk
import Derived.Laws.BytesArg
import Derived.Laws.MakeOwn
import Derived.Laws.OwnMore
import Derived.Deep.OwnRows
import Derived.Tactics
import Derived.Lib.ConvBytes
import Derived.Laws.Slices
import Derived.WalkKit
import Derived.KernelRfl
import Derived.RowKit3
import Derived.Deep.LoopGhost
import Derived.Deep.QuietTactic
import Derived.BigQuiet
import Derived.WideLaws
import Derived.Deep.DeepCutAuto
import Derived.Deep.CutBlock
import Derived.Deep.RegionHeld3
import Derived.Laws.Rows
import Derived.Lib.AppendStr
import Derived.ArgAppend
import Derived.Laws.IdiomCopy
import Derived.OrdersHeld
import Derived.Laws.BitsLemmas
import Derived.RowKit
import Derived.Test.YtfjhfmfeblcnhaaDoorWMore
import Derived.Test.YtfjhfmfeblcnhaaDoorMark
namespace Go.Proofs.YtfjhfmfeblcnhaaDoor.Hand
open Go.Proofs.YtfjhfmfeblcnhaaDoorW.PrintLast Go.Proofs.YtfjhfmfeblcnhaaDoorW.PrintMore
attribute [local go_sem] max2_int min2_int max_two min_two max_three min_three max_four min_four
set_option linter.unusedSimpArgs false
open Go.RowKit Go.Proofs.YtfjhfmfeblcnhaaDoorW.PrintWords
set_option linter.unusedVariables false
def padZ (n : Nat) : Nat := (119 - n % 64) % 64
def eightL (n : Int) : Nat → List Int
  | 0 => []
  | j + 1 => ((n / (2 : Int) ^ (8 * j)) % 256) :: eightL n j
def padL (s : ByteArray) : List Int := bytesI s ++ [128] ++ List.replicate (padZ s.size) 0 ++ eightL (8 * (s.size : Int)) 8
def spec_PadText.f (a0 : ByteArray) : Option ByteArray := if a0.size ≤ 140737488351232 then some (strOfNums (padL a0)) else none
theorem byte_of (n : Nat) (hn : n ≤ 140737488351232) (i : Int) (k : Nat) (h : i = k) (hk : k < 8) : wrap64 (8 * (n : Int)) / 2 ^ min (IntKind.u64.wrap (8 * IntKind.u64.wrap i)).toNat 64 % 256 = 8 * (n : Int) / 2 ^ (8 * k) % 256 := by
  have e1 : IntKind.u64.wrap i = i := by rw [IntKind.wrap_u64]; omega
  have e2 : IntKind.u64.wrap (8 * i) = 8 * i := by rw [IntKind.wrap_u64]; omega
  have e3 : wrap64 (8 * (n : Int)) = 8 * (n : Int) := by unfold wrap64; omega
  rw [e1, e2, e3, h, show min (8 * (k : Int)).toNat 64 = 8 * k by omega]
theorem infoB : (Tryd.prog.info? 5).map (fun i => (i.zero, i.size, i.bytes)) = some (some (.int .u8 0), 1, 1) := by kernel_rfl
set_option maxHeartbeats 1000000 in
set_option maxRecDepth 100000 in
theorem spec_PadText.calls (a0 : ByteArray) (r : ByteArray) (w : World) (h : spec_PadText.f a0 = some r) :
    Calls Tryd.prog 41 #[.string a0] w fun e w' => e = .returned (.string r) ∧ Below w.heap.size w w' := by
  obtain ⟨hs, hr⟩ : a0.size ≤ 140737488351232 ∧ strOfNums (padL a0) = r := by
    unfold spec_PadText.f at h
    split at h
    · exact ⟨‹_›, Option.some.inj h⟩
    · cases h
  clear h
  have HS := Aside0.mk hs
  have HR := Aside0.mk hr
  have HO0 := Aside0.mk (OwnM.conv w w.heap.size 5 a0 (Nat.le_refl _) (by simp only [maxLen]; omega))
  clear hs hr
  have kc : ∀ w : World, (convert 9 22 (.string a0)).run Tryd.prog w = .ok (.slice (some ⟨w.heap.size, 0, none⟩) a0.size (grownCap w a0.size 0 5)) (Lib.bytesWorld w 5 a0) := fun w => Lib.run_convert_string_bytes w 9 22 5 a0 Tryd.underlying9 Tryd.underlying22 Tryd.underlying5
  go_enter Tryd.func41, Tryd.ntmps41
  go_wp2_with (((with_reducible refine gate_builtin (b := .append) (xs := #[.tmp 8, .tmp 9]) rfl ?_); at_builtin; refine wpList_append_ownM (w0 := w) w.heap.size rfl (.tmp 8) (.tmp 9) 22 5 rfl Tryd.underlying22 infoB _ (bytesI a0) 128 rfl rfl ?aO ?aB ?aS ?aL ?_; (case aO => exact HO0.out); (case aB => exact bytesWorld_below _ _ _); (case aS => rw [Lib.bytesWorld_size]; omega); (case aL => have := HS.out; rw [bytesI_length]; omega); intro v1 w1 ho hb hs1; obtain ⟨g, cap, rfl⟩ := ho.lenN; have HO := Aside0.mk ho; have HB := Aside0.mk hb; clear ho hb hs1))
  go_loopg [3] (padZ a0.size) (fun kq v3 w' => ∃ (l : List Int) (g cap : Nat), v3 = .slice (some ⟨g, 0, none⟩) l.length cap ∧ Aside0 (OwnM w' w.heap.size 5 (.slice (some ⟨g, 0, none⟩) l.length cap) (nums .u8 l)) ∧ Aside0 (Below w.heap.size w w') ∧ Aside0 (∃ j, j + kq = padZ a0.size ∧ l = bytesI a0 ++ [128] ++ List.replicate j 0))
  case atStart => exact ⟨bytesI a0 ++ [128], g, cap, by simp, HO, HB, ⟨⟨0, by omega, by simp⟩⟩⟩
  case round =>
    clear HO HB
    obtain ⟨l, g1, cap1, rfl, HO, HB, HL⟩ := hrel
    have HN : Aside0 (l.length + gk = a0.size + 1 + padZ a0.size ∧ gk ≤ padZ a0.size) := ⟨by obtain ⟨j, hj, rfl⟩ := HL.out; simp only [List.length_append, List.length_singleton, List.length_replicate, bytesI_length]; omega⟩
    have HZ : Aside0 (padZ a0.size < 64 ∧ (a0.size + 1 + padZ a0.size) % 64 = 56) := ⟨by unfold padZ; omega⟩
    cases gk with
    | zero =>
      have b0 : ((((l.length : Nat) : Int) % 64) != 56) = false := by have := HN.out; have := HZ.out; rw [bne_eq_false_iff_eq]; omega
      have b1 : (Int.tmod ((l.length : Nat) : Int) 64 != 56) = false := by rw [Int.tmod_eq_emod_of_nonneg (by omega)]; exact b0
      go_wp2
      have HL1 : Aside0 (l ++ eightL (8 * (a0.size : Int)) 8 = padL a0) := ⟨by obtain ⟨j, hj, rfl⟩ := HL.out; unfold padL; rw [show j = padZ a0.size by omega]⟩
      clear HL b0 b1
      go_loopg [3, 5] 8 (fun kq v3 v5 w' => ∃ (l : List Int) (g cap : Nat) (i : Int), v3 = .slice (some ⟨g, 0, none⟩) l.length cap ∧ v5 = .int .i64 i ∧ Aside0 (OwnM w' w.heap.size 5 (.slice (some ⟨g, 0, none⟩) l.length cap) (nums .u8 l)) ∧ Aside0 (Below w.heap.size w w') ∧ Aside0 (l ++ eightL (8 * (a0.size : Int)) kq = padL a0) ∧ Aside0 (i + 1 = kq ∧ kq ≤ 8) ∧ Aside0 (l.length + kq = a0.size + 1 + padZ a0.size + 8))
      case atStart => exact ⟨_, g1, cap1, _, rfl, rfl, HO, HB, HL1, ⟨by omega⟩, ⟨by have := HN.out; omega⟩⟩
      case round =>
        clear HO HB HL1 HN
        obtain ⟨l, g1, cap1, i, rfl, rfl, HO, HB, HL, HI, HN⟩ := hrel
        cases gk with
        | zero =>
          have p0 : decide (0 ≤ i) = false := decide_eq_false (by have := HI.out; omega)
          have HE : Aside0 (l = padL a0) := ⟨by have := HL.out; obtain ⟨hi1, hi2⟩ := HI.out; rw [show eightL (8 * (a0.size : Int)) 0 = [] from rfl, List.append_nil] at this; exact this⟩
          have hcv := OwnM.text HO.out Tryd.underlying22 Tryd.underlying5 Tryd.underlying9
          go_wp2
          go_ret
          have hz := HR.out; rw [← HE.out] at hz; obtain rfl := hz; exact ⟨rfl, HB.out⟩
        | succ k1 =>
          have p0 : decide (0 ≤ i) = true := decide_eq_true (by have := HI.out; omega)
          go_wp2_with ((with_reducible refine gate_builtin (b := .append) (xs := #[.tmp 25, .tmp 32]) rfl ?_); at_builtin; refine wpList_append_ownM (w0 := w) w.heap.size rfl (.tmp 25) (.tmp 32) 22 5 rfl Tryd.underlying22 infoB _ l _ rfl rfl HO.out HB.out (HB.out).size ?aL ?_; (case aL => have := HN.out; have := HS.out; have := HZ.out; omega); intro v1 w1 ho hb hs1; obtain ⟨g2, cap2, rfl⟩ := ho.lenN; clear HO HB; have HO := Aside0.mk ho; have HB := Aside0.mk hb; clear ho hb hs1)
          go_roundg k1
          case measure => omega
          case rel => exact ⟨_, g2, cap2, _, by simp, rfl, HO, HB, ⟨by
            have h1 := HL.out
            have h2 := HI.out
            rw [byte_of a0.size HS.out i k1 (by omega) (by omega)]
            rw [List.append_assoc]
            exact h1⟩, ⟨by have := HI.out; rw [RowKit.wrap64]; omega⟩, ⟨by have := HN.out; rw [List.length_append, List.length_singleton]; omega⟩⟩
    | succ k1 =>
      have b0 : ((((l.length : Nat) : Int) % 64) != 56) = true := by have := HN.out; have := HZ.out; rw [bne_iff_ne]; omega
      have b1 : (Int.tmod ((l.length : Nat) : Int) 64 != 56) = true := by rw [Int.tmod_eq_emod_of_nonneg (by omega)]; exact b0
      go_wp2_with ((with_reducible refine gate_builtin (b := .append) (xs := #[.tmp 15, .tmp 16]) rfl ?_); at_builtin; refine wpList_append_ownM (w0 := w) w.heap.size rfl (.tmp 15) (.tmp 16) 22 5 rfl Tryd.underlying22 infoB _ l 0 rfl rfl HO.out HB.out (HB.out).size ?aL ?_; (case aL => have := HN.out; have := HS.out; have := HZ.out; omega); intro v1 w1 ho hb hs1; obtain ⟨g2, cap2, rfl⟩ := ho.lenN; clear HO HB; have HO := Aside0.mk ho; have HB := Aside0.mk hb; clear ho hb hs1)
      go_roundg k1
      case measure => omega
      case rel => exact ⟨l ++ [0], g2, cap2, by simp, HO, HB, ⟨by obtain ⟨j, hj, e⟩ := HL.out; exact ⟨j + 1, by omega, by rw [e, List.replicate_succ', ← List.append_assoc]⟩⟩⟩
end Go.Proofs.YtfjhfmfeblcnhaaDoor.Hand
