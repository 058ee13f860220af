/- spec.ShaStart by hand, over the texts of Digest. -/
import Derived.Test.YtfjhfmfeblcnhaaDoorProg
import Derived.Below
import Derived.Deep.Draws
import Derived.Deep.AppendLies
import Derived.Maps.AppendAt
import Derived.OwnWalk
import Derived.Laws.BytesArg
import Derived.Laws.MakeOwn
import Derived.Laws.OwnMore
import Derived.Deep.OwnRows
import Derived.Tactics
import Derived.Lib.ConvBytes
import Derived.Laws.Slices
import Derived.WalkKit
import Derived.KernelRfl
import Derived.RowKit3
import Derived.Deep.LoopGhost
import Derived.Deep.QuietTactic
import Derived.BigQuiet
import Derived.WideLaws
import Derived.Deep.DeepCutAuto
import Derived.Deep.CutBlock
import Derived.Deep.RegionHeld3
import Derived.Laws.Rows
import Derived.Lib.AppendStr
import Derived.ArgAppend
import Derived.Laws.IdiomCopy
import Derived.OrdersHeld
import Derived.Laws.BitsLemmas
import Derived.RowKit
import Derived.Test.YtfjhfmfeblcnhaaDoorWMore
import Derived.Test.YtfjhfmfeblcnhaaDoorDig
namespace Go.Proofs.YtfjhfmfeblcnhaaDoor.Hand
open Go.RowKit Go.Proofs.YtfjhfmfeblcnhaaDoorW.PrintWords Go.Proofs.YtfjhfmfeblcnhaaDoorW.PrintLast Go.Proofs.YtfjhfmfeblcnhaaDoorW.PrintMore
attribute [local go_sem] max2_int min2_int max_two min_two max_three min_three max_four min_four
set_option linter.unusedSimpArgs false
set_option linter.unusedVariables false
theorem intsU_snoc (l : List UInt32) (j : Nat) (h : j < l.length) : intsU (l.take (j + 1)) = intsU (l.take j) ++ [wrap64 (((l[j]?.getD 0).toNat : Nat) : Int)] := by
  rw [List.take_succ_eq_append_getElem h, List.getElem?_eq_getElem h, Option.getD_some]
  have e : wrap64 ((l[j].toNat : Nat) : Int) = ((l[j].toNat : Nat) : Int) := by
    have := l[j].toNat_lt
    unfold wrap64
    omega
  rw [e]
  unfold intsU
  rw [List.map_append]
  rfl
def spec_ShaStart.f : Option (List Int) := some (intsU first8)
set_option maxHeartbeats 1000000 in
set_option maxRecDepth 100000 in
theorem spec_ShaStart.calls (r : List Int) (w : World) (h : spec_ShaStart.f = some r) :
    Calls Tryd.prog 48 #[] w fun e w' => ∃ v0_ : Value, e = .returned v0_ ∧ Kd.R (Kd.int .i64) 3 w' w.heap.size (fun _ => True) v0_ r ∧ Below w.heap.size w w' := by
  obtain rfl := Option.some.inj h
  clear h
  have hst : ∀ W : World, (storeCells ⟨W.heap.size, 0, none⟩ (cellsU first8).toList 0).run Tryd.prog (W.alloc (.cells #[.int .u32 0, .int .u32 0, .int .u32 0, .int .u32 0, .int .u32 0, .int .u32 0, .int .u32 0, .int .u32 0] 48)) = .ok () ((W.alloc (.cells (cellsU (List.replicate 8 0)) 48)).setRow W.heap.size (cellsU first8)) := fun W => storeU (ArrU.new W 48 (List.replicate 8 0)) first8 rfl
  go_enter Tryd.func48, Tryd.ntmps48
  go_wp2_with (go_at_call 40; refine (spec_l03First.calls _).mono ?_; rintro e w1 ⟨rfl, hb⟩; have HB := Aside0.mk hb; clear hb)
  have HG := Aside0.mk HB.out.size
  have HA0 : Aside0 (ArrU (((w1.alloc (.cells (cellsU [0, 0, 0, 0, 0, 0, 0, 0]) 48)).setRow w1.heap.size (cellsU first8)).alloc (.cells #[] 3)) w1.heap.size 48 first8) := ⟨((ArrU.new w1 48 _).setRow first8).alloc _⟩
  have HB0 : Aside0 (Below w.heap.size w (((w1.alloc (.cells (cellsU [0, 0, 0, 0, 0, 0, 0, 0]) 48)).setRow w1.heap.size (cellsU first8)).alloc (.cells #[] 3))) := ⟨(below_setRow (HB.out.alloc HG.out _) HG.out _).alloc (by have := HG.out; simp [World.setRow]; omega) _⟩
  have HO0 : Aside0 (Kd.R (Kd.int .i64) 3 (((w1.alloc (.cells (cellsU [0, 0, 0, 0, 0, 0, 0, 0]) 48)).setRow w1.heap.size (cellsU first8)).alloc (.cells #[] 3)) w.heap.size (fun k => k ≠ w1.heap.size) (.slice (some ⟨w1.heap.size + 1, 0, none⟩) 0 0) []) := ⟨by
    have h := World.ownsRow_lit (base := w.heap.size) (e := 3) (size := 1) ((w1.alloc (.cells (cellsU [0, 0, 0, 0, 0, 0, 0, 0]) 48)).setRow w1.heap.size (cellsU first8)) #[] 0 (by have := HG.out; simp [World.setRow]; omega) (by decide) (by simp)
    have hz : ((w1.alloc (.cells (cellsU [0, 0, 0, 0, 0, 0, 0, 0]) 48)).setRow w1.heap.size (cellsU first8)).heap.size = w1.heap.size + 1 := by simp [World.setRow]
    rw [hz] at h
    refine Kd.R_of_own h (fun k hk => ?_)
    have : w1.heap.size + 1 = k := by simpa [Value.ownBlock] using hk
    omega⟩
  go_loopg [2, 3] 9 (fun kq v2 v3 w' => ∃ (j : Nat), v3 = .int .i64 (j : Int) ∧ Aside0 (j + kq = 9 ∧ j ≤ 8) ∧ Aside0 (Kd.R (Kd.int .i64) 3 w' w.heap.size (fun k => k ≠ w1.heap.size) v2 (intsU (first8.take j))) ∧ Aside0 (ArrU w' w1.heap.size 48 first8) ∧ Aside0 (Below w.heap.size w w'))
  case atStart => exact ⟨0, rfl, ⟨by omega⟩, HO0, HA0, HB0⟩
  case round =>
    clear HO0 HA0 HB0 HB
    obtain ⟨j, rfl, HJ, HO, HA, HB⟩ := hrel
    by_cases hj : j < 8
    · obtain ⟨k1, rfl⟩ : ∃ k1, gk = k1 + 1 := ⟨gk - 1, by have := HJ.out; omega⟩
      have p0 : decide ((j : Int) < 8) = true := decide_eq_true (by omega)
      have p1 : decide (0 ≤ (j : Int)) = true := decide_eq_true (by omega)
      have p2 : (8 ≤ (j : Int)) = False := eq_false (by omega)
      have p3 : ((j : Int) < 8) = True := eq_true (by omega)
      have hc : wr.cell? ⟨w1.heap.size, j, none⟩ = some (.int .u32 (((first8.getD j 0).toNat : Nat) : Int)) := (HA.out.cell j hj).1
      have hjl := Aside0.mk hj
      clear hj
      go_wp2_with (((with_reducible refine gate_builtin (b := .append) (xs := #[.tmp 10, .tmp 15]) rfl ?_); at_builtin; refine Kd.R_append (Kd.int .i64) (w0 := w) w.heap.size rfl (.tmp 10) (.tmp 15) 24 3 (.int .i64 0) 8 rfl Tryd.underlying24 info3 rfl (by decide) (by omega) u2 (intsU (first8.take j)) (wrap64 (((first8[j]?.getD 0).toNat : Nat) : Int)) [.int .i64 (wrap64 (((first8[j]?.getD 0).toNat : Nat) : Int))] (fun k => k ≠ w1.heap.size) (fun _ => False) rfl rfl ?aP (fun _ hk => hk.elim) ?aF ?aO ?aB ?aS ?aL ?_; (case aP => exact rfl); (case aF => exact (fun k hk e => by have := HA.out.lt; omega)); (case aO => exact HO.out); (case aB => exact HB.out); (case aS => exact HB.out.size); (case aL => have := HJ.out; unfold intsU; rw [List.length_map, List.length_take]; omega); intro v1 w2 ho hb hg hat; have HA2 := Aside0.mk (HA.out.move (hg.block _ HA.out.lt (fun e => HO.out.1 _ e.symm rfl))); clear HA HB HO; have HA := HA2; clear HA2; have HO := Aside0.mk ho; have HB := Aside0.mk hb; clear ho hb hg hat))
      go_roundg k1
      case measure => omega
      case rel => exact ⟨j + 1, by rw [show wrap64 ((j : Int) + 1) = ((j + 1 : Nat) : Int) from by have := hjl.out; unfold wrap64; omega], ⟨by have := HJ.out; have := hjl.out; omega⟩, ⟨by rw [intsU_snoc first8 j hjl.out]; exact HO.out⟩, HA, HB⟩
    · have hj8 : j = 8 := by have := HJ.out; omega
      subst hj8
      go_wp2
      go_ret
      exact ⟨_, rfl, Kd.R_mono HO.out (fun _ _ => trivial), HB.out⟩
end Go.Proofs.YtfjhfmfeblcnhaaDoor.Hand
