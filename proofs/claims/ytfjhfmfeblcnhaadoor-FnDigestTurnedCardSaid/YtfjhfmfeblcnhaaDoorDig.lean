/- spec.Digest by hand: the walk and what it computes. -/
import Derived.Test.YtfjhfmfeblcnhaaDoorProg
import Derived.Below
import Derived.Deep.Draws
import Derived.Deep.AppendLies
import Derived.Maps.AppendAt
import Derived.OwnWalk
import Derived.Laws.BytesArg
import Derived.Laws.MakeOwn
import Derived.Laws.OwnMore
import Derived.Deep.OwnRows
import Derived.Tactics
import Derived.Lib.ConvBytes
import Derived.Laws.Slices
import Derived.WalkKit
import Derived.KernelRfl
import Derived.RowKit3
import Derived.Deep.LoopGhost
import Derived.Deep.QuietTactic
import Derived.BigQuiet
import Derived.WideLaws
import Derived.Deep.DeepCutAuto
import Derived.Deep.CutBlock
import Derived.Deep.RegionHeld3
import Derived.Laws.Rows
import Derived.Lib.AppendStr
import Derived.ArgAppend
import Derived.Laws.IdiomCopy
import Derived.OrdersHeld
import Derived.Laws.BitsLemmas
import Derived.RowKit
import Derived.Test.YtfjhfmfeblcnhaaDoorWMore
import Derived.Test.YtfjhfmfeblcnhaaDoorPad
import Derived.Test.YtfjhfmfeblcnhaaDoorSha6
import Derived.BigRegion
import Derived.StillTail
import Derived.StillTactics
namespace Go.Proofs.YtfjhfmfeblcnhaaDoor.Hand
open Go.RowKit Go.Proofs.YtfjhfmfeblcnhaaDoorW.PrintWords Go.Proofs.YtfjhfmfeblcnhaaDoorW.PrintLast Go.Proofs.YtfjhfmfeblcnhaaDoorW.PrintMore Go.Proofs.YtfjhfmfeblcnhaaDoor.Sha
attribute [local go_sem] max2_int min2_int max_two min_two max_three min_three max_four min_four
set_option linter.unusedVariables false
set_option linter.unusedSimpArgs false
def first8 : List UInt32 := [1779033703, 3144134277, 1013904242, 2773480762, 1359893119, 2600822924, 528734635, 1541459225]
theorem cells_first8 : cellsU first8 = #[.int .u32 1779033703, .int .u32 3144134277, .int .u32 1013904242, .int .u32 2773480762, .int .u32 1359893119, .int .u32 2600822924, .int .u32 528734635, .int .u32 1541459225] := by rfl
set_option maxHeartbeats 1000000 in
set_option maxRecDepth 100000 in
theorem spec_l03First.calls (w : World) :
    Calls Tryd.prog 40 #[] w fun e w' => e = .returned (.agg (cellsU first8)) ∧ Below w.heap.size w w' := by
  go_enter Tryd.func40, Tryd.ntmps40
  go_wp2
  refine bodyPost_ret (v := .agg (cellsU first8)) (by simp [results, Tryd.results40, go_sem, cells_first8]) rfl ⟨rfl, (Below.refl _ _).alloc (Nat.le_refl _) _⟩
/-- The state behind the first j blocks. -/
def after (s : ByteArray) : Nat → List UInt32
  | 0 => first8
  | j + 1 => blk (after s j) (s.extract (64 * j) (64 * j + 64)) keys64
theorem after_len (s : ByteArray) (j : Nat) : (after s j).length = 8 := by
  induction j with
  | zero => rfl
  | succ j ih => exact blk_len ih _ _
def fourB (x : UInt32) : List Int := [((x.toNat : Nat) : Int) / 16777216 % 256, ((x.toNat : Nat) : Int) / 65536 % 256, ((x.toNat : Nat) : Int) / 256 % 256, ((x.toNat : Nat) : Int) % 256]
def outL (l : List UInt32) : List Int := l.flatMap fourB
def digF (s : ByteArray) : ByteArray := strOfNums (outL (after (strOfNums (padL s)) ((strOfNums (padL s)).size / 64)))
def spec_Digest.f (a0 : ByteArray) : Option ByteArray := if a0.size ≤ 2000000 then some (digF a0) else none
def mixB (l : List UInt32) (i : Nat) : List Int := outL (l.take i) ++ List.replicate (32 - 4 * i) 0
theorem outL_len (l : List UInt32) : (outL l).length = 4 * l.length := by
  induction l with
  | nil => rfl
  | cons a l ih =>
    have e : outL (a :: l) = fourB a ++ outL l := rfl
    rw [e, List.length_append, ih]
    show 4 + _ = 4 * (l.length + 1)
    omega
theorem mixB_set {l : List UInt32} (h : l.length = 8) {i : Nat} (hi : i < 8) (x : UInt32) (hx : l.getD i 0 = x) :
    ((((mixB l i).set (4 * i) (((x.toNat : Nat) : Int) / 16777216 % 256)).set (4 * i + 1) (((x.toNat : Nat) : Int) / 65536 % 256)).set (4 * i + 2) (((x.toNat : Nat) : Int) / 256 % 256)).set (4 * i + 3) (((x.toNat : Nat) : Int) % 256) = mixB l (i + 1) := by
  have hl : (outL (l.take i)).length = 4 * i := by rw [outL_len, List.length_take, h]; omega
  rw [List.getD_eq_getElem?_getD, List.getElem?_eq_getElem (by omega), Option.getD_some] at hx
  unfold mixB
  rw [show 32 - 4 * i = (32 - 4 * (i + 1)) + 1 + 1 + 1 + 1 by omega, List.replicate_succ, List.replicate_succ, List.replicate_succ, List.replicate_succ]
  rw [List.take_succ_eq_append_getElem (by omega), hx]
  have e : outL (l.take i ++ [x]) = outL (l.take i) ++ fourB x := by unfold outL; rw [List.flatMap_append]; simp
  rw [e, List.append_assoc]
  rw [List.set_append_right _ _ (by omega), hl, Nat.sub_self, List.set_cons_zero]
  rw [List.set_append_right _ _ (by omega), hl, show 4 * i + 1 - 4 * i = 0 + 1 by omega, List.set_cons_succ, List.set_cons_zero]
  rw [List.set_append_right _ _ (by omega), hl, show 4 * i + 2 - 4 * i = 0 + 1 + 1 by omega, List.set_cons_succ, List.set_cons_succ, List.set_cons_zero]
  rw [List.set_append_right _ _ (by omega), hl, show 4 * i + 3 - 4 * i = 0 + 1 + 1 + 1 by omega, List.set_cons_succ, List.set_cons_succ, List.set_cons_succ, List.set_cons_zero]
  rfl
/-- A whole row is loaded in a part of a region that only reads. -/
theorem still_row {P : Program} {ops : Array Oper} {rest : List Oper} {o : Oper} {a : Act} {w : World} {Q : Act → Prop} (hgd : o.guard = none) (ty : TypeId) (x : Operand) (ho : o.op = .load ty x)
    (g : Nat) (hx : a.eval x = .pointer (some ⟨g, 0, none⟩)) (t : TypeId) (cs : Array Value) (fr : Nat × Nat) (d : TypeDesc) (hg : w.heap[g]? = some (.cells cs t fr))
    (hu : P.underlying ty = some d) (hd : (match d with | .struct _ | .array _ _ => true | _ => false) = true) (hi : (P.info? ty).map (·.size) = some cs.size)
    (h : wpStill P ops w Q rest (a.put o.dst (.agg cs))) : wpStill P ops w Q (o :: rest) a := by
  refine wpStill_step (fun K hK => ?_)
  have e : (execOp a.eval o).run P w = .ok (.value (.agg cs)) w := by
    unfold execOp
    simp only [ho, hx, Instr.loadAt, Instr.sureAddr, Sem.run_bind, Sem.run_pure, Result.andThen_ok, run_loadVar_row w g t ty cs fr d hg hu hd hi]
  have hw : Region.wanted o (yielded ops a.tmps) = true := by simp [Region.wanted, hgd]
  rw [if_pos hw]
  unfold Oper.still
  rw [e, Oper.stillUpon_value]
  exact hK _ h
theorem under8 : Tryd.prog.underlying 48 = some (.array 8 47) := by kernel_rfl
theorem under64 : Tryd.prog.underlying 51 = some (.array 64 47) := by kernel_rfl
theorem size8 : (Tryd.prog.info? 48).map (·.size) = some 8 := by kernel_rfl
theorem size64 : (Tryd.prog.info? 51).map (·.size) = some 64 := by kernel_rfl
theorem cellsU_size (l : List UInt32) : (cellsU l).size = l.length := by simp [cellsU]
/-- What lies in the memory that Digest has made: the state and the numbers of the rounds. -/
def DBase (w w' : World) (g gs : Nat) (st : List UInt32) : Prop := ArrU w' g 48 st ∧ ArrU w' gs 51 keys64 ∧ g < gs ∧ Below w.heap.size w w' ∧ w.heap.size ≤ g
theorem pad_size (s : ByteArray) : ∃ n, (strOfNums (padL s)).size = 64 * n ∧ 64 * n ≤ s.size + 200 := by
  refine ⟨(s.size + 9 + padZ s.size) / 64, ?_, ?_⟩
  · rw [strOfNums_size]
    unfold padL
    rw [List.length_append, List.length_append, List.length_append, List.length_replicate, List.length_singleton, bytesI_length]
    have e : (eightL (8 * (s.size : Int)) 8).length = 8 := rfl
    rw [e]
    unfold padZ
    omega
  · unfold padZ
    omega
set_option maxHeartbeats 4000000 in
set_option maxRecDepth 100000 in
theorem spec_Digest.calls (a0 : ByteArray) (r : ByteArray) (w : World) (h : spec_Digest.f a0 = some r) :
    Calls Tryd.prog 19 #[.string a0] w fun e w' => e = .returned (.string r) ∧ Below w.heap.size w w' := by
  obtain ⟨hs, hr⟩ : a0.size ≤ 2000000 ∧ digF a0 = r := by
    unfold spec_Digest.f at h
    split at h
    · exact ⟨‹_›, Option.some.inj h⟩
    · cases h
  clear h
  have hp : spec_PadText.f a0 = some (strOfNums (padL a0)) := by unfold spec_PadText.f; rw [if_pos (by omega)]
  have HP := Aside0.mk hp
  have HS := Aside0.mk hs
  have HR := Aside0.mk hr
  clear hs hr hp
  have hst : ∀ W : World, (storeCells ⟨W.heap.size, 0, none⟩ (cellsU first8).toList 0).run Tryd.prog (W.alloc (.cells #[.int .u32 0, .int .u32 0, .int .u32 0, .int .u32 0, .int .u32 0, .int .u32 0, .int .u32 0, .int .u32 0] 48)) = .ok () ((W.alloc (.cells (cellsU (List.replicate 8 0)) 48)).setRow W.heap.size (cellsU first8)) := fun W => storeU (ArrU.new W 48 (List.replicate 8 0)) first8 rfl
  have hstk : ∀ W : World, (storeCells ⟨W.heap.size, 0, none⟩ (cellsU keys64).toList 0).run Tryd.prog (W.alloc (.cells (cellsU Z64) 51)) = .ok () ((W.alloc (.cells (cellsU Z64) 51)).setRow W.heap.size (cellsU keys64)) := fun W => storeU (ArrU.new W 51 Z64) keys64 rfl
  go_enter Tryd.func19, Tryd.ntmps19
  go_wp2_with (first | ((with_reducible refine gate_dst (N := 4) rfl ?_); refine Kd.event_run rfl (alloc64 rfl _ _) ?_) | (go_at_call 40; refine (spec_l03First.calls _).mono ?_; rintro e w1 ⟨rfl, hb1⟩; have HB1 := Aside0.mk hb1; clear hb1) | (go_at_call 36; refine (spec_l03Keys.calls _).mono ?_; rintro e w2 ⟨rfl, hb2⟩; have HB2 := Aside0.mk hb2; clear hb2) | (go_at_call 41; refine (spec_PadText.calls a0 _ _ HP.out).mono ?_; rintro e w3 ⟨rfl, hb3⟩; have HB3 := Aside0.mk hb3; clear hb3))
  have HD0 : Aside0 (DBase w w3 w1.heap.size w2.heap.size first8) := ⟨by
    have b1 := below_setRow (HB1.out.alloc HB1.out.size (.cells (cellsU (List.replicate 8 0)) 48)) HB1.out.size (cellsU first8)
    have b2 := b1.trans (HB2.out.mono b1.size)
    have b3 := below_setRow (b2.alloc b2.size (.cells (cellsU Z64) 51)) b2.size (cellsU keys64)
    have b4 := b3.trans (HB3.out.mono b3.size)
    have a1 := ((ArrU.new w1 48 (List.replicate 8 0)).setRow first8).below HB2.out
    have lt := a1.lt
    have a2 := ((a1.alloc (.cells (cellsU Z64) 51)).setRow_far (g' := w2.heap.size) (by omega) (cellsU keys64)).below HB3.out
    exact ⟨a2, ((ArrU.new w2 51 Z64).setRow keys64).below HB3.out, lt, b4, HB1.out.size⟩⟩
  clear HB1 HB2 HB3 hst hstk
  obtain ⟨n, hn, hn2⟩ := pad_size a0
  have HRR : Aside0 (r = strOfNums (outL (after (strOfNums (padL a0)) n))) := ⟨by rw [← HR.out]; unfold digF; rw [hn, Nat.mul_div_cancel_left n (by decide)]⟩
  clear HR HP
  generalize strOfNums (padL a0) = p at hn HRR ⊢
  generalize w1.heap.size = g at HD0 ⊢
  generalize w2.heap.size = gs at HD0 ⊢
  have HN : Aside0 (p.size = 64 * n ∧ 64 * n ≤ 2000200) := ⟨by have := HS.out; omega⟩
  clear hn hn2 HS
  go_loopg [6] (n + 1) (fun kq v6 w' => ∃ (x : Int) (j : Nat), v6 = .int .i64 x ∧ Aside0 (x = 64 * (j : Int) ∧ j + kq = n + 1 ∧ j ≤ n) ∧ Aside0 (DBase w w' g gs (after p j)))
  case atStart => exact ⟨0, 0, rfl, ⟨by omega⟩, HD0⟩
  case round =>
    clear HD0
    obtain ⟨x, j, rfl, HJ, HD⟩ := hrel
    by_cases hj : j < n
    · obtain ⟨k1, rfl⟩ : ∃ k1, gk = k1 + 1 := ⟨gk - 1, by have := HJ.out; omega⟩
      have hw : wrap64 (x + 64) = x + 64 := by have := HN.out; have := HJ.out; unfold wrap64; omega
      have p0 : decide (x < (p.size : Int)) = true := decide_eq_true (by have := HN.out; have := HJ.out; omega)
      have p1 : (0 ≤ x) = True := eq_true (by have := HJ.out; omega)
      have p2 : (wrap64 (x + 64) ≤ (p.size : Int)) = True := eq_true (by rw [hw]; have := HN.out; have := HJ.out; omega)
      have p3 : (x ≤ wrap64 (x + 64)) = True := eq_true (by rw [hw]; omega)
      have hsl : ∀ W : World, (Instr.slice 9 (.string p) (some (.int .i64 x)) (some (.int .i64 (IntKind.i64.wrap (x + 64)))) none).run Tryd.prog W = .ok (.string (p.extract x.toNat (x + 64).toNat)) W := fun W => by
        rw [show IntKind.i64.wrap (x + 64) = x + 64 from (IntKind.wrap_i64 _).trans (by unfold wrap64 at hw; exact hw)]
        have q1 : 0 ≤ x := by have := HJ.out; omega
        have q2 : x ≤ x + 64 := by omega
        have q3 : x + 64 ≤ (p.size : Int) := by have := HN.out; have := HJ.out; omega
        simp [go_sem, Tryd.underlying9, q1, q2, q3]
      have HW := Aside0.mk hw
      clear hw
      have HJ1 := Aside0.mk hj
      clear hj
      go_wp2
      refine wp_region_still_tail 7 (by kernel_rfl) (by kernel_rfl) ?_
      simp only [List.take_succ_cons, List.take_zero, List.drop_succ_cons, List.drop_zero]
      refine still_row rfl _ _ rfl g (by rfl) 48 (cellsU (after p j)) (0, 0) _ HD.out.1 under8 rfl (by rw [cellsU_size, after_len]; exact size8) ?_
      still_step
      still_step
      still_step
      still_step
      still_step
      refine still_row rfl _ _ rfl gs (by rfl) 51 (cellsU keys64) (0, 0) _ HD.out.2.1 under64 rfl (by rw [cellsU_size]; exact size64) ?_
      refine wpStill_nil ?_
      have he : (p.extract x.toNat (x + 64).toNat).size = 64 := by rw [ByteArray.size_extract]; have := HN.out; have := HJ.out; have := HJ1.out; omega
      have HE := Aside0.mk he
      clear he
      have hz8 : (cellsU (blk (after p j) (p.extract x.toNat (x + 64).toNat) keys64)).size = 8 := by rw [cellsU_size]; exact blk_len (after_len p j) _ _
      go_wp2_with (go_at_call 35; refine (spec_l03Block.calls (after p j) keys64 _ (after_len p j) rfl HE.out _).mono ?_; rintro e w4 ⟨rfl, hb4⟩; have hz := ArrU.below (show ArrU { wr with drawn := wr.drawn + 1 } g 48 (after p j) from HD.out.1) hb4; have hl : (blk (after p j) (p.extract x.toNat (x + 64).toNat) keys64).length = (after p j).length := (by rw [after_len]; exact blk_len (after_len p j) _ _); have hst := storeU (P := Tryd.prog) hz (blk (after p j) (p.extract x.toNat (x + 64).toNat) keys64) hl; have HZ := Aside0.mk (hz.setRow (blk (after p j) (p.extract x.toNat (x + 64).toNat) keys64)); clear hz hl; have HB4 := Aside0.mk hb4; clear hb4)
      have ew : wrap64 (x + 64) = x + 64 := HW.out
      go_roundg k1
      case measure => omega
      case rel => exact ⟨x + 64, j + 1, by first | rfl | (simp; done) | (rw [ew]) | (simp [ew]; done), ⟨by have := HJ.out; have := HJ1.out; omega⟩, ⟨by
        have e1 : after p (j + 1) = blk (after p j) (p.extract x.toNat (x + 64).toNat) keys64 := by
          show blk (after p j) (p.extract (64 * j) (64 * j + 64)) keys64 = _
          rw [show x.toNat = 64 * j by have := HJ.out; omega, show (x + 64).toNat = 64 * j + 64 by have := HJ.out; omega]
        have hg := HD.out.2.2.1
        have hb := HD.out.2.2.2.1
        have ha := (ArrU.below (show ArrU { wr with drawn := wr.drawn + 1 } gs 51 keys64 from HD.out.2.1) HB4.out).setRow_far (g' := g) (by omega) (cellsU (blk (after p j) (p.extract x.toNat (x + 64).toNat) keys64))
        have hw4 : Below w.heap.size w w4 := (show Below w.heap.size w { wr with drawn := wr.drawn + 1 } from below_drew hb).trans (HB4.out.mono (by have := hb.size; exact this))
        rw [e1]
        exact ⟨HZ.out, ha, hg, below_setRow hw4 HD.out.2.2.2.2 _, HD.out.2.2.2.2⟩⟩⟩
    · have hjn : j = n := by have := HJ.out; omega
      subst hjn
      have p0 : decide (x < (p.size : Int)) = false := decide_eq_false (by have := HN.out; have := HJ.out; omega)
      clear hj HJ
      go_wp2_with ((with_reducible refine gate_dst (N := 27) rfl ?_); refine Kd.R_make (Kd.int .u8) (w0 := w) w.heap.size 5 rfl (N := 27) rfl 22 _ _ rfl (32 : Int) rfl rfl Tryd.underlying22 (.int .u8 0) 1 infoB rfl (by decide) (by omega) 0 (ok := fun k => k ≠ g) (okp := fun _ => False) rfl (fun _ hk => hk.elim) ?aF (by omega) (by decide) ?aB ?aS ?_; (case aF => exact (fun e => by have := HD.out.1.lt; omega)); (case aB => exact HD.out.2.2.2.1); (case aS => exact HD.out.2.2.2.1.size); intro v1 w5 ho hb hg hat; have HA := Aside0.mk (HD.out.1.move (hg.block _ HD.out.1.lt (by intro e; cases e))); have HO := Aside0.mk ho; have HB := Aside0.mk hb; clear ho hb hg hat)
      obtain ⟨st, hst⟩ : ∃ st, st = after p j := ⟨_, rfl⟩
      have HSL : Aside0 (st.length = 8) := ⟨by rw [hst]; exact after_len p j⟩
      rw [← hst] at HA HRR
      clear hst HD HN
      have HOK := Aside0.mk HO.out
      clear HO
      obtain ⟨go, co, eo, gb, gl, cl, HGF⟩ := Kd.R_form HOK.out (by decide)
      rw [show (List.replicate (32 : Int).toNat (0 : Int)).length = 32 from rfl] at eo
      subst eo
      have HGO : Aside0 (go ≠ g) := ⟨HOK.out.1 go (by simp [Value.ownBlock])⟩
      have HGB := Aside0.mk gb
      have HO5 : Aside0 (Kd.R (Kd.int .u8) 5 w5 w.heap.size (fun k => k ≠ g) (.slice (some ⟨go, 0, none⟩) 32 co) (mixB st 0)) := ⟨HOK.out⟩
      clear gb gl cl HGF HOK
      go_loopg [8] 9 (fun kq v8 w' => ∃ i : Nat, v8 = .int .i64 (i : Int) ∧ Aside0 (i + kq = 9 ∧ i ≤ 8) ∧ Aside0 (Kd.R (Kd.int .u8) 5 w' w.heap.size (fun k => k ≠ g) (.slice (some ⟨go, 0, none⟩) 32 co) (mixB st i)) ∧ Aside0 (ArrU w' g 48 st) ∧ Aside0 (Below w.heap.size w w'))
      case atStart => exact ⟨0, rfl, ⟨by omega⟩, HO5, HA, HB⟩
      case round =>
        clear HO5 HA HB
        obtain ⟨i, rfl, HJ, HO, HA, HB⟩ := hrel
        by_cases hi : i < 8
        · obtain ⟨k1, rfl⟩ : ∃ k1, gk = k1 + 1 := ⟨gk - 1, by have := HJ.out; omega⟩
          have b1 : (i : Int) < 8 := by omega
          obtain ⟨y, ey⟩ : ∃ y, st.getD i 0 = y := ⟨_, rfl⟩
          have hc := (HA.out.cell i (by rw [HSL.out]; exact hi)).1
          rw [ey] at hc
          replace hc : wr.cell? ⟨g, i, none⟩ = some (.int .u32 ((y.toNat : Nat) : Int)) := hc
          obtain ⟨m0, f0⟩ := Kd.R_celln 0 HO.out ((4 * i : Nat) : Int) (by omega) (by omega)
          obtain ⟨m1, f1⟩ := Kd.R_celln 0 HO.out ((4 * i + 1 : Nat) : Int) (by omega) (by omega)
          obtain ⟨m2, f2⟩ := Kd.R_celln 0 HO.out ((4 * i + 2 : Nat) : Int) (by omega) (by omega)
          obtain ⟨m3, f3⟩ := Kd.R_celln 0 HO.out ((4 * i + 3 : Nat) : Int) (by omega) (by omega)
          simp only [Int.toNat_natCast] at m0 m1 m2 m3 f0 f1 f2 f3
          have hgo := HGO.out
          have HY := Aside0.mk ey
          have HJ1 := Aside0.mk hi
          clear ey hi
          go_wp2
          go_roundg k1
          case measure => omega
          case rel => exact ⟨i + 1, by simp, ⟨by have := HJ.out; have := HJ1.out; omega⟩, ⟨by
            have h0 := (Kd.R_putg HO.out ((4 * i : Nat) : Int) (((y.toNat : Nat) : Int) / 16777216 % 256)).1
            have h1 := (Kd.R_putg h0 ((4 * i + 1 : Nat) : Int) (((y.toNat : Nat) : Int) / 65536 % 256)).1
            have h2 := (Kd.R_putg h1 ((4 * i + 2 : Nat) : Int) (((y.toNat : Nat) : Int) / 256 % 256)).1
            have h3 := (Kd.R_putg h2 ((4 * i + 3 : Nat) : Int) (((y.toNat : Nat) : Int) % 256)).1
            simp only [Int.toNat_natCast] at h3
            rw [mixB_set HSL.out HJ1.out y HY.out] at h3
            exact h3⟩, ⟨(((HA.out.far (Ne.symm HGO.out) _).far (Ne.symm HGO.out) _).far (Ne.symm HGO.out) _).far (Ne.symm HGO.out) _⟩, ⟨(((HB.out.setCell HGB.out _).setCell HGB.out _).setCell HGB.out _).setCell HGB.out _⟩⟩
        · have hi8 : i = 8 := by have := HJ.out; omega
          have b1 : decide ((i : Int) < 8) = false := decide_eq_false (by omega)
          have hr8 : ReadsInt wr .u8 (some ⟨go, 0, none⟩) 32 (outL st) := by
            have h := Kd.R_reads' HO.out
            have h2 := Kd.reads_of_C (d := (0 : Int)) h.2.2
            have e : mixB st i = outL st := by
              unfold mixB
              rw [hi8, List.take_of_length_le (by rw [HSL.out]; decide)]
              simp
            rw [e, outL_len, HSL.out] at h2
            exact h2
          have kc : (convert 22 9 (.slice (some ⟨go, 0, none⟩) 32 co)).run Tryd.prog wr = .ok (.string (strOfNums (outL st))) wr := string_of_reads Tryd.underlying22 (by kernel_rfl) Tryd.underlying9 hr8
          clear hr8 hi hi8 HJ
          go_wp2
          go_ret
          exact ⟨by rw [HRR.out]; rfl, HB.out⟩
end Go.Proofs.YtfjhfmfeblcnhaaDoor.Hand
