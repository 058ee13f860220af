/- spec.l03Block by hand. -/
import Derived.Test.YtfjhfmfeblcnhaaDoorProg
import Derived.Below
import Derived.Deep.Draws
import Derived.Deep.AppendLies
import Derived.Maps.AppendAt
import Derived.OwnWalk
import Derived.Laws.BytesArg
import Derived.Laws.MakeOwn
import Derived.Laws.OwnMore
import Derived.Deep.OwnRows
import Derived.Tactics
import Derived.Lib.ConvBytes
import Derived.Laws.Slices
import Derived.WalkKit
import Derived.KernelRfl
import Derived.RowKit3
import Derived.Deep.LoopGhost
import Derived.Deep.QuietTactic
import Derived.BigQuiet
import Derived.WideLaws
import Derived.Deep.DeepCutAuto
import Derived.Deep.CutBlock
import Derived.Deep.RegionHeld3
import Derived.Laws.Rows
import Derived.Lib.AppendStr
import Derived.ArgAppend
import Derived.Laws.IdiomCopy
import Derived.OrdersHeld
import Derived.Laws.BitsLemmas
import Derived.RowKit
import Derived.Test.YtfjhfmfeblcnhaaDoorWMore
import Derived.Test.YtfjhfmfeblcnhaaDoorSha2
import Derived.BigRegion
import Derived.StillTailTactics
namespace Go.Proofs.YtfjhfmfeblcnhaaDoor.Hand
open Go.RowKit Go.Proofs.YtfjhfmfeblcnhaaDoorW.PrintWords Go.Proofs.YtfjhfmfeblcnhaaDoorW.PrintLast Go.Proofs.YtfjhfmfeblcnhaaDoorW.PrintMore Go.Proofs.YtfjhfmfeblcnhaaDoor.Sha
attribute [local go_sem] max2_int min2_int max_two min_two max_three min_three max_four min_four
set_option linter.unusedVariables false
set_option linter.unusedSimpArgs false
def Z64 : List UInt32 := List.replicate 64 0
theorem build64 {o : Oper} (ho : o.op = .build 51 #[]) (a : Act) (W : World) : (execOp a.eval o).run Tryd.prog W = .ok (.value (.agg (cellsU Z64))) W := by
  unfold execOp
  simp [ho, go_sem]
  rfl
theorem alloc64 {o : Oper} (ho : o.op = .alloc 51) (a : Act) (W : World) : (execOp a.eval o).run Tryd.prog W = .ok (.value (.pointer (some ⟨W.heap.size, 0, none⟩))) (W.alloc (.cells (cellsU Z64) 51)) := by
  unfold execOp
  simp [ho, go_sem]
  rfl
theorem index_at (s : ByteArray) (p : Nat) (h : p < s.size) : ∀ W : World, (Instr.index 9 (.string s) (.int .i64 ((p : Nat) : Int))).run Tryd.prog W = .ok (.int .u8 (((bt s (p : Int)).toNat : Nat) : Int)) W := by
  intro W
  have hb := bt_at s (p : Int)
  simp only [Int.toNat_natCast] at hb
  have h1 : (p : Int) < (s.size : Int) := by omega
  rw [← hb h]
  simp [go_sem, h, h1]
theorem words16_snoc (s : ByteArray) (j : Nat) (h : j < 16) : (words16 s).take (j + 1) = (words16 s).take j ++ [wordAt s (4 * j)] := by
  rw [List.take_succ_eq_append_getElem (by rw [words16_len]; exact h)]
  congr 2
  simp [words16]
theorem four_or (c0 c1 c2 c3 : Nat) (h0 : c0 < 256) (h1 : c1 < 256) (h2 : c2 < 256) (h3 : c3 < 256) :
    Go.bits .or .u32 (Go.bits .or .u32 (Go.bits .or .u32 ((c0 : Int) * 16777216) ((c1 : Int) * 65536)) ((c2 : Int) * 256)) (c3 : Int) = (((UInt32.ofNat (c0 * 16777216 + c1 * 65536 + c2 * 256 + c3)).toNat : Nat) : Int) := by
  have go : ∀ (x y k : Nat), x % 2 ^ k = 0 → x < 4294967296 → y < 2 ^ k → y < 4294967296 → Go.bits .or .u32 (x : Int) (y : Int) = ((x + y : Nat) : Int) := by
    intro x y k hx hx1 hy hy1
    rw [(bits_nat .u32 32 (by decide) wraps_u32 x y hx1 hy1).2]
    congr 1
    have hd : 2 ^ k * (x / 2 ^ k) = x := by have := Nat.div_add_mod x (2 ^ k); omega
    have := Nat.two_pow_add_eq_or_of_lt hy (x / 2 ^ k)
    rw [hd] at this
    exact this.symm
  rw [show (c0 : Int) * 16777216 = ((c0 * 16777216 : Nat) : Int) from by omega, show (c1 : Int) * 65536 = ((c1 * 65536 : Nat) : Int) from by omega, show (c2 : Int) * 256 = ((c2 * 256 : Nat) : Int) from by omega]
  rw [go (c0 * 16777216) (c1 * 65536) 24 (by omega) (by omega) (by omega) (by omega)]
  rw [go (c0 * 16777216 + c1 * 65536) (c2 * 256) 16 (by omega) (by omega) (by omega) (by omega)]
  rw [go (c0 * 16777216 + c1 * 65536 + c2 * 256) c3 8 (by omega) (by omega) (by omega) (by omega)]
  rw [UInt32.toNat_ofNat']
  omega
/-- What lies in the blocks that the call has made: the state, the keys, the result's cells, the schedule. -/
def Base (w w' : World) (b : Nat) (st keys wl : List UInt32) : Prop :=
  ArrU w' b 48 st ∧ ArrU w' (b + 1) 51 keys ∧ ArrU w' (b + 1 + 1) 48 (List.replicate 8 0) ∧ ArrU w' (b + 1 + 1 + 1) 51 wl ∧ Below b w w'
theorem Base.drewN {w w' : World} {b : Nat} {st keys wl : List UInt32} (h : Base w w' b st keys wl) (n : Nat) : Base w (w'.drewN n) b st keys wl := ⟨h.1, h.2.1, h.2.2.1, h.2.2.2.1, pw_below_drewN h.2.2.2.2 n⟩
theorem Base.drew {w w' : World} {b : Nat} {st keys wl : List UInt32} (h : Base w w' b st keys wl) : Base w w'.drew b st keys wl := ⟨h.1, h.2.1, h.2.2.1, h.2.2.2.1, below_drew h.2.2.2.2⟩
theorem Base.alloc {w w' : World} {b : Nat} {st keys wl : List UInt32} (h : Base w w' b st keys wl) (o : Obj) : Base w (w'.alloc o) b st keys wl := ⟨h.1.alloc o, h.2.1.alloc o, h.2.2.1.alloc o, h.2.2.2.1.alloc o, h.2.2.2.2.alloc (by have := h.1.lt; omega) o⟩
theorem Base.far {w w' : World} {b : Nat} {st keys wl : List UInt32} (h : Base w w' b st keys wl) {g i : Nat} (hg : b + 1 + 1 + 1 < g) (u : Value) : Base w (w'.setCell ⟨g, i, none⟩ u) b st keys wl :=
  ⟨h.1.far (by show b ≠ g; omega) u, h.2.1.far (by show b + 1 ≠ g; omega) u, h.2.2.1.far (by show b + 1 + 1 ≠ g; omega) u, h.2.2.2.1.far (by show b + 1 + 1 + 1 ≠ g; omega) u, h.2.2.2.2.setCell (by show b ≤ g; omega) u⟩
theorem Base.setH {w w' : World} {b : Nat} {st keys wl : List UInt32} (h : Base w w' b st keys wl) (i : Nat) (x : UInt32) : Base w (w'.setCell ⟨b, i, none⟩ (wv x)) b (st.set i x) keys wl :=
  ⟨h.1.set i x, h.2.1.far (by show b + 1 ≠ b; omega) _, h.2.2.1.far (by show b + 1 + 1 ≠ b; omega) _, h.2.2.2.1.far (by show b + 1 + 1 + 1 ≠ b; omega) _, h.2.2.2.2.setCell (by show b ≤ b; omega) _⟩
/-- The state, its first j words made anew. -/
def mid (st r : List UInt32) (j : Nat) : List UInt32 := (List.zipWith (· + ·) st r).take j ++ st.drop j
theorem mid_len {st r : List UInt32} (h : st.length = 8) (h2 : r.length = 8) {j : Nat} (hj : j ≤ 8) : (mid st r j).length = 8 := by
  unfold mid
  rw [List.length_append, List.length_take, List.length_drop, List.length_zipWith, h, h2]
  omega
theorem mid_get {st r : List UInt32} (h : st.length = 8) (h2 : r.length = 8) {j : Nat} (hj : j < 8) : (mid st r j).getD j 0 = st.getD j 0 := by
  unfold mid
  simp only [List.getD_eq_getElem?_getD]
  have hl : ((List.zipWith (· + ·) st r).take j).length = j := by rw [List.length_take, List.length_zipWith, h, h2]; omega
  rw [List.getElem?_append_right (by omega), hl, Nat.sub_self, List.getElem?_drop, Nat.add_zero]
theorem mid_set {st r : List UInt32} (h : st.length = 8) (h2 : r.length = 8) {j : Nat} (hj : j < 8) : (mid st r j).set j (st.getD j 0 + r.getD j 0) = mid st r (j + 1) := by
  unfold mid
  have hl : ((List.zipWith (· + ·) st r).take j).length = j := by rw [List.length_take, List.length_zipWith, h, h2]; omega
  rw [List.set_append_right _ _ (by omega), hl, Nat.sub_self, List.drop_eq_getElem_cons (by omega : j < st.length), List.set_cons_zero]
  rw [List.take_succ_eq_append_getElem (by rw [List.length_zipWith]; omega), List.append_assoc]
  congr 1
  rw [List.getElem_zipWith, List.getD_eq_getElem?_getD, List.getD_eq_getElem?_getD, List.getElem?_eq_getElem (by omega : j < st.length), List.getElem?_eq_getElem (by omega : j < r.length)]
  rfl
theorem mid_all {st r : List UInt32} (h : st.length = 8) (h2 : r.length = 8) : mid st r 8 = List.zipWith (· + ·) st r := by
  unfold mid
  rw [List.take_of_length_le (by rw [List.length_zipWith, h, h2]; decide), List.drop_of_length_le (by omega), List.append_nil]
theorem Base.setW {w w' : World} {b : Nat} {st keys wl : List UInt32} (h : Base w w' b st keys wl) (i : Nat) (x : UInt32) : Base w (w'.setCell ⟨b + 1 + 1 + 1, i, none⟩ (wv x)) b st keys (wl.set i x) :=
  ⟨h.1.far (by show b ≠ b + 1 + 1 + 1; omega) _, h.2.1.far (by show b + 1 ≠ b + 1 + 1 + 1; omega) _, h.2.2.1.far (by show b + 1 + 1 ≠ b + 1 + 1 + 1; omega) _, h.2.2.2.1.set i x, h.2.2.2.2.setCell (by show b ≤ b + 1 + 1 + 1; omega) _⟩
/-- The world when the schedule has been laid. -/
def w64 (w : World) (st keys : List UInt32) : World :=
  ((((w.alloc (.cells (cellsU st) 48)).alloc (.cells (cellsU keys) 51)).alloc (.cells #[.int .u32 0, .int .u32 0, .int .u32 0, .int .u32 0, .int .u32 0, .int .u32 0, .int .u32 0, .int .u32 0] 48)).alloc (.cells (cellsU Z64) 51))
theorem w64_arr (w : World) (st keys : List UInt32) : ArrU (w64 w st keys) (w.heap.size + 1 + 1 + 1) 51 Z64 := by
  have h := ArrU.new (((w.alloc (.cells (cellsU st) 48)).alloc (.cells (cellsU keys) 51)).alloc (.cells #[.int .u32 0, .int .u32 0, .int .u32 0, .int .u32 0, .int .u32 0, .int .u32 0, .int .u32 0, .int .u32 0] 48)) 51 Z64
  have e : (((w.alloc (.cells (cellsU st) 48)).alloc (.cells (cellsU keys) 51)).alloc (.cells #[.int .u32 0, .int .u32 0, .int .u32 0, .int .u32 0, .int .u32 0, .int .u32 0, .int .u32 0, .int .u32 0] 48)).heap.size = w.heap.size + 1 + 1 + 1 := by simp
  rw [e] at h
  exact h
theorem w64_base (w : World) (st keys : List UInt32) : Base w ((w64 w st keys).setRow (w.heap.size + 1 + 1 + 1) (cellsU Z64)) w.heap.size st keys Z64 := by
  have h0 : ArrU (w.alloc (.cells (cellsU st) 48)) w.heap.size 48 st := ArrU.new _ _ _
  have h1 : ArrU ((w.alloc (.cells (cellsU st) 48)).alloc (.cells (cellsU keys) 51)) (w.heap.size + 1) 51 keys := by
    have := ArrU.new (w.alloc (.cells (cellsU st) 48)) 51 keys
    simpa using this
  have h2 : ArrU (((w.alloc (.cells (cellsU st) 48)).alloc (.cells (cellsU keys) 51)).alloc (.cells (cellsU (List.replicate 8 0)) 48)) (w.heap.size + 1 + 1) 48 (List.replicate 8 0) := by
    have := ArrU.new ((w.alloc (.cells (cellsU st) 48)).alloc (.cells (cellsU keys) 51)) 48 (List.replicate 8 0)
    have e : ((w.alloc (.cells (cellsU st) 48)).alloc (.cells (cellsU keys) 51)).heap.size = w.heap.size + 1 + 1 := by simp
    rwa [e] at this
  refine ⟨(((h0.alloc _).alloc _).alloc _).setRow_far (by omega) _, ((h1.alloc _).alloc _).setRow_far (by omega) _, (h2.alloc _).setRow_far (by omega) _, (w64_arr w st keys).setRow Z64, below_setRow ?_ (by omega) _⟩
  exact ((((Below.refl _ _).alloc (Nat.le_refl _) _).alloc (by simp) _).alloc (by simp; omega) _).alloc (by simp; omega) _
theorem w64_store (w : World) (st keys : List UInt32) : (storeCells ⟨w.heap.size + 1 + 1 + 1, 0, none⟩ (cellsU Z64).toList 0).run Tryd.prog (w64 w st keys) = .ok () ((w64 w st keys).setRow (w.heap.size + 1 + 1 + 1) (cellsU Z64)) := storeU (w64_arr w st keys) Z64 rfl
set_option maxHeartbeats 4000000 in
set_option maxRecDepth 100000 in
theorem spec_l03Block.calls (st keys : List UInt32) (s : ByteArray) (hst : st.length = 8) (hk : keys.length = 64) (hs : s.size = 64) (w : World) :
    Calls Tryd.prog 35 #[.agg (cellsU st), .string s, .agg (cellsU keys)] w fun e w' => e = .returned (.agg (cellsU (blk st s keys))) ∧ Below w.heap.size w w' := by
  have HST := Aside0.mk hst
  have HK := Aside0.mk hk
  have HS := Aside0.mk hs
  clear hst hk hs
  have hst64 := w64_store w st keys
  unfold w64 at hst64
  have HB0 := Aside0.mk (w64_base w st keys)
  go_enter Tryd.func35, Tryd.ntmps35
  go_wp2_with (first | ((with_reducible refine gate_dst (N := 21) rfl ?_); refine Kd.event_run rfl (build64 rfl _ _) ?_) | ((with_reducible refine gate_dst (N := 7) rfl ?_); refine Kd.event_run rfl (alloc64 rfl _ _) ?_))
  go_loopg [8] 17 (fun kq v8 w' => ∃ j : Nat, v8 = .int .i64 (j : Int) ∧ Aside0 (j + kq = 17 ∧ j ≤ 16) ∧ Aside0 (Base w w' w.heap.size st keys (pad ((words16 s).take j) 64)))
  case atStart => exact ⟨0, rfl, ⟨by omega⟩, HB0⟩
  case round =>
    clear HB0 hst64
    obtain ⟨j, rfl, HJ, HB⟩ := hrel
    by_cases hj : j < 16
    · obtain ⟨k1, rfl⟩ : ∃ k1, gk = k1 + 1 := ⟨gk - 1, by have := HJ.out; omega⟩
      have b1 : (j : Int) < 16 := by omega
      have i0 := index_at s (4 * j) (by have := HS.out; omega)
      have i1 := index_at s (4 * j + 1) (by have := HS.out; omega)
      have i2 := index_at s (4 * j + 2) (by have := HS.out; omega)
      have i3 := index_at s (4 * j + 3) (by have := HS.out; omega)
      obtain ⟨c0, hc0, e0⟩ : ∃ c : Nat, c < 256 ∧ (bt s ((4 * j : Nat) : Int)).toNat = c := ⟨_, Math.bt_lt s _, rfl⟩
      obtain ⟨c1, hc1, e1⟩ : ∃ c : Nat, c < 256 ∧ (bt s ((4 * j + 1 : Nat) : Int)).toNat = c := ⟨_, Math.bt_lt s _, rfl⟩
      obtain ⟨c2, hc2, e2⟩ : ∃ c : Nat, c < 256 ∧ (bt s ((4 * j + 2 : Nat) : Int)).toNat = c := ⟨_, Math.bt_lt s _, rfl⟩
      obtain ⟨c3, hc3, e3⟩ : ∃ c : Nat, c < 256 ∧ (bt s ((4 * j + 3 : Nat) : Int)).toNat = c := ⟨_, Math.bt_lt s _, rfl⟩
      rw [e0] at i0
      rw [e1] at i1
      rw [e2] at i2
      rw [e3] at i3
      have HE : Aside0 (wordAt s (4 * j) = UInt32.ofNat (c0 * 16777216 + c1 * 65536 + c2 * 256 + c3)) := ⟨by unfold wordAt Math.fourN; rw [e0, e1, e2, e3]⟩
      clear e0 e1 e2 e3
      simp only [Int.natCast_add, Int.natCast_mul, Int.cast_ofNat_Int] at i0 i1 i2 i3
      have hlen : (pad ((words16 s).take j) 64).length = 64 := pad_len _ (by rw [List.length_take, words16_len]; omega)
      have hcc := HB.out.2.2.2.1.cell j (by rw [hlen]; omega)
      have hc := hcc.1
      have hf := hcc.2
      clear hcc hlen
      have HJ1 := Aside0.mk hj
      clear hj
      go_wp2
      go_region
      go_wp2
      go_roundg k1
      case measure => omega
      case rel => exact ⟨j + 1, by simp, ⟨by have := HJ.out; have := HJ1.out; omega⟩, ⟨by
        have h := HB.out.setW j (wordAt s (4 * j))
        rw [four_or c0 c1 c2 c3 hc0 hc1 hc2 hc3, ← HE.out]
        have e := pad_set ((words16 s).take j) (n := 64) (by rw [List.length_take, words16_len]; have := HJ1.out; omega) (wordAt s (4 * j))
        rw [show ((words16 s).take j).length = j from by rw [List.length_take, words16_len]; have := HJ1.out; omega] at e
        rw [e, ← words16_snoc s j HJ1.out] at h
        exact h.drew⟩⟩
    · have hj16 : j = 16 := by have := HJ.out; omega
      have HB1 : Aside0 (Base w wr w.heap.size st keys (pad (sch s 0) 64)) := ⟨by
        have h := HB.out
        rw [hj16, List.take_of_length_le (by rw [words16_len]; omega)] at h
        exact h⟩
      have p0 : decide ((j : Int) < 16) = false := decide_eq_false (by omega)
      clear hj16 hj HB
      go_wp2
      go_loopg [9] 49 (fun kq v9 w' => ∃ m : Nat, v9 = .int .i64 ((m : Int) + 16) ∧ Aside0 (m + kq = 49 ∧ m ≤ 48) ∧ Aside0 (Base w w' w.heap.size st keys (pad (sch s m) 64)))
      case atStart => exact ⟨0, rfl, ⟨by omega⟩, HB1⟩
      case round =>
        clear HB1 HJ
        obtain ⟨m, rfl, HJ, HB⟩ := hrel
        by_cases hj : m < 48
        · obtain ⟨k1, rfl⟩ : ∃ k1, gk = k1 + 1 := ⟨gk - 1, by have := HJ.out; omega⟩
          have b1 : (m : Int) < 48 := by omega
          have hlen : (pad (sch s m) 64).length = 64 := pad_len _ (by rw [sch_len]; omega)
          have hg : ∀ q, q < 16 + m → wr.cell? ⟨w.heap.size + 1 + 1 + 1, q, none⟩ = some (.int .u32 (((((sch s m).getD q 0)).toNat : Nat) : Int)) := fun q hq => by
            have h := (HB.out.2.2.2.1.cell q (by rw [hlen]; omega)).1
            rw [pad_get _ _ _ (by rw [sch_len]; exact hq)] at h
            exact h
          obtain ⟨x1, e1⟩ : ∃ x, (sch s m).getD (m + 1) 0 = x := ⟨_, rfl⟩
          obtain ⟨x14, e14⟩ : ∃ x, (sch s m).getD (m + 14) 0 = x := ⟨_, rfl⟩
          obtain ⟨x0, e0⟩ : ∃ x, (sch s m).getD m 0 = x := ⟨_, rfl⟩
          obtain ⟨x9, e9⟩ : ∃ x, (sch s m).getD (m + 9) 0 = x := ⟨_, rfl⟩
          have h1 := hg (m + 1) (by omega)
          have h14 := hg (m + 14) (by omega)
          have h0 := hg m (by omega)
          have h9 := hg (m + 9) (by omega)
          rw [e1] at h1
          rw [e14] at h14
          rw [e0] at h0
          rw [e9] at h9
          have HX : Aside0 (nextW (sch s m) = x0 + sg0 x1 + x9 + sg1 x14) := ⟨by
            unfold nextW
            rw [sch_len, show 16 + m - 16 = m by omega, show 16 + m - 15 = m + 1 by omega, show 16 + m - 7 = m + 9 by omega, show 16 + m - 2 = m + 14 by omega, e0, e1, e9, e14]⟩
          clear e0 e1 e9 e14 hg
          have hcc := HB.out.2.2.2.1.cell (m + 16) (by rw [hlen]; omega)
          have hc := hcc.1
          have hf := hcc.2
          clear hcc hlen
          have HJ1 := Aside0.mk hj
          clear hj
          go_wp2
          go_quiet ((go_at_call 49; exact Calls.quiet_of_same (turn_any _ _ (by omega) (by omega) _)))
          go_wp2
          go_quiet ((go_at_call 49; exact quiet_again (turn_any _ _ (by omega) (by omega) _)))
          go_wp2
          go_region
          go_wp2
          go_roundg k1
          case measure => omega
          case rel => exact ⟨m + 1, by simp; omega, ⟨by have := HJ.out; have := HJ1.out; omega⟩, ⟨by
            have e := pad_set (sch s m) (n := 64) (by rw [sch_len]; have := HJ1.out; omega) (nextW (sch s m))
            rw [sch_len, show 16 + m = m + 16 by omega] at e
            have h : ∀ n, Base w ((wr.drewN n).setCell ⟨w.heap.size + 1 + 1 + 1, m + 16, none⟩ (wv (nextW (sch s m)))) w.heap.size st keys (pad (sch s (m + 1)) 64) := fun n => by
              have h := (HB.out.drewN n).setW (m + 16) (nextW (sch s m))
              rw [e] at h
              exact h
            rw [sg0_is, sg1_is, add4, ← HX.out]
            exact h _⟩⟩
        · have hj48 : m = 48 := by have := HJ.out; omega
          have HB2 : Aside0 (Base w wr w.heap.size st keys (sch s 48)) := ⟨by
            have h := HB.out
            rw [hj48, pad_full _ (sch_len s 48)] at h
            exact h⟩
          have p0 : decide ((m : Int) + 16 < 64) = false := decide_eq_false (by omega)
          obtain ⟨a0, b0, c0, d0, e0, f0, g0, h0, hst⟩ := eight_of HST.out
          have k0 := (HB2.out.1.cell 0 (by rw [HST.out]; decide)).1
          have k1 := (HB2.out.1.cell 1 (by rw [HST.out]; decide)).1
          have k2 := (HB2.out.1.cell 2 (by rw [HST.out]; decide)).1
          have k3 := (HB2.out.1.cell 3 (by rw [HST.out]; decide)).1
          have k4 := (HB2.out.1.cell 4 (by rw [HST.out]; decide)).1
          have k5 := (HB2.out.1.cell 5 (by rw [HST.out]; decide)).1
          have k6 := (HB2.out.1.cell 6 (by rw [HST.out]; decide)).1
          have k7 := (HB2.out.1.cell 7 (by rw [HST.out]; decide)).1
          rw [hst] at k0 k1 k2 k3 k4 k5 k6 k7
          replace k0 : wr.cell? ⟨w.heap.size, 0, none⟩ = some (.int .u32 ((a0.toNat : Nat) : Int)) := k0
          replace k1 : wr.cell? ⟨w.heap.size, 1, none⟩ = some (.int .u32 ((b0.toNat : Nat) : Int)) := k1
          replace k2 : wr.cell? ⟨w.heap.size, 2, none⟩ = some (.int .u32 ((c0.toNat : Nat) : Int)) := k2
          replace k3 : wr.cell? ⟨w.heap.size, 3, none⟩ = some (.int .u32 ((d0.toNat : Nat) : Int)) := k3
          replace k4 : wr.cell? ⟨w.heap.size, 4, none⟩ = some (.int .u32 ((e0.toNat : Nat) : Int)) := k4
          replace k5 : wr.cell? ⟨w.heap.size, 5, none⟩ = some (.int .u32 ((f0.toNat : Nat) : Int)) := k5
          replace k6 : wr.cell? ⟨w.heap.size, 6, none⟩ = some (.int .u32 ((g0.toNat : Nat) : Int)) := k6
          replace k7 : wr.cell? ⟨w.heap.size, 7, none⟩ = some (.int .u32 ((h0.toNat : Nat) : Int)) := k7
          have HSTE := Aside0.mk hst
          clear hst hj48 hj HB HJ
          go_wp2
          have HS0 : Aside0 (ArrU (wr.alloc (.cells #[.int .u32 ((a0.toNat : Nat) : Int), .int .u32 ((b0.toNat : Nat) : Int), .int .u32 ((c0.toNat : Nat) : Int), .int .u32 ((d0.toNat : Nat) : Int), .int .u32 ((e0.toNat : Nat) : Int), .int .u32 ((f0.toNat : Nat) : Int), .int .u32 ((g0.toNat : Nat) : Int), .int .u32 ((h0.toNat : Nat) : Int)] 48)) wr.heap.size 48 [a0, b0, c0, d0, e0, f0, g0, h0]) := ⟨ArrU.new wr 48 [a0, b0, c0, d0, e0, f0, g0, h0]⟩
          have HB3 : Aside0 (Base w (wr.alloc (.cells #[.int .u32 ((a0.toNat : Nat) : Int), .int .u32 ((b0.toNat : Nat) : Int), .int .u32 ((c0.toNat : Nat) : Int), .int .u32 ((d0.toNat : Nat) : Int), .int .u32 ((e0.toNat : Nat) : Int), .int .u32 ((f0.toNat : Nat) : Int), .int .u32 ((g0.toNat : Nat) : Int), .int .u32 ((h0.toNat : Nat) : Int)] 48)) w.heap.size st keys (sch s 48)) := ⟨HB2.out.alloc _⟩
          have HGS : Aside0 (w.heap.size + 1 + 1 + 1 < wr.heap.size) := ⟨HB2.out.2.2.2.1.lt⟩
          clear HB2 k0 k1 k2 k3 k4 k5 k6 k7
          generalize wr.heap.size = gs at HS0 HGS ⊢
          go_loopg [13] 65 (fun kq v13 w' => ∃ (j : Nat) (a b c d e f g h : UInt32), v13 = .int .i64 (j : Int) ∧ Aside0 (j + kq = 65 ∧ j ≤ 64) ∧ Aside0 (rounds st keys (sch s 48) j = [a, b, c, d, e, f, g, h]) ∧ Aside0 (Base w w' w.heap.size st keys (sch s 48)) ∧ Aside0 (ArrU w' gs 48 [a, b, c, d, e, f, g, h]))
          case atStart => exact ⟨0, a0, b0, c0, d0, e0, f0, g0, h0, rfl, ⟨by omega⟩, HSTE, HB3, HS0⟩
          case round =>
            clear HB3 HS0
            obtain ⟨j, a, b, c, d, e, f, g, h, rfl, HJ, HR, HB, HA⟩ := hrel
            by_cases hj : j < 64
            · obtain ⟨k1, rfl⟩ : ∃ k1, gk = k1 + 1 := ⟨gk - 1, by have := HJ.out; omega⟩
              have b1 : (j : Int) < 64 := by omega
              have n0 : wr.cell? ⟨gs, 0, none⟩ = some (.int .u32 ((a.toNat : Nat) : Int)) ∧ wr.frozen? ⟨gs, 0, none⟩ = false := HA.out.cell 0 (by simp)
              have n1 : wr.cell? ⟨gs, 1, none⟩ = some (.int .u32 ((b.toNat : Nat) : Int)) ∧ wr.frozen? ⟨gs, 1, none⟩ = false := HA.out.cell 1 (by simp)
              have n2 : wr.cell? ⟨gs, 2, none⟩ = some (.int .u32 ((c.toNat : Nat) : Int)) ∧ wr.frozen? ⟨gs, 2, none⟩ = false := HA.out.cell 2 (by simp)
              have n3 : wr.cell? ⟨gs, 3, none⟩ = some (.int .u32 ((d.toNat : Nat) : Int)) ∧ wr.frozen? ⟨gs, 3, none⟩ = false := HA.out.cell 3 (by simp)
              have n4 : wr.cell? ⟨gs, 4, none⟩ = some (.int .u32 ((e.toNat : Nat) : Int)) ∧ wr.frozen? ⟨gs, 4, none⟩ = false := HA.out.cell 4 (by simp)
              have n5 : wr.cell? ⟨gs, 5, none⟩ = some (.int .u32 ((f.toNat : Nat) : Int)) ∧ wr.frozen? ⟨gs, 5, none⟩ = false := HA.out.cell 5 (by simp)
              have n6 : wr.cell? ⟨gs, 6, none⟩ = some (.int .u32 ((g.toNat : Nat) : Int)) ∧ wr.frozen? ⟨gs, 6, none⟩ = false := HA.out.cell 6 (by simp)
              have n7 : wr.cell? ⟨gs, 7, none⟩ = some (.int .u32 ((h.toNat : Nat) : Int)) ∧ wr.frozen? ⟨gs, 7, none⟩ = false := HA.out.cell 7 (by simp)
              obtain ⟨n0, z0⟩ := n0
              obtain ⟨n1, z1⟩ := n1
              obtain ⟨n2, z2⟩ := n2
              obtain ⟨n3, z3⟩ := n3
              obtain ⟨n4, z4⟩ := n4
              obtain ⟨n5, z5⟩ := n5
              obtain ⟨n6, z6⟩ := n6
              obtain ⟨n7, z7⟩ := n7
              obtain ⟨kk, ek⟩ : ∃ x, keys.getD j 0 = x := ⟨_, rfl⟩
              obtain ⟨ww, ew⟩ : ∃ x, (sch s 48).getD j 0 = x := ⟨_, rfl⟩
              have nk := (HB.out.2.1.cell j (by rw [HK.out]; exact hj)).1
              have nw := (HB.out.2.2.2.1.cell j (by rw [sch_len]; exact hj)).1
              rw [ek] at nk
              rw [ew] at nw
              replace nk : wr.cell? ⟨w.heap.size + 1, j, none⟩ = some (.int .u32 ((kk.toNat : Nat) : Int)) := nk
              replace nw : wr.cell? ⟨w.heap.size + 1 + 1 + 1, j, none⟩ = some (.int .u32 ((ww.toNat : Nat) : Int)) := nw
              have HRN : Aside0 (rounds st keys (sch s 48) (j + 1) = rnd [a, b, c, d, e, f, g, h] kk ww) := ⟨by rw [rounds, HR.out, ek, ew]⟩
              have HJ1 := Aside0.mk hj
              clear hj ek ew
              go_wp2
              go_quiet ((go_at_call 49; exact Calls.quiet_of_same (turn_any _ _ (by omega) (by omega) _)))
              go_wp2
              go_quiet (fail)
              simp only [big1_is, chs_is, one_is]
              go_wp2
              go_quiet ((go_at_call 49; first | exact quiet_again (turn_any _ _ (by omega) (by omega) _) | exact Calls.quiet_of_same (turn_any _ _ (by omega) (by omega) _)))
              simp only [big0_is]
              go_wp2
              simp only [maj_is, m_add]
              simp only [six_is, seven_is]
              have hA : ∀ n, ArrU (((((((((wr.drewN n).setCell ⟨gs, 7, none⟩ (.int .u32 ((g.toNat : Nat) : Int))).setCell ⟨gs, 6, none⟩ (.int .u32 ((f.toNat : Nat) : Int))).setCell ⟨gs, 5, none⟩ (.int .u32 ((e.toNat : Nat) : Int))).setCell ⟨gs, 4, none⟩ (.int .u32 (((d + (h + big1 e + chs e f g + kk + ww)).toNat : Nat) : Int))).setCell ⟨gs, 3, none⟩ (.int .u32 ((c.toNat : Nat) : Int))).setCell ⟨gs, 2, none⟩ (.int .u32 ((b.toNat : Nat) : Int))).setCell ⟨gs, 1, none⟩ (.int .u32 ((a.toNat : Nat) : Int))).setCell ⟨gs, 0, none⟩ (.int .u32 (((h + big1 e + chs e f g + kk + ww + (big0 a + maj a b c)).toNat : Nat) : Int))) gs 48 [h + big1 e + chs e f g + kk + ww + (big0 a + maj a b c), a, b, c, d + (h + big1 e + chs e f g + kk + ww), e, f, g] := fun n =>
                ((((((((HA.out.drewN n).set 7 g).set 6 f).set 5 e).set 4 (d + (h + big1 e + chs e f g + kk + ww))).set 3 c).set 2 b).set 1 a).set 0 (h + big1 e + chs e f g + kk + ww + (big0 a + maj a b c))
              have hB : ∀ n u7 u6 u5 u4 u3 u2 u1 u0, Base w (((((((((wr.drewN n).setCell ⟨gs, 7, none⟩ u7).setCell ⟨gs, 6, none⟩ u6).setCell ⟨gs, 5, none⟩ u5).setCell ⟨gs, 4, none⟩ u4).setCell ⟨gs, 3, none⟩ u3).setCell ⟨gs, 2, none⟩ u2).setCell ⟨gs, 1, none⟩ u1).setCell ⟨gs, 0, none⟩ u0) w.heap.size st keys (sch s 48) := fun n u7 u6 u5 u4 u3 u2 u1 u0 =>
                ((((((((HB.out.drewN n).far HGS.out u7).far HGS.out u6).far HGS.out u5).far HGS.out u4).far HGS.out u3).far HGS.out u2).far HGS.out u1).far HGS.out u0
              have HA1 := Aside0.mk hA
              have HB1 := Aside0.mk hB
              clear hA hB
              go_roundg k1
              case measure => omega
              case rel => exact ⟨j + 1, _, _, _, _, _, _, _, _, by simp, ⟨by have := HJ.out; have := HJ1.out; omega⟩, ⟨HRN.out⟩, ⟨HB1.out _ _ _ _ _ _ _ _ _⟩, ⟨HA1.out _⟩⟩
            · have hj64 : j = 64 := by have := HJ.out; omega
              have p0 : decide ((j : Int) < 64) = false := decide_eq_false (by omega)
              have HR1 : Aside0 (rounds st keys (sch s 48) 64 = [a, b, c, d, e, f, g, h]) := ⟨by rw [← hj64]; exact HR.out⟩
              clear hj64 hj HR HJ
              go_wp2
              have HBM : Aside0 (Base w wr w.heap.size (mid st (rounds st keys (sch s 48) 64) 0) keys (sch s 48)) := ⟨HB.out⟩
              have HA0 : Aside0 (ArrU wr gs 48 (rounds st keys (sch s 48) 64)) := ⟨by rw [HR1.out]; exact HA.out⟩
              have HRL : Aside0 ((rounds st keys (sch s 48) 64).length = 8) := ⟨rounds_len HST.out 64⟩
              clear HB HA HR1
              go_loopg [20] 9 (fun kq v20 w' => ∃ j : Nat, v20 = .int .i64 (j : Int) ∧ Aside0 (j + kq = 9 ∧ j ≤ 8) ∧ Aside0 (Base w w' w.heap.size (mid st (rounds st keys (sch s 48) 64) j) keys (sch s 48)) ∧ Aside0 (ArrU w' gs 48 (rounds st keys (sch s 48) 64)))
              case atStart => exact ⟨0, rfl, ⟨by omega⟩, HBM, HA0⟩
              case round =>
                clear HBM HA0
                obtain ⟨j, rfl, HJ, HB, HA⟩ := hrel
                by_cases hj : j < 8
                · obtain ⟨k1, rfl⟩ : ∃ k1, gk = k1 + 1 := ⟨gk - 1, by have := HJ.out; omega⟩
                  have b1 : (j : Int) < 8 := by omega
                  obtain ⟨x, ex⟩ : ∃ x, st.getD j 0 = x := ⟨_, rfl⟩
                  obtain ⟨y, ey⟩ : ∃ y, (rounds st keys (sch s 48) 64).getD j 0 = y := ⟨_, rfl⟩
                  have hcc := HB.out.1.cell j (by rw [mid_len HST.out HRL.out HJ.out.2]; exact hj)
                  rw [mid_get HST.out HRL.out hj, ex] at hcc
                  have hx : wr.cell? ⟨w.heap.size, j, none⟩ = some (.int .u32 ((x.toNat : Nat) : Int)) := hcc.1
                  have hf := hcc.2
                  have hy := (HA.out.cell j (by rw [HRL.out]; exact hj)).1
                  rw [ey] at hy
                  replace hy : wr.cell? ⟨gs, j, none⟩ = some (.int .u32 ((y.toNat : Nat) : Int)) := hy
                  have HX : Aside0 (st.getD j 0 + (rounds st keys (sch s 48) 64).getD j 0 = x + y) := ⟨by rw [ex, ey]⟩
                  have HJ1 := Aside0.mk hj
                  clear hcc hj ex ey
                  go_wp2
                  go_region
                  all_goals go_wp2
                  all_goals simp only [m_add]
                  go_roundg k1
                  case measure => omega
                  case rel => exact ⟨j + 1, by simp, ⟨by have := HJ.out; have := HJ1.out; omega⟩, ⟨by
                    have h := HB.out.setH j (x + y)
                    have e := mid_set HST.out HRL.out HJ1.out
                    rw [HX.out] at e
                    rw [e] at h
                    exact h.drew⟩, ⟨(HA.out.far (by show gs ≠ w.heap.size; have := HGS.out; omega) _).drew⟩⟩
                · have hj8 : j = 8 := by have := HJ.out; omega
                  have p0 : decide ((j : Int) < 8) = false := decide_eq_false (by omega)
                  have HB4 : Aside0 (Base w wr w.heap.size (blk st s keys) keys (sch s 48)) := ⟨by
                    have h := HB.out
                    rw [hj8, mid_all HST.out HRL.out] at h
                    exact h⟩
                  have HBL : Aside0 ((blk st s keys).length = 8) := ⟨blk_len HST.out s keys⟩
                  obtain ⟨q0, q1, q2, q3, q4, q5, q6, q7, hq⟩ := eight_of HBL.out
                  have k0 := (HB4.out.1.cell 0 (by rw [HBL.out]; decide)).1
                  have k1 := (HB4.out.1.cell 1 (by rw [HBL.out]; decide)).1
                  have k2 := (HB4.out.1.cell 2 (by rw [HBL.out]; decide)).1
                  have k3 := (HB4.out.1.cell 3 (by rw [HBL.out]; decide)).1
                  have k4 := (HB4.out.1.cell 4 (by rw [HBL.out]; decide)).1
                  have k5 := (HB4.out.1.cell 5 (by rw [HBL.out]; decide)).1
                  have k6 := (HB4.out.1.cell 6 (by rw [HBL.out]; decide)).1
                  have k7 := (HB4.out.1.cell 7 (by rw [HBL.out]; decide)).1
                  have r0 := HB4.out.2.2.1.cell 0 (by decide)
                  have r1 := HB4.out.2.2.1.cell 1 (by decide)
                  have r2 := HB4.out.2.2.1.cell 2 (by decide)
                  have r3 := HB4.out.2.2.1.cell 3 (by decide)
                  have r4 := HB4.out.2.2.1.cell 4 (by decide)
                  have r5 := HB4.out.2.2.1.cell 5 (by decide)
                  have r6 := HB4.out.2.2.1.cell 6 (by decide)
                  have r7 := HB4.out.2.2.1.cell 7 (by decide)
                  rw [hq] at k0 k1 k2 k3 k4 k5 k6 k7
                  replace k0 : wr.cell? ⟨w.heap.size, 0, none⟩ = some (.int .u32 ((q0.toNat : Nat) : Int)) := k0
                  replace k1 : wr.cell? ⟨w.heap.size, 1, none⟩ = some (.int .u32 ((q1.toNat : Nat) : Int)) := k1
                  replace k2 : wr.cell? ⟨w.heap.size, 2, none⟩ = some (.int .u32 ((q2.toNat : Nat) : Int)) := k2
                  replace k3 : wr.cell? ⟨w.heap.size, 3, none⟩ = some (.int .u32 ((q3.toNat : Nat) : Int)) := k3
                  replace k4 : wr.cell? ⟨w.heap.size, 4, none⟩ = some (.int .u32 ((q4.toNat : Nat) : Int)) := k4
                  replace k5 : wr.cell? ⟨w.heap.size, 5, none⟩ = some (.int .u32 ((q5.toNat : Nat) : Int)) := k5
                  replace k6 : wr.cell? ⟨w.heap.size, 6, none⟩ = some (.int .u32 ((q6.toNat : Nat) : Int)) := k6
                  replace k7 : wr.cell? ⟨w.heap.size, 7, none⟩ = some (.int .u32 ((q7.toNat : Nat) : Int)) := k7
                  replace r0 : wr.cell? ⟨w.heap.size + 1 + 1, 0, none⟩ = some (.int .u32 0) ∧ wr.frozen? ⟨w.heap.size + 1 + 1, 0, none⟩ = false := r0
                  replace r1 : wr.cell? ⟨w.heap.size + 1 + 1, 1, none⟩ = some (.int .u32 0) ∧ wr.frozen? ⟨w.heap.size + 1 + 1, 1, none⟩ = false := r1
                  replace r2 : wr.cell? ⟨w.heap.size + 1 + 1, 2, none⟩ = some (.int .u32 0) ∧ wr.frozen? ⟨w.heap.size + 1 + 1, 2, none⟩ = false := r2
                  replace r3 : wr.cell? ⟨w.heap.size + 1 + 1, 3, none⟩ = some (.int .u32 0) ∧ wr.frozen? ⟨w.heap.size + 1 + 1, 3, none⟩ = false := r3
                  replace r4 : wr.cell? ⟨w.heap.size + 1 + 1, 4, none⟩ = some (.int .u32 0) ∧ wr.frozen? ⟨w.heap.size + 1 + 1, 4, none⟩ = false := r4
                  replace r5 : wr.cell? ⟨w.heap.size + 1 + 1, 5, none⟩ = some (.int .u32 0) ∧ wr.frozen? ⟨w.heap.size + 1 + 1, 5, none⟩ = false := r5
                  replace r6 : wr.cell? ⟨w.heap.size + 1 + 1, 6, none⟩ = some (.int .u32 0) ∧ wr.frozen? ⟨w.heap.size + 1 + 1, 6, none⟩ = false := r6
                  replace r7 : wr.cell? ⟨w.heap.size + 1 + 1, 7, none⟩ = some (.int .u32 0) ∧ wr.frozen? ⟨w.heap.size + 1 + 1, 7, none⟩ = false := r7
                  obtain ⟨r0, z0⟩ := r0
                  obtain ⟨r1, z1⟩ := r1
                  obtain ⟨r2, z2⟩ := r2
                  obtain ⟨r3, z3⟩ := r3
                  obtain ⟨r4, z4⟩ := r4
                  obtain ⟨r5, z5⟩ := r5
                  obtain ⟨r6, z6⟩ := r6
                  obtain ⟨r7, z7⟩ := r7
                  have HQ := Aside0.mk hq
                  have HBE := Aside0.mk HB4.out.2.2.2.2
                  clear hq hj8 hj HB HA HJ HB4
                  go_wp2
                  have HC : Aside0 ((#[.int .u32 ((q0.toNat : Nat) : Int), .int .u32 ((q1.toNat : Nat) : Int), .int .u32 ((q2.toNat : Nat) : Int), .int .u32 ((q3.toNat : Nat) : Int), .int .u32 ((q4.toNat : Nat) : Int), .int .u32 ((q5.toNat : Nat) : Int), .int .u32 ((q6.toNat : Nat) : Int), .int .u32 ((q7.toNat : Nat) : Int)] : Array Value) = cellsU (blk st s keys)) := ⟨by rw [HQ.out]; rfl⟩
                  refine bodyPost_ret (v := .agg #[.int .u32 ((q0.toNat : Nat) : Int), .int .u32 ((q1.toNat : Nat) : Int), .int .u32 ((q2.toNat : Nat) : Int), .int .u32 ((q3.toNat : Nat) : Int), .int .u32 ((q4.toNat : Nat) : Int), .int .u32 ((q5.toNat : Nat) : Int), .int .u32 ((q6.toNat : Nat) : Int), .int .u32 ((q7.toNat : Nat) : Int)]) (by simp [results, Tryd.results35, go_sem, r0, r1, r2, r3, r4, r5, r6, r7]) rfl ⟨by rw [HC.out], ?_⟩
                  exact (((((((HBE.out.setCell (by show w.heap.size ≤ w.heap.size + 1 + 1; omega) _).setCell (by show w.heap.size ≤ w.heap.size + 1 + 1; omega) _).setCell (by show w.heap.size ≤ w.heap.size + 1 + 1; omega) _).setCell (by show w.heap.size ≤ w.heap.size + 1 + 1; omega) _).setCell (by show w.heap.size ≤ w.heap.size + 1 + 1; omega) _).setCell (by show w.heap.size ≤ w.heap.size + 1 + 1; omega) _).setCell (by show w.heap.size ≤ w.heap.size + 1 + 1; omega) _).setCell (by show w.heap.size ≤ w.heap.size + 1 + 1; omega) _
end Go.Proofs.YtfjhfmfeblcnhaaDoor.Hand
