/- impl.ShaBlock by hand. -/
import Derived.Test.YtfjhfmfeblcnhaaDoorProg
import Derived.Below
import Derived.Deep.Draws
import Derived.Deep.AppendLies
import Derived.Maps.AppendAt
import Derived.OwnWalk
import Derived.Laws.BytesArg
import Derived.Laws.MakeOwn
import Derived.Laws.OwnMore
import Derived.Deep.OwnRows
import Derived.Tactics
import Derived.Lib.ConvBytes
import Derived.Laws.Slices
import Derived.WalkKit
import Derived.KernelRfl
import Derived.RowKit3
import Derived.Deep.LoopGhost
import Derived.Deep.QuietTactic
import Derived.BigQuiet
import Derived.WideLaws
import Derived.Deep.DeepCutAuto
import Derived.Deep.CutBlock
import Derived.Deep.RegionHeld3
import Derived.Laws.Rows
import Derived.Lib.AppendStr
import Derived.ArgAppend
import Derived.Laws.IdiomCopy
import Derived.OrdersHeld
import Derived.Laws.BitsLemmas
import Derived.RowKit
import Derived.Test.YtfjhfmfeblcnhaaDoorWMore
import Derived.Test.YtfjhfmfeblcnhaaDoorSha7
namespace Go.Proofs.YtfjhfmfeblcnhaaDoor.Hand
open Go.RowKit Go.Proofs.YtfjhfmfeblcnhaaDoorW.PrintWords Go.Proofs.YtfjhfmfeblcnhaaDoorW.PrintLast Go.Proofs.YtfjhfmfeblcnhaaDoorW.PrintMore Go.Proofs.YtfjhfmfeblcnhaaDoor.Sha
attribute [local go_sem] max2_int min2_int max_two min_two max_three min_three max_four min_four
set_option linter.unusedVariables false
set_option linter.unusedSimpArgs false
def impl_ShaBlock.f (l0 : List Int) (a1 : ByteArray) : Option (List Int) := if l0.length ≤ 2000000 then some (blockF l0 a1) else none
/-- The program's table of words stands where the program's text lays it. -/
def Keys (w : World) : Prop := ∀ j, j < 64 → w.cell? ⟨0, j, none⟩ = some (.int .u32 (((keys64.getD j 0).toNat : Nat) : Int))
theorem chs_is2 (e f g : UInt32) : Go.bits .xor .u32 (Go.bits .and .u32 ((e.toNat : Nat) : Int) ((f.toNat : Nat) : Int)) (Go.bits .and .u32 (Go.bits .xor .u32 IntKind.u32.max ((e.toNat : Nat) : Int)) ((g.toNat : Nat) : Int)) = (((chs e f g).toNat : Nat) : Int) := by
  have h : IntKind.u32.max = (((4294967295 : UInt32).toNat : Nat) : Int) := rfl
  rw [h, m_xor, UInt32.xor_comm, m_and, m_and, m_xor]
  rfl
theorem eight_is (h x c k w p q : UInt32) : (((h.toNat : Nat) : Int) + ((x.toNat : Nat) : Int) + ((c.toNat : Nat) : Int) + ((k.toNat : Nat) : Int) + ((w.toNat : Nat) : Int) + ((p.toNat : Nat) : Int) + ((q.toNat : Nat) : Int)) % 4294967296 = (((h + x + c + k + w + (p + q)).toNat : Nat) : Int) := by
  rw [UInt32.toNat_add, UInt32.toNat_add, UInt32.toNat_add, UInt32.toNat_add, UInt32.toNat_add, UInt32.toNat_add]
  omega
theorem mixI_rd (l r : List Int) (h : l.length = 8) (h2 : r.length = 8) (j : Nat) (hj : j < 8) : rdOf (0 : Int) (mixI l r j) (j : Int) = rd r (j : Int) := by
  have hl : (l.take j).length = j := by rw [List.length_take, h]; omega
  unfold rdOf rd mixI
  rw [Int.toNat_natCast, List.getD_eq_getElem?_getD, List.getD_eq_getElem?_getD, List.getElem?_append_right (by omega), hl, Nat.sub_self, List.getElem?_drop, Nat.add_zero]
theorem zip_get (l : List Int) (V : List UInt32) (j : Nat) (h : j < l.length) (hv : j < V.length) (u x : UInt32) (hu : UInt32.ofNat (rd l (j : Int)).toNat = u) (hx : V.getD j 0 = x) : (List.zipWith (· + ·) (toU l) V).getD j 0 = u + x := by
  rw [List.getD_eq_getElem?_getD, List.getElem?_eq_getElem hv, Option.getD_some] at hx
  unfold rd at hu
  rw [Int.toNat_natCast, List.getD_eq_getElem?_getD, List.getElem?_eq_getElem h, Option.getD_some] at hu
  rw [List.getD_eq_getElem?_getD, List.getElem?_eq_getElem (by rw [List.length_zipWith, toU_len]; omega), Option.getD_some, List.getElem_zipWith, hx, ← hu]
  simp [toU]
theorem Keys.below {w w' : World} (h : Keys w) (hb : Below w.heap.size w w') : Keys w' := fun j hj => (hb.cell (World.block_lt_of_cell? w _ (h j hj))).trans (h j hj)
set_option maxHeartbeats 8000000 in
set_option maxRecDepth 100000 in
theorem impl_ShaBlock.calls (A0 : Option Addr) (c0 : Nat) (l0 : List Int) (a1 : ByteArray) (r : List Int) (w : World) (hk0 : Keys w) (hr0 : Kd.C (Kd.int .i64) w A0 l0.length l0) (hc0 : l0.length ≤ c0) (h : impl_ShaBlock.f l0 a1 = some r) :
    Calls Tryd.prog 15 #[.slice A0 l0.length c0, .string a1] w fun e w' => ∃ v0_ : Value, e = .returned v0_ ∧ Kd.R (Kd.int .i64) 3 w' w.heap.size (fun _ => True) v0_ r ∧ Below w.heap.size w w' := by
  obtain ⟨hl, hr⟩ : l0.length ≤ 2000000 ∧ blockF l0 a1 = r := by
    unfold impl_ShaBlock.f at h
    split at h
    · exact ⟨‹_›, Option.some.inj h⟩
    · cases h
  clear h
  have HKEY := Aside0.mk hk0
  have HR0 := Aside0.mk hr0
  have HL := Aside0.mk hl
  have HR := Aside0.mk hr
  clear hk0 hr0 hc0 hl hr
  have HO0 : Aside0 (Kd.R (Kd.int .i64) 3 (w.alloc (.cells #[] 3)) w.heap.size (fun _ => True) (.slice (some ⟨w.heap.size, 0, none⟩) 0 0) []) := ⟨Kd.R_of_own (World.ownsRow_lit (base := w.heap.size) (e := 3) (size := 1) w #[] 0 (Nat.le_refl _) (by decide) (by simp)) (fun _ _ => trivial)⟩
  by_cases h8 : l0.length = 8
  · have b0 : (((l0.length : Nat) : Int) != 8) = false := by rw [bne_eq_false_iff_eq]; omega
    have H8 := Aside0.mk h8
    by_cases h64 : a1.size = 64
    · have b1 : (((a1.size : Nat) : Int) != 64) = false := by rw [bne_eq_false_iff_eq]; omega
      have H64 := Aside0.mk h64
      obtain ⟨ad, rfl, _⟩ := Kd.at_int HR0.out 0 (by omega) (by omega)
      clear h8 h64
      go_enter Tryd.func15, Tryd.ntmps15
      go_wp2_with (((with_reducible refine gate_builtin (b := .append) (xs := #[.tmp 25, .tmp 26]) rfl ?_); at_builtin; refine Kd.R_append_rows (Kd.int .i64) (w0 := w) w.heap.size rfl (.tmp 25) (.tmp 26) 24 3 (.int .i64 0) 8 rfl Tryd.underlying24 info3 rfl (by decide) (by omega) (.slice (some ⟨w.heap.size, 0, none⟩) 0 0) [] l0 (some ad) l0.length c0 (fun _ => True) (fun _ => False) rfl rfl ?aO ?aR (fun _ _ h => h) (fun _ h => h.elim) ?aF ?aB ?aS ?aL ?_; (case aO => exact HO0.out); (case aR => exact Kd.C_alloc HR0.out _); (case aF => exact fun _ _ => trivial); (case aB => exact (Below.refl _ _).alloc (Nat.le_refl _) _); (case aS => simp); (case aL => have := HL.out; simp only [List.length_nil]; omega); intro v1 w1 ho hb hg hat; have HO := Aside0.mk ho; have HB := Aside0.mk hb; clear ho hb hg hat))
      have HBW := Aside0.mk HB.out
      have HR1 : Aside0 (Kd.R (Kd.int .i64) 3 w1 w.heap.size (fun k => k < w1.heap.size) v1 l0) := ⟨Kd.R_mono (Kd.R_bound HO.out) (fun k hk => hk.2.2.1)⟩
      have HA0 : Aside0 (ArrU (w1.alloc (.cells #[.int .u32 0, .int .u32 0, .int .u32 0, .int .u32 0, .int .u32 0, .int .u32 0, .int .u32 0, .int .u32 0] 48)) w1.heap.size 48 (pad ((toU l0).take 0) 8)) := ⟨ArrU.new w1 48 (List.replicate 8 0)⟩
      have HB0 : Aside0 (Below w1.heap.size w1 (w1.alloc (.cells #[.int .u32 0, .int .u32 0, .int .u32 0, .int .u32 0, .int .u32 0, .int .u32 0, .int .u32 0, .int .u32 0] 48))) := ⟨(Below.refl _ _).alloc (Nat.le_refl _) _⟩
      clear HO HO0
      go_loopg [39] 9 (fun kq v7 w' => ∃ j : Nat, v7 = .int .i64 (j : Int) ∧ Aside0 (j + kq = 9 ∧ j ≤ 8) ∧ Aside0 (∀ i, i < j → 0 ≤ rd l0 (i : Int) ∧ rd l0 (i : Int) ≤ 4294967295) ∧ Aside0 (ArrU w' w1.heap.size 48 (pad ((toU l0).take j) 8)) ∧ Aside0 (Below w1.heap.size w1 w'))
      case atStart => exact ⟨0, rfl, ⟨by omega⟩, ⟨fun i hi => by omega⟩, HA0, HB0⟩
      case round =>
        clear HA0 HB0
        obtain ⟨j, rfl, HJ, HG, HA, HB2⟩ := hrel
        by_cases hj : j < 8
        · obtain ⟨k1, rfl⟩ : ∃ k1, gk = k1 + 1 := ⟨gk - 1, by have := HJ.out; omega⟩
          have p0 : decide ((j : Int) < (l0.length : Int)) = true := decide_eq_true (by have := H8.out; omega)
          have p01 : decide (j < l0.length) = true := decide_eq_true (by have := H8.out; omega)
          have p2 : (8 ≤ (j : Int)) = False := eq_false (by omega)
          have p3 : ((j : Int) < 8) = True := eq_true (by omega)
          have p4 : ((j : Int) < (l0.length : Int)) = True := eq_true (by have := H8.out; omega)
          obtain ⟨ad', e', hx⟩ := Kd.at_int HR0.out (j : Int) (by omega) (by have := H8.out; omega)
          cases e'
          replace hx := (HB2.out.cell (World.block_lt_of_cell? w1 _ ((HB.out.cell (World.block_lt_of_cell? w _ hx)).trans hx))).trans ((HB.out.cell (World.block_lt_of_cell? w _ hx)).trans hx)
          simp only [Int.toNat_natCast] at hx
          have hlen : (pad ((toU l0).take j) 8).length = 8 := pad_len _ (by rw [List.length_take, toU_len]; omega)
          have hcc := HA.out.cell j (by rw [hlen]; omega)
          have hc := hcc.1
          have hf := hcc.2
          clear hcc hlen
          have HJ1 := Aside0.mk hj
          clear hj
          by_cases hg : 0 ≤ rd l0 (j : Int) ∧ rd l0 (j : Int) ≤ 4294967295
          · have HGJ := Aside0.mk hg
            clear hg
            go_wp2_with (go_at_call 37; refine (impl_half_yes _ HGJ.out.1 HGJ.out.2 _).mono ?_; rintro e w' ⟨rfl, rfl⟩)
            go_roundg k1
            case measure => omega
            case rel => exact ⟨j + 1, by rw [show wrap64 ((j : Int) + 1) = ((j + 1 : Nat) : Int) from by have := HJ1.out; unfold wrap64; omega], ⟨by have := HJ.out; have := HJ1.out; omega⟩, ⟨fun i hi => by
              rcases Nat.lt_or_ge i j with h | h
              · exact HG.out i h
              · obtain rfl : i = j := by omega
                exact HGJ.out⟩, ⟨by
              have h := HA.out.set j (UInt32.ofNat (rd l0 (j : Int)).toNat)
              have e := pad_set ((toU l0).take j) (n := 8) (by rw [List.length_take, toU_len]; have := HJ1.out; omega) (UInt32.ofNat (rd l0 (j : Int)).toNat)
              rw [show ((toU l0).take j).length = j from by rw [List.length_take, toU_len]; have := HJ1.out; have := H8.out; omega] at e
              rw [e, ← toU_snoc l0 j (by rw [H8.out]; exact HJ1.out)] at h
              rw [u32_word _ HGJ.out]
              exact h⟩, ⟨HB2.out.setCell (Nat.le_refl _) _⟩⟩
          · have HE : Aside0 (r = l0) := ⟨by rw [← HR.out]; unfold blockF; rw [if_neg (fun h => by rw [not_all l0 j (by rw [H8.out]; exact HJ1.out) hg] at h; exact absurd h.2.2 (by decide))]⟩
            have HGJ := Aside0.mk hg
            clear hg
            go_wp2_with (go_at_call 37; refine (impl_half_no _ HGJ.out _).mono ?_; rintro e w' ⟨rfl, rfl⟩)
            go_ret
            exact ⟨_, rfl, by rw [HE.out]; exact Kd.R_mono (Kd.R_move HR1.out (fun k hk => HB2.out.block k hk)) (fun _ _ => trivial), HB.out.trans (HB2.out.mono HB.out.size)⟩
        · have hj8 : j = 8 := by have := HJ.out; omega
          have p0 : decide ((j : Int) < (l0.length : Int)) = false := decide_eq_false (by have := H8.out; omega)
          have p01 : decide (j < l0.length) = false := decide_eq_false (by have := H8.out; omega)
          have HU : Aside0 (ArrU wr w1.heap.size 48 (toU l0)) := ⟨by
            have h := HA.out
            rw [hj8, List.take_of_length_le (by rw [toU_len, H8.out]; decide), pad_full _ (by rw [toU_len]; exact H8.out)] at h
            exact h⟩
          have HE : Aside0 (r = intsU (blk (toU l0) a1 keys64)) := ⟨by
            rw [← HR.out]
            unfold blockF
            rw [if_pos ⟨H8.out, H64.out, all_of l0 8 H8.out (by have h := HG.out; rw [hj8] at h; exact h)⟩]⟩
          have HUL : Aside0 ((toU l0).length = 8) := ⟨by rw [toU_len]; exact H8.out⟩
          have HK1 : Aside0 (Keys w1) := ⟨HKEY.out.below HB.out⟩
          have HRG : Aside0 (∀ i : Nat, i < 8 → 0 ≤ rd l0 (i : Int) ∧ rd l0 (i : Int) ≤ 4294967295) := ⟨by have h := HG.out; rw [hj8] at h; exact h⟩
          clear hj8 hj HA HJ HG HR
          go_wp2_with ((with_reducible refine gate_dst (N := 9) rfl ?_); refine Kd.event_run rfl (alloc64 rfl _ _) ?_)
          have HB3 : Aside0 (BaseI w1 (wr.alloc (.cells (cellsU Z64) 51)) w1.heap.size wr.heap.size (toU l0) (pad ((words16 a1).take 0) 64)) := ⟨HU.out.alloc _, ArrU.new wr 51 Z64, HU.out.lt, HB2.out.alloc HB2.out.size _⟩
          have HGS : Aside0 (w1.heap.size < wr.heap.size) := ⟨HU.out.lt⟩
          clear HU HB2
          generalize wr.heap.size = gs at HB3 HGS ⊢
          go_loopg [53] 17 (fun kq v53 w' => ∃ m : Nat, v53 = .int .i64 (m : Int) ∧ Aside0 (m + kq = 17 ∧ m ≤ 16) ∧ Aside0 (BaseI w1 w' w1.heap.size gs (toU l0) (pad ((words16 a1).take m) 64)))
          case atStart => exact ⟨0, rfl, ⟨by omega⟩, HB3⟩
          case round =>
            clear HB3
            obtain ⟨m, rfl, HJ, HB3⟩ := hrel
            by_cases hj : m < 16
            · obtain ⟨k1, rfl⟩ : ∃ k1, gk = k1 + 1 := ⟨gk - 1, by have := HJ.out; omega⟩
              have b1 : (m : Int) < 16 := by omega
              have hc4 := impl_fourAt_calls a1 (4 * m) (by have := H64.out; omega) (by have := H64.out; omega)
              simp only [Int.natCast_mul, Int.cast_ofNat_Int] at hc4
              have HC4 := Aside0.mk hc4
              clear hc4
              have hlen : (pad ((words16 a1).take m) 64).length = 64 := pad_len _ (by rw [List.length_take, words16_len]; omega)
              have hcc := HB3.out.2.1.cell m (by rw [hlen]; omega)
              have hc := hcc.1
              have hf := hcc.2
              clear hcc hlen
              have HJ1 := Aside0.mk hj
              clear hj
              go_wp2_with (go_at_call 38; refine (HC4.out _).mono ?_; rintro e w' ⟨rfl, n4, rfl⟩)
              go_roundg k1
              case measure => omega
              case rel => exact ⟨m + 1, by first | (simp; done) | (rw [show wrap64 ((m : Int) + 1) = ((m + 1 : Nat) : Int) from by have := HJ1.out; unfold wrap64; omega]), ⟨by have := HJ.out; have := HJ1.out; omega⟩, ⟨by
                have h := (HB3.out.drewN n4).setW m (wordAt a1 (4 * m))
                have e := pad_set ((words16 a1).take m) (n := 64) (by rw [List.length_take, words16_len]; have := HJ1.out; omega) (wordAt a1 (4 * m))
                rw [show ((words16 a1).take m).length = m from by rw [List.length_take, words16_len]; have := HJ1.out; omega] at e
                rw [e, ← words16_snoc a1 m HJ1.out] at h
                rw [word_of]
                exact h⟩⟩
            · have hm16 : m = 16 := by have := HJ.out; omega
              have p0 : decide ((m : Int) < 16) = false := decide_eq_false (by omega)
              have HB4 : Aside0 (BaseI w1 wr w1.heap.size gs (toU l0) (pad (sch a1 0) 64)) := ⟨by
                have h := HB3.out
                rw [hm16, List.take_of_length_le (by rw [words16_len]; omega)] at h
                exact h⟩
              clear hm16 hj HB3 HJ
              go_wp2
              go_loopg [11] 49 (fun kq v11 w' => ∃ m : Nat, v11 = .int .i64 ((m : Int) + 16) ∧ Aside0 (m + kq = 49 ∧ m ≤ 48) ∧ Aside0 (BaseI w1 w' w1.heap.size gs (toU l0) (pad (sch a1 m) 64)))
              case atStart => exact ⟨0, rfl, ⟨by omega⟩, HB4⟩
              case round =>
                clear HB4
                obtain ⟨m, rfl, HJ, HB⟩ := hrel
                by_cases hj : m < 48
                · obtain ⟨k1, rfl⟩ : ∃ k1, gk = k1 + 1 := ⟨gk - 1, by have := HJ.out; omega⟩
                  have b1 : (m : Int) < 48 := by omega
                  have hlen : (pad (sch a1 m) 64).length = 64 := pad_len _ (by rw [sch_len]; omega)
                  have hg : ∀ q, q < 16 + m → wr.cell? ⟨gs, q, none⟩ = some (.int .u32 (((((sch a1 m).getD q 0)).toNat : Nat) : Int)) := fun q hq => by
                    have h := (HB.out.2.1.cell q (by rw [hlen]; omega)).1
                    rw [pad_get _ _ _ (by rw [sch_len]; exact hq)] at h
                    exact h
                  obtain ⟨x1, e1⟩ : ∃ x, (sch a1 m).getD (m + 1) 0 = x := ⟨_, rfl⟩
                  obtain ⟨x14, e14⟩ : ∃ x, (sch a1 m).getD (m + 14) 0 = x := ⟨_, rfl⟩
                  obtain ⟨x0, e0⟩ : ∃ x, (sch a1 m).getD m 0 = x := ⟨_, rfl⟩
                  obtain ⟨x9, e9⟩ : ∃ x, (sch a1 m).getD (m + 9) 0 = x := ⟨_, rfl⟩
                  have h1 := hg (m + 1) (by omega)
                  have h14 := hg (m + 14) (by omega)
                  have h0 := hg m (by omega)
                  have h9 := hg (m + 9) (by omega)
                  rw [e1] at h1
                  rw [e14] at h14
                  rw [e0] at h0
                  rw [e9] at h9
                  have HX : Aside0 (nextW (sch a1 m) = x0 + sg0 x1 + x9 + sg1 x14) := ⟨by
                    unfold nextW
                    rw [sch_len, show 16 + m - 16 = m by omega, show 16 + m - 15 = m + 1 by omega, show 16 + m - 7 = m + 9 by omega, show 16 + m - 2 = m + 14 by omega, e0, e1, e9, e14]⟩
                  clear e0 e1 e9 e14 hg
                  have hcc := HB.out.2.1.cell (m + 16) (by rw [hlen]; omega)
                  have hc := hcc.1
                  have hf := hcc.2
                  clear hcc hlen
                  have HJ1 := Aside0.mk hj
                  clear hj
                  go_wp2
                  go_quiet (fail)
                  go_wp2_with (go_at_call 39; refine (rotl_any _ _ (by omega) (by omega) _).mono ?_; rintro e w' ⟨rfl, rfl⟩)
                  go_region
                  go_wp2
                  go_roundg k1
                  case measure => omega
                  case rel => exact ⟨m + 1, by simp; omega, ⟨by have := HJ.out; have := HJ1.out; omega⟩, ⟨by
                    have e := pad_set (sch a1 m) (n := 64) (by rw [sch_len]; have := HJ1.out; omega) (nextW (sch a1 m))
                    rw [sch_len, show 16 + m = m + 16 by omega] at e
                    have h : ∀ n, BaseI w1 ((wr.drewN n).setCell ⟨gs, m + 16, none⟩ (wv (nextW (sch a1 m)))) w1.heap.size gs (toU l0) (pad (sch a1 (m + 1)) 64) := fun n => by
                      have h := (HB.out.drewN n).setW (m + 16) (nextW (sch a1 m))
                      rw [e] at h
                      exact h
                    rw [sg0_is, sg1_is, add4, ← HX.out]
                    exact h _⟩⟩
                · have hj48 : m = 48 := by have := HJ.out; omega
                  have HB2 : Aside0 (BaseI w1 wr w1.heap.size gs (toU l0) (sch a1 48)) := ⟨by
                    have h := HB.out
                    rw [hj48, pad_full _ (sch_len a1 48)] at h
                    exact h⟩
                  have p0 : decide ((m : Int) + 16 < 64) = false := decide_eq_false (by omega)
                  have p01 : decide ((m : Int) < 48) = false := decide_eq_false (by omega)
                  obtain ⟨a0, b0', c0', d0, e0, f0, g0, h0, hst⟩ := eight_of HUL.out
                  have k0 := (HB2.out.1.cell 0 (by rw [HUL.out]; decide)).1
                  have k1 := (HB2.out.1.cell 1 (by rw [HUL.out]; decide)).1
                  have k2 := (HB2.out.1.cell 2 (by rw [HUL.out]; decide)).1
                  have k3 := (HB2.out.1.cell 3 (by rw [HUL.out]; decide)).1
                  have k4 := (HB2.out.1.cell 4 (by rw [HUL.out]; decide)).1
                  have k5 := (HB2.out.1.cell 5 (by rw [HUL.out]; decide)).1
                  have k6 := (HB2.out.1.cell 6 (by rw [HUL.out]; decide)).1
                  have k7 := (HB2.out.1.cell 7 (by rw [HUL.out]; decide)).1
                  rw [hst] at k0 k1 k2 k3 k4 k5 k6 k7
                  replace k0 : wr.cell? ⟨w1.heap.size, 0, none⟩ = some (.int .u32 ((a0.toNat : Nat) : Int)) := k0
                  replace k1 : wr.cell? ⟨w1.heap.size, 1, none⟩ = some (.int .u32 ((b0'.toNat : Nat) : Int)) := k1
                  replace k2 : wr.cell? ⟨w1.heap.size, 2, none⟩ = some (.int .u32 ((c0'.toNat : Nat) : Int)) := k2
                  replace k3 : wr.cell? ⟨w1.heap.size, 3, none⟩ = some (.int .u32 ((d0.toNat : Nat) : Int)) := k3
                  replace k4 : wr.cell? ⟨w1.heap.size, 4, none⟩ = some (.int .u32 ((e0.toNat : Nat) : Int)) := k4
                  replace k5 : wr.cell? ⟨w1.heap.size, 5, none⟩ = some (.int .u32 ((f0.toNat : Nat) : Int)) := k5
                  replace k6 : wr.cell? ⟨w1.heap.size, 6, none⟩ = some (.int .u32 ((g0.toNat : Nat) : Int)) := k6
                  replace k7 : wr.cell? ⟨w1.heap.size, 7, none⟩ = some (.int .u32 ((h0.toNat : Nat) : Int)) := k7
                  have HSTE := Aside0.mk hst
                  clear hst hj48 hj HB HJ
                  go_wp2
                  clear k0 k1 k2 k3 k4 k5 k6 k7
                  go_loopg [107] 65 (fun kq v107 w' => ∃ (j : Nat) (a b c d e f g hh : UInt32), v107 = .int .i64 (j : Int) ∧ Aside0 (j + kq = 65 ∧ j ≤ 64) ∧ Aside0 (rounds (toU l0) keys64 (sch a1 48) j = [a, b, c, d, e, f, g, hh]) ∧ Aside0 (BaseI w1 w' w1.heap.size gs [a, b, c, d, e, f, g, hh] (sch a1 48)))
                  case atStart => exact ⟨0, a0, b0', c0', d0, e0, f0, g0, h0, rfl, ⟨by omega⟩, HSTE, by have h := HB2.out; rw [HSTE.out] at h; exact ⟨h⟩⟩
                  case round =>
                    clear HB2
                    obtain ⟨j, a, b, c, d, e, f, g, hh, rfl, HJ, HR, HB⟩ := hrel
                    by_cases hj : j < 64
                    · obtain ⟨k1, rfl⟩ : ∃ k1, gk = k1 + 1 := ⟨gk - 1, by have := HJ.out; omega⟩
                      have b2 : (j : Int) < 64 := by omega
                      have n0 : wr.cell? ⟨w1.heap.size, 0, none⟩ = some (.int .u32 ((a.toNat : Nat) : Int)) ∧ wr.frozen? ⟨w1.heap.size, 0, none⟩ = false := HB.out.1.cell 0 (by simp)
                      have n1 : wr.cell? ⟨w1.heap.size, 1, none⟩ = some (.int .u32 ((b.toNat : Nat) : Int)) ∧ wr.frozen? ⟨w1.heap.size, 1, none⟩ = false := HB.out.1.cell 1 (by simp)
                      have n2 : wr.cell? ⟨w1.heap.size, 2, none⟩ = some (.int .u32 ((c.toNat : Nat) : Int)) ∧ wr.frozen? ⟨w1.heap.size, 2, none⟩ = false := HB.out.1.cell 2 (by simp)
                      have n3 : wr.cell? ⟨w1.heap.size, 3, none⟩ = some (.int .u32 ((d.toNat : Nat) : Int)) ∧ wr.frozen? ⟨w1.heap.size, 3, none⟩ = false := HB.out.1.cell 3 (by simp)
                      have n4 : wr.cell? ⟨w1.heap.size, 4, none⟩ = some (.int .u32 ((e.toNat : Nat) : Int)) ∧ wr.frozen? ⟨w1.heap.size, 4, none⟩ = false := HB.out.1.cell 4 (by simp)
                      have n5 : wr.cell? ⟨w1.heap.size, 5, none⟩ = some (.int .u32 ((f.toNat : Nat) : Int)) ∧ wr.frozen? ⟨w1.heap.size, 5, none⟩ = false := HB.out.1.cell 5 (by simp)
                      have n6 : wr.cell? ⟨w1.heap.size, 6, none⟩ = some (.int .u32 ((g.toNat : Nat) : Int)) ∧ wr.frozen? ⟨w1.heap.size, 6, none⟩ = false := HB.out.1.cell 6 (by simp)
                      have n7 : wr.cell? ⟨w1.heap.size, 7, none⟩ = some (.int .u32 ((hh.toNat : Nat) : Int)) ∧ wr.frozen? ⟨w1.heap.size, 7, none⟩ = false := HB.out.1.cell 7 (by simp)
                      obtain ⟨n0, z0⟩ := n0
                      obtain ⟨n1, z1⟩ := n1
                      obtain ⟨n2, z2⟩ := n2
                      obtain ⟨n3, z3⟩ := n3
                      obtain ⟨n4, z4⟩ := n4
                      obtain ⟨n5, z5⟩ := n5
                      obtain ⟨n6, z6⟩ := n6
                      obtain ⟨n7, z7⟩ := n7
                      obtain ⟨kk, ek⟩ : ∃ x, keys64.getD j 0 = x := ⟨_, rfl⟩
                      obtain ⟨ww, ew⟩ : ∃ x, (sch a1 48).getD j 0 = x := ⟨_, rfl⟩
                      have nk := HK1.out.below (w' := wr) HB.out.2.2.2 j hj
                      have nw := (HB.out.2.1.cell j (by rw [sch_len]; exact hj)).1
                      rw [ek] at nk
                      rw [ew] at nw
                      replace nk : wr.cell? ⟨0, j, none⟩ = some (.int .u32 ((kk.toNat : Nat) : Int)) := nk
                      replace nw : wr.cell? ⟨gs, j, none⟩ = some (.int .u32 ((ww.toNat : Nat) : Int)) := nw
                      have HRN : Aside0 (rounds (toU l0) keys64 (sch a1 48) (j + 1) = rnd [a, b, c, d, e, f, g, hh] kk ww) := ⟨by rw [rounds, HR.out, ek, ew]⟩
                      have HJ1 := Aside0.mk hj
                      clear hj ek ew
                      go_wp2
                      go_quiet (fail)
                      go_wp2_with (go_at_call 39; refine (rotl_any _ _ (by omega) (by omega) _).mono ?_; rintro e w' ⟨rfl, rfl⟩)
                      simp only [big1_is, chs_is2]
                      go_quiet (fail)
                      simp only [one_is]
                      go_wp2_with (go_at_call 39; refine (rotl_any _ _ (by omega) (by omega) _).mono ?_; rintro e w' ⟨rfl, rfl⟩)
                      simp only [big0_is, maj_is]
                      simp only [six_is, eight_is]
                      have hB : ∀ n, BaseI w1 (((((((((wr.drewN n).setCell ⟨w1.heap.size, 0, none⟩ (.int .u32 (((hh + big1 e + chs e f g + kk + ww + (big0 a + maj a b c)).toNat : Nat) : Int))).setCell ⟨w1.heap.size, 1, none⟩ (.int .u32 ((a.toNat : Nat) : Int))).setCell ⟨w1.heap.size, 2, none⟩ (.int .u32 ((b.toNat : Nat) : Int))).setCell ⟨w1.heap.size, 3, none⟩ (.int .u32 ((c.toNat : Nat) : Int))).setCell ⟨w1.heap.size, 4, none⟩ (.int .u32 (((d + (hh + big1 e + chs e f g + kk + ww)).toNat : Nat) : Int))).setCell ⟨w1.heap.size, 5, none⟩ (.int .u32 ((e.toNat : Nat) : Int))).setCell ⟨w1.heap.size, 6, none⟩ (.int .u32 ((f.toNat : Nat) : Int))).setCell ⟨w1.heap.size, 7, none⟩ (.int .u32 ((g.toNat : Nat) : Int))) w1.heap.size gs [(hh + big1 e + chs e f g + kk + ww + (big0 a + maj a b c)), a, b, c, (d + (hh + big1 e + chs e f g + kk + ww)), e, f, g] (sch a1 48) := fun n => (((((((((HB.out.drewN n).setV 0 (hh + big1 e + chs e f g + kk + ww + (big0 a + maj a b c))).setV 1 a).setV 2 b).setV 3 c).setV 4 (d + (hh + big1 e + chs e f g + kk + ww))).setV 5 e).setV 6 f).setV 7 g)
                      have HB1 := Aside0.mk hB
                      clear hB
                      go_roundg k1
                      case measure => omega
                      case rel => exact ⟨j + 1, _, _, _, _, _, _, _, _, by simp, ⟨by have := HJ.out; have := HJ1.out; omega⟩, ⟨HRN.out⟩, ⟨HB1.out _⟩⟩
                    · have hj64 : j = 64 := by have := HJ.out; omega
                      have p0 : decide ((j : Int) < 64) = false := decide_eq_false (by omega)
                      have HR9 : Aside0 (rounds (toU l0) keys64 (sch a1 48) 64 = [a, b, c, d, e, f, g, hh]) := ⟨by rw [← hj64]; exact HR.out⟩
                      have HSL : Aside0 (blk (toU l0) a1 keys64 = List.zipWith (· + ·) (toU l0) [a, b, c, d, e, f, g, hh]) := ⟨by unfold blk; rw [HR9.out]⟩
                      clear hj64 hj HR HJ
                      obtain ⟨V8, hV⟩ : ∃ V, V = [a, b, c, d, e, f, g, hh] := ⟨_, rfl⟩
                      obtain ⟨L, hL⟩ : ∃ L, L = List.zipWith (· + ·) (toU l0) V8 := ⟨_, rfl⟩
                      have HVL : Aside0 (V8.length = 8) := ⟨by rw [hV]; rfl⟩
                      have HRL : Aside0 (r = intsU L) := ⟨by rw [HE.out, HSL.out, hL, hV]⟩
                      have HZ : Aside0 (ArrU wr w1.heap.size 48 V8) := ⟨by rw [hV]; exact HB.out.1⟩
                      have HLL : Aside0 (L.length = 8) := ⟨by rw [hL, List.length_zipWith, HUL.out, HVL.out]; rfl⟩
                      have HO5 : Aside0 (Kd.R (Kd.int .i64) 3 wr w.heap.size (fun k => k < w1.heap.size) v1 (mixI (intsU L) l0 0)) := ⟨Kd.R_move HR1.out (fun k hk => HB.out.2.2.2.block k hk)⟩
                      have HB6 : Aside0 (Below w.heap.size w wr) := ⟨HBW.out.trans (HB.out.2.2.2.mono HBW.out.size)⟩
                      have HLE := Aside0.mk hL
                      clear hL hV HE HSL HB
                      obtain ⟨go, co, eo, gb, gl, cl, HGF⟩ := Kd.R_form HR1.out (by have := H8.out; omega)
                      subst eo
                      have HGO : Aside0 (go < w1.heap.size) := ⟨HR1.out.1 go (by simp [Value.ownBlock])⟩
                      have HGB := Aside0.mk gb
                      clear gb gl cl HGF HR1
                      go_wp2
                      go_loopg [194] 9 (fun kq v194 w' => ∃ j : Nat, v194 = .int .i64 (j : Int) ∧ Aside0 (j + kq = 9 ∧ j ≤ 8) ∧ Aside0 (Kd.R (Kd.int .i64) 3 w' w.heap.size (fun k => k < w1.heap.size) (.slice (some ⟨go, 0, none⟩) l0.length co) (mixI (intsU L) l0 j)) ∧ Aside0 (ArrU w' w1.heap.size 48 V8) ∧ Aside0 (Below w.heap.size w w'))
                      case atStart => exact ⟨0, rfl, ⟨by omega⟩, HO5, HZ, HB6⟩
                      case round =>
                        clear HO5 HZ HB6
                        obtain ⟨j, rfl, HJ, HO, HA, HB⟩ := hrel
                        by_cases hj : j < 8
                        · obtain ⟨k1, rfl⟩ : ∃ k1, gk = k1 + 1 := ⟨gk - 1, by have := HJ.out; omega⟩
                          have p0 : decide ((j : Int) < (l0.length : Int)) = true := decide_eq_true (by have := H8.out; omega)
                          have p01 : decide (j < l0.length) = true := decide_eq_true (by have := H8.out; omega)
                          have p1 : (0 ≤ (j : Int)) = True := eq_true (by omega)
                          have p2 : (8 ≤ (j : Int)) = False := eq_false (by omega)
                          have p3 : ((j : Int) < 8) = True := eq_true (by omega)
                          have p4 : ((j : Int) < (l0.length : Int)) = True := eq_true (by have := H8.out; omega)
                          obtain ⟨x, ex⟩ : ∃ x, V8.getD j 0 = x := ⟨_, rfl⟩
                          obtain ⟨u, eu⟩ : ∃ u, UInt32.ofNat (rd l0 (j : Int)).toNat = u := ⟨_, rfl⟩
                          have hc := (HA.out.cell j (by rw [HVL.out]; exact hj)).1
                          rw [ex] at hc
                          replace hc : wr.cell? ⟨w1.heap.size, j, none⟩ = some (.int .u32 ((x.toNat : Nat) : Int)) := hc
                          obtain ⟨hx1, hf1⟩ := Kd.R_celln 0 HO.out (j : Int) (by omega) (by have := H8.out; omega)
                          simp only [Int.toNat_natCast] at hx1 hf1
                          have eru : rd l0 (j : Int) = ((u.toNat : Nat) : Int) := by rw [← eu, UInt32.toNat_ofNat']; have := HRG.out j hj; omega
                          have hx2 : wr.cell? ⟨go, j, none⟩ = some (.int .i64 ((u.toNat : Nat) : Int)) := by
                            rw [mixI_rd _ _ (by rw [intsU_len]; exact HLL.out) H8.out j hj, eru] at hx1
                            exact hx1
                          have HJ1 := Aside0.mk hj
                          have HX : Aside0 ((intsU L)[j]'(by rw [intsU_len, HLL.out]; exact HJ1.out) = (((u + x).toNat : Nat) : Int)) := ⟨by
                            refine intsU_get L j (by rw [HLL.out]; exact hj) (u + x) ?_
                            rw [HLE.out]
                            exact zip_get l0 V8 j (by rw [H8.out]; exact hj) (by rw [HVL.out]; exact hj) u x eu ex⟩
                          clear ex eu eru hx1 hj
                          go_wp2
                          go_region
                          go_wp2
                          go_roundg k1
                          case measure => omega
                          case rel => exact ⟨j + 1, by first | (simp; done) | (rw [show wrap64 ((j : Int) + 1) = ((j + 1 : Nat) : Int) from by have := HJ1.out; unfold wrap64; omega]), ⟨by have := HJ.out; have := HJ1.out; omega⟩, ⟨by
                            have h := (Kd.R_putg HO.out (j : Int) (((u + x).toNat : Nat) : Int)).1
                            simp only [Int.toNat_natCast] at h
                            rw [mixI_set (by rw [intsU_len]; exact HLL.out) H8.out HJ1.out _ HX.out] at h
                            rw [m_add]
                            exact Kd.R_move h (fun k hk => rfl)⟩, ⟨(HA.out.far (by show w1.heap.size ≠ go; have := HGO.out; omega) _).drew⟩, ⟨below_drew (HB.out.setCell HGB.out _)⟩⟩
                        · have hj8 : j = 8 := by have := HJ.out; omega
                          have p0 : decide ((j : Int) < (l0.length : Int)) = false := decide_eq_false (by have := H8.out; omega)
                          have p01 : decide (j < l0.length) = false := decide_eq_false (by have := H8.out; omega)
                          have HF : Aside0 (Kd.R (Kd.int .i64) 3 wr w.heap.size (fun _ => True) (.slice (some ⟨go, 0, none⟩) l0.length co) r) := ⟨by
                            have h := Kd.R_mono (ok' := fun _ => True) HO.out (fun _ _ => trivial)
                            rw [hj8, mixI_all (by rw [intsU_len]; exact HLL.out) H8.out, ← HRL.out] at h
                            exact h⟩
                          clear hj8 hj HJ
                          go_wp2
                          go_ret
                          exact ⟨_, rfl, HF.out, HB.out⟩
    · have b1 : (((a1.size : Nat) : Int) != 64) = true := by rw [bne_iff_ne]; omega
      have HE : Aside0 (r = l0) := ⟨by rw [← HR.out]; unfold blockF; rw [if_neg (fun h => h64 h.2.1)]⟩
      clear h8 h64
      go_enter Tryd.func15, Tryd.ntmps15
      go_wp2_with (((with_reducible refine gate_builtin (b := .append) (xs := #[.tmp 25, .tmp 26]) rfl ?_); at_builtin; refine Kd.R_append_rows (Kd.int .i64) (w0 := w) w.heap.size rfl (.tmp 25) (.tmp 26) 24 3 (.int .i64 0) 8 rfl Tryd.underlying24 info3 rfl (by decide) (by omega) (.slice (some ⟨w.heap.size, 0, none⟩) 0 0) [] l0 A0 l0.length c0 (fun _ => True) (fun _ => False) rfl rfl ?aO ?aR (fun _ _ h => h) (fun _ h => h.elim) ?aF ?aB ?aS ?aL ?_; (case aO => exact HO0.out); (case aR => exact Kd.C_alloc HR0.out _); (case aF => exact fun _ _ => trivial); (case aB => exact (Below.refl _ _).alloc (Nat.le_refl _) _); (case aS => simp); (case aL => have := HL.out; simp only [List.length_nil]; omega); intro v1 w1 ho hb hg hat; have HO := Aside0.mk ho; have HB := Aside0.mk hb; clear ho hb hg hat))
      go_ret
      exact ⟨_, rfl, by rw [HE.out]; exact HO.out, HB.out⟩
  · have b0 : (((l0.length : Nat) : Int) != 8) = true := by rw [bne_iff_ne]; omega
    have HE : Aside0 (r = l0) := ⟨by rw [← HR.out]; unfold blockF; rw [if_neg (fun h => h8 h.1)]⟩
    clear h8
    go_enter Tryd.func15, Tryd.ntmps15
    go_wp2_with (((with_reducible refine gate_builtin (b := .append) (xs := #[.tmp 25, .tmp 26]) rfl ?_); at_builtin; refine Kd.R_append_rows (Kd.int .i64) (w0 := w) w.heap.size rfl (.tmp 25) (.tmp 26) 24 3 (.int .i64 0) 8 rfl Tryd.underlying24 info3 rfl (by decide) (by omega) (.slice (some ⟨w.heap.size, 0, none⟩) 0 0) [] l0 A0 l0.length c0 (fun _ => True) (fun _ => False) rfl rfl ?aO ?aR (fun _ _ h => h) (fun _ h => h.elim) ?aF ?aB ?aS ?aL ?_; (case aO => exact HO0.out); (case aR => exact Kd.C_alloc HR0.out _); (case aF => exact fun _ _ => trivial); (case aB => exact (Below.refl _ _).alloc (Nat.le_refl _) _); (case aS => simp); (case aL => have := HL.out; simp only [List.length_nil]; omega); intro v1 w1 ho hb hg hat; have HO := Aside0.mk ho; have HB := Aside0.mk hb; clear ho hb hg hat))
    go_ret
    exact ⟨_, rfl, by rw [HE.out]; exact HO.out, HB.out⟩
end Go.Proofs.YtfjhfmfeblcnhaaDoor.Hand
