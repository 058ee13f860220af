/- spec.ShaBlock by hand. -/
import Derived.Test.YtfjhfmfeblcnhaaDoorProg
import Derived.Below
import Derived.Deep.Draws
import Derived.Deep.AppendLies
import Derived.Maps.AppendAt
import Derived.OwnWalk
import Derived.Laws.BytesArg
import Derived.Laws.MakeOwn
import Derived.Laws.OwnMore
import Derived.Deep.OwnRows
import Derived.Tactics
import Derived.Lib.ConvBytes
import Derived.Laws.Slices
import Derived.WalkKit
import Derived.KernelRfl
import Derived.RowKit3
import Derived.Deep.LoopGhost
import Derived.Deep.QuietTactic
import Derived.BigQuiet
import Derived.WideLaws
import Derived.Deep.DeepCutAuto
import Derived.Deep.CutBlock
import Derived.Deep.RegionHeld3
import Derived.Laws.Rows
import Derived.Lib.AppendStr
import Derived.ArgAppend
import Derived.Laws.IdiomCopy
import Derived.OrdersHeld
import Derived.Laws.BitsLemmas
import Derived.RowKit
import Derived.Test.YtfjhfmfeblcnhaaDoorWMore
import Derived.Test.YtfjhfmfeblcnhaaDoorSha5
import Derived.Deep.RegionWith
namespace Go.Proofs.YtfjhfmfeblcnhaaDoor.Hand
open Go.RowKit Go.Proofs.YtfjhfmfeblcnhaaDoorW.PrintWords Go.Proofs.YtfjhfmfeblcnhaaDoorW.PrintLast Go.Proofs.YtfjhfmfeblcnhaaDoorW.PrintMore Go.Proofs.YtfjhfmfeblcnhaaDoor.Sha
attribute [local go_sem] max2_int min2_int max_two min_two max_three min_three max_four min_four
set_option linter.unusedVariables false
set_option linter.unusedSimpArgs false
def spec_ShaBlock.f (l0 : List Int) (a1 : ByteArray) : Option (List Int) := if l0.length ≤ 2000000 then some (blockF l0 a1) else none
theorem info3 : (Tryd.prog.info? 3).map (fun i => (i.zero, i.size, i.bytes)) = some (some (.int .i64 0), 1, 8) := by kernel_rfl
set_option maxRecDepth 100000 in
theorem spec_in_yes (x : Int) (h0 : 0 ≤ x) (h1 : x ≤ 4294967295) (w : World) : Calls Tryd.prog 34 #[.int .i64 x, .int .i64 0, .int .i64 4294967295] w fun e w' => e = .returned (.bool true) ∧ w' = w := by
  have b0 : decide (0 ≤ x) = true := decide_eq_true h0
  have b1 : decide (x ≤ 4294967295) = true := decide_eq_true h1
  clear h0 h1
  go_enter Tryd.func34, Tryd.ntmps34
  go_wp2
  go_ret
  exact ⟨rfl, rfl⟩
set_option maxRecDepth 100000 in
theorem spec_in_no (x : Int) (h : ¬ (0 ≤ x ∧ x ≤ 4294967295)) (w : World) : Calls Tryd.prog 34 #[.int .i64 x, .int .i64 0, .int .i64 4294967295] w fun e w' => e = .returned (.bool false) ∧ w' = w := by
  by_cases h0 : 0 ≤ x
  · have b0 : decide (0 ≤ x) = true := decide_eq_true h0
    have b1 : decide (x ≤ 4294967295) = false := decide_eq_false (fun e => h ⟨h0, e⟩)
    clear h0 h
    go_enter Tryd.func34, Tryd.ntmps34
    go_wp2
    go_ret
    exact ⟨rfl, rfl⟩
  · have b0 : decide (0 ≤ x) = false := decide_eq_false h0
    clear h0 h
    go_enter Tryd.func34, Tryd.ntmps34
    go_wp2
    go_ret
    exact ⟨rfl, rfl⟩
set_option maxHeartbeats 4000000 in
set_option maxRecDepth 100000 in
theorem spec_ShaBlock.calls (A0 : Option Addr) (c0 : Nat) (l0 : List Int) (a1 : ByteArray) (r : List Int) (w : World) (hr0 : Kd.C (Kd.int .i64) w A0 l0.length l0) (hc0 : l0.length ≤ c0) (h : spec_ShaBlock.f l0 a1 = some r) :
    Calls Tryd.prog 13 #[.slice A0 l0.length c0, .string a1] w fun e w' => ∃ v0_ : Value, e = .returned v0_ ∧ Kd.R (Kd.int .i64) 3 w' w.heap.size (fun _ => True) v0_ r ∧ Below w.heap.size w w' := by
  obtain ⟨hl, hr⟩ : l0.length ≤ 2000000 ∧ blockF l0 a1 = r := by
    unfold spec_ShaBlock.f at h
    split at h
    · exact ⟨‹_›, Option.some.inj h⟩
    · cases h
  clear h
  have HR0 := Aside0.mk hr0
  have HL := Aside0.mk hl
  have HR := Aside0.mk hr
  clear hr0 hc0 hl hr
  have HO0 : Aside0 (Kd.R (Kd.int .i64) 3 (w.alloc (.cells #[] 3)) w.heap.size (fun _ => True) (.slice (some ⟨w.heap.size, 0, none⟩) 0 0) []) := ⟨Kd.R_of_own (World.ownsRow_lit (base := w.heap.size) (e := 3) (size := 1) w #[] 0 (Nat.le_refl _) (by decide) (by simp)) (fun _ _ => trivial)⟩
  by_cases h8 : l0.length = 8
  · have b0 : (((l0.length : Nat) : Int) != 8) = false := by rw [bne_eq_false_iff_eq]; omega
    have H8 := Aside0.mk h8
    by_cases h64 : a1.size = 64
    · have b1 : (((a1.size : Nat) : Int) != 64) = false := by rw [bne_eq_false_iff_eq]; omega
      have H64 := Aside0.mk h64
      obtain ⟨ad, rfl, _⟩ := Kd.at_int HR0.out 0 (by omega) (by omega)
      clear h8 h64
      go_enter Tryd.func13, Tryd.ntmps13
      go_wp2_with (((with_reducible refine gate_builtin (b := .append) (xs := #[.tmp 9, .tmp 10]) rfl ?_); at_builtin; refine Kd.R_append_rows (Kd.int .i64) (w0 := w) w.heap.size rfl (.tmp 9) (.tmp 10) 24 3 (.int .i64 0) 8 rfl Tryd.underlying24 info3 rfl (by decide) (by omega) (.slice (some ⟨w.heap.size, 0, none⟩) 0 0) [] l0 (some ad) l0.length c0 (fun _ => True) (fun _ => False) rfl rfl ?aO ?aR (fun _ _ h => h) (fun _ h => h.elim) ?aF ?aB ?aS ?aL ?_; (case aO => exact HO0.out); (case aR => exact Kd.C_alloc HR0.out _); (case aF => exact fun _ _ => trivial); (case aB => exact (Below.refl _ _).alloc (Nat.le_refl _) _); (case aS => simp); (case aL => have := HL.out; simp only [List.length_nil]; omega); intro v1 w1 ho hb hg hat; have HO := Aside0.mk ho; have HB := Aside0.mk hb; clear ho hb hg hat))
      have HR1 : Aside0 (Kd.R (Kd.int .i64) 3 w1 w.heap.size (fun k => k < w1.heap.size) v1 l0) := ⟨Kd.R_mono (Kd.R_bound HO.out) (fun k hk => hk.2.2.1)⟩
      have HA0 : Aside0 (ArrU (w1.alloc (.cells #[.int .u32 0, .int .u32 0, .int .u32 0, .int .u32 0, .int .u32 0, .int .u32 0, .int .u32 0, .int .u32 0] 48)) w1.heap.size 48 (pad ((toU l0).take 0) 8)) := ⟨ArrU.new w1 48 (List.replicate 8 0)⟩
      have HB0 : Aside0 (Below w1.heap.size w1 (w1.alloc (.cells #[.int .u32 0, .int .u32 0, .int .u32 0, .int .u32 0, .int .u32 0, .int .u32 0, .int .u32 0, .int .u32 0] 48))) := ⟨(Below.refl _ _).alloc (Nat.le_refl _) _⟩
      clear HO HO0
      go_loopg [7] 9 (fun kq v7 w' => ∃ j : Nat, v7 = .int .i64 (j : Int) ∧ Aside0 (j + kq = 9 ∧ j ≤ 8) ∧ Aside0 (∀ i, i < j → 0 ≤ rd l0 (i : Int) ∧ rd l0 (i : Int) ≤ 4294967295) ∧ Aside0 (ArrU w' w1.heap.size 48 (pad ((toU l0).take j) 8)) ∧ Aside0 (Below w1.heap.size w1 w'))
      case atStart => exact ⟨0, rfl, ⟨by omega⟩, ⟨fun i hi => by omega⟩, HA0, HB0⟩
      case round =>
        clear HA0 HB0
        obtain ⟨j, rfl, HJ, HG, HA, HB2⟩ := hrel
        by_cases hj : j < 8
        · obtain ⟨k1, rfl⟩ : ∃ k1, gk = k1 + 1 := ⟨gk - 1, by have := HJ.out; omega⟩
          have p0 : decide ((j : Int) < 8) = true := decide_eq_true (by omega)
          have p2 : (8 ≤ (j : Int)) = False := eq_false (by omega)
          have p3 : ((j : Int) < 8) = True := eq_true (by omega)
          have p4 : ((j : Int) < (l0.length : Int)) = True := eq_true (by have := H8.out; omega)
          obtain ⟨ad', e', hx⟩ := Kd.at_int HR0.out (j : Int) (by omega) (by have := H8.out; omega)
          cases e'
          replace hx := (HB2.out.cell (World.block_lt_of_cell? w1 _ ((HB.out.cell (World.block_lt_of_cell? w _ hx)).trans hx))).trans ((HB.out.cell (World.block_lt_of_cell? w _ hx)).trans hx)
          simp only [Int.toNat_natCast] at hx
          have hlen : (pad ((toU l0).take j) 8).length = 8 := pad_len _ (by rw [List.length_take, toU_len]; omega)
          have hcc := HA.out.cell j (by rw [hlen]; omega)
          have hc := hcc.1
          have hf := hcc.2
          clear hcc hlen
          have HJ1 := Aside0.mk hj
          clear hj
          by_cases hg : 0 ≤ rd l0 (j : Int) ∧ rd l0 (j : Int) ≤ 4294967295
          · have HGJ := Aside0.mk hg
            clear hg
            go_wp2_with (go_at_call 34; refine (spec_in_yes _ HGJ.out.1 HGJ.out.2 _).mono ?_; rintro e w' ⟨rfl, rfl⟩)
            go_roundg k1
            case measure => omega
            case rel => exact ⟨j + 1, by rw [show wrap64 ((j : Int) + 1) = ((j + 1 : Nat) : Int) from by have := HJ1.out; unfold wrap64; omega], ⟨by have := HJ.out; have := HJ1.out; omega⟩, ⟨fun i hi => by
              rcases Nat.lt_or_ge i j with h | h
              · exact HG.out i h
              · obtain rfl : i = j := by omega
                exact HGJ.out⟩, ⟨by
              have h := HA.out.set j (UInt32.ofNat (rd l0 (j : Int)).toNat)
              have e := pad_set ((toU l0).take j) (n := 8) (by rw [List.length_take, toU_len]; have := HJ1.out; omega) (UInt32.ofNat (rd l0 (j : Int)).toNat)
              rw [show ((toU l0).take j).length = j from by rw [List.length_take, toU_len]; have := HJ1.out; have := H8.out; omega] at e
              rw [e, ← toU_snoc l0 j (by rw [H8.out]; exact HJ1.out)] at h
              rw [u32_word _ HGJ.out]
              exact h⟩, ⟨HB2.out.setCell (Nat.le_refl _) _⟩⟩
          · have HE : Aside0 (r = l0) := ⟨by rw [← HR.out]; unfold blockF; rw [if_neg (fun h => by rw [not_all l0 j (by rw [H8.out]; exact HJ1.out) hg] at h; exact absurd h.2.2 (by decide))]⟩
            have HGJ := Aside0.mk hg
            clear hg
            go_wp2_with (go_at_call 34; refine (spec_in_no _ HGJ.out _).mono ?_; rintro e w' ⟨rfl, rfl⟩)
            go_ret
            exact ⟨_, rfl, by rw [HE.out]; exact Kd.R_mono (Kd.R_move HR1.out (fun k hk => HB2.out.block k hk)) (fun _ _ => trivial), HB.out.trans (HB2.out.mono HB.out.size)⟩
        · have hj8 : j = 8 := by have := HJ.out; omega
          have p0 : decide ((j : Int) < 8) = false := decide_eq_false (by omega)
          have HU : Aside0 (ArrU wr w1.heap.size 48 (toU l0)) := ⟨by
            have h := HA.out
            rw [hj8, List.take_of_length_le (by rw [toU_len, H8.out]; decide), pad_full _ (by rw [toU_len]; exact H8.out)] at h
            exact h⟩
          have HE : Aside0 (r = intsU (blk (toU l0) a1 keys64)) := ⟨by
            rw [← HR.out]
            unfold blockF
            rw [if_pos ⟨H8.out, H64.out, all_of l0 8 H8.out (by have h := HG.out; rw [hj8] at h; exact h)⟩]⟩
          obtain ⟨u0, u1, u2, u3, u4, u5, u6, u7, hu⟩ := eight_of (show (toU l0).length = 8 by rw [toU_len]; exact H8.out)
          have k0 := (HU.out.cell 0 (by rw [toU_len, H8.out]; decide)).1
          have k1 := (HU.out.cell 1 (by rw [toU_len, H8.out]; decide)).1
          have k2 := (HU.out.cell 2 (by rw [toU_len, H8.out]; decide)).1
          have k3 := (HU.out.cell 3 (by rw [toU_len, H8.out]; decide)).1
          have k4 := (HU.out.cell 4 (by rw [toU_len, H8.out]; decide)).1
          have k5 := (HU.out.cell 5 (by rw [toU_len, H8.out]; decide)).1
          have k6 := (HU.out.cell 6 (by rw [toU_len, H8.out]; decide)).1
          have k7 := (HU.out.cell 7 (by rw [toU_len, H8.out]; decide)).1
          rw [hu] at k0 k1 k2 k3 k4 k5 k6 k7
          replace k0 : wr.cell? ⟨w1.heap.size, 0, none⟩ = some (.int .u32 ((u0.toNat : Nat) : Int)) := k0
          replace k1 : wr.cell? ⟨w1.heap.size, 1, none⟩ = some (.int .u32 ((u1.toNat : Nat) : Int)) := k1
          replace k2 : wr.cell? ⟨w1.heap.size, 2, none⟩ = some (.int .u32 ((u2.toNat : Nat) : Int)) := k2
          replace k3 : wr.cell? ⟨w1.heap.size, 3, none⟩ = some (.int .u32 ((u3.toNat : Nat) : Int)) := k3
          replace k4 : wr.cell? ⟨w1.heap.size, 4, none⟩ = some (.int .u32 ((u4.toNat : Nat) : Int)) := k4
          replace k5 : wr.cell? ⟨w1.heap.size, 5, none⟩ = some (.int .u32 ((u5.toNat : Nat) : Int)) := k5
          replace k6 : wr.cell? ⟨w1.heap.size, 6, none⟩ = some (.int .u32 ((u6.toNat : Nat) : Int)) := k6
          replace k7 : wr.cell? ⟨w1.heap.size, 7, none⟩ = some (.int .u32 ((u7.toNat : Nat) : Int)) := k7
          have HUE := Aside0.mk hu
          have HUL : Aside0 (w1.heap.size < wr.drew.heap.size) := ⟨HU.out.lt⟩
          clear hu hj8 hj HA HJ HG
          go_wp2
          go_region_with (first | (go_at_call 36; refine (spec_l03Keys.calls _).mono ?_; rintro e w3 ⟨rfl, hb3⟩; have q0 := (hb3.cell (p := ⟨w1.heap.size, 0, none⟩) HUL.out).trans k0; have q1 := (hb3.cell (p := ⟨w1.heap.size, 1, none⟩) HUL.out).trans k1; have q2 := (hb3.cell (p := ⟨w1.heap.size, 2, none⟩) HUL.out).trans k2; have q3 := (hb3.cell (p := ⟨w1.heap.size, 3, none⟩) HUL.out).trans k3; have q4 := (hb3.cell (p := ⟨w1.heap.size, 4, none⟩) HUL.out).trans k4; have q5 := (hb3.cell (p := ⟨w1.heap.size, 5, none⟩) HUL.out).trans k5; have q6 := (hb3.cell (p := ⟨w1.heap.size, 6, none⟩) HUL.out).trans k6; have q7 := (hb3.cell (p := ⟨w1.heap.size, 7, none⟩) HUL.out).trans k7; have HB3 := Aside0.mk hb3; clear hb3) | (go_at_call 35; refine (spec_l03Block_eight _ _ _ _ _ _ _ _ a1 H64.out _).mono ?_; rintro e w4 ⟨rfl, hb4⟩; have hz := (HU.out.drew.below HB3.out).below hb4; have hl : (blk [u0, u1, u2, u3, u4, u5, u6, u7] a1 keys64).length = (toU l0).length := (by rw [toU_len, H8.out]; exact blk_len rfl a1 keys64); have hst := storeU (P := Tryd.prog) hz (blk [u0, u1, u2, u3, u4, u5, u6, u7] a1 keys64) hl; have HZ := Aside0.mk (hz.setRow (blk [u0, u1, u2, u3, u4, u5, u6, u7] a1 keys64)); clear hz hl; have HB4 := Aside0.mk hb4; clear hb4))
          all_goals
            obtain ⟨L, hL⟩ : ∃ L, L = blk [u0, u1, u2, u3, u4, u5, u6, u7] a1 keys64 := ⟨_, rfl⟩
            rw [← hL] at HZ ⊢
            have HLL : Aside0 (L.length = 8) := ⟨by rw [hL]; exact blk_len rfl a1 keys64⟩
            have HRL : Aside0 (r = intsU L) := ⟨by rw [HE.out, HUE.out, hL]⟩
            have HB5 : Aside0 (Below w1.heap.size w1 (w4.setRow w1.heap.size (cellsU L))) := ⟨below_setRow (((HB2.out.drew).trans (HB3.out.mono (Nat.le_of_lt HUL.out))).trans (HB4.out.mono (Nat.le_trans (Nat.le_of_lt HUL.out) HB3.out.size))) (Nat.le_refl _) _⟩
            have HO5 : Aside0 (Kd.R (Kd.int .i64) 3 (w4.setRow w1.heap.size (cellsU L)) w.heap.size (fun k => k < w1.heap.size) v1 (mixI (intsU L) l0 0)) := ⟨Kd.R_move HR1.out (fun k hk => HB5.out.block k hk)⟩
            have HB6 : Aside0 (Below w.heap.size w (w4.setRow w1.heap.size (cellsU L))) := ⟨HB.out.trans (HB5.out.mono HB.out.size)⟩
            have HLE := Aside0.mk hL
            clear hL hst HE HUE HU HB3 HB4 HB2 HUL k0 k1 k2 k3 k4 k5 k6 k7
            obtain ⟨go, co, eo, gb, gl, cl, HGF⟩ := Kd.R_form HR1.out (by have := H8.out; omega)
            subst eo
            have HGO : Aside0 (go < w1.heap.size) := ⟨HR1.out.1 go (by simp [Value.ownBlock])⟩
            have HGB := Aside0.mk gb
            clear gb gl cl HGF HR1 HB HB5
            generalize w4.setRow w1.heap.size (cellsU L) = wz at HZ HO5 HB6 ⊢
            go_wp2
            go_loopg [8] 9 (fun kq v8 w' => ∃ j : Nat, v8 = .int .i64 (j : Int) ∧ Aside0 (j + kq = 9 ∧ j ≤ 8) ∧ Aside0 (Kd.R (Kd.int .i64) 3 w' w.heap.size (fun k => k < w1.heap.size) (.slice (some ⟨go, 0, none⟩) l0.length co) (mixI (intsU L) l0 j)) ∧ Aside0 (ArrU w' w1.heap.size 48 L) ∧ Aside0 (Below w.heap.size w w'))
            case atStart => exact ⟨0, rfl, ⟨by omega⟩, HO5, HZ, HB6⟩
            case round =>
              clear HO5 HZ HB6
              obtain ⟨j, rfl, HJ, HO, HA, HB⟩ := hrel
              by_cases hj : j < 8
              · obtain ⟨k1, rfl⟩ : ∃ k1, gk = k1 + 1 := ⟨gk - 1, by have := HJ.out; omega⟩
                have p0 : decide ((j : Int) < 8) = true := decide_eq_true (by omega)
                have p1 : (0 ≤ (j : Int)) = True := eq_true (by omega)
                have p2 : (8 ≤ (j : Int)) = False := eq_false (by omega)
                have p3 : ((j : Int) < 8) = True := eq_true (by omega)
                have p4 : ((j : Int) < (l0.length : Int)) = True := eq_true (by have := H8.out; omega)
                obtain ⟨x, ex⟩ : ∃ x, L.getD j 0 = x := ⟨_, rfl⟩
                have hc := (HA.out.cell j (by rw [HLL.out]; exact hj)).1
                rw [ex] at hc
                replace hc : wr.cell? ⟨w1.heap.size, j, none⟩ = some (.int .u32 ((x.toNat : Nat) : Int)) := hc
                obtain ⟨hx1, hf1⟩ := Kd.R_celln 0 HO.out (j : Int) (by omega) (by have := H8.out; omega)
                simp only [Int.toNat_natCast] at hx1 hf1
                have HEX := Aside0.mk ex
                have HJ1 := Aside0.mk hj
                clear ex hj
                go_wp2
                go_roundg k1
                case measure => omega
                case rel => exact ⟨j + 1, by rw [show wrap64 ((j : Int) + 1) = ((j + 1 : Nat) : Int) from by have := HJ1.out; unfold wrap64; omega], ⟨by have := HJ.out; have := HJ1.out; omega⟩, ⟨by
                  have h := (Kd.R_putg HO.out (j : Int) (((x.toNat : Nat) : Int))).1
                  simp only [Int.toNat_natCast] at h
                  rw [mixI_set (by rw [intsU_len]; exact HLL.out) H8.out HJ1.out _ (intsU_get L j (by rw [HLL.out]; exact HJ1.out) x HEX.out)] at h
                  rw [show wrap64 ((x.toNat : Nat) : Int) = ((x.toNat : Nat) : Int) from by have := x.toNat_lt; unfold wrap64; omega]
                  exact h⟩, ⟨HA.out.far (by show w1.heap.size ≠ go; have := HGO.out; omega) _⟩, ⟨HB.out.setCell HGB.out _⟩⟩
              · have hj8 : j = 8 := by have := HJ.out; omega
                have p0 : decide ((j : Int) < 8) = false := decide_eq_false (by omega)
                have HF : Aside0 (Kd.R (Kd.int .i64) 3 wr w.heap.size (fun _ => True) (.slice (some ⟨go, 0, none⟩) l0.length co) r) := ⟨by
                  have h := Kd.R_mono (ok' := fun _ => True) HO.out (fun _ _ => trivial)
                  rw [hj8, mixI_all (by rw [intsU_len]; exact HLL.out) H8.out, ← HRL.out] at h
                  exact h⟩
                clear hj8 hj HJ
                go_wp2
                go_ret
                exact ⟨_, rfl, HF.out, HB.out⟩
    · have b1 : (((a1.size : Nat) : Int) != 64) = true := by rw [bne_iff_ne]; omega
      have HE : Aside0 (r = l0) := ⟨by rw [← HR.out]; unfold blockF; rw [if_neg (fun h => h64 h.2.1)]⟩
      clear h8 h64
      go_enter Tryd.func13, Tryd.ntmps13
      go_wp2_with (((with_reducible refine gate_builtin (b := .append) (xs := #[.tmp 9, .tmp 10]) rfl ?_); at_builtin; refine Kd.R_append_rows (Kd.int .i64) (w0 := w) w.heap.size rfl (.tmp 9) (.tmp 10) 24 3 (.int .i64 0) 8 rfl Tryd.underlying24 info3 rfl (by decide) (by omega) (.slice (some ⟨w.heap.size, 0, none⟩) 0 0) [] l0 A0 l0.length c0 (fun _ => True) (fun _ => False) rfl rfl ?aO ?aR (fun _ _ h => h) (fun _ h => h.elim) ?aF ?aB ?aS ?aL ?_; (case aO => exact HO0.out); (case aR => exact Kd.C_alloc HR0.out _); (case aF => exact fun _ _ => trivial); (case aB => exact (Below.refl _ _).alloc (Nat.le_refl _) _); (case aS => simp); (case aL => have := HL.out; simp only [List.length_nil]; omega); intro v1 w1 ho hb hg hat; have HO := Aside0.mk ho; have HB := Aside0.mk hb; clear ho hb hg hat))
      go_ret
      exact ⟨_, rfl, by rw [HE.out]; exact HO.out, HB.out⟩
  · have b0 : (((l0.length : Nat) : Int) != 8) = true := by rw [bne_iff_ne]; omega
    have HE : Aside0 (r = l0) := ⟨by rw [← HR.out]; unfold blockF; rw [if_neg (fun h => h8 h.1)]⟩
    clear h8
    go_enter Tryd.func13, Tryd.ntmps13
    go_wp2_with (((with_reducible refine gate_builtin (b := .append) (xs := #[.tmp 9, .tmp 10]) rfl ?_); at_builtin; refine Kd.R_append_rows (Kd.int .i64) (w0 := w) w.heap.size rfl (.tmp 9) (.tmp 10) 24 3 (.int .i64 0) 8 rfl Tryd.underlying24 info3 rfl (by decide) (by omega) (.slice (some ⟨w.heap.size, 0, none⟩) 0 0) [] l0 A0 l0.length c0 (fun _ => True) (fun _ => False) rfl rfl ?aO ?aR (fun _ _ h => h) (fun _ h => h.elim) ?aF ?aB ?aS ?aL ?_; (case aO => exact HO0.out); (case aR => exact Kd.C_alloc HR0.out _); (case aF => exact fun _ _ => trivial); (case aB => exact (Below.refl _ _).alloc (Nat.le_refl _) _); (case aS => simp); (case aL => have := HL.out; simp only [List.length_nil]; omega); intro v1 w1 ho hb hg hat; have HO := Aside0.mk ho; have HB := Aside0.mk hb; clear ho hb hg hat))
    go_ret
    exact ⟨_, rfl, by rw [HE.out]; exact HO.out, HB.out⟩
end Go.Proofs.YtfjhfmfeblcnhaaDoor.Hand
