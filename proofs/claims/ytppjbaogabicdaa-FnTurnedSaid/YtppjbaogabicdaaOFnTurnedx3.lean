/- FnTurned's law by hand: the walk of its one way, and what it computes. -/
import Derived.Test.YtppjbaogabicdaaProg
import Derived.Below
import Derived.Deep.Draws
import Derived.Deep.AppendLies
import Derived.Maps.AppendAt
import Derived.OwnWalk
import Derived.Laws.BytesArg
import Derived.Laws.MakeOwn
import Derived.Laws.OwnMore
import Derived.Deep.OwnRows
import Derived.Tactics
import Derived.Lib.ConvBytes
import Derived.Laws.Slices
import Derived.WalkKit
import Derived.KernelRfl
import Derived.RowKit3
import Derived.Deep.LoopGhost
import Derived.Deep.QuietTactic
import Derived.BigQuiet
import Derived.WideLaws
import Derived.Deep.DeepCutAuto
import Derived.Deep.CutBlock
import Derived.Deep.RegionHeld3
import Derived.Laws.Rows
import Derived.Lib.AppendStr
import Derived.ArgAppend
import Derived.Laws.IdiomCopy
import Derived.OrdersHeld
import Derived.Laws.BitsLemmas
import Derived.RowKit
import Derived.Test.YtppjbaogabicdaaWMore
import Derived.Test.YtppjbaogabicdaaMark
import Derived.Test.YtppjbaogabicdaaOFnTurnedx2
namespace Go.Proofs.Ytppjbaogabicdaa.PFnTurned
open Go.RowKit Go.Proofs.YtppjbaogabicdaaW.PrintWords Go.Proofs.YtppjbaogabicdaaW.PrintLast Go.Proofs.YtppjbaogabicdaaW.PrintMore
attribute [local go_sem] max2_int min2_int max_two min_two max_three min_three max_four min_four
set_option linter.unusedSimpArgs false
set_option linter.unusedVariables false
/-- The text with its byte i turned by 1 + m (1 to 255). -/
def turnS (s : ByteArray) (i m : Nat) : ByteArray := strOfNums ((bytesI s).set i (Go.bits .xor .u8 (((s.data.toList.getD i 0).toNat : Nat) : Int) (1 + ((m : Nat) : Int))))
def turnOk (s : ByteArray) (l : List Int) : Bool := decide (0 < s.size ∧ s.size ≤ 140737488351232 ∧ 2 ≤ l.length ∧ 0 ≤ rd l 0 ∧ rd l 0 ≤ 4611686018427387904 ∧ 0 ≤ rd l 1 ∧ rd l 1 ≤ 4611686018427387904)
theorem wrap_m1 (m : Nat) (hm : m < 255) : IntKind.i64.wrap (1 + ((m : Nat) : Int)) = (1 + ((m : Nat) : Int)) := by rw [IntKind.wrap_i64]; omega
theorem wrap_m2 (m : Nat) (hm : m < 255) : wrap64 (1 + ((m : Nat) : Int)) = (1 + ((m : Nat) : Int)) := by unfold wrap64; omega
theorem wrap_m3 (m : Nat) (hm : m < 255) : IntKind.u8.wrap (1 + ((m : Nat) : Int)) = (1 + ((m : Nat) : Int)) := by rw [IntKind.wrap_u8]; omega
/-- What the walk of a turned byte asks of the memory behind '[]byte(t)'. -/
theorem turn_facts (w : World) (B : Nat) (t : ByteArray) (A : Option Addr) (c : Nat) (p : List Int) (hr : Kd.R (Kd.int .i64) 3 w B (fun _ => True) (.slice A p.length c) p) (hok : turnOk t p = true) :
    ∃ (ad : Addr) (i m u q0 q1 : Nat), A = some ad ∧ (rd p 0).toNat % t.size = i ∧ (rd p 1).toNat % 255 = m ∧ i < t.size ∧ m < 255 ∧ (t.data.toList.getD i 0).toNat = u
    ∧ (Lib.bytesWorld w 5 t).cell? ad = some (.int .i64 (q0 : Int)) ∧ (Lib.bytesWorld w 5 t).cell? ⟨ad.block, ad.off + 1, none⟩ = some (.int .i64 (q1 : Int))
    ∧ Int.tmod (q0 : Int) (t.size : Int) = ((i : Nat) : Int) ∧ Int.tmod (q1 : Int) 255 = ((m : Nat) : Int) ∧ (q1 : Int) % 255 = ((m : Nat) : Int)
    ∧ (Lib.bytesWorld w 5 t).cell? ⟨w.heap.size, i, none⟩ = some (.int .u8 ((u : Nat) : Int)) ∧ (Lib.bytesWorld w 5 t).frozen? ⟨w.heap.size, i, none⟩ = false
    ∧ OwnM ((Lib.bytesWorld w 5 t).setCell ⟨w.heap.size, i, none⟩ (.int .u8 (Go.bits .xor .u8 ((u : Nat) : Int) (1 + ((m : Nat) : Int))))) w.heap.size 5 (.slice (some ⟨w.heap.size, 0, none⟩) t.size (grownCap w t.size 0 5)) (nums .u8 ((bytesI t).set i (Go.bits .xor .u8 ((u : Nat) : Int) (1 + ((m : Nat) : Int))))) := by
  obtain ⟨hs0, hs, hl2, hp0, hp1, hq0, hq1⟩ := of_decide_eq_true hok
  have hC := Kd.C_below (Kd.R_reads' hr).2.2 (bytesWorld_below w 5 t)
  obtain ⟨ad, e0, x0⟩ := Kd.at_int hC 0 (by decide) (by omega)
  cases e0
  obtain ⟨ad1, e1, x1⟩ := Kd.at_int hC 1 (by decide) (by omega)
  cases e1
  have ha0 : ad.add 0 = ad := by unfold Addr.add; split <;> simp_all
  rw [show (0 : Int).toNat = 0 from rfl, ha0] at x0
  replace x1 : (Lib.bytesWorld w 5 t).cell? ⟨ad.block, ad.off + 1, none⟩ = some (.int .i64 (rd p 1)) := x1
  obtain ⟨q0, eq0⟩ := Int.eq_ofNat_of_zero_le hp0
  obtain ⟨q1, eq1⟩ := Int.eq_ofNat_of_zero_le hq0
  have hi : q0 % t.size < t.size := Nat.mod_lt _ hs0
  have hO := OwnM.conv w w.heap.size 5 t (Nat.le_refl _) (by simp only [maxLen]; omega)
  have hget : (nums .u8 (bytesI t))[q0 % t.size]? = some (.int .u8 (((t.data.toList.getD (q0 % t.size) 0).toNat : Nat) : Int)) := by
    unfold nums bytesI
    rw [List.getElem?_map, List.getElem?_map, List.getElem?_eq_getElem (by rw [Array.length_toList]; exact hi), List.getD_eq_getElem?_getD, List.getElem?_eq_getElem (by rw [Array.length_toList]; exact hi)]
    rfl
  obtain ⟨hc, hf⟩ := hO.cell rfl _ _ hget
  refine ⟨ad, q0 % t.size, q1 % 255, (t.data.toList.getD (q0 % t.size) 0).toNat, q0, q1, rfl, by rw [eq0, Int.toNat_natCast], by rw [eq1, Int.toNat_natCast], hi, Nat.mod_lt _ (by decide), rfl, by rw [x0, eq0], by rw [x1, eq1], ?_, ?_, by omega, hc, hf, ?_⟩
  · rw [Int.tmod_eq_emod_of_nonneg (by omega)]
    omega
  · rw [Int.tmod_eq_emod_of_nonneg (by omega)]
    omega
  · have h := hO.store (q0 % t.size) (.int .u8 (Go.bits .xor .u8 (((t.data.toList.getD (q0 % t.size) 0).toNat : Nat) : Int) (1 + ((q1 % 255 : Nat) : Int))))
    unfold nums at h ⊢
    rw [List.map_set]
    exact h
def laws_FnTurned.f (k : Nat) (l0 : List Int) : Option Bool :=
  (laws_big.f l0).bind fun b => if b = true then some true else
  (spec_DrawSumOf.f k l0).bind fun s => (spec_DrawPlaces.f k l0).bind fun p => (impl_Sealed.f k s).bind fun t => (impl_Unsealed.f k t.1).bind fun u =>
  if t.2 = true ∧ u = (s, true) ∧ t.1.size = s.size + 4 ∧ turnOk t.1 p = true then
    (impl_Unsealed.f k (turnS t.1 ((rd p 0).toNat % t.1.size) ((rd p 1).toNat % 255))).bind fun v =>
    (impl_SumOf.f k s).bind fun x => (impl_SumMore.f k x ⟨#[120]⟩).bind fun y => (impl_SumOf.f k (s ++ (⟨#[120]⟩ : ByteArray))).bind fun z =>
    if v.2 = false ∧ y = z then some true else none
  else none
set_option maxHeartbeats 1000000 in
set_option maxRecDepth 100000 in
theorem laws_FnTurned.way (k : Nat) (A0 : Option Addr) (c0 : Nat) (l0 : List Int) (w : World) (hr0 : Kd.C (Kd.int .u8) w A0 l0.length l0) (hc0 : l0.length ≤ c0)
    (s t ux : ByteArray) (p : List Int) (x y : Int) (hb : laws_big.f l0 = some false) (h1 : spec_DrawSumOf.f k l0 = some s) (h2 : spec_DrawPlaces.f k l0 = some p) (h3 : impl_Sealed.f k s = some (t, true)) (h4 : impl_Unsealed.f k t = some (s, true))
    (hz : t.size = s.size + 4) (hok : turnOk t p = true) (h5 : impl_Unsealed.f k (turnS t ((rd p 0).toNat % t.size) ((rd p 1).toNat % 255)) = some (ux, false))
    (h6 : impl_SumOf.f k s = some x) (h7 : impl_SumMore.f k x ⟨#[120]⟩ = some y) (h8 : impl_SumOf.f k (s ++ (⟨#[120]⟩ : ByteArray)) = some y) :
    Calls Try.prog 3 #[.slice A0 l0.length c0] w fun e w' => e = .returned (.bool true) ∧ Below w.heap.size w w' := by
  have HR0 := Aside0.mk hr0
  have HC0 := Aside0.mk hc0
  have H0 := Aside0.mk hb
  have H1 := Aside0.mk h1
  have H2 := Aside0.mk h2
  have H3 := Aside0.mk h3
  have H4 := Aside0.mk h4
  have H5 := Aside0.mk h5
  have H6 := Aside0.mk h6
  have H7 := Aside0.mk h7
  have H8 := Aside0.mk h8
  have HOK := Aside0.mk hok
  have HZ := Aside0.mk hz
  have hlim := (of_decide_eq_true hok).2.1
  have hl2 := (of_decide_eq_true hok).2.2.1
  have z1 : ((t.size : Int) != wrap64 ((s.size : Int) + 4)) = false := by rw [bne_eq_false_iff_eq]; unfold wrap64; omega
  have z2 : ((t.size : Int) != IntKind.i64.wrap ((s.size : Int) + 4)) = false := by rw [bne_eq_false_iff_eq, IntKind.wrap_i64]; omega
  have d0 : ((t.size : Int) == 0) = false := by rw [beq_eq_false_iff_ne]; omega
  have d1 : (t.size == 0) = false := by rw [beq_eq_false_iff_ne]; omega
  have hne : (t = ByteArray.empty) = False := eq_false (by rintro rfl; exact absurd hz (by simp))
  have s1 : (9223372036854775807 < s.size + 1) = False := eq_false (by omega)
  have s2 : (s.size + 1 ≤ 9223372036854775807) = True := eq_true (by omega)
  have n1 : (0 < p.length) = True := eq_true (by omega)
  have n2 : (1 < p.length) = True := eq_true (by omega)
  have n4 : ((1 : Int) < (p.length : Int)) = True := eq_true (by omega)
  have n5 : ((0 : Int) < (p.length : Int)) = True := eq_true (by omega)
  have n3 : (p = []) = False := eq_false (by rintro rfl; simp at hl2)
  clear hr0 hc0 hb h1 h2 h3 h4 h5 h6 h7 h8 hok hz hlim hl2
  have kc : ∀ w : World, (convert 9 22 (.string t)).run Try.prog w = .ok (.slice (some ⟨w.heap.size, 0, none⟩) t.size (grownCap w t.size 0 5)) (Lib.bytesWorld w 5 t) := fun w => Lib.run_convert_string_bytes w 9 22 5 t Try.underlying9 Try.underlying22 Try.underlying5
  go_enter Try.func3, Try.ntmps3
  go_wp2_with (first
   | (go_at_call 9; refine (laws_big.calls A0 c0 l0 false w HR0.out HC0.out H0.out).mono ?_; rintro e w1 ⟨rfl, hd⟩; have HB := Aside0.mk hd.below; clear hd)
   | (go_at_call 10; refine (spec_DrawSumOf.calls k A0 c0 l0 s _ (Kd.C_below HR0.out HB.out) HC0.out H1.out).mono ?_; rintro e w2 ⟨rfl, hb⟩; have n0_ := Aside0.mk (below_step HB.out hb); clear HB hb; have HB := n0_; clear n0_)
   | (go_at_call 11; refine (spec_DrawPlaces.calls k A0 c0 l0 p _ (Kd.C_below HR0.out HB.out) HC0.out H2.out).mono ?_; rintro e w3 ⟨v0, rfl, ho, hb⟩; obtain ⟨Ao, co, eo⟩ := Kd.R_slice ho; subst eo; have n0_ := Aside0.mk (below_step HB.out hb); clear HB hb; have HB := n0_; clear n0_; have HO := Aside0.mk ho; clear ho)
   | (go_at_call 12; refine (impl_Sealed.calls k s t true _ H3.out).mono ?_; rintro e w4 ⟨rfl, hb⟩; have n0_ := Aside0.mk (below_step HB.out hb); have n1_ := Aside0.mk (Kd.R_below HO.out hb); clear HB HO hb; have HB := n0_; have HO := n1_; clear n0_ n1_)
   | (go_at_call 13; refine (impl_Unsealed.calls k t s true _ H4.out).mono ?_; rintro e w5 ⟨rfl, hd⟩; have n0_ := Aside0.mk (below_step HB.out hd.below); have n1_ := Aside0.mk (Kd.R_below HO.out hd.below); clear HB HO hd; have HB := n0_; have HO := n1_; clear n0_ n1_; obtain ⟨ad, i, m, u, q0, q1, ea, ei, em, hi, hm, eu, x0, x1, t0, t1, t2, hc, hf, how⟩ := turn_facts w5 _ t _ _ p HO.out HOK.out; subst ea; have HE := Aside0.mk (And.intro ei (And.intro em eu)); have HW := Aside0.mk how; have i0 : (0 ≤ ((i : Nat) : Int)) = True := eq_true (by omega); have i1 : (((i : Nat) : Int) < (t.size : Int)) = True := eq_true (by omega); have i2 : (i < t.size) = True := eq_true hi; have m1 := wrap_m1 m hm; have m2 := wrap_m2 m hm; have m3 := wrap_m3 m hm; clear ei em eu how hi hm))
  go_region
  have HB5 : Aside0 (Below w.heap.size w (((Lib.bytesWorld w5 5 t).setCell ⟨w5.heap.size, i, none⟩ (.int .u8 (Go.bits .xor .u8 ((u : Nat) : Int) (1 + ((m : Nat) : Int))))).drew)) := ⟨below_drew ((below_step HB.out (bytesWorld_below w5 5 t)).setCell HB.out.size _)⟩
  have hcv := OwnM.text (P := Try.prog) (src := 22) (dst := 9) (show OwnM (((Lib.bytesWorld w5 5 t).setCell ⟨w5.heap.size, i, none⟩ (.int .u8 (Go.bits .xor .u8 ((u : Nat) : Int) (1 + ((m : Nat) : Int))))).drew) w5.heap.size 5 (.slice (some ⟨w5.heap.size, 0, none⟩) t.size (grownCap w5 t.size 0 5)) (nums .u8 ((bytesI t).set i (Go.bits .xor .u8 ((u : Nat) : Int) (1 + ((m : Nat) : Int))))) from HW.out) Try.underlying22 Try.underlying5 Try.underlying9
  have H5b : Aside0 (impl_Unsealed.f k (strOfNums ((bytesI t).set i (Go.bits .xor .u8 ((u : Nat) : Int) (1 + ((m : Nat) : Int))))) = some (ux, false)) := ⟨by
    have h := H5.out
    unfold turnS at h
    rw [HE.out.1, HE.out.2.1, HE.out.2.2] at h
    exact h⟩
  clear HW HB H5
  have HB := HB5
  clear HB5
  go_wp2_with (first
   | (go_at_call 13; refine (impl_Unsealed.calls k _ ux false _ H5b.out).mono ?_; rintro e w6 ⟨rfl, hd⟩; have n0_ := Aside0.mk (below_step HB.out hd.below); clear HB hd; have HB := n0_; clear n0_)
   | (go_at_call 15; refine (impl_SumOf.calls k s x _ H6.out).mono ?_; rintro e w7 ⟨rfl, hd⟩; have n0_ := Aside0.mk (below_step HB.out hd.below); clear HB hd; have HB := n0_; clear n0_)
   | (go_at_call 14; refine (impl_SumMore.calls k x ⟨#[120]⟩ y _ H7.out).mono ?_; rintro e w8 ⟨rfl, hd⟩; have n0_ := Aside0.mk (below_step HB.out hd.below); clear HB hd; have HB := n0_; clear n0_)
   | (go_at_call 15; refine (impl_SumOf.calls k (s ++ (⟨#[120]⟩ : ByteArray)) y _ H8.out).mono ?_; rintro e w9 ⟨rfl, hd⟩; have n0_ := Aside0.mk (below_step HB.out hd.below); clear HB hd; have HB := n0_; clear n0_))
  go_ret
  exact ⟨by first | rfl | (simp; done), HB.out⟩
theorem laws_FnTurned.calls (k : Nat) (A0 : Option Addr) (c0 : Nat) (l0 : List Int) (r : Bool) (w : World) (hr0 : Kd.C (Kd.int .u8) w A0 l0.length l0) (hc0 : l0.length ≤ c0) (h : laws_FnTurned.f k l0 = some r) :
    Calls Try.prog 3 #[.slice A0 l0.length c0] w fun e w' => e = .returned (.bool r) ∧ Below w.heap.size w w' := by
  unfold laws_FnTurned.f at h
  obtain ⟨b, hb, h⟩ := Option.bind_eq_some_iff.mp h
  cases b with
  | true =>
    rw [if_pos rfl] at h
    obtain rfl := Option.some.inj h
    have HR0 := Aside0.mk hr0
    have HC0 := Aside0.mk hc0
    have H0 := Aside0.mk hb
    clear hr0 hc0 hb h
    go_enter Try.func3, Try.ntmps3
    go_wp2_with (go_at_call 9; refine (laws_big.calls A0 c0 l0 true w HR0.out HC0.out H0.out).mono ?_; rintro e w1 ⟨rfl, hd⟩; have HB := Aside0.mk hd.below; clear hd)
    go_ret
    exact ⟨by first | rfl | (simp; done), HB.out⟩
  | false =>
    rw [if_neg (by decide)] at h
    obtain ⟨s, h1, h⟩ := Option.bind_eq_some_iff.mp h
    obtain ⟨p, h2, h⟩ := Option.bind_eq_some_iff.mp h
    obtain ⟨⟨t, tb⟩, h3, h⟩ := Option.bind_eq_some_iff.mp h
    obtain ⟨u, h4, h⟩ := Option.bind_eq_some_iff.mp h
    by_cases hc : tb = true ∧ u = (s, true) ∧ t.size = s.size + 4 ∧ turnOk t p = true
    · rw [if_pos hc] at h
      obtain ⟨e1, e2, hz, hok⟩ := hc
      obtain ⟨⟨vx, vb⟩, h5, h⟩ := Option.bind_eq_some_iff.mp h
      obtain ⟨x, h6, h⟩ := Option.bind_eq_some_iff.mp h
      obtain ⟨y, h7, h⟩ := Option.bind_eq_some_iff.mp h
      obtain ⟨z, h8, h⟩ := Option.bind_eq_some_iff.mp h
      by_cases hc2 : vb = false ∧ y = z
      · rw [if_pos hc2] at h
        obtain rfl := Option.some.inj h
        obtain ⟨e3, e4⟩ := hc2
        subst e1 e2 e3 e4
        exact laws_FnTurned.way k A0 c0 l0 w hr0 hc0 s t vx p x y hb h1 h2 h3 h4 hz hok h5 h6 h7 h8
      · rw [if_neg hc2] at h
        cases h
    · rw [if_neg hc] at h
      cases h
def laws_FnTurned.Pure : Prop := ∀ (l0 : List Int), l0.length ≤ maxLen → l0.length * 1 ≤ 140737488351232 → (∀ x ∈ l0, (Lit.int .u8 x).wf = true) → ∃ k, laws_FnTurned.f k l0 = some true
theorem laws_FnTurned.walk (P : laws_FnTurned.Pure) (a0 : Option Addr) (len0 cap0 : Nat) (z0 : List Int) (w : World) (w0 : (a0 = none ∧ len0 = 0 ∧ cap0 = 0 ∧ z0 = []) ∨ ∃ x, a0 = some x ∧ len0 ≤ cap0 ∧ cap0 ≤ maxLen ∧ z0.length = cap0 ∧ (∀ i, i < z0.length → w.cell? (x.add i) = some (.int .u8 (z0.getD i 0))) ∧ ∀ n ∈ z0, (Lit.int .u8 n).wf = true) (y0 : len0 * 1 ≤ 140737488351232) :
    Calls Try.prog 3 #[.slice a0 len0 cap0] w fun e w' => e = .returned (.bool true) ∧ Below w.heap.size w w' := by
  obtain ⟨l0, rfl, hr0, hm0, hw0, hc0⟩ := ReadsInt.ofRowC w0
  obtain ⟨k, h⟩ := P l0 hm0 y0 hw0
  refine (laws_FnTurned.calls k _ _ l0 true w (Kd.C_of_reads (d := (0 : Int)) (h1 := fun _ => rfl) hr0) hc0 h).mono ?_
  rintro e w' ⟨rfl, hd⟩
  exact ⟨rfl, hd⟩
end Go.Proofs.Ytppjbaogabicdaa.PFnTurned
