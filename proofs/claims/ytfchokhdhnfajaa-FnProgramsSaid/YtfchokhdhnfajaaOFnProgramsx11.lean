/- FnPrograms: the law's own walk, by hand: its one way, with what the functions it calls answer as premises. -/
import Derived.Test.YtfchokhdhnfajaaOFnProgramsx10
import Derived.Test.YtfchokhdhnfajaaOFnProgramsx9
import Derived.Test.YtfchokhdhnfajaaOFnProgramsx8
import Derived.Test.YtfchokhdhnfajaaPFnProgramsx7
import Derived.Test.YtfchokhdhnfajaaPFnProgramsx6
import Derived.Test.YtfchokhdhnfajaaPFnProgramsx1
namespace Go.Proofs.Ytfchokhdhnfajaa.PFnPrograms
open Go.RowKit Go.Proofs.YtfchokhdhnfajaaW.PrintWords Go.Proofs.YtfchokhdhnfajaaW.PrintLast Go.Proofs.YtfchokhdhnfajaaW.PrintMore
attribute [local go_sem] max2_int min2_int max_two min_two max_three min_three max_four min_four   -- for this text's walks alone
set_option linter.unusedVariables false
set_option linter.unusedSimpArgs false

set_option maxHeartbeats 40000000 in
set_option maxRecDepth 100000 in
theorem laws_FnPrograms.way (k : Nat) (A0 : Option Addr) (c0 : Nat) (l0 : List Int) (w : World) (hr0 : Kd.C (Kd.int .u8) w A0 l0.length l0) (hc0 : l0.length ≤ c0)
    (p y y2 d : List S25) (s u ag t v wt et : ByteArray) (may agb one back could wb good : Bool) (a1 a2 a3 a4 b1 b2 b3 b4 c1 c2 c3 c4 d1 d2 d3 d4 : Int)
    (hb : laws_big.f l0 = some false) (h1 : spec_DrawProgram.f k l0 = some p) (h2 : impl_ProgramText.f k p = some (s, true)) (h3 : impl_ReadProgram.f k s = some (p, true)) (h3b : laws_sameIns.f k p p = some true) (h4 : spec_DrawReadProgram.f k l0 = some u) (h5 : impl_ReadProgram.f k u = some (y, may)) (h6 : spec_ReadProgram.f k u = some (y2, may)) (h7 : impl_ProgramText.f k y = some (ag, agb)) (h8 : spec_DrawInsText.f k l0 = some (a1, a2, a3, a4)) (h9 : impl_InsText.f k a1 a2 a3 a4 = some (t, one)) (h10 : impl_ReadIns.f k t = some (b1, b2, b3, b4, back)) (h11 : spec_InsOk.f k a1 a2 a3 a4 = some one) (h12 : impl_InsOk.f k a1 a2 a3 a4 = some one) (h13 : spec_DrawReadIns.f k l0 = some v) (h14 : impl_ReadIns.f k v = some (c1, c2, c3, c4, could)) (h15 : spec_ReadIns.f k v = some (d1, d2, d3, d4, could)) (h16 : impl_InsText.f k c1 c2 c3 c4 = some (wt, wb)) (h17 : spec_DrawProgramText.f k l0 = some d) (h18 : impl_ProgramText.f k d = some (et, good)) (h19 : spec_ProgramText.f k d = some (et, good)) (hag : may = true → ag = u) (hone : one = true → back = true ∧ a1 = b1 ∧ a2 = b2 ∧ a3 = b3 ∧ a4 = b4) (hcould : could = true → wt = v) :
    Calls Try.prog 8 #[.slice A0 l0.length c0] w fun e w' => e = .returned (.bool true) ∧ Below w.heap.size w w' := by
  have hu25 := Try.underlying25
  have HR0 := Aside0.mk hr0
  have HC0 := Aside0.mk hc0
  have H0 := Aside0.mk hb
  have H1 := Aside0.mk h1
  have H2 := Aside0.mk h2
  have H3 := Aside0.mk h3
  have H3b := Aside0.mk h3b
  have H4 := Aside0.mk h4
  have H5 := Aside0.mk h5
  have H6 := Aside0.mk h6
  have H7 := Aside0.mk h7
  have H8 := Aside0.mk h8
  have H9 := Aside0.mk h9
  have H10 := Aside0.mk h10
  have H11 := Aside0.mk h11
  have H12 := Aside0.mk h12
  have H13 := Aside0.mk h13
  have H14 := Aside0.mk h14
  have H15 := Aside0.mk h15
  have H16 := Aside0.mk h16
  have H17 := Aside0.mk h17
  have H18 := Aside0.mk h18
  have H19 := Aside0.mk h19
  have Hag := Aside0.mk hag
  have Hone := Aside0.mk hone
  have Hcould := Aside0.mk hcould
  clear hr0 hc0 hb h1 h2 h3 h3b h4 h5 h6 h7 h8 h9 h10 h11 h12 h13 h14 h15 h16 h17 h18 h19 hag hone hcould
  have HB := Aside0.mk (Below.refl w.heap.size w)
  go_enter Try.func8, Try.ntmps8
  go_upto_region 11 with (first
    | (go_at_call 32; (with_reducible refine (laws_big.calls A0 c0 l0 false _ (Kd.C_below HR0.out HB.out) HC0.out H0.out).mono ?_); rintro e w1 ⟨rfl, hd⟩; have hb := hd.below; clear hd; have nB_ := Aside0.mk (below_step HB.out hb); clear HB; have HB := nB_; clear nB_; clear hb)
    | (go_at_call 33; (with_reducible refine (spec_DrawProgram.calls k A0 c0 l0 p _ (Kd.C_below HR0.out HB.out) HC0.out H1.out).mono ?_); rintro e w2 ⟨v0, rfl, ho, hb⟩; have nB_ := Aside0.mk (below_step HB.out hb); clear HB; have HB := nB_; clear nB_; clear hb; obtain ⟨Ap, cp, eo⟩ := Kd.R_slice ho; subst eo; have Rp := Aside0.mk (Kd.R_reads' ho).2.2; have Rpc := Aside0.mk (Kd.R_reads' ho).2.1; clear ho)
    | (go_at_call 26; (with_reducible refine (impl_ProgramText.calls k Ap cp p s true _ Rp.out Rpc.out H2.out).mono ?_); rintro e w3 ⟨rfl, hb⟩; have nB_ := Aside0.mk (below_step HB.out hb); clear HB; have HB := nB_; clear nB_; have n_ := Aside0.mk (Kd.C_below Rp.out hb); clear Rp; have Rp := n_; clear n_; clear hb)
    | (go_at_call 29; (with_reducible refine (impl_ReadProgram.calls k s p true _ H3.out).mono ?_); rintro e w4 ⟨v0, rfl, ho, hb⟩; have nB_ := Aside0.mk (below_step HB.out hb); clear HB; have HB := nB_; clear nB_; have n_ := Aside0.mk (Kd.C_below Rp.out hb); clear Rp; have Rp := n_; clear n_; clear hb; obtain ⟨Ax, cx, eo⟩ := Kd.R_slice ho; subst eo; have Rx := Aside0.mk (Kd.R_reads' ho).2.2; have Rxc := Aside0.mk (Kd.R_reads' ho).2.1; clear ho)
    | (go_at_call 34; (with_reducible refine (spec_DrawReadProgram.calls k A0 c0 l0 u _ (Kd.C_below HR0.out HB.out) HC0.out H4.out).mono ?_); rintro e w5 ⟨rfl, hb⟩; have nB_ := Aside0.mk (below_step HB.out hb); clear HB; have HB := nB_; clear nB_; have n_ := Aside0.mk (Kd.C_below Rp.out hb); clear Rp; have Rp := n_; clear n_; have n_ := Aside0.mk (Kd.C_below Rx.out hb); clear Rx; have Rx := n_; clear n_; clear hb)
    | (go_at_call 29; (with_reducible refine (impl_ReadProgram.calls k u y may _ H5.out).mono ?_); rintro e w6 ⟨v0, rfl, ho, hb⟩; have nB_ := Aside0.mk (below_step HB.out hb); clear HB; have HB := nB_; clear nB_; have n_ := Aside0.mk (Kd.C_below Rp.out hb); clear Rp; have Rp := n_; clear n_; have n_ := Aside0.mk (Kd.C_below Rx.out hb); clear Rx; have Rx := n_; clear n_; clear hb; obtain ⟨Ay, cy, eo⟩ := Kd.R_slice ho; subst eo; have Ry := Aside0.mk (Kd.R_reads' ho).2.2; have Ryc := Aside0.mk (Kd.R_reads' ho).2.1; clear ho)
    | (go_at_call 28; (with_reducible refine (spec_ReadProgram.calls k u y2 may _ H6.out).mono ?_); rintro e w7 ⟨v0, rfl, ho, hb⟩; have nB_ := Aside0.mk (below_step HB.out hb); clear HB; have HB := nB_; clear nB_; have n_ := Aside0.mk (Kd.C_below Rp.out hb); clear Rp; have Rp := n_; clear n_; have n_ := Aside0.mk (Kd.C_below Rx.out hb); clear Rx; have Rx := n_; clear n_; have n_ := Aside0.mk (Kd.C_below Ry.out hb); clear Ry; have Ry := n_; clear n_; clear hb; clear ho)
    | (go_at_call 26; (with_reducible refine (impl_ProgramText.calls k Ay cy y ag agb _ Ry.out Ryc.out H7.out).mono ?_); rintro e w8 ⟨rfl, hb⟩; have nB_ := Aside0.mk (below_step HB.out hb); clear HB; have HB := nB_; clear nB_; have n_ := Aside0.mk (Kd.C_below Rp.out hb); clear Rp; have Rp := n_; clear n_; have n_ := Aside0.mk (Kd.C_below Rx.out hb); clear Rx; have Rx := n_; clear n_; have n_ := Aside0.mk (Kd.C_below Ry.out hb); clear Ry; have Ry := n_; clear n_; clear hb)
    | (go_at_call 35; (with_reducible refine (spec_DrawInsText.calls k A0 c0 l0 a1 a2 a3 a4 _ (Kd.C_below HR0.out HB.out) HC0.out H8.out).mono ?_); rintro e w9 ⟨rfl, hb⟩; have nB_ := Aside0.mk (below_step HB.out hb); clear HB; have HB := nB_; clear nB_; have n_ := Aside0.mk (Kd.C_below Rp.out hb); clear Rp; have Rp := n_; clear n_; have n_ := Aside0.mk (Kd.C_below Rx.out hb); clear Rx; have Rx := n_; clear n_; have n_ := Aside0.mk (Kd.C_below Ry.out hb); clear Ry; have Ry := n_; clear n_; clear hb)
    | ((with_reducible refine gate_dst (N := 15) rfl ?_); refine box_event ?hg (N := 15) ?hd (cs := #[.int .i64 0, .int .i64 0, .int .i64 0, .int .i64 0]) (t := 25) ?hr ?_; (case hd => rfl); (case hg => rfl); (case hr => first | (go_simp; done) | (go_simp; rfl)); intro ga hg wa hbox hb; have BA := Aside0.mk (And.intro hg (And.intro hbox hb)); clear hg hbox hb; obtain ⟨cb0, zb0, cb1, zb1, cb2, zb2, cb3, zb3⟩ := quad BA.out.2.1))
  clear Ry Ryc
  have hb := ((((BA.out.2.2.setCell (p := ⟨ga, 0, none⟩) (Nat.le_of_eq BA.out.1.symm) (.int .i64 a1)).setCell (p := ⟨ga, 1, none⟩) (Nat.le_of_eq BA.out.1.symm) (.int .i64 a2)).setCell (p := ⟨ga, 2, none⟩) (Nat.le_of_eq BA.out.1.symm) (.int .i64 a3)).setCell (p := ⟨ga, 3, none⟩) (Nat.le_of_eq BA.out.1.symm) (.int .i64 a4))
  have Ba : Aside0 (((((wa.setCell ⟨ga, 0, none⟩ (.int .i64 a1)).setCell ⟨ga, 1, none⟩ (.int .i64 a2)).setCell ⟨ga, 2, none⟩ (.int .i64 a3)).setCell ⟨ga, 3, none⟩ (.int .i64 a4)).heap[ga]? = some (.cells #[.int .i64 a1, .int .i64 a2, .int .i64 a3, .int .i64 a4] 25 (0, 0))) := ⟨blk_set (blk_set (blk_set (blk_set BA.out.2.1 0 (.int .i64 a1)) 1 (.int .i64 a2)) 2 (.int .i64 a3)) 3 (.int .i64 a4)⟩
  have nB_ := Aside0.mk (below_step HB.out hb)
  clear HB
  have HB := nB_
  clear nB_
  have n_ := Aside0.mk (Kd.C_below Rp.out hb)
  clear Rp
  have Rp := n_
  clear n_
  have n_ := Aside0.mk (Kd.C_below Rx.out hb)
  clear Rx
  have Rx := n_
  clear n_
  clear hb BA
  clear cb0 zb0 cb1 zb1 cb2 zb2 cb3 zb3
  generalize (((wa.setCell ⟨ga, 0, none⟩ (.int .i64 a1)).setCell ⟨ga, 1, none⟩ (.int .i64 a2)).setCell ⟨ga, 2, none⟩ (.int .i64 a3)).setCell ⟨ga, 3, none⟩ (.int .i64 a4) = W1 at HB Rp Rx  Ba ⊢
  obtain ⟨ca0, za0, ca1, za1, ca2, za2, ca3, za3⟩ := quad Ba.out
  go_upto_region 13 with (first
    | (go_at_call 19; (with_reducible refine (impl_InsText.calls k a1 a2 a3 a4 t one _ H9.out).mono ?_); rintro e w10 ⟨rfl, hb⟩; have nB_ := Aside0.mk (below_step HB.out hb); clear HB; have HB := nB_; clear nB_; have n_ := Aside0.mk (Kd.C_below Rp.out hb); clear Rp; have Rp := n_; clear n_; have n_ := Aside0.mk (Kd.C_below Rx.out hb); clear Rx; have Rx := n_; clear n_; have n_ := Aside0.mk (blk_below Ba.out hb); clear Ba; have Ba := n_; clear n_; clear hb)
    | (go_at_call 21; (with_reducible refine (impl_ReadIns.calls k t b1 b2 b3 b4 back _ H10.out).mono ?_); rintro e w11 ⟨rfl, hb⟩; have nB_ := Aside0.mk (below_step HB.out hb); clear HB; have HB := nB_; clear nB_; have n_ := Aside0.mk (Kd.C_below Rp.out hb); clear Rp; have Rp := n_; clear n_; have n_ := Aside0.mk (Kd.C_below Rx.out hb); clear Rx; have Rx := n_; clear n_; have n_ := Aside0.mk (blk_below Ba.out hb); clear Ba; have Ba := n_; clear n_; clear hb)
    | ((with_reducible refine gate_dst (N := 18) rfl ?_); refine box_event ?hg (N := 18) ?hd (cs := #[.int .i64 0, .int .i64 0, .int .i64 0, .int .i64 0]) (t := 25) ?hr ?_; (case hd => rfl); (case hg => rfl); (case hr => first | (go_simp; done) | (go_simp; rfl)); intro gb hg wb_ hbox hb; have BB := Aside0.mk (And.intro hg (And.intro hbox hb)); clear hg hbox hb; obtain ⟨cb0, zb0, cb1, zb1, cb2, zb2, cb3, zb3⟩ := quad BB.out.2.1))
  clear ca0 za0 ca1 za1 ca2 za2 ca3 za3
  have hb := ((((BB.out.2.2.setCell (p := ⟨gb, 0, none⟩) (Nat.le_of_eq BB.out.1.symm) (.int .i64 b1)).setCell (p := ⟨gb, 1, none⟩) (Nat.le_of_eq BB.out.1.symm) (.int .i64 b2)).setCell (p := ⟨gb, 2, none⟩) (Nat.le_of_eq BB.out.1.symm) (.int .i64 b3)).setCell (p := ⟨gb, 3, none⟩) (Nat.le_of_eq BB.out.1.symm) (.int .i64 b4))
  have Bb : Aside0 (((((wb_.setCell ⟨gb, 0, none⟩ (.int .i64 b1)).setCell ⟨gb, 1, none⟩ (.int .i64 b2)).setCell ⟨gb, 2, none⟩ (.int .i64 b3)).setCell ⟨gb, 3, none⟩ (.int .i64 b4)).heap[gb]? = some (.cells #[.int .i64 b1, .int .i64 b2, .int .i64 b3, .int .i64 b4] 25 (0, 0))) := ⟨blk_set (blk_set (blk_set (blk_set BB.out.2.1 0 (.int .i64 b1)) 1 (.int .i64 b2)) 2 (.int .i64 b3)) 3 (.int .i64 b4)⟩
  have nB_ := Aside0.mk (below_step HB.out hb)
  clear HB
  have HB := nB_
  clear nB_
  have n_ := Aside0.mk (Kd.C_below Rp.out hb)
  clear Rp
  have Rp := n_
  clear n_
  have n_ := Aside0.mk (Kd.C_below Rx.out hb)
  clear Rx
  have Rx := n_
  clear n_
  have n_ := Aside0.mk (blk_below Ba.out hb)
  clear Ba
  have Ba := n_
  clear n_
  clear hb BB
  clear cb0 zb0 cb1 zb1 cb2 zb2 cb3 zb3
  generalize (((wb_.setCell ⟨gb, 0, none⟩ (.int .i64 b1)).setCell ⟨gb, 1, none⟩ (.int .i64 b2)).setCell ⟨gb, 2, none⟩ (.int .i64 b3)).setCell ⟨gb, 3, none⟩ (.int .i64 b4) = W2 at HB Rp Rx Ba Bb ⊢
  go_upto_region 15 with (first
    | (go_at_call 36; (with_reducible refine (spec_DrawReadIns.calls k A0 c0 l0 v _ (Kd.C_below HR0.out HB.out) HC0.out H13.out).mono ?_); rintro e w12 ⟨rfl, hb⟩; have nB_ := Aside0.mk (below_step HB.out hb); clear HB; have HB := nB_; clear nB_; have n_ := Aside0.mk (Kd.C_below Rp.out hb); clear Rp; have Rp := n_; clear n_; have n_ := Aside0.mk (Kd.C_below Rx.out hb); clear Rx; have Rx := n_; clear n_; have n_ := Aside0.mk (blk_below Ba.out hb); clear Ba; have Ba := n_; clear n_; have n_ := Aside0.mk (blk_below Bb.out hb); clear Bb; have Bb := n_; clear n_; clear hb)
    | (go_at_call 21; (with_reducible refine (impl_ReadIns.calls k v c1 c2 c3 c4 could _ H14.out).mono ?_); rintro e w13 ⟨rfl, hb⟩; have nB_ := Aside0.mk (below_step HB.out hb); clear HB; have HB := nB_; clear nB_; have n_ := Aside0.mk (Kd.C_below Rp.out hb); clear Rp; have Rp := n_; clear n_; have n_ := Aside0.mk (Kd.C_below Rx.out hb); clear Rx; have Rx := n_; clear n_; have n_ := Aside0.mk (blk_below Ba.out hb); clear Ba; have Ba := n_; clear n_; have n_ := Aside0.mk (blk_below Bb.out hb); clear Bb; have Bb := n_; clear n_; clear hb)
    | ((with_reducible refine gate_dst (N := 21) rfl ?_); refine box_event ?hg (N := 21) ?hd (cs := #[.int .i64 0, .int .i64 0, .int .i64 0, .int .i64 0]) (t := 25) ?hr ?_; (case hd => rfl); (case hg => rfl); (case hr => first | (go_simp; done) | (go_simp; rfl)); intro gc hg wc_ hbox hb; have BC := Aside0.mk (And.intro hg (And.intro hbox hb)); clear hg hbox hb; obtain ⟨cb0, zb0, cb1, zb1, cb2, zb2, cb3, zb3⟩ := quad BC.out.2.1))
  have hb := ((((BC.out.2.2.setCell (p := ⟨gc, 0, none⟩) (Nat.le_of_eq BC.out.1.symm) (.int .i64 c1)).setCell (p := ⟨gc, 1, none⟩) (Nat.le_of_eq BC.out.1.symm) (.int .i64 c2)).setCell (p := ⟨gc, 2, none⟩) (Nat.le_of_eq BC.out.1.symm) (.int .i64 c3)).setCell (p := ⟨gc, 3, none⟩) (Nat.le_of_eq BC.out.1.symm) (.int .i64 c4))
  have Bc : Aside0 (((((wc_.setCell ⟨gc, 0, none⟩ (.int .i64 c1)).setCell ⟨gc, 1, none⟩ (.int .i64 c2)).setCell ⟨gc, 2, none⟩ (.int .i64 c3)).setCell ⟨gc, 3, none⟩ (.int .i64 c4)).heap[gc]? = some (.cells #[.int .i64 c1, .int .i64 c2, .int .i64 c3, .int .i64 c4] 25 (0, 0))) := ⟨blk_set (blk_set (blk_set (blk_set BC.out.2.1 0 (.int .i64 c1)) 1 (.int .i64 c2)) 2 (.int .i64 c3)) 3 (.int .i64 c4)⟩
  have nB_ := Aside0.mk (below_step HB.out hb)
  clear HB
  have HB := nB_
  clear nB_
  have n_ := Aside0.mk (Kd.C_below Rp.out hb)
  clear Rp
  have Rp := n_
  clear n_
  have n_ := Aside0.mk (Kd.C_below Rx.out hb)
  clear Rx
  have Rx := n_
  clear n_
  have n_ := Aside0.mk (blk_below Ba.out hb)
  clear Ba
  have Ba := n_
  clear n_
  have n_ := Aside0.mk (blk_below Bb.out hb)
  clear Bb
  have Bb := n_
  clear n_
  clear hb BC
  clear cb0 zb0 cb1 zb1 cb2 zb2 cb3 zb3
  generalize (((wc_.setCell ⟨gc, 0, none⟩ (.int .i64 c1)).setCell ⟨gc, 1, none⟩ (.int .i64 c2)).setCell ⟨gc, 2, none⟩ (.int .i64 c3)).setCell ⟨gc, 3, none⟩ (.int .i64 c4) = W3 at HB Rp Rx Ba Bb Bc ⊢
  go_upto_region 16 with (first
    | (go_at_call 20; (with_reducible refine (spec_ReadIns.calls k v d1 d2 d3 d4 could _ H15.out).mono ?_); rintro e w14 ⟨rfl, hb⟩; have nB_ := Aside0.mk (below_step HB.out hb); clear HB; have HB := nB_; clear nB_; have n_ := Aside0.mk (Kd.C_below Rp.out hb); clear Rp; have Rp := n_; clear n_; have n_ := Aside0.mk (Kd.C_below Rx.out hb); clear Rx; have Rx := n_; clear n_; have n_ := Aside0.mk (blk_below Ba.out hb); clear Ba; have Ba := n_; clear n_; have n_ := Aside0.mk (blk_below Bb.out hb); clear Bb; have Bb := n_; clear n_; have n_ := Aside0.mk (blk_below Bc.out hb); clear Bc; have Bc := n_; clear n_; clear hb)
    | ((with_reducible refine gate_dst (N := 23) rfl ?_); refine box_event ?hg (N := 23) ?hd (cs := #[.int .i64 0, .int .i64 0, .int .i64 0, .int .i64 0]) (t := 25) ?hr ?_; (case hd => rfl); (case hg => rfl); (case hr => first | (go_simp; done) | (go_simp; rfl)); intro gd hg wd_ hbox hb; have BD := Aside0.mk (And.intro hg (And.intro hbox hb)); clear hg hbox hb; obtain ⟨cb0, zb0, cb1, zb1, cb2, zb2, cb3, zb3⟩ := quad BD.out.2.1))
  have hb := ((((BD.out.2.2.setCell (p := ⟨gd, 0, none⟩) (Nat.le_of_eq BD.out.1.symm) (.int .i64 d1)).setCell (p := ⟨gd, 1, none⟩) (Nat.le_of_eq BD.out.1.symm) (.int .i64 d2)).setCell (p := ⟨gd, 2, none⟩) (Nat.le_of_eq BD.out.1.symm) (.int .i64 d3)).setCell (p := ⟨gd, 3, none⟩) (Nat.le_of_eq BD.out.1.symm) (.int .i64 d4))
  have Bd : Aside0 (((((wd_.setCell ⟨gd, 0, none⟩ (.int .i64 d1)).setCell ⟨gd, 1, none⟩ (.int .i64 d2)).setCell ⟨gd, 2, none⟩ (.int .i64 d3)).setCell ⟨gd, 3, none⟩ (.int .i64 d4)).heap[gd]? = some (.cells #[.int .i64 d1, .int .i64 d2, .int .i64 d3, .int .i64 d4] 25 (0, 0))) := ⟨blk_set (blk_set (blk_set (blk_set BD.out.2.1 0 (.int .i64 d1)) 1 (.int .i64 d2)) 2 (.int .i64 d3)) 3 (.int .i64 d4)⟩
  have nB_ := Aside0.mk (below_step HB.out hb)
  clear HB
  have HB := nB_
  clear nB_
  have n_ := Aside0.mk (Kd.C_below Rp.out hb)
  clear Rp
  have Rp := n_
  clear n_
  have n_ := Aside0.mk (Kd.C_below Rx.out hb)
  clear Rx
  have Rx := n_
  clear n_
  have n_ := Aside0.mk (blk_below Ba.out hb)
  clear Ba
  have Ba := n_
  clear n_
  have n_ := Aside0.mk (blk_below Bb.out hb)
  clear Bb
  have Bb := n_
  clear n_
  have n_ := Aside0.mk (blk_below Bc.out hb)
  clear Bc
  have Bc := n_
  clear n_
  clear hb BD
  clear cb0 zb0 cb1 zb1 cb2 zb2 cb3 zb3
  generalize (((wd_.setCell ⟨gd, 0, none⟩ (.int .i64 d1)).setCell ⟨gd, 1, none⟩ (.int .i64 d2)).setCell ⟨gd, 2, none⟩ (.int .i64 d3)).setCell ⟨gd, 3, none⟩ (.int .i64 d4) = W4 at HB Rp Rx Ba Bb Bc Bd ⊢
  clear Bd
  obtain ⟨cc0, zc0, cc1, zc1, cc2, zc2, cc3, zc3⟩ := quad Bc.out
  go_upto_region 19 with (first
    | (go_at_call 19; (with_reducible refine (impl_InsText.calls k c1 c2 c3 c4 wt wb _ H16.out).mono ?_); rintro e w15 ⟨rfl, hb⟩; have nB_ := Aside0.mk (below_step HB.out hb); clear HB; have HB := nB_; clear nB_; have n_ := Aside0.mk (Kd.C_below Rp.out hb); clear Rp; have Rp := n_; clear n_; have n_ := Aside0.mk (Kd.C_below Rx.out hb); clear Rx; have Rx := n_; clear n_; have n_ := Aside0.mk (blk_below Ba.out hb); clear Ba; have Ba := n_; clear n_; have n_ := Aside0.mk (blk_below Bb.out hb); clear Bb; have Bb := n_; clear n_; have n_ := Aside0.mk (blk_below Bc.out hb); clear Bc; have Bc := n_; clear n_; clear hb)
    | (go_at_call 37; (with_reducible refine (spec_DrawProgramText.calls k A0 c0 l0 d _ (Kd.C_below HR0.out HB.out) HC0.out H17.out).mono ?_); rintro e w16 ⟨v0, rfl, ho, hb⟩; have nB_ := Aside0.mk (below_step HB.out hb); clear HB; have HB := nB_; clear nB_; have n_ := Aside0.mk (Kd.C_below Rp.out hb); clear Rp; have Rp := n_; clear n_; have n_ := Aside0.mk (Kd.C_below Rx.out hb); clear Rx; have Rx := n_; clear n_; have n_ := Aside0.mk (blk_below Ba.out hb); clear Ba; have Ba := n_; clear n_; have n_ := Aside0.mk (blk_below Bb.out hb); clear Bb; have Bb := n_; clear n_; have n_ := Aside0.mk (blk_below Bc.out hb); clear Bc; have Bc := n_; clear n_; clear hb; obtain ⟨Ad, cd, eo⟩ := Kd.R_slice ho; subst eo; have Rd := Aside0.mk (Kd.R_reads' ho).2.2; have Rdc := Aside0.mk (Kd.R_reads' ho).2.1; clear ho)
    | (go_at_call 26; (with_reducible refine (impl_ProgramText.calls k Ad cd d et good _ Rd.out Rdc.out H18.out).mono ?_); rintro e w17 ⟨rfl, hb⟩; have nB_ := Aside0.mk (below_step HB.out hb); clear HB; have HB := nB_; clear nB_; have n_ := Aside0.mk (Kd.C_below Rp.out hb); clear Rp; have Rp := n_; clear n_; have n_ := Aside0.mk (Kd.C_below Rx.out hb); clear Rx; have Rx := n_; clear n_; have n_ := Aside0.mk (Kd.C_below Rd.out hb); clear Rd; have Rd := n_; clear n_; have n_ := Aside0.mk (blk_below Ba.out hb); clear Ba; have Ba := n_; clear n_; have n_ := Aside0.mk (blk_below Bb.out hb); clear Bb; have Bb := n_; clear n_; have n_ := Aside0.mk (blk_below Bc.out hb); clear Bc; have Bc := n_; clear n_; clear hb))
  go_upto_region 20 with (go_at_call 24; (with_reducible refine (spec_ProgramText.calls k Ad cd d et good _ Rd.out Rdc.out H19.out).mono ?_); rintro e w18 ⟨rfl, hb⟩; have nB_ := Aside0.mk (below_step HB.out hb); clear HB; have HB := nB_; clear nB_; have n_ := Aside0.mk (Kd.C_below Rp.out hb); clear Rp; have Rp := n_; clear n_; have n_ := Aside0.mk (Kd.C_below Rx.out hb); clear Rx; have Rx := n_; clear n_; have n_ := Aside0.mk (Kd.C_below Rd.out hb); clear Rd; have Rd := n_; clear n_; have n_ := Aside0.mk (blk_below Ba.out hb); clear Ba; have Ba := n_; clear n_; have n_ := Aside0.mk (blk_below Bb.out hb); clear Bb; have Bb := n_; clear n_; have n_ := Aside0.mk (blk_below Bc.out hb); clear Bc; have Bc := n_; clear n_; clear hb)
  clear Rd Rdc cc0 zc0 cc1 zc1 cc2 zc2 cc3 zc3
  clear Bc
  have hag := Hag.out
  have hone := Hone.out
  have hcould := Hcould.out
  clear Hag Hone Hcould
  obtain ⟨ca0, za0, ca1, za1, ca2, za2, ca3, za3⟩ := quad Ba.out
  obtain ⟨cb0, zb0, cb1, zb1, cb2, zb2, cb3, zb3⟩ := quad Bb.out
  cases may <;> cases one <;> cases could
  all_goals
    (try (have e_ := hag rfl; subst e_))
    (try (obtain ⟨e0_, e1_, e2_, e3_, e4_⟩ := hone rfl; subst e0_ e1_ e2_ e3_ e4_))
    (try (have e_ := hcould rfl; subst e_))
    clear hag hone hcould
    have q_ : ∀ b : Bool, some Go.undef = some (Value.bool b) → False := (by intro b h; cases h)
    go_wp2_with (first
      | (exfalso; exact q_ _ (by assumption))
      | (go_at_call 38; (with_reducible refine (laws_sameIns.calls k Ax cx p Ap cp p true _ Rx.out Rxc.out Rp.out Rpc.out H3b.out).mono ?_); rintro e w19 ⟨rfl, hd⟩; have hb := hd.below; clear hd; have nB_ := Aside0.mk (below_step HB.out hb); clear HB; have HB := nB_; clear nB_; have n_ := Aside0.mk (Kd.C_below Rp.out hb); clear Rp; have Rp := n_; clear n_; have n_ := Aside0.mk (Kd.C_below Rx.out hb); clear Rx; have Rx := n_; clear n_; have n_ := Aside0.mk (blk_below Ba.out hb); clear Ba; have Ba := n_; clear n_; have n_ := Aside0.mk (blk_below Bb.out hb); clear Bb; have Bb := n_; clear n_; clear hb; clear ca0 za0 ca1 za1 ca2 za2 ca3 za3 cb0 zb0 cb1 zb1 cb2 zb2 cb3 zb3; obtain ⟨ca0, za0, ca1, za1, ca2, za2, ca3, za3⟩ := quad Ba.out; obtain ⟨cb0, zb0, cb1, zb1, cb2, zb2, cb3, zb3⟩ := quad Bb.out)
      | (go_at_call 15; (with_reducible refine (spec_InsOk.calls k a1 a2 a3 a4 _ _ H11.out).mono ?_); rintro e w20 ⟨rfl, hb⟩; have nB_ := Aside0.mk (below_step HB.out hb); clear HB; have HB := nB_; clear nB_; have n_ := Aside0.mk (Kd.C_below Rp.out hb); clear Rp; have Rp := n_; clear n_; have n_ := Aside0.mk (Kd.C_below Rx.out hb); clear Rx; have Rx := n_; clear n_; have n_ := Aside0.mk (blk_below Ba.out hb); clear Ba; have Ba := n_; clear n_; have n_ := Aside0.mk (blk_below Bb.out hb); clear Bb; have Bb := n_; clear n_; clear hb; clear ca0 za0 ca1 za1 ca2 za2 ca3 za3 cb0 zb0 cb1 zb1 cb2 zb2 cb3 zb3; obtain ⟨ca0, za0, ca1, za1, ca2, za2, ca3, za3⟩ := quad Ba.out; obtain ⟨cb0, zb0, cb1, zb1, cb2, zb2, cb3, zb3⟩ := quad Bb.out)
      | (go_at_call 17; (with_reducible refine (impl_InsOk.calls k a1 a2 a3 a4 _ _ H12.out).mono ?_); rintro e w21 ⟨rfl, hb⟩; have nB_ := Aside0.mk (below_step HB.out hb); clear HB; have HB := nB_; clear nB_; have n_ := Aside0.mk (Kd.C_below Rp.out hb); clear Rp; have Rp := n_; clear n_; have n_ := Aside0.mk (Kd.C_below Rx.out hb); clear Rx; have Rx := n_; clear n_; have n_ := Aside0.mk (blk_below Ba.out hb); clear Ba; have Ba := n_; clear n_; have n_ := Aside0.mk (blk_below Bb.out hb); clear Bb; have Bb := n_; clear n_; clear hb; clear ca0 za0 ca1 za1 ca2 za2 ca3 za3 cb0 zb0 cb1 zb1 cb2 zb2 cb3 zb3; obtain ⟨ca0, za0, ca1, za1, ca2, za2, ca3, za3⟩ := quad Ba.out; obtain ⟨cb0, zb0, cb1, zb1, cb2, zb2, cb3, zb3⟩ := quad Bb.out))
    go_ret
    exact ⟨by first | rfl | (simp; done), HB.out⟩

end Go.Proofs.Ytfchokhdhnfajaa.PFnPrograms
