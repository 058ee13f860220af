/- FnRunTold: the law's own walk, by hand: its one way, with what the functions it calls answer as premises; then the pure statement. -/
import Derived.Test.YtfchokhdhnfajaaOFnRunToldx8
import Derived.Test.YtfchokhdhnfajaaOFnRunToldx7
import Derived.Test.YtfchokhdhnfajaaPFnRunToldx4
import Derived.Test.YtfchokhdhnfajaaPFnRunToldx3
import Derived.Test.YtfchokhdhnfajaaPFnRunToldx2
import Derived.Test.YtfchokhdhnfajaaPFnRunToldx1
import Derived.Test.YtfchokhdhnfajaaPFnRunToldx0
namespace Go.Proofs.Ytfchokhdhnfajaa.PFnRunTold
open Go.RowKit Go.Proofs.YtfchokhdhnfajaaW.PrintWords Go.Proofs.YtfchokhdhnfajaaW.PrintLast Go.Proofs.YtfchokhdhnfajaaW.PrintMore
attribute [local go_sem] max2_int min2_int max_two min_two max_three min_three max_four min_four   -- for this text's walks alone
set_option linter.unusedVariables false
set_option linter.unusedSimpArgs false

set_option maxHeartbeats 8000000 in
set_option maxRecDepth 100000 in
theorem laws_FnRunTold.way (k : Nat) (A0 : Option Addr) (c0 : Nat) (l0 : List Int) (w : World) (hr0 : Kd.C (Kd.int .u8) w A0 l0.length l0) (hc0 : l0.length ≤ c0)
    (p q y x : List S25) (a b n1 n2 : Int) (cl : List S107) (ck : Bool) (z : List Bool)
    (hb : laws_big.f l0 = some false) (h1 : spec_DrawRun.f k l0 = some (p,a,b,cl)) (h2 : impl_Run.f k p a b cl = some (n1,n2)) (h3 : spec_Run.f k p a b cl = some (n1,n2)) (h4 : spec_DrawCheckProgram.f k l0 = some q) (h5 : spec_DrawReached.f k l0 = some y) (h6 : impl_CheckProgram.f k q = some ck) (h7 : spec_CheckProgram.f k q = some ck) (h8 : impl_Reached.f k y = some z) (h9 : spec_Reached.f k y = some z) (h10 : laws_sameBools.f k z z = some true) (h11 : impl_CheckProgram.f k x = some true) (h12 : x = [⟨8,0,0,0⟩]) :
    Calls Try.prog 11 #[.slice A0 l0.length c0] w fun e w' => e = .returned (.bool true) ∧ Below w.heap.size w w' := by
  have hu25 := Try.underlying25
  have hu58 := Try.underlying58
  have HR0 := Aside0.mk hr0
  have HC0 := Aside0.mk hc0
  have H0 := Aside0.mk hb
  have H1 := Aside0.mk h1
  have H2 := Aside0.mk h2
  have H3 := Aside0.mk h3
  have H4 := Aside0.mk h4
  have H5 := Aside0.mk h5
  have H6 := Aside0.mk h6
  have H7 := Aside0.mk h7
  have H8 := Aside0.mk h8
  have H9 := Aside0.mk h9
  have H10 := Aside0.mk h10
  have H11 := Aside0.mk h11
  have H12 := Aside0.mk h12
  clear hr0 hc0 hb h1 h2 h3 h4 h5 h6 h7 h8 h9 h10 h11 h12
  have HB := Aside0.mk (Below.refl w.heap.size w)
  go_enter Try.func11,Try.ntmps11
  go_upto_region 4 with (first
    | (go_at_call 32; (with_reducible refine (laws_big.calls A0 c0 l0 false _ (Kd.C_below HR0.out HB.out) HC0.out H0.out).mono ?_); rintro e w1 ⟨rfl,hd⟩; have hb := hd.below; clear hd; have nB_ := Aside0.mk (below_step HB.out hb); clear HB; have HB := nB_; clear nB_; clear hb)
    | (go_at_call 46; (with_reducible refine (spec_DrawRun.calls k A0 c0 l0 p a b cl _ (Kd.C_below HR0.out HB.out) HC0.out H1.out).mono ?_); rintro e w2 ⟨v0,v3,rfl,ho,hq,hb⟩; have nB_ := Aside0.mk (below_step HB.out hb); clear HB; have HB := nB_; clear nB_; clear hb; obtain ⟨Ap,cp,eo⟩ := Kd.R_slice ho; subst eo; have Rp := Aside0.mk (Kd.R_reads' ho).2.2; have Rpc := Aside0.mk (Kd.R_reads' ho).2.1; clear ho; obtain ⟨Ac,cc,eo,_⟩ := Kd.Q_slice hq; subst eo; have Rc := Aside0.mk (Kd.Q_reads' hq).2.2; have Rcc := Aside0.mk (Kd.Q_reads' hq).2.1; clear hq)
    | ((with_reducible refine gate_dst (N := 4) rfl ?_); refine box_event ?hg (N := 4) ?hd (cs := #[.int .i64 0,.int .i64 0,.slice none 0 0]) (t := 58) ?hr ?_; (case hd => rfl); (case hg => rfl); (case hr => first | (go_simp; done) | (go_simp; rfl)); intro ga hg wa hbox hb; have BA := Aside0.mk (And.intro hg (And.intro hbox hb)); clear hg hbox hb; have cb0 : wa.cell? ⟨ga,0,none⟩ = some (.int .i64 0) := (blk_cell BA.out.2.1 0).trans rfl; have cb1 : wa.cell? ⟨ga,1,none⟩ = some (.int .i64 0) := (blk_cell BA.out.2.1 1).trans rfl; have cb2 : wa.cell? ⟨ga,2,none⟩ = some (.slice none 0 0) := (blk_cell BA.out.2.1 2).trans rfl; have zb0 := blk_frozen BA.out.2.1 0; have zb1 := blk_frozen BA.out.2.1 1; have zb2 := blk_frozen BA.out.2.1 2))
  have hb := (((BA.out.2.2.setCell (p := ⟨ga,0,none⟩) (Nat.le_of_eq BA.out.1.symm) (.int .i64 a)).setCell (p := ⟨ga,1,none⟩) (Nat.le_of_eq BA.out.1.symm) (.int .i64 b)).setCell (p := ⟨ga,2,none⟩) (Nat.le_of_eq BA.out.1.symm) (.slice Ac cl.length cc))
  have Ba : Aside0 ((((wa.setCell ⟨ga,0,none⟩ (.int .i64 a)).setCell ⟨ga,1,none⟩ (.int .i64 b)).setCell ⟨ga,2,none⟩ (.slice Ac cl.length cc)).heap[ga]? = some (.cells #[.int .i64 a,.int .i64 b,.slice Ac cl.length cc] 58 (0,0))) := ⟨(blk_set (blk_set (blk_set BA.out.2.1 0 (.int .i64 a)) 1 (.int .i64 b)) 2 (.slice Ac cl.length cc))⟩
  have nB_ := Aside0.mk (below_step HB.out hb)
  clear HB
  have HB := nB_
  clear nB_
  have n_ := Aside0.mk (Kd.C_below Rp.out hb)
  clear Rp
  have Rp := n_
  clear n_
  have n_ := Aside0.mk (Kd.C_below Rc.out hb)
  clear Rc
  have Rc := n_
  clear n_
  clear hb BA cb0 zb0 cb1 zb1 cb2 zb2
  generalize ((wa.setCell ⟨ga,0,none⟩ (.int .i64 a)).setCell ⟨ga,1,none⟩ (.int .i64 b)).setCell ⟨ga,2,none⟩ (.slice Ac cl.length cc) = W1 at HB Rp Rc Ba ⊢
  have ca0 : W1.cell? ⟨ga,0,none⟩ = some (.int .i64 a) := (blk_cell Ba.out 0).trans rfl
  have ca1 : W1.cell? ⟨ga,1,none⟩ = some (.int .i64 b) := (blk_cell Ba.out 1).trans rfl
  have ca2 : W1.cell? ⟨ga,2,none⟩ = some (.slice Ac cl.length cc) := (blk_cell Ba.out 2).trans rfl
  go_upto_region 6 with (first
    | (go_at_call 44; (with_reducible refine (impl_Run.calls k Ap cp p a b Ac cc cl n1 n2 _ Rp.out Rpc.out Rc.out Rcc.out H2.out).mono ?_); rintro e w3 ⟨rfl,hb⟩; have nB_ := Aside0.mk (below_step HB.out hb); clear HB; have HB := nB_; clear nB_; have n_ := Aside0.mk (Kd.C_below Rp.out hb); clear Rp; have Rp := n_; clear n_; have n_ := Aside0.mk (Kd.C_below Rc.out hb); clear Rc; have Rc := n_; clear n_; have n_ := Aside0.mk (blk_below Ba.out hb); clear Ba; have Ba := n_; clear n_; clear hb; clear ca0 ca1 ca2; have ca0 : w3.cell? ⟨ga,0,none⟩ = some (.int .i64 a) := (blk_cell Ba.out 0).trans rfl; have ca1 : w3.cell? ⟨ga,1,none⟩ = some (.int .i64 b) := (blk_cell Ba.out 1).trans rfl; have ca2 : w3.cell? ⟨ga,2,none⟩ = some (.slice Ac cl.length cc) := (blk_cell Ba.out 2).trans rfl)
    | (go_at_call 42; (with_reducible refine (spec_Run.calls k Ap cp p a b Ac cc cl n1 n2 _ Rp.out Rpc.out Rc.out Rcc.out H3.out).mono ?_); rintro e w4 ⟨rfl,hb⟩; have nB_ := Aside0.mk (below_step HB.out hb); clear HB; have HB := nB_; clear nB_; have n_ := Aside0.mk (Kd.C_below Rp.out hb); clear Rp; have Rp := n_; clear n_; have n_ := Aside0.mk (Kd.C_below Rc.out hb); clear Rc; have Rc := n_; clear n_; have n_ := Aside0.mk (blk_below Ba.out hb); clear Ba; have Ba := n_; clear n_; clear hb))
  clear ca0 ca1 ca2 Ba Rp Rpc Rc Rcc
  go_upto_region 8 with (first
    | (go_at_call 47; (with_reducible refine (spec_DrawCheckProgram.calls k A0 c0 l0 q _ (Kd.C_below HR0.out HB.out) HC0.out H4.out).mono ?_); rintro e w5 ⟨v1,rfl,ho,hb⟩; have nB_ := Aside0.mk (below_step HB.out hb); clear HB; have HB := nB_; clear nB_; clear hb; obtain ⟨Aq,cq,eo⟩ := Kd.R_slice ho; subst eo; have Rq := Aside0.mk (Kd.R_reads' ho).2.2; have Rqc := Aside0.mk (Kd.R_reads' ho).2.1; clear ho)
    | (go_at_call 48; (with_reducible refine (spec_DrawReached.calls k A0 c0 l0 y _ (Kd.C_below HR0.out HB.out) HC0.out H5.out).mono ?_); rintro e w6 ⟨v2,rfl,ho,hb⟩; have nB_ := Aside0.mk (below_step HB.out hb); clear HB; have HB := nB_; clear nB_; have n_ := Aside0.mk (Kd.C_below Rq.out hb); clear Rq; have Rq := n_; clear n_; clear hb; obtain ⟨Ay,cy,eo⟩ := Kd.R_slice ho; subst eo; have Ry := Aside0.mk (Kd.R_reads' ho).2.2; have Ryc := Aside0.mk (Kd.R_reads' ho).2.1; clear ho))
  have hbb : (ck == ck) = true := beq_self_eq_true ck
  go_wp2_with (first
    | (go_at_call 40; (with_reducible refine (impl_CheckProgram.calls k Aq cq q ck _ Rq.out Rqc.out H6.out).mono ?_); rintro e w7 ⟨rfl,hb⟩; have nB_ := Aside0.mk (below_step HB.out hb); clear HB; have HB := nB_; clear nB_; have n_ := Aside0.mk (Kd.C_below Rq.out hb); clear Rq; have Rq := n_; clear n_; have n_ := Aside0.mk (Kd.C_below Ry.out hb); clear Ry; have Ry := n_; clear n_; clear hb)
    | (go_at_call 39; (with_reducible refine (spec_CheckProgram.calls k Aq cq q ck _ Rq.out Rqc.out H7.out).mono ?_); rintro e w8 ⟨rfl,hb⟩; have nB_ := Aside0.mk (below_step HB.out hb); clear HB; have HB := nB_; clear nB_; have n_ := Aside0.mk (Kd.C_below Rq.out hb); clear Rq; have Rq := n_; clear n_; have n_ := Aside0.mk (Kd.C_below Ry.out hb); clear Ry; have Ry := n_; clear n_; clear hb)
    | (go_at_call 50; (with_reducible refine (impl_Reached.calls k Ay cy y z _ Ry.out Ryc.out H8.out).mono ?_); rintro e w9 ⟨v4,rfl,ho,hb⟩; have nB_ := Aside0.mk (below_step HB.out hb); clear HB; have HB := nB_; clear nB_; have n_ := Aside0.mk (Kd.C_below Rq.out hb); clear Rq; have Rq := n_; clear n_; have n_ := Aside0.mk (Kd.C_below Ry.out hb); clear Ry; have Ry := n_; clear n_; clear hb; obtain ⟨Az,cz,eo⟩ := Kd.R_slice ho; subst eo; have Rz := Aside0.mk (Kd.R_reads' ho).2.2; have Rzc := Aside0.mk (Kd.R_reads' ho).2.1; clear ho)
    | (go_at_call 51; (with_reducible refine (spec_Reached.calls k Ay cy y z _ Ry.out Ryc.out H9.out).mono ?_); rintro e w10 ⟨v5,rfl,ho,hb⟩; have nB_ := Aside0.mk (below_step HB.out hb); clear HB; have HB := nB_; clear nB_; have n_ := Aside0.mk (Kd.C_below Rq.out hb); clear Rq; have Rq := n_; clear n_; have n_ := Aside0.mk (Kd.C_below Ry.out hb); clear Ry; have Ry := n_; clear n_; have n_ := Aside0.mk (Kd.C_below Rz.out hb); clear Rz; have Rz := n_; clear n_; clear hb; obtain ⟨As,cs_,eo⟩ := Kd.R_slice ho; subst eo; have Rs := Aside0.mk (Kd.R_reads' ho).2.2; have Rsc := Aside0.mk (Kd.R_reads' ho).2.1; clear ho)
    | (go_at_call 49; (with_reducible refine (laws_sameBools.calls k Az cz z As cs_ z true _ Rz.out Rzc.out Rs.out Rsc.out H10.out).mono ?_); rintro e w11 ⟨rfl,hd⟩; have hb := hd.below; clear hd; have nB_ := Aside0.mk (below_step HB.out hb); clear HB; have HB := nB_; clear nB_; have n_ := Aside0.mk (Kd.C_below Rq.out hb); clear Rq; have Rq := n_; clear n_; have n_ := Aside0.mk (Kd.C_below Ry.out hb); clear Ry; have Ry := n_; clear n_; have n_ := Aside0.mk (Kd.C_below Rz.out hb); clear Rz; have Rz := n_; clear n_; have n_ := Aside0.mk (Kd.C_below Rs.out hb); clear Rs; have Rs := n_; clear n_; clear hb)
    | ((with_reducible refine gate_dst (N := 58) rfl ?_); (try (refine gate_guard (by rfl) ?_; dsimp only)); refine Kd.R_lit k25 _ 25 ?hg (N := 58) ?hd (xs := ([(⟨8,0,0,0⟩ : S25)] : List (S25))) (inner := [.int .i64 8,.int .i64 0,.int .i64 0,.int .i64 0]) (ok := fun _ => True) (okp := fun _ => True) ?hr ?hp (fun _ hk => hk) trivial (Below.refl _ _) (Nat.le_refl _) (by simp) ?_; (case hd => rfl); (case hg => rfl); (case hr => first | (go_simp; done) | (go_simp; rfl)); (case hp => exact (Reps.c4 (show Kd.M k25 _ _ _ (⟨8,0,0,0⟩ : S25) [.int .i64 8,.int .i64 0,.int .i64 0,.int .i64 0] from (k25_mkM _ _ _ (⟨8,0,0,0⟩ : S25) )) (Reps.none _ _))); intro v6 w20 ho hb hg_ hnew_; clear hg_ hnew_; rw [← H12.out] at ho; have nB_ := Aside0.mk (below_step HB.out hb); clear HB; have HB := nB_; clear nB_; have n_ := Aside0.mk (Kd.C_below Rq.out hb); clear Rq; have Rq := n_; clear n_; have n_ := Aside0.mk (Kd.C_below Ry.out hb); clear Ry; have Ry := n_; clear n_; have n_ := Aside0.mk (Kd.C_below Rz.out hb); clear Rz; have Rz := n_; clear n_; have n_ := Aside0.mk (Kd.C_below Rs.out hb); clear Rs; have Rs := n_; clear n_; clear hb; obtain ⟨Ax,cx,eo⟩ := Kd.R_slice ho; subst eo; have Rx := Aside0.mk (Kd.R_reads' ho).2.2; have Rxc := Aside0.mk (Kd.R_reads' ho).2.1; clear ho)
    | (go_at_call 40; (with_reducible refine (impl_CheckProgram.calls k Ax cx x true _ Rx.out Rxc.out H11.out).mono ?_); rintro e w12 ⟨rfl,hb⟩; have nB_ := Aside0.mk (below_step HB.out hb); clear HB; have HB := nB_; clear nB_; have n_ := Aside0.mk (Kd.C_below Rq.out hb); clear Rq; have Rq := n_; clear n_; have n_ := Aside0.mk (Kd.C_below Ry.out hb); clear Ry; have Ry := n_; clear n_; have n_ := Aside0.mk (Kd.C_below Rz.out hb); clear Rz; have Rz := n_; clear n_; have n_ := Aside0.mk (Kd.C_below Rs.out hb); clear Rs; have Rs := n_; clear n_; have n_ := Aside0.mk (Kd.C_below Rx.out hb); clear Rx; have Rx := n_; clear n_; clear hb))
  go_ret
  exact ⟨by first | rfl | (simp; done),HB.out⟩
def laws_FnRunTold.Pure : Prop := ∀ (l0 : List Int),l0.length ≤ maxLen → l0.length * 1 ≤ 140737488351232 → (∀ x ∈ l0,(Lit.int .u8 x).wf = true) → ∃ k,laws_big.f l0 = some true ∨ (laws_big.f l0 = some false ∧ ∃ (p q y x : List S25) (a b n1 n2 : Int) (cl : List S107) (ck : Bool) (z : List Bool),(spec_DrawRun.f k l0 = some (p,a,b,cl)) ∧ (impl_Run.f k p a b cl = some (n1,n2)) ∧ (spec_Run.f k p a b cl = some (n1,n2)) ∧ (spec_DrawCheckProgram.f k l0 = some q) ∧ (spec_DrawReached.f k l0 = some y) ∧ (impl_CheckProgram.f k q = some ck) ∧ (spec_CheckProgram.f k q = some ck) ∧ (impl_Reached.f k y = some z) ∧ (spec_Reached.f k y = some z) ∧ (laws_sameBools.f k z z = some true) ∧ (impl_CheckProgram.f k x = some true) ∧ (x = [⟨8,0,0,0⟩]))
set_option maxHeartbeats 4000000 in
set_option maxRecDepth 100000 in
theorem laws_FnRunTold.small (A0 : Option Addr) (c0 : Nat) (l0 : List Int) (w : World) (hr0 : Kd.C (Kd.int .u8) w A0 l0.length l0) (hc0 : l0.length ≤ c0) (hb : laws_big.f l0 = some true) :
    Calls Try.prog 11 #[.slice A0 l0.length c0] w fun e w' => e = .returned (.bool true) ∧ Below w.heap.size w w' := by
  have HR0 := Aside0.mk hr0
  have HC0 := Aside0.mk hc0
  have H0 := Aside0.mk hb
  clear hr0 hc0 hb
  go_enter Try.func11,Try.ntmps11
  go_wp2_with (go_at_call 32; (with_reducible refine (laws_big.calls A0 c0 l0 true w HR0.out HC0.out H0.out).mono ?_); rintro e w1 ⟨rfl,hd⟩; have HB := Aside0.mk hd.below; clear hd)
  go_ret
  exact ⟨by first | rfl | (simp; done),HB.out⟩
theorem laws_FnRunTold.walk (P : laws_FnRunTold.Pure) (a0 : Option Addr) (len0 cap0 : Nat) (z0 : List Int) (w : World) (w0 : (a0 = none ∧ len0 = 0 ∧ cap0 = 0 ∧ z0 = []) ∨ ∃ x,a0 = some x ∧ len0 ≤ cap0 ∧ cap0 ≤ maxLen ∧ z0.length = cap0 ∧ (∀ i,i < z0.length → w.cell? (x.add i) = some (.int .u8 (z0.getD i 0))) ∧ ∀ n ∈ z0,(Lit.int .u8 n).wf = true) (y0 : len0 * 1 ≤ 140737488351232) :
    Calls Try.prog 11 #[.slice a0 len0 cap0] w fun e w' => e = .returned (.bool true) ∧ Below w.heap.size w w' := by
  obtain ⟨l0,rfl,hr0,hm0,hw0,hc0⟩ := ReadsInt.ofRowC w0
  have hr := Kd.C_of_reads (d := (0 : Int)) (h1 := fun _ => rfl) hr0
  obtain ⟨k,hb | ⟨hb,p,q,y,x,a,b,n1,n2,cl,ck,z,h1,h2,h3,h4,h5,h6,h7,h8,h9,h10,h11,h12⟩⟩ := P l0 hm0 y0 hw0
  · exact laws_FnRunTold.small _ _ l0 w hr hc0 hb
  · exact laws_FnRunTold.way k _ _ l0 w hr hc0 p q y x a b n1 n2 cl ck z hb h1 h2 h3 h4 h5 h6 h7 h8 h9 h10 h11 h12

end Go.Proofs.Ytfchokhdhnfajaa.PFnRunTold
