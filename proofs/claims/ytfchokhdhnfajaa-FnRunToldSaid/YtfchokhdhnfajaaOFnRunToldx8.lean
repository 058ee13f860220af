/- What the print of the kit wrote of FnRunTold's functions, with some steps of some walks mended by this session. -/
import Derived.Test.YtfchokhdhnfajaaPFnRunToldx0
import Derived.Test.YtfchokhdhnfajaaPFnRunToldx1
import Derived.Test.YtfchokhdhnfajaaPFnRunToldx2
import Derived.Test.YtfchokhdhnfajaaOFnRunToldx7
namespace Go.Proofs.Ytfchokhdhnfajaa.PFnRunTold
open Go.RowKit Go.Proofs.YtfchokhdhnfajaaW.PrintWords Go.Proofs.YtfchokhdhnfajaaW.PrintLast Go.Proofs.YtfchokhdhnfajaaW.PrintMore
attribute [local go_sem] max2_int min2_int max_two min_two max_three min_three max_four min_four   -- for this text's walks alone
set_option linter.unusedVariables false
set_option linter.unusedSimpArgs false

/-! ### impl_Reached: function 50 -/
mutual
def impl_Reached.l0 : Nat → List Bool → List (S25) → Int → Int → Option (List Bool)
 | 0,_,_,_,_ => none
 | k + 1,x3,x17,x18,x19 => if x19 < x18 then (if 0 ≤ x19 then (if x19 < (x17.length : Int) then (if x19 < (x3.length : Int) then (if rdOf false x3 x19 = true then ((impl_ways.f k ((rd_T25 x17 x19).f0) ((rd_T25 x17 x19).f1) ((rd_T25 x17 x19).f2) ((rd_T25 x17 x19).f3) x19).bind fun t437 => (impl_Reached.l1 k x3 x17 x18 x19 t437 (t437.length : Int) 0)) else (impl_Reached.l0 k x3 x17 x18 (wrap64 (x19 + 1)))) else (none)) else (none)) else (none)) else (some x3)
def impl_Reached.l1 : Nat → List Bool → List (S25) → Int → Int → List Int → Int → Int → Option (List Bool)
 | 0,_,_,_,_,_,_,_ => none
 | k + 1,x3,x17,x18,x19,x31,x32,x33 => if x33 < x32 then (if 0 ≤ x33 then (if x33 < (x31.length : Int) then (if 0 ≤ (rd x31 x33) then (if (rd x31 x33) < (x3.length : Int) then (impl_Reached.l1 k (x3.set ((rd x31 x33) : Int).toNat true) x17 x18 x19 x31 x32 (wrap64 (x33 + 1))) else (none)) else (none)) else (none)) else (none)) else (impl_Reached.l0 k x3 x17 x18 (wrap64 (x19 + 1)))
end
def impl_Reached.f (k : Nat) (l0 : List (S25)) : Option (List Bool) := (impl_CheckProgram.f k l0).bind fun t426 => (if t426 = true then (if 0 ≤ (l0.length : Int) then (if ((l0.length : Int) : Int).toNat ≤ 281474976710656 then ((some (List.replicate ((l0.length : Int) : Int).toNat false : List Bool)).bind fun y430 => (if 0 < (y430.length : Int) then (impl_Reached.l0 k (y430.set (0 : Int).toNat true) l0 (l0.length : Int) 0) else (none))) else (none)) else (none)) else (some (([] : List Bool))))
theorem impl_Reached.mono_l : ∀ k,(∀ y0 y1 y2 y3,LeO (impl_Reached.l0 k y0 y1 y2 y3) (impl_Reached.l0 (k + 1) y0 y1 y2 y3)) ∧ (∀ y0 y1 y2 y3 y4 y5 y6,LeO (impl_Reached.l1 k y0 y1 y2 y3 y4 y5 y6) (impl_Reached.l1 (k + 1) y0 y1 y2 y3 y4 y5 y6))
 | 0 => ⟨fun _ _ _ _ r h => by simp [impl_Reached.l0] at h,fun _ _ _ _ _ _ _ r h => by simp [impl_Reached.l1] at h⟩
 | k + 1 => by
  obtain ⟨ih0,ih1⟩ := impl_Reached.mono_l k
  refine ⟨?_,?_⟩
  ·
   intro y0 y1 y2 y3
   unfold impl_Reached.l0
   repeat' first
   | (with_reducible exact ih0 _ _ _ _)
   | (with_reducible exact ih1 _ _ _ _ _ _ _)
   | (with_reducible exact impl_CheckProgram.mono _ _)
   | (with_reducible exact impl_ways.mono _ _ _ _ _ _)
   | (with_reducible exact LeO.refl _)
   | (with_reducible exact LeO.none _)
   | (with_reducible refine LeO.ite ?_ ?_)
   | (with_reducible refine LeO.bind ?_ (fun _ => ?_))
   | exact ih0 _ _ _ _
   | exact ih1 _ _ _ _ _ _ _
   | exact impl_CheckProgram.mono _ _
   | exact impl_ways.mono _ _ _ _ _ _
   | exact LeO.none _
   | refine LeO.ite ?_ ?_
   | refine LeO.bind ?_ (fun _ => ?_)
  ·
   intro y0 y1 y2 y3 y4 y5 y6
   unfold impl_Reached.l1
   repeat' first
   | (with_reducible exact ih0 _ _ _ _)
   | (with_reducible exact ih1 _ _ _ _ _ _ _)
   | (with_reducible exact impl_CheckProgram.mono _ _)
   | (with_reducible exact impl_ways.mono _ _ _ _ _ _)
   | (with_reducible exact LeO.refl _)
   | (with_reducible exact LeO.none _)
   | (with_reducible refine LeO.ite ?_ ?_)
   | (with_reducible refine LeO.bind ?_ (fun _ => ?_))
   | exact ih0 _ _ _ _
   | exact ih1 _ _ _ _ _ _ _
   | exact impl_CheckProgram.mono _ _
   | exact impl_ways.mono _ _ _ _ _ _
   | exact LeO.none _
   | refine LeO.ite ?_ ?_
   | refine LeO.bind ?_ (fun _ => ?_)
theorem impl_Reached.mono : ∀ a0 k,LeO (impl_Reached.f k a0) (impl_Reached.f (k + 1) a0) := by
 intro a0 k
 obtain ⟨ih0,ih1⟩ := impl_Reached.mono_l k
 unfold impl_Reached.f
 repeat' first
   | (with_reducible exact ih0 _ _ _ _)
   | (with_reducible exact ih1 _ _ _ _ _ _ _)
   | (with_reducible exact impl_CheckProgram.mono _ _)
   | (with_reducible exact impl_ways.mono _ _ _ _ _ _)
   | (with_reducible exact LeO.refl _)
   | (with_reducible exact LeO.none _)
   | (with_reducible refine LeO.ite ?_ ?_)
   | (with_reducible refine LeO.bind ?_ (fun _ => ?_))
   | exact ih0 _ _ _ _
   | exact ih1 _ _ _ _ _ _ _
   | exact impl_CheckProgram.mono _ _
   | exact impl_ways.mono _ _ _ _ _ _
   | exact LeO.none _
   | refine LeO.ite ?_ ?_
   | refine LeO.bind ?_ (fun _ => ?_)
set_option maxHeartbeats 8000000 in
set_option maxRecDepth 100000 in
theorem impl_Reached.calls (k : Nat) (A0 : Option Addr) (c0 : Nat) (l0 : List (S25)) (r : List Bool) (w : World) (hr0 : Kd.C k25 w A0 l0.length l0) (hc0 : l0.length ≤ c0) (h : impl_Reached.f k l0 = some r) :
  Calls Try.prog 50 #[.slice A0 l0.length c0] w fun e w' => ∃ v0_ : Value,e = .returned (v0_) ∧ Kd.R Kd.bool 4 w' w.heap.size (fun _ => True) v0_ r ∧ Below w.heap.size w w' := by
 have hu25 := Try.underlying25
 have HR0 := Aside0.mk hr0
 have HC0 := Aside0.mk hc0
 clear hr0 hc0
 have HB := Aside0.mk (Below.refl w.heap.size w)
 have H : ((impl_CheckProgram.f k l0).bind fun t426 => (if t426 = true then (if 0 ≤ (l0.length : Int) then (if ((l0.length : Int) : Int).toNat ≤ 281474976710656 then ((some (List.replicate ((l0.length : Int) : Int).toNat false : List Bool)).bind fun y430 => (if 0 < (y430.length : Int) then (impl_Reached.l0 k (y430.set (0 : Int).toNat true) l0 (l0.length : Int) 0) else (none))) else (none)) else (none)) else (some (([] : List Bool))))) = some r := h
 clear h
 replace H := Option.bind_eq_some_iff.mp H
 obtain ⟨t426,A20,H⟩ := H
 replace H : (if t426 = true then (if 0 ≤ (l0.length : Int) then (if ((l0.length : Int) : Int).toNat ≤ 281474976710656 then ((some (List.replicate ((l0.length : Int) : Int).toNat false : List Bool)).bind fun y430 => (if 0 < (y430.length : Int) then (impl_Reached.l0 k (y430.set (0 : Int).toNat true) l0 (l0.length : Int) 0) else (none))) else (none)) else (none)) else (some (([] : List Bool)))) = some r := H
 have A2 := Aside0.mk A20
 clear A20
 by_cases c3 : t426 = true
 ·
  subst c3
  have H1 : (if 0 ≤ (l0.length : Int) then (if ((l0.length : Int) : Int).toNat ≤ 281474976710656 then ((some (List.replicate ((l0.length : Int) : Int).toNat false : List Bool)).bind fun y430 => (if 0 < (y430.length : Int) then (impl_Reached.l0 k (y430.set (0 : Int).toNat true) l0 (l0.length : Int) 0) else (none))) else (none)) else (none)) = some r := by rw [if_pos rfl] at H; exact H
  clear H
  have H := H1
  clear H1
  by_cases c4 : 0 ≤ (l0.length : Int)
  ·
   rw [if_pos c4] at H
   have c4b0 := eq_true c4
   have c4b1 : decide (0 ≤ (l0.length : Int)) = true := decide_eq_true c4
   clear c4
   by_cases c5 : ((l0.length : Int) : Int).toNat ≤ 281474976710656
   ·
    rw [if_pos c5] at H
    have c5b0 := eq_true c5
    have c5b1 : decide (((l0.length : Int) : Int).toNat ≤ 281474976710656) = true := decide_eq_true c5
    clear c5
    obtain ⟨y430,hy430⟩ : ∃ y_ : List Bool,y_ = (List.replicate ((l0.length : Int) : Int).toNat false) := ⟨_,rfl⟩
    replace H : (if 0 < (y430.length : Int) then (impl_Reached.l0 k (y430.set (0 : Int).toNat true) l0 (l0.length : Int) 0) else (none)) = some r := by first | (rw [hy430]; with_reducible exact H) | (have H2_ := (Option.bind_some _ _).symm.trans H; rw [hy430]; with_reducible exact H2_) | (have H2_ := (Option.bind_some _ _).symm.trans H; with_reducible exact H2_) | with_reducible exact H | (rw [hy430]; exact H) | exact H
    have Ny430 := Aside0.mk hy430
    clear hy430
    by_cases c6 : 0 < (y430.length : Int)
    ·
     rw [if_pos c6] at H
     have c6b0 : decide (0 < (y430.length : Int)) = true := decide_eq_true c6
     have c6b1 : decide (0 < y430.length) = true := decide_eq_true (by omega)
     clear c6
     obtain ⟨y433,hy433⟩ : ∃ y_ : List Bool,y_ = (y430.set (0 : Int).toNat true) := ⟨_,rfl⟩
     replace H : (impl_Reached.l0 k y433 l0 (l0.length : Int) 0) = some r := by first | (rw [hy433]; with_reducible exact H) | (have H2_ := (Option.bind_some _ _).symm.trans H; rw [hy433]; with_reducible exact H2_) | (have H2_ := (Option.bind_some _ _).symm.trans H; with_reducible exact H2_) | with_reducible exact H | (rw [hy433]; exact H) | exact H
     have Ny433 := Aside0.mk hy433
     clear hy433
     have H' := Aside0.mk H
     clear H
     go_enter Try.func50,Try.ntmps50
     go_wp2_with (first | ((with_reducible refine gate_callee (f := 40) rfl ?_); refine goesL_ (some 9) rfl rfl Try.func40 (by kernel_rfl) rfl #[.slice A0 l0.length c0] rfl (by (try simp only [List.map_toArray,List.map_cons,List.map_nil]); first | done | rfl | (simp only [List.length_drop,List.length_take]; rfl)) ?_; (with_reducible refine (impl_CheckProgram.calls k _ _ l0 true _ ?side1 ?side2 A2.out).mono ?_); (case side1 => repeat (first | exact HR0.out | (with_reducible refine Kd.C_alloc ?_ _) | (with_reducible refine Kd.C_drewN ?_ _) | (with_reducible refine Kd.C_drew ?_))); (case side2 => exact HC0.out); rintro e w8 ⟨rfl,hb⟩; refine ⟨_,rfl,?_⟩; have n0_ := Aside0.mk (below_step (by repeat (first | (with_reducible first | exact HB.out | apply below_alloc | apply pw_below_drewN | apply below_drew1) | exact HB.out)) hb); clear HB; have HB := n0_; clear n0_; (try clear hb); (try clear hb2); (try clear hk); (try clear hi)) | ((with_reducible refine gate_dst (N := 14) rfl ?_); refine Kd.R_make Kd.bool _ 4 rfl (N := 14) rfl 65 _ _ rfl (l0.length : Int) rfl rfl Try.underlying65 (.bool false) 1 info4 rfl (by decide) (by omega) false (ok := fun _ => True) (okp := fun _ => True) rfl (fun _ hk => hk) trivial (of_decide_eq_true (by first | (with_reducible assumption) | assumption)) (Nat.le_trans (Nat.mul_le_mul_right _ (of_decide_eq_true (by first | (with_reducible assumption) | assumption) : (l0.length : Int).toNat ≤ 281474976710656)) (by omega)) (Below.refl _ _) (Nat.le_refl _) ?_; intro v431 w9 ho10 hb hg_ hnew_; clear hg_ hnew_; (first | rw [← Ny430.out] at ho10 | (simp only [Int.reduceToNat] at ho10; rw [← Ny430.out] at ho10)); have n0_ := Aside0.mk (Kd.R_lower ho10 (below_size (by repeat (first | (with_reducible first | exact HB.out | apply below_alloc | apply pw_below_drewN | apply below_drew1) | exact HB.out)))); have n1_ := Aside0.mk (below_step (by repeat (first | (with_reducible first | exact HB.out | apply below_alloc | apply pw_below_drewN | apply below_drew1) | exact HB.out)) hb); clear HB; have HO432 := n0_; have HB := n1_; clear n0_ n1_; clear hb ho10; have p7 : 0 ≤ (0 : Int) := (by omega); have q7 : (0 : Int) < ((y430.length : Int) : Int) := of_decide_eq_true (by first | (with_reducible assumption) | assumption); have qi7 : (0 < y430.length) = True := eq_true (by omega); obtain ⟨go7,co7,eo7,gb7,gl7,cl7,HG7⟩ := Kd.R_form HO432.out (by omega); (first | cases eo7 | (injection eo7 with ea_ en_ ec_; (first | subst ea_ | (injection ea_ with ea_; subst ea_)); subst ec_; clear en_)); have GB7 := Aside0.mk gb7; have GG7 := Aside0.mk HG7; clear gb7 gl7 HG7; obtain ⟨hx7_0,hf7_0⟩ := Kd.R_celln false HO432.out (0 : Int) p7 q7; (try rw [show ((0 : Int)).toNat = 0 from rfl] at hx7_0); (try simp only [Nat.reduceMul,Nat.zero_mul,Nat.zero_add,Nat.reduceAdd] at hx7_0); (try rw [show ((0 : Int)).toNat = 0 from rfl] at hf7_0); (try simp only [Nat.reduceMul,Nat.zero_mul,Nat.zero_add,Nat.reduceAdd] at hf7_0); replace p7 := eq_true p7; replace q7 := eq_true q7; obtain ⟨hy11_,hz11_⟩ := Kd.R_celln false HO432.out (0 : Int) (by omega) (of_decide_eq_true (by first | (with_reducible assumption) | assumption)); (try simp only [Int.reduceToNat,Int.toNat_zero,Int.toNat_ofNat,Nat.reduceMul,Nat.zero_mul,Nat.zero_add] at hy11_ hz11_); (try rw [show ((0 : Int)).toNat = 0 from rfl] at hy11_); (try rw [show ((0 : Int)).toNat = 0 from rfl] at hz11_); have HP11 := Kd.R_putg HO432.out (0 : Int) true) | ((with_reducible refine gate_store (t := 4) (p := 16) rfl ?_); refine store_event (t := 4) (p := 16) (v := ?vo_w12) (w1 := (w9.setCell ⟨go7,(0 : Int).toNat,none⟩ (.bool true))) ?hg ?ho ?hn ?hr ?_; (case ho => rfl); (case hg => rfl); (case hn => rfl); (case hr => first | (go_simp; done) | (go_simp; rfl)); intro w12 hw; have hg : w9.grownBy w12 (some go7) := (by rw [hw]; exact HP11.2); have hp_ : Kd.R Kd.bool 4 w12 w.heap.size (fun _ => True) (.slice (some ⟨go7,0,none⟩) y430.length co7) y433 := (by rw [hw,Ny433.out]; exact HP11.1); clear HP11; have n0_ := Aside0.mk (hp_); have n1_ := Aside0.mk ((by rw [hw]; exact below_set (HB.out) GB7.out : Below w.heap.size w w12)); clear HO432; clear HB; have HO432 := n0_; have HB := n1_; clear n0_ n1_; clear hg hw hp_))
     go_loopg [19] k (fun kq v19 w' => ∃ (x3_1 : List Bool) (x19_1 : Int),v19 = .int .i64 x19_1 ∧ Aside0 (impl_Reached.l0 kq x3_1 l0 (l0.length : Int) x19_1 = some r) ∧ Aside0 (kq ≤ k) ∧ Aside0 (Kd.R Kd.bool 4 w' w.heap.size (fun _ => True) (.slice (some ⟨go7,0,none⟩) y430.length co7) x3_1) ∧ Aside0 (Below w.heap.size w w'))
     case atStart => exact ⟨(y433),(0),(by first | rfl | (simp; done) | (simp [*]; done)),H',⟨Nat.le_refl _⟩,⟨by (with_reducible repeat (first | apply Kd.R_alloc | apply Kd.R_drewN | apply Kd.R_drew)); exact HO432.out⟩,⟨by repeat (first | (with_reducible first | exact HB.out | apply below_alloc | apply pw_below_drewN | apply below_drew1) | exact HB.out)⟩⟩
     case round =>
      clear H'
      try clear p2
      try clear c3
      try clear c4
      try clear c4b0
      try clear c4b1
      try clear c5
      try clear c5b0
      try clear c5b1
      try clear c6
      try clear c6b0
      try clear c6b1
      try clear p7
      try clear q7
      try clear hx7
      try clear qi7
      try clear hf7
      try clear hx7_0
      try clear p7
      try clear q7
      obtain ⟨x3_1,x19_1,rfl,HA,HK1,HO_3,HB⟩ := hrel
      have hl3_1 := (Kd.R_reads' HO_3.out).1
      rw [hl3_1] at HO_3
      (try simp only [hl3_1])
      cases gk with
      | zero => exact absurd HA.out (by simp [impl_Reached.l0])
      | succ k1 =>
       have H := HA.out
       clear HA
       simp only [impl_Reached.l0] at H
       by_cases c13 : x19_1 < (l0.length : Int)
       ·
        rw [if_pos c13] at H
        have c13b0 : decide (x19_1 < (l0.length : Int)) = true := decide_eq_true c13
        clear c13
        by_cases c14 : 0 ≤ x19_1
        ·
         rw [if_pos c14] at H
         have c14b0 : decide (0 ≤ x19_1) = true := decide_eq_true c14
         clear c14
         by_cases c15 : x19_1 < (l0.length : Int)
         ·
          rw [if_pos c15] at H
          have c15b0 : decide (x19_1 < (l0.length : Int)) = true := decide_eq_true c15
          clear c15
          by_cases c16 : x19_1 < (x3_1.length : Int)
          ·
           rw [if_pos c16] at H
           have c16b0 : decide (x19_1 < (x3_1.length : Int)) = true := decide_eq_true c16
           clear c16
           obtain ⟨bq17,hbq17⟩ : ∃ b_ : Bool,b_ = (rdOf false x3_1 x19_1) := ⟨_,rfl⟩
           replace H : (if bq17 = true then ((impl_ways.f k1 ((rd_T25 l0 x19_1).f0) ((rd_T25 l0 x19_1).f1) ((rd_T25 l0 x19_1).f2) ((rd_T25 l0 x19_1).f3) x19_1).bind fun t437 => (impl_Reached.l1 k1 x3_1 l0 (l0.length : Int) x19_1 t437 (t437.length : Int) 0)) else (impl_Reached.l0 k1 x3_1 l0 (l0.length : Int) (wrap64 (x19_1 + 1)))) = some r := by rw [← hbq17] at H; exact H
           have Nbq17 := Aside0.mk hbq17
           clear hbq17
           by_cases c18 : bq17 = true
           ·
            subst c18
            have H1 : ((impl_ways.f k1 ((rd_T25 l0 x19_1).f0) ((rd_T25 l0 x19_1).f1) ((rd_T25 l0 x19_1).f2) ((rd_T25 l0 x19_1).f3) x19_1).bind fun t437 => (impl_Reached.l1 k1 x3_1 l0 (l0.length : Int) x19_1 t437 (t437.length : Int) 0)) = some r := by rw [if_pos rfl] at H; exact H
            clear H
            have H := H1
            clear H1
            replace H := Option.bind_eq_some_iff.mp H
            obtain ⟨t437,A190,H⟩ := H
            replace H : (impl_Reached.l1 k1 x3_1 l0 (l0.length : Int) x19_1 t437 (t437.length : Int) 0) = some r := H
            have A19 := Aside0.mk A190
            clear A190
            have H' := Aside0.mk H
            clear H
            have p434 : 0 ≤ (x19_1 : Int) := of_decide_eq_true (by first | (with_reducible assumption) | assumption)
            have q434 : x19_1 < (l0.length : Int) := of_decide_eq_true (by first | (with_reducible assumption) | assumption)
            obtain ⟨ad434,e434,hx434_0,hx434_1,hx434_2,hx434_3⟩ := at_T25 HR0.out x19_1 p434 q434
            cases e434
            replace hx434_0 := (HB.out.cell (World.block_lt_of_cell? w _ hx434_0)).trans hx434_0
            replace hx434_1 := (HB.out.cell (World.block_lt_of_cell? w _ hx434_1)).trans hx434_1
            replace hx434_2 := (HB.out.cell (World.block_lt_of_cell? w _ hx434_2)).trans hx434_2
            replace hx434_3 := (HB.out.cell (World.block_lt_of_cell? w _ hx434_3)).trans hx434_3
            replace p434 := eq_true p434
            replace q434 := eq_true q434
            go_wp2_with (first | ((with_reducible refine gate_dst (N := 5) rfl ?_); refine box_event ?hg (N := 5) ?hd (cs := #[.int .i64 0,.int .i64 0,.int .i64 0,.int .i64 0]) (t := 25) ?hr ?_; (case hd => rfl); (case hg => rfl); (case hr => first | (go_simp; done) | (go_simp; rfl)); intro gb435 hg w20 hbox hb; have n0_ := Aside0.mk (Kd.R_below (by (with_reducible repeat (first | apply Kd.R_alloc | apply Kd.R_drewN | apply Kd.R_drew)); exact HO_3.out) hb); have n1_ := Aside0.mk (below_step (by repeat (first | (with_reducible first | exact HB.out | apply below_alloc | apply pw_below_drewN | apply below_drew1) | exact HB.out)) hb); have n2_ := Aside0.mk (hbox); have n3_ := Aside0.mk ((by rw [hg]; exact (below_size (by repeat (first | (with_reducible first | exact HB.out | apply below_alloc | apply pw_below_drewN | apply below_drew1) | exact HB.out))) : w.heap.size ≤ gb435)); have n4_ := Aside0.mk ((by rw [hg]; exact (below_size (by repeat (first | (with_reducible first | exact HB.out | apply below_alloc | apply pw_below_drewN | apply below_drew1) | exact HB.out))) : w.heap.size ≤ gb435)); clear HO_3; clear HB; have HO_3 := n0_; have HB := n1_; have BK435 := n2_; have GW435 := n3_; have GE435 := n4_; clear n0_ n1_ n2_ n3_ n4_; clear hb hbox hg; have hcz21_0 : w20.cell? ⟨gb435,0,none⟩ = some (.int .i64 0) := (blk_cell BK435.out 0).trans rfl; have hcz21_1 : w20.cell? ⟨gb435,1,none⟩ = some (.int .i64 0) := (blk_cell BK435.out 1).trans rfl; have hcz21_2 : w20.cell? ⟨gb435,2,none⟩ = some (.int .i64 0) := (blk_cell BK435.out 2).trans rfl; have hcz21_3 : w20.cell? ⟨gb435,3,none⟩ = some (.int .i64 0) := (blk_cell BK435.out 3).trans rfl; have hfz21_0 := blk_frozen BK435.out 0; have hfz21_1 := blk_frozen BK435.out 1; have hfz21_2 := blk_frozen BK435.out 2; have hfz21_3 := blk_frozen BK435.out 3; have p436 : 0 ≤ (x19_1 : Int) := of_decide_eq_true (by first | (with_reducible assumption) | assumption); have q436 : x19_1 < (x3_1.length : Int) := of_decide_eq_true (by first | (with_reducible assumption) | assumption); obtain ⟨ad436,e436,hx436_0⟩ := Kd.at_bool (Kd.R_reads' HO_3.out).2.2 x19_1 p436 q436; (try rw [← Nbq17.out] at hx436_0); obtain rfl : (⟨go7,0,none⟩ : Addr) = ad436 := (by injection e436); (first | simp only [add_plain] at hx436_0 | simp only [add_at] at hx436_0 | simp only [Addr.add,Nat.zero_add] at hx436_0 | skip); have hn436_0 : (⟨go7,0,none⟩ : Addr).block ≠ gb435 := Kd.own_blk (Kd.R_ne HO_3.out BK435.out (by decide)); have hn436_1 : (⟨go7,0,none⟩ : Addr).block ≠ gb435 := Kd.own_blk (Kd.R_ne HO_3.out BK435.out (by decide)); have hn436_2 : (⟨go7,0,none⟩ : Addr).block ≠ gb435 := Kd.own_blk (Kd.R_ne HO_3.out BK435.out (by decide)); have hn436_3 : (⟨go7,0,none⟩ : Addr).block ≠ gb435 := Kd.own_blk (Kd.R_ne HO_3.out BK435.out (by decide)); replace hx436_0 := (cell_far (p := ⟨gb435,0,none⟩) (by first | (rw [add_block]; exact hn436_0) | (show (Addr.add _ _).block ≠ _; rw [add_block]; exact hn436_0) | exact hn436_0) (.int .i64 ((rd_T25 l0 x19_1).f0))).trans hx436_0; replace hx436_0 := (cell_far (p := ⟨gb435,1,none⟩) (by first | (rw [add_block]; exact hn436_1) | (show (Addr.add _ _).block ≠ _; rw [add_block]; exact hn436_1) | exact hn436_1) (.int .i64 ((rd_T25 l0 x19_1).f1))).trans hx436_0; replace hx436_0 := (cell_far (p := ⟨gb435,2,none⟩) (by first | (rw [add_block]; exact hn436_2) | (show (Addr.add _ _).block ≠ _; rw [add_block]; exact hn436_2) | exact hn436_2) (.int .i64 ((rd_T25 l0 x19_1).f2))).trans hx436_0; replace hx436_0 := (cell_far (p := ⟨gb435,3,none⟩) (by first | (rw [add_block]; exact hn436_3) | (show (Addr.add _ _).block ≠ _; rw [add_block]; exact hn436_3) | exact hn436_3) (.int .i64 ((rd_T25 l0 x19_1).f3))).trans hx436_0; clear hn436_0; clear hn436_1; clear hn436_2; clear hn436_3; replace p436 := eq_true p436; replace q436 := eq_true q436) | ((with_reducible refine gate_callee (f := 94) rfl ?_); refine goesL_ (some 31) rfl rfl Try.func94 (by kernel_rfl) rfl #[.agg #[.int .i64 ((rd_T25 l0 x19_1).f0),.int .i64 ((rd_T25 l0 x19_1).f1),.int .i64 ((rd_T25 l0 x19_1).f2),.int .i64 ((rd_T25 l0 x19_1).f3)],.int .i64 x19_1] rfl (by (try simp only [List.map_toArray,List.map_cons,List.map_nil]); first | done | rfl | (simp only [List.length_drop,List.length_take]; rfl)) ?_; (with_reducible refine (impl_ways.calls k1 ((rd_T25 l0 x19_1).f0) ((rd_T25 l0 x19_1).f1) ((rd_T25 l0 x19_1).f2) ((rd_T25 l0 x19_1).f3) x19_1 t437 _ A19.out).mono ?_); rintro e w22 ⟨v438,rfl,ho0,hb⟩; refine ⟨_,rfl,?_⟩; have n0_ := Aside0.mk (Kd.R_below (by (with_reducible repeat (first | apply Kd.R_alloc | apply Kd.R_drewN | apply Kd.R_drew)); exact (Kd.R_mono (Kd.R_far (p := ⟨gb435,3,none⟩) (Kd.R_far (p := ⟨gb435,2,none⟩) (Kd.R_far (p := ⟨gb435,1,none⟩) (Kd.R_far (p := ⟨gb435,0,none⟩) (Kd.R_types HO_3.out BK435.out (by decide)) (fun _ hk => hk.2) (.int .i64 ((rd_T25 l0 x19_1).f0))) (fun _ hk => hk.2) (.int .i64 ((rd_T25 l0 x19_1).f1))) (fun _ hk => hk.2) (.int .i64 ((rd_T25 l0 x19_1).f2))) (fun _ hk => hk.2) (.int .i64 ((rd_T25 l0 x19_1).f3))) (fun _ h_ => h_.1))) hb); have n1_ := Aside0.mk (Kd.R_lower ho0 (below_size (by repeat (first | (with_reducible first | exact HB.out | apply below_alloc | apply pw_below_drewN | apply below_drew1 | refine below_set ?_ GE435.out) | exact HB.out)))); have n2_ := Aside0.mk (blk_below (g := gb435) (o := .cells #[.int .i64 ((rd_T25 l0 x19_1).f0),.int .i64 ((rd_T25 l0 x19_1).f1),.int .i64 ((rd_T25 l0 x19_1).f2),.int .i64 ((rd_T25 l0 x19_1).f3)] 25 (0,0)) (by (with_reducible repeat (first | refine blk_drewN ?_ _ | refine blk_drew ?_ | refine blk_alloc ?_ _)); refine blk_put (cs := #[.int .i64 ((rd_T25 l0 x19_1).f0),.int .i64 ((rd_T25 l0 x19_1).f1),.int .i64 ((rd_T25 l0 x19_1).f2),.int .i64 0]) ?_ 3 _ rfl; (with_reducible repeat (first | refine blk_drewN ?_ _ | refine blk_drew ?_ | refine blk_alloc ?_ _)); refine blk_put (cs := #[.int .i64 ((rd_T25 l0 x19_1).f0),.int .i64 ((rd_T25 l0 x19_1).f1),.int .i64 0,.int .i64 0]) ?_ 2 _ rfl; (with_reducible repeat (first | refine blk_drewN ?_ _ | refine blk_drew ?_ | refine blk_alloc ?_ _)); refine blk_put (cs := #[.int .i64 ((rd_T25 l0 x19_1).f0),.int .i64 0,.int .i64 0,.int .i64 0]) ?_ 1 _ rfl; (with_reducible repeat (first | refine blk_drewN ?_ _ | refine blk_drew ?_ | refine blk_alloc ?_ _)); refine blk_put (cs := #[.int .i64 0,.int .i64 0,.int .i64 0,.int .i64 0]) ?_ 0 _ rfl; (with_reducible repeat (first | refine blk_drewN ?_ _ | refine blk_drew ?_ | refine blk_alloc ?_ _)); exact BK435.out) hb); have n3_ := Aside0.mk (below_step (by repeat (first | (with_reducible first | exact HB.out | apply below_alloc | apply pw_below_drewN | apply below_drew1 | refine below_set ?_ GE435.out) | exact HB.out)) hb); clear HO_3; clear BK435; clear HB; have HO_3 := n0_; have HO439 := n1_; have BK435 := n2_; have HB := n3_; clear n0_ n1_ n2_ n3_; (try clear hb); (try clear hb2); (try clear hk); (try clear hi); (try clear ho0); obtain ⟨Ao23,co23,eo23⟩ := Kd.R_slice HO439.out; subst eo23))
            go_loopg [33] k1 (fun kq v33 w' => ∃ (x3_2 : List Bool) (x33_2 : Int),v33 = .int .i64 x33_2 ∧ Aside0 (impl_Reached.l1 kq x3_2 l0 (l0.length : Int) x19_1 t437 (t437.length : Int) x33_2 = some r) ∧ Aside0 (kq ≤ k1) ∧ Aside0 (Kd.R Kd.bool 4 w' w.heap.size (fun _ => True) (.slice (some ⟨go7,0,none⟩) x3_1.length co7) x3_2) ∧ Aside0 (Kd.R (Kd.int .i64) 3 w' w.heap.size (fun _ => True) (.slice Ao23 t437.length co23) t437) ∧ Aside0 (w'.heap[gb435]? = some (.cells #[.int .i64 ((rd_T25 l0 x19_1).f0),.int .i64 ((rd_T25 l0 x19_1).f1),.int .i64 ((rd_T25 l0 x19_1).f2),.int .i64 ((rd_T25 l0 x19_1).f3)] 25 (0,0))) ∧ Aside0 (Below w.heap.size w w'))
            case atStart => exact ⟨(x3_1),(0),(by first | rfl | (simp; done) | (simp [*]; done)),H',⟨Nat.le_refl _⟩,⟨by (try simp only [hl3_1]); (with_reducible repeat (first | apply Kd.R_alloc | apply Kd.R_drewN | apply Kd.R_drew)); exact HO_3.out⟩,⟨by (try simp only [hl3_1]); (with_reducible repeat (first | apply Kd.R_alloc | apply Kd.R_drewN | apply Kd.R_drew)); exact HO439.out⟩,⟨by (try simp only [hl3_1]); (with_reducible repeat (first | refine blk_drewN ?_ _ | refine blk_drew ?_ | refine blk_alloc ?_ _)); exact BK435.out⟩,⟨by repeat (first | (with_reducible first | exact HB.out | apply below_alloc | apply pw_below_drewN | apply below_drew1 | refine below_set ?_ GE435.out) | exact HB.out)⟩⟩
            case round =>
             clear H'
             try clear c1
             try clear q1
             try clear p2
             try clear c3
             try clear c4
             try clear c4b0
             try clear c4b1
             try clear p4
             try clear q4
             try clear hx4
             try clear c5
             try clear c5b0
             try clear c5b1
             try clear c6
             try clear c6b0
             try clear c6b1
             try clear p6
             try clear p7
             try clear q7
             try clear hx7
             try clear qi7
             try clear hf7
             try clear c9
             try clear c13
             try clear c13b0
             try clear c14
             try clear c14b0
             try clear c15
             try clear c15b0
             try clear c16
             try clear c16b0
             try clear q17
             try clear c18
             try clear hcz21_0
             try clear hcz21_1
             try clear hcz21_2
             try clear hcz21_3
             try clear hfz21_0
             try clear hfz21_1
             try clear hfz21_2
             try clear hfz21_3
             try clear hx434_0
             try clear hx434_1
             try clear hx434_2
             try clear hx434_3
             try clear hx436_0
             try clear hx7_0
             try clear p2
             try clear p434
             try clear p436
             try clear p7
             try clear q434
             try clear q436
             try clear q7
             obtain ⟨x3_2,x33_2,rfl,HA,HK2,HO_3,HO_31,BK435,HB⟩ := hrel
             have hl3_2 := (Kd.R_reads' HO_3.out).1
             rw [hl3_2] at HO_3
             (try simp only [hl3_2])
             (try simp only [hl3_2] at BK435)
             (try simp only [hl3_2] at HO_31)
             cases gk with
             | zero => exact absurd HA.out (by simp [impl_Reached.l1])
             | succ k2 =>
              have H := HA.out
              clear HA
              simp only [impl_Reached.l1] at H
              by_cases c24 : x33_2 < (t437.length : Int)
              ·
               rw [if_pos c24] at H
               have c24b0 : decide (x33_2 < (t437.length : Int)) = true := decide_eq_true c24
               clear c24
               by_cases c25 : 0 ≤ x33_2
               ·
                rw [if_pos c25] at H
                have c25b0 : decide (0 ≤ x33_2) = true := decide_eq_true c25
                clear c25
                by_cases c26 : x33_2 < (t437.length : Int)
                ·
                 rw [if_pos c26] at H
                 have c26b0 : decide (x33_2 < (t437.length : Int)) = true := decide_eq_true c26
                 clear c26
                 by_cases c27 : 0 ≤ (rd t437 x33_2)
                 ·
                  rw [if_pos c27] at H
                  have c27b0 : decide (0 ≤ (rd t437 x33_2)) = true := decide_eq_true c27
                  clear c27
                  by_cases c28 : (rd t437 x33_2) < (x3_2.length : Int)
                  ·
                   rw [if_pos c28] at H
                   have c28b0 : decide ((rd t437 x33_2) < (x3_2.length : Int)) = true := decide_eq_true c28
                   clear c28
                   obtain ⟨y441,hy441⟩ : ∃ y_ : List Bool,y_ = (x3_2.set ((rd t437 x33_2) : Int).toNat true) := ⟨_,rfl⟩
                   replace H : (impl_Reached.l1 k2 y441 l0 (l0.length : Int) x19_1 t437 (t437.length : Int) (wrap64 (x33_2 + 1))) = some r := by first | (rw [hy441]; with_reducible exact H) | (have H2_ := (Option.bind_some _ _).symm.trans H; rw [hy441]; with_reducible exact H2_) | (have H2_ := (Option.bind_some _ _).symm.trans H; with_reducible exact H2_) | with_reducible exact H | (rw [hy441]; exact H) | exact H
                   have Ny441 := Aside0.mk hy441
                   clear hy441
                   have H' := Aside0.mk H
                   clear H
                   have p440 : 0 ≤ (x33_2 : Int) := of_decide_eq_true (by first | (with_reducible assumption) | assumption)
                   have q440 : x33_2 < (t437.length : Int) := of_decide_eq_true (by first | (with_reducible assumption) | assumption)
                   obtain ⟨ad440,e440,hx440_0⟩ := Kd.at_int (Kd.R_reads' HO_31.out).2.2 x33_2 p440 q440
                   cases e440
                   replace p440 := eq_true p440
                   replace q440 := eq_true q440
                   have p29 : 0 ≤ ((rd t437 x33_2) : Int) := of_decide_eq_true (by first | (with_reducible assumption) | assumption)
                   have q29 : ((rd t437 x33_2) : Int) < ((x3_2.length : Int) : Int) := of_decide_eq_true (by first | (with_reducible assumption) | assumption)
                   obtain ⟨hx29_0,hf29_0⟩ := Kd.R_celln false HO_3.out ((rd t437 x33_2) : Int) p29 q29
                   replace p29 := eq_true p29
                   replace q29 := eq_true q29
                   have HP30 := Kd.R_putg HO_3.out ((rd t437 x33_2) : Int) true
                   go_wp2_with (first | ((with_reducible refine gate_store (t := 4) (p := 39) rfl ?_); refine store_event (t := 4) (p := 39) (v := ?vo_w31) (w1 := (wr.setCell ⟨go7,((rd t437 x33_2) : Int).toNat,none⟩ (.bool true))) ?hg ?ho ?hn ?hr ?_; (case ho => rfl); (case hg => rfl); (case hn => rfl); (case hr => first | (go_simp; done) | (go_simp; rfl)); intro w31 hw; have hg : wr.grownBy w31 (some go7) := (by rw [hw]; exact HP30.2); have hp_ : Kd.R Kd.bool 4 w31 w.heap.size (fun _ => True) (.slice (some ⟨go7,0,none⟩) x3_2.length co7) y441 := (by rw [hw,Ny441.out]; exact HP30.1); clear HP30; have n0_ := Aside0.mk (hp_); have n1_ := Aside0.mk (Kd.R_over' (v := (.slice (some ⟨go7,0,none⟩) x3_2.length co7)) (by (with_reducible repeat (first | apply Kd.R_alloc | apply Kd.R_drewN | apply Kd.R_drew)); exact HO_31.out) (Kd.R_typed HO_3.out) (by decide) hg); have n2_ := Aside0.mk (blk_grown (g := gb435) (o := .cells #[.int .i64 ((rd_T25 l0 x19_1).f0),.int .i64 ((rd_T25 l0 x19_1).f1),.int .i64 ((rd_T25 l0 x19_1).f2),.int .i64 ((rd_T25 l0 x19_1).f3)] 25 (0,0)) (by (with_reducible repeat (first | refine blk_drewN ?_ _ | refine blk_drew ?_ | refine blk_alloc ?_ _)); exact BK435.out) hg (Kd.R_ne HO_3.out BK435.out (by decide))); have n3_ := Aside0.mk ((by rw [hw]; exact below_set (HB.out) GB7.out : Below w.heap.size w w31)); clear HO_3; clear HO_31; clear BK435; clear HB; have HO_3 := n0_; have HO_31 := n1_; have BK435 := n2_; have HB := n3_; clear n0_ n1_ n2_ n3_; clear hg hw hp_))
                   (try simp only [← hl3_2])
                   go_roundg k2
                   case measure => have := HK1.out; have := HK2.out; omega
                   case rel => exact ⟨(y441),(wrap64 (x33_2 + 1)),(by first | rfl | (simp; done) | (simp [*]; done)),H',⟨by have := HK1.out; have := HK2.out; omega⟩,⟨by (try simp only [hl3_1]); (try simp only [hl3_2]); (with_reducible repeat (first | apply Kd.R_alloc | apply Kd.R_drewN | apply Kd.R_drew)); exact HO_3.out⟩,⟨by (try simp only [hl3_1]); (try simp only [hl3_2]); (with_reducible repeat (first | apply Kd.R_alloc | apply Kd.R_drewN | apply Kd.R_drew)); exact HO_31.out⟩,⟨by (try simp only [hl3_1]); (try simp only [hl3_2]); (with_reducible repeat (first | refine blk_drewN ?_ _ | refine blk_drew ?_ | refine blk_alloc ?_ _)); exact BK435.out⟩,⟨by repeat (first | (with_reducible first | exact HB.out | apply below_alloc | apply pw_below_drewN | apply below_drew1 | refine below_set ?_ GE435.out) | exact HB.out)⟩⟩
                  ·
                   rw [if_neg c28] at H
                   exact absurd H (by simp)
                 ·
                  rw [if_neg c27] at H
                  exact absurd H (by simp)
                ·
                 rw [if_neg c26] at H
                 exact absurd H (by simp)
               ·
                rw [if_neg c25] at H
                exact absurd H (by simp)
              ·
               rw [if_neg c24] at H
               have c24b0 : decide (x33_2 < (t437.length : Int)) = false := decide_eq_false c24
               clear c24
               have H' := Aside0.mk H
               clear H
               go_wp2
               (try simp only [← hl3_1,← hl3_2])
               go_roundg k2
               case measure => have := HK1.out; have := HK2.out; omega
               case rel => exact ⟨(x3_2),(wrap64 (x19_1 + 1)),(by first | rfl | (simp; done) | (simp [*]; done)),H',⟨by have := HK1.out; have := HK2.out; omega⟩,⟨by (try simp only [hl3_1]); (try simp only [hl3_2]); (with_reducible repeat (first | apply Kd.R_alloc | apply Kd.R_drewN | apply Kd.R_drew)); exact HO_3.out⟩,⟨by repeat (first | (with_reducible first | exact HB.out | apply below_alloc | apply pw_below_drewN | apply below_drew1 | refine below_set ?_ GE435.out) | exact HB.out)⟩⟩
           ·
            replace c18 := Bool.eq_false_iff.mpr c18
            subst c18
            have H1 : (impl_Reached.l0 k1 x3_1 l0 (l0.length : Int) (wrap64 (x19_1 + 1))) = some r := by rw [if_neg (show ¬ (false = true) by decide)] at H; exact H
            clear H
            have H := H1
            clear H1
            have H' := Aside0.mk H
            clear H
            have p434 : 0 ≤ (x19_1 : Int) := of_decide_eq_true (by first | (with_reducible assumption) | assumption)
            have q434 : x19_1 < (l0.length : Int) := of_decide_eq_true (by first | (with_reducible assumption) | assumption)
            obtain ⟨ad434,e434,hx434_0,hx434_1,hx434_2,hx434_3⟩ := at_T25 HR0.out x19_1 p434 q434
            cases e434
            replace hx434_0 := (HB.out.cell (World.block_lt_of_cell? w _ hx434_0)).trans hx434_0
            replace hx434_1 := (HB.out.cell (World.block_lt_of_cell? w _ hx434_1)).trans hx434_1
            replace hx434_2 := (HB.out.cell (World.block_lt_of_cell? w _ hx434_2)).trans hx434_2
            replace hx434_3 := (HB.out.cell (World.block_lt_of_cell? w _ hx434_3)).trans hx434_3
            replace p434 := eq_true p434
            replace q434 := eq_true q434
            go_wp2_with (first | ((with_reducible refine gate_dst (N := 5) rfl ?_); refine box_event ?hg (N := 5) ?hd (cs := #[.int .i64 0,.int .i64 0,.int .i64 0,.int .i64 0]) (t := 25) ?hr ?_; (case hd => rfl); (case hg => rfl); (case hr => first | (go_simp; done) | (go_simp; rfl)); intro gb435 hg w32 hbox hb; have n0_ := Aside0.mk (Kd.R_below (by (with_reducible repeat (first | apply Kd.R_alloc | apply Kd.R_drewN | apply Kd.R_drew)); exact HO_3.out) hb); have n1_ := Aside0.mk (below_step (by repeat (first | (with_reducible first | exact HB.out | apply below_alloc | apply pw_below_drewN | apply below_drew1) | exact HB.out)) hb); have n2_ := Aside0.mk (hbox); have n3_ := Aside0.mk ((by rw [hg]; exact (below_size (by repeat (first | (with_reducible first | exact HB.out | apply below_alloc | apply pw_below_drewN | apply below_drew1) | exact HB.out))) : w.heap.size ≤ gb435)); have n4_ := Aside0.mk ((by rw [hg]; exact (below_size (by repeat (first | (with_reducible first | exact HB.out | apply below_alloc | apply pw_below_drewN | apply below_drew1) | exact HB.out))) : w.heap.size ≤ gb435)); clear HO_3; clear HB; have HO_3 := n0_; have HB := n1_; have BK435 := n2_; have GW435 := n3_; have GE435 := n4_; clear n0_ n1_ n2_ n3_ n4_; clear hb hbox hg; have hcz33_0 : w32.cell? ⟨gb435,0,none⟩ = some (.int .i64 0) := (blk_cell BK435.out 0).trans rfl; have hcz33_1 : w32.cell? ⟨gb435,1,none⟩ = some (.int .i64 0) := (blk_cell BK435.out 1).trans rfl; have hcz33_2 : w32.cell? ⟨gb435,2,none⟩ = some (.int .i64 0) := (blk_cell BK435.out 2).trans rfl; have hcz33_3 : w32.cell? ⟨gb435,3,none⟩ = some (.int .i64 0) := (blk_cell BK435.out 3).trans rfl; have hfz33_0 := blk_frozen BK435.out 0; have hfz33_1 := blk_frozen BK435.out 1; have hfz33_2 := blk_frozen BK435.out 2; have hfz33_3 := blk_frozen BK435.out 3; have p436 : 0 ≤ (x19_1 : Int) := of_decide_eq_true (by first | (with_reducible assumption) | assumption); have q436 : x19_1 < (x3_1.length : Int) := of_decide_eq_true (by first | (with_reducible assumption) | assumption); obtain ⟨ad436,e436,hx436_0⟩ := Kd.at_bool (Kd.R_reads' HO_3.out).2.2 x19_1 p436 q436; (try rw [← Nbq17.out] at hx436_0); obtain rfl : (⟨go7,0,none⟩ : Addr) = ad436 := (by injection e436); (first | simp only [add_plain] at hx436_0 | simp only [add_at] at hx436_0 | simp only [Addr.add,Nat.zero_add] at hx436_0 | skip); have hn436_0 : (⟨go7,0,none⟩ : Addr).block ≠ gb435 := Kd.own_blk (Kd.R_ne HO_3.out BK435.out (by decide)); have hn436_1 : (⟨go7,0,none⟩ : Addr).block ≠ gb435 := Kd.own_blk (Kd.R_ne HO_3.out BK435.out (by decide)); have hn436_2 : (⟨go7,0,none⟩ : Addr).block ≠ gb435 := Kd.own_blk (Kd.R_ne HO_3.out BK435.out (by decide)); have hn436_3 : (⟨go7,0,none⟩ : Addr).block ≠ gb435 := Kd.own_blk (Kd.R_ne HO_3.out BK435.out (by decide)); replace hx436_0 := (cell_far (p := ⟨gb435,0,none⟩) (by first | (rw [add_block]; exact hn436_0) | (show (Addr.add _ _).block ≠ _; rw [add_block]; exact hn436_0) | exact hn436_0) (.int .i64 ((rd_T25 l0 x19_1).f0))).trans hx436_0; replace hx436_0 := (cell_far (p := ⟨gb435,1,none⟩) (by first | (rw [add_block]; exact hn436_1) | (show (Addr.add _ _).block ≠ _; rw [add_block]; exact hn436_1) | exact hn436_1) (.int .i64 ((rd_T25 l0 x19_1).f1))).trans hx436_0; replace hx436_0 := (cell_far (p := ⟨gb435,2,none⟩) (by first | (rw [add_block]; exact hn436_2) | (show (Addr.add _ _).block ≠ _; rw [add_block]; exact hn436_2) | exact hn436_2) (.int .i64 ((rd_T25 l0 x19_1).f2))).trans hx436_0; replace hx436_0 := (cell_far (p := ⟨gb435,3,none⟩) (by first | (rw [add_block]; exact hn436_3) | (show (Addr.add _ _).block ≠ _; rw [add_block]; exact hn436_3) | exact hn436_3) (.int .i64 ((rd_T25 l0 x19_1).f3))).trans hx436_0; clear hn436_0; clear hn436_1; clear hn436_2; clear hn436_3; replace p436 := eq_true p436; replace q436 := eq_true q436))
            (try simp only [← hl3_1])
            go_roundg k1
            case measure => have := HK1.out; omega
            case rel => exact ⟨(x3_1),(wrap64 (x19_1 + 1)),(by first | rfl | (simp; done) | (simp [*]; done)),H',⟨by have := HK1.out; omega⟩,⟨by (try simp only [hl3_1]); (with_reducible repeat (first | apply Kd.R_alloc | apply Kd.R_drewN | apply Kd.R_drew)); exact Kd.R_mono (Kd.R_far (p := ⟨gb435,3,none⟩) (Kd.R_far (p := ⟨gb435,2,none⟩) (Kd.R_far (p := ⟨gb435,1,none⟩) (Kd.R_far (p := ⟨gb435,0,none⟩) (Kd.R_types HO_3.out BK435.out (by decide)) (fun _ hk => hk.2) (.int .i64 ((rd_T25 l0 x19_1).f0))) (fun _ hk => hk.2) (.int .i64 ((rd_T25 l0 x19_1).f1))) (fun _ hk => hk.2) (.int .i64 ((rd_T25 l0 x19_1).f2))) (fun _ hk => hk.2) (.int .i64 ((rd_T25 l0 x19_1).f3))) (fun _ hk => trivial)⟩,⟨by repeat (first | (with_reducible first | exact HB.out | apply below_alloc | apply pw_below_drewN | apply below_drew1 | refine below_set ?_ GE435.out) | exact HB.out)⟩⟩
          ·
           rw [if_neg c16] at H
           exact absurd H (by simp)
         ·
          rw [if_neg c15] at H
          exact absurd H (by simp)
        ·
         rw [if_neg c14] at H
         exact absurd H (by simp)
       ·
        rw [if_neg c13] at H
        have c13b0 : decide (x19_1 < (l0.length : Int)) = false := decide_eq_false c13
        clear c13
        obtain rfl := Option.some.inj H
        go_wp2
        go_ret
        exact ⟨_,by first | rfl | (simp [errW_none,errW_some] <;> rfl) | (simp [*,errW_none,errW_some] <;> rfl),by (with_reducible repeat (first | apply Kd.R_alloc | apply Kd.R_drewN | apply Kd.R_drew)); exact HO_3.out,by repeat (first | (with_reducible first | exact HB.out | apply below_alloc | apply pw_below_drewN | apply below_drew1) | exact HB.out)⟩
    ·
     rw [if_neg c6] at H
     exact absurd H (by simp)
   ·
    rw [if_neg c5] at H
    exact absurd H (by simp)
  ·
   rw [if_neg c4] at H
   exact absurd H (by simp)
 ·
  replace c3 := Bool.eq_false_iff.mpr c3
  subst c3
  have H1 : (some (([] : List Bool))) = some r := by rw [if_neg (show ¬ (false = true) by decide)] at H; exact H
  clear H
  have H := H1
  clear H1
  obtain ⟨y427,hy427⟩ : ∃ y_ : List Bool,y_ = (([] : List Bool)) := ⟨_,rfl⟩
  replace H : (some y427) = some r := by first | (rw [hy427]; with_reducible exact H) | (have H2_ := (Option.bind_some _ _).symm.trans H; rw [hy427]; with_reducible exact H2_) | (have H2_ := (Option.bind_some _ _).symm.trans H; with_reducible exact H2_) | with_reducible exact H | (rw [hy427]; exact H) | exact H
  have Ny427 := Aside0.mk hy427
  clear hy427
  obtain rfl := Option.some.inj H
  go_enter Try.func50,Try.ntmps50
  go_wp2_with (first | ((with_reducible refine gate_callee (f := 40) rfl ?_); refine goesL_ (some 9) rfl rfl Try.func40 (by kernel_rfl) rfl #[.slice A0 l0.length c0] rfl (by (try simp only [List.map_toArray,List.map_cons,List.map_nil]); first | done | rfl | (simp only [List.length_drop,List.length_take]; rfl)) ?_; (with_reducible refine (impl_CheckProgram.calls k _ _ l0 false _ ?side1 ?side2 A2.out).mono ?_); (case side1 => repeat (first | exact HR0.out | (with_reducible refine Kd.C_alloc ?_ _) | (with_reducible refine Kd.C_drewN ?_ _) | (with_reducible refine Kd.C_drew ?_))); (case side2 => exact HC0.out); rintro e w34 ⟨rfl,hb⟩; refine ⟨_,rfl,?_⟩; have n0_ := Aside0.mk (below_step (by repeat (first | (with_reducible first | exact HB.out | apply below_alloc | apply pw_below_drewN | apply below_drew1) | exact HB.out)) hb); clear HB; have HB := n0_; clear n0_; (try clear hb); (try clear hb2); (try clear hk); (try clear hi)) | ((with_reducible refine gate_dst (N := 11) rfl ?_); refine Kd.R_lit Kd.bool _ 4 ?hg (N := 11) ?hd (xs := ([] : List Bool)) (inner := []) (ok := fun _ => True) (okp := fun _ => True) ?hr ?hp (fun _ hk => hk) trivial (Below.refl _ _) (Nat.le_refl _) (by simp) ?_; (case hd => rfl); (case hg => rfl); (case hr => first | (go_simp; done) | (go_simp; rfl)); (case hp => exact (Reps.none _ _)); intro v428 w35 ho36 hb hg_ hnew_; clear hg_ hnew_; (first | rw [← Ny427.out] at ho36 | (simp only [Int.reduceToNat] at ho36; rw [← Ny427.out] at ho36)); have n0_ := Aside0.mk (Kd.R_lower ho36 (below_size (by repeat (first | (with_reducible first | exact HB.out | apply below_alloc | apply pw_below_drewN | apply below_drew1) | exact HB.out)))); have n1_ := Aside0.mk (below_step (by repeat (first | (with_reducible first | exact HB.out | apply below_alloc | apply pw_below_drewN | apply below_drew1) | exact HB.out)) hb); clear HB; have HO429 := n0_; have HB := n1_; clear n0_ n1_; clear hb ho36))
  go_ret
  exact ⟨_,by first | rfl | (simp [errW_none,errW_some] <;> rfl) | (simp [*,errW_none,errW_some] <;> rfl),by (with_reducible repeat (first | apply Kd.R_alloc | apply Kd.R_drewN | apply Kd.R_drew)); exact HO429.out,by repeat (first | (with_reducible first | exact HB.out | apply below_alloc | apply pw_below_drewN | apply below_drew1) | exact HB.out)⟩

/-! ### spec_Reached: function 51 -/
mutual
def spec_Reached.l0 : Nat → List (S25) → List Bool → Int → Option (List Bool)
 | 0,_,_,_ => none
 | k + 1,x0,x3,x4 => if x4 < (x0.length : Int) then (if 0 ≤ x4 then (if x4 < (x3.length : Int) then (if rdOf false x3 x4 = true then (spec_Reached.j1 k x0 x3 x4 (((rd_T25 x0 x4).f0) == 8) ((rd_T25 x0 x4).f0) ((rd_T25 x0 x4).f1) ((rd_T25 x0 x4).f2) ((rd_T25 x0 x4).f3)) else (spec_Reached.j1 k x0 x3 x4 true ((rd_T25 x0 x4).f0) ((rd_T25 x0 x4).f1) ((rd_T25 x0 x4).f2) ((rd_T25 x0 x4).f3))) else (none)) else (none)) else (some x3)
def spec_Reached.j1 : Nat → List (S25) → List Bool → Int → Bool → Int → Int → Int → Int → Option (List Bool)
 | 0,_,_,_,_,_,_,_,_ => none
 | k + 1,x0,x3,x4,x34,x452000,x452001,x452002,x452003 => if x34 = true then (spec_Reached.l0 k x0 x3 (wrap64 (x4 + 1))) else (if x452000 = 7 then (if 0 ≤ (wrap64 ((wrap64 (x4 + 1)) + x452001)) then (if (wrap64 ((wrap64 (x4 + 1)) + x452001)) < (x3.length : Int) then (spec_Reached.l0 k x0 (x3.set ((wrap64 ((wrap64 (x4 + 1)) + x452001)) : Int).toNat true) (wrap64 (x4 + 1))) else (none)) else (none)) else (if 0 ≤ (wrap64 ((wrap64 (x4 + 1)) + x452002)) then (if (wrap64 ((wrap64 (x4 + 1)) + x452002)) < (x3.length : Int) then (if 0 ≤ (wrap64 ((wrap64 (x4 + 1)) + x452003)) then (if (wrap64 ((wrap64 (x4 + 1)) + x452003)) < (x3.length : Int) then (spec_Reached.l0 k x0 ((x3.set ((wrap64 ((wrap64 (x4 + 1)) + x452002)) : Int).toNat true).set ((wrap64 ((wrap64 (x4 + 1)) + x452003)) : Int).toNat true) (wrap64 (x4 + 1))) else (none)) else (none)) else (none)) else (none)))
end
def spec_Reached.f (k : Nat) (l0 : List (S25)) : Option (List Bool) := (spec_CheckProgram.f k l0).bind fun t442 => (if t442 = true then (if 0 ≤ (l0.length : Int) then (if ((l0.length : Int) : Int).toNat ≤ 281474976710656 then ((some (List.replicate ((l0.length : Int) : Int).toNat false : List Bool)).bind fun y446 => (if 0 < (y446.length : Int) then (spec_Reached.l0 k l0 (y446.set (0 : Int).toNat true) 0) else (none))) else (none)) else (none)) else (some (([] : List Bool))))
theorem spec_Reached.mono_l : ∀ k,(∀ y0 y1 y2,LeO (spec_Reached.l0 k y0 y1 y2) (spec_Reached.l0 (k + 1) y0 y1 y2)) ∧ (∀ y0 y1 y2 y3 y4 y5 y6 y7,LeO (spec_Reached.j1 k y0 y1 y2 y3 y4 y5 y6 y7) (spec_Reached.j1 (k + 1) y0 y1 y2 y3 y4 y5 y6 y7))
 | 0 => ⟨fun _ _ _ r h => by simp [spec_Reached.l0] at h,fun _ _ _ _ _ _ _ _ r h => by simp [spec_Reached.j1] at h⟩
 | k + 1 => by
  obtain ⟨ih0,ih1⟩ := spec_Reached.mono_l k
  refine ⟨?_,?_⟩
  ·
   intro y0 y1 y2
   unfold spec_Reached.l0
   repeat' first
   | (with_reducible exact ih0 _ _ _)
   | (with_reducible exact ih1 _ _ _ _ _ _ _ _)
   | (with_reducible exact spec_CheckProgram.mono _ _)
   | (with_reducible exact LeO.refl _)
   | (with_reducible exact LeO.none _)
   | (with_reducible refine LeO.ite ?_ ?_)
   | (with_reducible refine LeO.bind ?_ (fun _ => ?_))
   | exact ih0 _ _ _
   | exact ih1 _ _ _ _ _ _ _ _
   | exact spec_CheckProgram.mono _ _
   | exact LeO.none _
   | refine LeO.ite ?_ ?_
   | refine LeO.bind ?_ (fun _ => ?_)
  ·
   intro y0 y1 y2 y3 y4 y5 y6 y7
   unfold spec_Reached.j1
   repeat' first
   | (with_reducible exact ih0 _ _ _)
   | (with_reducible exact ih1 _ _ _ _ _ _ _ _)
   | (with_reducible exact spec_CheckProgram.mono _ _)
   | (with_reducible exact LeO.refl _)
   | (with_reducible exact LeO.none _)
   | (with_reducible refine LeO.ite ?_ ?_)
   | (with_reducible refine LeO.bind ?_ (fun _ => ?_))
   | exact ih0 _ _ _
   | exact ih1 _ _ _ _ _ _ _ _
   | exact spec_CheckProgram.mono _ _
   | exact LeO.none _
   | refine LeO.ite ?_ ?_
   | refine LeO.bind ?_ (fun _ => ?_)
theorem spec_Reached.mono : ∀ a0 k,LeO (spec_Reached.f k a0) (spec_Reached.f (k + 1) a0) := by
 intro a0 k
 obtain ⟨ih0,ih1⟩ := spec_Reached.mono_l k
 unfold spec_Reached.f
 repeat' first
   | (with_reducible exact ih0 _ _ _)
   | (with_reducible exact ih1 _ _ _ _ _ _ _ _)
   | (with_reducible exact spec_CheckProgram.mono _ _)
   | (with_reducible exact LeO.refl _)
   | (with_reducible exact LeO.none _)
   | (with_reducible refine LeO.ite ?_ ?_)
   | (with_reducible refine LeO.bind ?_ (fun _ => ?_))
   | exact ih0 _ _ _
   | exact ih1 _ _ _ _ _ _ _ _
   | exact spec_CheckProgram.mono _ _
   | exact LeO.none _
   | refine LeO.ite ?_ ?_
   | refine LeO.bind ?_ (fun _ => ?_)
set_option maxHeartbeats 8000000 in
set_option maxRecDepth 100000 in
theorem spec_Reached.calls (k : Nat) (A0 : Option Addr) (c0 : Nat) (l0 : List (S25)) (r : List Bool) (w : World) (hr0 : Kd.C k25 w A0 l0.length l0) (hc0 : l0.length ≤ c0) (h : spec_Reached.f k l0 = some r) :
  Calls Try.prog 51 #[.slice A0 l0.length c0] w fun e w' => ∃ v0_ : Value,e = .returned (v0_) ∧ Kd.R Kd.bool 4 w' w.heap.size (fun _ => True) v0_ r ∧ Below w.heap.size w w' := by
 have hu25 := Try.underlying25
 have HR0 := Aside0.mk hr0
 have HC0 := Aside0.mk hc0
 clear hr0 hc0
 have HB := Aside0.mk (Below.refl w.heap.size w)
 have H : ((spec_CheckProgram.f k l0).bind fun t442 => (if t442 = true then (if 0 ≤ (l0.length : Int) then (if ((l0.length : Int) : Int).toNat ≤ 281474976710656 then ((some (List.replicate ((l0.length : Int) : Int).toNat false : List Bool)).bind fun y446 => (if 0 < (y446.length : Int) then (spec_Reached.l0 k l0 (y446.set (0 : Int).toNat true) 0) else (none))) else (none)) else (none)) else (some (([] : List Bool))))) = some r := h
 clear h
 replace H := Option.bind_eq_some_iff.mp H
 obtain ⟨t442,A20,H⟩ := H
 replace H : (if t442 = true then (if 0 ≤ (l0.length : Int) then (if ((l0.length : Int) : Int).toNat ≤ 281474976710656 then ((some (List.replicate ((l0.length : Int) : Int).toNat false : List Bool)).bind fun y446 => (if 0 < (y446.length : Int) then (spec_Reached.l0 k l0 (y446.set (0 : Int).toNat true) 0) else (none))) else (none)) else (none)) else (some (([] : List Bool)))) = some r := H
 have A2 := Aside0.mk A20
 clear A20
 by_cases c3 : t442 = true
 ·
  subst c3
  have H1 : (if 0 ≤ (l0.length : Int) then (if ((l0.length : Int) : Int).toNat ≤ 281474976710656 then ((some (List.replicate ((l0.length : Int) : Int).toNat false : List Bool)).bind fun y446 => (if 0 < (y446.length : Int) then (spec_Reached.l0 k l0 (y446.set (0 : Int).toNat true) 0) else (none))) else (none)) else (none)) = some r := by rw [if_pos rfl] at H; exact H
  clear H
  have H := H1
  clear H1
  by_cases c4 : 0 ≤ (l0.length : Int)
  ·
   rw [if_pos c4] at H
   have c4b0 := eq_true c4
   have c4b1 : decide (0 ≤ (l0.length : Int)) = true := decide_eq_true c4
   clear c4
   by_cases c5 : ((l0.length : Int) : Int).toNat ≤ 281474976710656
   ·
    rw [if_pos c5] at H
    have c5b0 := eq_true c5
    have c5b1 : decide (((l0.length : Int) : Int).toNat ≤ 281474976710656) = true := decide_eq_true c5
    clear c5
    obtain ⟨y446,hy446⟩ : ∃ y_ : List Bool,y_ = (List.replicate ((l0.length : Int) : Int).toNat false) := ⟨_,rfl⟩
    replace H : (if 0 < (y446.length : Int) then (spec_Reached.l0 k l0 (y446.set (0 : Int).toNat true) 0) else (none)) = some r := by first | (rw [hy446]; with_reducible exact H) | (have H2_ := (Option.bind_some _ _).symm.trans H; rw [hy446]; with_reducible exact H2_) | (have H2_ := (Option.bind_some _ _).symm.trans H; with_reducible exact H2_) | with_reducible exact H | (rw [hy446]; exact H) | exact H
    have Ny446 := Aside0.mk hy446
    clear hy446
    by_cases c6 : 0 < (y446.length : Int)
    ·
     rw [if_pos c6] at H
     have c6b0 : decide (0 < (y446.length : Int)) = true := decide_eq_true c6
     have c6b1 : decide (0 < y446.length) = true := decide_eq_true (by omega)
     clear c6
     obtain ⟨y449,hy449⟩ : ∃ y_ : List Bool,y_ = (y446.set (0 : Int).toNat true) := ⟨_,rfl⟩
     replace H : (spec_Reached.l0 k l0 y449 0) = some r := by first | (rw [hy449]; with_reducible exact H) | (have H2_ := (Option.bind_some _ _).symm.trans H; rw [hy449]; with_reducible exact H2_) | (have H2_ := (Option.bind_some _ _).symm.trans H; with_reducible exact H2_) | with_reducible exact H | (rw [hy449]; exact H) | exact H
     have Ny449 := Aside0.mk hy449
     clear hy449
     have H' := Aside0.mk H
     clear H
     go_enter Try.func51,Try.ntmps51
     go_wp2_with (first | ((with_reducible refine gate_callee (f := 39) rfl ?_); refine goesL_ (some 7) rfl rfl Try.func39 (by kernel_rfl) rfl #[.slice A0 l0.length c0] rfl (by (try simp only [List.map_toArray,List.map_cons,List.map_nil]); first | done | rfl | (simp only [List.length_drop,List.length_take]; rfl)) ?_; (with_reducible refine (spec_CheckProgram.calls k _ _ l0 true _ ?side1 ?side2 A2.out).mono ?_); (case side1 => repeat (first | exact HR0.out | (with_reducible refine Kd.C_alloc ?_ _) | (with_reducible refine Kd.C_drewN ?_ _) | (with_reducible refine Kd.C_drew ?_))); (case side2 => exact HC0.out); rintro e w8 ⟨rfl,hb⟩; refine ⟨_,rfl,?_⟩; have n0_ := Aside0.mk (below_step (by repeat (first | (with_reducible first | exact HB.out | apply below_alloc | apply pw_below_drewN | apply below_drew1) | exact HB.out)) hb); clear HB; have HB := n0_; clear n0_; (try clear hb); (try clear hb2); (try clear hk); (try clear hi)) | ((with_reducible refine gate_dst (N := 12) rfl ?_); refine Kd.R_make Kd.bool _ 4 rfl (N := 12) rfl 65 _ _ rfl (l0.length : Int) rfl rfl Try.underlying65 (.bool false) 1 info4 rfl (by decide) (by omega) false (ok := fun _ => True) (okp := fun _ => True) rfl (fun _ hk => hk) trivial (of_decide_eq_true (by first | (with_reducible assumption) | assumption)) (Nat.le_trans (Nat.mul_le_mul_right _ (of_decide_eq_true (by first | (with_reducible assumption) | assumption) : (l0.length : Int).toNat ≤ 281474976710656)) (by omega)) (Below.refl _ _) (Nat.le_refl _) ?_; intro v447 w9 ho10 hb hg_ hnew_; clear hg_ hnew_; (first | rw [← Ny446.out] at ho10 | (simp only [Int.reduceToNat] at ho10; rw [← Ny446.out] at ho10)); have n0_ := Aside0.mk (Kd.R_lower ho10 (below_size (by repeat (first | (with_reducible first | exact HB.out | apply below_alloc | apply pw_below_drewN | apply below_drew1) | exact HB.out)))); have n1_ := Aside0.mk (below_step (by repeat (first | (with_reducible first | exact HB.out | apply below_alloc | apply pw_below_drewN | apply below_drew1) | exact HB.out)) hb); clear HB; have HO448 := n0_; have HB := n1_; clear n0_ n1_; clear hb ho10; have p7 : 0 ≤ (0 : Int) := (by omega); have q7 : (0 : Int) < ((y446.length : Int) : Int) := of_decide_eq_true (by first | (with_reducible assumption) | assumption); have qi7 : (0 < y446.length) = True := eq_true (by omega); obtain ⟨go7,co7,eo7,gb7,gl7,cl7,HG7⟩ := Kd.R_form HO448.out (by omega); (first | cases eo7 | (injection eo7 with ea_ en_ ec_; (first | subst ea_ | (injection ea_ with ea_; subst ea_)); subst ec_; clear en_)); have GB7 := Aside0.mk gb7; have GG7 := Aside0.mk HG7; clear gb7 gl7 HG7; obtain ⟨hx7_0,hf7_0⟩ := Kd.R_celln false HO448.out (0 : Int) p7 q7; (try rw [show ((0 : Int)).toNat = 0 from rfl] at hx7_0); (try simp only [Nat.reduceMul,Nat.zero_mul,Nat.zero_add,Nat.reduceAdd] at hx7_0); (try rw [show ((0 : Int)).toNat = 0 from rfl] at hf7_0); (try simp only [Nat.reduceMul,Nat.zero_mul,Nat.zero_add,Nat.reduceAdd] at hf7_0); replace p7 := eq_true p7; replace q7 := eq_true q7; obtain ⟨hy11_,hz11_⟩ := Kd.R_celln false HO448.out (0 : Int) (by omega) (of_decide_eq_true (by first | (with_reducible assumption) | assumption)); (try simp only [Int.reduceToNat,Int.toNat_zero,Int.toNat_ofNat,Nat.reduceMul,Nat.zero_mul,Nat.zero_add] at hy11_ hz11_); (try rw [show ((0 : Int)).toNat = 0 from rfl] at hy11_); (try rw [show ((0 : Int)).toNat = 0 from rfl] at hz11_); have HP11 := Kd.R_putg HO448.out (0 : Int) true) | ((with_reducible refine gate_store (t := 4) (p := 14) rfl ?_); refine store_event (t := 4) (p := 14) (v := ?vo_w12) (w1 := (w9.setCell ⟨go7,(0 : Int).toNat,none⟩ (.bool true))) ?hg ?ho ?hn ?hr ?_; (case ho => rfl); (case hg => rfl); (case hn => rfl); (case hr => first | (go_simp; done) | (go_simp; rfl)); intro w12 hw; have hg : w9.grownBy w12 (some go7) := (by rw [hw]; exact HP11.2); have hp_ : Kd.R Kd.bool 4 w12 w.heap.size (fun _ => True) (.slice (some ⟨go7,0,none⟩) y446.length co7) y449 := (by rw [hw,Ny449.out]; exact HP11.1); clear HP11; have n0_ := Aside0.mk (hp_); have n1_ := Aside0.mk ((by rw [hw]; exact below_set (HB.out) GB7.out : Below w.heap.size w w12)); clear HO448; clear HB; have HO448 := n0_; have HB := n1_; clear n0_ n1_; clear hg hw hp_))
     go_loopg [4] k (fun kq v4 w' => ∃ (x3_1 : List Bool) (x4_1 : Int),v4 = .int .i64 x4_1 ∧ Aside0 (spec_Reached.l0 kq l0 x3_1 x4_1 = some r) ∧ Aside0 (kq ≤ k) ∧ Aside0 (Kd.R Kd.bool 4 w' w.heap.size (fun _ => True) (.slice (some ⟨go7,0,none⟩) y446.length co7) x3_1) ∧ Aside0 (Below w.heap.size w w'))
     case atStart => exact ⟨(y449),(0),(by first | rfl | (simp; done) | (simp [*]; done)),H',⟨Nat.le_refl _⟩,⟨by (with_reducible repeat (first | apply Kd.R_alloc | apply Kd.R_drewN | apply Kd.R_drew)); exact HO448.out⟩,⟨by repeat (first | (with_reducible first | exact HB.out | apply below_alloc | apply pw_below_drewN | apply below_drew1) | exact HB.out)⟩⟩
     case round =>
      clear H'
      try clear p2
      try clear c3
      try clear c4
      try clear c4b0
      try clear c4b1
      try clear c5
      try clear c5b0
      try clear c5b1
      try clear c6
      try clear c6b0
      try clear c6b1
      try clear p7
      try clear q7
      try clear hx7
      try clear qi7
      try clear hf7
      try clear hx7_0
      try clear p7
      try clear q7
      obtain ⟨x3_1,x4_1,rfl,HA,HK1,HO_3,HB⟩ := hrel
      have hl3_1 := (Kd.R_reads' HO_3.out).1
      rw [hl3_1] at HO_3
      (try simp only [hl3_1])
      cases gk with
      | zero => exact absurd HA.out (by simp [spec_Reached.l0])
      | succ k1 =>
       have H := HA.out
       clear HA
       simp only [spec_Reached.l0] at H
       by_cases c13 : x4_1 < (l0.length : Int)
       ·
        rw [if_pos c13] at H
        have c13b0 : decide (x4_1 < (l0.length : Int)) = true := decide_eq_true c13
        clear c13
        by_cases c14 : 0 ≤ x4_1
        ·
         rw [if_pos c14] at H
         have c14b0 : decide (0 ≤ x4_1) = true := decide_eq_true c14
         clear c14
         have HC15 := Aside0.mk H
         clear H
         have p450 : 0 ≤ (x4_1 : Int) := of_decide_eq_true (by first | (with_reducible assumption) | assumption)
         have q450 : x4_1 < (l0.length : Int) := of_decide_eq_true (by first | (with_reducible assumption) | assumption)
         obtain ⟨ad450,e450,hx450_0,hx450_1,hx450_2,hx450_3⟩ := at_T25 HR0.out x4_1 p450 q450
         cases e450
         replace hx450_0 := (HB.out.cell (World.block_lt_of_cell? w _ hx450_0)).trans hx450_0
         replace hx450_1 := (HB.out.cell (World.block_lt_of_cell? w _ hx450_1)).trans hx450_1
         replace hx450_2 := (HB.out.cell (World.block_lt_of_cell? w _ hx450_2)).trans hx450_2
         replace hx450_3 := (HB.out.cell (World.block_lt_of_cell? w _ hx450_3)).trans hx450_3
         replace p450 := eq_true p450
         replace q450 := eq_true q450
         go_upto_region 9 with (first | ((with_reducible refine gate_dst (N := 5) rfl ?_); refine box_event ?hg (N := 5) ?hd (cs := #[.int .i64 0,.int .i64 0,.int .i64 0,.int .i64 0]) (t := 25) ?hr ?_; (case hd => rfl); (case hg => rfl); (case hr => first | (go_simp; done) | (go_simp; rfl)); intro gb451 hg w16 hbox hb; have n0_ := Aside0.mk (Kd.R_below (by (with_reducible repeat (first | apply Kd.R_alloc | apply Kd.R_drewN | apply Kd.R_drew)); exact HO_3.out) hb); have n1_ := Aside0.mk (below_step (by repeat (first | (with_reducible first | exact HB.out | apply below_alloc | apply pw_below_drewN | apply below_drew1) | exact HB.out)) hb); have n2_ := Aside0.mk (hbox); have n3_ := Aside0.mk ((by rw [hg]; exact (below_size (by repeat (first | (with_reducible first | exact HB.out | apply below_alloc | apply pw_below_drewN | apply below_drew1) | exact HB.out))) : w.heap.size ≤ gb451)); have n4_ := Aside0.mk ((by rw [hg]; exact (below_size (by repeat (first | (with_reducible first | exact HB.out | apply below_alloc | apply pw_below_drewN | apply below_drew1) | exact HB.out))) : w.heap.size ≤ gb451)); clear HO_3; clear HB; have HO_3 := n0_; have HB := n1_; have BK451 := n2_; have GW451 := n3_; have GE451 := n4_; clear n0_ n1_ n2_ n3_ n4_; clear hb hbox hg; have hcz17_0 : w16.cell? ⟨gb451,0,none⟩ = some (.int .i64 0) := (blk_cell BK451.out 0).trans rfl; have hcz17_1 : w16.cell? ⟨gb451,1,none⟩ = some (.int .i64 0) := (blk_cell BK451.out 1).trans rfl; have hcz17_2 : w16.cell? ⟨gb451,2,none⟩ = some (.int .i64 0) := (blk_cell BK451.out 2).trans rfl; have hcz17_3 : w16.cell? ⟨gb451,3,none⟩ = some (.int .i64 0) := (blk_cell BK451.out 3).trans rfl; have hfz17_0 := blk_frozen BK451.out 0; have hfz17_1 := blk_frozen BK451.out 1; have hfz17_2 := blk_frozen BK451.out 2; have hfz17_3 := blk_frozen BK451.out 3))
         (try simp only [Act.put,List.setIfInBounds_toArray,List.set_cons_zero,List.set_cons_succ])
         go_cut [34] (fun v34 wc => ∃ (kq : Nat) (x34_14 : Bool),v34 = .bool x34_14 ∧ Aside0 (spec_Reached.j1 kq l0 x3_1 x4_1 x34_14 ((rd_T25 l0 x4_1).f0) ((rd_T25 l0 x4_1).f1) ((rd_T25 l0 x4_1).f2) ((rd_T25 l0 x4_1).f3) = some r) ∧ Aside0 (kq ≤ k1) ∧ Aside0 (Kd.R Kd.bool 4 wc w.heap.size (fun _ => True) (.slice (some ⟨go7,0,none⟩) x3_1.length co7) x3_1) ∧ Aside0 (wc.heap[gb451]? = some (.cells #[.int .i64 ((rd_T25 l0 x4_1).f0),.int .i64 ((rd_T25 l0 x4_1).f1),.int .i64 ((rd_T25 l0 x4_1).f2),.int .i64 ((rd_T25 l0 x4_1).f3)] 25 (0,0))) ∧ Aside0 (Below w.heap.size w wc))
         case first =>
          have H := HC15.out
          clear HC15
          by_cases c18 : x4_1 < (x3_1.length : Int)
          ·
           rw [if_pos c18] at H
           have c18b0 : decide (x4_1 < (x3_1.length : Int)) = true := decide_eq_true c18
           clear c18
           (first | rw [c18b0] | (simp only [i64_w,i32_w]; rw [c18b0]) | skip)
           obtain ⟨bq19,hbq19⟩ : ∃ b_ : Bool,b_ = (rdOf false x3_1 x4_1) := ⟨_,rfl⟩
           replace H : (if bq19 = true then (spec_Reached.j1 k1 l0 x3_1 x4_1 (((rd_T25 l0 x4_1).f0) == 8) ((rd_T25 l0 x4_1).f0) ((rd_T25 l0 x4_1).f1) ((rd_T25 l0 x4_1).f2) ((rd_T25 l0 x4_1).f3)) else (spec_Reached.j1 k1 l0 x3_1 x4_1 true ((rd_T25 l0 x4_1).f0) ((rd_T25 l0 x4_1).f1) ((rd_T25 l0 x4_1).f2) ((rd_T25 l0 x4_1).f3))) = some r := by rw [← hbq19] at H; exact H
           have Nbq19 := Aside0.mk hbq19
           clear hbq19
           by_cases c20 : bq19 = true
           ·
            subst c20
            have H1 : (spec_Reached.j1 k1 l0 x3_1 x4_1 (((rd_T25 l0 x4_1).f0) == 8) ((rd_T25 l0 x4_1).f0) ((rd_T25 l0 x4_1).f1) ((rd_T25 l0 x4_1).f2) ((rd_T25 l0 x4_1).f3)) = some r := by rw [if_pos rfl] at H; exact H
            clear H
            have H := H1
            clear H1
            have H' := Aside0.mk H
            clear H
            have p452 : 0 ≤ (x4_1 : Int) := of_decide_eq_true (by first | (with_reducible assumption) | assumption)
            have q452 : x4_1 < (x3_1.length : Int) := of_decide_eq_true (by first | (with_reducible assumption) | assumption)
            obtain ⟨ad452,e452,hx452_0⟩ := Kd.at_bool (Kd.R_reads' HO_3.out).2.2 x4_1 p452 q452
            (try rw [← Nbq19.out] at hx452_0)
            obtain rfl : (⟨go7,0,none⟩ : Addr) = ad452 := (by injection e452)
            (first | simp only [add_plain] at hx452_0 | simp only [add_at] at hx452_0 | simp only [Addr.add,Nat.zero_add] at hx452_0 | skip)
            have hn452_0 : (⟨go7,0,none⟩ : Addr).block ≠ gb451 := Kd.own_blk (Kd.R_ne HO_3.out BK451.out (by decide))
            have hn452_1 : (⟨go7,0,none⟩ : Addr).block ≠ gb451 := Kd.own_blk (Kd.R_ne HO_3.out BK451.out (by decide))
            have hn452_2 : (⟨go7,0,none⟩ : Addr).block ≠ gb451 := Kd.own_blk (Kd.R_ne HO_3.out BK451.out (by decide))
            have hn452_3 : (⟨go7,0,none⟩ : Addr).block ≠ gb451 := Kd.own_blk (Kd.R_ne HO_3.out BK451.out (by decide))
            replace hx452_0 := (cell_far (p := ⟨gb451,0,none⟩) (by first | (rw [add_block]; exact hn452_0) | (show (Addr.add _ _).block ≠ _; rw [add_block]; exact hn452_0) | exact hn452_0) (.int .i64 ((rd_T25 l0 x4_1).f0))).trans hx452_0
            replace hx452_0 := (cell_far (p := ⟨gb451,1,none⟩) (by first | (rw [add_block]; exact hn452_1) | (show (Addr.add _ _).block ≠ _; rw [add_block]; exact hn452_1) | exact hn452_1) (.int .i64 ((rd_T25 l0 x4_1).f1))).trans hx452_0
            replace hx452_0 := (cell_far (p := ⟨gb451,2,none⟩) (by first | (rw [add_block]; exact hn452_2) | (show (Addr.add _ _).block ≠ _; rw [add_block]; exact hn452_2) | exact hn452_2) (.int .i64 ((rd_T25 l0 x4_1).f2))).trans hx452_0
            replace hx452_0 := (cell_far (p := ⟨gb451,3,none⟩) (by first | (rw [add_block]; exact hn452_3) | (show (Addr.add _ _).block ≠ _; rw [add_block]; exact hn452_3) | exact hn452_3) (.int .i64 ((rd_T25 l0 x4_1).f3))).trans hx452_0
            clear hn452_0
            clear hn452_1
            clear hn452_2
            clear hn452_3
            replace p452 := eq_true p452
            replace q452 := eq_true q452
            have hcz21_0 : w16.cell? ⟨gb451,0,none⟩ = some (.int .i64 0) := (blk_cell BK451.out 0).trans rfl
            have hcz21_1 : w16.cell? ⟨gb451,1,none⟩ = some (.int .i64 0) := (blk_cell BK451.out 1).trans rfl
            have hcz21_2 : w16.cell? ⟨gb451,2,none⟩ = some (.int .i64 0) := (blk_cell BK451.out 2).trans rfl
            have hcz21_3 : w16.cell? ⟨gb451,3,none⟩ = some (.int .i64 0) := (blk_cell BK451.out 3).trans rfl
            have hfz21_0 := blk_frozen BK451.out 0
            have hfz21_1 := blk_frozen BK451.out 1
            have hfz21_2 := blk_frozen BK451.out 2
            have hfz21_3 := blk_frozen BK451.out 3
            go_wp2
            go_meet
            case rel => exact ⟨_,((((rd_T25 l0 x4_1).f0) == 8)),(by first | rfl | (simp; done) | (simp [*]; done)),H',⟨by have := HK1.out; first | omega | exact Nat.le_refl _⟩,⟨by (try simp only [hl3_1]); (with_reducible repeat (first | apply Kd.R_alloc | apply Kd.R_drewN | apply Kd.R_drew)); exact Kd.R_mono (Kd.R_far (p := ⟨gb451,3,none⟩) (Kd.R_far (p := ⟨gb451,2,none⟩) (Kd.R_far (p := ⟨gb451,1,none⟩) (Kd.R_far (p := ⟨gb451,0,none⟩) (Kd.R_types HO_3.out BK451.out (by decide)) (fun _ hk => hk.2) (.int .i64 ((rd_T25 l0 x4_1).f0))) (fun _ hk => hk.2) (.int .i64 ((rd_T25 l0 x4_1).f1))) (fun _ hk => hk.2) (.int .i64 ((rd_T25 l0 x4_1).f2))) (fun _ hk => hk.2) (.int .i64 ((rd_T25 l0 x4_1).f3))) (fun _ hk => trivial)⟩,⟨by (try simp only [hl3_1]); (with_reducible repeat (first | refine blk_drewN ?_ _ | refine blk_drew ?_ | refine blk_alloc ?_ _)); refine blk_put (cs := #[.int .i64 ((rd_T25 l0 x4_1).f0),.int .i64 ((rd_T25 l0 x4_1).f1),.int .i64 ((rd_T25 l0 x4_1).f2),.int .i64 0]) ?_ 3 _ rfl; (with_reducible repeat (first | refine blk_drewN ?_ _ | refine blk_drew ?_ | refine blk_alloc ?_ _)); refine blk_put (cs := #[.int .i64 ((rd_T25 l0 x4_1).f0),.int .i64 ((rd_T25 l0 x4_1).f1),.int .i64 0,.int .i64 0]) ?_ 2 _ rfl; (with_reducible repeat (first | refine blk_drewN ?_ _ | refine blk_drew ?_ | refine blk_alloc ?_ _)); refine blk_put (cs := #[.int .i64 ((rd_T25 l0 x4_1).f0),.int .i64 0,.int .i64 0,.int .i64 0]) ?_ 1 _ rfl; (with_reducible repeat (first | refine blk_drewN ?_ _ | refine blk_drew ?_ | refine blk_alloc ?_ _)); refine blk_put (cs := #[.int .i64 0,.int .i64 0,.int .i64 0,.int .i64 0]) ?_ 0 _ rfl; (with_reducible repeat (first | refine blk_drewN ?_ _ | refine blk_drew ?_ | refine blk_alloc ?_ _)); exact BK451.out⟩,⟨by repeat (first | (with_reducible first | exact HB.out | apply below_alloc | apply pw_below_drewN | apply below_drew1 | refine below_set ?_ GE451.out) | exact HB.out)⟩⟩
           ·
            replace c20 := Bool.eq_false_iff.mpr c20
            subst c20
            have H1 : (spec_Reached.j1 k1 l0 x3_1 x4_1 true ((rd_T25 l0 x4_1).f0) ((rd_T25 l0 x4_1).f1) ((rd_T25 l0 x4_1).f2) ((rd_T25 l0 x4_1).f3)) = some r := by rw [if_neg (show ¬ (false = true) by decide)] at H; exact H
            clear H
            have H := H1
            clear H1
            have H' := Aside0.mk H
            clear H
            have p452 : 0 ≤ (x4_1 : Int) := of_decide_eq_true (by first | (with_reducible assumption) | assumption)
            have q452 : x4_1 < (x3_1.length : Int) := of_decide_eq_true (by first | (with_reducible assumption) | assumption)
            obtain ⟨ad452,e452,hx452_0⟩ := Kd.at_bool (Kd.R_reads' HO_3.out).2.2 x4_1 p452 q452
            (try rw [← Nbq19.out] at hx452_0)
            obtain rfl : (⟨go7,0,none⟩ : Addr) = ad452 := (by injection e452)
            (first | simp only [add_plain] at hx452_0 | simp only [add_at] at hx452_0 | simp only [Addr.add,Nat.zero_add] at hx452_0 | skip)
            have hn452_0 : (⟨go7,0,none⟩ : Addr).block ≠ gb451 := Kd.own_blk (Kd.R_ne HO_3.out BK451.out (by decide))
            have hn452_1 : (⟨go7,0,none⟩ : Addr).block ≠ gb451 := Kd.own_blk (Kd.R_ne HO_3.out BK451.out (by decide))
            have hn452_2 : (⟨go7,0,none⟩ : Addr).block ≠ gb451 := Kd.own_blk (Kd.R_ne HO_3.out BK451.out (by decide))
            have hn452_3 : (⟨go7,0,none⟩ : Addr).block ≠ gb451 := Kd.own_blk (Kd.R_ne HO_3.out BK451.out (by decide))
            replace hx452_0 := (cell_far (p := ⟨gb451,0,none⟩) (by first | (rw [add_block]; exact hn452_0) | (show (Addr.add _ _).block ≠ _; rw [add_block]; exact hn452_0) | exact hn452_0) (.int .i64 ((rd_T25 l0 x4_1).f0))).trans hx452_0
            replace hx452_0 := (cell_far (p := ⟨gb451,1,none⟩) (by first | (rw [add_block]; exact hn452_1) | (show (Addr.add _ _).block ≠ _; rw [add_block]; exact hn452_1) | exact hn452_1) (.int .i64 ((rd_T25 l0 x4_1).f1))).trans hx452_0
            replace hx452_0 := (cell_far (p := ⟨gb451,2,none⟩) (by first | (rw [add_block]; exact hn452_2) | (show (Addr.add _ _).block ≠ _; rw [add_block]; exact hn452_2) | exact hn452_2) (.int .i64 ((rd_T25 l0 x4_1).f2))).trans hx452_0
            replace hx452_0 := (cell_far (p := ⟨gb451,3,none⟩) (by first | (rw [add_block]; exact hn452_3) | (show (Addr.add _ _).block ≠ _; rw [add_block]; exact hn452_3) | exact hn452_3) (.int .i64 ((rd_T25 l0 x4_1).f3))).trans hx452_0
            clear hn452_0
            clear hn452_1
            clear hn452_2
            clear hn452_3
            replace p452 := eq_true p452
            replace q452 := eq_true q452
            go_wp2
            go_meet
            case rel => exact ⟨_,(true),(by first | rfl | (simp; done) | (simp [*]; done)),H',⟨by have := HK1.out; first | omega | exact Nat.le_refl _⟩,⟨by (try simp only [hl3_1]); (with_reducible repeat (first | apply Kd.R_alloc | apply Kd.R_drewN | apply Kd.R_drew)); exact Kd.R_mono (Kd.R_far (p := ⟨gb451,3,none⟩) (Kd.R_far (p := ⟨gb451,2,none⟩) (Kd.R_far (p := ⟨gb451,1,none⟩) (Kd.R_far (p := ⟨gb451,0,none⟩) (Kd.R_types HO_3.out BK451.out (by decide)) (fun _ hk => hk.2) (.int .i64 ((rd_T25 l0 x4_1).f0))) (fun _ hk => hk.2) (.int .i64 ((rd_T25 l0 x4_1).f1))) (fun _ hk => hk.2) (.int .i64 ((rd_T25 l0 x4_1).f2))) (fun _ hk => hk.2) (.int .i64 ((rd_T25 l0 x4_1).f3))) (fun _ hk => trivial)⟩,⟨by (try simp only [hl3_1]); (with_reducible repeat (first | refine blk_drewN ?_ _ | refine blk_drew ?_ | refine blk_alloc ?_ _)); refine blk_put (cs := #[.int .i64 ((rd_T25 l0 x4_1).f0),.int .i64 ((rd_T25 l0 x4_1).f1),.int .i64 ((rd_T25 l0 x4_1).f2),.int .i64 0]) ?_ 3 _ rfl; (with_reducible repeat (first | refine blk_drewN ?_ _ | refine blk_drew ?_ | refine blk_alloc ?_ _)); refine blk_put (cs := #[.int .i64 ((rd_T25 l0 x4_1).f0),.int .i64 ((rd_T25 l0 x4_1).f1),.int .i64 0,.int .i64 0]) ?_ 2 _ rfl; (with_reducible repeat (first | refine blk_drewN ?_ _ | refine blk_drew ?_ | refine blk_alloc ?_ _)); refine blk_put (cs := #[.int .i64 ((rd_T25 l0 x4_1).f0),.int .i64 0,.int .i64 0,.int .i64 0]) ?_ 1 _ rfl; (with_reducible repeat (first | refine blk_drewN ?_ _ | refine blk_drew ?_ | refine blk_alloc ?_ _)); refine blk_put (cs := #[.int .i64 0,.int .i64 0,.int .i64 0,.int .i64 0]) ?_ 0 _ rfl; (with_reducible repeat (first | refine blk_drewN ?_ _ | refine blk_drew ?_ | refine blk_alloc ?_ _)); exact BK451.out⟩,⟨by repeat (first | (with_reducible first | exact HB.out | apply below_alloc | apply pw_below_drewN | apply below_drew1 | refine below_set ?_ GE451.out) | exact HB.out)⟩⟩
          ·
           rw [if_neg c18] at H
           exact absurd H (by simp)
         case rest =>
          clear HC15
          try clear c1
          try clear q1
          try clear c2
          try clear p2
          try clear c3
          try clear c4
          try clear c4b0
          try clear c4b1
          try clear p4
          try clear q4
          try clear hx4
          try clear c5
          try clear c5b0
          try clear c5b1
          try clear c6
          try clear c6b0
          try clear c6b1
          try clear p7
          try clear q7
          try clear hx7
          try clear qi7
          try clear hf7
          try clear c13
          try clear c13b0
          try clear c14
          try clear c14b0
          try clear c18
          try clear c18b0
          try clear q19
          try clear c20
          try clear hcz17_0
          try clear hcz17_1
          try clear hcz17_2
          try clear hcz17_3
          try clear hcz21_0
          try clear hcz21_1
          try clear hcz21_2
          try clear hcz21_3
          try clear hfz17_0
          try clear hfz17_1
          try clear hfz17_2
          try clear hfz17_3
          try clear hfz21_0
          try clear hfz21_1
          try clear hfz21_2
          try clear hfz21_3
          try clear hx450_0
          try clear hx450_1
          try clear hx450_2
          try clear hx450_3
          try clear hx452_0
          try clear hx7_0
          try clear p2
          try clear p450
          try clear p452
          try clear p7
          try clear q450
          try clear q452
          try clear q7
          obtain ⟨kq,x34_14,rfl,HA,HJ14,HO_3,BK451,HB⟩ := hcut
          cases kq with
          | zero => exact absurd HA.out (by simp [spec_Reached.j1])
          | succ kj14 =>
           have H := HA.out
           clear HA
           simp only [spec_Reached.j1] at H
           by_cases c22 : x34_14 = true
           ·
            subst c22
            have H1 : (spec_Reached.l0 kj14 l0 x3_1 (wrap64 (x4_1 + 1))) = some r := by rw [if_pos rfl] at H; exact H
            clear H
            have H := H1
            clear H1
            have H' := Aside0.mk H
            clear H
            go_wp2
            (try simp only [← hl3_1])
            go_roundg kj14
            case measure => have := HK1.out; have := HJ14.out; omega
            case rel => exact ⟨(x3_1),(wrap64 (x4_1 + 1)),(by first | rfl | (simp; done) | (simp [*]; done)),H',⟨by have := HK1.out; have := HJ14.out; omega⟩,⟨by (try simp only [hl3_1]); (with_reducible repeat (first | apply Kd.R_alloc | apply Kd.R_drewN | apply Kd.R_drew)); exact HO_3.out⟩,⟨by repeat (first | (with_reducible first | exact HB.out | apply below_alloc | apply pw_below_drewN | apply below_drew1 | refine below_set ?_ GE451.out) | exact HB.out)⟩⟩
           ·
            replace c22 := Bool.eq_false_iff.mpr c22
            subst c22
            have H1 : (if ((rd_T25 l0 x4_1).f0) = 7 then (if 0 ≤ (wrap64 ((wrap64 (x4_1 + 1)) + ((rd_T25 l0 x4_1).f1))) then (if (wrap64 ((wrap64 (x4_1 + 1)) + ((rd_T25 l0 x4_1).f1))) < (x3_1.length : Int) then (spec_Reached.l0 kj14 l0 (x3_1.set ((wrap64 ((wrap64 (x4_1 + 1)) + ((rd_T25 l0 x4_1).f1))) : Int).toNat true) (wrap64 (x4_1 + 1))) else (none)) else (none)) else (if 0 ≤ (wrap64 ((wrap64 (x4_1 + 1)) + ((rd_T25 l0 x4_1).f2))) then (if (wrap64 ((wrap64 (x4_1 + 1)) + ((rd_T25 l0 x4_1).f2))) < (x3_1.length : Int) then (if 0 ≤ (wrap64 ((wrap64 (x4_1 + 1)) + ((rd_T25 l0 x4_1).f3))) then (if (wrap64 ((wrap64 (x4_1 + 1)) + ((rd_T25 l0 x4_1).f3))) < (x3_1.length : Int) then (spec_Reached.l0 kj14 l0 ((x3_1.set ((wrap64 ((wrap64 (x4_1 + 1)) + ((rd_T25 l0 x4_1).f2))) : Int).toNat true).set ((wrap64 ((wrap64 (x4_1 + 1)) + ((rd_T25 l0 x4_1).f3))) : Int).toNat true) (wrap64 (x4_1 + 1))) else (none)) else (none)) else (none)) else (none))) = some r := by rw [if_neg (show ¬ (false = true) by decide)] at H; exact H
            clear H
            have H := H1
            clear H1
            by_cases c23 : ((rd_T25 l0 x4_1).f0) = 7
            ·
             rw [if_pos c23] at H
             have c23b0 : (((rd_T25 l0 x4_1).f0) == 7) = true := beq_iff_eq.mpr c23
             have c23b1 : (((rd_T25 l0 x4_1).f0) != 7) = false := bne_eq_false_iff_eq.mpr c23
             clear c23
             obtain ⟨ji24,hji24⟩ : ∃ j_ : Int,(wrap64 ((wrap64 (x4_1 + 1)) + ((rd_T25 l0 x4_1).f1))) = j_ := ⟨_,rfl⟩
             replace H : (if 0 ≤ (ji24) then (if (ji24) < (x3_1.length : Int) then (spec_Reached.l0 kj14 l0 (x3_1.set ((ji24) : Int).toNat true) (wrap64 (x4_1 + 1))) else (none)) else (none)) = some r := by first | (rw [hji24] at H; exact H) | (simp only [hji24] at H ⊢; exact H)
             have hji24w : (IntKind.i64.wrap ((wrap64 (x4_1 + 1)) + ((rd_T25 l0 x4_1).f1))) = ji24 := (i64_w _).trans hji24
             by_cases c25 : 0 ≤ (ji24)
             ·
              rw [if_pos c25] at H
              have c25b0 : decide (0 ≤ (ji24)) = true := decide_eq_true c25
              clear c25
              by_cases c26 : (ji24) < (x3_1.length : Int)
              ·
               rw [if_pos c26] at H
               have c26b0 : decide ((ji24) < (x3_1.length : Int)) = true := decide_eq_true c26
               clear c26
               obtain ⟨y453,hy453⟩ : ∃ y_ : List Bool,y_ = (x3_1.set ((ji24) : Int).toNat true) := ⟨_,rfl⟩
               replace H : (spec_Reached.l0 kj14 l0 y453 (wrap64 (x4_1 + 1))) = some r := by first | (rw [hy453]; with_reducible exact H) | (have H2_ := (Option.bind_some _ _).symm.trans H; rw [hy453]; with_reducible exact H2_) | (have H2_ := (Option.bind_some _ _).symm.trans H; with_reducible exact H2_) | with_reducible exact H | (rw [hy453]; exact H) | exact H
               have Ny453 := Aside0.mk hy453
               clear hy453
               have H' := Aside0.mk H
               clear H
               have hcz28_0 : wc.cell? ⟨gb451,0,none⟩ = some (.int .i64 ((rd_T25 l0 x4_1).f0)) := (blk_cell BK451.out 0).trans rfl
               have hcz28_1 : wc.cell? ⟨gb451,1,none⟩ = some (.int .i64 ((rd_T25 l0 x4_1).f1)) := (blk_cell BK451.out 1).trans rfl
               have hcz28_2 : wc.cell? ⟨gb451,2,none⟩ = some (.int .i64 ((rd_T25 l0 x4_1).f2)) := (blk_cell BK451.out 2).trans rfl
               have hcz28_3 : wc.cell? ⟨gb451,3,none⟩ = some (.int .i64 ((rd_T25 l0 x4_1).f3)) := (blk_cell BK451.out 3).trans rfl
               have hfz28_0 := blk_frozen BK451.out 0
               have hfz28_1 := blk_frozen BK451.out 1
               have hfz28_2 := blk_frozen BK451.out 2
               have hfz28_3 := blk_frozen BK451.out 3
               have p27 : 0 ≤ ((ji24) : Int) := of_decide_eq_true (by first | (with_reducible assumption) | assumption)
               have q27 : ((ji24) : Int) < ((x3_1.length : Int) : Int) := of_decide_eq_true (by first | (with_reducible assumption) | assumption)
               obtain ⟨hx27_0,hf27_0⟩ := Kd.R_celln false HO_3.out ((ji24) : Int) p27 q27
               replace p27 := eq_true p27
               replace q27 := eq_true q27
               have HP29 := Kd.R_putg HO_3.out ((ji24) : Int) true
               go_wp2_with (first | ((with_reducible refine gate_store (t := 4) (p := 44) rfl ?_); refine store_event (t := 4) (p := 44) (v := ?vo_w30) (w1 := (wc.setCell ⟨go7,((ji24) : Int).toNat,none⟩ (.bool true))) ?hg ?ho ?hn ?hr ?_; (case ho => rfl); (case hg => rfl); (case hn => rfl); (case hr => first | (go_simp; done) | (go_simp; rfl)); intro w30 hw; have hg : wc.grownBy w30 (some go7) := (by rw [hw]; exact HP29.2); have hp_ : Kd.R Kd.bool 4 w30 w.heap.size (fun _ => True) (.slice (some ⟨go7,0,none⟩) x3_1.length co7) y453 := (by rw [hw,Ny453.out]; exact HP29.1); clear HP29; have n0_ := Aside0.mk (hp_); have n1_ := Aside0.mk (blk_grown (g := gb451) (o := .cells #[.int .i64 ((rd_T25 l0 x4_1).f0),.int .i64 ((rd_T25 l0 x4_1).f1),.int .i64 ((rd_T25 l0 x4_1).f2),.int .i64 ((rd_T25 l0 x4_1).f3)] 25 (0,0)) (by (with_reducible repeat (first | refine blk_drewN ?_ _ | refine blk_drew ?_ | refine blk_alloc ?_ _)); exact BK451.out) hg (Kd.R_ne HO_3.out BK451.out (by decide))); have n2_ := Aside0.mk ((by rw [hw]; exact below_set (HB.out) GB7.out : Below w.heap.size w w30)); clear HO_3; clear BK451; clear HB; have HO_3 := n0_; have BK451 := n1_; have HB := n2_; clear n0_ n1_ n2_; clear hg hw hp_))
               (try simp only [← hl3_1])
               go_roundg kj14
               case measure => have := HK1.out; have := HJ14.out; omega
               case rel => exact ⟨(y453),(wrap64 (x4_1 + 1)),(by first | rfl | (simp; done) | (simp [*]; done)),H',⟨by have := HK1.out; have := HJ14.out; omega⟩,⟨by (try simp only [hl3_1]); (with_reducible repeat (first | apply Kd.R_alloc | apply Kd.R_drewN | apply Kd.R_drew)); exact HO_3.out⟩,⟨by repeat (first | (with_reducible first | exact HB.out | apply below_alloc | apply pw_below_drewN | apply below_drew1 | refine below_set ?_ GE451.out) | exact HB.out)⟩⟩
              ·
               rw [if_neg c26] at H
               exact absurd H (by simp)
             ·
              rw [if_neg c25] at H
              exact absurd H (by simp)
            ·
             rw [if_neg c23] at H
             have c23b0 : (((rd_T25 l0 x4_1).f0) == 7) = false := beq_eq_false_iff_ne.mpr c23
             have c23b1 : (((rd_T25 l0 x4_1).f0) != 7) = true := bne_iff_ne.mpr c23
             obtain ⟨ji31,hji31⟩ : ∃ j_ : Int,(wrap64 ((wrap64 (x4_1 + 1)) + ((rd_T25 l0 x4_1).f2))) = j_ := ⟨_,rfl⟩
             replace H : (if 0 ≤ (ji31) then (if (ji31) < (x3_1.length : Int) then (if 0 ≤ (wrap64 ((wrap64 (x4_1 + 1)) + ((rd_T25 l0 x4_1).f3))) then (if (wrap64 ((wrap64 (x4_1 + 1)) + ((rd_T25 l0 x4_1).f3))) < (x3_1.length : Int) then (spec_Reached.l0 kj14 l0 ((x3_1.set ((ji31) : Int).toNat true).set ((wrap64 ((wrap64 (x4_1 + 1)) + ((rd_T25 l0 x4_1).f3))) : Int).toNat true) (wrap64 (x4_1 + 1))) else (none)) else (none)) else (none)) else (none)) = some r := by first | (rw [hji31] at H; exact H) | (simp only [hji31] at H ⊢; exact H)
             have hji31w : (IntKind.i64.wrap ((wrap64 (x4_1 + 1)) + ((rd_T25 l0 x4_1).f2))) = ji31 := (i64_w _).trans hji31
             by_cases c32 : 0 ≤ (ji31)
             ·
              rw [if_pos c32] at H
              have c32b0 : decide (0 ≤ (ji31)) = true := decide_eq_true c32
              clear c32
              by_cases c33 : (ji31) < (x3_1.length : Int)
              ·
               rw [if_pos c33] at H
               have c33b0 : decide ((ji31) < (x3_1.length : Int)) = true := decide_eq_true c33
               clear c33
               obtain ⟨y454,hy454⟩ : ∃ y_ : List Bool,y_ = (x3_1.set ((ji31) : Int).toNat true) := ⟨_,rfl⟩
               replace H : (if 0 ≤ (wrap64 ((wrap64 (x4_1 + 1)) + ((rd_T25 l0 x4_1).f3))) then (if (wrap64 ((wrap64 (x4_1 + 1)) + ((rd_T25 l0 x4_1).f3))) < (x3_1.length : Int) then (spec_Reached.l0 kj14 l0 (y454.set ((wrap64 ((wrap64 (x4_1 + 1)) + ((rd_T25 l0 x4_1).f3))) : Int).toNat true) (wrap64 (x4_1 + 1))) else (none)) else (none)) = some r := by first | (rw [hy454]; with_reducible exact H) | (have H2_ := (Option.bind_some _ _).symm.trans H; rw [hy454]; with_reducible exact H2_) | (have H2_ := (Option.bind_some _ _).symm.trans H; with_reducible exact H2_) | with_reducible exact H | (rw [hy454]; exact H) | exact H
               have Ny454 := Aside0.mk hy454
               clear hy454
               obtain ⟨ji35,hji35⟩ : ∃ j_ : Int,(wrap64 ((wrap64 (x4_1 + 1)) + ((rd_T25 l0 x4_1).f3))) = j_ := ⟨_,rfl⟩
               replace H : (if 0 ≤ (ji35) then (if (ji35) < (x3_1.length : Int) then (spec_Reached.l0 kj14 l0 (y454.set ((ji35) : Int).toNat true) (wrap64 (x4_1 + 1))) else (none)) else (none)) = some r := by first | (rw [hji35] at H; exact H) | (simp only [hji35] at H ⊢; exact H)
               have hji35w : (IntKind.i64.wrap ((wrap64 (x4_1 + 1)) + ((rd_T25 l0 x4_1).f3))) = ji35 := (i64_w _).trans hji35
               by_cases c36 : 0 ≤ (ji35)
               ·
                rw [if_pos c36] at H
                have c36b0 : decide (0 ≤ (ji35)) = true := decide_eq_true c36
                clear c36
                by_cases c37 : (ji35) < (x3_1.length : Int)
                ·
                 rw [if_pos c37] at H
                 have c37b0 : decide ((ji35) < (x3_1.length : Int)) = true := decide_eq_true c37
                 clear c37
                 obtain ⟨y455,hy455⟩ : ∃ y_ : List Bool,y_ = (y454.set ((ji35) : Int).toNat true) := ⟨_,rfl⟩
                 replace H : (spec_Reached.l0 kj14 l0 y455 (wrap64 (x4_1 + 1))) = some r := by first | (rw [hy455]; with_reducible exact H) | (have H2_ := (Option.bind_some _ _).symm.trans H; rw [hy455]; with_reducible exact H2_) | (have H2_ := (Option.bind_some _ _).symm.trans H; with_reducible exact H2_) | with_reducible exact H | (rw [hy455]; exact H) | exact H
                 have Ny455 := Aside0.mk hy455
                 clear hy455
                 have H' := Aside0.mk H
                 clear H
                 have hcz39_0 : wc.cell? ⟨gb451,0,none⟩ = some (.int .i64 ((rd_T25 l0 x4_1).f0)) := (blk_cell BK451.out 0).trans rfl
                 have hcz39_1 : wc.cell? ⟨gb451,1,none⟩ = some (.int .i64 ((rd_T25 l0 x4_1).f1)) := (blk_cell BK451.out 1).trans rfl
                 have hcz39_2 : wc.cell? ⟨gb451,2,none⟩ = some (.int .i64 ((rd_T25 l0 x4_1).f2)) := (blk_cell BK451.out 2).trans rfl
                 have hcz39_3 : wc.cell? ⟨gb451,3,none⟩ = some (.int .i64 ((rd_T25 l0 x4_1).f3)) := (blk_cell BK451.out 3).trans rfl
                 have hfz39_0 := blk_frozen BK451.out 0
                 have hfz39_1 := blk_frozen BK451.out 1
                 have hfz39_2 := blk_frozen BK451.out 2
                 have hfz39_3 := blk_frozen BK451.out 3
                 have p34 : 0 ≤ ((ji31) : Int) := of_decide_eq_true (by first | (with_reducible assumption) | assumption)
                 have q34 : ((ji31) : Int) < ((x3_1.length : Int) : Int) := of_decide_eq_true (by first | (with_reducible assumption) | assumption)
                 obtain ⟨hx34_0,hf34_0⟩ := Kd.R_celln false HO_3.out ((ji31) : Int) p34 q34
                 replace p34 := eq_true p34
                 replace q34 := eq_true q34
                 have HP40 := Kd.R_putg HO_3.out ((ji31) : Int) true
                 go_wp2_with (first | ((with_reducible refine gate_store (t := 4) (p := 51) rfl ?_); refine store_event (t := 4) (p := 51) (v := ?vo_w41) (w1 := (wc.setCell ⟨go7,((ji31) : Int).toNat,none⟩ (.bool true))) ?hg ?ho ?hn ?hr ?_; (case ho => rfl); (case hg => rfl); (case hn => rfl); (case hr => first | (go_simp; done) | (go_simp; rfl)); intro w41 hw; have hg : wc.grownBy w41 (some go7) := (by rw [hw]; exact HP40.2); have hp_ : Kd.R Kd.bool 4 w41 w.heap.size (fun _ => True) (.slice (some ⟨go7,0,none⟩) x3_1.length co7) y454 := (by rw [hw,Ny454.out]; exact HP40.1); clear HP40; have n0_ := Aside0.mk (hp_); have n1_ := Aside0.mk (blk_grown (g := gb451) (o := .cells #[.int .i64 ((rd_T25 l0 x4_1).f0),.int .i64 ((rd_T25 l0 x4_1).f1),.int .i64 ((rd_T25 l0 x4_1).f2),.int .i64 ((rd_T25 l0 x4_1).f3)] 25 (0,0)) (by (with_reducible repeat (first | refine blk_drewN ?_ _ | refine blk_drew ?_ | refine blk_alloc ?_ _)); exact BK451.out) hg (Kd.R_ne HO_3.out BK451.out (by decide))); have n2_ := Aside0.mk ((by rw [hw]; exact below_set (HB.out) GB7.out : Below w.heap.size w w41)); clear HO_3; clear BK451; clear HB; have HO_3 := n0_; have BK451 := n1_; have HB := n2_; clear n0_ n1_ n2_; clear hg hw hp_; have hcz42_0 : w41.cell? ⟨gb451,0,none⟩ = some (.int .i64 ((rd_T25 l0 x4_1).f0)) := (blk_cell BK451.out 0).trans rfl; have hcz42_1 : w41.cell? ⟨gb451,1,none⟩ = some (.int .i64 ((rd_T25 l0 x4_1).f1)) := (blk_cell BK451.out 1).trans rfl; have hcz42_2 : w41.cell? ⟨gb451,2,none⟩ = some (.int .i64 ((rd_T25 l0 x4_1).f2)) := (blk_cell BK451.out 2).trans rfl; have hcz42_3 : w41.cell? ⟨gb451,3,none⟩ = some (.int .i64 ((rd_T25 l0 x4_1).f3)) := (blk_cell BK451.out 3).trans rfl; have hfz42_0 := blk_frozen BK451.out 0; have hfz42_1 := blk_frozen BK451.out 1; have hfz42_2 := blk_frozen BK451.out 2; have hfz42_3 := blk_frozen BK451.out 3; have p38 : 0 ≤ ((ji35) : Int) := of_decide_eq_true (by first | (with_reducible assumption) | assumption); have q38 : ((ji35) : Int) < ((x3_1.length : Int) : Int) := of_decide_eq_true (by first | (with_reducible assumption) | assumption); obtain ⟨hx38_0,hf38_0⟩ := Kd.R_celln false HO_3.out ((ji35) : Int) p38 q38; replace p38 := eq_true p38; replace q38 := eq_true q38; obtain ⟨hy43_,hz43_⟩ := Kd.R_celln false HO_3.out ((ji35) : Int) (of_decide_eq_true (by first | (with_reducible assumption) | assumption)) (of_decide_eq_true (by first | (with_reducible assumption) | assumption)); have HP43 := Kd.R_putg HO_3.out ((ji35) : Int) true) | ((with_reducible refine gate_store (t := 4) (p := 58) rfl ?_); refine store_event (t := 4) (p := 58) (v := ?vo_w44) (w1 := (w41.setCell ⟨go7,((ji35) : Int).toNat,none⟩ (.bool true))) ?hg ?ho ?hn ?hr ?_; (case ho => rfl); (case hg => rfl); (case hn => rfl); (case hr => first | (go_simp; done) | (go_simp; rfl)); intro w44 hw; have hg : w41.grownBy w44 (some go7) := (by rw [hw]; exact HP43.2); have hp_ : Kd.R Kd.bool 4 w44 w.heap.size (fun _ => True) (.slice (some ⟨go7,0,none⟩) x3_1.length co7) y455 := (by rw [hw,Ny455.out]; exact HP43.1); clear HP43; have n0_ := Aside0.mk (hp_); have n1_ := Aside0.mk (blk_grown (g := gb451) (o := .cells #[.int .i64 ((rd_T25 l0 x4_1).f0),.int .i64 ((rd_T25 l0 x4_1).f1),.int .i64 ((rd_T25 l0 x4_1).f2),.int .i64 ((rd_T25 l0 x4_1).f3)] 25 (0,0)) (by (with_reducible repeat (first | refine blk_drewN ?_ _ | refine blk_drew ?_ | refine blk_alloc ?_ _)); exact BK451.out) hg (Kd.R_ne HO_3.out BK451.out (by decide))); have n2_ := Aside0.mk ((by rw [hw]; exact below_set (HB.out) GB7.out : Below w.heap.size w w44)); clear HO_3; clear BK451; clear HB; have HO_3 := n0_; have BK451 := n1_; have HB := n2_; clear n0_ n1_ n2_; clear hg hw hp_))
                 (try simp only [← hl3_1])
                 go_roundg kj14
                 case measure => have := HK1.out; have := HJ14.out; omega
                 case rel => exact ⟨(y455),(wrap64 (x4_1 + 1)),(by first | rfl | (simp; done) | (simp [*]; done)),H',⟨by have := HK1.out; have := HJ14.out; omega⟩,⟨by (try simp only [hl3_1]); (with_reducible repeat (first | apply Kd.R_alloc | apply Kd.R_drewN | apply Kd.R_drew)); exact HO_3.out⟩,⟨by repeat (first | (with_reducible first | exact HB.out | apply below_alloc | apply pw_below_drewN | apply below_drew1 | refine below_set ?_ GE451.out) | exact HB.out)⟩⟩
                ·
                 rw [if_neg c37] at H
                 exact absurd H (by simp)
               ·
                rw [if_neg c36] at H
                exact absurd H (by simp)
              ·
               rw [if_neg c33] at H
               exact absurd H (by simp)
             ·
              rw [if_neg c32] at H
              exact absurd H (by simp)
        ·
         rw [if_neg c14] at H
         exact absurd H (by simp)
       ·
        rw [if_neg c13] at H
        have c13b0 : decide (x4_1 < (l0.length : Int)) = false := decide_eq_false c13
        clear c13
        obtain rfl := Option.some.inj H
        go_wp2
        go_ret
        exact ⟨_,by first | rfl | (simp [errW_none,errW_some] <;> rfl) | (simp [*,errW_none,errW_some] <;> rfl),by (with_reducible repeat (first | apply Kd.R_alloc | apply Kd.R_drewN | apply Kd.R_drew)); exact HO_3.out,by repeat (first | (with_reducible first | exact HB.out | apply below_alloc | apply pw_below_drewN | apply below_drew1) | exact HB.out)⟩
    ·
     rw [if_neg c6] at H
     exact absurd H (by simp)
   ·
    rw [if_neg c5] at H
    exact absurd H (by simp)
  ·
   rw [if_neg c4] at H
   exact absurd H (by simp)
 ·
  replace c3 := Bool.eq_false_iff.mpr c3
  subst c3
  have H1 : (some (([] : List Bool))) = some r := by rw [if_neg (show ¬ (false = true) by decide)] at H; exact H
  clear H
  have H := H1
  clear H1
  obtain ⟨y443,hy443⟩ : ∃ y_ : List Bool,y_ = (([] : List Bool)) := ⟨_,rfl⟩
  replace H : (some y443) = some r := by first | (rw [hy443]; with_reducible exact H) | (have H2_ := (Option.bind_some _ _).symm.trans H; rw [hy443]; with_reducible exact H2_) | (have H2_ := (Option.bind_some _ _).symm.trans H; with_reducible exact H2_) | with_reducible exact H | (rw [hy443]; exact H) | exact H
  have Ny443 := Aside0.mk hy443
  clear hy443
  obtain rfl := Option.some.inj H
  go_enter Try.func51,Try.ntmps51
  go_wp2_with (first | ((with_reducible refine gate_callee (f := 39) rfl ?_); refine goesL_ (some 7) rfl rfl Try.func39 (by kernel_rfl) rfl #[.slice A0 l0.length c0] rfl (by (try simp only [List.map_toArray,List.map_cons,List.map_nil]); first | done | rfl | (simp only [List.length_drop,List.length_take]; rfl)) ?_; (with_reducible refine (spec_CheckProgram.calls k _ _ l0 false _ ?side1 ?side2 A2.out).mono ?_); (case side1 => repeat (first | exact HR0.out | (with_reducible refine Kd.C_alloc ?_ _) | (with_reducible refine Kd.C_drewN ?_ _) | (with_reducible refine Kd.C_drew ?_))); (case side2 => exact HC0.out); rintro e w45 ⟨rfl,hb⟩; refine ⟨_,rfl,?_⟩; have n0_ := Aside0.mk (below_step (by repeat (first | (with_reducible first | exact HB.out | apply below_alloc | apply pw_below_drewN | apply below_drew1) | exact HB.out)) hb); clear HB; have HB := n0_; clear n0_; (try clear hb); (try clear hb2); (try clear hk); (try clear hi)) | ((with_reducible refine gate_dst (N := 9) rfl ?_); refine Kd.R_lit Kd.bool _ 4 ?hg (N := 9) ?hd (xs := ([] : List Bool)) (inner := []) (ok := fun _ => True) (okp := fun _ => True) ?hr ?hp (fun _ hk => hk) trivial (Below.refl _ _) (Nat.le_refl _) (by simp) ?_; (case hd => rfl); (case hg => rfl); (case hr => first | (go_simp; done) | (go_simp; rfl)); (case hp => exact (Reps.none _ _)); intro v444 w46 ho47 hb hg_ hnew_; clear hg_ hnew_; (first | rw [← Ny443.out] at ho47 | (simp only [Int.reduceToNat] at ho47; rw [← Ny443.out] at ho47)); have n0_ := Aside0.mk (Kd.R_lower ho47 (below_size (by repeat (first | (with_reducible first | exact HB.out | apply below_alloc | apply pw_below_drewN | apply below_drew1) | exact HB.out)))); have n1_ := Aside0.mk (below_step (by repeat (first | (with_reducible first | exact HB.out | apply below_alloc | apply pw_below_drewN | apply below_drew1) | exact HB.out)) hb); clear HB; have HO445 := n0_; have HB := n1_; clear n0_ n1_; clear hb ho47))
  go_ret
  exact ⟨_,by first | rfl | (simp [errW_none,errW_some] <;> rfl) | (simp [*,errW_none,errW_some] <;> rfl),by (with_reducible repeat (first | apply Kd.R_alloc | apply Kd.R_drewN | apply Kd.R_drew)); exact HO445.out,by repeat (first | (with_reducible first | exact HB.out | apply below_alloc | apply pw_below_drewN | apply below_drew1) | exact HB.out)⟩

end Go.Proofs.Ytfchokhdhnfajaa.PFnRunTold
