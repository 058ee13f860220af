/- What the print of the kit wrote of FnRunTold's functions, with some steps of some walks mended by this session. -/
import Derived.Test.YtfchokhdhnfajaaPFnRunToldx0
import Derived.Test.YtfchokhdhnfajaaPFnRunToldx1
import Derived.Test.YtfchokhdhnfajaaOFnRunToldx5
namespace Go.Proofs.Ytfchokhdhnfajaa.PFnRunTold
open Go.RowKit Go.Proofs.YtfchokhdhnfajaaW.PrintWords Go.Proofs.YtfchokhdhnfajaaW.PrintLast Go.Proofs.YtfchokhdhnfajaaW.PrintMore
attribute [local go_sem] max2_int min2_int max_two min_two max_three min_three max_four min_four   -- for this text's walks alone
set_option linter.unusedVariables false
set_option linter.unusedSimpArgs false

/-! ### spec_l06Program: function 76 -/
def spec_l06Program.l0 : Nat → List (S25) → Int → Int → List Int → Int → Int → Option ((List (S25)) × Int × Int)
 | 0,_,_,_,_,_,_ => none
 | k + 1,x3,x4,x5,x1000,x1001,x1002 => if x5 < x4 then ((spec_l06Ins.f k x1000 x1001 x1002).bind fun bt259 => (if bt259.1 = 7 then (if (wrap64 (x4 - x5)) = 0 then (none) else ((spec_l06Ask.f bt259.1).bind fun t266 => (if t266 = true then (if x3.length < 4398046511104 then (spec_l06Program.l0 k (x3 ++ [(⟨bt259.1,Int.tmod bt259.2.1 (wrap64 (x4 - x5)),Int.tmod bt259.2.2.1 (wrap64 (x4 - x5)),Int.tmod bt259.2.2.2.1 (wrap64 (x4 - x5))⟩ : S25)]) x4 (wrap64 (x5 + 1)) x1000 bt259.2.2.2.2.1 bt259.2.2.2.2.2) else (none)) else (if x3.length < 4398046511104 then (spec_l06Program.l0 k (x3 ++ [(⟨bt259.1,Int.tmod bt259.2.1 (wrap64 (x4 - x5)),bt259.2.2.1,bt259.2.2.2.1⟩ : S25)]) x4 (wrap64 (x5 + 1)) x1000 bt259.2.2.2.2.1 bt259.2.2.2.2.2) else (none))))) else ((spec_l06Ask.f bt259.1).bind fun t273 => (if t273 = true then (if (wrap64 (x4 - x5)) = 0 then (none) else (if x3.length < 4398046511104 then (spec_l06Program.l0 k (x3 ++ [(⟨bt259.1,bt259.2.1,Int.tmod bt259.2.2.1 (wrap64 (x4 - x5)),Int.tmod bt259.2.2.2.1 (wrap64 (x4 - x5))⟩ : S25)]) x4 (wrap64 (x5 + 1)) x1000 bt259.2.2.2.2.1 bt259.2.2.2.2.2) else (none))) else (if x3.length < 4398046511104 then (spec_l06Program.l0 k (x3 ++ [(⟨bt259.1,bt259.2.1,bt259.2.2.1,bt259.2.2.2.1⟩ : S25)]) x4 (wrap64 (x5 + 1)) x1000 bt259.2.2.2.2.1 bt259.2.2.2.2.2) else (none)))))) else ((spec_l01Below.f x1000 x1001 x1002 6).bind fun bt249 => ((spec_l01Below.f x1000 bt249.2.1 bt249.2.2 5).bind fun bt252 => ((spec_ResultOf.f bt249.1 bt252.1).bind fun t255 => (if x3.length < 4398046511104 then (some ((x3 ++ [(⟨8,t255,0,0⟩ : S25)]),bt252.2.1,bt252.2.2)) else (none)))))
def spec_l06Program.f (k : Nat) (s0_0 : List Int) (s0_1 : Int) (s0_2 : Int) : Option ((List (S25)) × Int × Int) := (spec_l01Below.f s0_0 s0_1 s0_2 12).bind fun bt246 => (spec_l06Program.l0 k (([] : List (S25))) (wrap64 (1 + bt246.1)) 0 s0_0 bt246.2.1 bt246.2.2)
theorem spec_l06Program.mono_l : ∀ k,(∀ y0 y1 y2 y3 y4 y5,LeO (spec_l06Program.l0 k y0 y1 y2 y3 y4 y5) (spec_l06Program.l0 (k + 1) y0 y1 y2 y3 y4 y5))
 | 0 => fun _ _ _ _ _ _ r h => by simp [spec_l06Program.l0] at h
 | k + 1 => by
  have ih0 := spec_l06Program.mono_l k
  ·
   intro y0 y1 y2 y3 y4 y5
   unfold spec_l06Program.l0
   repeat' first
   | (with_reducible exact ih0 _ _ _ _ _ _)
   | (with_reducible exact spec_l06Ins.mono _ _ _ _)
   | (with_reducible exact LeO.refl _)
   | (with_reducible exact LeO.none _)
   | (with_reducible refine LeO.ite ?_ ?_)
   | (with_reducible refine LeO.bind ?_ (fun _ => ?_))
   | exact ih0 _ _ _ _ _ _
   | exact spec_l06Ins.mono _ _ _ _
   | exact LeO.none _
   | refine LeO.ite ?_ ?_
   | refine LeO.bind ?_ (fun _ => ?_)
theorem spec_l06Program.mono : ∀ a0 a1 a2 k,LeO (spec_l06Program.f k a0 a1 a2) (spec_l06Program.f (k + 1) a0 a1 a2) := by
 intro a0 a1 a2 k
 have ih0 := spec_l06Program.mono_l k
 unfold spec_l06Program.f
 repeat' first
   | (with_reducible exact ih0 _ _ _ _ _ _)
   | (with_reducible exact spec_l06Ins.mono _ _ _ _)
   | (with_reducible exact LeO.refl _)
   | (with_reducible exact LeO.none _)
   | (with_reducible refine LeO.ite ?_ ?_)
   | (with_reducible refine LeO.bind ?_ (fun _ => ?_))
   | exact ih0 _ _ _ _ _ _
   | exact spec_l06Ins.mono _ _ _ _
   | exact LeO.none _
   | refine LeO.ite ?_ ?_
   | refine LeO.bind ?_ (fun _ => ?_)
/-- What holds while a box of four numbers lies at gb beside a list of the call's own and the reader's cell. -/
structure Rnd (w0 w W : World) (g gb : Nat) (s : List Int) (f1 f2 : Int) (v : Value) (xs : List S25) (cs : Array Value) : Prop where
 ho : Kd.R k25 25 W w.heap.size (fun k => k ≠ gb) v xs
 hi : IsS102 w0 W g s f1 f2
 hk : KeepBut w W g none
 hb : Below w0.heap.size w0 W
 bk : W.heap[gb]? = some (.cells cs 25 (0,0))
 gw : w.heap.size ≤ gb
 ge : w0.heap.size ≤ gb
 ne : g ≠ gb
theorem Rnd.put {w0 w W : World} {g gb : Nat} {s : List Int} {f1 f2 : Int} {v : Value} {xs : List S25} {cs : Array Value} (h : Rnd w0 w W g gb s f1 f2 v xs cs) (i : Nat) (u : Value) : Rnd w0 w (W.setCell ⟨gb,i,none⟩ u) g gb s f1 f2 v xs (cs.setIfInBounds i u) :=
 ⟨Kd.R_far h.ho (fun _ hk => hk) u,IsS102.far h.hi h.ne u,keep_far h.hk h.gw u,below_set h.hb h.ge,blk_set h.bk i u,h.gw,h.ge,h.ne⟩
theorem Rnd.drewN {w0 w W : World} {g gb : Nat} {s : List Int} {f1 f2 : Int} {v : Value} {xs : List S25} {cs : Array Value} (h : Rnd w0 w W g gb s f1 f2 v xs cs) (n : Nat) : Rnd w0 w (W.drewN n) g gb s f1 f2 v xs cs :=
 ⟨by (with_reducible repeat (first | apply Kd.R_alloc | apply Kd.R_drewN | apply Kd.R_drew)); exact h.ho,IsS102.drewN h.hi n,keep_drewN h.hk n,pw_below_drewN h.hb n,blk_drewN h.bk n,h.gw,h.ge,h.ne⟩
theorem Rnd.new {w0 w W W1 : World} {g gb : Nat} {s : List Int} {f1 f2 : Int} {v : Value} {xs : List S25} {cs : Array Value} (ho : Kd.R k25 25 W w.heap.size (fun _ => True) v xs) (hi : IsS102 w0 W g s f1 f2) (hk : KeepBut w W g none) (hb : Below w0.heap.size w0 W) (hw : w0.heap.size ≤ w.heap.size)
  (hg : gb = W.heap.size) (bk : W1.heap[gb]? = some (.cells cs 25 (0,0))) (h1 : Below W.heap.size W W1) : Rnd w0 w W1 g gb s f1 f2 v xs cs := by
 subst hg
 have hs := keep_size hk
 exact ⟨Kd.R_below (Kd.R_mono (Kd.R_elderB ho W.heap.size (Nat.le_refl _)) (fun _ h => h.2)) h1,hi.below h1,hk.trans (KeepBut.of_below h1 g none) (.inl rfl),below_weaken hb hb.size h1,bk,hs,Nat.le_trans hw hs,Nat.ne_of_lt hi.lt⟩
/-- What one round of spec.l06Program tells. -/
theorem spec_l06Program.step {k : Nat} {x3 : List S25} {x4 x5 : Int} {s : List Int} {i h : Int} {r : List S25 × Int × Int} (hlt : x5 < x4) (H : spec_l06Program.l0 (k + 1) x3 x4 x5 s i h = some r) :
  ∃ op K Y N i' h' ask kk yy nn,spec_l06Ins.f k s i h = some (op,K,Y,N,i',h') ∧ spec_l06Ask.f op = some ask ∧ (op = 7 → wrap64 (x4 - x5) ≠ 0 ∧ kk = Int.tmod K (wrap64 (x4 - x5))) ∧ (op ≠ 7 → kk = K) ∧ (ask = true → wrap64 (x4 - x5) ≠ 0 ∧ yy = Int.tmod Y (wrap64 (x4 - x5)) ∧ nn = Int.tmod N (wrap64 (x4 - x5))) ∧ (ask = false → yy = Y ∧ nn = N) ∧ x3.length < 4398046511104 ∧ spec_l06Program.l0 k (x3 ++ [(⟨op,kk,yy,nn⟩ : S25)]) x4 (wrap64 (x5 + 1)) s i' h' = some r := by
 simp only [spec_l06Program.l0] at H
 rw [if_pos hlt] at H
 obtain ⟨⟨op,K,Y,N,i',h'⟩,h1,H⟩ := Option.bind_eq_some_iff.mp H
 dsimp only at H
 by_cases c : op = 7
 ·
  rw [if_pos c] at H
  by_cases z : wrap64 (x4 - x5) = 0
  ·
   rw [if_pos z] at H
   cases H
  ·
   rw [if_neg z] at H
   obtain ⟨ask,h2,H⟩ := Option.bind_eq_some_iff.mp H
   cases ask with
   | true =>
    rw [if_pos rfl] at H
    by_cases l : x3.length < 4398046511104
    ·
     rw [if_pos l] at H
     exact ⟨op,K,Y,N,i',h',true,_,_,_,h1,h2,fun _ => ⟨z,rfl⟩,fun e => absurd c e,fun _ => ⟨z,rfl,rfl⟩,fun e => (by cases e),l,H⟩
    ·
     rw [if_neg l] at H
     cases H
   | false =>
    rw [if_neg (by decide)] at H
    by_cases l : x3.length < 4398046511104
    ·
     rw [if_pos l] at H
     exact ⟨op,K,Y,N,i',h',false,_,_,_,h1,h2,fun _ => ⟨z,rfl⟩,fun e => absurd c e,fun e => (by cases e),fun _ => ⟨rfl,rfl⟩,l,H⟩
    ·
     rw [if_neg l] at H
     cases H
 ·
  rw [if_neg c] at H
  obtain ⟨ask,h2,H⟩ := Option.bind_eq_some_iff.mp H
  cases ask with
  | true =>
   rw [if_pos rfl] at H
   by_cases z : wrap64 (x4 - x5) = 0
   ·
    rw [if_pos z] at H
    cases H
   ·
    rw [if_neg z] at H
    by_cases l : x3.length < 4398046511104
    ·
     rw [if_pos l] at H
     exact ⟨op,K,Y,N,i',h',true,_,_,_,h1,h2,fun e => absurd e c,fun _ => rfl,fun _ => ⟨z,rfl,rfl⟩,fun e => (by cases e),l,H⟩
    ·
     rw [if_neg l] at H
     cases H
  | false =>
   rw [if_neg (by decide)] at H
   by_cases l : x3.length < 4398046511104
   ·
    rw [if_pos l] at H
    exact ⟨op,K,Y,N,i',h',false,_,_,_,h1,h2,fun e => absurd e c,fun _ => rfl,fun e => (by cases e),fun _ => ⟨rfl,rfl⟩,l,H⟩
   ·
    rw [if_neg l] at H
    cases H
set_option maxHeartbeats 2000000 in
set_option maxRecDepth 100000 in
theorem spec_l06Program.calls (k : Nat) (g : Nat) (s0_0 : List Int) (s0_1 : Int) (s0_2 : Int) (r1 : List (S25)) (r2 : Int) (r3 : Int) (w0 w : World) (hI : IsS102 w0 w g s0_0 s0_1 s0_2) (hB : Below w0.heap.size w0 w) (h : spec_l06Program.f k s0_0 s0_1 s0_2 = some (r1,r2,r3)) :
  Calls Try.prog 76 #[.pointer (some ⟨g,0,none⟩)] w fun e w' => ∃ v0_ : Value,e = .returned (v0_) ∧ Kd.R k25 25 w' w.heap.size (fun _ => True) v0_ r1 ∧ IsS102 w0 w' g s0_0 r2 r3 ∧ Below w0.heap.size w0 w' ∧ KeepBut w w' g none := by
 have hu25 := Try.underlying25
 have HI0 := Aside0.mk hI
 have HK := Aside0.mk (KeepBut.refl w g none)
 have HW0 := Aside0.mk hB.size
 clear hI
 have HB := Aside0.mk hB
 clear hB
 unfold spec_l06Program.f at h
 obtain ⟨⟨n,i1,g1⟩,h1,H⟩ := Option.bind_eq_some_iff.mp h
 dsimp only at H
 have H1 := Aside0.mk h1
 have H' := Aside0.mk H
 clear h h1 H
 go_enter Try.func76,Try.ntmps76
 go_wp2_with (first
  | ((with_reducible refine gate_dst (N := 8) rfl ?_); refine Kd.R_lit k25 _ 25 ?hg (N := 8) ?hd (xs := ([] : List (S25))) (inner := []) (ok := fun _ => True) (okp := fun _ => True) ?hr ?hp (fun _ hk => hk) trivial (Below.refl _ _) (Nat.le_refl _) (by simp) ?_; (case hd => rfl); (case hg => rfl); (case hr => first | (go_simp; done) | (go_simp; rfl)); (case hp => exact (Reps.none _ _)); intro v1 w3 ho hb hg_ hnew_; clear hg_ hnew_; have HO := Aside0.mk (Kd.R_lower ho (keep_size HK.out)); have n1_ := Aside0.mk (IsS102.below HI0.out hb); have n2_ := Aside0.mk (KeepBut.trans HK.out (KeepBut.of_below hb g none) (.inl rfl)); have n3_ := Aside0.mk (below_step HB.out hb); clear HI0 HK HB hb ho; have HI0 := n1_; have HK := n2_; have HB := n3_; clear n1_ n2_ n3_)
  | (go_at_call 78; (with_reducible refine (spec_l01Below.calls g s0_0 s0_1 s0_2 12 n i1 g1 w0 _ HI0.out HB.out H1.out).mono ?_); rintro e w4 ⟨rfl,hi,hb,hk⟩; have n0_ := Aside0.mk (Kd.R_mono (Kd.R_keep (IsS102.apart HI0.out HO.out (by decide)) hk (fun _ h => h.2)) (fun _ h => h.1)); have n1_ := Aside0.mk (KeepBut.trans HK.out hk (.inl rfl)); clear HO HK HB HI0; have HO := n0_; have HK := n1_; have HB := Aside0.mk hb; have HI0 := Aside0.mk hi; clear n0_ n1_ hb hi hk))
 go_loopg [3,5] k (fun kq v3 v5 w' => ∃ (xs : List S25) (x5 i2 g2 : Int),v5 = .int .i64 x5 ∧ Aside0 (spec_l06Program.l0 kq xs (wrap64 (1 + n)) x5 s0_0 i2 g2 = some (r1,r2,r3)) ∧ Aside0 (kq ≤ k) ∧ Aside0 (Kd.R k25 25 w' w.heap.size (fun _ => True) v3 xs) ∧ Aside0 (IsS102 w0 w' g s0_0 i2 g2) ∧ Aside0 (KeepBut w w' g none) ∧ Aside0 (Below w0.heap.size w0 w'))
 case atStart => exact ⟨[],0,i1,g1,rfl,H',⟨Nat.le_refl _⟩,HO,HI0,HK,HB⟩
 case round =>
  clear H' HO HI0 HK HB H1
  obtain ⟨xs,x5,i2,g2,rfl,HA,HK1,HO,HI0,HK,HB⟩ := hrel
  cases gk with
  | zero => exact absurd HA.out (by simp [spec_l06Program.l0])
  | succ k1 =>
   by_cases hlt : x5 < wrap64 (1 + n)
   ·
    obtain ⟨op,K,Y,N,i3,g3,ask,kk,yy,nn,f1,f2,f3,f4,f5,f6,f7,f8⟩ := spec_l06Program.step hlt HA.out
    have F1 := Aside0.mk f1
    have F2 := Aside0.mk f2
    have F3 := Aside0.mk f3
    have F4 := Aside0.mk f4
    have F5 := Aside0.mk f5
    have F6 := Aside0.mk f6
    have F7 := Aside0.mk f7
    have F8 := Aside0.mk f8
    have d0 : decide (x5 < wrap64 (1 + n)) = true := decide_eq_true hlt
    clear f1 f2 f3 f4 f5 f6 f7 f8 hlt HA
    go_upto_region 8 with (first
     | (go_at_call 99; (with_reducible refine (spec_l06Ins.calls k1 g s0_0 i2 g2 op K Y N i3 g3 w0 _ HI0.out HB.out F1.out).mono ?_); rintro e w5 ⟨rfl,hi,hb,hk⟩; have n0_ := Aside0.mk (Kd.R_mono (Kd.R_keep (IsS102.apart HI0.out HO.out (by decide)) hk (fun _ h => h.2)) (fun _ h => h.1)); have n1_ := Aside0.mk (KeepBut.trans HK.out hk (.inl rfl)); clear HO HK HB HI0; have HO := n0_; have HK := n1_; have HB := Aside0.mk hb; have HI0 := Aside0.mk hi; clear n0_ n1_ hb hi hk)
     | ((with_reducible refine gate_dst (N := 6) rfl ?_); refine box_event ?hg (N := 6) ?hd (cs := #[.int .i64 0,.int .i64 0,.int .i64 0,.int .i64 0]) (t := 25) ?hr ?_; (case hd => rfl); (case hg => rfl); (case hr => first | (go_simp; done) | (go_simp; rfl)); intro gb hg w6 hbox hb; have HR := Aside0.mk (Rnd.new HO.out HI0.out HK.out HB.out HW0.out hg hbox hb); clear HO HK HB HI0 hg hbox hb; have hcz0 := blk_cell HR.out.bk 0; have hcz1 := blk_cell HR.out.bk 1; have hcz2 := blk_cell HR.out.bk 2; have hcz3 := blk_cell HR.out.bk 3; replace hcz0 : w6.cell? ⟨gb,0,none⟩ = some (.int .i64 0) := hcz0; replace hcz1 : w6.cell? ⟨gb,1,none⟩ = some (.int .i64 0) := hcz1; replace hcz2 : w6.cell? ⟨gb,2,none⟩ = some (.int .i64 0) := hcz2; replace hcz3 : w6.cell? ⟨gb,3,none⟩ = some (.int .i64 0) := hcz3; have hfz0 := blk_frozen HR.out.bk 0; have hfz1 := blk_frozen HR.out.bk 1; have hfz2 := blk_frozen HR.out.bk 2; have hfz3 := blk_frozen HR.out.bk 3))
    have HR4 : Aside0 (Rnd w0 w ((((w6.setCell ⟨gb,0,none⟩ (.int .i64 op)).setCell ⟨gb,1,none⟩ (.int .i64 K)).setCell ⟨gb,2,none⟩ (.int .i64 Y)).setCell ⟨gb,3,none⟩ (.int .i64 N)) g gb s0_0 i3 g3 u3 xs #[.int .i64 op,.int .i64 K,.int .i64 Y,.int .i64 N]) := ⟨(((HR.out.put 0 (.int .i64 op)).put 1 (.int .i64 K)).put 2 (.int .i64 Y)).put 3 (.int .i64 N)⟩
    clear hcz0 hcz1 hcz2 hcz3 hfz0 hfz1 hfz2 hfz3 HR
    generalize (((w6.setCell ⟨gb,0,none⟩ (.int .i64 op)).setCell ⟨gb,1,none⟩ (.int .i64 K)).setCell ⟨gb,2,none⟩ (.int .i64 Y)).setCell ⟨gb,3,none⟩ (.int .i64 N) = W at HR4 ⊢
    have cz0 : W.cell? ⟨gb,0,none⟩ = some (.int .i64 op) := (blk_cell HR4.out.bk 0).trans rfl
    have fz0 := blk_frozen HR4.out.bk 0
    have cz1 : W.cell? ⟨gb,1,none⟩ = some (.int .i64 K) := (blk_cell HR4.out.bk 1).trans rfl
    have fz1 := blk_frozen HR4.out.bk 1
    have cz2 : W.cell? ⟨gb,2,none⟩ = some (.int .i64 Y) := (blk_cell HR4.out.bk 2).trans rfl
    have fz2 := blk_frozen HR4.out.bk 2
    have cz3 : W.cell? ⟨gb,3,none⟩ = some (.int .i64 N) := (blk_cell HR4.out.bk 3).trans rfl
    have fz3 := blk_frozen HR4.out.bk 3
    go_upto_if 24 with (fail)
    go_cut [7] (fun v7 wc => v7 = .int .i64 (wrap64 (wrap64 (1 + n) - x5)) ∧ Aside0 (Rnd w0 w wc g gb s0_0 i3 g3 u3 xs #[.int .i64 op,.int .i64 kk,.int .i64 Y,.int .i64 N]))
    case first =>
     by_cases c : op = 7
     ·
      have b0 : (op == 7) = true := beq_iff_eq.mpr c
      have z := (F3.out c).1
      have z0 : ((wrap64 (wrap64 (1 + n) - x5)) == 0) = false := beq_eq_false_iff_ne.mpr z
      go_wp2
      go_meet
      case rel => exact ⟨rfl,⟨by rw [(F3.out c).2]; exact HR4.out.put 1 (.int .i64 (Int.tmod K (wrap64 (wrap64 (1 + n) - x5))))⟩⟩
     ·
      have b0 : (op == 7) = false := beq_eq_false_iff_ne.mpr c
      go_wp2
      go_meet
      case rel => exact ⟨rfl,⟨by rw [F4.out c]; exact HR4.out⟩⟩
    case rest =>
     obtain ⟨rfl,HR5⟩ := hcut
     clear HR4 cz0 cz1 cz2 cz3 fz0 fz1 fz2 fz3
     have cz0 : wc.cell? ⟨gb,0,none⟩ = some (.int .i64 op) := (blk_cell HR5.out.bk 0).trans rfl
     have fz0 := blk_frozen HR5.out.bk 0
     have cz1 : wc.cell? ⟨gb,1,none⟩ = some (.int .i64 kk) := (blk_cell HR5.out.bk 1).trans rfl
     have fz1 := blk_frozen HR5.out.bk 1
     have cz2 : wc.cell? ⟨gb,2,none⟩ = some (.int .i64 Y) := (blk_cell HR5.out.bk 2).trans rfl
     have fz2 := blk_frozen HR5.out.bk 2
     have cz3 : wc.cell? ⟨gb,3,none⟩ = some (.int .i64 N) := (blk_cell HR5.out.bk 3).trans rfl
     have fz3 := blk_frozen HR5.out.bk 3
     go_upto_if 32 with (go_at_call 69; (with_reducible refine (spec_l06Ask.calls op ask _ F2.out).mono ?_); rintro e w' ⟨rfl,⟨nd,rfl⟩⟩)
     go_cut [7] (fun v7 wd => Aside0 (Rnd w0 w wd g gb s0_0 i3 g3 u3 xs #[.int .i64 op,.int .i64 kk,.int .i64 yy,.int .i64 nn]))
     case first =>
      cases ask with
      | true =>
       have E := Aside0.mk (F5.out rfl)
       have z := (F5.out rfl).1
       have z0 : ((wrap64 (wrap64 (1 + n) - x5)) == 0) = false := beq_eq_false_iff_ne.mpr z
       go_wp2
       go_meet
       case rel => exact ⟨by rw [E.out.2.1,E.out.2.2]; exact ((HR5.out.drewN nd).put 2 (.int .i64 (Int.tmod Y (wrap64 (wrap64 (1 + n) - x5))))).put 3 (.int .i64 (Int.tmod N (wrap64 (wrap64 (1 + n) - x5))))⟩
      | false =>
       have E := Aside0.mk (F6.out rfl)
       go_wp2
       go_meet
       case rel => exact ⟨by rw [E.out.1,E.out.2]; exact HR5.out.drewN nd⟩
     case rest =>
      have HR6 := hcut
      clear HR5 cz0 cz1 cz2 cz3 fz0 fz1 fz2 fz3 hcut
      have cz0 : wc.cell? ⟨gb,0,none⟩ = some (.int .i64 op) := (blk_cell HR6.out.bk 0).trans rfl
      have fz0 := blk_frozen HR6.out.bk 0
      have cz1 : wc.cell? ⟨gb,1,none⟩ = some (.int .i64 kk) := (blk_cell HR6.out.bk 1).trans rfl
      have fz1 := blk_frozen HR6.out.bk 1
      have cz2 : wc.cell? ⟨gb,2,none⟩ = some (.int .i64 yy) := (blk_cell HR6.out.bk 2).trans rfl
      have fz2 := blk_frozen HR6.out.bk 2
      have cz3 : wc.cell? ⟨gb,3,none⟩ = some (.int .i64 nn) := (blk_cell HR6.out.bk 3).trans rfl
      have fz3 := blk_frozen HR6.out.bk 3
      go_wp2_with ((with_reducible refine gate_builtin (b := .append) (xs := #[.tmp 43,.tmp 45]) rfl ?_); at_builtin; refine Kd.R_append k25 w.heap.size rfl (.tmp 43) (.tmp 45) 37 25 (.agg #[(.int .i64 0),(.int .i64 0),(.int .i64 0),(.int .i64 0)]) 32 rfl Try.underlying37 info25 rfl (by decide) (by omega) u3 xs (⟨op,kk,yy,nn⟩ : S25) [.int .i64 op,.int .i64 kk,.int .i64 yy,.int .i64 nn] (fun k_ => k_ ≠ gb) (fun _ => False) rfl (by first | rfl | (go_simp; done) | (go_simp; rfl)) ?aP (fun _ hk => hk.elim) ?aF ?aO (Below.refl _ _) ?aS ?aL ?_; (case aP => exact k25_mkM _ _ _ (⟨op,kk,yy,nn⟩ : S25)); (case aF => exact (fun k_ hk => Kd.freshB HR6.out.bk k_ hk)); (case aO => exact HR6.out.ho); (case aS => exact keep_size HR6.out.hk); (case aL => have := F7.out; omega); intro v7 w7 ho hb hg hat; have HO := Aside0.mk (Kd.R_mono ho (fun _ _ => trivial)); have HI0 := Aside0.mk (IsS102.grown HR6.out.hi hg (IsS102.own_ne HR6.out.hi HR6.out.ho (by decide))); have HB := Aside0.mk (below_weaken HR6.out.hb HW0.out hb); have HK := Aside0.mk (KeepBut.trans HR6.out.hk (KeepBut.of_grown hg g) (Kd.R_base2 HR6.out.ho)); clear ho hb hg hat)
      go_roundg k1
      case measure => have := HK1.out; omega
      case rel => exact ⟨xs ++ [⟨op,kk,yy,nn⟩],wrap64 (x5 + 1),i3,g3,by first | rfl | (simp; done),F8,⟨by have := HK1.out; omega⟩,HO,HI0,HK,HB⟩
   ·
    have H := HA.out
    simp only [spec_l06Program.l0] at H
    rw [if_neg hlt] at H
    obtain ⟨⟨b1,i3,g3⟩,f1,H⟩ := Option.bind_eq_some_iff.mp H
    obtain ⟨⟨b2,i4,g4⟩,f2,H⟩ := Option.bind_eq_some_iff.mp H
    obtain ⟨q,f3,H⟩ := Option.bind_eq_some_iff.mp H
    dsimp only at f1 f2 f3 H
    by_cases l : xs.length < 4398046511104
    ·
     rw [if_pos l] at H
     simp only [Option.some.injEq,Prod.mk.injEq] at H
     obtain ⟨e1,e2,e3⟩ := H
     have F1 := Aside0.mk f1
     have F2 := Aside0.mk f2
     have F3 := Aside0.mk f3
     have F7 := Aside0.mk l
     have E := Aside0.mk (And.intro e1 (And.intro e2 e3))
     have d0 : decide (x5 < wrap64 (1 + n)) = false := decide_eq_false hlt
     clear f1 f2 f3 e1 e2 e3 l HA hlt
     go_wp2_with (first
      | (go_at_call 78; (with_reducible refine (spec_l01Below.calls g s0_0 i2 g2 6 b1 i3 g3 w0 _ HI0.out HB.out F1.out).mono ?_); rintro e w5 ⟨rfl,hi,hb,hk⟩; have n0_ := Aside0.mk (Kd.R_mono (Kd.R_keep (IsS102.apart HI0.out HO.out (by decide)) hk (fun _ h => h.2)) (fun _ h => h.1)); have n1_ := Aside0.mk (KeepBut.trans HK.out hk (.inl rfl)); clear HO HK HB HI0; have HO := n0_; have HK := n1_; have HB := Aside0.mk hb; have HI0 := Aside0.mk hi; clear n0_ n1_ hb hi hk)
      | (go_at_call 78; (with_reducible refine (spec_l01Below.calls g s0_0 i3 g3 5 b2 i4 g4 w0 _ HI0.out HB.out F2.out).mono ?_); rintro e w6 ⟨rfl,hi,hb,hk⟩; have n0_ := Aside0.mk (Kd.R_mono (Kd.R_keep (IsS102.apart HI0.out HO.out (by decide)) hk (fun _ h => h.2)) (fun _ h => h.1)); have n1_ := Aside0.mk (KeepBut.trans HK.out hk (.inl rfl)); clear HO HK HB HI0; have HO := n0_; have HK := n1_; have HB := Aside0.mk hb; have HI0 := Aside0.mk hi; clear n0_ n1_ hb hi hk)
      | (go_at_call 63; (with_reducible refine (spec_ResultOf.calls b1 b2 q _ F3.out).mono ?_); rintro e w' ⟨rfl,⟨nd,rfl⟩⟩)
      | ((with_reducible refine gate_builtin (b := .append) (xs := #[.tmp 47,.tmp 54]) rfl ?_); at_builtin; refine Kd.R_append k25 w.heap.size rfl (.tmp 47) (.tmp 54) 37 25 (.agg #[(.int .i64 0),(.int .i64 0),(.int .i64 0),(.int .i64 0)]) 32 rfl Try.underlying37 info25 rfl (by decide) (by omega) u3 xs (⟨8,q,0,0⟩ : S25) [.int .i64 8,.int .i64 q,.int .i64 0,.int .i64 0] (fun _ => True) (fun _ => False) rfl (by first | rfl | (go_simp; done) | (go_simp; rfl)) ?aP (fun _ hk => hk.elim) ?aF ?aO (Below.refl _ _) ?aS ?aL ?_; (case aP => exact k25_mkM _ _ _ (⟨8,q,0,0⟩ : S25)); (case aF => exact (fun _ _ => trivial)); (case aO => exact (by (with_reducible repeat (first | apply Kd.R_alloc | apply Kd.R_drewN | apply Kd.R_drew)); exact HO.out)); (case aS => exact keep_size HK.out); (case aL => have := F7.out; omega); intro v7 w7 ho hb hg hat; have HI1 := Aside0.mk (IsS102.grown (IsS102.drewN HI0.out nd) hg (IsS102.own_ne HI0.out HO.out (by decide))); have HB1 := Aside0.mk (below_weaken (pw_below_drewN HB.out nd) HW0.out hb); have HK1b := Aside0.mk (KeepBut.trans (keep_drewN HK.out nd) (KeepBut.of_grown hg g) (Kd.R_base2 HO.out)); have HO1 := Aside0.mk ho; clear HI0 HB HK HO ho hb hg hat))
     go_ret
     exact ⟨_,rfl,by rw [← E.out.1]; exact HO1.out,by rw [← E.out.2.1,← E.out.2.2]; exact HI1.out,HB1.out,HK1b.out⟩
    ·
     rw [if_neg l] at H
     cases H

/-! ### spec_l06Any: function 79 -/
def spec_l06Any.f (k : Nat) (s0_0 : List Int) (s0_1 : Int) (s0_2 : Int) : Option ((List (S25)) × Int × Int) := (spec_l01Below.f s0_0 s0_1 s0_2 12).bind fun bt280 => ((spec_l01Below.f s0_0 bt280.2.1 bt280.2.2 60).bind fun bt283 => ((some (([] : List (S25)) : List (S25))).bind fun y286 => ((spec_l06Program.f k s0_0 bt283.2.1 bt283.2.2).bind fun bt289 => (if y286.length + bt289.1.length < 4398046511104 then ((some (y286 ++ bt289.1 : List (S25))).bind fun y294 => (if (y294.length : Int) = 0 then (none) else (if bt280.1 = 0 then (if 0 ≤ (Int.tmod bt283.1 (y294.length : Int)) then (if (Int.tmod bt283.1 (y294.length : Int)) < (y294.length : Int) then (some ((y294.set ((Int.tmod bt283.1 (y294.length : Int)) : Int).toNat (⟨Int.tmod bt283.1 10,(rd_T25 y294 (Int.tmod bt283.1 (y294.length : Int))).f1,(rd_T25 y294 (Int.tmod bt283.1 (y294.length : Int))).f2,(rd_T25 y294 (Int.tmod bt283.1 (y294.length : Int))).f3⟩ : S25)),bt289.2.1,bt289.2.2)) else (none)) else (none)) else (if bt280.1 = 1 then ((some (([15,16,(-1)] : List Int) : List Int)).bind fun y298 => (if 0 ≤ (Int.tmod bt283.1 3) then (if (Int.tmod bt283.1 3) < (y298.length : Int) then (if 0 ≤ (Int.tmod bt283.1 (y294.length : Int)) then (if (Int.tmod bt283.1 (y294.length : Int)) < (y294.length : Int) then (some ((y294.set ((Int.tmod bt283.1 (y294.length : Int)) : Int).toNat (⟨(rd_T25 y294 (Int.tmod bt283.1 (y294.length : Int))).f0,(rd_T25 y294 (Int.tmod bt283.1 (y294.length : Int))).f1,rd y298 (Int.tmod bt283.1 3),(rd_T25 y294 (Int.tmod bt283.1 (y294.length : Int))).f3⟩ : S25)),bt289.2.1,bt289.2.2)) else (none)) else (none)) else (none)) else (none))) else (if bt280.1 = 2 then ((some (([(-1),4294967296,400] : List Int) : List Int)).bind fun y303 => (if 0 ≤ (Int.tmod bt283.1 3) then (if (Int.tmod bt283.1 3) < (y303.length : Int) then (if 0 ≤ (Int.tmod bt283.1 (y294.length : Int)) then (if (Int.tmod bt283.1 (y294.length : Int)) < (y294.length : Int) then (some ((y294.set ((Int.tmod bt283.1 (y294.length : Int)) : Int).toNat (⟨(rd_T25 y294 (Int.tmod bt283.1 (y294.length : Int))).f0,rd y303 (Int.tmod bt283.1 3),(rd_T25 y294 (Int.tmod bt283.1 (y294.length : Int))).f2,(rd_T25 y294 (Int.tmod bt283.1 (y294.length : Int))).f3⟩ : S25)),bt289.2.1,bt289.2.2)) else (none)) else (none)) else (none)) else (none))) else (if bt280.1 = 3 then (if 0 ≤ (wrap64 ((y294.length : Int) - 1)) then (if (wrap64 ((y294.length : Int) - 1)) ≤ (y294.length : Int) then (some ((y294.take ((wrap64 ((y294.length : Int) - 1)) : Int).toNat),bt289.2.1,bt289.2.2)) else (none)) else (none)) else (if bt280.1 = 4 then (if 0 ≤ (Int.tmod bt283.1 (y294.length : Int)) then (if (Int.tmod bt283.1 (y294.length : Int)) < (y294.length : Int) then (some ((y294.set ((Int.tmod bt283.1 (y294.length : Int)) : Int).toNat (⟨7,Int.tmod bt283.1 14,0,0⟩ : S25)),bt289.2.1,bt289.2.2)) else (none)) else (none)) else (some (y294,bt289.2.1,bt289.2.2))))))))) else (none)))))
theorem spec_l06Any.mono : ∀ a0 a1 a2 k,LeO (spec_l06Any.f k a0 a1 a2) (spec_l06Any.f (k + 1) a0 a1 a2) := by
 intro a0 a1 a2 k
 unfold spec_l06Any.f
 repeat' first
   | (with_reducible exact spec_l06Program.mono _ _ _ _)
   | (with_reducible exact LeO.refl _)
   | (with_reducible exact LeO.none _)
   | (with_reducible refine LeO.ite ?_ ?_)
   | (with_reducible refine LeO.bind ?_ (fun _ => ?_))
   | exact spec_l06Program.mono _ _ _ _
   | exact LeO.none _
   | refine LeO.ite ?_ ?_
   | refine LeO.bind ?_ (fun _ => ?_)
set_option maxHeartbeats 2000000 in
set_option maxRecDepth 100000 in
theorem spec_l06Any.calls (k : Nat) (g : Nat) (s0_0 : List Int) (s0_1 : Int) (s0_2 : Int) (r1 : List (S25)) (r2 : Int) (r3 : Int) (w0 w : World) (hI : IsS102 w0 w g s0_0 s0_1 s0_2) (hB : Below w0.heap.size w0 w) (h : spec_l06Any.f k s0_0 s0_1 s0_2 = some (r1,r2,r3)) :
  Calls Try.prog 79 #[.pointer (some ⟨g,0,none⟩)] w fun e w' => ∃ v0_ : Value,e = .returned (v0_) ∧ Kd.R k25 25 w' w.heap.size (fun _ => True) v0_ r1 ∧ IsS102 w0 w' g s0_0 r2 r3 ∧ Below w0.heap.size w0 w' ∧ KeepBut w w' g none := by
 have hu25 := Try.underlying25
 have HI0 := Aside0.mk hI
 have HK := Aside0.mk (KeepBut.refl w g none)
 have HW0 := Aside0.mk hB.size
 clear hI
 have HB := Aside0.mk hB
 clear hB
 unfold spec_l06Any.f at h
 obtain ⟨⟨q,i1,g1⟩,h1,h⟩ := Option.bind_eq_some_iff.mp h
 obtain ⟨⟨y,i2,g2⟩,h2,h⟩ := Option.bind_eq_some_iff.mp h
 rw [Option.bind_some] at h
 obtain ⟨⟨p,i3,g3⟩,h3,h⟩ := Option.bind_eq_some_iff.mp h
 dsimp only at h1 h2 h3 h
 rw [List.nil_append] at h
 by_cases c5 : ([] : List S25).length + p.length < 4398046511104
 ·
  rw [if_pos c5,Option.bind_some] at h
  by_cases c6 : (p.length : Int) = 0
  ·
   rw [if_pos c6] at h
   cases h
  ·
   rw [if_neg c6] at h
   have z0 : ((p.length : Int) == 0) = false := beq_eq_false_iff_ne.mpr c6
   have z1 : ¬ (p = []) := fun h_ => c6 (by rw [h_]; rfl)
   have H1 := Aside0.mk h1
   have H2 := Aside0.mk h2
   have H3 := Aside0.mk h3
   have H5 := Aside0.mk c5
   have H6 := Aside0.mk c6
   obtain ⟨j,hj⟩ : ∃ j : Int,Int.tmod y (p.length : Int) = j := ⟨_,rfl⟩
   rw [hj] at h
   have H := Aside0.mk h
   clear h h1 h2 h3 c5 c6
   go_enter Try.func79,Try.ntmps79
   go_upto_region 5 with (first
    | (go_at_call 78; (with_reducible refine (spec_l01Below.calls g s0_0 s0_1 s0_2 12 q i1 g1 w0 _ HI0.out HB.out H1.out).mono ?_); rintro e w1 ⟨rfl,hi,hb,hk⟩; have n1_ := Aside0.mk (KeepBut.trans HK.out hk (.inl rfl)); clear HK HB HI0; have HK := n1_; have HB := Aside0.mk hb; have HI0 := Aside0.mk hi; clear n1_ hb hi hk)
    | (go_at_call 78; (with_reducible refine (spec_l01Below.calls g s0_0 i1 g1 60 y i2 g2 w0 _ HI0.out HB.out H2.out).mono ?_); rintro e w2 ⟨rfl,hi,hb,hk⟩; have n1_ := Aside0.mk (KeepBut.trans HK.out hk (.inl rfl)); clear HK HB HI0; have HK := n1_; have HB := Aside0.mk hb; have HI0 := Aside0.mk hi; clear n1_ hb hi hk)
    | ((with_reducible refine gate_dst (N := 11) rfl ?_); refine Kd.R_lit k25 _ 25 ?hg (N := 11) ?hd (xs := ([] : List (S25))) (inner := []) (ok := fun _ => True) (okp := fun _ => True) ?hr ?hp (fun _ hk => hk) trivial (Below.refl _ _) (Nat.le_refl _) (by simp) ?_; (case hd => rfl); (case hg => rfl); (case hr => first | (go_simp; done) | (go_simp; rfl)); (case hp => exact (Reps.none _ _)); intro v1 w3 ho hb hg_ hnew_; clear hg_ hnew_; have HO := Aside0.mk (Kd.R_lower ho (keep_size HK.out)); have n1_ := Aside0.mk (IsS102.below HI0.out hb); have n2_ := Aside0.mk (KeepBut.trans HK.out (KeepBut.of_below hb g none) (.inl rfl)); have n3_ := Aside0.mk (below_step HB.out hb); clear HI0 HK HB hb ho; have HI0 := n1_; have HK := n2_; have HB := n3_; clear n1_ n2_ n3_)
    | (go_at_call 76; (with_reducible refine (spec_l06Program.calls k g s0_0 i2 g2 p i3 g3 w0 _ HI0.out HB.out H3.out).mono ?_); rintro e w4 ⟨v2,rfl,ho0,hi,hb,hk⟩; have n0_ := Aside0.mk (Kd.R_mono (Kd.R_told (Kd.R_oldK (IsS102.apart HI0.out HO.out (by decide)) hk) (Kd.R_base ho0)) (fun _ h_ => h_.1)); have n1_ := Aside0.mk (Kd.R_lower (Kd.R_new' ho0 (Kd.R_lt HO.out)) (keep_size HK.out)); have n2_ := Aside0.mk (KeepBut.trans HK.out hk (.inl rfl)); clear HO HK HB HI0; have HO := n0_; have HP := n1_; have HK := n2_; have HB := Aside0.mk hb; have HI0 := Aside0.mk hi; clear n0_ n1_ n2_ hb hi hk ho0; obtain ⟨Ap,cp,ep⟩ := Kd.R_slice HP.out; subst ep)
    | ((with_reducible refine gate_builtin (b := .append) (xs := #[.tmp 11,.tmp 13]) rfl ?_); at_builtin; refine Kd.R_append_rows k25 w.heap.size rfl (.tmp 11) (.tmp 13) 37 25 (.agg #[(.int .i64 0),(.int .i64 0),(.int .i64 0),(.int .i64 0)]) 32 rfl Try.underlying37 info25 rfl (by decide) (by omega) v1 ([] : List S25) p _ _ _ (fun k_ => some k_ ≠ (.slice Ap p.length cp : Value).ownBlock) (fun _ => False) rfl rfl ?aO ?aR (fun _ _ h => h) (fun _ h => h.elim) ?aF (Below.refl _ _) ?aS ?aL ?_; (case aR => exact (Kd.R_reads' HP.out).2.2); (case aF => exact (fun k_ hk => Kd.fresh' (Kd.R_lt HP.out) k_ hk)); (case aO => exact Kd.R_mono HO.out (fun _ hk => hk.2)); (case aS => exact keep_size HK.out); (case aL => have := H5.out; omega); intro v3 w5 ho hb hg hat; have n0_ := Aside0.mk (IsS102.grown HI0.out hg (IsS102.own_ne HI0.out HO.out (by decide))); have n2_ := Aside0.mk (below_weaken HB.out HW0.out hb); have n3_ := Aside0.mk (KeepBut.trans HK.out (KeepBut.of_grown hg g) (Kd.R_base2 HO.out)); clear HI0 HB HK HO HP; have HI0 := n0_; have HB := n2_; have HK := n3_; have HO : Aside0 (Kd.R k25 25 w5 w.heap.size (fun _ => True) v3 p) := ⟨Kd.R_mono ho (fun _ _ => trivial)⟩; clear n0_ n2_ n3_ ho hb hg hat; obtain ⟨go,co,eo,gb,gl,cl,hG⟩ := Kd.R_form HO.out (by have := H6.out; omega); subst eo; have HGB := Aside0.mk gb; clear gb gl hG))
   have h := H.out
   clear H
   by_cases q0 : q = 0
   ·
    rw [if_pos q0] at h
    by_cases hj0 : 0 ≤ j
    ·
     rw [if_pos hj0] at h
     by_cases hj1 : j < (p.length : Int)
     ·
      rw [if_pos hj1] at h
      simp only [Option.some.injEq,Prod.mk.injEq] at h
      obtain ⟨rfl,rfl,rfl⟩ := h
      have p0 := eq_true hj0
      have p1 := eq_true hj1
      have b0 : (q == 0) = true := beq_iff_eq.mpr q0
      obtain ⟨ce,hcl,hM,hcc,hfr⟩ := Kd.R_elem HO.out z25 j hj0 hj1; obtain rfl := k25_openM hM; have HP := Kd.R_seg HO.out j hj0 hj1 (seg := [.int .i64 (Int.tmod y 10)]) (j := 0) hcl hcc (show 1 ≤ 4 from by decide) (x' := ((⟨Int.tmod y 10,(rd_T25 p j).f1,(rd_T25 p j).f2,(rd_T25 p j).f3⟩ : S25) : S25)) (k25_mkM _ _ _ ((⟨Int.tmod y 10,(rd_T25 p j).f1,(rd_T25 p j).f2,(rd_T25 p j).f3⟩ : S25) : S25)) (fun _ hk => hk); have hx0 : w5.cell? ⟨go,j.toNat * 4,none⟩ = some (.int .i64 (rd_T25 p j).f0) := hcc 0 _ rfl; have hx1 : w5.cell? ⟨go,j.toNat * 4 + 1,none⟩ = some (.int .i64 (rd_T25 p j).f1) := hcc 1 _ rfl; have hx2 : w5.cell? ⟨go,j.toNat * 4 + 2,none⟩ = some (.int .i64 (rd_T25 p j).f2) := hcc 2 _ rfl; have hx3 : w5.cell? ⟨go,j.toNat * 4 + 3,none⟩ = some (.int .i64 (rd_T25 p j).f3) := hcc 3 _ rfl; have hf0 : w5.frozen? ⟨go,j.toNat * 4,none⟩ = false := hfr 0; have hf1 : w5.frozen? ⟨go,j.toNat * 4 + 1,none⟩ = false := hfr 1; have hf2 : w5.frozen? ⟨go,j.toNat * 4 + 2,none⟩ = false := hfr 2; have hf3 : w5.frozen? ⟨go,j.toNat * 4 + 3,none⟩ = false := hfr 3; have HPA := Aside0.mk HP; clear HP hcl hcc hfr hM
      go_wp2
      go_ret
      exact ⟨_,rfl,Kd.R_mono HPA.out.1 (fun _ _ => trivial),IsS102.grown HI0.out HPA.out.2 (IsS102.own_ne HI0.out HO.out (by decide)),Below.grown HB.out HPA.out.2 HB.out.size (fun k hk => by obtain rfl := Option.some.inj hk; exact Nat.le_trans HW0.out HGB.out),KeepBut.trans HK.out (KeepBut.of_grown HPA.out.2 g) (Kd.R_base2 HO.out)⟩
     ·
      rw [if_neg hj1] at h
      cases h
    ·
     rw [if_neg hj0] at h
     cases h
   ·
    rw [if_neg q0] at h
    by_cases q1 : q = 1
    ·
     rw [if_pos q1] at h
     rw [Option.bind_some] at h
     obtain ⟨jj,hjj⟩ : ∃ jj : Int,Int.tmod y 3 = jj := ⟨_,rfl⟩
     rw [hjj] at h
     by_cases hm0 : 0 ≤ jj
     ·
      rw [if_pos hm0] at h
      by_cases hm1 : jj < (([15,16,(-1)] : List Int).length : Int)
      ·
       rw [if_pos hm1] at h
       obtain ⟨xv,hxv⟩ : ∃ xv : Int,rd ([15,16,(-1)] : List Int) jj = xv := ⟨_,rfl⟩
       rw [hxv] at h
       have HXV := Aside0.mk hxv
       clear hxv
       by_cases hj0 : 0 ≤ j
       ·
        rw [if_pos hj0] at h
        by_cases hj1 : j < (p.length : Int)
        ·
         rw [if_pos hj1] at h
         simp only [Option.some.injEq,Prod.mk.injEq] at h
         obtain ⟨rfl,rfl,rfl⟩ := h
         have p0 := eq_true hj0
         have p1 := eq_true hj1
         have p2 := eq_true hm0
         have p3 := eq_true hm1
         have p4 : (jj < 3) = True := eq_true hm1
         have b0 : (q == 0) = false := beq_eq_false_iff_ne.mpr q0; have b1 : (q == 1) = true := beq_iff_eq.mpr q1
         go_wp2_with ((with_reducible refine gate_dst (N := 32) rfl ?_); refine Kd.R_lit (Kd.int .i64) _ 3 ?hg (N := 32) ?hd (xs := ([15,16,(-1)] : List Int)) (inner := [.int .i64 15,.int .i64 16,.int .i64 (-1)]) (ok := fun _ => True) (okp := fun _ => True) ?hr ?hp (fun _ hk => hk) trivial (Below.refl _ _) (Nat.le_refl _) (by simp) ?_; (case hd => rfl); (case hg => rfl); (case hr => first | (go_simp; done) | (go_simp; rfl)); (case hp => exact (Reps.one (show Kd.M (Kd.int .i64) _ _ _ 15 [.int .i64 15] from rfl) (Reps.one (show Kd.M (Kd.int .i64) _ _ _ 16 [.int .i64 16] from rfl) (Reps.one (show Kd.M (Kd.int .i64) _ _ _ (-1) [.int .i64 (-1)] from rfl) (Reps.none _ _))))); intro v8 w6 ho hb hg_ hnew_; clear hg_ hnew_; have n0_ := Aside0.mk (Kd.R_below HO.out hb); have n1_ := Aside0.mk (IsS102.below HI0.out hb); have n2_ := Aside0.mk (KeepBut.trans HK.out (KeepBut.of_below hb g none) (.inl rfl)); have n3_ := Aside0.mk (below_step HB.out hb); clear HO HI0 HK HB; have HO := n0_; have HI0 := n1_; have HK := n2_; have HB := n3_; clear n0_ n1_ n2_ n3_ hb; obtain ⟨A8,c8,e8⟩ := Kd.R_slice ho; subst e8; obtain ⟨ad8,e9,hx8⟩ := Kd.at_int (Kd.R_reads' ho).2.2 jj hm0 hm1; cases e9; rw [HXV.out] at hx8; clear ho; obtain ⟨ce,hcl,hM,hcc,hfr⟩ := Kd.R_elem HO.out z25 j hj0 hj1; obtain rfl := k25_openM hM; have HP := Kd.R_seg HO.out j hj0 hj1 (seg := [.int .i64 (xv)]) (j := 2) hcl hcc (show 3 ≤ 4 from by decide) (x' := ((⟨(rd_T25 p j).f0,(rd_T25 p j).f1,xv,(rd_T25 p j).f3⟩ : S25) : S25)) (k25_mkM _ _ _ ((⟨(rd_T25 p j).f0,(rd_T25 p j).f1,xv,(rd_T25 p j).f3⟩ : S25) : S25)) (fun _ hk => hk); have hx0 : w6.cell? ⟨go,j.toNat * 4,none⟩ = some (.int .i64 (rd_T25 p j).f0) := hcc 0 _ rfl; have hx1 : w6.cell? ⟨go,j.toNat * 4 + 1,none⟩ = some (.int .i64 (rd_T25 p j).f1) := hcc 1 _ rfl; have hx2 : w6.cell? ⟨go,j.toNat * 4 + 2,none⟩ = some (.int .i64 (rd_T25 p j).f2) := hcc 2 _ rfl; have hx3 : w6.cell? ⟨go,j.toNat * 4 + 3,none⟩ = some (.int .i64 (rd_T25 p j).f3) := hcc 3 _ rfl; have hf0 : w6.frozen? ⟨go,j.toNat * 4,none⟩ = false := hfr 0; have hf1 : w6.frozen? ⟨go,j.toNat * 4 + 1,none⟩ = false := hfr 1; have hf2 : w6.frozen? ⟨go,j.toNat * 4 + 2,none⟩ = false := hfr 2; have hf3 : w6.frozen? ⟨go,j.toNat * 4 + 3,none⟩ = false := hfr 3; have HPA := Aside0.mk HP; clear HP hcl hcc hfr hM)
         go_ret
         exact ⟨_,rfl,Kd.R_mono HPA.out.1 (fun _ _ => trivial),IsS102.grown HI0.out HPA.out.2 (IsS102.own_ne HI0.out HO.out (by decide)),Below.grown HB.out HPA.out.2 HB.out.size (fun k hk => by obtain rfl := Option.some.inj hk; exact Nat.le_trans HW0.out HGB.out),KeepBut.trans HK.out (KeepBut.of_grown HPA.out.2 g) (Kd.R_base2 HO.out)⟩
        ·
         rw [if_neg hj1] at h
         cases h
       ·
        rw [if_neg hj0] at h
        cases h
      ·
       rw [if_neg hm1] at h
       cases h
     ·
      rw [if_neg hm0] at h
      cases h
    ·
     rw [if_neg q1] at h
     by_cases q2 : q = 2
     ·
      rw [if_pos q2] at h
      rw [Option.bind_some] at h
      obtain ⟨jj,hjj⟩ : ∃ jj : Int,Int.tmod y 3 = jj := ⟨_,rfl⟩
      rw [hjj] at h
      by_cases hm0 : 0 ≤ jj
      ·
       rw [if_pos hm0] at h
       by_cases hm1 : jj < (([(-1),4294967296,400] : List Int).length : Int)
       ·
        rw [if_pos hm1] at h
        obtain ⟨xv,hxv⟩ : ∃ xv : Int,rd ([(-1),4294967296,400] : List Int) jj = xv := ⟨_,rfl⟩
        rw [hxv] at h
        have HXV := Aside0.mk hxv
        clear hxv
        by_cases hj0 : 0 ≤ j
        ·
         rw [if_pos hj0] at h
         by_cases hj1 : j < (p.length : Int)
         ·
          rw [if_pos hj1] at h
          simp only [Option.some.injEq,Prod.mk.injEq] at h
          obtain ⟨rfl,rfl,rfl⟩ := h
          have p0 := eq_true hj0
          have p1 := eq_true hj1
          have p2 := eq_true hm0
          have p3 := eq_true hm1
          have p4 : (jj < 3) = True := eq_true hm1
          have b0 : (q == 0) = false := beq_eq_false_iff_ne.mpr q0; have b1 : (q == 1) = false := beq_eq_false_iff_ne.mpr q1; have b2 : (q == 2) = true := beq_iff_eq.mpr q2
          go_wp2_with ((with_reducible refine gate_dst (N := 43) rfl ?_); refine Kd.R_lit (Kd.int .i64) _ 3 ?hg (N := 43) ?hd (xs := ([(-1),4294967296,400] : List Int)) (inner := [.int .i64 (-1),.int .i64 4294967296,.int .i64 400]) (ok := fun _ => True) (okp := fun _ => True) ?hr ?hp (fun _ hk => hk) trivial (Below.refl _ _) (Nat.le_refl _) (by simp) ?_; (case hd => rfl); (case hg => rfl); (case hr => first | (go_simp; done) | (go_simp; rfl)); (case hp => exact (Reps.one (show Kd.M (Kd.int .i64) _ _ _ (-1) [.int .i64 (-1)] from rfl) (Reps.one (show Kd.M (Kd.int .i64) _ _ _ 4294967296 [.int .i64 4294967296] from rfl) (Reps.one (show Kd.M (Kd.int .i64) _ _ _ 400 [.int .i64 400] from rfl) (Reps.none _ _))))); intro v8 w6 ho hb hg_ hnew_; clear hg_ hnew_; have n0_ := Aside0.mk (Kd.R_below HO.out hb); have n1_ := Aside0.mk (IsS102.below HI0.out hb); have n2_ := Aside0.mk (KeepBut.trans HK.out (KeepBut.of_below hb g none) (.inl rfl)); have n3_ := Aside0.mk (below_step HB.out hb); clear HO HI0 HK HB; have HO := n0_; have HI0 := n1_; have HK := n2_; have HB := n3_; clear n0_ n1_ n2_ n3_ hb; obtain ⟨A8,c8,e8⟩ := Kd.R_slice ho; subst e8; obtain ⟨ad8,e9,hx8⟩ := Kd.at_int (Kd.R_reads' ho).2.2 jj hm0 hm1; cases e9; rw [HXV.out] at hx8; clear ho; obtain ⟨ce,hcl,hM,hcc,hfr⟩ := Kd.R_elem HO.out z25 j hj0 hj1; obtain rfl := k25_openM hM; have HP := Kd.R_seg HO.out j hj0 hj1 (seg := [.int .i64 (xv)]) (j := 1) hcl hcc (show 2 ≤ 4 from by decide) (x' := ((⟨(rd_T25 p j).f0,xv,(rd_T25 p j).f2,(rd_T25 p j).f3⟩ : S25) : S25)) (k25_mkM _ _ _ ((⟨(rd_T25 p j).f0,xv,(rd_T25 p j).f2,(rd_T25 p j).f3⟩ : S25) : S25)) (fun _ hk => hk); have hx0 : w6.cell? ⟨go,j.toNat * 4,none⟩ = some (.int .i64 (rd_T25 p j).f0) := hcc 0 _ rfl; have hx1 : w6.cell? ⟨go,j.toNat * 4 + 1,none⟩ = some (.int .i64 (rd_T25 p j).f1) := hcc 1 _ rfl; have hx2 : w6.cell? ⟨go,j.toNat * 4 + 2,none⟩ = some (.int .i64 (rd_T25 p j).f2) := hcc 2 _ rfl; have hx3 : w6.cell? ⟨go,j.toNat * 4 + 3,none⟩ = some (.int .i64 (rd_T25 p j).f3) := hcc 3 _ rfl; have hf0 : w6.frozen? ⟨go,j.toNat * 4,none⟩ = false := hfr 0; have hf1 : w6.frozen? ⟨go,j.toNat * 4 + 1,none⟩ = false := hfr 1; have hf2 : w6.frozen? ⟨go,j.toNat * 4 + 2,none⟩ = false := hfr 2; have hf3 : w6.frozen? ⟨go,j.toNat * 4 + 3,none⟩ = false := hfr 3; have HPA := Aside0.mk HP; clear HP hcl hcc hfr hM)
          go_ret
          exact ⟨_,rfl,Kd.R_mono HPA.out.1 (fun _ _ => trivial),IsS102.grown HI0.out HPA.out.2 (IsS102.own_ne HI0.out HO.out (by decide)),Below.grown HB.out HPA.out.2 HB.out.size (fun k hk => by obtain rfl := Option.some.inj hk; exact Nat.le_trans HW0.out HGB.out),KeepBut.trans HK.out (KeepBut.of_grown HPA.out.2 g) (Kd.R_base2 HO.out)⟩
         ·
          rw [if_neg hj1] at h
          cases h
        ·
         rw [if_neg hj0] at h
         cases h
       ·
        rw [if_neg hm1] at h
        cases h
      ·
       rw [if_neg hm0] at h
       cases h
     ·
      rw [if_neg q2] at h
      by_cases q3 : q = 3
      ·
       rw [if_pos q3] at h
       obtain ⟨jc,hjc⟩ : ∃ jc : Int,wrap64 ((p.length : Int) - 1) = jc := ⟨_,rfl⟩
       rw [hjc] at h
       by_cases hm0 : 0 ≤ jc
       ·
        rw [if_pos hm0] at h
        by_cases hm1 : jc ≤ (p.length : Int)
        ·
         rw [if_pos hm1] at h
         simp only [Option.some.injEq,Prod.mk.injEq] at h
         obtain ⟨rfl,rfl,rfl⟩ := h
         have b0 : (q == 0) = false := beq_eq_false_iff_ne.mpr q0; have b1 : (q == 1) = false := beq_eq_false_iff_ne.mpr q1; have b2 : (q == 2) = false := beq_eq_false_iff_ne.mpr q2; have b3 : (q == 3) = true := beq_iff_eq.mpr q3
         obtain ⟨i0,hi0,_,hsz,_⟩ := info_parts info25
         have hcut := cut_to (P := Try.prog) 37 25 .i64 Try.underlying37 hi0 (some ⟨go,0,none⟩) p.length co jc hm0 hm1 (Kd.R_reads' HO.out).2.1
         have HPA := Aside0.mk (Kd.R_take (m := jc.toNat) HO.out (by omega))
         clear hi0 hsz
         have p2 := eq_true hm0
         have p3 := eq_true hm1
         go_wp2
         go_ret
         exact ⟨_,rfl,HPA.out,HI0.out,HB.out,HK.out⟩
        ·
         rw [if_neg hm1] at h
         cases h
       ·
        rw [if_neg hm0] at h
        cases h
      ·
       rw [if_neg q3] at h
       by_cases q4 : q = 4
       ·
        rw [if_pos q4] at h
        by_cases hj0 : 0 ≤ j
        ·
         rw [if_pos hj0] at h
         by_cases hj1 : j < (p.length : Int)
         ·
          rw [if_pos hj1] at h
          simp only [Option.some.injEq,Prod.mk.injEq] at h
          obtain ⟨rfl,rfl,rfl⟩ := h
          have p0 := eq_true hj0
          have p1 := eq_true hj1
          have b0 : (q == 0) = false := beq_eq_false_iff_ne.mpr q0; have b1 : (q == 1) = false := beq_eq_false_iff_ne.mpr q1; have b2 : (q == 2) = false := beq_eq_false_iff_ne.mpr q2; have b3 : (q == 3) = false := beq_eq_false_iff_ne.mpr q3; have b4 : (q == 4) = true := beq_iff_eq.mpr q4
          obtain ⟨ce,hcl,hM,hcc,hfr⟩ := Kd.R_elem HO.out z25 j hj0 hj1; obtain rfl := k25_openM hM; have HP := Kd.R_seg HO.out j hj0 hj1 (seg := [.int .i64 7,.int .i64 (Int.tmod y 14),.int .i64 0,.int .i64 0]) (j := 0) hcl hcc (show 4 ≤ 4 from by decide) (x' := ((⟨7,Int.tmod y 14,0,0⟩ : S25) : S25)) (k25_mkM _ _ _ ((⟨7,Int.tmod y 14,0,0⟩ : S25) : S25)) (fun _ hk => hk); have hx0 : w5.cell? ⟨go,j.toNat * 4,none⟩ = some (.int .i64 (rd_T25 p j).f0) := hcc 0 _ rfl; have hx1 : w5.cell? ⟨go,j.toNat * 4 + 1,none⟩ = some (.int .i64 (rd_T25 p j).f1) := hcc 1 _ rfl; have hx2 : w5.cell? ⟨go,j.toNat * 4 + 2,none⟩ = some (.int .i64 (rd_T25 p j).f2) := hcc 2 _ rfl; have hx3 : w5.cell? ⟨go,j.toNat * 4 + 3,none⟩ = some (.int .i64 (rd_T25 p j).f3) := hcc 3 _ rfl; have hf0 : w5.frozen? ⟨go,j.toNat * 4,none⟩ = false := hfr 0; have hf1 : w5.frozen? ⟨go,j.toNat * 4 + 1,none⟩ = false := hfr 1; have hf2 : w5.frozen? ⟨go,j.toNat * 4 + 2,none⟩ = false := hfr 2; have hf3 : w5.frozen? ⟨go,j.toNat * 4 + 3,none⟩ = false := hfr 3; have HPA := Aside0.mk HP; clear HP hcl hcc hfr hM
          go_wp2
          go_ret
          exact ⟨_,rfl,Kd.R_mono HPA.out.1 (fun _ _ => trivial),IsS102.grown HI0.out HPA.out.2 (IsS102.own_ne HI0.out HO.out (by decide)),Below.grown HB.out HPA.out.2 HB.out.size (fun k hk => by obtain rfl := Option.some.inj hk; exact Nat.le_trans HW0.out HGB.out),KeepBut.trans HK.out (KeepBut.of_grown HPA.out.2 g) (Kd.R_base2 HO.out)⟩
         ·
          rw [if_neg hj1] at h
          cases h
        ·
         rw [if_neg hj0] at h
         cases h
       ·
        rw [if_neg q4] at h
        simp only [Option.some.injEq,Prod.mk.injEq] at h
        obtain ⟨rfl,rfl,rfl⟩ := h
        have b0 : (q == 0) = false := beq_eq_false_iff_ne.mpr q0; have b1 : (q == 1) = false := beq_eq_false_iff_ne.mpr q1; have b2 : (q == 2) = false := beq_eq_false_iff_ne.mpr q2; have b3 : (q == 3) = false := beq_eq_false_iff_ne.mpr q3; have b4 : (q == 4) = false := beq_eq_false_iff_ne.mpr q4; have b9 := True.intro
        go_wp2
        go_ret
        exact ⟨_,rfl,HO.out,HI0.out,HB.out,HK.out⟩
 ·
  rw [if_neg c5] at h
  cases h

/-! ### spec_l01Once: function 96 -/
def spec_l01Once.f (s0_0 : List Int) (s0_1 : Int) (s0_2 : Int) (a1 : Int) : Option (Bool × Int × Int) := (spec_l01Below.f s0_0 s0_1 s0_2 a1).bind fun bt312 => (some ((bt312.1 == 0),bt312.2.1,bt312.2.2))
set_option maxHeartbeats 8000000 in
set_option maxRecDepth 100000 in
theorem spec_l01Once.calls (g : Nat) (s0_0 : List Int) (s0_1 : Int) (s0_2 : Int) (a1 : Int) (r1 : Bool) (r2 : Int) (r3 : Int) (w0 w : World) (hI : IsS102 w0 w g s0_0 s0_1 s0_2) (hB : Below w0.heap.size w0 w) (h : spec_l01Once.f s0_0 s0_1 s0_2 a1 = some (r1,r2,r3)) :
  Calls Try.prog 96 #[.pointer (some ⟨g,0,none⟩),.int .i64 a1] w fun e w' => e = .returned (.bool r1) ∧ IsS102 w0 w' g s0_0 r2 r3 ∧ Below w0.heap.size w0 w' ∧ KeepBut w w' g none := by
 have HI0 := Aside0.mk hI
 have HK := Aside0.mk (KeepBut.refl w g none)
 have HL := Aside0.mk hB.size
 clear hI
 have HW0 := Aside0.mk hB.size
 have HB := Aside0.mk hB
 clear hB
 have H : ((spec_l01Below.f s0_0 s0_1 s0_2 a1).bind fun bt312 => (some ((bt312.1 == 0),bt312.2.1,bt312.2.2))) = some (r1,r2,r3) := h
 clear h
 replace H := Option.bind_eq_some_iff.mp H
 obtain ⟨⟨t312,t313,t314⟩,A30,H⟩ := H
 replace H : (some ((t312 == 0),t313,t314)) = some (r1,r2,r3) := H
 have A3 := Aside0.mk A30
 clear A30
 simp only [Option.some.injEq,Prod.mk.injEq] at H
 obtain ⟨rfl,rfl,rfl⟩ := H
 go_enter Try.func96,Try.ntmps96
 go_wp2_with (first | ((with_reducible refine gate_callee (f := 78) rfl ?_); refine goesL_ (some 7) rfl rfl Try.func78 (by kernel_rfl) rfl #[.pointer (some ⟨g,0,none⟩),.int .i64 a1] rfl (by (try simp only [List.map_toArray,List.map_cons,List.map_nil]); first | done | rfl | (simp only [List.length_drop,List.length_take]; rfl)) ?_; (with_reducible refine (spec_l01Below.calls g s0_0 s0_1 s0_2 a1 t312 t313 t314 w0 _ ?side1 ?side2 A3.out).mono ?_); (case side1 => repeat (first | (with_reducible first | exact HI0.out | apply IsS102.alloc | apply IsS102.drewN | apply IsS102.drew | apply IsS102.set_1 | apply IsS102.set_2) | exact HI0.out)); (case side2 => repeat (first | (with_reducible first | exact HB.out | apply below_alloc | apply pw_below_drewN | apply below_drew1 | refine below_set ?_ (IsS102.ge HI0.out)) | exact HB.out)); rintro e w4 ⟨rfl,hi,hb,hk⟩; refine ⟨_,rfl,?_⟩; have n0_ := Aside0.mk (KeepBut.trans (by repeat (first | (with_reducible first | exact HK.out | apply KeepBut.set_ | apply keep_drewN | apply keep_drew | apply keep_alloc) | exact HK.out)) hk (.inl rfl)); have n1_ := Aside0.mk (hb); have n2_ := Aside0.mk (hi); clear HK; clear HB; clear HI0; have HK := n0_; have HB := n1_; have HI0 := n2_; clear n0_ n1_ n2_; (try clear hb); (try clear hb2); (try clear hk); (try clear hi)))
 go_ret
 exact ⟨by first | rfl | (simp [errW_none,errW_some] <;> rfl) | (simp [*,errW_none,errW_some] <;> rfl),by repeat (first | (with_reducible first | exact HI0.out | apply IsS102.alloc | apply IsS102.drewN | apply IsS102.drew | apply IsS102.set_1 | apply IsS102.set_2) | exact HI0.out),by repeat (first | (with_reducible first | exact HB.out | apply below_alloc | apply pw_below_drewN | apply below_drew1 | refine below_set ?_ (IsS102.ge HI0.out)) | exact HB.out),by repeat (first | (with_reducible first | exact HK.out | apply KeepBut.set_ | apply keep_drewN | apply keep_drew | apply keep_alloc) | exact HK.out)⟩

/-! ### spec_l04Wide: function 106 -/
def spec_l04Wide.f (s0_0 : List Int) (s0_1 : Int) (s0_2 : Int) : Option (Int × Int × Int × Int) := (spec_l04Half.f s0_0 s0_1 s0_2).bind fun bt316 => ((spec_l01Once.f s0_0 bt316.2.1 bt316.2.2 3).bind fun bt320 => (if bt320.1 = true then ((spec_l04Half.f s0_0 bt320.2.1 bt320.2.2).bind fun bt323 => (some (bt323.1,bt316.1,bt323.2.1,bt323.2.2))) else (some (0,bt316.1,bt320.2.1,bt320.2.2))))
set_option maxHeartbeats 8000000 in
set_option maxRecDepth 100000 in
theorem spec_l04Wide.calls (g : Nat) (s0_0 : List Int) (s0_1 : Int) (s0_2 : Int) (r1 : Int) (r2 : Int) (r3 : Int) (r4 : Int) (w0 w : World) (hI : IsS102 w0 w g s0_0 s0_1 s0_2) (hB : Below w0.heap.size w0 w) (h : spec_l04Wide.f s0_0 s0_1 s0_2 = some (r1,r2,r3,r4)) :
  Calls Try.prog 106 #[.pointer (some ⟨g,0,none⟩)] w fun e w' => e = .returned (.agg #[.int .i64 r1,.int .i64 r2]) ∧ IsS102 w0 w' g s0_0 r3 r4 ∧ Below w0.heap.size w0 w' ∧ KeepBut w w' g none := by
 have hu107 := Try.underlying107
 have HI0 := Aside0.mk hI
 have HK := Aside0.mk (KeepBut.refl w g none)
 have HL := Aside0.mk hB.size
 clear hI
 have HW0 := Aside0.mk hB.size
 have HB := Aside0.mk hB
 clear hB
 have H : ((spec_l04Half.f s0_0 s0_1 s0_2).bind fun bt316 => ((spec_l01Once.f s0_0 bt316.2.1 bt316.2.2 3).bind fun bt320 => (if bt320.1 = true then ((spec_l04Half.f s0_0 bt320.2.1 bt320.2.2).bind fun bt323 => (some (bt323.1,bt316.1,bt323.2.1,bt323.2.2))) else (some (0,bt316.1,bt320.2.1,bt320.2.2))))) = some (r1,r2,r3,r4) := h
 clear h
 replace H := Option.bind_eq_some_iff.mp H
 obtain ⟨⟨t316,t317,t318⟩,A20,H⟩ := H
 replace H : ((spec_l01Once.f s0_0 t317 t318 3).bind fun bt320 => (if bt320.1 = true then ((spec_l04Half.f s0_0 bt320.2.1 bt320.2.2).bind fun bt323 => (some (bt323.1,t316,bt323.2.1,bt323.2.2))) else (some (0,t316,bt320.2.1,bt320.2.2)))) = some (r1,r2,r3,r4) := H
 have A2 := Aside0.mk A20
 clear A20
 replace H := Option.bind_eq_some_iff.mp H
 obtain ⟨⟨t320,t321,t322⟩,A30,H⟩ := H
 replace H : (if t320 = true then ((spec_l04Half.f s0_0 t321 t322).bind fun bt323 => (some (bt323.1,t316,bt323.2.1,bt323.2.2))) else (some (0,t316,t321,t322))) = some (r1,r2,r3,r4) := H
 have A3 := Aside0.mk A30
 clear A30
 by_cases c4 : t320 = true
 ·
  subst c4
  have H1 : ((spec_l04Half.f s0_0 t321 t322).bind fun bt323 => (some (bt323.1,t316,bt323.2.1,bt323.2.2))) = some (r1,r2,r3,r4) := by rw [if_pos rfl] at H; exact H
  clear H
  have H := H1
  clear H1
  replace H := Option.bind_eq_some_iff.mp H
  obtain ⟨⟨t323,t324,t325⟩,A50,H⟩ := H
  replace H : (some (t323,t316,t324,t325)) = some (r1,r2,r3,r4) := H
  have A5 := Aside0.mk A50
  clear A50
  simp only [Option.some.injEq,Prod.mk.injEq] at H
  obtain ⟨rfl,rfl,rfl,rfl⟩ := H
  go_enter Try.func106,Try.ntmps106
  go_wp2_with (first | ((with_reducible refine gate_dst (N := 2) rfl ?_); refine box_event ?hg (N := 2) ?hd (cs := #[.int .i64 0,.int .i64 0]) (t := 107) ?hr ?_; (case hd => rfl); (case hg => rfl); (case hr => first | (go_simp; done) | (go_simp; rfl)); intro gb315 hg w6 hbox hb; have n0_ := Aside0.mk (IsS102.below (by repeat (first | (with_reducible first | exact HI0.out | apply IsS102.alloc | apply IsS102.drewN | apply IsS102.drew | apply IsS102.set_1 | apply IsS102.set_2) | exact HI0.out)) hb); have n1_ := Aside0.mk (KeepBut.trans (by repeat (first | (with_reducible first | exact HK.out | apply KeepBut.set_ | apply keep_drewN | apply keep_drew | apply keep_alloc) | exact HK.out)) (KeepBut.of_below hb g none) (.inl rfl)); have n2_ := Aside0.mk (below_step (by repeat (first | (with_reducible first | exact HB.out | apply below_alloc | apply pw_below_drewN | apply below_drew1 | refine below_set ?_ (IsS102.ge HI0.out)) | exact HB.out)) hb); have n3_ := Aside0.mk (hbox); have n4_ := Aside0.mk ((by rw [hg]; exact (keep_size (w := w) (g := g) (row := none) (by repeat (first | (with_reducible first | exact HK.out | apply KeepBut.set_ | apply keep_drewN | apply keep_drew | apply keep_alloc) | exact HK.out))) : w.heap.size ≤ gb315)); have n5_ := Aside0.mk ((Nat.le_trans HW0.out (by rw [hg]; exact (keep_size (w := w) (g := g) (row := none) (by repeat (first | (with_reducible first | exact HK.out | apply KeepBut.set_ | apply keep_drewN | apply keep_drew | apply keep_alloc) | exact HK.out))) : w.heap.size ≤ gb315) : w0.heap.size ≤ gb315)); have n6_ := Aside0.mk ((by rw [hg]; exact Nat.ne_of_lt (IsS102.lt (show IsS102 w0 _ g s0_0 s0_1 s0_2 from by repeat (first | (with_reducible first | exact HI0.out | apply IsS102.alloc | apply IsS102.drewN | apply IsS102.drew | apply IsS102.set_1 | apply IsS102.set_2) | exact HI0.out))) : g ≠ gb315)); have n7_ := Aside0.mk ((by rw [hg]; exact Nat.ne_of_gt (IsS102.lt (show IsS102 w0 _ g s0_0 s0_1 s0_2 from by repeat (first | (with_reducible first | exact HI0.out | apply IsS102.alloc | apply IsS102.drewN | apply IsS102.drew | apply IsS102.set_1 | apply IsS102.set_2) | exact HI0.out))) : gb315 ≠ g)); clear HI0; clear HK; clear HB; have HI0 := n0_; have HK := n1_; have HB := n2_; have BK315 := n3_; have GW315 := n4_; have GE315 := n5_; have NB0_315 := n6_; have NB315_0 := n7_; clear n0_ n1_ n2_ n3_ n4_ n5_ n6_ n7_; clear hb hbox hg) | ((with_reducible refine gate_callee (f := 107) rfl ?_); refine goesL_ (some 5) rfl rfl Try.func107 (by kernel_rfl) rfl #[.pointer (some ⟨g,0,none⟩)] rfl (by (try simp only [List.map_toArray,List.map_cons,List.map_nil]); first | done | rfl | (simp only [List.length_drop,List.length_take]; rfl)) ?_; (with_reducible refine (spec_l04Half.calls g s0_0 s0_1 s0_2 t316 t317 t318 w0 _ ?side1 ?side2 A2.out).mono ?_); (case side1 => repeat (first | (with_reducible first | exact HI0.out | apply IsS102.alloc | apply IsS102.drewN | apply IsS102.drew | apply IsS102.set_1 | apply IsS102.set_2 | refine IsS102.far ?_ NB0_315.out _) | exact HI0.out)); (case side2 => repeat (first | (with_reducible first | exact HB.out | apply below_alloc | apply pw_below_drewN | apply below_drew1 | refine below_set ?_ (IsS102.ge HI0.out) | refine below_set ?_ GE315.out) | exact HB.out)); rintro e w7 ⟨rfl,hi,hb,hk⟩; refine ⟨_,rfl,?_⟩; have n0_ := Aside0.mk (KeepBut.blk hk (g' := gb315) (o := .cells #[.int .i64 0,.int .i64 0] 107 (0,0)) (by (with_reducible repeat (first | refine blk_drewN ?_ _ | refine blk_drew ?_ | refine blk_alloc ?_ _)); exact BK315.out) NB315_0.out (by simp)); have n1_ := Aside0.mk (KeepBut.trans (by repeat (first | (with_reducible first | exact HK.out | apply KeepBut.set_ | apply keep_drewN | apply keep_drew | apply keep_alloc | refine keep_far ?_ GW315.out _) | exact HK.out)) hk (.inl rfl)); have n2_ := Aside0.mk (hb); have n3_ := Aside0.mk (hi); clear BK315; clear HK; clear HB; clear HI0; have BK315 := n0_; have HK := n1_; have HB := n2_; have HI0 := n3_; clear n0_ n1_ n2_ n3_; (try clear hb); (try clear hb2); (try clear hk); (try clear hi)) | ((with_reducible refine gate_dst (N := 3) rfl ?_); refine box_event ?hg (N := 3) ?hd (cs := #[.int .i64 0,.int .i64 0]) (t := 107) ?hr ?_; (case hd => rfl); (case hg => rfl); (case hr => first | (go_simp; done) | (go_simp; rfl)); intro gb319 hg w8 hbox hb; have n0_ := Aside0.mk (IsS102.below (by repeat (first | (with_reducible first | exact HI0.out | apply IsS102.alloc | apply IsS102.drewN | apply IsS102.drew | apply IsS102.set_1 | apply IsS102.set_2 | refine IsS102.far ?_ NB0_315.out _) | exact HI0.out)) hb); have n1_ := Aside0.mk (blk_below (g := gb315) (o := .cells #[.int .i64 0,.int .i64 0] 107 (0,0)) (by (with_reducible repeat (first | refine blk_drewN ?_ _ | refine blk_drew ?_ | refine blk_alloc ?_ _)); exact BK315.out) hb); have n2_ := Aside0.mk (KeepBut.trans (by repeat (first | (with_reducible first | exact HK.out | apply KeepBut.set_ | apply keep_drewN | apply keep_drew | apply keep_alloc | refine keep_far ?_ GW315.out _) | exact HK.out)) (KeepBut.of_below hb g none) (.inl rfl)); have n3_ := Aside0.mk (below_step (by repeat (first | (with_reducible first | exact HB.out | apply below_alloc | apply pw_below_drewN | apply below_drew1 | refine below_set ?_ (IsS102.ge HI0.out) | refine below_set ?_ GE315.out) | exact HB.out)) hb); have n4_ := Aside0.mk (hbox); have n5_ := Aside0.mk ((by rw [hg]; exact (keep_size (w := w) (g := g) (row := none) (by repeat (first | (with_reducible first | exact HK.out | apply KeepBut.set_ | apply keep_drewN | apply keep_drew | apply keep_alloc | refine keep_far ?_ GW315.out _) | exact HK.out))) : w.heap.size ≤ gb319)); have n6_ := Aside0.mk ((Nat.le_trans HW0.out (by rw [hg]; exact (keep_size (w := w) (g := g) (row := none) (by repeat (first | (with_reducible first | exact HK.out | apply KeepBut.set_ | apply keep_drewN | apply keep_drew | apply keep_alloc | refine keep_far ?_ GW315.out _) | exact HK.out))) : w.heap.size ≤ gb319) : w0.heap.size ≤ gb319)); have n7_ := Aside0.mk ((by rw [hg]; exact Nat.ne_of_lt (blk_lt (g := gb315) (o := .cells #[.int .i64 0,.int .i64 0] 107 (0,0)) (by (with_reducible repeat (first | refine blk_drewN ?_ _ | refine blk_drew ?_ | refine blk_alloc ?_ _)); exact BK315.out)) : gb315 ≠ gb319)); have n8_ := Aside0.mk ((by rw [hg]; exact Nat.ne_of_gt (blk_lt (g := gb315) (o := .cells #[.int .i64 0,.int .i64 0] 107 (0,0)) (by (with_reducible repeat (first | refine blk_drewN ?_ _ | refine blk_drew ?_ | refine blk_alloc ?_ _)); exact BK315.out)) : gb319 ≠ gb315)); have n9_ := Aside0.mk ((by rw [hg]; exact Nat.ne_of_lt (IsS102.lt (show IsS102 w0 _ g s0_0 t317 t318 from by repeat (first | (with_reducible first | exact HI0.out | apply IsS102.alloc | apply IsS102.drewN | apply IsS102.drew | apply IsS102.set_1 | apply IsS102.set_2 | refine IsS102.far ?_ NB0_315.out _) | exact HI0.out))) : g ≠ gb319)); have n10_ := Aside0.mk ((by rw [hg]; exact Nat.ne_of_gt (IsS102.lt (show IsS102 w0 _ g s0_0 t317 t318 from by repeat (first | (with_reducible first | exact HI0.out | apply IsS102.alloc | apply IsS102.drewN | apply IsS102.drew | apply IsS102.set_1 | apply IsS102.set_2 | refine IsS102.far ?_ NB0_315.out _) | exact HI0.out))) : gb319 ≠ g)); clear HI0; clear BK315; clear HK; clear HB; have HI0 := n0_; have BK315 := n1_; have HK := n2_; have HB := n3_; have BK319 := n4_; have GW319 := n5_; have GE319 := n6_; have NB315_319 := n7_; have NB319_315 := n8_; have NB0_319 := n9_; have NB319_0 := n10_; clear n0_ n1_ n2_ n3_ n4_ n5_ n6_ n7_ n8_ n9_ n10_; clear hb hbox hg; have hnb9 := NB319_315.out; have hnc9 := NB315_319.out; have hnb10 := NB319_0.out; have hnc10 := NB0_319.out; have hcz11_0 : w8.cell? ⟨gb319,0,none⟩ = some (.int .i64 0) := (blk_cell BK319.out 0).trans rfl; have hcz11_1 : w8.cell? ⟨gb319,1,none⟩ = some (.int .i64 0) := (blk_cell BK319.out 1).trans rfl; have hfz11_0 := blk_frozen BK319.out 0; have hfz11_1 := blk_frozen BK319.out 1) | ((with_reducible refine gate_callee (f := 96) rfl ?_); refine goesL_ (some 8) rfl rfl Try.func96 (by kernel_rfl) rfl #[.pointer (some ⟨g,0,none⟩),.int .i64 3] rfl (by (try simp only [List.map_toArray,List.map_cons,List.map_nil]); first | done | rfl | (simp only [List.length_drop,List.length_take]; rfl)) ?_; (with_reducible refine (spec_l01Once.calls g s0_0 t317 t318 3 true t321 t322 w0 _ ?side1 ?side2 A3.out).mono ?_); (case side1 => repeat (first | (with_reducible first | exact HI0.out | apply IsS102.alloc | apply IsS102.drewN | apply IsS102.drew | apply IsS102.set_1 | apply IsS102.set_2 | refine IsS102.far ?_ NB0_315.out _ | refine IsS102.far ?_ NB0_319.out _) | exact HI0.out)); (case side2 => repeat (first | (with_reducible first | exact HB.out | apply below_alloc | apply pw_below_drewN | apply below_drew1 | refine below_set ?_ (IsS102.ge HI0.out) | refine below_set ?_ GE315.out | refine below_set ?_ GE319.out) | exact HB.out)); rintro e w12 ⟨rfl,hi,hb,hk⟩; refine ⟨_,rfl,?_⟩; have n0_ := Aside0.mk (KeepBut.blk hk (g' := gb315) (o := .cells #[.int .i64 0,.int .i64 0] 107 (0,0)) (by (with_reducible repeat (first | refine blk_drewN ?_ _ | refine blk_drew ?_ | refine blk_alloc ?_ _)); refine blk_far ?_ NB315_319.out _; (with_reducible repeat (first | refine blk_drewN ?_ _ | refine blk_drew ?_ | refine blk_alloc ?_ _)); refine blk_far ?_ NB315_319.out _; (with_reducible repeat (first | refine blk_drewN ?_ _ | refine blk_drew ?_ | refine blk_alloc ?_ _)); exact BK315.out) NB315_0.out (by simp)); have n1_ := Aside0.mk (KeepBut.blk hk (g' := gb319) (o := .cells #[.int .i64 0,.int .i64 t316] 107 (0,0)) (by (with_reducible repeat (first | refine blk_drewN ?_ _ | refine blk_drew ?_ | refine blk_alloc ?_ _)); refine blk_put (cs := #[.int .i64 0,.int .i64 0]) ?_ 1 _ rfl; (with_reducible repeat (first | refine blk_drewN ?_ _ | refine blk_drew ?_ | refine blk_alloc ?_ _)); refine blk_put (cs := #[.int .i64 0,.int .i64 0]) ?_ 0 _ rfl; (with_reducible repeat (first | refine blk_drewN ?_ _ | refine blk_drew ?_ | refine blk_alloc ?_ _)); exact BK319.out) NB319_0.out (by simp)); have n2_ := Aside0.mk (KeepBut.trans (by repeat (first | (with_reducible first | exact HK.out | apply KeepBut.set_ | apply keep_drewN | apply keep_drew | apply keep_alloc | refine keep_far ?_ GW315.out _ | refine keep_far ?_ GW319.out _) | exact HK.out)) hk (.inl rfl)); have n3_ := Aside0.mk (hb); have n4_ := Aside0.mk (hi); clear BK315; clear BK319; clear HK; clear HB; clear HI0; have BK315 := n0_; have BK319 := n1_; have HK := n2_; have HB := n3_; have HI0 := n4_; clear n0_ n1_ n2_ n3_ n4_; (try clear hb); (try clear hb2); (try clear hk); (try clear hi)) | ((with_reducible refine gate_callee (f := 107) rfl ?_); refine goesL_ (some 10) rfl rfl Try.func107 (by kernel_rfl) rfl #[.pointer (some ⟨g,0,none⟩)] rfl (by (try simp only [List.map_toArray,List.map_cons,List.map_nil]); first | done | rfl | (simp only [List.length_drop,List.length_take]; rfl)) ?_; (with_reducible refine (spec_l04Half.calls g s0_0 t321 t322 t323 t324 t325 w0 _ ?side1 ?side2 A5.out).mono ?_); (case side1 => repeat (first | (with_reducible first | exact HI0.out | apply IsS102.alloc | apply IsS102.drewN | apply IsS102.drew | apply IsS102.set_1 | apply IsS102.set_2 | refine IsS102.far ?_ NB0_315.out _ | refine IsS102.far ?_ NB0_319.out _) | exact HI0.out)); (case side2 => repeat (first | (with_reducible first | exact HB.out | apply below_alloc | apply pw_below_drewN | apply below_drew1 | refine below_set ?_ (IsS102.ge HI0.out) | refine below_set ?_ GE315.out | refine below_set ?_ GE319.out) | exact HB.out)); rintro e w13 ⟨rfl,hi,hb,hk⟩; refine ⟨_,rfl,?_⟩; have n0_ := Aside0.mk (KeepBut.blk hk (g' := gb315) (o := .cells #[.int .i64 0,.int .i64 0] 107 (0,0)) (by (with_reducible repeat (first | refine blk_drewN ?_ _ | refine blk_drew ?_ | refine blk_alloc ?_ _)); exact BK315.out) NB315_0.out (by simp)); have n1_ := Aside0.mk (KeepBut.blk hk (g' := gb319) (o := .cells #[.int .i64 0,.int .i64 t316] 107 (0,0)) (by (with_reducible repeat (first | refine blk_drewN ?_ _ | refine blk_drew ?_ | refine blk_alloc ?_ _)); exact BK319.out) NB319_0.out (by simp)); have n2_ := Aside0.mk (KeepBut.trans (by repeat (first | (with_reducible first | exact HK.out | apply KeepBut.set_ | apply keep_drewN | apply keep_drew | apply keep_alloc | refine keep_far ?_ GW315.out _ | refine keep_far ?_ GW319.out _) | exact HK.out)) hk (.inl rfl)); have n3_ := Aside0.mk (hb); have n4_ := Aside0.mk (hi); clear BK315; clear BK319; clear HK; clear HB; clear HI0; have BK315 := n0_; have BK319 := n1_; have HK := n2_; have HB := n3_; have HI0 := n4_; clear n0_ n1_ n2_ n3_ n4_; (try clear hb); (try clear hb2); (try clear hk); (try clear hi); have hcz14_0 : w13.cell? ⟨gb319,0,none⟩ = some (.int .i64 0) := (blk_cell BK319.out 0).trans rfl; have hcz14_1 : w13.cell? ⟨gb319,1,none⟩ = some (.int .i64 t316) := (blk_cell BK319.out 1).trans rfl; have hfz14_0 := blk_frozen BK319.out 0; have hfz14_1 := blk_frozen BK319.out 1; have hnb15 := NB315_0.out; have hnc15 := NB0_315.out; have hcz16_0 : w13.cell? ⟨gb315,0,none⟩ = some (.int .i64 0) := (blk_cell BK315.out 0).trans rfl; have hcz16_1 : w13.cell? ⟨gb315,1,none⟩ = some (.int .i64 0) := (blk_cell BK315.out 1).trans rfl; have hfz16_0 := blk_frozen BK315.out 0; have hfz16_1 := blk_frozen BK315.out 1))
  refine bodyPost_ret (results_cell_row rfl _ _ gb315 107 #[.int .i64 t323,.int .i64 t316] (0,0) _ rfl (by (with_reducible repeat (first | refine blk_drewN ?_ _ | refine blk_drew ?_ | refine blk_alloc ?_ _)); refine blk_put (cs := #[.int .i64 t323,.int .i64 0]) ?_ 1 _ rfl; (with_reducible repeat (first | refine blk_drewN ?_ _ | refine blk_drew ?_ | refine blk_alloc ?_ _)); refine blk_put (cs := #[.int .i64 0,.int .i64 0]) ?_ 0 _ rfl; (with_reducible repeat (first | refine blk_drewN ?_ _ | refine blk_drew ?_ | refine blk_alloc ?_ _)); refine blk_far ?_ NB315_319.out _; (with_reducible repeat (first | refine blk_drewN ?_ _ | refine blk_drew ?_ | refine blk_alloc ?_ _)); exact BK315.out) Try.underlying107 rfl (by kernel_rfl)) rfl ?_
  exact ⟨by first | rfl | (simp [errW_none,errW_some] <;> rfl) | (simp [*,errW_none,errW_some] <;> rfl),by repeat (first | (with_reducible first | exact HI0.out | apply IsS102.alloc | apply IsS102.drewN | apply IsS102.drew | apply IsS102.set_1 | apply IsS102.set_2 | refine IsS102.far ?_ NB0_315.out _ | refine IsS102.far ?_ NB0_319.out _) | exact HI0.out),by repeat (first | (with_reducible first | exact HB.out | apply below_alloc | apply pw_below_drewN | apply below_drew1 | refine below_set ?_ (IsS102.ge HI0.out) | refine below_set ?_ GE315.out | refine below_set ?_ GE319.out) | exact HB.out),by repeat (first | (with_reducible first | exact HK.out | apply KeepBut.set_ | apply keep_drewN | apply keep_drew | apply keep_alloc | refine keep_far ?_ GW315.out _ | refine keep_far ?_ GW319.out _) | exact HK.out)⟩
 ·
  replace c4 := Bool.eq_false_iff.mpr c4
  subst c4
  have H1 : (some (0,t316,t321,t322)) = some (r1,r2,r3,r4) := by rw [if_neg (show ¬ (false = true) by decide)] at H; exact H
  clear H
  have H := H1
  clear H1
  simp only [Option.some.injEq,Prod.mk.injEq] at H
  obtain ⟨rfl,rfl,rfl,rfl⟩ := H
  go_enter Try.func106,Try.ntmps106
  go_wp2_with (first | ((with_reducible refine gate_dst (N := 2) rfl ?_); refine box_event ?hg (N := 2) ?hd (cs := #[.int .i64 0,.int .i64 0]) (t := 107) ?hr ?_; (case hd => rfl); (case hg => rfl); (case hr => first | (go_simp; done) | (go_simp; rfl)); intro gb315 hg w17 hbox hb; have n0_ := Aside0.mk (IsS102.below (by repeat (first | (with_reducible first | exact HI0.out | apply IsS102.alloc | apply IsS102.drewN | apply IsS102.drew | apply IsS102.set_1 | apply IsS102.set_2) | exact HI0.out)) hb); have n1_ := Aside0.mk (KeepBut.trans (by repeat (first | (with_reducible first | exact HK.out | apply KeepBut.set_ | apply keep_drewN | apply keep_drew | apply keep_alloc) | exact HK.out)) (KeepBut.of_below hb g none) (.inl rfl)); have n2_ := Aside0.mk (below_step (by repeat (first | (with_reducible first | exact HB.out | apply below_alloc | apply pw_below_drewN | apply below_drew1 | refine below_set ?_ (IsS102.ge HI0.out)) | exact HB.out)) hb); have n3_ := Aside0.mk (hbox); have n4_ := Aside0.mk ((by rw [hg]; exact (keep_size (w := w) (g := g) (row := none) (by repeat (first | (with_reducible first | exact HK.out | apply KeepBut.set_ | apply keep_drewN | apply keep_drew | apply keep_alloc) | exact HK.out))) : w.heap.size ≤ gb315)); have n5_ := Aside0.mk ((Nat.le_trans HW0.out (by rw [hg]; exact (keep_size (w := w) (g := g) (row := none) (by repeat (first | (with_reducible first | exact HK.out | apply KeepBut.set_ | apply keep_drewN | apply keep_drew | apply keep_alloc) | exact HK.out))) : w.heap.size ≤ gb315) : w0.heap.size ≤ gb315)); have n6_ := Aside0.mk ((by rw [hg]; exact Nat.ne_of_lt (IsS102.lt (show IsS102 w0 _ g s0_0 s0_1 s0_2 from by repeat (first | (with_reducible first | exact HI0.out | apply IsS102.alloc | apply IsS102.drewN | apply IsS102.drew | apply IsS102.set_1 | apply IsS102.set_2) | exact HI0.out))) : g ≠ gb315)); have n7_ := Aside0.mk ((by rw [hg]; exact Nat.ne_of_gt (IsS102.lt (show IsS102 w0 _ g s0_0 s0_1 s0_2 from by repeat (first | (with_reducible first | exact HI0.out | apply IsS102.alloc | apply IsS102.drewN | apply IsS102.drew | apply IsS102.set_1 | apply IsS102.set_2) | exact HI0.out))) : gb315 ≠ g)); clear HI0; clear HK; clear HB; have HI0 := n0_; have HK := n1_; have HB := n2_; have BK315 := n3_; have GW315 := n4_; have GE315 := n5_; have NB0_315 := n6_; have NB315_0 := n7_; clear n0_ n1_ n2_ n3_ n4_ n5_ n6_ n7_; clear hb hbox hg) | ((with_reducible refine gate_callee (f := 107) rfl ?_); refine goesL_ (some 5) rfl rfl Try.func107 (by kernel_rfl) rfl #[.pointer (some ⟨g,0,none⟩)] rfl (by (try simp only [List.map_toArray,List.map_cons,List.map_nil]); first | done | rfl | (simp only [List.length_drop,List.length_take]; rfl)) ?_; (with_reducible refine (spec_l04Half.calls g s0_0 s0_1 s0_2 t316 t317 t318 w0 _ ?side1 ?side2 A2.out).mono ?_); (case side1 => repeat (first | (with_reducible first | exact HI0.out | apply IsS102.alloc | apply IsS102.drewN | apply IsS102.drew | apply IsS102.set_1 | apply IsS102.set_2 | refine IsS102.far ?_ NB0_315.out _) | exact HI0.out)); (case side2 => repeat (first | (with_reducible first | exact HB.out | apply below_alloc | apply pw_below_drewN | apply below_drew1 | refine below_set ?_ (IsS102.ge HI0.out) | refine below_set ?_ GE315.out) | exact HB.out)); rintro e w18 ⟨rfl,hi,hb,hk⟩; refine ⟨_,rfl,?_⟩; have n0_ := Aside0.mk (KeepBut.blk hk (g' := gb315) (o := .cells #[.int .i64 0,.int .i64 0] 107 (0,0)) (by (with_reducible repeat (first | refine blk_drewN ?_ _ | refine blk_drew ?_ | refine blk_alloc ?_ _)); exact BK315.out) NB315_0.out (by simp)); have n1_ := Aside0.mk (KeepBut.trans (by repeat (first | (with_reducible first | exact HK.out | apply KeepBut.set_ | apply keep_drewN | apply keep_drew | apply keep_alloc | refine keep_far ?_ GW315.out _) | exact HK.out)) hk (.inl rfl)); have n2_ := Aside0.mk (hb); have n3_ := Aside0.mk (hi); clear BK315; clear HK; clear HB; clear HI0; have BK315 := n0_; have HK := n1_; have HB := n2_; have HI0 := n3_; clear n0_ n1_ n2_ n3_; (try clear hb); (try clear hb2); (try clear hk); (try clear hi)) | ((with_reducible refine gate_dst (N := 3) rfl ?_); refine box_event ?hg (N := 3) ?hd (cs := #[.int .i64 0,.int .i64 0]) (t := 107) ?hr ?_; (case hd => rfl); (case hg => rfl); (case hr => first | (go_simp; done) | (go_simp; rfl)); intro gb319 hg w19 hbox hb; have n0_ := Aside0.mk (IsS102.below (by repeat (first | (with_reducible first | exact HI0.out | apply IsS102.alloc | apply IsS102.drewN | apply IsS102.drew | apply IsS102.set_1 | apply IsS102.set_2 | refine IsS102.far ?_ NB0_315.out _) | exact HI0.out)) hb); have n1_ := Aside0.mk (blk_below (g := gb315) (o := .cells #[.int .i64 0,.int .i64 0] 107 (0,0)) (by (with_reducible repeat (first | refine blk_drewN ?_ _ | refine blk_drew ?_ | refine blk_alloc ?_ _)); exact BK315.out) hb); have n2_ := Aside0.mk (KeepBut.trans (by repeat (first | (with_reducible first | exact HK.out | apply KeepBut.set_ | apply keep_drewN | apply keep_drew | apply keep_alloc | refine keep_far ?_ GW315.out _) | exact HK.out)) (KeepBut.of_below hb g none) (.inl rfl)); have n3_ := Aside0.mk (below_step (by repeat (first | (with_reducible first | exact HB.out | apply below_alloc | apply pw_below_drewN | apply below_drew1 | refine below_set ?_ (IsS102.ge HI0.out) | refine below_set ?_ GE315.out) | exact HB.out)) hb); have n4_ := Aside0.mk (hbox); have n5_ := Aside0.mk ((by rw [hg]; exact (keep_size (w := w) (g := g) (row := none) (by repeat (first | (with_reducible first | exact HK.out | apply KeepBut.set_ | apply keep_drewN | apply keep_drew | apply keep_alloc | refine keep_far ?_ GW315.out _) | exact HK.out))) : w.heap.size ≤ gb319)); have n6_ := Aside0.mk ((Nat.le_trans HW0.out (by rw [hg]; exact (keep_size (w := w) (g := g) (row := none) (by repeat (first | (with_reducible first | exact HK.out | apply KeepBut.set_ | apply keep_drewN | apply keep_drew | apply keep_alloc | refine keep_far ?_ GW315.out _) | exact HK.out))) : w.heap.size ≤ gb319) : w0.heap.size ≤ gb319)); have n7_ := Aside0.mk ((by rw [hg]; exact Nat.ne_of_lt (blk_lt (g := gb315) (o := .cells #[.int .i64 0,.int .i64 0] 107 (0,0)) (by (with_reducible repeat (first | refine blk_drewN ?_ _ | refine blk_drew ?_ | refine blk_alloc ?_ _)); exact BK315.out)) : gb315 ≠ gb319)); have n8_ := Aside0.mk ((by rw [hg]; exact Nat.ne_of_gt (blk_lt (g := gb315) (o := .cells #[.int .i64 0,.int .i64 0] 107 (0,0)) (by (with_reducible repeat (first | refine blk_drewN ?_ _ | refine blk_drew ?_ | refine blk_alloc ?_ _)); exact BK315.out)) : gb319 ≠ gb315)); have n9_ := Aside0.mk ((by rw [hg]; exact Nat.ne_of_lt (IsS102.lt (show IsS102 w0 _ g s0_0 t317 t318 from by repeat (first | (with_reducible first | exact HI0.out | apply IsS102.alloc | apply IsS102.drewN | apply IsS102.drew | apply IsS102.set_1 | apply IsS102.set_2 | refine IsS102.far ?_ NB0_315.out _) | exact HI0.out))) : g ≠ gb319)); have n10_ := Aside0.mk ((by rw [hg]; exact Nat.ne_of_gt (IsS102.lt (show IsS102 w0 _ g s0_0 t317 t318 from by repeat (first | (with_reducible first | exact HI0.out | apply IsS102.alloc | apply IsS102.drewN | apply IsS102.drew | apply IsS102.set_1 | apply IsS102.set_2 | refine IsS102.far ?_ NB0_315.out _) | exact HI0.out))) : gb319 ≠ g)); clear HI0; clear BK315; clear HK; clear HB; have HI0 := n0_; have BK315 := n1_; have HK := n2_; have HB := n3_; have BK319 := n4_; have GW319 := n5_; have GE319 := n6_; have NB315_319 := n7_; have NB319_315 := n8_; have NB0_319 := n9_; have NB319_0 := n10_; clear n0_ n1_ n2_ n3_ n4_ n5_ n6_ n7_ n8_ n9_ n10_; clear hb hbox hg; have hnb20 := NB319_315.out; have hnc20 := NB315_319.out; have hnb21 := NB319_0.out; have hnc21 := NB0_319.out; have hcz22_0 : w19.cell? ⟨gb319,0,none⟩ = some (.int .i64 0) := (blk_cell BK319.out 0).trans rfl; have hcz22_1 : w19.cell? ⟨gb319,1,none⟩ = some (.int .i64 0) := (blk_cell BK319.out 1).trans rfl; have hfz22_0 := blk_frozen BK319.out 0; have hfz22_1 := blk_frozen BK319.out 1) | ((with_reducible refine gate_callee (f := 96) rfl ?_); refine goesL_ (some 8) rfl rfl Try.func96 (by kernel_rfl) rfl #[.pointer (some ⟨g,0,none⟩),.int .i64 3] rfl (by (try simp only [List.map_toArray,List.map_cons,List.map_nil]); first | done | rfl | (simp only [List.length_drop,List.length_take]; rfl)) ?_; (with_reducible refine (spec_l01Once.calls g s0_0 t317 t318 3 false t321 t322 w0 _ ?side1 ?side2 A3.out).mono ?_); (case side1 => repeat (first | (with_reducible first | exact HI0.out | apply IsS102.alloc | apply IsS102.drewN | apply IsS102.drew | apply IsS102.set_1 | apply IsS102.set_2 | refine IsS102.far ?_ NB0_315.out _ | refine IsS102.far ?_ NB0_319.out _) | exact HI0.out)); (case side2 => repeat (first | (with_reducible first | exact HB.out | apply below_alloc | apply pw_below_drewN | apply below_drew1 | refine below_set ?_ (IsS102.ge HI0.out) | refine below_set ?_ GE315.out | refine below_set ?_ GE319.out) | exact HB.out)); rintro e w23 ⟨rfl,hi,hb,hk⟩; refine ⟨_,rfl,?_⟩; have n0_ := Aside0.mk (KeepBut.blk hk (g' := gb315) (o := .cells #[.int .i64 0,.int .i64 0] 107 (0,0)) (by (with_reducible repeat (first | refine blk_drewN ?_ _ | refine blk_drew ?_ | refine blk_alloc ?_ _)); refine blk_far ?_ NB315_319.out _; (with_reducible repeat (first | refine blk_drewN ?_ _ | refine blk_drew ?_ | refine blk_alloc ?_ _)); refine blk_far ?_ NB315_319.out _; (with_reducible repeat (first | refine blk_drewN ?_ _ | refine blk_drew ?_ | refine blk_alloc ?_ _)); exact BK315.out) NB315_0.out (by simp)); have n1_ := Aside0.mk (KeepBut.blk hk (g' := gb319) (o := .cells #[.int .i64 0,.int .i64 t316] 107 (0,0)) (by (with_reducible repeat (first | refine blk_drewN ?_ _ | refine blk_drew ?_ | refine blk_alloc ?_ _)); refine blk_put (cs := #[.int .i64 0,.int .i64 0]) ?_ 1 _ rfl; (with_reducible repeat (first | refine blk_drewN ?_ _ | refine blk_drew ?_ | refine blk_alloc ?_ _)); refine blk_put (cs := #[.int .i64 0,.int .i64 0]) ?_ 0 _ rfl; (with_reducible repeat (first | refine blk_drewN ?_ _ | refine blk_drew ?_ | refine blk_alloc ?_ _)); exact BK319.out) NB319_0.out (by simp)); have n2_ := Aside0.mk (KeepBut.trans (by repeat (first | (with_reducible first | exact HK.out | apply KeepBut.set_ | apply keep_drewN | apply keep_drew | apply keep_alloc | refine keep_far ?_ GW315.out _ | refine keep_far ?_ GW319.out _) | exact HK.out)) hk (.inl rfl)); have n3_ := Aside0.mk (hb); have n4_ := Aside0.mk (hi); clear BK315; clear BK319; clear HK; clear HB; clear HI0; have BK315 := n0_; have BK319 := n1_; have HK := n2_; have HB := n3_; have HI0 := n4_; clear n0_ n1_ n2_ n3_ n4_; (try clear hb); (try clear hb2); (try clear hk); (try clear hi); have hcz24_0 : w23.cell? ⟨gb319,0,none⟩ = some (.int .i64 0) := (blk_cell BK319.out 0).trans rfl; have hcz24_1 : w23.cell? ⟨gb319,1,none⟩ = some (.int .i64 t316) := (blk_cell BK319.out 1).trans rfl; have hfz24_0 := blk_frozen BK319.out 0; have hfz24_1 := blk_frozen BK319.out 1; have hnb25 := NB315_0.out; have hnc25 := NB0_315.out; have hcz26_0 : w23.cell? ⟨gb315,0,none⟩ = some (.int .i64 0) := (blk_cell BK315.out 0).trans rfl; have hcz26_1 : w23.cell? ⟨gb315,1,none⟩ = some (.int .i64 0) := (blk_cell BK315.out 1).trans rfl; have hfz26_0 := blk_frozen BK315.out 0; have hfz26_1 := blk_frozen BK315.out 1))
  refine bodyPost_ret (results_cell_row rfl _ _ gb315 107 #[.int .i64 0,.int .i64 t316] (0,0) _ rfl (by (with_reducible repeat (first | refine blk_drewN ?_ _ | refine blk_drew ?_ | refine blk_alloc ?_ _)); refine blk_put (cs := #[.int .i64 0,.int .i64 0]) ?_ 1 _ rfl; (with_reducible repeat (first | refine blk_drewN ?_ _ | refine blk_drew ?_ | refine blk_alloc ?_ _)); refine blk_put (cs := #[.int .i64 0,.int .i64 0]) ?_ 0 _ rfl; (with_reducible repeat (first | refine blk_drewN ?_ _ | refine blk_drew ?_ | refine blk_alloc ?_ _)); exact BK315.out) Try.underlying107 rfl (by kernel_rfl)) rfl ?_
  exact ⟨by first | rfl | (simp [errW_none,errW_some] <;> rfl) | (simp [*,errW_none,errW_some] <;> rfl),by repeat (first | (with_reducible first | exact HI0.out | apply IsS102.alloc | apply IsS102.drewN | apply IsS102.drew | apply IsS102.set_1 | apply IsS102.set_2 | refine IsS102.far ?_ NB0_315.out _ | refine IsS102.far ?_ NB0_319.out _) | exact HI0.out),by repeat (first | (with_reducible first | exact HB.out | apply below_alloc | apply pw_below_drewN | apply below_drew1 | refine below_set ?_ (IsS102.ge HI0.out) | refine below_set ?_ GE315.out | refine below_set ?_ GE319.out) | exact HB.out),by repeat (first | (with_reducible first | exact HK.out | apply KeepBut.set_ | apply keep_drewN | apply keep_drew | apply keep_alloc | refine keep_far ?_ GW315.out _ | refine keep_far ?_ GW319.out _) | exact HK.out)⟩

/-! ### spec_l04Call: function 95 -/
def spec_l04Call.l0 : Nat → Int → List Int → Int → Int → Int → Int → List (S107) → Option (Int × Int × (List (S107)) × Int × Int)
 | 0,_,_,_,_,_,_,_ => none
 | k + 1,x4,x1000,x1001,x1002,x340000,x340001,x340002 => if x4 < 3 then ((spec_l04Wide.f x1000 x1001 x1002).bind fun bt340 => (if x340002.length < 8796093022208 then (spec_l04Call.l0 k (wrap64 (x4 + 1)) x1000 bt340.2.2.1 bt340.2.2.2 x340000 x340001 (x340002 ++ [(⟨bt340.1,bt340.2.1⟩ : S107)])) else (none))) else (some (x340000,x340001,x340002,x1001,x1002))
def spec_l04Call.f (k : Nat) (s0_0 : List Int) (s0_1 : Int) (s0_2 : Int) : Option (Int × Int × (List (S107)) × Int × Int) := (spec_l01PickInt.f s0_0 s0_1 s0_2 (([62,62,62,62,3] : List Int))).bind fun bt330 => ((spec_l01PickInt.f s0_0 bt330.2.1 bt330.2.2 (([0,1,2,3,4,6,9,11,4294967295,77] : List Int))).bind fun bt336 => (spec_l04Call.l0 k 0 s0_0 bt336.2.1 bt336.2.2 bt330.1 bt336.1 ([] : List (S107))))
theorem spec_l04Call.mono_l : ∀ k,(∀ y0 y1 y2 y3 y4 y5 y6,LeO (spec_l04Call.l0 k y0 y1 y2 y3 y4 y5 y6) (spec_l04Call.l0 (k + 1) y0 y1 y2 y3 y4 y5 y6))
 | 0 => fun _ _ _ _ _ _ _ r h => by simp [spec_l04Call.l0] at h
 | k + 1 => by
  have ih0 := spec_l04Call.mono_l k
  ·
   intro y0 y1 y2 y3 y4 y5 y6
   unfold spec_l04Call.l0
   repeat' first
   | (with_reducible exact ih0 _ _ _ _ _ _ _)
   | (with_reducible exact LeO.refl _)
   | (with_reducible exact LeO.none _)
   | (with_reducible refine LeO.ite ?_ ?_)
   | (with_reducible refine LeO.bind ?_ (fun _ => ?_))
   | exact ih0 _ _ _ _ _ _ _
   | exact LeO.none _
   | refine LeO.ite ?_ ?_
   | refine LeO.bind ?_ (fun _ => ?_)
theorem spec_l04Call.mono : ∀ a0 a1 a2 k,LeO (spec_l04Call.f k a0 a1 a2) (spec_l04Call.f (k + 1) a0 a1 a2) := by
 intro a0 a1 a2 k
 have ih0 := spec_l04Call.mono_l k
 unfold spec_l04Call.f
 repeat' first
   | (with_reducible exact ih0 _ _ _ _ _ _ _)
   | (with_reducible exact LeO.refl _)
   | (with_reducible exact LeO.none _)
   | (with_reducible refine LeO.ite ?_ ?_)
   | (with_reducible refine LeO.bind ?_ (fun _ => ?_))
   | exact ih0 _ _ _ _ _ _ _
   | exact LeO.none _
   | refine LeO.ite ?_ ?_
   | refine LeO.bind ?_ (fun _ => ?_)
set_option maxHeartbeats 8000000 in
set_option maxRecDepth 100000 in
theorem spec_l04Call.calls (k : Nat) (g : Nat) (s0_0 : List Int) (s0_1 : Int) (s0_2 : Int) (r1 : Int) (r2 : Int) (r3 : List (S107)) (r4 : Int) (r5 : Int) (w0 w : World) (hI : IsS102 w0 w g s0_0 s0_1 s0_2) (hB : Below w0.heap.size w0 w) (h : spec_l04Call.f k s0_0 s0_1 s0_2 = some (r1,r2,r3,r4,r5)) :
  Calls Try.prog 95 #[.pointer (some ⟨g,0,none⟩)] w fun e w' => ∃ v2_ : Value,e = .returned (.agg #[.int .i64 r1,.int .i64 r2,v2_]) ∧ Kd.R k107 107 w' w.heap.size (fun _ => True) v2_ r3 ∧ IsS102 w0 w' g s0_0 r4 r5 ∧ Below w0.heap.size w0 w' ∧ KeepBut w w' g none := by
 have hu58 := Try.underlying58
 have hu107 := Try.underlying107
 have HI0 := Aside0.mk hI
 have HK := Aside0.mk (KeepBut.refl w g none)
 have HL := Aside0.mk hB.size
 clear hI
 have HW0 := Aside0.mk hB.size
 have HB := Aside0.mk hB
 clear hB
 have H : ((spec_l01PickInt.f s0_0 s0_1 s0_2 (([62,62,62,62,3] : List Int))).bind fun bt330 => ((spec_l01PickInt.f s0_0 bt330.2.1 bt330.2.2 (([0,1,2,3,4,6,9,11,4294967295,77] : List Int))).bind fun bt336 => (spec_l04Call.l0 k 0 s0_0 bt336.2.1 bt336.2.2 bt330.1 bt336.1 ([] : List (S107))))) = some (r1,r2,r3,r4,r5) := h
 clear h
 obtain ⟨y327,hy327⟩ : ∃ y_ : List Int,y_ = (([62,62,62,62,3] : List Int)) := ⟨_,rfl⟩
 replace H : ((spec_l01PickInt.f s0_0 s0_1 s0_2 y327).bind fun bt330 => ((spec_l01PickInt.f s0_0 bt330.2.1 bt330.2.2 (([0,1,2,3,4,6,9,11,4294967295,77] : List Int))).bind fun bt336 => (spec_l04Call.l0 k 0 s0_0 bt336.2.1 bt336.2.2 bt330.1 bt336.1 ([] : List (S107))))) = some (r1,r2,r3,r4,r5) := by first | (rw [hy327]; with_reducible exact H) | (have H2_ := (Option.bind_some _ _).symm.trans H; rw [hy327]; with_reducible exact H2_) | (have H2_ := (Option.bind_some _ _).symm.trans H; with_reducible exact H2_) | with_reducible exact H | (rw [hy327]; exact H) | exact H
 have Ny327 := Aside0.mk hy327
 clear hy327
 replace H := Option.bind_eq_some_iff.mp H
 obtain ⟨⟨t330,t331,t332⟩,A20,H⟩ := H
 replace H : ((spec_l01PickInt.f s0_0 t331 t332 (([0,1,2,3,4,6,9,11,4294967295,77] : List Int))).bind fun bt336 => (spec_l04Call.l0 k 0 s0_0 bt336.2.1 bt336.2.2 t330 bt336.1 ([] : List (S107)))) = some (r1,r2,r3,r4,r5) := H
 have A2 := Aside0.mk A20
 clear A20
 obtain ⟨y333,hy333⟩ : ∃ y_ : List Int,y_ = (([0,1,2,3,4,6,9,11,4294967295,77] : List Int)) := ⟨_,rfl⟩
 replace H : ((spec_l01PickInt.f s0_0 t331 t332 y333).bind fun bt336 => (spec_l04Call.l0 k 0 s0_0 bt336.2.1 bt336.2.2 t330 bt336.1 ([] : List (S107)))) = some (r1,r2,r3,r4,r5) := by first | (rw [hy333]; with_reducible exact H) | (have H2_ := (Option.bind_some _ _).symm.trans H; rw [hy333]; with_reducible exact H2_) | (have H2_ := (Option.bind_some _ _).symm.trans H; with_reducible exact H2_) | with_reducible exact H | (rw [hy333]; exact H) | exact H
 have Ny333 := Aside0.mk hy333
 clear hy333
 replace H := Option.bind_eq_some_iff.mp H
 obtain ⟨⟨t336,t337,t338⟩,A30,H⟩ := H
 replace H : (spec_l04Call.l0 k 0 s0_0 t337 t338 t330 t336 ([] : List (S107))) = some (r1,r2,r3,r4,r5) := H
 have A3 := Aside0.mk A30
 clear A30
 have H' := Aside0.mk H
 clear H
 go_enter Try.func95,Try.ntmps95
 go_wp2_with (first | ((with_reducible refine gate_dst (N := 2) rfl ?_); refine box_event ?hg (N := 2) ?hd (cs := #[.int .i64 0,.int .i64 0,.slice none 0 0]) (t := 58) ?hr ?_; (case hd => rfl); (case hg => rfl); (case hr => first | (go_simp; done) | (go_simp; rfl)); intro gb326 hg w4 hbox hb; have n0_ := Aside0.mk (IsS102.below (by repeat (first | (with_reducible first | exact HI0.out | apply IsS102.alloc | apply IsS102.drewN | apply IsS102.drew | apply IsS102.set_1 | apply IsS102.set_2) | exact HI0.out)) hb); have n1_ := Aside0.mk (KeepBut.trans (by repeat (first | (with_reducible first | exact HK.out | apply KeepBut.set_ | apply keep_drewN | apply keep_drew | apply keep_alloc) | exact HK.out)) (KeepBut.of_below hb g none) (.inl rfl)); have n2_ := Aside0.mk (below_step (by repeat (first | (with_reducible first | exact HB.out | apply below_alloc | apply pw_below_drewN | apply below_drew1 | refine below_set ?_ (IsS102.ge HI0.out)) | exact HB.out)) hb); have n3_ := Aside0.mk (hbox); have n4_ := Aside0.mk ((by rw [hg]; exact (keep_size (w := w) (g := g) (row := none) (by repeat (first | (with_reducible first | exact HK.out | apply KeepBut.set_ | apply keep_drewN | apply keep_drew | apply keep_alloc) | exact HK.out))) : w.heap.size ≤ gb326)); have n5_ := Aside0.mk ((Nat.le_trans HW0.out (by rw [hg]; exact (keep_size (w := w) (g := g) (row := none) (by repeat (first | (with_reducible first | exact HK.out | apply KeepBut.set_ | apply keep_drewN | apply keep_drew | apply keep_alloc) | exact HK.out))) : w.heap.size ≤ gb326) : w0.heap.size ≤ gb326)); have n6_ := Aside0.mk ((by rw [hg]; exact Nat.ne_of_lt (IsS102.lt (show IsS102 w0 _ g s0_0 s0_1 s0_2 from by repeat (first | (with_reducible first | exact HI0.out | apply IsS102.alloc | apply IsS102.drewN | apply IsS102.drew | apply IsS102.set_1 | apply IsS102.set_2) | exact HI0.out))) : g ≠ gb326)); have n7_ := Aside0.mk ((by rw [hg]; exact Nat.ne_of_gt (IsS102.lt (show IsS102 w0 _ g s0_0 s0_1 s0_2 from by repeat (first | (with_reducible first | exact HI0.out | apply IsS102.alloc | apply IsS102.drewN | apply IsS102.drew | apply IsS102.set_1 | apply IsS102.set_2) | exact HI0.out))) : gb326 ≠ g)); clear HI0; clear HK; clear HB; have HI0 := n0_; have HK := n1_; have HB := n2_; have BK326 := n3_; have GW326 := n4_; have GE326 := n5_; have NB0_326 := n6_; have NB326_0 := n7_; clear n0_ n1_ n2_ n3_ n4_ n5_ n6_ n7_; clear hb hbox hg) | ((with_reducible refine gate_dst (N := 7) rfl ?_); refine Kd.R_lit (Kd.int .i64) _ 3 ?hg (N := 7) ?hd (xs := ([62,62,62,62,3] : List Int)) (inner := [.int .i64 62,.int .i64 62,.int .i64 62,.int .i64 62,.int .i64 3]) (ok := fun _ => True) (okp := fun _ => True) ?hr ?hp (fun _ hk => hk) trivial (Below.refl _ _) (Nat.le_refl _) (by simp) ?_; (case hd => rfl); (case hg => rfl); (case hr => first | (go_simp; done) | (go_simp; rfl)); (case hp => exact (Reps.one (show Kd.M (Kd.int .i64) _ _ _ 62 [.int .i64 62] from rfl) (Reps.one (show Kd.M (Kd.int .i64) _ _ _ 62 [.int .i64 62] from rfl) (Reps.one (show Kd.M (Kd.int .i64) _ _ _ 62 [.int .i64 62] from rfl) (Reps.one (show Kd.M (Kd.int .i64) _ _ _ 62 [.int .i64 62] from rfl) (Reps.one (show Kd.M (Kd.int .i64) _ _ _ 3 [.int .i64 3] from rfl) (Reps.none _ _))))))); intro v328 w5 ho6 hb hg_ hnew_; clear hg_ hnew_; (first | rw [← Ny327.out] at ho6 | (simp only [Int.reduceToNat] at ho6; rw [← Ny327.out] at ho6)); have n0_ := Aside0.mk (Kd.R_lower ho6 (keep_size (w := w) (g := g) (row := none) (by repeat (first | (with_reducible first | exact HK.out | apply KeepBut.set_ | apply keep_drewN | apply keep_drew | apply keep_alloc | refine keep_far ?_ GW326.out _) | exact HK.out)))); have n1_ := Aside0.mk (IsS102.below (by repeat (first | (with_reducible first | exact HI0.out | apply IsS102.alloc | apply IsS102.drewN | apply IsS102.drew | apply IsS102.set_1 | apply IsS102.set_2 | refine IsS102.far ?_ NB0_326.out _) | exact HI0.out)) hb); have n2_ := Aside0.mk (blk_below (g := gb326) (o := .cells #[.int .i64 0,.int .i64 0,.slice none 0 0] 58 (0,0)) (by (with_reducible repeat (first | refine blk_drewN ?_ _ | refine blk_drew ?_ | refine blk_alloc ?_ _)); exact BK326.out) hb); have n3_ := Aside0.mk (KeepBut.trans (by repeat (first | (with_reducible first | exact HK.out | apply KeepBut.set_ | apply keep_drewN | apply keep_drew | apply keep_alloc | refine keep_far ?_ GW326.out _) | exact HK.out)) (KeepBut.of_below hb g none) (.inl rfl)); have n4_ := Aside0.mk (below_step (by repeat (first | (with_reducible first | exact HB.out | apply below_alloc | apply pw_below_drewN | apply below_drew1 | refine below_set ?_ (IsS102.ge HI0.out) | refine below_set ?_ GE326.out) | exact HB.out)) hb); clear HI0; clear BK326; clear HK; clear HB; have HO329 := n0_; have HI0 := n1_; have BK326 := n2_; have HK := n3_; have HB := n4_; clear n0_ n1_ n2_ n3_ n4_; clear hb ho6; obtain ⟨Ao7,co7,eo7⟩ := Kd.R_slice HO329.out; subst eo7) | ((with_reducible refine gate_callee (f := 97) rfl ?_); refine goesL_ (some 8) rfl rfl Try.func97 (by kernel_rfl) rfl #[.pointer (some ⟨g,0,none⟩),.slice Ao7 y327.length co7] rfl (by (try simp only [List.map_toArray,List.map_cons,List.map_nil]); first | done | rfl | (simp only [List.length_drop,List.length_take]; rfl)) ?_; (with_reducible refine (spec_l01PickInt.calls g s0_0 s0_1 s0_2 _ _ y327 t330 t331 t332 w0 _ ?side1 ?side2 ?side3 ?side4 ?side5 A2.out).mono ?_); (case side1 => repeat (first | (with_reducible first | exact HI0.out | apply IsS102.alloc | apply IsS102.drewN | apply IsS102.drew | apply IsS102.set_1 | apply IsS102.set_2 | refine IsS102.far ?_ NB0_326.out _) | exact HI0.out)); (case side2 => repeat (first | (with_reducible first | exact HB.out | apply below_alloc | apply pw_below_drewN | apply below_drew1 | refine below_set ?_ (IsS102.ge HI0.out) | refine below_set ?_ GE326.out) | exact HB.out)); (case side3 => repeat (first | exact (Kd.R_reads' HO329.out).2.2 | (with_reducible refine Kd.C_alloc ?_ _) | (with_reducible refine Kd.C_drewN ?_ _) | (with_reducible refine Kd.C_drew ?_))); (case side4 => exact (Kd.R_reads' HO329.out).2.1); (case side5 => exact far_slice (IsS102.own_ne HI0.out HO329.out (by decide))); rintro e w8 ⟨rfl,hi,hb,hk⟩; refine ⟨_,rfl,?_⟩; have n0_ := Aside0.mk (KeepBut.blk hk (g' := gb326) (o := .cells #[.int .i64 0,.int .i64 0,.slice none 0 0] 58 (0,0)) (by (with_reducible repeat (first | refine blk_drewN ?_ _ | refine blk_drew ?_ | refine blk_alloc ?_ _)); exact BK326.out) NB326_0.out (by simp)); have n1_ := Aside0.mk (Kd.R_mono (Kd.R_keep (IsS102.apart (show IsS102 w0 _ g s0_0 s0_1 s0_2 from by repeat (first | (with_reducible first | exact HI0.out | apply IsS102.alloc | apply IsS102.drewN | apply IsS102.drew | apply IsS102.set_1 | apply IsS102.set_2 | refine IsS102.far ?_ NB0_326.out _) | exact HI0.out)) (by (with_reducible repeat (first | apply Kd.R_alloc | apply Kd.R_drewN | apply Kd.R_drew)); exact HO329.out) (by decide)) hk (fun _ h => h.2)) (fun _ h => h.1)); have n2_ := Aside0.mk (KeepBut.trans (by repeat (first | (with_reducible first | exact HK.out | apply KeepBut.set_ | apply keep_drewN | apply keep_drew | apply keep_alloc | refine keep_far ?_ GW326.out _) | exact HK.out)) hk (.inl rfl)); have n3_ := Aside0.mk (hb); have n4_ := Aside0.mk (hi); clear BK326; clear HO329; clear HK; clear HB; clear HI0; have BK326 := n0_; have HO329 := n1_; have HK := n2_; have HB := n3_; have HI0 := n4_; clear n0_ n1_ n2_ n3_ n4_; (try clear hb); (try clear hb2); (try clear hk); (try clear hi)) | ((with_reducible refine gate_dst (N := 10) rfl ?_); refine Kd.R_lit (Kd.int .i64) _ 3 ?hg (N := 10) ?hd (xs := ([0,1,2,3,4,6,9,11,4294967295,77] : List Int)) (inner := [.int .i64 0,.int .i64 1,.int .i64 2,.int .i64 3,.int .i64 4,.int .i64 6,.int .i64 9,.int .i64 11,.int .i64 4294967295,.int .i64 77]) (ok := fun _ => True) (okp := fun _ => True) ?hr ?hp (fun _ hk => hk) trivial (Below.refl _ _) (Nat.le_refl _) (by simp) ?_; (case hd => rfl); (case hg => rfl); (case hr => first | (go_simp; done) | (go_simp; rfl)); (case hp => exact (Reps.one (show Kd.M (Kd.int .i64) _ _ _ 0 [.int .i64 0] from rfl) (Reps.one (show Kd.M (Kd.int .i64) _ _ _ 1 [.int .i64 1] from rfl) (Reps.one (show Kd.M (Kd.int .i64) _ _ _ 2 [.int .i64 2] from rfl) (Reps.one (show Kd.M (Kd.int .i64) _ _ _ 3 [.int .i64 3] from rfl) (Reps.one (show Kd.M (Kd.int .i64) _ _ _ 4 [.int .i64 4] from rfl) (Reps.one (show Kd.M (Kd.int .i64) _ _ _ 6 [.int .i64 6] from rfl) (Reps.one (show Kd.M (Kd.int .i64) _ _ _ 9 [.int .i64 9] from rfl) (Reps.one (show Kd.M (Kd.int .i64) _ _ _ 11 [.int .i64 11] from rfl) (Reps.one (show Kd.M (Kd.int .i64) _ _ _ 4294967295 [.int .i64 4294967295] from rfl) (Reps.one (show Kd.M (Kd.int .i64) _ _ _ 77 [.int .i64 77] from rfl) (Reps.none _ _)))))))))))); intro v334 w9 ho10 hb hg_ hnew_; clear hg_ hnew_; (first | rw [← Ny333.out] at ho10 | (simp only [Int.reduceToNat] at ho10; rw [← Ny333.out] at ho10)); have n0_ := Aside0.mk (Kd.R_elder' (by (with_reducible repeat (first | apply Kd.R_alloc | apply Kd.R_drewN | apply Kd.R_drew)); exact HO329.out) (Kd.R_base ho10) hb); have n1_ := Aside0.mk (Kd.R_lower (Kd.R_new' ho10 (Kd.R_lt (by (with_reducible repeat (first | apply Kd.R_alloc | apply Kd.R_drewN | apply Kd.R_drew)); exact HO329.out))) (keep_size (w := w) (g := g) (row := none) (by repeat (first | (with_reducible first | exact HK.out | apply KeepBut.set_ | apply keep_drewN | apply keep_drew | apply keep_alloc | refine keep_far ?_ GW326.out _) | exact HK.out)))); have n2_ := Aside0.mk (IsS102.below (by repeat (first | (with_reducible first | exact HI0.out | apply IsS102.alloc | apply IsS102.drewN | apply IsS102.drew | apply IsS102.set_1 | apply IsS102.set_2 | refine IsS102.far ?_ NB0_326.out _) | exact HI0.out)) hb); have n3_ := Aside0.mk (blk_below (g := gb326) (o := .cells #[.int .i64 0,.int .i64 0,.slice none 0 0] 58 (0,0)) (by (with_reducible repeat (first | refine blk_drewN ?_ _ | refine blk_drew ?_ | refine blk_alloc ?_ _)); exact BK326.out) hb); have n4_ := Aside0.mk (KeepBut.trans (by repeat (first | (with_reducible first | exact HK.out | apply KeepBut.set_ | apply keep_drewN | apply keep_drew | apply keep_alloc | refine keep_far ?_ GW326.out _) | exact HK.out)) (KeepBut.of_below hb g none) (.inl rfl)); have n5_ := Aside0.mk (below_step (by repeat (first | (with_reducible first | exact HB.out | apply below_alloc | apply pw_below_drewN | apply below_drew1 | refine below_set ?_ (IsS102.ge HI0.out) | refine below_set ?_ GE326.out) | exact HB.out)) hb); clear HO329; clear HI0; clear BK326; clear HK; clear HB; have HO329 := n0_; have HO335 := n1_; have HI0 := n2_; have BK326 := n3_; have HK := n4_; have HB := n5_; clear n0_ n1_ n2_ n3_ n4_ n5_; clear hb ho10; obtain ⟨Ao11,co11,eo11⟩ := Kd.R_slice HO335.out; subst eo11) | ((with_reducible refine gate_callee (f := 97) rfl ?_); refine goesL_ (some 11) rfl rfl Try.func97 (by kernel_rfl) rfl #[.pointer (some ⟨g,0,none⟩),.slice Ao11 y333.length co11] rfl (by (try simp only [List.map_toArray,List.map_cons,List.map_nil]); first | done | rfl | (simp only [List.length_drop,List.length_take]; rfl)) ?_; (with_reducible refine (spec_l01PickInt.calls g s0_0 t331 t332 _ _ y333 t336 t337 t338 w0 _ ?side1 ?side2 ?side3 ?side4 ?side5 A3.out).mono ?_); (case side1 => repeat (first | (with_reducible first | exact HI0.out | apply IsS102.alloc | apply IsS102.drewN | apply IsS102.drew | apply IsS102.set_1 | apply IsS102.set_2 | refine IsS102.far ?_ NB0_326.out _) | exact HI0.out)); (case side2 => repeat (first | (with_reducible first | exact HB.out | apply below_alloc | apply pw_below_drewN | apply below_drew1 | refine below_set ?_ (IsS102.ge HI0.out) | refine below_set ?_ GE326.out) | exact HB.out)); (case side3 => repeat (first | exact (Kd.R_reads' HO335.out).2.2 | (with_reducible refine Kd.C_alloc ?_ _) | (with_reducible refine Kd.C_drewN ?_ _) | (with_reducible refine Kd.C_drew ?_))); (case side4 => exact (Kd.R_reads' HO335.out).2.1); (case side5 => exact far_slice (IsS102.own_ne HI0.out HO335.out (by decide))); rintro e w12 ⟨rfl,hi,hb,hk⟩; refine ⟨_,rfl,?_⟩; have n0_ := Aside0.mk (KeepBut.blk hk (g' := gb326) (o := .cells #[.int .i64 0,.int .i64 0,.slice none 0 0] 58 (0,0)) (by (with_reducible repeat (first | refine blk_drewN ?_ _ | refine blk_drew ?_ | refine blk_alloc ?_ _)); exact BK326.out) NB326_0.out (by simp)); have n1_ := Aside0.mk (Kd.R_mono (Kd.R_keep (IsS102.apart (show IsS102 w0 _ g s0_0 t331 t332 from by repeat (first | (with_reducible first | exact HI0.out | apply IsS102.alloc | apply IsS102.drewN | apply IsS102.drew | apply IsS102.set_1 | apply IsS102.set_2 | refine IsS102.far ?_ NB0_326.out _) | exact HI0.out)) (by (with_reducible repeat (first | apply Kd.R_alloc | apply Kd.R_drewN | apply Kd.R_drew)); exact HO329.out) (by decide)) hk (fun _ h => h.2)) (fun _ h => h.1)); have n2_ := Aside0.mk (Kd.R_mono (Kd.R_keep (IsS102.apart (show IsS102 w0 _ g s0_0 t331 t332 from by repeat (first | (with_reducible first | exact HI0.out | apply IsS102.alloc | apply IsS102.drewN | apply IsS102.drew | apply IsS102.set_1 | apply IsS102.set_2 | refine IsS102.far ?_ NB0_326.out _) | exact HI0.out)) (by (with_reducible repeat (first | apply Kd.R_alloc | apply Kd.R_drewN | apply Kd.R_drew)); exact HO335.out) (by decide)) hk (fun _ h => h.2)) (fun _ h => h.1)); have n3_ := Aside0.mk (KeepBut.trans (by repeat (first | (with_reducible first | exact HK.out | apply KeepBut.set_ | apply keep_drewN | apply keep_drew | apply keep_alloc | refine keep_far ?_ GW326.out _) | exact HK.out)) hk (.inl rfl)); have n4_ := Aside0.mk (hb); have n5_ := Aside0.mk (hi); clear BK326; clear HO329; clear HO335; clear HK; clear HB; clear HI0; have BK326 := n0_; have HO329 := n1_; have HO335 := n2_; have HK := n3_; have HB := n4_; have HI0 := n5_; clear n0_ n1_ n2_ n3_ n4_ n5_; (try clear hb); (try clear hb2); (try clear hk); (try clear hi)) | ((with_reducible refine gate_dst (N := 3) rfl ?_); refine box_event ?hg (N := 3) ?hd (cs := #[.int .i64 0,.int .i64 0,.slice none 0 0]) (t := 58) ?hr ?_; (case hd => rfl); (case hg => rfl); (case hr => first | (go_simp; done) | (go_simp; rfl)); intro gb339 hg w13 hbox hb; have n0_ := Aside0.mk (Kd.R_below (by (with_reducible repeat (first | apply Kd.R_alloc | apply Kd.R_drewN | apply Kd.R_drew)); exact HO329.out) hb); have n1_ := Aside0.mk (Kd.R_below (by (with_reducible repeat (first | apply Kd.R_alloc | apply Kd.R_drewN | apply Kd.R_drew)); exact HO335.out) hb); have n2_ := Aside0.mk (IsS102.below (by repeat (first | (with_reducible first | exact HI0.out | apply IsS102.alloc | apply IsS102.drewN | apply IsS102.drew | apply IsS102.set_1 | apply IsS102.set_2 | refine IsS102.far ?_ NB0_326.out _) | exact HI0.out)) hb); have n3_ := Aside0.mk (blk_below (g := gb326) (o := .cells #[.int .i64 0,.int .i64 0,.slice none 0 0] 58 (0,0)) (by (with_reducible repeat (first | refine blk_drewN ?_ _ | refine blk_drew ?_ | refine blk_alloc ?_ _)); exact BK326.out) hb); have n4_ := Aside0.mk (KeepBut.trans (by repeat (first | (with_reducible first | exact HK.out | apply KeepBut.set_ | apply keep_drewN | apply keep_drew | apply keep_alloc | refine keep_far ?_ GW326.out _) | exact HK.out)) (KeepBut.of_below hb g none) (.inl rfl)); have n5_ := Aside0.mk (below_step (by repeat (first | (with_reducible first | exact HB.out | apply below_alloc | apply pw_below_drewN | apply below_drew1 | refine below_set ?_ (IsS102.ge HI0.out) | refine below_set ?_ GE326.out) | exact HB.out)) hb); have n6_ := Aside0.mk (hbox); have n7_ := Aside0.mk ((by rw [hg]; exact (keep_size (w := w) (g := g) (row := none) (by repeat (first | (with_reducible first | exact HK.out | apply KeepBut.set_ | apply keep_drewN | apply keep_drew | apply keep_alloc | refine keep_far ?_ GW326.out _) | exact HK.out))) : w.heap.size ≤ gb339)); have n8_ := Aside0.mk ((Nat.le_trans HW0.out (by rw [hg]; exact (keep_size (w := w) (g := g) (row := none) (by repeat (first | (with_reducible first | exact HK.out | apply KeepBut.set_ | apply keep_drewN | apply keep_drew | apply keep_alloc | refine keep_far ?_ GW326.out _) | exact HK.out))) : w.heap.size ≤ gb339) : w0.heap.size ≤ gb339)); have n9_ := Aside0.mk ((by rw [hg]; exact Nat.ne_of_lt (blk_lt (g := gb326) (o := .cells #[.int .i64 0,.int .i64 0,.slice none 0 0] 58 (0,0)) (by (with_reducible repeat (first | refine blk_drewN ?_ _ | refine blk_drew ?_ | refine blk_alloc ?_ _)); exact BK326.out)) : gb326 ≠ gb339)); have n10_ := Aside0.mk ((by rw [hg]; exact Nat.ne_of_gt (blk_lt (g := gb326) (o := .cells #[.int .i64 0,.int .i64 0,.slice none 0 0] 58 (0,0)) (by (with_reducible repeat (first | refine blk_drewN ?_ _ | refine blk_drew ?_ | refine blk_alloc ?_ _)); exact BK326.out)) : gb339 ≠ gb326)); have n11_ := Aside0.mk ((by rw [hg]; exact Nat.ne_of_lt (IsS102.lt (show IsS102 w0 _ g s0_0 t337 t338 from by repeat (first | (with_reducible first | exact HI0.out | apply IsS102.alloc | apply IsS102.drewN | apply IsS102.drew | apply IsS102.set_1 | apply IsS102.set_2 | refine IsS102.far ?_ NB0_326.out _) | exact HI0.out))) : g ≠ gb339)); have n12_ := Aside0.mk ((by rw [hg]; exact Nat.ne_of_gt (IsS102.lt (show IsS102 w0 _ g s0_0 t337 t338 from by repeat (first | (with_reducible first | exact HI0.out | apply IsS102.alloc | apply IsS102.drewN | apply IsS102.drew | apply IsS102.set_1 | apply IsS102.set_2 | refine IsS102.far ?_ NB0_326.out _) | exact HI0.out))) : gb339 ≠ g)); clear HO329; clear HO335; clear HI0; clear BK326; clear HK; clear HB; have HO329 := n0_; have HO335 := n1_; have HI0 := n2_; have BK326 := n3_; have HK := n4_; have HB := n5_; have BK339 := n6_; have GW339 := n7_; have GE339 := n8_; have NB326_339 := n9_; have NB339_326 := n10_; have NB0_339 := n11_; have NB339_0 := n12_; clear n0_ n1_ n2_ n3_ n4_ n5_ n6_ n7_ n8_ n9_ n10_ n11_ n12_; clear hb hbox hg; have hnb14 := NB339_326.out; have hnc14 := NB326_339.out; have hnb15 := NB339_0.out; have hnc15 := NB0_339.out; have hcz16_0 : w13.cell? ⟨gb339,0,none⟩ = some (.int .i64 0) := (blk_cell BK339.out 0).trans rfl; have hcz16_1 : w13.cell? ⟨gb339,1,none⟩ = some (.int .i64 0) := (blk_cell BK339.out 1).trans rfl; have hcz16_2 : w13.cell? ⟨gb339,2,none⟩ = some (.slice none 0 0) := (blk_cell BK339.out 2).trans rfl; have hfz16_0 := blk_frozen BK339.out 0; have hfz16_1 := blk_frozen BK339.out 1; have hfz16_2 := blk_frozen BK339.out 2))
 go_loopg [4] k (fun kq v4 w' => ∃ (x4_1 : Int) (x1001_1 : Int) (x1002_1 : Int) (x340002_1 : List (S107)) (u340002 : Value),v4 = .int .i64 x4_1 ∧ Aside0 (spec_l04Call.l0 kq x4_1 s0_0 x1001_1 x1002_1 t330 t336 x340002_1 = some (r1,r2,r3,r4,r5)) ∧ Aside0 (kq ≤ k) ∧ Aside0 (Kd.R k107 107 w' w.heap.size (fun _ => True) u340002 x340002_1) ∧ Aside0 (w'.heap[gb326]? = some (.cells #[.int .i64 0,.int .i64 0,(.slice none 0 0)] 58 (0,0))) ∧ Aside0 (w'.heap[gb339]? = some (.cells #[.int .i64 t330,.int .i64 t336,u340002] 58 (0,0))) ∧ Aside0 (IsS102 w0 w' g s0_0 x1001_1 x1002_1) ∧ Aside0 (KeepBut w w' g none) ∧ Aside0 (Below w0.heap.size w0 w'))
 case atStart => exact ⟨(0),(t337),(t338),(([] : List (S107))),(.slice none 0 0),(by first | rfl | (simp; done) | (simp [*]; done)),H',⟨Nat.le_refl _⟩,⟨by first | exact Kd.R_nil _ _ _ _ _ | exact Kd.N_nil _ _ _ _ _ | exact Kd.V_nil _ _ _ _ _ | exact Kd.Q_nil _ _ _ _ _ | exact Kd.S_nil _ _ _ _ _⟩,⟨by (with_reducible repeat (first | refine blk_drewN ?_ _ | refine blk_drew ?_ | refine blk_alloc ?_ _)); refine blk_far ?_ NB326_339.out _; (with_reducible repeat (first | refine blk_drewN ?_ _ | refine blk_drew ?_ | refine blk_alloc ?_ _)); refine blk_far ?_ NB326_339.out _; (with_reducible repeat (first | refine blk_drewN ?_ _ | refine blk_drew ?_ | refine blk_alloc ?_ _)); refine blk_far ?_ NB326_339.out _; (with_reducible repeat (first | refine blk_drewN ?_ _ | refine blk_drew ?_ | refine blk_alloc ?_ _)); exact BK326.out⟩,⟨by (with_reducible repeat (first | refine blk_drewN ?_ _ | refine blk_drew ?_ | refine blk_alloc ?_ _)); refine blk_put (cs := #[.int .i64 t330,.int .i64 t336,.slice none 0 0]) ?_ 2 _ rfl; (with_reducible repeat (first | refine blk_drewN ?_ _ | refine blk_drew ?_ | refine blk_alloc ?_ _)); refine blk_put (cs := #[.int .i64 t330,.int .i64 0,.slice none 0 0]) ?_ 1 _ rfl; (with_reducible repeat (first | refine blk_drewN ?_ _ | refine blk_drew ?_ | refine blk_alloc ?_ _)); refine blk_put (cs := #[.int .i64 0,.int .i64 0,.slice none 0 0]) ?_ 0 _ rfl; (with_reducible repeat (first | refine blk_drewN ?_ _ | refine blk_drew ?_ | refine blk_alloc ?_ _)); exact BK339.out⟩,⟨by repeat (first | (with_reducible first | exact HI0.out | apply IsS102.alloc | apply IsS102.drewN | apply IsS102.drew | apply IsS102.set_1 | apply IsS102.set_2 | refine IsS102.far ?_ NB0_326.out _ | refine IsS102.far ?_ NB0_339.out _) | exact HI0.out)⟩,⟨by repeat (first | (with_reducible first | exact HK.out | apply KeepBut.set_ | apply keep_drewN | apply keep_drew | apply keep_alloc | refine keep_far ?_ GW326.out _ | refine keep_far ?_ GW339.out _) | exact HK.out)⟩,⟨by repeat (first | (with_reducible first | exact HB.out | apply below_alloc | apply pw_below_drewN | apply below_drew1 | refine below_set ?_ (IsS102.ge HI0.out) | refine below_set ?_ GE326.out | refine below_set ?_ GE339.out) | exact HB.out)⟩⟩
 case round =>
  clear H'
  try clear c1
  try clear p2
  try clear c9
  try clear c14
  try clear c15
  try clear hcz16_0
  try clear hcz16_1
  try clear hcz16_2
  try clear hfz16_0
  try clear hfz16_1
  try clear hfz16_2
  obtain ⟨x4_1,x1001_1,x1002_1,x340002_1,u340002,rfl,HA,HK1,HO_340002,BK326,BK339,HI0,HK,HB⟩ := hrel
  cases gk with
  | zero => exact absurd HA.out (by simp [spec_l04Call.l0])
  | succ k1 =>
   have H := HA.out
   clear HA
   simp only [spec_l04Call.l0] at H
   by_cases c17 : x4_1 < 3
   ·
    rw [if_pos c17] at H
    have c17b0 : decide (x4_1 < 3) = true := decide_eq_true c17
    clear c17
    replace H := Option.bind_eq_some_iff.mp H
    obtain ⟨⟨t340,t341,t342,t343⟩,A180,H⟩ := H
    replace H : (if x340002_1.length < 8796093022208 then (spec_l04Call.l0 k1 (wrap64 (x4_1 + 1)) s0_0 t342 t343 t330 t336 (x340002_1 ++ [(⟨t340,t341⟩ : S107)])) else (none)) = some (r1,r2,r3,r4,r5) := H
    have A18 := Aside0.mk A180
    clear A180
    by_cases c19 : x340002_1.length < 8796093022208
    ·
     rw [if_pos c19] at H
     have LMc19 := Aside0.mk c19
     clear c19
     obtain ⟨y345,hy345⟩ : ∃ y_ : List (S107),y_ = (x340002_1 ++ [(⟨t340,t341⟩ : S107)]) := ⟨_,rfl⟩
     replace H : (spec_l04Call.l0 k1 (wrap64 (x4_1 + 1)) s0_0 t342 t343 t330 t336 y345) = some (r1,r2,r3,r4,r5) := by first | (rw [hy345]; with_reducible exact H) | (have H2_ := (Option.bind_some _ _).symm.trans H; rw [hy345]; with_reducible exact H2_) | (have H2_ := (Option.bind_some _ _).symm.trans H; with_reducible exact H2_) | with_reducible exact H | (rw [hy345]; exact H) | exact H
     have Ny345 := Aside0.mk hy345
     clear hy345
     have H' := Aside0.mk H
     clear H
     go_wp2_with (first | ((with_reducible refine gate_callee (f := 106) rfl ?_); refine goesL_ (some 18) rfl rfl Try.func106 (by kernel_rfl) rfl #[.pointer (some ⟨g,0,none⟩)] rfl (by (try simp only [List.map_toArray,List.map_cons,List.map_nil]); first | done | rfl | (simp only [List.length_drop,List.length_take]; rfl)) ?_; (with_reducible refine (spec_l04Wide.calls g s0_0 x1001_1 x1002_1 t340 t341 t342 t343 w0 _ ?side1 ?side2 A18.out).mono ?_); (case side1 => repeat (first | (with_reducible first | exact HI0.out | apply IsS102.alloc | apply IsS102.drewN | apply IsS102.drew | apply IsS102.set_1 | apply IsS102.set_2 | refine IsS102.far ?_ NB0_326.out _ | refine IsS102.far ?_ NB0_339.out _) | exact HI0.out)); (case side2 => repeat (first | (with_reducible first | exact HB.out | apply below_alloc | apply pw_below_drewN | apply below_drew1 | refine below_set ?_ (IsS102.ge HI0.out) | refine below_set ?_ GE326.out | refine below_set ?_ GE339.out) | exact HB.out)); rintro e w20 ⟨rfl,hi,hb,hk⟩; refine ⟨_,rfl,?_⟩; have n0_ := Aside0.mk (Kd.R_mono (Kd.R_keep (IsS102.apart (show IsS102 w0 _ g s0_0 x1001_1 x1002_1 from by repeat (first | (with_reducible first | exact HI0.out | apply IsS102.alloc | apply IsS102.drewN | apply IsS102.drew | apply IsS102.set_1 | apply IsS102.set_2 | refine IsS102.far ?_ NB0_326.out _ | refine IsS102.far ?_ NB0_339.out _) | exact HI0.out)) (by (with_reducible repeat (first | apply Kd.R_alloc | apply Kd.R_drewN | apply Kd.R_drew)); exact HO_340002.out) (by decide)) hk (fun _ h => h.2)) (fun _ h => h.1)); have n1_ := Aside0.mk (KeepBut.blk hk (g' := gb326) (o := .cells #[.int .i64 0,.int .i64 0,.slice none 0 0] 58 (0,0)) (by (with_reducible repeat (first | refine blk_drewN ?_ _ | refine blk_drew ?_ | refine blk_alloc ?_ _)); exact BK326.out) NB326_0.out (by simp)); have n2_ := Aside0.mk (KeepBut.blk hk (g' := gb339) (o := .cells #[.int .i64 t330,.int .i64 t336,u340002] 58 (0,0)) (by (with_reducible repeat (first | refine blk_drewN ?_ _ | refine blk_drew ?_ | refine blk_alloc ?_ _)); exact BK339.out) NB339_0.out (by simp)); have n3_ := Aside0.mk (KeepBut.trans (by repeat (first | (with_reducible first | exact HK.out | apply KeepBut.set_ | apply keep_drewN | apply keep_drew | apply keep_alloc | refine keep_far ?_ GW326.out _ | refine keep_far ?_ GW339.out _) | exact HK.out)) hk (.inl rfl)); have n4_ := Aside0.mk (hb); have n5_ := Aside0.mk (hi); clear HO_340002; clear BK326; clear BK339; clear HK; clear HB; clear HI0; have HO_340002 := n0_; have BK326 := n1_; have BK339 := n2_; have HK := n3_; have HB := n4_; have HI0 := n5_; clear n0_ n1_ n2_ n3_ n4_ n5_; (try clear hb); (try clear hb2); (try clear hk); (try clear hi)) | ((with_reducible refine gate_dst (N := 5) rfl ?_); refine box_event ?hg (N := 5) ?hd (cs := #[.int .i64 0,.int .i64 0]) (t := 107) ?hr ?_; (case hd => rfl); (case hg => rfl); (case hr => first | (go_simp; done) | (go_simp; rfl)); intro gb344 hg w21 hbox hb; have n0_ := Aside0.mk (Kd.R_below (Kd.R_elderB (by (with_reducible repeat (first | apply Kd.R_alloc | apply Kd.R_drewN | apply Kd.R_drew)); exact HO_340002.out) gb344 (Nat.le_of_eq hg.symm)) hb); have n1_ := Aside0.mk (blk_below (g := gb326) (o := .cells #[.int .i64 0,.int .i64 0,.slice none 0 0] 58 (0,0)) (by (with_reducible repeat (first | refine blk_drewN ?_ _ | refine blk_drew ?_ | refine blk_alloc ?_ _)); exact BK326.out) hb); have n2_ := Aside0.mk (blk_below (g := gb339) (o := .cells #[.int .i64 t330,.int .i64 t336,u340002] 58 (0,0)) (by (with_reducible repeat (first | refine blk_drewN ?_ _ | refine blk_drew ?_ | refine blk_alloc ?_ _)); exact BK339.out) hb); have n3_ := Aside0.mk (IsS102.below (by repeat (first | (with_reducible first | exact HI0.out | apply IsS102.alloc | apply IsS102.drewN | apply IsS102.drew | apply IsS102.set_1 | apply IsS102.set_2 | refine IsS102.far ?_ NB0_326.out _ | refine IsS102.far ?_ NB0_339.out _) | exact HI0.out)) hb); have n4_ := Aside0.mk (KeepBut.trans (by repeat (first | (with_reducible first | exact HK.out | apply KeepBut.set_ | apply keep_drewN | apply keep_drew | apply keep_alloc | refine keep_far ?_ GW326.out _ | refine keep_far ?_ GW339.out _) | exact HK.out)) (KeepBut.of_below hb g none) (.inl rfl)); have n5_ := Aside0.mk (below_step (by repeat (first | (with_reducible first | exact HB.out | apply below_alloc | apply pw_below_drewN | apply below_drew1 | refine below_set ?_ (IsS102.ge HI0.out) | refine below_set ?_ GE326.out | refine below_set ?_ GE339.out) | exact HB.out)) hb); have n6_ := Aside0.mk (hbox); have n7_ := Aside0.mk ((by rw [hg]; exact (keep_size (w := w) (g := g) (row := none) (by repeat (first | (with_reducible first | exact HK.out | apply KeepBut.set_ | apply keep_drewN | apply keep_drew | apply keep_alloc | refine keep_far ?_ GW326.out _ | refine keep_far ?_ GW339.out _) | exact HK.out))) : w.heap.size ≤ gb344)); have n8_ := Aside0.mk ((Nat.le_trans HW0.out (by rw [hg]; exact (keep_size (w := w) (g := g) (row := none) (by repeat (first | (with_reducible first | exact HK.out | apply KeepBut.set_ | apply keep_drewN | apply keep_drew | apply keep_alloc | refine keep_far ?_ GW326.out _ | refine keep_far ?_ GW339.out _) | exact HK.out))) : w.heap.size ≤ gb344) : w0.heap.size ≤ gb344)); have n9_ := Aside0.mk ((by rw [hg]; exact Nat.ne_of_lt (blk_lt (g := gb326) (o := .cells #[.int .i64 0,.int .i64 0,.slice none 0 0] 58 (0,0)) (by (with_reducible repeat (first | refine blk_drewN ?_ _ | refine blk_drew ?_ | refine blk_alloc ?_ _)); exact BK326.out)) : gb326 ≠ gb344)); have n10_ := Aside0.mk ((by rw [hg]; exact Nat.ne_of_gt (blk_lt (g := gb326) (o := .cells #[.int .i64 0,.int .i64 0,.slice none 0 0] 58 (0,0)) (by (with_reducible repeat (first | refine blk_drewN ?_ _ | refine blk_drew ?_ | refine blk_alloc ?_ _)); exact BK326.out)) : gb344 ≠ gb326)); have n11_ := Aside0.mk ((by rw [hg]; exact Nat.ne_of_lt (blk_lt (g := gb339) (o := .cells #[.int .i64 t330,.int .i64 t336,u340002] 58 (0,0)) (by (with_reducible repeat (first | refine blk_drewN ?_ _ | refine blk_drew ?_ | refine blk_alloc ?_ _)); exact BK339.out)) : gb339 ≠ gb344)); have n12_ := Aside0.mk ((by rw [hg]; exact Nat.ne_of_gt (blk_lt (g := gb339) (o := .cells #[.int .i64 t330,.int .i64 t336,u340002] 58 (0,0)) (by (with_reducible repeat (first | refine blk_drewN ?_ _ | refine blk_drew ?_ | refine blk_alloc ?_ _)); exact BK339.out)) : gb344 ≠ gb339)); have n13_ := Aside0.mk ((by rw [hg]; exact Nat.ne_of_lt (IsS102.lt (show IsS102 w0 _ g s0_0 t342 t343 from by repeat (first | (with_reducible first | exact HI0.out | apply IsS102.alloc | apply IsS102.drewN | apply IsS102.drew | apply IsS102.set_1 | apply IsS102.set_2 | refine IsS102.far ?_ NB0_326.out _ | refine IsS102.far ?_ NB0_339.out _) | exact HI0.out))) : g ≠ gb344)); have n14_ := Aside0.mk ((by rw [hg]; exact Nat.ne_of_gt (IsS102.lt (show IsS102 w0 _ g s0_0 t342 t343 from by repeat (first | (with_reducible first | exact HI0.out | apply IsS102.alloc | apply IsS102.drewN | apply IsS102.drew | apply IsS102.set_1 | apply IsS102.set_2 | refine IsS102.far ?_ NB0_326.out _ | refine IsS102.far ?_ NB0_339.out _) | exact HI0.out))) : gb344 ≠ g)); clear HO_340002; clear BK326; clear BK339; clear HI0; clear HK; clear HB; have HO_340002 := n0_; have BK326 := n1_; have BK339 := n2_; have HI0 := n3_; have HK := n4_; have HB := n5_; have BK344 := n6_; have GW344 := n7_; have GE344 := n8_; have NB326_344 := n9_; have NB344_326 := n10_; have NB339_344 := n11_; have NB344_339 := n12_; have NB0_344 := n13_; have NB344_0 := n14_; clear n0_ n1_ n2_ n3_ n4_ n5_ n6_ n7_ n8_ n9_ n10_ n11_ n12_ n13_ n14_; clear hb hbox hg; have hnb22 := NB344_326.out; have hnc22 := NB326_344.out; have hnb23 := NB344_339.out; have hnc23 := NB339_344.out; have hnb24 := NB344_0.out; have hnc24 := NB0_344.out; have hcz25_0 : w21.cell? ⟨gb344,0,none⟩ = some (.int .i64 0) := (blk_cell BK344.out 0).trans rfl; have hcz25_1 : w21.cell? ⟨gb344,1,none⟩ = some (.int .i64 0) := (blk_cell BK344.out 1).trans rfl; have hfz25_0 := blk_frozen BK344.out 0; have hfz25_1 := blk_frozen BK344.out 1; have hnb26 := NB339_326.out; have hnc26 := NB326_339.out; have hnb27 := NB339_0.out; have hnc27 := NB0_339.out; have hcz28_0 : w21.cell? ⟨gb339,0,none⟩ = some (.int .i64 t330) := (blk_cell BK339.out 0).trans rfl; have hcz28_1 : w21.cell? ⟨gb339,1,none⟩ = some (.int .i64 t336) := (blk_cell BK339.out 1).trans rfl; have hcz28_2 : w21.cell? ⟨gb339,2,none⟩ = some (u340002) := (blk_cell BK339.out 2).trans rfl; have hfz28_0 := blk_frozen BK339.out 0; have hfz28_1 := blk_frozen BK339.out 1; have hfz28_2 := blk_frozen BK339.out 2) | ((with_reducible refine gate_builtin (b := .append) (xs := #[.tmp 20,.tmp 22]) rfl ?_); at_builtin; refine Kd.R_append k107 w.heap.size rfl (.tmp 20) (.tmp 22) 56 107 (.agg #[(.int .i64 0),(.int .i64 0)]) 16 rfl Try.underlying56 info107 rfl (by decide) (by omega) u340002 x340002_1 (⟨t340,t341⟩ : S107) [.int .i64 t340,.int .i64 t341] (fun k_ => k_ ≠ gb344) (fun _ => False) rfl (by first | (go_simp; done) | (go_simp; rfl)) ?aP (fun _ hk => hk.elim) ?aF ?aO (Below.refl _ _) ?aS ?aL ?_; (case aP => exact k107_mkM _ _ _ (⟨t340,t341⟩ : S107)); (case aF => exact (fun k_ hk => Kd.freshB (g := gb344) (o := .cells #[.int .i64 t340,.int .i64 t341] 107 (0,0)) (by (with_reducible repeat (first | refine blk_drewN ?_ _ | refine blk_drew ?_ | refine blk_alloc ?_ _)); refine blk_put (cs := #[.int .i64 t340,.int .i64 0]) ?_ 1 _ rfl; (with_reducible repeat (first | refine blk_drewN ?_ _ | refine blk_drew ?_ | refine blk_alloc ?_ _)); refine blk_put (cs := #[.int .i64 0,.int .i64 0]) ?_ 0 _ rfl; (with_reducible repeat (first | refine blk_drewN ?_ _ | refine blk_drew ?_ | refine blk_alloc ?_ _)); exact BK344.out) k_ hk)); (case aO => exact (by (with_reducible repeat (first | apply Kd.R_alloc | apply Kd.R_drewN | apply Kd.R_drew)); exact Kd.R_mono (Kd.R_far (p := ⟨gb344,1,none⟩) (Kd.R_far (p := ⟨gb344,0,none⟩) (Kd.R_mono HO_340002.out (fun k_ hk => (⟨hk,hk.2⟩ : _ ∧ k_ ≠ gb344))) (fun _ hk => hk.2) (.int .i64 t340)) (fun _ hk => hk.2) (.int .i64 t341)) (fun _ hk => hk.1.2))); (case aS => exact (keep_size (w := w) (g := g) (row := none) (by repeat (first | (with_reducible first | exact HK.out | apply KeepBut.set_ | apply keep_drewN | apply keep_drew | apply keep_alloc | refine keep_far ?_ GW326.out _ | refine keep_far ?_ GW339.out _ | refine keep_far ?_ GW344.out _) | exact HK.out)))); (case aL => have := LMc19.out; omega); intro v346 w29 ho hb hg hat; rw [← Ny345.out] at ho; have n0_ := Aside0.mk (blk_grown (g := gb326) (o := .cells #[.int .i64 0,.int .i64 0,.slice none 0 0] 58 (0,0)) (by (with_reducible repeat (first | refine blk_drewN ?_ _ | refine blk_drew ?_ | refine blk_alloc ?_ _)); refine blk_far ?_ NB326_344.out _; (with_reducible repeat (first | refine blk_drewN ?_ _ | refine blk_drew ?_ | refine blk_alloc ?_ _)); refine blk_far ?_ NB326_344.out _; (with_reducible repeat (first | refine blk_drewN ?_ _ | refine blk_drew ?_ | refine blk_alloc ?_ _)); exact BK326.out) hg (Kd.R_ne HO_340002.out BK326.out (by decide))); have n1_ := Aside0.mk (blk_grown (g := gb339) (o := .cells #[.int .i64 t330,.int .i64 t336,u340002] 58 (0,0)) (by (with_reducible repeat (first | refine blk_drewN ?_ _ | refine blk_drew ?_ | refine blk_alloc ?_ _)); refine blk_far ?_ NB339_344.out _; (with_reducible repeat (first | refine blk_drewN ?_ _ | refine blk_drew ?_ | refine blk_alloc ?_ _)); refine blk_far ?_ NB339_344.out _; (with_reducible repeat (first | refine blk_drewN ?_ _ | refine blk_drew ?_ | refine blk_alloc ?_ _)); exact BK339.out) hg (Kd.R_ne HO_340002.out BK339.out (by decide))); have n2_ := Aside0.mk (IsS102.grown (IsS102.far (IsS102.far HI0.out NB0_344.out _) NB0_344.out _) hg (IsS102.own_ne HI0.out HO_340002.out (by decide))); have n3_ := Aside0.mk (blk_grown (g := gb344) (o := .cells #[.int .i64 t340,.int .i64 t341] 107 (0,0)) (by (with_reducible repeat (first | refine blk_drewN ?_ _ | refine blk_drew ?_ | refine blk_alloc ?_ _)); refine blk_put (cs := #[.int .i64 t340,.int .i64 0]) ?_ 1 _ rfl; (with_reducible repeat (first | refine blk_drewN ?_ _ | refine blk_drew ?_ | refine blk_alloc ?_ _)); refine blk_put (cs := #[.int .i64 0,.int .i64 0]) ?_ 0 _ rfl; (with_reducible repeat (first | refine blk_drewN ?_ _ | refine blk_drew ?_ | refine blk_alloc ?_ _)); exact BK344.out) hg (Kd.R_away HO_340002.out (fun _ hk => hk.2))); have n4_ := Aside0.mk (below_weaken (by repeat (first | (with_reducible first | exact HB.out | apply below_alloc | apply pw_below_drewN | apply below_drew1 | refine below_set ?_ (IsS102.ge HI0.out) | refine below_set ?_ GE326.out | refine below_set ?_ GE339.out | refine below_set ?_ GE344.out) | exact HB.out)) HL.out hb); have n5_ := Aside0.mk (KeepBut.trans (by repeat (first | (with_reducible first | exact HK.out | apply KeepBut.set_ | apply keep_drewN | apply keep_drew | apply keep_alloc | refine keep_far ?_ GW326.out _ | refine keep_far ?_ GW339.out _ | refine keep_far ?_ GW344.out _) | exact HK.out)) (KeepBut.of_grown hg g) (Kd.R_base2 HO_340002.out)); have n6_ := Aside0.mk (ho); clear BK326; clear BK339; clear HI0; clear BK344; clear HB; clear HK; clear HO_340002; have BK326 := n0_; have BK339 := n1_; have HI0 := n2_; have BK344 := n3_; have HB := n4_; have HK := n5_; have HO347 := n6_; clear n0_ n1_ n2_ n3_ n4_ n5_ n6_; clear ho hb hg hat; obtain ⟨Ao30,co30,eo30⟩ := Kd.R_slice HO347.out; subst eo30; have hcz31_0 : w29.cell? ⟨gb339,0,none⟩ = some (.int .i64 t330) := (blk_cell BK339.out 0).trans rfl; have hcz31_1 : w29.cell? ⟨gb339,1,none⟩ = some (.int .i64 t336) := (blk_cell BK339.out 1).trans rfl; have hcz31_2 : w29.cell? ⟨gb339,2,none⟩ = some (u340002) := (blk_cell BK339.out 2).trans rfl; have hfz31_0 := blk_frozen BK339.out 0; have hfz31_1 := blk_frozen BK339.out 1; have hfz31_2 := blk_frozen BK339.out 2))
     go_roundg k1
     case measure => have := HK1.out; omega
     case rel => exact ⟨(wrap64 (x4_1 + 1)),(t342),(t343),(y345),(.slice Ao30 y345.length co30),(by first | rfl | (simp; done) | (simp [*]; done)),H',⟨by have := HK1.out; omega⟩,⟨by (with_reducible repeat (first | apply Kd.R_alloc | apply Kd.R_drewN | apply Kd.R_drew)); exact Kd.R_mono (Kd.R_far (p := ⟨gb339,2,none⟩) (Kd.R_types HO347.out BK339.out (by decide)) (fun _ hk => hk.2) (.slice Ao30 y345.length co30)) (fun _ hk => trivial)⟩,⟨by (with_reducible repeat (first | refine blk_drewN ?_ _ | refine blk_drew ?_ | refine blk_alloc ?_ _)); refine blk_far ?_ NB326_339.out _; (with_reducible repeat (first | refine blk_drewN ?_ _ | refine blk_drew ?_ | refine blk_alloc ?_ _)); exact BK326.out⟩,⟨by (with_reducible repeat (first | refine blk_drewN ?_ _ | refine blk_drew ?_ | refine blk_alloc ?_ _)); refine blk_put (cs := #[.int .i64 t330,.int .i64 t336,u340002]) ?_ 2 _ rfl; (with_reducible repeat (first | refine blk_drewN ?_ _ | refine blk_drew ?_ | refine blk_alloc ?_ _)); exact BK339.out⟩,⟨by repeat (first | (with_reducible first | exact HI0.out | apply IsS102.alloc | apply IsS102.drewN | apply IsS102.drew | apply IsS102.set_1 | apply IsS102.set_2 | refine IsS102.far ?_ NB0_326.out _ | refine IsS102.far ?_ NB0_339.out _ | refine IsS102.far ?_ NB0_344.out _) | exact HI0.out)⟩,⟨by repeat (first | (with_reducible first | exact HK.out | apply KeepBut.set_ | apply keep_drewN | apply keep_drew | apply keep_alloc | refine keep_far ?_ GW326.out _ | refine keep_far ?_ GW339.out _ | refine keep_far ?_ GW344.out _) | exact HK.out)⟩,⟨by repeat (first | (with_reducible first | exact HB.out | apply below_alloc | apply pw_below_drewN | apply below_drew1 | refine below_set ?_ (IsS102.ge HI0.out) | refine below_set ?_ GE326.out | refine below_set ?_ GE339.out | refine below_set ?_ GE344.out) | exact HB.out)⟩⟩
    ·
     rw [if_neg c19] at H
     exact absurd H (by simp)
   ·
    rw [if_neg c17] at H
    have c17b0 : decide (x4_1 < 3) = false := decide_eq_false c17
    clear c17
    simp only [Option.some.injEq,Prod.mk.injEq] at H
    obtain ⟨rfl,rfl,rfl,rfl,rfl⟩ := H
    have hnb32 := NB339_326.out
    have hnc32 := NB326_339.out
    have hnb33 := NB339_0.out
    have hnc33 := NB0_339.out
    have hcz34_0 : wr.cell? ⟨gb339,0,none⟩ = some (.int .i64 t330) := (blk_cell BK339.out 0).trans rfl
    have hcz34_1 : wr.cell? ⟨gb339,1,none⟩ = some (.int .i64 t336) := (blk_cell BK339.out 1).trans rfl
    have hcz34_2 : wr.cell? ⟨gb339,2,none⟩ = some (u340002) := (blk_cell BK339.out 2).trans rfl
    have hfz34_0 := blk_frozen BK339.out 0
    have hfz34_1 := blk_frozen BK339.out 1
    have hfz34_2 := blk_frozen BK339.out 2
    have hnb35 := NB326_0.out
    have hnc35 := NB0_326.out
    have hcz36_0 : wr.cell? ⟨gb326,0,none⟩ = some (.int .i64 0) := (blk_cell BK326.out 0).trans rfl
    have hcz36_1 : wr.cell? ⟨gb326,1,none⟩ = some (.int .i64 0) := (blk_cell BK326.out 1).trans rfl
    have hcz36_2 : wr.cell? ⟨gb326,2,none⟩ = some (.slice none 0 0) := (blk_cell BK326.out 2).trans rfl
    have hfz36_0 := blk_frozen BK326.out 0
    have hfz36_1 := blk_frozen BK326.out 1
    have hfz36_2 := blk_frozen BK326.out 2
    obtain ⟨Ao37,co37,eo37⟩ := Kd.R_slice HO_340002.out
    subst eo37
    go_wp2
    refine bodyPost_ret (results_cell_row rfl _ _ gb326 58 #[.int .i64 t330,.int .i64 t336,.slice Ao37 x340002_1.length co37] (0,0) _ rfl (by (with_reducible repeat (first | refine blk_drewN ?_ _ | refine blk_drew ?_ | refine blk_alloc ?_ _)); refine blk_put (cs := #[.int .i64 t330,.int .i64 t336,.slice none 0 0]) ?_ 2 _ rfl; (with_reducible repeat (first | refine blk_drewN ?_ _ | refine blk_drew ?_ | refine blk_alloc ?_ _)); refine blk_put (cs := #[.int .i64 t330,.int .i64 0,.slice none 0 0]) ?_ 1 _ rfl; (with_reducible repeat (first | refine blk_drewN ?_ _ | refine blk_drew ?_ | refine blk_alloc ?_ _)); refine blk_put (cs := #[.int .i64 0,.int .i64 0,.slice none 0 0]) ?_ 0 _ rfl; (with_reducible repeat (first | refine blk_drewN ?_ _ | refine blk_drew ?_ | refine blk_alloc ?_ _)); exact BK326.out) Try.underlying58 rfl (by kernel_rfl)) rfl ?_
    exact ⟨_,by first | rfl | (simp [errW_none,errW_some] <;> rfl) | (simp [*,errW_none,errW_some] <;> rfl),by (with_reducible repeat (first | apply Kd.R_alloc | apply Kd.R_drewN | apply Kd.R_drew)); exact Kd.R_mono (Kd.R_far (p := ⟨gb326,2,none⟩) (Kd.R_far (p := ⟨gb326,1,none⟩) (Kd.R_far (p := ⟨gb326,0,none⟩) (Kd.R_types HO_340002.out BK326.out (by decide)) (fun _ hk => hk.2) (.int .i64 t330)) (fun _ hk => hk.2) (.int .i64 t336)) (fun _ hk => hk.2) (.slice Ao37 x340002_1.length co37)) (fun _ hk => trivial),by repeat (first | (with_reducible first | exact HI0.out | apply IsS102.alloc | apply IsS102.drewN | apply IsS102.drew | apply IsS102.set_1 | apply IsS102.set_2 | refine IsS102.far ?_ NB0_326.out _ | refine IsS102.far ?_ NB0_339.out _) | exact HI0.out),by repeat (first | (with_reducible first | exact HB.out | apply below_alloc | apply pw_below_drewN | apply below_drew1 | refine below_set ?_ (IsS102.ge HI0.out) | refine below_set ?_ GE326.out | refine below_set ?_ GE339.out) | exact HB.out),by repeat (first | (with_reducible first | exact HK.out | apply KeepBut.set_ | apply keep_drewN | apply keep_drew | apply keep_alloc | refine keep_far ?_ GW326.out _ | refine keep_far ?_ GW339.out _) | exact HK.out)⟩

end Go.Proofs.Ytfchokhdhnfajaa.PFnRunTold
