/- What the print of the kit wrote of FnRunTold's functions, with some steps of some walks mended by this session. -/
import Derived.Test.YtfchokhdhnfajaaPFnRunToldx0
import Derived.Test.YtfchokhdhnfajaaPFnRunToldx1
import Derived.Test.YtfchokhdhnfajaaOFnRunToldx5
import Derived.Test.YtfchokhdhnfajaaOFnRunToldx6
namespace Go.Proofs.Ytfchokhdhnfajaa.PFnRunTold
open Go.RowKit Go.Proofs.YtfchokhdhnfajaaW.PrintWords Go.Proofs.YtfchokhdhnfajaaW.PrintLast Go.Proofs.YtfchokhdhnfajaaW.PrintMore
attribute [local go_sem] max2_int min2_int max_two min_two max_three min_three max_four min_four   -- for this text's walks alone
set_option linter.unusedVariables false
set_option linter.unusedSimpArgs false

/-! ### spec_l04Any: function 93 -/
def spec_l04Any.f (k : Nat) (s0_0 : List Int) (s0_1 : Int) (s0_2 : Int) : Option (Int × Int × (List (S107)) × Int × Int) := (spec_l01Below.f s0_0 s0_1 s0_2 10).bind fun bt349 => ((spec_l04Call.f k s0_0 bt349.2.1 bt349.2.2).bind fun bt352 => (if bt349.1 = 0 then ((spec_l01PickInt.f s0_0 bt352.2.2.2.1 bt352.2.2.2.2 (([(-1),4294967296] : List Int))).bind fun bt363 => (some (bt352.1,bt363.1,bt352.2.2.1,bt363.2.1,bt363.2.2))) else (if bt349.1 = 1 then (if 1 ≤ (bt352.2.2.1.length : Int) then (some (bt352.1,bt352.2.1,(bt352.2.2.1.drop (1 : Int).toNat),bt352.2.2.2.1,bt352.2.2.2.2)) else (none)) else (if bt349.1 = 2 then (if 1 < (bt352.2.2.1.length : Int) then (some (bt352.1,bt352.2.1,(bt352.2.2.1.set (1 : Int).toNat (⟨(-1),(rd_T107 bt352.2.2.1 1).f1⟩ : S107)),bt352.2.2.2.1,bt352.2.2.2.2)) else (none)) else (if bt349.1 = 3 then (some (4294967296,bt352.2.1,bt352.2.2.1,bt352.2.2.2.1,bt352.2.2.2.2)) else (some (bt352.1,bt352.2.1,bt352.2.2.1,bt352.2.2.2.1,bt352.2.2.2.2)))))))
theorem spec_l04Any.mono : ∀ a0 a1 a2 k,LeO (spec_l04Any.f k a0 a1 a2) (spec_l04Any.f (k + 1) a0 a1 a2) := by
 intro a0 a1 a2 k
 unfold spec_l04Any.f
 repeat' first
   | (with_reducible exact spec_l04Call.mono _ _ _ _)
   | (with_reducible exact LeO.refl _)
   | (with_reducible exact LeO.none _)
   | (with_reducible refine LeO.ite ?_ ?_)
   | (with_reducible refine LeO.bind ?_ (fun _ => ?_))
   | exact spec_l04Call.mono _ _ _ _
   | exact LeO.none _
   | refine LeO.ite ?_ ?_
   | refine LeO.bind ?_ (fun _ => ?_)
theorem spec_l04Any.fin {g ga : Nat} {l : List Int} {i h : Int} {q : List S107} (r1 r2 : Int) {v : Value} {w0 w V : World} {P : Nat → Prop} (hI : IsS102 w0 V g l i h) (hO : Kd.Q k107 107 V w.heap.size P v q) (hA : V.heap[ga]? = some (.cells #[.int .i64 0,.int .i64 0,.slice none 0 0] 58 (0,0))) (hB : Below w0.heap.size w0 V) (hK : KeepBut w V g none) (h0 : w0.heap.size ≤ ga) (h1 : w.heap.size ≤ ga) (h2 : g ≠ ga) :
  (((V.setCell ⟨ga,0,none⟩ (.int .i64 r1)).setCell ⟨ga,1,none⟩ (.int .i64 r2)).setCell ⟨ga,2,none⟩ v).heap[ga]? = some (.cells #[.int .i64 r1,.int .i64 r2,v] 58 (0,0)) ∧ Kd.Q k107 107 (((V.setCell ⟨ga,0,none⟩ (.int .i64 r1)).setCell ⟨ga,1,none⟩ (.int .i64 r2)).setCell ⟨ga,2,none⟩ v) w.heap.size (fun _ => True) v q ∧ IsS102 w0 (((V.setCell ⟨ga,0,none⟩ (.int .i64 r1)).setCell ⟨ga,1,none⟩ (.int .i64 r2)).setCell ⟨ga,2,none⟩ v) g l i h ∧ Below w0.heap.size w0 (((V.setCell ⟨ga,0,none⟩ (.int .i64 r1)).setCell ⟨ga,1,none⟩ (.int .i64 r2)).setCell ⟨ga,2,none⟩ v) ∧ KeepBut w (((V.setCell ⟨ga,0,none⟩ (.int .i64 r1)).setCell ⟨ga,1,none⟩ (.int .i64 r2)).setCell ⟨ga,2,none⟩ v) g none :=
 ⟨blk_set (blk_set (blk_set hA 0 _) 1 _) 2 _,Kd.Q_mono (Kd.Q_far (p := ⟨ga,2,none⟩) (Kd.Q_far (p := ⟨ga,1,none⟩) (Kd.Q_far (p := ⟨ga,0,none⟩) (Kd.Q_types hO hA (by decide)) (fun _ hk => hk.2) _) (fun _ hk => hk.2) _) (fun _ hk => hk.2) _) (fun _ _ => trivial),
  IsS102.far (IsS102.far (IsS102.far hI h2 _) h2 _) h2 _,below_set (below_set (below_set hB h0) h0) h0,keep_far (keep_far (keep_far hK h1 _) h1 _) h1 _⟩
theorem spec_l04Any.put {g ga gb : Nat} {l : List Int} {i h : Int} {q : List S107} {cs : Array Value} {v : Value} {w0 w V : World} {P : Nat → Prop} (hI : IsS102 w0 V g l i h) (hO : Kd.Q k107 107 V w.heap.size P v q) (hA : V.heap[ga]? = some (.cells #[.int .i64 0,.int .i64 0,.slice none 0 0] 58 (0,0))) (hG : V.heap[gb]? = some (.cells cs 58 (0,0))) (hB : Below w0.heap.size w0 V) (hK : KeepBut w V g none) (h0 : w0.heap.size ≤ gb) (h1 : w.heap.size ≤ gb) (h2 : g ≠ gb) (h3 : ga ≠ gb) (j : Nat) (u : Value) :
  IsS102 w0 (V.setCell ⟨gb,j,none⟩ u) g l i h ∧ Kd.Q k107 107 (V.setCell ⟨gb,j,none⟩ u) w.heap.size (fun k => P k ∧ k ≠ gb) v q ∧ (V.setCell ⟨gb,j,none⟩ u).heap[ga]? = some (.cells #[.int .i64 0,.int .i64 0,.slice none 0 0] 58 (0,0)) ∧ Below w0.heap.size w0 (V.setCell ⟨gb,j,none⟩ u) ∧ KeepBut w (V.setCell ⟨gb,j,none⟩ u) g none :=
 ⟨IsS102.far hI h2 u,Kd.Q_far (p := ⟨gb,j,none⟩) (Kd.Q_types hO hG (by decide)) (fun _ hk => hk.2) u,blk_far hA h3 u,below_set hB h0,keep_far hK h1 u⟩
theorem spec_l04Any.cells {w : World} {g t : Nat} {a b c : Value} (h : w.heap[g]? = some (.cells #[a,b,c] t (0,0))) : (w.cell? ⟨g,0,none⟩ = some a ∧ w.frozen? ⟨g,0,none⟩ = false) ∧ (w.cell? ⟨g,1,none⟩ = some b ∧ w.frozen? ⟨g,1,none⟩ = false) ∧ (w.cell? ⟨g,2,none⟩ = some c ∧ w.frozen? ⟨g,2,none⟩ = false) :=
 ⟨⟨(blk_cell h 0).trans rfl,blk_frozen h 0⟩,⟨(blk_cell h 1).trans rfl,blk_frozen h 1⟩,⟨(blk_cell h 2).trans rfl,blk_frozen h 2⟩⟩
set_option maxHeartbeats 8000000 in
set_option maxRecDepth 100000 in
theorem spec_l04Any.calls (k : Nat) (g : Nat) (s0_0 : List Int) (s0_1 : Int) (s0_2 : Int) (r1 : Int) (r2 : Int) (r3 : List (S107)) (r4 : Int) (r5 : Int) (w0 w : World) (hI : IsS102 w0 w g s0_0 s0_1 s0_2) (hB : Below w0.heap.size w0 w) (h : spec_l04Any.f k s0_0 s0_1 s0_2 = some (r1,r2,r3,r4,r5)) :
  Calls Try.prog 93 #[.pointer (some ⟨g,0,none⟩)] w fun e w' => ∃ v2_ : Value,e = .returned (.agg #[.int .i64 r1,.int .i64 r2,v2_]) ∧ Kd.Q k107 107 w' w.heap.size (fun _ => True) v2_ r3 ∧ IsS102 w0 w' g s0_0 r4 r5 ∧ Below w0.heap.size w0 w' ∧ KeepBut w w' g none := by
 have hu58 := Try.underlying58
 have HI0 := Aside0.mk hI
 have HK := Aside0.mk (KeepBut.refl w g none)
 have HL := Aside0.mk hB.size
 have HB := Aside0.mk hB
 clear hI hB
 unfold spec_l04Any.f at h
 obtain ⟨⟨q,i1,g1⟩,h1,h⟩ := Option.bind_eq_some_iff.mp h
 obtain ⟨⟨a,b,p,i2,g2⟩,h2,h⟩ := Option.bind_eq_some_iff.mp h
 dsimp only at h1 h2 h
 have H1 := Aside0.mk h1
 have H2 := Aside0.mk h2
 have H := Aside0.mk h
 clear h h1 h2
 go_enter Try.func93,Try.ntmps93
 go_upto_region 3 with (first
  | ((with_reducible refine gate_dst (N := 2) rfl ?_); refine box_event ?hg (N := 2) ?hd (cs := #[.int .i64 0,.int .i64 0,.slice none 0 0]) (t := 58) ?hr ?_; (case hd => rfl); (case hg => rfl); (case hr => first | (go_simp; done) | (go_simp; rfl)); intro ga hg w1 hbox hb; have n0_ := Aside0.mk (IsS102.below HI0.out hb); have n1_ := Aside0.mk (KeepBut.trans HK.out (KeepBut.of_below hb g none) (.inl rfl)); have n2_ := Aside0.mk (below_step HB.out hb); have n4_ := Aside0.mk (show w.heap.size ≤ ga by rw [hg]; exact keep_size HK.out); have n6_ := Aside0.mk (show g ≠ ga by rw [hg]; exact Nat.ne_of_lt (IsS102.lt HI0.out)); clear HI0 HK HB; have HI0 := n0_; have HK := n1_; have HB := n2_; have BA := Aside0.mk hbox; have GA := n4_; have NA := n6_; clear n0_ n1_ n2_ n4_ n6_ hb hbox hg)
  | (go_at_call 78; (with_reducible refine (spec_l01Below.calls g s0_0 s0_1 s0_2 10 q i1 g1 w0 _ HI0.out HB.out H1.out).mono ?_); rintro e w2 ⟨rfl,hi,hb,hk⟩; have n0_ := Aside0.mk (KeepBut.blk hk BA.out NA.out.symm (by simp)); have n1_ := Aside0.mk (KeepBut.trans HK.out hk (.inl rfl)); clear BA HK HB HI0; have BA := n0_; have HK := n1_; have HB := Aside0.mk hb; have HI0 := Aside0.mk hi; clear n0_ n1_ hb hi hk)
  | (go_at_call 95; (with_reducible refine (spec_l04Call.calls k g s0_0 i1 g1 a b p i2 g2 w0 _ HI0.out HB.out H2.out).mono ?_); rintro e w3 ⟨v2,rfl,ho0,hi,hb,hk⟩; have n0_ := Aside0.mk (KeepBut.blk hk BA.out NA.out.symm (by simp)); have n1_ := Aside0.mk (Kd.R_lower ho0 (keep_size HK.out)); have n2_ := Aside0.mk (KeepBut.trans HK.out hk (.inl rfl)); clear BA HK HB HI0; have BA := n0_; have HO := n1_; have HK := n2_; have HB := Aside0.mk hb; have HI0 := Aside0.mk hi; clear n0_ n1_ n2_ hb hi hk ho0; obtain ⟨Ao,co,eo⟩ := Kd.R_slice HO.out; subst eo)
  | ((with_reducible refine gate_dst (N := 4) rfl ?_); refine box_event ?hg (N := 4) ?hd (cs := #[.int .i64 0,.int .i64 0,.slice none 0 0]) (t := 58) ?hr ?_; (case hd => rfl); (case hg => rfl); (case hr => first | (go_simp; done) | (go_simp; rfl)); intro gb hg w4 hbox hb; have BB := Aside0.mk (And.intro hg (And.intro hbox hb)); clear hg hbox hb; obtain ⟨⟨cb0,zb0⟩,⟨cb1,zb1⟩,cb2,zb2⟩ := spec_l04Any.cells BB.out.2.1))
 have hb := (((BB.out.2.2.setCell (p := ⟨gb,0,none⟩) (Nat.le_of_eq BB.out.1.symm) (.int .i64 a)).setCell (p := ⟨gb,1,none⟩) (Nat.le_of_eq BB.out.1.symm) (.int .i64 b)).setCell (p := ⟨gb,2,none⟩) (Nat.le_of_eq BB.out.1.symm) (.slice Ao p.length co))
 have BG : Aside0 (((((w4.setCell ⟨gb,0,none⟩ (.int .i64 a)).setCell ⟨gb,1,none⟩ (.int .i64 b)).setCell ⟨gb,2,none⟩ (.slice Ao p.length co))).heap[gb]? = some (.cells #[.int .i64 a,.int .i64 b,.slice Ao p.length co] 58 (0,0))) := ⟨blk_set (blk_set (blk_set BB.out.2.1 0 (.int .i64 a)) 1 (.int .i64 b)) 2 (.slice Ao p.length co)⟩
 have GB : Aside0 (w.heap.size ≤ gb) := ⟨by rw [BB.out.1]; exact keep_size HK.out⟩
 have NB : Aside0 (g ≠ gb) := ⟨by rw [BB.out.1]; exact Nat.ne_of_lt (IsS102.lt HI0.out)⟩
 have NAB : Aside0 (ga ≠ gb) := ⟨by rw [BB.out.1]; exact Nat.ne_of_lt (blk_lt BA.out)⟩
 have n0_ := Aside0.mk (IsS102.below HI0.out hb)
 have n1_ := Aside0.mk (KeepBut.trans HK.out (KeepBut.of_below hb g none) (.inl rfl))
 have n2_ := Aside0.mk (below_step HB.out hb)
 have n3_ := Aside0.mk (blk_below BA.out hb)
 have n4_ := Aside0.mk (Kd.R_below HO.out hb)
 clear HI0 HK HB BA HO hb BB cb0 zb0 cb1 zb1 cb2 zb2
 have HI0 := n0_
 have HK := n1_
 have HB := n2_
 have BA := n3_
 have HO := n4_
 clear n0_ n1_ n2_ n3_ n4_
 generalize ((w4.setCell ⟨gb,0,none⟩ (.int .i64 a)).setCell ⟨gb,1,none⟩ (.int .i64 b)).setCell ⟨gb,2,none⟩ (.slice Ao p.length co) = W at HI0 HK HB BA HO BG ⊢
 have hnb := NAB.out
 have hnc := NAB.out.symm
 have hnd := NA.out
 have hne := NA.out.symm
 have hnf := NB.out
 have hng := NB.out.symm
 have A0 := Nat.le_trans HL.out GA.out
 have B0 := Nat.le_trans HL.out GB.out
 have h := H.out
 clear H
 by_cases q0 : q = 0
 ·
  rw [if_pos q0] at h
  obtain ⟨⟨x,i3,g3⟩,h3,h⟩ := Option.bind_eq_some_iff.mp h
  simp only [Option.some.injEq,Prod.mk.injEq] at h
  obtain ⟨rfl,rfl,rfl,rfl,rfl⟩ := h
  obtain ⟨y,ey⟩ : ∃ y,([(-1),4294967296] : List Int) = y := ⟨_,rfl⟩
  rw [ey] at h3
  have H3 := Aside0.mk h3
  have EY := Aside0.mk ey
  clear h3 ey
  have b0 : (q == 0) = true := beq_iff_eq.mpr q0
  go_wp2_with (first
   | ((with_reducible refine gate_dst (N := 13) rfl ?_); refine Kd.R_lit (Kd.int .i64) _ 3 ?hg (N := 13) ?hd (xs := ([(-1),4294967296] : List Int)) (inner := [.int .i64 (-1),.int .i64 4294967296]) (ok := fun _ => True) (okp := fun _ => True) ?hr ?hp (fun _ hk => hk) trivial (Below.refl _ _) (Nat.le_refl _) (by simp) ?_; (case hd => rfl); (case hg => rfl); (case hr => first | (go_simp; done) | (go_simp; rfl)); (case hp => exact (Reps.one (show Kd.M (Kd.int .i64) _ _ _ (-1) [.int .i64 (-1)] from rfl) (Reps.one (show Kd.M (Kd.int .i64) _ _ _ 4294967296 [.int .i64 4294967296] from rfl) (Reps.none _ _)))); intro v1 w5 ho hb hg_ hnew_; clear hg_ hnew_; have n0_ := Aside0.mk (Kd.R_below HO.out hb); have n1_ := Aside0.mk (IsS102.below HI0.out hb); have n2_ := Aside0.mk (KeepBut.trans HK.out (KeepBut.of_below hb g none) (.inl rfl)); have n3_ := Aside0.mk (below_step HB.out hb); have n4_ := Aside0.mk (blk_below BA.out hb); have n5_ := Aside0.mk (blk_below BG.out hb); clear HO HI0 HK HB BA BG; have HO := n0_; have HI0 := n1_; have HK := n2_; have HB := n3_; have BA := n4_; have BG := n5_; clear n0_ n1_ n2_ n3_ n4_ n5_ hb; rw [EY.out] at ho; have HX := Aside0.mk ho; clear ho; obtain ⟨Ax,cx,ex⟩ := Kd.R_slice HX.out; subst ex)
   | (go_at_call 97; (with_reducible refine (spec_l01PickInt.calls g s0_0 i2 g2 Ax cx y x i3 g3 w0 _ HI0.out HB.out (Kd.R_reads' HX.out).2.2 (Kd.R_reads' HX.out).2.1 (far_slice (IsS102.own_ne HI0.out HX.out (by decide))) H3.out).mono ?_); rintro e w6 ⟨rfl,hi,hb,hk⟩; have n0_ := Aside0.mk (KeepBut.blk hk BA.out NA.out.symm (by simp)); have n1_ := Aside0.mk (KeepBut.blk hk BG.out NB.out.symm (by simp)); have n2_ := Aside0.mk (Kd.R_mono (Kd.R_keep (IsS102.apart HI0.out HO.out (by decide)) hk (fun _ h => h.2)) (fun _ h => h.1)); have n3_ := Aside0.mk (KeepBut.trans HK.out hk (.inl rfl)); clear BA BG HO HK HB HI0 HX; have BA := n0_; have BG := n1_; have HO := n2_; have HK := n3_; have HB := Aside0.mk hb; have HI0 := Aside0.mk hi; clear n0_ n1_ n2_ n3_ hb hi hk; obtain ⟨⟨cb0,zb0⟩,⟨cb1,zb1⟩,cb2,zb2⟩ := spec_l04Any.cells BG.out; obtain ⟨⟨ca0,za0⟩,⟨ca1,za1⟩,ca2,za2⟩ := spec_l04Any.cells BA.out))
  obtain ⟨f1,f2,f3,f4,f5⟩ := spec_l04Any.put HI0.out (Kd.Q_of_R HO.out) BA.out BG.out HB.out HK.out B0 GB.out NB.out NAB.out 1 (.int .i64 x)
  have fn := spec_l04Any.fin a x f1 f2 f3 f4 f5 A0 GA.out NA.out
  refine bodyPost_ret (results_cell_row rfl _ _ ga 58 _ (0,0) _ rfl fn.1 Try.underlying58 rfl (by kernel_rfl)) rfl ?_
  exact ⟨_,rfl,fn.2⟩
 ·
  rw [if_neg q0] at h
  have b0 : (q == 0) = false := beq_eq_false_iff_ne.mpr q0
  obtain ⟨⟨cb0,zb0⟩,⟨cb1,zb1⟩,cb2,zb2⟩ := spec_l04Any.cells BG.out
  obtain ⟨⟨ca0,za0⟩,⟨ca1,za1⟩,ca2,za2⟩ := spec_l04Any.cells BA.out
  by_cases q1 : q = 1
  ·
   rw [if_pos q1] at h
   by_cases c1 : 1 ≤ (p.length : Int)
   ·
    rw [if_pos c1] at h
    obtain ⟨y,ey⟩ : ∃ y,p.drop (1 : Int).toNat = y := ⟨_,rfl⟩
    rw [ey] at h
    simp only [Option.some.injEq,Prod.mk.injEq] at h
    obtain ⟨rfl,rfl,rfl,rfl,rfl⟩ := h
    have b1 : (q == 1) = true := beq_iff_eq.mpr q1
    obtain ⟨i0,hi0,_,hsz,_⟩ := info_parts info107
    have hcut := cut_from (P := Try.prog) 56 107 .i64 Try.underlying56 hi0 2 hsz Ao p.length co 1 (by omega) c1
    have hr := Kd.Q_drop (k := (1 : Int).toNat) (Kd.Q_of_R HO.out) (by omega)
    obtain ⟨A1,hA1⟩ : ∃ A1,A1 = (if co = (1 : Int).toNat then Ao else (Ao : Option Addr).map (·.add ((1 : Int).toNat * 2))) := ⟨_,rfl⟩
    obtain ⟨c2,hc2⟩ : ∃ c2,c2 = co - (1 : Int).toNat := ⟨_,rfl⟩
    have hy : (p.drop (1 : Int).toNat).length = p.length - (1 : Int).toNat := List.length_drop
    rw [← hy,← hA1,← hc2] at hcut
    replace hr : Kd.Q k107 107 W w.heap.size (fun _ => True) (.slice A1 (p.drop (1 : Int).toNat).length c2) (p.drop (1 : Int).toNat) := (by rw [hA1,hc2,hy]; exact hr)
    have HQ := Aside0.mk hr
    have c1t := eq_true c1
    rw [ey] at HQ hcut
    clear hr hy hi0 hsz hA1 hc2 ey
    go_wp2
    obtain ⟨f1,f2,f3,f4,f5⟩ := spec_l04Any.put HI0.out HQ.out BA.out BG.out HB.out HK.out B0 GB.out NB.out NAB.out 2 (.slice A1 y.length c2)
    have fn := spec_l04Any.fin a b f1 f2 f3 f4 f5 A0 GA.out NA.out
    refine bodyPost_ret (results_cell_row rfl _ _ ga 58 _ (0,0) _ rfl fn.1 Try.underlying58 rfl (by kernel_rfl)) rfl ?_
    exact ⟨_,rfl,fn.2⟩
   ·
    rw [if_neg c1] at h
    cases h
  ·
   rw [if_neg q1] at h
   have b1 : (q == 1) = false := beq_eq_false_iff_ne.mpr q1
   by_cases q2 : q = 2
   ·
    rw [if_pos q2] at h
    by_cases c1 : 1 < (p.length : Int)
    ·
     rw [if_pos c1] at h
     simp only [Option.some.injEq,Prod.mk.injEq] at h
     obtain ⟨rfl,rfl,rfl,rfl,rfl⟩ := h
     have b2 : (q == 2) = true := beq_iff_eq.mpr q2
     have qi : (1 < p.length) = True := eq_true (by omega)
     obtain ⟨go,co',eo,gb_,gl_,cl_,HG⟩ := Kd.R_form HO.out (by omega)
     first | cases eo | (injection eo with ea_ en_ ec_; (first | subst ea_ | (injection ea_ with ea_; subst ea_)); subst ec_; clear en_)
     have HGB := Aside0.mk gb_
     clear gb_ gl_ HG
     obtain ⟨ce,hcl,hM,hcc,hfr⟩ := Kd.R_elem HO.out z107 (1 : Int) (by omega) c1
     obtain rfl := k107_openM hM
     have HP := Kd.R_seg HO.out (1 : Int) (by omega) c1 (seg := [.int .i64 (-1)]) (j := 0) hcl hcc (show 1 ≤ 2 from by decide) (x' := (⟨(-1),(rd_T107 p 1).f1⟩ : S107)) (k107_mkM _ _ _ (⟨(-1),(rd_T107 p 1).f1⟩ : S107)) (fun _ hk => hk)
     have hx0 : W.cell? ⟨go,2,none⟩ = some (.int .i64 (rd_T107 p 1).f0) := hcc 0 _ rfl
     have hx1 : W.cell? ⟨go,3,none⟩ = some (.int .i64 (rd_T107 p 1).f1) := hcc 1 _ rfl
     have hf0 : W.frozen? ⟨go,2,none⟩ = false := hfr 0
     have hf1 : W.frozen? ⟨go,3,none⟩ = false := hfr 1
     have HPA := Aside0.mk HP
     have c1t := eq_true c1
     clear HP hcl hcc hfr hM
     go_wp2_with ((with_reducible refine gate_store (t := 3) (p := 27) rfl ?_); refine store_event (t := 3) (p := 27) (v := ?vo) (w1 := (W.setCell ⟨go,2,none⟩ (.int .i64 (-1)))) ?hg ?ho ?hn ?hr ?_; (case ho => rfl); (case hg => rfl); (case hn => rfl); (case hr => first | (go_simp; done) | (go_simp; rfl)); intro w7 hw; have hg : W.grownBy w7 (some go) := (by rw [hw]; exact HPA.out.2); have hp_ : Kd.R k107 107 w7 w.heap.size (fun _ => True) (.slice (some ⟨go,0,none⟩) p.length co) (p.set (1 : Int).toNat ⟨(-1),(rd_T107 p 1).f1⟩) := (by rw [hw]; exact HPA.out.1); have n0_ := Aside0.mk (IsS102.grown HI0.out hg (IsS102.own_ne HI0.out HO.out (by decide))); have n1_ := Aside0.mk (blk_grown BA.out hg (Kd.R_ne HO.out BA.out (by decide))); have n2_ := Aside0.mk (blk_grown BG.out hg (Kd.R_ne HO.out BG.out (by decide))); have n4_ : Aside0 (Below w0.heap.size w0 w7) := ⟨by rw [hw]; exact below_set HB.out (Nat.le_trans HL.out HGB.out)⟩; have n5_ := Aside0.mk (KeepBut.trans HK.out (KeepBut.of_grown hg g) (Kd.R_base2 HO.out)); clear HI0 BA BG HO HB HK HPA cb0 zb0 cb1 zb1 cb2 zb2 ca0 za0 ca1 za1 ca2 za2 hx0 hx1 hf0 hf1; have HI0 := n0_; have BA := n1_; have BG := n2_; have HO := Aside0.mk hp_; have HB := n4_; have HK := n5_; clear n0_ n1_ n2_ n4_ n5_ hg hw hp_; obtain ⟨⟨cb0,zb0⟩,⟨cb1,zb1⟩,cb2,zb2⟩ := spec_l04Any.cells BG.out; obtain ⟨⟨ca0,za0⟩,⟨ca1,za1⟩,ca2,za2⟩ := spec_l04Any.cells BA.out)
     have fn := spec_l04Any.fin a b HI0.out (Kd.Q_of_R HO.out) BA.out HB.out HK.out A0 GA.out NA.out
     refine bodyPost_ret (results_cell_row rfl _ _ ga 58 _ (0,0) _ rfl fn.1 Try.underlying58 rfl (by kernel_rfl)) rfl ?_
     exact ⟨_,rfl,fn.2⟩
    ·
     rw [if_neg c1] at h
     cases h
   ·
    rw [if_neg q2] at h
    have b2 : (q == 2) = false := beq_eq_false_iff_ne.mpr q2
    by_cases q3 : q = 3
    ·
     rw [if_pos q3] at h
     simp only [Option.some.injEq,Prod.mk.injEq] at h
     obtain ⟨rfl,rfl,rfl,rfl,rfl⟩ := h
     have b3 : (q == 3) = true := beq_iff_eq.mpr q3
     go_wp2
     obtain ⟨f1,f2,f3,f4,f5⟩ := spec_l04Any.put HI0.out (Kd.Q_of_R HO.out) BA.out BG.out HB.out HK.out B0 GB.out NB.out NAB.out 0 (.int .i64 4294967296)
     have fn := spec_l04Any.fin 4294967296 b f1 f2 f3 f4 f5 A0 GA.out NA.out
     refine bodyPost_ret (results_cell_row rfl _ _ ga 58 _ (0,0) _ rfl fn.1 Try.underlying58 rfl (by kernel_rfl)) rfl ?_
     exact ⟨_,rfl,fn.2⟩
    ·
     rw [if_neg q3] at h
     simp only [Option.some.injEq,Prod.mk.injEq] at h
     obtain ⟨rfl,rfl,rfl,rfl,rfl⟩ := h
     have b3 : (q == 3) = false := beq_eq_false_iff_ne.mpr q3
     go_wp2
     have fn := spec_l04Any.fin a b HI0.out (Kd.Q_of_R HO.out) BA.out HB.out HK.out A0 GA.out NA.out
     refine bodyPost_ret (results_cell_row rfl _ _ ga 58 _ (0,0) _ rfl fn.1 Try.underlying58 rfl (by kernel_rfl)) rfl ?_
     exact ⟨_,rfl,fn.2⟩

/-! ### spec_DrawRun: function 46 -/
def spec_DrawRun.f (k : Nat) (l0 : List Int) : Option ((List (S25)) × Int × Int × (List (S107))) := (spec_l01New.f k l0).bind fun bt371 => ((spec_l04Any.f k bt371.1 bt371.2.1 bt371.2.2).bind fun bt375 => ((spec_l06Any.f k bt371.1 bt375.2.2.2.1 bt375.2.2.2.2).bind fun bt383 => (some (bt383.1,bt375.1,bt375.2.1,bt375.2.2.1))))
theorem spec_DrawRun.mono : ∀ a0 k,LeO (spec_DrawRun.f k a0) (spec_DrawRun.f (k + 1) a0) := by
 intro a0 k
 unfold spec_DrawRun.f
 repeat' first
   | (with_reducible exact spec_l01New.mono _ _)
   | (with_reducible exact spec_l04Any.mono _ _ _ _)
   | (with_reducible exact spec_l06Any.mono _ _ _ _)
   | (with_reducible exact LeO.refl _)
   | (with_reducible exact LeO.none _)
   | (with_reducible refine LeO.ite ?_ ?_)
   | (with_reducible refine LeO.bind ?_ (fun _ => ?_))
   | exact spec_l01New.mono _ _
   | exact spec_l04Any.mono _ _ _ _
   | exact spec_l06Any.mono _ _ _ _
   | exact LeO.none _
   | refine LeO.ite ?_ ?_
   | refine LeO.bind ?_ (fun _ => ?_)
set_option maxHeartbeats 8000000 in
set_option maxRecDepth 100000 in
theorem spec_DrawRun.calls (k : Nat) (A0 : Option Addr) (c0 : Nat) (l0 : List Int) (r1 : List (S25)) (r2 : Int) (r3 : Int) (r4 : List (S107)) (w : World) (hr0 : Kd.C (Kd.int .u8) w A0 l0.length l0) (hc0 : l0.length ≤ c0) (h : spec_DrawRun.f k l0 = some (r1,r2,r3,r4)) :
  Calls Try.prog 46 #[.slice A0 l0.length c0] w fun e w' => ∃ v0_ v3_ : Value,e = .returned (.tuple #[v0_,.agg #[.int .i64 r2,.int .i64 r3,v3_]]) ∧ Kd.R k25 25 w' w.heap.size (fun _ => True) v0_ r1 ∧ Kd.Q k107 107 w' w.heap.size (fun _ => True) v3_ r4 ∧ Below w.heap.size w w' := by
 have hu58 := Try.underlying58
 have HR0 := Aside0.mk hr0
 have HC0 := Aside0.mk hc0
 clear hr0 hc0
 have HB := Aside0.mk (Below.refl w.heap.size w)
 have H : ((spec_l01New.f k l0).bind fun bt371 => ((spec_l04Any.f k bt371.1 bt371.2.1 bt371.2.2).bind fun bt375 => ((spec_l06Any.f k bt371.1 bt375.2.2.2.1 bt375.2.2.2.2).bind fun bt383 => (some (bt383.1,bt375.1,bt375.2.1,bt375.2.2.1))))) = some (r1,r2,r3,r4) := h
 clear h
 replace H := Option.bind_eq_some_iff.mp H
 obtain ⟨⟨t371,t372,t373⟩,A20,H⟩ := H
 replace H : ((spec_l04Any.f k t371 t372 t373).bind fun bt375 => ((spec_l06Any.f k t371 bt375.2.2.2.1 bt375.2.2.2.2).bind fun bt383 => (some (bt383.1,bt375.1,bt375.2.1,bt375.2.2.1)))) = some (r1,r2,r3,r4) := H
 have A2 := Aside0.mk A20
 clear A20
 replace H := Option.bind_eq_some_iff.mp H
 obtain ⟨⟨t375,t376,t377,t380,t381⟩,A30,H⟩ := H
 replace H : ((spec_l06Any.f k t371 t380 t381).bind fun bt383 => (some (bt383.1,t375,t376,t377))) = some (r1,r2,r3,r4) := H
 have A3 := Aside0.mk A30
 clear A30
 replace H := Option.bind_eq_some_iff.mp H
 obtain ⟨⟨t383,t386,t387⟩,A40,H⟩ := H
 replace H : (some (t383,t375,t376,t377)) = some (r1,r2,r3,r4) := H
 have A4 := Aside0.mk A40
 clear A40
 simp only [Option.some.injEq,Prod.mk.injEq] at H
 obtain ⟨rfl,rfl,rfl,rfl⟩ := H
 go_enter Try.func46,Try.ntmps46
 try go_wp2_with (first | ((with_reducible refine gate_dst (N := 3) rfl ?_); refine box_event ?hg (N := 3) ?hd (cs := #[.int .i64 0,.int .i64 0,.slice none 0 0]) (t := 58) ?hr ?_; (case hd => rfl); (case hg => rfl); (case hr => first | (go_simp; done) | (go_simp; rfl)); intro gb370 hg w5 hbox hb; have n0_ := Aside0.mk (below_step (by repeat (first | (with_reducible first | exact HB.out | apply below_alloc | apply pw_below_drewN | apply below_drew1) | exact HB.out)) hb); have n1_ := Aside0.mk (hbox); have n2_ := Aside0.mk ((by rw [hg]; exact (below_size (by repeat (first | (with_reducible first | exact HB.out | apply below_alloc | apply pw_below_drewN | apply below_drew1) | exact HB.out))) : w.heap.size ≤ gb370)); have n3_ := Aside0.mk ((by rw [hg]; exact (below_size (by repeat (first | (with_reducible first | exact HB.out | apply below_alloc | apply pw_below_drewN | apply below_drew1) | exact HB.out))) : w.heap.size ≤ gb370)); clear HB; have HB := n0_; have BK370 := n1_; have GW370 := n2_; have GE370 := n3_; clear n0_ n1_ n2_ n3_; clear hb hbox hg) | ((with_reducible refine gate_callee (f := 77) rfl ?_); refine goesL_ (some 7) rfl rfl Try.func77 (by kernel_rfl) rfl #[.slice A0 l0.length c0] rfl (by (try simp only [List.map_toArray,List.map_cons,List.map_nil]); first | done | rfl | (simp only [List.length_drop,List.length_take]; rfl)) ?_; (with_reducible refine (spec_l01New.calls k _ _ l0 t371 t372 t373 w _ ?side1 ?side2 ?side3 A2.out).mono ?_); (case side1 => repeat (first | (with_reducible first | exact HB.out | apply below_alloc | apply pw_below_drewN | apply below_drew1 | refine below_set ?_ GE370.out) | exact HB.out)); (case side2 => exact HR0.out); (case side3 => exact HC0.out); rintro e w6 ⟨g374,rfl,hi,hb,hb2⟩; refine ⟨_,rfl,?_⟩; have n0_ := Aside0.mk (blk_below (g := gb370) (o := .cells #[.int .i64 0,.int .i64 0,.slice none 0 0] 58 (0,0)) (by (with_reducible repeat (first | refine blk_drewN ?_ _ | refine blk_drew ?_ | refine blk_alloc ?_ _)); exact BK370.out) hb2); have n1_ := Aside0.mk (hb); have n2_ := Aside0.mk (hi); have n3_ := Aside0.mk (IsS102.ne_blk hi (blk_below (g := gb370) (o := .cells #[.int .i64 0,.int .i64 0,.slice none 0 0] 58 (0,0)) (by (with_reducible repeat (first | refine blk_drewN ?_ _ | refine blk_drew ?_ | refine blk_alloc ?_ _)); exact BK370.out) hb2) (by decide)); have n4_ := Aside0.mk (Ne.symm (IsS102.ne_blk hi (blk_below (g := gb370) (o := .cells #[.int .i64 0,.int .i64 0,.slice none 0 0] 58 (0,0)) (by (with_reducible repeat (first | refine blk_drewN ?_ _ | refine blk_drew ?_ | refine blk_alloc ?_ _)); exact BK370.out) hb2) (by decide))); clear BK370; clear HB; have BK370 := n0_; have HB := n1_; have HI374 := n2_; have NB374_370 := n3_; have NB370_374 := n4_; clear n0_ n1_ n2_ n3_ n4_; (try clear hb); (try clear hb2); (try clear hk); (try clear hi)) | ((with_reducible refine gate_callee (f := 93) rfl ?_); refine goesL_ (some 9) rfl rfl Try.func93 (by kernel_rfl) rfl #[.pointer (some ⟨g374,0,none⟩)] rfl (by (try simp only [List.map_toArray,List.map_cons,List.map_nil]); first | done | rfl | (simp only [List.length_drop,List.length_take]; rfl)) ?_; (with_reducible refine (spec_l04Any.calls k g374 t371 t372 t373 t375 t376 t377 t380 t381 w _ ?side1 ?side2 A3.out).mono ?_); (case side1 => repeat (first | (with_reducible first | exact HI374.out | apply IsS102.alloc | apply IsS102.drewN | apply IsS102.drew | apply IsS102.set_1 | apply IsS102.set_2 | refine IsS102.far ?_ NB374_370.out _) | exact HI374.out)); (case side2 => repeat (first | (with_reducible first | exact HB.out | apply below_alloc | apply pw_below_drewN | apply below_drew1 | refine below_set ?_ (IsS102.ge HI374.out) | refine below_set ?_ GE370.out) | exact HB.out)); rintro e w7 ⟨v378,rfl,ho0,hi,hb,hk⟩; refine ⟨_,rfl,?_⟩; have n0_ := Aside0.mk (KeepBut.blk hk (g' := gb370) (o := .cells #[.int .i64 0,.int .i64 0,.slice none 0 0] 58 (0,0)) (by (with_reducible repeat (first | refine blk_drewN ?_ _ | refine blk_drew ?_ | refine blk_alloc ?_ _)); exact BK370.out) NB370_374.out (by simp)); have n1_ := Aside0.mk (Kd.Q_lower ho0 (below_size (by repeat (first | (with_reducible first | exact HB.out | apply below_alloc | apply pw_below_drewN | apply below_drew1 | refine below_set ?_ (IsS102.ge HI374.out) | refine below_set ?_ GE370.out) | exact HB.out)))); have n2_ := Aside0.mk (hb); have n3_ := Aside0.mk (hi); clear BK370; clear HB; clear HI374; have BK370 := n0_; have HO379 := n1_; have HB := n2_; have HI374 := n3_; clear n0_ n1_ n2_ n3_; (try clear hb); (try clear hb2); (try clear hk); (try clear hi); (try clear ho0)) | ((with_reducible refine gate_dst (N := 5) rfl ?_); refine box_event ?hg (N := 5) ?hd (cs := #[.int .i64 0,.int .i64 0,.slice none 0 0]) (t := 58) ?hr ?_; (case hd => rfl); (case hg => rfl); (case hr => first | (go_simp; done) | (go_simp; rfl)); intro gb382 hg w8 hbox hb; have n0_ := Aside0.mk (Kd.Q_below (by (with_reducible repeat (first | apply Kd.Q_alloc | apply Kd.Q_drewN | apply Kd.Q_drew)); exact HO379.out) hb); have n1_ := Aside0.mk (blk_below (g := gb370) (o := .cells #[.int .i64 0,.int .i64 0,.slice none 0 0] 58 (0,0)) (by (with_reducible repeat (first | refine blk_drewN ?_ _ | refine blk_drew ?_ | refine blk_alloc ?_ _)); exact BK370.out) hb); have n2_ := Aside0.mk (IsS102.below (by repeat (first | (with_reducible first | exact HI374.out | apply IsS102.alloc | apply IsS102.drewN | apply IsS102.drew | apply IsS102.set_1 | apply IsS102.set_2 | refine IsS102.far ?_ NB374_370.out _) | exact HI374.out)) hb); have n3_ := Aside0.mk (below_step (by repeat (first | (with_reducible first | exact HB.out | apply below_alloc | apply pw_below_drewN | apply below_drew1 | refine below_set ?_ (IsS102.ge HI374.out) | refine below_set ?_ GE370.out) | exact HB.out)) hb); have n4_ := Aside0.mk (hbox); have n5_ := Aside0.mk ((by rw [hg]; exact (below_size (by repeat (first | (with_reducible first | exact HB.out | apply below_alloc | apply pw_below_drewN | apply below_drew1 | refine below_set ?_ (IsS102.ge HI374.out) | refine below_set ?_ GE370.out) | exact HB.out))) : w.heap.size ≤ gb382)); have n6_ := Aside0.mk ((by rw [hg]; exact (below_size (by repeat (first | (with_reducible first | exact HB.out | apply below_alloc | apply pw_below_drewN | apply below_drew1 | refine below_set ?_ (IsS102.ge HI374.out) | refine below_set ?_ GE370.out) | exact HB.out))) : w.heap.size ≤ gb382)); have n7_ := Aside0.mk ((by rw [hg]; exact Nat.ne_of_lt (blk_lt (g := gb370) (o := .cells #[.int .i64 0,.int .i64 0,.slice none 0 0] 58 (0,0)) (by (with_reducible repeat (first | refine blk_drewN ?_ _ | refine blk_drew ?_ | refine blk_alloc ?_ _)); exact BK370.out)) : gb370 ≠ gb382)); have n8_ := Aside0.mk ((by rw [hg]; exact Nat.ne_of_gt (blk_lt (g := gb370) (o := .cells #[.int .i64 0,.int .i64 0,.slice none 0 0] 58 (0,0)) (by (with_reducible repeat (first | refine blk_drewN ?_ _ | refine blk_drew ?_ | refine blk_alloc ?_ _)); exact BK370.out)) : gb382 ≠ gb370)); have n9_ := Aside0.mk ((by rw [hg]; exact Nat.ne_of_lt (IsS102.lt (show IsS102 w _ g374 t371 t380 t381 from by repeat (first | (with_reducible first | exact HI374.out | apply IsS102.alloc | apply IsS102.drewN | apply IsS102.drew | apply IsS102.set_1 | apply IsS102.set_2 | refine IsS102.far ?_ NB374_370.out _) | exact HI374.out))) : g374 ≠ gb382)); have n10_ := Aside0.mk ((by rw [hg]; exact Nat.ne_of_gt (IsS102.lt (show IsS102 w _ g374 t371 t380 t381 from by repeat (first | (with_reducible first | exact HI374.out | apply IsS102.alloc | apply IsS102.drewN | apply IsS102.drew | apply IsS102.set_1 | apply IsS102.set_2 | refine IsS102.far ?_ NB374_370.out _) | exact HI374.out))) : gb382 ≠ g374)); clear HO379; clear BK370; clear HI374; clear HB; have HO379 := n0_; have BK370 := n1_; have HI374 := n2_; have HB := n3_; have BK382 := n4_; have GW382 := n5_; have GE382 := n6_; have NB370_382 := n7_; have NB382_370 := n8_; have NB374_382 := n9_; have NB382_374 := n10_; clear n0_ n1_ n2_ n3_ n4_ n5_ n6_ n7_ n8_ n9_ n10_; clear hb hbox hg; have hnb9 := NB382_370.out; have hnc9 := NB370_382.out; have hnb10 := NB382_374.out; have hnc10 := NB374_382.out; have hcz11_0 : w8.cell? ⟨gb382,0,none⟩ = some (.int .i64 0) := (blk_cell BK382.out 0).trans rfl; have hcz11_1 : w8.cell? ⟨gb382,1,none⟩ = some (.int .i64 0) := (blk_cell BK382.out 1).trans rfl; have hcz11_2 : w8.cell? ⟨gb382,2,none⟩ = some (.slice none 0 0) := (blk_cell BK382.out 2).trans rfl; have hfz11_0 := blk_frozen BK382.out 0; have hfz11_1 := blk_frozen BK382.out 1; have hfz11_2 := blk_frozen BK382.out 2; obtain ⟨Ao12,co12,eo12,_⟩ := Kd.Q_slice HO379.out; subst eo12))
 have n0_ : Aside0 (Kd.Q k107 107 (((w8.setCell ⟨gb382,0,none⟩ (.int .i64 t375)).setCell ⟨gb382,1,none⟩ (.int .i64 t376)).setCell ⟨gb382,2,none⟩ (.slice Ao12 t377.length co12)) w.heap.size (fun _ => True) (.slice Ao12 t377.length co12) t377) := ⟨by (with_reducible repeat (first | apply Kd.Q_alloc | apply Kd.Q_drewN | apply Kd.Q_drew)); exact Kd.Q_mono (Kd.Q_far (p := ⟨gb382,2,none⟩) (Kd.Q_far (p := ⟨gb382,1,none⟩) (Kd.Q_far (p := ⟨gb382,0,none⟩) (Kd.Q_types HO379.out BK382.out (by decide)) (fun _ hk => hk.2) (.int .i64 t375)) (fun _ hk => hk.2) (.int .i64 t376)) (fun _ hk => hk.2) (.slice Ao12 t377.length co12)) (fun _ hk => trivial)⟩
 have n1_ : Aside0 ((((w8.setCell ⟨gb382,0,none⟩ (.int .i64 t375)).setCell ⟨gb382,1,none⟩ (.int .i64 t376)).setCell ⟨gb382,2,none⟩ (.slice Ao12 t377.length co12)).heap[gb370]? = some (.cells #[.int .i64 0,.int .i64 0,.slice none 0 0] 58 (0,0))) := ⟨by (with_reducible repeat (first | refine blk_drewN ?_ _ | refine blk_drew ?_ | refine blk_alloc ?_ _)); refine blk_far ?_ NB370_382.out _; (with_reducible repeat (first | refine blk_drewN ?_ _ | refine blk_drew ?_ | refine blk_alloc ?_ _)); refine blk_far ?_ NB370_382.out _; (with_reducible repeat (first | refine blk_drewN ?_ _ | refine blk_drew ?_ | refine blk_alloc ?_ _)); refine blk_far ?_ NB370_382.out _; (with_reducible repeat (first | refine blk_drewN ?_ _ | refine blk_drew ?_ | refine blk_alloc ?_ _)); exact BK370.out⟩
 have n2_ : Aside0 ((((w8.setCell ⟨gb382,0,none⟩ (.int .i64 t375)).setCell ⟨gb382,1,none⟩ (.int .i64 t376)).setCell ⟨gb382,2,none⟩ (.slice Ao12 t377.length co12)).heap[gb382]? = some (.cells #[.int .i64 t375,.int .i64 t376,.slice Ao12 t377.length co12] 58 (0,0))) := ⟨by (with_reducible repeat (first | refine blk_drewN ?_ _ | refine blk_drew ?_ | refine blk_alloc ?_ _)); refine blk_put (cs := #[.int .i64 t375,.int .i64 t376,.slice none 0 0]) ?_ 2 _ rfl; (with_reducible repeat (first | refine blk_drewN ?_ _ | refine blk_drew ?_ | refine blk_alloc ?_ _)); refine blk_put (cs := #[.int .i64 t375,.int .i64 0,.slice none 0 0]) ?_ 1 _ rfl; (with_reducible repeat (first | refine blk_drewN ?_ _ | refine blk_drew ?_ | refine blk_alloc ?_ _)); refine blk_put (cs := #[.int .i64 0,.int .i64 0,.slice none 0 0]) ?_ 0 _ rfl; (with_reducible repeat (first | refine blk_drewN ?_ _ | refine blk_drew ?_ | refine blk_alloc ?_ _)); exact BK382.out⟩
 have n3_ : Aside0 (IsS102 w (((w8.setCell ⟨gb382,0,none⟩ (.int .i64 t375)).setCell ⟨gb382,1,none⟩ (.int .i64 t376)).setCell ⟨gb382,2,none⟩ (.slice Ao12 t377.length co12)) g374 t371 t380 t381) := ⟨by repeat (first | (with_reducible first | exact HI374.out | apply IsS102.alloc | apply IsS102.drewN | apply IsS102.drew | apply IsS102.set_1 | apply IsS102.set_2 | refine IsS102.far ?_ NB374_370.out _ | refine IsS102.far ?_ NB374_382.out _) | exact HI374.out)⟩
 have n4_ : Aside0 (Below w.heap.size w (((w8.setCell ⟨gb382,0,none⟩ (.int .i64 t375)).setCell ⟨gb382,1,none⟩ (.int .i64 t376)).setCell ⟨gb382,2,none⟩ (.slice Ao12 t377.length co12))) := ⟨by repeat (first | (with_reducible first | exact HB.out | apply below_alloc | apply pw_below_drewN | apply below_drew1 | refine below_set ?_ (IsS102.ge HI374.out) | refine below_set ?_ GE370.out | refine below_set ?_ GE382.out) | exact HB.out)⟩
 (try clear HO379)
 (try clear BK370)
 (try clear BK382)
 (try clear HI374)
 (try clear HB)
 generalize (((w8.setCell ⟨gb382,0,none⟩ (.int .i64 t375)).setCell ⟨gb382,1,none⟩ (.int .i64 t376)).setCell ⟨gb382,2,none⟩ (.slice Ao12 t377.length co12)) = w13 at n0_ n1_ n2_ n3_ n4_ ⊢
 have HO379 := n0_
 have BK370 := n1_
 have BK382 := n2_
 have HI374 := n3_
 have HB := n4_
 clear n0_ n1_ n2_ n3_ n4_
 have n0_ := Aside0.mk (Kd.Q_drew HO379.out)
 have n1_ := Aside0.mk (blk_drew BK370.out)
 have n2_ := Aside0.mk (blk_drew BK382.out)
 have n3_ := Aside0.mk (IsS102.drew HI374.out)
 have n4_ := Aside0.mk (below_drew1 HB.out)
 clear HO379
 clear BK370
 clear BK382
 clear HI374
 clear HB
 have HO379 := n0_
 have BK370 := n1_
 have BK382 := n2_
 have HI374 := n3_
 have HB := n4_
 clear n0_ n1_ n2_ n3_ n4_
 refine start_ (n := 5) (S := fun w' => w'.cell? ⟨gb382,0,none⟩ = some (.int .i64 t375) ∧ w'.cell? ⟨gb382,1,none⟩ = some (.int .i64 t376) ∧ w'.cell? ⟨gb382,2,none⟩ = some (.slice Ao12 t377.length co12)) (ds := []) #[false,false,false,false,false] (by kernel_rfl) rfl rfl ⟨(blk_cell BK382.out 0).trans rfl,(blk_cell BK382.out 1).trans rfl,(blk_cell BK382.out 2).trans rfl⟩ (fun hHeld => ?_)
 generalize w13.drew = w14 at HO379 BK370 BK382 HI374 HB hHeld ⊢
 refine pure_ (i := 0) (N := some 10) (v := ?_) (a' := ?_) #[true,false,false,false,false] rfl rfl (by kernel_rfl) (fun _ _ _ h => h) (Or.inl ⟨by rfl,?_⟩) ?_ ?_
 rotate_left
 ·
  intro w'
  go_simp
  with_reducible rfl
 rotate_left
 ·
  simp only [Act.put,List.setIfInBounds_toArray,List.set_cons_zero,List.set_cons_succ,i64_w,i32_w]
  rfl
 refine take_ (i := 2) (N := some 12) (v := ?_) (a' := ?_) #[true,false,true,false,false] rfl rfl (by kernel_rfl) (fun _ _ _ h => h) (Or.inl ⟨by rfl,?_⟩) hHeld ?_ ?_
 rotate_left
 ·
  rintro w' ⟨s0,s1,s2⟩
  go_simp
  with_reducible rfl
 rotate_left
 ·
  simp only [Act.put,List.setIfInBounds_toArray,List.set_cons_zero,List.set_cons_succ,i64_w,i32_w]
  rfl
 refine one_ (i := 1) (N := some 11) #[true,true,true,false,false] rfl rfl (by kernel_rfl) (by decide) (fun K hK => ?_)
 refine goes_ Try.func79 (by kernel_rfl) rfl #[.pointer (some ⟨g374,0,none⟩)] (by rfl) rfl rfl (by (try simp only [List.map_toArray,List.map_cons,List.map_nil]); first | done | rfl | (simp only [List.length_drop,List.length_take]; rfl)) ?_
 with_reducible refine (spec_l06Any.calls k g374 t371 t380 t381 t383 t386 t387 w _ ?side1 ?side2 A4.out).mono ?_
 (case side1 => repeat (first | (with_reducible first | exact HI374.out | apply IsS102.alloc | apply IsS102.drewN | apply IsS102.drew | apply IsS102.set_1 | apply IsS102.set_2 | refine IsS102.far ?_ NB374_370.out _ | refine IsS102.far ?_ NB374_382.out _) | exact HI374.out))
 (case side2 => repeat (first | (with_reducible first | exact HB.out | apply below_alloc | apply pw_below_drewN | apply below_drew1 | refine below_set ?_ (IsS102.ge HI374.out) | refine below_set ?_ GE370.out | refine below_set ?_ GE382.out) | exact HB.out))
 rintro e w15 ⟨v384,rfl,ho0,hi,hb,hk⟩
 refine ⟨_,rfl,?_⟩
 have n0_ := Aside0.mk (KeepBut.blk hk (g' := gb370) (o := .cells #[.int .i64 0,.int .i64 0,.slice none 0 0] 58 (0,0)) (by (with_reducible repeat (first | refine blk_drewN ?_ _ | refine blk_drew ?_ | refine blk_alloc ?_ _)); exact BK370.out) NB370_374.out (by simp))
 have n1_ := Aside0.mk (Kd.Q_mono (Kd.Q_keep (IsS102.apartQ (show IsS102 w _ g374 t371 t380 t381 from by repeat (first | (with_reducible first | exact HI374.out | apply IsS102.alloc | apply IsS102.drewN | apply IsS102.drew | apply IsS102.set_1 | apply IsS102.set_2 | refine IsS102.far ?_ NB374_370.out _ | refine IsS102.far ?_ NB374_382.out _) | exact HI374.out)) (by (with_reducible repeat (first | apply Kd.Q_alloc | apply Kd.Q_drewN | apply Kd.Q_drew)); exact HO379.out) (by decide)) hk (fun _ h => h.2)) (fun _ h => h.1))
 have n2_ := Aside0.mk (KeepBut.blk hk (g' := gb382) (o := .cells #[.int .i64 t375,.int .i64 t376,.slice Ao12 t377.length co12] 58 (0,0)) (by (with_reducible repeat (first | refine blk_drewN ?_ _ | refine blk_drew ?_ | refine blk_alloc ?_ _)); exact BK382.out) NB382_374.out (by simp))
 have n3_ := Aside0.mk (Kd.R_lower ho0 (below_size (by repeat (first | (with_reducible first | exact HB.out | apply below_alloc | apply pw_below_drewN | apply below_drew1 | refine below_set ?_ (IsS102.ge HI374.out) | refine below_set ?_ GE370.out | refine below_set ?_ GE382.out) | exact HB.out))))
 have n4_ := Aside0.mk (hb)
 have n5_ := Aside0.mk (hi)
 clear BK370
 clear HO379
 clear BK382
 clear HB
 clear HI374
 have BK370 := n0_
 have HO379 := n1_
 have BK382 := n2_
 have HO385 := n3_
 have HB := n4_
 have HI374 := n5_
 clear n0_ n1_ n2_ n3_ n4_ n5_
 (try clear hb)
 (try clear hb2)
 (try clear hk)
 (try clear hi)
 (try clear ho0)
 refine hK.out _ _ ⟨(blk_cell BK382.out 0).trans rfl,(blk_cell BK382.out 1).trans rfl,(blk_cell BK382.out 2).trans rfl⟩ (fun hHeld => ?_)
 clear hK K
 refine norm_ (a' := ?_) ?_ ?_
 rotate_left
 ·
  show Act.put _ (some 11) _ = _
  simp only [Act.put,List.setIfInBounds_toArray,List.set_cons_zero,List.set_cons_succ,i64_w,i32_w]
  rfl
 refine pure_ (i := 3) (N := some 2) (v := ?_) (a' := ?_) #[true,true,true,true,false] rfl rfl (by kernel_rfl) (fun _ _ _ h => h) (Or.inl ⟨by rfl,?_⟩) ?_ ?_
 rotate_left
 ·
  intro w'
  go_simp
  with_reducible rfl
 rotate_left
 ·
  simp only [Act.put,List.setIfInBounds_toArray,List.set_cons_zero,List.set_cons_succ,i64_w,i32_w]
  rfl
 refine one_ (i := 4) (N := none) #[true,true,true,true,true] rfl rfl (by kernel_rfl) (by decide) (fun K hK => ?_)
 have hs16 : w15.cell? ⟨gb370,0,none⟩ = some (.int .i64 0) := (blk_cell BK370.out 0).trans rfl
 have hfs16 := blk_frozen BK370.out 0
 have hns16_1 := NB382_370.out
 have hms16_1 := NB370_382.out
 have hs17 : w15.cell? ⟨gb370,1,none⟩ = some (.int .i64 0) := (blk_cell BK370.out 1).trans rfl
 have hfs17 := blk_frozen BK370.out 1
 have hns17_1 := NB382_370.out
 have hms17_1 := NB370_382.out
 have hs18 : w15.cell? ⟨gb370,2,none⟩ = some (.slice none 0 0) := (blk_cell BK370.out 2).trans rfl
 have hfs18 := blk_frozen BK370.out 2
 have hns18_1 := NB382_370.out
 have hms18_1 := NB370_382.out
 refine skip_ (w1 := ?_) (by rfl) rfl ?_ ?_
 rotate_left
 ·
  go_simp
  rfl
 refine hK.out _ _ ⟨((cell_far (p := ⟨gb370,_,none⟩) NB382_370.out _).trans (((cell_far (p := ⟨gb370,_,none⟩) NB382_370.out _).trans (((cell_far (p := ⟨gb370,_,none⟩) NB382_370.out _).trans (hHeld.1)))))),((cell_far (p := ⟨gb370,_,none⟩) NB382_370.out _).trans (((cell_far (p := ⟨gb370,_,none⟩) NB382_370.out _).trans (((cell_far (p := ⟨gb370,_,none⟩) NB382_370.out _).trans (hHeld.2.1)))))),((cell_far (p := ⟨gb370,_,none⟩) NB382_370.out _).trans (((cell_far (p := ⟨gb370,_,none⟩) NB382_370.out _).trans (((cell_far (p := ⟨gb370,_,none⟩) NB382_370.out _).trans (hHeld.2.2))))))⟩ (fun hHeld => ?_)
 clear hK K
 refine done_ (by kernel_rfl) ?_
 try go_wp2
 refine bodyPost_ret (results_tc rfl _ _ gb370 58 #[.int .i64 t375,.int .i64 t376,.slice Ao12 t377.length co12] (0,0) _ rfl (by (with_reducible repeat (first | refine blk_drewN ?_ _ | refine blk_drew ?_ | refine blk_alloc ?_ _)); refine blk_put (cs := #[.int .i64 t375,.int .i64 t376,.slice none 0 0]) ?_ 2 _ rfl; (with_reducible repeat (first | refine blk_drewN ?_ _ | refine blk_drew ?_ | refine blk_alloc ?_ _)); refine blk_put (cs := #[.int .i64 t375,.int .i64 0,.slice none 0 0]) ?_ 1 _ rfl; (with_reducible repeat (first | refine blk_drewN ?_ _ | refine blk_drew ?_ | refine blk_alloc ?_ _)); refine blk_put (cs := #[.int .i64 0,.int .i64 0,.slice none 0 0]) ?_ 0 _ rfl; (with_reducible repeat (first | refine blk_drewN ?_ _ | refine blk_drew ?_ | refine blk_alloc ?_ _)); exact BK370.out) Try.underlying58 rfl (by kernel_rfl)) rfl ?_
 exact ⟨_,_,by first | rfl | (simp [errW_none,errW_some] <;> rfl) | (simp [*,errW_none,errW_some] <;> rfl),by (with_reducible repeat (first | apply Kd.R_alloc | apply Kd.R_drewN | apply Kd.R_drew)); exact Kd.R_mono (Kd.R_far (p := ⟨gb370,2,none⟩) (Kd.R_far (p := ⟨gb370,1,none⟩) (Kd.R_far (p := ⟨gb370,0,none⟩) (Kd.R_types HO385.out BK370.out (by decide)) (fun _ hk => hk.2) (.int .i64 t375)) (fun _ hk => hk.2) (.int .i64 t376)) (fun _ hk => hk.2) (.slice Ao12 t377.length co12)) (fun _ hk => trivial),by (with_reducible repeat (first | apply Kd.Q_alloc | apply Kd.Q_drewN | apply Kd.Q_drew)); exact Kd.Q_mono (Kd.Q_far (p := ⟨gb370,2,none⟩) (Kd.Q_far (p := ⟨gb370,1,none⟩) (Kd.Q_far (p := ⟨gb370,0,none⟩) (Kd.Q_types HO379.out BK370.out (by decide)) (fun _ hk => hk.2) (.int .i64 t375)) (fun _ hk => hk.2) (.int .i64 t376)) (fun _ hk => hk.2) (.slice Ao12 t377.length co12)) (fun _ hk => trivial),by repeat (first | (with_reducible first | exact HB.out | apply below_alloc | apply pw_below_drewN | apply below_drew1 | refine below_set ?_ (IsS102.ge HI374.out) | refine below_set ?_ GE370.out | refine below_set ?_ GE382.out) | exact HB.out)⟩

/-! ### spec_DrawCheckProgram: function 47 -/
def spec_DrawCheckProgram.f (k : Nat) (l0 : List Int) : Option ((List (S25))) := (spec_l01New.f k l0).bind fun bt388 => ((spec_l06Any.f k bt388.1 bt388.2.1 bt388.2.2).bind fun bt392 => (some bt392.1))
theorem spec_DrawCheckProgram.mono : ∀ a0 k,LeO (spec_DrawCheckProgram.f k a0) (spec_DrawCheckProgram.f (k + 1) a0) := by
 intro a0 k
 unfold spec_DrawCheckProgram.f
 repeat' first
   | (with_reducible exact spec_l01New.mono _ _)
   | (with_reducible exact spec_l06Any.mono _ _ _ _)
   | (with_reducible exact LeO.refl _)
   | (with_reducible exact LeO.none _)
   | (with_reducible refine LeO.ite ?_ ?_)
   | (with_reducible refine LeO.bind ?_ (fun _ => ?_))
   | exact spec_l01New.mono _ _
   | exact spec_l06Any.mono _ _ _ _
   | exact LeO.none _
   | refine LeO.ite ?_ ?_
   | refine LeO.bind ?_ (fun _ => ?_)
set_option maxHeartbeats 8000000 in
set_option maxRecDepth 100000 in
theorem spec_DrawCheckProgram.calls (k : Nat) (A0 : Option Addr) (c0 : Nat) (l0 : List Int) (r : List (S25)) (w : World) (hr0 : Kd.C (Kd.int .u8) w A0 l0.length l0) (hc0 : l0.length ≤ c0) (h : spec_DrawCheckProgram.f k l0 = some r) :
  Calls Try.prog 47 #[.slice A0 l0.length c0] w fun e w' => ∃ v0_ : Value,e = .returned (v0_) ∧ Kd.R k25 25 w' w.heap.size (fun _ => True) v0_ r ∧ Below w.heap.size w w' := by
 have HR0 := Aside0.mk hr0
 have HC0 := Aside0.mk hc0
 clear hr0 hc0
 have HB := Aside0.mk (Below.refl w.heap.size w)
 have H : ((spec_l01New.f k l0).bind fun bt388 => ((spec_l06Any.f k bt388.1 bt388.2.1 bt388.2.2).bind fun bt392 => (some bt392.1))) = some r := h
 clear h
 replace H := Option.bind_eq_some_iff.mp H
 obtain ⟨⟨t388,t389,t390⟩,A20,H⟩ := H
 replace H : ((spec_l06Any.f k t388 t389 t390).bind fun bt392 => (some bt392.1)) = some r := H
 have A2 := Aside0.mk A20
 clear A20
 replace H := Option.bind_eq_some_iff.mp H
 obtain ⟨⟨t392,t395,t396⟩,A30,H⟩ := H
 replace H : (some t392) = some r := H
 have A3 := Aside0.mk A30
 clear A30
 obtain rfl := Option.some.inj H
 go_enter Try.func47,Try.ntmps47
 go_wp2_with (first | ((with_reducible refine gate_callee (f := 77) rfl ?_); refine goesL_ (some 4) rfl rfl Try.func77 (by kernel_rfl) rfl #[.slice A0 l0.length c0] rfl (by (try simp only [List.map_toArray,List.map_cons,List.map_nil]); first | done | rfl | (simp only [List.length_drop,List.length_take]; rfl)) ?_; (with_reducible refine (spec_l01New.calls k _ _ l0 t388 t389 t390 w _ ?side1 ?side2 ?side3 A2.out).mono ?_); (case side1 => repeat (first | (with_reducible first | exact HB.out | apply below_alloc | apply pw_below_drewN | apply below_drew1) | exact HB.out)); (case side2 => exact HR0.out); (case side3 => exact HC0.out); rintro e w4 ⟨g391,rfl,hi,hb,hb2⟩; refine ⟨_,rfl,?_⟩; have n0_ := Aside0.mk (hb); have n1_ := Aside0.mk (hi); clear HB; have HB := n0_; have HI391 := n1_; clear n0_ n1_; (try clear hb); (try clear hb2); (try clear hk); (try clear hi)) | ((with_reducible refine gate_callee (f := 79) rfl ?_); refine goesL_ (some 5) rfl rfl Try.func79 (by kernel_rfl) rfl #[.pointer (some ⟨g391,0,none⟩)] rfl (by (try simp only [List.map_toArray,List.map_cons,List.map_nil]); first | done | rfl | (simp only [List.length_drop,List.length_take]; rfl)) ?_; (with_reducible refine (spec_l06Any.calls k g391 t388 t389 t390 t392 t395 t396 w _ ?side1 ?side2 A3.out).mono ?_); (case side1 => repeat (first | (with_reducible first | exact HI391.out | apply IsS102.alloc | apply IsS102.drewN | apply IsS102.drew | apply IsS102.set_1 | apply IsS102.set_2) | exact HI391.out)); (case side2 => repeat (first | (with_reducible first | exact HB.out | apply below_alloc | apply pw_below_drewN | apply below_drew1 | refine below_set ?_ (IsS102.ge HI391.out)) | exact HB.out)); rintro e w5 ⟨v393,rfl,ho0,hi,hb,hk⟩; refine ⟨_,rfl,?_⟩; have n0_ := Aside0.mk (Kd.R_lower ho0 (below_size (by repeat (first | (with_reducible first | exact HB.out | apply below_alloc | apply pw_below_drewN | apply below_drew1 | refine below_set ?_ (IsS102.ge HI391.out)) | exact HB.out)))); have n1_ := Aside0.mk (hb); have n2_ := Aside0.mk (hi); clear HB; clear HI391; have HO394 := n0_; have HB := n1_; have HI391 := n2_; clear n0_ n1_ n2_; (try clear hb); (try clear hb2); (try clear hk); (try clear hi); (try clear ho0)))
 go_ret
 exact ⟨_,by first | rfl | (simp [errW_none,errW_some] <;> rfl) | (simp [*,errW_none,errW_some] <;> rfl),by (with_reducible repeat (first | apply Kd.R_alloc | apply Kd.R_drewN | apply Kd.R_drew)); exact HO394.out,by repeat (first | (with_reducible first | exact HB.out | apply below_alloc | apply pw_below_drewN | apply below_drew1 | refine below_set ?_ (IsS102.ge HI391.out)) | exact HB.out)⟩

/-! ### spec_DrawReached: function 48 -/
def spec_DrawReached.f (k : Nat) (l0 : List Int) : Option ((List (S25))) := (spec_l01New.f k l0).bind fun bt397 => ((spec_l06Any.f k bt397.1 bt397.2.1 bt397.2.2).bind fun bt401 => (some bt401.1))
theorem spec_DrawReached.mono : ∀ a0 k,LeO (spec_DrawReached.f k a0) (spec_DrawReached.f (k + 1) a0) := by
 intro a0 k
 unfold spec_DrawReached.f
 repeat' first
   | (with_reducible exact spec_l01New.mono _ _)
   | (with_reducible exact spec_l06Any.mono _ _ _ _)
   | (with_reducible exact LeO.refl _)
   | (with_reducible exact LeO.none _)
   | (with_reducible refine LeO.ite ?_ ?_)
   | (with_reducible refine LeO.bind ?_ (fun _ => ?_))
   | exact spec_l01New.mono _ _
   | exact spec_l06Any.mono _ _ _ _
   | exact LeO.none _
   | refine LeO.ite ?_ ?_
   | refine LeO.bind ?_ (fun _ => ?_)
set_option maxHeartbeats 8000000 in
set_option maxRecDepth 100000 in
theorem spec_DrawReached.calls (k : Nat) (A0 : Option Addr) (c0 : Nat) (l0 : List Int) (r : List (S25)) (w : World) (hr0 : Kd.C (Kd.int .u8) w A0 l0.length l0) (hc0 : l0.length ≤ c0) (h : spec_DrawReached.f k l0 = some r) :
  Calls Try.prog 48 #[.slice A0 l0.length c0] w fun e w' => ∃ v0_ : Value,e = .returned (v0_) ∧ Kd.R k25 25 w' w.heap.size (fun _ => True) v0_ r ∧ Below w.heap.size w w' := by
 have HR0 := Aside0.mk hr0
 have HC0 := Aside0.mk hc0
 clear hr0 hc0
 have HB := Aside0.mk (Below.refl w.heap.size w)
 have H : ((spec_l01New.f k l0).bind fun bt397 => ((spec_l06Any.f k bt397.1 bt397.2.1 bt397.2.2).bind fun bt401 => (some bt401.1))) = some r := h
 clear h
 replace H := Option.bind_eq_some_iff.mp H
 obtain ⟨⟨t397,t398,t399⟩,A20,H⟩ := H
 replace H : ((spec_l06Any.f k t397 t398 t399).bind fun bt401 => (some bt401.1)) = some r := H
 have A2 := Aside0.mk A20
 clear A20
 replace H := Option.bind_eq_some_iff.mp H
 obtain ⟨⟨t401,t404,t405⟩,A30,H⟩ := H
 replace H : (some t401) = some r := H
 have A3 := Aside0.mk A30
 clear A30
 obtain rfl := Option.some.inj H
 go_enter Try.func48,Try.ntmps48
 go_wp2_with (first | ((with_reducible refine gate_callee (f := 77) rfl ?_); refine goesL_ (some 4) rfl rfl Try.func77 (by kernel_rfl) rfl #[.slice A0 l0.length c0] rfl (by (try simp only [List.map_toArray,List.map_cons,List.map_nil]); first | done | rfl | (simp only [List.length_drop,List.length_take]; rfl)) ?_; (with_reducible refine (spec_l01New.calls k _ _ l0 t397 t398 t399 w _ ?side1 ?side2 ?side3 A2.out).mono ?_); (case side1 => repeat (first | (with_reducible first | exact HB.out | apply below_alloc | apply pw_below_drewN | apply below_drew1) | exact HB.out)); (case side2 => exact HR0.out); (case side3 => exact HC0.out); rintro e w4 ⟨g400,rfl,hi,hb,hb2⟩; refine ⟨_,rfl,?_⟩; have n0_ := Aside0.mk (hb); have n1_ := Aside0.mk (hi); clear HB; have HB := n0_; have HI400 := n1_; clear n0_ n1_; (try clear hb); (try clear hb2); (try clear hk); (try clear hi)) | ((with_reducible refine gate_callee (f := 79) rfl ?_); refine goesL_ (some 5) rfl rfl Try.func79 (by kernel_rfl) rfl #[.pointer (some ⟨g400,0,none⟩)] rfl (by (try simp only [List.map_toArray,List.map_cons,List.map_nil]); first | done | rfl | (simp only [List.length_drop,List.length_take]; rfl)) ?_; (with_reducible refine (spec_l06Any.calls k g400 t397 t398 t399 t401 t404 t405 w _ ?side1 ?side2 A3.out).mono ?_); (case side1 => repeat (first | (with_reducible first | exact HI400.out | apply IsS102.alloc | apply IsS102.drewN | apply IsS102.drew | apply IsS102.set_1 | apply IsS102.set_2) | exact HI400.out)); (case side2 => repeat (first | (with_reducible first | exact HB.out | apply below_alloc | apply pw_below_drewN | apply below_drew1 | refine below_set ?_ (IsS102.ge HI400.out)) | exact HB.out)); rintro e w5 ⟨v402,rfl,ho0,hi,hb,hk⟩; refine ⟨_,rfl,?_⟩; have n0_ := Aside0.mk (Kd.R_lower ho0 (below_size (by repeat (first | (with_reducible first | exact HB.out | apply below_alloc | apply pw_below_drewN | apply below_drew1 | refine below_set ?_ (IsS102.ge HI400.out)) | exact HB.out)))); have n1_ := Aside0.mk (hb); have n2_ := Aside0.mk (hi); clear HB; clear HI400; have HO403 := n0_; have HB := n1_; have HI400 := n2_; clear n0_ n1_ n2_; (try clear hb); (try clear hb2); (try clear hk); (try clear hi); (try clear ho0)))
 go_ret
 exact ⟨_,by first | rfl | (simp [errW_none,errW_some] <;> rfl) | (simp [*,errW_none,errW_some] <;> rfl),by (with_reducible repeat (first | apply Kd.R_alloc | apply Kd.R_drewN | apply Kd.R_drew)); exact HO403.out,by repeat (first | (with_reducible first | exact HB.out | apply below_alloc | apply pw_below_drewN | apply below_drew1 | refine below_set ?_ (IsS102.ge HI400.out)) | exact HB.out)⟩

/-! ### laws_sameBools: function 49 -/
def laws_sameBools.l0 : Nat → List Bool → List Bool → Int → Option (Bool)
 | 0,_,_,_ => none
 | k + 1,x0,x1,x5 => if x5 < (x0.length : Int) then (if 0 ≤ x5 then (if x5 < (x1.length : Int) then (if ((rdOf false x0 x5) != (rdOf false x1 x5)) = true then (some false) else (laws_sameBools.l0 k x0 x1 (wrap64 (x5 + 1)))) else (none)) else (none)) else (some true)
def laws_sameBools.f (k : Nat) (l0 : List Bool) (l1 : List Bool) : Option (Bool) := if (l0.length : Int) = (l1.length : Int) then (laws_sameBools.l0 k l0 l1 0) else (some false)
theorem laws_sameBools.mono_l : ∀ k,(∀ y0 y1 y2,LeO (laws_sameBools.l0 k y0 y1 y2) (laws_sameBools.l0 (k + 1) y0 y1 y2))
 | 0 => fun _ _ _ r h => by simp [laws_sameBools.l0] at h
 | k + 1 => by
  have ih0 := laws_sameBools.mono_l k
  ·
   intro y0 y1 y2
   unfold laws_sameBools.l0
   repeat' first
   | (with_reducible exact ih0 _ _ _)
   | (with_reducible exact LeO.refl _)
   | (with_reducible exact LeO.none _)
   | (with_reducible refine LeO.ite ?_ ?_)
   | (with_reducible refine LeO.bind ?_ (fun _ => ?_))
   | exact ih0 _ _ _
   | exact LeO.none _
   | refine LeO.ite ?_ ?_
   | refine LeO.bind ?_ (fun _ => ?_)
theorem laws_sameBools.mono : ∀ a0 a1 k,LeO (laws_sameBools.f k a0 a1) (laws_sameBools.f (k + 1) a0 a1) := by
 intro a0 a1 k
 have ih0 := laws_sameBools.mono_l k
 unfold laws_sameBools.f
 repeat' first
   | (with_reducible exact ih0 _ _ _)
   | (with_reducible exact LeO.refl _)
   | (with_reducible exact LeO.none _)
   | (with_reducible refine LeO.ite ?_ ?_)
   | (with_reducible refine LeO.bind ?_ (fun _ => ?_))
   | exact ih0 _ _ _
   | exact LeO.none _
   | refine LeO.ite ?_ ?_
   | refine LeO.bind ?_ (fun _ => ?_)
set_option maxHeartbeats 8000000 in
set_option maxRecDepth 100000 in
theorem laws_sameBools.calls (k : Nat) (A0 : Option Addr) (c0 : Nat) (l0 : List Bool) (A1 : Option Addr) (c1 : Nat) (l1 : List Bool) (r : Bool) (w : World) (hr0 : Kd.C Kd.bool w A0 l0.length l0) (hc0 : l0.length ≤ c0) (hr1 : Kd.C Kd.bool w A1 l1.length l1) (hc1 : l1.length ≤ c1) (h : laws_sameBools.f k l0 l1 = some r) :
  Calls Try.prog 49 #[.slice A0 l0.length c0,.slice A1 l1.length c1] w fun e w' => e = .returned (.bool r) ∧ Drawn0 w w' := by
 have HR0 := Aside0.mk hr0
 have HC0 := Aside0.mk hc0
 clear hr0 hc0
 have HR1 := Aside0.mk hr1
 have HC1 := Aside0.mk hc1
 clear hr1 hc1
 have H : (if (l0.length : Int) = (l1.length : Int) then (laws_sameBools.l0 k l0 l1 0) else (some false)) = some r := h
 clear h
 by_cases c3 : (l0.length : Int) = (l1.length : Int)
 ·
  rw [if_pos c3] at H
  have c3b0 : ((l0.length : Int) == (l1.length : Int)) = true := beq_iff_eq.mpr c3
  have c3b1 : ((l0.length : Int) != (l1.length : Int)) = false := bne_eq_false_iff_eq.mpr c3
  have c3b2 : (l0.length == l1.length) = true := by first | simpa using c3 | (simp at c3 ⊢; omega)
  clear c3
  have H' := Aside0.mk H
  clear H
  go_enter Try.func49,Try.ntmps49
  go_wp2
  repeat (go_quiet (fail); try go_wp2)
  go_loopg [5] k (fun kq v5 w' => ∃ (x5_1 : Int),v5 = .int .i64 x5_1 ∧ Aside0 (laws_sameBools.l0 kq l0 l1 x5_1 = some r) ∧ Aside0 (kq ≤ k) ∧ Drawn0 w w')
  case atStart => exact ⟨(0),(by first | rfl | (simp; done) | (simp [*]; done)),H',⟨Nat.le_refl _⟩,by repeat (first | exact Drawn0.refl _ | apply Drawn0.step)⟩
  case round =>
   clear H'
   try clear c1
   try clear p2
   try clear c3
   try clear c3b0
   try clear c3b1
   try clear c3b2
   obtain ⟨x5_1,rfl,HA,HK1,⟨m1,rfl⟩⟩ := hrel
   cases gk with
   | zero => exact absurd HA.out (by simp [laws_sameBools.l0])
   | succ k1 =>
    have H := HA.out
    clear HA
    simp only [laws_sameBools.l0] at H
    by_cases c4 : x5_1 < (l0.length : Int)
    ·
     rw [if_pos c4] at H
     have c4b0 : decide (x5_1 < (l0.length : Int)) = true := decide_eq_true c4
     clear c4
     by_cases c5 : 0 ≤ x5_1
     ·
      rw [if_pos c5] at H
      have c5b0 : decide (0 ≤ x5_1) = true := decide_eq_true c5
      clear c5
      by_cases c6 : x5_1 < (l1.length : Int)
      ·
       rw [if_pos c6] at H
       have c6b0 : decide (x5_1 < (l1.length : Int)) = true := decide_eq_true c6
       clear c6
       by_cases c7 : ((rdOf false l0 x5_1) != (rdOf false l1 x5_1)) = true
       ·
        rw [if_pos c7] at H
        have c7b0 : ((rdOf false l0 x5_1) != (rdOf false l1 x5_1)) = true := c7
        (try (have c7b1 : decide ((rdOf false l0 x5_1) = (rdOf false l1 x5_1)) = false := by simpa using c7))
        (try (have c7b2 : ((rdOf false l0 x5_1) == (rdOf false l1 x5_1)) = false := by simpa using c7))
        (try (have c7b3 : ¬ ((rdOf false l0 x5_1) = (rdOf false l1 x5_1)) := by simpa using c7))
        clear c7
        obtain rfl := Option.some.inj H
        have p406 : 0 ≤ (x5_1 : Int) := of_decide_eq_true (by first | (with_reducible assumption) | assumption)
        have q406 : x5_1 < (l0.length : Int) := of_decide_eq_true (by first | (with_reducible assumption) | assumption)
        obtain ⟨ad406,e406,hx406_0⟩ := Kd.at_bool HR0.out x5_1 p406 q406
        cases e406
        replace p406 := eq_true p406
        replace q406 := eq_true q406
        have p407 : 0 ≤ (x5_1 : Int) := of_decide_eq_true (by first | (with_reducible assumption) | assumption)
        have q407 : x5_1 < (l1.length : Int) := of_decide_eq_true (by first | (with_reducible assumption) | assumption)
        obtain ⟨ad407,e407,hx407_0⟩ := Kd.at_bool HR1.out x5_1 p407 q407
        cases e407
        replace p407 := eq_true p407
        replace q407 := eq_true q407
        go_wp2
        repeat (go_quiet (fail); try go_wp2)
        go_ret
        exact ⟨by first | rfl | (simp; done) | (simp [*]; done),by repeat (first | exact Drawn0.refl _ | apply Drawn0.step)⟩
       ·
        rw [if_neg c7] at H
        have c7b0 : ((rdOf false l0 x5_1) != (rdOf false l1 x5_1)) = false := by simpa using c7
        (try (have c7b1 : decide ((rdOf false l0 x5_1) = (rdOf false l1 x5_1)) = true := by simpa using c7))
        (try (have c7b2 : ((rdOf false l0 x5_1) == (rdOf false l1 x5_1)) = true := by simpa using c7))
        clear c7
        have H' := Aside0.mk H
        clear H
        have p406 : 0 ≤ (x5_1 : Int) := of_decide_eq_true (by first | (with_reducible assumption) | assumption)
        have q406 : x5_1 < (l0.length : Int) := of_decide_eq_true (by first | (with_reducible assumption) | assumption)
        obtain ⟨ad406,e406,hx406_0⟩ := Kd.at_bool HR0.out x5_1 p406 q406
        cases e406
        replace p406 := eq_true p406
        replace q406 := eq_true q406
        have p407 : 0 ≤ (x5_1 : Int) := of_decide_eq_true (by first | (with_reducible assumption) | assumption)
        have q407 : x5_1 < (l1.length : Int) := of_decide_eq_true (by first | (with_reducible assumption) | assumption)
        obtain ⟨ad407,e407,hx407_0⟩ := Kd.at_bool HR1.out x5_1 p407 q407
        cases e407
        replace p407 := eq_true p407
        replace q407 := eq_true q407
        go_wp2
        repeat (go_quiet (fail); try go_wp2)
        go_roundg k1
        case measure => have := HK1.out; omega
        case rel => exact ⟨(wrap64 (x5_1 + 1)),(by first | rfl | (simp; done) | (simp [*]; done)),H',⟨by have := HK1.out; omega⟩,by repeat (first | exact Drawn0.refl _ | apply Drawn0.step)⟩
      ·
       rw [if_neg c6] at H
       exact absurd H (by simp)
     ·
      rw [if_neg c5] at H
      exact absurd H (by simp)
    ·
     rw [if_neg c4] at H
     have c4b0 : decide (x5_1 < (l0.length : Int)) = false := decide_eq_false c4
     clear c4
     obtain rfl := Option.some.inj H
     go_wp2
     repeat (go_quiet (fail); try go_wp2)
     go_ret
     exact ⟨by first | rfl | (simp; done) | (simp [*]; done),by repeat (first | exact Drawn0.refl _ | apply Drawn0.step)⟩
 ·
  rw [if_neg c3] at H
  have c3b0 : ((l0.length : Int) == (l1.length : Int)) = false := beq_eq_false_iff_ne.mpr c3
  have c3b1 : ((l0.length : Int) != (l1.length : Int)) = true := bne_iff_ne.mpr c3
  have c3b2 : (l0.length == l1.length) = false := by first | simpa using c3 | (simp at c3 ⊢; omega)
  obtain rfl := Option.some.inj H
  go_enter Try.func49,Try.ntmps49
  go_wp2
  repeat (go_quiet (fail); try go_wp2)
  go_ret
  exact ⟨by first | rfl | (simp; done) | (simp [*]; done),by repeat (first | exact Drawn0.refl _ | apply Drawn0.step)⟩

/-! ### impl_ways: function 94 -/
def impl_ways.j0 : Nat → Int → Bool → Int → Int → Int → Int → Option (List Int)
 | 0,_,_,_,_,_,_ => none
 | k + 1,x1,x20,x409000,x409001,x409002,x409003 => if x20 = true then (some (([wrap64 ((wrap64 (x1 + 1)) + (mn x409002 x409003)),wrap64 ((wrap64 (x1 + 1)) + (mx x409002 x409003))] : List Int))) else ((impl_Ins_asks.f x409000 x409001 x409002 x409003).bind fun t419 => (if t419 = true then (some (([wrap64 ((wrap64 (x1 + 1)) + x409002)] : List Int))) else (some (([wrap64 (x1 + 1)] : List Int)))))
def impl_ways.f (k : Nat) (a0_0 : Int) (a0_1 : Int) (a0_2 : Int) (a0_3 : Int) (a1 : Int) : Option (List Int) := if a0_0 = 8 then (some (([] : List Int))) else (if a0_0 = 7 then (some (([wrap64 ((wrap64 (a1 + 1)) + a0_1)] : List Int))) else ((impl_Ins_asks.f a0_0 a0_1 a0_2 a0_3).bind fun t415 => (if t415 = true then (impl_ways.j0 k a1 (a0_2 != a0_3) a0_0 a0_1 a0_2 a0_3) else (impl_ways.j0 k a1 false a0_0 a0_1 a0_2 a0_3))))
theorem impl_ways.mono_l : ∀ k,(∀ y0 y1 y2 y3 y4 y5,LeO (impl_ways.j0 k y0 y1 y2 y3 y4 y5) (impl_ways.j0 (k + 1) y0 y1 y2 y3 y4 y5))
 | 0 => fun _ _ _ _ _ _ r h => by simp [impl_ways.j0] at h
 | k + 1 => by
  have ih0 := impl_ways.mono_l k
  ·
   intro y0 y1 y2 y3 y4 y5
   unfold impl_ways.j0
   repeat' first
   | (with_reducible exact ih0 _ _ _ _ _ _)
   | (with_reducible exact LeO.refl _)
   | (with_reducible exact LeO.none _)
   | (with_reducible refine LeO.ite ?_ ?_)
   | (with_reducible refine LeO.bind ?_ (fun _ => ?_))
   | exact ih0 _ _ _ _ _ _
   | exact LeO.none _
   | refine LeO.ite ?_ ?_
   | refine LeO.bind ?_ (fun _ => ?_)
theorem impl_ways.mono : ∀ a0 a1 a2 a3 a4 k,LeO (impl_ways.f k a0 a1 a2 a3 a4) (impl_ways.f (k + 1) a0 a1 a2 a3 a4) := by
 intro a0 a1 a2 a3 a4 k
 have ih0 := impl_ways.mono_l k
 unfold impl_ways.f
 repeat' first
   | (with_reducible exact ih0 _ _ _ _ _ _)
   | (with_reducible exact LeO.refl _)
   | (with_reducible exact LeO.none _)
   | (with_reducible refine LeO.ite ?_ ?_)
   | (with_reducible refine LeO.bind ?_ (fun _ => ?_))
   | exact ih0 _ _ _ _ _ _
   | exact LeO.none _
   | refine LeO.ite ?_ ?_
   | refine LeO.bind ?_ (fun _ => ?_)
set_option maxHeartbeats 8000000 in
set_option maxRecDepth 100000 in
theorem impl_ways.calls (k : Nat) (a0_0 : Int) (a0_1 : Int) (a0_2 : Int) (a0_3 : Int) (a1 : Int) (r : List Int) (w : World) (h : impl_ways.f k a0_0 a0_1 a0_2 a0_3 a1 = some r) :
  Calls Try.prog 94 #[.agg #[.int .i64 a0_0,.int .i64 a0_1,.int .i64 a0_2,.int .i64 a0_3],.int .i64 a1] w fun e w' => ∃ v0_ : Value,e = .returned (v0_) ∧ Kd.R (Kd.int .i64) 3 w' w.heap.size (fun _ => True) v0_ r ∧ Below w.heap.size w w' := by
 have hu25 := Try.underlying25
 have HB := Aside0.mk (Below.refl w.heap.size w)
 have H : (if a0_0 = 8 then (some (([] : List Int))) else (if a0_0 = 7 then (some (([wrap64 ((wrap64 (a1 + 1)) + a0_1)] : List Int))) else ((impl_Ins_asks.f a0_0 a0_1 a0_2 a0_3).bind fun t415 => (if t415 = true then (impl_ways.j0 k a1 (a0_2 != a0_3) a0_0 a0_1 a0_2 a0_3) else (impl_ways.j0 k a1 false a0_0 a0_1 a0_2 a0_3))))) = some r := h
 clear h
 by_cases c3 : a0_0 = 8
 ·
  rw [if_pos c3] at H
  have c3b0 : (a0_0 == 8) = true := beq_iff_eq.mpr c3
  have c3b1 : (a0_0 != 8) = false := bne_eq_false_iff_eq.mpr c3
  clear c3
  obtain ⟨y409,hy409⟩ : ∃ y_ : List Int,y_ = (([] : List Int)) := ⟨_,rfl⟩
  replace H : (some y409) = some r := by first | (rw [hy409]; with_reducible exact H) | (have H2_ := (Option.bind_some _ _).symm.trans H; rw [hy409]; with_reducible exact H2_) | (have H2_ := (Option.bind_some _ _).symm.trans H; with_reducible exact H2_) | with_reducible exact H | (rw [hy409]; exact H) | exact H
  have Ny409 := Aside0.mk hy409
  clear hy409
  obtain rfl := Option.some.inj H
  go_enter Try.func94,Try.ntmps94
  go_wp2_with (first | ((with_reducible refine gate_dst (N := 2) rfl ?_); refine box_event ?hg (N := 2) ?hd (cs := #[.int .i64 a0_0,.int .i64 a0_1,.int .i64 a0_2,.int .i64 a0_3]) (t := 25) ?hr ?_; (case hd => rfl); (case hg => rfl); (case hr => first | (go_simp; done) | (go_simp; rfl)); intro gb408 hg w4 hbox hb; have n0_ := Aside0.mk (below_step (by repeat (first | (with_reducible first | exact HB.out | apply below_alloc | apply pw_below_drewN | apply below_drew1) | exact HB.out)) hb); have n1_ := Aside0.mk (hbox); have n2_ := Aside0.mk ((by rw [hg]; exact (below_size (by repeat (first | (with_reducible first | exact HB.out | apply below_alloc | apply pw_below_drewN | apply below_drew1) | exact HB.out))) : w.heap.size ≤ gb408)); have n3_ := Aside0.mk ((by rw [hg]; exact (below_size (by repeat (first | (with_reducible first | exact HB.out | apply below_alloc | apply pw_below_drewN | apply below_drew1) | exact HB.out))) : w.heap.size ≤ gb408)); clear HB; have HB := n0_; have BK408 := n1_; have GW408 := n2_; have GE408 := n3_; clear n0_ n1_ n2_ n3_; clear hb hbox hg; have hcz5_0 : w4.cell? ⟨gb408,0,none⟩ = some (.int .i64 a0_0) := (blk_cell BK408.out 0).trans rfl; have hcz5_1 : w4.cell? ⟨gb408,1,none⟩ = some (.int .i64 a0_1) := (blk_cell BK408.out 1).trans rfl; have hcz5_2 : w4.cell? ⟨gb408,2,none⟩ = some (.int .i64 a0_2) := (blk_cell BK408.out 2).trans rfl; have hcz5_3 : w4.cell? ⟨gb408,3,none⟩ = some (.int .i64 a0_3) := (blk_cell BK408.out 3).trans rfl; have hfz5_0 := blk_frozen BK408.out 0; have hfz5_1 := blk_frozen BK408.out 1; have hfz5_2 := blk_frozen BK408.out 2; have hfz5_3 := blk_frozen BK408.out 3) | ((with_reducible refine gate_dst (N := 9) rfl ?_); refine Kd.R_lit (Kd.int .i64) _ 3 ?hg (N := 9) ?hd (xs := ([] : List Int)) (inner := []) (ok := fun _ => True) (okp := fun _ => True) ?hr ?hp (fun _ hk => hk) trivial (Below.refl _ _) (Nat.le_refl _) (by simp) ?_; (case hd => rfl); (case hg => rfl); (case hr => first | (go_simp; done) | (go_simp; rfl)); (case hp => exact (Reps.none _ _)); intro v410 w6 ho7 hb hg_ hnew_; clear hg_ hnew_; (first | rw [← Ny409.out] at ho7 | (simp only [Int.reduceToNat] at ho7; rw [← Ny409.out] at ho7)); have n0_ := Aside0.mk (Kd.R_lower ho7 (below_size (by repeat (first | (with_reducible first | exact HB.out | apply below_alloc | apply pw_below_drewN | apply below_drew1 | refine below_set ?_ GE408.out) | exact HB.out)))); have n1_ := Aside0.mk (blk_below (g := gb408) (o := .cells #[.int .i64 a0_0,.int .i64 a0_1,.int .i64 a0_2,.int .i64 a0_3] 25 (0,0)) (by (with_reducible repeat (first | refine blk_drewN ?_ _ | refine blk_drew ?_ | refine blk_alloc ?_ _)); exact BK408.out) hb); have n2_ := Aside0.mk (below_step (by repeat (first | (with_reducible first | exact HB.out | apply below_alloc | apply pw_below_drewN | apply below_drew1 | refine below_set ?_ GE408.out) | exact HB.out)) hb); clear BK408; clear HB; have HO411 := n0_; have BK408 := n1_; have HB := n2_; clear n0_ n1_ n2_; clear hb ho7))
  go_ret
  exact ⟨_,by first | rfl | (simp [errW_none,errW_some] <;> rfl) | (simp [*,errW_none,errW_some] <;> rfl),by (with_reducible repeat (first | apply Kd.R_alloc | apply Kd.R_drewN | apply Kd.R_drew)); exact HO411.out,by repeat (first | (with_reducible first | exact HB.out | apply below_alloc | apply pw_below_drewN | apply below_drew1 | refine below_set ?_ GE408.out) | exact HB.out)⟩
 ·
  rw [if_neg c3] at H
  have c3b0 : (a0_0 == 8) = false := beq_eq_false_iff_ne.mpr c3
  have c3b1 : (a0_0 != 8) = true := bne_iff_ne.mpr c3
  by_cases c8 : a0_0 = 7
  ·
   rw [if_pos c8] at H
   have c8b0 : (a0_0 == 7) = true := beq_iff_eq.mpr c8
   have c8b1 : (a0_0 != 7) = false := bne_eq_false_iff_eq.mpr c8
   clear c8
   obtain ⟨y412,hy412⟩ : ∃ y_ : List Int,y_ = (([wrap64 ((wrap64 (a1 + 1)) + a0_1)] : List Int)) := ⟨_,rfl⟩
   replace H : (some y412) = some r := by first | (rw [hy412]; with_reducible exact H) | (have H2_ := (Option.bind_some _ _).symm.trans H; rw [hy412]; with_reducible exact H2_) | (have H2_ := (Option.bind_some _ _).symm.trans H; with_reducible exact H2_) | with_reducible exact H | (rw [hy412]; exact H) | exact H
   have Ny412 := Aside0.mk hy412
   clear hy412
   obtain rfl := Option.some.inj H
   go_enter Try.func94,Try.ntmps94
   go_wp2_with (first | ((with_reducible refine gate_dst (N := 2) rfl ?_); refine box_event ?hg (N := 2) ?hd (cs := #[.int .i64 a0_0,.int .i64 a0_1,.int .i64 a0_2,.int .i64 a0_3]) (t := 25) ?hr ?_; (case hd => rfl); (case hg => rfl); (case hr => first | (go_simp; done) | (go_simp; rfl)); intro gb408 hg w9 hbox hb; have n0_ := Aside0.mk (below_step (by repeat (first | (with_reducible first | exact HB.out | apply below_alloc | apply pw_below_drewN | apply below_drew1) | exact HB.out)) hb); have n1_ := Aside0.mk (hbox); have n2_ := Aside0.mk ((by rw [hg]; exact (below_size (by repeat (first | (with_reducible first | exact HB.out | apply below_alloc | apply pw_below_drewN | apply below_drew1) | exact HB.out))) : w.heap.size ≤ gb408)); have n3_ := Aside0.mk ((by rw [hg]; exact (below_size (by repeat (first | (with_reducible first | exact HB.out | apply below_alloc | apply pw_below_drewN | apply below_drew1) | exact HB.out))) : w.heap.size ≤ gb408)); clear HB; have HB := n0_; have BK408 := n1_; have GW408 := n2_; have GE408 := n3_; clear n0_ n1_ n2_ n3_; clear hb hbox hg; have hcz10_0 : w9.cell? ⟨gb408,0,none⟩ = some (.int .i64 a0_0) := (blk_cell BK408.out 0).trans rfl; have hcz10_1 : w9.cell? ⟨gb408,1,none⟩ = some (.int .i64 a0_1) := (blk_cell BK408.out 1).trans rfl; have hcz10_2 : w9.cell? ⟨gb408,2,none⟩ = some (.int .i64 a0_2) := (blk_cell BK408.out 2).trans rfl; have hcz10_3 : w9.cell? ⟨gb408,3,none⟩ = some (.int .i64 a0_3) := (blk_cell BK408.out 3).trans rfl; have hfz10_0 := blk_frozen BK408.out 0; have hfz10_1 := blk_frozen BK408.out 1; have hfz10_2 := blk_frozen BK408.out 2; have hfz10_3 := blk_frozen BK408.out 3) | ((with_reducible refine gate_dst (N := 19) rfl ?_); refine Kd.R_lit (Kd.int .i64) _ 3 ?hg (N := 19) ?hd (xs := ([wrap64 ((wrap64 (a1 + 1)) + a0_1)] : List Int)) (inner := [.int .i64 (wrap64 ((wrap64 (a1 + 1)) + a0_1))]) (ok := fun _ => True) (okp := fun _ => True) ?hr ?hp (fun _ hk => hk) trivial (Below.refl _ _) (Nat.le_refl _) (by simp) ?_; (case hd => rfl); (case hg => rfl); (case hr => first | (go_simp; done) | (go_simp; rfl)); (case hp => exact (Reps.one (show Kd.M (Kd.int .i64) _ _ _ (wrap64 ((wrap64 (a1 + 1)) + a0_1)) [.int .i64 (wrap64 ((wrap64 (a1 + 1)) + a0_1))] from rfl) (Reps.none _ _))); intro v413 w11 ho12 hb hg_ hnew_; clear hg_ hnew_; (first | rw [← Ny412.out] at ho12 | (simp only [Int.reduceToNat] at ho12; rw [← Ny412.out] at ho12)); have n0_ := Aside0.mk (Kd.R_lower ho12 (below_size (by repeat (first | (with_reducible first | exact HB.out | apply below_alloc | apply pw_below_drewN | apply below_drew1 | refine below_set ?_ GE408.out) | exact HB.out)))); have n1_ := Aside0.mk (blk_below (g := gb408) (o := .cells #[.int .i64 a0_0,.int .i64 a0_1,.int .i64 a0_2,.int .i64 a0_3] 25 (0,0)) (by (with_reducible repeat (first | refine blk_drewN ?_ _ | refine blk_drew ?_ | refine blk_alloc ?_ _)); exact BK408.out) hb); have n2_ := Aside0.mk (below_step (by repeat (first | (with_reducible first | exact HB.out | apply below_alloc | apply pw_below_drewN | apply below_drew1 | refine below_set ?_ GE408.out) | exact HB.out)) hb); clear BK408; clear HB; have HO414 := n0_; have BK408 := n1_; have HB := n2_; clear n0_ n1_ n2_; clear hb ho12))
   go_ret
   exact ⟨_,by first | rfl | (simp [errW_none,errW_some] <;> rfl) | (simp [*,errW_none,errW_some] <;> rfl),by (with_reducible repeat (first | apply Kd.R_alloc | apply Kd.R_drewN | apply Kd.R_drew)); exact HO414.out,by repeat (first | (with_reducible first | exact HB.out | apply below_alloc | apply pw_below_drewN | apply below_drew1 | refine below_set ?_ GE408.out) | exact HB.out)⟩
  ·
   rw [if_neg c8] at H
   have c8b0 : (a0_0 == 7) = false := beq_eq_false_iff_ne.mpr c8
   have c8b1 : (a0_0 != 7) = true := bne_iff_ne.mpr c8
   have HC13 := Aside0.mk H
   clear H
   go_enter Try.func94,Try.ntmps94
   go_upto_region 5 with (first | ((with_reducible refine gate_dst (N := 2) rfl ?_); refine box_event ?hg (N := 2) ?hd (cs := #[.int .i64 a0_0,.int .i64 a0_1,.int .i64 a0_2,.int .i64 a0_3]) (t := 25) ?hr ?_; (case hd => rfl); (case hg => rfl); (case hr => first | (go_simp; done) | (go_simp; rfl)); intro gb408 hg w14 hbox hb; have n0_ := Aside0.mk (below_step (by repeat (first | (with_reducible first | exact HB.out | apply below_alloc | apply pw_below_drewN | apply below_drew1) | exact HB.out)) hb); have n1_ := Aside0.mk (hbox); have n2_ := Aside0.mk ((by rw [hg]; exact (below_size (by repeat (first | (with_reducible first | exact HB.out | apply below_alloc | apply pw_below_drewN | apply below_drew1) | exact HB.out))) : w.heap.size ≤ gb408)); have n3_ := Aside0.mk ((by rw [hg]; exact (below_size (by repeat (first | (with_reducible first | exact HB.out | apply below_alloc | apply pw_below_drewN | apply below_drew1) | exact HB.out))) : w.heap.size ≤ gb408)); clear HB; have HB := n0_; have BK408 := n1_; have GW408 := n2_; have GE408 := n3_; clear n0_ n1_ n2_ n3_; clear hb hbox hg; have hcz15_0 : w14.cell? ⟨gb408,0,none⟩ = some (.int .i64 a0_0) := (blk_cell BK408.out 0).trans rfl; have hcz15_1 : w14.cell? ⟨gb408,1,none⟩ = some (.int .i64 a0_1) := (blk_cell BK408.out 1).trans rfl; have hcz15_2 : w14.cell? ⟨gb408,2,none⟩ = some (.int .i64 a0_2) := (blk_cell BK408.out 2).trans rfl; have hcz15_3 : w14.cell? ⟨gb408,3,none⟩ = some (.int .i64 a0_3) := (blk_cell BK408.out 3).trans rfl; have hfz15_0 := blk_frozen BK408.out 0; have hfz15_1 := blk_frozen BK408.out 1; have hfz15_2 := blk_frozen BK408.out 2; have hfz15_3 := blk_frozen BK408.out 3))
   (try simp only [Act.put,List.setIfInBounds_toArray,List.set_cons_zero,List.set_cons_succ])
   go_cut [20] (fun v20 wc => ∃ (kq : Nat) (x20_12 : Bool),v20 = .bool x20_12 ∧ Aside0 (impl_ways.j0 kq a1 x20_12 a0_0 a0_1 a0_2 a0_3 = some r) ∧ Aside0 (kq ≤ k) ∧ Aside0 (wc.heap[gb408]? = some (.cells #[.int .i64 a0_0,.int .i64 a0_1,.int .i64 a0_2,.int .i64 a0_3] 25 (0,0))) ∧ Aside0 (Below w.heap.size w wc))
   case first =>
    have H := HC13.out
    clear HC13
    replace H := Option.bind_eq_some_iff.mp H
    obtain ⟨t415,A160,H⟩ := H
    replace H : (if t415 = true then (impl_ways.j0 k a1 (a0_2 != a0_3) a0_0 a0_1 a0_2 a0_3) else (impl_ways.j0 k a1 false a0_0 a0_1 a0_2 a0_3)) = some r := H
    have A16 := Aside0.mk A160
    clear A160
    by_cases c17 : t415 = true
    ·
     subst c17
     have H1 : (impl_ways.j0 k a1 (a0_2 != a0_3) a0_0 a0_1 a0_2 a0_3) = some r := by rw [if_pos rfl] at H; exact H
     clear H
     have H := H1
     clear H1
     have H' := Aside0.mk H
     clear H
     have hcz18_0 : w14.cell? ⟨gb408,0,none⟩ = some (.int .i64 a0_0) := (blk_cell BK408.out 0).trans rfl
     have hcz18_1 : w14.cell? ⟨gb408,1,none⟩ = some (.int .i64 a0_1) := (blk_cell BK408.out 1).trans rfl
     have hcz18_2 : w14.cell? ⟨gb408,2,none⟩ = some (.int .i64 a0_2) := (blk_cell BK408.out 2).trans rfl
     have hcz18_3 : w14.cell? ⟨gb408,3,none⟩ = some (.int .i64 a0_3) := (blk_cell BK408.out 3).trans rfl
     have hfz18_0 := blk_frozen BK408.out 0
     have hfz18_1 := blk_frozen BK408.out 1
     have hfz18_2 := blk_frozen BK408.out 2
     have hfz18_3 := blk_frozen BK408.out 3
     go_wp2_with (first | ((with_reducible refine gate_callee (f := 70) rfl ?_); refine goesL_ (some 22) rfl rfl Try.func70 (by kernel_rfl) rfl #[.agg #[.int .i64 a0_0,.int .i64 a0_1,.int .i64 a0_2,.int .i64 a0_3]] rfl (by (try simp only [List.map_toArray,List.map_cons,List.map_nil]); first | done | rfl | (simp only [List.length_drop,List.length_take]; rfl)) ?_; (with_reducible refine (impl_Ins_asks.calls a0_0 a0_1 a0_2 a0_3 true _ A16.out).mono ?_); rintro e w19 ⟨rfl,hb⟩; refine ⟨_,rfl,?_⟩; have n0_ := Aside0.mk (blk_below (g := gb408) (o := .cells #[.int .i64 a0_0,.int .i64 a0_1,.int .i64 a0_2,.int .i64 a0_3] 25 (0,0)) (by (with_reducible repeat (first | refine blk_drewN ?_ _ | refine blk_drew ?_ | refine blk_alloc ?_ _)); exact BK408.out) hb); have n1_ := Aside0.mk (below_step (by repeat (first | (with_reducible first | exact HB.out | apply below_alloc | apply pw_below_drewN | apply below_drew1 | refine below_set ?_ GE408.out) | exact HB.out)) hb); clear BK408; clear HB; have BK408 := n0_; have HB := n1_; clear n0_ n1_; (try clear hb); (try clear hb2); (try clear hk); (try clear hi); have hcz20_0 : w19.cell? ⟨gb408,0,none⟩ = some (.int .i64 a0_0) := (blk_cell BK408.out 0).trans rfl; have hcz20_1 : w19.cell? ⟨gb408,1,none⟩ = some (.int .i64 a0_1) := (blk_cell BK408.out 1).trans rfl; have hcz20_2 : w19.cell? ⟨gb408,2,none⟩ = some (.int .i64 a0_2) := (blk_cell BK408.out 2).trans rfl; have hcz20_3 : w19.cell? ⟨gb408,3,none⟩ = some (.int .i64 a0_3) := (blk_cell BK408.out 3).trans rfl; have hfz20_0 := blk_frozen BK408.out 0; have hfz20_1 := blk_frozen BK408.out 1; have hfz20_2 := blk_frozen BK408.out 2; have hfz20_3 := blk_frozen BK408.out 3))
     go_meet
     case rel => exact ⟨_,((a0_2 != a0_3)),(by first | rfl | (simp; done) | (simp [*]; done)),H',⟨by first | omega | exact Nat.le_refl _⟩,⟨by (with_reducible repeat (first | refine blk_drewN ?_ _ | refine blk_drew ?_ | refine blk_alloc ?_ _)); exact BK408.out⟩,⟨by repeat (first | (with_reducible first | exact HB.out | apply below_alloc | apply pw_below_drewN | apply below_drew1 | refine below_set ?_ GE408.out) | exact HB.out)⟩⟩
    ·
     replace c17 := Bool.eq_false_iff.mpr c17
     subst c17
     have H1 : (impl_ways.j0 k a1 false a0_0 a0_1 a0_2 a0_3) = some r := by rw [if_neg (show ¬ (false = true) by decide)] at H; exact H
     clear H
     have H := H1
     clear H1
     have H' := Aside0.mk H
     clear H
     have hcz21_0 : w14.cell? ⟨gb408,0,none⟩ = some (.int .i64 a0_0) := (blk_cell BK408.out 0).trans rfl
     have hcz21_1 : w14.cell? ⟨gb408,1,none⟩ = some (.int .i64 a0_1) := (blk_cell BK408.out 1).trans rfl
     have hcz21_2 : w14.cell? ⟨gb408,2,none⟩ = some (.int .i64 a0_2) := (blk_cell BK408.out 2).trans rfl
     have hcz21_3 : w14.cell? ⟨gb408,3,none⟩ = some (.int .i64 a0_3) := (blk_cell BK408.out 3).trans rfl
     have hfz21_0 := blk_frozen BK408.out 0
     have hfz21_1 := blk_frozen BK408.out 1
     have hfz21_2 := blk_frozen BK408.out 2
     have hfz21_3 := blk_frozen BK408.out 3
     go_wp2_with (first | ((with_reducible refine gate_callee (f := 70) rfl ?_); refine goesL_ (some 22) rfl rfl Try.func70 (by kernel_rfl) rfl #[.agg #[.int .i64 a0_0,.int .i64 a0_1,.int .i64 a0_2,.int .i64 a0_3]] rfl (by (try simp only [List.map_toArray,List.map_cons,List.map_nil]); first | done | rfl | (simp only [List.length_drop,List.length_take]; rfl)) ?_; (with_reducible refine (impl_Ins_asks.calls a0_0 a0_1 a0_2 a0_3 false _ A16.out).mono ?_); rintro e w22 ⟨rfl,hb⟩; refine ⟨_,rfl,?_⟩; have n0_ := Aside0.mk (blk_below (g := gb408) (o := .cells #[.int .i64 a0_0,.int .i64 a0_1,.int .i64 a0_2,.int .i64 a0_3] 25 (0,0)) (by (with_reducible repeat (first | refine blk_drewN ?_ _ | refine blk_drew ?_ | refine blk_alloc ?_ _)); exact BK408.out) hb); have n1_ := Aside0.mk (below_step (by repeat (first | (with_reducible first | exact HB.out | apply below_alloc | apply pw_below_drewN | apply below_drew1 | refine below_set ?_ GE408.out) | exact HB.out)) hb); clear BK408; clear HB; have BK408 := n0_; have HB := n1_; clear n0_ n1_; (try clear hb); (try clear hb2); (try clear hk); (try clear hi)))
     go_meet
     case rel => exact ⟨_,(false),(by first | rfl | (simp; done) | (simp [*]; done)),H',⟨by first | omega | exact Nat.le_refl _⟩,⟨by (with_reducible repeat (first | refine blk_drewN ?_ _ | refine blk_drew ?_ | refine blk_alloc ?_ _)); exact BK408.out⟩,⟨by repeat (first | (with_reducible first | exact HB.out | apply below_alloc | apply pw_below_drewN | apply below_drew1 | refine below_set ?_ GE408.out) | exact HB.out)⟩⟩
   case rest =>
    clear HC13
    try clear c1
    try clear p2
    try clear c3
    try clear c3b0
    try clear c3b1
    try clear p6
    try clear c7
    try clear c8
    try clear c8b0
    try clear c8b1
    try clear c9
    try clear c17
    try clear hcz10_0
    try clear hcz10_1
    try clear hcz10_2
    try clear hcz10_3
    try clear hcz15_0
    try clear hcz15_1
    try clear hcz15_2
    try clear hcz15_3
    try clear hcz18_0
    try clear hcz18_1
    try clear hcz18_2
    try clear hcz18_3
    try clear hcz20_0
    try clear hcz20_1
    try clear hcz20_2
    try clear hcz20_3
    try clear hcz21_0
    try clear hcz21_1
    try clear hcz21_2
    try clear hcz21_3
    try clear hcz5_0
    try clear hcz5_1
    try clear hcz5_2
    try clear hcz5_3
    try clear hfz10_0
    try clear hfz10_1
    try clear hfz10_2
    try clear hfz10_3
    try clear hfz15_0
    try clear hfz15_1
    try clear hfz15_2
    try clear hfz15_3
    try clear hfz18_0
    try clear hfz18_1
    try clear hfz18_2
    try clear hfz18_3
    try clear hfz20_0
    try clear hfz20_1
    try clear hfz20_2
    try clear hfz20_3
    try clear hfz21_0
    try clear hfz21_1
    try clear hfz21_2
    try clear hfz21_3
    try clear hfz5_0
    try clear hfz5_1
    try clear hfz5_2
    try clear hfz5_3
    obtain ⟨kq,x20_12,rfl,HA,HJ12,BK408,HB⟩ := hcut
    cases kq with
    | zero => exact absurd HA.out (by simp [impl_ways.j0])
    | succ kj12 =>
     have H := HA.out
     clear HA
     simp only [impl_ways.j0] at H
     by_cases c23 : x20_12 = true
     ·
      subst c23
      have H1 : (some (([wrap64 ((wrap64 (a1 + 1)) + (mn a0_2 a0_3)),wrap64 ((wrap64 (a1 + 1)) + (mx a0_2 a0_3))] : List Int))) = some r := by rw [if_pos rfl] at H; exact H
      clear H
      have H := H1
      clear H1
      obtain ⟨ji24,hji24⟩ : ∃ j_ : Int,(mn a0_2 a0_3) = j_ := ⟨_,rfl⟩
      replace H : (some (([wrap64 ((wrap64 (a1 + 1)) + (ji24)),wrap64 ((wrap64 (a1 + 1)) + (mx a0_2 a0_3))] : List Int))) = some r := by first | (rw [hji24] at H; exact H) | (simp only [hji24] at H ⊢; exact H)
      have hji24_ : (if a0_3 < a0_2 then a0_3 else a0_2) = ji24 := hji24
      obtain ⟨ji25,hji25⟩ : ∃ j_ : Int,(mx a0_2 a0_3) = j_ := ⟨_,rfl⟩
      replace H : (some (([wrap64 ((wrap64 (a1 + 1)) + (ji24)),wrap64 ((wrap64 (a1 + 1)) + (ji25))] : List Int))) = some r := by first | (rw [hji25] at H; exact H) | (simp only [hji25] at H ⊢; exact H)
      have hji25_ : (if a0_2 < a0_3 then a0_3 else a0_2) = ji25 := hji25
      obtain ⟨y416,hy416⟩ : ∃ y_ : List Int,y_ = (([wrap64 ((wrap64 (a1 + 1)) + (ji24)),wrap64 ((wrap64 (a1 + 1)) + (ji25))] : List Int)) := ⟨_,rfl⟩
      replace H : (some y416) = some r := by first | (rw [hy416]; with_reducible exact H) | (have H2_ := (Option.bind_some _ _).symm.trans H; rw [hy416]; with_reducible exact H2_) | (have H2_ := (Option.bind_some _ _).symm.trans H; with_reducible exact H2_) | with_reducible exact H | (rw [hy416]; exact H) | exact H
      have Ny416 := Aside0.mk hy416
      clear hy416
      obtain rfl := Option.some.inj H
      have hcz26_0 : wc.cell? ⟨gb408,0,none⟩ = some (.int .i64 a0_0) := (blk_cell BK408.out 0).trans rfl
      have hcz26_1 : wc.cell? ⟨gb408,1,none⟩ = some (.int .i64 a0_1) := (blk_cell BK408.out 1).trans rfl
      have hcz26_2 : wc.cell? ⟨gb408,2,none⟩ = some (.int .i64 a0_2) := (blk_cell BK408.out 2).trans rfl
      have hcz26_3 : wc.cell? ⟨gb408,3,none⟩ = some (.int .i64 a0_3) := (blk_cell BK408.out 3).trans rfl
      have hfz26_0 := blk_frozen BK408.out 0
      have hfz26_1 := blk_frozen BK408.out 1
      have hfz26_2 := blk_frozen BK408.out 2
      have hfz26_3 := blk_frozen BK408.out 3
      go_wp2_with (first | ((with_reducible refine gate_dst (N := 46) rfl ?_); refine Kd.R_lit (Kd.int .i64) _ 3 ?hg (N := 46) ?hd (xs := ([wrap64 ((wrap64 (a1 + 1)) + (ji24)),wrap64 ((wrap64 (a1 + 1)) + (ji25))] : List Int)) (inner := [.int .i64 (wrap64 ((wrap64 (a1 + 1)) + (ji24))),.int .i64 (wrap64 ((wrap64 (a1 + 1)) + (ji25)))]) (ok := fun _ => True) (okp := fun _ => True) ?hr ?hp (fun _ hk => hk) trivial (Below.refl _ _) (Nat.le_refl _) (by simp) ?_; (case hd => rfl); (case hg => rfl); (case hr => first | (go_simp; done) | (go_simp; rfl)); (case hp => exact (Reps.one (show Kd.M (Kd.int .i64) _ _ _ (wrap64 ((wrap64 (a1 + 1)) + (ji24))) [.int .i64 (wrap64 ((wrap64 (a1 + 1)) + (ji24)))] from rfl) (Reps.one (show Kd.M (Kd.int .i64) _ _ _ (wrap64 ((wrap64 (a1 + 1)) + (ji25))) [.int .i64 (wrap64 ((wrap64 (a1 + 1)) + (ji25)))] from rfl) (Reps.none _ _)))); intro v417 w27 ho28 hb hg_ hnew_; clear hg_ hnew_; (first | rw [← Ny416.out] at ho28 | (simp only [Int.reduceToNat] at ho28; rw [← Ny416.out] at ho28)); have n0_ := Aside0.mk (Kd.R_lower ho28 (below_size (by repeat (first | (with_reducible first | exact HB.out | apply below_alloc | apply pw_below_drewN | apply below_drew1 | refine below_set ?_ GE408.out) | exact HB.out)))); have n1_ := Aside0.mk (blk_below (g := gb408) (o := .cells #[.int .i64 a0_0,.int .i64 a0_1,.int .i64 a0_2,.int .i64 a0_3] 25 (0,0)) (by (with_reducible repeat (first | refine blk_drewN ?_ _ | refine blk_drew ?_ | refine blk_alloc ?_ _)); exact BK408.out) hb); have n2_ := Aside0.mk (below_step (by repeat (first | (with_reducible first | exact HB.out | apply below_alloc | apply pw_below_drewN | apply below_drew1 | refine below_set ?_ GE408.out) | exact HB.out)) hb); clear BK408; clear HB; have HO418 := n0_; have BK408 := n1_; have HB := n2_; clear n0_ n1_ n2_; clear hb ho28))
      go_ret
      exact ⟨_,by first | rfl | (simp [errW_none,errW_some] <;> rfl) | (simp only [← hji24,← hji25]; first | rfl | (simp [errW_none,errW_some] <;> rfl)) | (simp [*,errW_none,errW_some] <;> rfl),by (with_reducible repeat (first | apply Kd.R_alloc | apply Kd.R_drewN | apply Kd.R_drew)); exact HO418.out,by repeat (first | (with_reducible first | exact HB.out | apply below_alloc | apply pw_below_drewN | apply below_drew1 | refine below_set ?_ GE408.out) | exact HB.out)⟩
     ·
      replace c23 := Bool.eq_false_iff.mpr c23
      subst c23
      have H1 : ((impl_Ins_asks.f a0_0 a0_1 a0_2 a0_3).bind fun t419 => (if t419 = true then (some (([wrap64 ((wrap64 (a1 + 1)) + a0_2)] : List Int))) else (some (([wrap64 (a1 + 1)] : List Int))))) = some r := by rw [if_neg (show ¬ (false = true) by decide)] at H; exact H
      clear H
      have H := H1
      clear H1
      replace H := Option.bind_eq_some_iff.mp H
      obtain ⟨t419,A290,H⟩ := H
      replace H : (if t419 = true then (some (([wrap64 ((wrap64 (a1 + 1)) + a0_2)] : List Int))) else (some (([wrap64 (a1 + 1)] : List Int)))) = some r := H
      have A29 := Aside0.mk A290
      clear A290
      by_cases c30 : t419 = true
      ·
       subst c30
       have H1 : (some (([wrap64 ((wrap64 (a1 + 1)) + a0_2)] : List Int))) = some r := by rw [if_pos rfl] at H; exact H
       clear H
       have H := H1
       clear H1
       obtain ⟨y420,hy420⟩ : ∃ y_ : List Int,y_ = (([wrap64 ((wrap64 (a1 + 1)) + a0_2)] : List Int)) := ⟨_,rfl⟩
       replace H : (some y420) = some r := by first | (rw [hy420]; with_reducible exact H) | (have H2_ := (Option.bind_some _ _).symm.trans H; rw [hy420]; with_reducible exact H2_) | (have H2_ := (Option.bind_some _ _).symm.trans H; with_reducible exact H2_) | with_reducible exact H | (rw [hy420]; exact H) | exact H
       have Ny420 := Aside0.mk hy420
       clear hy420
       obtain rfl := Option.some.inj H
       have hcz31_0 : wc.cell? ⟨gb408,0,none⟩ = some (.int .i64 a0_0) := (blk_cell BK408.out 0).trans rfl
       have hcz31_1 : wc.cell? ⟨gb408,1,none⟩ = some (.int .i64 a0_1) := (blk_cell BK408.out 1).trans rfl
       have hcz31_2 : wc.cell? ⟨gb408,2,none⟩ = some (.int .i64 a0_2) := (blk_cell BK408.out 2).trans rfl
       have hcz31_3 : wc.cell? ⟨gb408,3,none⟩ = some (.int .i64 a0_3) := (blk_cell BK408.out 3).trans rfl
       have hfz31_0 := blk_frozen BK408.out 0
       have hfz31_1 := blk_frozen BK408.out 1
       have hfz31_2 := blk_frozen BK408.out 2
       have hfz31_3 := blk_frozen BK408.out 3
       go_wp2_with (first | ((with_reducible refine gate_callee (f := 70) rfl ?_); refine goesL_ (some 49) rfl rfl Try.func70 (by kernel_rfl) rfl #[.agg #[.int .i64 a0_0,.int .i64 a0_1,.int .i64 a0_2,.int .i64 a0_3]] rfl (by (try simp only [List.map_toArray,List.map_cons,List.map_nil]); first | done | rfl | (simp only [List.length_drop,List.length_take]; rfl)) ?_; (with_reducible refine (impl_Ins_asks.calls a0_0 a0_1 a0_2 a0_3 true _ A29.out).mono ?_); rintro e w32 ⟨rfl,hb⟩; refine ⟨_,rfl,?_⟩; have n0_ := Aside0.mk (blk_below (g := gb408) (o := .cells #[.int .i64 a0_0,.int .i64 a0_1,.int .i64 a0_2,.int .i64 a0_3] 25 (0,0)) (by (with_reducible repeat (first | refine blk_drewN ?_ _ | refine blk_drew ?_ | refine blk_alloc ?_ _)); exact BK408.out) hb); have n1_ := Aside0.mk (below_step (by repeat (first | (with_reducible first | exact HB.out | apply below_alloc | apply pw_below_drewN | apply below_drew1 | refine below_set ?_ GE408.out) | exact HB.out)) hb); clear BK408; clear HB; have BK408 := n0_; have HB := n1_; clear n0_ n1_; (try clear hb); (try clear hb2); (try clear hk); (try clear hi); have hcz33_0 : w32.cell? ⟨gb408,0,none⟩ = some (.int .i64 a0_0) := (blk_cell BK408.out 0).trans rfl; have hcz33_1 : w32.cell? ⟨gb408,1,none⟩ = some (.int .i64 a0_1) := (blk_cell BK408.out 1).trans rfl; have hcz33_2 : w32.cell? ⟨gb408,2,none⟩ = some (.int .i64 a0_2) := (blk_cell BK408.out 2).trans rfl; have hcz33_3 : w32.cell? ⟨gb408,3,none⟩ = some (.int .i64 a0_3) := (blk_cell BK408.out 3).trans rfl; have hfz33_0 := blk_frozen BK408.out 0; have hfz33_1 := blk_frozen BK408.out 1; have hfz33_2 := blk_frozen BK408.out 2; have hfz33_3 := blk_frozen BK408.out 3) | ((with_reducible refine gate_dst (N := 55) rfl ?_); refine Kd.R_lit (Kd.int .i64) _ 3 ?hg (N := 55) ?hd (xs := ([wrap64 ((wrap64 (a1 + 1)) + a0_2)] : List Int)) (inner := [.int .i64 (wrap64 ((wrap64 (a1 + 1)) + a0_2))]) (ok := fun _ => True) (okp := fun _ => True) ?hr ?hp (fun _ hk => hk) trivial (Below.refl _ _) (Nat.le_refl _) (by simp) ?_; (case hd => rfl); (case hg => rfl); (case hr => first | (go_simp; done) | (go_simp; rfl)); (case hp => exact (Reps.one (show Kd.M (Kd.int .i64) _ _ _ (wrap64 ((wrap64 (a1 + 1)) + a0_2)) [.int .i64 (wrap64 ((wrap64 (a1 + 1)) + a0_2))] from rfl) (Reps.none _ _))); intro v421 w34 ho35 hb hg_ hnew_; clear hg_ hnew_; (first | rw [← Ny420.out] at ho35 | (simp only [Int.reduceToNat] at ho35; rw [← Ny420.out] at ho35)); have n0_ := Aside0.mk (Kd.R_lower ho35 (below_size (by repeat (first | (with_reducible first | exact HB.out | apply below_alloc | apply pw_below_drewN | apply below_drew1 | refine below_set ?_ GE408.out) | exact HB.out)))); have n1_ := Aside0.mk (blk_below (g := gb408) (o := .cells #[.int .i64 a0_0,.int .i64 a0_1,.int .i64 a0_2,.int .i64 a0_3] 25 (0,0)) (by (with_reducible repeat (first | refine blk_drewN ?_ _ | refine blk_drew ?_ | refine blk_alloc ?_ _)); exact BK408.out) hb); have n2_ := Aside0.mk (below_step (by repeat (first | (with_reducible first | exact HB.out | apply below_alloc | apply pw_below_drewN | apply below_drew1 | refine below_set ?_ GE408.out) | exact HB.out)) hb); clear BK408; clear HB; have HO422 := n0_; have BK408 := n1_; have HB := n2_; clear n0_ n1_ n2_; clear hb ho35))
       go_ret
       exact ⟨_,by first | rfl | (simp [errW_none,errW_some] <;> rfl) | (simp [*,errW_none,errW_some] <;> rfl),by (with_reducible repeat (first | apply Kd.R_alloc | apply Kd.R_drewN | apply Kd.R_drew)); exact HO422.out,by repeat (first | (with_reducible first | exact HB.out | apply below_alloc | apply pw_below_drewN | apply below_drew1 | refine below_set ?_ GE408.out) | exact HB.out)⟩
      ·
       replace c30 := Bool.eq_false_iff.mpr c30
       subst c30
       have H1 : (some (([wrap64 (a1 + 1)] : List Int))) = some r := by rw [if_neg (show ¬ (false = true) by decide)] at H; exact H
       clear H
       have H := H1
       clear H1
       obtain ⟨y423,hy423⟩ : ∃ y_ : List Int,y_ = (([wrap64 (a1 + 1)] : List Int)) := ⟨_,rfl⟩
       replace H : (some y423) = some r := by first | (rw [hy423]; with_reducible exact H) | (have H2_ := (Option.bind_some _ _).symm.trans H; rw [hy423]; with_reducible exact H2_) | (have H2_ := (Option.bind_some _ _).symm.trans H; with_reducible exact H2_) | with_reducible exact H | (rw [hy423]; exact H) | exact H
       have Ny423 := Aside0.mk hy423
       clear hy423
       obtain rfl := Option.some.inj H
       have hcz36_0 : wc.cell? ⟨gb408,0,none⟩ = some (.int .i64 a0_0) := (blk_cell BK408.out 0).trans rfl
       have hcz36_1 : wc.cell? ⟨gb408,1,none⟩ = some (.int .i64 a0_1) := (blk_cell BK408.out 1).trans rfl
       have hcz36_2 : wc.cell? ⟨gb408,2,none⟩ = some (.int .i64 a0_2) := (blk_cell BK408.out 2).trans rfl
       have hcz36_3 : wc.cell? ⟨gb408,3,none⟩ = some (.int .i64 a0_3) := (blk_cell BK408.out 3).trans rfl
       have hfz36_0 := blk_frozen BK408.out 0
       have hfz36_1 := blk_frozen BK408.out 1
       have hfz36_2 := blk_frozen BK408.out 2
       have hfz36_3 := blk_frozen BK408.out 3
       go_wp2_with (first | ((with_reducible refine gate_callee (f := 70) rfl ?_); refine goesL_ (some 49) rfl rfl Try.func70 (by kernel_rfl) rfl #[.agg #[.int .i64 a0_0,.int .i64 a0_1,.int .i64 a0_2,.int .i64 a0_3]] rfl (by (try simp only [List.map_toArray,List.map_cons,List.map_nil]); first | done | rfl | (simp only [List.length_drop,List.length_take]; rfl)) ?_; (with_reducible refine (impl_Ins_asks.calls a0_0 a0_1 a0_2 a0_3 false _ A29.out).mono ?_); rintro e w37 ⟨rfl,hb⟩; refine ⟨_,rfl,?_⟩; have n0_ := Aside0.mk (blk_below (g := gb408) (o := .cells #[.int .i64 a0_0,.int .i64 a0_1,.int .i64 a0_2,.int .i64 a0_3] 25 (0,0)) (by (with_reducible repeat (first | refine blk_drewN ?_ _ | refine blk_drew ?_ | refine blk_alloc ?_ _)); exact BK408.out) hb); have n1_ := Aside0.mk (below_step (by repeat (first | (with_reducible first | exact HB.out | apply below_alloc | apply pw_below_drewN | apply below_drew1 | refine below_set ?_ GE408.out) | exact HB.out)) hb); clear BK408; clear HB; have BK408 := n0_; have HB := n1_; clear n0_ n1_; (try clear hb); (try clear hb2); (try clear hk); (try clear hi)) | ((with_reducible refine gate_dst (N := 58) rfl ?_); refine Kd.R_lit (Kd.int .i64) _ 3 ?hg (N := 58) ?hd (xs := ([wrap64 (a1 + 1)] : List Int)) (inner := [.int .i64 (wrap64 (a1 + 1))]) (ok := fun _ => True) (okp := fun _ => True) ?hr ?hp (fun _ hk => hk) trivial (Below.refl _ _) (Nat.le_refl _) (by simp) ?_; (case hd => rfl); (case hg => rfl); (case hr => first | (go_simp; done) | (go_simp; rfl)); (case hp => exact (Reps.one (show Kd.M (Kd.int .i64) _ _ _ (wrap64 (a1 + 1)) [.int .i64 (wrap64 (a1 + 1))] from rfl) (Reps.none _ _))); intro v424 w38 ho39 hb hg_ hnew_; clear hg_ hnew_; (first | rw [← Ny423.out] at ho39 | (simp only [Int.reduceToNat] at ho39; rw [← Ny423.out] at ho39)); have n0_ := Aside0.mk (Kd.R_lower ho39 (below_size (by repeat (first | (with_reducible first | exact HB.out | apply below_alloc | apply pw_below_drewN | apply below_drew1 | refine below_set ?_ GE408.out) | exact HB.out)))); have n1_ := Aside0.mk (blk_below (g := gb408) (o := .cells #[.int .i64 a0_0,.int .i64 a0_1,.int .i64 a0_2,.int .i64 a0_3] 25 (0,0)) (by (with_reducible repeat (first | refine blk_drewN ?_ _ | refine blk_drew ?_ | refine blk_alloc ?_ _)); exact BK408.out) hb); have n2_ := Aside0.mk (below_step (by repeat (first | (with_reducible first | exact HB.out | apply below_alloc | apply pw_below_drewN | apply below_drew1 | refine below_set ?_ GE408.out) | exact HB.out)) hb); clear BK408; clear HB; have HO425 := n0_; have BK408 := n1_; have HB := n2_; clear n0_ n1_ n2_; clear hb ho39))
       go_ret
       exact ⟨_,by first | rfl | (simp [errW_none,errW_some] <;> rfl) | (simp [*,errW_none,errW_some] <;> rfl),by (with_reducible repeat (first | apply Kd.R_alloc | apply Kd.R_drewN | apply Kd.R_drew)); exact HO425.out,by repeat (first | (with_reducible first | exact HB.out | apply below_alloc | apply pw_below_drewN | apply below_drew1 | refine below_set ?_ GE408.out) | exact HB.out)⟩

end Go.Proofs.Ytfchokhdhnfajaa.PFnRunTold
