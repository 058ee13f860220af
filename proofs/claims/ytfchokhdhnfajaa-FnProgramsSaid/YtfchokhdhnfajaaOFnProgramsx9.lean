/- What the print of the kit wrote of FnPrograms's functions, with some steps of some walks mended by this session. -/
import Derived.Test.YtfchokhdhnfajaaPFnProgramsx0
import Derived.Test.YtfchokhdhnfajaaPFnProgramsx7
import Derived.Test.YtfchokhdhnfajaaOFnProgramsx8
namespace Go.Proofs.Ytfchokhdhnfajaa.PFnPrograms
open Go.RowKit Go.Proofs.YtfchokhdhnfajaaW.PrintWords Go.Proofs.YtfchokhdhnfajaaW.PrintLast Go.Proofs.YtfchokhdhnfajaaW.PrintMore
attribute [local go_sem] max2_int min2_int max_two min_two max_three min_three max_four min_four   -- for this text's walks alone
set_option linter.unusedVariables false
set_option linter.unusedSimpArgs false

/-! ### spec_l06Any: function 79 -/
def spec_l06Any.f (k : Nat) (s0_0 : List Int) (s0_1 : Int) (s0_2 : Int) : Option ((List (S25)) × Int × Int) := (spec_l01Below.f s0_0 s0_1 s0_2 12).bind fun bt304 => ((spec_l01Below.f s0_0 bt304.2.1 bt304.2.2 60).bind fun bt307 => ((some (([] : List (S25)) : List (S25))).bind fun y310 => ((spec_l06Program.f k s0_0 bt307.2.1 bt307.2.2).bind fun bt313 => (if y310.length + bt313.1.length < 4398046511104 then ((some (y310 ++ bt313.1 : List (S25))).bind fun y318 => (if (y318.length : Int) = 0 then (none) else (if bt304.1 = 0 then (if 0 ≤ (Int.tmod bt307.1 (y318.length : Int)) then (if (Int.tmod bt307.1 (y318.length : Int)) < (y318.length : Int) then (some ((y318.set ((Int.tmod bt307.1 (y318.length : Int)) : Int).toNat (⟨Int.tmod bt307.1 10, (rd_T25 y318 (Int.tmod bt307.1 (y318.length : Int))).f1, (rd_T25 y318 (Int.tmod bt307.1 (y318.length : Int))).f2, (rd_T25 y318 (Int.tmod bt307.1 (y318.length : Int))).f3⟩ : S25)), bt313.2.1, bt313.2.2)) else (none)) else (none)) else (if bt304.1 = 1 then ((some (([15, 16, (-1)] : List Int) : List Int)).bind fun y322 => (if 0 ≤ (Int.tmod bt307.1 3) then (if (Int.tmod bt307.1 3) < (y322.length : Int) then (if 0 ≤ (Int.tmod bt307.1 (y318.length : Int)) then (if (Int.tmod bt307.1 (y318.length : Int)) < (y318.length : Int) then (some ((y318.set ((Int.tmod bt307.1 (y318.length : Int)) : Int).toNat (⟨(rd_T25 y318 (Int.tmod bt307.1 (y318.length : Int))).f0, (rd_T25 y318 (Int.tmod bt307.1 (y318.length : Int))).f1, rd y322 (Int.tmod bt307.1 3), (rd_T25 y318 (Int.tmod bt307.1 (y318.length : Int))).f3⟩ : S25)), bt313.2.1, bt313.2.2)) else (none)) else (none)) else (none)) else (none))) else (if bt304.1 = 2 then ((some (([(-1), 4294967296, 400] : List Int) : List Int)).bind fun y327 => (if 0 ≤ (Int.tmod bt307.1 3) then (if (Int.tmod bt307.1 3) < (y327.length : Int) then (if 0 ≤ (Int.tmod bt307.1 (y318.length : Int)) then (if (Int.tmod bt307.1 (y318.length : Int)) < (y318.length : Int) then (some ((y318.set ((Int.tmod bt307.1 (y318.length : Int)) : Int).toNat (⟨(rd_T25 y318 (Int.tmod bt307.1 (y318.length : Int))).f0, rd y327 (Int.tmod bt307.1 3), (rd_T25 y318 (Int.tmod bt307.1 (y318.length : Int))).f2, (rd_T25 y318 (Int.tmod bt307.1 (y318.length : Int))).f3⟩ : S25)), bt313.2.1, bt313.2.2)) else (none)) else (none)) else (none)) else (none))) else (if bt304.1 = 3 then (if 0 ≤ (wrap64 ((y318.length : Int) - 1)) then (if (wrap64 ((y318.length : Int) - 1)) ≤ (y318.length : Int) then (some ((y318.take ((wrap64 ((y318.length : Int) - 1)) : Int).toNat), bt313.2.1, bt313.2.2)) else (none)) else (none)) else (if bt304.1 = 4 then (if 0 ≤ (Int.tmod bt307.1 (y318.length : Int)) then (if (Int.tmod bt307.1 (y318.length : Int)) < (y318.length : Int) then (some ((y318.set ((Int.tmod bt307.1 (y318.length : Int)) : Int).toNat (⟨7, Int.tmod bt307.1 14, 0, 0⟩ : S25)), bt313.2.1, bt313.2.2)) else (none)) else (none)) else (some (y318, bt313.2.1, bt313.2.2))))))))) else (none)))))
theorem spec_l06Any.mono : ∀ a0 a1 a2 k, LeO (spec_l06Any.f k a0 a1 a2) (spec_l06Any.f (k + 1) a0 a1 a2) := by
  intro a0 a1 a2 k
  unfold spec_l06Any.f
  repeat' first
      | (with_reducible exact spec_l06Program.mono _ _ _ _)
      | (with_reducible exact LeO.refl _)
      | (with_reducible exact LeO.none _)
      | (with_reducible refine LeO.ite ?_ ?_)
      | (with_reducible refine LeO.bind ?_ (fun _ => ?_))
      | exact spec_l06Program.mono _ _ _ _
      | exact LeO.none _
      | refine LeO.ite ?_ ?_
      | refine LeO.bind ?_ (fun _ => ?_)
set_option maxHeartbeats 2000000 in
set_option maxRecDepth 100000 in
theorem spec_l06Any.calls (k : Nat) (g : Nat) (s0_0 : List Int) (s0_1 : Int) (s0_2 : Int) (r1 : List (S25)) (r2 : Int) (r3 : Int) (w0 w : World) (hI : IsS102 w0 w g s0_0 s0_1 s0_2) (hB : Below w0.heap.size w0 w) (h : spec_l06Any.f k s0_0 s0_1 s0_2 = some (r1, r2, r3)) :
    Calls Try.prog 79 #[.pointer (some ⟨g, 0, none⟩)] w fun e w' => ∃ v0_ : Value, e = .returned (v0_) ∧ Kd.R k25 25 w' w.heap.size (fun _ => True) v0_ r1 ∧ IsS102 w0 w' g s0_0 r2 r3 ∧ Below w0.heap.size w0 w' ∧ KeepBut w w' g none := by
  have hu25 := Try.underlying25
  have HI0 := Aside0.mk hI
  have HK := Aside0.mk (KeepBut.refl w g none)
  have HW0 := Aside0.mk hB.size
  clear hI
  have HB := Aside0.mk hB
  clear hB
  unfold spec_l06Any.f at h
  obtain ⟨⟨q, i1, g1⟩, h1, h⟩ := Option.bind_eq_some_iff.mp h
  obtain ⟨⟨y, i2, g2⟩, h2, h⟩ := Option.bind_eq_some_iff.mp h
  rw [Option.bind_some] at h
  obtain ⟨⟨p, i3, g3⟩, h3, h⟩ := Option.bind_eq_some_iff.mp h
  dsimp only at h1 h2 h3 h
  rw [List.nil_append] at h
  by_cases c5 : ([] : List S25).length + p.length < 4398046511104
  · rw [if_pos c5, Option.bind_some] at h
    by_cases c6 : (p.length : Int) = 0
    · rw [if_pos c6] at h
      cases h
    · rw [if_neg c6] at h
      have z0 : ((p.length : Int) == 0) = false := beq_eq_false_iff_ne.mpr c6
      have z1 : ¬ (p = []) := fun h_ => c6 (by rw [h_]; rfl)
      have H1 := Aside0.mk h1
      have H2 := Aside0.mk h2
      have H3 := Aside0.mk h3
      have H5 := Aside0.mk c5
      have H6 := Aside0.mk c6
      obtain ⟨j, hj⟩ : ∃ j : Int, Int.tmod y (p.length : Int) = j := ⟨_, rfl⟩
      rw [hj] at h
      have H := Aside0.mk h
      clear h h1 h2 h3 c5 c6
      go_enter Try.func79, Try.ntmps79
      go_upto_region 5 with (first
        | (go_at_call 78; (with_reducible refine (spec_l01Below.calls g s0_0 s0_1 s0_2 12 q i1 g1 w0 _ HI0.out HB.out H1.out).mono ?_); rintro e w1 ⟨rfl, hi, hb, hk⟩; have n1_ := Aside0.mk (KeepBut.trans HK.out hk (.inl rfl)); clear HK HB HI0; have HK := n1_; have HB := Aside0.mk hb; have HI0 := Aside0.mk hi; clear n1_ hb hi hk)
        | (go_at_call 78; (with_reducible refine (spec_l01Below.calls g s0_0 i1 g1 60 y i2 g2 w0 _ HI0.out HB.out H2.out).mono ?_); rintro e w2 ⟨rfl, hi, hb, hk⟩; have n1_ := Aside0.mk (KeepBut.trans HK.out hk (.inl rfl)); clear HK HB HI0; have HK := n1_; have HB := Aside0.mk hb; have HI0 := Aside0.mk hi; clear n1_ hb hi hk)
        | ((with_reducible refine gate_dst (N := 11) rfl ?_); refine Kd.R_lit k25 _ 25 ?hg (N := 11) ?hd (xs := ([] : List (S25))) (inner := []) (ok := fun _ => True) (okp := fun _ => True) ?hr ?hp (fun _ hk => hk) trivial (Below.refl _ _) (Nat.le_refl _) (by simp) ?_; (case hd => rfl); (case hg => rfl); (case hr => first | (go_simp; done) | (go_simp; rfl)); (case hp => exact (Reps.none _ _)); intro v1 w3 ho hb hg_ hnew_; clear hg_ hnew_; have HO := Aside0.mk (Kd.R_lower ho (keep_size HK.out)); have n1_ := Aside0.mk (IsS102.below HI0.out hb); have n2_ := Aside0.mk (KeepBut.trans HK.out (KeepBut.of_below hb g none) (.inl rfl)); have n3_ := Aside0.mk (below_step HB.out hb); clear HI0 HK HB hb ho; have HI0 := n1_; have HK := n2_; have HB := n3_; clear n1_ n2_ n3_)
        | (go_at_call 76; (with_reducible refine (spec_l06Program.calls k g s0_0 i2 g2 p i3 g3 w0 _ HI0.out HB.out H3.out).mono ?_); rintro e w4 ⟨v2, rfl, ho0, hi, hb, hk⟩; have n0_ := Aside0.mk (Kd.R_mono (Kd.R_told (Kd.R_oldK (IsS102.apart HI0.out HO.out (by decide)) hk) (Kd.R_base ho0)) (fun _ h_ => h_.1)); have n1_ := Aside0.mk (Kd.R_lower (Kd.R_new' ho0 (Kd.R_lt HO.out)) (keep_size HK.out)); have n2_ := Aside0.mk (KeepBut.trans HK.out hk (.inl rfl)); clear HO HK HB HI0; have HO := n0_; have HP := n1_; have HK := n2_; have HB := Aside0.mk hb; have HI0 := Aside0.mk hi; clear n0_ n1_ n2_ hb hi hk ho0; obtain ⟨Ap, cp, ep⟩ := Kd.R_slice HP.out; subst ep)
        | ((with_reducible refine gate_builtin (b := .append) (xs := #[.tmp 11, .tmp 13]) rfl ?_); at_builtin; refine Kd.R_append_rows k25 w.heap.size rfl (.tmp 11) (.tmp 13) 37 25 (.agg #[(.int .i64 0), (.int .i64 0), (.int .i64 0), (.int .i64 0)]) 32 rfl Try.underlying37 info25 rfl (by decide) (by omega) v1 ([] : List S25) p _ _ _ (fun k_ => some k_ ≠ (.slice Ap p.length cp : Value).ownBlock) (fun _ => False) rfl rfl ?aO ?aR (fun _ _ h => h) (fun _ h => h.elim) ?aF (Below.refl _ _) ?aS ?aL ?_; (case aR => exact (Kd.R_reads' HP.out).2.2); (case aF => exact (fun k_ hk => Kd.fresh' (Kd.R_lt HP.out) k_ hk)); (case aO => exact Kd.R_mono HO.out (fun _ hk => hk.2)); (case aS => exact keep_size HK.out); (case aL => have := H5.out; omega); intro v3 w5 ho hb hg hat; have n0_ := Aside0.mk (IsS102.grown HI0.out hg (IsS102.own_ne HI0.out HO.out (by decide))); have n2_ := Aside0.mk (below_weaken HB.out HW0.out hb); have n3_ := Aside0.mk (KeepBut.trans HK.out (KeepBut.of_grown hg g) (Kd.R_base2 HO.out)); clear HI0 HB HK HO HP; have HI0 := n0_; have HB := n2_; have HK := n3_; have HO : Aside0 (Kd.R k25 25 w5 w.heap.size (fun _ => True) v3 p) := ⟨Kd.R_mono ho (fun _ _ => trivial)⟩; clear n0_ n2_ n3_ ho hb hg hat; obtain ⟨go, co, eo, gb, gl, cl, hG⟩ := Kd.R_form HO.out (by have := H6.out; omega); subst eo; have HGB := Aside0.mk gb; clear gb gl hG))
      have h := H.out
      clear H
      by_cases q0 : q = 0
      · rw [if_pos q0] at h
        by_cases hj0 : 0 ≤ j
        · rw [if_pos hj0] at h
          by_cases hj1 : j < (p.length : Int)
          · rw [if_pos hj1] at h
            simp only [Option.some.injEq, Prod.mk.injEq] at h
            obtain ⟨rfl, rfl, rfl⟩ := h
            have p0 := eq_true hj0
            have p1 := eq_true hj1
            have b0 : (q == 0) = true := beq_iff_eq.mpr q0
            obtain ⟨ce, hcl, hM, hcc, hfr⟩ := Kd.R_elem HO.out z25 j hj0 hj1; obtain rfl := k25_openM hM; have HP := Kd.R_seg HO.out j hj0 hj1 (seg := [.int .i64 (Int.tmod y 10)]) (j := 0) hcl hcc (show 1 ≤ 4 from by decide) (x' := ((⟨Int.tmod y 10, (rd_T25 p j).f1, (rd_T25 p j).f2, (rd_T25 p j).f3⟩ : S25) : S25)) (k25_mkM _ _ _ ((⟨Int.tmod y 10, (rd_T25 p j).f1, (rd_T25 p j).f2, (rd_T25 p j).f3⟩ : S25) : S25)) (fun _ hk => hk); have hx0 : w5.cell? ⟨go, j.toNat * 4, none⟩ = some (.int .i64 (rd_T25 p j).f0) := hcc 0 _ rfl; have hx1 : w5.cell? ⟨go, j.toNat * 4 + 1, none⟩ = some (.int .i64 (rd_T25 p j).f1) := hcc 1 _ rfl; have hx2 : w5.cell? ⟨go, j.toNat * 4 + 2, none⟩ = some (.int .i64 (rd_T25 p j).f2) := hcc 2 _ rfl; have hx3 : w5.cell? ⟨go, j.toNat * 4 + 3, none⟩ = some (.int .i64 (rd_T25 p j).f3) := hcc 3 _ rfl; have hf0 : w5.frozen? ⟨go, j.toNat * 4, none⟩ = false := hfr 0; have hf1 : w5.frozen? ⟨go, j.toNat * 4 + 1, none⟩ = false := hfr 1; have hf2 : w5.frozen? ⟨go, j.toNat * 4 + 2, none⟩ = false := hfr 2; have hf3 : w5.frozen? ⟨go, j.toNat * 4 + 3, none⟩ = false := hfr 3; have HPA := Aside0.mk HP; clear HP hcl hcc hfr hM
            go_wp2
            go_ret
            exact ⟨_, rfl, Kd.R_mono HPA.out.1 (fun _ _ => trivial), IsS102.grown HI0.out HPA.out.2 (IsS102.own_ne HI0.out HO.out (by decide)), Below.grown HB.out HPA.out.2 HB.out.size (fun k hk => by obtain rfl := Option.some.inj hk; exact Nat.le_trans HW0.out HGB.out), KeepBut.trans HK.out (KeepBut.of_grown HPA.out.2 g) (Kd.R_base2 HO.out)⟩
          · rw [if_neg hj1] at h
            cases h
        · rw [if_neg hj0] at h
          cases h
      · rw [if_neg q0] at h
        by_cases q1 : q = 1
        · rw [if_pos q1] at h
          rw [Option.bind_some] at h
          obtain ⟨jj, hjj⟩ : ∃ jj : Int, Int.tmod y 3 = jj := ⟨_, rfl⟩
          rw [hjj] at h
          by_cases hm0 : 0 ≤ jj
          · rw [if_pos hm0] at h
            by_cases hm1 : jj < (([15, 16, (-1)] : List Int).length : Int)
            · rw [if_pos hm1] at h
              obtain ⟨xv, hxv⟩ : ∃ xv : Int, rd ([15, 16, (-1)] : List Int) jj = xv := ⟨_, rfl⟩
              rw [hxv] at h
              have HXV := Aside0.mk hxv
              clear hxv
              by_cases hj0 : 0 ≤ j
              · rw [if_pos hj0] at h
                by_cases hj1 : j < (p.length : Int)
                · rw [if_pos hj1] at h
                  simp only [Option.some.injEq, Prod.mk.injEq] at h
                  obtain ⟨rfl, rfl, rfl⟩ := h
                  have p0 := eq_true hj0
                  have p1 := eq_true hj1
                  have p2 := eq_true hm0
                  have p3 := eq_true hm1
                  have p4 : (jj < 3) = True := eq_true hm1
                  have b0 : (q == 0) = false := beq_eq_false_iff_ne.mpr q0; have b1 : (q == 1) = true := beq_iff_eq.mpr q1
                  go_wp2_with ((with_reducible refine gate_dst (N := 32) rfl ?_); refine Kd.R_lit (Kd.int .i64) _ 3 ?hg (N := 32) ?hd (xs := ([15, 16, (-1)] : List Int)) (inner := [.int .i64 15, .int .i64 16, .int .i64 (-1)]) (ok := fun _ => True) (okp := fun _ => True) ?hr ?hp (fun _ hk => hk) trivial (Below.refl _ _) (Nat.le_refl _) (by simp) ?_; (case hd => rfl); (case hg => rfl); (case hr => first | (go_simp; done) | (go_simp; rfl)); (case hp => exact (Reps.one (show Kd.M (Kd.int .i64) _ _ _ 15 [.int .i64 15] from rfl) (Reps.one (show Kd.M (Kd.int .i64) _ _ _ 16 [.int .i64 16] from rfl) (Reps.one (show Kd.M (Kd.int .i64) _ _ _ (-1) [.int .i64 (-1)] from rfl) (Reps.none _ _))))); intro v8 w6 ho hb hg_ hnew_; clear hg_ hnew_; have n0_ := Aside0.mk (Kd.R_below HO.out hb); have n1_ := Aside0.mk (IsS102.below HI0.out hb); have n2_ := Aside0.mk (KeepBut.trans HK.out (KeepBut.of_below hb g none) (.inl rfl)); have n3_ := Aside0.mk (below_step HB.out hb); clear HO HI0 HK HB; have HO := n0_; have HI0 := n1_; have HK := n2_; have HB := n3_; clear n0_ n1_ n2_ n3_ hb; obtain ⟨A8, c8, e8⟩ := Kd.R_slice ho; subst e8; obtain ⟨ad8, e9, hx8⟩ := Kd.at_int (Kd.R_reads' ho).2.2 jj hm0 hm1; cases e9; rw [HXV.out] at hx8; clear ho; obtain ⟨ce, hcl, hM, hcc, hfr⟩ := Kd.R_elem HO.out z25 j hj0 hj1; obtain rfl := k25_openM hM; have HP := Kd.R_seg HO.out j hj0 hj1 (seg := [.int .i64 (xv)]) (j := 2) hcl hcc (show 3 ≤ 4 from by decide) (x' := ((⟨(rd_T25 p j).f0, (rd_T25 p j).f1, xv, (rd_T25 p j).f3⟩ : S25) : S25)) (k25_mkM _ _ _ ((⟨(rd_T25 p j).f0, (rd_T25 p j).f1, xv, (rd_T25 p j).f3⟩ : S25) : S25)) (fun _ hk => hk); have hx0 : w6.cell? ⟨go, j.toNat * 4, none⟩ = some (.int .i64 (rd_T25 p j).f0) := hcc 0 _ rfl; have hx1 : w6.cell? ⟨go, j.toNat * 4 + 1, none⟩ = some (.int .i64 (rd_T25 p j).f1) := hcc 1 _ rfl; have hx2 : w6.cell? ⟨go, j.toNat * 4 + 2, none⟩ = some (.int .i64 (rd_T25 p j).f2) := hcc 2 _ rfl; have hx3 : w6.cell? ⟨go, j.toNat * 4 + 3, none⟩ = some (.int .i64 (rd_T25 p j).f3) := hcc 3 _ rfl; have hf0 : w6.frozen? ⟨go, j.toNat * 4, none⟩ = false := hfr 0; have hf1 : w6.frozen? ⟨go, j.toNat * 4 + 1, none⟩ = false := hfr 1; have hf2 : w6.frozen? ⟨go, j.toNat * 4 + 2, none⟩ = false := hfr 2; have hf3 : w6.frozen? ⟨go, j.toNat * 4 + 3, none⟩ = false := hfr 3; have HPA := Aside0.mk HP; clear HP hcl hcc hfr hM)
                  go_ret
                  exact ⟨_, rfl, Kd.R_mono HPA.out.1 (fun _ _ => trivial), IsS102.grown HI0.out HPA.out.2 (IsS102.own_ne HI0.out HO.out (by decide)), Below.grown HB.out HPA.out.2 HB.out.size (fun k hk => by obtain rfl := Option.some.inj hk; exact Nat.le_trans HW0.out HGB.out), KeepBut.trans HK.out (KeepBut.of_grown HPA.out.2 g) (Kd.R_base2 HO.out)⟩
                · rw [if_neg hj1] at h
                  cases h
              · rw [if_neg hj0] at h
                cases h
            · rw [if_neg hm1] at h
              cases h
          · rw [if_neg hm0] at h
            cases h
        · rw [if_neg q1] at h
          by_cases q2 : q = 2
          · rw [if_pos q2] at h
            rw [Option.bind_some] at h
            obtain ⟨jj, hjj⟩ : ∃ jj : Int, Int.tmod y 3 = jj := ⟨_, rfl⟩
            rw [hjj] at h
            by_cases hm0 : 0 ≤ jj
            · rw [if_pos hm0] at h
              by_cases hm1 : jj < (([(-1), 4294967296, 400] : List Int).length : Int)
              · rw [if_pos hm1] at h
                obtain ⟨xv, hxv⟩ : ∃ xv : Int, rd ([(-1), 4294967296, 400] : List Int) jj = xv := ⟨_, rfl⟩
                rw [hxv] at h
                have HXV := Aside0.mk hxv
                clear hxv
                by_cases hj0 : 0 ≤ j
                · rw [if_pos hj0] at h
                  by_cases hj1 : j < (p.length : Int)
                  · rw [if_pos hj1] at h
                    simp only [Option.some.injEq, Prod.mk.injEq] at h
                    obtain ⟨rfl, rfl, rfl⟩ := h
                    have p0 := eq_true hj0
                    have p1 := eq_true hj1
                    have p2 := eq_true hm0
                    have p3 := eq_true hm1
                    have p4 : (jj < 3) = True := eq_true hm1
                    have b0 : (q == 0) = false := beq_eq_false_iff_ne.mpr q0; have b1 : (q == 1) = false := beq_eq_false_iff_ne.mpr q1; have b2 : (q == 2) = true := beq_iff_eq.mpr q2
                    go_wp2_with ((with_reducible refine gate_dst (N := 43) rfl ?_); refine Kd.R_lit (Kd.int .i64) _ 3 ?hg (N := 43) ?hd (xs := ([(-1), 4294967296, 400] : List Int)) (inner := [.int .i64 (-1), .int .i64 4294967296, .int .i64 400]) (ok := fun _ => True) (okp := fun _ => True) ?hr ?hp (fun _ hk => hk) trivial (Below.refl _ _) (Nat.le_refl _) (by simp) ?_; (case hd => rfl); (case hg => rfl); (case hr => first | (go_simp; done) | (go_simp; rfl)); (case hp => exact (Reps.one (show Kd.M (Kd.int .i64) _ _ _ (-1) [.int .i64 (-1)] from rfl) (Reps.one (show Kd.M (Kd.int .i64) _ _ _ 4294967296 [.int .i64 4294967296] from rfl) (Reps.one (show Kd.M (Kd.int .i64) _ _ _ 400 [.int .i64 400] from rfl) (Reps.none _ _))))); intro v8 w6 ho hb hg_ hnew_; clear hg_ hnew_; have n0_ := Aside0.mk (Kd.R_below HO.out hb); have n1_ := Aside0.mk (IsS102.below HI0.out hb); have n2_ := Aside0.mk (KeepBut.trans HK.out (KeepBut.of_below hb g none) (.inl rfl)); have n3_ := Aside0.mk (below_step HB.out hb); clear HO HI0 HK HB; have HO := n0_; have HI0 := n1_; have HK := n2_; have HB := n3_; clear n0_ n1_ n2_ n3_ hb; obtain ⟨A8, c8, e8⟩ := Kd.R_slice ho; subst e8; obtain ⟨ad8, e9, hx8⟩ := Kd.at_int (Kd.R_reads' ho).2.2 jj hm0 hm1; cases e9; rw [HXV.out] at hx8; clear ho; obtain ⟨ce, hcl, hM, hcc, hfr⟩ := Kd.R_elem HO.out z25 j hj0 hj1; obtain rfl := k25_openM hM; have HP := Kd.R_seg HO.out j hj0 hj1 (seg := [.int .i64 (xv)]) (j := 1) hcl hcc (show 2 ≤ 4 from by decide) (x' := ((⟨(rd_T25 p j).f0, xv, (rd_T25 p j).f2, (rd_T25 p j).f3⟩ : S25) : S25)) (k25_mkM _ _ _ ((⟨(rd_T25 p j).f0, xv, (rd_T25 p j).f2, (rd_T25 p j).f3⟩ : S25) : S25)) (fun _ hk => hk); have hx0 : w6.cell? ⟨go, j.toNat * 4, none⟩ = some (.int .i64 (rd_T25 p j).f0) := hcc 0 _ rfl; have hx1 : w6.cell? ⟨go, j.toNat * 4 + 1, none⟩ = some (.int .i64 (rd_T25 p j).f1) := hcc 1 _ rfl; have hx2 : w6.cell? ⟨go, j.toNat * 4 + 2, none⟩ = some (.int .i64 (rd_T25 p j).f2) := hcc 2 _ rfl; have hx3 : w6.cell? ⟨go, j.toNat * 4 + 3, none⟩ = some (.int .i64 (rd_T25 p j).f3) := hcc 3 _ rfl; have hf0 : w6.frozen? ⟨go, j.toNat * 4, none⟩ = false := hfr 0; have hf1 : w6.frozen? ⟨go, j.toNat * 4 + 1, none⟩ = false := hfr 1; have hf2 : w6.frozen? ⟨go, j.toNat * 4 + 2, none⟩ = false := hfr 2; have hf3 : w6.frozen? ⟨go, j.toNat * 4 + 3, none⟩ = false := hfr 3; have HPA := Aside0.mk HP; clear HP hcl hcc hfr hM)
                    go_ret
                    exact ⟨_, rfl, Kd.R_mono HPA.out.1 (fun _ _ => trivial), IsS102.grown HI0.out HPA.out.2 (IsS102.own_ne HI0.out HO.out (by decide)), Below.grown HB.out HPA.out.2 HB.out.size (fun k hk => by obtain rfl := Option.some.inj hk; exact Nat.le_trans HW0.out HGB.out), KeepBut.trans HK.out (KeepBut.of_grown HPA.out.2 g) (Kd.R_base2 HO.out)⟩
                  · rw [if_neg hj1] at h
                    cases h
                · rw [if_neg hj0] at h
                  cases h
              · rw [if_neg hm1] at h
                cases h
            · rw [if_neg hm0] at h
              cases h
          · rw [if_neg q2] at h
            by_cases q3 : q = 3
            · rw [if_pos q3] at h
              obtain ⟨jc, hjc⟩ : ∃ jc : Int, wrap64 ((p.length : Int) - 1) = jc := ⟨_, rfl⟩
              rw [hjc] at h
              by_cases hm0 : 0 ≤ jc
              · rw [if_pos hm0] at h
                by_cases hm1 : jc ≤ (p.length : Int)
                · rw [if_pos hm1] at h
                  simp only [Option.some.injEq, Prod.mk.injEq] at h
                  obtain ⟨rfl, rfl, rfl⟩ := h
                  have b0 : (q == 0) = false := beq_eq_false_iff_ne.mpr q0; have b1 : (q == 1) = false := beq_eq_false_iff_ne.mpr q1; have b2 : (q == 2) = false := beq_eq_false_iff_ne.mpr q2; have b3 : (q == 3) = true := beq_iff_eq.mpr q3
                  obtain ⟨i0, hi0, _, hsz, _⟩ := info_parts info25
                  have hcut := cut_to (P := Try.prog) 37 25 .i64 Try.underlying37 hi0 (some ⟨go, 0, none⟩) p.length co jc hm0 hm1 (Kd.R_reads' HO.out).2.1
                  have HPA := Aside0.mk (Kd.R_take (m := jc.toNat) HO.out (by omega))
                  clear hi0 hsz
                  have p2 := eq_true hm0
                  have p3 := eq_true hm1
                  go_wp2
                  go_ret
                  exact ⟨_, rfl, HPA.out, HI0.out, HB.out, HK.out⟩
                · rw [if_neg hm1] at h
                  cases h
              · rw [if_neg hm0] at h
                cases h
            · rw [if_neg q3] at h
              by_cases q4 : q = 4
              · rw [if_pos q4] at h
                by_cases hj0 : 0 ≤ j
                · rw [if_pos hj0] at h
                  by_cases hj1 : j < (p.length : Int)
                  · rw [if_pos hj1] at h
                    simp only [Option.some.injEq, Prod.mk.injEq] at h
                    obtain ⟨rfl, rfl, rfl⟩ := h
                    have p0 := eq_true hj0
                    have p1 := eq_true hj1
                    have b0 : (q == 0) = false := beq_eq_false_iff_ne.mpr q0; have b1 : (q == 1) = false := beq_eq_false_iff_ne.mpr q1; have b2 : (q == 2) = false := beq_eq_false_iff_ne.mpr q2; have b3 : (q == 3) = false := beq_eq_false_iff_ne.mpr q3; have b4 : (q == 4) = true := beq_iff_eq.mpr q4
                    obtain ⟨ce, hcl, hM, hcc, hfr⟩ := Kd.R_elem HO.out z25 j hj0 hj1; obtain rfl := k25_openM hM; have HP := Kd.R_seg HO.out j hj0 hj1 (seg := [.int .i64 7, .int .i64 (Int.tmod y 14), .int .i64 0, .int .i64 0]) (j := 0) hcl hcc (show 4 ≤ 4 from by decide) (x' := ((⟨7, Int.tmod y 14, 0, 0⟩ : S25) : S25)) (k25_mkM _ _ _ ((⟨7, Int.tmod y 14, 0, 0⟩ : S25) : S25)) (fun _ hk => hk); have hx0 : w5.cell? ⟨go, j.toNat * 4, none⟩ = some (.int .i64 (rd_T25 p j).f0) := hcc 0 _ rfl; have hx1 : w5.cell? ⟨go, j.toNat * 4 + 1, none⟩ = some (.int .i64 (rd_T25 p j).f1) := hcc 1 _ rfl; have hx2 : w5.cell? ⟨go, j.toNat * 4 + 2, none⟩ = some (.int .i64 (rd_T25 p j).f2) := hcc 2 _ rfl; have hx3 : w5.cell? ⟨go, j.toNat * 4 + 3, none⟩ = some (.int .i64 (rd_T25 p j).f3) := hcc 3 _ rfl; have hf0 : w5.frozen? ⟨go, j.toNat * 4, none⟩ = false := hfr 0; have hf1 : w5.frozen? ⟨go, j.toNat * 4 + 1, none⟩ = false := hfr 1; have hf2 : w5.frozen? ⟨go, j.toNat * 4 + 2, none⟩ = false := hfr 2; have hf3 : w5.frozen? ⟨go, j.toNat * 4 + 3, none⟩ = false := hfr 3; have HPA := Aside0.mk HP; clear HP hcl hcc hfr hM
                    go_wp2
                    go_ret
                    exact ⟨_, rfl, Kd.R_mono HPA.out.1 (fun _ _ => trivial), IsS102.grown HI0.out HPA.out.2 (IsS102.own_ne HI0.out HO.out (by decide)), Below.grown HB.out HPA.out.2 HB.out.size (fun k hk => by obtain rfl := Option.some.inj hk; exact Nat.le_trans HW0.out HGB.out), KeepBut.trans HK.out (KeepBut.of_grown HPA.out.2 g) (Kd.R_base2 HO.out)⟩
                  · rw [if_neg hj1] at h
                    cases h
                · rw [if_neg hj0] at h
                  cases h
              · rw [if_neg q4] at h
                simp only [Option.some.injEq, Prod.mk.injEq] at h
                obtain ⟨rfl, rfl, rfl⟩ := h
                have b0 : (q == 0) = false := beq_eq_false_iff_ne.mpr q0; have b1 : (q == 1) = false := beq_eq_false_iff_ne.mpr q1; have b2 : (q == 2) = false := beq_eq_false_iff_ne.mpr q2; have b3 : (q == 3) = false := beq_eq_false_iff_ne.mpr q3; have b4 : (q == 4) = false := beq_eq_false_iff_ne.mpr q4; have b9 := True.intro
                go_wp2
                go_ret
                exact ⟨_, rfl, HO.out, HI0.out, HB.out, HK.out⟩
  · rw [if_neg c5] at h
    cases h

/-! ### spec_l01Text: function 101 -/
mutual
def spec_l01Text.j0 : Nat → Int → List Int → Int → Int → Option (ByteArray × Int × Int)
  | 0, _, _, _, _ => none
  | k + 1, x1, x1000, x1001, x1002 => spec_l01Text.l0 k x1 (([] : List Int)) 0 x1000 x1001 x1002
def spec_l01Text.l0 : Nat → Int → List Int → Int → List Int → Int → Int → Option (ByteArray × Int × Int)
  | 0, _, _, _, _, _, _ => none
  | k + 1, x1, x5, x6, x1000, x1001, x1002 => if x6 < x1 then ((spec_l01Byte.f x1000 x1001 x1002).bind fun bt339 => (if x5.length < 140737488355328 then (spec_l01Text.l0 k x1 (x5 ++ [(bt339.1) % 256]) (wrap64 (x6 + 1)) x1000 bt339.2.1 bt339.2.2) else (none))) else (some (strOfNums x5, x1001, x1002))
end
def spec_l01Text.f (k : Nat) (s0_0 : List Int) (s0_1 : Int) (s0_2 : Int) (a1 : Int) : Option (ByteArray × Int × Int) := if a1 > 5000 then (spec_l01Text.j0 k 5000 s0_0 s0_1 s0_2) else (spec_l01Text.j0 k a1 s0_0 s0_1 s0_2)
theorem spec_l01Text.mono_l : ∀ k, (∀ y0 y1 y2 y3, LeO (spec_l01Text.j0 k y0 y1 y2 y3) (spec_l01Text.j0 (k + 1) y0 y1 y2 y3)) ∧ (∀ y0 y1 y2 y3 y4 y5, LeO (spec_l01Text.l0 k y0 y1 y2 y3 y4 y5) (spec_l01Text.l0 (k + 1) y0 y1 y2 y3 y4 y5))
  | 0 => ⟨fun _ _ _ _ r h => by simp [spec_l01Text.j0] at h, fun _ _ _ _ _ _ r h => by simp [spec_l01Text.l0] at h⟩
  | k + 1 => by
    obtain ⟨ih0, ih1⟩ := spec_l01Text.mono_l k
    refine ⟨?_, ?_⟩
    · intro y0 y1 y2 y3
      unfold spec_l01Text.j0
      repeat' first
      | (with_reducible exact ih0 _ _ _ _)
      | (with_reducible exact ih1 _ _ _ _ _ _)
      | (with_reducible exact LeO.refl _)
      | (with_reducible exact LeO.none _)
      | (with_reducible refine LeO.ite ?_ ?_)
      | (with_reducible refine LeO.bind ?_ (fun _ => ?_))
      | exact ih0 _ _ _ _
      | exact ih1 _ _ _ _ _ _
      | exact LeO.none _
      | refine LeO.ite ?_ ?_
      | refine LeO.bind ?_ (fun _ => ?_)
    · intro y0 y1 y2 y3 y4 y5
      unfold spec_l01Text.l0
      repeat' first
      | (with_reducible exact ih0 _ _ _ _)
      | (with_reducible exact ih1 _ _ _ _ _ _)
      | (with_reducible exact LeO.refl _)
      | (with_reducible exact LeO.none _)
      | (with_reducible refine LeO.ite ?_ ?_)
      | (with_reducible refine LeO.bind ?_ (fun _ => ?_))
      | exact ih0 _ _ _ _
      | exact ih1 _ _ _ _ _ _
      | exact LeO.none _
      | refine LeO.ite ?_ ?_
      | refine LeO.bind ?_ (fun _ => ?_)
theorem spec_l01Text.mono : ∀ a0 a1 a2 a3 k, LeO (spec_l01Text.f k a0 a1 a2 a3) (spec_l01Text.f (k + 1) a0 a1 a2 a3) := by
  intro a0 a1 a2 a3 k
  obtain ⟨ih0, ih1⟩ := spec_l01Text.mono_l k
  unfold spec_l01Text.f
  repeat' first
      | (with_reducible exact ih0 _ _ _ _)
      | (with_reducible exact ih1 _ _ _ _ _ _)
      | (with_reducible exact LeO.refl _)
      | (with_reducible exact LeO.none _)
      | (with_reducible refine LeO.ite ?_ ?_)
      | (with_reducible refine LeO.bind ?_ (fun _ => ?_))
      | exact ih0 _ _ _ _
      | exact ih1 _ _ _ _ _ _
      | exact LeO.none _
      | refine LeO.ite ?_ ?_
      | refine LeO.bind ?_ (fun _ => ?_)
set_option maxHeartbeats 8000000 in
set_option maxRecDepth 100000 in
theorem spec_l01Text.calls (k : Nat) (g : Nat) (s0_0 : List Int) (s0_1 : Int) (s0_2 : Int) (a1 : Int) (r1 : ByteArray) (r2 : Int) (r3 : Int) (w0 w : World) (hI : IsS102 w0 w g s0_0 s0_1 s0_2) (hB : Below w0.heap.size w0 w) (h : spec_l01Text.f k s0_0 s0_1 s0_2 a1 = some (r1, r2, r3)) :
    Calls Try.prog 101 #[.pointer (some ⟨g, 0, none⟩), .int .i64 a1] w fun e w' => e = .returned (.string r1) ∧ IsS102 w0 w' g s0_0 r2 r3 ∧ Below w0.heap.size w0 w' ∧ KeepBut w w' g none := by
  have HI0 := Aside0.mk hI
  have HK := Aside0.mk (KeepBut.refl w g none)
  have HL := Aside0.mk hB.size
  clear hI
  have HW0 := Aside0.mk hB.size
  have HB := Aside0.mk hB
  clear hB
  have H : (if a1 > 5000 then (spec_l01Text.j0 k 5000 s0_0 s0_1 s0_2) else (spec_l01Text.j0 k a1 s0_0 s0_1 s0_2)) = some (r1, r2, r3) := h
  clear h
  have HC3 := Aside0.mk H
  clear H
  go_enter Try.func101, Try.ntmps101
  go_upto_if 8 with (fail)
  go_cut [1] (fun v1 wc => ∃ (kq : Nat) (x1_2 : Int), v1 = .int .i64 x1_2 ∧ Aside0 (spec_l01Text.j0 kq x1_2 s0_0 s0_1 s0_2 = some (r1, r2, r3)) ∧ Aside0 (kq ≤ k) ∧ Aside0 (IsS102 w0 wc g s0_0 s0_1 s0_2) ∧ Aside0 (KeepBut w wc g none) ∧ Aside0 (Below w0.heap.size w0 wc))
  case first =>
    have H := HC3.out
    clear HC3
    by_cases c4 : a1 > 5000
    · rw [if_pos c4] at H
      have c4b0 : decide (5000 < a1) = true := decide_eq_true c4
      clear c4
      (first | rw [c4b0] | (simp only [i64_w, i32_w]; rw [c4b0]) | skip)
      have H' := Aside0.mk H
      clear H
      go_wp2
      go_meet
      case rel => exact ⟨_, (5000), (by first | rfl | (simp; done) | (simp [*]; done)), H', ⟨by first | omega | exact Nat.le_refl _⟩, ⟨by repeat (first | (with_reducible first | exact HI0.out | apply IsS102.alloc | apply IsS102.drewN | apply IsS102.drew | apply IsS102.set_1 | apply IsS102.set_2) | exact HI0.out)⟩, ⟨by repeat (first | (with_reducible first | exact HK.out | apply KeepBut.set_ | apply keep_drewN | apply keep_drew | apply keep_alloc) | exact HK.out)⟩, ⟨by repeat (first | (with_reducible first | exact HB.out | apply below_alloc | apply pw_below_drewN | apply below_drew1 | refine below_set ?_ (IsS102.ge HI0.out)) | exact HB.out)⟩⟩
    · rw [if_neg c4] at H
      have c4b0 : decide (5000 < a1) = false := decide_eq_false c4
      clear c4
      (first | rw [c4b0] | (simp only [i64_w, i32_w]; rw [c4b0]) | skip)
      have H' := Aside0.mk H
      clear H
      go_wp2
      go_meet
      case rel => exact ⟨_, (a1), (by first | rfl | (simp; done) | (simp [*]; done)), H', ⟨by first | omega | exact Nat.le_refl _⟩, ⟨by repeat (first | (with_reducible first | exact HI0.out | apply IsS102.alloc | apply IsS102.drewN | apply IsS102.drew | apply IsS102.set_1 | apply IsS102.set_2) | exact HI0.out)⟩, ⟨by repeat (first | (with_reducible first | exact HK.out | apply KeepBut.set_ | apply keep_drewN | apply keep_drew | apply keep_alloc) | exact HK.out)⟩, ⟨by repeat (first | (with_reducible first | exact HB.out | apply below_alloc | apply pw_below_drewN | apply below_drew1 | refine below_set ?_ (IsS102.ge HI0.out)) | exact HB.out)⟩⟩
  case rest =>
    clear HC3
    try clear c1
    try clear p2
    try clear c4
    try clear c4b0
    obtain ⟨kq, x1_2, rfl, HA, HJ2, HI0, HK, HB⟩ := hcut
    cases kq with
    | zero => exact absurd HA.out (by simp [spec_l01Text.j0])
    | succ kj2 =>
      have H := HA.out
      clear HA
      simp only [spec_l01Text.j0] at H
      obtain ⟨y336, hy336⟩ : ∃ y_ : List Int, y_ = (([] : List Int)) := ⟨_, rfl⟩
      replace H : (spec_l01Text.l0 kj2 x1_2 y336 0 s0_0 s0_1 s0_2) = some (r1, r2, r3) := by first | (rw [hy336]; with_reducible exact H) | (have H2_ := (Option.bind_some _ _).symm.trans H; rw [hy336]; with_reducible exact H2_) | (have H2_ := (Option.bind_some _ _).symm.trans H; with_reducible exact H2_) | with_reducible exact H | (rw [hy336]; exact H) | exact H
      have Ny336 := Aside0.mk hy336
      clear hy336
      have H' := Aside0.mk H
      clear H
      go_wp2_with (first | ((with_reducible refine gate_dst (N := 9) rfl ?_); refine Kd.R_lit (Kd.int .u8) _ 5 ?hg (N := 9) ?hd (xs := ([] : List Int)) (inner := []) (ok := fun _ => True) (okp := fun _ => True) ?hr ?hp (fun _ hk => hk) trivial (Below.refl _ _) (Nat.le_refl _) (by simp) ?_; (case hd => rfl); (case hg => rfl); (case hr => first | (go_simp; done) | (go_simp; rfl)); (case hp => exact (Reps.none _ _)); intro v337 w5 ho6 hb hg_ hnew_; clear hg_ hnew_; (first | rw [← Ny336.out] at ho6 | (simp only [Int.reduceToNat] at ho6; rw [← Ny336.out] at ho6)); have n0_ := Aside0.mk (Kd.R_lower ho6 (keep_size (w := w) (g := g) (row := none) (by repeat (first | (with_reducible first | exact HK.out | apply KeepBut.set_ | apply keep_drewN | apply keep_drew | apply keep_alloc) | exact HK.out)))); have n1_ := Aside0.mk (IsS102.below (by repeat (first | (with_reducible first | exact HI0.out | apply IsS102.alloc | apply IsS102.drewN | apply IsS102.drew | apply IsS102.set_1 | apply IsS102.set_2) | exact HI0.out)) hb); have n2_ := Aside0.mk (KeepBut.trans (by repeat (first | (with_reducible first | exact HK.out | apply KeepBut.set_ | apply keep_drewN | apply keep_drew | apply keep_alloc) | exact HK.out)) (KeepBut.of_below hb g none) (.inl rfl)); have n3_ := Aside0.mk (below_step (by repeat (first | (with_reducible first | exact HB.out | apply below_alloc | apply pw_below_drewN | apply below_drew1 | refine below_set ?_ (IsS102.ge HI0.out)) | exact HB.out)) hb); clear HI0; clear HK; clear HB; have HO338 := n0_; have HI0 := n1_; have HK := n2_; have HB := n3_; clear n0_ n1_ n2_ n3_; clear hb ho6))
      go_loopg [5, 6] kj2 (fun kq v5 v6 w' => ∃ (x5_2 : List Int) (x6_2 : Int) (x1001_2 : Int) (x1002_2 : Int), v6 = .int .i64 x6_2 ∧ Aside0 (spec_l01Text.l0 kq x1_2 x5_2 x6_2 s0_0 x1001_2 x1002_2 = some (r1, r2, r3)) ∧ Aside0 (kq ≤ kj2) ∧ Aside0 (Kd.R (Kd.int .u8) 5 w' w.heap.size (fun _ => True) v5 x5_2) ∧ Aside0 (IsS102 w0 w' g s0_0 x1001_2 x1002_2) ∧ Aside0 (KeepBut w w' g none) ∧ Aside0 (Below w0.heap.size w0 w'))
      case atStart => exact ⟨(y336), (0), (s0_1), (s0_2), (by first | rfl | (simp; done) | (simp [*]; done)), H', ⟨Nat.le_refl _⟩, ⟨by (with_reducible repeat (first | apply Kd.R_alloc | apply Kd.R_drewN | apply Kd.R_drew)); exact HO338.out⟩, ⟨by repeat (first | (with_reducible first | exact HI0.out | apply IsS102.alloc | apply IsS102.drewN | apply IsS102.drew | apply IsS102.set_1 | apply IsS102.set_2) | exact HI0.out)⟩, ⟨by repeat (first | (with_reducible first | exact HK.out | apply KeepBut.set_ | apply keep_drewN | apply keep_drew | apply keep_alloc) | exact HK.out)⟩, ⟨by repeat (first | (with_reducible first | exact HB.out | apply below_alloc | apply pw_below_drewN | apply below_drew1 | refine below_set ?_ (IsS102.ge HI0.out)) | exact HB.out)⟩⟩
      case round =>
        clear H'
        try clear c1
        try clear p2
        try clear c4
        try clear c4b0
        try clear p2
        obtain ⟨x5_2, x6_2, x1001_2, x1002_2, rfl, HA, HK2, HO_5, HI0, HK, HB⟩ := hrel
        cases gk with
        | zero => exact absurd HA.out (by simp [spec_l01Text.l0])
        | succ k2 =>
          have H := HA.out
          clear HA
          simp only [spec_l01Text.l0] at H
          by_cases c7 : x6_2 < x1_2
          · rw [if_pos c7] at H
            have c7b0 : decide (x6_2 < x1_2) = true := decide_eq_true c7
            clear c7
            replace H := Option.bind_eq_some_iff.mp H
            obtain ⟨⟨t339, t340, t341⟩, A80, H⟩ := H
            replace H : (if x5_2.length < 140737488355328 then (spec_l01Text.l0 k2 x1_2 (x5_2 ++ [(t339) % 256]) (wrap64 (x6_2 + 1)) s0_0 t340 t341) else (none)) = some (r1, r2, r3) := H
            have A8 := Aside0.mk A80
            clear A80
            by_cases c9 : x5_2.length < 140737488355328
            · rw [if_pos c9] at H
              have LMc9 := Aside0.mk c9
              clear c9
              obtain ⟨y342, hy342⟩ : ∃ y_ : List Int, y_ = (x5_2 ++ [(t339) % 256]) := ⟨_, rfl⟩
              replace H : (spec_l01Text.l0 k2 x1_2 y342 (wrap64 (x6_2 + 1)) s0_0 t340 t341) = some (r1, r2, r3) := by first | (rw [hy342]; with_reducible exact H) | (have H2_ := (Option.bind_some _ _).symm.trans H; rw [hy342]; with_reducible exact H2_) | (have H2_ := (Option.bind_some _ _).symm.trans H; with_reducible exact H2_) | with_reducible exact H | (rw [hy342]; exact H) | exact H
              have Ny342 := Aside0.mk hy342
              clear hy342
              have H' := Aside0.mk H
              clear H
              go_wp2_with (first | ((with_reducible refine gate_callee (f := 100) rfl ?_); refine goesL_ (some 17) rfl rfl Try.func100 (by kernel_rfl) rfl #[.pointer (some ⟨g, 0, none⟩)] rfl (by (try simp only [List.map_toArray, List.map_cons, List.map_nil]); first | done | rfl | (simp only [List.length_drop, List.length_take]; rfl)) ?_; (with_reducible refine (spec_l01Byte.calls g s0_0 x1001_2 x1002_2 t339 t340 t341 w0 _ ?side1 ?side2 A8.out).mono ?_); (case side1 => repeat (first | (with_reducible first | exact HI0.out | apply IsS102.alloc | apply IsS102.drewN | apply IsS102.drew | apply IsS102.set_1 | apply IsS102.set_2) | exact HI0.out)); (case side2 => repeat (first | (with_reducible first | exact HB.out | apply below_alloc | apply pw_below_drewN | apply below_drew1 | refine below_set ?_ (IsS102.ge HI0.out)) | exact HB.out)); rintro e w10 ⟨rfl, hi, hb, hk⟩; refine ⟨_, rfl, ?_⟩; have n0_ := Aside0.mk (Kd.R_mono (Kd.R_keep (IsS102.apart (show IsS102 w0 _ g s0_0 x1001_2 x1002_2 from by repeat (first | (with_reducible first | exact HI0.out | apply IsS102.alloc | apply IsS102.drewN | apply IsS102.drew | apply IsS102.set_1 | apply IsS102.set_2) | exact HI0.out)) (by (with_reducible repeat (first | apply Kd.R_alloc | apply Kd.R_drewN | apply Kd.R_drew)); exact HO_5.out) (by decide)) hk (fun _ h => h.2)) (fun _ h => h.1)); have n1_ := Aside0.mk (KeepBut.trans (by repeat (first | (with_reducible first | exact HK.out | apply KeepBut.set_ | apply keep_drewN | apply keep_drew | apply keep_alloc) | exact HK.out)) hk (.inl rfl)); have n2_ := Aside0.mk (hb); have n3_ := Aside0.mk (hi); clear HO_5; clear HK; clear HB; clear HI0; have HO_5 := n0_; have HK := n1_; have HB := n2_; have HI0 := n3_; clear n0_ n1_ n2_ n3_; (try clear hb); (try clear hb2); (try clear hk); (try clear hi)) | ((with_reducible refine gate_builtin (b := .append) (xs := #[.tmp 15, .tmp 19]) rfl ?_); at_builtin; refine Kd.R_append (Kd.int .u8) w.heap.size rfl (.tmp 15) (.tmp 19) 44 5 (.int .u8 0) 1 rfl Try.underlying44 info5 rfl (by decide) (by omega) u5 x5_2 ((t339) % 256) [.int .u8 ((t339) % 256)] (fun _ => True) (fun _ => False) rfl rfl ?aP (fun _ hk => hk.elim) ?aF ?aO (Below.refl _ _) ?aS ?aL ?_; (case aP => exact rfl); (case aF => exact (fun _ _ => trivial)); (case aO => exact (by (with_reducible repeat (first | apply Kd.R_alloc | apply Kd.R_drewN | apply Kd.R_drew)); exact HO_5.out)); (case aS => exact (keep_size (w := w) (g := g) (row := none) (by repeat (first | (with_reducible first | exact HK.out | apply KeepBut.set_ | apply keep_drewN | apply keep_drew | apply keep_alloc) | exact HK.out)))); (case aL => have := LMc9.out; omega); intro v343 w11 ho hb hg hat; rw [← Ny342.out] at ho; have n0_ := Aside0.mk (IsS102.grown (by repeat (first | (with_reducible first | exact HI0.out | apply IsS102.alloc | apply IsS102.drewN | apply IsS102.drew | apply IsS102.set_1 | apply IsS102.set_2) | exact HI0.out)) hg (IsS102.own_ne HI0.out HO_5.out (by decide))); have n1_ := Aside0.mk (below_weaken (by repeat (first | (with_reducible first | exact HB.out | apply below_alloc | apply pw_below_drewN | apply below_drew1 | refine below_set ?_ (IsS102.ge HI0.out)) | exact HB.out)) HL.out hb); have n2_ := Aside0.mk (KeepBut.trans (by repeat (first | (with_reducible first | exact HK.out | apply KeepBut.set_ | apply keep_drewN | apply keep_drew | apply keep_alloc) | exact HK.out)) (KeepBut.of_grown hg g) (Kd.R_base2 HO_5.out)); have n3_ := Aside0.mk (ho); clear HI0; clear HB; clear HK; clear HO_5; have HI0 := n0_; have HB := n1_; have HK := n2_; have HO344 := n3_; clear n0_ n1_ n2_ n3_; clear ho hb hg hat))
              go_roundg k2
              case measure => have := HJ2.out; have := HK2.out; omega
              case rel => exact ⟨(y342), (wrap64 (x6_2 + 1)), (t340), (t341), (by first | rfl | (simp; done) | (simp [*]; done)), H', ⟨by have := HJ2.out; have := HK2.out; omega⟩, ⟨by (with_reducible repeat (first | apply Kd.R_alloc | apply Kd.R_drewN | apply Kd.R_drew)); exact HO344.out⟩, ⟨by repeat (first | (with_reducible first | exact HI0.out | apply IsS102.alloc | apply IsS102.drewN | apply IsS102.drew | apply IsS102.set_1 | apply IsS102.set_2) | exact HI0.out)⟩, ⟨by repeat (first | (with_reducible first | exact HK.out | apply KeepBut.set_ | apply keep_drewN | apply keep_drew | apply keep_alloc) | exact HK.out)⟩, ⟨by repeat (first | (with_reducible first | exact HB.out | apply below_alloc | apply pw_below_drewN | apply below_drew1 | refine below_set ?_ (IsS102.ge HI0.out)) | exact HB.out)⟩⟩
            · rw [if_neg c9] at H
              exact absurd H (by simp)
          · rw [if_neg c7] at H
            have c7b0 : decide (x6_2 < x1_2) = false := decide_eq_false c7
            clear c7
            simp only [Option.some.injEq, Prod.mk.injEq] at H
            obtain ⟨rfl, rfl, rfl⟩ := H
            have hcv12 := own_string (P := Try.prog) Try.underlying44 Try.underlying5 Try.underlying9 (Kd.own_of_R HO_5.out)
            go_wp2
            go_ret
            exact ⟨by first | rfl | (simp [errW_none, errW_some] <;> rfl) | (simp [*, errW_none, errW_some] <;> rfl), by repeat (first | (with_reducible first | exact HI0.out | apply IsS102.alloc | apply IsS102.drewN | apply IsS102.drew | apply IsS102.set_1 | apply IsS102.set_2) | exact HI0.out), by repeat (first | (with_reducible first | exact HB.out | apply below_alloc | apply pw_below_drewN | apply below_drew1 | refine below_set ?_ (IsS102.ge HI0.out)) | exact HB.out), by repeat (first | (with_reducible first | exact HK.out | apply KeepBut.set_ | apply keep_drewN | apply keep_drew | apply keep_alloc) | exact HK.out)⟩

/-! ### spec_l02Spoilt: function 80 -/
def spec_l02Spoilt.j0 : Nat → ByteArray → Bool → List Int → Int → Int → Option (ByteArray × Int × Int)
  | 0, _, _, _, _, _ => none
  | k + 1, x1, x23, x1000, x1001, x1002 => if x23 = true then (if (x1.size : Int) > 0 then ((spec_l01Below.f x1000 x1001 x1002 (x1.size : Int)).bind fun bt354 => (if 0 ≤ bt354.1 then (if bt354.1 ≤ (x1.size : Int) then ((spec_l01Text.f k x1000 bt354.2.1 bt354.2.2 1).bind fun bt357 => (if (x1.extract 0 (bt354.1 : Int).toNat).size + bt357.1.size ≤ 9223372036854775807 then (if 0 ≤ (wrap64 (bt354.1 + 1)) then (if (wrap64 (bt354.1 + 1)) ≤ (x1.size : Int) then (if ((x1.extract 0 (bt354.1 : Int).toNat) ++ bt357.1).size + (x1.extract ((wrap64 (bt354.1 + 1)) : Int).toNat x1.size).size ≤ 9223372036854775807 then (some (((x1.extract 0 (bt354.1 : Int).toNat) ++ bt357.1) ++ (x1.extract ((wrap64 (bt354.1 + 1)) : Int).toNat x1.size), bt357.2.1, bt357.2.2)) else (none)) else (none)) else (none)) else (none))) else (none)) else (none))) else (some (x1, x1001, x1002))) else (some (x1, x1001, x1002))
def spec_l02Spoilt.f (k : Nat) (s0_0 : List Int) (s0_1 : Int) (s0_2 : Int) (a1 : ByteArray) : Option (ByteArray × Int × Int) := (spec_l01Below.f s0_0 s0_1 s0_2 12).bind fun bt345 => (if bt345.1 = 0 then ((spec_l01Text.f k s0_0 bt345.2.1 bt345.2.2 1).bind fun bt348 => (if a1.size + bt348.1.size ≤ 9223372036854775807 then (some (a1 ++ bt348.1, bt348.2.1, bt348.2.2)) else (none))) else (if bt345.1 = 1 then ((spec_l01Below.f s0_0 bt345.2.1 bt345.2.2 (wrap64 ((a1.size : Int) + 1))).bind fun bt351 => (if 0 ≤ bt351.1 then (if bt351.1 ≤ (a1.size : Int) then (some (a1.extract 0 (bt351.1 : Int).toNat, bt351.2.1, bt351.2.2)) else (none)) else (none))) else (if bt345.1 = 2 then (spec_l02Spoilt.j0 k a1 (bt345.1 == 2) s0_0 bt345.2.1 bt345.2.2) else (spec_l02Spoilt.j0 k a1 (bt345.1 == 3) s0_0 bt345.2.1 bt345.2.2))))
theorem spec_l02Spoilt.mono_l : ∀ k, (∀ y0 y1 y2 y3 y4, LeO (spec_l02Spoilt.j0 k y0 y1 y2 y3 y4) (spec_l02Spoilt.j0 (k + 1) y0 y1 y2 y3 y4))
  | 0 => fun _ _ _ _ _ r h => by simp [spec_l02Spoilt.j0] at h
  | k + 1 => by
    have ih0 := spec_l02Spoilt.mono_l k
    · intro y0 y1 y2 y3 y4
      unfold spec_l02Spoilt.j0
      repeat' first
      | (with_reducible exact ih0 _ _ _ _ _)
      | (with_reducible exact spec_l01Text.mono _ _ _ _ _)
      | (with_reducible exact LeO.refl _)
      | (with_reducible exact LeO.none _)
      | (with_reducible refine LeO.ite ?_ ?_)
      | (with_reducible refine LeO.bind ?_ (fun _ => ?_))
      | exact ih0 _ _ _ _ _
      | exact spec_l01Text.mono _ _ _ _ _
      | exact LeO.none _
      | refine LeO.ite ?_ ?_
      | refine LeO.bind ?_ (fun _ => ?_)
theorem spec_l02Spoilt.mono : ∀ a0 a1 a2 a3 k, LeO (spec_l02Spoilt.f k a0 a1 a2 a3) (spec_l02Spoilt.f (k + 1) a0 a1 a2 a3) := by
  intro a0 a1 a2 a3 k
  have ih0 := spec_l02Spoilt.mono_l k
  unfold spec_l02Spoilt.f
  repeat' first
      | (with_reducible exact ih0 _ _ _ _ _)
      | (with_reducible exact spec_l01Text.mono _ _ _ _ _)
      | (with_reducible exact LeO.refl _)
      | (with_reducible exact LeO.none _)
      | (with_reducible refine LeO.ite ?_ ?_)
      | (with_reducible refine LeO.bind ?_ (fun _ => ?_))
      | exact ih0 _ _ _ _ _
      | exact spec_l01Text.mono _ _ _ _ _
      | exact LeO.none _
      | refine LeO.ite ?_ ?_
      | refine LeO.bind ?_ (fun _ => ?_)
def spec_l02Spoilt.T10 : Bool × List (List Nat × List Nat) := (true, [([], []), ([], []), ([0, 1], [0, 1]), ([], []), ([3], [3]), ([2, 4], [2, 4]), ([], []), ([], []), ([7], [7]), ([6, 8], [6, 8]), ([5, 9], [5, 9]), ([10, 4, 0, 1, 2, 3, 4, 5, 6, 7, 8, 9, 10], [10])])
def spec_l02Spoilt.B10 : List Nat := [0, 0, 3, 0, 8, 31, 0, 0, 128, 448, 1023, 2047]
theorem spec_l02Spoilt.tab10 : rtab .any (opsOf Try.f80 10) = spec_l02Spoilt.T10 := by kernel_rfl
theorem spec_l02Spoilt.bits10 : waitsOk spec_l02Spoilt.T10.2 spec_l02Spoilt.B10 = true := by kernel_rfl
set_option maxHeartbeats 8000000 in
set_option maxRecDepth 100000 in
theorem spec_l02Spoilt.calls (k : Nat) (g : Nat) (s0_0 : List Int) (s0_1 : Int) (s0_2 : Int) (a1 : ByteArray) (r1 : ByteArray) (r2 : Int) (r3 : Int) (w0 w : World) (hI : IsS102 w0 w g s0_0 s0_1 s0_2) (hB : Below w0.heap.size w0 w) (h : spec_l02Spoilt.f k s0_0 s0_1 s0_2 a1 = some (r1, r2, r3)) :
    Calls Try.prog 80 #[.pointer (some ⟨g, 0, none⟩), .string a1] w fun e w' => e = .returned (.string r1) ∧ IsS102 w0 w' g s0_0 r2 r3 ∧ Below w0.heap.size w0 w' ∧ KeepBut w w' g none := by
  have HI0 := Aside0.mk hI
  have HK := Aside0.mk (KeepBut.refl w g none)
  have HL := Aside0.mk hB.size
  clear hI
  have HW0 := Aside0.mk hB.size
  have HB := Aside0.mk hB
  clear hB
  have H : ((spec_l01Below.f s0_0 s0_1 s0_2 12).bind fun bt345 => (if bt345.1 = 0 then ((spec_l01Text.f k s0_0 bt345.2.1 bt345.2.2 1).bind fun bt348 => (if a1.size + bt348.1.size ≤ 9223372036854775807 then (some (a1 ++ bt348.1, bt348.2.1, bt348.2.2)) else (none))) else (if bt345.1 = 1 then ((spec_l01Below.f s0_0 bt345.2.1 bt345.2.2 (wrap64 ((a1.size : Int) + 1))).bind fun bt351 => (if 0 ≤ bt351.1 then (if bt351.1 ≤ (a1.size : Int) then (some (a1.extract 0 (bt351.1 : Int).toNat, bt351.2.1, bt351.2.2)) else (none)) else (none))) else (if bt345.1 = 2 then (spec_l02Spoilt.j0 k a1 (bt345.1 == 2) s0_0 bt345.2.1 bt345.2.2) else (spec_l02Spoilt.j0 k a1 (bt345.1 == 3) s0_0 bt345.2.1 bt345.2.2))))) = some (r1, r2, r3) := h
  clear h
  replace H := Option.bind_eq_some_iff.mp H
  obtain ⟨⟨t345, t346, t347⟩, A30, H⟩ := H
  replace H : (if t345 = 0 then ((spec_l01Text.f k s0_0 t346 t347 1).bind fun bt348 => (if a1.size + bt348.1.size ≤ 9223372036854775807 then (some (a1 ++ bt348.1, bt348.2.1, bt348.2.2)) else (none))) else (if t345 = 1 then ((spec_l01Below.f s0_0 t346 t347 (wrap64 ((a1.size : Int) + 1))).bind fun bt351 => (if 0 ≤ bt351.1 then (if bt351.1 ≤ (a1.size : Int) then (some (a1.extract 0 (bt351.1 : Int).toNat, bt351.2.1, bt351.2.2)) else (none)) else (none))) else (if t345 = 2 then (spec_l02Spoilt.j0 k a1 (t345 == 2) s0_0 t346 t347) else (spec_l02Spoilt.j0 k a1 (t345 == 3) s0_0 t346 t347)))) = some (r1, r2, r3) := H
  have A3 := Aside0.mk A30
  clear A30
  by_cases c4 : t345 = 0
  · rw [if_pos c4] at H
    have c4b0 : (t345 == 0) = true := beq_iff_eq.mpr c4
    have c4b1 : (t345 != 0) = false := bne_eq_false_iff_eq.mpr c4
    clear c4
    replace H := Option.bind_eq_some_iff.mp H
    obtain ⟨⟨t348, t349, t350⟩, A50, H⟩ := H
    replace H : (if a1.size + t348.size ≤ 9223372036854775807 then (some (a1 ++ t348, t349, t350)) else (none)) = some (r1, r2, r3) := H
    have A5 := Aside0.mk A50
    clear A50
    by_cases c6 : a1.size + t348.size ≤ 9223372036854775807
    · rw [if_pos c6] at H
      have c6b0 := eq_true c6
      have c6b1 : decide (a1.size + t348.size ≤ 9223372036854775807) = true := decide_eq_true c6
      try have c6b2 : (9223372036854775807 < a1.size + t348.size) = False := eq_false (Nat.not_lt.2 c6)
      simp only [Option.some.injEq, Prod.mk.injEq] at H
      obtain ⟨rfl, rfl, rfl⟩ := H
      go_enter Try.func80, Try.ntmps80
      go_wp2_with (first | ((with_reducible refine gate_callee (f := 78) rfl ?_); refine goesL_ (some 7) rfl rfl Try.func78 (by kernel_rfl) rfl #[.pointer (some ⟨g, 0, none⟩), .int .i64 12] rfl (by (try simp only [List.map_toArray, List.map_cons, List.map_nil]); first | done | rfl | (simp only [List.length_drop, List.length_take]; rfl)) ?_; (with_reducible refine (spec_l01Below.calls g s0_0 s0_1 s0_2 12 t345 t346 t347 w0 _ ?side1 ?side2 A3.out).mono ?_); (case side1 => repeat (first | (with_reducible first | exact HI0.out | apply IsS102.alloc | apply IsS102.drewN | apply IsS102.drew | apply IsS102.set_1 | apply IsS102.set_2) | exact HI0.out)); (case side2 => repeat (first | (with_reducible first | exact HB.out | apply below_alloc | apply pw_below_drewN | apply below_drew1 | refine below_set ?_ (IsS102.ge HI0.out)) | exact HB.out)); rintro e w7 ⟨rfl, hi, hb, hk⟩; refine ⟨_, rfl, ?_⟩; have n0_ := Aside0.mk (KeepBut.trans (by repeat (first | (with_reducible first | exact HK.out | apply KeepBut.set_ | apply keep_drewN | apply keep_drew | apply keep_alloc) | exact HK.out)) hk (.inl rfl)); have n1_ := Aside0.mk (hb); have n2_ := Aside0.mk (hi); clear HK; clear HB; clear HI0; have HK := n0_; have HB := n1_; have HI0 := n2_; clear n0_ n1_ n2_; (try clear hb); (try clear hb2); (try clear hk); (try clear hi)) | ((with_reducible refine gate_callee (f := 101) rfl ?_); refine goesL_ (some 12) rfl rfl Try.func101 (by kernel_rfl) rfl #[.pointer (some ⟨g, 0, none⟩), .int .i64 1] rfl (by (try simp only [List.map_toArray, List.map_cons, List.map_nil]); first | done | rfl | (simp only [List.length_drop, List.length_take]; rfl)) ?_; (with_reducible refine (spec_l01Text.calls k g s0_0 t346 t347 1 t348 t349 t350 w0 _ ?side1 ?side2 A5.out).mono ?_); (case side1 => repeat (first | (with_reducible first | exact HI0.out | apply IsS102.alloc | apply IsS102.drewN | apply IsS102.drew | apply IsS102.set_1 | apply IsS102.set_2) | exact HI0.out)); (case side2 => repeat (first | (with_reducible first | exact HB.out | apply below_alloc | apply pw_below_drewN | apply below_drew1 | refine below_set ?_ (IsS102.ge HI0.out)) | exact HB.out)); rintro e w8 ⟨rfl, hi, hb, hk⟩; refine ⟨_, rfl, ?_⟩; have n0_ := Aside0.mk (KeepBut.trans (by repeat (first | (with_reducible first | exact HK.out | apply KeepBut.set_ | apply keep_drewN | apply keep_drew | apply keep_alloc) | exact HK.out)) hk (.inl rfl)); have n1_ := Aside0.mk (hb); have n2_ := Aside0.mk (hi); clear HK; clear HB; clear HI0; have HK := n0_; have HB := n1_; have HI0 := n2_; clear n0_ n1_ n2_; (try clear hb); (try clear hb2); (try clear hk); (try clear hi)))
      go_ret
      exact ⟨by first | rfl | (simp [errW_none, errW_some] <;> rfl) | (simp [*, errW_none, errW_some] <;> rfl), by repeat (first | (with_reducible first | exact HI0.out | apply IsS102.alloc | apply IsS102.drewN | apply IsS102.drew | apply IsS102.set_1 | apply IsS102.set_2) | exact HI0.out), by repeat (first | (with_reducible first | exact HB.out | apply below_alloc | apply pw_below_drewN | apply below_drew1 | refine below_set ?_ (IsS102.ge HI0.out)) | exact HB.out), by repeat (first | (with_reducible first | exact HK.out | apply KeepBut.set_ | apply keep_drewN | apply keep_drew | apply keep_alloc) | exact HK.out)⟩
    · rw [if_neg c6] at H
      exact absurd H (by simp)
  · rw [if_neg c4] at H
    have c4b0 : (t345 == 0) = false := beq_eq_false_iff_ne.mpr c4
    have c4b1 : (t345 != 0) = true := bne_iff_ne.mpr c4
    by_cases c9 : t345 = 1
    · rw [if_pos c9] at H
      have c9b0 : (t345 == 1) = true := beq_iff_eq.mpr c9
      have c9b1 : (t345 != 1) = false := bne_eq_false_iff_eq.mpr c9
      clear c9
      replace H := Option.bind_eq_some_iff.mp H
      obtain ⟨⟨t351, t352, t353⟩, A100, H⟩ := H
      replace H : (if 0 ≤ t351 then (if t351 ≤ (a1.size : Int) then (some (a1.extract 0 (t351 : Int).toNat, t352, t353)) else (none)) else (none)) = some (r1, r2, r3) := H
      have A10 := Aside0.mk A100
      clear A100
      by_cases c11 : 0 ≤ t351
      · rw [if_pos c11] at H
        have c11b0 := eq_true c11
        have c11b1 : decide (0 ≤ t351) = true := decide_eq_true c11
        clear c11
        by_cases c12 : t351 ≤ (a1.size : Int)
        · rw [if_pos c12] at H
          have c12b0 := eq_true c12
          have c12b1 : decide (t351 ≤ (a1.size : Int)) = true := decide_eq_true c12
          clear c12
          simp only [Option.some.injEq, Prod.mk.injEq] at H
          obtain ⟨rfl, rfl, rfl⟩ := H
          go_enter Try.func80, Try.ntmps80
          go_wp2_with (first | ((with_reducible refine gate_callee (f := 78) rfl ?_); refine goesL_ (some 7) rfl rfl Try.func78 (by kernel_rfl) rfl #[.pointer (some ⟨g, 0, none⟩), .int .i64 12] rfl (by (try simp only [List.map_toArray, List.map_cons, List.map_nil]); first | done | rfl | (simp only [List.length_drop, List.length_take]; rfl)) ?_; (with_reducible refine (spec_l01Below.calls g s0_0 s0_1 s0_2 12 t345 t346 t347 w0 _ ?side1 ?side2 A3.out).mono ?_); (case side1 => repeat (first | (with_reducible first | exact HI0.out | apply IsS102.alloc | apply IsS102.drewN | apply IsS102.drew | apply IsS102.set_1 | apply IsS102.set_2) | exact HI0.out)); (case side2 => repeat (first | (with_reducible first | exact HB.out | apply below_alloc | apply pw_below_drewN | apply below_drew1 | refine below_set ?_ (IsS102.ge HI0.out)) | exact HB.out)); rintro e w13 ⟨rfl, hi, hb, hk⟩; refine ⟨_, rfl, ?_⟩; have n0_ := Aside0.mk (KeepBut.trans (by repeat (first | (with_reducible first | exact HK.out | apply KeepBut.set_ | apply keep_drewN | apply keep_drew | apply keep_alloc) | exact HK.out)) hk (.inl rfl)); have n1_ := Aside0.mk (hb); have n2_ := Aside0.mk (hi); clear HK; clear HB; clear HI0; have HK := n0_; have HB := n1_; have HI0 := n2_; clear n0_ n1_ n2_; (try clear hb); (try clear hb2); (try clear hk); (try clear hi)) | ((with_reducible refine gate_callee (f := 78) rfl ?_); refine goesL_ (some 21) rfl rfl Try.func78 (by kernel_rfl) rfl #[.pointer (some ⟨g, 0, none⟩), .int .i64 (wrap64 ((a1.size : Int) + 1))] rfl (by (try simp only [List.map_toArray, List.map_cons, List.map_nil]); first | done | rfl | (simp only [List.length_drop, List.length_take]; rfl)) ?_; (with_reducible refine (spec_l01Below.calls g s0_0 t346 t347 (wrap64 ((a1.size : Int) + 1)) t351 t352 t353 w0 _ ?side1 ?side2 A10.out).mono ?_); (case side1 => repeat (first | (with_reducible first | exact HI0.out | apply IsS102.alloc | apply IsS102.drewN | apply IsS102.drew | apply IsS102.set_1 | apply IsS102.set_2) | exact HI0.out)); (case side2 => repeat (first | (with_reducible first | exact HB.out | apply below_alloc | apply pw_below_drewN | apply below_drew1 | refine below_set ?_ (IsS102.ge HI0.out)) | exact HB.out)); rintro e w14 ⟨rfl, hi, hb, hk⟩; refine ⟨_, rfl, ?_⟩; have n0_ := Aside0.mk (KeepBut.trans (by repeat (first | (with_reducible first | exact HK.out | apply KeepBut.set_ | apply keep_drewN | apply keep_drew | apply keep_alloc) | exact HK.out)) hk (.inl rfl)); have n1_ := Aside0.mk (hb); have n2_ := Aside0.mk (hi); clear HK; clear HB; clear HI0; have HK := n0_; have HB := n1_; have HI0 := n2_; clear n0_ n1_ n2_; (try clear hb); (try clear hb2); (try clear hk); (try clear hi)))
          go_ret
          exact ⟨by first | rfl | (simp [errW_none, errW_some] <;> rfl) | (simp [*, errW_none, errW_some] <;> rfl), by repeat (first | (with_reducible first | exact HI0.out | apply IsS102.alloc | apply IsS102.drewN | apply IsS102.drew | apply IsS102.set_1 | apply IsS102.set_2) | exact HI0.out), by repeat (first | (with_reducible first | exact HB.out | apply below_alloc | apply pw_below_drewN | apply below_drew1 | refine below_set ?_ (IsS102.ge HI0.out)) | exact HB.out), by repeat (first | (with_reducible first | exact HK.out | apply KeepBut.set_ | apply keep_drewN | apply keep_drew | apply keep_alloc) | exact HK.out)⟩
        · rw [if_neg c12] at H
          exact absurd H (by simp)
      · rw [if_neg c11] at H
        exact absurd H (by simp)
    · rw [if_neg c9] at H
      have c9b0 : (t345 == 1) = false := beq_eq_false_iff_ne.mpr c9
      have c9b1 : (t345 != 1) = true := bne_iff_ne.mpr c9
      have HC15 := Aside0.mk H
      clear H
      go_enter Try.func80, Try.ntmps80
      go_upto_if 23 with (first | ((with_reducible refine gate_callee (f := 78) rfl ?_); refine goesL_ (some 7) rfl rfl Try.func78 (by kernel_rfl) rfl #[.pointer (some ⟨g, 0, none⟩), .int .i64 12] rfl (by (try simp only [List.map_toArray, List.map_cons, List.map_nil]); first | done | rfl | (simp only [List.length_drop, List.length_take]; rfl)) ?_; (with_reducible refine (spec_l01Below.calls g s0_0 s0_1 s0_2 12 t345 t346 t347 w0 _ ?side1 ?side2 A3.out).mono ?_); (case side1 => repeat (first | (with_reducible first | exact HI0.out | apply IsS102.alloc | apply IsS102.drewN | apply IsS102.drew | apply IsS102.set_1 | apply IsS102.set_2) | exact HI0.out)); (case side2 => repeat (first | (with_reducible first | exact HB.out | apply below_alloc | apply pw_below_drewN | apply below_drew1 | refine below_set ?_ (IsS102.ge HI0.out)) | exact HB.out)); rintro e w16 ⟨rfl, hi, hb, hk⟩; refine ⟨_, rfl, ?_⟩; have n0_ := Aside0.mk (KeepBut.trans (by repeat (first | (with_reducible first | exact HK.out | apply KeepBut.set_ | apply keep_drewN | apply keep_drew | apply keep_alloc) | exact HK.out)) hk (.inl rfl)); have n1_ := Aside0.mk (hb); have n2_ := Aside0.mk (hi); clear HK; clear HB; clear HI0; have HK := n0_; have HB := n1_; have HI0 := n2_; clear n0_ n1_ n2_; (try clear hb); (try clear hb2); (try clear hk); (try clear hi)))
      (try simp only [Act.put, List.setIfInBounds_toArray, List.set_cons_zero, List.set_cons_succ])
      go_cut [23] (fun v23 wc => ∃ (kq : Nat) (x23_14 : Bool), v23 = .bool x23_14 ∧ Aside0 (spec_l02Spoilt.j0 kq a1 x23_14 s0_0 t346 t347 = some (r1, r2, r3)) ∧ Aside0 (kq ≤ k) ∧ Aside0 (IsS102 w0 wc g s0_0 t346 t347) ∧ Aside0 (KeepBut w wc g none) ∧ Aside0 (Below w0.heap.size w0 wc))
      case first =>
        have H := HC15.out
        clear HC15
        by_cases c17 : t345 = 2
        · rw [if_pos c17] at H
          have c17b0 : (t345 == 2) = true := beq_iff_eq.mpr c17
          have c17b1 : (t345 != 2) = false := bne_eq_false_iff_eq.mpr c17
          clear c17
          (first | rw [c17b0] | (simp only [i64_w, i32_w]; rw [c17b0]) | skip)
          have H' := Aside0.mk H
          clear H
          go_wp2
          go_meet
          case rel => exact ⟨_, ((t345 == 2)), (by first | rfl | (simp; done) | (simp [*]; done)), H', ⟨by first | omega | exact Nat.le_refl _⟩, ⟨by repeat (first | (with_reducible first | exact HI0.out | apply IsS102.alloc | apply IsS102.drewN | apply IsS102.drew | apply IsS102.set_1 | apply IsS102.set_2) | exact HI0.out)⟩, ⟨by repeat (first | (with_reducible first | exact HK.out | apply KeepBut.set_ | apply keep_drewN | apply keep_drew | apply keep_alloc) | exact HK.out)⟩, ⟨by repeat (first | (with_reducible first | exact HB.out | apply below_alloc | apply pw_below_drewN | apply below_drew1 | refine below_set ?_ (IsS102.ge HI0.out)) | exact HB.out)⟩⟩
        · rw [if_neg c17] at H
          have c17b0 : (t345 == 2) = false := beq_eq_false_iff_ne.mpr c17
          have c17b1 : (t345 != 2) = true := bne_iff_ne.mpr c17
          (first | rw [c17b0] | (simp only [i64_w, i32_w]; rw [c17b0]) | skip)
          have H' := Aside0.mk H
          clear H
          go_wp2
          go_meet
          case rel => exact ⟨_, ((t345 == 3)), (by first | rfl | (simp; done) | (simp [*]; done)), H', ⟨by first | omega | exact Nat.le_refl _⟩, ⟨by repeat (first | (with_reducible first | exact HI0.out | apply IsS102.alloc | apply IsS102.drewN | apply IsS102.drew | apply IsS102.set_1 | apply IsS102.set_2) | exact HI0.out)⟩, ⟨by repeat (first | (with_reducible first | exact HK.out | apply KeepBut.set_ | apply keep_drewN | apply keep_drew | apply keep_alloc) | exact HK.out)⟩, ⟨by repeat (first | (with_reducible first | exact HB.out | apply below_alloc | apply pw_below_drewN | apply below_drew1 | refine below_set ?_ (IsS102.ge HI0.out)) | exact HB.out)⟩⟩
      case rest =>
        clear HC15
        try clear c1
        try clear p2
        try clear c4
        try clear c4b0
        try clear c4b1
        try clear c6
        try clear c6b0
        try clear c6b1
        try clear c6b2
        try clear p6
        try clear c7
        try clear c8
        try clear c9
        try clear c9b0
        try clear c9b1
        try clear c10
        try clear c11
        try clear c11b0
        try clear c11b1
        try clear c12
        try clear c12b0
        try clear c12b1
        try clear c17
        try clear c17b0
        try clear c17b1
        obtain ⟨kq, x23_14, rfl, HA, HJ14, HI0, HK, HB⟩ := hcut
        cases kq with
        | zero => exact absurd HA.out (by simp [spec_l02Spoilt.j0])
        | succ kj14 =>
          have H := HA.out
          clear HA
          simp only [spec_l02Spoilt.j0] at H
          by_cases c18 : x23_14 = true
          · subst c18
            have H1 : (if (a1.size : Int) > 0 then ((spec_l01Below.f s0_0 t346 t347 (a1.size : Int)).bind fun bt354 => (if 0 ≤ bt354.1 then (if bt354.1 ≤ (a1.size : Int) then ((spec_l01Text.f kj14 s0_0 bt354.2.1 bt354.2.2 1).bind fun bt357 => (if (a1.extract 0 (bt354.1 : Int).toNat).size + bt357.1.size ≤ 9223372036854775807 then (if 0 ≤ (wrap64 (bt354.1 + 1)) then (if (wrap64 (bt354.1 + 1)) ≤ (a1.size : Int) then (if ((a1.extract 0 (bt354.1 : Int).toNat) ++ bt357.1).size + (a1.extract ((wrap64 (bt354.1 + 1)) : Int).toNat a1.size).size ≤ 9223372036854775807 then (some (((a1.extract 0 (bt354.1 : Int).toNat) ++ bt357.1) ++ (a1.extract ((wrap64 (bt354.1 + 1)) : Int).toNat a1.size), bt357.2.1, bt357.2.2)) else (none)) else (none)) else (none)) else (none))) else (none)) else (none))) else (some (a1, t346, t347))) = some (r1, r2, r3) := by rw [if_pos rfl] at H; exact H
            clear H
            have H := H1
            clear H1
            by_cases c19 : (a1.size : Int) > 0
            · rw [if_pos c19] at H
              have c19b0 : decide (0 < (a1.size : Int)) = true := decide_eq_true c19
              have c19b1 : decide (0 < a1.size) = true := decide_eq_true (by omega)
              clear c19
              replace H := Option.bind_eq_some_iff.mp H
              obtain ⟨⟨t354, t355, t356⟩, A200, H⟩ := H
              replace H : (if 0 ≤ t354 then (if t354 ≤ (a1.size : Int) then ((spec_l01Text.f kj14 s0_0 t355 t356 1).bind fun bt357 => (if (a1.extract 0 (t354 : Int).toNat).size + bt357.1.size ≤ 9223372036854775807 then (if 0 ≤ (wrap64 (t354 + 1)) then (if (wrap64 (t354 + 1)) ≤ (a1.size : Int) then (if ((a1.extract 0 (t354 : Int).toNat) ++ bt357.1).size + (a1.extract ((wrap64 (t354 + 1)) : Int).toNat a1.size).size ≤ 9223372036854775807 then (some (((a1.extract 0 (t354 : Int).toNat) ++ bt357.1) ++ (a1.extract ((wrap64 (t354 + 1)) : Int).toNat a1.size), bt357.2.1, bt357.2.2)) else (none)) else (none)) else (none)) else (none))) else (none)) else (none)) = some (r1, r2, r3) := H
              have A20 := Aside0.mk A200
              clear A200
              by_cases c21 : 0 ≤ t354
              · rw [if_pos c21] at H
                have c21b0 := eq_true c21
                have c21b1 : decide (0 ≤ t354) = true := decide_eq_true c21
                clear c21
                by_cases c22 : t354 ≤ (a1.size : Int)
                · rw [if_pos c22] at H
                  have c22b0 := eq_true c22
                  have c22b1 : decide (t354 ≤ (a1.size : Int)) = true := decide_eq_true c22
                  clear c22
                  replace H := Option.bind_eq_some_iff.mp H
                  obtain ⟨⟨t357, t358, t359⟩, A230, H⟩ := H
                  replace H : (if (a1.extract 0 (t354 : Int).toNat).size + t357.size ≤ 9223372036854775807 then (if 0 ≤ (wrap64 (t354 + 1)) then (if (wrap64 (t354 + 1)) ≤ (a1.size : Int) then (if ((a1.extract 0 (t354 : Int).toNat) ++ t357).size + (a1.extract ((wrap64 (t354 + 1)) : Int).toNat a1.size).size ≤ 9223372036854775807 then (some (((a1.extract 0 (t354 : Int).toNat) ++ t357) ++ (a1.extract ((wrap64 (t354 + 1)) : Int).toNat a1.size), t358, t359)) else (none)) else (none)) else (none)) else (none)) = some (r1, r2, r3) := H
                  have A23 := Aside0.mk A230
                  clear A230
                  by_cases c24 : (a1.extract 0 (t354 : Int).toNat).size + t357.size ≤ 9223372036854775807
                  · rw [if_pos c24] at H
                    have c24b0 := eq_true c24
                    have c24b1 : decide ((a1.extract 0 (t354 : Int).toNat).size + t357.size ≤ 9223372036854775807) = true := decide_eq_true c24
                    try have c24b2 : (9223372036854775807 < (a1.extract 0 (t354 : Int).toNat).size + t357.size) = False := eq_false (Nat.not_lt.2 c24)
                    have c24b9 : (9223372036854775807 < t354.toNat + t357.size) = False := eq_false (by have h9 := c24; have h8 := of_decide_eq_true c22b1; rw [ByteArray.size_extract] at h9; omega)
                    obtain ⟨ji25, hji25⟩ : ∃ j_ : Int, (wrap64 (t354 + 1)) = j_ := ⟨_, rfl⟩
                    replace H : (if 0 ≤ (ji25) then (if (ji25) ≤ (a1.size : Int) then (if ((a1.extract 0 (t354 : Int).toNat) ++ t357).size + (a1.extract ((ji25) : Int).toNat a1.size).size ≤ 9223372036854775807 then (some (((a1.extract 0 (t354 : Int).toNat) ++ t357) ++ (a1.extract ((ji25) : Int).toNat a1.size), t358, t359)) else (none)) else (none)) else (none)) = some (r1, r2, r3) := by first | (rw [hji25] at H; exact H) | (simp only [hji25] at H ⊢; exact H)
                    (try rw [hji25] at A20)
                    (try rw [hji25] at A23)
                    have hji25w : (IntKind.i64.wrap (t354 + 1)) = ji25 := (i64_w _).trans hji25
                    by_cases c26 : 0 ≤ (ji25)
                    · rw [if_pos c26] at H
                      have c26b0 := eq_true c26
                      have c26b1 : decide (0 ≤ (ji25)) = true := decide_eq_true c26
                      clear c26
                      by_cases c27 : (ji25) ≤ (a1.size : Int)
                      · rw [if_pos c27] at H
                        have c27b0 := eq_true c27
                        have c27b1 : decide ((ji25) ≤ (a1.size : Int)) = true := decide_eq_true c27
                        clear c27
                        by_cases c28 : ((a1.extract 0 (t354 : Int).toNat) ++ t357).size + (a1.extract ((ji25) : Int).toNat a1.size).size ≤ 9223372036854775807
                        · rw [if_pos c28] at H
                          have c28b0 := eq_true c28
                          have c28b1 : decide (((a1.extract 0 (t354 : Int).toNat) ++ t357).size + (a1.extract ((ji25) : Int).toNat a1.size).size ≤ 9223372036854775807) = true := decide_eq_true c28
                          have c28b9 : (9223372036854775807 < t354.toNat + t357.size + (a1.size - ji25.toNat)) = False := eq_false (by have h9 := c28; have h8 := of_decide_eq_true c22b1; have h7 := of_decide_eq_true c27b1; rw [ByteArray.size_append, ByteArray.size_extract, ByteArray.size_extract] at h9; omega)
                          try have c28b2 : (9223372036854775807 < ((a1.extract 0 (t354 : Int).toNat) ++ t357).size + (a1.extract ((ji25) : Int).toNat a1.size).size) = False := eq_false (Nat.not_lt.2 c28)
                          simp only [Option.some.injEq, Prod.mk.injEq] at H
                          obtain ⟨rfl, rfl, rfl⟩ := H
                          try go_wp2_with (first | ((with_reducible refine gate_callee (f := 78) rfl ?_); refine goesL_ (some 32) rfl rfl Try.func78 (by kernel_rfl) rfl #[.pointer (some ⟨g, 0, none⟩), .int .i64 (a1.size : Int)] rfl (by (try simp only [List.map_toArray, List.map_cons, List.map_nil]); first | done | rfl | (simp only [List.length_drop, List.length_take]; rfl)) ?_; (with_reducible refine (spec_l01Below.calls g s0_0 t346 t347 (a1.size : Int) t354 t355 t356 w0 _ ?side1 ?side2 A20.out).mono ?_); (case side1 => repeat (first | (with_reducible first | exact HI0.out | apply IsS102.alloc | apply IsS102.drewN | apply IsS102.drew | apply IsS102.set_1 | apply IsS102.set_2) | exact HI0.out)); (case side2 => repeat (first | (with_reducible first | exact HB.out | apply below_alloc | apply pw_below_drewN | apply below_drew1 | refine below_set ?_ (IsS102.ge HI0.out)) | exact HB.out)); rintro e w29 ⟨rfl, hi, hb, hk⟩; refine ⟨_, rfl, ?_⟩; have n0_ := Aside0.mk (KeepBut.trans (by repeat (first | (with_reducible first | exact HK.out | apply KeepBut.set_ | apply keep_drewN | apply keep_drew | apply keep_alloc) | exact HK.out)) hk (.inl rfl)); have n1_ := Aside0.mk (hb); have n2_ := Aside0.mk (hi); clear HK; clear HB; clear HI0; have HK := n0_; have HB := n1_; have HI0 := n2_; clear n0_ n1_ n2_; (try clear hb); (try clear hb2); (try clear hk); (try clear hi)))
                          have n0_ := Aside0.mk (IsS102.drew HI0.out)
                          have n1_ := Aside0.mk (keep_drew HK.out)
                          have n2_ := Aside0.mk (below_drew1 HB.out)
                          clear HI0
                          clear HK
                          clear HB
                          have HI0 := n0_
                          have HK := n1_
                          have HB := n2_
                          clear n0_ n1_ n2_
                          refine start_ (n := 12) (S := fun w' => True) (ds := []) #[false, false, false, false, false, false, false, false, false, false, false, false] (by kernel_rfl) rfl rfl trivial (fun hHeld => ?_); refine with_tabW spec_l02Spoilt.tab10 spec_l02Spoilt.bits10 (fun HT_ HW_ => ?_)
                          generalize w29.drew = w30 at HI0 HK HB hHeld ⊢
                          refine pure_ (i := 0) (N := some 33) (v := ?_) (a' := ?_) #[true, false, false, false, false, false, false, false, false, false, false, false] rfl rfl (any_of HT_.out (by kernel_rfl)) (fun _ _ _ h => h) (Or.inl ⟨by rfl, ?_⟩) ?_ ?_
                          rotate_left
                          · intro w'
                            go_simp
                            with_reducible rfl
                          rotate_left
                          · simp only [Act.put, List.setIfInBounds_toArray, List.set_cons_zero, List.set_cons_succ, i64_w, i32_w]
                            rfl
                          refine pure_ (i := 1) (N := some 34) (v := ?_) (a' := ?_) #[true, true, false, false, false, false, false, false, false, false, false, false] rfl rfl (any_of HT_.out (by kernel_rfl)) (fun _ _ _ h => h) (Or.inl ⟨by rfl, ?_⟩) ?_ ?_
                          rotate_left
                          · intro w'
                            go_simp
                            with_reducible rfl
                          rotate_left
                          · simp only [Act.put, List.setIfInBounds_toArray, List.set_cons_zero, List.set_cons_succ, i64_w, i32_w]
                            rfl
                          refine pure_ (i := 2) (N := some 35) (v := ?_) (a' := ?_) #[true, true, true, false, false, false, false, false, false, false, false, false] rfl rfl (any_of HT_.out (by kernel_rfl)) (fun _ _ _ h => h) (Or.inl ⟨by rfl, ?_⟩) ?_ ?_
                          rotate_left
                          · intro w'
                            go_simp
                            with_reducible rfl
                          rotate_left
                          · simp only [Act.put, List.setIfInBounds_toArray, List.set_cons_zero, List.set_cons_succ, i64_w, i32_w]
                            rfl
                          refine pure_ (i := 3) (N := some 36) (v := ?_) (a' := ?_) #[true, true, true, true, false, false, false, false, false, false, false, false] rfl rfl (any_of HT_.out (by kernel_rfl)) (fun _ _ _ h => h) (Or.inl ⟨by rfl, ?_⟩) ?_ ?_
                          rotate_left
                          · intro w'
                            go_simp
                            with_reducible rfl
                          rotate_left
                          · simp only [Act.put, List.setIfInBounds_toArray, List.set_cons_zero, List.set_cons_succ, i64_w, i32_w]
                            rfl
                          refine pure_ (i := 6) (N := some 39) (v := ?_) (a' := ?_) #[true, true, true, true, false, false, true, false, false, false, false, false] rfl rfl (any_of HT_.out (by kernel_rfl)) (fun _ _ _ h => h) (Or.inl ⟨by rfl, ?_⟩) ?_ ?_
                          rotate_left
                          · intro w'
                            go_simp
                            with_reducible rfl
                          rotate_left
                          · simp only [Act.put, List.setIfInBounds_toArray, List.set_cons_zero, List.set_cons_succ, i64_w, i32_w]
                            rfl
                          refine pure_ (i := 7) (N := some 40) (v := ?_) (a' := ?_) #[true, true, true, true, false, false, true, true, false, false, false, false] rfl rfl (any_of HT_.out (by kernel_rfl)) (fun _ _ _ h => h) (Or.inl ⟨by rfl, ?_⟩) ?_ ?_
                          rotate_left
                          · intro w'
                            go_simp
                            with_reducible rfl
                          rotate_left
                          · simp only [Act.put, List.setIfInBounds_toArray, List.set_cons_zero, List.set_cons_succ, i64_w, i32_w]
                            rfl
                          refine pure_ (i := 8) (N := some 41) (v := ?_) (a' := ?_) #[true, true, true, true, false, false, true, true, true, false, false, false] rfl rfl (any_of HT_.out (by kernel_rfl)) (fun _ _ _ h => h) (Or.inl ⟨by rfl, ?_⟩) ?_ ?_
                          rotate_left
                          · intro w'
                            go_simp
                            with_reducible rfl
                          rotate_left
                          · simp only [Act.put, List.setIfInBounds_toArray, List.set_cons_zero, List.set_cons_succ, i64_w, i32_w]
                            rfl
                          refine pure_ (i := 9) (N := some 42) (v := ?_) (a' := ?_) #[true, true, true, true, false, false, true, true, true, true, false, false] rfl rfl (any_of HT_.out (by kernel_rfl)) (fun _ _ _ h => h) (Or.inl ⟨by rfl, ?_⟩) ?_ ?_
                          rotate_left
                          · intro w'
                            go_simp
                            with_reducible rfl
                          rotate_left
                          · simp only [Act.put, List.setIfInBounds_toArray, List.set_cons_zero, List.set_cons_succ, i64_w, i32_w]
                            rfl
                          refine one_ (i := 4) (N := some 37) #[true, true, true, true, true, false, true, true, true, true, false, false] rfl rfl (one_of HT_.out (by kernel_rfl)) (by decide) (fun K hK => ?_)
                          refine goes_ Try.func101 (by kernel_rfl) rfl #[.pointer (some ⟨g, 0, none⟩), .int .i64 1] (by rfl) rfl rfl (by (try simp only [List.map_toArray, List.map_cons, List.map_nil]); first | done | rfl | (simp only [List.length_drop, List.length_take]; rfl)) ?_
                          with_reducible refine (spec_l01Text.calls kj14 g s0_0 t355 t356 1 t357 t358 t359 w0 _ ?side1 ?side2 A23.out).mono ?_
                          (case side1 => repeat (first | (with_reducible first | exact HI0.out | apply IsS102.alloc | apply IsS102.drewN | apply IsS102.drew | apply IsS102.set_1 | apply IsS102.set_2) | exact HI0.out))
                          (case side2 => repeat (first | (with_reducible first | exact HB.out | apply below_alloc | apply pw_below_drewN | apply below_drew1 | refine below_set ?_ (IsS102.ge HI0.out)) | exact HB.out))
                          rintro e w31 ⟨rfl, hi, hb, hk⟩
                          refine ⟨_, rfl, ?_⟩
                          have n0_ := Aside0.mk (KeepBut.trans (by repeat (first | (with_reducible first | exact HK.out | apply KeepBut.set_ | apply keep_drewN | apply keep_drew | apply keep_alloc) | exact HK.out)) hk (.inl rfl))
                          have n1_ := Aside0.mk (hb)
                          have n2_ := Aside0.mk (hi)
                          clear HK
                          clear HB
                          clear HI0
                          have HK := n0_
                          have HB := n1_
                          have HI0 := n2_
                          clear n0_ n1_ n2_
                          (try clear hb)
                          (try clear hb2)
                          (try clear hk)
                          (try clear hi)
                          refine hK.out _ _ trivial (fun hHeld => ?_)
                          clear hK K
                          refine norm_ (a' := ?_) ?_ ?_
                          rotate_left
                          · show Act.put _ (some 37) _ = _
                            simp only [Act.put, List.setIfInBounds_toArray, List.set_cons_zero, List.set_cons_succ, i64_w, i32_w]
                            rfl
                          refine pure_ (i := 5) (N := some 38) (v := ?_) (a' := ?_) #[true, true, true, true, true, true, true, true, true, true, false, false] rfl rfl (any_of HT_.out (by kernel_rfl)) (fun _ _ _ h => h) (Or.inl ⟨by rfl, ?_⟩) ?_ ?_
                          rotate_left
                          · intro w'
                            go_simp
                            with_reducible rfl
                          rotate_left
                          · simp only [Act.put, List.setIfInBounds_toArray, List.set_cons_zero, List.set_cons_succ, i64_w, i32_w]
                            rfl
                          refine pure_ (i := 10) (N := some 43) (v := ?_) (a' := ?_) #[true, true, true, true, true, true, true, true, true, true, true, false] rfl rfl (any_of HT_.out (by kernel_rfl)) (fun _ _ _ h => h) (Or.inl ⟨by rfl, ?_⟩) ?_ ?_
                          rotate_left
                          · intro w'
                            go_simp
                            with_reducible rfl
                          rotate_left
                          · simp only [Act.put, List.setIfInBounds_toArray, List.set_cons_zero, List.set_cons_succ, i64_w, i32_w]
                            rfl
                          refine pure_ (i := 11) (N := some 4) (v := ?_) (a' := ?_) #[true, true, true, true, true, true, true, true, true, true, true, true] rfl rfl (any_of HT_.out (by kernel_rfl)) (fun _ _ _ h => h) (Or.inl ⟨by rfl, ?_⟩) ?_ ?_
                          rotate_left
                          · intro w'
                            go_simp
                            with_reducible rfl
                          rotate_left
                          · simp only [Act.put, List.setIfInBounds_toArray, List.set_cons_zero, List.set_cons_succ, i64_w, i32_w]
                            rfl
                          refine done_ (done_of HT_.out (by kernel_rfl)) ?_
                          try go_wp2
                          go_ret
                          exact ⟨by first | rfl | (simp [errW_none, errW_some] <;> rfl) | (simp only [← hji25]; first | rfl | (simp [errW_none, errW_some] <;> rfl)) | (simp [*, errW_none, errW_some] <;> rfl), by repeat (first | (with_reducible first | exact HI0.out | apply IsS102.alloc | apply IsS102.drewN | apply IsS102.drew | apply IsS102.set_1 | apply IsS102.set_2) | exact HI0.out), by repeat (first | (with_reducible first | exact HB.out | apply below_alloc | apply pw_below_drewN | apply below_drew1 | refine below_set ?_ (IsS102.ge HI0.out)) | exact HB.out), by repeat (first | (with_reducible first | exact HK.out | apply KeepBut.set_ | apply keep_drewN | apply keep_drew | apply keep_alloc) | exact HK.out)⟩
                        · rw [if_neg c28] at H
                          exact absurd H (by simp)
                      · rw [if_neg c27] at H
                        exact absurd H (by simp)
                    · rw [if_neg c26] at H
                      exact absurd H (by simp)
                  · rw [if_neg c24] at H
                    exact absurd H (by simp)
                · rw [if_neg c22] at H
                  exact absurd H (by simp)
              · rw [if_neg c21] at H
                exact absurd H (by simp)
            · rw [if_neg c19] at H
              have c19b0 : decide (0 < (a1.size : Int)) = false := decide_eq_false c19
              have c19b1 : decide (0 < a1.size) = false := decide_eq_false (by omega)
              clear c19
              simp only [Option.some.injEq, Prod.mk.injEq] at H
              obtain ⟨rfl, rfl, rfl⟩ := H
              go_wp2
              go_ret
              exact ⟨by first | rfl | (simp [errW_none, errW_some] <;> rfl) | (simp [*, errW_none, errW_some] <;> rfl), by repeat (first | (with_reducible first | exact HI0.out | apply IsS102.alloc | apply IsS102.drewN | apply IsS102.drew | apply IsS102.set_1 | apply IsS102.set_2) | exact HI0.out), by repeat (first | (with_reducible first | exact HB.out | apply below_alloc | apply pw_below_drewN | apply below_drew1 | refine below_set ?_ (IsS102.ge HI0.out)) | exact HB.out), by repeat (first | (with_reducible first | exact HK.out | apply KeepBut.set_ | apply keep_drewN | apply keep_drew | apply keep_alloc) | exact HK.out)⟩
          · replace c18 := Bool.eq_false_iff.mpr c18
            subst c18
            have H1 : (some (a1, t346, t347)) = some (r1, r2, r3) := by rw [if_neg (show ¬ (false = true) by decide)] at H; exact H
            clear H
            have H := H1
            clear H1
            simp only [Option.some.injEq, Prod.mk.injEq] at H
            obtain ⟨rfl, rfl, rfl⟩ := H
            go_wp2
            go_ret
            exact ⟨by first | rfl | (simp [errW_none, errW_some] <;> rfl) | (simp [*, errW_none, errW_some] <;> rfl), by repeat (first | (with_reducible first | exact HI0.out | apply IsS102.alloc | apply IsS102.drewN | apply IsS102.drew | apply IsS102.set_1 | apply IsS102.set_2) | exact HI0.out), by repeat (first | (with_reducible first | exact HB.out | apply below_alloc | apply pw_below_drewN | apply below_drew1 | refine below_set ?_ (IsS102.ge HI0.out)) | exact HB.out), by repeat (first | (with_reducible first | exact HK.out | apply KeepBut.set_ | apply keep_drewN | apply keep_drew | apply keep_alloc) | exact HK.out)⟩

end Go.Proofs.Ytfchokhdhnfajaa.PFnPrograms
