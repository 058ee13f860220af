/- What the print of the kit wrote of FnEnds's functions, with some steps of some walks mended by this session. -/
import Derived.Test.YtfchokhdhnfajaaPFnEndsx0
import Derived.Test.YtfchokhdhnfajaaPFnEndsx1
namespace Go.Proofs.Ytfchokhdhnfajaa.PFnEnds
open Go.RowKit Go.Proofs.YtfchokhdhnfajaaW.PrintWords Go.Proofs.YtfchokhdhnfajaaW.PrintLast Go.Proofs.YtfchokhdhnfajaaW.PrintMore
attribute [local go_sem] max2_int min2_int max_two min_two max_three min_three max_four min_four   -- for this text's walks alone
set_option linter.unusedVariables false
set_option linter.unusedSimpArgs false

/-! ### spec_l06Program: function 76 -/
def spec_l06Program.l0 : Nat → List (S25) → Int → Int → List Int → Int → Int → Option ((List (S25)) × Int × Int)
  | 0, _, _, _, _, _, _ => none
  | k + 1, x3, x4, x5, x1000, x1001, x1002 => if x5 < x4 then ((spec_l06Ins.f k x1000 x1001 x1002).bind fun bt176 => (if bt176.1 = 7 then (if (wrap64 (x4 - x5)) = 0 then (none) else ((spec_l06Ask.f bt176.1).bind fun t183 => (if t183 = true then (if x3.length < 4398046511104 then (spec_l06Program.l0 k (x3 ++ [(⟨bt176.1, Int.tmod bt176.2.1 (wrap64 (x4 - x5)), Int.tmod bt176.2.2.1 (wrap64 (x4 - x5)), Int.tmod bt176.2.2.2.1 (wrap64 (x4 - x5))⟩ : S25)]) x4 (wrap64 (x5 + 1)) x1000 bt176.2.2.2.2.1 bt176.2.2.2.2.2) else (none)) else (if x3.length < 4398046511104 then (spec_l06Program.l0 k (x3 ++ [(⟨bt176.1, Int.tmod bt176.2.1 (wrap64 (x4 - x5)), bt176.2.2.1, bt176.2.2.2.1⟩ : S25)]) x4 (wrap64 (x5 + 1)) x1000 bt176.2.2.2.2.1 bt176.2.2.2.2.2) else (none))))) else ((spec_l06Ask.f bt176.1).bind fun t190 => (if t190 = true then (if (wrap64 (x4 - x5)) = 0 then (none) else (if x3.length < 4398046511104 then (spec_l06Program.l0 k (x3 ++ [(⟨bt176.1, bt176.2.1, Int.tmod bt176.2.2.1 (wrap64 (x4 - x5)), Int.tmod bt176.2.2.2.1 (wrap64 (x4 - x5))⟩ : S25)]) x4 (wrap64 (x5 + 1)) x1000 bt176.2.2.2.2.1 bt176.2.2.2.2.2) else (none))) else (if x3.length < 4398046511104 then (spec_l06Program.l0 k (x3 ++ [(⟨bt176.1, bt176.2.1, bt176.2.2.1, bt176.2.2.2.1⟩ : S25)]) x4 (wrap64 (x5 + 1)) x1000 bt176.2.2.2.2.1 bt176.2.2.2.2.2) else (none)))))) else ((spec_l01Below.f x1000 x1001 x1002 6).bind fun bt166 => ((spec_l01Below.f x1000 bt166.2.1 bt166.2.2 5).bind fun bt169 => ((spec_ResultOf.f bt166.1 bt169.1).bind fun t172 => (if x3.length < 4398046511104 then (some ((x3 ++ [(⟨8, t172, 0, 0⟩ : S25)]), bt169.2.1, bt169.2.2)) else (none)))))
def spec_l06Program.f (k : Nat) (s0_0 : List Int) (s0_1 : Int) (s0_2 : Int) : Option ((List (S25)) × Int × Int) := (spec_l01Below.f s0_0 s0_1 s0_2 12).bind fun bt163 => (spec_l06Program.l0 k (([] : List (S25))) (wrap64 (1 + bt163.1)) 0 s0_0 bt163.2.1 bt163.2.2)
theorem spec_l06Program.mono_l : ∀ k, (∀ y0 y1 y2 y3 y4 y5, LeO (spec_l06Program.l0 k y0 y1 y2 y3 y4 y5) (spec_l06Program.l0 (k + 1) y0 y1 y2 y3 y4 y5))
  | 0 => fun _ _ _ _ _ _ r h => by simp [spec_l06Program.l0] at h
  | k + 1 => by
    have ih0 := spec_l06Program.mono_l k
    · intro y0 y1 y2 y3 y4 y5
      unfold spec_l06Program.l0
      repeat' first
      | (with_reducible exact ih0 _ _ _ _ _ _)
      | (with_reducible exact spec_l06Ins.mono _ _ _ _)
      | (with_reducible exact LeO.refl _)
      | (with_reducible exact LeO.none _)
      | (with_reducible refine LeO.ite ?_ ?_)
      | (with_reducible refine LeO.bind ?_ (fun _ => ?_))
      | exact ih0 _ _ _ _ _ _
      | exact spec_l06Ins.mono _ _ _ _
      | exact LeO.none _
      | refine LeO.ite ?_ ?_
      | refine LeO.bind ?_ (fun _ => ?_)
theorem spec_l06Program.mono : ∀ a0 a1 a2 k, LeO (spec_l06Program.f k a0 a1 a2) (spec_l06Program.f (k + 1) a0 a1 a2) := by
  intro a0 a1 a2 k
  have ih0 := spec_l06Program.mono_l k
  unfold spec_l06Program.f
  repeat' first
      | (with_reducible exact ih0 _ _ _ _ _ _)
      | (with_reducible exact spec_l06Ins.mono _ _ _ _)
      | (with_reducible exact LeO.refl _)
      | (with_reducible exact LeO.none _)
      | (with_reducible refine LeO.ite ?_ ?_)
      | (with_reducible refine LeO.bind ?_ (fun _ => ?_))
      | exact ih0 _ _ _ _ _ _
      | exact spec_l06Ins.mono _ _ _ _
      | exact LeO.none _
      | refine LeO.ite ?_ ?_
      | refine LeO.bind ?_ (fun _ => ?_)
/-- What holds while a box of four numbers lies at gb beside a list of the call's own and the reader's cell. -/
structure Rnd (w0 w W : World) (g gb : Nat) (s : List Int) (f1 f2 : Int) (v : Value) (xs : List S25) (cs : Array Value) : Prop where
  ho : Kd.R k25 25 W w.heap.size (fun k => k ≠ gb) v xs
  hi : IsS102 w0 W g s f1 f2
  hk : KeepBut w W g none
  hb : Below w0.heap.size w0 W
  bk : W.heap[gb]? = some (.cells cs 25 (0, 0))
  gw : w.heap.size ≤ gb
  ge : w0.heap.size ≤ gb
  ne : g ≠ gb
theorem Rnd.put {w0 w W : World} {g gb : Nat} {s : List Int} {f1 f2 : Int} {v : Value} {xs : List S25} {cs : Array Value} (h : Rnd w0 w W g gb s f1 f2 v xs cs) (i : Nat) (u : Value) : Rnd w0 w (W.setCell ⟨gb, i, none⟩ u) g gb s f1 f2 v xs (cs.setIfInBounds i u) :=
  ⟨Kd.R_far h.ho (fun _ hk => hk) u, IsS102.far h.hi h.ne u, keep_far h.hk h.gw u, below_set h.hb h.ge, blk_set h.bk i u, h.gw, h.ge, h.ne⟩
theorem Rnd.drewN {w0 w W : World} {g gb : Nat} {s : List Int} {f1 f2 : Int} {v : Value} {xs : List S25} {cs : Array Value} (h : Rnd w0 w W g gb s f1 f2 v xs cs) (n : Nat) : Rnd w0 w (W.drewN n) g gb s f1 f2 v xs cs :=
  ⟨by (with_reducible repeat (first | apply Kd.R_alloc | apply Kd.R_drewN | apply Kd.R_drew)); exact h.ho, IsS102.drewN h.hi n, keep_drewN h.hk n, pw_below_drewN h.hb n, blk_drewN h.bk n, h.gw, h.ge, h.ne⟩
theorem Rnd.new {w0 w W W1 : World} {g gb : Nat} {s : List Int} {f1 f2 : Int} {v : Value} {xs : List S25} {cs : Array Value} (ho : Kd.R k25 25 W w.heap.size (fun _ => True) v xs) (hi : IsS102 w0 W g s f1 f2) (hk : KeepBut w W g none) (hb : Below w0.heap.size w0 W) (hw : w0.heap.size ≤ w.heap.size)
    (hg : gb = W.heap.size) (bk : W1.heap[gb]? = some (.cells cs 25 (0, 0))) (h1 : Below W.heap.size W W1) : Rnd w0 w W1 g gb s f1 f2 v xs cs := by
  subst hg
  have hs := keep_size hk
  exact ⟨Kd.R_below (Kd.R_mono (Kd.R_elderB ho W.heap.size (Nat.le_refl _)) (fun _ h => h.2)) h1, hi.below h1, hk.trans (KeepBut.of_below h1 g none) (.inl rfl), below_weaken hb hb.size h1, bk, hs, Nat.le_trans hw hs, Nat.ne_of_lt hi.lt⟩
/-- What one round of spec.l06Program tells. -/
theorem spec_l06Program.step {k : Nat} {x3 : List S25} {x4 x5 : Int} {s : List Int} {i h : Int} {r : List S25 × Int × Int} (hlt : x5 < x4) (H : spec_l06Program.l0 (k + 1) x3 x4 x5 s i h = some r) :
    ∃ op K Y N i' h' ask kk yy nn, spec_l06Ins.f k s i h = some (op, K, Y, N, i', h') ∧ spec_l06Ask.f op = some ask ∧ (op = 7 → wrap64 (x4 - x5) ≠ 0 ∧ kk = Int.tmod K (wrap64 (x4 - x5))) ∧ (op ≠ 7 → kk = K) ∧ (ask = true → wrap64 (x4 - x5) ≠ 0 ∧ yy = Int.tmod Y (wrap64 (x4 - x5)) ∧ nn = Int.tmod N (wrap64 (x4 - x5))) ∧ (ask = false → yy = Y ∧ nn = N) ∧ x3.length < 4398046511104 ∧ spec_l06Program.l0 k (x3 ++ [(⟨op, kk, yy, nn⟩ : S25)]) x4 (wrap64 (x5 + 1)) s i' h' = some r := by
  simp only [spec_l06Program.l0] at H
  rw [if_pos hlt] at H
  obtain ⟨⟨op, K, Y, N, i', h'⟩, h1, H⟩ := Option.bind_eq_some_iff.mp H
  dsimp only at H
  by_cases c : op = 7
  · rw [if_pos c] at H
    by_cases z : wrap64 (x4 - x5) = 0
    · rw [if_pos z] at H
      cases H
    · rw [if_neg z] at H
      obtain ⟨ask, h2, H⟩ := Option.bind_eq_some_iff.mp H
      cases ask with
      | true =>
        rw [if_pos rfl] at H
        by_cases l : x3.length < 4398046511104
        · rw [if_pos l] at H
          exact ⟨op, K, Y, N, i', h', true, _, _, _, h1, h2, fun _ => ⟨z, rfl⟩, fun e => absurd c e, fun _ => ⟨z, rfl, rfl⟩, fun e => (by cases e), l, H⟩
        · rw [if_neg l] at H
          cases H
      | false =>
        rw [if_neg (by decide)] at H
        by_cases l : x3.length < 4398046511104
        · rw [if_pos l] at H
          exact ⟨op, K, Y, N, i', h', false, _, _, _, h1, h2, fun _ => ⟨z, rfl⟩, fun e => absurd c e, fun e => (by cases e), fun _ => ⟨rfl, rfl⟩, l, H⟩
        · rw [if_neg l] at H
          cases H
  · rw [if_neg c] at H
    obtain ⟨ask, h2, H⟩ := Option.bind_eq_some_iff.mp H
    cases ask with
    | true =>
      rw [if_pos rfl] at H
      by_cases z : wrap64 (x4 - x5) = 0
      · rw [if_pos z] at H
        cases H
      · rw [if_neg z] at H
        by_cases l : x3.length < 4398046511104
        · rw [if_pos l] at H
          exact ⟨op, K, Y, N, i', h', true, _, _, _, h1, h2, fun e => absurd e c, fun _ => rfl, fun _ => ⟨z, rfl, rfl⟩, fun e => (by cases e), l, H⟩
        · rw [if_neg l] at H
          cases H
    | false =>
      rw [if_neg (by decide)] at H
      by_cases l : x3.length < 4398046511104
      · rw [if_pos l] at H
        exact ⟨op, K, Y, N, i', h', false, _, _, _, h1, h2, fun e => absurd e c, fun _ => rfl, fun e => (by cases e), fun _ => ⟨rfl, rfl⟩, l, H⟩
      · rw [if_neg l] at H
        cases H
set_option maxHeartbeats 2000000 in
set_option maxRecDepth 100000 in
theorem spec_l06Program.calls (k : Nat) (g : Nat) (s0_0 : List Int) (s0_1 : Int) (s0_2 : Int) (r1 : List (S25)) (r2 : Int) (r3 : Int) (w0 w : World) (hI : IsS102 w0 w g s0_0 s0_1 s0_2) (hB : Below w0.heap.size w0 w) (h : spec_l06Program.f k s0_0 s0_1 s0_2 = some (r1, r2, r3)) :
    Calls Try.prog 76 #[.pointer (some ⟨g, 0, none⟩)] w fun e w' => ∃ v0_ : Value, e = .returned (v0_) ∧ Kd.R k25 25 w' w.heap.size (fun _ => True) v0_ r1 ∧ IsS102 w0 w' g s0_0 r2 r3 ∧ Below w0.heap.size w0 w' ∧ KeepBut w w' g none := by
  have hu25 := Try.underlying25
  have HI0 := Aside0.mk hI
  have HK := Aside0.mk (KeepBut.refl w g none)
  have HW0 := Aside0.mk hB.size
  clear hI
  have HB := Aside0.mk hB
  clear hB
  unfold spec_l06Program.f at h
  obtain ⟨⟨n, i1, g1⟩, h1, H⟩ := Option.bind_eq_some_iff.mp h
  dsimp only at H
  have H1 := Aside0.mk h1
  have H' := Aside0.mk H
  clear h h1 H
  go_enter Try.func76, Try.ntmps76
  go_wp2_with (first
    | ((with_reducible refine gate_dst (N := 8) rfl ?_); refine Kd.R_lit k25 _ 25 ?hg (N := 8) ?hd (xs := ([] : List (S25))) (inner := []) (ok := fun _ => True) (okp := fun _ => True) ?hr ?hp (fun _ hk => hk) trivial (Below.refl _ _) (Nat.le_refl _) (by simp) ?_; (case hd => rfl); (case hg => rfl); (case hr => first | (go_simp; done) | (go_simp; rfl)); (case hp => exact (Reps.none _ _)); intro v1 w3 ho hb hg_ hnew_; clear hg_ hnew_; have HO := Aside0.mk (Kd.R_lower ho (keep_size HK.out)); have n1_ := Aside0.mk (IsS102.below HI0.out hb); have n2_ := Aside0.mk (KeepBut.trans HK.out (KeepBut.of_below hb g none) (.inl rfl)); have n3_ := Aside0.mk (below_step HB.out hb); clear HI0 HK HB hb ho; have HI0 := n1_; have HK := n2_; have HB := n3_; clear n1_ n2_ n3_)
    | (go_at_call 78; (with_reducible refine (spec_l01Below.calls g s0_0 s0_1 s0_2 12 n i1 g1 w0 _ HI0.out HB.out H1.out).mono ?_); rintro e w4 ⟨rfl, hi, hb, hk⟩; have n0_ := Aside0.mk (Kd.R_mono (Kd.R_keep (IsS102.apart HI0.out HO.out (by decide)) hk (fun _ h => h.2)) (fun _ h => h.1)); have n1_ := Aside0.mk (KeepBut.trans HK.out hk (.inl rfl)); clear HO HK HB HI0; have HO := n0_; have HK := n1_; have HB := Aside0.mk hb; have HI0 := Aside0.mk hi; clear n0_ n1_ hb hi hk))
  go_loopg [3, 5] k (fun kq v3 v5 w' => ∃ (xs : List S25) (x5 i2 g2 : Int), v5 = .int .i64 x5 ∧ Aside0 (spec_l06Program.l0 kq xs (wrap64 (1 + n)) x5 s0_0 i2 g2 = some (r1, r2, r3)) ∧ Aside0 (kq ≤ k) ∧ Aside0 (Kd.R k25 25 w' w.heap.size (fun _ => True) v3 xs) ∧ Aside0 (IsS102 w0 w' g s0_0 i2 g2) ∧ Aside0 (KeepBut w w' g none) ∧ Aside0 (Below w0.heap.size w0 w'))
  case atStart => exact ⟨[], 0, i1, g1, rfl, H', ⟨Nat.le_refl _⟩, HO, HI0, HK, HB⟩
  case round =>
    clear H' HO HI0 HK HB H1
    obtain ⟨xs, x5, i2, g2, rfl, HA, HK1, HO, HI0, HK, HB⟩ := hrel
    cases gk with
    | zero => exact absurd HA.out (by simp [spec_l06Program.l0])
    | succ k1 =>
      by_cases hlt : x5 < wrap64 (1 + n)
      · obtain ⟨op, K, Y, N, i3, g3, ask, kk, yy, nn, f1, f2, f3, f4, f5, f6, f7, f8⟩ := spec_l06Program.step hlt HA.out
        have F1 := Aside0.mk f1
        have F2 := Aside0.mk f2
        have F3 := Aside0.mk f3
        have F4 := Aside0.mk f4
        have F5 := Aside0.mk f5
        have F6 := Aside0.mk f6
        have F7 := Aside0.mk f7
        have F8 := Aside0.mk f8
        have d0 : decide (x5 < wrap64 (1 + n)) = true := decide_eq_true hlt
        clear f1 f2 f3 f4 f5 f6 f7 f8 hlt HA
        go_upto_region 8 with (first
          | (go_at_call 99; (with_reducible refine (spec_l06Ins.calls k1 g s0_0 i2 g2 op K Y N i3 g3 w0 _ HI0.out HB.out F1.out).mono ?_); rintro e w5 ⟨rfl, hi, hb, hk⟩; have n0_ := Aside0.mk (Kd.R_mono (Kd.R_keep (IsS102.apart HI0.out HO.out (by decide)) hk (fun _ h => h.2)) (fun _ h => h.1)); have n1_ := Aside0.mk (KeepBut.trans HK.out hk (.inl rfl)); clear HO HK HB HI0; have HO := n0_; have HK := n1_; have HB := Aside0.mk hb; have HI0 := Aside0.mk hi; clear n0_ n1_ hb hi hk)
          | ((with_reducible refine gate_dst (N := 6) rfl ?_); refine box_event ?hg (N := 6) ?hd (cs := #[.int .i64 0, .int .i64 0, .int .i64 0, .int .i64 0]) (t := 25) ?hr ?_; (case hd => rfl); (case hg => rfl); (case hr => first | (go_simp; done) | (go_simp; rfl)); intro gb hg w6 hbox hb; have HR := Aside0.mk (Rnd.new HO.out HI0.out HK.out HB.out HW0.out hg hbox hb); clear HO HK HB HI0 hg hbox hb; have hcz0 := blk_cell HR.out.bk 0; have hcz1 := blk_cell HR.out.bk 1; have hcz2 := blk_cell HR.out.bk 2; have hcz3 := blk_cell HR.out.bk 3; replace hcz0 : w6.cell? ⟨gb, 0, none⟩ = some (.int .i64 0) := hcz0; replace hcz1 : w6.cell? ⟨gb, 1, none⟩ = some (.int .i64 0) := hcz1; replace hcz2 : w6.cell? ⟨gb, 2, none⟩ = some (.int .i64 0) := hcz2; replace hcz3 : w6.cell? ⟨gb, 3, none⟩ = some (.int .i64 0) := hcz3; have hfz0 := blk_frozen HR.out.bk 0; have hfz1 := blk_frozen HR.out.bk 1; have hfz2 := blk_frozen HR.out.bk 2; have hfz3 := blk_frozen HR.out.bk 3))
        have HR4 : Aside0 (Rnd w0 w ((((w6.setCell ⟨gb, 0, none⟩ (.int .i64 op)).setCell ⟨gb, 1, none⟩ (.int .i64 K)).setCell ⟨gb, 2, none⟩ (.int .i64 Y)).setCell ⟨gb, 3, none⟩ (.int .i64 N)) g gb s0_0 i3 g3 u3 xs #[.int .i64 op, .int .i64 K, .int .i64 Y, .int .i64 N]) := ⟨(((HR.out.put 0 (.int .i64 op)).put 1 (.int .i64 K)).put 2 (.int .i64 Y)).put 3 (.int .i64 N)⟩
        clear hcz0 hcz1 hcz2 hcz3 hfz0 hfz1 hfz2 hfz3 HR
        generalize (((w6.setCell ⟨gb, 0, none⟩ (.int .i64 op)).setCell ⟨gb, 1, none⟩ (.int .i64 K)).setCell ⟨gb, 2, none⟩ (.int .i64 Y)).setCell ⟨gb, 3, none⟩ (.int .i64 N) = W at HR4 ⊢
        have cz0 : W.cell? ⟨gb, 0, none⟩ = some (.int .i64 op) := (blk_cell HR4.out.bk 0).trans rfl
        have fz0 := blk_frozen HR4.out.bk 0
        have cz1 : W.cell? ⟨gb, 1, none⟩ = some (.int .i64 K) := (blk_cell HR4.out.bk 1).trans rfl
        have fz1 := blk_frozen HR4.out.bk 1
        have cz2 : W.cell? ⟨gb, 2, none⟩ = some (.int .i64 Y) := (blk_cell HR4.out.bk 2).trans rfl
        have fz2 := blk_frozen HR4.out.bk 2
        have cz3 : W.cell? ⟨gb, 3, none⟩ = some (.int .i64 N) := (blk_cell HR4.out.bk 3).trans rfl
        have fz3 := blk_frozen HR4.out.bk 3
        go_upto_if 24 with (fail)
        go_cut [7] (fun v7 wc => v7 = .int .i64 (wrap64 (wrap64 (1 + n) - x5)) ∧ Aside0 (Rnd w0 w wc g gb s0_0 i3 g3 u3 xs #[.int .i64 op, .int .i64 kk, .int .i64 Y, .int .i64 N]))
        case first =>
          by_cases c : op = 7
          · have b0 : (op == 7) = true := beq_iff_eq.mpr c
            have z := (F3.out c).1
            have z0 : ((wrap64 (wrap64 (1 + n) - x5)) == 0) = false := beq_eq_false_iff_ne.mpr z
            go_wp2
            go_meet
            case rel => exact ⟨rfl, ⟨by rw [(F3.out c).2]; exact HR4.out.put 1 (.int .i64 (Int.tmod K (wrap64 (wrap64 (1 + n) - x5))))⟩⟩
          · have b0 : (op == 7) = false := beq_eq_false_iff_ne.mpr c
            go_wp2
            go_meet
            case rel => exact ⟨rfl, ⟨by rw [F4.out c]; exact HR4.out⟩⟩
        case rest =>
          obtain ⟨rfl, HR5⟩ := hcut
          clear HR4 cz0 cz1 cz2 cz3 fz0 fz1 fz2 fz3
          have cz0 : wc.cell? ⟨gb, 0, none⟩ = some (.int .i64 op) := (blk_cell HR5.out.bk 0).trans rfl
          have fz0 := blk_frozen HR5.out.bk 0
          have cz1 : wc.cell? ⟨gb, 1, none⟩ = some (.int .i64 kk) := (blk_cell HR5.out.bk 1).trans rfl
          have fz1 := blk_frozen HR5.out.bk 1
          have cz2 : wc.cell? ⟨gb, 2, none⟩ = some (.int .i64 Y) := (blk_cell HR5.out.bk 2).trans rfl
          have fz2 := blk_frozen HR5.out.bk 2
          have cz3 : wc.cell? ⟨gb, 3, none⟩ = some (.int .i64 N) := (blk_cell HR5.out.bk 3).trans rfl
          have fz3 := blk_frozen HR5.out.bk 3
          go_upto_if 32 with (go_at_call 69; (with_reducible refine (spec_l06Ask.calls op ask _ F2.out).mono ?_); rintro e w' ⟨rfl, ⟨nd, rfl⟩⟩)
          go_cut [7] (fun v7 wd => Aside0 (Rnd w0 w wd g gb s0_0 i3 g3 u3 xs #[.int .i64 op, .int .i64 kk, .int .i64 yy, .int .i64 nn]))
          case first =>
            cases ask with
            | true =>
              have E := Aside0.mk (F5.out rfl)
              have z := (F5.out rfl).1
              have z0 : ((wrap64 (wrap64 (1 + n) - x5)) == 0) = false := beq_eq_false_iff_ne.mpr z
              go_wp2
              go_meet
              case rel => exact ⟨by rw [E.out.2.1, E.out.2.2]; exact ((HR5.out.drewN nd).put 2 (.int .i64 (Int.tmod Y (wrap64 (wrap64 (1 + n) - x5))))).put 3 (.int .i64 (Int.tmod N (wrap64 (wrap64 (1 + n) - x5))))⟩
            | false =>
              have E := Aside0.mk (F6.out rfl)
              go_wp2
              go_meet
              case rel => exact ⟨by rw [E.out.1, E.out.2]; exact HR5.out.drewN nd⟩
          case rest =>
            have HR6 := hcut
            clear HR5 cz0 cz1 cz2 cz3 fz0 fz1 fz2 fz3 hcut
            have cz0 : wc.cell? ⟨gb, 0, none⟩ = some (.int .i64 op) := (blk_cell HR6.out.bk 0).trans rfl
            have fz0 := blk_frozen HR6.out.bk 0
            have cz1 : wc.cell? ⟨gb, 1, none⟩ = some (.int .i64 kk) := (blk_cell HR6.out.bk 1).trans rfl
            have fz1 := blk_frozen HR6.out.bk 1
            have cz2 : wc.cell? ⟨gb, 2, none⟩ = some (.int .i64 yy) := (blk_cell HR6.out.bk 2).trans rfl
            have fz2 := blk_frozen HR6.out.bk 2
            have cz3 : wc.cell? ⟨gb, 3, none⟩ = some (.int .i64 nn) := (blk_cell HR6.out.bk 3).trans rfl
            have fz3 := blk_frozen HR6.out.bk 3
            go_wp2_with ((with_reducible refine gate_builtin (b := .append) (xs := #[.tmp 43, .tmp 45]) rfl ?_); at_builtin; refine Kd.R_append k25 w.heap.size rfl (.tmp 43) (.tmp 45) 37 25 (.agg #[(.int .i64 0), (.int .i64 0), (.int .i64 0), (.int .i64 0)]) 32 rfl Try.underlying37 info25 rfl (by decide) (by omega) u3 xs (⟨op, kk, yy, nn⟩ : S25) [.int .i64 op, .int .i64 kk, .int .i64 yy, .int .i64 nn] (fun k_ => k_ ≠ gb) (fun _ => False) rfl (by first | rfl | (go_simp; done) | (go_simp; rfl)) ?aP (fun _ hk => hk.elim) ?aF ?aO (Below.refl _ _) ?aS ?aL ?_; (case aP => exact k25_mkM _ _ _ (⟨op, kk, yy, nn⟩ : S25)); (case aF => exact (fun k_ hk => Kd.freshB HR6.out.bk k_ hk)); (case aO => exact HR6.out.ho); (case aS => exact keep_size HR6.out.hk); (case aL => have := F7.out; omega); intro v7 w7 ho hb hg hat; have HO := Aside0.mk (Kd.R_mono ho (fun _ _ => trivial)); have HI0 := Aside0.mk (IsS102.grown HR6.out.hi hg (IsS102.own_ne HR6.out.hi HR6.out.ho (by decide))); have HB := Aside0.mk (below_weaken HR6.out.hb HW0.out hb); have HK := Aside0.mk (KeepBut.trans HR6.out.hk (KeepBut.of_grown hg g) (Kd.R_base2 HR6.out.ho)); clear ho hb hg hat)
            go_roundg k1
            case measure => have := HK1.out; omega
            case rel => exact ⟨xs ++ [⟨op, kk, yy, nn⟩], wrap64 (x5 + 1), i3, g3, by first | rfl | (simp; done), F8, ⟨by have := HK1.out; omega⟩, HO, HI0, HK, HB⟩
      · have H := HA.out
        simp only [spec_l06Program.l0] at H
        rw [if_neg hlt] at H
        obtain ⟨⟨b1, i3, g3⟩, f1, H⟩ := Option.bind_eq_some_iff.mp H
        obtain ⟨⟨b2, i4, g4⟩, f2, H⟩ := Option.bind_eq_some_iff.mp H
        obtain ⟨q, f3, H⟩ := Option.bind_eq_some_iff.mp H
        dsimp only at f1 f2 f3 H
        by_cases l : xs.length < 4398046511104
        · rw [if_pos l] at H
          simp only [Option.some.injEq, Prod.mk.injEq] at H
          obtain ⟨e1, e2, e3⟩ := H
          have F1 := Aside0.mk f1
          have F2 := Aside0.mk f2
          have F3 := Aside0.mk f3
          have F7 := Aside0.mk l
          have E := Aside0.mk (And.intro e1 (And.intro e2 e3))
          have d0 : decide (x5 < wrap64 (1 + n)) = false := decide_eq_false hlt
          clear f1 f2 f3 e1 e2 e3 l HA hlt
          go_wp2_with (first
            | (go_at_call 78; (with_reducible refine (spec_l01Below.calls g s0_0 i2 g2 6 b1 i3 g3 w0 _ HI0.out HB.out F1.out).mono ?_); rintro e w5 ⟨rfl, hi, hb, hk⟩; have n0_ := Aside0.mk (Kd.R_mono (Kd.R_keep (IsS102.apart HI0.out HO.out (by decide)) hk (fun _ h => h.2)) (fun _ h => h.1)); have n1_ := Aside0.mk (KeepBut.trans HK.out hk (.inl rfl)); clear HO HK HB HI0; have HO := n0_; have HK := n1_; have HB := Aside0.mk hb; have HI0 := Aside0.mk hi; clear n0_ n1_ hb hi hk)
            | (go_at_call 78; (with_reducible refine (spec_l01Below.calls g s0_0 i3 g3 5 b2 i4 g4 w0 _ HI0.out HB.out F2.out).mono ?_); rintro e w6 ⟨rfl, hi, hb, hk⟩; have n0_ := Aside0.mk (Kd.R_mono (Kd.R_keep (IsS102.apart HI0.out HO.out (by decide)) hk (fun _ h => h.2)) (fun _ h => h.1)); have n1_ := Aside0.mk (KeepBut.trans HK.out hk (.inl rfl)); clear HO HK HB HI0; have HO := n0_; have HK := n1_; have HB := Aside0.mk hb; have HI0 := Aside0.mk hi; clear n0_ n1_ hb hi hk)
            | (go_at_call 63; (with_reducible refine (spec_ResultOf.calls b1 b2 q _ F3.out).mono ?_); rintro e w' ⟨rfl, ⟨nd, rfl⟩⟩)
            | ((with_reducible refine gate_builtin (b := .append) (xs := #[.tmp 47, .tmp 54]) rfl ?_); at_builtin; refine Kd.R_append k25 w.heap.size rfl (.tmp 47) (.tmp 54) 37 25 (.agg #[(.int .i64 0), (.int .i64 0), (.int .i64 0), (.int .i64 0)]) 32 rfl Try.underlying37 info25 rfl (by decide) (by omega) u3 xs (⟨8, q, 0, 0⟩ : S25) [.int .i64 8, .int .i64 q, .int .i64 0, .int .i64 0] (fun _ => True) (fun _ => False) rfl (by first | rfl | (go_simp; done) | (go_simp; rfl)) ?aP (fun _ hk => hk.elim) ?aF ?aO (Below.refl _ _) ?aS ?aL ?_; (case aP => exact k25_mkM _ _ _ (⟨8, q, 0, 0⟩ : S25)); (case aF => exact (fun _ _ => trivial)); (case aO => exact (by (with_reducible repeat (first | apply Kd.R_alloc | apply Kd.R_drewN | apply Kd.R_drew)); exact HO.out)); (case aS => exact keep_size HK.out); (case aL => have := F7.out; omega); intro v7 w7 ho hb hg hat; have HI1 := Aside0.mk (IsS102.grown (IsS102.drewN HI0.out nd) hg (IsS102.own_ne HI0.out HO.out (by decide))); have HB1 := Aside0.mk (below_weaken (pw_below_drewN HB.out nd) HW0.out hb); have HK1b := Aside0.mk (KeepBut.trans (keep_drewN HK.out nd) (KeepBut.of_grown hg g) (Kd.R_base2 HO.out)); have HO1 := Aside0.mk ho; clear HI0 HB HK HO ho hb hg hat))
          go_ret
          exact ⟨_, rfl, by rw [← E.out.1]; exact HO1.out, by rw [← E.out.2.1, ← E.out.2.2]; exact HI1.out, HB1.out, HK1b.out⟩
        · rw [if_neg l] at H
          cases H

/-! ### spec_l01New: function 77 -/
def spec_l01New.l0 : Nat → List Int → Int → Int → Option (List Int × Int × Int)
  | 0, _, _, _ => none
  | k + 1, x0, x3, x4 => if x4 < (x0.length : Int) then (if x4 < 4000 then (if 0 ≤ x4 then (spec_l01New.l0 k x0 (Go.bits .and .i64 (wrap64 ((wrap64 ((wrap64 (x3 * 131)) + (wrap64 (rd x0 x4)))) + 7)) 1073741823) (wrap64 (x4 + 1))) else (none)) else (some (x0, 0, x3))) else (some (x0, 0, x3))
def spec_l01New.f (k : Nat) (l0 : List Int) : Option (List Int × Int × Int) := spec_l01New.l0 k l0 (wrap64 (78801 + (l0.length : Int))) 0
theorem spec_l01New.mono_l : ∀ k, (∀ y0 y1 y2, LeO (spec_l01New.l0 k y0 y1 y2) (spec_l01New.l0 (k + 1) y0 y1 y2))
  | 0 => fun _ _ _ r h => by simp [spec_l01New.l0] at h
  | k + 1 => by
    have ih0 := spec_l01New.mono_l k
    · intro y0 y1 y2
      unfold spec_l01New.l0
      repeat' first
      | (with_reducible exact ih0 _ _ _)
      | (with_reducible exact LeO.refl _)
      | (with_reducible exact LeO.none _)
      | (with_reducible refine LeO.ite ?_ ?_)
      | (with_reducible refine LeO.bind ?_ (fun _ => ?_))
      | exact ih0 _ _ _
      | exact LeO.none _
      | refine LeO.ite ?_ ?_
      | refine LeO.bind ?_ (fun _ => ?_)
theorem spec_l01New.mono : ∀ a0 k, LeO (spec_l01New.f k a0) (spec_l01New.f (k + 1) a0) := by
  intro a0 k
  have ih0 := spec_l01New.mono_l k
  unfold spec_l01New.f
  repeat' first
      | (with_reducible exact ih0 _ _ _)
      | (with_reducible exact LeO.refl _)
      | (with_reducible exact LeO.none _)
      | (with_reducible refine LeO.ite ?_ ?_)
      | (with_reducible refine LeO.bind ?_ (fun _ => ?_))
      | exact ih0 _ _ _
      | exact LeO.none _
      | refine LeO.ite ?_ ?_
      | refine LeO.bind ?_ (fun _ => ?_)
set_option maxHeartbeats 8000000 in
set_option maxRecDepth 100000 in
theorem spec_l01New.calls (k : Nat) (A0 : Option Addr) (c0 : Nat) (l0 : List Int) (r1 : List Int) (r2 : Int) (r3 : Int) (w0 w : World) (hB : Below w0.heap.size w0 w) (hr0 : Kd.C (Kd.int .u8) w0 A0 l0.length l0) (hc0 : l0.length ≤ c0) (h : spec_l01New.f k l0 = some (r1, r2, r3)) :
    Calls Try.prog 77 #[.slice A0 l0.length c0] w fun e w' => ∃ g_ : Nat, e = .returned (.pointer (some ⟨g_, 0, none⟩)) ∧ IsS102 w0 w' g_ r1 r2 r3 ∧ Below w0.heap.size w0 w' ∧ Below w.heap.size w w' := by
  have hu102 := Try.underlying102
  have HR0 := Aside0.mk hr0
  have HC0 := Aside0.mk hc0
  clear hr0 hc0
  have HBW := Aside0.mk (Below.refl w.heap.size w)
  have HW0 := Aside0.mk hB.size
  have HB := Aside0.mk hB
  clear hB
  have H : (spec_l01New.l0 k l0 (wrap64 (78801 + (l0.length : Int))) 0) = some (r1, r2, r3) := h
  clear h
  have H' := Aside0.mk H
  clear H
  go_enter Try.func77, Try.ntmps77
  go_wp2
  go_loopg [3, 4] k (fun kq v3 v4 w' => ∃ (x3_1 : Int) (x4_1 : Int), v3 = .int .i64 x3_1 ∧ v4 = .int .i64 x4_1 ∧ Aside0 (spec_l01New.l0 kq l0 x3_1 x4_1 = some (r1, r2, r3)) ∧ Aside0 (kq ≤ k) ∧ Aside0 (Below w0.heap.size w0 w') ∧ Aside0 (Below w.heap.size w w'))
  case atStart => exact ⟨(wrap64 (78801 + (l0.length : Int))), (0), (by first | rfl | (simp; done) | (simp [*]; done)), (by first | rfl | (simp; done) | (simp [*]; done)), H', ⟨Nat.le_refl _⟩, ⟨by repeat (first | (with_reducible first | exact HB.out | apply below_alloc | apply pw_below_drewN | apply below_drew1) | exact HB.out)⟩, ⟨by repeat (first | (with_reducible first | exact HBW.out | apply below_alloc | apply pw_below_drewN | apply below_drew1) | exact HBW.out)⟩⟩
  case round =>
    clear H'
    clear HBW
    obtain ⟨x3_1, x4_1, rfl, rfl, HA, HK1, HB, HBW⟩ := hrel
    cases gk with
    | zero => exact absurd HA.out (by simp [spec_l01New.l0])
    | succ k1 =>
      have H := HA.out
      clear HA
      simp only [spec_l01New.l0] at H
      by_cases c2 : x4_1 < (l0.length : Int)
      · rw [if_pos c2] at H
        have c2b0 : decide (x4_1 < (l0.length : Int)) = true := decide_eq_true c2
        clear c2
        by_cases c3 : x4_1 < 4000
        · rw [if_pos c3] at H
          have c3b0 : decide (x4_1 < 4000) = true := decide_eq_true c3
          clear c3
          by_cases c4 : 0 ≤ x4_1
          · rw [if_pos c4] at H
            have c4b0 : decide (0 ≤ x4_1) = true := decide_eq_true c4
            clear c4
            have H' := Aside0.mk H
            clear H
            have p197 : 0 ≤ (x4_1 : Int) := of_decide_eq_true (by first | (with_reducible assumption) | assumption)
            have q197 : x4_1 < (l0.length : Int) := of_decide_eq_true (by first | (with_reducible assumption) | assumption)
            obtain ⟨ad197, e197, hx197_0⟩ := Kd.at_int HR0.out x4_1 p197 q197
            cases e197
            replace hx197_0 := pw_cell_below HB.out hx197_0
            replace p197 := eq_true p197
            replace q197 := eq_true q197
            go_wp2
            go_roundg k1
            case measure => have := HK1.out; omega
            case rel => exact ⟨(Go.bits .and .i64 (wrap64 ((wrap64 ((wrap64 (x3_1 * 131)) + (wrap64 (rd l0 x4_1)))) + 7)) 1073741823), (wrap64 (x4_1 + 1)), (by first | rfl | (simp; done) | (simp [*]; done)), (by first | rfl | (simp; done) | (simp [*]; done)), H', ⟨by have := HK1.out; omega⟩, ⟨by repeat (first | (with_reducible first | exact HB.out | apply below_alloc | apply pw_below_drewN | apply below_drew1) | exact HB.out)⟩, ⟨by repeat (first | (with_reducible first | exact HBW.out | apply below_alloc | apply pw_below_drewN | apply below_drew1) | exact HBW.out)⟩⟩
          · rw [if_neg c4] at H
            exact absurd H (by simp)
        · rw [if_neg c3] at H
          have c3b0 : decide (x4_1 < 4000) = false := decide_eq_false c3
          clear c3
          simp only [Option.some.injEq, Prod.mk.injEq] at H
          obtain ⟨rfl, rfl, rfl⟩ := H
          go_wp2_with (first | ((with_reducible refine gate_dst (N := 31) rfl ?_); refine box_event ?hg (N := 31) ?hd (cs := #[.slice A0 l0.length c0, .int .i64 0, .int .i64 x3_1]) (t := 102) ?hr ?_; (case hd => rfl); (case hg => rfl); (case hr => first | (go_simp; done) | (go_simp; rfl)); intro gb198 hg w5 hbox hb; have n0_ := Aside0.mk (below_step HBW.out hb); have n1_ := Aside0.mk (below_step (by repeat (first | (with_reducible first | exact HB.out | apply below_alloc | apply pw_below_drewN | apply below_drew1) | exact HB.out)) hb); have n2_ := Aside0.mk (hbox); have n3_ := Aside0.mk ((by rw [hg]; exact (below_size (by repeat (first | (with_reducible first | exact HBW.out | apply below_alloc | apply pw_below_drewN | apply below_drew1) | exact HBW.out))) : w.heap.size ≤ gb198)); have n4_ := Aside0.mk ((Nat.le_trans HW0.out (by rw [hg]; exact (below_size (by repeat (first | (with_reducible first | exact HBW.out | apply below_alloc | apply pw_below_drewN | apply below_drew1) | exact HBW.out))) : w.heap.size ≤ gb198) : w0.heap.size ≤ gb198)); clear HBW; clear HB; have HBW := n0_; have HB := n1_; have BK198 := n2_; have GW198 := n3_; have GE198 := n4_; clear n0_ n1_ n2_ n3_ n4_; clear hb hbox hg))
          go_ret
          exact ⟨_, rfl, (show IsS102 w0 _ gb198 l0 0 x3_1 from ⟨_, _, by (with_reducible repeat (first | refine blk_drewN ?_ _ | refine blk_drew ?_ | refine blk_alloc ?_ _)); exact BK198.out, GE198.out, HR0.out⟩), by repeat (first | (with_reducible first | exact HB.out | apply below_alloc | apply pw_below_drewN | apply below_drew1 | refine below_set ?_ GE198.out) | exact HB.out), by repeat (first | (with_reducible first | exact HBW.out | apply below_alloc | apply pw_below_drewN | apply below_drew1 | refine below_set ?_ GW198.out) | exact HBW.out)⟩
      · rw [if_neg c2] at H
        have c2b0 : decide (x4_1 < (l0.length : Int)) = false := decide_eq_false c2
        clear c2
        simp only [Option.some.injEq, Prod.mk.injEq] at H
        obtain ⟨rfl, rfl, rfl⟩ := H
        go_wp2_with (first | ((with_reducible refine gate_dst (N := 31) rfl ?_); refine box_event ?hg (N := 31) ?hd (cs := #[.slice A0 l0.length c0, .int .i64 0, .int .i64 x3_1]) (t := 102) ?hr ?_; (case hd => rfl); (case hg => rfl); (case hr => first | (go_simp; done) | (go_simp; rfl)); intro gb199 hg w6 hbox hb; have n0_ := Aside0.mk (below_step HBW.out hb); have n1_ := Aside0.mk (below_step (by repeat (first | (with_reducible first | exact HB.out | apply below_alloc | apply pw_below_drewN | apply below_drew1) | exact HB.out)) hb); have n2_ := Aside0.mk (hbox); have n3_ := Aside0.mk ((by rw [hg]; exact (below_size (by repeat (first | (with_reducible first | exact HBW.out | apply below_alloc | apply pw_below_drewN | apply below_drew1) | exact HBW.out))) : w.heap.size ≤ gb199)); have n4_ := Aside0.mk ((Nat.le_trans HW0.out (by rw [hg]; exact (below_size (by repeat (first | (with_reducible first | exact HBW.out | apply below_alloc | apply pw_below_drewN | apply below_drew1) | exact HBW.out))) : w.heap.size ≤ gb199) : w0.heap.size ≤ gb199)); clear HBW; clear HB; have HBW := n0_; have HB := n1_; have BK199 := n2_; have GW199 := n3_; have GE199 := n4_; clear n0_ n1_ n2_ n3_ n4_; clear hb hbox hg))
        go_ret
        exact ⟨_, rfl, (show IsS102 w0 _ gb199 l0 0 x3_1 from ⟨_, _, by (with_reducible repeat (first | refine blk_drewN ?_ _ | refine blk_drew ?_ | refine blk_alloc ?_ _)); exact BK199.out, GE199.out, HR0.out⟩), by repeat (first | (with_reducible first | exact HB.out | apply below_alloc | apply pw_below_drewN | apply below_drew1 | refine below_set ?_ GE199.out) | exact HB.out), by repeat (first | (with_reducible first | exact HBW.out | apply below_alloc | apply pw_below_drewN | apply below_drew1 | refine below_set ?_ GW199.out) | exact HBW.out)⟩

/-! ### spec_DrawProgram: function 33 -/
def spec_DrawProgram.f (k : Nat) (l0 : List Int) : Option ((List (S25))) := (spec_l01New.f k l0).bind fun bt200 => ((spec_l06Program.f k bt200.1 bt200.2.1 bt200.2.2).bind fun bt204 => (some bt204.1))
theorem spec_DrawProgram.mono : ∀ a0 k, LeO (spec_DrawProgram.f k a0) (spec_DrawProgram.f (k + 1) a0) := by
  intro a0 k
  unfold spec_DrawProgram.f
  repeat' first
      | (with_reducible exact spec_l01New.mono _ _)
      | (with_reducible exact spec_l06Program.mono _ _ _ _)
      | (with_reducible exact LeO.refl _)
      | (with_reducible exact LeO.none _)
      | (with_reducible refine LeO.ite ?_ ?_)
      | (with_reducible refine LeO.bind ?_ (fun _ => ?_))
      | exact spec_l01New.mono _ _
      | exact spec_l06Program.mono _ _ _ _
      | exact LeO.none _
      | refine LeO.ite ?_ ?_
      | refine LeO.bind ?_ (fun _ => ?_)
set_option maxHeartbeats 8000000 in
set_option maxRecDepth 100000 in
theorem spec_DrawProgram.calls (k : Nat) (A0 : Option Addr) (c0 : Nat) (l0 : List Int) (r : List (S25)) (w : World) (hr0 : Kd.C (Kd.int .u8) w A0 l0.length l0) (hc0 : l0.length ≤ c0) (h : spec_DrawProgram.f k l0 = some r) :
    Calls Try.prog 33 #[.slice A0 l0.length c0] w fun e w' => ∃ v0_ : Value, e = .returned (v0_) ∧ Kd.R k25 25 w' w.heap.size (fun _ => True) v0_ r ∧ Below w.heap.size w w' := by
  have HR0 := Aside0.mk hr0
  have HC0 := Aside0.mk hc0
  clear hr0 hc0
  have HB := Aside0.mk (Below.refl w.heap.size w)
  have H : ((spec_l01New.f k l0).bind fun bt200 => ((spec_l06Program.f k bt200.1 bt200.2.1 bt200.2.2).bind fun bt204 => (some bt204.1))) = some r := h
  clear h
  replace H := Option.bind_eq_some_iff.mp H
  obtain ⟨⟨t200, t201, t202⟩, A20, H⟩ := H
  replace H : ((spec_l06Program.f k t200 t201 t202).bind fun bt204 => (some bt204.1)) = some r := H
  have A2 := Aside0.mk A20
  clear A20
  replace H := Option.bind_eq_some_iff.mp H
  obtain ⟨⟨t204, t207, t208⟩, A30, H⟩ := H
  replace H : (some t204) = some r := H
  have A3 := Aside0.mk A30
  clear A30
  obtain rfl := Option.some.inj H
  go_enter Try.func33, Try.ntmps33
  go_wp2_with (first | ((with_reducible refine gate_callee (f := 77) rfl ?_); refine goesL_ (some 4) rfl rfl Try.func77 (by kernel_rfl) rfl #[.slice A0 l0.length c0] rfl (by (try simp only [List.map_toArray, List.map_cons, List.map_nil]); first | done | rfl | (simp only [List.length_drop, List.length_take]; rfl)) ?_; (with_reducible refine (spec_l01New.calls k _ _ l0 t200 t201 t202 w _ ?side1 ?side2 ?side3 A2.out).mono ?_); (case side1 => repeat (first | (with_reducible first | exact HB.out | apply below_alloc | apply pw_below_drewN | apply below_drew1) | exact HB.out)); (case side2 => exact HR0.out); (case side3 => exact HC0.out); rintro e w4 ⟨g203, rfl, hi, hb, hb2⟩; refine ⟨_, rfl, ?_⟩; have n0_ := Aside0.mk (hb); have n1_ := Aside0.mk (hi); clear HB; have HB := n0_; have HI203 := n1_; clear n0_ n1_; (try clear hb); (try clear hb2); (try clear hk); (try clear hi)) | ((with_reducible refine gate_callee (f := 76) rfl ?_); refine goesL_ (some 5) rfl rfl Try.func76 (by kernel_rfl) rfl #[.pointer (some ⟨g203, 0, none⟩)] rfl (by (try simp only [List.map_toArray, List.map_cons, List.map_nil]); first | done | rfl | (simp only [List.length_drop, List.length_take]; rfl)) ?_; (with_reducible refine (spec_l06Program.calls k g203 t200 t201 t202 t204 t207 t208 w _ ?side1 ?side2 A3.out).mono ?_); (case side1 => repeat (first | (with_reducible first | exact HI203.out | apply IsS102.alloc | apply IsS102.drewN | apply IsS102.drew | apply IsS102.set_1 | apply IsS102.set_2) | exact HI203.out)); (case side2 => repeat (first | (with_reducible first | exact HB.out | apply below_alloc | apply pw_below_drewN | apply below_drew1 | refine below_set ?_ (IsS102.ge HI203.out)) | exact HB.out)); rintro e w5 ⟨v205, rfl, ho0, hi, hb, hk⟩; refine ⟨_, rfl, ?_⟩; have n0_ := Aside0.mk (Kd.R_lower ho0 (below_size (by repeat (first | (with_reducible first | exact HB.out | apply below_alloc | apply pw_below_drewN | apply below_drew1 | refine below_set ?_ (IsS102.ge HI203.out)) | exact HB.out)))); have n1_ := Aside0.mk (hb); have n2_ := Aside0.mk (hi); clear HB; clear HI203; have HO206 := n0_; have HB := n1_; have HI203 := n2_; clear n0_ n1_ n2_; (try clear hb); (try clear hb2); (try clear hk); (try clear hi); (try clear ho0)))
  go_ret
  exact ⟨_, by first | rfl | (simp [errW_none, errW_some] <;> rfl) | (simp [*, errW_none, errW_some] <;> rfl), by (with_reducible repeat (first | apply Kd.R_alloc | apply Kd.R_drewN | apply Kd.R_drew)); exact HO206.out, by repeat (first | (with_reducible first | exact HB.out | apply below_alloc | apply pw_below_drewN | apply below_drew1 | refine below_set ?_ (IsS102.ge HI203.out)) | exact HB.out)⟩

/-! ### spec_HalfOk: function 68 -/
def spec_HalfOk.f (a0 : Int) : Option (Bool) := (spec_l01In.f a0 0 4294967295).bind fun t209 => (some t209)
set_option maxHeartbeats 8000000 in
set_option maxRecDepth 100000 in
theorem spec_HalfOk.calls (a0 : Int) (r : Bool) (w : World) (h : spec_HalfOk.f a0 = some r) :
    Calls Try.prog 68 #[.int .i64 a0] w fun e w' => e = .returned (.bool r) ∧ Drawn0 w w' := by
  have H : ((spec_l01In.f a0 0 4294967295).bind fun t209 => (some t209)) = some r := h
  clear h
  replace H := Option.bind_eq_some_iff.mp H
  obtain ⟨t209, A20, H⟩ := H
  replace H : (some t209) = some r := H
  have A2 := Aside0.mk A20
  clear A20
  obtain rfl := Option.some.inj H
  go_enter Try.func68, Try.ntmps68
  go_wp2_with (first | ((with_reducible refine gate_callee (f := 67) rfl ?_); refine goesL_ (some 4) rfl rfl Try.func67 (by kernel_rfl) rfl #[.int .i64 a0, .int .i64 0, .int .i64 4294967295] rfl (by (try simp only [List.map_toArray, List.map_cons, List.map_nil]); first | done | rfl | (simp only [List.length_drop, List.length_take]; rfl)) ?_; (with_reducible refine (spec_l01In.calls a0 0 4294967295 t209 _ A2.out).mono ?_); rintro e w' ⟨rfl, ⟨nd, rfl⟩⟩; refine ⟨_, rfl, ?_⟩))
  go_ret
  exact ⟨by first | rfl | (simp; done) | (simp [*]; done), by repeat (first | exact Drawn0.refl _ | apply Drawn0.step)⟩

/-! ### spec_InsOk: function 15 -/
mutual
def spec_InsOk.j0 : Nat → Bool → Int → Int → Int → Int → Option (Bool)
  | 0, _, _, _, _, _ => none
  | k + 1, x24, x211000, x211001, x211002, x211003 => if x24 = true then (some false) else ((spec_l06Ask.f x211000).bind fun t215 => (if t215 = true then (spec_InsOk.j1 k false x211000 x211001 x211002 x211003) else (if x211002 = 0 then (spec_InsOk.j1 k (x211003 != 0) x211000 x211001 x211002 x211003) else (spec_InsOk.j1 k true x211000 x211001 x211002 x211003))))
def spec_InsOk.j1 : Nat → Bool → Int → Int → Int → Int → Option (Bool)
  | 0, _, _, _, _, _ => none
  | k + 1, x38, x211000, x211001, x211002, x211003 => if x38 = true then (some false) else (if x211000 = 1 then (some (decide (x211001 < 8))) else (if x211000 = 7 then (some (decide (x211001 < 400))) else (some true)))
end
def spec_InsOk.f (k : Nat) (a0_0 : Int) (a0_1 : Int) (a0_2 : Int) (a0_3 : Int) : Option (Bool) := (spec_l01In.f a0_0 1 8).bind fun t211 => (if t211 = true then ((spec_HalfOk.f a0_1).bind fun t212 => (if t212 = true then ((spec_l01In.f a0_2 0 15).bind fun t213 => (if t213 = true then ((spec_l01In.f a0_3 0 15).bind fun t214 => (spec_InsOk.j0 k (!t214) a0_0 a0_1 a0_2 a0_3)) else (spec_InsOk.j0 k true a0_0 a0_1 a0_2 a0_3))) else (spec_InsOk.j0 k true a0_0 a0_1 a0_2 a0_3))) else (spec_InsOk.j0 k true a0_0 a0_1 a0_2 a0_3))
theorem spec_InsOk.mono_l : ∀ k, (∀ y0 y1 y2 y3 y4, LeO (spec_InsOk.j0 k y0 y1 y2 y3 y4) (spec_InsOk.j0 (k + 1) y0 y1 y2 y3 y4)) ∧ (∀ y0 y1 y2 y3 y4, LeO (spec_InsOk.j1 k y0 y1 y2 y3 y4) (spec_InsOk.j1 (k + 1) y0 y1 y2 y3 y4))
  | 0 => ⟨fun _ _ _ _ _ r h => by simp [spec_InsOk.j0] at h, fun _ _ _ _ _ r h => by simp [spec_InsOk.j1] at h⟩
  | k + 1 => by
    obtain ⟨ih0, ih1⟩ := spec_InsOk.mono_l k
    refine ⟨?_, ?_⟩
    · intro y0 y1 y2 y3 y4
      unfold spec_InsOk.j0
      repeat' first
      | (with_reducible exact ih0 _ _ _ _ _)
      | (with_reducible exact ih1 _ _ _ _ _)
      | (with_reducible exact LeO.refl _)
      | (with_reducible exact LeO.none _)
      | (with_reducible refine LeO.ite ?_ ?_)
      | (with_reducible refine LeO.bind ?_ (fun _ => ?_))
      | exact ih0 _ _ _ _ _
      | exact ih1 _ _ _ _ _
      | exact LeO.none _
      | refine LeO.ite ?_ ?_
      | refine LeO.bind ?_ (fun _ => ?_)
    · intro y0 y1 y2 y3 y4
      unfold spec_InsOk.j1
      repeat' first
      | (with_reducible exact ih0 _ _ _ _ _)
      | (with_reducible exact ih1 _ _ _ _ _)
      | (with_reducible exact LeO.refl _)
      | (with_reducible exact LeO.none _)
      | (with_reducible refine LeO.ite ?_ ?_)
      | (with_reducible refine LeO.bind ?_ (fun _ => ?_))
      | exact ih0 _ _ _ _ _
      | exact ih1 _ _ _ _ _
      | exact LeO.none _
      | refine LeO.ite ?_ ?_
      | refine LeO.bind ?_ (fun _ => ?_)
theorem spec_InsOk.mono : ∀ a0 a1 a2 a3 k, LeO (spec_InsOk.f k a0 a1 a2 a3) (spec_InsOk.f (k + 1) a0 a1 a2 a3) := by
  intro a0 a1 a2 a3 k
  obtain ⟨ih0, ih1⟩ := spec_InsOk.mono_l k
  unfold spec_InsOk.f
  repeat' first
      | (with_reducible exact ih0 _ _ _ _ _)
      | (with_reducible exact ih1 _ _ _ _ _)
      | (with_reducible exact LeO.refl _)
      | (with_reducible exact LeO.none _)
      | (with_reducible refine LeO.ite ?_ ?_)
      | (with_reducible refine LeO.bind ?_ (fun _ => ?_))
      | exact ih0 _ _ _ _ _
      | exact ih1 _ _ _ _ _
      | exact LeO.none _
      | refine LeO.ite ?_ ?_
      | refine LeO.bind ?_ (fun _ => ?_)
set_option maxHeartbeats 8000000 in
set_option maxRecDepth 100000 in
theorem spec_InsOk.calls (k : Nat) (a0_0 : Int) (a0_1 : Int) (a0_2 : Int) (a0_3 : Int) (r : Bool) (w : World) (h : spec_InsOk.f k a0_0 a0_1 a0_2 a0_3 = some r) :
    Calls Try.prog 15 #[.agg #[.int .i64 a0_0, .int .i64 a0_1, .int .i64 a0_2, .int .i64 a0_3]] w fun e w' => e = .returned (.bool r) ∧ Below w.heap.size w w' := by
  have hu25 := Try.underlying25
  have HB := Aside0.mk (Below.refl w.heap.size w)
  have H : ((spec_l01In.f a0_0 1 8).bind fun t211 => (if t211 = true then ((spec_HalfOk.f a0_1).bind fun t212 => (if t212 = true then ((spec_l01In.f a0_2 0 15).bind fun t213 => (if t213 = true then ((spec_l01In.f a0_3 0 15).bind fun t214 => (spec_InsOk.j0 k (!t214) a0_0 a0_1 a0_2 a0_3)) else (spec_InsOk.j0 k true a0_0 a0_1 a0_2 a0_3))) else (spec_InsOk.j0 k true a0_0 a0_1 a0_2 a0_3))) else (spec_InsOk.j0 k true a0_0 a0_1 a0_2 a0_3))) = some r := h
  clear h
  have HC2 := Aside0.mk H
  clear H
  go_enter Try.func15, Try.ntmps15
  go_upto_region 1 with (first | ((with_reducible refine gate_dst (N := 1) rfl ?_); refine box_event ?hg (N := 1) ?hd (cs := #[.int .i64 a0_0, .int .i64 a0_1, .int .i64 a0_2, .int .i64 a0_3]) (t := 25) ?hr ?_; (case hd => rfl); (case hg => rfl); (case hr => first | (go_simp; done) | (go_simp; rfl)); intro gb210 hg w3 hbox hb; have n0_ := Aside0.mk (below_step (by repeat (first | (with_reducible first | exact HB.out | apply below_alloc | apply pw_below_drewN | apply below_drew1) | exact HB.out)) hb); have n1_ := Aside0.mk (hbox); have n2_ := Aside0.mk ((by rw [hg]; exact (below_size (by repeat (first | (with_reducible first | exact HB.out | apply below_alloc | apply pw_below_drewN | apply below_drew1) | exact HB.out))) : w.heap.size ≤ gb210)); have n3_ := Aside0.mk ((by rw [hg]; exact (below_size (by repeat (first | (with_reducible first | exact HB.out | apply below_alloc | apply pw_below_drewN | apply below_drew1) | exact HB.out))) : w.heap.size ≤ gb210)); clear HB; have HB := n0_; have BK210 := n1_; have GW210 := n2_; have GE210 := n3_; clear n0_ n1_ n2_ n3_; clear hb hbox hg))
  (try simp only [Act.put, List.setIfInBounds_toArray, List.set_cons_zero, List.set_cons_succ])
  go_cut [24] (fun v24 wc => ∃ (kq : Nat) (x24_1 : Bool), v24 = .bool x24_1 ∧ Aside0 (spec_InsOk.j0 kq x24_1 a0_0 a0_1 a0_2 a0_3 = some r) ∧ Aside0 (kq ≤ k) ∧ Aside0 (wc.heap[gb210]? = some (.cells #[.int .i64 a0_0, .int .i64 a0_1, .int .i64 a0_2, .int .i64 a0_3] 25 (0, 0))) ∧ Aside0 (Below w.heap.size w wc))
  case first =>
    have H := HC2.out
    clear HC2
    replace H := Option.bind_eq_some_iff.mp H
    obtain ⟨t211, A40, H⟩ := H
    replace H : (if t211 = true then ((spec_HalfOk.f a0_1).bind fun t212 => (if t212 = true then ((spec_l01In.f a0_2 0 15).bind fun t213 => (if t213 = true then ((spec_l01In.f a0_3 0 15).bind fun t214 => (spec_InsOk.j0 k (!t214) a0_0 a0_1 a0_2 a0_3)) else (spec_InsOk.j0 k true a0_0 a0_1 a0_2 a0_3))) else (spec_InsOk.j0 k true a0_0 a0_1 a0_2 a0_3))) else (spec_InsOk.j0 k true a0_0 a0_1 a0_2 a0_3)) = some r := H
    have A4 := Aside0.mk A40
    clear A40
    by_cases c5 : t211 = true
    · subst c5
      have H1 : ((spec_HalfOk.f a0_1).bind fun t212 => (if t212 = true then ((spec_l01In.f a0_2 0 15).bind fun t213 => (if t213 = true then ((spec_l01In.f a0_3 0 15).bind fun t214 => (spec_InsOk.j0 k (!t214) a0_0 a0_1 a0_2 a0_3)) else (spec_InsOk.j0 k true a0_0 a0_1 a0_2 a0_3))) else (spec_InsOk.j0 k true a0_0 a0_1 a0_2 a0_3))) = some r := by rw [if_pos rfl] at H; exact H
      clear H
      have H := H1
      clear H1
      replace H := Option.bind_eq_some_iff.mp H
      obtain ⟨t212, A60, H⟩ := H
      replace H : (if t212 = true then ((spec_l01In.f a0_2 0 15).bind fun t213 => (if t213 = true then ((spec_l01In.f a0_3 0 15).bind fun t214 => (spec_InsOk.j0 k (!t214) a0_0 a0_1 a0_2 a0_3)) else (spec_InsOk.j0 k true a0_0 a0_1 a0_2 a0_3))) else (spec_InsOk.j0 k true a0_0 a0_1 a0_2 a0_3)) = some r := H
      have A6 := Aside0.mk A60
      clear A60
      by_cases c7 : t212 = true
      · subst c7
        have H1 : ((spec_l01In.f a0_2 0 15).bind fun t213 => (if t213 = true then ((spec_l01In.f a0_3 0 15).bind fun t214 => (spec_InsOk.j0 k (!t214) a0_0 a0_1 a0_2 a0_3)) else (spec_InsOk.j0 k true a0_0 a0_1 a0_2 a0_3))) = some r := by rw [if_pos rfl] at H; exact H
        clear H
        have H := H1
        clear H1
        replace H := Option.bind_eq_some_iff.mp H
        obtain ⟨t213, A80, H⟩ := H
        replace H : (if t213 = true then ((spec_l01In.f a0_3 0 15).bind fun t214 => (spec_InsOk.j0 k (!t214) a0_0 a0_1 a0_2 a0_3)) else (spec_InsOk.j0 k true a0_0 a0_1 a0_2 a0_3)) = some r := H
        have A8 := Aside0.mk A80
        clear A80
        by_cases c9 : t213 = true
        · subst c9
          have H1 : ((spec_l01In.f a0_3 0 15).bind fun t214 => (spec_InsOk.j0 k (!t214) a0_0 a0_1 a0_2 a0_3)) = some r := by rw [if_pos rfl] at H; exact H
          clear H
          have H := H1
          clear H1
          replace H := Option.bind_eq_some_iff.mp H
          obtain ⟨t214, A100, H⟩ := H
          replace H : (spec_InsOk.j0 k (!t214) a0_0 a0_1 a0_2 a0_3) = some r := H
          have A10 := Aside0.mk A100
          clear A100
          have H' := Aside0.mk H
          clear H
          have hcz11_0 : w3.cell? ⟨gb210, 0, none⟩ = some (.int .i64 a0_0) := (blk_cell BK210.out 0).trans rfl
          have hcz11_1 : w3.cell? ⟨gb210, 1, none⟩ = some (.int .i64 a0_1) := (blk_cell BK210.out 1).trans rfl
          have hcz11_2 : w3.cell? ⟨gb210, 2, none⟩ = some (.int .i64 a0_2) := (blk_cell BK210.out 2).trans rfl
          have hcz11_3 : w3.cell? ⟨gb210, 3, none⟩ = some (.int .i64 a0_3) := (blk_cell BK210.out 3).trans rfl
          have hfz11_0 := blk_frozen BK210.out 0
          have hfz11_1 := blk_frozen BK210.out 1
          have hfz11_2 := blk_frozen BK210.out 2
          have hfz11_3 := blk_frozen BK210.out 3
          go_wp2_with (first | ((with_reducible refine gate_callee (f := 67) rfl ?_); refine goesL_ (some 5) rfl rfl Try.func67 (by kernel_rfl) rfl #[.int .i64 a0_0, .int .i64 1, .int .i64 8] rfl (by (try simp only [List.map_toArray, List.map_cons, List.map_nil]); first | done | rfl | (simp only [List.length_drop, List.length_take]; rfl)) ?_; (with_reducible refine (spec_l01In.calls a0_0 1 8 true _ A4.out).mono ?_); rintro e w' ⟨rfl, ⟨nd, rfl⟩⟩; refine ⟨_, rfl, ?_⟩) | (go_at_call 68; (with_reducible refine (spec_HalfOk.calls a0_1 true _ A6.out).mono ?_); rintro e w' ⟨rfl, ⟨nd, rfl⟩⟩) | (go_at_call 67; (with_reducible refine (spec_l01In.calls a0_2 0 15 true _ A8.out).mono ?_); rintro e w' ⟨rfl, ⟨nd, rfl⟩⟩) | (go_at_call 67; (with_reducible refine (spec_l01In.calls a0_3 0 15 t214 _ A10.out).mono ?_); rintro e w' ⟨rfl, ⟨nd, rfl⟩⟩))
          go_meet
          case rel => exact ⟨_, (!t214), (by first | rfl | (simp; done) | (simp [*]; done)), H', ⟨by first | omega | exact Nat.le_refl _⟩, ⟨by (with_reducible repeat (first | refine blk_drewN ?_ _ | refine blk_drew ?_ | refine blk_alloc ?_ _)); exact BK210.out⟩, ⟨by repeat (first | (with_reducible first | exact HB.out | apply below_alloc | apply pw_below_drewN | apply below_drew1 | refine below_set ?_ GE210.out) | exact HB.out)⟩⟩
        · replace c9 := Bool.eq_false_iff.mpr c9
          subst c9
          have H1 : (spec_InsOk.j0 k true a0_0 a0_1 a0_2 a0_3) = some r := by rw [if_neg (show ¬ (false = true) by decide)] at H; exact H
          clear H
          have H := H1
          clear H1
          have H' := Aside0.mk H
          clear H
          have hcz12_0 : w3.cell? ⟨gb210, 0, none⟩ = some (.int .i64 a0_0) := (blk_cell BK210.out 0).trans rfl
          have hcz12_1 : w3.cell? ⟨gb210, 1, none⟩ = some (.int .i64 a0_1) := (blk_cell BK210.out 1).trans rfl
          have hcz12_2 : w3.cell? ⟨gb210, 2, none⟩ = some (.int .i64 a0_2) := (blk_cell BK210.out 2).trans rfl
          have hcz12_3 : w3.cell? ⟨gb210, 3, none⟩ = some (.int .i64 a0_3) := (blk_cell BK210.out 3).trans rfl
          have hfz12_0 := blk_frozen BK210.out 0
          have hfz12_1 := blk_frozen BK210.out 1
          have hfz12_2 := blk_frozen BK210.out 2
          have hfz12_3 := blk_frozen BK210.out 3
          go_wp2_with (first | ((with_reducible refine gate_callee (f := 67) rfl ?_); refine goesL_ (some 5) rfl rfl Try.func67 (by kernel_rfl) rfl #[.int .i64 a0_0, .int .i64 1, .int .i64 8] rfl (by (try simp only [List.map_toArray, List.map_cons, List.map_nil]); first | done | rfl | (simp only [List.length_drop, List.length_take]; rfl)) ?_; (with_reducible refine (spec_l01In.calls a0_0 1 8 true _ A4.out).mono ?_); rintro e w' ⟨rfl, ⟨nd, rfl⟩⟩; refine ⟨_, rfl, ?_⟩) | (go_at_call 68; (with_reducible refine (spec_HalfOk.calls a0_1 true _ A6.out).mono ?_); rintro e w' ⟨rfl, ⟨nd, rfl⟩⟩) | (go_at_call 67; (with_reducible refine (spec_l01In.calls a0_2 0 15 false _ A8.out).mono ?_); rintro e w' ⟨rfl, ⟨nd, rfl⟩⟩))
          go_meet
          case rel => exact ⟨_, (true), (by first | rfl | (simp; done) | (simp [*]; done)), H', ⟨by first | omega | exact Nat.le_refl _⟩, ⟨by (with_reducible repeat (first | refine blk_drewN ?_ _ | refine blk_drew ?_ | refine blk_alloc ?_ _)); exact BK210.out⟩, ⟨by repeat (first | (with_reducible first | exact HB.out | apply below_alloc | apply pw_below_drewN | apply below_drew1 | refine below_set ?_ GE210.out) | exact HB.out)⟩⟩
      · replace c7 := Bool.eq_false_iff.mpr c7
        subst c7
        have H1 : (spec_InsOk.j0 k true a0_0 a0_1 a0_2 a0_3) = some r := by rw [if_neg (show ¬ (false = true) by decide)] at H; exact H
        clear H
        have H := H1
        clear H1
        have H' := Aside0.mk H
        clear H
        have hcz13_0 : w3.cell? ⟨gb210, 0, none⟩ = some (.int .i64 a0_0) := (blk_cell BK210.out 0).trans rfl
        have hcz13_1 : w3.cell? ⟨gb210, 1, none⟩ = some (.int .i64 a0_1) := (blk_cell BK210.out 1).trans rfl
        have hcz13_2 : w3.cell? ⟨gb210, 2, none⟩ = some (.int .i64 a0_2) := (blk_cell BK210.out 2).trans rfl
        have hcz13_3 : w3.cell? ⟨gb210, 3, none⟩ = some (.int .i64 a0_3) := (blk_cell BK210.out 3).trans rfl
        have hfz13_0 := blk_frozen BK210.out 0
        have hfz13_1 := blk_frozen BK210.out 1
        have hfz13_2 := blk_frozen BK210.out 2
        have hfz13_3 := blk_frozen BK210.out 3
        go_wp2_with (first | ((with_reducible refine gate_callee (f := 67) rfl ?_); refine goesL_ (some 5) rfl rfl Try.func67 (by kernel_rfl) rfl #[.int .i64 a0_0, .int .i64 1, .int .i64 8] rfl (by (try simp only [List.map_toArray, List.map_cons, List.map_nil]); first | done | rfl | (simp only [List.length_drop, List.length_take]; rfl)) ?_; (with_reducible refine (spec_l01In.calls a0_0 1 8 true _ A4.out).mono ?_); rintro e w' ⟨rfl, ⟨nd, rfl⟩⟩; refine ⟨_, rfl, ?_⟩) | (go_at_call 68; (with_reducible refine (spec_HalfOk.calls a0_1 false _ A6.out).mono ?_); rintro e w' ⟨rfl, ⟨nd, rfl⟩⟩))
        go_meet
        case rel => exact ⟨_, (true), (by first | rfl | (simp; done) | (simp [*]; done)), H', ⟨by first | omega | exact Nat.le_refl _⟩, ⟨by (with_reducible repeat (first | refine blk_drewN ?_ _ | refine blk_drew ?_ | refine blk_alloc ?_ _)); exact BK210.out⟩, ⟨by repeat (first | (with_reducible first | exact HB.out | apply below_alloc | apply pw_below_drewN | apply below_drew1 | refine below_set ?_ GE210.out) | exact HB.out)⟩⟩
    · replace c5 := Bool.eq_false_iff.mpr c5
      subst c5
      have H1 : (spec_InsOk.j0 k true a0_0 a0_1 a0_2 a0_3) = some r := by rw [if_neg (show ¬ (false = true) by decide)] at H; exact H
      clear H
      have H := H1
      clear H1
      have H' := Aside0.mk H
      clear H
      have hcz14_0 : w3.cell? ⟨gb210, 0, none⟩ = some (.int .i64 a0_0) := (blk_cell BK210.out 0).trans rfl
      have hcz14_1 : w3.cell? ⟨gb210, 1, none⟩ = some (.int .i64 a0_1) := (blk_cell BK210.out 1).trans rfl
      have hcz14_2 : w3.cell? ⟨gb210, 2, none⟩ = some (.int .i64 a0_2) := (blk_cell BK210.out 2).trans rfl
      have hcz14_3 : w3.cell? ⟨gb210, 3, none⟩ = some (.int .i64 a0_3) := (blk_cell BK210.out 3).trans rfl
      have hfz14_0 := blk_frozen BK210.out 0
      have hfz14_1 := blk_frozen BK210.out 1
      have hfz14_2 := blk_frozen BK210.out 2
      have hfz14_3 := blk_frozen BK210.out 3
      go_wp2_with (first | ((with_reducible refine gate_callee (f := 67) rfl ?_); refine goesL_ (some 5) rfl rfl Try.func67 (by kernel_rfl) rfl #[.int .i64 a0_0, .int .i64 1, .int .i64 8] rfl (by (try simp only [List.map_toArray, List.map_cons, List.map_nil]); first | done | rfl | (simp only [List.length_drop, List.length_take]; rfl)) ?_; (with_reducible refine (spec_l01In.calls a0_0 1 8 false _ A4.out).mono ?_); rintro e w' ⟨rfl, ⟨nd, rfl⟩⟩; refine ⟨_, rfl, ?_⟩))
      go_meet
      case rel => exact ⟨_, (true), (by first | rfl | (simp; done) | (simp [*]; done)), H', ⟨by first | omega | exact Nat.le_refl _⟩, ⟨by (with_reducible repeat (first | refine blk_drewN ?_ _ | refine blk_drew ?_ | refine blk_alloc ?_ _)); exact BK210.out⟩, ⟨by repeat (first | (with_reducible first | exact HB.out | apply below_alloc | apply pw_below_drewN | apply below_drew1 | refine below_set ?_ GE210.out) | exact HB.out)⟩⟩
  case rest =>
    clear HC2
    try clear c1
    try clear p2
    try clear c5
    try clear c6
    try clear c7
    try clear c9
    try clear hcz11_0
    try clear hcz11_1
    try clear hcz11_2
    try clear hcz11_3
    try clear hcz12_0
    try clear hcz12_1
    try clear hcz12_2
    try clear hcz12_3
    try clear hcz13_0
    try clear hcz13_1
    try clear hcz13_2
    try clear hcz13_3
    try clear hcz14_0
    try clear hcz14_1
    try clear hcz14_2
    try clear hcz14_3
    try clear hfz11_0
    try clear hfz11_1
    try clear hfz11_2
    try clear hfz11_3
    try clear hfz12_0
    try clear hfz12_1
    try clear hfz12_2
    try clear hfz12_3
    try clear hfz13_0
    try clear hfz13_1
    try clear hfz13_2
    try clear hfz13_3
    try clear hfz14_0
    try clear hfz14_1
    try clear hfz14_2
    try clear hfz14_3
    obtain ⟨kq, x24_1, rfl, HA, HJ1, BK210, HB⟩ := hcut
    cases kq with
    | zero => exact absurd HA.out (by simp [spec_InsOk.j0])
    | succ kj1 =>
      have H := HA.out
      clear HA
      simp only [spec_InsOk.j0] at H
      by_cases c15 : x24_1 = true
      · subst c15
        have H1 : (some false) = some r := by rw [if_pos rfl] at H; exact H
        clear H
        have H := H1
        clear H1
        obtain rfl := Option.some.inj H
        go_wp2
        go_ret
        exact ⟨by first | rfl | (simp [errW_none, errW_some] <;> rfl) | (simp [*, errW_none, errW_some] <;> rfl), by repeat (first | (with_reducible first | exact HB.out | apply below_alloc | apply pw_below_drewN | apply below_drew1 | refine below_set ?_ GE210.out) | exact HB.out)⟩
      · replace c15 := Bool.eq_false_iff.mpr c15
        subst c15
        have H1 : ((spec_l06Ask.f a0_0).bind fun t215 => (if t215 = true then (spec_InsOk.j1 kj1 false a0_0 a0_1 a0_2 a0_3) else (if a0_2 = 0 then (spec_InsOk.j1 kj1 (a0_3 != 0) a0_0 a0_1 a0_2 a0_3) else (spec_InsOk.j1 kj1 true a0_0 a0_1 a0_2 a0_3)))) = some r := by rw [if_neg (show ¬ (false = true) by decide)] at H; exact H
        clear H
        have H := H1
        clear H1
        have HC16 := Aside0.mk H
        clear H
        go_upto_region 3 with (fail)
        go_cut [38] (fun v38 wc => ∃ (kq : Nat) (x38_15 : Bool), v38 = .bool x38_15 ∧ Aside0 (spec_InsOk.j1 kq x38_15 a0_0 a0_1 a0_2 a0_3 = some r) ∧ Aside0 (kq ≤ kj1) ∧ Aside0 (wc.heap[gb210]? = some (.cells #[.int .i64 a0_0, .int .i64 a0_1, .int .i64 a0_2, .int .i64 a0_3] 25 (0, 0))) ∧ Aside0 (Below w.heap.size w wc))
        case first =>
          have H := HC16.out
          clear HC16
          replace H := Option.bind_eq_some_iff.mp H
          obtain ⟨t215, A170, H⟩ := H
          replace H : (if t215 = true then (spec_InsOk.j1 kj1 false a0_0 a0_1 a0_2 a0_3) else (if a0_2 = 0 then (spec_InsOk.j1 kj1 (a0_3 != 0) a0_0 a0_1 a0_2 a0_3) else (spec_InsOk.j1 kj1 true a0_0 a0_1 a0_2 a0_3))) = some r := H
          have A17 := Aside0.mk A170
          clear A170
          by_cases c18 : t215 = true
          · subst c18
            have H1 : (spec_InsOk.j1 kj1 false a0_0 a0_1 a0_2 a0_3) = some r := by rw [if_pos rfl] at H; exact H
            clear H
            have H := H1
            clear H1
            have H' := Aside0.mk H
            clear H
            have hcz19_0 : wc.cell? ⟨gb210, 0, none⟩ = some (.int .i64 a0_0) := (blk_cell BK210.out 0).trans rfl
            have hcz19_1 : wc.cell? ⟨gb210, 1, none⟩ = some (.int .i64 a0_1) := (blk_cell BK210.out 1).trans rfl
            have hcz19_2 : wc.cell? ⟨gb210, 2, none⟩ = some (.int .i64 a0_2) := (blk_cell BK210.out 2).trans rfl
            have hcz19_3 : wc.cell? ⟨gb210, 3, none⟩ = some (.int .i64 a0_3) := (blk_cell BK210.out 3).trans rfl
            have hfz19_0 := blk_frozen BK210.out 0
            have hfz19_1 := blk_frozen BK210.out 1
            have hfz19_2 := blk_frozen BK210.out 2
            have hfz19_3 := blk_frozen BK210.out 3
            go_wp2_with (first | ((with_reducible refine gate_callee (f := 69) rfl ?_); refine goesL_ (some 27) rfl rfl Try.func69 (by kernel_rfl) rfl #[.int .i64 a0_0] rfl (by (try simp only [List.map_toArray, List.map_cons, List.map_nil]); first | done | rfl | (simp only [List.length_drop, List.length_take]; rfl)) ?_; (with_reducible refine (spec_l06Ask.calls a0_0 true _ A17.out).mono ?_); rintro e w' ⟨rfl, ⟨nd, rfl⟩⟩; refine ⟨_, rfl, ?_⟩))
            go_meet
            case rel => exact ⟨_, (false), (by first | rfl | (simp; done) | (simp [*]; done)), H', ⟨by have := HJ1.out; first | omega | exact Nat.le_refl _⟩, ⟨by (with_reducible repeat (first | refine blk_drewN ?_ _ | refine blk_drew ?_ | refine blk_alloc ?_ _)); exact BK210.out⟩, ⟨by repeat (first | (with_reducible first | exact HB.out | apply below_alloc | apply pw_below_drewN | apply below_drew1 | refine below_set ?_ GE210.out) | exact HB.out)⟩⟩
          · replace c18 := Bool.eq_false_iff.mpr c18
            subst c18
            have H1 : (if a0_2 = 0 then (spec_InsOk.j1 kj1 (a0_3 != 0) a0_0 a0_1 a0_2 a0_3) else (spec_InsOk.j1 kj1 true a0_0 a0_1 a0_2 a0_3)) = some r := by rw [if_neg (show ¬ (false = true) by decide)] at H; exact H
            clear H
            have H := H1
            clear H1
            by_cases c20 : a0_2 = 0
            · rw [if_pos c20] at H
              have c20b0 : (a0_2 == 0) = true := beq_iff_eq.mpr c20
              have c20b1 : (a0_2 != 0) = false := bne_eq_false_iff_eq.mpr c20
              clear c20
              (first | rw [c20b0] | (simp only [i64_w, i32_w]; rw [c20b0]) | skip)
              have H' := Aside0.mk H
              clear H
              have hcz21_0 : wc.cell? ⟨gb210, 0, none⟩ = some (.int .i64 a0_0) := (blk_cell BK210.out 0).trans rfl
              have hcz21_1 : wc.cell? ⟨gb210, 1, none⟩ = some (.int .i64 a0_1) := (blk_cell BK210.out 1).trans rfl
              have hcz21_2 : wc.cell? ⟨gb210, 2, none⟩ = some (.int .i64 a0_2) := (blk_cell BK210.out 2).trans rfl
              have hcz21_3 : wc.cell? ⟨gb210, 3, none⟩ = some (.int .i64 a0_3) := (blk_cell BK210.out 3).trans rfl
              have hfz21_0 := blk_frozen BK210.out 0
              have hfz21_1 := blk_frozen BK210.out 1
              have hfz21_2 := blk_frozen BK210.out 2
              have hfz21_3 := blk_frozen BK210.out 3
              go_wp2_with (first | ((with_reducible refine gate_callee (f := 69) rfl ?_); refine goesL_ (some 27) rfl rfl Try.func69 (by kernel_rfl) rfl #[.int .i64 a0_0] rfl (by (try simp only [List.map_toArray, List.map_cons, List.map_nil]); first | done | rfl | (simp only [List.length_drop, List.length_take]; rfl)) ?_; (with_reducible refine (spec_l06Ask.calls a0_0 false _ A17.out).mono ?_); rintro e w' ⟨rfl, ⟨nd, rfl⟩⟩; refine ⟨_, rfl, ?_⟩))
              go_meet
              case rel => exact ⟨_, ((a0_3 != 0)), (by first | rfl | (simp; done) | (simp [*]; done)), H', ⟨by have := HJ1.out; first | omega | exact Nat.le_refl _⟩, ⟨by (with_reducible repeat (first | refine blk_drewN ?_ _ | refine blk_drew ?_ | refine blk_alloc ?_ _)); exact BK210.out⟩, ⟨by repeat (first | (with_reducible first | exact HB.out | apply below_alloc | apply pw_below_drewN | apply below_drew1 | refine below_set ?_ GE210.out) | exact HB.out)⟩⟩
            · rw [if_neg c20] at H
              have c20b0 : (a0_2 == 0) = false := beq_eq_false_iff_ne.mpr c20
              have c20b1 : (a0_2 != 0) = true := bne_iff_ne.mpr c20
              (first | rw [c20b0] | (simp only [i64_w, i32_w]; rw [c20b0]) | skip)
              have H' := Aside0.mk H
              clear H
              have hcz22_0 : wc.cell? ⟨gb210, 0, none⟩ = some (.int .i64 a0_0) := (blk_cell BK210.out 0).trans rfl
              have hcz22_1 : wc.cell? ⟨gb210, 1, none⟩ = some (.int .i64 a0_1) := (blk_cell BK210.out 1).trans rfl
              have hcz22_2 : wc.cell? ⟨gb210, 2, none⟩ = some (.int .i64 a0_2) := (blk_cell BK210.out 2).trans rfl
              have hcz22_3 : wc.cell? ⟨gb210, 3, none⟩ = some (.int .i64 a0_3) := (blk_cell BK210.out 3).trans rfl
              have hfz22_0 := blk_frozen BK210.out 0
              have hfz22_1 := blk_frozen BK210.out 1
              have hfz22_2 := blk_frozen BK210.out 2
              have hfz22_3 := blk_frozen BK210.out 3
              go_wp2_with (first | ((with_reducible refine gate_callee (f := 69) rfl ?_); refine goesL_ (some 27) rfl rfl Try.func69 (by kernel_rfl) rfl #[.int .i64 a0_0] rfl (by (try simp only [List.map_toArray, List.map_cons, List.map_nil]); first | done | rfl | (simp only [List.length_drop, List.length_take]; rfl)) ?_; (with_reducible refine (spec_l06Ask.calls a0_0 false _ A17.out).mono ?_); rintro e w' ⟨rfl, ⟨nd, rfl⟩⟩; refine ⟨_, rfl, ?_⟩))
              go_meet
              case rel => exact ⟨_, (true), (by first | rfl | (simp; done) | (simp [*]; done)), H', ⟨by have := HJ1.out; first | omega | exact Nat.le_refl _⟩, ⟨by (with_reducible repeat (first | refine blk_drewN ?_ _ | refine blk_drew ?_ | refine blk_alloc ?_ _)); exact BK210.out⟩, ⟨by repeat (first | (with_reducible first | exact HB.out | apply below_alloc | apply pw_below_drewN | apply below_drew1 | refine below_set ?_ GE210.out) | exact HB.out)⟩⟩
        case rest =>
          clear HC16
          try clear c1
          try clear c2
          try clear p2
          try clear c5
          try clear c6
          try clear c7
          try clear c9
          try clear c15
          try clear c18
          try clear c20
          try clear c20b0
          try clear c20b1
          try clear hcz11_0
          try clear hcz11_1
          try clear hcz11_2
          try clear hcz11_3
          try clear hcz12_0
          try clear hcz12_1
          try clear hcz12_2
          try clear hcz12_3
          try clear hcz13_0
          try clear hcz13_1
          try clear hcz13_2
          try clear hcz13_3
          try clear hcz14_0
          try clear hcz14_1
          try clear hcz14_2
          try clear hcz14_3
          try clear hcz19_0
          try clear hcz19_1
          try clear hcz19_2
          try clear hcz19_3
          try clear hcz21_0
          try clear hcz21_1
          try clear hcz21_2
          try clear hcz21_3
          try clear hcz22_0
          try clear hcz22_1
          try clear hcz22_2
          try clear hcz22_3
          try clear hfz11_0
          try clear hfz11_1
          try clear hfz11_2
          try clear hfz11_3
          try clear hfz12_0
          try clear hfz12_1
          try clear hfz12_2
          try clear hfz12_3
          try clear hfz13_0
          try clear hfz13_1
          try clear hfz13_2
          try clear hfz13_3
          try clear hfz14_0
          try clear hfz14_1
          try clear hfz14_2
          try clear hfz14_3
          try clear hfz19_0
          try clear hfz19_1
          try clear hfz19_2
          try clear hfz19_3
          try clear hfz21_0
          try clear hfz21_1
          try clear hfz21_2
          try clear hfz21_3
          try clear hfz22_0
          try clear hfz22_1
          try clear hfz22_2
          try clear hfz22_3
          try clear p2
          obtain ⟨kq, x38_15, rfl, HA, HJ15, BK210, HB⟩ := hcut
          cases kq with
          | zero => exact absurd HA.out (by simp [spec_InsOk.j1])
          | succ kj15 =>
            have H := HA.out
            clear HA
            simp only [spec_InsOk.j1] at H
            by_cases c23 : x38_15 = true
            · subst c23
              have H1 : (some false) = some r := by rw [if_pos rfl] at H; exact H
              clear H
              have H := H1
              clear H1
              obtain rfl := Option.some.inj H
              go_wp2
              go_ret
              exact ⟨by first | rfl | (simp [errW_none, errW_some] <;> rfl) | (simp [*, errW_none, errW_some] <;> rfl), by repeat (first | (with_reducible first | exact HB.out | apply below_alloc | apply pw_below_drewN | apply below_drew1 | refine below_set ?_ GE210.out) | exact HB.out)⟩
            · replace c23 := Bool.eq_false_iff.mpr c23
              subst c23
              have H1 : (if a0_0 = 1 then (some (decide (a0_1 < 8))) else (if a0_0 = 7 then (some (decide (a0_1 < 400))) else (some true))) = some r := by rw [if_neg (show ¬ (false = true) by decide)] at H; exact H
              clear H
              have H := H1
              clear H1
              by_cases c24 : a0_0 = 1
              · rw [if_pos c24] at H
                have c24b0 : (a0_0 == 1) = true := beq_iff_eq.mpr c24
                have c24b1 : (a0_0 != 1) = false := bne_eq_false_iff_eq.mpr c24
                clear c24
                obtain rfl := Option.some.inj H
                have hcz25_0 : wc.cell? ⟨gb210, 0, none⟩ = some (.int .i64 a0_0) := (blk_cell BK210.out 0).trans rfl
                have hcz25_1 : wc.cell? ⟨gb210, 1, none⟩ = some (.int .i64 a0_1) := (blk_cell BK210.out 1).trans rfl
                have hcz25_2 : wc.cell? ⟨gb210, 2, none⟩ = some (.int .i64 a0_2) := (blk_cell BK210.out 2).trans rfl
                have hcz25_3 : wc.cell? ⟨gb210, 3, none⟩ = some (.int .i64 a0_3) := (blk_cell BK210.out 3).trans rfl
                have hfz25_0 := blk_frozen BK210.out 0
                have hfz25_1 := blk_frozen BK210.out 1
                have hfz25_2 := blk_frozen BK210.out 2
                have hfz25_3 := blk_frozen BK210.out 3
                go_wp2
                go_ret
                exact ⟨by first | rfl | (simp [errW_none, errW_some] <;> rfl) | (simp [*, errW_none, errW_some] <;> rfl), by repeat (first | (with_reducible first | exact HB.out | apply below_alloc | apply pw_below_drewN | apply below_drew1 | refine below_set ?_ GE210.out) | exact HB.out)⟩
              · rw [if_neg c24] at H
                have c24b0 : (a0_0 == 1) = false := beq_eq_false_iff_ne.mpr c24
                have c24b1 : (a0_0 != 1) = true := bne_iff_ne.mpr c24
                by_cases c26 : a0_0 = 7
                · rw [if_pos c26] at H
                  have c26b0 : (a0_0 == 7) = true := beq_iff_eq.mpr c26
                  have c26b1 : (a0_0 != 7) = false := bne_eq_false_iff_eq.mpr c26
                  clear c26
                  obtain rfl := Option.some.inj H
                  have hcz27_0 : wc.cell? ⟨gb210, 0, none⟩ = some (.int .i64 a0_0) := (blk_cell BK210.out 0).trans rfl
                  have hcz27_1 : wc.cell? ⟨gb210, 1, none⟩ = some (.int .i64 a0_1) := (blk_cell BK210.out 1).trans rfl
                  have hcz27_2 : wc.cell? ⟨gb210, 2, none⟩ = some (.int .i64 a0_2) := (blk_cell BK210.out 2).trans rfl
                  have hcz27_3 : wc.cell? ⟨gb210, 3, none⟩ = some (.int .i64 a0_3) := (blk_cell BK210.out 3).trans rfl
                  have hfz27_0 := blk_frozen BK210.out 0
                  have hfz27_1 := blk_frozen BK210.out 1
                  have hfz27_2 := blk_frozen BK210.out 2
                  have hfz27_3 := blk_frozen BK210.out 3
                  go_wp2
                  go_ret
                  exact ⟨by first | rfl | (simp [errW_none, errW_some] <;> rfl) | (simp [*, errW_none, errW_some] <;> rfl), by repeat (first | (with_reducible first | exact HB.out | apply below_alloc | apply pw_below_drewN | apply below_drew1 | refine below_set ?_ GE210.out) | exact HB.out)⟩
                · rw [if_neg c26] at H
                  have c26b0 : (a0_0 == 7) = false := beq_eq_false_iff_ne.mpr c26
                  have c26b1 : (a0_0 != 7) = true := bne_iff_ne.mpr c26
                  obtain rfl := Option.some.inj H
                  have hcz28_0 : wc.cell? ⟨gb210, 0, none⟩ = some (.int .i64 a0_0) := (blk_cell BK210.out 0).trans rfl
                  have hcz28_1 : wc.cell? ⟨gb210, 1, none⟩ = some (.int .i64 a0_1) := (blk_cell BK210.out 1).trans rfl
                  have hcz28_2 : wc.cell? ⟨gb210, 2, none⟩ = some (.int .i64 a0_2) := (blk_cell BK210.out 2).trans rfl
                  have hcz28_3 : wc.cell? ⟨gb210, 3, none⟩ = some (.int .i64 a0_3) := (blk_cell BK210.out 3).trans rfl
                  have hfz28_0 := blk_frozen BK210.out 0
                  have hfz28_1 := blk_frozen BK210.out 1
                  have hfz28_2 := blk_frozen BK210.out 2
                  have hfz28_3 := blk_frozen BK210.out 3
                  go_wp2
                  go_ret
                  exact ⟨by first | rfl | (simp [errW_none, errW_some] <;> rfl) | (simp [*, errW_none, errW_some] <;> rfl), by repeat (first | (with_reducible first | exact HB.out | apply below_alloc | apply pw_below_drewN | apply below_drew1 | refine below_set ?_ GE210.out) | exact HB.out)⟩

end Go.Proofs.Ytfchokhdhnfajaa.PFnEnds
