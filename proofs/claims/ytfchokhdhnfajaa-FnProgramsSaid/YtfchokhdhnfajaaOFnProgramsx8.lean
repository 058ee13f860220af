/- What the print of the kit wrote of FnPrograms's functions, with some steps of some walks mended by this session. -/
import Derived.Test.YtfchokhdhnfajaaPFnProgramsx0
import Derived.Test.YtfchokhdhnfajaaPFnProgramsx2
import Derived.Test.YtfchokhdhnfajaaPFnProgramsx7
namespace Go.Proofs.Ytfchokhdhnfajaa.PFnPrograms
open Go.RowKit Go.Proofs.YtfchokhdhnfajaaW.PrintWords Go.Proofs.YtfchokhdhnfajaaW.PrintLast Go.Proofs.YtfchokhdhnfajaaW.PrintMore
attribute [local go_sem] max2_int min2_int max_two min_two max_three min_three max_four min_four   -- for this text's walks alone
set_option linter.unusedVariables false
set_option linter.unusedSimpArgs false

/-! ### spec_l06Ins: function 99 -/
def spec_l06Ins.j0 : Nat → Int → Bool → List Int → Int → Int → Int → Int → Int → Int → Option (Int × Int × Int × Int × Int × Int)
  | 0, _, _, _, _, _, _, _, _, _ => none
  | k + 1, x11, x22, x1000, x1001, x1002, x236000, x236001, x236002, x236003 => if x22 = true then ((spec_l01Below.f x1000 x1001 x1002 4).bind fun bt242 => ((spec_l01Below.f x1000 bt242.2.1 bt242.2.2 4).bind fun bt245 => (some (x236000, x236001, bt242.1, bt245.1, bt245.2.1, bt245.2.2)))) else (if x11 = 8 then ((spec_l01Below.f x1000 x1001 x1002 6).bind fun bt248 => ((spec_l01Below.f x1000 bt248.2.1 bt248.2.2 5).bind fun bt251 => ((spec_ResultOf.f bt248.1 bt251.1).bind fun t254 => (some (x236000, t254, x236002, x236003, bt251.2.1, bt251.2.2))))) else (some (x236000, x236001, x236002, x236003, x1001, x1002)))
def spec_l06Ins.f (k : Nat) (s0_0 : List Int) (s0_1 : Int) (s0_2 : Int) : Option (Int × Int × Int × Int × Int × Int) := (spec_l01Below.f s0_0 s0_1 s0_2 8).bind fun bt229 => ((spec_l04Half.f s0_0 bt229.2.1 bt229.2.2).bind fun bt232 => (if (wrap64 (1 + bt229.1)) = 1 then ((spec_l01Below.f s0_0 bt232.2.1 bt232.2.2 8).bind fun bt236 => (some (wrap64 (1 + bt229.1), bt236.1, 0, 0, bt236.2.1, bt236.2.2))) else (if (wrap64 (1 + bt229.1)) = 7 then ((spec_l01Below.f s0_0 bt232.2.1 bt232.2.2 4).bind fun bt239 => (some (wrap64 (1 + bt229.1), bt239.1, 0, 0, bt239.2.1, bt239.2.2))) else (if (wrap64 (1 + bt229.1)) = 3 then (spec_l06Ins.j0 k (wrap64 (1 + bt229.1)) ((wrap64 (1 + bt229.1)) == 3) s0_0 bt232.2.1 bt232.2.2 (wrap64 (1 + bt229.1)) bt232.1 0 0) else (if (wrap64 (1 + bt229.1)) = 4 then (spec_l06Ins.j0 k (wrap64 (1 + bt229.1)) ((wrap64 (1 + bt229.1)) == 4) s0_0 bt232.2.1 bt232.2.2 (wrap64 (1 + bt229.1)) bt232.1 0 0) else (if (wrap64 (1 + bt229.1)) = 5 then (spec_l06Ins.j0 k (wrap64 (1 + bt229.1)) ((wrap64 (1 + bt229.1)) == 5) s0_0 bt232.2.1 bt232.2.2 (wrap64 (1 + bt229.1)) bt232.1 0 0) else (spec_l06Ins.j0 k (wrap64 (1 + bt229.1)) ((wrap64 (1 + bt229.1)) == 6) s0_0 bt232.2.1 bt232.2.2 (wrap64 (1 + bt229.1)) bt232.1 0 0)))))))
theorem spec_l06Ins.mono_l : ∀ k, (∀ y0 y1 y2 y3 y4 y5 y6 y7 y8, LeO (spec_l06Ins.j0 k y0 y1 y2 y3 y4 y5 y6 y7 y8) (spec_l06Ins.j0 (k + 1) y0 y1 y2 y3 y4 y5 y6 y7 y8))
  | 0 => fun _ _ _ _ _ _ _ _ _ r h => by simp [spec_l06Ins.j0] at h
  | k + 1 => by
    have ih0 := spec_l06Ins.mono_l k
    · intro y0 y1 y2 y3 y4 y5 y6 y7 y8
      unfold spec_l06Ins.j0
      repeat' first
      | (with_reducible exact ih0 _ _ _ _ _ _ _ _ _)
      | (with_reducible exact LeO.refl _)
      | (with_reducible exact LeO.none _)
      | (with_reducible refine LeO.ite ?_ ?_)
      | (with_reducible refine LeO.bind ?_ (fun _ => ?_))
      | exact ih0 _ _ _ _ _ _ _ _ _
      | exact LeO.none _
      | refine LeO.ite ?_ ?_
      | refine LeO.bind ?_ (fun _ => ?_)
theorem spec_l06Ins.mono : ∀ a0 a1 a2 k, LeO (spec_l06Ins.f k a0 a1 a2) (spec_l06Ins.f (k + 1) a0 a1 a2) := by
  intro a0 a1 a2 k
  have ih0 := spec_l06Ins.mono_l k
  unfold spec_l06Ins.f
  repeat' first
      | (with_reducible exact ih0 _ _ _ _ _ _ _ _ _)
      | (with_reducible exact LeO.refl _)
      | (with_reducible exact LeO.none _)
      | (with_reducible refine LeO.ite ?_ ?_)
      | (with_reducible refine LeO.bind ?_ (fun _ => ?_))
      | exact ih0 _ _ _ _ _ _ _ _ _
      | exact LeO.none _
      | refine LeO.ite ?_ ?_
      | refine LeO.bind ?_ (fun _ => ?_)
theorem quad {W : World} {g : Nat} {a b c d : Int} (h : W.heap[g]? = some (.cells #[.int .i64 a, .int .i64 b, .int .i64 c, .int .i64 d] 25 (0, 0))) :
    W.cell? ⟨g, 0, none⟩ = some (.int .i64 a) ∧ W.frozen? ⟨g, 0, none⟩ = false ∧ W.cell? ⟨g, 1, none⟩ = some (.int .i64 b) ∧ W.frozen? ⟨g, 1, none⟩ = false ∧ W.cell? ⟨g, 2, none⟩ = some (.int .i64 c) ∧ W.frozen? ⟨g, 2, none⟩ = false ∧ W.cell? ⟨g, 3, none⟩ = some (.int .i64 d) ∧ W.frozen? ⟨g, 3, none⟩ = false :=
  ⟨(blk_cell h 0).trans rfl, blk_frozen h 0, (blk_cell h 1).trans rfl, blk_frozen h 1, (blk_cell h 2).trans rfl, blk_frozen h 2, (blk_cell h 3).trans rfl, blk_frozen h 3⟩
/-- Two boxes of four numbers, ga and gb, beside the reader's cell. -/
structure Two (w0 w W : World) (g ga gb : Nat) (s : List Int) (f1 f2 : Int) (c1 c2 : Array Value) : Prop where
  hi : IsS102 w0 W g s f1 f2
  hk : KeepBut w W g none
  hb : Below w0.heap.size w0 W
  b1 : W.heap[ga]? = some (.cells c1 25 (0, 0))
  b2 : W.heap[gb]? = some (.cells c2 25 (0, 0))
  w1 : w.heap.size ≤ ga
  w2 : w.heap.size ≤ gb
  hw : w0.heap.size ≤ w.heap.size
  n1 : g ≠ ga
  n2 : g ≠ gb
  n3 : ga ≠ gb
theorem Two.put1 {w0 w W : World} {g ga gb : Nat} {s : List Int} {f1 f2 : Int} {c1 c2 : Array Value} (h : Two w0 w W g ga gb s f1 f2 c1 c2) (i : Nat) (u : Value) : Two w0 w (W.setCell ⟨ga, i, none⟩ u) g ga gb s f1 f2 (c1.setIfInBounds i u) c2 :=
  ⟨IsS102.far h.hi h.n1 u, keep_far h.hk h.w1 u, below_set h.hb (Nat.le_trans h.hw h.w1), blk_set h.b1 i u, blk_far h.b2 (Ne.symm h.n3) u, h.w1, h.w2, h.hw, h.n1, h.n2, h.n3⟩
theorem Two.put2 {w0 w W : World} {g ga gb : Nat} {s : List Int} {f1 f2 : Int} {c1 c2 : Array Value} (h : Two w0 w W g ga gb s f1 f2 c1 c2) (i : Nat) (u : Value) : Two w0 w (W.setCell ⟨gb, i, none⟩ u) g ga gb s f1 f2 c1 (c2.setIfInBounds i u) :=
  ⟨IsS102.far h.hi h.n2 u, keep_far h.hk h.w2 u, below_set h.hb (Nat.le_trans h.hw h.w2), blk_far h.b1 h.n3 u, blk_set h.b2 i u, h.w1, h.w2, h.hw, h.n1, h.n2, h.n3⟩
theorem Two.drewN {w0 w W : World} {g ga gb : Nat} {s : List Int} {f1 f2 : Int} {c1 c2 : Array Value} (h : Two w0 w W g ga gb s f1 f2 c1 c2) (n : Nat) : Two w0 w (W.drewN n) g ga gb s f1 f2 c1 c2 :=
  ⟨IsS102.drewN h.hi n, keep_drewN h.hk n, pw_below_drewN h.hb n, blk_drewN h.b1 n, blk_drewN h.b2 n, h.w1, h.w2, h.hw, h.n1, h.n2, h.n3⟩
theorem Two.call {w0 w W W1 : World} {g ga gb : Nat} {s : List Int} {f1 f2 e1 e2 : Int} {c1 c2 : Array Value} (h : Two w0 w W g ga gb s f1 f2 c1 c2) (hi : IsS102 w0 W1 g s e1 e2) (hb : Below w0.heap.size w0 W1) (hk : KeepBut W W1 g none) : Two w0 w W1 g ga gb s e1 e2 c1 c2 :=
  ⟨hi, h.hk.trans hk (.inl rfl), hb, (hk.2 ga (blk_lt h.b1) (Ne.symm h.n1) (by simp)).trans h.b1, (hk.2 gb (blk_lt h.b2) (Ne.symm h.n2) (by simp)).trans h.b2, h.w1, h.w2, h.hw, h.n1, h.n2, h.n3⟩
/-- What spec.l06Ins tells. -/
theorem spec_l06Ins.parts {k : Nat} {s : List Int} {i h : Int} {r : Int × Int × Int × Int × Int × Int} (H : spec_l06Ins.f k s i h = some r) :
    ∃ b i1 g1 hf i2 g2 op, spec_l01Below.f s i h 8 = some (b, i1, g1) ∧ spec_l04Half.f s i1 g1 = some (hf, i2, g2) ∧ wrap64 (1 + b) = op ∧
    ((op = 1 ∧ ∃ K i3 g3, spec_l01Below.f s i2 g2 8 = some (K, i3, g3) ∧ (op, K, 0, 0, i3, g3) = r) ∨
     (op = 7 ∧ ∃ K i3 g3, spec_l01Below.f s i2 g2 4 = some (K, i3, g3) ∧ (op, K, 0, 0, i3, g3) = r) ∨
     ((op = 3 ∨ op = 4 ∨ op = 5 ∨ op = 6) ∧ ∃ Y i3 g3 N i4 g4, spec_l01Below.f s i2 g2 4 = some (Y, i3, g3) ∧ spec_l01Below.f s i3 g3 4 = some (N, i4, g4) ∧ (op, hf, Y, N, i4, g4) = r) ∨
     (op = 8 ∧ ∃ a i3 g3 d i4 g4 q, spec_l01Below.f s i2 g2 6 = some (a, i3, g3) ∧ spec_l01Below.f s i3 g3 5 = some (d, i4, g4) ∧ spec_ResultOf.f a d = some q ∧ (op, q, 0, 0, i4, g4) = r) ∨
     ((op ≠ 1 ∧ op ≠ 7 ∧ op ≠ 3 ∧ op ≠ 4 ∧ op ≠ 5 ∧ op ≠ 6 ∧ op ≠ 8) ∧ (op, hf, 0, 0, i2, g2) = r)) := by
  unfold spec_l06Ins.f at H
  obtain ⟨⟨b, i1, g1⟩, h1, H⟩ := Option.bind_eq_some_iff.mp H
  obtain ⟨⟨hf, i2, g2⟩, h2, H⟩ := Option.bind_eq_some_iff.mp H
  dsimp only at h1 h2 H
  obtain ⟨op, hop⟩ : ∃ op, wrap64 (1 + b) = op := ⟨_, rfl⟩
  rw [hop] at H
  refine ⟨b, i1, g1, hf, i2, g2, op, h1, h2, hop, ?_⟩
  have ask : ∀ (o : Bool), o = true → (op = 3 ∨ op = 4 ∨ op = 5 ∨ op = 6) → spec_l06Ins.j0 k op o s i2 g2 op hf 0 0 = some r → ((op = 3 ∨ op = 4 ∨ op = 5 ∨ op = 6) ∧ ∃ Y i3 g3 N i4 g4, spec_l01Below.f s i2 g2 4 = some (Y, i3, g3) ∧ spec_l01Below.f s i3 g3 4 = some (N, i4, g4) ∧ (op, hf, Y, N, i4, g4) = r) := by
    intro o ho hor H
    cases k with
    | zero => simp [spec_l06Ins.j0] at H
    | succ k =>
      simp only [spec_l06Ins.j0] at H
      rw [if_pos ho] at H
      obtain ⟨⟨Y, i3, g3⟩, h3, H⟩ := Option.bind_eq_some_iff.mp H
      obtain ⟨⟨N, i4, g4⟩, h4, H⟩ := Option.bind_eq_some_iff.mp H
      exact ⟨hor, Y, i3, g3, N, i4, g4, h3, h4, Option.some.inj H⟩
  by_cases c1 : op = 1
  · rw [if_pos c1] at H
    obtain ⟨⟨K, i3, g3⟩, h3, H⟩ := Option.bind_eq_some_iff.mp H
    exact .inl ⟨c1, K, i3, g3, h3, Option.some.inj H⟩
  · rw [if_neg c1] at H
    by_cases c7 : op = 7
    · rw [if_pos c7] at H
      obtain ⟨⟨K, i3, g3⟩, h3, H⟩ := Option.bind_eq_some_iff.mp H
      exact .inr (.inl ⟨c7, K, i3, g3, h3, Option.some.inj H⟩)
    · rw [if_neg c7] at H
      by_cases c3 : op = 3
      · rw [if_pos c3] at H
        exact .inr (.inr (.inl (ask _ (beq_iff_eq.mpr c3) (.inl c3) H)))
      · rw [if_neg c3] at H
        by_cases c4 : op = 4
        · rw [if_pos c4] at H
          exact .inr (.inr (.inl (ask _ (beq_iff_eq.mpr c4) (.inr (.inl c4)) H)))
        · rw [if_neg c4] at H
          by_cases c5 : op = 5
          · rw [if_pos c5] at H
            exact .inr (.inr (.inl (ask _ (beq_iff_eq.mpr c5) (.inr (.inr (.inl c5))) H)))
          · rw [if_neg c5] at H
            by_cases c6 : op = 6
            · exact .inr (.inr (.inl (ask _ (beq_iff_eq.mpr c6) (.inr (.inr (.inr c6))) H)))
            · cases k with
              | zero => simp [spec_l06Ins.j0] at H
              | succ k =>
                simp only [spec_l06Ins.j0] at H
                rw [if_neg (by rw [beq_eq_false_iff_ne.mpr c6]; decide)] at H
                by_cases c8 : op = 8
                · rw [if_pos c8] at H
                  obtain ⟨⟨a, i3, g3⟩, h3, H⟩ := Option.bind_eq_some_iff.mp H
                  obtain ⟨⟨d, i4, g4⟩, h4, H⟩ := Option.bind_eq_some_iff.mp H
                  obtain ⟨q, h5, H⟩ := Option.bind_eq_some_iff.mp H
                  exact .inr (.inr (.inr (.inl ⟨c8, a, i3, g3, d, i4, g4, q, h3, h4, h5, Option.some.inj H⟩)))
                · rw [if_neg c8] at H
                  exact .inr (.inr (.inr (.inr ⟨⟨c1, c7, c3, c4, c5, c6, c8⟩, Option.some.inj H⟩)))
set_option maxHeartbeats 4000000 in
set_option maxRecDepth 100000 in
theorem spec_l06Ins.calls (k : Nat) (g : Nat) (s0_0 : List Int) (s0_1 : Int) (s0_2 : Int) (r1 : Int) (r2 : Int) (r3 : Int) (r4 : Int) (r5 : Int) (r6 : Int) (w0 w : World) (hI : IsS102 w0 w g s0_0 s0_1 s0_2) (hB : Below w0.heap.size w0 w) (h : spec_l06Ins.f k s0_0 s0_1 s0_2 = some (r1, r2, r3, r4, r5, r6)) :
    Calls Try.prog 99 #[.pointer (some ⟨g, 0, none⟩)] w fun e w' => e = .returned (.agg #[.int .i64 r1, .int .i64 r2, .int .i64 r3, .int .i64 r4]) ∧ IsS102 w0 w' g s0_0 r5 r6 ∧ Below w0.heap.size w0 w' ∧ KeepBut w w' g none := by
  have hu25 := Try.underlying25
  have HI0 := Aside0.mk hI
  have HK := Aside0.mk (KeepBut.refl w g none)
  have HW0 := Aside0.mk hB.size
  clear hI
  have HB := Aside0.mk hB
  clear hB
  obtain ⟨b, i1, g1, hf, i2, g2, op, h1, h2, hop, hw⟩ := spec_l06Ins.parts h
  have H1 := Aside0.mk h1
  have H2 := Aside0.mk h2
  have HH := Aside0.mk hw
  clear h h1 h2 hw
  go_enter Try.func99, Try.ntmps99
  go_upto_region 2 with (first
    | ((with_reducible refine gate_dst (N := 2) rfl ?_); refine box_event ?hg (N := 2) ?hd (cs := #[.int .i64 0, .int .i64 0, .int .i64 0, .int .i64 0]) (t := 25) ?hr ?_; (case hd => rfl); (case hg => rfl); (case hr => first | (go_simp; done) | (go_simp; rfl)); intro ga hg w1 hbox hb; have n1_ := Aside0.mk (IsS102.below HI0.out hb); have n2_ := Aside0.mk (KeepBut.trans HK.out (KeepBut.of_below hb g none) (.inl rfl)); have n3_ := Aside0.mk (below_step HB.out hb); have HG := Aside0.mk (And.intro (show w.heap.size ≤ ga by rw [hg]; exact keep_size HK.out) (show g ≠ ga by rw [hg]; exact Nat.ne_of_lt (IsS102.lt HI0.out))); have HX := Aside0.mk hbox; clear HI0 HK HB hb hbox hg; have HI0 := n1_; have HK := n2_; have HB := n3_; clear n1_ n2_ n3_)
    | (go_at_call 78; (with_reducible refine (spec_l01Below.calls g s0_0 s0_1 s0_2 8 b i1 g1 w0 _ HI0.out HB.out H1.out).mono ?_); rintro e w2 ⟨rfl, hi, hb, hk⟩; have n0_ : Aside0 (_ = _) := ⟨(hk.2 ga (blk_lt HX.out) (Ne.symm HG.out.2) (by simp)).trans HX.out⟩; have n1_ := Aside0.mk (KeepBut.trans HK.out hk (.inl rfl)); clear HK HB HI0 HX; have HX := n0_; have HK := n1_; have HB := Aside0.mk hb; have HI0 := Aside0.mk hi; clear n0_ n1_ hb hi hk)
    | (go_at_call 107; (with_reducible refine (spec_l04Half.calls g s0_0 i1 g1 hf i2 g2 w0 _ HI0.out HB.out H2.out).mono ?_); rintro e w3 ⟨rfl, hi, hb, hk⟩; have n0_ : Aside0 (_ = _) := ⟨(hk.2 ga (blk_lt HX.out) (Ne.symm HG.out.2) (by simp)).trans HX.out⟩; have n1_ := Aside0.mk (KeepBut.trans HK.out hk (.inl rfl)); clear HK HB HI0 HX; have HX := n0_; have HK := n1_; have HB := Aside0.mk hb; have HI0 := Aside0.mk hi; clear n0_ n1_ hb hi hk)
    | ((with_reducible refine gate_dst (N := 3) rfl ?_); refine box_event ?hg (N := 3) ?hd (cs := #[.int .i64 0, .int .i64 0, .int .i64 0, .int .i64 0]) (t := 25) ?hr ?_; (case hd => rfl); (case hg => rfl); (case hr => first | (go_simp; done) | (go_simp; rfl)); intro gb hg w4 hbox hb; have HT : Aside0 (Two w0 w w4 g ga gb s0_0 i2 g2 #[.int .i64 0, .int .i64 0, .int .i64 0, .int .i64 0] #[.int .i64 0, .int .i64 0, .int .i64 0, .int .i64 0]) := ⟨⟨IsS102.below HI0.out hb, KeepBut.trans HK.out (KeepBut.of_below hb g none) (.inl rfl), below_step HB.out hb, blk_below HX.out hb, hbox, HG.out.1, by rw [hg]; exact keep_size HK.out, HW0.out, HG.out.2, by rw [hg]; exact Nat.ne_of_lt (IsS102.lt HI0.out), by rw [hg]; exact Nat.ne_of_lt (blk_lt HX.out)⟩⟩; clear HI0 HK HB HX HG hb hbox hg; obtain ⟨cb0, zb0, cb1, zb1, cb2, zb2, cb3, zb3⟩ := quad HT.out.b2))
  have HT0 : Aside0 (Two w0 w ((((w4.setCell ⟨gb, 0, none⟩ (.int .i64 op)).setCell ⟨gb, 1, none⟩ (.int .i64 hf)).setCell ⟨gb, 2, none⟩ (.int .i64 0)).setCell ⟨gb, 3, none⟩ (.int .i64 0)) g ga gb s0_0 i2 g2 #[.int .i64 0, .int .i64 0, .int .i64 0, .int .i64 0] #[.int .i64 op, .int .i64 hf, .int .i64 0, .int .i64 0]) := ⟨(((HT.out.put2 0 (.int .i64 op)).put2 1 (.int .i64 hf)).put2 2 (.int .i64 0)).put2 3 (.int .i64 0)⟩
  clear cb0 zb0 cb1 zb1 cb2 zb2 cb3 zb3
  clear HT hop
  generalize (((w4.setCell ⟨gb, 0, none⟩ (.int .i64 op)).setCell ⟨gb, 1, none⟩ (.int .i64 hf)).setCell ⟨gb, 2, none⟩ (.int .i64 0)).setCell ⟨gb, 3, none⟩ (.int .i64 0) = W at HT0 ⊢
  have hcases := HH.out
  clear HH
  rcases hcases with ⟨c1, K, i3, g3, e3, er⟩ | ⟨c7, K, i3, g3, e3, er⟩ | ⟨ca, Y, i3, g3, N, i4, g4, e3, e4, er⟩ | ⟨c8, a, i3, g3, d, i4, g4, q, e3, e4, e5, er⟩ | ⟨cn, er⟩
  · have hv := c1
    have E3 := Aside0.mk e3
    simp only [Prod.mk.injEq] at er
    obtain ⟨rfl, rfl, rfl, rfl, rfl, rfl⟩ := er
    clear e3
    have t1 : (op == 1) = true := beq_iff_eq.mpr hv
    clear hv c1
    obtain ⟨cb0, zb0, cb1, zb1, cb2, zb2, cb3, zb3⟩ := quad HT0.out.b2
    go_upto_region 15 with (go_at_call 78; (with_reducible refine (spec_l01Below.calls g s0_0 i2 g2 8 K i3 g3 w0 _ HT0.out.hi HT0.out.hb E3.out).mono ?_); rintro e w5 ⟨rfl, hi, hb, hk⟩; have HT1 := Aside0.mk (Two.call HT0.out hi hb hk); clear hi hb hk; clear cb0 zb0 cb1 zb1 cb2 zb2 cb3 zb3; obtain ⟨cb0, zb0, cb1, zb1, cb2, zb2, cb3, zb3⟩ := quad HT1.out.b2)
    have HT2 : Aside0 (Two w0 w (w5.setCell ⟨gb, 1, none⟩ (.int .i64 K)) g ga gb s0_0 i3 g3 #[.int .i64 0, .int .i64 0, .int .i64 0, .int .i64 0] #[.int .i64 op, .int .i64 K, .int .i64 0, .int .i64 0]) := ⟨HT1.out.put2 1 (.int .i64 K)⟩
    clear cb0 zb0 cb1 zb1 cb2 zb2 cb3 zb3
    generalize w5.setCell ⟨gb, 1, none⟩ (.int .i64 K) = W2 at HT2 ⊢
    have HE : Aside0 (Two w0 w (((((W2).setCell ⟨ga, 0, none⟩ (.int .i64 op)).setCell ⟨ga, 1, none⟩ (.int .i64 K)).setCell ⟨ga, 2, none⟩ (.int .i64 0)).setCell ⟨ga, 3, none⟩ (.int .i64 0)) g ga gb s0_0 i3 g3 #[.int .i64 op, .int .i64 K, .int .i64 0, .int .i64 0] #[.int .i64 op, .int .i64 K, .int .i64 0, .int .i64 0]) := ⟨(((HT2.out.put1 0 (.int .i64 op)).put1 1 (.int .i64 K)).put1 2 (.int .i64 0)).put1 3 (.int .i64 0)⟩
    obtain ⟨cb0, zb0, cb1, zb1, cb2, zb2, cb3, zb3⟩ := quad HT2.out.b2
    obtain ⟨ca0, za0, ca1, za1, ca2, za2, ca3, za3⟩ := quad HT2.out.b1
    have hne := HT2.out.n3
    have hne2 := Ne.symm HT2.out.n3
    go_wp2
    refine bodyPost_ret (results_cell_row rfl _ _ ga 25 #[.int .i64 op, .int .i64 K, .int .i64 0, .int .i64 0] (0, 0) _ rfl HE.out.b1 Try.underlying25 rfl (by kernel_rfl)) rfl ?_
    exact ⟨rfl, HE.out.hi, HE.out.hb, HE.out.hk⟩
  · have hv := c7
    have E3 := Aside0.mk e3
    simp only [Prod.mk.injEq] at er
    obtain ⟨rfl, rfl, rfl, rfl, rfl, rfl⟩ := er
    clear e3
    have t1 : (op == 1) = false := beq_eq_false_iff_ne.mpr (by rw [hv]; decide)
    have t7 : (op == 7) = true := beq_iff_eq.mpr hv
    clear hv c7
    obtain ⟨cb0, zb0, cb1, zb1, cb2, zb2, cb3, zb3⟩ := quad HT0.out.b2
    go_upto_region 15 with (go_at_call 78; (with_reducible refine (spec_l01Below.calls g s0_0 i2 g2 4 K i3 g3 w0 _ HT0.out.hi HT0.out.hb E3.out).mono ?_); rintro e w5 ⟨rfl, hi, hb, hk⟩; have HT1 := Aside0.mk (Two.call HT0.out hi hb hk); clear hi hb hk; clear cb0 zb0 cb1 zb1 cb2 zb2 cb3 zb3; obtain ⟨cb0, zb0, cb1, zb1, cb2, zb2, cb3, zb3⟩ := quad HT1.out.b2)
    have HT2 : Aside0 (Two w0 w (w5.setCell ⟨gb, 1, none⟩ (.int .i64 K)) g ga gb s0_0 i3 g3 #[.int .i64 0, .int .i64 0, .int .i64 0, .int .i64 0] #[.int .i64 op, .int .i64 K, .int .i64 0, .int .i64 0]) := ⟨HT1.out.put2 1 (.int .i64 K)⟩
    clear cb0 zb0 cb1 zb1 cb2 zb2 cb3 zb3
    generalize w5.setCell ⟨gb, 1, none⟩ (.int .i64 K) = W2 at HT2 ⊢
    have HE : Aside0 (Two w0 w (((((W2).setCell ⟨ga, 0, none⟩ (.int .i64 op)).setCell ⟨ga, 1, none⟩ (.int .i64 K)).setCell ⟨ga, 2, none⟩ (.int .i64 0)).setCell ⟨ga, 3, none⟩ (.int .i64 0)) g ga gb s0_0 i3 g3 #[.int .i64 op, .int .i64 K, .int .i64 0, .int .i64 0] #[.int .i64 op, .int .i64 K, .int .i64 0, .int .i64 0]) := ⟨(((HT2.out.put1 0 (.int .i64 op)).put1 1 (.int .i64 K)).put1 2 (.int .i64 0)).put1 3 (.int .i64 0)⟩
    obtain ⟨cb0, zb0, cb1, zb1, cb2, zb2, cb3, zb3⟩ := quad HT2.out.b2
    obtain ⟨ca0, za0, ca1, za1, ca2, za2, ca3, za3⟩ := quad HT2.out.b1
    have hne := HT2.out.n3
    have hne2 := Ne.symm HT2.out.n3
    go_wp2
    refine bodyPost_ret (results_cell_row rfl _ _ ga 25 #[.int .i64 op, .int .i64 K, .int .i64 0, .int .i64 0] (0, 0) _ rfl HE.out.b1 Try.underlying25 rfl (by kernel_rfl)) rfl ?_
    exact ⟨rfl, HE.out.hi, HE.out.hb, HE.out.hk⟩
  · simp only [Prod.mk.injEq] at er
    obtain ⟨rfl, rfl, rfl, rfl, rfl, rfl⟩ := er
    have E3 := Aside0.mk e3
    have E4 := Aside0.mk e4
    clear e3 e4
    rcases ca with hv | hv | hv | hv
    · have t1 : (op == 1) = false := beq_eq_false_iff_ne.mpr (by rw [hv]; decide)
      have t7 : (op == 7) = false := beq_eq_false_iff_ne.mpr (by rw [hv]; decide)
      have t3 : (op == 3) = true := beq_iff_eq.mpr hv
      clear hv
      obtain ⟨cb0, zb0, cb1, zb1, cb2, zb2, cb3, zb3⟩ := quad HT0.out.b2
      go_upto_region 15 with (first | (go_at_call 78; (with_reducible refine (spec_l01Below.calls g s0_0 i2 g2 4 Y i3 g3 w0 _ HT0.out.hi HT0.out.hb E3.out).mono ?_); rintro e w5 ⟨rfl, hi, hb, hk⟩; have HT1 := Aside0.mk (Two.call HT0.out hi hb hk); clear hi hb hk; clear cb0 zb0 cb1 zb1 cb2 zb2 cb3 zb3; obtain ⟨cb0, zb0, cb1, zb1, cb2, zb2, cb3, zb3⟩ := quad HT1.out.b2; have HT1b : Aside0 (Two w0 w (w5.setCell ⟨gb, 2, none⟩ (.int .i64 Y)) g ga gb s0_0 i3 g3 #[.int .i64 0, .int .i64 0, .int .i64 0, .int .i64 0] #[.int .i64 op, .int .i64 hf, .int .i64 Y, .int .i64 0]) := ⟨HT1.out.put2 2 (.int .i64 Y)⟩) | (go_at_call 78; (with_reducible refine (spec_l01Below.calls g s0_0 i3 g3 4 N i4 g4 w0 _ HT1b.out.hi HT1b.out.hb E4.out).mono ?_); rintro e w6 ⟨rfl, hi, hb, hk⟩; have HT2 := Aside0.mk (Two.call HT1b.out hi hb hk); clear hi hb hk; clear cb0 zb0 cb1 zb1 cb2 zb2 cb3 zb3; obtain ⟨cb0, zb0, cb1, zb1, cb2, zb2, cb3, zb3⟩ := quad HT2.out.b2))
      have HT3 : Aside0 (Two w0 w (w6.setCell ⟨gb, 3, none⟩ (.int .i64 N)) g ga gb s0_0 i4 g4 #[.int .i64 0, .int .i64 0, .int .i64 0, .int .i64 0] #[.int .i64 op, .int .i64 hf, .int .i64 Y, .int .i64 N]) := ⟨HT2.out.put2 3 (.int .i64 N)⟩
      clear cb0 zb0 cb1 zb1 cb2 zb2 cb3 zb3
      generalize w6.setCell ⟨gb, 3, none⟩ (.int .i64 N) = W2 at HT3 ⊢
      have HE : Aside0 (Two w0 w (((((W2).setCell ⟨ga, 0, none⟩ (.int .i64 op)).setCell ⟨ga, 1, none⟩ (.int .i64 hf)).setCell ⟨ga, 2, none⟩ (.int .i64 Y)).setCell ⟨ga, 3, none⟩ (.int .i64 N)) g ga gb s0_0 i4 g4 #[.int .i64 op, .int .i64 hf, .int .i64 Y, .int .i64 N] #[.int .i64 op, .int .i64 hf, .int .i64 Y, .int .i64 N]) := ⟨(((HT3.out.put1 0 (.int .i64 op)).put1 1 (.int .i64 hf)).put1 2 (.int .i64 Y)).put1 3 (.int .i64 N)⟩
      obtain ⟨cb0, zb0, cb1, zb1, cb2, zb2, cb3, zb3⟩ := quad HT3.out.b2
      obtain ⟨ca0, za0, ca1, za1, ca2, za2, ca3, za3⟩ := quad HT3.out.b1
      have hne := HT3.out.n3
      have hne2 := Ne.symm HT3.out.n3
      go_wp2
      refine bodyPost_ret (results_cell_row rfl _ _ ga 25 #[.int .i64 op, .int .i64 hf, .int .i64 Y, .int .i64 N] (0, 0) _ rfl HE.out.b1 Try.underlying25 rfl (by kernel_rfl)) rfl ?_
      exact ⟨rfl, HE.out.hi, HE.out.hb, HE.out.hk⟩
    · have t1 : (op == 1) = false := beq_eq_false_iff_ne.mpr (by rw [hv]; decide)
      have t7 : (op == 7) = false := beq_eq_false_iff_ne.mpr (by rw [hv]; decide)
      have t3 : (op == 3) = false := beq_eq_false_iff_ne.mpr (by rw [hv]; decide)
      have t4 : (op == 4) = true := beq_iff_eq.mpr hv
      clear hv
      obtain ⟨cb0, zb0, cb1, zb1, cb2, zb2, cb3, zb3⟩ := quad HT0.out.b2
      go_upto_region 15 with (first | (go_at_call 78; (with_reducible refine (spec_l01Below.calls g s0_0 i2 g2 4 Y i3 g3 w0 _ HT0.out.hi HT0.out.hb E3.out).mono ?_); rintro e w5 ⟨rfl, hi, hb, hk⟩; have HT1 := Aside0.mk (Two.call HT0.out hi hb hk); clear hi hb hk; clear cb0 zb0 cb1 zb1 cb2 zb2 cb3 zb3; obtain ⟨cb0, zb0, cb1, zb1, cb2, zb2, cb3, zb3⟩ := quad HT1.out.b2; have HT1b : Aside0 (Two w0 w (w5.setCell ⟨gb, 2, none⟩ (.int .i64 Y)) g ga gb s0_0 i3 g3 #[.int .i64 0, .int .i64 0, .int .i64 0, .int .i64 0] #[.int .i64 op, .int .i64 hf, .int .i64 Y, .int .i64 0]) := ⟨HT1.out.put2 2 (.int .i64 Y)⟩) | (go_at_call 78; (with_reducible refine (spec_l01Below.calls g s0_0 i3 g3 4 N i4 g4 w0 _ HT1b.out.hi HT1b.out.hb E4.out).mono ?_); rintro e w6 ⟨rfl, hi, hb, hk⟩; have HT2 := Aside0.mk (Two.call HT1b.out hi hb hk); clear hi hb hk; clear cb0 zb0 cb1 zb1 cb2 zb2 cb3 zb3; obtain ⟨cb0, zb0, cb1, zb1, cb2, zb2, cb3, zb3⟩ := quad HT2.out.b2))
      have HT3 : Aside0 (Two w0 w (w6.setCell ⟨gb, 3, none⟩ (.int .i64 N)) g ga gb s0_0 i4 g4 #[.int .i64 0, .int .i64 0, .int .i64 0, .int .i64 0] #[.int .i64 op, .int .i64 hf, .int .i64 Y, .int .i64 N]) := ⟨HT2.out.put2 3 (.int .i64 N)⟩
      clear cb0 zb0 cb1 zb1 cb2 zb2 cb3 zb3
      generalize w6.setCell ⟨gb, 3, none⟩ (.int .i64 N) = W2 at HT3 ⊢
      have HE : Aside0 (Two w0 w (((((W2).setCell ⟨ga, 0, none⟩ (.int .i64 op)).setCell ⟨ga, 1, none⟩ (.int .i64 hf)).setCell ⟨ga, 2, none⟩ (.int .i64 Y)).setCell ⟨ga, 3, none⟩ (.int .i64 N)) g ga gb s0_0 i4 g4 #[.int .i64 op, .int .i64 hf, .int .i64 Y, .int .i64 N] #[.int .i64 op, .int .i64 hf, .int .i64 Y, .int .i64 N]) := ⟨(((HT3.out.put1 0 (.int .i64 op)).put1 1 (.int .i64 hf)).put1 2 (.int .i64 Y)).put1 3 (.int .i64 N)⟩
      obtain ⟨cb0, zb0, cb1, zb1, cb2, zb2, cb3, zb3⟩ := quad HT3.out.b2
      obtain ⟨ca0, za0, ca1, za1, ca2, za2, ca3, za3⟩ := quad HT3.out.b1
      have hne := HT3.out.n3
      have hne2 := Ne.symm HT3.out.n3
      go_wp2
      refine bodyPost_ret (results_cell_row rfl _ _ ga 25 #[.int .i64 op, .int .i64 hf, .int .i64 Y, .int .i64 N] (0, 0) _ rfl HE.out.b1 Try.underlying25 rfl (by kernel_rfl)) rfl ?_
      exact ⟨rfl, HE.out.hi, HE.out.hb, HE.out.hk⟩
    · have t1 : (op == 1) = false := beq_eq_false_iff_ne.mpr (by rw [hv]; decide)
      have t7 : (op == 7) = false := beq_eq_false_iff_ne.mpr (by rw [hv]; decide)
      have t3 : (op == 3) = false := beq_eq_false_iff_ne.mpr (by rw [hv]; decide)
      have t4 : (op == 4) = false := beq_eq_false_iff_ne.mpr (by rw [hv]; decide)
      have t5 : (op == 5) = true := beq_iff_eq.mpr hv
      clear hv
      obtain ⟨cb0, zb0, cb1, zb1, cb2, zb2, cb3, zb3⟩ := quad HT0.out.b2
      go_upto_region 15 with (first | (go_at_call 78; (with_reducible refine (spec_l01Below.calls g s0_0 i2 g2 4 Y i3 g3 w0 _ HT0.out.hi HT0.out.hb E3.out).mono ?_); rintro e w5 ⟨rfl, hi, hb, hk⟩; have HT1 := Aside0.mk (Two.call HT0.out hi hb hk); clear hi hb hk; clear cb0 zb0 cb1 zb1 cb2 zb2 cb3 zb3; obtain ⟨cb0, zb0, cb1, zb1, cb2, zb2, cb3, zb3⟩ := quad HT1.out.b2; have HT1b : Aside0 (Two w0 w (w5.setCell ⟨gb, 2, none⟩ (.int .i64 Y)) g ga gb s0_0 i3 g3 #[.int .i64 0, .int .i64 0, .int .i64 0, .int .i64 0] #[.int .i64 op, .int .i64 hf, .int .i64 Y, .int .i64 0]) := ⟨HT1.out.put2 2 (.int .i64 Y)⟩) | (go_at_call 78; (with_reducible refine (spec_l01Below.calls g s0_0 i3 g3 4 N i4 g4 w0 _ HT1b.out.hi HT1b.out.hb E4.out).mono ?_); rintro e w6 ⟨rfl, hi, hb, hk⟩; have HT2 := Aside0.mk (Two.call HT1b.out hi hb hk); clear hi hb hk; clear cb0 zb0 cb1 zb1 cb2 zb2 cb3 zb3; obtain ⟨cb0, zb0, cb1, zb1, cb2, zb2, cb3, zb3⟩ := quad HT2.out.b2))
      have HT3 : Aside0 (Two w0 w (w6.setCell ⟨gb, 3, none⟩ (.int .i64 N)) g ga gb s0_0 i4 g4 #[.int .i64 0, .int .i64 0, .int .i64 0, .int .i64 0] #[.int .i64 op, .int .i64 hf, .int .i64 Y, .int .i64 N]) := ⟨HT2.out.put2 3 (.int .i64 N)⟩
      clear cb0 zb0 cb1 zb1 cb2 zb2 cb3 zb3
      generalize w6.setCell ⟨gb, 3, none⟩ (.int .i64 N) = W2 at HT3 ⊢
      have HE : Aside0 (Two w0 w (((((W2).setCell ⟨ga, 0, none⟩ (.int .i64 op)).setCell ⟨ga, 1, none⟩ (.int .i64 hf)).setCell ⟨ga, 2, none⟩ (.int .i64 Y)).setCell ⟨ga, 3, none⟩ (.int .i64 N)) g ga gb s0_0 i4 g4 #[.int .i64 op, .int .i64 hf, .int .i64 Y, .int .i64 N] #[.int .i64 op, .int .i64 hf, .int .i64 Y, .int .i64 N]) := ⟨(((HT3.out.put1 0 (.int .i64 op)).put1 1 (.int .i64 hf)).put1 2 (.int .i64 Y)).put1 3 (.int .i64 N)⟩
      obtain ⟨cb0, zb0, cb1, zb1, cb2, zb2, cb3, zb3⟩ := quad HT3.out.b2
      obtain ⟨ca0, za0, ca1, za1, ca2, za2, ca3, za3⟩ := quad HT3.out.b1
      have hne := HT3.out.n3
      have hne2 := Ne.symm HT3.out.n3
      go_wp2
      refine bodyPost_ret (results_cell_row rfl _ _ ga 25 #[.int .i64 op, .int .i64 hf, .int .i64 Y, .int .i64 N] (0, 0) _ rfl HE.out.b1 Try.underlying25 rfl (by kernel_rfl)) rfl ?_
      exact ⟨rfl, HE.out.hi, HE.out.hb, HE.out.hk⟩
    · have t1 : (op == 1) = false := beq_eq_false_iff_ne.mpr (by rw [hv]; decide)
      have t7 : (op == 7) = false := beq_eq_false_iff_ne.mpr (by rw [hv]; decide)
      have t3 : (op == 3) = false := beq_eq_false_iff_ne.mpr (by rw [hv]; decide)
      have t4 : (op == 4) = false := beq_eq_false_iff_ne.mpr (by rw [hv]; decide)
      have t5 : (op == 5) = false := beq_eq_false_iff_ne.mpr (by rw [hv]; decide)
      have t6 : (op == 6) = true := beq_iff_eq.mpr hv
      clear hv
      obtain ⟨cb0, zb0, cb1, zb1, cb2, zb2, cb3, zb3⟩ := quad HT0.out.b2
      go_upto_region 15 with (first | (go_at_call 78; (with_reducible refine (spec_l01Below.calls g s0_0 i2 g2 4 Y i3 g3 w0 _ HT0.out.hi HT0.out.hb E3.out).mono ?_); rintro e w5 ⟨rfl, hi, hb, hk⟩; have HT1 := Aside0.mk (Two.call HT0.out hi hb hk); clear hi hb hk; clear cb0 zb0 cb1 zb1 cb2 zb2 cb3 zb3; obtain ⟨cb0, zb0, cb1, zb1, cb2, zb2, cb3, zb3⟩ := quad HT1.out.b2; have HT1b : Aside0 (Two w0 w (w5.setCell ⟨gb, 2, none⟩ (.int .i64 Y)) g ga gb s0_0 i3 g3 #[.int .i64 0, .int .i64 0, .int .i64 0, .int .i64 0] #[.int .i64 op, .int .i64 hf, .int .i64 Y, .int .i64 0]) := ⟨HT1.out.put2 2 (.int .i64 Y)⟩) | (go_at_call 78; (with_reducible refine (spec_l01Below.calls g s0_0 i3 g3 4 N i4 g4 w0 _ HT1b.out.hi HT1b.out.hb E4.out).mono ?_); rintro e w6 ⟨rfl, hi, hb, hk⟩; have HT2 := Aside0.mk (Two.call HT1b.out hi hb hk); clear hi hb hk; clear cb0 zb0 cb1 zb1 cb2 zb2 cb3 zb3; obtain ⟨cb0, zb0, cb1, zb1, cb2, zb2, cb3, zb3⟩ := quad HT2.out.b2))
      have HT3 : Aside0 (Two w0 w (w6.setCell ⟨gb, 3, none⟩ (.int .i64 N)) g ga gb s0_0 i4 g4 #[.int .i64 0, .int .i64 0, .int .i64 0, .int .i64 0] #[.int .i64 op, .int .i64 hf, .int .i64 Y, .int .i64 N]) := ⟨HT2.out.put2 3 (.int .i64 N)⟩
      clear cb0 zb0 cb1 zb1 cb2 zb2 cb3 zb3
      generalize w6.setCell ⟨gb, 3, none⟩ (.int .i64 N) = W2 at HT3 ⊢
      have HE : Aside0 (Two w0 w (((((W2).setCell ⟨ga, 0, none⟩ (.int .i64 op)).setCell ⟨ga, 1, none⟩ (.int .i64 hf)).setCell ⟨ga, 2, none⟩ (.int .i64 Y)).setCell ⟨ga, 3, none⟩ (.int .i64 N)) g ga gb s0_0 i4 g4 #[.int .i64 op, .int .i64 hf, .int .i64 Y, .int .i64 N] #[.int .i64 op, .int .i64 hf, .int .i64 Y, .int .i64 N]) := ⟨(((HT3.out.put1 0 (.int .i64 op)).put1 1 (.int .i64 hf)).put1 2 (.int .i64 Y)).put1 3 (.int .i64 N)⟩
      obtain ⟨cb0, zb0, cb1, zb1, cb2, zb2, cb3, zb3⟩ := quad HT3.out.b2
      obtain ⟨ca0, za0, ca1, za1, ca2, za2, ca3, za3⟩ := quad HT3.out.b1
      have hne := HT3.out.n3
      have hne2 := Ne.symm HT3.out.n3
      go_wp2
      refine bodyPost_ret (results_cell_row rfl _ _ ga 25 #[.int .i64 op, .int .i64 hf, .int .i64 Y, .int .i64 N] (0, 0) _ rfl HE.out.b1 Try.underlying25 rfl (by kernel_rfl)) rfl ?_
      exact ⟨rfl, HE.out.hi, HE.out.hb, HE.out.hk⟩
  · have hv := c8
    simp only [Prod.mk.injEq] at er
    obtain ⟨rfl, rfl, rfl, rfl, rfl, rfl⟩ := er
    have E3 := Aside0.mk e3
    have E4 := Aside0.mk e4
    have E5 := Aside0.mk e5
    clear e3 e4 e5
    have t1 : (op == 1) = false := beq_eq_false_iff_ne.mpr (by rw [hv]; decide)
    have t7 : (op == 7) = false := beq_eq_false_iff_ne.mpr (by rw [hv]; decide)
    have t3 : (op == 3) = false := beq_eq_false_iff_ne.mpr (by rw [hv]; decide)
    have t4 : (op == 4) = false := beq_eq_false_iff_ne.mpr (by rw [hv]; decide)
    have t5 : (op == 5) = false := beq_eq_false_iff_ne.mpr (by rw [hv]; decide)
    have t6 : (op == 6) = false := beq_eq_false_iff_ne.mpr (by rw [hv]; decide)
    have t8 : (op == 8) = true := beq_iff_eq.mpr hv
    clear hv c8
    obtain ⟨cb0, zb0, cb1, zb1, cb2, zb2, cb3, zb3⟩ := quad HT0.out.b2
    go_upto_region 15 with (first | (go_at_call 78; (with_reducible refine (spec_l01Below.calls g s0_0 i2 g2 6 a i3 g3 w0 _ HT0.out.hi HT0.out.hb E3.out).mono ?_); rintro e w5 ⟨rfl, hi, hb, hk⟩; have HT1 := Aside0.mk (Two.call HT0.out hi hb hk); clear hi hb hk; clear cb0 zb0 cb1 zb1 cb2 zb2 cb3 zb3) | (go_at_call 78; (with_reducible refine (spec_l01Below.calls g s0_0 i3 g3 5 d i4 g4 w0 _ HT1.out.hi HT1.out.hb E4.out).mono ?_); rintro e w6 ⟨rfl, hi, hb, hk⟩; have HT2 := Aside0.mk (Two.call HT1.out hi hb hk); clear hi hb hk; obtain ⟨cb0, zb0, cb1, zb1, cb2, zb2, cb3, zb3⟩ := quad HT2.out.b2) | (go_at_call 63; (with_reducible refine (spec_ResultOf.calls a d q _ E5.out).mono ?_); rintro e w' ⟨rfl, ⟨nd, rfl⟩⟩))
    have HT3 : Aside0 (Two w0 w ((w6.drewN nd).setCell ⟨gb, 1, none⟩ (.int .i64 q)) g ga gb s0_0 i4 g4 #[.int .i64 0, .int .i64 0, .int .i64 0, .int .i64 0] #[.int .i64 op, .int .i64 q, .int .i64 0, .int .i64 0]) := ⟨(HT2.out.drewN nd).put2 1 (.int .i64 q)⟩
    clear cb0 zb0 cb1 zb1 cb2 zb2 cb3 zb3
    generalize (w6.drewN nd).setCell ⟨gb, 1, none⟩ (.int .i64 q) = W2 at HT3 ⊢
    have HE : Aside0 (Two w0 w (((((W2).setCell ⟨ga, 0, none⟩ (.int .i64 op)).setCell ⟨ga, 1, none⟩ (.int .i64 q)).setCell ⟨ga, 2, none⟩ (.int .i64 0)).setCell ⟨ga, 3, none⟩ (.int .i64 0)) g ga gb s0_0 i4 g4 #[.int .i64 op, .int .i64 q, .int .i64 0, .int .i64 0] #[.int .i64 op, .int .i64 q, .int .i64 0, .int .i64 0]) := ⟨(((HT3.out.put1 0 (.int .i64 op)).put1 1 (.int .i64 q)).put1 2 (.int .i64 0)).put1 3 (.int .i64 0)⟩
    obtain ⟨cb0, zb0, cb1, zb1, cb2, zb2, cb3, zb3⟩ := quad HT3.out.b2
    obtain ⟨ca0, za0, ca1, za1, ca2, za2, ca3, za3⟩ := quad HT3.out.b1
    have hne := HT3.out.n3
    have hne2 := Ne.symm HT3.out.n3
    go_wp2
    refine bodyPost_ret (results_cell_row rfl _ _ ga 25 #[.int .i64 op, .int .i64 q, .int .i64 0, .int .i64 0] (0, 0) _ rfl HE.out.b1 Try.underlying25 rfl (by kernel_rfl)) rfl ?_
    exact ⟨rfl, HE.out.hi, HE.out.hb, HE.out.hk⟩
  · simp only [Prod.mk.injEq] at er
    obtain ⟨rfl, rfl, rfl, rfl, rfl, rfl⟩ := er
    have t1 : (op == 1) = false := beq_eq_false_iff_ne.mpr cn.1
    have t7 : (op == 7) = false := beq_eq_false_iff_ne.mpr cn.2.1
    have t3 : (op == 3) = false := beq_eq_false_iff_ne.mpr cn.2.2.1
    have t4 : (op == 4) = false := beq_eq_false_iff_ne.mpr cn.2.2.2.1
    have t5 : (op == 5) = false := beq_eq_false_iff_ne.mpr cn.2.2.2.2.1
    have t6 : (op == 6) = false := beq_eq_false_iff_ne.mpr cn.2.2.2.2.2.1
    have t8 : (op == 8) = false := beq_eq_false_iff_ne.mpr cn.2.2.2.2.2.2
    clear cn
    obtain ⟨cb0, zb0, cb1, zb1, cb2, zb2, cb3, zb3⟩ := quad HT0.out.b2
    go_upto_region 15 with (fail)
    clear cb0 zb0 cb1 zb1 cb2 zb2 cb3 zb3
    have HE : Aside0 (Two w0 w (((((W).setCell ⟨ga, 0, none⟩ (.int .i64 op)).setCell ⟨ga, 1, none⟩ (.int .i64 hf)).setCell ⟨ga, 2, none⟩ (.int .i64 0)).setCell ⟨ga, 3, none⟩ (.int .i64 0)) g ga gb s0_0 i2 g2 #[.int .i64 op, .int .i64 hf, .int .i64 0, .int .i64 0] #[.int .i64 op, .int .i64 hf, .int .i64 0, .int .i64 0]) := ⟨(((HT0.out.put1 0 (.int .i64 op)).put1 1 (.int .i64 hf)).put1 2 (.int .i64 0)).put1 3 (.int .i64 0)⟩
    obtain ⟨cb0, zb0, cb1, zb1, cb2, zb2, cb3, zb3⟩ := quad HT0.out.b2
    obtain ⟨ca0, za0, ca1, za1, ca2, za2, ca3, za3⟩ := quad HT0.out.b1
    have hne := HT0.out.n3
    have hne2 := Ne.symm HT0.out.n3
    go_wp2
    refine bodyPost_ret (results_cell_row rfl _ _ ga 25 #[.int .i64 op, .int .i64 hf, .int .i64 0, .int .i64 0] (0, 0) _ rfl HE.out.b1 Try.underlying25 rfl (by kernel_rfl)) rfl ?_
    exact ⟨rfl, HE.out.hi, HE.out.hb, HE.out.hk⟩

/-! ### spec_l06Program: function 76 -/
def spec_l06Program.l0 : Nat → List (S25) → Int → Int → List Int → Int → Int → Option ((List (S25)) × Int × Int)
  | 0, _, _, _, _, _, _ => none
  | k + 1, x3, x4, x5, x1000, x1001, x1002 => if x5 < x4 then ((spec_l06Ins.f k x1000 x1001 x1002).bind fun bt271 => (if bt271.1 = 7 then (if (wrap64 (x4 - x5)) = 0 then (none) else ((spec_l06Ask.f bt271.1).bind fun t278 => (if t278 = true then (if x3.length < 4398046511104 then (spec_l06Program.l0 k (x3 ++ [(⟨bt271.1, Int.tmod bt271.2.1 (wrap64 (x4 - x5)), Int.tmod bt271.2.2.1 (wrap64 (x4 - x5)), Int.tmod bt271.2.2.2.1 (wrap64 (x4 - x5))⟩ : S25)]) x4 (wrap64 (x5 + 1)) x1000 bt271.2.2.2.2.1 bt271.2.2.2.2.2) else (none)) else (if x3.length < 4398046511104 then (spec_l06Program.l0 k (x3 ++ [(⟨bt271.1, Int.tmod bt271.2.1 (wrap64 (x4 - x5)), bt271.2.2.1, bt271.2.2.2.1⟩ : S25)]) x4 (wrap64 (x5 + 1)) x1000 bt271.2.2.2.2.1 bt271.2.2.2.2.2) else (none))))) else ((spec_l06Ask.f bt271.1).bind fun t285 => (if t285 = true then (if (wrap64 (x4 - x5)) = 0 then (none) else (if x3.length < 4398046511104 then (spec_l06Program.l0 k (x3 ++ [(⟨bt271.1, bt271.2.1, Int.tmod bt271.2.2.1 (wrap64 (x4 - x5)), Int.tmod bt271.2.2.2.1 (wrap64 (x4 - x5))⟩ : S25)]) x4 (wrap64 (x5 + 1)) x1000 bt271.2.2.2.2.1 bt271.2.2.2.2.2) else (none))) else (if x3.length < 4398046511104 then (spec_l06Program.l0 k (x3 ++ [(⟨bt271.1, bt271.2.1, bt271.2.2.1, bt271.2.2.2.1⟩ : S25)]) x4 (wrap64 (x5 + 1)) x1000 bt271.2.2.2.2.1 bt271.2.2.2.2.2) else (none)))))) else ((spec_l01Below.f x1000 x1001 x1002 6).bind fun bt261 => ((spec_l01Below.f x1000 bt261.2.1 bt261.2.2 5).bind fun bt264 => ((spec_ResultOf.f bt261.1 bt264.1).bind fun t267 => (if x3.length < 4398046511104 then (some ((x3 ++ [(⟨8, t267, 0, 0⟩ : S25)]), bt264.2.1, bt264.2.2)) else (none)))))
def spec_l06Program.f (k : Nat) (s0_0 : List Int) (s0_1 : Int) (s0_2 : Int) : Option ((List (S25)) × Int × Int) := (spec_l01Below.f s0_0 s0_1 s0_2 12).bind fun bt258 => (spec_l06Program.l0 k (([] : List (S25))) (wrap64 (1 + bt258.1)) 0 s0_0 bt258.2.1 bt258.2.2)
theorem spec_l06Program.mono_l : ∀ k, (∀ y0 y1 y2 y3 y4 y5, LeO (spec_l06Program.l0 k y0 y1 y2 y3 y4 y5) (spec_l06Program.l0 (k + 1) y0 y1 y2 y3 y4 y5))
  | 0 => fun _ _ _ _ _ _ r h => by simp [spec_l06Program.l0] at h
  | k + 1 => by
    have ih0 := spec_l06Program.mono_l k
    · intro y0 y1 y2 y3 y4 y5
      unfold spec_l06Program.l0
      repeat' first
      | (with_reducible exact ih0 _ _ _ _ _ _)
      | (with_reducible exact spec_l06Ins.mono _ _ _ _)
      | (with_reducible exact LeO.refl _)
      | (with_reducible exact LeO.none _)
      | (with_reducible refine LeO.ite ?_ ?_)
      | (with_reducible refine LeO.bind ?_ (fun _ => ?_))
      | exact ih0 _ _ _ _ _ _
      | exact spec_l06Ins.mono _ _ _ _
      | exact LeO.none _
      | refine LeO.ite ?_ ?_
      | refine LeO.bind ?_ (fun _ => ?_)
theorem spec_l06Program.mono : ∀ a0 a1 a2 k, LeO (spec_l06Program.f k a0 a1 a2) (spec_l06Program.f (k + 1) a0 a1 a2) := by
  intro a0 a1 a2 k
  have ih0 := spec_l06Program.mono_l k
  unfold spec_l06Program.f
  repeat' first
      | (with_reducible exact ih0 _ _ _ _ _ _)
      | (with_reducible exact spec_l06Ins.mono _ _ _ _)
      | (with_reducible exact LeO.refl _)
      | (with_reducible exact LeO.none _)
      | (with_reducible refine LeO.ite ?_ ?_)
      | (with_reducible refine LeO.bind ?_ (fun _ => ?_))
      | exact ih0 _ _ _ _ _ _
      | exact spec_l06Ins.mono _ _ _ _
      | exact LeO.none _
      | refine LeO.ite ?_ ?_
      | refine LeO.bind ?_ (fun _ => ?_)
/-- What holds while a box of four numbers lies at gb beside a list of the call's own and the reader's cell. -/
structure Rnd (w0 w W : World) (g gb : Nat) (s : List Int) (f1 f2 : Int) (v : Value) (xs : List S25) (cs : Array Value) : Prop where
  ho : Kd.R k25 25 W w.heap.size (fun k => k ≠ gb) v xs
  hi : IsS102 w0 W g s f1 f2
  hk : KeepBut w W g none
  hb : Below w0.heap.size w0 W
  bk : W.heap[gb]? = some (.cells cs 25 (0, 0))
  gw : w.heap.size ≤ gb
  ge : w0.heap.size ≤ gb
  ne : g ≠ gb
theorem Rnd.put {w0 w W : World} {g gb : Nat} {s : List Int} {f1 f2 : Int} {v : Value} {xs : List S25} {cs : Array Value} (h : Rnd w0 w W g gb s f1 f2 v xs cs) (i : Nat) (u : Value) : Rnd w0 w (W.setCell ⟨gb, i, none⟩ u) g gb s f1 f2 v xs (cs.setIfInBounds i u) :=
  ⟨Kd.R_far h.ho (fun _ hk => hk) u, IsS102.far h.hi h.ne u, keep_far h.hk h.gw u, below_set h.hb h.ge, blk_set h.bk i u, h.gw, h.ge, h.ne⟩
theorem Rnd.drewN {w0 w W : World} {g gb : Nat} {s : List Int} {f1 f2 : Int} {v : Value} {xs : List S25} {cs : Array Value} (h : Rnd w0 w W g gb s f1 f2 v xs cs) (n : Nat) : Rnd w0 w (W.drewN n) g gb s f1 f2 v xs cs :=
  ⟨by (with_reducible repeat (first | apply Kd.R_alloc | apply Kd.R_drewN | apply Kd.R_drew)); exact h.ho, IsS102.drewN h.hi n, keep_drewN h.hk n, pw_below_drewN h.hb n, blk_drewN h.bk n, h.gw, h.ge, h.ne⟩
theorem Rnd.new {w0 w W W1 : World} {g gb : Nat} {s : List Int} {f1 f2 : Int} {v : Value} {xs : List S25} {cs : Array Value} (ho : Kd.R k25 25 W w.heap.size (fun _ => True) v xs) (hi : IsS102 w0 W g s f1 f2) (hk : KeepBut w W g none) (hb : Below w0.heap.size w0 W) (hw : w0.heap.size ≤ w.heap.size)
    (hg : gb = W.heap.size) (bk : W1.heap[gb]? = some (.cells cs 25 (0, 0))) (h1 : Below W.heap.size W W1) : Rnd w0 w W1 g gb s f1 f2 v xs cs := by
  subst hg
  have hs := keep_size hk
  exact ⟨Kd.R_below (Kd.R_mono (Kd.R_elderB ho W.heap.size (Nat.le_refl _)) (fun _ h => h.2)) h1, hi.below h1, hk.trans (KeepBut.of_below h1 g none) (.inl rfl), below_weaken hb hb.size h1, bk, hs, Nat.le_trans hw hs, Nat.ne_of_lt hi.lt⟩
/-- What one round of spec.l06Program tells. -/
theorem spec_l06Program.step {k : Nat} {x3 : List S25} {x4 x5 : Int} {s : List Int} {i h : Int} {r : List S25 × Int × Int} (hlt : x5 < x4) (H : spec_l06Program.l0 (k + 1) x3 x4 x5 s i h = some r) :
    ∃ op K Y N i' h' ask kk yy nn, spec_l06Ins.f k s i h = some (op, K, Y, N, i', h') ∧ spec_l06Ask.f op = some ask ∧ (op = 7 → wrap64 (x4 - x5) ≠ 0 ∧ kk = Int.tmod K (wrap64 (x4 - x5))) ∧ (op ≠ 7 → kk = K) ∧ (ask = true → wrap64 (x4 - x5) ≠ 0 ∧ yy = Int.tmod Y (wrap64 (x4 - x5)) ∧ nn = Int.tmod N (wrap64 (x4 - x5))) ∧ (ask = false → yy = Y ∧ nn = N) ∧ x3.length < 4398046511104 ∧ spec_l06Program.l0 k (x3 ++ [(⟨op, kk, yy, nn⟩ : S25)]) x4 (wrap64 (x5 + 1)) s i' h' = some r := by
  simp only [spec_l06Program.l0] at H
  rw [if_pos hlt] at H
  obtain ⟨⟨op, K, Y, N, i', h'⟩, h1, H⟩ := Option.bind_eq_some_iff.mp H
  dsimp only at H
  by_cases c : op = 7
  · rw [if_pos c] at H
    by_cases z : wrap64 (x4 - x5) = 0
    · rw [if_pos z] at H
      cases H
    · rw [if_neg z] at H
      obtain ⟨ask, h2, H⟩ := Option.bind_eq_some_iff.mp H
      cases ask with
      | true =>
        rw [if_pos rfl] at H
        by_cases l : x3.length < 4398046511104
        · rw [if_pos l] at H
          exact ⟨op, K, Y, N, i', h', true, _, _, _, h1, h2, fun _ => ⟨z, rfl⟩, fun e => absurd c e, fun _ => ⟨z, rfl, rfl⟩, fun e => (by cases e), l, H⟩
        · rw [if_neg l] at H
          cases H
      | false =>
        rw [if_neg (by decide)] at H
        by_cases l : x3.length < 4398046511104
        · rw [if_pos l] at H
          exact ⟨op, K, Y, N, i', h', false, _, _, _, h1, h2, fun _ => ⟨z, rfl⟩, fun e => absurd c e, fun e => (by cases e), fun _ => ⟨rfl, rfl⟩, l, H⟩
        · rw [if_neg l] at H
          cases H
  · rw [if_neg c] at H
    obtain ⟨ask, h2, H⟩ := Option.bind_eq_some_iff.mp H
    cases ask with
    | true =>
      rw [if_pos rfl] at H
      by_cases z : wrap64 (x4 - x5) = 0
      · rw [if_pos z] at H
        cases H
      · rw [if_neg z] at H
        by_cases l : x3.length < 4398046511104
        · rw [if_pos l] at H
          exact ⟨op, K, Y, N, i', h', true, _, _, _, h1, h2, fun e => absurd e c, fun _ => rfl, fun _ => ⟨z, rfl, rfl⟩, fun e => (by cases e), l, H⟩
        · rw [if_neg l] at H
          cases H
    | false =>
      rw [if_neg (by decide)] at H
      by_cases l : x3.length < 4398046511104
      · rw [if_pos l] at H
        exact ⟨op, K, Y, N, i', h', false, _, _, _, h1, h2, fun e => absurd e c, fun _ => rfl, fun e => (by cases e), fun _ => ⟨rfl, rfl⟩, l, H⟩
      · rw [if_neg l] at H
        cases H
set_option maxHeartbeats 2000000 in
set_option maxRecDepth 100000 in
theorem spec_l06Program.calls (k : Nat) (g : Nat) (s0_0 : List Int) (s0_1 : Int) (s0_2 : Int) (r1 : List (S25)) (r2 : Int) (r3 : Int) (w0 w : World) (hI : IsS102 w0 w g s0_0 s0_1 s0_2) (hB : Below w0.heap.size w0 w) (h : spec_l06Program.f k s0_0 s0_1 s0_2 = some (r1, r2, r3)) :
    Calls Try.prog 76 #[.pointer (some ⟨g, 0, none⟩)] w fun e w' => ∃ v0_ : Value, e = .returned (v0_) ∧ Kd.R k25 25 w' w.heap.size (fun _ => True) v0_ r1 ∧ IsS102 w0 w' g s0_0 r2 r3 ∧ Below w0.heap.size w0 w' ∧ KeepBut w w' g none := by
  have hu25 := Try.underlying25
  have HI0 := Aside0.mk hI
  have HK := Aside0.mk (KeepBut.refl w g none)
  have HW0 := Aside0.mk hB.size
  clear hI
  have HB := Aside0.mk hB
  clear hB
  unfold spec_l06Program.f at h
  obtain ⟨⟨n, i1, g1⟩, h1, H⟩ := Option.bind_eq_some_iff.mp h
  dsimp only at H
  have H1 := Aside0.mk h1
  have H' := Aside0.mk H
  clear h h1 H
  go_enter Try.func76, Try.ntmps76
  go_wp2_with (first
    | ((with_reducible refine gate_dst (N := 8) rfl ?_); refine Kd.R_lit k25 _ 25 ?hg (N := 8) ?hd (xs := ([] : List (S25))) (inner := []) (ok := fun _ => True) (okp := fun _ => True) ?hr ?hp (fun _ hk => hk) trivial (Below.refl _ _) (Nat.le_refl _) (by simp) ?_; (case hd => rfl); (case hg => rfl); (case hr => first | (go_simp; done) | (go_simp; rfl)); (case hp => exact (Reps.none _ _)); intro v1 w3 ho hb hg_ hnew_; clear hg_ hnew_; have HO := Aside0.mk (Kd.R_lower ho (keep_size HK.out)); have n1_ := Aside0.mk (IsS102.below HI0.out hb); have n2_ := Aside0.mk (KeepBut.trans HK.out (KeepBut.of_below hb g none) (.inl rfl)); have n3_ := Aside0.mk (below_step HB.out hb); clear HI0 HK HB hb ho; have HI0 := n1_; have HK := n2_; have HB := n3_; clear n1_ n2_ n3_)
    | (go_at_call 78; (with_reducible refine (spec_l01Below.calls g s0_0 s0_1 s0_2 12 n i1 g1 w0 _ HI0.out HB.out H1.out).mono ?_); rintro e w4 ⟨rfl, hi, hb, hk⟩; have n0_ := Aside0.mk (Kd.R_mono (Kd.R_keep (IsS102.apart HI0.out HO.out (by decide)) hk (fun _ h => h.2)) (fun _ h => h.1)); have n1_ := Aside0.mk (KeepBut.trans HK.out hk (.inl rfl)); clear HO HK HB HI0; have HO := n0_; have HK := n1_; have HB := Aside0.mk hb; have HI0 := Aside0.mk hi; clear n0_ n1_ hb hi hk))
  go_loopg [3, 5] k (fun kq v3 v5 w' => ∃ (xs : List S25) (x5 i2 g2 : Int), v5 = .int .i64 x5 ∧ Aside0 (spec_l06Program.l0 kq xs (wrap64 (1 + n)) x5 s0_0 i2 g2 = some (r1, r2, r3)) ∧ Aside0 (kq ≤ k) ∧ Aside0 (Kd.R k25 25 w' w.heap.size (fun _ => True) v3 xs) ∧ Aside0 (IsS102 w0 w' g s0_0 i2 g2) ∧ Aside0 (KeepBut w w' g none) ∧ Aside0 (Below w0.heap.size w0 w'))
  case atStart => exact ⟨[], 0, i1, g1, rfl, H', ⟨Nat.le_refl _⟩, HO, HI0, HK, HB⟩
  case round =>
    clear H' HO HI0 HK HB H1
    obtain ⟨xs, x5, i2, g2, rfl, HA, HK1, HO, HI0, HK, HB⟩ := hrel
    cases gk with
    | zero => exact absurd HA.out (by simp [spec_l06Program.l0])
    | succ k1 =>
      by_cases hlt : x5 < wrap64 (1 + n)
      · obtain ⟨op, K, Y, N, i3, g3, ask, kk, yy, nn, f1, f2, f3, f4, f5, f6, f7, f8⟩ := spec_l06Program.step hlt HA.out
        have F1 := Aside0.mk f1
        have F2 := Aside0.mk f2
        have F3 := Aside0.mk f3
        have F4 := Aside0.mk f4
        have F5 := Aside0.mk f5
        have F6 := Aside0.mk f6
        have F7 := Aside0.mk f7
        have F8 := Aside0.mk f8
        have d0 : decide (x5 < wrap64 (1 + n)) = true := decide_eq_true hlt
        clear f1 f2 f3 f4 f5 f6 f7 f8 hlt HA
        go_upto_region 8 with (first
          | (go_at_call 99; (with_reducible refine (spec_l06Ins.calls k1 g s0_0 i2 g2 op K Y N i3 g3 w0 _ HI0.out HB.out F1.out).mono ?_); rintro e w5 ⟨rfl, hi, hb, hk⟩; have n0_ := Aside0.mk (Kd.R_mono (Kd.R_keep (IsS102.apart HI0.out HO.out (by decide)) hk (fun _ h => h.2)) (fun _ h => h.1)); have n1_ := Aside0.mk (KeepBut.trans HK.out hk (.inl rfl)); clear HO HK HB HI0; have HO := n0_; have HK := n1_; have HB := Aside0.mk hb; have HI0 := Aside0.mk hi; clear n0_ n1_ hb hi hk)
          | ((with_reducible refine gate_dst (N := 6) rfl ?_); refine box_event ?hg (N := 6) ?hd (cs := #[.int .i64 0, .int .i64 0, .int .i64 0, .int .i64 0]) (t := 25) ?hr ?_; (case hd => rfl); (case hg => rfl); (case hr => first | (go_simp; done) | (go_simp; rfl)); intro gb hg w6 hbox hb; have HR := Aside0.mk (Rnd.new HO.out HI0.out HK.out HB.out HW0.out hg hbox hb); clear HO HK HB HI0 hg hbox hb; have hcz0 := blk_cell HR.out.bk 0; have hcz1 := blk_cell HR.out.bk 1; have hcz2 := blk_cell HR.out.bk 2; have hcz3 := blk_cell HR.out.bk 3; replace hcz0 : w6.cell? ⟨gb, 0, none⟩ = some (.int .i64 0) := hcz0; replace hcz1 : w6.cell? ⟨gb, 1, none⟩ = some (.int .i64 0) := hcz1; replace hcz2 : w6.cell? ⟨gb, 2, none⟩ = some (.int .i64 0) := hcz2; replace hcz3 : w6.cell? ⟨gb, 3, none⟩ = some (.int .i64 0) := hcz3; have hfz0 := blk_frozen HR.out.bk 0; have hfz1 := blk_frozen HR.out.bk 1; have hfz2 := blk_frozen HR.out.bk 2; have hfz3 := blk_frozen HR.out.bk 3))
        have HR4 : Aside0 (Rnd w0 w ((((w6.setCell ⟨gb, 0, none⟩ (.int .i64 op)).setCell ⟨gb, 1, none⟩ (.int .i64 K)).setCell ⟨gb, 2, none⟩ (.int .i64 Y)).setCell ⟨gb, 3, none⟩ (.int .i64 N)) g gb s0_0 i3 g3 u3 xs #[.int .i64 op, .int .i64 K, .int .i64 Y, .int .i64 N]) := ⟨(((HR.out.put 0 (.int .i64 op)).put 1 (.int .i64 K)).put 2 (.int .i64 Y)).put 3 (.int .i64 N)⟩
        clear hcz0 hcz1 hcz2 hcz3 hfz0 hfz1 hfz2 hfz3 HR
        generalize (((w6.setCell ⟨gb, 0, none⟩ (.int .i64 op)).setCell ⟨gb, 1, none⟩ (.int .i64 K)).setCell ⟨gb, 2, none⟩ (.int .i64 Y)).setCell ⟨gb, 3, none⟩ (.int .i64 N) = W at HR4 ⊢
        have cz0 : W.cell? ⟨gb, 0, none⟩ = some (.int .i64 op) := (blk_cell HR4.out.bk 0).trans rfl
        have fz0 := blk_frozen HR4.out.bk 0
        have cz1 : W.cell? ⟨gb, 1, none⟩ = some (.int .i64 K) := (blk_cell HR4.out.bk 1).trans rfl
        have fz1 := blk_frozen HR4.out.bk 1
        have cz2 : W.cell? ⟨gb, 2, none⟩ = some (.int .i64 Y) := (blk_cell HR4.out.bk 2).trans rfl
        have fz2 := blk_frozen HR4.out.bk 2
        have cz3 : W.cell? ⟨gb, 3, none⟩ = some (.int .i64 N) := (blk_cell HR4.out.bk 3).trans rfl
        have fz3 := blk_frozen HR4.out.bk 3
        go_upto_if 24 with (fail)
        go_cut [7] (fun v7 wc => v7 = .int .i64 (wrap64 (wrap64 (1 + n) - x5)) ∧ Aside0 (Rnd w0 w wc g gb s0_0 i3 g3 u3 xs #[.int .i64 op, .int .i64 kk, .int .i64 Y, .int .i64 N]))
        case first =>
          by_cases c : op = 7
          · have b0 : (op == 7) = true := beq_iff_eq.mpr c
            have z := (F3.out c).1
            have z0 : ((wrap64 (wrap64 (1 + n) - x5)) == 0) = false := beq_eq_false_iff_ne.mpr z
            go_wp2
            go_meet
            case rel => exact ⟨rfl, ⟨by rw [(F3.out c).2]; exact HR4.out.put 1 (.int .i64 (Int.tmod K (wrap64 (wrap64 (1 + n) - x5))))⟩⟩
          · have b0 : (op == 7) = false := beq_eq_false_iff_ne.mpr c
            go_wp2
            go_meet
            case rel => exact ⟨rfl, ⟨by rw [F4.out c]; exact HR4.out⟩⟩
        case rest =>
          obtain ⟨rfl, HR5⟩ := hcut
          clear HR4 cz0 cz1 cz2 cz3 fz0 fz1 fz2 fz3
          have cz0 : wc.cell? ⟨gb, 0, none⟩ = some (.int .i64 op) := (blk_cell HR5.out.bk 0).trans rfl
          have fz0 := blk_frozen HR5.out.bk 0
          have cz1 : wc.cell? ⟨gb, 1, none⟩ = some (.int .i64 kk) := (blk_cell HR5.out.bk 1).trans rfl
          have fz1 := blk_frozen HR5.out.bk 1
          have cz2 : wc.cell? ⟨gb, 2, none⟩ = some (.int .i64 Y) := (blk_cell HR5.out.bk 2).trans rfl
          have fz2 := blk_frozen HR5.out.bk 2
          have cz3 : wc.cell? ⟨gb, 3, none⟩ = some (.int .i64 N) := (blk_cell HR5.out.bk 3).trans rfl
          have fz3 := blk_frozen HR5.out.bk 3
          go_upto_if 32 with (go_at_call 69; (with_reducible refine (spec_l06Ask.calls op ask _ F2.out).mono ?_); rintro e w' ⟨rfl, ⟨nd, rfl⟩⟩)
          go_cut [7] (fun v7 wd => Aside0 (Rnd w0 w wd g gb s0_0 i3 g3 u3 xs #[.int .i64 op, .int .i64 kk, .int .i64 yy, .int .i64 nn]))
          case first =>
            cases ask with
            | true =>
              have E := Aside0.mk (F5.out rfl)
              have z := (F5.out rfl).1
              have z0 : ((wrap64 (wrap64 (1 + n) - x5)) == 0) = false := beq_eq_false_iff_ne.mpr z
              go_wp2
              go_meet
              case rel => exact ⟨by rw [E.out.2.1, E.out.2.2]; exact ((HR5.out.drewN nd).put 2 (.int .i64 (Int.tmod Y (wrap64 (wrap64 (1 + n) - x5))))).put 3 (.int .i64 (Int.tmod N (wrap64 (wrap64 (1 + n) - x5))))⟩
            | false =>
              have E := Aside0.mk (F6.out rfl)
              go_wp2
              go_meet
              case rel => exact ⟨by rw [E.out.1, E.out.2]; exact HR5.out.drewN nd⟩
          case rest =>
            have HR6 := hcut
            clear HR5 cz0 cz1 cz2 cz3 fz0 fz1 fz2 fz3 hcut
            have cz0 : wc.cell? ⟨gb, 0, none⟩ = some (.int .i64 op) := (blk_cell HR6.out.bk 0).trans rfl
            have fz0 := blk_frozen HR6.out.bk 0
            have cz1 : wc.cell? ⟨gb, 1, none⟩ = some (.int .i64 kk) := (blk_cell HR6.out.bk 1).trans rfl
            have fz1 := blk_frozen HR6.out.bk 1
            have cz2 : wc.cell? ⟨gb, 2, none⟩ = some (.int .i64 yy) := (blk_cell HR6.out.bk 2).trans rfl
            have fz2 := blk_frozen HR6.out.bk 2
            have cz3 : wc.cell? ⟨gb, 3, none⟩ = some (.int .i64 nn) := (blk_cell HR6.out.bk 3).trans rfl
            have fz3 := blk_frozen HR6.out.bk 3
            go_wp2_with ((with_reducible refine gate_builtin (b := .append) (xs := #[.tmp 43, .tmp 45]) rfl ?_); at_builtin; refine Kd.R_append k25 w.heap.size rfl (.tmp 43) (.tmp 45) 37 25 (.agg #[(.int .i64 0), (.int .i64 0), (.int .i64 0), (.int .i64 0)]) 32 rfl Try.underlying37 info25 rfl (by decide) (by omega) u3 xs (⟨op, kk, yy, nn⟩ : S25) [.int .i64 op, .int .i64 kk, .int .i64 yy, .int .i64 nn] (fun k_ => k_ ≠ gb) (fun _ => False) rfl (by first | rfl | (go_simp; done) | (go_simp; rfl)) ?aP (fun _ hk => hk.elim) ?aF ?aO (Below.refl _ _) ?aS ?aL ?_; (case aP => exact k25_mkM _ _ _ (⟨op, kk, yy, nn⟩ : S25)); (case aF => exact (fun k_ hk => Kd.freshB HR6.out.bk k_ hk)); (case aO => exact HR6.out.ho); (case aS => exact keep_size HR6.out.hk); (case aL => have := F7.out; omega); intro v7 w7 ho hb hg hat; have HO := Aside0.mk (Kd.R_mono ho (fun _ _ => trivial)); have HI0 := Aside0.mk (IsS102.grown HR6.out.hi hg (IsS102.own_ne HR6.out.hi HR6.out.ho (by decide))); have HB := Aside0.mk (below_weaken HR6.out.hb HW0.out hb); have HK := Aside0.mk (KeepBut.trans HR6.out.hk (KeepBut.of_grown hg g) (Kd.R_base2 HR6.out.ho)); clear ho hb hg hat)
            go_roundg k1
            case measure => have := HK1.out; omega
            case rel => exact ⟨xs ++ [⟨op, kk, yy, nn⟩], wrap64 (x5 + 1), i3, g3, by first | rfl | (simp; done), F8, ⟨by have := HK1.out; omega⟩, HO, HI0, HK, HB⟩
      · have H := HA.out
        simp only [spec_l06Program.l0] at H
        rw [if_neg hlt] at H
        obtain ⟨⟨b1, i3, g3⟩, f1, H⟩ := Option.bind_eq_some_iff.mp H
        obtain ⟨⟨b2, i4, g4⟩, f2, H⟩ := Option.bind_eq_some_iff.mp H
        obtain ⟨q, f3, H⟩ := Option.bind_eq_some_iff.mp H
        dsimp only at f1 f2 f3 H
        by_cases l : xs.length < 4398046511104
        · rw [if_pos l] at H
          simp only [Option.some.injEq, Prod.mk.injEq] at H
          obtain ⟨e1, e2, e3⟩ := H
          have F1 := Aside0.mk f1
          have F2 := Aside0.mk f2
          have F3 := Aside0.mk f3
          have F7 := Aside0.mk l
          have E := Aside0.mk (And.intro e1 (And.intro e2 e3))
          have d0 : decide (x5 < wrap64 (1 + n)) = false := decide_eq_false hlt
          clear f1 f2 f3 e1 e2 e3 l HA hlt
          go_wp2_with (first
            | (go_at_call 78; (with_reducible refine (spec_l01Below.calls g s0_0 i2 g2 6 b1 i3 g3 w0 _ HI0.out HB.out F1.out).mono ?_); rintro e w5 ⟨rfl, hi, hb, hk⟩; have n0_ := Aside0.mk (Kd.R_mono (Kd.R_keep (IsS102.apart HI0.out HO.out (by decide)) hk (fun _ h => h.2)) (fun _ h => h.1)); have n1_ := Aside0.mk (KeepBut.trans HK.out hk (.inl rfl)); clear HO HK HB HI0; have HO := n0_; have HK := n1_; have HB := Aside0.mk hb; have HI0 := Aside0.mk hi; clear n0_ n1_ hb hi hk)
            | (go_at_call 78; (with_reducible refine (spec_l01Below.calls g s0_0 i3 g3 5 b2 i4 g4 w0 _ HI0.out HB.out F2.out).mono ?_); rintro e w6 ⟨rfl, hi, hb, hk⟩; have n0_ := Aside0.mk (Kd.R_mono (Kd.R_keep (IsS102.apart HI0.out HO.out (by decide)) hk (fun _ h => h.2)) (fun _ h => h.1)); have n1_ := Aside0.mk (KeepBut.trans HK.out hk (.inl rfl)); clear HO HK HB HI0; have HO := n0_; have HK := n1_; have HB := Aside0.mk hb; have HI0 := Aside0.mk hi; clear n0_ n1_ hb hi hk)
            | (go_at_call 63; (with_reducible refine (spec_ResultOf.calls b1 b2 q _ F3.out).mono ?_); rintro e w' ⟨rfl, ⟨nd, rfl⟩⟩)
            | ((with_reducible refine gate_builtin (b := .append) (xs := #[.tmp 47, .tmp 54]) rfl ?_); at_builtin; refine Kd.R_append k25 w.heap.size rfl (.tmp 47) (.tmp 54) 37 25 (.agg #[(.int .i64 0), (.int .i64 0), (.int .i64 0), (.int .i64 0)]) 32 rfl Try.underlying37 info25 rfl (by decide) (by omega) u3 xs (⟨8, q, 0, 0⟩ : S25) [.int .i64 8, .int .i64 q, .int .i64 0, .int .i64 0] (fun _ => True) (fun _ => False) rfl (by first | rfl | (go_simp; done) | (go_simp; rfl)) ?aP (fun _ hk => hk.elim) ?aF ?aO (Below.refl _ _) ?aS ?aL ?_; (case aP => exact k25_mkM _ _ _ (⟨8, q, 0, 0⟩ : S25)); (case aF => exact (fun _ _ => trivial)); (case aO => exact (by (with_reducible repeat (first | apply Kd.R_alloc | apply Kd.R_drewN | apply Kd.R_drew)); exact HO.out)); (case aS => exact keep_size HK.out); (case aL => have := F7.out; omega); intro v7 w7 ho hb hg hat; have HI1 := Aside0.mk (IsS102.grown (IsS102.drewN HI0.out nd) hg (IsS102.own_ne HI0.out HO.out (by decide))); have HB1 := Aside0.mk (below_weaken (pw_below_drewN HB.out nd) HW0.out hb); have HK1b := Aside0.mk (KeepBut.trans (keep_drewN HK.out nd) (KeepBut.of_grown hg g) (Kd.R_base2 HO.out)); have HO1 := Aside0.mk ho; clear HI0 HB HK HO ho hb hg hat))
          go_ret
          exact ⟨_, rfl, by rw [← E.out.1]; exact HO1.out, by rw [← E.out.2.1, ← E.out.2.2]; exact HI1.out, HB1.out, HK1b.out⟩
        · rw [if_neg l] at H
          cases H

/-! ### spec_l01New: function 77 -/
def spec_l01New.l0 : Nat → List Int → Int → Int → Option (List Int × Int × Int)
  | 0, _, _, _ => none
  | k + 1, x0, x3, x4 => if x4 < (x0.length : Int) then (if x4 < 4000 then (if 0 ≤ x4 then (spec_l01New.l0 k x0 (Go.bits .and .i64 (wrap64 ((wrap64 ((wrap64 (x3 * 131)) + (wrap64 (rd x0 x4)))) + 7)) 1073741823) (wrap64 (x4 + 1))) else (none)) else (some (x0, 0, x3))) else (some (x0, 0, x3))
def spec_l01New.f (k : Nat) (l0 : List Int) : Option (List Int × Int × Int) := spec_l01New.l0 k l0 (wrap64 (78801 + (l0.length : Int))) 0
theorem spec_l01New.mono_l : ∀ k, (∀ y0 y1 y2, LeO (spec_l01New.l0 k y0 y1 y2) (spec_l01New.l0 (k + 1) y0 y1 y2))
  | 0 => fun _ _ _ r h => by simp [spec_l01New.l0] at h
  | k + 1 => by
    have ih0 := spec_l01New.mono_l k
    · intro y0 y1 y2
      unfold spec_l01New.l0
      repeat' first
      | (with_reducible exact ih0 _ _ _)
      | (with_reducible exact LeO.refl _)
      | (with_reducible exact LeO.none _)
      | (with_reducible refine LeO.ite ?_ ?_)
      | (with_reducible refine LeO.bind ?_ (fun _ => ?_))
      | exact ih0 _ _ _
      | exact LeO.none _
      | refine LeO.ite ?_ ?_
      | refine LeO.bind ?_ (fun _ => ?_)
theorem spec_l01New.mono : ∀ a0 k, LeO (spec_l01New.f k a0) (spec_l01New.f (k + 1) a0) := by
  intro a0 k
  have ih0 := spec_l01New.mono_l k
  unfold spec_l01New.f
  repeat' first
      | (with_reducible exact ih0 _ _ _)
      | (with_reducible exact LeO.refl _)
      | (with_reducible exact LeO.none _)
      | (with_reducible refine LeO.ite ?_ ?_)
      | (with_reducible refine LeO.bind ?_ (fun _ => ?_))
      | exact ih0 _ _ _
      | exact LeO.none _
      | refine LeO.ite ?_ ?_
      | refine LeO.bind ?_ (fun _ => ?_)
set_option maxHeartbeats 8000000 in
set_option maxRecDepth 100000 in
theorem spec_l01New.calls (k : Nat) (A0 : Option Addr) (c0 : Nat) (l0 : List Int) (r1 : List Int) (r2 : Int) (r3 : Int) (w0 w : World) (hB : Below w0.heap.size w0 w) (hr0 : Kd.C (Kd.int .u8) w0 A0 l0.length l0) (hc0 : l0.length ≤ c0) (h : spec_l01New.f k l0 = some (r1, r2, r3)) :
    Calls Try.prog 77 #[.slice A0 l0.length c0] w fun e w' => ∃ g_ : Nat, e = .returned (.pointer (some ⟨g_, 0, none⟩)) ∧ IsS102 w0 w' g_ r1 r2 r3 ∧ Below w0.heap.size w0 w' ∧ Below w.heap.size w w' := by
  have hu102 := Try.underlying102
  have HR0 := Aside0.mk hr0
  have HC0 := Aside0.mk hc0
  clear hr0 hc0
  have HBW := Aside0.mk (Below.refl w.heap.size w)
  have HW0 := Aside0.mk hB.size
  have HB := Aside0.mk hB
  clear hB
  have H : (spec_l01New.l0 k l0 (wrap64 (78801 + (l0.length : Int))) 0) = some (r1, r2, r3) := h
  clear h
  have H' := Aside0.mk H
  clear H
  go_enter Try.func77, Try.ntmps77
  go_wp2
  go_loopg [3, 4] k (fun kq v3 v4 w' => ∃ (x3_1 : Int) (x4_1 : Int), v3 = .int .i64 x3_1 ∧ v4 = .int .i64 x4_1 ∧ Aside0 (spec_l01New.l0 kq l0 x3_1 x4_1 = some (r1, r2, r3)) ∧ Aside0 (kq ≤ k) ∧ Aside0 (Below w0.heap.size w0 w') ∧ Aside0 (Below w.heap.size w w'))
  case atStart => exact ⟨(wrap64 (78801 + (l0.length : Int))), (0), (by first | rfl | (simp; done) | (simp [*]; done)), (by first | rfl | (simp; done) | (simp [*]; done)), H', ⟨Nat.le_refl _⟩, ⟨by repeat (first | (with_reducible first | exact HB.out | apply below_alloc | apply pw_below_drewN | apply below_drew1) | exact HB.out)⟩, ⟨by repeat (first | (with_reducible first | exact HBW.out | apply below_alloc | apply pw_below_drewN | apply below_drew1) | exact HBW.out)⟩⟩
  case round =>
    clear H'
    clear HBW
    obtain ⟨x3_1, x4_1, rfl, rfl, HA, HK1, HB, HBW⟩ := hrel
    cases gk with
    | zero => exact absurd HA.out (by simp [spec_l01New.l0])
    | succ k1 =>
      have H := HA.out
      clear HA
      simp only [spec_l01New.l0] at H
      by_cases c2 : x4_1 < (l0.length : Int)
      · rw [if_pos c2] at H
        have c2b0 : decide (x4_1 < (l0.length : Int)) = true := decide_eq_true c2
        clear c2
        by_cases c3 : x4_1 < 4000
        · rw [if_pos c3] at H
          have c3b0 : decide (x4_1 < 4000) = true := decide_eq_true c3
          clear c3
          by_cases c4 : 0 ≤ x4_1
          · rw [if_pos c4] at H
            have c4b0 : decide (0 ≤ x4_1) = true := decide_eq_true c4
            clear c4
            have H' := Aside0.mk H
            clear H
            have p292 : 0 ≤ (x4_1 : Int) := of_decide_eq_true (by first | (with_reducible assumption) | assumption)
            have q292 : x4_1 < (l0.length : Int) := of_decide_eq_true (by first | (with_reducible assumption) | assumption)
            obtain ⟨ad292, e292, hx292_0⟩ := Kd.at_int HR0.out x4_1 p292 q292
            cases e292
            replace hx292_0 := pw_cell_below HB.out hx292_0
            replace p292 := eq_true p292
            replace q292 := eq_true q292
            go_wp2
            go_roundg k1
            case measure => have := HK1.out; omega
            case rel => exact ⟨(Go.bits .and .i64 (wrap64 ((wrap64 ((wrap64 (x3_1 * 131)) + (wrap64 (rd l0 x4_1)))) + 7)) 1073741823), (wrap64 (x4_1 + 1)), (by first | rfl | (simp; done) | (simp [*]; done)), (by first | rfl | (simp; done) | (simp [*]; done)), H', ⟨by have := HK1.out; omega⟩, ⟨by repeat (first | (with_reducible first | exact HB.out | apply below_alloc | apply pw_below_drewN | apply below_drew1) | exact HB.out)⟩, ⟨by repeat (first | (with_reducible first | exact HBW.out | apply below_alloc | apply pw_below_drewN | apply below_drew1) | exact HBW.out)⟩⟩
          · rw [if_neg c4] at H
            exact absurd H (by simp)
        · rw [if_neg c3] at H
          have c3b0 : decide (x4_1 < 4000) = false := decide_eq_false c3
          clear c3
          simp only [Option.some.injEq, Prod.mk.injEq] at H
          obtain ⟨rfl, rfl, rfl⟩ := H
          go_wp2_with (first | ((with_reducible refine gate_dst (N := 31) rfl ?_); refine box_event ?hg (N := 31) ?hd (cs := #[.slice A0 l0.length c0, .int .i64 0, .int .i64 x3_1]) (t := 102) ?hr ?_; (case hd => rfl); (case hg => rfl); (case hr => first | (go_simp; done) | (go_simp; rfl)); intro gb293 hg w5 hbox hb; have n0_ := Aside0.mk (below_step HBW.out hb); have n1_ := Aside0.mk (below_step (by repeat (first | (with_reducible first | exact HB.out | apply below_alloc | apply pw_below_drewN | apply below_drew1) | exact HB.out)) hb); have n2_ := Aside0.mk (hbox); have n3_ := Aside0.mk ((by rw [hg]; exact (below_size (by repeat (first | (with_reducible first | exact HBW.out | apply below_alloc | apply pw_below_drewN | apply below_drew1) | exact HBW.out))) : w.heap.size ≤ gb293)); have n4_ := Aside0.mk ((Nat.le_trans HW0.out (by rw [hg]; exact (below_size (by repeat (first | (with_reducible first | exact HBW.out | apply below_alloc | apply pw_below_drewN | apply below_drew1) | exact HBW.out))) : w.heap.size ≤ gb293) : w0.heap.size ≤ gb293)); clear HBW; clear HB; have HBW := n0_; have HB := n1_; have BK293 := n2_; have GW293 := n3_; have GE293 := n4_; clear n0_ n1_ n2_ n3_ n4_; clear hb hbox hg))
          go_ret
          exact ⟨_, rfl, (show IsS102 w0 _ gb293 l0 0 x3_1 from ⟨_, _, by (with_reducible repeat (first | refine blk_drewN ?_ _ | refine blk_drew ?_ | refine blk_alloc ?_ _)); exact BK293.out, GE293.out, HR0.out⟩), by repeat (first | (with_reducible first | exact HB.out | apply below_alloc | apply pw_below_drewN | apply below_drew1 | refine below_set ?_ GE293.out) | exact HB.out), by repeat (first | (with_reducible first | exact HBW.out | apply below_alloc | apply pw_below_drewN | apply below_drew1 | refine below_set ?_ GW293.out) | exact HBW.out)⟩
      · rw [if_neg c2] at H
        have c2b0 : decide (x4_1 < (l0.length : Int)) = false := decide_eq_false c2
        clear c2
        simp only [Option.some.injEq, Prod.mk.injEq] at H
        obtain ⟨rfl, rfl, rfl⟩ := H
        go_wp2_with (first | ((with_reducible refine gate_dst (N := 31) rfl ?_); refine box_event ?hg (N := 31) ?hd (cs := #[.slice A0 l0.length c0, .int .i64 0, .int .i64 x3_1]) (t := 102) ?hr ?_; (case hd => rfl); (case hg => rfl); (case hr => first | (go_simp; done) | (go_simp; rfl)); intro gb294 hg w6 hbox hb; have n0_ := Aside0.mk (below_step HBW.out hb); have n1_ := Aside0.mk (below_step (by repeat (first | (with_reducible first | exact HB.out | apply below_alloc | apply pw_below_drewN | apply below_drew1) | exact HB.out)) hb); have n2_ := Aside0.mk (hbox); have n3_ := Aside0.mk ((by rw [hg]; exact (below_size (by repeat (first | (with_reducible first | exact HBW.out | apply below_alloc | apply pw_below_drewN | apply below_drew1) | exact HBW.out))) : w.heap.size ≤ gb294)); have n4_ := Aside0.mk ((Nat.le_trans HW0.out (by rw [hg]; exact (below_size (by repeat (first | (with_reducible first | exact HBW.out | apply below_alloc | apply pw_below_drewN | apply below_drew1) | exact HBW.out))) : w.heap.size ≤ gb294) : w0.heap.size ≤ gb294)); clear HBW; clear HB; have HBW := n0_; have HB := n1_; have BK294 := n2_; have GW294 := n3_; have GE294 := n4_; clear n0_ n1_ n2_ n3_ n4_; clear hb hbox hg))
        go_ret
        exact ⟨_, rfl, (show IsS102 w0 _ gb294 l0 0 x3_1 from ⟨_, _, by (with_reducible repeat (first | refine blk_drewN ?_ _ | refine blk_drew ?_ | refine blk_alloc ?_ _)); exact BK294.out, GE294.out, HR0.out⟩), by repeat (first | (with_reducible first | exact HB.out | apply below_alloc | apply pw_below_drewN | apply below_drew1 | refine below_set ?_ GE294.out) | exact HB.out), by repeat (first | (with_reducible first | exact HBW.out | apply below_alloc | apply pw_below_drewN | apply below_drew1 | refine below_set ?_ GW294.out) | exact HBW.out)⟩

/-! ### spec_DrawProgram: function 33 -/
def spec_DrawProgram.f (k : Nat) (l0 : List Int) : Option ((List (S25))) := (spec_l01New.f k l0).bind fun bt295 => ((spec_l06Program.f k bt295.1 bt295.2.1 bt295.2.2).bind fun bt299 => (some bt299.1))
theorem spec_DrawProgram.mono : ∀ a0 k, LeO (spec_DrawProgram.f k a0) (spec_DrawProgram.f (k + 1) a0) := by
  intro a0 k
  unfold spec_DrawProgram.f
  repeat' first
      | (with_reducible exact spec_l01New.mono _ _)
      | (with_reducible exact spec_l06Program.mono _ _ _ _)
      | (with_reducible exact LeO.refl _)
      | (with_reducible exact LeO.none _)
      | (with_reducible refine LeO.ite ?_ ?_)
      | (with_reducible refine LeO.bind ?_ (fun _ => ?_))
      | exact spec_l01New.mono _ _
      | exact spec_l06Program.mono _ _ _ _
      | exact LeO.none _
      | refine LeO.ite ?_ ?_
      | refine LeO.bind ?_ (fun _ => ?_)
set_option maxHeartbeats 8000000 in
set_option maxRecDepth 100000 in
theorem spec_DrawProgram.calls (k : Nat) (A0 : Option Addr) (c0 : Nat) (l0 : List Int) (r : List (S25)) (w : World) (hr0 : Kd.C (Kd.int .u8) w A0 l0.length l0) (hc0 : l0.length ≤ c0) (h : spec_DrawProgram.f k l0 = some r) :
    Calls Try.prog 33 #[.slice A0 l0.length c0] w fun e w' => ∃ v0_ : Value, e = .returned (v0_) ∧ Kd.R k25 25 w' w.heap.size (fun _ => True) v0_ r ∧ Below w.heap.size w w' := by
  have HR0 := Aside0.mk hr0
  have HC0 := Aside0.mk hc0
  clear hr0 hc0
  have HB := Aside0.mk (Below.refl w.heap.size w)
  have H : ((spec_l01New.f k l0).bind fun bt295 => ((spec_l06Program.f k bt295.1 bt295.2.1 bt295.2.2).bind fun bt299 => (some bt299.1))) = some r := h
  clear h
  replace H := Option.bind_eq_some_iff.mp H
  obtain ⟨⟨t295, t296, t297⟩, A20, H⟩ := H
  replace H : ((spec_l06Program.f k t295 t296 t297).bind fun bt299 => (some bt299.1)) = some r := H
  have A2 := Aside0.mk A20
  clear A20
  replace H := Option.bind_eq_some_iff.mp H
  obtain ⟨⟨t299, t302, t303⟩, A30, H⟩ := H
  replace H : (some t299) = some r := H
  have A3 := Aside0.mk A30
  clear A30
  obtain rfl := Option.some.inj H
  go_enter Try.func33, Try.ntmps33
  go_wp2_with (first | ((with_reducible refine gate_callee (f := 77) rfl ?_); refine goesL_ (some 4) rfl rfl Try.func77 (by kernel_rfl) rfl #[.slice A0 l0.length c0] rfl (by (try simp only [List.map_toArray, List.map_cons, List.map_nil]); first | done | rfl | (simp only [List.length_drop, List.length_take]; rfl)) ?_; (with_reducible refine (spec_l01New.calls k _ _ l0 t295 t296 t297 w _ ?side1 ?side2 ?side3 A2.out).mono ?_); (case side1 => repeat (first | (with_reducible first | exact HB.out | apply below_alloc | apply pw_below_drewN | apply below_drew1) | exact HB.out)); (case side2 => exact HR0.out); (case side3 => exact HC0.out); rintro e w4 ⟨g298, rfl, hi, hb, hb2⟩; refine ⟨_, rfl, ?_⟩; have n0_ := Aside0.mk (hb); have n1_ := Aside0.mk (hi); clear HB; have HB := n0_; have HI298 := n1_; clear n0_ n1_; (try clear hb); (try clear hb2); (try clear hk); (try clear hi)) | ((with_reducible refine gate_callee (f := 76) rfl ?_); refine goesL_ (some 5) rfl rfl Try.func76 (by kernel_rfl) rfl #[.pointer (some ⟨g298, 0, none⟩)] rfl (by (try simp only [List.map_toArray, List.map_cons, List.map_nil]); first | done | rfl | (simp only [List.length_drop, List.length_take]; rfl)) ?_; (with_reducible refine (spec_l06Program.calls k g298 t295 t296 t297 t299 t302 t303 w _ ?side1 ?side2 A3.out).mono ?_); (case side1 => repeat (first | (with_reducible first | exact HI298.out | apply IsS102.alloc | apply IsS102.drewN | apply IsS102.drew | apply IsS102.set_1 | apply IsS102.set_2) | exact HI298.out)); (case side2 => repeat (first | (with_reducible first | exact HB.out | apply below_alloc | apply pw_below_drewN | apply below_drew1 | refine below_set ?_ (IsS102.ge HI298.out)) | exact HB.out)); rintro e w5 ⟨v300, rfl, ho0, hi, hb, hk⟩; refine ⟨_, rfl, ?_⟩; have n0_ := Aside0.mk (Kd.R_lower ho0 (below_size (by repeat (first | (with_reducible first | exact HB.out | apply below_alloc | apply pw_below_drewN | apply below_drew1 | refine below_set ?_ (IsS102.ge HI298.out)) | exact HB.out)))); have n1_ := Aside0.mk (hb); have n2_ := Aside0.mk (hi); clear HB; clear HI298; have HO301 := n0_; have HB := n1_; have HI298 := n2_; clear n0_ n1_ n2_; (try clear hb); (try clear hb2); (try clear hk); (try clear hi); (try clear ho0)))
  go_ret
  exact ⟨_, by first | rfl | (simp [errW_none, errW_some] <;> rfl) | (simp [*, errW_none, errW_some] <;> rfl), by (with_reducible repeat (first | apply Kd.R_alloc | apply Kd.R_drewN | apply Kd.R_drew)); exact HO301.out, by repeat (first | (with_reducible first | exact HB.out | apply below_alloc | apply pw_below_drewN | apply below_drew1 | refine below_set ?_ (IsS102.ge HI298.out)) | exact HB.out)⟩

end Go.Proofs.Ytfchokhdhnfajaa.PFnPrograms
