/- What the print of the kit wrote of FnRunTold's functions, with some steps of some walks mended by this session. -/
import Derived.Test.YtfchokhdhnfajaaPFnRunToldx0
import Derived.Test.YtfchokhdhnfajaaPFnRunToldx1
namespace Go.Proofs.Ytfchokhdhnfajaa.PFnRunTold
open Go.RowKit Go.Proofs.YtfchokhdhnfajaaW.PrintWords Go.Proofs.YtfchokhdhnfajaaW.PrintLast Go.Proofs.YtfchokhdhnfajaaW.PrintMore
attribute [local go_sem] max2_int min2_int max_two min_two max_three min_three max_four min_four   -- for this text's walks alone
set_option linter.unusedVariables false
set_option linter.unusedSimpArgs false

/-- A state of type 102 at block g of W; what its slices lead to came in by w0. -/
def IsS102 (w0 W : World) (g : Nat) (f0 : List Int) (f1 : Int) (f2 : Int) : Prop := ∃ A0 c0,W.heap[g]? = some (.cells #[.slice A0 f0.length c0,.int .i64 f1,.int .i64 f2] 102 (0,0)) ∧ w0.heap.size ≤ g ∧ Kd.C (Kd.int .u8) w0 A0 f0.length f0
theorem IsS102.grown {w0 W : World} {g : Nat} {f0 : List Int} {f1 : Int} {f2 : Int} {W1 : World} {row : Option Nat} (h : IsS102 w0 W g f0 f1 f2) (hw : W.grownBy W1 row) (hne : some g ≠ row) : IsS102 w0 W1 g f0 f1 f2 := by
 obtain ⟨A0,c0,hb,hg,hr0⟩ := h
 exact ⟨A0,c0,blk_grown hb hw hne,hg,hr0⟩
theorem IsS102.own_neN {w0 W : World} {g : Nat} {f0 : List Int} {f1 : Int} {f2 : Int} {α : Type} {d : Kd α} {e : Nat} {base : Nat} {ok : Nat → Prop} {v : Value} {xs : List α} (h : IsS102 w0 W g f0 f1 f2) (ho : Kd.N d e W base ok v xs) (ht : e ≠ 102) : some g ≠ v.ownBlock := by
 obtain ⟨A0,c0,hb,hg,hr0⟩ := h
 exact Kd.N_ne ho hb ht
theorem IsS102.fresh {w0 W : World} {g : Nat} {f0 : List Int} {f1 : Int} {f2 : Int} (h : IsS102 w0 W g f0 f1 f2) : ∀ k,W.heap.size ≤ k → k ≠ g := by
 obtain ⟨A0,c0,hb,hg,hr0⟩ := h
 exact Kd.freshB hb
theorem IsS102.kept {w0 W : World} {g : Nat} {f0 : List Int} {f1 : Int} {f2 : Int} {W1 : World} {S : Nat → Prop} (h : IsS102 w0 W g f0 f1 f2) (hk : Kept W W1 S) (hne : ¬ S g) : IsS102 w0 W1 g f0 f1 f2 := by
 obtain ⟨A0,c0,hb,hg,hr0⟩ := h
 exact ⟨A0,c0,blk_kept hb hk hne,hg,hr0⟩
theorem IsS102.below {w0 W : World} {g : Nat} {f0 : List Int} {f1 : Int} {f2 : Int} {W1 : World} (h : IsS102 w0 W g f0 f1 f2) (hw : Below W.heap.size W W1) : IsS102 w0 W1 g f0 f1 f2 := h.grown (grown_of_below hw none) (by simp)
theorem IsS102.alloc {w0 W : World} {g : Nat} {f0 : List Int} {f1 : Int} {f2 : Int} (h : IsS102 w0 W g f0 f1 f2) (o : Obj) : IsS102 w0 (W.alloc o) g f0 f1 f2 := h.below (below_alloc (Below.refl _ _) o)
theorem IsS102.drewN {w0 W : World} {g : Nat} {f0 : List Int} {f1 : Int} {f2 : Int} (h : IsS102 w0 W g f0 f1 f2) (m : Nat) : IsS102 w0 (W.drewN m) g f0 f1 f2 := h
theorem IsS102.drew {w0 W : World} {g : Nat} {f0 : List Int} {f1 : Int} {f2 : Int} (h : IsS102 w0 W g f0 f1 f2) : IsS102 w0 W.drew g f0 f1 f2 := h
theorem IsS102.at_ {w0 W : World} {g : Nat} {f0 : List Int} {f1 : Int} {f2 : Int} {w' : World} {m : Nat} (hq : W.drewN m = w') (h : IsS102 w0 W g f0 f1 f2) : IsS102 w0 w' g f0 f1 f2 := by subst hq; exact IsS102.drewN h m
theorem IsS102.apart {w0 W : World} {g : Nat} {f0 : List Int} {f1 : Int} {f2 : Int} {α : Type} {d : Kd α} {e : Nat} {base : Nat} {ok : Nat → Prop} {v : Value} {xs : List α} (h : IsS102 w0 W g f0 f1 f2) (ho : d.R e W base ok v xs) (ht : ∀ q,q ∈ e :: d.E → q ≠ 102) : d.R e W base (fun k => ok k ∧ k ≠ g) v xs := by
 obtain ⟨A0,c0,hb,hg,hr0⟩ := h
 exact Kd.R_types ho hb ht
theorem IsS102.own_ne {w0 W : World} {g : Nat} {f0 : List Int} {f1 : Int} {f2 : Int} {α : Type} {d : Kd α} {e : Nat} {base : Nat} {ok : Nat → Prop} {v : Value} {xs : List α} (h : IsS102 w0 W g f0 f1 f2) (ho : d.R e W base ok v xs) (ht : e ≠ 102) : some g ≠ v.ownBlock := by
 obtain ⟨A0,c0,hb,hg,hr0⟩ := h
 exact Kd.R_ne ho hb ht
theorem IsS102.apartQ {w0 W : World} {g : Nat} {f0 : List Int} {f1 : Int} {f2 : Int} {α : Type} {d : Kd α} {e : Nat} {base : Nat} {ok : Nat → Prop} {v : Value} {xs : List α} (h : IsS102 w0 W g f0 f1 f2) (ho : d.Q e W base ok v xs) (ht : ∀ q,q ∈ e :: d.E → q ≠ 102) : d.Q e W base (fun k => ok k ∧ k ≠ g) v xs := by
 obtain ⟨A0,c0,hb,hg,hr0⟩ := h
 exact Kd.Q_types ho hb ht
theorem IsS102.own_neQ {w0 W : World} {g : Nat} {f0 : List Int} {f1 : Int} {f2 : Int} {α : Type} {d : Kd α} {e : Nat} {base : Nat} {ok : Nat → Prop} {v : Value} {xs : List α} (h : IsS102 w0 W g f0 f1 f2) (ho : d.Q e W base ok v xs) (ht : e ≠ 102) : some g ≠ v.ownBlock := by
 obtain ⟨A0,c0,hb,hg,hr0⟩ := h
 exact Kd.Q_ne ho hb ht
theorem IsS102.apartS {w0 W : World} {g : Nat} {f0 : List Int} {f1 : Int} {f2 : Int} {α : Type} {d : Kd α} {e : Nat} {base : Nat} {ok : Nat → Prop} {v : Value} {xs : List α} (h : IsS102 w0 W g f0 f1 f2) (ho : d.S e W base ok v xs) (ht : ∀ q,q ∈ e :: d.E → q ≠ 102) : d.S e W base (fun k => ok k ∧ k ≠ g) v xs := by
 obtain ⟨A0,c0,hb,hg,hr0⟩ := h
 exact Kd.S_types ho hb ht
theorem IsS102.own_neS {w0 W : World} {g : Nat} {f0 : List Int} {f1 : Int} {f2 : Int} {α : Type} {d : Kd α} {e : Nat} {base : Nat} {ok : Nat → Prop} {v : Value} {xs : List α} (h : IsS102 w0 W g f0 f1 f2) (ho : d.S e W base ok v xs) (ht : e ≠ 102) : some g ≠ v.ownBlock := by
 obtain ⟨A0,c0,hb,hg,hr0⟩ := h
 exact Kd.S_ne ho hb ht
theorem IsS102.lt {w0 W : World} {g : Nat} {f0 : List Int} {f1 : Int} {f2 : Int} (h : IsS102 w0 W g f0 f1 f2) : g < W.heap.size := by
 obtain ⟨A0,c0,hb,hg,hr0⟩ := h
 exact blk_lt hb
theorem IsS102.ge {w0 W : World} {g : Nat} {f0 : List Int} {f1 : Int} {f2 : Int} (h : IsS102 w0 W g f0 f1 f2) : w0.heap.size ≤ g := by
 obtain ⟨A0,c0,hb,hg,hr0⟩ := h
 exact hg
theorem IsS102.ne_blk {w0 W : World} {g : Nat} {f0 : List Int} {f1 : Int} {f2 : Int} {a : Nat} {cs : Array Value} {t : TypeId} {fr : Nat × Nat} (h : IsS102 w0 W g f0 f1 f2) (hb2 : W.heap[a]? = some (.cells cs t fr)) (ht : t ≠ 102) : g ≠ a := by
 obtain ⟨A0,c0,hb,hg,hr0⟩ := h
 rintro rfl
 rw [hb] at hb2
 injection hb2 with hb2
 injection hb2 with _ ht2
 exact ht ht2.symm
theorem IsS102.far {w0 W : World} {g : Nat} {f0 : List Int} {f1 : Int} {f2 : Int} {p : Addr} (h : IsS102 w0 W g f0 f1 f2) (hne : g ≠ p.block) (u : Value) : IsS102 w0 (W.setCell p u) g f0 f1 f2 := by
 obtain ⟨A0,c0,hb,hg,hr0⟩ := h
 exact ⟨A0,c0,blk_far hb hne u,hg,hr0⟩
theorem cellS102_0 {W : World} {g : Nat} {A0 : Option Addr} {c0 : Nat} {f0 : List Int} {f1 : Int} {f2 : Int} (h : W.heap[g]? = some (.cells #[.slice A0 f0.length c0,.int .i64 f1,.int .i64 f2] 102 (0,0))) : W.cell? ⟨g,0,none⟩ = some (.slice A0 f0.length c0) := (blk_cell h 0).trans rfl
theorem cellS102_1 {W : World} {g : Nat} {A0 : Option Addr} {c0 : Nat} {f0 : List Int} {f1 : Int} {f2 : Int} (h : W.heap[g]? = some (.cells #[.slice A0 f0.length c0,.int .i64 f1,.int .i64 f2] 102 (0,0))) : W.cell? ⟨g,1,none⟩ = some (.int .i64 f1) := (blk_cell h 1).trans rfl
theorem IsS102.set_1 {w0 W : World} {g : Nat} {f0 : List Int} {f1 : Int} {f2 : Int} (h : IsS102 w0 W g f0 f1 f2) (x : Int) : IsS102 w0 (W.setCell ⟨g,1,none⟩ (.int .i64 x)) g f0 x f2 := by
 obtain ⟨A0,c0,hb,hg,hr0⟩ := h
 exact ⟨A0,c0,by simpa using blk_set hb 1 (.int .i64 x),hg,hr0⟩
theorem cellS102_2 {W : World} {g : Nat} {A0 : Option Addr} {c0 : Nat} {f0 : List Int} {f1 : Int} {f2 : Int} (h : W.heap[g]? = some (.cells #[.slice A0 f0.length c0,.int .i64 f1,.int .i64 f2] 102 (0,0))) : W.cell? ⟨g,2,none⟩ = some (.int .i64 f2) := (blk_cell h 2).trans rfl
theorem IsS102.set_2 {w0 W : World} {g : Nat} {f0 : List Int} {f1 : Int} {f2 : Int} (h : IsS102 w0 W g f0 f1 f2) (x : Int) : IsS102 w0 (W.setCell ⟨g,2,none⟩ (.int .i64 x)) g f0 f1 x := by
 obtain ⟨A0,c0,hb,hg,hr0⟩ := h
 exact ⟨A0,c0,by simpa using blk_set hb 2 (.int .i64 x),hg,hr0⟩
theorem IsS102.new (w0 W : World) (A0 : Option Addr) (c0 : Nat) (f0 : List Int) (f1 : Int) (f2 : Int) (hB : Below w0.heap.size w0 W) (hr0 : Kd.C (Kd.int .u8) w0 A0 f0.length f0) : IsS102 w0 (W.alloc (.cells #[.slice A0 f0.length c0,.int .i64 f1,.int .i64 f2] 102)) W.heap.size f0 f1 f2 := ⟨A0,c0,by simpa using heap_alloc_new W _,hB.size,hr0⟩

/-! ### spec_l01New: function 77 -/
def spec_l01New.l0 : Nat → List Int → Int → Int → Option (List Int × Int × Int)
 | 0,_,_,_ => none
 | k + 1,x0,x3,x4 => if x4 < (x0.length : Int) then (if x4 < 4000 then (if 0 ≤ x4 then (spec_l01New.l0 k x0 (Go.bits .and .i64 (wrap64 ((wrap64 ((wrap64 (x3 * 131)) + (wrap64 (rd x0 x4)))) + 7)) 1073741823) (wrap64 (x4 + 1))) else (none)) else (some (x0,0,x3))) else (some (x0,0,x3))
def spec_l01New.f (k : Nat) (l0 : List Int) : Option (List Int × Int × Int) := spec_l01New.l0 k l0 (wrap64 (78801 + (l0.length : Int))) 0
theorem spec_l01New.mono_l : ∀ k,(∀ y0 y1 y2,LeO (spec_l01New.l0 k y0 y1 y2) (spec_l01New.l0 (k + 1) y0 y1 y2))
 | 0 => fun _ _ _ r h => by simp [spec_l01New.l0] at h
 | k + 1 => by
  have ih0 := spec_l01New.mono_l k
  ·
   intro y0 y1 y2
   unfold spec_l01New.l0
   repeat' first
   | (with_reducible exact ih0 _ _ _)
   | (with_reducible exact LeO.refl _)
   | (with_reducible exact LeO.none _)
   | (with_reducible refine LeO.ite ?_ ?_)
   | (with_reducible refine LeO.bind ?_ (fun _ => ?_))
   | exact ih0 _ _ _
   | exact LeO.none _
   | refine LeO.ite ?_ ?_
   | refine LeO.bind ?_ (fun _ => ?_)
theorem spec_l01New.mono : ∀ a0 k,LeO (spec_l01New.f k a0) (spec_l01New.f (k + 1) a0) := by
 intro a0 k
 have ih0 := spec_l01New.mono_l k
 unfold spec_l01New.f
 repeat' first
   | (with_reducible exact ih0 _ _ _)
   | (with_reducible exact LeO.refl _)
   | (with_reducible exact LeO.none _)
   | (with_reducible refine LeO.ite ?_ ?_)
   | (with_reducible refine LeO.bind ?_ (fun _ => ?_))
   | exact ih0 _ _ _
   | exact LeO.none _
   | refine LeO.ite ?_ ?_
   | refine LeO.bind ?_ (fun _ => ?_)
set_option maxHeartbeats 8000000 in
set_option maxRecDepth 100000 in
theorem spec_l01New.calls (k : Nat) (A0 : Option Addr) (c0 : Nat) (l0 : List Int) (r1 : List Int) (r2 : Int) (r3 : Int) (w0 w : World) (hB : Below w0.heap.size w0 w) (hr0 : Kd.C (Kd.int .u8) w0 A0 l0.length l0) (hc0 : l0.length ≤ c0) (h : spec_l01New.f k l0 = some (r1,r2,r3)) :
  Calls Try.prog 77 #[.slice A0 l0.length c0] w fun e w' => ∃ g_ : Nat,e = .returned (.pointer (some ⟨g_,0,none⟩)) ∧ IsS102 w0 w' g_ r1 r2 r3 ∧ Below w0.heap.size w0 w' ∧ Below w.heap.size w w' := by
 have hu102 := Try.underlying102
 have HR0 := Aside0.mk hr0
 have HC0 := Aside0.mk hc0
 clear hr0 hc0
 have HBW := Aside0.mk (Below.refl w.heap.size w)
 have HW0 := Aside0.mk hB.size
 have HB := Aside0.mk hB
 clear hB
 have H : (spec_l01New.l0 k l0 (wrap64 (78801 + (l0.length : Int))) 0) = some (r1,r2,r3) := h
 clear h
 have H' := Aside0.mk H
 clear H
 go_enter Try.func77,Try.ntmps77
 go_wp2
 go_loopg [3,4] k (fun kq v3 v4 w' => ∃ (x3_1 : Int) (x4_1 : Int),v3 = .int .i64 x3_1 ∧ v4 = .int .i64 x4_1 ∧ Aside0 (spec_l01New.l0 kq l0 x3_1 x4_1 = some (r1,r2,r3)) ∧ Aside0 (kq ≤ k) ∧ Aside0 (Below w0.heap.size w0 w') ∧ Aside0 (Below w.heap.size w w'))
 case atStart => exact ⟨(wrap64 (78801 + (l0.length : Int))),(0),(by first | rfl | (simp; done) | (simp [*]; done)),(by first | rfl | (simp; done) | (simp [*]; done)),H',⟨Nat.le_refl _⟩,⟨by repeat (first | (with_reducible first | exact HB.out | apply below_alloc | apply pw_below_drewN | apply below_drew1) | exact HB.out)⟩,⟨by repeat (first | (with_reducible first | exact HBW.out | apply below_alloc | apply pw_below_drewN | apply below_drew1) | exact HBW.out)⟩⟩
 case round =>
  clear H'
  clear HBW
  obtain ⟨x3_1,x4_1,rfl,rfl,HA,HK1,HB,HBW⟩ := hrel
  cases gk with
  | zero => exact absurd HA.out (by simp [spec_l01New.l0])
  | succ k1 =>
   have H := HA.out
   clear HA
   simp only [spec_l01New.l0] at H
   by_cases c2 : x4_1 < (l0.length : Int)
   ·
    rw [if_pos c2] at H
    have c2b0 : decide (x4_1 < (l0.length : Int)) = true := decide_eq_true c2
    clear c2
    by_cases c3 : x4_1 < 4000
    ·
     rw [if_pos c3] at H
     have c3b0 : decide (x4_1 < 4000) = true := decide_eq_true c3
     clear c3
     by_cases c4 : 0 ≤ x4_1
     ·
      rw [if_pos c4] at H
      have c4b0 : decide (0 ≤ x4_1) = true := decide_eq_true c4
      clear c4
      have H' := Aside0.mk H
      clear H
      have p182 : 0 ≤ (x4_1 : Int) := of_decide_eq_true (by first | (with_reducible assumption) | assumption)
      have q182 : x4_1 < (l0.length : Int) := of_decide_eq_true (by first | (with_reducible assumption) | assumption)
      obtain ⟨ad182,e182,hx182_0⟩ := Kd.at_int HR0.out x4_1 p182 q182
      cases e182
      replace hx182_0 := pw_cell_below HB.out hx182_0
      replace p182 := eq_true p182
      replace q182 := eq_true q182
      go_wp2
      go_roundg k1
      case measure => have := HK1.out; omega
      case rel => exact ⟨(Go.bits .and .i64 (wrap64 ((wrap64 ((wrap64 (x3_1 * 131)) + (wrap64 (rd l0 x4_1)))) + 7)) 1073741823),(wrap64 (x4_1 + 1)),(by first | rfl | (simp; done) | (simp [*]; done)),(by first | rfl | (simp; done) | (simp [*]; done)),H',⟨by have := HK1.out; omega⟩,⟨by repeat (first | (with_reducible first | exact HB.out | apply below_alloc | apply pw_below_drewN | apply below_drew1) | exact HB.out)⟩,⟨by repeat (first | (with_reducible first | exact HBW.out | apply below_alloc | apply pw_below_drewN | apply below_drew1) | exact HBW.out)⟩⟩
     ·
      rw [if_neg c4] at H
      exact absurd H (by simp)
    ·
     rw [if_neg c3] at H
     have c3b0 : decide (x4_1 < 4000) = false := decide_eq_false c3
     clear c3
     simp only [Option.some.injEq,Prod.mk.injEq] at H
     obtain ⟨rfl,rfl,rfl⟩ := H
     go_wp2_with (first | ((with_reducible refine gate_dst (N := 31) rfl ?_); refine box_event ?hg (N := 31) ?hd (cs := #[.slice A0 l0.length c0,.int .i64 0,.int .i64 x3_1]) (t := 102) ?hr ?_; (case hd => rfl); (case hg => rfl); (case hr => first | (go_simp; done) | (go_simp; rfl)); intro gb183 hg w5 hbox hb; have n0_ := Aside0.mk (below_step HBW.out hb); have n1_ := Aside0.mk (below_step (by repeat (first | (with_reducible first | exact HB.out | apply below_alloc | apply pw_below_drewN | apply below_drew1) | exact HB.out)) hb); have n2_ := Aside0.mk (hbox); have n3_ := Aside0.mk ((by rw [hg]; exact (below_size (by repeat (first | (with_reducible first | exact HBW.out | apply below_alloc | apply pw_below_drewN | apply below_drew1) | exact HBW.out))) : w.heap.size ≤ gb183)); have n4_ := Aside0.mk ((Nat.le_trans HW0.out (by rw [hg]; exact (below_size (by repeat (first | (with_reducible first | exact HBW.out | apply below_alloc | apply pw_below_drewN | apply below_drew1) | exact HBW.out))) : w.heap.size ≤ gb183) : w0.heap.size ≤ gb183)); clear HBW; clear HB; have HBW := n0_; have HB := n1_; have BK183 := n2_; have GW183 := n3_; have GE183 := n4_; clear n0_ n1_ n2_ n3_ n4_; clear hb hbox hg))
     go_ret
     exact ⟨_,rfl,(show IsS102 w0 _ gb183 l0 0 x3_1 from ⟨_,_,by (with_reducible repeat (first | refine blk_drewN ?_ _ | refine blk_drew ?_ | refine blk_alloc ?_ _)); exact BK183.out,GE183.out,HR0.out⟩),by repeat (first | (with_reducible first | exact HB.out | apply below_alloc | apply pw_below_drewN | apply below_drew1 | refine below_set ?_ GE183.out) | exact HB.out),by repeat (first | (with_reducible first | exact HBW.out | apply below_alloc | apply pw_below_drewN | apply below_drew1 | refine below_set ?_ GW183.out) | exact HBW.out)⟩
   ·
    rw [if_neg c2] at H
    have c2b0 : decide (x4_1 < (l0.length : Int)) = false := decide_eq_false c2
    clear c2
    simp only [Option.some.injEq,Prod.mk.injEq] at H
    obtain ⟨rfl,rfl,rfl⟩ := H
    go_wp2_with (first | ((with_reducible refine gate_dst (N := 31) rfl ?_); refine box_event ?hg (N := 31) ?hd (cs := #[.slice A0 l0.length c0,.int .i64 0,.int .i64 x3_1]) (t := 102) ?hr ?_; (case hd => rfl); (case hg => rfl); (case hr => first | (go_simp; done) | (go_simp; rfl)); intro gb184 hg w6 hbox hb; have n0_ := Aside0.mk (below_step HBW.out hb); have n1_ := Aside0.mk (below_step (by repeat (first | (with_reducible first | exact HB.out | apply below_alloc | apply pw_below_drewN | apply below_drew1) | exact HB.out)) hb); have n2_ := Aside0.mk (hbox); have n3_ := Aside0.mk ((by rw [hg]; exact (below_size (by repeat (first | (with_reducible first | exact HBW.out | apply below_alloc | apply pw_below_drewN | apply below_drew1) | exact HBW.out))) : w.heap.size ≤ gb184)); have n4_ := Aside0.mk ((Nat.le_trans HW0.out (by rw [hg]; exact (below_size (by repeat (first | (with_reducible first | exact HBW.out | apply below_alloc | apply pw_below_drewN | apply below_drew1) | exact HBW.out))) : w.heap.size ≤ gb184) : w0.heap.size ≤ gb184)); clear HBW; clear HB; have HBW := n0_; have HB := n1_; have BK184 := n2_; have GW184 := n3_; have GE184 := n4_; clear n0_ n1_ n2_ n3_ n4_; clear hb hbox hg))
    go_ret
    exact ⟨_,rfl,(show IsS102 w0 _ gb184 l0 0 x3_1 from ⟨_,_,by (with_reducible repeat (first | refine blk_drewN ?_ _ | refine blk_drew ?_ | refine blk_alloc ?_ _)); exact BK184.out,GE184.out,HR0.out⟩),by repeat (first | (with_reducible first | exact HB.out | apply below_alloc | apply pw_below_drewN | apply below_drew1 | refine below_set ?_ GE184.out) | exact HB.out),by repeat (first | (with_reducible first | exact HBW.out | apply below_alloc | apply pw_below_drewN | apply below_drew1 | refine below_set ?_ GW184.out) | exact HBW.out)⟩

/-! ### spec_ResultOf: function 63 -/
def spec_ResultOf.f (a0 : Int) (a1 : Int) : Option (Int) := (spec_l01In.f a0 0 5).bind fun t185 => (if t185 = true then ((spec_l01In.f a1 0 65535).bind fun t186 => (if t186 = true then (some (wrap64 ((wrap64 (65536 * a0)) + a1))) else (some 0))) else (some 0))
set_option maxHeartbeats 8000000 in
set_option maxRecDepth 100000 in
theorem spec_ResultOf.calls (a0 : Int) (a1 : Int) (r : Int) (w : World) (h : spec_ResultOf.f a0 a1 = some r) :
  Calls Try.prog 63 #[.int .i64 a0,.int .i64 a1] w fun e w' => e = .returned (.int .i64 r) ∧ Drawn0 w w' := by
 have H : ((spec_l01In.f a0 0 5).bind fun t185 => (if t185 = true then ((spec_l01In.f a1 0 65535).bind fun t186 => (if t186 = true then (some (wrap64 ((wrap64 (65536 * a0)) + a1))) else (some 0))) else (some 0))) = some r := h
 clear h
 replace H := Option.bind_eq_some_iff.mp H
 obtain ⟨t185,A30,H⟩ := H
 replace H : (if t185 = true then ((spec_l01In.f a1 0 65535).bind fun t186 => (if t186 = true then (some (wrap64 ((wrap64 (65536 * a0)) + a1))) else (some 0))) else (some 0)) = some r := H
 have A3 := Aside0.mk A30
 clear A30
 by_cases c4 : t185 = true
 ·
  subst c4
  have H1 : ((spec_l01In.f a1 0 65535).bind fun t186 => (if t186 = true then (some (wrap64 ((wrap64 (65536 * a0)) + a1))) else (some 0))) = some r := by rw [if_pos rfl] at H; exact H
  clear H
  have H := H1
  clear H1
  replace H := Option.bind_eq_some_iff.mp H
  obtain ⟨t186,A50,H⟩ := H
  replace H : (if t186 = true then (some (wrap64 ((wrap64 (65536 * a0)) + a1))) else (some 0)) = some r := H
  have A5 := Aside0.mk A50
  clear A50
  by_cases c6 : t186 = true
  ·
   subst c6
   have H1 : (some (wrap64 ((wrap64 (65536 * a0)) + a1))) = some r := by rw [if_pos rfl] at H; exact H
   clear H
   have H := H1
   clear H1
   obtain rfl := Option.some.inj H
   go_enter Try.func63,Try.ntmps63
   go_wp2_with (first | ((with_reducible refine gate_callee (f := 67) rfl ?_); refine goesL_ (some 6) rfl rfl Try.func67 (by kernel_rfl) rfl #[.int .i64 a0,.int .i64 0,.int .i64 5] rfl (by (try simp only [List.map_toArray,List.map_cons,List.map_nil]); first | done | rfl | (simp only [List.length_drop,List.length_take]; rfl)) ?_; (with_reducible refine (spec_l01In.calls a0 0 5 true _ A3.out).mono ?_); rintro e w' ⟨rfl,⟨nd,rfl⟩⟩; refine ⟨_,rfl,?_⟩) | (go_at_call 67; (with_reducible refine (spec_l01In.calls a1 0 65535 true _ A5.out).mono ?_); rintro e w' ⟨rfl,⟨nd,rfl⟩⟩))
   go_ret
   exact ⟨by first | rfl | (simp; done) | (simp [*]; done),by repeat (first | exact Drawn0.refl _ | apply Drawn0.step)⟩
  ·
   replace c6 := Bool.eq_false_iff.mpr c6
   subst c6
   have H1 : (some 0) = some r := by rw [if_neg (show ¬ (false = true) by decide)] at H; exact H
   clear H
   have H := H1
   clear H1
   obtain rfl := Option.some.inj H
   go_enter Try.func63,Try.ntmps63
   go_wp2_with (first | ((with_reducible refine gate_callee (f := 67) rfl ?_); refine goesL_ (some 6) rfl rfl Try.func67 (by kernel_rfl) rfl #[.int .i64 a0,.int .i64 0,.int .i64 5] rfl (by (try simp only [List.map_toArray,List.map_cons,List.map_nil]); first | done | rfl | (simp only [List.length_drop,List.length_take]; rfl)) ?_; (with_reducible refine (spec_l01In.calls a0 0 5 true _ A3.out).mono ?_); rintro e w' ⟨rfl,⟨nd,rfl⟩⟩; refine ⟨_,rfl,?_⟩) | (go_at_call 67; (with_reducible refine (spec_l01In.calls a1 0 65535 false _ A5.out).mono ?_); rintro e w' ⟨rfl,⟨nd,rfl⟩⟩))
   go_ret
   exact ⟨by first | rfl | (simp; done) | (simp [*]; done),by repeat (first | exact Drawn0.refl _ | apply Drawn0.step)⟩
 ·
  replace c4 := Bool.eq_false_iff.mpr c4
  subst c4
  have H1 : (some 0) = some r := by rw [if_neg (show ¬ (false = true) by decide)] at H; exact H
  clear H
  have H := H1
  clear H1
  obtain rfl := Option.some.inj H
  go_enter Try.func63,Try.ntmps63
  go_wp2_with (first | ((with_reducible refine gate_callee (f := 67) rfl ?_); refine goesL_ (some 6) rfl rfl Try.func67 (by kernel_rfl) rfl #[.int .i64 a0,.int .i64 0,.int .i64 5] rfl (by (try simp only [List.map_toArray,List.map_cons,List.map_nil]); first | done | rfl | (simp only [List.length_drop,List.length_take]; rfl)) ?_; (with_reducible refine (spec_l01In.calls a0 0 5 false _ A3.out).mono ?_); rintro e w' ⟨rfl,⟨nd,rfl⟩⟩; refine ⟨_,rfl,?_⟩))
  go_ret
  exact ⟨by first | rfl | (simp; done) | (simp [*]; done),by repeat (first | exact Drawn0.refl _ | apply Drawn0.step)⟩

/-! ### spec_l01Byte: function 100 -/
def spec_l01Byte.f (s0_0 : List Int) (s0_1 : Int) (s0_2 : Int) : Option (Int × Int × Int) := if s0_1 < (s0_0.length : Int) then (if 0 ≤ s0_1 then (some (Go.bits .and .i64 (wrap64 ((Go.bits .and .i64 (Go.bits .xor .i64 ((wrap64 ((wrap64 (s0_2 * 6364136223846793005)) + 1442695040888963407)) / 8589934592) ((wrap64 ((wrap64 (s0_2 * 6364136223846793005)) + 1442695040888963407)) / 35184372088832)) 255) + (wrap64 (rd s0_0 s0_1)))) 255,wrap64 (s0_1 + 1),wrap64 ((wrap64 (s0_2 * 6364136223846793005)) + 1442695040888963407))) else (none)) else (some (Go.bits .and .i64 (Go.bits .xor .i64 ((wrap64 ((wrap64 (s0_2 * 6364136223846793005)) + 1442695040888963407)) / 8589934592) ((wrap64 ((wrap64 (s0_2 * 6364136223846793005)) + 1442695040888963407)) / 35184372088832)) 255,s0_1,wrap64 ((wrap64 (s0_2 * 6364136223846793005)) + 1442695040888963407)))
set_option maxHeartbeats 8000000 in
set_option maxRecDepth 100000 in
theorem spec_l01Byte.calls (g : Nat) (s0_0 : List Int) (s0_1 : Int) (s0_2 : Int) (r1 : Int) (r2 : Int) (r3 : Int) (w0 w : World) (hI : IsS102 w0 w g s0_0 s0_1 s0_2) (hB : Below w0.heap.size w0 w) (h : spec_l01Byte.f s0_0 s0_1 s0_2 = some (r1,r2,r3)) :
  Calls Try.prog 100 #[.pointer (some ⟨g,0,none⟩)] w fun e w' => e = .returned (.int .i64 r1) ∧ IsS102 w0 w' g s0_0 r2 r3 ∧ Below w0.heap.size w0 w' ∧ KeepBut w w' g none := by
 have HI0 := Aside0.mk hI
 have HK := Aside0.mk (KeepBut.refl w g none)
 have HL := Aside0.mk hB.size
 clear hI
 have HW0 := Aside0.mk hB.size
 have HB := Aside0.mk hB
 clear hB
 have H : (if s0_1 < (s0_0.length : Int) then (if 0 ≤ s0_1 then (some (Go.bits .and .i64 (wrap64 ((Go.bits .and .i64 (Go.bits .xor .i64 ((wrap64 ((wrap64 (s0_2 * 6364136223846793005)) + 1442695040888963407)) / 8589934592) ((wrap64 ((wrap64 (s0_2 * 6364136223846793005)) + 1442695040888963407)) / 35184372088832)) 255) + (wrap64 (rd s0_0 s0_1)))) 255,wrap64 (s0_1 + 1),wrap64 ((wrap64 (s0_2 * 6364136223846793005)) + 1442695040888963407))) else (none)) else (some (Go.bits .and .i64 (Go.bits .xor .i64 ((wrap64 ((wrap64 (s0_2 * 6364136223846793005)) + 1442695040888963407)) / 8589934592) ((wrap64 ((wrap64 (s0_2 * 6364136223846793005)) + 1442695040888963407)) / 35184372088832)) 255,s0_1,wrap64 ((wrap64 (s0_2 * 6364136223846793005)) + 1442695040888963407)))) = some (r1,r2,r3) := h
 clear h
 by_cases c2 : s0_1 < (s0_0.length : Int)
 ·
  rw [if_pos c2] at H
  have c2b0 : decide (s0_1 < (s0_0.length : Int)) = true := decide_eq_true c2
  clear c2
  by_cases c3 : 0 ≤ s0_1
  ·
   rw [if_pos c3] at H
   have c3b0 : decide (0 ≤ s0_1) = true := decide_eq_true c3
   clear c3
   simp only [Option.some.injEq,Prod.mk.injEq] at H
   obtain ⟨rfl,rfl,rfl⟩ := H
   obtain ⟨ASz4_0,cSz4_0,HGz4,hgz4,HSz4_0⟩ := HI0.out
   have hcz4_0 := cellS102_0 HGz4
   have hcz4_1 := cellS102_1 HGz4
   have hcz4_2 := cellS102_2 HGz4
   have hfz4_1 := blk_frozen HGz4 1
   have hfz4_2 := blk_frozen HGz4 2
   clear HGz4 hgz4
   have p187 : 0 ≤ (s0_1 : Int) := of_decide_eq_true (by first | (with_reducible assumption) | assumption)
   have q187 : s0_1 < (s0_0.length : Int) := of_decide_eq_true (by first | (with_reducible assumption) | assumption)
   obtain ⟨ad187,e187,hx187_0⟩ := Kd.at_int HSz4_0 s0_1 p187 q187
   cases e187
   have hn187_0 : ad187.block ≠ g := Nat.ne_of_lt (Nat.lt_of_lt_of_le (by have := World.block_lt_of_cell? _ _ hx187_0; first | rwa [add_block] at this | exact this) (IsS102.ge HI0.out))
   replace hx187_0 := pw_cell_below HB.out hx187_0
   replace hx187_0 := (cell_far (p := ⟨g,2,none⟩) (by first | (rw [add_block]; exact hn187_0) | (show (Addr.add _ _).block ≠ _; rw [add_block]; exact hn187_0) | exact hn187_0) (.int .i64 (wrap64 ((wrap64 (s0_2 * 6364136223846793005)) + 1442695040888963407)))).trans hx187_0
   (try have hy187_0 := fun (n_ : Nat) => (show (((w.drewN n_).setCell ⟨g,2,none⟩ (.int .i64 (wrap64 ((wrap64 (s0_2 * 6364136223846793005)) + 1442695040888963407))))).cell? _ = some _ from hx187_0))
   clear hn187_0
   replace p187 := eq_true p187
   replace q187 := eq_true q187
   go_enter Try.func100,Try.ntmps100
   go_wp2
   repeat (go_quiet (fail); try go_wp2)
   go_ret
   exact ⟨by first | rfl | (simp [errW_none,errW_some] <;> rfl) | (simp [*,errW_none,errW_some] <;> rfl),by repeat (first | (with_reducible first | exact HI0.out | apply IsS102.alloc | apply IsS102.drewN | apply IsS102.drew | apply IsS102.set_1 | apply IsS102.set_2) | exact HI0.out),by repeat (first | (with_reducible first | exact HB.out | apply below_alloc | apply pw_below_drewN | apply below_drew1 | refine below_set ?_ (IsS102.ge HI0.out)) | exact HB.out),by repeat (first | (with_reducible first | exact HK.out | apply KeepBut.set_ | apply keep_drewN | apply keep_drew | apply keep_alloc) | exact HK.out)⟩
  ·
   rw [if_neg c3] at H
   exact absurd H (by simp)
 ·
  rw [if_neg c2] at H
  have c2b0 : decide (s0_1 < (s0_0.length : Int)) = false := decide_eq_false c2
  clear c2
  simp only [Option.some.injEq,Prod.mk.injEq] at H
  obtain ⟨rfl,rfl,rfl⟩ := H
  obtain ⟨ASz5_0,cSz5_0,HGz5,hgz5,HSz5_0⟩ := HI0.out
  have hcz5_0 := cellS102_0 HGz5
  have hcz5_1 := cellS102_1 HGz5
  have hcz5_2 := cellS102_2 HGz5
  have hfz5_1 := blk_frozen HGz5 1
  have hfz5_2 := blk_frozen HGz5 2
  clear HGz5 hgz5
  go_enter Try.func100,Try.ntmps100
  go_wp2
  repeat (go_quiet (fail); try go_wp2)
  go_ret
  exact ⟨by first | rfl | (simp [errW_none,errW_some] <;> rfl) | (simp [*,errW_none,errW_some] <;> rfl),by repeat (first | (with_reducible first | exact HI0.out | apply IsS102.alloc | apply IsS102.drewN | apply IsS102.drew | apply IsS102.set_1 | apply IsS102.set_2) | exact HI0.out),by repeat (first | (with_reducible first | exact HB.out | apply below_alloc | apply pw_below_drewN | apply below_drew1 | refine below_set ?_ (IsS102.ge HI0.out)) | exact HB.out),by repeat (first | (with_reducible first | exact HK.out | apply KeepBut.set_ | apply keep_drewN | apply keep_drew | apply keep_alloc) | exact HK.out)⟩

/-! ### spec_l01Below: function 78 -/
def spec_l01Below.f (s0_0 : List Int) (s0_1 : Int) (s0_2 : Int) (a1 : Int) : Option (Int × Int × Int) := if a1 ≤ 0 then (some (0,s0_1,s0_2)) else (if a1 ≤ 256 then ((spec_l01Byte.f s0_0 s0_1 s0_2).bind fun bt188 => (if a1 = 0 then (none) else (some (Int.tmod bt188.1 a1,bt188.2.1,bt188.2.2)))) else ((spec_l01Byte.f s0_0 s0_1 s0_2).bind fun bt191 => ((spec_l01Byte.f s0_0 bt191.2.1 bt191.2.2).bind fun bt194 => ((spec_l01Byte.f s0_0 bt194.2.1 bt194.2.2).bind fun bt197 => ((spec_l01Byte.f s0_0 bt197.2.1 bt197.2.2).bind fun bt200 => (if a1 = 0 then (none) else (some (Int.tmod (wrap64 ((wrap64 ((wrap64 ((wrap64 (bt191.1 * 16777216)) + (wrap64 (bt194.1 * 65536)))) + (wrap64 (bt197.1 * 256)))) + bt200.1)) a1,bt200.2.1,bt200.2.2))))))))
set_option maxHeartbeats 8000000 in
set_option maxRecDepth 100000 in
theorem spec_l01Below.calls (g : Nat) (s0_0 : List Int) (s0_1 : Int) (s0_2 : Int) (a1 : Int) (r1 : Int) (r2 : Int) (r3 : Int) (w0 w : World) (hI : IsS102 w0 w g s0_0 s0_1 s0_2) (hB : Below w0.heap.size w0 w) (h : spec_l01Below.f s0_0 s0_1 s0_2 a1 = some (r1,r2,r3)) :
  Calls Try.prog 78 #[.pointer (some ⟨g,0,none⟩),.int .i64 a1] w fun e w' => e = .returned (.int .i64 r1) ∧ IsS102 w0 w' g s0_0 r2 r3 ∧ Below w0.heap.size w0 w' ∧ KeepBut w w' g none := by
 have HI0 := Aside0.mk hI
 have HK := Aside0.mk (KeepBut.refl w g none)
 have HL := Aside0.mk hB.size
 clear hI
 have HW0 := Aside0.mk hB.size
 have HB := Aside0.mk hB
 clear hB
 have H : (if a1 ≤ 0 then (some (0,s0_1,s0_2)) else (if a1 ≤ 256 then ((spec_l01Byte.f s0_0 s0_1 s0_2).bind fun bt188 => (if a1 = 0 then (none) else (some (Int.tmod bt188.1 a1,bt188.2.1,bt188.2.2)))) else ((spec_l01Byte.f s0_0 s0_1 s0_2).bind fun bt191 => ((spec_l01Byte.f s0_0 bt191.2.1 bt191.2.2).bind fun bt194 => ((spec_l01Byte.f s0_0 bt194.2.1 bt194.2.2).bind fun bt197 => ((spec_l01Byte.f s0_0 bt197.2.1 bt197.2.2).bind fun bt200 => (if a1 = 0 then (none) else (some (Int.tmod (wrap64 ((wrap64 ((wrap64 ((wrap64 (bt191.1 * 16777216)) + (wrap64 (bt194.1 * 65536)))) + (wrap64 (bt197.1 * 256)))) + bt200.1)) a1,bt200.2.1,bt200.2.2))))))))) = some (r1,r2,r3) := h
 clear h
 by_cases c3 : a1 ≤ 0
 ·
  rw [if_pos c3] at H
  have c3b0 : decide (a1 ≤ 0) = true := decide_eq_true c3
  clear c3
  simp only [Option.some.injEq,Prod.mk.injEq] at H
  obtain ⟨rfl,rfl,rfl⟩ := H
  go_enter Try.func78,Try.ntmps78
  go_wp2
  go_ret
  exact ⟨by first | rfl | (simp [errW_none,errW_some] <;> rfl) | (simp [*,errW_none,errW_some] <;> rfl),by repeat (first | (with_reducible first | exact HI0.out | apply IsS102.alloc | apply IsS102.drewN | apply IsS102.drew | apply IsS102.set_1 | apply IsS102.set_2) | exact HI0.out),by repeat (first | (with_reducible first | exact HB.out | apply below_alloc | apply pw_below_drewN | apply below_drew1 | refine below_set ?_ (IsS102.ge HI0.out)) | exact HB.out),by repeat (first | (with_reducible first | exact HK.out | apply KeepBut.set_ | apply keep_drewN | apply keep_drew | apply keep_alloc) | exact HK.out)⟩
 ·
  rw [if_neg c3] at H
  have c3b0 : decide (a1 ≤ 0) = false := decide_eq_false c3
  clear c3
  by_cases c4 : a1 ≤ 256
  ·
   rw [if_pos c4] at H
   have c4b0 : decide (a1 ≤ 256) = true := decide_eq_true c4
   clear c4
   replace H := Option.bind_eq_some_iff.mp H
   obtain ⟨⟨t188,t189,t190⟩,A50,H⟩ := H
   replace H : (if a1 = 0 then (none) else (some (Int.tmod t188 a1,t189,t190))) = some (r1,r2,r3) := H
   have A5 := Aside0.mk A50
   clear A50
   by_cases c6 : a1 = 0
   ·
    rw [if_pos c6] at H
    exact absurd H (by simp)
   ·
    rw [if_neg c6] at H
    have c6b0 : (a1 == 0) = false := beq_eq_false_iff_ne.mpr c6
    have c6b1 : (a1 != 0) = true := bne_iff_ne.mpr c6
    simp only [Option.some.injEq,Prod.mk.injEq] at H
    obtain ⟨rfl,rfl,rfl⟩ := H
    go_enter Try.func78,Try.ntmps78
    go_wp2_with (first | ((with_reducible refine gate_callee (f := 100) rfl ?_); refine goesL_ (some 14) rfl rfl Try.func100 (by kernel_rfl) rfl #[.pointer (some ⟨g,0,none⟩)] rfl (by (try simp only [List.map_toArray,List.map_cons,List.map_nil]); first | done | rfl | (simp only [List.length_drop,List.length_take]; rfl)) ?_; (with_reducible refine (spec_l01Byte.calls g s0_0 s0_1 s0_2 t188 t189 t190 w0 _ ?side1 ?side2 A5.out).mono ?_); (case side1 => repeat (first | (with_reducible first | exact HI0.out | apply IsS102.alloc | apply IsS102.drewN | apply IsS102.drew | apply IsS102.set_1 | apply IsS102.set_2) | exact HI0.out)); (case side2 => repeat (first | (with_reducible first | exact HB.out | apply below_alloc | apply pw_below_drewN | apply below_drew1 | refine below_set ?_ (IsS102.ge HI0.out)) | exact HB.out)); rintro e w7 ⟨rfl,hi,hb,hk⟩; refine ⟨_,rfl,?_⟩; have n0_ := Aside0.mk (KeepBut.trans (by repeat (first | (with_reducible first | exact HK.out | apply KeepBut.set_ | apply keep_drewN | apply keep_drew | apply keep_alloc) | exact HK.out)) hk (.inl rfl)); have n1_ := Aside0.mk (hb); have n2_ := Aside0.mk (hi); clear HK; clear HB; clear HI0; have HK := n0_; have HB := n1_; have HI0 := n2_; clear n0_ n1_ n2_; (try clear hb); (try clear hb2); (try clear hk); (try clear hi)))
    go_ret
    exact ⟨by first | rfl | (simp [errW_none,errW_some] <;> rfl) | (simp [*,errW_none,errW_some] <;> rfl),by repeat (first | (with_reducible first | exact HI0.out | apply IsS102.alloc | apply IsS102.drewN | apply IsS102.drew | apply IsS102.set_1 | apply IsS102.set_2) | exact HI0.out),by repeat (first | (with_reducible first | exact HB.out | apply below_alloc | apply pw_below_drewN | apply below_drew1 | refine below_set ?_ (IsS102.ge HI0.out)) | exact HB.out),by repeat (first | (with_reducible first | exact HK.out | apply KeepBut.set_ | apply keep_drewN | apply keep_drew | apply keep_alloc) | exact HK.out)⟩
  ·
   rw [if_neg c4] at H
   have c4b0 : decide (a1 ≤ 256) = false := decide_eq_false c4
   clear c4
   replace H := Option.bind_eq_some_iff.mp H
   obtain ⟨⟨t191,t192,t193⟩,A80,H⟩ := H
   replace H : ((spec_l01Byte.f s0_0 t192 t193).bind fun bt194 => ((spec_l01Byte.f s0_0 bt194.2.1 bt194.2.2).bind fun bt197 => ((spec_l01Byte.f s0_0 bt197.2.1 bt197.2.2).bind fun bt200 => (if a1 = 0 then (none) else (some (Int.tmod (wrap64 ((wrap64 ((wrap64 ((wrap64 (t191 * 16777216)) + (wrap64 (bt194.1 * 65536)))) + (wrap64 (bt197.1 * 256)))) + bt200.1)) a1,bt200.2.1,bt200.2.2)))))) = some (r1,r2,r3) := H
   have A8 := Aside0.mk A80
   clear A80
   replace H := Option.bind_eq_some_iff.mp H
   obtain ⟨⟨t194,t195,t196⟩,A90,H⟩ := H
   replace H : ((spec_l01Byte.f s0_0 t195 t196).bind fun bt197 => ((spec_l01Byte.f s0_0 bt197.2.1 bt197.2.2).bind fun bt200 => (if a1 = 0 then (none) else (some (Int.tmod (wrap64 ((wrap64 ((wrap64 ((wrap64 (t191 * 16777216)) + (wrap64 (t194 * 65536)))) + (wrap64 (bt197.1 * 256)))) + bt200.1)) a1,bt200.2.1,bt200.2.2))))) = some (r1,r2,r3) := H
   have A9 := Aside0.mk A90
   clear A90
   replace H := Option.bind_eq_some_iff.mp H
   obtain ⟨⟨t197,t198,t199⟩,A100,H⟩ := H
   replace H : ((spec_l01Byte.f s0_0 t198 t199).bind fun bt200 => (if a1 = 0 then (none) else (some (Int.tmod (wrap64 ((wrap64 ((wrap64 ((wrap64 (t191 * 16777216)) + (wrap64 (t194 * 65536)))) + (wrap64 (t197 * 256)))) + bt200.1)) a1,bt200.2.1,bt200.2.2)))) = some (r1,r2,r3) := H
   have A10 := Aside0.mk A100
   clear A100
   replace H := Option.bind_eq_some_iff.mp H
   obtain ⟨⟨t200,t201,t202⟩,A110,H⟩ := H
   replace H : (if a1 = 0 then (none) else (some (Int.tmod (wrap64 ((wrap64 ((wrap64 ((wrap64 (t191 * 16777216)) + (wrap64 (t194 * 65536)))) + (wrap64 (t197 * 256)))) + t200)) a1,t201,t202))) = some (r1,r2,r3) := H
   have A11 := Aside0.mk A110
   clear A110
   by_cases c12 : a1 = 0
   ·
    rw [if_pos c12] at H
    exact absurd H (by simp)
   ·
    rw [if_neg c12] at H
    have c12b0 : (a1 == 0) = false := beq_eq_false_iff_ne.mpr c12
    have c12b1 : (a1 != 0) = true := bne_iff_ne.mpr c12
    simp only [Option.some.injEq,Prod.mk.injEq] at H
    obtain ⟨rfl,rfl,rfl⟩ := H
    go_enter Try.func78,Try.ntmps78
    go_wp2_with (first | ((with_reducible refine gate_callee (f := 100) rfl ?_); refine goesL_ (some 18) rfl rfl Try.func100 (by kernel_rfl) rfl #[.pointer (some ⟨g,0,none⟩)] rfl (by (try simp only [List.map_toArray,List.map_cons,List.map_nil]); first | done | rfl | (simp only [List.length_drop,List.length_take]; rfl)) ?_; (with_reducible refine (spec_l01Byte.calls g s0_0 s0_1 s0_2 t191 t192 t193 w0 _ ?side1 ?side2 A8.out).mono ?_); (case side1 => repeat (first | (with_reducible first | exact HI0.out | apply IsS102.alloc | apply IsS102.drewN | apply IsS102.drew | apply IsS102.set_1 | apply IsS102.set_2) | exact HI0.out)); (case side2 => repeat (first | (with_reducible first | exact HB.out | apply below_alloc | apply pw_below_drewN | apply below_drew1 | refine below_set ?_ (IsS102.ge HI0.out)) | exact HB.out)); rintro e w13 ⟨rfl,hi,hb,hk⟩; refine ⟨_,rfl,?_⟩; have n0_ := Aside0.mk (KeepBut.trans (by repeat (first | (with_reducible first | exact HK.out | apply KeepBut.set_ | apply keep_drewN | apply keep_drew | apply keep_alloc) | exact HK.out)) hk (.inl rfl)); have n1_ := Aside0.mk (hb); have n2_ := Aside0.mk (hi); clear HK; clear HB; clear HI0; have HK := n0_; have HB := n1_; have HI0 := n2_; clear n0_ n1_ n2_; (try clear hb); (try clear hb2); (try clear hk); (try clear hi)) | ((with_reducible refine gate_callee (f := 100) rfl ?_); refine goesL_ (some 20) rfl rfl Try.func100 (by kernel_rfl) rfl #[.pointer (some ⟨g,0,none⟩)] rfl (by (try simp only [List.map_toArray,List.map_cons,List.map_nil]); first | done | rfl | (simp only [List.length_drop,List.length_take]; rfl)) ?_; (with_reducible refine (spec_l01Byte.calls g s0_0 t192 t193 t194 t195 t196 w0 _ ?side1 ?side2 A9.out).mono ?_); (case side1 => repeat (first | (with_reducible first | exact HI0.out | apply IsS102.alloc | apply IsS102.drewN | apply IsS102.drew | apply IsS102.set_1 | apply IsS102.set_2) | exact HI0.out)); (case side2 => repeat (first | (with_reducible first | exact HB.out | apply below_alloc | apply pw_below_drewN | apply below_drew1 | refine below_set ?_ (IsS102.ge HI0.out)) | exact HB.out)); rintro e w14 ⟨rfl,hi,hb,hk⟩; refine ⟨_,rfl,?_⟩; have n0_ := Aside0.mk (KeepBut.trans (by repeat (first | (with_reducible first | exact HK.out | apply KeepBut.set_ | apply keep_drewN | apply keep_drew | apply keep_alloc) | exact HK.out)) hk (.inl rfl)); have n1_ := Aside0.mk (hb); have n2_ := Aside0.mk (hi); clear HK; clear HB; clear HI0; have HK := n0_; have HB := n1_; have HI0 := n2_; clear n0_ n1_ n2_; (try clear hb); (try clear hb2); (try clear hk); (try clear hi)) | ((with_reducible refine gate_callee (f := 100) rfl ?_); refine goesL_ (some 22) rfl rfl Try.func100 (by kernel_rfl) rfl #[.pointer (some ⟨g,0,none⟩)] rfl (by (try simp only [List.map_toArray,List.map_cons,List.map_nil]); first | done | rfl | (simp only [List.length_drop,List.length_take]; rfl)) ?_; (with_reducible refine (spec_l01Byte.calls g s0_0 t195 t196 t197 t198 t199 w0 _ ?side1 ?side2 A10.out).mono ?_); (case side1 => repeat (first | (with_reducible first | exact HI0.out | apply IsS102.alloc | apply IsS102.drewN | apply IsS102.drew | apply IsS102.set_1 | apply IsS102.set_2) | exact HI0.out)); (case side2 => repeat (first | (with_reducible first | exact HB.out | apply below_alloc | apply pw_below_drewN | apply below_drew1 | refine below_set ?_ (IsS102.ge HI0.out)) | exact HB.out)); rintro e w15 ⟨rfl,hi,hb,hk⟩; refine ⟨_,rfl,?_⟩; have n0_ := Aside0.mk (KeepBut.trans (by repeat (first | (with_reducible first | exact HK.out | apply KeepBut.set_ | apply keep_drewN | apply keep_drew | apply keep_alloc) | exact HK.out)) hk (.inl rfl)); have n1_ := Aside0.mk (hb); have n2_ := Aside0.mk (hi); clear HK; clear HB; clear HI0; have HK := n0_; have HB := n1_; have HI0 := n2_; clear n0_ n1_ n2_; (try clear hb); (try clear hb2); (try clear hk); (try clear hi)) | ((with_reducible refine gate_callee (f := 100) rfl ?_); refine goesL_ (some 24) rfl rfl Try.func100 (by kernel_rfl) rfl #[.pointer (some ⟨g,0,none⟩)] rfl (by (try simp only [List.map_toArray,List.map_cons,List.map_nil]); first | done | rfl | (simp only [List.length_drop,List.length_take]; rfl)) ?_; (with_reducible refine (spec_l01Byte.calls g s0_0 t198 t199 t200 t201 t202 w0 _ ?side1 ?side2 A11.out).mono ?_); (case side1 => repeat (first | (with_reducible first | exact HI0.out | apply IsS102.alloc | apply IsS102.drewN | apply IsS102.drew | apply IsS102.set_1 | apply IsS102.set_2) | exact HI0.out)); (case side2 => repeat (first | (with_reducible first | exact HB.out | apply below_alloc | apply pw_below_drewN | apply below_drew1 | refine below_set ?_ (IsS102.ge HI0.out)) | exact HB.out)); rintro e w16 ⟨rfl,hi,hb,hk⟩; refine ⟨_,rfl,?_⟩; have n0_ := Aside0.mk (KeepBut.trans (by repeat (first | (with_reducible first | exact HK.out | apply KeepBut.set_ | apply keep_drewN | apply keep_drew | apply keep_alloc) | exact HK.out)) hk (.inl rfl)); have n1_ := Aside0.mk (hb); have n2_ := Aside0.mk (hi); clear HK; clear HB; clear HI0; have HK := n0_; have HB := n1_; have HI0 := n2_; clear n0_ n1_ n2_; (try clear hb); (try clear hb2); (try clear hk); (try clear hi)))
    go_ret
    exact ⟨by first | rfl | (simp [errW_none,errW_some] <;> rfl) | (simp [*,errW_none,errW_some] <;> rfl),by repeat (first | (with_reducible first | exact HI0.out | apply IsS102.alloc | apply IsS102.drewN | apply IsS102.drew | apply IsS102.set_1 | apply IsS102.set_2) | exact HI0.out),by repeat (first | (with_reducible first | exact HB.out | apply below_alloc | apply pw_below_drewN | apply below_drew1 | refine below_set ?_ (IsS102.ge HI0.out)) | exact HB.out),by repeat (first | (with_reducible first | exact HK.out | apply KeepBut.set_ | apply keep_drewN | apply keep_drew | apply keep_alloc) | exact HK.out)⟩

/-! ### spec_l01PickInt: function 97 -/
def spec_l01PickInt.f (s0_0 : List Int) (s0_1 : Int) (s0_2 : Int) (l1 : List Int) : Option (Int × Int × Int) := (spec_l01Below.f s0_0 s0_1 s0_2 (l1.length : Int)).bind fun bt203 => (if 0 ≤ bt203.1 then (if bt203.1 < (l1.length : Int) then (some (rd l1 bt203.1,bt203.2.1,bt203.2.2)) else (none)) else (none))
set_option maxHeartbeats 8000000 in
set_option maxRecDepth 100000 in
theorem spec_l01PickInt.calls (g : Nat) (s0_0 : List Int) (s0_1 : Int) (s0_2 : Int) (A1 : Option Addr) (c1 : Nat) (l1 : List Int) (r1 : Int) (r2 : Int) (r3 : Int) (w0 w : World) (hI : IsS102 w0 w g s0_0 s0_1 s0_2) (hB : Below w0.heap.size w0 w) (hr1 : Kd.C (Kd.int .i64) w A1 l1.length l1) (hc1 : l1.length ≤ c1) (hf1 : ∀ ad,A1 = some ad → 0 < l1.length → ad.block ≠ g) (h : spec_l01PickInt.f s0_0 s0_1 s0_2 l1 = some (r1,r2,r3)) :
  Calls Try.prog 97 #[.pointer (some ⟨g,0,none⟩),.slice A1 l1.length c1] w fun e w' => e = .returned (.int .i64 r1) ∧ IsS102 w0 w' g s0_0 r2 r3 ∧ Below w0.heap.size w0 w' ∧ KeepBut w w' g none := by
 have HR1 := Aside0.mk hr1
 have HC1 := Aside0.mk hc1
 clear hr1 hc1
 have HI0 := Aside0.mk hI
 have HK := Aside0.mk (KeepBut.refl w g none)
 have HL := Aside0.mk hB.size
 clear hI
 have HW0 := Aside0.mk hB.size
 have HB := Aside0.mk hB
 clear hB
 have H : ((spec_l01Below.f s0_0 s0_1 s0_2 (l1.length : Int)).bind fun bt203 => (if 0 ≤ bt203.1 then (if bt203.1 < (l1.length : Int) then (some (rd l1 bt203.1,bt203.2.1,bt203.2.2)) else (none)) else (none))) = some (r1,r2,r3) := h
 clear h
 replace H := Option.bind_eq_some_iff.mp H
 obtain ⟨⟨t203,t204,t205⟩,A30,H⟩ := H
 replace H : (if 0 ≤ t203 then (if t203 < (l1.length : Int) then (some (rd l1 t203,t204,t205)) else (none)) else (none)) = some (r1,r2,r3) := H
 have A3 := Aside0.mk A30
 clear A30
 by_cases c4 : 0 ≤ t203
 ·
  rw [if_pos c4] at H
  have c4b0 : decide (0 ≤ t203) = true := decide_eq_true c4
  clear c4
  by_cases c5 : t203 < (l1.length : Int)
  ·
   rw [if_pos c5] at H
   have c5b0 : decide (t203 < (l1.length : Int)) = true := decide_eq_true c5
   clear c5
   simp only [Option.some.injEq,Prod.mk.injEq] at H
   obtain ⟨rfl,rfl,rfl⟩ := H
   go_enter Try.func97,Try.ntmps97
   go_wp2_with (first | ((with_reducible refine gate_callee (f := 78) rfl ?_); refine goesL_ (some 9) rfl rfl Try.func78 (by kernel_rfl) rfl #[.pointer (some ⟨g,0,none⟩),.int .i64 (l1.length : Int)] rfl (by (try simp only [List.map_toArray,List.map_cons,List.map_nil]); first | done | rfl | (simp only [List.length_drop,List.length_take]; rfl)) ?_; (with_reducible refine (spec_l01Below.calls g s0_0 s0_1 s0_2 (l1.length : Int) t203 t204 t205 w0 _ ?side1 ?side2 A3.out).mono ?_); (case side1 => repeat (first | (with_reducible first | exact HI0.out | apply IsS102.alloc | apply IsS102.drewN | apply IsS102.drew | apply IsS102.set_1 | apply IsS102.set_2) | exact HI0.out)); (case side2 => repeat (first | (with_reducible first | exact HB.out | apply below_alloc | apply pw_below_drewN | apply below_drew1 | refine below_set ?_ (IsS102.ge HI0.out)) | exact HB.out)); rintro e w6 ⟨rfl,hi,hb,hk⟩; refine ⟨_,rfl,?_⟩; have n0_ := Aside0.mk (KeepBut.trans (by repeat (first | (with_reducible first | exact HK.out | apply KeepBut.set_ | apply keep_drewN | apply keep_drew | apply keep_alloc) | exact HK.out)) hk (.inl rfl)); have n1_ := Aside0.mk (hb); have n2_ := Aside0.mk (hi); clear HK; clear HB; clear HI0; have HK := n0_; have HB := n1_; have HI0 := n2_; clear n0_ n1_ n2_; (try clear hb); (try clear hb2); (try clear hk); (try clear hi); have p206 : 0 ≤ (t203 : Int) := of_decide_eq_true (by first | (with_reducible assumption) | assumption); have q206 : t203 < (l1.length : Int) := of_decide_eq_true (by first | (with_reducible assumption) | assumption); obtain ⟨ad206,e206,hx206_0⟩ := Kd.at_int HR1.out t203 p206 q206; cases e206; replace hx206_0 := keep_cell HK.out hx206_0 (by first | (rw [add_block]; exact hf1 _ rfl (by omega)) | exact hf1 _ rfl (by omega) | exact hf1 ad206 rfl (by omega)); replace p206 := eq_true p206; replace q206 := eq_true q206))
   go_ret
   exact ⟨by first | rfl | (simp [errW_none,errW_some] <;> rfl) | (simp [*,errW_none,errW_some] <;> rfl),by repeat (first | (with_reducible first | exact HI0.out | apply IsS102.alloc | apply IsS102.drewN | apply IsS102.drew | apply IsS102.set_1 | apply IsS102.set_2) | exact HI0.out),by repeat (first | (with_reducible first | exact HB.out | apply below_alloc | apply pw_below_drewN | apply below_drew1 | refine below_set ?_ (IsS102.ge HI0.out)) | exact HB.out),by repeat (first | (with_reducible first | exact HK.out | apply KeepBut.set_ | apply keep_drewN | apply keep_drew | apply keep_alloc) | exact HK.out)⟩
  ·
   rw [if_neg c5] at H
   exact absurd H (by simp)
 ·
  rw [if_neg c4] at H
  exact absurd H (by simp)

/-! ### spec_l04Half: function 107 -/
def spec_l04Half.f (s0_0 : List Int) (s0_1 : Int) (s0_2 : Int) : Option (Int × Int × Int) := (spec_l01Below.f s0_0 s0_1 s0_2 12).bind fun bt207 => ((spec_l01PickInt.f s0_0 bt207.2.1 bt207.2.2 (([0,1,2,3,5,7,255,4294967295,2147483648,bt207.1] : List Int))).bind fun bt213 => (some (bt213.1,bt213.2.1,bt213.2.2)))
set_option maxHeartbeats 8000000 in
set_option maxRecDepth 100000 in
theorem spec_l04Half.calls (g : Nat) (s0_0 : List Int) (s0_1 : Int) (s0_2 : Int) (r1 : Int) (r2 : Int) (r3 : Int) (w0 w : World) (hI : IsS102 w0 w g s0_0 s0_1 s0_2) (hB : Below w0.heap.size w0 w) (h : spec_l04Half.f s0_0 s0_1 s0_2 = some (r1,r2,r3)) :
  Calls Try.prog 107 #[.pointer (some ⟨g,0,none⟩)] w fun e w' => e = .returned (.int .i64 r1) ∧ IsS102 w0 w' g s0_0 r2 r3 ∧ Below w0.heap.size w0 w' ∧ KeepBut w w' g none := by
 have HI0 := Aside0.mk hI
 have HK := Aside0.mk (KeepBut.refl w g none)
 have HL := Aside0.mk hB.size
 clear hI
 have HW0 := Aside0.mk hB.size
 have HB := Aside0.mk hB
 clear hB
 have H : ((spec_l01Below.f s0_0 s0_1 s0_2 12).bind fun bt207 => ((spec_l01PickInt.f s0_0 bt207.2.1 bt207.2.2 (([0,1,2,3,5,7,255,4294967295,2147483648,bt207.1] : List Int))).bind fun bt213 => (some (bt213.1,bt213.2.1,bt213.2.2)))) = some (r1,r2,r3) := h
 clear h
 replace H := Option.bind_eq_some_iff.mp H
 obtain ⟨⟨t207,t208,t209⟩,A20,H⟩ := H
 replace H : ((spec_l01PickInt.f s0_0 t208 t209 (([0,1,2,3,5,7,255,4294967295,2147483648,t207] : List Int))).bind fun bt213 => (some (bt213.1,bt213.2.1,bt213.2.2))) = some (r1,r2,r3) := H
 have A2 := Aside0.mk A20
 clear A20
 obtain ⟨y210,hy210⟩ : ∃ y_ : List Int,y_ = (([0,1,2,3,5,7,255,4294967295,2147483648,t207] : List Int)) := ⟨_,rfl⟩
 replace H : ((spec_l01PickInt.f s0_0 t208 t209 y210).bind fun bt213 => (some (bt213.1,bt213.2.1,bt213.2.2))) = some (r1,r2,r3) := by first | (rw [hy210]; with_reducible exact H) | (have H2_ := (Option.bind_some _ _).symm.trans H; rw [hy210]; with_reducible exact H2_) | (have H2_ := (Option.bind_some _ _).symm.trans H; with_reducible exact H2_) | with_reducible exact H | (rw [hy210]; exact H) | exact H
 have Ny210 := Aside0.mk hy210
 clear hy210
 replace H := Option.bind_eq_some_iff.mp H
 obtain ⟨⟨t213,t214,t215⟩,A30,H⟩ := H
 replace H : (some (t213,t214,t215)) = some (r1,r2,r3) := H
 have A3 := Aside0.mk A30
 clear A30
 simp only [Option.some.injEq,Prod.mk.injEq] at H
 obtain ⟨rfl,rfl,rfl⟩ := H
 go_enter Try.func107,Try.ntmps107
 go_wp2_with (first | ((with_reducible refine gate_callee (f := 78) rfl ?_); refine goesL_ (some 5) rfl rfl Try.func78 (by kernel_rfl) rfl #[.pointer (some ⟨g,0,none⟩),.int .i64 12] rfl (by (try simp only [List.map_toArray,List.map_cons,List.map_nil]); first | done | rfl | (simp only [List.length_drop,List.length_take]; rfl)) ?_; (with_reducible refine (spec_l01Below.calls g s0_0 s0_1 s0_2 12 t207 t208 t209 w0 _ ?side1 ?side2 A2.out).mono ?_); (case side1 => repeat (first | (with_reducible first | exact HI0.out | apply IsS102.alloc | apply IsS102.drewN | apply IsS102.drew | apply IsS102.set_1 | apply IsS102.set_2) | exact HI0.out)); (case side2 => repeat (first | (with_reducible first | exact HB.out | apply below_alloc | apply pw_below_drewN | apply below_drew1 | refine below_set ?_ (IsS102.ge HI0.out)) | exact HB.out)); rintro e w4 ⟨rfl,hi,hb,hk⟩; refine ⟨_,rfl,?_⟩; have n0_ := Aside0.mk (KeepBut.trans (by repeat (first | (with_reducible first | exact HK.out | apply KeepBut.set_ | apply keep_drewN | apply keep_drew | apply keep_alloc) | exact HK.out)) hk (.inl rfl)); have n1_ := Aside0.mk (hb); have n2_ := Aside0.mk (hi); clear HK; clear HB; clear HI0; have HK := n0_; have HB := n1_; have HI0 := n2_; clear n0_ n1_ n2_; (try clear hb); (try clear hb2); (try clear hk); (try clear hi)) | ((with_reducible refine gate_dst (N := 6) rfl ?_); refine Kd.R_lit (Kd.int .i64) _ 3 ?hg (N := 6) ?hd (xs := ([0,1,2,3,5,7,255,4294967295,2147483648,t207] : List Int)) (inner := [.int .i64 0,.int .i64 1,.int .i64 2,.int .i64 3,.int .i64 5,.int .i64 7,.int .i64 255,.int .i64 4294967295,.int .i64 2147483648,.int .i64 t207]) (ok := fun _ => True) (okp := fun _ => True) ?hr ?hp (fun _ hk => hk) trivial (Below.refl _ _) (Nat.le_refl _) (by simp) ?_; (case hd => rfl); (case hg => rfl); (case hr => first | (go_simp; done) | (go_simp; rfl)); (case hp => exact (Reps.one (show Kd.M (Kd.int .i64) _ _ _ 0 [.int .i64 0] from rfl) (Reps.one (show Kd.M (Kd.int .i64) _ _ _ 1 [.int .i64 1] from rfl) (Reps.one (show Kd.M (Kd.int .i64) _ _ _ 2 [.int .i64 2] from rfl) (Reps.one (show Kd.M (Kd.int .i64) _ _ _ 3 [.int .i64 3] from rfl) (Reps.one (show Kd.M (Kd.int .i64) _ _ _ 5 [.int .i64 5] from rfl) (Reps.one (show Kd.M (Kd.int .i64) _ _ _ 7 [.int .i64 7] from rfl) (Reps.one (show Kd.M (Kd.int .i64) _ _ _ 255 [.int .i64 255] from rfl) (Reps.one (show Kd.M (Kd.int .i64) _ _ _ 4294967295 [.int .i64 4294967295] from rfl) (Reps.one (show Kd.M (Kd.int .i64) _ _ _ 2147483648 [.int .i64 2147483648] from rfl) (Reps.one (show Kd.M (Kd.int .i64) _ _ _ t207 [.int .i64 t207] from rfl) (Reps.none _ _)))))))))))); intro v211 w5 ho6 hb hg_ hnew_; clear hg_ hnew_; (first | rw [← Ny210.out] at ho6 | (simp only [Int.reduceToNat] at ho6; rw [← Ny210.out] at ho6)); have n0_ := Aside0.mk (Kd.R_lower ho6 (keep_size (w := w) (g := g) (row := none) (by repeat (first | (with_reducible first | exact HK.out | apply KeepBut.set_ | apply keep_drewN | apply keep_drew | apply keep_alloc) | exact HK.out)))); have n1_ := Aside0.mk (IsS102.below (by repeat (first | (with_reducible first | exact HI0.out | apply IsS102.alloc | apply IsS102.drewN | apply IsS102.drew | apply IsS102.set_1 | apply IsS102.set_2) | exact HI0.out)) hb); have n2_ := Aside0.mk (KeepBut.trans (by repeat (first | (with_reducible first | exact HK.out | apply KeepBut.set_ | apply keep_drewN | apply keep_drew | apply keep_alloc) | exact HK.out)) (KeepBut.of_below hb g none) (.inl rfl)); have n3_ := Aside0.mk (below_step (by repeat (first | (with_reducible first | exact HB.out | apply below_alloc | apply pw_below_drewN | apply below_drew1 | refine below_set ?_ (IsS102.ge HI0.out)) | exact HB.out)) hb); clear HI0; clear HK; clear HB; have HO212 := n0_; have HI0 := n1_; have HK := n2_; have HB := n3_; clear n0_ n1_ n2_ n3_; clear hb ho6; obtain ⟨Ao7,co7,eo7⟩ := Kd.R_slice HO212.out; subst eo7) | ((with_reducible refine gate_callee (f := 97) rfl ?_); refine goesL_ (some 7) rfl rfl Try.func97 (by kernel_rfl) rfl #[.pointer (some ⟨g,0,none⟩),.slice Ao7 y210.length co7] rfl (by (try simp only [List.map_toArray,List.map_cons,List.map_nil]); first | done | rfl | (simp only [List.length_drop,List.length_take]; rfl)) ?_; (with_reducible refine (spec_l01PickInt.calls g s0_0 t208 t209 _ _ y210 t213 t214 t215 w0 _ ?side1 ?side2 ?side3 ?side4 ?side5 A3.out).mono ?_); (case side1 => repeat (first | (with_reducible first | exact HI0.out | apply IsS102.alloc | apply IsS102.drewN | apply IsS102.drew | apply IsS102.set_1 | apply IsS102.set_2) | exact HI0.out)); (case side2 => repeat (first | (with_reducible first | exact HB.out | apply below_alloc | apply pw_below_drewN | apply below_drew1 | refine below_set ?_ (IsS102.ge HI0.out)) | exact HB.out)); (case side3 => repeat (first | exact (Kd.R_reads' HO212.out).2.2 | (with_reducible refine Kd.C_alloc ?_ _) | (with_reducible refine Kd.C_drewN ?_ _) | (with_reducible refine Kd.C_drew ?_))); (case side4 => exact (Kd.R_reads' HO212.out).2.1); (case side5 => exact far_slice (IsS102.own_ne HI0.out HO212.out (by decide))); rintro e w8 ⟨rfl,hi,hb,hk⟩; refine ⟨_,rfl,?_⟩; have n0_ := Aside0.mk (Kd.R_mono (Kd.R_keep (IsS102.apart (show IsS102 w0 _ g s0_0 t208 t209 from by repeat (first | (with_reducible first | exact HI0.out | apply IsS102.alloc | apply IsS102.drewN | apply IsS102.drew | apply IsS102.set_1 | apply IsS102.set_2) | exact HI0.out)) (by (with_reducible repeat (first | apply Kd.R_alloc | apply Kd.R_drewN | apply Kd.R_drew)); exact HO212.out) (by decide)) hk (fun _ h => h.2)) (fun _ h => h.1)); have n1_ := Aside0.mk (KeepBut.trans (by repeat (first | (with_reducible first | exact HK.out | apply KeepBut.set_ | apply keep_drewN | apply keep_drew | apply keep_alloc) | exact HK.out)) hk (.inl rfl)); have n2_ := Aside0.mk (hb); have n3_ := Aside0.mk (hi); clear HO212; clear HK; clear HB; clear HI0; have HO212 := n0_; have HK := n1_; have HB := n2_; have HI0 := n3_; clear n0_ n1_ n2_ n3_; (try clear hb); (try clear hb2); (try clear hk); (try clear hi)))
 go_ret
 exact ⟨by first | rfl | (simp [errW_none,errW_some] <;> rfl) | (simp [*,errW_none,errW_some] <;> rfl),by repeat (first | (with_reducible first | exact HI0.out | apply IsS102.alloc | apply IsS102.drewN | apply IsS102.drew | apply IsS102.set_1 | apply IsS102.set_2) | exact HI0.out),by repeat (first | (with_reducible first | exact HB.out | apply below_alloc | apply pw_below_drewN | apply below_drew1 | refine below_set ?_ (IsS102.ge HI0.out)) | exact HB.out),by repeat (first | (with_reducible first | exact HK.out | apply KeepBut.set_ | apply keep_drewN | apply keep_drew | apply keep_alloc) | exact HK.out)⟩

/-! ### spec_l06Ins: function 99 -/
def spec_l06Ins.j0 : Nat → Int → Bool → List Int → Int → Int → Int → Int → Int → Int → Option (Int × Int × Int × Int × Int × Int)
 | 0,_,_,_,_,_,_,_,_,_ => none
 | k + 1,x11,x22,x1000,x1001,x1002,x224000,x224001,x224002,x224003 => if x22 = true then ((spec_l01Below.f x1000 x1001 x1002 4).bind fun bt230 => ((spec_l01Below.f x1000 bt230.2.1 bt230.2.2 4).bind fun bt233 => (some (x224000,x224001,bt230.1,bt233.1,bt233.2.1,bt233.2.2)))) else (if x11 = 8 then ((spec_l01Below.f x1000 x1001 x1002 6).bind fun bt236 => ((spec_l01Below.f x1000 bt236.2.1 bt236.2.2 5).bind fun bt239 => ((spec_ResultOf.f bt236.1 bt239.1).bind fun t242 => (some (x224000,t242,x224002,x224003,bt239.2.1,bt239.2.2))))) else (some (x224000,x224001,x224002,x224003,x1001,x1002)))
def spec_l06Ins.f (k : Nat) (s0_0 : List Int) (s0_1 : Int) (s0_2 : Int) : Option (Int × Int × Int × Int × Int × Int) := (spec_l01Below.f s0_0 s0_1 s0_2 8).bind fun bt217 => ((spec_l04Half.f s0_0 bt217.2.1 bt217.2.2).bind fun bt220 => (if (wrap64 (1 + bt217.1)) = 1 then ((spec_l01Below.f s0_0 bt220.2.1 bt220.2.2 8).bind fun bt224 => (some (wrap64 (1 + bt217.1),bt224.1,0,0,bt224.2.1,bt224.2.2))) else (if (wrap64 (1 + bt217.1)) = 7 then ((spec_l01Below.f s0_0 bt220.2.1 bt220.2.2 4).bind fun bt227 => (some (wrap64 (1 + bt217.1),bt227.1,0,0,bt227.2.1,bt227.2.2))) else (if (wrap64 (1 + bt217.1)) = 3 then (spec_l06Ins.j0 k (wrap64 (1 + bt217.1)) ((wrap64 (1 + bt217.1)) == 3) s0_0 bt220.2.1 bt220.2.2 (wrap64 (1 + bt217.1)) bt220.1 0 0) else (if (wrap64 (1 + bt217.1)) = 4 then (spec_l06Ins.j0 k (wrap64 (1 + bt217.1)) ((wrap64 (1 + bt217.1)) == 4) s0_0 bt220.2.1 bt220.2.2 (wrap64 (1 + bt217.1)) bt220.1 0 0) else (if (wrap64 (1 + bt217.1)) = 5 then (spec_l06Ins.j0 k (wrap64 (1 + bt217.1)) ((wrap64 (1 + bt217.1)) == 5) s0_0 bt220.2.1 bt220.2.2 (wrap64 (1 + bt217.1)) bt220.1 0 0) else (spec_l06Ins.j0 k (wrap64 (1 + bt217.1)) ((wrap64 (1 + bt217.1)) == 6) s0_0 bt220.2.1 bt220.2.2 (wrap64 (1 + bt217.1)) bt220.1 0 0)))))))
theorem spec_l06Ins.mono_l : ∀ k,(∀ y0 y1 y2 y3 y4 y5 y6 y7 y8,LeO (spec_l06Ins.j0 k y0 y1 y2 y3 y4 y5 y6 y7 y8) (spec_l06Ins.j0 (k + 1) y0 y1 y2 y3 y4 y5 y6 y7 y8))
 | 0 => fun _ _ _ _ _ _ _ _ _ r h => by simp [spec_l06Ins.j0] at h
 | k + 1 => by
  have ih0 := spec_l06Ins.mono_l k
  ·
   intro y0 y1 y2 y3 y4 y5 y6 y7 y8
   unfold spec_l06Ins.j0
   repeat' first
   | (with_reducible exact ih0 _ _ _ _ _ _ _ _ _)
   | (with_reducible exact LeO.refl _)
   | (with_reducible exact LeO.none _)
   | (with_reducible refine LeO.ite ?_ ?_)
   | (with_reducible refine LeO.bind ?_ (fun _ => ?_))
   | exact ih0 _ _ _ _ _ _ _ _ _
   | exact LeO.none _
   | refine LeO.ite ?_ ?_
   | refine LeO.bind ?_ (fun _ => ?_)
theorem spec_l06Ins.mono : ∀ a0 a1 a2 k,LeO (spec_l06Ins.f k a0 a1 a2) (spec_l06Ins.f (k + 1) a0 a1 a2) := by
 intro a0 a1 a2 k
 have ih0 := spec_l06Ins.mono_l k
 unfold spec_l06Ins.f
 repeat' first
   | (with_reducible exact ih0 _ _ _ _ _ _ _ _ _)
   | (with_reducible exact LeO.refl _)
   | (with_reducible exact LeO.none _)
   | (with_reducible refine LeO.ite ?_ ?_)
   | (with_reducible refine LeO.bind ?_ (fun _ => ?_))
   | exact ih0 _ _ _ _ _ _ _ _ _
   | exact LeO.none _
   | refine LeO.ite ?_ ?_
   | refine LeO.bind ?_ (fun _ => ?_)
theorem quad {W : World} {g : Nat} {a b c d : Int} (h : W.heap[g]? = some (.cells #[.int .i64 a,.int .i64 b,.int .i64 c,.int .i64 d] 25 (0,0))) :
  W.cell? ⟨g,0,none⟩ = some (.int .i64 a) ∧ W.frozen? ⟨g,0,none⟩ = false ∧ W.cell? ⟨g,1,none⟩ = some (.int .i64 b) ∧ W.frozen? ⟨g,1,none⟩ = false ∧ W.cell? ⟨g,2,none⟩ = some (.int .i64 c) ∧ W.frozen? ⟨g,2,none⟩ = false ∧ W.cell? ⟨g,3,none⟩ = some (.int .i64 d) ∧ W.frozen? ⟨g,3,none⟩ = false :=
 ⟨(blk_cell h 0).trans rfl,blk_frozen h 0,(blk_cell h 1).trans rfl,blk_frozen h 1,(blk_cell h 2).trans rfl,blk_frozen h 2,(blk_cell h 3).trans rfl,blk_frozen h 3⟩
/-- Two boxes of four numbers,ga and gb,beside the reader's cell. -/
structure Two (w0 w W : World) (g ga gb : Nat) (s : List Int) (f1 f2 : Int) (c1 c2 : Array Value) : Prop where
 hi : IsS102 w0 W g s f1 f2
 hk : KeepBut w W g none
 hb : Below w0.heap.size w0 W
 b1 : W.heap[ga]? = some (.cells c1 25 (0,0))
 b2 : W.heap[gb]? = some (.cells c2 25 (0,0))
 w1 : w.heap.size ≤ ga
 w2 : w.heap.size ≤ gb
 hw : w0.heap.size ≤ w.heap.size
 n1 : g ≠ ga
 n2 : g ≠ gb
 n3 : ga ≠ gb
theorem Two.put1 {w0 w W : World} {g ga gb : Nat} {s : List Int} {f1 f2 : Int} {c1 c2 : Array Value} (h : Two w0 w W g ga gb s f1 f2 c1 c2) (i : Nat) (u : Value) : Two w0 w (W.setCell ⟨ga,i,none⟩ u) g ga gb s f1 f2 (c1.setIfInBounds i u) c2 :=
 ⟨IsS102.far h.hi h.n1 u,keep_far h.hk h.w1 u,below_set h.hb (Nat.le_trans h.hw h.w1),blk_set h.b1 i u,blk_far h.b2 (Ne.symm h.n3) u,h.w1,h.w2,h.hw,h.n1,h.n2,h.n3⟩
theorem Two.put2 {w0 w W : World} {g ga gb : Nat} {s : List Int} {f1 f2 : Int} {c1 c2 : Array Value} (h : Two w0 w W g ga gb s f1 f2 c1 c2) (i : Nat) (u : Value) : Two w0 w (W.setCell ⟨gb,i,none⟩ u) g ga gb s f1 f2 c1 (c2.setIfInBounds i u) :=
 ⟨IsS102.far h.hi h.n2 u,keep_far h.hk h.w2 u,below_set h.hb (Nat.le_trans h.hw h.w2),blk_far h.b1 h.n3 u,blk_set h.b2 i u,h.w1,h.w2,h.hw,h.n1,h.n2,h.n3⟩
theorem Two.drewN {w0 w W : World} {g ga gb : Nat} {s : List Int} {f1 f2 : Int} {c1 c2 : Array Value} (h : Two w0 w W g ga gb s f1 f2 c1 c2) (n : Nat) : Two w0 w (W.drewN n) g ga gb s f1 f2 c1 c2 :=
 ⟨IsS102.drewN h.hi n,keep_drewN h.hk n,pw_below_drewN h.hb n,blk_drewN h.b1 n,blk_drewN h.b2 n,h.w1,h.w2,h.hw,h.n1,h.n2,h.n3⟩
theorem Two.call {w0 w W W1 : World} {g ga gb : Nat} {s : List Int} {f1 f2 e1 e2 : Int} {c1 c2 : Array Value} (h : Two w0 w W g ga gb s f1 f2 c1 c2) (hi : IsS102 w0 W1 g s e1 e2) (hb : Below w0.heap.size w0 W1) (hk : KeepBut W W1 g none) : Two w0 w W1 g ga gb s e1 e2 c1 c2 :=
 ⟨hi,h.hk.trans hk (.inl rfl),hb,(hk.2 ga (blk_lt h.b1) (Ne.symm h.n1) (by simp)).trans h.b1,(hk.2 gb (blk_lt h.b2) (Ne.symm h.n2) (by simp)).trans h.b2,h.w1,h.w2,h.hw,h.n1,h.n2,h.n3⟩
/-- What spec.l06Ins tells. -/
theorem spec_l06Ins.parts {k : Nat} {s : List Int} {i h : Int} {r : Int × Int × Int × Int × Int × Int} (H : spec_l06Ins.f k s i h = some r) :
  ∃ b i1 g1 hf i2 g2 op,spec_l01Below.f s i h 8 = some (b,i1,g1) ∧ spec_l04Half.f s i1 g1 = some (hf,i2,g2) ∧ wrap64 (1 + b) = op ∧
  ((op = 1 ∧ ∃ K i3 g3,spec_l01Below.f s i2 g2 8 = some (K,i3,g3) ∧ (op,K,0,0,i3,g3) = r) ∨
  (op = 7 ∧ ∃ K i3 g3,spec_l01Below.f s i2 g2 4 = some (K,i3,g3) ∧ (op,K,0,0,i3,g3) = r) ∨
  ((op = 3 ∨ op = 4 ∨ op = 5 ∨ op = 6) ∧ ∃ Y i3 g3 N i4 g4,spec_l01Below.f s i2 g2 4 = some (Y,i3,g3) ∧ spec_l01Below.f s i3 g3 4 = some (N,i4,g4) ∧ (op,hf,Y,N,i4,g4) = r) ∨
  (op = 8 ∧ ∃ a i3 g3 d i4 g4 q,spec_l01Below.f s i2 g2 6 = some (a,i3,g3) ∧ spec_l01Below.f s i3 g3 5 = some (d,i4,g4) ∧ spec_ResultOf.f a d = some q ∧ (op,q,0,0,i4,g4) = r) ∨
  ((op ≠ 1 ∧ op ≠ 7 ∧ op ≠ 3 ∧ op ≠ 4 ∧ op ≠ 5 ∧ op ≠ 6 ∧ op ≠ 8) ∧ (op,hf,0,0,i2,g2) = r)) := by
 unfold spec_l06Ins.f at H
 obtain ⟨⟨b,i1,g1⟩,h1,H⟩ := Option.bind_eq_some_iff.mp H
 obtain ⟨⟨hf,i2,g2⟩,h2,H⟩ := Option.bind_eq_some_iff.mp H
 dsimp only at h1 h2 H
 obtain ⟨op,hop⟩ : ∃ op,wrap64 (1 + b) = op := ⟨_,rfl⟩
 rw [hop] at H
 refine ⟨b,i1,g1,hf,i2,g2,op,h1,h2,hop,?_⟩
 have ask : ∀ (o : Bool),o = true → (op = 3 ∨ op = 4 ∨ op = 5 ∨ op = 6) → spec_l06Ins.j0 k op o s i2 g2 op hf 0 0 = some r → ((op = 3 ∨ op = 4 ∨ op = 5 ∨ op = 6) ∧ ∃ Y i3 g3 N i4 g4,spec_l01Below.f s i2 g2 4 = some (Y,i3,g3) ∧ spec_l01Below.f s i3 g3 4 = some (N,i4,g4) ∧ (op,hf,Y,N,i4,g4) = r) := by
  intro o ho hor H
  cases k with
  | zero => simp [spec_l06Ins.j0] at H
  | succ k =>
   simp only [spec_l06Ins.j0] at H
   rw [if_pos ho] at H
   obtain ⟨⟨Y,i3,g3⟩,h3,H⟩ := Option.bind_eq_some_iff.mp H
   obtain ⟨⟨N,i4,g4⟩,h4,H⟩ := Option.bind_eq_some_iff.mp H
   exact ⟨hor,Y,i3,g3,N,i4,g4,h3,h4,Option.some.inj H⟩
 by_cases c1 : op = 1
 ·
  rw [if_pos c1] at H
  obtain ⟨⟨K,i3,g3⟩,h3,H⟩ := Option.bind_eq_some_iff.mp H
  exact .inl ⟨c1,K,i3,g3,h3,Option.some.inj H⟩
 ·
  rw [if_neg c1] at H
  by_cases c7 : op = 7
  ·
   rw [if_pos c7] at H
   obtain ⟨⟨K,i3,g3⟩,h3,H⟩ := Option.bind_eq_some_iff.mp H
   exact .inr (.inl ⟨c7,K,i3,g3,h3,Option.some.inj H⟩)
  ·
   rw [if_neg c7] at H
   by_cases c3 : op = 3
   ·
    rw [if_pos c3] at H
    exact .inr (.inr (.inl (ask _ (beq_iff_eq.mpr c3) (.inl c3) H)))
   ·
    rw [if_neg c3] at H
    by_cases c4 : op = 4
    ·
     rw [if_pos c4] at H
     exact .inr (.inr (.inl (ask _ (beq_iff_eq.mpr c4) (.inr (.inl c4)) H)))
    ·
     rw [if_neg c4] at H
     by_cases c5 : op = 5
     ·
      rw [if_pos c5] at H
      exact .inr (.inr (.inl (ask _ (beq_iff_eq.mpr c5) (.inr (.inr (.inl c5))) H)))
     ·
      rw [if_neg c5] at H
      by_cases c6 : op = 6
      ·
       exact .inr (.inr (.inl (ask _ (beq_iff_eq.mpr c6) (.inr (.inr (.inr c6))) H)))
      ·
       cases k with
       | zero => simp [spec_l06Ins.j0] at H
       | succ k =>
        simp only [spec_l06Ins.j0] at H
        rw [if_neg (by rw [beq_eq_false_iff_ne.mpr c6]; decide)] at H
        by_cases c8 : op = 8
        ·
         rw [if_pos c8] at H
         obtain ⟨⟨a,i3,g3⟩,h3,H⟩ := Option.bind_eq_some_iff.mp H
         obtain ⟨⟨d,i4,g4⟩,h4,H⟩ := Option.bind_eq_some_iff.mp H
         obtain ⟨q,h5,H⟩ := Option.bind_eq_some_iff.mp H
         exact .inr (.inr (.inr (.inl ⟨c8,a,i3,g3,d,i4,g4,q,h3,h4,h5,Option.some.inj H⟩)))
        ·
         rw [if_neg c8] at H
         exact .inr (.inr (.inr (.inr ⟨⟨c1,c7,c3,c4,c5,c6,c8⟩,Option.some.inj H⟩)))
set_option maxHeartbeats 4000000 in
set_option maxRecDepth 100000 in
theorem spec_l06Ins.calls (k : Nat) (g : Nat) (s0_0 : List Int) (s0_1 : Int) (s0_2 : Int) (r1 : Int) (r2 : Int) (r3 : Int) (r4 : Int) (r5 : Int) (r6 : Int) (w0 w : World) (hI : IsS102 w0 w g s0_0 s0_1 s0_2) (hB : Below w0.heap.size w0 w) (h : spec_l06Ins.f k s0_0 s0_1 s0_2 = some (r1,r2,r3,r4,r5,r6)) :
  Calls Try.prog 99 #[.pointer (some ⟨g,0,none⟩)] w fun e w' => e = .returned (.agg #[.int .i64 r1,.int .i64 r2,.int .i64 r3,.int .i64 r4]) ∧ IsS102 w0 w' g s0_0 r5 r6 ∧ Below w0.heap.size w0 w' ∧ KeepBut w w' g none := by
 have hu25 := Try.underlying25
 have HI0 := Aside0.mk hI
 have HK := Aside0.mk (KeepBut.refl w g none)
 have HW0 := Aside0.mk hB.size
 clear hI
 have HB := Aside0.mk hB
 clear hB
 obtain ⟨b,i1,g1,hf,i2,g2,op,h1,h2,hop,hw⟩ := spec_l06Ins.parts h
 have H1 := Aside0.mk h1
 have H2 := Aside0.mk h2
 have HH := Aside0.mk hw
 clear h h1 h2 hw
 go_enter Try.func99,Try.ntmps99
 go_upto_region 2 with (first
  | ((with_reducible refine gate_dst (N := 2) rfl ?_); refine box_event ?hg (N := 2) ?hd (cs := #[.int .i64 0,.int .i64 0,.int .i64 0,.int .i64 0]) (t := 25) ?hr ?_; (case hd => rfl); (case hg => rfl); (case hr => first | (go_simp; done) | (go_simp; rfl)); intro ga hg w1 hbox hb; have n1_ := Aside0.mk (IsS102.below HI0.out hb); have n2_ := Aside0.mk (KeepBut.trans HK.out (KeepBut.of_below hb g none) (.inl rfl)); have n3_ := Aside0.mk (below_step HB.out hb); have HG := Aside0.mk (And.intro (show w.heap.size ≤ ga by rw [hg]; exact keep_size HK.out) (show g ≠ ga by rw [hg]; exact Nat.ne_of_lt (IsS102.lt HI0.out))); have HX := Aside0.mk hbox; clear HI0 HK HB hb hbox hg; have HI0 := n1_; have HK := n2_; have HB := n3_; clear n1_ n2_ n3_)
  | (go_at_call 78; (with_reducible refine (spec_l01Below.calls g s0_0 s0_1 s0_2 8 b i1 g1 w0 _ HI0.out HB.out H1.out).mono ?_); rintro e w2 ⟨rfl,hi,hb,hk⟩; have n0_ : Aside0 (_ = _) := ⟨(hk.2 ga (blk_lt HX.out) (Ne.symm HG.out.2) (by simp)).trans HX.out⟩; have n1_ := Aside0.mk (KeepBut.trans HK.out hk (.inl rfl)); clear HK HB HI0 HX; have HX := n0_; have HK := n1_; have HB := Aside0.mk hb; have HI0 := Aside0.mk hi; clear n0_ n1_ hb hi hk)
  | (go_at_call 107; (with_reducible refine (spec_l04Half.calls g s0_0 i1 g1 hf i2 g2 w0 _ HI0.out HB.out H2.out).mono ?_); rintro e w3 ⟨rfl,hi,hb,hk⟩; have n0_ : Aside0 (_ = _) := ⟨(hk.2 ga (blk_lt HX.out) (Ne.symm HG.out.2) (by simp)).trans HX.out⟩; have n1_ := Aside0.mk (KeepBut.trans HK.out hk (.inl rfl)); clear HK HB HI0 HX; have HX := n0_; have HK := n1_; have HB := Aside0.mk hb; have HI0 := Aside0.mk hi; clear n0_ n1_ hb hi hk)
  | ((with_reducible refine gate_dst (N := 3) rfl ?_); refine box_event ?hg (N := 3) ?hd (cs := #[.int .i64 0,.int .i64 0,.int .i64 0,.int .i64 0]) (t := 25) ?hr ?_; (case hd => rfl); (case hg => rfl); (case hr => first | (go_simp; done) | (go_simp; rfl)); intro gb hg w4 hbox hb; have HT : Aside0 (Two w0 w w4 g ga gb s0_0 i2 g2 #[.int .i64 0,.int .i64 0,.int .i64 0,.int .i64 0] #[.int .i64 0,.int .i64 0,.int .i64 0,.int .i64 0]) := ⟨⟨IsS102.below HI0.out hb,KeepBut.trans HK.out (KeepBut.of_below hb g none) (.inl rfl),below_step HB.out hb,blk_below HX.out hb,hbox,HG.out.1,by rw [hg]; exact keep_size HK.out,HW0.out,HG.out.2,by rw [hg]; exact Nat.ne_of_lt (IsS102.lt HI0.out),by rw [hg]; exact Nat.ne_of_lt (blk_lt HX.out)⟩⟩; clear HI0 HK HB HX HG hb hbox hg; obtain ⟨cb0,zb0,cb1,zb1,cb2,zb2,cb3,zb3⟩ := quad HT.out.b2))
 have HT0 : Aside0 (Two w0 w ((((w4.setCell ⟨gb,0,none⟩ (.int .i64 op)).setCell ⟨gb,1,none⟩ (.int .i64 hf)).setCell ⟨gb,2,none⟩ (.int .i64 0)).setCell ⟨gb,3,none⟩ (.int .i64 0)) g ga gb s0_0 i2 g2 #[.int .i64 0,.int .i64 0,.int .i64 0,.int .i64 0] #[.int .i64 op,.int .i64 hf,.int .i64 0,.int .i64 0]) := ⟨(((HT.out.put2 0 (.int .i64 op)).put2 1 (.int .i64 hf)).put2 2 (.int .i64 0)).put2 3 (.int .i64 0)⟩
 clear cb0 zb0 cb1 zb1 cb2 zb2 cb3 zb3
 clear HT hop
 generalize (((w4.setCell ⟨gb,0,none⟩ (.int .i64 op)).setCell ⟨gb,1,none⟩ (.int .i64 hf)).setCell ⟨gb,2,none⟩ (.int .i64 0)).setCell ⟨gb,3,none⟩ (.int .i64 0) = W at HT0 ⊢
 have hcases := HH.out
 clear HH
 rcases hcases with ⟨c1,K,i3,g3,e3,er⟩ | ⟨c7,K,i3,g3,e3,er⟩ | ⟨ca,Y,i3,g3,N,i4,g4,e3,e4,er⟩ | ⟨c8,a,i3,g3,d,i4,g4,q,e3,e4,e5,er⟩ | ⟨cn,er⟩
 ·
  have hv := c1
  have E3 := Aside0.mk e3
  simp only [Prod.mk.injEq] at er
  obtain ⟨rfl,rfl,rfl,rfl,rfl,rfl⟩ := er
  clear e3
  have t1 : (op == 1) = true := beq_iff_eq.mpr hv
  clear hv c1
  obtain ⟨cb0,zb0,cb1,zb1,cb2,zb2,cb3,zb3⟩ := quad HT0.out.b2
  go_upto_region 15 with (go_at_call 78; (with_reducible refine (spec_l01Below.calls g s0_0 i2 g2 8 K i3 g3 w0 _ HT0.out.hi HT0.out.hb E3.out).mono ?_); rintro e w5 ⟨rfl,hi,hb,hk⟩; have HT1 := Aside0.mk (Two.call HT0.out hi hb hk); clear hi hb hk; clear cb0 zb0 cb1 zb1 cb2 zb2 cb3 zb3; obtain ⟨cb0,zb0,cb1,zb1,cb2,zb2,cb3,zb3⟩ := quad HT1.out.b2)
  have HT2 : Aside0 (Two w0 w (w5.setCell ⟨gb,1,none⟩ (.int .i64 K)) g ga gb s0_0 i3 g3 #[.int .i64 0,.int .i64 0,.int .i64 0,.int .i64 0] #[.int .i64 op,.int .i64 K,.int .i64 0,.int .i64 0]) := ⟨HT1.out.put2 1 (.int .i64 K)⟩
  clear cb0 zb0 cb1 zb1 cb2 zb2 cb3 zb3
  generalize w5.setCell ⟨gb,1,none⟩ (.int .i64 K) = W2 at HT2 ⊢
  have HE : Aside0 (Two w0 w (((((W2).setCell ⟨ga,0,none⟩ (.int .i64 op)).setCell ⟨ga,1,none⟩ (.int .i64 K)).setCell ⟨ga,2,none⟩ (.int .i64 0)).setCell ⟨ga,3,none⟩ (.int .i64 0)) g ga gb s0_0 i3 g3 #[.int .i64 op,.int .i64 K,.int .i64 0,.int .i64 0] #[.int .i64 op,.int .i64 K,.int .i64 0,.int .i64 0]) := ⟨(((HT2.out.put1 0 (.int .i64 op)).put1 1 (.int .i64 K)).put1 2 (.int .i64 0)).put1 3 (.int .i64 0)⟩
  obtain ⟨cb0,zb0,cb1,zb1,cb2,zb2,cb3,zb3⟩ := quad HT2.out.b2
  obtain ⟨ca0,za0,ca1,za1,ca2,za2,ca3,za3⟩ := quad HT2.out.b1
  have hne := HT2.out.n3
  have hne2 := Ne.symm HT2.out.n3
  go_wp2
  refine bodyPost_ret (results_cell_row rfl _ _ ga 25 #[.int .i64 op,.int .i64 K,.int .i64 0,.int .i64 0] (0,0) _ rfl HE.out.b1 Try.underlying25 rfl (by kernel_rfl)) rfl ?_
  exact ⟨rfl,HE.out.hi,HE.out.hb,HE.out.hk⟩
 ·
  have hv := c7
  have E3 := Aside0.mk e3
  simp only [Prod.mk.injEq] at er
  obtain ⟨rfl,rfl,rfl,rfl,rfl,rfl⟩ := er
  clear e3
  have t1 : (op == 1) = false := beq_eq_false_iff_ne.mpr (by rw [hv]; decide)
  have t7 : (op == 7) = true := beq_iff_eq.mpr hv
  clear hv c7
  obtain ⟨cb0,zb0,cb1,zb1,cb2,zb2,cb3,zb3⟩ := quad HT0.out.b2
  go_upto_region 15 with (go_at_call 78; (with_reducible refine (spec_l01Below.calls g s0_0 i2 g2 4 K i3 g3 w0 _ HT0.out.hi HT0.out.hb E3.out).mono ?_); rintro e w5 ⟨rfl,hi,hb,hk⟩; have HT1 := Aside0.mk (Two.call HT0.out hi hb hk); clear hi hb hk; clear cb0 zb0 cb1 zb1 cb2 zb2 cb3 zb3; obtain ⟨cb0,zb0,cb1,zb1,cb2,zb2,cb3,zb3⟩ := quad HT1.out.b2)
  have HT2 : Aside0 (Two w0 w (w5.setCell ⟨gb,1,none⟩ (.int .i64 K)) g ga gb s0_0 i3 g3 #[.int .i64 0,.int .i64 0,.int .i64 0,.int .i64 0] #[.int .i64 op,.int .i64 K,.int .i64 0,.int .i64 0]) := ⟨HT1.out.put2 1 (.int .i64 K)⟩
  clear cb0 zb0 cb1 zb1 cb2 zb2 cb3 zb3
  generalize w5.setCell ⟨gb,1,none⟩ (.int .i64 K) = W2 at HT2 ⊢
  have HE : Aside0 (Two w0 w (((((W2).setCell ⟨ga,0,none⟩ (.int .i64 op)).setCell ⟨ga,1,none⟩ (.int .i64 K)).setCell ⟨ga,2,none⟩ (.int .i64 0)).setCell ⟨ga,3,none⟩ (.int .i64 0)) g ga gb s0_0 i3 g3 #[.int .i64 op,.int .i64 K,.int .i64 0,.int .i64 0] #[.int .i64 op,.int .i64 K,.int .i64 0,.int .i64 0]) := ⟨(((HT2.out.put1 0 (.int .i64 op)).put1 1 (.int .i64 K)).put1 2 (.int .i64 0)).put1 3 (.int .i64 0)⟩
  obtain ⟨cb0,zb0,cb1,zb1,cb2,zb2,cb3,zb3⟩ := quad HT2.out.b2
  obtain ⟨ca0,za0,ca1,za1,ca2,za2,ca3,za3⟩ := quad HT2.out.b1
  have hne := HT2.out.n3
  have hne2 := Ne.symm HT2.out.n3
  go_wp2
  refine bodyPost_ret (results_cell_row rfl _ _ ga 25 #[.int .i64 op,.int .i64 K,.int .i64 0,.int .i64 0] (0,0) _ rfl HE.out.b1 Try.underlying25 rfl (by kernel_rfl)) rfl ?_
  exact ⟨rfl,HE.out.hi,HE.out.hb,HE.out.hk⟩
 ·
  simp only [Prod.mk.injEq] at er
  obtain ⟨rfl,rfl,rfl,rfl,rfl,rfl⟩ := er
  have E3 := Aside0.mk e3
  have E4 := Aside0.mk e4
  clear e3 e4
  rcases ca with hv | hv | hv | hv
  ·
   have t1 : (op == 1) = false := beq_eq_false_iff_ne.mpr (by rw [hv]; decide)
   have t7 : (op == 7) = false := beq_eq_false_iff_ne.mpr (by rw [hv]; decide)
   have t3 : (op == 3) = true := beq_iff_eq.mpr hv
   clear hv
   obtain ⟨cb0,zb0,cb1,zb1,cb2,zb2,cb3,zb3⟩ := quad HT0.out.b2
   go_upto_region 15 with (first | (go_at_call 78; (with_reducible refine (spec_l01Below.calls g s0_0 i2 g2 4 Y i3 g3 w0 _ HT0.out.hi HT0.out.hb E3.out).mono ?_); rintro e w5 ⟨rfl,hi,hb,hk⟩; have HT1 := Aside0.mk (Two.call HT0.out hi hb hk); clear hi hb hk; clear cb0 zb0 cb1 zb1 cb2 zb2 cb3 zb3; obtain ⟨cb0,zb0,cb1,zb1,cb2,zb2,cb3,zb3⟩ := quad HT1.out.b2; have HT1b : Aside0 (Two w0 w (w5.setCell ⟨gb,2,none⟩ (.int .i64 Y)) g ga gb s0_0 i3 g3 #[.int .i64 0,.int .i64 0,.int .i64 0,.int .i64 0] #[.int .i64 op,.int .i64 hf,.int .i64 Y,.int .i64 0]) := ⟨HT1.out.put2 2 (.int .i64 Y)⟩) | (go_at_call 78; (with_reducible refine (spec_l01Below.calls g s0_0 i3 g3 4 N i4 g4 w0 _ HT1b.out.hi HT1b.out.hb E4.out).mono ?_); rintro e w6 ⟨rfl,hi,hb,hk⟩; have HT2 := Aside0.mk (Two.call HT1b.out hi hb hk); clear hi hb hk; clear cb0 zb0 cb1 zb1 cb2 zb2 cb3 zb3; obtain ⟨cb0,zb0,cb1,zb1,cb2,zb2,cb3,zb3⟩ := quad HT2.out.b2))
   have HT3 : Aside0 (Two w0 w (w6.setCell ⟨gb,3,none⟩ (.int .i64 N)) g ga gb s0_0 i4 g4 #[.int .i64 0,.int .i64 0,.int .i64 0,.int .i64 0] #[.int .i64 op,.int .i64 hf,.int .i64 Y,.int .i64 N]) := ⟨HT2.out.put2 3 (.int .i64 N)⟩
   clear cb0 zb0 cb1 zb1 cb2 zb2 cb3 zb3
   generalize w6.setCell ⟨gb,3,none⟩ (.int .i64 N) = W2 at HT3 ⊢
   have HE : Aside0 (Two w0 w (((((W2).setCell ⟨ga,0,none⟩ (.int .i64 op)).setCell ⟨ga,1,none⟩ (.int .i64 hf)).setCell ⟨ga,2,none⟩ (.int .i64 Y)).setCell ⟨ga,3,none⟩ (.int .i64 N)) g ga gb s0_0 i4 g4 #[.int .i64 op,.int .i64 hf,.int .i64 Y,.int .i64 N] #[.int .i64 op,.int .i64 hf,.int .i64 Y,.int .i64 N]) := ⟨(((HT3.out.put1 0 (.int .i64 op)).put1 1 (.int .i64 hf)).put1 2 (.int .i64 Y)).put1 3 (.int .i64 N)⟩
   obtain ⟨cb0,zb0,cb1,zb1,cb2,zb2,cb3,zb3⟩ := quad HT3.out.b2
   obtain ⟨ca0,za0,ca1,za1,ca2,za2,ca3,za3⟩ := quad HT3.out.b1
   have hne := HT3.out.n3
   have hne2 := Ne.symm HT3.out.n3
   go_wp2
   refine bodyPost_ret (results_cell_row rfl _ _ ga 25 #[.int .i64 op,.int .i64 hf,.int .i64 Y,.int .i64 N] (0,0) _ rfl HE.out.b1 Try.underlying25 rfl (by kernel_rfl)) rfl ?_
   exact ⟨rfl,HE.out.hi,HE.out.hb,HE.out.hk⟩
  ·
   have t1 : (op == 1) = false := beq_eq_false_iff_ne.mpr (by rw [hv]; decide)
   have t7 : (op == 7) = false := beq_eq_false_iff_ne.mpr (by rw [hv]; decide)
   have t3 : (op == 3) = false := beq_eq_false_iff_ne.mpr (by rw [hv]; decide)
   have t4 : (op == 4) = true := beq_iff_eq.mpr hv
   clear hv
   obtain ⟨cb0,zb0,cb1,zb1,cb2,zb2,cb3,zb3⟩ := quad HT0.out.b2
   go_upto_region 15 with (first | (go_at_call 78; (with_reducible refine (spec_l01Below.calls g s0_0 i2 g2 4 Y i3 g3 w0 _ HT0.out.hi HT0.out.hb E3.out).mono ?_); rintro e w5 ⟨rfl,hi,hb,hk⟩; have HT1 := Aside0.mk (Two.call HT0.out hi hb hk); clear hi hb hk; clear cb0 zb0 cb1 zb1 cb2 zb2 cb3 zb3; obtain ⟨cb0,zb0,cb1,zb1,cb2,zb2,cb3,zb3⟩ := quad HT1.out.b2; have HT1b : Aside0 (Two w0 w (w5.setCell ⟨gb,2,none⟩ (.int .i64 Y)) g ga gb s0_0 i3 g3 #[.int .i64 0,.int .i64 0,.int .i64 0,.int .i64 0] #[.int .i64 op,.int .i64 hf,.int .i64 Y,.int .i64 0]) := ⟨HT1.out.put2 2 (.int .i64 Y)⟩) | (go_at_call 78; (with_reducible refine (spec_l01Below.calls g s0_0 i3 g3 4 N i4 g4 w0 _ HT1b.out.hi HT1b.out.hb E4.out).mono ?_); rintro e w6 ⟨rfl,hi,hb,hk⟩; have HT2 := Aside0.mk (Two.call HT1b.out hi hb hk); clear hi hb hk; clear cb0 zb0 cb1 zb1 cb2 zb2 cb3 zb3; obtain ⟨cb0,zb0,cb1,zb1,cb2,zb2,cb3,zb3⟩ := quad HT2.out.b2))
   have HT3 : Aside0 (Two w0 w (w6.setCell ⟨gb,3,none⟩ (.int .i64 N)) g ga gb s0_0 i4 g4 #[.int .i64 0,.int .i64 0,.int .i64 0,.int .i64 0] #[.int .i64 op,.int .i64 hf,.int .i64 Y,.int .i64 N]) := ⟨HT2.out.put2 3 (.int .i64 N)⟩
   clear cb0 zb0 cb1 zb1 cb2 zb2 cb3 zb3
   generalize w6.setCell ⟨gb,3,none⟩ (.int .i64 N) = W2 at HT3 ⊢
   have HE : Aside0 (Two w0 w (((((W2).setCell ⟨ga,0,none⟩ (.int .i64 op)).setCell ⟨ga,1,none⟩ (.int .i64 hf)).setCell ⟨ga,2,none⟩ (.int .i64 Y)).setCell ⟨ga,3,none⟩ (.int .i64 N)) g ga gb s0_0 i4 g4 #[.int .i64 op,.int .i64 hf,.int .i64 Y,.int .i64 N] #[.int .i64 op,.int .i64 hf,.int .i64 Y,.int .i64 N]) := ⟨(((HT3.out.put1 0 (.int .i64 op)).put1 1 (.int .i64 hf)).put1 2 (.int .i64 Y)).put1 3 (.int .i64 N)⟩
   obtain ⟨cb0,zb0,cb1,zb1,cb2,zb2,cb3,zb3⟩ := quad HT3.out.b2
   obtain ⟨ca0,za0,ca1,za1,ca2,za2,ca3,za3⟩ := quad HT3.out.b1
   have hne := HT3.out.n3
   have hne2 := Ne.symm HT3.out.n3
   go_wp2
   refine bodyPost_ret (results_cell_row rfl _ _ ga 25 #[.int .i64 op,.int .i64 hf,.int .i64 Y,.int .i64 N] (0,0) _ rfl HE.out.b1 Try.underlying25 rfl (by kernel_rfl)) rfl ?_
   exact ⟨rfl,HE.out.hi,HE.out.hb,HE.out.hk⟩
  ·
   have t1 : (op == 1) = false := beq_eq_false_iff_ne.mpr (by rw [hv]; decide)
   have t7 : (op == 7) = false := beq_eq_false_iff_ne.mpr (by rw [hv]; decide)
   have t3 : (op == 3) = false := beq_eq_false_iff_ne.mpr (by rw [hv]; decide)
   have t4 : (op == 4) = false := beq_eq_false_iff_ne.mpr (by rw [hv]; decide)
   have t5 : (op == 5) = true := beq_iff_eq.mpr hv
   clear hv
   obtain ⟨cb0,zb0,cb1,zb1,cb2,zb2,cb3,zb3⟩ := quad HT0.out.b2
   go_upto_region 15 with (first | (go_at_call 78; (with_reducible refine (spec_l01Below.calls g s0_0 i2 g2 4 Y i3 g3 w0 _ HT0.out.hi HT0.out.hb E3.out).mono ?_); rintro e w5 ⟨rfl,hi,hb,hk⟩; have HT1 := Aside0.mk (Two.call HT0.out hi hb hk); clear hi hb hk; clear cb0 zb0 cb1 zb1 cb2 zb2 cb3 zb3; obtain ⟨cb0,zb0,cb1,zb1,cb2,zb2,cb3,zb3⟩ := quad HT1.out.b2; have HT1b : Aside0 (Two w0 w (w5.setCell ⟨gb,2,none⟩ (.int .i64 Y)) g ga gb s0_0 i3 g3 #[.int .i64 0,.int .i64 0,.int .i64 0,.int .i64 0] #[.int .i64 op,.int .i64 hf,.int .i64 Y,.int .i64 0]) := ⟨HT1.out.put2 2 (.int .i64 Y)⟩) | (go_at_call 78; (with_reducible refine (spec_l01Below.calls g s0_0 i3 g3 4 N i4 g4 w0 _ HT1b.out.hi HT1b.out.hb E4.out).mono ?_); rintro e w6 ⟨rfl,hi,hb,hk⟩; have HT2 := Aside0.mk (Two.call HT1b.out hi hb hk); clear hi hb hk; clear cb0 zb0 cb1 zb1 cb2 zb2 cb3 zb3; obtain ⟨cb0,zb0,cb1,zb1,cb2,zb2,cb3,zb3⟩ := quad HT2.out.b2))
   have HT3 : Aside0 (Two w0 w (w6.setCell ⟨gb,3,none⟩ (.int .i64 N)) g ga gb s0_0 i4 g4 #[.int .i64 0,.int .i64 0,.int .i64 0,.int .i64 0] #[.int .i64 op,.int .i64 hf,.int .i64 Y,.int .i64 N]) := ⟨HT2.out.put2 3 (.int .i64 N)⟩
   clear cb0 zb0 cb1 zb1 cb2 zb2 cb3 zb3
   generalize w6.setCell ⟨gb,3,none⟩ (.int .i64 N) = W2 at HT3 ⊢
   have HE : Aside0 (Two w0 w (((((W2).setCell ⟨ga,0,none⟩ (.int .i64 op)).setCell ⟨ga,1,none⟩ (.int .i64 hf)).setCell ⟨ga,2,none⟩ (.int .i64 Y)).setCell ⟨ga,3,none⟩ (.int .i64 N)) g ga gb s0_0 i4 g4 #[.int .i64 op,.int .i64 hf,.int .i64 Y,.int .i64 N] #[.int .i64 op,.int .i64 hf,.int .i64 Y,.int .i64 N]) := ⟨(((HT3.out.put1 0 (.int .i64 op)).put1 1 (.int .i64 hf)).put1 2 (.int .i64 Y)).put1 3 (.int .i64 N)⟩
   obtain ⟨cb0,zb0,cb1,zb1,cb2,zb2,cb3,zb3⟩ := quad HT3.out.b2
   obtain ⟨ca0,za0,ca1,za1,ca2,za2,ca3,za3⟩ := quad HT3.out.b1
   have hne := HT3.out.n3
   have hne2 := Ne.symm HT3.out.n3
   go_wp2
   refine bodyPost_ret (results_cell_row rfl _ _ ga 25 #[.int .i64 op,.int .i64 hf,.int .i64 Y,.int .i64 N] (0,0) _ rfl HE.out.b1 Try.underlying25 rfl (by kernel_rfl)) rfl ?_
   exact ⟨rfl,HE.out.hi,HE.out.hb,HE.out.hk⟩
  ·
   have t1 : (op == 1) = false := beq_eq_false_iff_ne.mpr (by rw [hv]; decide)
   have t7 : (op == 7) = false := beq_eq_false_iff_ne.mpr (by rw [hv]; decide)
   have t3 : (op == 3) = false := beq_eq_false_iff_ne.mpr (by rw [hv]; decide)
   have t4 : (op == 4) = false := beq_eq_false_iff_ne.mpr (by rw [hv]; decide)
   have t5 : (op == 5) = false := beq_eq_false_iff_ne.mpr (by rw [hv]; decide)
   have t6 : (op == 6) = true := beq_iff_eq.mpr hv
   clear hv
   obtain ⟨cb0,zb0,cb1,zb1,cb2,zb2,cb3,zb3⟩ := quad HT0.out.b2
   go_upto_region 15 with (first | (go_at_call 78; (with_reducible refine (spec_l01Below.calls g s0_0 i2 g2 4 Y i3 g3 w0 _ HT0.out.hi HT0.out.hb E3.out).mono ?_); rintro e w5 ⟨rfl,hi,hb,hk⟩; have HT1 := Aside0.mk (Two.call HT0.out hi hb hk); clear hi hb hk; clear cb0 zb0 cb1 zb1 cb2 zb2 cb3 zb3; obtain ⟨cb0,zb0,cb1,zb1,cb2,zb2,cb3,zb3⟩ := quad HT1.out.b2; have HT1b : Aside0 (Two w0 w (w5.setCell ⟨gb,2,none⟩ (.int .i64 Y)) g ga gb s0_0 i3 g3 #[.int .i64 0,.int .i64 0,.int .i64 0,.int .i64 0] #[.int .i64 op,.int .i64 hf,.int .i64 Y,.int .i64 0]) := ⟨HT1.out.put2 2 (.int .i64 Y)⟩) | (go_at_call 78; (with_reducible refine (spec_l01Below.calls g s0_0 i3 g3 4 N i4 g4 w0 _ HT1b.out.hi HT1b.out.hb E4.out).mono ?_); rintro e w6 ⟨rfl,hi,hb,hk⟩; have HT2 := Aside0.mk (Two.call HT1b.out hi hb hk); clear hi hb hk; clear cb0 zb0 cb1 zb1 cb2 zb2 cb3 zb3; obtain ⟨cb0,zb0,cb1,zb1,cb2,zb2,cb3,zb3⟩ := quad HT2.out.b2))
   have HT3 : Aside0 (Two w0 w (w6.setCell ⟨gb,3,none⟩ (.int .i64 N)) g ga gb s0_0 i4 g4 #[.int .i64 0,.int .i64 0,.int .i64 0,.int .i64 0] #[.int .i64 op,.int .i64 hf,.int .i64 Y,.int .i64 N]) := ⟨HT2.out.put2 3 (.int .i64 N)⟩
   clear cb0 zb0 cb1 zb1 cb2 zb2 cb3 zb3
   generalize w6.setCell ⟨gb,3,none⟩ (.int .i64 N) = W2 at HT3 ⊢
   have HE : Aside0 (Two w0 w (((((W2).setCell ⟨ga,0,none⟩ (.int .i64 op)).setCell ⟨ga,1,none⟩ (.int .i64 hf)).setCell ⟨ga,2,none⟩ (.int .i64 Y)).setCell ⟨ga,3,none⟩ (.int .i64 N)) g ga gb s0_0 i4 g4 #[.int .i64 op,.int .i64 hf,.int .i64 Y,.int .i64 N] #[.int .i64 op,.int .i64 hf,.int .i64 Y,.int .i64 N]) := ⟨(((HT3.out.put1 0 (.int .i64 op)).put1 1 (.int .i64 hf)).put1 2 (.int .i64 Y)).put1 3 (.int .i64 N)⟩
   obtain ⟨cb0,zb0,cb1,zb1,cb2,zb2,cb3,zb3⟩ := quad HT3.out.b2
   obtain ⟨ca0,za0,ca1,za1,ca2,za2,ca3,za3⟩ := quad HT3.out.b1
   have hne := HT3.out.n3
   have hne2 := Ne.symm HT3.out.n3
   go_wp2
   refine bodyPost_ret (results_cell_row rfl _ _ ga 25 #[.int .i64 op,.int .i64 hf,.int .i64 Y,.int .i64 N] (0,0) _ rfl HE.out.b1 Try.underlying25 rfl (by kernel_rfl)) rfl ?_
   exact ⟨rfl,HE.out.hi,HE.out.hb,HE.out.hk⟩
 ·
  have hv := c8
  simp only [Prod.mk.injEq] at er
  obtain ⟨rfl,rfl,rfl,rfl,rfl,rfl⟩ := er
  have E3 := Aside0.mk e3
  have E4 := Aside0.mk e4
  have E5 := Aside0.mk e5
  clear e3 e4 e5
  have t1 : (op == 1) = false := beq_eq_false_iff_ne.mpr (by rw [hv]; decide)
  have t7 : (op == 7) = false := beq_eq_false_iff_ne.mpr (by rw [hv]; decide)
  have t3 : (op == 3) = false := beq_eq_false_iff_ne.mpr (by rw [hv]; decide)
  have t4 : (op == 4) = false := beq_eq_false_iff_ne.mpr (by rw [hv]; decide)
  have t5 : (op == 5) = false := beq_eq_false_iff_ne.mpr (by rw [hv]; decide)
  have t6 : (op == 6) = false := beq_eq_false_iff_ne.mpr (by rw [hv]; decide)
  have t8 : (op == 8) = true := beq_iff_eq.mpr hv
  clear hv c8
  obtain ⟨cb0,zb0,cb1,zb1,cb2,zb2,cb3,zb3⟩ := quad HT0.out.b2
  go_upto_region 15 with (first | (go_at_call 78; (with_reducible refine (spec_l01Below.calls g s0_0 i2 g2 6 a i3 g3 w0 _ HT0.out.hi HT0.out.hb E3.out).mono ?_); rintro e w5 ⟨rfl,hi,hb,hk⟩; have HT1 := Aside0.mk (Two.call HT0.out hi hb hk); clear hi hb hk; clear cb0 zb0 cb1 zb1 cb2 zb2 cb3 zb3) | (go_at_call 78; (with_reducible refine (spec_l01Below.calls g s0_0 i3 g3 5 d i4 g4 w0 _ HT1.out.hi HT1.out.hb E4.out).mono ?_); rintro e w6 ⟨rfl,hi,hb,hk⟩; have HT2 := Aside0.mk (Two.call HT1.out hi hb hk); clear hi hb hk; obtain ⟨cb0,zb0,cb1,zb1,cb2,zb2,cb3,zb3⟩ := quad HT2.out.b2) | (go_at_call 63; (with_reducible refine (spec_ResultOf.calls a d q _ E5.out).mono ?_); rintro e w' ⟨rfl,⟨nd,rfl⟩⟩))
  have HT3 : Aside0 (Two w0 w ((w6.drewN nd).setCell ⟨gb,1,none⟩ (.int .i64 q)) g ga gb s0_0 i4 g4 #[.int .i64 0,.int .i64 0,.int .i64 0,.int .i64 0] #[.int .i64 op,.int .i64 q,.int .i64 0,.int .i64 0]) := ⟨(HT2.out.drewN nd).put2 1 (.int .i64 q)⟩
  clear cb0 zb0 cb1 zb1 cb2 zb2 cb3 zb3
  generalize (w6.drewN nd).setCell ⟨gb,1,none⟩ (.int .i64 q) = W2 at HT3 ⊢
  have HE : Aside0 (Two w0 w (((((W2).setCell ⟨ga,0,none⟩ (.int .i64 op)).setCell ⟨ga,1,none⟩ (.int .i64 q)).setCell ⟨ga,2,none⟩ (.int .i64 0)).setCell ⟨ga,3,none⟩ (.int .i64 0)) g ga gb s0_0 i4 g4 #[.int .i64 op,.int .i64 q,.int .i64 0,.int .i64 0] #[.int .i64 op,.int .i64 q,.int .i64 0,.int .i64 0]) := ⟨(((HT3.out.put1 0 (.int .i64 op)).put1 1 (.int .i64 q)).put1 2 (.int .i64 0)).put1 3 (.int .i64 0)⟩
  obtain ⟨cb0,zb0,cb1,zb1,cb2,zb2,cb3,zb3⟩ := quad HT3.out.b2
  obtain ⟨ca0,za0,ca1,za1,ca2,za2,ca3,za3⟩ := quad HT3.out.b1
  have hne := HT3.out.n3
  have hne2 := Ne.symm HT3.out.n3
  go_wp2
  refine bodyPost_ret (results_cell_row rfl _ _ ga 25 #[.int .i64 op,.int .i64 q,.int .i64 0,.int .i64 0] (0,0) _ rfl HE.out.b1 Try.underlying25 rfl (by kernel_rfl)) rfl ?_
  exact ⟨rfl,HE.out.hi,HE.out.hb,HE.out.hk⟩
 ·
  simp only [Prod.mk.injEq] at er
  obtain ⟨rfl,rfl,rfl,rfl,rfl,rfl⟩ := er
  have t1 : (op == 1) = false := beq_eq_false_iff_ne.mpr cn.1
  have t7 : (op == 7) = false := beq_eq_false_iff_ne.mpr cn.2.1
  have t3 : (op == 3) = false := beq_eq_false_iff_ne.mpr cn.2.2.1
  have t4 : (op == 4) = false := beq_eq_false_iff_ne.mpr cn.2.2.2.1
  have t5 : (op == 5) = false := beq_eq_false_iff_ne.mpr cn.2.2.2.2.1
  have t6 : (op == 6) = false := beq_eq_false_iff_ne.mpr cn.2.2.2.2.2.1
  have t8 : (op == 8) = false := beq_eq_false_iff_ne.mpr cn.2.2.2.2.2.2
  clear cn
  obtain ⟨cb0,zb0,cb1,zb1,cb2,zb2,cb3,zb3⟩ := quad HT0.out.b2
  go_upto_region 15 with (fail)
  clear cb0 zb0 cb1 zb1 cb2 zb2 cb3 zb3
  have HE : Aside0 (Two w0 w (((((W).setCell ⟨ga,0,none⟩ (.int .i64 op)).setCell ⟨ga,1,none⟩ (.int .i64 hf)).setCell ⟨ga,2,none⟩ (.int .i64 0)).setCell ⟨ga,3,none⟩ (.int .i64 0)) g ga gb s0_0 i2 g2 #[.int .i64 op,.int .i64 hf,.int .i64 0,.int .i64 0] #[.int .i64 op,.int .i64 hf,.int .i64 0,.int .i64 0]) := ⟨(((HT0.out.put1 0 (.int .i64 op)).put1 1 (.int .i64 hf)).put1 2 (.int .i64 0)).put1 3 (.int .i64 0)⟩
  obtain ⟨cb0,zb0,cb1,zb1,cb2,zb2,cb3,zb3⟩ := quad HT0.out.b2
  obtain ⟨ca0,za0,ca1,za1,ca2,za2,ca3,za3⟩ := quad HT0.out.b1
  have hne := HT0.out.n3
  have hne2 := Ne.symm HT0.out.n3
  go_wp2
  refine bodyPost_ret (results_cell_row rfl _ _ ga 25 #[.int .i64 op,.int .i64 hf,.int .i64 0,.int .i64 0] (0,0) _ rfl HE.out.b1 Try.underlying25 rfl (by kernel_rfl)) rfl ?_
  exact ⟨rfl,HE.out.hi,HE.out.hb,HE.out.hk⟩

end Go.Proofs.Ytfchokhdhnfajaa.PFnRunTold
