/- FnRunTold: what a program tells of a call, of itself and of its places is the same in both. -/
import Derived.Test.YtfchokhdhnfajaaOFnRunToldx9
import Derived.Test.YtfchokhdhnfajaaMath
namespace Go.Proofs.Ytfchokhdhnfajaa.Pure
open Go.RowKit Go.Proofs.Ytfchokhdhnfajaa.PFnRunTold Go.Proofs.YtfchokhdhnfajaaW.PrintWords Go.Proofs.YtfchokhdhnfajaaW.PrintLast Go.Proofs.YtfchokhdhnfajaaW.PrintMore
set_option linter.unusedVariables false
theorem spec_l01In_is (a lo hi : Int) : spec_l01In.f a lo hi = some (decide (lo ≤ a ∧ a ≤ hi)) := by
 unfold spec_l01In.f
 by_cases h : a ≥ lo
 ·
  rw [if_pos h]
  by_cases h2 : a ≤ hi
  ·
   simp [h,h2]
  ·
   simp [h2]
 ·
  rw [if_neg h]
  have : ¬ lo ≤ a := h
  simp [this]
theorem impl_within_is (a lo hi : Int) : impl_within.f a lo hi = some (decide (lo ≤ a ∧ a ≤ hi)) := by
 unfold impl_within.f
 by_cases h : a ≥ lo
 ·
  rw [if_pos h]
  by_cases h2 : a ≤ hi
  ·
   simp [h,h2]
  ·
   simp [h2]
 ·
  rw [if_neg h]
  have : ¬ lo ≤ a := h
  simp [this]
theorem spec_HalfOk_is (a : Int) : spec_HalfOk.f a = some (decide (0 ≤ a ∧ a ≤ 4294967295)) := by unfold spec_HalfOk.f; rw [spec_l01In_is]; rfl
theorem impl_HalfOk_is (a : Int) : impl_HalfOk.f a = some (decide (0 ≤ a ∧ a ≤ 4294967295)) := by unfold impl_HalfOk.f; rw [impl_within_is]; rfl
def wideOk (a b : Int) : Bool := decide (0 ≤ a ∧ a ≤ 4294967295) && decide (0 ≤ b ∧ b ≤ 4294967295)
theorem spec_WideOk_is (a b : Int) : spec_WideOk.f a b = some (wideOk a b) := by
 unfold spec_WideOk.f wideOk
 rw [spec_HalfOk_is,spec_HalfOk_is]
 by_cases h : 0 ≤ a ∧ a ≤ 4294967295 <;> simp [h]
theorem impl_WideOk_is (a b : Int) : impl_WideOk.f a b = some (wideOk a b) := by
 unfold impl_WideOk.f wideOk
 rw [impl_HalfOk_is,impl_HalfOk_is]
 by_cases h : 0 ≤ a ∧ a ≤ 4294967295 <;> simp [h]
def widesOk : List S107 → Bool
 | [] => true
 | x :: l => wideOk x.f0 x.f1 && widesOk l
def callB (a b : Int) (l : List S107) : Bool := widesOk l && (decide (0 ≤ a ∧ a ≤ 4294967295) && (decide (0 ≤ b ∧ b ≤ 4294967295) && ((l.length : Int) == 3)))
theorem rd_atW (l : List S107) (i : Nat) (h : i < l.length) : rd_T107 l (i : Int) = l[i] := by
 unfold rd_T107
 rw [Int.toNat_natCast,List.getD_eq_getElem?_getD,List.getElem?_eq_getElem h]
 rfl
theorem callEnd (a b : Int) (l : List S107) (F : Int → Option Bool) (hF : ∀ x,F x = some (decide (0 ≤ x ∧ x ≤ 4294967295))) :
  ((F a).bind fun t110 => (if t110 = true then ((F b).bind fun t111 => (if t111 = true then (some ((l.length : Int) == 3)) else (some false))) else (some false))) = some (decide (0 ≤ a ∧ a ≤ 4294967295) && (decide (0 ≤ b ∧ b ≤ 4294967295) && ((l.length : Int) == 3))) := by
 rw [hF,hF]
 by_cases h1 : 0 ≤ a ∧ a ≤ 4294967295 <;> by_cases h2 : 0 ≤ b ∧ b ≤ 4294967295 <;> simp [h1,h2]
theorem spec_CallOk_l0 (a b : Int) (l : List S107) (hl : l.length ≤ 2000000) (d : Nat) : ∀ (i : Nat),i + d = l.length →
  Ev (fun k => spec_CallOk.l0 k (i : Int) a b l) (widesOk (l.drop i) && (decide (0 ≤ a ∧ a ≤ 4294967295) && (decide (0 ≤ b ∧ b ≤ 4294967295) && ((l.length : Int) == 3)))) := by
 induction d with
 | zero =>
  intro i hi
  rw [List.drop_eq_nil_of_le (by omega)]
  refine Ev.step (f := fun _ => some (decide (0 ≤ a ∧ a ≤ 4294967295) && (decide (0 ≤ b ∧ b ≤ 4294967295) && ((l.length : Int) == 3)))) (fun k => ?_) (Math.Ev.const (by simp [widesOk]))
  show spec_CallOk.l0 (k + 1) (i : Int) a b l = _
  rw [spec_CallOk.l0,if_neg (by omega)]
  exact callEnd a b l _ spec_HalfOk_is
 | succ d ih =>
  intro i hi
  have hlt : i < l.length := by omega
  rw [List.drop_eq_getElem_cons hlt]
  simp only [widesOk]
  by_cases c : wideOk l[i].f0 l[i].f1 = true
  ·
   rw [c,Bool.true_and]
   refine Ev.step (fun k => ?_) (ih (i + 1) (by omega))
   show spec_CallOk.l0 (k + 1) (i : Int) a b l = _
   rw [spec_CallOk.l0,if_pos (by omega),if_pos (by omega),rd_atW l i hlt,spec_WideOk_is,Option.bind_some,if_pos c,show wrap64 ((i : Int) + 1) = ((i + 1 : Nat) : Int) from by rw [Math.wrap_in (by omega) (by omega)]; omega]
  ·
   rw [Bool.eq_false_iff.2 c,Bool.false_and,Bool.false_and]
   refine Ev.step (f := fun _ => some false) (fun k => ?_) (Math.Ev.const rfl)
   show spec_CallOk.l0 (k + 1) (i : Int) a b l = _
   rw [spec_CallOk.l0,if_pos (by omega),if_pos (by omega),rd_atW l i hlt,spec_WideOk_is,Option.bind_some,if_neg c]
theorem spec_CallOk_ev (a b : Int) (l : List S107) (hl : l.length ≤ 2000000) : Ev (fun k => spec_CallOk.f k a b l) (callB a b l) := spec_CallOk_l0 a b l hl l.length 0 (by omega)
theorem impl_CallOk_l0 (a b : Int) (l : List S107) (hl : l.length ≤ 2000000) (d : Nat) : ∀ (i : Nat),i + d = l.length →
  Ev (fun k => impl_CallOk.l0 k l (l.length : Int) (i : Int) a b l) (widesOk (l.drop i) && (decide (0 ≤ a ∧ a ≤ 4294967295) && (decide (0 ≤ b ∧ b ≤ 4294967295) && ((l.length : Int) == 3)))) := by
 induction d with
 | zero =>
  intro i hi
  rw [List.drop_eq_nil_of_le (by omega)]
  refine Ev.step (f := fun _ => some (decide (0 ≤ a ∧ a ≤ 4294967295) && (decide (0 ≤ b ∧ b ≤ 4294967295) && ((l.length : Int) == 3)))) (fun k => ?_) (Math.Ev.const (by simp [widesOk]))
  show impl_CallOk.l0 (k + 1) l _ (i : Int) a b l = _
  rw [impl_CallOk.l0,if_neg (by omega)]
  exact callEnd a b l _ impl_HalfOk_is
 | succ d ih =>
  intro i hi
  have hlt : i < l.length := by omega
  rw [List.drop_eq_getElem_cons hlt]
  simp only [widesOk]
  by_cases c : wideOk l[i].f0 l[i].f1 = true
  ·
   rw [c,Bool.true_and]
   refine Ev.step (fun k => ?_) (ih (i + 1) (by omega))
   show impl_CallOk.l0 (k + 1) l _ (i : Int) a b l = _
   rw [impl_CallOk.l0,if_pos (by omega),if_pos (by omega),if_pos (by omega),rd_atW l i hlt,impl_WideOk_is,Option.bind_some,if_pos c,show wrap64 ((i : Int) + 1) = ((i + 1 : Nat) : Int) from by rw [Math.wrap_in (by omega) (by omega)]; omega]
  ·
   rw [Bool.eq_false_iff.2 c,Bool.false_and,Bool.false_and]
   refine Ev.step (f := fun _ => some false) (fun k => ?_) (Math.Ev.const rfl)
   show impl_CallOk.l0 (k + 1) l _ (i : Int) a b l = _
   rw [impl_CallOk.l0,if_pos (by omega),if_pos (by omega),if_pos (by omega),rd_atW l i hlt,impl_WideOk_is,Option.bind_some,if_neg c]
theorem impl_CallOk_ev (a b : Int) (l : List S107) (hl : l.length ≤ 2000000) : Ev (fun k => impl_CallOk.f k a b l) (callB a b l) := impl_CallOk_l0 a b l hl l.length 0 (by omega)
theorem callB_len {a b : Int} {l : List S107} (h : callB a b l = true) : l.length = 3 := by
 unfold callB at h
 simp at h
 omega
def fieldAt (a b : Int) (l : List S107) (p : Int) : Int × Bool :=
 if callB a b l = true ∧ (0 ≤ p ∧ p ≤ 7) then
  if p = 0 then (b,true) else if p = 1 then (a,true) else if Int.tmod p 2 = 0 then ((rd_T107 l (p / 2 - 1)).f1,true) else ((rd_T107 l (p / 2 - 1)).f0,true)
 else (0,false)
theorem spec_FieldAt_ev (a b : Int) (l : List S107) (hl : l.length ≤ 2000000) (p : Int) (hp : -9223372036854775808 ≤ p ∧ p ≤ 9223372036854775807) : Ev (fun k => spec_FieldAt.f k a b l p) (fieldAt a b l p) := by
 refine Ev.congr (f := fun k => (spec_CallOk.f k a b l).bind fun t137 => (if t137 = true then (spec_FieldAt.j0 k p (!decide (0 ≤ p ∧ p ≤ 7)) a b l) else (spec_FieldAt.j0 k p true a b l))) (fun k => by unfold spec_FieldAt.f; rw [spec_l01In_is]; rfl) ?_
 refine Ev.bind (f := fun k t137 => (if t137 = true then (spec_FieldAt.j0 k p (!decide (0 ≤ p ∧ p ≤ 7)) a b l) else (spec_FieldAt.j0 k p true a b l))) (spec_CallOk_ev a b l hl) ?_
 unfold fieldAt
 have hno : Ev (fun k => spec_FieldAt.j0 k p true a b l) (0,false) := Ev.step (f := fun _ => some (0,false)) (fun k => by rw [spec_FieldAt.j0,if_pos rfl]) (Math.Ev.const rfl)
 by_cases c : callB a b l = true
 ·
  have h3 := callB_len c
  by_cases h : 0 ≤ p ∧ p ≤ 7
  ·
   rw [if_pos ⟨c,h⟩]
   refine Ev.congr (f := fun k => spec_FieldAt.j0 k p false a b l) (fun k => by rw [if_pos c,decide_eq_true h]; rfl) ?_
   refine Ev.step (f := fun _ => some (if p = 0 then (b,true) else if p = 1 then (a,true) else if Int.tmod p 2 = 0 then ((rd_T107 l (p / 2 - 1)).f1,true) else ((rd_T107 l (p / 2 - 1)).f0,true))) (fun k => ?_) (Math.Ev.const rfl)
   rw [spec_FieldAt.j0,if_neg (by decide)]
   by_cases h0 : p = 0
   ·
    rw [if_pos h0,if_pos h0]
   ·
    rw [if_neg h0,if_neg h0]
    by_cases h1 : p = 1
    ·
     rw [if_pos h1,if_pos h1]
    ·
     rw [if_neg h1,if_neg h1]
     have e : wrap64 (Int.tdiv (wrap64 (p - 2)) 2) = p / 2 - 1 := by
      rw [Math.wrap_in (n := p - 2) (by omega) (by omega),Int.tdiv_eq_ediv_of_nonneg (by omega),Math.wrap_in (by omega) (by omega)]
      omega
     rw [e,if_pos (by omega),if_pos (by omega)]
     split <;> rfl
  ·
   rw [if_neg (fun e => h e.2)]
   refine Ev.congr (f := fun k => spec_FieldAt.j0 k p true a b l) (fun k => by rw [if_pos c,decide_eq_false h]; rfl) hno
 ·
  rw [if_neg (fun e => c e.1)]
  exact Ev.congr (f := fun k => spec_FieldAt.j0 k p true a b l) (fun k => by rw [if_neg c]) hno
theorem impl_FieldAt_ev (a b : Int) (l : List S107) (hl : l.length ≤ 2000000) (p : Int) (hp : -9223372036854775808 ≤ p ∧ p ≤ 9223372036854775807) : Ev (fun k => impl_FieldAt.f k a b l p) (fieldAt a b l p) := by
 refine Ev.congr (f := fun k => (impl_CallOk.f k a b l).bind fun t137 => (if t137 = true then (impl_FieldAt.j0 k p (!decide (0 ≤ p ∧ p ≤ 7)) a b l) else (impl_FieldAt.j0 k p true a b l))) (fun k => by unfold impl_FieldAt.f; rw [impl_within_is]; rfl) ?_
 refine Ev.bind (f := fun k t137 => (if t137 = true then (impl_FieldAt.j0 k p (!decide (0 ≤ p ∧ p ≤ 7)) a b l) else (impl_FieldAt.j0 k p true a b l))) (impl_CallOk_ev a b l hl) ?_
 unfold fieldAt
 have hno : Ev (fun k => impl_FieldAt.j0 k p true a b l) (0,false) := Ev.step (f := fun _ => some (0,false)) (fun k => by rw [impl_FieldAt.j0,if_pos rfl]) (Math.Ev.const rfl)
 by_cases c : callB a b l = true
 ·
  have h3 := callB_len c
  by_cases h : 0 ≤ p ∧ p ≤ 7
  ·
   rw [if_pos ⟨c,h⟩]
   refine Ev.congr (f := fun k => impl_FieldAt.j0 k p false a b l) (fun k => by rw [if_pos c,decide_eq_true h]; rfl) ?_
   refine Ev.step (f := fun _ => some (if p = 0 then (b,true) else if p = 1 then (a,true) else if Int.tmod p 2 = 0 then ((rd_T107 l (p / 2 - 1)).f1,true) else ((rd_T107 l (p / 2 - 1)).f0,true))) (fun k => ?_) (Math.Ev.const rfl)
   rw [impl_FieldAt.j0,if_neg (by decide)]
   by_cases h0 : p = 0
   ·
    rw [if_pos h0,if_pos h0]
   ·
    rw [if_neg h0,if_neg h0]
    by_cases h1 : p = 1
    ·
     rw [if_pos h1,if_pos h1]
    ·
     rw [if_neg h1,if_neg h1]
     have e : wrap64 (wrap64 (Int.tdiv p 2) - 1) = p / 2 - 1 := by
      rw [Int.tdiv_eq_ediv_of_nonneg (by omega),Math.wrap_in (n := p / 2) (by omega) (by omega),Math.wrap_in (by omega) (by omega)]
     rw [e]
     by_cases ht : Int.tmod p 2 = 0
     ·
      rw [if_pos ht,if_pos ht,if_pos (by omega),if_pos (by omega)]
     ·
      rw [if_neg ht,if_neg ht,if_pos (by omega),if_pos (by omega)]
  ·
   rw [if_neg (fun e => h e.2)]
   refine Ev.congr (f := fun k => impl_FieldAt.j0 k p true a b l) (fun k => by rw [if_pos c,decide_eq_false h]; rfl) hno
 ·
  rw [if_neg (fun e => c e.1)]
  exact Ev.congr (f := fun k => impl_FieldAt.j0 k p true a b l) (fun k => by rw [if_neg c]) hno
def InsP (o c y n : Int) : Prop := (1 ≤ o ∧ o ≤ 8) ∧ (0 ≤ c ∧ c ≤ 4294967295) ∧ (0 ≤ y ∧ y ≤ 15) ∧ (0 ≤ n ∧ n ≤ 15) ∧ ((3 ≤ o ∧ o ≤ 6) ∨ (y = 0 ∧ n = 0)) ∧ (o = 1 → c < 8) ∧ (o = 7 → c < 400)
instance (o c y n : Int) : Decidable (InsP o c y n) := by unfold InsP; infer_instance
theorem spec_InsOk_ev (o c y n : Int) : Ev (fun k => spec_InsOk.f k o c y n) (decide (InsP o c y n)) := by
 refine ⟨2,fun k hk => ?_⟩
 obtain ⟨m,rfl⟩ : ∃ m,k = m + 2 := ⟨k - 2,by omega⟩
 show spec_InsOk.f (m + 2) o c y n = _
 unfold spec_InsOk.f
 rw [spec_l01In_is,spec_HalfOk_is,spec_l01In_is,spec_l01In_is]
 simp only [Option.bind_some]
 have hf : ¬ InsP o c y n → spec_InsOk.j0 (m + 2) true o c y n = some (decide (InsP o c y n)) := by
  intro h
  rw [spec_InsOk.j0,if_pos rfl,decide_eq_false h]
 by_cases h1 : 1 ≤ o ∧ o ≤ 8
 ·
  by_cases h2 : 0 ≤ c ∧ c ≤ 4294967295
  ·
   by_cases h3 : 0 ≤ y ∧ y ≤ 15
   ·
    by_cases h4 : 0 ≤ n ∧ n ≤ 15
    ·
     rw [if_pos (decide_eq_true h1),if_pos (decide_eq_true h2),if_pos (decide_eq_true h3),decide_eq_true h4]
     show spec_InsOk.j0 (m + 2) false o c y n = _
     rw [spec_InsOk.j0,if_neg (by decide)]
     have ha : spec_l06Ask.f o = some (decide (3 ≤ o ∧ o ≤ 6)) := by unfold spec_l06Ask.f; rw [spec_l01In_is]; rfl
     rw [ha]
     simp only [Option.bind_some]
     by_cases h5 : 3 ≤ o ∧ o ≤ 6
     ·
      rw [if_pos (decide_eq_true h5),spec_InsOk.j1,if_neg (by decide),if_neg (by omega),if_neg (by omega)]
      have : InsP o c y n := ⟨h1,h2,h3,h4,.inl h5,fun e => by omega,fun e => by omega⟩
      rw [decide_eq_true this]
     ·
      rw [if_neg (by rw [decide_eq_false h5]; decide)]
      by_cases h6 : y = 0
      ·
       rw [if_pos h6]
       by_cases h7 : n = 0
       ·
        rw [show (n != 0) = false from by simp [h7],spec_InsOk.j1,if_neg (by decide)]
        by_cases h8 : o = 1
        ·
         rw [if_pos h8]
         congr 1
         refine decide_eq_decide.2 ⟨fun h => ⟨h1,h2,h3,h4,.inr ⟨h6,h7⟩,fun _ => h,fun e => by omega⟩,fun h => h.2.2.2.2.2.1 h8⟩
        ·
         rw [if_neg h8]
         by_cases h9 : o = 7
         ·
          rw [if_pos h9]
          congr 1
          refine decide_eq_decide.2 ⟨fun h => ⟨h1,h2,h3,h4,.inr ⟨h6,h7⟩,fun e => by omega,fun _ => h⟩,fun h => h.2.2.2.2.2.2 h9⟩
         ·
          rw [if_neg h9]
          have : InsP o c y n := ⟨h1,h2,h3,h4,.inr ⟨h6,h7⟩,fun e => absurd e h8,fun e => absurd e h9⟩
          rw [decide_eq_true this]
       ·
        rw [show (n != 0) = true from by simp [h7],spec_InsOk.j1,if_pos rfl]
        have : ¬ InsP o c y n := fun h => by have := h.2.2.2.2.1; omega
        rw [decide_eq_false this]
      ·
       rw [if_neg h6,spec_InsOk.j1,if_pos rfl]
       have : ¬ InsP o c y n := fun h => by have := h.2.2.2.2.1; omega
       rw [decide_eq_false this]
    ·
     rw [if_pos (decide_eq_true h1),if_pos (decide_eq_true h2),if_pos (decide_eq_true h3),decide_eq_false h4]
     exact hf (fun h => h4 h.2.2.2.1)
   ·
    rw [if_pos (decide_eq_true h1),if_pos (decide_eq_true h2),if_neg (by rw [decide_eq_false h3]; decide)]
    exact hf (fun h => h3 h.2.2.1)
  ·
   rw [if_pos (decide_eq_true h1),if_neg (by rw [decide_eq_false h2]; decide)]
   exact hf (fun h => h2 h.2.1)
 ·
  rw [if_neg (by rw [decide_eq_false h1]; decide)]
  exact hf (fun h => h1 h.1)
theorem impl_asks_is (o c y n : Int) : impl_Ins_asks.f o c y n = some (decide (3 ≤ o ∧ o ≤ 6)) := by unfold impl_Ins_asks.f; rw [impl_within_is]; rfl
theorem impl_InsOk_ev (o c y n : Int) : Ev (fun k => impl_InsOk.f k o c y n) (decide (InsP o c y n)) := by
 refine ⟨2,fun k hk => ?_⟩
 obtain ⟨m,rfl⟩ : ∃ m,k = m + 2 := ⟨k - 2,by omega⟩
 show impl_InsOk.f (m + 2) o c y n = _
 unfold impl_InsOk.f
 rw [impl_asks_is]
 simp only [Option.bind_some]
 by_cases h5 : 3 ≤ o ∧ o ≤ 6
 ·
  rw [if_pos (decide_eq_true h5),impl_HalfOk_is,impl_within_is,impl_within_is]
  simp only [Option.bind_some]
  by_cases h2 : 0 ≤ c ∧ c ≤ 4294967295
  ·
   rw [if_pos (decide_eq_true h2)]
   by_cases h3 : 0 ≤ y ∧ y ≤ 15
   ·
    rw [if_pos (decide_eq_true h3)]
    congr 1
    exact decide_eq_decide.2 ⟨fun h => ⟨by omega,h2,h3,h,.inl h5,fun e => by omega,fun e => by omega⟩,fun h => h.2.2.2.1⟩
   ·
    rw [if_neg (by rw [decide_eq_false h3]; decide),decide_eq_false (fun h : InsP o c y n => h3 h.2.2.1)]
  ·
   rw [if_neg (by rw [decide_eq_false h2]; decide),decide_eq_false (fun h : InsP o c y n => h2 h.2.1)]
 ·
  rw [if_neg (by rw [decide_eq_false h5]; decide)]
  have hf : ¬ InsP o c y n → impl_InsOk.j0 (m + 2) true o c y n = some (decide (InsP o c y n)) := by
   intro h
   rw [impl_InsOk.j0,if_pos rfl,decide_eq_false h]
  by_cases h6 : y = 0
  ·
   rw [if_pos h6]
   by_cases h7 : n = 0
   ·
    rw [show (n != 0) = false from by simp [h7],impl_InsOk.j0,if_neg (by decide),impl_within_is,impl_within_is,impl_HalfOk_is]
    simp only [Option.bind_some]
    by_cases h8 : o = 1
    ·
     rw [if_pos h8]
     congr 1
     exact decide_eq_decide.2 ⟨fun h => ⟨by omega,by omega,by omega,by omega,.inr ⟨h6,h7⟩,fun _ => by omega,fun e => by omega⟩,fun h => by have := h.2.2.2.2.2.1 h8; have := h.2.1; omega⟩
    ·
     rw [if_neg h8]
     by_cases h9 : o = 7
     ·
      rw [if_pos h9]
      congr 1
      exact decide_eq_decide.2 ⟨fun h => ⟨by omega,by omega,by omega,by omega,.inr ⟨h6,h7⟩,fun e => by omega,fun _ => by omega⟩,fun h => by have := h.2.2.2.2.2.2 h9; have := h.2.1; omega⟩
     ·
      rw [if_neg h9]
      by_cases h10 : o = 2
      ·
       rw [if_pos h10]
       congr 1
       exact decide_eq_decide.2 ⟨fun h => ⟨by omega,h,by omega,by omega,.inr ⟨h6,h7⟩,fun e => by omega,fun e => by omega⟩,fun h => h.2.1⟩
      ·
       rw [if_neg h10]
       by_cases h11 : o = 8
       ·
        rw [if_pos h11]
        congr 1
        exact decide_eq_decide.2 ⟨fun h => ⟨by omega,h,by omega,by omega,.inr ⟨h6,h7⟩,fun e => by omega,fun e => by omega⟩,fun h => h.2.1⟩
       ·
        rw [if_neg h11,decide_eq_false (fun h : InsP o c y n => by have := h.1; omega)]
   ·
    rw [show (n != 0) = true from by simp [h7]]
    exact hf (fun h => by have := h.2.2.2.2.1; omega)
  ·
   rw [if_neg h6]
   exact hf (fun h => by have := h.2.2.2.2.1; omega)
theorem rd_at (l : List S25) (i : Nat) (h : i < l.length) : rd_T25 l (i : Int) = l[i] := by
 unfold rd_T25
 rw [Int.toNat_natCast,List.getD_eq_getElem?_getD,List.getElem?_eq_getElem h]
 rfl
def farOk (n : Nat) (i : Nat) (x : S25) : Prop := ((3 ≤ x.f0 ∧ x.f0 ≤ 6) → (i : Int) + 1 + x.f2 < n ∧ (i : Int) + 1 + x.f3 < n) ∧ (x.f0 = 7 → (i : Int) + 1 + x.f1 < n)
instance (n i : Nat) (x : S25) : Decidable (farOk n i x) := by unfold farOk; infer_instance
def wordsOk (n : Nat) : List S25 → Nat → Bool
 | [],_ => true
 | x :: l,i => decide (InsP x.f0 x.f1 x.f2 x.f3 ∧ farOk n i x) && wordsOk n l (i + 1)
def lastRet (l : List S25) : Bool := (rd_T25 l ((l.length - 1 : Nat) : Int)).f0 == 8
def checkB (l : List S25) : Bool := decide (1 ≤ l.length ∧ l.length ≤ 400) && (wordsOk l.length l 0 && lastRet l)
theorem spec_Check_l0 (l : List S25) (hl : 1 ≤ l.length) (hl2 : l.length ≤ 400) (d : Nat) : ∀ (i : Nat),i + d = l.length →
  Ev (fun k => spec_CheckProgram.l0 k l (i : Int)) (wordsOk l.length (l.drop i) i && lastRet l) := by
 induction d with
 | zero =>
  intro i hi
  rw [List.drop_eq_nil_of_le (by omega)]
  refine Ev.step (f := fun _ => some (lastRet l)) (fun k => ?_) (Math.Ev.const (by simp [wordsOk]))
  show spec_CheckProgram.l0 (k + 1) l (i : Int) = _
  rw [spec_CheckProgram.l0,if_neg (by omega),show wrap64 ((l.length : Int) - 1) = ((l.length - 1 : Nat) : Int) from by rw [Math.wrap_in (by omega) (by omega)]; omega,if_pos (by omega),if_pos (by omega)]
  rfl
 | succ d ih =>
  intro i hi
  have hlt : i < l.length := by omega
  have e1 : PLift (wrap64 ((i : Int) + 1) = ((i + 1 : Nat) : Int)) := ⟨by rw [Math.wrap_in (by omega) (by omega)]; omega⟩
  rw [List.drop_eq_getElem_cons hlt]
  simp only [wordsOk]
  have hlast : i + 1 = l.length → lastRet l = (l[i].f0 == 8) := by
   intro h
   unfold lastRet
   rw [show l.length - 1 = i from by omega,rd_at l i hlt]
  generalize hx : l[i] = x at *
  have hnext := ih (i + 1) (by omega)
  refine Ev.step (f := fun k => (spec_InsOk.f k x.f0 x.f1 x.f2 x.f3).bind fun t130 => (if t130 = true then (if x.f0 = 8 then (spec_CheckProgram.l0 k l ((i + 1 : Nat) : Int)) else ((spec_l07Far.f x.f0 x.f1 x.f2 x.f3).bind fun t133 => (if (wrap64 (((i + 1 : Nat) : Int) + t133)) ≥ (l.length : Int) then (some false) else (spec_CheckProgram.l0 k l ((i + 1 : Nat) : Int))))) else (some false))) (fun k => ?_) ?_
  ·
   show spec_CheckProgram.l0 (k + 1) l (i : Int) = _
   rw [spec_CheckProgram.l0,if_pos (by omega),if_pos (by omega),rd_at l i hlt,hx,e1.down]
  ·
   refine Ev.bind (f := fun k t130 => (if t130 = true then (if x.f0 = 8 then (spec_CheckProgram.l0 k l ((i + 1 : Nat) : Int)) else ((spec_l07Far.f x.f0 x.f1 x.f2 x.f3).bind fun t133 => (if (wrap64 (((i + 1 : Nat) : Int) + t133)) ≥ (l.length : Int) then (some false) else (spec_CheckProgram.l0 k l ((i + 1 : Nat) : Int))))) else (some false))) (spec_InsOk_ev _ _ _ _) ?_
   by_cases c : InsP x.f0 x.f1 x.f2 x.f3
   ·
    refine Ev.congr (f := fun k => if x.f0 = 8 then (spec_CheckProgram.l0 k l ((i + 1 : Nat) : Int)) else ((spec_l07Far.f x.f0 x.f1 x.f2 x.f3).bind fun t133 => (if (wrap64 (((i + 1 : Nat) : Int) + t133)) ≥ (l.length : Int) then (some false) else (spec_CheckProgram.l0 k l ((i + 1 : Nat) : Int))))) (fun k => if_pos (decide_eq_true c)) ?_
    have c' := c
    unfold InsP at c'
    by_cases h8 : x.f0 = 8
    ·
     have hw : InsP x.f0 x.f1 x.f2 x.f3 ∧ farOk l.length i x := ⟨c,by unfold farOk; omega⟩
     rw [decide_eq_true hw,Bool.true_and]
     exact Ev.congr (fun k => if_pos h8) hnext
    ·
     refine Ev.congr (fun k => if_neg h8) ?_
     obtain ⟨far,hfar,h7,hyn,hb0,hb1⟩ : ∃ far : Int,spec_l07Far.f x.f0 x.f1 x.f2 x.f3 = some far ∧ (x.f0 = 7 → far = x.f1) ∧ (x.f0 ≠ 7 → x.f2 ≤ far ∧ x.f3 ≤ far ∧ (far = x.f2 ∨ far = x.f3)) ∧ 0 ≤ far ∧ far ≤ 4294967295 := by
      unfold spec_l07Far.f
      by_cases h7 : x.f0 = 7
      ·
       exact ⟨x.f1,by rw [if_pos h7],fun _ => rfl,fun h => absurd h7 h,by omega,by omega⟩
      ·
       by_cases hyn : x.f2 > x.f3
       ·
        exact ⟨x.f2,by rw [if_neg h7,if_pos hyn],fun h => absurd h h7,fun _ => by omega,by omega,by omega⟩
       ·
        exact ⟨x.f3,by rw [if_neg h7,if_neg hyn],fun h => absurd h h7,fun _ => by omega,by omega,by omega⟩
     rw [hfar]
     have ew : PLift (wrap64 (((i + 1 : Nat) : Int) + far) = (i : Int) + 1 + far) := ⟨by rw [Math.wrap_in (by omega) (by omega)]; omega⟩
     refine Ev.congr (f := fun k => if (i : Int) + 1 + far ≥ (l.length : Int) then (some false) else (spec_CheckProgram.l0 k l ((i + 1 : Nat) : Int))) (fun k => by rw [Option.bind_some,ew.down]) ?_
     by_cases hge : (i : Int) + 1 + far ≥ (l.length : Int)
     ·
      refine Ev.congr (f := fun _ => some false) (fun k => if_pos hge) (Math.Ev.const ?_)
      congr 1
      by_cases hw : farOk l.length i x
      ·
       have hw' := hw
       unfold farOk at hw'
       rw [hlast (by omega),show (x.f0 == 8) = false from by simpa using h8,Bool.and_false]
      ·
       rw [decide_eq_false (fun h => hw h.2),Bool.false_and,Bool.false_and]
     ·
      refine Ev.congr (fun k => if_neg hge) ?_
      have hw : InsP x.f0 x.f1 x.f2 x.f3 ∧ farOk l.length i x := ⟨c,by unfold farOk; omega⟩
      rw [decide_eq_true hw,Bool.true_and]
      exact hnext
   ·
    rw [decide_eq_false (fun h : InsP x.f0 x.f1 x.f2 x.f3 ∧ farOk l.length i x => c h.1),Bool.false_and,Bool.false_and]
    exact Ev.congr (f := fun _ => some false) (fun k => by rw [decide_eq_false c]; rfl) (Math.Ev.const rfl)
theorem spec_Check_ev (l : List S25) : Ev (fun k => spec_CheckProgram.f k l) (checkB l) := by
 refine Ev.congr (f := fun k => if decide (1 ≤ (l.length : Int) ∧ (l.length : Int) ≤ 400) = true then (spec_CheckProgram.l0 k l 0) else (some false)) (fun k => by unfold spec_CheckProgram.f; rw [spec_l01In_is,Option.bind_some]) ?_
 unfold checkB
 by_cases c : 1 ≤ l.length ∧ l.length ≤ 400
 ·
  rw [decide_eq_true c,Bool.true_and]
  refine Ev.congr (fun k => if_pos (decide_eq_true (by omega))) ?_
  exact spec_Check_l0 l c.1 c.2 l.length 0 (by omega)
 ·
  rw [decide_eq_false c,Bool.false_and]
  exact Ev.congr (f := fun _ => some false) (fun k => by rw [decide_eq_false (by omega)]; rfl) (Math.Ev.const rfl)
theorem impl_farthest_is (x : S25) (i : Nat) (hi : i ≤ 1000) (c : InsP x.f0 x.f1 x.f2 x.f3) (n : Nat) (hn : i < n) :
  ∃ far : Int,impl_farthest.f x.f0 x.f1 x.f2 x.f3 (i : Int) = some far ∧ (far ≥ (n : Int) ↔ ¬ farOk n i x) := by
 unfold impl_farthest.f
 rw [impl_asks_is,Option.bind_some]
 unfold InsP at c
 by_cases h : 3 ≤ x.f0 ∧ x.f0 ≤ 6
 ·
  refine ⟨(i : Int) + 1 + mx x.f2 x.f3,?_,?_⟩
  ·
   rw [if_pos (decide_eq_true h)]
   have : 0 ≤ mx x.f2 x.f3 ∧ mx x.f2 x.f3 ≤ 15 := by unfold mx; split <;> omega
   rw [Math.wrap_in (n := (i : Int) + 1) (by omega) (by omega),Math.wrap_in (by omega) (by omega)]
  ·
   unfold mx farOk
   split <;> omega
 ·
  rw [if_neg (by rw [decide_eq_false h]; decide)]
  by_cases h7 : x.f0 = 7
  ·
   refine ⟨(i : Int) + 1 + x.f1,?_,?_⟩
   ·
    rw [if_pos h7,Math.wrap_in (n := (i : Int) + 1) (by omega) (by omega),Math.wrap_in (by omega) (by omega)]
   ·
    unfold farOk
    omega
  ·
   refine ⟨(i : Int),by rw [if_neg h7],?_⟩
   unfold farOk
   omega
theorem impl_Check_l0 (l : List S25) (hl : 1 ≤ l.length) (hl2 : l.length ≤ 400) (d : Nat) : ∀ (i : Nat),i + d = l.length →
  Ev (fun k => impl_CheckProgram.l0 k (l.length : Int) l (l.length : Int) (i : Int)) (wordsOk l.length (l.drop i) i) := by
 induction d with
 | zero =>
  intro i hi
  rw [List.drop_eq_nil_of_le (by omega)]
  refine Ev.step (f := fun _ => some true) (fun k => ?_) (Math.Ev.const rfl)
  show impl_CheckProgram.l0 (k + 1) _ l _ (i : Int) = _
  rw [impl_CheckProgram.l0,if_neg (by omega)]
 | succ d ih =>
  intro i hi
  have hlt : i < l.length := by omega
  have e1 : PLift (wrap64 ((i : Int) + 1) = ((i + 1 : Nat) : Int)) := ⟨by rw [Math.wrap_in (by omega) (by omega)]; omega⟩
  rw [List.drop_eq_getElem_cons hlt]
  simp only [wordsOk]
  have hnext := ih (i + 1) (by omega)
  generalize hx : l[i] = x at *
  refine Ev.step (f := fun k => (impl_InsOk.f k x.f0 x.f1 x.f2 x.f3).bind fun t130 => (if t130 = true then ((impl_farthest.f x.f0 x.f1 x.f2 x.f3 (i : Int)).bind fun t153 => (if t153 ≥ (l.length : Int) then (some false) else (impl_CheckProgram.l0 k (l.length : Int) l (l.length : Int) ((i + 1 : Nat) : Int)))) else (some false))) (fun k => ?_) ?_
  ·
   show impl_CheckProgram.l0 (k + 1) _ l _ (i : Int) = _
   rw [impl_CheckProgram.l0,if_pos (by omega),if_pos (by omega),if_pos (by omega),rd_at l i hlt,hx,e1.down]
  ·
   refine Ev.bind (f := fun k t130 => (if t130 = true then ((impl_farthest.f x.f0 x.f1 x.f2 x.f3 (i : Int)).bind fun t153 => (if t153 ≥ (l.length : Int) then (some false) else (impl_CheckProgram.l0 k (l.length : Int) l (l.length : Int) ((i + 1 : Nat) : Int)))) else (some false))) (impl_InsOk_ev _ _ _ _) ?_
   by_cases c : InsP x.f0 x.f1 x.f2 x.f3
   ·
    refine Ev.congr (fun k => if_pos (decide_eq_true c)) ?_
    obtain ⟨far,hfar,hiff⟩ := impl_farthest_is x i (by omega) c l.length hlt
    rw [hfar]
    refine Ev.congr (f := fun k => if far ≥ (l.length : Int) then (some false) else (impl_CheckProgram.l0 k (l.length : Int) l (l.length : Int) ((i + 1 : Nat) : Int))) (fun k => Option.bind_some _ _) ?_
    by_cases hge : far ≥ (l.length : Int)
    ·
     rw [decide_eq_false (fun h => hiff.1 hge h.2),Bool.false_and]
     exact Ev.congr (f := fun _ => some false) (fun k => if_pos hge) (Math.Ev.const rfl)
    ·
     have hw : farOk l.length i x := Decidable.of_not_not (fun h => hge (hiff.2 h))
     rw [decide_eq_true (⟨c,hw⟩ : InsP x.f0 x.f1 x.f2 x.f3 ∧ farOk l.length i x),Bool.true_and]
     exact Ev.congr (fun k => if_neg hge) hnext
   ·
    rw [decide_eq_false (fun h : InsP x.f0 x.f1 x.f2 x.f3 ∧ farOk l.length i x => c h.1),Bool.false_and]
    exact Ev.congr (f := fun _ => some false) (fun k => by rw [decide_eq_false c]; rfl) (Math.Ev.const rfl)
theorem impl_Check_ev (l : List S25) : Ev (fun k => impl_CheckProgram.f k l) (checkB l) := by
 unfold checkB
 by_cases c : 1 ≤ l.length ∧ l.length ≤ 400
 ·
  rw [decide_eq_true c,Bool.true_and]
  refine Ev.congr (f := fun k => impl_CheckProgram.j0 k l (l.length : Int) (!lastRet l)) (fun k => ?_) ?_
  ·
   show impl_CheckProgram.f k l = _
   unfold impl_CheckProgram.f
   rw [impl_within_is,Option.bind_some,if_pos (decide_eq_true (by omega)),show wrap64 ((l.length : Int) - 1) = ((l.length - 1 : Nat) : Int) from by rw [Math.wrap_in (by omega) (by omega)]; omega,if_pos (by omega),if_pos (by omega)]
   rfl
  ·
   by_cases h : lastRet l = true
   ·
    rw [h,Bool.and_true]
    refine Ev.step (fun k => by rw [impl_CheckProgram.j0,if_neg (by decide)]) ?_
    exact impl_Check_l0 l c.1 c.2 l.length 0 (by omega)
   ·
    rw [Bool.eq_false_iff.2 h,Bool.and_false]
    exact Ev.step (f := fun _ => some false) (fun k => by rw [impl_CheckProgram.j0,if_pos (by decide)]) (Math.Ev.const rfl)
 ·
  rw [decide_eq_false c,Bool.false_and]
  refine Ev.congr (f := fun k => impl_CheckProgram.j0 k l (l.length : Int) true) (fun k => ?_) ?_
  ·
   show impl_CheckProgram.f k l = _
   unfold impl_CheckProgram.f
   rw [impl_within_is,Option.bind_some,if_neg (by rw [decide_eq_false (by omega)]; decide)]
  ·
   exact Ev.step (f := fun _ => some false) (fun k => by rw [impl_CheckProgram.j0,if_pos rfl]) (Math.Ev.const rfl)
theorem wordsOk_at (n : Nat) : ∀ (l : List S25) (i j : Nat) (h : j < l.length),wordsOk n l i = true → InsP l[j].f0 l[j].f1 l[j].f2 l[j].f3 ∧ farOk n (i + j) l[j]
 | [],i,j,h,_ => by simp at h
 | x :: l,i,0,h,hw => by
  simp only [wordsOk,Bool.and_eq_true,decide_eq_true_eq] at hw
  exact hw.1
 | x :: l,i,j + 1,h,hw => by
  simp only [wordsOk,Bool.and_eq_true,decide_eq_true_eq] at hw
  have := wordsOk_at n l (i + 1) j (by simpa using h) hw.2
  rw [show i + 1 + j = i + (j + 1) from by omega] at this
  exact this
theorem check_at {l : List S25} (h : checkB l = true) : (1 ≤ l.length ∧ l.length ≤ 400) ∧ ∀ (j : Nat) (hj : j < l.length),InsP l[j].f0 l[j].f1 l[j].f2 l[j].f3 ∧ farOk l.length j l[j] ∧ (j + 1 = l.length → l[j].f0 = 8) := by
 unfold checkB at h
 simp only [Bool.and_eq_true,decide_eq_true_eq] at h
 refine ⟨h.1,fun j hj => ?_⟩
 have := wordsOk_at l.length l 0 j hj h.2.1
 rw [Nat.zero_add] at this
 refine ⟨this.1,this.2,fun e => ?_⟩
 have hr := h.2.2
 unfold lastRet at hr
 rw [show l.length - 1 = j from by omega,rd_at l j hj] at hr
 simpa using hr
theorem load_bounds (x : S25) (c : InsP x.f0 x.f1 x.f2 x.f3) : -9223372036854775808 ≤ x.f1 ∧ x.f1 ≤ 9223372036854775807 := by
 unfold InsP at c
 omega
theorem run_both (l : List S25) (a b : Int) (cl : List S107) (hcl : cl.length ≤ 2000000) (hc : checkB l = true) (d : Nat) : ∀ (i s : Nat) (reg : Int),i + d = l.length → 1 ≤ d → s ≤ i →
  ∃ r : Int × Int,Ev (fun k => spec_Run.l0 k l reg (s : Int) (i : Int) a b cl) r ∧ Ev (fun k => impl_Run.l0 k l reg (i : Int) ((s + 1 : Nat) : Int) a b cl) r ∧
   ((s : Int) + 1 ≤ r.2 ∧ r.2 ≤ l.length) ∧ ∃ (j : Nat) (hj : j < l.length),l[j].f0 = 8 ∧ l[j].f1 = r.1 := by
 obtain ⟨⟨hn1,hn2⟩,hat⟩ := check_at hc
 induction d using Nat.strongRecOn with
 | ind d ih =>
  intro i s reg hi hd hs
  have hlt : i < l.length := by omega
  obtain ⟨hI,hF,hL⟩ := hat i hlt
  have hI' := hI
  unfold InsP at hI'
  have hF' := hF
  unfold farOk at hF'
  have e1 : PLift (wrap64 ((i : Int) + 1) = ((i + 1 : Nat) : Int)) := ⟨by rw [Math.wrap_in (by omega) (by omega)]; omega⟩
  have e2 : PLift (wrap64 ((s : Int) + 1) = ((s + 1 : Nat) : Int)) := ⟨by rw [Math.wrap_in (by omega) (by omega)]; omega⟩
  have e3 : PLift (wrap64 (((s + 1 : Nat) : Int) + 1) = ((s + 1 + 1 : Nat) : Int)) := ⟨by rw [Math.wrap_in (by omega) (by omega)]; omega⟩
  have hrd := rd_at l i hlt
  generalize hx : l[i] = x at *
  have jump : ∀ (g : Int) (q : Nat) (reg' : Int),g = (q : Int) → (i : Int) + 1 + g < l.length →
    ∃ r : Int × Int,Ev (fun k => spec_Run.l0 k l reg' ((s + 1 : Nat) : Int) ((i + 1 + q : Nat) : Int) a b cl) r ∧ Ev (fun k => impl_Run.l0 k l reg' ((i + 1 + q : Nat) : Int) ((s + 1 + 1 : Nat) : Int) a b cl) r ∧
     (((s + 1 : Nat) : Int) + 1 ≤ r.2 ∧ r.2 ≤ l.length) ∧ ∃ (j : Nat) (hj : j < l.length),l[j].f0 = 8 ∧ l[j].f1 = r.1 := by
   intro g q reg' hg hlt2
   exact ih (l.length - (i + 1 + q)) (by omega) (i + 1 + q) (s + 1) reg' (by omega) (by omega) (by omega)
  have weak : ∀ {r : Int × Int},(((s + 1 : Nat) : Int) + 1 ≤ r.2 ∧ r.2 ≤ l.length) → ((s : Int) + 1 ≤ r.2 ∧ r.2 ≤ l.length) := fun h => ⟨by omega,h.2⟩
  by_cases h1 : x.f0 = 1
  ·
   obtain ⟨r,r1,r2,r3,r4⟩ := jump 0 0 (fieldAt a b cl x.f1).1 rfl (by omega)
   have hb := load_bounds x hI
   refine ⟨r,?_,?_,weak r3,r4⟩
   ·
    refine Ev.step (f := fun k => (spec_FieldAt.f k a b cl x.f1).bind fun bt155 => (spec_Run.l0 k l bt155.1 ((s + 1 : Nat) : Int) ((i + 1 : Nat) : Int) a b cl)) (fun k => ?_) ?_
    ·
     show spec_Run.l0 (k + 1) l _ _ _ a b cl = _
     rw [spec_Run.l0,if_pos (by omega),if_pos (by omega),hrd,if_pos h1,e1.down,e2.down]
    ·
     exact Ev.bind (f := fun k (bt155 : Int × Bool) => (spec_Run.l0 k l bt155.1 ((s + 1 : Nat) : Int) ((i + 1 : Nat) : Int) a b cl)) (spec_FieldAt_ev a b cl hcl x.f1 hb) r1
   ·
    refine Ev.step (f := fun k => (impl_FieldAt.f k a b cl x.f1).bind fun bt155 => (impl_Run.l0 k l bt155.1 ((i + 1 : Nat) : Int) ((s + 1 + 1 : Nat) : Int) a b cl)) (fun k => ?_) ?_
    ·
     show impl_Run.l0 (k + 1) l _ _ _ a b cl = _
     rw [impl_Run.l0,if_pos (by omega),if_pos (by omega),hrd,if_pos h1,e1.down,e3.down]
    ·
     exact Ev.bind (f := fun k (bt155 : Int × Bool) => (impl_Run.l0 k l bt155.1 ((i + 1 : Nat) : Int) ((s + 1 + 1 : Nat) : Int) a b cl)) (impl_FieldAt_ev a b cl hcl x.f1 hb) r2
  ·
   by_cases h2 : x.f0 = 2
   ·
    obtain ⟨r,r1,r2,r3,r4⟩ := jump 0 0 (Go.bits .and .i64 reg x.f1) rfl (by omega)
    refine ⟨r,Ev.step (fun k => ?_) r1,Ev.step (fun k => ?_) r2,weak r3,r4⟩
    ·
     show spec_Run.l0 (k + 1) l _ _ _ a b cl = _
     rw [spec_Run.l0,if_pos (by omega),if_pos (by omega),hrd,if_neg h1,if_pos h2,e1.down,e2.down]
    ·
     show impl_Run.l0 (k + 1) l _ _ _ a b cl = _
     rw [impl_Run.l0,if_pos (by omega),if_pos (by omega),hrd,if_neg h1,if_pos h2,e1.down,e3.down]
   ·
    by_cases h7 : x.f0 = 7
    ·
     obtain ⟨q,hq⟩ := Int.eq_ofNat_of_zero_le (show 0 ≤ x.f1 by omega)
     obtain ⟨r,r1,r2,r3,r4⟩ := jump x.f1 q reg hq (by omega)
     have e4 : PLift (wrap64 (wrap64 ((i : Int) + x.f1) + 1) = ((i + 1 + q : Nat) : Int)) := ⟨by rw [Math.wrap_in (n := (i : Int) + x.f1) (by omega) (by omega),Math.wrap_in (by omega) (by omega)]; omega⟩
     have e5 : PLift (wrap64 (((i + 1 : Nat) : Int) + x.f1) = ((i + 1 + q : Nat) : Int)) := ⟨by rw [Math.wrap_in (by omega) (by omega)]; omega⟩
     refine ⟨r,Ev.step (fun k => ?_) r1,Ev.step (fun k => ?_) r2,weak r3,r4⟩
     ·
      show spec_Run.l0 (k + 1) l _ _ _ a b cl = _
      rw [spec_Run.l0,if_pos (by omega),if_pos (by omega),hrd,if_neg h1,if_neg h2,if_pos h7,e2.down,e4.down]
     ·
      show impl_Run.l0 (k + 1) l _ _ _ a b cl = _
      rw [impl_Run.l0,if_pos (by omega),if_pos (by omega),hrd,if_neg h1,if_neg h2,if_pos h7,e1.down,e3.down,e5.down]
    ·
     by_cases h8 : x.f0 = 8
     ·
      refine ⟨(x.f1,((s + 1 : Nat) : Int)),Ev.step (f := fun _ => some (x.f1,((s + 1 : Nat) : Int))) (fun k => ?_) (Math.Ev.const rfl),Ev.step (f := fun _ => some (x.f1,((s + 1 : Nat) : Int))) (fun k => ?_) (Math.Ev.const rfl),⟨by show (s : Int) + 1 ≤ ((s + 1 : Nat) : Int); omega,by show ((s + 1 : Nat) : Int) ≤ _; omega⟩,i,hlt,by rw [hx]; exact h8,by rw [hx]⟩
      ·
       show spec_Run.l0 (k + 1) l _ _ _ a b cl = _
       rw [spec_Run.l0,if_pos (by omega),if_pos (by omega),hrd,if_neg h1,if_neg h2,if_neg h7,if_pos h8,e2.down]
      ·
       show impl_Run.l0 (k + 1) l _ _ _ a b cl = _
       rw [impl_Run.l0,if_pos (by omega),if_pos (by omega),hrd,if_neg h1,if_neg h2,if_neg h7,if_pos h8]
     ·
      obtain ⟨ans,ha1,ha2⟩ : ∃ ans : Bool,spec_l07Asks.f x.f0 x.f1 x.f2 x.f3 reg = some ans ∧ impl_Ins_holds.f x.f0 x.f1 x.f2 x.f3 reg = some ans := by
       unfold spec_l07Asks.f impl_Ins_holds.f
       split
       ·
        exact ⟨_,rfl,rfl⟩
       ·
        split
        ·
         exact ⟨_,rfl,rfl⟩
        ·
         split
         ·
          exact ⟨_,rfl,rfl⟩
         ·
          exact ⟨_,rfl,rfl⟩
      have hgo : ∀ g : Int,0 ≤ g → g ≤ 15 → (i : Int) + 1 + g < l.length → ∃ q : Nat,wrap64 (wrap64 ((i : Int) + g) + 1) = ((i + 1 + q : Nat) : Int) ∧ wrap64 (((i + 1 : Nat) : Int) + g) = ((i + 1 + q : Nat) : Int) ∧ g = (q : Int) := by
       intro g g0 g1 g2
       obtain ⟨q,hq⟩ := Int.eq_ofNat_of_zero_le g0
       exact ⟨q,by rw [Math.wrap_in (n := (i : Int) + g) (by omega) (by omega),Math.wrap_in (by omega) (by omega)]; omega,by rw [Math.wrap_in (by omega) (by omega)]; omega,hq⟩
      cases hans : ans with
      | true =>
       obtain ⟨q,q1,q2,q3⟩ := hgo x.f2 (by omega) (by omega) (by omega)
       have Q1 := PLift.up q1
       have Q2 := PLift.up q2
       clear q1 q2
       obtain ⟨r,r1,r2,r3,r4⟩ := jump x.f2 q reg q3 (by omega)
       refine ⟨r,Ev.step (fun k => ?_) r1,Ev.step (fun k => ?_) r2,weak r3,r4⟩
       ·
        show spec_Run.l0 (k + 1) l _ _ _ a b cl = _
        rw [spec_Run.l0,if_pos (by omega),if_pos (by omega),hrd,if_neg h1,if_neg h2,if_neg h7,if_neg h8,ha1,Option.bind_some,if_pos hans,e2.down,Q1.down]
       ·
        show impl_Run.l0 (k + 1) l _ _ _ a b cl = _
        rw [impl_Run.l0,if_pos (by omega),if_pos (by omega),hrd,if_neg h1,if_neg h2,if_neg h7,if_neg h8,ha2,Option.bind_some,if_pos hans,e1.down,e3.down,Q2.down]
      | false =>
       obtain ⟨q,q1,q2,q3⟩ := hgo x.f3 (by omega) (by omega) (by omega)
       have Q1 := PLift.up q1
       have Q2 := PLift.up q2
       clear q1 q2
       obtain ⟨r,r1,r2,r3,r4⟩ := jump x.f3 q reg q3 (by omega)
       have hans' : ¬ ans = true := by rw [hans]; decide
       refine ⟨r,Ev.step (fun k => ?_) r1,Ev.step (fun k => ?_) r2,weak r3,r4⟩
       ·
        show spec_Run.l0 (k + 1) l _ _ _ a b cl = _
        rw [spec_Run.l0,if_pos (by omega),if_pos (by omega),hrd,if_neg h1,if_neg h2,if_neg h7,if_neg h8,ha1,Option.bind_some,if_neg hans',e2.down,Q1.down]
       ·
        show impl_Run.l0 (k + 1) l _ _ _ a b cl = _
        rw [impl_Run.l0,if_pos (by omega),if_pos (by omega),hrd,if_neg h1,if_neg h2,if_neg h7,if_neg h8,ha2,Option.bind_some,if_neg hans',e1.down,e3.down,Q2.down]
theorem run_ev (l : List S25) (a b : Int) (cl : List S107) (hcl : cl.length ≤ 2000000) : ∃ r : Int × Int,Ev (fun k => spec_Run.f k l a b cl) r ∧ Ev (fun k => impl_Run.f k l a b cl) r ∧
  (checkB l = true → callB a b cl = true → (1 ≤ r.2 ∧ r.2 ≤ l.length) ∧ ∃ (j : Nat) (hj : j < l.length),l[j].f0 = 8 ∧ l[j].f1 = r.1) := by
 have sno : Ev (fun k => spec_Run.j0 k l true a b cl) (0,0) := Ev.step (f := fun _ => some (0,0)) (fun k => by rw [spec_Run.j0,if_pos rfl]) (Math.Ev.const rfl)
 have ino : Ev (fun k => impl_Run.j0 k l true a b cl) (0,0) := Ev.step (f := fun _ => some (0,0)) (fun k => by rw [impl_Run.j0,if_pos rfl]) (Math.Ev.const rfl)
 have sgo : ∀ {r : Int × Int},Ev (fun k => if checkB l = true then ((spec_CallOk.f k a b cl).bind fun t152 => (spec_Run.j0 k l (!t152) a b cl)) else (spec_Run.j0 k l true a b cl)) r → Ev (fun k => spec_Run.f k l a b cl) r := fun h =>
  Ev.congr (fun k => by unfold spec_Run.f; rfl) (Ev.bind (f := fun k t151 => (if t151 = true then ((spec_CallOk.f k a b cl).bind fun t152 => (spec_Run.j0 k l (!t152) a b cl)) else (spec_Run.j0 k l true a b cl))) (spec_Check_ev l) h)
 have igo : ∀ {r : Int × Int},Ev (fun k => if checkB l = true then ((impl_CallOk.f k a b cl).bind fun t152 => (impl_Run.j0 k l (!t152) a b cl)) else (impl_Run.j0 k l true a b cl)) r → Ev (fun k => impl_Run.f k l a b cl) r := fun h =>
  Ev.congr (fun k => by unfold impl_Run.f; rfl) (Ev.bind (f := fun k t151 => (if t151 = true then ((impl_CallOk.f k a b cl).bind fun t152 => (impl_Run.j0 k l (!t152) a b cl)) else (impl_Run.j0 k l true a b cl))) (impl_Check_ev l) h)
 by_cases c : checkB l = true
 ·
  have sb : ∀ {r : Int × Int},Ev (fun k => spec_Run.j0 k l (!callB a b cl) a b cl) r → Ev (fun k => spec_Run.f k l a b cl) r := fun h =>
   sgo (Ev.congr (fun k => if_pos c) (Ev.bind (f := fun k t152 => (spec_Run.j0 k l (!t152) a b cl)) (spec_CallOk_ev a b cl hcl) h))
  have ib : ∀ {r : Int × Int},Ev (fun k => impl_Run.j0 k l (!callB a b cl) a b cl) r → Ev (fun k => impl_Run.f k l a b cl) r := fun h =>
   igo (Ev.congr (fun k => if_pos c) (Ev.bind (f := fun k t152 => (impl_Run.j0 k l (!t152) a b cl)) (impl_CallOk_ev a b cl hcl) h))
  by_cases cc : callB a b cl = true
  ·
   have hn := (check_at c).1
   obtain ⟨r,r1,r2,r3,r4⟩ := run_both l a b cl hcl c l.length 0 0 0 (by omega) (by omega) (by omega)
   rw [cc] at sb ib
   exact ⟨r,sb (Ev.step (fun k => by rw [spec_Run.j0,if_neg (by decide)]; rfl) r1),ib (Ev.step (fun k => by rw [impl_Run.j0,if_neg (by decide)]; rfl) r2),fun _ _ => ⟨⟨by omega,r3.2⟩,r4⟩⟩
  ·
   rw [Bool.eq_false_iff.2 cc] at sb ib
   exact ⟨(0,0),sb sno,ib ino,fun _ h => absurd h cc⟩
 ·
  exact ⟨(0,0),sgo (Ev.congr (fun k => if_neg c) sno),igo (Ev.congr (fun k => if_neg c) ino),fun h => absurd h c⟩
theorem rdb_at (l : List Bool) (i : Nat) (h : i < l.length) : rdOf false l (i : Int) = l[i] := by
 unfold rdOf
 rw [Int.toNat_natCast,List.getD_eq_getElem?_getD,List.getElem?_eq_getElem h]
 rfl
theorem set_two (o : List Bool) (a b : Nat) : (o.set a true).set b true = (o.set b true).set a true := by
 by_cases h : a = b
 ·
  subst h; rfl
 ·
  exact List.set_comm _ _ h
theorem ways_run (l : List S25) (i : Nat) (hi : i ≤ 1000) (w : List Nat) (d : Nat) : ∀ (j : Nat) (o : List Bool) (r : List Bool),j + d = w.length → w.length ≤ 10 → (∀ g ∈ w,g < o.length) →
  Ev (fun k => impl_Reached.l0 k ((w.drop j).foldl (fun o g => o.set g true) o) l (l.length : Int) ((i + 1 : Nat) : Int)) r →
  Ev (fun k => impl_Reached.l1 k o l (l.length : Int) (i : Int) (w.map (fun g : Nat => (g : Int))) ((w.map (fun g : Nat => (g : Int))).length : Int) (j : Int)) r := by
 induction d with
 | zero =>
  intro j o r hj hw hg h
  rw [List.drop_eq_nil_of_le (by omega)] at h
  refine Ev.step (fun k => ?_) h
  show impl_Reached.l1 (k + 1) o l _ _ _ _ _ = _
  rw [impl_Reached.l1,if_neg (by rw [List.length_map]; omega),show wrap64 ((i : Int) + 1) = ((i + 1 : Nat) : Int) from by rw [Math.wrap_in (by omega) (by omega)]; omega]
  rfl
 | succ d ih =>
  intro j o r hj hw hg h
  have hlt : j < w.length := by omega
  rw [List.drop_eq_getElem_cons hlt] at h
  have hx : rd (w.map (fun g : Nat => (g : Int))) (j : Int) = (w[j] : Int) := by
   unfold rd
   rw [Int.toNat_natCast,List.getD_eq_getElem?_getD,List.getElem?_map,List.getElem?_eq_getElem hlt]
   rfl
  have hb := hg w[j] (List.getElem_mem hlt)
  refine Ev.step (fun k => ?_) (ih (j + 1) (o.set w[j] true) r (by omega) hw (fun g hm => by rw [List.length_set]; exact hg g hm) h)
  show impl_Reached.l1 (k + 1) o l _ _ _ _ _ = _
  rw [impl_Reached.l1,if_pos (by rw [List.length_map]; omega),if_pos (by omega),if_pos (by rw [List.length_map]; omega),hx,if_pos (by omega),if_pos (by omega),Int.toNat_natCast,show wrap64 ((j : Int) + 1) = ((j + 1 : Nat) : Int) from by rw [Math.wrap_in (by omega) (by omega)]; omega]
theorem ways_ev (x : S25) (i : Nat) (hi : i ≤ 1000) (c : InsP x.f0 x.f1 x.f2 x.f3) (n : Nat) (hF : farOk n i x) (h8 : x.f0 ≠ 8) (hlast : i + 1 < n) :
  ∃ w : List Nat,Ev (fun k => impl_ways.f k x.f0 x.f1 x.f2 x.f3 (i : Int)) (w.map (fun g : Nat => (g : Int))) ∧ w.length ≤ 10 ∧ (∀ g ∈ w,g < n) ∧
   (x.f0 = 7 → ∃ q : Nat,x.f1 = (q : Int) ∧ ∀ o : List Bool,w.foldl (fun o g => o.set g true) o = o.set (i + 1 + q) true) ∧
   (x.f0 ≠ 7 → ∃ p q : Nat,x.f2 = (p : Int) ∧ x.f3 = (q : Int) ∧ i + 1 + p < n ∧ i + 1 + q < n ∧ ∀ o : List Bool,w.foldl (fun o g => o.set g true) o = (o.set (i + 1 + p) true).set (i + 1 + q) true) := by
 have c' := c
 unfold InsP at c'
 have hF' := hF
 unfold farOk at hF'
 have e1 : PLift (wrap64 ((i : Int) + 1) = ((i + 1 : Nat) : Int)) := ⟨by rw [Math.wrap_in (by omega) (by omega)]; omega⟩
 have hadd : ∀ g : Nat,g ≤ 1000 → wrap64 (((i + 1 : Nat) : Int) + (g : Int)) = ((i + 1 + g : Nat) : Int) := fun g hg => by rw [Math.wrap_in (by omega) (by omega)]; omega
 by_cases h7 : x.f0 = 7
 ·
  obtain ⟨q,hq⟩ := Int.eq_ofNat_of_zero_le (show 0 ≤ x.f1 by omega)
  refine ⟨[i + 1 + q],⟨0,fun k _ => ?_⟩,by simp,fun g hg => ?_,fun _ => ⟨q,hq,fun o => rfl⟩,fun h => absurd h7 h⟩
  ·
   show impl_ways.f k x.f0 x.f1 x.f2 x.f3 (i : Int) = _
   unfold impl_ways.f
   rw [if_neg h8,if_pos h7,e1.down,hq,hadd q (by omega)]
   rfl
  ·
   rw [List.mem_singleton.1 hg]
   omega
 ·
  obtain ⟨p,hp⟩ := Int.eq_ofNat_of_zero_le (show 0 ≤ x.f2 by omega)
  obtain ⟨q,hq⟩ := Int.eq_ofNat_of_zero_le (show 0 ≤ x.f3 by omega)
  have hpq : i + 1 + p < n ∧ i + 1 + q < n := by omega
  by_cases ha : 3 ≤ x.f0 ∧ x.f0 ≤ 6
  ·
   by_cases hne : p = q
   ·
    refine ⟨[i + 1 + p],⟨1,fun k hk => ?_⟩,by simp,fun g hg => ?_,fun h => absurd h h7,fun _ => ⟨p,q,hp,hq,hpq.1,hpq.2,fun o => ?_⟩⟩
    ·
     obtain ⟨m,rfl⟩ : ∃ m,k = m + 1 := ⟨k - 1,by omega⟩
     show impl_ways.f (m + 1) x.f0 x.f1 x.f2 x.f3 (i : Int) = _
     unfold impl_ways.f
     rw [if_neg h8,if_neg h7,impl_asks_is,Option.bind_some,if_pos (decide_eq_true ha),show (x.f2 != x.f3) = false from by rw [hp,hq,hne]; simp,impl_ways.j0,if_neg (by decide),impl_asks_is,Option.bind_some,if_pos (decide_eq_true ha),e1.down,hp,hadd p (by omega)]
     rfl
    ·
     rw [List.mem_singleton.1 hg]
     omega
    ·
     rw [hne,List.set_set]
     rfl
   ·
    by_cases hlt : p < q
    ·
     refine ⟨[i + 1 + p,i + 1 + q],⟨1,fun k hk => ?_⟩,by simp,fun g hg => ?_,fun h => absurd h h7,fun _ => ⟨p,q,hp,hq,hpq.1,hpq.2,fun o => rfl⟩⟩
     ·
      obtain ⟨m,rfl⟩ : ∃ m,k = m + 1 := ⟨k - 1,by omega⟩
      show impl_ways.f (m + 1) x.f0 x.f1 x.f2 x.f3 (i : Int) = _
      unfold impl_ways.f
      rw [if_neg h8,if_neg h7,impl_asks_is,Option.bind_some,if_pos (decide_eq_true ha),show (x.f2 != x.f3) = true from by rw [hp,hq,bne_iff_ne]; omega,impl_ways.j0,if_pos rfl,e1.down,show mn x.f2 x.f3 = (p : Int) from by unfold mn; rw [if_neg (by omega),hp],show mx x.f2 x.f3 = (q : Int) from by unfold mx; rw [if_pos (by omega),hq],hadd p (by omega),hadd q (by omega)]
      rfl
     ·
      simp only [List.mem_cons,List.not_mem_nil,or_false] at hg
      omega
    ·
     refine ⟨[i + 1 + q,i + 1 + p],⟨1,fun k hk => ?_⟩,by simp,fun g hg => ?_,fun h => absurd h h7,fun _ => ⟨p,q,hp,hq,hpq.1,hpq.2,fun o => ?_⟩⟩
     ·
      obtain ⟨m,rfl⟩ : ∃ m,k = m + 1 := ⟨k - 1,by omega⟩
      show impl_ways.f (m + 1) x.f0 x.f1 x.f2 x.f3 (i : Int) = _
      unfold impl_ways.f
      rw [if_neg h8,if_neg h7,impl_asks_is,Option.bind_some,if_pos (decide_eq_true ha),show (x.f2 != x.f3) = true from by rw [hp,hq,bne_iff_ne]; omega,impl_ways.j0,if_pos rfl,e1.down,show mn x.f2 x.f3 = (q : Int) from by unfold mn; rw [if_pos (by omega),hq],show mx x.f2 x.f3 = (p : Int) from by unfold mx; rw [if_neg (by omega),hp],hadd p (by omega),hadd q (by omega)]
      rfl
     ·
      simp only [List.mem_cons,List.not_mem_nil,or_false] at hg
      omega
     ·
      exact set_two o _ _
  ·
   have hp0 : p = 0 := by omega
   have hq0 : q = 0 := by omega
   refine ⟨[i + 1],⟨1,fun k hk => ?_⟩,by simp,fun g hg => ?_,fun h => absurd h h7,fun _ => ⟨p,q,hp,hq,hpq.1,hpq.2,fun o => ?_⟩⟩
   ·
    obtain ⟨m,rfl⟩ : ∃ m,k = m + 1 := ⟨k - 1,by omega⟩
    show impl_ways.f (m + 1) x.f0 x.f1 x.f2 x.f3 (i : Int) = _
    unfold impl_ways.f
    rw [if_neg h8,if_neg h7,impl_asks_is,Option.bind_some,if_neg (by rw [decide_eq_false ha]; decide),impl_ways.j0,if_neg (by decide),impl_asks_is,Option.bind_some,if_neg (by rw [decide_eq_false ha]; decide),e1.down]
    rfl
   ·
    rw [List.mem_singleton.1 hg]
    omega
   ·
    subst hp0 hq0
    rw [Nat.add_zero,List.set_set]
    rfl
theorem reach_both (l : List S25) (hc : checkB l = true) (d : Nat) : ∀ (i : Nat) (o : List Bool),i + d = l.length → o.length = l.length → (0 < i → o[0]? = some true) → o[0]? = some true →
  ∃ r : List Bool,Ev (fun k => spec_Reached.l0 k l o (i : Int)) r ∧ Ev (fun k => impl_Reached.l0 k o l (l.length : Int) (i : Int)) r ∧ r.length = l.length ∧ r[0]? = some true := by
 obtain ⟨⟨hn1,hn2⟩,hat⟩ := check_at hc
 have set0 : ∀ (o : List Bool) (g : Nat),o[0]? = some true → (o.set g true)[0]? = some true := by
  intro o g h
  by_cases c : g = 0
  ·
   subst c
   rw [List.getElem?_set_self (by
    rcases Nat.eq_zero_or_pos o.length with e | e
    ·
     rw [List.getElem?_eq_none (by omega)] at h
     exact absurd h (by simp)
    ·
     exact e)]
  ·
   rw [List.getElem?_set_ne c]
   exact h
 induction d with
 | zero =>
  intro i o hi ho _ h0
  refine ⟨o,Ev.step (f := fun _ => some o) (fun k => ?_) (Math.Ev.const rfl),Ev.step (f := fun _ => some o) (fun k => ?_) (Math.Ev.const rfl),ho,h0⟩
  ·
   show spec_Reached.l0 (k + 1) l o _ = _
   rw [spec_Reached.l0,if_neg (by omega)]
  ·
   show impl_Reached.l0 (k + 1) o l _ _ = _
   rw [impl_Reached.l0,if_neg (by omega)]
 | succ d ih =>
  intro i o hi ho _ h0
  have hlt : i < l.length := by omega
  obtain ⟨hI,hF,hL⟩ := hat i hlt
  have e1 : PLift (wrap64 ((i : Int) + 1) = ((i + 1 : Nat) : Int)) := ⟨by rw [Math.wrap_in (by omega) (by omega)]; omega⟩
  have hrd := rd_at l i hlt
  have hob := rdb_at o i (by omega)
  generalize hx : l[i] = x at *
  have hadd : ∀ g : Nat,g ≤ 1000 → wrap64 (((i + 1 : Nat) : Int) + (g : Int)) = ((i + 1 + g : Nat) : Int) := fun g hg => by rw [Math.wrap_in (by omega) (by omega)]; omega
  by_cases hb : o[i]'(by omega) = true
  ·
   by_cases h8 : x.f0 = 8
   ·
    obtain ⟨r,r1,r2,r3⟩ := ih (i + 1) o (by omega) ho (fun _ => h0) h0
    refine ⟨r,Ev.step (f := fun k => spec_Reached.j1 k l o (i : Int) true x.f0 x.f1 x.f2 x.f3) (fun k => ?_) (Ev.step (fun k => ?_) r1),Ev.step (f := fun k => (impl_ways.f k x.f0 x.f1 x.f2 x.f3 (i : Int)).bind fun t171 => (impl_Reached.l1 k o l (l.length : Int) (i : Int) t171 (t171.length : Int) 0)) (fun k => ?_) ?_,r3⟩
    ·
     show spec_Reached.l0 (k + 1) l o _ = _
     rw [spec_Reached.l0,if_pos (by omega),if_pos (by omega),if_pos (by omega),hob,if_pos hb,hrd,show (x.f0 == 8) = true from by simpa using h8]
    ·
     show spec_Reached.j1 (k + 1) l o _ _ _ _ _ _ = _
     rw [spec_Reached.j1,if_pos rfl,e1.down]
    ·
     show impl_Reached.l0 (k + 1) o l _ _ = _
     rw [impl_Reached.l0,if_pos (by omega),if_pos (by omega),if_pos (by omega),if_pos (by omega),hob,if_pos hb,hrd]
    ·
     refine Ev.bind (f := fun k t171 => (impl_Reached.l1 k o l (l.length : Int) (i : Int) t171 (t171.length : Int) 0)) (a := ([] : List Int)) ⟨0,fun k _ => ?_⟩ ?_
     ·
      show impl_ways.f k x.f0 x.f1 x.f2 x.f3 (i : Int) = _
      unfold impl_ways.f
      rw [if_pos h8]
     ·
      exact ways_run l i (by omega) [] 0 0 o r rfl (by simp) (fun g hg => by simp at hg) r2
   ·
    have hlast : i + 1 < l.length := by
     rcases Nat.lt_or_ge (i + 1) l.length with h | h
     ·
      exact h
     ·
      exact absurd (hL (by omega)) h8
    obtain ⟨w,w1,w2,w3,w4,w5⟩ := ways_ev x i (by omega) hI l.length hF h8 hlast
    obtain ⟨o',ho',hfold,hspec⟩ : ∃ o' : List Bool,(o'.length = l.length ∧ o'[0]? = some true) ∧ w.foldl (fun o g => o.set g true) o = o' ∧
      ∀ r,Ev (fun k => spec_Reached.l0 k l o' ((i + 1 : Nat) : Int)) r → Ev (fun k => spec_Reached.j1 k l o (i : Int) false x.f0 x.f1 x.f2 x.f3) r := by
     have hI' := hI
     unfold InsP at hI'
     have hF' := hF
     unfold farOk at hF'
     by_cases h7 : x.f0 = 7
     ·
      obtain ⟨q,hq,hf⟩ := w4 h7
      refine ⟨_,⟨by rw [List.length_set,ho],set0 o _ h0⟩,hf o,fun r hr => Ev.step (fun k => ?_) hr⟩
      show spec_Reached.j1 (k + 1) l o _ _ _ _ _ _ = _
      rw [spec_Reached.j1,if_neg (by decide),if_pos h7,e1.down,hq,hadd q (by omega),if_pos (by omega),if_pos (by omega),Int.toNat_natCast]
     ·
      obtain ⟨p,q,hp,hq,hpn,hqn,hf⟩ := w5 h7
      refine ⟨_,⟨by rw [List.length_set,List.length_set,ho],set0 _ _ (set0 o _ h0)⟩,hf o,fun r hr => Ev.step (fun k => ?_) hr⟩
      show spec_Reached.j1 (k + 1) l o _ _ _ _ _ _ = _
      rw [spec_Reached.j1,if_neg (by decide),if_neg h7,e1.down,hp,hq,hadd q (by omega),hadd p (by omega),if_pos (by omega),if_pos (by omega),if_pos (by omega),if_pos (by omega),Int.toNat_natCast,Int.toNat_natCast]
    obtain ⟨r,r1,r2,r3⟩ := ih (i + 1) o' (by omega) ho'.1 (fun _ => ho'.2) ho'.2
    refine ⟨r,Ev.step (f := fun k => spec_Reached.j1 k l o (i : Int) false x.f0 x.f1 x.f2 x.f3) (fun k => ?_) (hspec r r1),Ev.step (f := fun k => (impl_ways.f k x.f0 x.f1 x.f2 x.f3 (i : Int)).bind fun t171 => (impl_Reached.l1 k o l (l.length : Int) (i : Int) t171 (t171.length : Int) 0)) (fun k => ?_) ?_,r3⟩
    ·
     show spec_Reached.l0 (k + 1) l o _ = _
     rw [spec_Reached.l0,if_pos (by omega),if_pos (by omega),if_pos (by omega),hob,if_pos hb,hrd,show (x.f0 == 8) = false from by simpa using h8]
    ·
     show impl_Reached.l0 (k + 1) o l _ _ = _
     rw [impl_Reached.l0,if_pos (by omega),if_pos (by omega),if_pos (by omega),if_pos (by omega),hob,if_pos hb,hrd]
    ·
     refine Ev.bind (f := fun k t171 => (impl_Reached.l1 k o l (l.length : Int) (i : Int) t171 (t171.length : Int) 0)) w1 ?_
     refine ways_run l i (by omega) w w.length 0 o r (by omega) w2 (fun g hg => by rw [ho]; exact w3 g hg) ?_
     rw [List.drop_zero,hfold]
     exact r2
  ·
   obtain ⟨r,r1,r2,r3⟩ := ih (i + 1) o (by omega) ho (fun _ => h0) h0
   refine ⟨r,Ev.step (f := fun k => spec_Reached.j1 k l o (i : Int) true x.f0 x.f1 x.f2 x.f3) (fun k => ?_) (Ev.step (fun k => ?_) r1),Ev.step (fun k => ?_) r2,r3⟩
   ·
    show spec_Reached.l0 (k + 1) l o _ = _
    rw [spec_Reached.l0,if_pos (by omega),if_pos (by omega),if_pos (by omega),hob,if_neg hb,hrd]
   ·
    show spec_Reached.j1 (k + 1) l o _ _ _ _ _ _ = _
    rw [spec_Reached.j1,if_pos rfl,e1.down]
   ·
    show impl_Reached.l0 (k + 1) o l _ _ = _
    rw [impl_Reached.l0,if_pos (by omega),if_pos (by omega),if_pos (by omega),if_pos (by omega),hob,if_neg hb,e1.down]
theorem reach_ev (l : List S25) : ∃ r : List Bool,Ev (fun k => spec_Reached.f k l) r ∧ Ev (fun k => impl_Reached.f k l) r ∧ r.length ≤ 2000000 ∧ (checkB l = true → r.length = l.length ∧ r[0]? = some true) := by
 have sgo : ∀ {r : List Bool},Ev (fun k => if checkB l = true then (if 0 ≤ (l.length : Int) then (if ((l.length : Int) : Int).toNat ≤ 281474976710656 then ((some (List.replicate ((l.length : Int) : Int).toNat false : List Bool)).bind fun y196 => (if 0 < (y196.length : Int) then (spec_Reached.l0 k l (y196.set (0 : Int).toNat true) 0) else (none))) else (none)) else (none)) else (some (([] : List Bool)))) r → Ev (fun k => spec_Reached.f k l) r := fun h =>
  Ev.congr (fun k => by unfold spec_Reached.f; rfl) (Ev.bind (f := fun k t192 => (if t192 = true then (if 0 ≤ (l.length : Int) then (if ((l.length : Int) : Int).toNat ≤ 281474976710656 then ((some (List.replicate ((l.length : Int) : Int).toNat false : List Bool)).bind fun y196 => (if 0 < (y196.length : Int) then (spec_Reached.l0 k l (y196.set (0 : Int).toNat true) 0) else (none))) else (none)) else (none)) else (some (([] : List Bool))))) (spec_Check_ev l) h)
 have igo : ∀ {r : List Bool},Ev (fun k => if checkB l = true then (if 0 ≤ (l.length : Int) then (if ((l.length : Int) : Int).toNat ≤ 281474976710656 then ((some (List.replicate ((l.length : Int) : Int).toNat false : List Bool)).bind fun y196 => (if 0 < (y196.length : Int) then (impl_Reached.l0 k (y196.set (0 : Int).toNat true) l (l.length : Int) 0) else (none))) else (none)) else (none)) else (some (([] : List Bool)))) r → Ev (fun k => impl_Reached.f k l) r := fun h =>
  Ev.congr (fun k => by unfold impl_Reached.f; rfl) (Ev.bind (f := fun k t192 => (if t192 = true then (if 0 ≤ (l.length : Int) then (if ((l.length : Int) : Int).toNat ≤ 281474976710656 then ((some (List.replicate ((l.length : Int) : Int).toNat false : List Bool)).bind fun y196 => (if 0 < (y196.length : Int) then (impl_Reached.l0 k (y196.set (0 : Int).toNat true) l (l.length : Int) 0) else (none))) else (none)) else (none)) else (some (([] : List Bool))))) (impl_Check_ev l) h)
 by_cases c : checkB l = true
 ·
  have hn := (check_at c).1
  obtain ⟨r,r1,r2,r3,r4⟩ := reach_both l c l.length 0 ((List.replicate l.length false).set 0 true) (by omega) (by rw [List.length_set,List.length_replicate]) (fun h => absurd h (by omega)) (by rw [List.getElem?_set_self (by rw [List.length_replicate]; omega)])
  refine ⟨r,sgo (Ev.congr (fun k => ?_) r1),igo (Ev.congr (fun k => ?_) r2),by omega,fun _ => ⟨r3,r4⟩⟩
  ·
   rw [if_pos c,if_pos (by omega),if_pos (by omega),Option.bind_some,if_pos (by rw [List.length_replicate]; omega),Int.toNat_natCast]
   rfl
  ·
   rw [if_pos c,if_pos (by omega),if_pos (by omega),Option.bind_some,if_pos (by rw [List.length_replicate]; omega),Int.toNat_natCast]
   rfl
 ·
  exact ⟨[],sgo (Ev.congr (f := fun _ => some []) (fun k => if_neg c) (Math.Ev.const rfl)),igo (Ev.congr (f := fun _ => some []) (fun k => if_neg c) (Math.Ev.const rfl)),by simp,fun h => absurd h c⟩
theorem big_is (l : List Int) : laws_big.f l = some (decide ((l.length : Int) > 1048576)) := rfl
theorem new_l0 (l : List Int) (hl : l.length ≤ 2000000) (d : Nat) : ∀ (i : Nat) (x : Int),i + d = l.length → ∃ h,Ev (fun k => spec_l01New.l0 k l x (i : Int)) (l,0,h) := by
 induction d with
 | zero =>
  intro i x hi
  refine ⟨x,Ev.step (f := fun _ => some (l,0,x)) (fun k => ?_) (Math.Ev.const rfl)⟩
  show spec_l01New.l0 (k + 1) l x _ = _
  rw [spec_l01New.l0,if_neg (by omega)]
 | succ d ih =>
  intro i x hi
  by_cases c : (i : Int) < 4000
  ·
   obtain ⟨h,hh⟩ := ih (i + 1) (Go.bits .and .i64 (wrap64 ((wrap64 ((wrap64 (x * 131)) + (wrap64 (rd l (i : Int))))) + 7)) 1073741823) (by omega)
   refine ⟨h,Ev.step (fun k => ?_) hh⟩
   show spec_l01New.l0 (k + 1) l x _ = _
   rw [spec_l01New.l0,if_pos (by omega),if_pos c,if_pos (by omega),show wrap64 ((i : Int) + 1) = ((i + 1 : Nat) : Int) from by rw [Math.wrap_in (by omega) (by omega)]; omega]
  ·
   refine ⟨x,Ev.step (f := fun _ => some (l,0,x)) (fun k => ?_) (Math.Ev.const rfl)⟩
   show spec_l01New.l0 (k + 1) l x _ = _
   rw [spec_l01New.l0,if_pos (by omega),if_neg c]
theorem new_ev (l : List Int) (hl : l.length ≤ 2000000) : ∃ h,Ev (fun k => spec_l01New.f k l) (l,0,h) := new_l0 l hl l.length 0 _ (by omega)
def Cur (l : List Int) (i : Int) : Prop := 0 ≤ i ∧ i ≤ l.length ∧ l.length ≤ 2000000
theorem byte_ok {l : List Int} {i : Int} (c : Cur l i) (h : Int) : ∃ x i' h',spec_l01Byte.f l i h = some (x,i',h') ∧ Cur l i' ∧ 0 ≤ x ∧ x ≤ 255 := by
 unfold Cur at c
 unfold spec_l01Byte.f
 by_cases hlt : i < (l.length : Int)
 ·
  rw [if_pos hlt,if_pos c.1]
  refine ⟨_,_,_,rfl,?_,Math.and255 _⟩
  unfold Cur
  rw [Math.wrap_in (n := i + 1) (by omega) (by omega)]
  omega
 ·
  rw [if_neg hlt]
  exact ⟨_,_,_,rfl,c,Math.and255 _⟩
theorem below_ok {l : List Int} {i : Int} (c : Cur l i) (h : Int) (n : Int) : ∃ x i' h',spec_l01Below.f l i h n = some (x,i',h') ∧ Cur l i' ∧ 0 ≤ x ∧ (0 < n → x < n) ∧ (n ≤ 0 → x = 0) := by
 unfold spec_l01Below.f
 by_cases h0 : n ≤ 0
 ·
  rw [if_pos h0]
  exact ⟨0,i,h,rfl,c,by omega,by omega,fun _ => rfl⟩
 ·
  rw [if_neg h0]
  by_cases h1 : n ≤ 256
  ·
   rw [if_pos h1]
   obtain ⟨x,i1,g1,e1,c1,x0,x1⟩ := byte_ok c h
   rw [e1,Option.bind_some,if_neg (by omega)]
   refine ⟨_,i1,g1,rfl,c1,?_,fun _ => ?_,fun e => absurd e h0⟩
   ·
    exact Int.tmod_nonneg _ x0
   ·
    exact Int.tmod_lt_of_pos _ (by omega)
  ·
   rw [if_neg h1]
   obtain ⟨x,i1,g1,e1,c1,x0,x1⟩ := byte_ok c h
   obtain ⟨y,i2,g2,e2,c2,y0,y1⟩ := byte_ok c1 g1
   obtain ⟨z,i3,g3,e3,c3,z0,z1⟩ := byte_ok c2 g2
   obtain ⟨u,i4,g4,e4,c4,u0,u1⟩ := byte_ok c3 g3
   rw [e1,Option.bind_some,e2,Option.bind_some,e3,Option.bind_some,e4,Option.bind_some,if_neg (by omega)]
   rw [Math.wrap_in (n := x * 16777216) (by omega) (by omega),Math.wrap_in (n := y * 65536) (by omega) (by omega),Math.wrap_in (n := z * 256) (by omega) (by omega)]
   rw [Math.wrap_in (n := x * 16777216 + y * 65536) (by omega) (by omega)]
   rw [Math.wrap_in (n := x * 16777216 + y * 65536 + z * 256) (by omega) (by omega)]
   rw [Math.wrap_in (n := x * 16777216 + y * 65536 + z * 256 + u) (by omega) (by omega)]
   refine ⟨_,i4,g4,rfl,c4,?_,fun _ => ?_,fun e => absurd e h0⟩
   ·
    exact Int.tmod_nonneg _ (by omega)
   ·
    exact Int.tmod_lt_of_pos _ (by omega)
theorem once_ok {l : List Int} {i : Int} (c : Cur l i) (h : Int) (n : Int) : ∃ b i' h',spec_l01Once.f l i h n = some (b,i',h') ∧ Cur l i' := by
 unfold spec_l01Once.f
 obtain ⟨x,i1,g1,e1,c1,_⟩ := below_ok c h n
 rw [e1,Option.bind_some]
 exact ⟨_,_,_,rfl,c1⟩
theorem pickInt_ok {l : List Int} {i : Int} (c : Cur l i) (h : Int) (xs : List Int) (hx : 0 < xs.length) : ∃ x i' h',spec_l01PickInt.f l i h xs = some (x,i',h') ∧ Cur l i' ∧ x ∈ xs := by
 unfold spec_l01PickInt.f
 obtain ⟨x,i1,g1,e1,c1,x0,x1,_⟩ := below_ok c h (xs.length : Int)
 have hlt := x1 (by omega)
 rw [e1,Option.bind_some,if_pos x0,if_pos hlt]
 refine ⟨_,_,_,rfl,c1,?_⟩
 unfold rd
 rw [List.getD_eq_getElem?_getD,List.getElem?_eq_getElem (by omega)]
 exact List.getElem_mem _
theorem cur0 {l : List Int} (hl : l.length ≤ 2000000) : Cur l 0 := ⟨by omega,by omega,hl⟩
theorem half_ok {l : List Int} {i : Int} (c : Cur l i) (h : Int) : ∃ x i' h',spec_l04Half.f l i h = some (x,i',h') ∧ Cur l i' ∧ 0 ≤ x ∧ x ≤ 4294967295 := by
 unfold spec_l04Half.f
 obtain ⟨b,i1,g1,e1,c1,b0,b1,_⟩ := below_ok c h 12
 obtain ⟨x,i2,g2,e2,c2,hx⟩ := pickInt_ok c1 g1 [0,1,2,3,5,7,255,4294967295,2147483648,b] (by simp)
 rw [e1,Option.bind_some,e2,Option.bind_some]
 have hb := b1 (by omega)
 refine ⟨_,_,_,rfl,c2,?_⟩
 simp only [List.mem_cons,List.not_mem_nil,or_false] at hx
 omega
theorem wide_ok {l : List Int} {i : Int} (c : Cur l i) (h : Int) : ∃ a b i' h',spec_l04Wide.f l i h = some (a,b,i',h') ∧ Cur l i' ∧ (0 ≤ a ∧ a ≤ 4294967295) ∧ (0 ≤ b ∧ b ≤ 4294967295) := by
 unfold spec_l04Wide.f
 obtain ⟨x,i1,g1,e1,c1,x0⟩ := half_ok c h
 obtain ⟨b,i2,g2,e2,c2⟩ := once_ok c1 g1 3
 rw [e1,Option.bind_some,e2,Option.bind_some]
 by_cases hb : b = true
 ·
  obtain ⟨y,i3,g3,e3,c3,y0⟩ := half_ok c2 g2
  rw [if_pos hb,e3,Option.bind_some]
  exact ⟨_,_,_,_,rfl,c3,y0,x0⟩
 ·
  rw [if_neg hb]
  exact ⟨_,_,_,_,rfl,c2,by omega,x0⟩
theorem call_l0 {l : List Int} (a b : Int) (d : Nat) : ∀ (j : Nat) (acc : List S107) (i h : Int),j + d = 3 → acc.length = j → Cur l i → (∀ x ∈ acc,(0 ≤ x.f0 ∧ x.f0 ≤ 4294967295) ∧ (0 ≤ x.f1 ∧ x.f1 ≤ 4294967295)) →
  ∃ p i' h',Ev (fun k => spec_l04Call.l0 k (j : Int) l i h a b acc) (a,b,p,i',h') ∧ Cur l i' ∧ p.length = 3 ∧ ∀ x ∈ p,(0 ≤ x.f0 ∧ x.f0 ≤ 4294967295) ∧ (0 ≤ x.f1 ∧ x.f1 ≤ 4294967295) := by
 induction d with
 | zero =>
  intro j acc i h hj ha c hall
  refine ⟨acc,i,h,Ev.step (f := fun _ => some (a,b,acc,i,h)) (fun k => ?_) (Math.Ev.const rfl),c,by omega,hall⟩
  show spec_l04Call.l0 (k + 1) (j : Int) l i h a b acc = _
  rw [spec_l04Call.l0,if_neg (by omega)]
 | succ d ih =>
  intro j acc i h hj ha c hall
  obtain ⟨x,y,i1,g1,e1,c1,x0,y0⟩ := wide_ok c h
  obtain ⟨p,i2,g2,q2,r⟩ := ih (j + 1) (acc ++ [⟨x,y⟩]) i1 g1 (by omega) (by rw [List.length_append,List.length_singleton]; omega) c1 (fun z hz => by
   rcases List.mem_append.1 hz with h | h
   ·
    exact hall z h
   ·
    rw [List.mem_singleton.1 h]
    exact ⟨x0,y0⟩)
  refine ⟨p,i2,g2,Ev.step (fun k => ?_) q2,r⟩
  show spec_l04Call.l0 (k + 1) (j : Int) l i h a b acc = _
  rw [spec_l04Call.l0,if_pos (by omega),e1,Option.bind_some,if_pos (show acc.length < 8796093022208 by omega),show wrap64 ((j : Int) + 1) = ((j + 1 : Nat) : Int) from by rw [Math.wrap_in (by omega) (by omega)]; omega]
def RightCall (a b : Int) (p : List S107) : Prop := (0 ≤ a ∧ a ≤ 4294967295) ∧ (0 ≤ b ∧ b ≤ 4294967295) ∧ p.length = 3 ∧ ∀ x ∈ p,(0 ≤ x.f0 ∧ x.f0 ≤ 4294967295) ∧ (0 ≤ x.f1 ∧ x.f1 ≤ 4294967295)
theorem call_cur {l : List Int} {i : Int} (c : Cur l i) (h : Int) : ∃ a b p i' h',Ev (fun k => spec_l04Call.f k l i h) (a,b,p,i',h') ∧ Cur l i' ∧ RightCall a b p := by
 obtain ⟨x,i1,g1,e1,c1,hx⟩ := pickInt_ok c h [62,62,62,62,3] (by simp)
 obtain ⟨y,i2,g2,e2,c2,hy⟩ := pickInt_ok c1 g1 [0,1,2,3,4,6,9,11,4294967295,77] (by simp)
 obtain ⟨p,i3,g3,q3,c3,hp⟩ := call_l0 x y 3 0 [] i2 g2 rfl rfl c2 (fun x hx => by simp at hx)
 simp only [List.mem_cons,List.not_mem_nil,or_false] at hx hy
 refine ⟨x,y,p,i3,g3,Ev.congr (fun k => ?_) q3,c3,by omega,by omega,hp⟩
 show spec_l04Call.f k l i h = _
 unfold spec_l04Call.f
 rw [e1,Option.bind_some,e2,Option.bind_some]
 rfl
def resultOf (a b : Int) : Int := if (0 ≤ a ∧ a ≤ 5) ∧ (0 ≤ b ∧ b ≤ 65535) then 65536 * a + b else 0
theorem spec_ResultOf_is (a b : Int) : spec_ResultOf.f a b = some (resultOf a b) := by
 unfold spec_ResultOf.f resultOf
 rw [spec_l01In_is,spec_l01In_is,Option.bind_some,Option.bind_some]
 by_cases h : 0 ≤ a ∧ a ≤ 5
 ·
  rw [if_pos (decide_eq_true h)]
  by_cases h2 : 0 ≤ b ∧ b ≤ 65535
  ·
   rw [if_pos (decide_eq_true h2),if_pos ⟨h,h2⟩,Math.wrap_in (n := 65536 * a) (by omega) (by omega),Math.wrap_in (by omega) (by omega)]
  ·
   rw [if_neg (by rw [decide_eq_false h2]; decide),if_neg (fun e => h2 e.2)]
 ·
  rw [if_neg (by rw [decide_eq_false h]; decide),if_neg (fun e => h e.1)]
theorem ins_ok {l : List Int} {i : Int} (c : Cur l i) (h : Int) : ∃ o k y n i' h',Ev (fun m => spec_l06Ins.f m l i h) (o,k,y,n,i',h') ∧ Cur l i' ∧ InsP o k y n := by
 obtain ⟨b,i1,g1,e1,c1,b0,b1,_⟩ := below_ok c h 8
 have hb := b1 (by omega)
 obtain ⟨hf,i2,g2,e2,c2,f0,f1⟩ := half_ok c1 g1
 have ew : PLift (wrap64 (1 + b) = 1 + b) := ⟨Math.wrap_in (by omega) (by omega)⟩
 refine (?_ : ∃ o k y n i' h',Ev (fun m => if 1 + b = 1 then ((spec_l01Below.f l i2 g2 8).bind fun bt141 => (some (1 + b,bt141.1,0,0,bt141.2.1,bt141.2.2))) else (if 1 + b = 7 then ((spec_l01Below.f l i2 g2 4).bind fun bt144 => (some (1 + b,bt144.1,0,0,bt144.2.1,bt144.2.2))) else (if 1 + b = 3 then (spec_l06Ins.j0 m (1 + b) ((1 + b) == 3) l i2 g2 (1 + b) hf 0 0) else (if 1 + b = 4 then (spec_l06Ins.j0 m (1 + b) ((1 + b) == 4) l i2 g2 (1 + b) hf 0 0) else (if 1 + b = 5 then (spec_l06Ins.j0 m (1 + b) ((1 + b) == 5) l i2 g2 (1 + b) hf 0 0) else (spec_l06Ins.j0 m (1 + b) ((1 + b) == 6) l i2 g2 (1 + b) hf 0 0)))))) (o,k,y,n,i',h') ∧ Cur l i' ∧ InsP o k y n).imp fun o ⟨k,y,n,i',h',q,r⟩ => ⟨k,y,n,i',h',Ev.congr (fun m => by unfold spec_l06Ins.f; rw [e1,Option.bind_some,e2,Option.bind_some,ew.down]) q,r⟩
 have ask : ∀ o : Int,3 ≤ o → o ≤ 6 → ∃ o' k y n i' h',Ev (fun m => spec_l06Ins.j0 m o true l i2 g2 o hf 0 0) (o',k,y,n,i',h') ∧ Cur l i' ∧ InsP o' k y n := by
  intro o ho ho2
  obtain ⟨y,i3,g3,e3,c3,y0,y1,_⟩ := below_ok c2 g2 4
  obtain ⟨n,i4,g4,e4,c4,n0,n1,_⟩ := below_ok c3 g3 4
  have := y1 (by omega)
  have := n1 (by omega)
  refine ⟨o,hf,y,n,i4,g4,Ev.step (f := fun _ => some (o,hf,y,n,i4,g4)) (fun m => ?_) (Math.Ev.const rfl),c4,by unfold InsP; omega⟩
  rw [spec_l06Ins.j0,if_pos rfl,e3,Option.bind_some,e4,Option.bind_some]
 by_cases h1 : 1 + b = 1
 ·
  obtain ⟨k,i3,g3,e3,c3,k0,k1,_⟩ := below_ok c2 g2 8
  have := k1 (by omega)
  exact ⟨1 + b,k,0,0,i3,g3,Ev.congr (f := fun _ => some (1 + b,k,0,0,i3,g3)) (fun m => by rw [if_pos h1,e3]; rfl) (Math.Ev.const rfl),c3,by unfold InsP; omega⟩
 ·
  by_cases h7 : 1 + b = 7
  ·
   obtain ⟨k,i3,g3,e3,c3,k0,k1,_⟩ := below_ok c2 g2 4
   have := k1 (by omega)
   exact ⟨1 + b,k,0,0,i3,g3,Ev.congr (f := fun _ => some (1 + b,k,0,0,i3,g3)) (fun m => by rw [if_neg h1,if_pos h7,e3]; rfl) (Math.Ev.const rfl),c3,by unfold InsP; omega⟩
  ·
   by_cases h3 : 1 + b = 3
   ·
    obtain ⟨o,k,y,n,i3,g3,q,r⟩ := ask (1 + b) (by omega) (by omega)
    exact ⟨o,k,y,n,i3,g3,Ev.congr (fun m => by rw [if_neg h1,if_neg h7,if_pos h3,show ((1 + b) == 3) = true from by simpa using h3]) q,r⟩
   ·
    by_cases h4 : 1 + b = 4
    ·
     obtain ⟨o,k,y,n,i3,g3,q,r⟩ := ask (1 + b) (by omega) (by omega)
     exact ⟨o,k,y,n,i3,g3,Ev.congr (fun m => by rw [if_neg h1,if_neg h7,if_neg h3,if_pos h4,show ((1 + b) == 4) = true from by simpa using h4]) q,r⟩
    ·
     by_cases h5 : 1 + b = 5
     ·
      obtain ⟨o,k,y,n,i3,g3,q,r⟩ := ask (1 + b) (by omega) (by omega)
      exact ⟨o,k,y,n,i3,g3,Ev.congr (fun m => by rw [if_neg h1,if_neg h7,if_neg h3,if_neg h4,if_pos h5,show ((1 + b) == 5) = true from by simpa using h5]) q,r⟩
     ·
      by_cases h6 : 1 + b = 6
      ·
       obtain ⟨o,k,y,n,i3,g3,q,r⟩ := ask (1 + b) (by omega) (by omega)
       exact ⟨o,k,y,n,i3,g3,Ev.congr (fun m => by rw [if_neg h1,if_neg h7,if_neg h3,if_neg h4,if_neg h5,show ((1 + b) == 6) = true from by simpa using h6]) q,r⟩
      ·
       have hno : ((1 + b) == 6) = false := by simpa using h6
       by_cases h8 : 1 + b = 8
       ·
        obtain ⟨x,i3,g3,e3,c3,x0,x1,_⟩ := below_ok c2 g2 6
        obtain ⟨y,i4,g4,e4,c4,y0,y1,_⟩ := below_ok c3 g3 5
        have := x1 (by omega)
        have := y1 (by omega)
        have hr : resultOf x y = 65536 * x + y := by unfold resultOf; rw [if_pos (by omega)]
        refine ⟨1 + b,resultOf x y,0,0,i4,g4,Ev.congr (fun m => by rw [if_neg h1,if_neg h7,if_neg h3,if_neg h4,if_neg h5,hno]) (Ev.step (f := fun _ => some (1 + b,resultOf x y,0,0,i4,g4)) (fun m => ?_) (Math.Ev.const rfl)),c4,by rw [hr]; unfold InsP; omega⟩
        rw [spec_l06Ins.j0,if_neg (by decide),if_pos h8,e3,Option.bind_some,e4,Option.bind_some,spec_ResultOf_is,Option.bind_some]
       ·
        refine ⟨1 + b,hf,0,0,i2,g2,Ev.congr (fun m => by rw [if_neg h1,if_neg h7,if_neg h3,if_neg h4,if_neg h5,hno]) (Ev.step (f := fun _ => some (1 + b,hf,0,0,i2,g2)) (fun m => ?_) (Math.Ev.const rfl)),c2,by unfold InsP; omega⟩
        rw [spec_l06Ins.j0,if_neg (by decide),if_neg h8]
theorem insP_less {o k y n m : Int} (h : InsP o k y n) (hm : 1 ≤ m) : (o = 7 → InsP o (Int.tmod k m) y n) ∧ ((3 ≤ o ∧ o ≤ 6) → InsP o k (Int.tmod y m) (Int.tmod n m)) := by
 unfold InsP at h ⊢
 have low : ∀ x : Int,0 ≤ x → 0 ≤ Int.tmod x m ∧ Int.tmod x m ≤ x := by
  intro x hx
  obtain ⟨a,rfl⟩ := Int.eq_ofNat_of_zero_le hx
  obtain ⟨b,rfl⟩ := Int.eq_ofNat_of_zero_le (show 0 ≤ m by omega)
  have h9 : Int.tmod (a : Int) (b : Int) = ((a % b : Nat) : Int) := rfl
  have h8 := Nat.mod_le a b
  omega
 have h1 := low k (by omega)
 have h2 := low y (by omega)
 have h3 := low n (by omega)
 generalize Int.tmod k m = k' at *
 generalize Int.tmod y m = y' at *
 generalize Int.tmod n m = n' at *
 omega
theorem program_l0 {l : List Int} (nn : Nat) (hn : nn ≤ 1000) (d : Nat) : ∀ (j : Nat) (acc : List S25) (i h : Int),j + d = nn → acc.length = j → Cur l i → (∀ x ∈ acc,InsP x.f0 x.f1 x.f2 x.f3) →
  ∃ p i' h',Ev (fun k => spec_l06Program.l0 k acc (nn : Int) (j : Int) l i h) (p,i',h') ∧ Cur l i' ∧ p.length = nn + 1 ∧ ∀ x ∈ p,InsP x.f0 x.f1 x.f2 x.f3 := by
 have more : ∀ (acc : List S25) (x : S25),(∀ x ∈ acc,InsP x.f0 x.f1 x.f2 x.f3) → InsP x.f0 x.f1 x.f2 x.f3 → ∀ y ∈ acc ++ [x],InsP y.f0 y.f1 y.f2 y.f3 := by
  intro acc x ha hx y hy
  rcases List.mem_append.1 hy with h | h
  ·
   exact ha y h
  ·
   rw [List.mem_singleton.1 h]
   exact hx
 induction d with
 | zero =>
  intro j acc i h hj ha c hall
  obtain ⟨x,i3,g3,e3,c3,x0,x1,_⟩ := below_ok c h 6
  obtain ⟨y,i4,g4,e4,c4,y0,y1,_⟩ := below_ok c3 g3 5
  have := x1 (by omega)
  have := y1 (by omega)
  have hr : resultOf x y = 65536 * x + y := by unfold resultOf; rw [if_pos (by omega)]
  refine ⟨acc ++ [⟨8,resultOf x y,0,0⟩],i4,g4,Ev.step (f := fun _ => some (acc ++ [⟨8,resultOf x y,0,0⟩],i4,g4)) (fun k => ?_) (Math.Ev.const rfl),c4,by rw [List.length_append,List.length_singleton]; omega,more _ _ hall (by show InsP 8 (resultOf x y) 0 0; rw [hr]; unfold InsP; omega)⟩
  show spec_l06Program.l0 (k + 1) acc _ _ l i h = _
  rw [spec_l06Program.l0,if_neg (by omega),e3,Option.bind_some,e4,Option.bind_some,spec_ResultOf_is,Option.bind_some,if_pos (show acc.length < 4398046511104 by omega)]
 | succ d ih =>
  intro j acc i h hj ha c hall
  obtain ⟨o,k,y,n,i1,g1,q1,c1,hI⟩ := ins_ok c h
  have el : PLift (wrap64 ((nn : Int) - (j : Int)) = (nn : Int) - (j : Int)) := ⟨Math.wrap_in (by omega) (by omega)⟩
  have ej : PLift (wrap64 ((j : Int) + 1) = ((j + 1 : Nat) : Int)) := ⟨by rw [Math.wrap_in (by omega) (by omega)]; omega⟩
  have hask : spec_l06Ask.f o = some (decide (3 ≤ o ∧ o ≤ 6)) := by unfold spec_l06Ask.f; rw [spec_l01In_is]; rfl
  obtain ⟨l7,la⟩ := insP_less hI (show (1 : Int) ≤ (nn : Int) - (j : Int) by omega)
  have step : ∀ x : S25,InsP x.f0 x.f1 x.f2 x.f3 → (∀ mm,spec_l06Ins.f mm l i h = some (o,k,y,n,i1,g1) → spec_l06Program.l0 (mm + 1) acc (nn : Int) (j : Int) l i h = spec_l06Program.l0 mm (acc ++ [x]) (nn : Int) ((j + 1 : Nat) : Int) l i1 g1) →
    ∃ p i' h',Ev (fun k => spec_l06Program.l0 k acc (nn : Int) (j : Int) l i h) (p,i',h') ∧ Cur l i' ∧ p.length = nn + 1 ∧ ∀ x ∈ p,InsP x.f0 x.f1 x.f2 x.f3 := by
   intro x hx hgo
   obtain ⟨p,i2,g2,q2,c2,hp⟩ := ih (j + 1) (acc ++ [x]) i1 g1 (by omega) (by rw [List.length_append,List.length_singleton]; omega) c1 (more _ _ hall hx)
   refine ⟨p,i2,g2,?_,c2,hp⟩
   obtain ⟨K1,q1⟩ := q1
   obtain ⟨K2,q2⟩ := q2
   refine ⟨max K1 K2 + 1,fun kk hk => ?_⟩
   obtain ⟨mm,rfl⟩ : ∃ mm,kk = mm + 1 := ⟨kk - 1,by omega⟩
   have w1 := q1 mm (by omega)
   have w2 := q2 mm (by omega)
   exact (hgo mm w1).trans w2
  by_cases h7 : o = 7
  ·
   refine step ⟨o,Int.tmod k ((nn : Int) - (j : Int)),y,n⟩ (l7 h7) (fun mm w => ?_)
   rw [spec_l06Program.l0,if_pos (by omega),el.down,ej.down,w,Option.bind_some]
   dsimp only
   rw [if_pos h7,if_neg (by omega),hask,Option.bind_some,if_neg (by rw [decide_eq_false (by omega)]; decide),if_pos (show acc.length < 4398046511104 by omega)]
  ·
   by_cases h36 : 3 ≤ o ∧ o ≤ 6
   ·
    refine step ⟨o,k,Int.tmod y ((nn : Int) - (j : Int)),Int.tmod n ((nn : Int) - (j : Int))⟩ (la h36) (fun mm w => ?_)
    rw [spec_l06Program.l0,if_pos (by omega),el.down,ej.down,w,Option.bind_some]
    dsimp only
    rw [if_neg h7,hask,Option.bind_some,if_pos (decide_eq_true h36),if_neg (by omega),if_pos (show acc.length < 4398046511104 by omega)]
   ·
    refine step ⟨o,k,y,n⟩ hI (fun mm w => ?_)
    rw [spec_l06Program.l0,if_pos (by omega),el.down,ej.down,w,Option.bind_some]
    dsimp only
    rw [if_neg h7,hask,Option.bind_some,if_neg (by rw [decide_eq_false h36]; decide),if_pos (show acc.length < 4398046511104 by omega)]
theorem program_cur {l : List Int} {i : Int} (c : Cur l i) (h : Int) : ∃ p i' h',Ev (fun k => spec_l06Program.f k l i h) (p,i',h') ∧ Cur l i' ∧ (1 ≤ p.length ∧ p.length ≤ 13) ∧ ∀ x ∈ p,InsP x.f0 x.f1 x.f2 x.f3 := by
 obtain ⟨b,i1,g1,e1,c1,b0,b1,_⟩ := below_ok c h 12
 have hb := b1 (by omega)
 obtain ⟨m,hm⟩ := Int.eq_ofNat_of_zero_le (show 0 ≤ 1 + b by omega)
 obtain ⟨p,i2,g2,q2,c2,hl,hp⟩ := program_l0 m (by omega) m 0 [] i1 g1 (by omega) rfl c1 (fun x hx => by simp at hx)
 refine ⟨p,i2,g2,Ev.congr (fun k => ?_) q2,c2,by omega,hp⟩
 show spec_l06Program.f k l i h = _
 unfold spec_l06Program.f
 rw [e1,Option.bind_some,Math.wrap_in (n := 1 + b) (by omega) (by omega),hm]
 rfl
theorem any_cur {l : List Int} {i : Int} (c : Cur l i) (h : Int) : ∃ p i' h',Ev (fun k => spec_l06Any.f k l i h) (p,i',h') ∧ Cur l i' ∧ p.length ≤ 13 := by
 obtain ⟨a,i1,g1,e1,c1,a0,a1,_⟩ := below_ok c h 12
 obtain ⟨b,i2,g2,e2,c2,b0,b1,_⟩ := below_ok c1 g1 60
 obtain ⟨p,i3,g3,⟨K,hK⟩,c3,hp,_⟩ := program_cur c2 g2
 have t0 : 0 ≤ Int.tmod b (p.length : Int) := Int.tmod_nonneg _ b0
 have t1 : Int.tmod b (p.length : Int) < (p.length : Int) := Int.tmod_lt_of_pos _ (by omega)
 have s0 : 0 ≤ Int.tmod b 3 := Int.tmod_nonneg _ b0
 have s1 : Int.tmod b 3 < 3 := Int.tmod_lt_of_pos _ (by omega)
 by_cases h0 : a = 0
 ·
  refine ⟨p.set (Int.tmod b (p.length : Int)).toNat ⟨Int.tmod b 10,(rd_T25 p (Int.tmod b (p.length : Int))).f1,(rd_T25 p (Int.tmod b (p.length : Int))).f2,(rd_T25 p (Int.tmod b (p.length : Int))).f3⟩,i3,g3,⟨K,fun k hk => ?_⟩,c3,by rw [List.length_set]; omega⟩
  have w := hK k hk
  dsimp only at w ⊢
  unfold spec_l06Any.f
  rw [e1,Option.bind_some,e2,Option.bind_some,Option.bind_some,w,Option.bind_some]
  dsimp only
  rw [if_pos (by rw [List.length_nil]; omega),Option.bind_some,List.nil_append,if_neg (by omega),if_pos h0,if_pos t0,if_pos t1]
 ·
  by_cases h1 : a = 1
  ·
   refine ⟨p.set (Int.tmod b (p.length : Int)).toNat ⟨(rd_T25 p (Int.tmod b (p.length : Int))).f0,(rd_T25 p (Int.tmod b (p.length : Int))).f1,rd [15,16,(-1)] (Int.tmod b 3),(rd_T25 p (Int.tmod b (p.length : Int))).f3⟩,i3,g3,⟨K,fun k hk => ?_⟩,c3,by rw [List.length_set]; omega⟩
   have w := hK k hk
   dsimp only at w ⊢
   unfold spec_l06Any.f
   rw [e1,Option.bind_some,e2,Option.bind_some,Option.bind_some,w,Option.bind_some]
   dsimp only
   rw [if_pos (by rw [List.length_nil]; omega),Option.bind_some,List.nil_append,if_neg (by omega),if_neg h0,if_pos h1,Option.bind_some,if_pos s0,if_pos (by simp only [List.length_cons,List.length_nil]; omega),if_pos t0,if_pos t1]
  ·
   by_cases h2 : a = 2
   ·
    refine ⟨p.set (Int.tmod b (p.length : Int)).toNat ⟨(rd_T25 p (Int.tmod b (p.length : Int))).f0,rd [(-1),4294967296,400] (Int.tmod b 3),(rd_T25 p (Int.tmod b (p.length : Int))).f2,(rd_T25 p (Int.tmod b (p.length : Int))).f3⟩,i3,g3,⟨K,fun k hk => ?_⟩,c3,by rw [List.length_set]; omega⟩
    have w := hK k hk
    dsimp only at w ⊢
    unfold spec_l06Any.f
    rw [e1,Option.bind_some,e2,Option.bind_some,Option.bind_some,w,Option.bind_some]
    dsimp only
    rw [if_pos (by rw [List.length_nil]; omega),Option.bind_some,List.nil_append,if_neg (by omega),if_neg h0,if_neg h1,if_pos h2,Option.bind_some,if_pos s0,if_pos (by simp only [List.length_cons,List.length_nil]; omega),if_pos t0,if_pos t1]
   ·
    by_cases h3 : a = 3
    ·
     refine ⟨p.take ((p.length : Int) - 1).toNat,i3,g3,⟨K,fun k hk => ?_⟩,c3,by rw [List.length_take]; omega⟩
     have w := hK k hk
     dsimp only at w ⊢
     unfold spec_l06Any.f
     rw [e1,Option.bind_some,e2,Option.bind_some,Option.bind_some,w,Option.bind_some]
     dsimp only
     rw [if_pos (by rw [List.length_nil]; omega),Option.bind_some,List.nil_append,if_neg (by omega),if_neg h0,if_neg h1,if_neg h2,if_pos h3,Math.wrap_in (n := (p.length : Int) - 1) (by omega) (by omega),if_pos (by omega),if_pos (by omega)]
    ·
     by_cases h4 : a = 4
     ·
      refine ⟨p.set (Int.tmod b (p.length : Int)).toNat ⟨7,Int.tmod b 14,0,0⟩,i3,g3,⟨K,fun k hk => ?_⟩,c3,by rw [List.length_set]; omega⟩
      have w := hK k hk
      dsimp only at w ⊢
      unfold spec_l06Any.f
      rw [e1,Option.bind_some,e2,Option.bind_some,Option.bind_some,w,Option.bind_some]
      dsimp only
      rw [if_pos (by rw [List.length_nil]; omega),Option.bind_some,List.nil_append,if_neg (by omega),if_neg h0,if_neg h1,if_neg h2,if_neg h3,if_pos h4,if_pos t0,if_pos t1]
     ·
      refine ⟨p,i3,g3,⟨K,fun k hk => ?_⟩,c3,by omega⟩
      have w := hK k hk
      dsimp only at w ⊢
      unfold spec_l06Any.f
      rw [e1,Option.bind_some,e2,Option.bind_some,Option.bind_some,w,Option.bind_some]
      dsimp only
      rw [if_pos (by rw [List.length_nil]; omega),Option.bind_some,List.nil_append,if_neg (by omega),if_neg h0,if_neg h1,if_neg h2,if_neg h3,if_neg h4]
theorem any_ok {l : List Int} {i : Int} (c : Cur l i) (h : Int) : ∃ a b p i' h',Ev (fun k => spec_l04Any.f k l i h) (a,b,p,i',h') ∧ Cur l i' ∧ p.length ≤ 3 := by
 obtain ⟨q,i1,g1,e1,c1,_⟩ := below_ok c h 10
 obtain ⟨a,b,p,i2,g2,hp,c2,_,_,h3,_⟩ := call_cur c1 g1
 have main : ∃ a' b' p' i' h',(if q = 0 then ((spec_l01PickInt.f l i2 g2 (([(-1),4294967296] : List Int))).bind fun bt237 => (some (a,bt237.1,p,bt237.2.1,bt237.2.2))) else (if q = 1 then (if 1 ≤ (p.length : Int) then (some (a,b,(p.drop (1 : Int).toNat),i2,g2)) else (none)) else (if q = 2 then (if 1 < (p.length : Int) then (some (a,b,(p.set (1 : Int).toNat (⟨(-1),(rd_T107 p 1).f1⟩ : S107)),i2,g2)) else (none)) else (if q = 3 then (some (4294967296,b,p,i2,g2)) else (some (a,b,p,i2,g2)))))) = some (a',b',p',i',h') ∧ Cur l i' ∧ p'.length ≤ 3 := by
  by_cases q0 : q = 0
  ·
   obtain ⟨x,i3,g3,e3,c3,_⟩ := pickInt_ok c2 g2 [(-1),4294967296] (by decide)
   refine ⟨a,x,p,i3,g3,by rw [if_pos q0,e3,Option.bind_some],c3,by omega⟩
  ·
   rw [if_neg q0]
   by_cases q1 : q = 1
   ·
    exact ⟨_,_,_,_,_,by rw [if_pos q1,if_pos (by omega)],c2,by rw [List.length_drop]; omega⟩
   ·
    rw [if_neg q1]
    by_cases q2 : q = 2
    ·
     exact ⟨_,_,_,_,_,by rw [if_pos q2,if_pos (by omega)],c2,by rw [List.length_set]; omega⟩
    ·
     rw [if_neg q2]
     by_cases q3 : q = 3
     ·
      exact ⟨_,_,_,_,_,by rw [if_pos q3],c2,by omega⟩
     ·
      exact ⟨_,_,_,_,_,by rw [if_neg q3],c2,by omega⟩
 obtain ⟨a',b',p',i',h',e,c',hp'⟩ := main
 refine ⟨a',b',p',i',h',?_,c',hp'⟩
 refine Ev.congr (fun k => by unfold spec_l04Any.f; rw [e1,Option.bind_some]) ?_
 exact Ev.bind (f := fun _ (bt226 : Int × Int × List S107 × Int × Int) => (if q = 0 then ((spec_l01PickInt.f l bt226.2.2.2.1 bt226.2.2.2.2 (([(-1),4294967296] : List Int))).bind fun bt237 => (some (bt226.1,bt237.1,bt226.2.2.1,bt237.2.1,bt237.2.2))) else (if q = 1 then (if 1 ≤ (bt226.2.2.1.length : Int) then (some (bt226.1,bt226.2.1,(bt226.2.2.1.drop (1 : Int).toNat),bt226.2.2.2.1,bt226.2.2.2.2)) else (none)) else (if q = 2 then (if 1 < (bt226.2.2.1.length : Int) then (some (bt226.1,bt226.2.1,(bt226.2.2.1.set (1 : Int).toNat (⟨(-1),(rd_T107 bt226.2.2.1 1).f1⟩ : S107)),bt226.2.2.2.1,bt226.2.2.2.2)) else (none)) else (if q = 3 then (some (4294967296,bt226.2.1,bt226.2.2.1,bt226.2.2.2.1,bt226.2.2.2.2)) else (some (bt226.1,bt226.2.1,bt226.2.2.1,bt226.2.2.2.1,bt226.2.2.2.2))))))) hp (Math.Ev.const e)
theorem drawRun_ev {l : List Int} (hl : l.length ≤ 2000000) : ∃ (p : List S25) (a b : Int) (cl : List S107),Ev (fun k => spec_DrawRun.f k l) (p,a,b,cl) ∧ cl.length ≤ 3 := by
 obtain ⟨h,⟨K1,hK1⟩⟩ := new_ev l hl
 obtain ⟨a,b,cl,i2,g2,⟨K2,hK2⟩,c2,hc⟩ := any_ok (cur0 hl) h
 obtain ⟨p,i3,g3,⟨K3,hK3⟩,c3,hp⟩ := any_cur c2 g2
 refine ⟨p,a,b,cl,⟨K1 + K2 + K3,fun k hk => ?_⟩,hc⟩
 have k1 := hK1 k (by omega)
 have k2 := hK2 k (by omega)
 have k3 := hK3 k (by omega)
 dsimp only at k1 k2 k3 ⊢
 unfold spec_DrawRun.f
 rw [k1,Option.bind_some]
 dsimp only
 rw [k2,Option.bind_some]
 dsimp only
 rw [k3,Option.bind_some]
theorem drawCheckProgram_ev {l : List Int} (hl : l.length ≤ 2000000) : ∃ p : List S25,Ev (fun k => spec_DrawCheckProgram.f k l) p := by
 obtain ⟨h,⟨K1,hK1⟩⟩ := new_ev l hl
 obtain ⟨p,i2,g2,⟨K2,hK2⟩,c2,hp⟩ := any_cur (cur0 hl) h
 refine ⟨p,K1 + K2,fun k hk => ?_⟩
 have k1 := hK1 k (by omega)
 have k2 := hK2 k (by omega)
 dsimp only at k1 k2 ⊢
 unfold spec_DrawCheckProgram.f
 rw [k1,Option.bind_some]
 dsimp only
 rw [k2,Option.bind_some]
theorem drawReached_ev {l : List Int} (hl : l.length ≤ 2000000) : ∃ p : List S25,Ev (fun k => spec_DrawReached.f k l) p := by
 obtain ⟨h,⟨K1,hK1⟩⟩ := new_ev l hl
 obtain ⟨p,i2,g2,⟨K2,hK2⟩,c2,hp⟩ := any_cur (cur0 hl) h
 refine ⟨p,K1 + K2,fun k hk => ?_⟩
 have k1 := hK1 k (by omega)
 have k2 := hK2 k (by omega)
 dsimp only at k1 k2 ⊢
 unfold spec_DrawReached.f
 rw [k1,Option.bind_some]
 dsimp only
 rw [k2,Option.bind_some]
theorem sameBools_l0 (l : List Bool) (hl : l.length ≤ 2000000) (d : Nat) : ∀ (i : Nat),i + d = l.length → Ev (fun k => laws_sameBools.l0 k l l (i : Int)) true := by
 induction d with
 | zero =>
  intro i hi
  refine Ev.step (f := fun _ => some true) (fun k => ?_) (Math.Ev.const rfl)
  show laws_sameBools.l0 (k + 1) l l _ = _
  rw [laws_sameBools.l0,if_neg (by omega)]
 | succ d ih =>
  intro i hi
  refine Ev.step (fun k => ?_) (ih (i + 1) (by omega))
  show laws_sameBools.l0 (k + 1) l l _ = _
  rw [laws_sameBools.l0,if_pos (by omega),if_pos (by omega),if_pos (by omega),if_neg (by simp)]
  rw [show wrap64 ((i : Int) + 1) = ((i + 1 : Nat) : Int) from by rw [Math.wrap_in (by omega) (by omega)]; omega]
theorem sameBools_ev (l : List Bool) (hl : l.length ≤ 2000000) : Ev (fun k => laws_sameBools.f k l l) true := by
 refine Ev.congr (fun k => by unfold laws_sameBools.f; rw [if_pos rfl]) ?_
 exact sameBools_l0 l hl l.length 0 (by omega)
theorem one_ret : checkB [⟨8,0,0,0⟩] = true := by
 have h1 : InsP 8 0 0 0 := by unfold InsP; omega
 have h2 : farOk 1 0 (⟨8,0,0,0⟩ : S25) := by
  unfold farOk
  refine ⟨fun h => ?_,fun h => ?_⟩
  ·
   have h3 : (8 : Int) ≤ 6 := h.2
   omega
  ·
   have h3 : (8 : Int) = 7 := h
   omega
 have hw : wordsOk 1 [(⟨8,0,0,0⟩ : S25)] 0 = true := by
  simp only [wordsOk]
  rw [decide_eq_true ⟨h1,h2⟩]
  rfl
 unfold checkB
 rw [show ([(⟨8,0,0,0⟩ : S25)] : List S25).length = 1 from rfl,hw]
 rfl
theorem FnRunTold : laws_FnRunTold.Pure := by
 intro l _ _ _
 by_cases hb : (l.length : Int) > 1048576
 ·
  exact ⟨0,Or.inl (by rw [big_is,decide_eq_true hb])⟩
 ·
  have hl : l.length ≤ 2000000 := by omega
  obtain ⟨p,a,b,cl,⟨K1,hK1⟩,hc⟩ := drawRun_ev hl
  obtain ⟨⟨n1,n2⟩,⟨K2,hK2⟩,⟨K3,hK3⟩,_⟩ := run_ev p a b cl (by omega)
  obtain ⟨q,K4,hK4⟩ := drawCheckProgram_ev hl
  obtain ⟨y,K5,hK5⟩ := drawReached_ev hl
  obtain ⟨K6,hK6⟩ := impl_Check_ev q
  obtain ⟨K7,hK7⟩ := spec_Check_ev q
  obtain ⟨z,⟨K8,hK8⟩,⟨K9,hK9⟩,hz,_⟩ := reach_ev y
  obtain ⟨K10,hK10⟩ := sameBools_ev z hz
  obtain ⟨K11,hK11⟩ := impl_Check_ev [⟨8,0,0,0⟩]
  rw [one_ret] at hK11
  obtain ⟨k,hk⟩ : ∃ k,k = K1 + K2 + K3 + K4 + K5 + K6 + K7 + K8 + K9 + K10 + K11 := ⟨_,rfl⟩
  exact ⟨k,Or.inr ⟨by rw [big_is,decide_eq_false hb],p,q,y,[⟨8,0,0,0⟩],a,b,n1,n2,cl,checkB q,z,hK1 k (by omega),hK3 k (by omega),hK2 k (by omega),hK4 k (by omega),hK5 k (by omega),hK6 k (by omega),hK7 k (by omega),hK9 k (by omega),hK8 k (by omega),hK10 k (by omega),hK11 k (by omega),rfl⟩⟩
end Go.Proofs.Ytfchokhdhnfajaa.Pure
