/- For every line the program's PartsOf answers what the reference's PartsOf answers, and its list shares no memory with another answer. -/
import Derived.Test.YtaljdljhbhmipaaOFnExactPartsOfx3
import Derived.Test.YtaljdljhbhmipaaMath
namespace Go.Proofs.Ytaljdljhbhmipaa.Pure
open Go.RowKit Go.Proofs.Ytaljdljhbhmipaa.PFnExactPartsOf Go.Proofs.YtaljdljhbhmipaaW.PrintWords Go.Proofs.YtaljdljhbhmipaaW.PrintLast Go.Proofs.YtaljdljhbhmipaaW.PrintMore
set_option linter.unusedVariables false

theorem impl_within_is (a lo hi : Int) : impl_within.f a lo hi = some (decide (lo ≤ a ∧ a ≤ hi)) := by
  unfold impl_within.f
  by_cases h : a ≥ lo
  · rw [if_pos h]
    by_cases h2 : a ≤ hi
    · simp [h, h2]
    · simp [h2]
  · rw [if_neg h]
    have : ¬ lo ≤ a := h
    simp [this]
theorem eqStringS_l0 (l : List ByteArray) (hl : l.length ≤ 1000000) (d : Nat) : ∀ (i : Nat), i + d = l.length → Ev (fun k => laws_eqStringS.l0 k l l (i : Int)) true := by
  induction d with
  | zero =>
    intro i hi
    refine Ev.step (f := fun _ => some true) (fun k => ?_) (Math.Ev.const rfl)
    show laws_eqStringS.l0 (k + 1) l l _ = _
    rw [laws_eqStringS.l0, if_neg (by omega)]
  | succ d ih =>
    intro i hi
    refine Ev.step (fun k => ?_) (ih (i + 1) (by omega))
    show laws_eqStringS.l0 (k + 1) l l _ = _
    rw [laws_eqStringS.l0, if_pos (by omega), if_pos (by omega), if_pos (by omega), if_pos rfl]
    rw [show wrap64 ((i : Int) + 1) = ((i + 1 : Nat) : Int) from by rw [Math.wrap_in (by omega) (by omega)]; omega]
theorem eqStringS_ev (l : List ByteArray) (hl : l.length ≤ 1000000) : Ev (fun k => laws_eqStringS.f k l l) true := by
  refine Ev.congr (fun k => by unfold laws_eqStringS.f; rw [if_pos rfl]) ?_
  exact eqStringS_l0 l hl l.length 0 (by omega)
theorem markText_l0 (d : Nat) : ∀ (m : Nat) (s : ByteArray), m < 10 ^ d → s.size + d ≤ 100 → m ≤ 1000000 → ∃ r, Ev (fun k => laws_markText.l0 k (m : Int) s) r := by
  have hz : ∀ (s : ByteArray), s.size ≤ 100 → ∃ r, Ev (fun k => laws_markText.l0 k 0 s) r := by
    intro s hs
    refine ⟨_, Ev.step (f := fun _ => some ((⟨#[109]⟩ : ByteArray) ++ s)) (fun k => ?_) (Math.Ev.const rfl)⟩
    show laws_markText.l0 (k + 1) 0 s = _
    rw [laws_markText.l0, if_neg (by omega), if_pos (by omega)]
  induction d with
  | zero =>
    intro m s hm hs hb
    obtain rfl : m = 0 := by simp at hm; omega
    exact hz s (by omega)
  | succ d ih =>
    intro m s hm hs hb
    by_cases c : m = 0
    · subst c
      exact hz s (by omega)
    · have hp : (10 : Nat) ^ (d + 1) = 10 ^ d * 10 := Nat.pow_succ ..
      obtain ⟨r, hr⟩ := ih (m / 10) (strOfNums [wrap64 (48 + Int.tmod (m : Int) 10) % 256] ++ s) (by omega) (by rw [Math.size_append, strOfNums_size, List.length_singleton]; omega) (by omega)
      refine ⟨r, Ev.step (fun k => ?_) hr⟩
      show laws_markText.l0 (k + 1) (m : Int) s = _
      rw [laws_markText.l0, if_pos (by omega)]
      simp only [Option.bind_some]
      rw [if_pos (by rw [strOfNums_size, List.length_singleton]; omega)]
      rw [Int.tdiv_eq_ediv_of_nonneg (by omega), Math.wrap_in (n := (m : Int) / 10) (by omega) (by omega)]
      rfl
theorem markText_ev (m : Nat) (h : 1 ≤ m) (hb : m ≤ 1000000) : ∃ r, Ev (fun k => laws_markText.f k (m : Int)) r := by
  obtain ⟨r, hr⟩ := markText_l0 20 m (⟨#[]⟩ : ByteArray) (by simp only [Nat.reducePow]; omega) (by decide) hb
  exact ⟨r, Ev.congr (fun k => by unfold laws_markText.f; rw [if_neg (by omega)]) hr⟩
theorem markStringS_l0 (d : Nat) : ∀ (l : List ByteArray) (i m : Nat), i + d = l.length → 1 ≤ m → m + d ≤ 1000000 → l.length ≤ 1000000 →
    ∃ l' : List ByteArray, l'.length = l.length ∧ (∀ j, j < i → l'.getD j ByteArray.empty = l.getD j ByteArray.empty) ∧
      Ev (fun k => laws_markStringS.l0 k l (m : Int) (i : Int)) (((m + d : Nat) : Int), l') ∧ Ev (fun k => laws_heldStringS.l0 k l' (m : Int) (i : Int)) ((m + d : Nat) : Int) := by
  induction d with
  | zero =>
    intro l i m hi h1 h2 hl
    refine ⟨l, rfl, fun _ _ => rfl, Ev.step (f := fun _ => some (((m : Nat) : Int), l)) (fun k => ?_) (Math.Ev.const rfl), Ev.step (f := fun _ => some ((m : Nat) : Int)) (fun k => ?_) (Math.Ev.const rfl)⟩
    · show laws_markStringS.l0 (k + 1) l _ _ = _
      rw [laws_markStringS.l0, if_neg (by omega)]
    · show laws_heldStringS.l0 (k + 1) l _ _ = _
      rw [laws_heldStringS.l0, if_neg (by omega)]
  | succ d ih =>
    intro l i m hi h1 h2 hl
    obtain ⟨t, ht⟩ := markText_ev m h1 (by omega)
    obtain ⟨l', hlen, hkeep, hm, hh⟩ := ih (l.set i t) (i + 1) (m + 1) (by rw [List.length_set]; omega) (by omega) (by omega) (by rw [List.length_set]; exact hl)
    rw [List.length_set] at hlen
    have e1 : PLift (wrap64 ((m : Int) + 1) = ((m + 1 : Nat) : Int)) := ⟨by rw [Math.wrap_in (by omega) (by omega)]; omega⟩
    have e2 : PLift (wrap64 ((i : Int) + 1) = ((i + 1 : Nat) : Int)) := ⟨by rw [Math.wrap_in (by omega) (by omega)]; omega⟩
    have hx : rdOf ByteArray.empty l' (i : Int) = t := by
      unfold rdOf
      rw [Int.toNat_natCast, hkeep i (by omega)]
      simp only [List.getD_eq_getElem?_getD]
      rw [List.getElem?_set_self (by omega)]
      rfl
    refine ⟨l', hlen, fun j hj => ?_, ?_, ?_⟩
    · rw [hkeep j (by omega)]
      simp only [List.getD_eq_getElem?_getD]
      rw [List.getElem?_set_ne (by omega)]
    · refine Ev.step (f := fun k => (laws_markText.f k (m : Int)).bind fun t137 => laws_markStringS.l0 k (l.set i t137) ((m + 1 : Nat) : Int) ((i + 1 : Nat) : Int)) (fun k => ?_) ?_
      · show laws_markStringS.l0 (k + 1) l _ _ = _
        rw [laws_markStringS.l0, if_pos (by omega), e1.down, e2.down]
        simp only [if_pos (show (0 : Int) ≤ (i : Int) from by omega), Int.toNat_natCast]
      · rw [show m + (d + 1) = m + 1 + d from by omega]
        exact Ev.bind (f := fun k t137 => laws_markStringS.l0 k (l.set i t137) ((m + 1 : Nat) : Int) ((i + 1 : Nat) : Int)) ht hm
    · refine Ev.step (f := fun k => (laws_markText.f k (m : Int)).bind fun t140 => if t.toList = t140.toList then laws_heldStringS.l0 k l' ((m + 1 : Nat) : Int) ((i + 1 : Nat) : Int) else some (-1)) (fun k => ?_) ?_
      · show laws_heldStringS.l0 (k + 1) l' _ _ = _
        rw [laws_heldStringS.l0, if_pos (by omega), if_pos (by omega), hx, e1.down, e2.down]
      · rw [show m + (d + 1) = m + 1 + d from by omega]
        refine Ev.bind (f := fun k (t140 : ByteArray) => if t.toList = t140.toList then laws_heldStringS.l0 k l' ((m + 1 : Nat) : Int) ((i + 1 : Nat) : Int) else some (-1)) ht ?_
        simp only [if_true]
        exact hh
theorem markStringS_ev (l : List ByteArray) (hl : l.length ≤ 1000) : ∃ l' : List ByteArray, ∃ q : Int, 0 ≤ q ∧ Ev (fun k => laws_markStringS.f k l 1) (q, l') ∧ Ev (fun k => laws_heldStringS.f k l' 1) q := by
  obtain ⟨l', _, _, hm, hh⟩ := markStringS_l0 l.length l 0 1 (by omega) (by omega) (by omega) (by omega)
  exact ⟨l', _, Int.natCast_nonneg _, hm, hh⟩
theorem parts_both (s : ByteArray) (hs : s.size ≤ 600) (d : Nat) : ∀ (i b : Nat) (fr : Int) (acc : List ByteArray), i + d = s.size + 1 → b ≤ i → acc.length ≤ i → ((fr = -1 ∧ b = i) ∨ (fr = (b : Int) ∧ b < i)) →
    ∃ r : List ByteArray × Bool, r.1.length ≤ 10 ∧ Ev (fun k => spec_PartsOf.l0 k s acc (b : Int) (i : Int)) r ∧ Ev (fun k => impl_PartsOf.l0 k s acc fr (i : Int)) r := by
  induction d with
  | zero =>
    intro i b fr acc hi hb ha hf
    by_cases c : (acc.length : Int) > 10
    · refine ⟨([], false), by simp, Ev.step (f := fun _ => some ([], false)) (fun k => ?_) (Math.Ev.const rfl), Ev.step (f := fun _ => some ([], false)) (fun k => ?_) (Math.Ev.const rfl)⟩
      · show spec_PartsOf.l0 (k + 1) s _ _ _ = _
        rw [spec_PartsOf.l0, if_neg (by omega), if_pos c]
      · show impl_PartsOf.l0 (k + 1) s _ _ _ = _
        rw [impl_PartsOf.l0, if_neg (by omega), if_pos c]
    · refine ⟨(acc, true), by show acc.length ≤ 10; omega, Ev.step (f := fun _ => some (acc, true)) (fun k => ?_) (Math.Ev.const rfl), Ev.step (f := fun _ => some (acc, true)) (fun k => ?_) (Math.Ev.const rfl)⟩
      · show spec_PartsOf.l0 (k + 1) s _ _ _ = _
        rw [spec_PartsOf.l0, if_neg (by omega), if_neg c]
      · show impl_PartsOf.l0 (k + 1) s _ _ _ = _
        rw [impl_PartsOf.l0, if_neg (by omega), if_neg c]
  | succ d ih =>
    intro i b fr acc hi hb ha hf
    have e1 : PLift (wrap64 ((i : Int) + 1) = ((i + 1 : Nat) : Int)) := ⟨by rw [Math.wrap_in (by omega) (by omega)]; omega⟩
    have blank : ∃ r : List ByteArray × Bool, r.1.length ≤ 10 ∧ Ev (fun k => spec_PartsOf.j2 k s acc (b : Int) (i : Int) false) r ∧ Ev (fun k => impl_PartsOf.j2 k s acc fr (i : Int) true) r := by
      rcases hf with ⟨hf1, hf2⟩ | ⟨hf1, hf2⟩
      · obtain ⟨r, hr, h1, h2⟩ := ih (i + 1) (i + 1) (-1) acc (by omega) (by omega) (by omega) (Or.inl ⟨rfl, rfl⟩)
        refine ⟨r, hr, Ev.step (fun k => ?_) h1, Ev.step (f := fun k => impl_PartsOf.j3 k s acc fr (i : Int) true false) (fun k => ?_) (Ev.step (fun k => ?_) h2)⟩
        · show spec_PartsOf.j2 (k + 1) s _ _ _ _ = _
          rw [spec_PartsOf.j2, if_neg (by decide), if_neg (by omega), e1.down]
        · show impl_PartsOf.j2 (k + 1) s _ _ _ _ = _
          rw [impl_PartsOf.j2, if_pos rfl]
        · show impl_PartsOf.j3 (k + 1) s _ _ _ _ _ = _
          rw [impl_PartsOf.j3, if_neg (by decide), if_pos rfl, if_neg (by omega), e1.down, hf1]
      · obtain ⟨r, hr, h1, h2⟩ := ih (i + 1) (i + 1) (-1) (acc ++ [s.extract b i]) (by omega) (by omega) (by rw [List.length_append, List.length_singleton]; omega) (Or.inl ⟨rfl, rfl⟩)
        refine ⟨r, hr, Ev.step (fun k => ?_) h1, Ev.step (f := fun k => impl_PartsOf.j3 k s acc fr (i : Int) true false) (fun k => ?_) (Ev.step (fun k => ?_) h2)⟩
        · show spec_PartsOf.j2 (k + 1) s _ _ _ _ = _
          rw [spec_PartsOf.j2, if_neg (by decide), if_pos (by omega), if_pos (by omega), if_pos (by omega), if_pos (by omega), if_pos (by omega), e1.down, Int.toNat_natCast, Int.toNat_natCast]
        · show impl_PartsOf.j2 (k + 1) s _ _ _ _ = _
          rw [impl_PartsOf.j2, if_pos rfl]
        · show impl_PartsOf.j3 (k + 1) s _ _ _ _ _ = _
          rw [impl_PartsOf.j3, if_neg (by decide), if_pos rfl, if_pos (by omega), if_pos (by omega), if_pos (by omega), if_pos (by omega), if_pos (by omega), e1.down, hf1, Int.toNat_natCast, Int.toNat_natCast]
    have go : ∃ r : List ByteArray × Bool, r.1.length ≤ 10 ∧ Ev (fun k => spec_PartsOf.j2 k s acc (b : Int) (i : Int) true) r ∧ Ev (fun k => impl_PartsOf.j2 k s acc fr (i : Int) false) r := by
      rcases hf with ⟨hf1, hf2⟩ | ⟨hf1, hf2⟩
      · obtain ⟨r, hr, h1, h2⟩ := ih (i + 1) b (b : Int) acc (by omega) (by omega) (by omega) (Or.inr ⟨rfl, by omega⟩)
        refine ⟨r, hr, Ev.step (fun k => ?_) h1, Ev.step (f := fun k => impl_PartsOf.j3 k s acc fr (i : Int) false true) (fun k => ?_) (Ev.step (fun k => ?_) h2)⟩
        · show spec_PartsOf.j2 (k + 1) s _ _ _ _ = _
          rw [spec_PartsOf.j2, if_pos rfl, e1.down]
        · show impl_PartsOf.j2 (k + 1) s _ _ _ _ = _
          rw [impl_PartsOf.j2, if_neg (by decide), decide_eq_true (by omega)]
        · show impl_PartsOf.j3 (k + 1) s _ _ _ _ _ = _
          rw [impl_PartsOf.j3, if_pos rfl, if_neg (by decide), e1.down, hf2]
      · obtain ⟨r, hr, h1, h2⟩ := ih (i + 1) b (b : Int) acc (by omega) (by omega) (by omega) (Or.inr ⟨rfl, by omega⟩)
        refine ⟨r, hr, Ev.step (fun k => ?_) h1, Ev.step (f := fun k => impl_PartsOf.j3 k s acc fr (i : Int) false false) (fun k => ?_) (Ev.step (fun k => ?_) h2)⟩
        · show spec_PartsOf.j2 (k + 1) s _ _ _ _ = _
          rw [spec_PartsOf.j2, if_pos rfl, e1.down]
        · show impl_PartsOf.j2 (k + 1) s _ _ _ _ = _
          rw [impl_PartsOf.j2, if_neg (by decide), decide_eq_false (by omega)]
        · show impl_PartsOf.j3 (k + 1) s _ _ _ _ _ = _
          rw [impl_PartsOf.j3, if_neg (by decide), if_neg (by decide), e1.down, hf1]
    by_cases hlt : i < s.size
    · have hb2 := bt_range s (i : Int)
      generalize hbt : bt s (i : Int) = c at *
      by_cases hc : 32 ≤ c ∧ c ≤ 126
      · by_cases h32 : c = 32
        · obtain ⟨r, hr, h1, h2⟩ := blank
          refine ⟨r, hr, Ev.step (f := fun k => spec_PartsOf.j1 k s acc (b : Int) (i : Int) false) (fun k => ?_) (Ev.step (fun k => ?_) h1), Ev.step (f := fun k => impl_PartsOf.j1 k s acc fr (i : Int) false) (fun k => ?_) (Ev.step (fun k => ?_) h2)⟩
          · show spec_PartsOf.l0 (k + 1) s _ _ _ = _
            rw [spec_PartsOf.l0, if_pos (by omega), if_pos (by omega), if_pos (by omega), hbt, if_neg (by omega), decide_eq_false (by omega)]
          · show spec_PartsOf.j1 (k + 1) s _ _ _ _ = _
            rw [spec_PartsOf.j1, if_neg (by decide), if_pos (by omega), if_pos (by omega), hbt, h32]
            rfl
          · show impl_PartsOf.l0 (k + 1) s _ _ _ = _
            rw [impl_PartsOf.l0, if_pos (by omega), if_pos (by omega), if_pos (by omega), hbt, impl_within_is, Math.wrap_in (n := c) (by omega) (by omega), Option.bind_some, decide_eq_true hc]
            rfl
          · show impl_PartsOf.j1 (k + 1) s _ _ _ _ = _
            rw [impl_PartsOf.j1, if_neg (by decide), if_neg (by omega), if_pos (by omega), if_pos (by omega), hbt, h32]
            rfl
        · obtain ⟨r, hr, h1, h2⟩ := go
          refine ⟨r, hr, Ev.step (f := fun k => spec_PartsOf.j1 k s acc (b : Int) (i : Int) false) (fun k => ?_) (Ev.step (fun k => ?_) h1), Ev.step (f := fun k => impl_PartsOf.j1 k s acc fr (i : Int) false) (fun k => ?_) (Ev.step (fun k => ?_) h2)⟩
          · show spec_PartsOf.l0 (k + 1) s _ _ _ = _
            rw [spec_PartsOf.l0, if_pos (by omega), if_pos (by omega), if_pos (by omega), hbt, if_neg (by omega), decide_eq_false (by omega)]
          · show spec_PartsOf.j1 (k + 1) s _ _ _ _ = _
            rw [spec_PartsOf.j1, if_neg (by decide), if_pos (by omega), if_pos (by omega), hbt, bne_iff_ne.2 h32]
          · show impl_PartsOf.l0 (k + 1) s _ _ _ = _
            rw [impl_PartsOf.l0, if_pos (by omega), if_pos (by omega), if_pos (by omega), hbt, impl_within_is, Math.wrap_in (n := c) (by omega) (by omega), Option.bind_some, decide_eq_true hc]
            rfl
          · show impl_PartsOf.j1 (k + 1) s _ _ _ _ = _
            rw [impl_PartsOf.j1, if_neg (by decide), if_neg (by omega), if_pos (by omega), if_pos (by omega), hbt, beq_eq_false_iff_ne.2 h32]
      · refine ⟨([], false), by simp, Ev.step (f := fun k => spec_PartsOf.j1 k s acc (b : Int) (i : Int) true) (fun k => ?_) (Ev.step (f := fun _ => some ([], false)) (fun k => ?_) (Math.Ev.const rfl)), Ev.step (f := fun k => impl_PartsOf.j1 k s acc fr (i : Int) true) (fun k => ?_) (Ev.step (f := fun _ => some ([], false)) (fun k => ?_) (Math.Ev.const rfl))⟩
        · show spec_PartsOf.l0 (k + 1) s _ _ _ = _
          rw [spec_PartsOf.l0, if_pos (by omega), if_pos (by omega), if_pos (by omega), hbt]
          by_cases h32 : c < 32
          · rw [if_pos h32]
          · rw [if_neg h32, decide_eq_true (by omega)]
        · show spec_PartsOf.j1 (k + 1) s _ _ _ _ = _
          rw [spec_PartsOf.j1, if_pos rfl]
        · show impl_PartsOf.l0 (k + 1) s _ _ _ = _
          rw [impl_PartsOf.l0, if_pos (by omega), if_pos (by omega), if_pos (by omega), hbt, impl_within_is, Math.wrap_in (n := c) (by omega) (by omega), Option.bind_some, decide_eq_false hc]
          rfl
        · show impl_PartsOf.j1 (k + 1) s _ _ _ _ = _
          rw [impl_PartsOf.j1, if_pos rfl]
    · obtain ⟨r, hr, h1, h2⟩ := blank
      refine ⟨r, hr, Ev.step (f := fun k => spec_PartsOf.j1 k s acc (b : Int) (i : Int) false) (fun k => ?_) (Ev.step (fun k => ?_) h1), Ev.step (f := fun k => impl_PartsOf.j1 k s acc fr (i : Int) false) (fun k => ?_) (Ev.step (fun k => ?_) h2)⟩
      · show spec_PartsOf.l0 (k + 1) s _ _ _ = _
        rw [spec_PartsOf.l0, if_pos (by omega), if_neg (by omega)]
      · show spec_PartsOf.j1 (k + 1) s _ _ _ _ = _
        rw [spec_PartsOf.j1, if_neg (by decide), if_neg (by omega)]
      · show impl_PartsOf.l0 (k + 1) s _ _ _ = _
        rw [impl_PartsOf.l0, if_pos (by omega), if_neg (by omega)]
      · show impl_PartsOf.j1 (k + 1) s _ _ _ _ = _
        rw [impl_PartsOf.j1, if_neg (by decide), if_pos (by omega)]
theorem parts_ev (s : ByteArray) : ∃ r : List ByteArray × Bool, r.1.length ≤ 10 ∧ Ev (fun k => spec_PartsOf.f k s) r ∧ Ev (fun k => impl_PartsOf.f k s) r := by
  by_cases c : (s.size : Int) > 600
  · refine ⟨([], false), by simp, ⟨0, fun k _ => ?_⟩, ⟨0, fun k _ => ?_⟩⟩
    · show spec_PartsOf.f k s = _
      unfold spec_PartsOf.f
      rw [Option.bind_some, if_pos c]
    · show impl_PartsOf.f k s = _
      unfold impl_PartsOf.f
      rw [if_pos c]
  · obtain ⟨r, hr, h1, h2⟩ := parts_both s (by omega) (s.size + 1) 0 0 (-1) [] (by omega) (by omega) (by simp) (Or.inl ⟨rfl, rfl⟩)
    refine ⟨r, hr, Ev.congr (fun k => ?_) h1, Ev.congr (fun k => ?_) h2⟩
    · show spec_PartsOf.f k s = _
      unfold spec_PartsOf.f
      rw [Option.bind_some, if_neg c]
      rfl
    · show impl_PartsOf.f k s = _
      unfold impl_PartsOf.f
      rw [if_neg c]
      rfl
theorem FnExactPartsOf : laws_FnExactPartsOf.Pure := by
  intro s _
  refine Ev.rounds ?_
  by_cases hc : (s.size : Int) > 1048576
  · exact ⟨0, fun k _ => by show laws_FnExactPartsOf.f k s = _; unfold laws_FnExactPartsOf.f; rw [if_pos hc]⟩
  · refine Ev.congr (fun k => by unfold laws_FnExactPartsOf.f; rw [if_neg hc]) ?_
    obtain ⟨r, hr, h1, h2⟩ := parts_ev s
    obtain ⟨l', q, hq, hm, hh⟩ := markStringS_ev r.1 (by omega)
    have heq := eqStringS_ev r.1 (by omega)
    refine Ev.bind (f := fun k (x : List ByteArray × Bool) => ((impl_PartsOf.f k s).bind fun y => ((laws_eqStringS.f k y.1 x.1).bind fun t149 => (if t149 = true then (laws_FnExactPartsOf.j0 k s x.1 x.2 y.1 (y.2 != x.2)) else (laws_FnExactPartsOf.j0 k s x.1 x.2 y.1 true))))) h1 ?_
    refine Ev.bind (f := fun k (y : List ByteArray × Bool) => ((laws_eqStringS.f k y.1 r.1).bind fun t149 => (if t149 = true then (laws_FnExactPartsOf.j0 k s r.1 r.2 y.1 (y.2 != r.2)) else (laws_FnExactPartsOf.j0 k s r.1 r.2 y.1 true)))) h2 ?_
    refine Ev.bind (f := fun k t149 => (if t149 = true then (laws_FnExactPartsOf.j0 k s r.1 r.2 r.1 (r.2 != r.2)) else (laws_FnExactPartsOf.j0 k s r.1 r.2 r.1 true))) heq ?_
    rw [show (r.2 != r.2) = false from by simp]
    refine Ev.congr (fun k => if_pos rfl) ?_
    refine Ev.step (fun k => by rw [laws_FnExactPartsOf.j0, if_neg (by decide)]) ?_
    refine Ev.bind (f := fun k (x : Int × List ByteArray) => ((laws_heldStringS.f k x.2 1).bind fun t152 => (if t152 < 0 then (some false) else (if t152 = x.1 then ((impl_PartsOf.f k s).bind fun bt153 => ((laws_eqStringS.f k bt153.1 r.1).bind fun t157 => (if t157 = true then (laws_FnExactPartsOf.j1 k x.2 x.1 (bt153.2 != r.2)) else (laws_FnExactPartsOf.j1 k x.2 x.1 true)))) else (some false))))) hm ?_
    refine Ev.bind (f := fun k t152 => (if t152 < 0 then (some false) else (if t152 = q then ((impl_PartsOf.f k s).bind fun bt153 => ((laws_eqStringS.f k bt153.1 r.1).bind fun t157 => (if t157 = true then (laws_FnExactPartsOf.j1 k l' q (bt153.2 != r.2)) else (laws_FnExactPartsOf.j1 k l' q true)))) else (some false)))) hh ?_
    refine Ev.congr (fun k => by rw [if_neg (by omega), if_pos rfl]) ?_
    refine Ev.bind (f := fun k (bt153 : List ByteArray × Bool) => ((laws_eqStringS.f k bt153.1 r.1).bind fun t157 => (if t157 = true then (laws_FnExactPartsOf.j1 k l' q (bt153.2 != r.2)) else (laws_FnExactPartsOf.j1 k l' q true)))) h2 ?_
    refine Ev.bind (f := fun k t157 => (if t157 = true then (laws_FnExactPartsOf.j1 k l' q (r.2 != r.2)) else (laws_FnExactPartsOf.j1 k l' q true))) heq ?_
    rw [show (r.2 != r.2) = false from by simp]
    refine Ev.congr (fun k => if_pos rfl) ?_
    refine Ev.step (fun k => by rw [laws_FnExactPartsOf.j1, if_neg (by decide)]) ?_
    refine Ev.bind (f := fun _ t158 => (if t158 < 0 then (some false) else (if t158 = q then (some true) else (some false)))) hh (Math.Ev.const ?_)
    rw [if_neg (by omega), if_pos rfl]
end Go.Proofs.Ytaljdljhbhmipaa.Pure
