/- FnPrograms: what the law's function computes, its contract, and the pure statement. -/
import Derived.Test.YtfchokhdhnfajaaOFnProgramsx11
namespace Go.Proofs.Ytfchokhdhnfajaa.PFnPrograms
open Go.RowKit Go.Proofs.YtfchokhdhnfajaaW.PrintWords Go.Proofs.YtfchokhdhnfajaaW.PrintLast Go.Proofs.YtfchokhdhnfajaaW.PrintMore
attribute [local go_sem] max2_int min2_int max_two min_two max_three min_three max_four min_four   -- for this text's walks alone
set_option linter.unusedVariables false
set_option linter.unusedSimpArgs false

def laws_FnPrograms.Pure : Prop := ∀ (l0 : List Int), l0.length ≤ maxLen → l0.length * 1 ≤ 140737488351232 → (∀ x ∈ l0, (Lit.int .u8 x).wf = true) → ∃ k, laws_big.f l0 = some true ∨ (laws_big.f l0 = some false ∧ ∃ (p y y2 d : List S25) (s u ag t v wt et : ByteArray) (may agb one back could wb good : Bool) (a1 a2 a3 a4 b1 b2 b3 b4 c1 c2 c3 c4 d1 d2 d3 d4 : Int), (spec_DrawProgram.f k l0 = some p) ∧ (impl_ProgramText.f k p = some (s, true)) ∧ (impl_ReadProgram.f k s = some (p, true)) ∧ (laws_sameIns.f k p p = some true) ∧ (spec_DrawReadProgram.f k l0 = some u) ∧ (impl_ReadProgram.f k u = some (y, may)) ∧ (spec_ReadProgram.f k u = some (y2, may)) ∧ (impl_ProgramText.f k y = some (ag, agb)) ∧ (spec_DrawInsText.f k l0 = some (a1, a2, a3, a4)) ∧ (impl_InsText.f k a1 a2 a3 a4 = some (t, one)) ∧ (impl_ReadIns.f k t = some (b1, b2, b3, b4, back)) ∧ (spec_InsOk.f k a1 a2 a3 a4 = some one) ∧ (impl_InsOk.f k a1 a2 a3 a4 = some one) ∧ (spec_DrawReadIns.f k l0 = some v) ∧ (impl_ReadIns.f k v = some (c1, c2, c3, c4, could)) ∧ (spec_ReadIns.f k v = some (d1, d2, d3, d4, could)) ∧ (impl_InsText.f k c1 c2 c3 c4 = some (wt, wb)) ∧ (spec_DrawProgramText.f k l0 = some d) ∧ (impl_ProgramText.f k d = some (et, good)) ∧ (spec_ProgramText.f k d = some (et, good)) ∧ (may = true → ag = u) ∧ (one = true → back = true ∧ a1 = b1 ∧ a2 = b2 ∧ a3 = b3 ∧ a4 = b4) ∧ (could = true → wt = v))
set_option maxHeartbeats 4000000 in
set_option maxRecDepth 100000 in
theorem laws_FnPrograms.small (A0 : Option Addr) (c0 : Nat) (l0 : List Int) (w : World) (hr0 : Kd.C (Kd.int .u8) w A0 l0.length l0) (hc0 : l0.length ≤ c0) (hb : laws_big.f l0 = some true) :
    Calls Try.prog 8 #[.slice A0 l0.length c0] w fun e w' => e = .returned (.bool true) ∧ Below w.heap.size w w' := by
  have HR0 := Aside0.mk hr0
  have HC0 := Aside0.mk hc0
  have H0 := Aside0.mk hb
  clear hr0 hc0 hb
  go_enter Try.func8, Try.ntmps8
  go_wp2_with (go_at_call 32; (with_reducible refine (laws_big.calls A0 c0 l0 true w HR0.out HC0.out H0.out).mono ?_); rintro e w1 ⟨rfl, hd⟩; have HB := Aside0.mk hd.below; clear hd)
  go_ret
  exact ⟨by first | rfl | (simp; done), HB.out⟩
theorem laws_FnPrograms.walk (P : laws_FnPrograms.Pure) (a0 : Option Addr) (len0 cap0 : Nat) (z0 : List Int) (w : World) (w0 : (a0 = none ∧ len0 = 0 ∧ cap0 = 0 ∧ z0 = []) ∨ ∃ x, a0 = some x ∧ len0 ≤ cap0 ∧ cap0 ≤ maxLen ∧ z0.length = cap0 ∧ (∀ i, i < z0.length → w.cell? (x.add i) = some (.int .u8 (z0.getD i 0))) ∧ ∀ n ∈ z0, (Lit.int .u8 n).wf = true) (y0 : len0 * 1 ≤ 140737488351232) :
    Calls Try.prog 8 #[.slice a0 len0 cap0] w fun e w' => e = .returned (.bool true) ∧ Below w.heap.size w w' := by
  obtain ⟨l0, rfl, hr0, hm0, hw0, hc0⟩ := ReadsInt.ofRowC w0
  have hr := Kd.C_of_reads (d := (0 : Int)) (h1 := fun _ => rfl) hr0
  obtain ⟨k, hb | ⟨hb, p, y, y2, d, s, u, ag, t, v, wt, et, may, agb, one, back, could, wb, good, a1, a2, a3, a4, b1, b2, b3, b4, c1, c2, c3, c4, d1, d2, d3, d4, h1, h2, h3, h3b, h4, h5, h6, h7, h8, h9, h10, h11, h12, h13, h14, h15, h16, h17, h18, h19, hag, hone, hcould⟩⟩ := P l0 hm0 y0 hw0
  · exact laws_FnPrograms.small _ _ l0 w hr hc0 hb
  · exact laws_FnPrograms.way k _ _ l0 w hr hc0 p y y2 d s u ag t v wt et may agb one back could wb good a1 a2 a3 a4 b1 b2 b3 b4 c1 c2 c3 c4 d1 d2 d3 d4 hb h1 h2 h3 h3b h4 h5 h6 h7 h8 h9 h10 h11 h12 h13 h14 h15 h16 h17 h18 h19 hag hone hcould

end Go.Proofs.Ytfchokhdhnfajaa.PFnPrograms
