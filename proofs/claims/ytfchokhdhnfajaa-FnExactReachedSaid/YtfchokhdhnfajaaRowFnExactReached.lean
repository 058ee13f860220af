/- The row of FnExactReached: for every input the law answers true, and each argument reads behind the call as it did; over the contract of the law's function and its pure statement. -/
import Derived.Test.YtfchokhdhnfajaaRows
import Derived.Test.YtfchokhdhnfajaaOFnExactReachedx6
import Derived.Test.YtfchokhdhnfajaaPureFnExactReached
import Derived.Test.YtfchokhdhnfajaaOpen
import Derived.WalkKit
import Derived.ProofKit
import Derived.OpenShut
import Derived.ShutString
import Derived.ChangeOld
import Derived.Below
import Derived.SizedLaws
import Derived.Carry
import Derived.Lib.SmallJoins
namespace Go.Proofs.Ytfchokhdhnfajaa.fnExactReached
open Go.Joins Go.ChangeShapes Go.WideShapes Go.ChangeAt Go.RowKit Go.Deep Go.Proofs.Ytfchokhdhnfajaa.PFnExactReached Go.Proofs.YtfchokhdhnfajaaW.PrintWords
open Go.ChangeMaps (open_string shut_string)
set_option linter.unusedVariables false
set_option linter.unusedSimpArgs false
theorem own : ownKnob Try.prog.godebug = none := by kernel_rfl
theorem laidOut : laidOutB Try.prog = true := by kernel_rfl
set_option maxRecDepth 100000 in
set_option maxHeartbeats 2000000 in
theorem lifted (os : Os) (started : os.Started) (H : Type) (enc : TypeId × Value → H) :
    ReturnsInHanded {} Try.checked os 12 .any (Rows.fnExactReachedSpec.pre6 enc Try.prog Try.f12 Rows.fnExactReachedRow.domain false) (Rows.fnExactReachedSpec.post enc Try.prog Try.f12 false true false false) := by
  refine returnsInHanded_of_change_sized (C := Try.checked) own started (by kernel_rfl) Try.func12
    (ChangeSpec.witness6 (enc := enc) (C := Try.checked) false ⟨#[], #[.slice none 0 0], []⟩ 8 (by kernel_rfl) (by kernel_rfl) (by kernel_rfl) (by kernel_rfl)) ?_
  intro W base args ds gs before hval0 hW hcnd hsz0 _
  have hsz : (DataW.weightsEach Try.prog (Try.f12.params.toList ++ Rows.fnExactReachedSpec.plain.varTypes Try.prog) (ds ++ gs)).all (· ≤ reachBytes) = true := hsz0
  have hval : ∀ (j : Nat) t v, Try.f12.params[j]? = some t → args[j]? = some v → Value.okWide Try.prog W .any base t v := hval0
  have hW' := hW
  obtain ⟨p, q, hA0, hV, rfl, hfz, hnd⟩ := hW
  have hA : DataW.TrodAll enc Try.prog W 0 (fun _ => true) true Try.f12.params.toList args.toList ds p := hA0
  rw [Try.params12] at hA hval hsz
  obtain ⟨v0, vs0, d0, ds0, p0, q0, hargs, rfl, rfl, h0, r0⟩ := trodAll_cons hA
  obtain ⟨rfl, rfl, rfl⟩ := trodAll_nil r0
  obtain rfl : args = #[v0] := by cases args; simp_all
  obtain ⟨rfl, rfl⟩ := trodVars_none hV
  have k0 := h0
  have lt0 : ∀ x ∈ p0, x.block < W.heap.size := by obtain ⟨m, hm⟩ := k0; exact DataW.trod_lt m _ _ _ hm
  obtain ⟨A0', len0, cap0, rfl⟩ := okWide_slice Try.underlying34 (hval 0 34 v0 rfl rfl)
  obtain ⟨A0, l0, c0, ev0, hc0, hm0, hr0⟩ : ∃ (A : Option Addr) (l : List S23) (c : Nat), Value.slice A0' len0 cap0 = .slice A l.length c ∧ l.length ≤ c ∧ (l = [] ∨ c ≤ maxLen) ∧ ReadsRow (fun (p : S23) cs => k23.K W p cs ∧ (Open.i64ok p.f0 ∧ Open.i64ok p.f1 ∧ Open.i64ok p.f2 ∧ Open.i64ok p.f3)) 4 W A l.length l := by
    obtain ⟨fuel, hf⟩ := h0
    obtain ⟨A, l, c, hcs, g⟩ := Open.row_of (α := S23) (fun p cs => k23.K W p cs ∧ (Open.i64ok p.f0 ∧ Open.i64ok p.f1 ∧ Open.i64ok p.f2 ∧ Open.i64ok p.f3)) Try.underlying34 (by kernel_rfl) (fun n cs y hy => by
      obtain ⟨a, b, c, d, rfl, wf⟩ := Open.cells4 Try.underlying23 (by kernel_rfl) (by kernel_rfl) Try.underlying3 Try.underlying3 Try.underlying3 Try.underlying3 hy
      exact ⟨⟨a, b, c, d⟩, k23_mk W _, wf⟩) hf
    exact ⟨A, l, c, by simpa [Value.cells] using hcs, g⟩
  obtain ⟨rfl, rfl, rfl⟩ : A0 = A0' ∧ l0.length = len0 ∧ c0 = cap0 := by
    simp only [Value.slice.injEq] at ev0
    exact ⟨ev0.1.symm, ev0.2.1.symm, ev0.2.2.symm⟩
  have wl0 := Open.row_all hr0
  have hr0' : Kd.C k23 W A0 l0.length l0 := ReadsRow.imp_ hr0 (Below.refl _ _) (fun p c hp => hp.1)
  obtain ⟨k, hk⟩ := Pure.FnExactReached l0 wl0 (hm0.imp id (fun h => by unfold maxLen at h; omega))
  clear hA0 hval0 hsz0 hsz
  refine (laws_FnExactReached.calls k A0 c0 l0 true W hr0' hc0 hk).mono fun e W' ⟨he, bel⟩ => ?_
  subst he
  exact ⟨_, rfl, _, _, _, [], _, [], hW', trodAll_mk1 (shut_bool Try.underlying4 _), (trodAll_cons_mk (Below.trod laidOut (by kernel_rfl) (of_decide_eq_true (by kernel_rfl)) k0 bel lt0) trodAll_mk0), rfl, bel.frame _, fun h => by cases h⟩
theorem over : Rows.fnExactReachedRow.holds Try.pinned (OpenSpec.ofChange Rows.fnExactReachedSpec) :=
  OpenClaim.holds_of_wide 12 Try.f12 rfl rfl rfl rfl rfl rfl rfl ⟨rfl, rfl, rfl, rfl, rfl⟩ rfl rfl rfl rfl rfl (by kernel_rfl) Try.func12 (by kernel_rfl)
    (of_decide_eq_true (by kernel_rfl)) (by unfold Func.isWrapper; first | (rw [if_pos (by decide +kernel)]; kernel_rfl) | (rw [if_neg (by decide +kernel)]; exact ⟨rfl, rfl⟩))
    (fun os started H enc _ => lifted os started H enc)
theorem proved : Rows.FnExactReachedSaid := over
end Go.Proofs.Ytfchokhdhnfajaa.fnExactReached
namespace Go.Proofs.Ytfchokhdhnfajaa
theorem fnExactReached_holds : Rows.FnExactReachedSaid := fnExactReached.proved
end Go.Proofs.Ytfchokhdhnfajaa
