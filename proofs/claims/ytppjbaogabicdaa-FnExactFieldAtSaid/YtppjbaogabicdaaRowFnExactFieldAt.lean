/- The row of FnExactFieldAt: for every input the law answers true, and each argument reads behind the call as it did; over the contract of the law's function and its pure statement. -/
import Derived.Test.YtppjbaogabicdaaRows
import Derived.Test.YtppjbaogabicdaaPFnExactFieldAtx3
import Derived.Test.YtppjbaogabicdaaPureFnExactFieldAt
import Derived.Test.YtppjbaogabicdaaOpen
import Derived.WalkKit
import Derived.ProofKit
import Derived.OpenShut
import Derived.ShutString
import Derived.ChangeOld
import Derived.Below
import Derived.SizedLaws
import Derived.Carry
import Derived.Lib.SmallJoins
namespace Go.Proofs.Ytppjbaogabicdaa.fnExactFieldAt
open Go.Joins Go.ChangeShapes Go.WideShapes Go.ChangeAt Go.RowKit Go.Deep Go.Proofs.Ytppjbaogabicdaa.PFnExactFieldAt Go.Proofs.YtppjbaogabicdaaW.PrintWords
open Go.ChangeMaps (open_string shut_string)
set_option linter.unusedVariables false
set_option linter.unusedSimpArgs false
theorem own : ownKnob Try.prog.godebug = none := by kernel_rfl
theorem laidOut : laidOutB Try.prog = true := by kernel_rfl
set_option maxRecDepth 100000 in
set_option maxHeartbeats 2000000 in
theorem lifted (os : Os) (started : os.Started) (H : Type) (enc : TypeId × Value → H) :
    ReturnsInHanded {} Try.checked os 6 .any (Rows.fnExactFieldAtSpec.pre6 enc Try.prog Try.f6 Rows.fnExactFieldAtRow.domain false) (Rows.fnExactFieldAtSpec.post enc Try.prog Try.f6 false true false false) := by
  refine returnsInHanded_of_change_sized (C := Try.checked) own started (by kernel_rfl) Try.func6
    (ChangeSpec.witness6 (enc := enc) (C := Try.checked) false ⟨#[], #[.agg #[.int .i64 0, .int .i64 0, .slice none 0 0], .int .i64 0], []⟩ 8 (by kernel_rfl) (by kernel_rfl) (by kernel_rfl) (by kernel_rfl)) ?_
  intro W base args ds gs before hval0 hW hcnd hsz0 _
  have hsz : (DataW.weightsEach Try.prog (Try.f6.params.toList ++ Rows.fnExactFieldAtSpec.plain.varTypes Try.prog) (ds ++ gs)).all (· ≤ reachBytes) = true := hsz0
  have hval : ∀ (j : Nat) t v, Try.f6.params[j]? = some t → args[j]? = some v → Value.okWide Try.prog W .any base t v := hval0
  have hW' := hW
  obtain ⟨p, q, hA0, hV, rfl, hfz, hnd⟩ := hW
  have hA : DataW.TrodAll enc Try.prog W 0 (fun _ => true) true Try.f6.params.toList args.toList ds p := hA0
  rw [Try.params6] at hA hval hsz
  obtain ⟨v0, vs0, d0, ds0, p0, q0, hargs, rfl, rfl, h0, r0⟩ := trodAll_cons hA
  obtain ⟨v1, vs1, d1, ds1, p1, q1, rfl, rfl, rfl, h1, r1⟩ := trodAll_cons r0
  obtain ⟨rfl, rfl, rfl⟩ := trodAll_nil r1
  obtain rfl : args = #[v0, v1] := by cases args; simp_all
  obtain ⟨rfl, rfl⟩ := trodVars_none hV
  have k0 := h0
  have lt0 : ∀ x ∈ p0, x.block < W.heap.size := by obtain ⟨m, hm⟩ := k0; exact DataW.trod_lt m _ _ _ hm
  obtain ⟨c0_0, c0_1, c0_2, y0_0, y0_1, y0_2, m0, rfl, ed0, ep0, hy0_0, hy0_1, hy0_2⟩ := open_agg3 Try.underlying34 (by kernel_rfl) (by kernel_rfl) (hval 0 34 v0 rfl rfl) h0
  obtain ⟨a0_0, e0_0, _, w0_0⟩ := DataW.trod_int Try.underlying3 hy0_0
  obtain rfl : c0_0 = .int .i64 a0_0 := by simpa using e0_0
  obtain ⟨a0_1, e0_1, _, w0_1⟩ := DataW.trod_int Try.underlying3 hy0_1
  obtain rfl : c0_1 = .int .i64 a0_1 := by simpa using e0_1
  obtain ⟨A0, l0, c0, ev0, hc0, hm0, hr0⟩ := Open.row_of (α := S85) (fun p cs => k85.K W p cs ∧ (Open.i64ok p.f0 ∧ Open.i64ok p.f1)) Try.underlying32 (by kernel_rfl) (fun n cs y hy => by
      obtain ⟨a, b, rfl, wf⟩ := Open.cells2 Try.underlying85 (by kernel_rfl) (by kernel_rfl) Try.underlying3 Try.underlying3 hy
      exact ⟨⟨a, b⟩, k85_mk W _, wf⟩) hy0_2
  obtain rfl : c0_2 = .slice A0 l0.length c0 := by simpa using ev0
  have wl0 := Open.row_all hr0
  have hr0' : Kd.C k85 W A0 l0.length l0 := ReadsRow.imp_ hr0 (Below.refl _ _) (fun p c hp => hp.1)
  have k1 := h1
  have lt1 : ∀ x ∈ p1, x.block < W.heap.size := by obtain ⟨m, hm⟩ := k1; exact DataW.trod_lt m _ _ _ hm
  obtain ⟨a1, rfl, ed1, ep1, w1⟩ := open_int Try.underlying3 (hval 1 3 v1 rfl rfl) h1
  obtain ⟨k, hk⟩ := Pure.FnExactFieldAt a0_0 a0_1 l0 a1 w0_0 w0_1 wl0 (hm0.imp id (fun h => by unfold maxLen at h; omega)) w1
  clear hA0 hval0 hsz0 hsz
  refine (laws_FnExactFieldAt.calls k a0_0 a0_1 A0 c0 l0 a1 true W hr0' hc0 hk).mono fun e W' ⟨he, bel⟩ => ?_
  subst he
  exact ⟨_, rfl, _, _, _, [], _, [], hW', trodAll_mk1 (shut_bool Try.underlying4 _), (trodAll_cons_mk (Below.trod laidOut (by kernel_rfl) (of_decide_eq_true (by kernel_rfl)) k0 bel lt0) (trodAll_cons_mk (Below.trod laidOut (by kernel_rfl) (of_decide_eq_true (by kernel_rfl)) k1 bel lt1) trodAll_mk0)), rfl, bel.frame _, fun h => by cases h⟩
theorem over : Rows.fnExactFieldAtRow.holds Try.pinned (OpenSpec.ofChange Rows.fnExactFieldAtSpec) :=
  OpenClaim.holds_of_wide 6 Try.f6 rfl rfl rfl rfl rfl rfl rfl ⟨rfl, rfl, rfl, rfl, rfl⟩ rfl rfl rfl rfl rfl (by kernel_rfl) Try.func6 (by kernel_rfl)
    (of_decide_eq_true (by kernel_rfl)) (by unfold Func.isWrapper; first | (rw [if_pos (by decide +kernel)]; kernel_rfl) | (rw [if_neg (by decide +kernel)]; exact ⟨rfl, rfl⟩))
    (fun os started H enc _ => lifted os started H enc)
theorem proved : Rows.FnExactFieldAtSaid := over
end Go.Proofs.Ytppjbaogabicdaa.fnExactFieldAt
namespace Go.Proofs.Ytppjbaogabicdaa
theorem fnExactFieldAt_holds : Rows.FnExactFieldAtSaid := fnExactFieldAt.proved
end Go.Proofs.Ytppjbaogabicdaa
