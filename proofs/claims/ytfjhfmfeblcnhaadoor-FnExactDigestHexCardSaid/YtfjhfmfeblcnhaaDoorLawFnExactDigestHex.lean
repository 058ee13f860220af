/- The row of FnExactDigestHex: from its pure statement and the walks of its functions (the kit's print wrote it). -/
import Derived.Test.YtfjhfmfeblcnhaaDoorRows
import Derived.Test.YtfjhfmfeblcnhaaDoorLaid
import Derived.Test.YtfjhfmfeblcnhaaDoorCards
import Derived.Test.YtfjhfmfeblcnhaaDoorTie
import Derived.SevenTiedAt
import Derived.Test.YtfjhfmfeblcnhaaDoorOFnExactDigestHexx3
import Derived.Test.YtfjhfmfeblcnhaaDoorPureFnExactDigestHex
import Derived.WalkKit
import Derived.ProofKit
import Derived.OpenShut
import Derived.ShutString
import Derived.ChangeOld
import Derived.Below
import Derived.SizedLaws
namespace Go.Proofs.YtfjhfmfeblcnhaaDoor.fnExactDigestHex
open Go.ChangeShapes Go.WideShapes Go.ChangeAt Go.RowKit
open Go.ChangeMaps (open_string shut_string)
open Go.Proofs.YtfjhfmfeblcnhaaDoor.Hand (LAID)
set_option linter.unusedVariables false
theorem own : ownKnob Tryd.prog.godebug = none := by kernel_rfl
set_option maxRecDepth 100000 in
theorem lifted (os : Os) (started : os.Started) (H : Type) (enc : TypeId × Value → H) :
    ReturnsInHanded {} Tryd.checked os 7 .any (fun w args => (Rows.fnExactDigestHexSpec.pre enc Tryd.prog Tryd.f7 [] false w args ∧ laidMetH Tryd.prog LAID w) ∧ sizedMet enc Tryd.prog Tryd.f7 (OpenSpec.ofChange Rows.fnExactDigestHexSpec) false w args) (Rows.fnExactDigestHexSpec.post enc Tryd.prog Tryd.f7 false true false false) := by
  refine returnsInHanded_of_change_and (C := Tryd.checked) (X := fun w _ => laidMetH Tryd.prog LAID w) (fun _ _ _ hh h => h.of_heap hh) own started (by kernel_rfl) Tryd.func7
    (ChangeSpec.witness_shaped (enc := enc) (C := Tryd.checked) (os := os) (X := fun w _ => laidMetH Tryd.prog LAID w) false (World.doorLaid Tryd.prog 14 os) #[.string ByteArray.empty] 8 rfl (World.shaped_of_RefB (by kernel_rfl) (by kernel_rfl)) (by kernel_rfl) (by kernel_rfl) (by kernel_rfl) (Hand.door_met os _)) ?_
  intro W base args ds gs before hval0 hW hcnd hsz0 hL _
  have hsz : (DataW.weightsEach Tryd.prog (Tryd.f7.params.toList ++ Rows.fnExactDigestHexSpec.plain.varTypes Tryd.prog) (ds ++ gs)).all (· ≤ reachBytes) = true := hsz0
  have hval : ∀ (j : Nat) t v, Tryd.f7.params[j]? = some t → args[j]? = some v → Value.okWide Tryd.prog W .any base t v := hval0
  have hW' := hW
  obtain ⟨p, q, hA0, hV, rfl, hfz, hnd⟩ := hW
  have hA : DataW.TrodAll enc Tryd.prog W 0 (fun _ => true) true Tryd.f7.params.toList args.toList ds p := hA0
  rw [Tryd.params7] at hA hval hsz
  obtain ⟨v0, vs0, d0, ds0, p0, q0, hargs, rfl, rfl, h0, r0⟩ := trodAll_cons hA
  obtain ⟨rfl, rfl, rfl⟩ := trodAll_nil r0
  obtain rfl : args = #[v0] := by cases args; simp_all
  have hV1 : DataW.TrodVars enc Tryd.prog W (fun _ => true) ["loop.example/g00397/impl.shaWords"] gs q := hV
  obtain ⟨gT, tT, csT, fuelT, dT, pT, rfl, hgT, htT, hvarT, hdT, rfl⟩ := trodVars_one hV1
  obtain rfl := Option.some.inj (Hand.gTab.symm.trans hgT)
  obtain rfl := Option.some.inj (Hand.gTabType.symm.trans htT)
  have htab := Hand.tab_of_laid hL
  obtain rfl : csT = Hand.tabCs := Option.some.inj (hvarT.symm.trans htab)
  obtain ⟨rfl, rfl⟩ := DataW.Trod.unique (v := .agg Hand.tabCs) ⟨fuelT, hdT⟩ ⟨3, Hand.reads_tab enc W _⟩
  have hkeys := Hand.keys_of_tab htab
  obtain ⟨a0, rfl, rfl, rfl, y0⟩ := open_string Tryd.underlying9 (hval 0 9 v0 rfl rfl) h0
  have w0 : a0.size ≤ 140737488351232 := by
    have z := sized_string hsz (j := 0) (t := 9) rfl rfl
    rw [Array.length_toList] at z
    exact z
  clear hA0 hval0 hsz0 hsz
  refine (PFnExactDigestHex.laws_FnExactDigestHex.walk Pure.FnExactDigestHex a0 W hkeys w0).mono fun e W' ⟨he, bel⟩ => ?_
  subst he
  exact ⟨_, rfl, _, _, _, [], _, _, hW', trodAll_mk1 (shut_bool Tryd.underlying4 _), (trodAll_cons_mk (shut_string Tryd.underlying9 y0) trodAll_mk0), Hand.vars_again enc _ htab bel, bel.frame _, fun h => by cases h⟩
theorem over : Rows.fnExactDigestHexRow.holds Tryd.pinned (OpenSpec.ofChange Rows.fnExactDigestHexSpec) :=
  OpenClaim.holds_of_wide 7 Tryd.f7 rfl rfl rfl rfl rfl rfl rfl ⟨rfl, rfl, rfl, rfl, rfl⟩ rfl rfl rfl rfl rfl (by kernel_rfl) Tryd.func7 (by kernel_rfl)
    (of_decide_eq_true (by kernel_rfl)) (by unfold Func.isWrapper; first | (rw [if_pos (by decide +kernel)]; kernel_rfl) | (rw [if_neg (by decide +kernel)]; exact ⟨rfl, rfl⟩))
    (fun os started H enc _ => lifted os started H enc)
theorem proved : Rows.FnExactDigestHexSaid := over
#print axioms proved
end Go.Proofs.YtfjhfmfeblcnhaaDoor.fnExactDigestHex
namespace Go.Proofs.YtfjhfmfeblcnhaaDoor
/-- The row, under a short name, for the claim. -/
theorem fnExactDigestHex_holds : Rows.FnExactDigestHexSaid := fnExactDigestHex.proved
open Go in
/-- The tied card. -/
theorem fnExactDigestHex_card_holds : Rows.FnExactDigestHexCardSaid :=
  Claim7.holds_tied_plain_at .later [] [.data] true (true, "748ebfefcf4f9a7f3dab1a4860dc210fb5780141701d0d3c58973643c4156394") false
    fnExactDigestHex_holds (fun _ h => by cases h) (by kernel_rfl) (fun _ h => by cases h) fnExactDigestHex_row_tie rfl ⟨rfl, rfl⟩ (by kernel_rfl) rfl
    (fun f fn hf hfn => by
      obtain rfl : f = 7 := Option.some.inj ((show Tryd.prog.funcNamed "loop.example/g00397/laws.FnExactDigestHex" = some 7 by kernel_rfl).symm.trans hf) |>.symm
      obtain rfl : fn = Tryd.f7 := (Option.some.inj (Tryd.func7.symm.trans hfn)).symm
      exact ⟨by kernel_rfl, fun j t ht => by
        rw [Tryd.params7] at ht
        have hm : t ∈ [9] := by simpa using Array.mem_of_getElem? ht
        have hall : ([9].all fun u => !Tryd.prog.wantsStandIn u) = true := by kernel_rfl
        exact (show Tryd.prog.wantsStandIn t = false by simpa using List.all_eq_true.1 hall t hm)⟩)
    (by kernel_rfl)
#print axioms fnExactDigestHex_card_holds
end Go.Proofs.YtfjhfmfeblcnhaaDoor
