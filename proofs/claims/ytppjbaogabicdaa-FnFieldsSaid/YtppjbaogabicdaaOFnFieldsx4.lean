/- The functions of the law FnFields, as the kit's print wrote them. -/
import Derived.Test.YtppjbaogabicdaaPFnFieldsx0
import Derived.Test.YtppjbaogabicdaaOFnFieldsx1
import Derived.Test.YtppjbaogabicdaaOFnFieldsx2
import Derived.Test.YtppjbaogabicdaaOFnFieldsx3
namespace Go.Proofs.Ytppjbaogabicdaa.PFnFields
open Go.RowKit Go.Proofs.YtppjbaogabicdaaW.PrintWords Go.Proofs.YtppjbaogabicdaaW.PrintLast Go.Proofs.YtppjbaogabicdaaW.PrintMore
attribute [local go_sem] max2_int min2_int max_two min_two max_three min_three max_four min_four   -- for this text's walks alone
set_option linter.unusedVariables false
set_option linter.unusedSimpArgs false

/-! ### laws_FnFields: function 7 -/
mutual
def laws_FnFields.j0 : Nat → List Int → Bool → Int → Int → List (S45) → Option (Bool)
  | 0, _, _, _, _, _ => none
  | k + 1, x0, x59, x288000, x288001, x288002 => if x59 = true then (some false) else (laws_FnFields.l0 k x0 0 x288000 x288001 x288002)
def laws_FnFields.l0 : Nat → List Int → Int → Int → Int → List (S45) → Option (Bool)
  | 0, _, _, _, _, _ => none
  | k + 1, x0, x8, x288000, x288001, x288002 => if x8 < 3 then ((impl_FieldAt.f k x288000 x288001 x288002 (wrap64 (2 + (wrap64 (2 * x8))))).bind fun bt293 => ((impl_FieldAt.f k x288000 x288001 x288002 (wrap64 (3 + (wrap64 (2 * x8))))).bind fun bt295 => (if bt293.2 = true then (if bt295.2 = true then (if 0 ≤ x8 then (if x8 < (x288002.length : Int) then (if bt293.1 = ((rd_T45 x288002 x8).f1) then (if bt295.1 = ((rd_T45 x288002 x8).f0) then (laws_FnFields.l0 k x0 (wrap64 (x8 + 1)) x288000 x288001 x288002) else (some false)) else (some false)) else (none)) else (none)) else (some false)) else (some false)))) else ((spec_DrawFieldAt.f k x0).bind fun bt299 => ((impl_FieldAt.f k bt299.1 bt299.2.1 bt299.2.2.1 bt299.2.2.2).bind fun bt306 => ((spec_FieldAt.f k bt299.1 bt299.2.1 bt299.2.2.1 bt299.2.2.2).bind fun bt308 => ((spec_DrawCallOk.f k x0).bind fun bt310 => ((spec_DrawHalfOk.f k x0).bind fun t316 => ((impl_FieldAt.f k x288000 x288001 x288002 8).bind fun bt317 => (if (bt306.2 == bt308.2) = true then (if bt306.1 = bt308.1 then ((impl_CallOk.f k bt310.1 bt310.2.1 bt310.2.2).bind fun t319 => ((spec_CallOk.f k bt310.1 bt310.2.1 bt310.2.2).bind fun t320 => (if (t319 == t320) = true then ((impl_HalfOk.f t316).bind fun t321 => ((spec_HalfOk.f t316).bind fun t322 => (if (t321 == t322) = true then (some (!bt317.2)) else (some false)))) else (some false)))) else (some false)) else (some false))))))))
end
def laws_FnFields.f (k : Nat) (l0 : List Int) : Option (Bool) := (laws_big.f l0).bind fun t281 => (if t281 = true then (some true) else ((spec_DrawCall.f k l0).bind fun bt282 => ((impl_FieldAt.f k bt282.1 bt282.2.1 bt282.2.2 0).bind fun bt288 => ((impl_FieldAt.f k bt282.1 bt282.2.1 bt282.2.2 1).bind fun bt290 => (if bt288.2 = true then (if bt290.2 = true then (if bt288.1 = bt282.2.1 then (if bt290.1 = bt282.1 then ((impl_CallOk.f k bt282.1 bt282.2.1 bt282.2.2).bind fun t292 => (laws_FnFields.j0 k l0 (!t292) bt282.1 bt282.2.1 bt282.2.2)) else (laws_FnFields.j0 k l0 true bt282.1 bt282.2.1 bt282.2.2)) else (laws_FnFields.j0 k l0 true bt282.1 bt282.2.1 bt282.2.2)) else (laws_FnFields.j0 k l0 true bt282.1 bt282.2.1 bt282.2.2)) else (laws_FnFields.j0 k l0 true bt282.1 bt282.2.1 bt282.2.2))))))
theorem laws_FnFields.mono_l : ∀ k, (∀ y0 y1 y2 y3 y4, LeO (laws_FnFields.j0 k y0 y1 y2 y3 y4) (laws_FnFields.j0 (k + 1) y0 y1 y2 y3 y4)) ∧ (∀ y0 y1 y2 y3 y4, LeO (laws_FnFields.l0 k y0 y1 y2 y3 y4) (laws_FnFields.l0 (k + 1) y0 y1 y2 y3 y4))
  | 0 => ⟨fun _ _ _ _ _ r h => by simp [laws_FnFields.j0] at h, fun _ _ _ _ _ r h => by simp [laws_FnFields.l0] at h⟩
  | k + 1 => by
    obtain ⟨ih0, ih1⟩ := laws_FnFields.mono_l k
    refine ⟨?_, ?_⟩
    · intro y0 y1 y2 y3 y4
      unfold laws_FnFields.j0
      repeat' first
      | (with_reducible exact ih0 _ _ _ _ _)
      | (with_reducible exact ih1 _ _ _ _ _)
      | (with_reducible exact impl_CallOk.mono _ _ _ _)
      | (with_reducible exact impl_FieldAt.mono _ _ _ _ _)
      | (with_reducible exact spec_CallOk.mono _ _ _ _)
      | (with_reducible exact spec_DrawCall.mono _ _)
      | (with_reducible exact spec_DrawCallOk.mono _ _)
      | (with_reducible exact spec_DrawFieldAt.mono _ _)
      | (with_reducible exact spec_DrawHalfOk.mono _ _)
      | (with_reducible exact spec_FieldAt.mono _ _ _ _ _)
      | (with_reducible exact LeO.refl _)
      | (with_reducible exact LeO.none _)
      | (with_reducible refine LeO.ite ?_ ?_)
      | (with_reducible refine LeO.bind ?_ (fun _ => ?_))
      | exact ih0 _ _ _ _ _
      | exact ih1 _ _ _ _ _
      | exact impl_CallOk.mono _ _ _ _
      | exact impl_FieldAt.mono _ _ _ _ _
      | exact spec_CallOk.mono _ _ _ _
      | exact spec_DrawCall.mono _ _
      | exact spec_DrawCallOk.mono _ _
      | exact spec_DrawFieldAt.mono _ _
      | exact spec_DrawHalfOk.mono _ _
      | exact spec_FieldAt.mono _ _ _ _ _
      | exact LeO.none _
      | refine LeO.ite ?_ ?_
      | refine LeO.bind ?_ (fun _ => ?_)
    · intro y0 y1 y2 y3 y4
      unfold laws_FnFields.l0
      repeat' first
      | (with_reducible exact ih0 _ _ _ _ _)
      | (with_reducible exact ih1 _ _ _ _ _)
      | (with_reducible exact impl_CallOk.mono _ _ _ _)
      | (with_reducible exact impl_FieldAt.mono _ _ _ _ _)
      | (with_reducible exact spec_CallOk.mono _ _ _ _)
      | (with_reducible exact spec_DrawCall.mono _ _)
      | (with_reducible exact spec_DrawCallOk.mono _ _)
      | (with_reducible exact spec_DrawFieldAt.mono _ _)
      | (with_reducible exact spec_DrawHalfOk.mono _ _)
      | (with_reducible exact spec_FieldAt.mono _ _ _ _ _)
      | (with_reducible exact LeO.refl _)
      | (with_reducible exact LeO.none _)
      | (with_reducible refine LeO.ite ?_ ?_)
      | (with_reducible refine LeO.bind ?_ (fun _ => ?_))
      | exact ih0 _ _ _ _ _
      | exact ih1 _ _ _ _ _
      | exact impl_CallOk.mono _ _ _ _
      | exact impl_FieldAt.mono _ _ _ _ _
      | exact spec_CallOk.mono _ _ _ _
      | exact spec_DrawCall.mono _ _
      | exact spec_DrawCallOk.mono _ _
      | exact spec_DrawFieldAt.mono _ _
      | exact spec_DrawHalfOk.mono _ _
      | exact spec_FieldAt.mono _ _ _ _ _
      | exact LeO.none _
      | refine LeO.ite ?_ ?_
      | refine LeO.bind ?_ (fun _ => ?_)
theorem laws_FnFields.mono : ∀ a0 k, LeO (laws_FnFields.f k a0) (laws_FnFields.f (k + 1) a0) := by
  intro a0 k
  obtain ⟨ih0, ih1⟩ := laws_FnFields.mono_l k
  unfold laws_FnFields.f
  repeat' first
      | (with_reducible exact ih0 _ _ _ _ _)
      | (with_reducible exact ih1 _ _ _ _ _)
      | (with_reducible exact impl_CallOk.mono _ _ _ _)
      | (with_reducible exact impl_FieldAt.mono _ _ _ _ _)
      | (with_reducible exact spec_CallOk.mono _ _ _ _)
      | (with_reducible exact spec_DrawCall.mono _ _)
      | (with_reducible exact spec_DrawCallOk.mono _ _)
      | (with_reducible exact spec_DrawFieldAt.mono _ _)
      | (with_reducible exact spec_DrawHalfOk.mono _ _)
      | (with_reducible exact spec_FieldAt.mono _ _ _ _ _)
      | (with_reducible exact LeO.refl _)
      | (with_reducible exact LeO.none _)
      | (with_reducible refine LeO.ite ?_ ?_)
      | (with_reducible refine LeO.bind ?_ (fun _ => ?_))
      | exact ih0 _ _ _ _ _
      | exact ih1 _ _ _ _ _
      | exact impl_CallOk.mono _ _ _ _
      | exact impl_FieldAt.mono _ _ _ _ _
      | exact spec_CallOk.mono _ _ _ _
      | exact spec_DrawCall.mono _ _
      | exact spec_DrawCallOk.mono _ _
      | exact spec_DrawFieldAt.mono _ _
      | exact spec_DrawHalfOk.mono _ _
      | exact spec_FieldAt.mono _ _ _ _ _
      | exact LeO.none _
      | refine LeO.ite ?_ ?_
      | refine LeO.bind ?_ (fun _ => ?_)
def laws_FnFields.T21 : Bool × List (List Nat × List Nat) := (true, [([], []), ([], []), ([0, 1], [0, 1]), ([2], [2]), ([3], [3]), ([3], [3]), ([4, 5, 3], [3, 4, 5]), ([3, 6], [3, 6]), ([7, 3], [7]), ([8], [8]), ([9, 8, 8], [8, 9]), ([8], [8]), ([11, 10, 8], [8, 11]), ([10, 12, 8], [8, 10, 12]), ([8, 13], [8, 13]), ([14, 12], [14]), ([15], [15]), ([16, 15, 15], [15, 16]), ([15], [15]), ([18, 17, 15], [15, 18]), ([17, 19, 15], [15, 17, 19]), ([15, 20], [15, 20]), ([21, 19], [21]), ([22], [22]), ([23, 22], [22, 23]), ([22, 24], [22, 24]), ([25, 22, 0, 1, 2, 3, 4, 5, 6, 7, 8, 9, 10, 11, 12, 13, 14, 15, 16, 17, 18, 19, 20, 21, 22, 23, 24, 25], [25])])
def laws_FnFields.B21 : List Nat := [0, 0, 3, 7, 15, 15, 63, 127, 255, 511, 1023, 511, 4095, 8191, 16383, 32767, 65535, 131071, 65535, 524287, 1048575, 2097151, 4194303, 8388607, 16777215, 33554431, 67108863]
theorem laws_FnFields.tab21 : rtab .any (opsOf Try.f7 21) = laws_FnFields.T21 := by kernel_rfl
theorem laws_FnFields.bits21 : waitsOk laws_FnFields.T21.2 laws_FnFields.B21 = true := by kernel_rfl
end Go.Proofs.Ytppjbaogabicdaa.PFnFields
