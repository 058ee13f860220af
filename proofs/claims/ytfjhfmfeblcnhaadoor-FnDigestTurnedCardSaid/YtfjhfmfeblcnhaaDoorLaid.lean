/- The program's table of words, as the row's condition tells it. -/
import Derived.Test.YtfjhfmfeblcnhaaDoorRows
import Derived.Test.YtfjhfmfeblcnhaaDoorSha8
import Derived.ProofKit
import Derived.LaidMore
import Derived.OpenShut
import Derived.Stop.Joined
import Derived.Lib.LaidTab
import Derived.ChangeVars
import Derived.WalkSmall
namespace Go.Proofs.YtfjhfmfeblcnhaaDoor.Hand
open Go.ChangeShapes Go.WideShapes Go.ChangeAt Go.RowKit
def tabName : String := "loop.example/g00397/impl.shaWords"
theorem gTab : Tryd.prog.globalNamed "loop.example/g00397/impl.shaWords" = some 0 := by kernel_rfl
theorem gTabType : (Tryd.prog.globals[0]?).map (·.type) = some 51 := by kernel_rfl
theorem tabCells : Tryd.prog.cellsOf 51 = 64 := by kernel_rfl
theorem tabCell : Tryd.prog.cellsOf 47 = 1 := by kernel_rfl
theorem tabUnder : Tryd.prog.underlying 51 = some (.array 64 47) := by kernel_rfl
theorem tabElem : Tryd.prog.underlying 47 = some (.int .u32) := by kernel_rfl
def words : List Int := keys64.map fun x => ((x.toNat : Nat) : Int)
theorem words_len : words.length = 64 := by kernel_rfl
theorem laid_is : Rows.laid_loop_example_g00397_impl_shaWords (H := Unit) = Lib.tabData .u32 words := by kernel_rfl
def tabCs : Array Value := (words.map fun z => Value.int .u32 z).toArray
theorem reads_tab {H : Type} (enc : TypeId × Value → H) (W : World) (sp : Nat → Bool) : DataW.trod enc Tryd.prog W 0 sp true 3 51 tabCs.toList = some (Lib.tabData .u32 words, []) := by kernel_rfl
abbrev LAID : List (String × DataW Unit) := [("loop.example/g00397/impl.shaWords", Rows.laid_loop_example_g00397_impl_shaWords)]
theorem tab_of_laid {W : World} (h : laidMetH Tryd.prog LAID W) : Lib.TabIs Tryd.prog W "loop.example/g00397/impl.shaWords" .u32 words := by
  rw [MakeChecks.laidMetH_plain _ _ _ (by kernel_rfl)] at h
  unfold LAID at h
  rw [laid_is] at h
  exact Lib.tabIs_of_head gTab gTabType tabUnder tabElem tabCell tabCells h
theorem keys_of_tab {W : World} (h : Lib.TabIs Tryd.prog W "loop.example/g00397/impl.shaWords" .u32 words) : Keys W := fun j hj => by
  have e := h.cell gTab j (by rw [words_len]; exact hj)
  rw [e]
  congr 2
  unfold words
  rw [List.getD_eq_getElem?_getD, List.getElem?_map, List.getD_eq_getElem?_getD, List.getElem?_eq_getElem (show j < keys64.length from hj)]
  rfl
/-- The door's own heap meets the condition. -/
theorem door_met (os : Os) (args : Array Value) : laidMetH Tryd.prog LAID ((World.doorLaid Tryd.prog 14 os).forCall (fun _ _ => 0) ⟨#[], args, []⟩).memory :=
  laidMetH_of_parts3 (fuel := 8) (laidMet_of_run' 8 (by kernel_rfl) (by kernel_rfl)) (by kernel_rfl) (by kernel_rfl)
theorem vars_again {H : Type} (enc : TypeId × Value → H) {W W' : World} (sp : Nat → Bool) (h : Lib.TabIs Tryd.prog W "loop.example/g00397/impl.shaWords" .u32 words) (hb : Below W.heap.size W W') :
    DataW.TrodVars enc Tryd.prog W' sp ["loop.example/g00397/impl.shaWords"] [Lib.tabData .u32 words] (MemPlace.row ⟨0, 0, none⟩ tabCs.size ++ []) :=
  trodVars_mk1 (fuel := 3) gTab gTabType (var?_below hb gTab (World.block_lt_of_cell? W _ (h.cell gTab 0 (by rw [words_len]; decide))) h) (reads_tab enc W' sp)
end Go.Proofs.YtfjhfmfeblcnhaaDoor.Hand
