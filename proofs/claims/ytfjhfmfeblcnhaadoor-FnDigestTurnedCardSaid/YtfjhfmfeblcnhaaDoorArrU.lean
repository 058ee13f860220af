/- An array of 32-bit words in a block of its own: what it reads, a store into it, what leaves it alone. -/
import Derived.Test.YtfjhfmfeblcnhaaDoorWMore
import Derived.Laws.CopyRow
import Derived.Laws.Tables
namespace Go.Proofs.YtfjhfmfeblcnhaaDoorW.PrintWords
open Go.RowKit
/-- A word as the machine has it. -/
def wv (x : UInt32) : Value := .int .u32 ((x.toNat : Nat) : Int)
def cellsU (l : List UInt32) : Array Value := (l.map wv).toArray
/-- The block g holds the words of l. -/
def ArrU (w : World) (g : Nat) (T : TypeId) (l : List UInt32) : Prop := w.heap[g]? = some (.cells (cellsU l) T (0, 0))
theorem ArrU.lt {w : World} {g : Nat} {T : TypeId} {l : List UInt32} (h : ArrU w g T l) : g < w.heap.size := (Array.getElem?_eq_some_iff.1 h).1
theorem ArrU.move {w w' : World} {g : Nat} {T : TypeId} {l : List UInt32} (h : ArrU w g T l) (hm : w'.heap[g]? = w.heap[g]?) : ArrU w' g T l := hm.trans h
theorem ArrU.below {w w' : World} {g : Nat} {T : TypeId} {l : List UInt32} (h : ArrU w g T l) (hb : Below w.heap.size w w') : ArrU w' g T l := h.move (hb.block g h.lt)
theorem ArrU.alloc {w : World} {g : Nat} {T : TypeId} {l : List UInt32} (h : ArrU w g T l) (o : Obj) : ArrU (w.alloc o) g T l := h.move (Below.heap_alloc w o g h.lt)
theorem ArrU.drew {w : World} {g : Nat} {T : TypeId} {l : List UInt32} (h : ArrU w g T l) : ArrU w.drew g T l := h
theorem ArrU.drewN {w : World} {g : Nat} {T : TypeId} {l : List UInt32} (h : ArrU w g T l) (n : Nat) : ArrU (w.drewN n) g T l := h
theorem ArrU.far {w : World} {g : Nat} {T : TypeId} {l : List UInt32} (h : ArrU w g T l) {p : Addr} (hne : g ≠ p.block) (u : Value) : ArrU (w.setCell p u) g T l := h.move (Below.heap_setCell w p u g hne)
theorem ArrU.cell {w : World} {g : Nat} {T : TypeId} {l : List UInt32} (h : ArrU w g T l) (i : Nat) (hi : i < l.length) : w.cell? ⟨g, i, none⟩ = some (wv (l.getD i 0)) ∧ w.frozen? ⟨g, i, none⟩ = false := by
  unfold ArrU at h
  constructor
  · simp [World.cell?, h, cellsU, List.getD_eq_getElem?_getD, List.getElem?_eq_getElem hi]
  · simp [World.frozen?, h]
theorem ArrU.set {w : World} {g : Nat} {T : TypeId} {l : List UInt32} (h : ArrU w g T l) (i : Nat) (x : UInt32) : ArrU (w.setCell ⟨g, i, none⟩ (wv x)) g T (l.set i x) := by
  unfold ArrU at h ⊢
  simp only [World.setCell, Array.getElem?_modify, h, if_true, Option.map_some]
  congr 2
  unfold cellsU
  rw [List.map_set, List.setIfInBounds_toArray]
  simp
theorem ArrU.new (w : World) (T : TypeId) (l : List UInt32) : ArrU (w.alloc (.cells (cellsU l) T)) w.heap.size T l := by
  unfold ArrU
  exact heap_alloc_new w _
theorem cellsU_size (l : List UInt32) : (cellsU l).size = l.length := by simp [cellsU]
theorem cellsU_one (l : List UInt32) : ∀ v ∈ (cellsU l).toList, v.oneCell' = true := by
  intro v hv
  simp only [cellsU, List.mem_map] at hv
  obtain ⟨x, _, rfl⟩ := hv
  rfl
/-- A whole array is stored. -/
theorem storeU {P : Program} {w : World} {g : Nat} {T : TypeId} {l0 : List UInt32} (h : ArrU w g T l0) (l : List UInt32) (hl : l.length = l0.length) :
    (storeCells ⟨g, 0, none⟩ (cellsU l).toList 0).run P w = .ok () (w.setRow g (cellsU l)) := by
  have hr := run_storeCells_at P g 0 T (cellsU l).toList 0 (cellsU l0) w h (by rw [Array.length_toList, cellsU_size, cellsU_size]; omega) (cellsU_one l)
  rw [hr]
  have e : List.drop (0 + 0 + (cellsU l).toList.length) (cellsU l0).toList = [] := List.drop_of_length_le (by rw [Array.length_toList, Array.length_toList, cellsU_size, cellsU_size]; omega)
  rw [e]
  simp
theorem ArrU.setRow {w : World} {g : Nat} {T : TypeId} {l0 : List UInt32} (h : ArrU w g T l0) (l : List UInt32) : ArrU (w.setRow g (cellsU l)) g T l := setRow_heap w g (cellsU l0) (cellsU l) T (0, 0) h
theorem below_setRow {B : Nat} {w0 w : World} (h : Below B w0 w) {g : Nat} (hg : B ≤ g) (cs : Array Value) : Below B w0 (w.setRow g cs) :=
  h.trans ⟨rfl, rfl, rfl, by simp [World.setRow], fun k hk => setRow_other w g k _ (fun e => by omega)⟩
theorem ArrU.setRow_far {w : World} {g g' : Nat} {T : TypeId} {l : List UInt32} (h : ArrU w g T l) (hne : g ≠ g') (cs : Array Value) : ArrU (w.setRow g' cs) g T l := h.move (setRow_other w g' g _ hne)
/-! ### words' arithmetic, as the walk spells it -/
theorem wv_add (x y : UInt32) : (((x.toNat : Nat) : Int) + ((y.toNat : Nat) : Int)) % 4294967296 = (((x + y).toNat : Nat) : Int) := by
  rw [UInt32.toNat_add]
  omega
theorem wv_lt (x : UInt32) : ((x.toNat : Nat) : Int) < 4294967296 := by have := x.toNat_lt; omega
end Go.Proofs.YtfjhfmfeblcnhaaDoorW.PrintWords
