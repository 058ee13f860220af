/- A row of bytes that a call made by '[]byte(s)': its block bears a mark behind its end, so none of its cells is frozen: what it reads, a store into it, an append onto it, its text. -/
import Derived.Test.YtppjbaogabicdaaWMore
import Derived.Lib.ConvBytes
import Derived.Laws.AppendOwn
import Derived.Laws.BytesArg
import Derived.Maps.AppendAt
namespace Go.Proofs.YtppjbaogabicdaaW.PrintWords
open Go.RowKit

/-- v is a row of the call's own that holds xs; of its block no cell is frozen. -/
def OwnM (w : World) (base : Nat) (e : TypeId) (v : Value) (xs : List Value) : Prop :=
  ∃ g cap cur fz, v = .slice (some ⟨g, 0, none⟩) xs.length cap ∧ base ≤ g ∧ w.heap[g]? = some (.cells cur e fz) ∧ (cur.size ≤ fz.1 ∨ fz.2 = 0) ∧ xs.length ≤ cap ∧ cap ≤ maxLen ∧ cur.size = cap ∧ cur.toList.take xs.length = xs

def bytesI (s : ByteArray) : List Int := s.data.toList.map fun b => (b.toNat : Int)
theorem bytesI_length (s : ByteArray) : (bytesI s).length = s.size := by
  unfold bytesI
  rw [List.length_map, Array.length_toList]
  rfl
theorem strOf_bytesI (s : ByteArray) : strOfNums (bytesI s) = s := by
  have : (bytesI s).map (fun n => UInt8.ofNat n.toNat) = s.data.toList := by
    unfold bytesI
    rw [List.map_map]
    conv => rhs; rw [← List.map_id s.data.toList]
    apply List.map_congr_left
    intro b _
    simp
  unfold strOfNums
  rw [this]

section
variable {w : World} {base : Nat} {e : TypeId} {v : Value} {xs : List Value}
theorem OwnM.len (h : OwnM w base e v xs) : ∃ g cap, v = .slice (some ⟨g, 0, none⟩) xs.length cap ∧ base ≤ g ∧ g < w.heap.size := by
  obtain ⟨g, cap, cur, fz, rfl, hb, hg, _⟩ := h
  exact ⟨g, cap, rfl, hb, (Array.getElem?_eq_some_iff.1 hg).1⟩
theorem OwnM.kept {w' : World} {row : Option Nat} (h : OwnM w base e v xs) (hg : w.grownBy w' row) (hne : v.ownBlock ≠ row) : OwnM w' base e v xs := by
  obtain ⟨g, cap, cur, fz, rfl, hb, hgg, rest⟩ := h
  refine ⟨g, cap, cur, fz, rfl, hb, ?_, rest⟩
  rw [hg.block g (Array.getElem?_eq_some_iff.1 hgg).1 (by simpa [Value.ownBlock] using hne)]
  exact hgg
theorem OwnM.alloc (h : OwnM w base e v xs) (o : Obj) : OwnM (w.alloc o) base e v xs := by
  refine h.kept (World.grownBy_alloc w o none) ?_
  obtain ⟨g, cap, rfl, _⟩ := h.len
  simp [Value.ownBlock]
theorem OwnM.below {w' : World} (h : OwnM w base e v xs) (hb : Below w.heap.size w w') : OwnM w' base e v xs := by
  refine h.kept (grown_of_below hb none) ?_
  obtain ⟨g, cap, rfl, _⟩ := h.len
  simp [Value.ownBlock]
theorem OwnM.cell (h : OwnM w base e v xs) {g n cap : Nat} (hv : v = .slice (some ⟨g, 0, none⟩) n cap) (j : Nat) (u : Value) (hj : xs[j]? = some u) : w.cell? ⟨g, j, none⟩ = some u ∧ w.frozen? ⟨g, j, none⟩ = false := by
  obtain ⟨g', cap', cur, fz, hv', _, hgg, hfz, hl, _, hs, ht⟩ := h
  have hge : g' = g := by
    rw [hv'] at hv
    injection hv with hv
    injection hv with hv
    injection hv
  subst hge
  have hjl : j < xs.length := (List.getElem?_eq_some_iff.1 hj).1
  constructor
  · rw [← ht, List.getElem?_take, if_pos hjl] at hj
    simp only [World.cell?, hgg, Option.isSome_none, Bool.false_eq_true, if_false]
    simpa using hj
  · obtain ⟨lo, hi⟩ := fz
    simp only [World.frozen?, hgg, Bool.and_eq_false_iff, decide_eq_false_iff_not]
    simp only at hfz
    omega
theorem OwnM.store {g n cap : Nat} (h : OwnM w base e (.slice (some ⟨g, 0, none⟩) n cap) xs) (j : Nat) (x : Value) :
    OwnM (w.setCell ⟨g, j, none⟩ x) base e (.slice (some ⟨g, 0, none⟩) n cap) (xs.set j x) := by
  obtain ⟨g', cap', cur, fz, hv', hb, hgg, hfz, hl, hm, hs, ht⟩ := h
  injection hv' with h1 h2 h3
  injection h1 with h1
  injection h1 with h1
  subst h1 h2 h3
  refine ⟨g, cap, cur.setIfInBounds j x, fz, by rw [List.length_set], hb, ?_, by simpa using hfz, by rw [List.length_set]; exact hl, hm, by simpa using hs, ?_⟩
  · simp [World.setCell, Array.getElem?_modify, hgg]
  · rw [List.length_set, Array.toList_setIfInBounds, List.take_set, ht]
end

theorem OwnM.lenN {w : World} {base : Nat} {e : TypeId} {v : Value} {k : IntKind} {l : List Int} (h : OwnM w base e v (nums k l)) : ∃ g cap, v = .slice (some ⟨g, 0, none⟩) l.length cap := by
  obtain ⟨g, cap, hv, _⟩ := h.len
  rw [nums_length] at hv
  exact ⟨g, cap, hv⟩
/-- '[]byte(s)'. -/
theorem OwnM.conv (w : World) (base : Nat) (e : TypeId) (s : ByteArray) (hb : base ≤ w.heap.size) (hm : s.size ≤ maxLen) :
    OwnM (Lib.bytesWorld w e s) base e (.slice (some ⟨w.heap.size, 0, none⟩) s.size (grownCap w s.size 0 e)) (nums .u8 (bytesI s)) := by
  have hge := grownCap_ge w s.size 0 e
  have hlm := grownCap_le_maxLen w s.size 0 e hm
  have hs : (Lib.bytesCells w e s).size = grownCap w s.size 0 e := by
    unfold Lib.bytesCells
    simp only [Array.size_append, Array.size_map, Array.size_replicate]
    have : s.data.size = s.size := rfl
    omega
  refine ⟨w.heap.size, grownCap w s.size 0 e, _, _, by rw [nums_length, bytesI_length], hb, Lib.bytesWorld_at_new w e s, .inl (Nat.le_refl _), by rw [nums_length, bytesI_length]; exact hge, hlm, hs, ?_⟩
  rw [nums_length, bytesI_length]
  unfold Lib.bytesCells
  rw [Array.toList_append, List.take_left' (by simp)]
  simp [nums, bytesI]
theorem bytesWorld_below (w : World) (e : TypeId) (s : ByteArray) : Below w.heap.size w (Lib.bytesWorld w e s) :=
  ⟨rfl, rfl, rfl, by rw [Lib.bytesWorld_size]; omega, fun k hk => Lib.bytesWorld_at_old w e s k hk⟩

section
variable {P : Program} {w : World} {base : Nat} {e : TypeId} {v : Value}
/-- Its text. -/
theorem OwnM.text {src dst e' : TypeId} {xs : List Int} (h : OwnM w base e' v (nums .u8 xs)) (hs : P.underlying src = some (.slice e)) (he : P.underlying e = some (.int .u8)) (hd : P.underlying dst = some .string) :
    (convert src dst v).run P w = .ok (.string (strOfNums xs)) w := by
  obtain ⟨g, cap, rfl, _⟩ := h.len
  refine run_convert_bytes_arg w src e hs he g 0 _ cap xs (nums_length _ _).symm (fun i hi => ?_) dst hd
  rw [nums_length] at hi
  have := (h.cell rfl i (.int .u8 (xs.getD i 0)) (by simp [nums, List.getElem?_eq_getElem hi, List.getD_eq_getElem?_getD])).1
  rwa [Nat.zero_add]

/-- One element onto it. -/
theorem run_append_ownM (t ty : TypeId) (i : TypeInfo) (ht : P.underlying t = some (.slice e)) (hi : P.info? e = some i) (hz : i.zero = some (.int .u8 0)) (hs : i.size = 1) (hby : i.bytes = 1)
    {xs : List Value} (h : OwnM w base e v xs) (a : Addr) (c : Nat) (y : Value) (hy : w.cell? a = some y) (h1 : y.oneCell' = true) (hl : xs.length + 1 ≤ 140737488355328) (hbase : base ≤ w.heap.size) :
    ∃ v' w', (Builtin.append_ #[t, t] ty #[v, .slice (some a) 1 c]).run P w = .ok v' w' ∧ OwnM w' base e v' (xs ++ [y]) ∧ w.grownBy w' v.ownBlock ∧ (v'.ownBlock = v.ownBlock ∨ v'.ownBlock = some w.heap.size) := by
  have ha0 : a.add 0 = a := by unfold Addr.add; split <;> simp_all
  have hnews : ∀ j u, [y][j]? = some u → w.cell? (a.add j) = some u := by
    intro j u hj
    match j, hj with
    | 0, hj =>
      simp at hj
      subst hj
      rw [ha0]
      exact hy
  obtain ⟨g, cap, cur, fz, rfl, hb, hgg, hfz, hle, hm, hcs, htake⟩ := id h
  have hfro : ∀ j, j < cur.size → w.frozen? ⟨g, j, none⟩ = false := by
    intro j hj
    obtain ⟨lo, hi⟩ := fz
    simp only [World.frozen?, hgg, Bool.and_eq_false_iff, decide_eq_false_iff_not]
    simp only at hfz
    omega
  have hlen : (xs ++ [y]).length = xs.length + 1 := by simp
  by_cases hroom : xs.length + 1 ≤ cap
  · have hf := run_firstCells_some (P := P) w 1 1 a 1 c [y] rfl hnews
    have hadd : (⟨g, xs.length, none⟩ : Addr).add 0 = ⟨g, xs.length, none⟩ := by unfold Addr.add; split <;> simp_all
    have hcell : w.cell? ⟨g, xs.length, none⟩ = some (cur[xs.length]'(by omega)) := by simp [World.cell?, hgg, show xs.length < cur.size by omega]
    have hst : (storeCells ⟨g, xs.length, none⟩ [y] 0).run P w = .ok () (w.setRow g (cur.setIfInBounds xs.length y)) := by
      simp only [storeCells, Sem.run_bind, hadd]
      rw [run_store P w _ y _ h1, hcell]
      simp [hfro _ (show xs.length < cur.size by omega), setCell_eq_setRow w g xs.length cur e fz y hgg]
    have hr : (Builtin.append_ #[t, t] ty #[.slice (some ⟨g, 0, none⟩) xs.length cap, .slice (some a) 1 c]).run P w = .ok (.slice (some ⟨g, 0, none⟩) (xs.length + 1) cap) (w.setRow g (cur.setIfInBounds xs.length y)) := by
      simp [Builtin.append_, run_underlying ht, sizeOf, typeInfo, hi, hs, Builtin.lenOf, hroom, hf, Addr.add_lit, hst]
    refine ⟨_, _, hr, ⟨g, cap, _, fz, by rw [hlen], hb, setRow_heap w g cur _ e _ hgg, by simpa using hfz, by rw [hlen]; exact hroom, hm, by simpa using hcs, ?_⟩, ⟨rfl, rfl, rfl, by simp, fun k _ hk => setRow_other w g k _ (fun e => hk (by simp [Value.ownBlock, e]))⟩, .inl rfl⟩
    rw [hlen, Array.toList_setIfInBounds]
    have hx : xs.length < cur.toList.length := by have := Array.length_toList (xs := cur); omega
    rw [List.take_succ_eq_append_getElem (by rw [List.length_set]; exact hx), List.take_set_of_le (Nat.le_refl _), htake, List.getElem_set_self]
  · have hr := run_append_grow (P := P) w t ty e i (.int .u8 0) ht hi hz ⟨g, 0, none⟩ xs.length cap xs (by rw [hs]; simp) (fun j u hu => by
        have := (h.cell rfl j u hu).1
        rwa [add_plain]) a 1 c [y] (by rw [hs]; rfl) hnews (by omega) (by omega) (growslice_fits (by omega) (by rw [hby]; omega))
    have hge := grownCap_ge w (xs.length + 1) cap e
    have hcm : grownCap w (xs.length + 1) cap e ≤ maxLen := grownCap_le_maxLen w (xs.length + 1) cap e (by simp only [maxLen]; omega)
    have hz1 : (Value.int IntKind.u8 0).cells.size = 1 := rfl
    refine ⟨_, _, hr, ⟨w.heap.size, _, _, (0, 0), by rw [hlen], hbase, heap_alloc_new w.drew _, .inr rfl, by rw [hlen]; exact hge, hcm, ?_, ?_⟩, ⟨rfl, rfl, rfl, by simp, fun k hk _ => heap_alloc_old w.drew _ hk⟩, .inr rfl⟩
    · simp only [Array.size_append, List.size_toArray, size_zeroCells, hz1, List.length_singleton]
      omega
    · simp only [Array.toList_append, List.append_assoc]
      rw [← List.append_assoc]
      exact List.take_left
end

section
variable {P : Program} {ops : Array Oper} {rest : List Oper} {o : Oper} {a : Act} {Q : Exit → Act → World → Prop}
/-- 'append(v, y)', for the walk: behind 'at_builtin'; the goal's world is 'W.alloc' of the new element's box. -/
theorem wpList_append_ownM {w0 W : World} (base : Nat) (hgd : o.guard = none) (s x : Operand) (t e : TypeId)
    (ho : o.op = .call { callee := .builtin .append, args := #[s, x], argTypes := #[t, t] })
    (ht : P.underlying t = some (.slice e)) (hinfo : (P.info? e).map (fun i => (i.zero, i.size, i.bytes)) = some (some (.int .u8 0), 1, 1))
    (v : Value) (xs : List Int) (y : Int) (hs : a.eval s = v) (hx : a.eval x = .slice (some ⟨W.heap.size, 0, none⟩) 1 1)
    (HO : OwnM W base e v (nums .u8 xs)) (HB : Below base w0 W) (hbase : base ≤ W.heap.size) (hl : xs.length + 1 ≤ 140737488355328)
    (h : ∀ v1 w1, OwnM w1 base e v1 (nums .u8 (xs ++ [y])) → Below base w0 w1 → base ≤ w1.heap.size → wpList P ops Q rest (a.put o.dst v1) w1) :
    wpList P ops Q (o :: rest) a (W.alloc (.cells #[.int .u8 y] e)) := by
  obtain ⟨i0, hi, hzz⟩ := Option.map_eq_some_iff.1 hinfo
  simp only [Prod.mk.injEq] at hzz
  obtain ⟨hz0, hz1, hz2⟩ := hzz
  refine wpList_plain hgd fun K hK => ?_
  obtain ⟨v', w', hr, h2, h3, h4⟩ := run_append_ownM (P := P) (w := W.alloc (.cells #[.int .u8 y] e)) t o.type i0 ht hi hz0 hz1 hz2 (HO.alloc _) ⟨W.heap.size, 0, none⟩ 1 (.int .u8 y) (by have h0 := cell_one_new W (.int .u8 y) e 0 _ rfl; rwa [add_plain] at h0) rfl (by rw [nums_length]; exact hl) (by simp; omega)
  have hown : ∀ k, v.ownBlock = some k → base ≤ k := by
    obtain ⟨g, cap, rfl, hb, _⟩ := HO.len
    intro k hk
    have : g = k := by simpa [Value.ownBlock] using hk
    omega
  unfold Oper.wp execOp
  simp only [ho, resolve, invoke, builtin, Sem.run_bind, Sem.run_pure, Result.andThen_ok, List.map_toArray, List.map_cons, List.map_nil, hs, hx, hr]
  refine hK _ _ (h v' w' ?_ ((HB.alloc hbase _).grown h3 (by simp; omega) hown) ?_)
  · rw [nums_append]
    exact h2
  · have := h3.size
    simp at this
    omega
end
end Go.Proofs.YtppjbaogabicdaaW.PrintWords
