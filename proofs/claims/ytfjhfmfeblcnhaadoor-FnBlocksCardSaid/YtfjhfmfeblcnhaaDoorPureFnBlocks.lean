/- FnBlocks: the digest is made block by block; the program's blocks are the reference's. -/
import Derived.Test.YtfjhfmfeblcnhaaDoorOFnBlocksx4
import Derived.Test.YtfjhfmfeblcnhaaDoorMath
import Derived.Test.YtfjhfmfeblcnhaaDoorDig
import Derived.Test.YtfjhfmfeblcnhaaDoorStart
namespace Go.Proofs.YtfjhfmfeblcnhaaDoor.Pure
open Go.RowKit Go.Proofs.YtfjhfmfeblcnhaaDoor.PFnBlocks Go.Proofs.YtfjhfmfeblcnhaaDoorW.PrintWords Go.Proofs.YtfjhfmfeblcnhaaDoorW.PrintLast Go.Proofs.YtfjhfmfeblcnhaaDoorW.PrintMore Go.Proofs.YtfjhfmfeblcnhaaDoor.Hand Go.Proofs.YtfjhfmfeblcnhaaDoor.Sha
set_option linter.unusedVariables false
theorem strOfNums_app (a b : List Int) : strOfNums (a ++ b) = strOfNums a ++ strOfNums b := by
  apply Math.str_eq.1
  rw [Lib.toList_data, Lib.toList_data, strOfNums_data, ByteArray.data_append, Array.toList_append, strOfNums_data, strOfNums_data, List.map_append]
theorem pad_zeros (n : Nat) (h : n ≤ 140737488351232) : Int.tmod (wrap64 (64 - Int.tmod (wrap64 ((n : Int) + 9)) 64)) 64 = ((padZ n : Nat) : Int) := by
  have e1 : Int.tmod ((n : Int) + 9) 64 = ((n : Int) + 9) % 64 := Int.tmod_eq_emod_of_nonneg (by omega)
  have h1 := Int.emod_nonneg ((n : Int) + 9) (show (64 : Int) ≠ 0 by decide)
  have h2 := Int.emod_lt_of_pos ((n : Int) + 9) (show (0 : Int) < 64 by decide)
  rw [Math.wrap_in (n := (n : Int) + 9) (by omega) (by omega), e1]
  clear e1
  rw [Math.wrap_in (n := 64 - ((n : Int) + 9) % 64) (by omega) (by omega), Int.tmod_eq_emod_of_nonneg (by omega)]
  unfold padZ
  omega
theorem padL_size (s : ByteArray) : (padL s).length = s.size + 9 + padZ s.size := by
  unfold padL
  rw [List.length_append, List.length_append, List.length_append, bytesI_length, List.length_replicate]
  show s.size + 1 + padZ s.size + 8 = _
  omega
theorem eight_is (n : Int) (h : 0 ≤ n) : eightL n 8 = [n / 4294967296 / 16777216 % 256, n / 4294967296 / 65536 % 256, n / 4294967296 / 256 % 256, n / 4294967296 % 256] ++ [n / 16777216 % 256, n / 65536 % 256, n / 256 % 256, n % 256] := by
  simp only [eightL, Nat.reduceMul, Int.reducePow, List.cons_append, List.nil_append, List.cons.injEq, and_true]
  refine ⟨by omega, by omega, by omega, trivial, trivial, trivial, trivial, by omega⟩
theorem impl_PadText_is (s : ByteArray) (h : s.size ≤ 140737488351232) : impl_PadText.f s = some (strOfNums (padL s)) := by
  have hz : padZ s.size < 64 := by unfold padZ; omega
  have h1 : (s ++ (⟨#[128]⟩ : ByteArray)).size = s.size + 1 := Math.size_append _ _
  have h2 : (strOfNums (List.replicate (padZ s.size) 0)).size = padZ s.size := by rw [strOfNums_size, List.length_replicate]
  have h3 := Math.size_append (s ++ (⟨#[128]⟩ : ByteArray)) (strOfNums (List.replicate (padZ s.size) 0))
  unfold impl_PadText.f impl_four.f
  rw [if_pos (by omega), pad_zeros s.size h, if_pos (by omega), Int.toNat_natCast, if_pos (by omega), Option.bind_some, if_pos (by omega), Option.bind_some, if_pos (by rw [strOfNums_size]; simp only [List.length_cons, List.length_nil]; omega), Option.bind_some]
  rw [if_pos (by rw [Math.size_append, strOfNums_size, strOfNums_size]; simp only [List.length_cons, List.length_nil]; omega)]
  rw [Math.wrap_in (n := 8 * (s.size : Int)) (by omega) (by omega)]
  unfold padL
  rw [eight_is (8 * (s.size : Int)) (by omega), ← List.append_assoc]
  rw [strOfNums_app, strOfNums_app, strOfNums_app, strOfNums_app, strOf_bytesI]
  rfl
theorem toU_ints (l : List UInt32) : toU (intsU l) = l := by
  unfold toU intsU
  rw [List.map_map]
  conv => rhs; rw [← List.map_id l]
  apply List.map_congr_left
  intro b _
  simp
theorem all_ints (l : List UInt32) : (intsU l).all halfB = true := by
  rw [List.all_eq_true]
  intro x hx
  unfold intsU at hx
  obtain ⟨y, _, rfl⟩ := List.mem_map.1 hx
  rw [halfB_iff]
  have := y.toNat_lt
  omega
theorem block_is (st : List UInt32) (h : st.length = 8) (s : ByteArray) (hs : s.size = 64) : impl_ShaBlock.f (intsU st) s = some (intsU (blk st s keys64)) := by
  unfold impl_ShaBlock.f blockF
  rw [if_pos (by rw [intsU_len]; omega), if_pos ⟨by rw [intsU_len]; exact h, hs, all_ints st⟩, toU_ints]
theorem rd_ints (st : List UInt32) (j : Nat) (h : j < st.length) : rd (intsU st) (j : Int) = ((st[j].toNat : Nat) : Int) := by
  unfold rd
  rw [Int.toNat_natCast, List.getD_eq_getElem?_getD, List.getElem?_eq_getElem (by rw [intsU_len]; exact h), Option.getD_some]
  simp [intsU]
theorem four_is (x : UInt32) : impl_four.f ((x.toNat : Nat) : Int) = some (strOfNums (fourB x)) := rfl
theorem l1_is (st : List UInt32) (h : st.length = 8) : ∀ m j, j + m = 8 → ∀ k, impl_Digest.l1 (m + 1 + k) (strOfNums (outL (st.take j))) (intsU st) ((intsU st).length : Int) (j : Int) = some (strOfNums (outL st)) := by
  intro m
  induction m with
  | zero =>
    intro j hj k
    rw [show 0 + 1 + k = k + 1 by omega, impl_Digest.l1, if_neg (by rw [intsU_len, h]; omega), List.take_of_length_le (by omega)]
  | succ m ih =>
    intro j hj k
    have e : outL (st.take j ++ [st[j]'(by omega)]) = outL (st.take j) ++ fourB (st[j]'(by omega)) := by unfold outL; rw [List.flatMap_append]; simp
    rw [show m + 1 + 1 + k = (m + 1 + k) + 1 by omega, impl_Digest.l1, if_pos (by rw [intsU_len, h]; omega), if_pos (by omega), if_pos (by rw [intsU_len, h]; omega), rd_ints st j (by omega), four_is, Option.bind_some]
    rw [if_pos (by rw [strOfNums_size, strOfNums_size, outL_len, List.length_take]; show 4 * min j st.length + 4 ≤ _; omega), ← strOfNums_app, ← e, ← List.take_succ_eq_append_getElem (by omega), show wrap64 ((j : Int) + 1) = ((j + 1 : Nat) : Int) by unfold wrap64; omega]
    exact ih (j + 1) (by omega) k
theorem l0_is (p : ByteArray) (n : Nat) (hp : p.size = 64 * n) (hn : 64 * n ≤ 2000200) : ∀ m j, j + m = n → ∀ k, impl_Digest.l0 (m + 1 + 9 + k) p (intsU (after p j)) ((64 * j : Nat) : Int) = some (strOfNums (outL (after p n))) := by
  intro m
  induction m with
  | zero =>
    intro j hj k
    obtain rfl : j = n := by omega
    rw [show 0 + 1 + 9 + k = (8 + 1 + k) + 1 by omega, impl_Digest.l0, if_neg (by omega)]
    exact l1_is (after p j) (after_len p j) 8 0 (by omega) k
  | succ m ih =>
    intro j hj k
    have ew : wrap64 (((64 * j : Nat) : Int) + 64) = ((64 * (j + 1) : Nat) : Int) := by unfold wrap64; omega
    rw [show m + 1 + 1 + 9 + k = (m + 1 + 9 + k) + 1 by omega, impl_Digest.l0, if_pos (by omega), if_pos (by omega), ew, if_pos (by omega), if_pos (by omega), Int.toNat_natCast, Int.toNat_natCast, block_is (after p j) (after_len p j) _ (by rw [ByteArray.size_extract]; omega), Option.bind_some]
    exact ih (j + 1) (by omega) k
theorem Digest_is (s : ByteArray) (hs : s.size ≤ 2000000) : Ev (fun k => impl_Digest.f k s) (digF s) := by
  obtain ⟨n, hn, hn2⟩ := pad_size s
  refine ⟨n + 1 + 9, fun k hk => ?_⟩
  obtain ⟨d, rfl⟩ : ∃ d, k = n + 1 + 9 + d := ⟨k - (n + 1 + 9), by omega⟩
  show impl_Digest.f _ s = _
  unfold impl_Digest.f digF
  rw [impl_PadText_is s (by omega), Option.bind_some]
  show impl_Digest.l0 (n + 1 + 9 + d) (strOfNums (padL s)) (intsU (after (strOfNums (padL s)) 0)) ((64 * 0 : Nat) : Int) = _
  rw [l0_is (strOfNums (padL s)) n hn (by omega) n 0 (by omega) d, hn, Nat.mul_div_cancel_left n (by decide)]
theorem digF_size (s : ByteArray) : (digF s).size = 32 := by
  unfold digF
  rw [strOfNums_size, outL_len, after_len]
theorem rd_at (x : List Int) (j : Nat) (h : j < x.length) : rd x (j : Int) = x[j] := by
  unfold rd
  rw [Int.toNat_natCast, List.getD_eq_getElem?_getD, List.getElem?_eq_getElem h, Option.getD_some]
theorem wr (j : Nat) (h : j ≤ 3000000) : wrap64 ((j : Int) + 1) = ((j + 1 : Nat) : Int) := by unfold wrap64; omega
theorem eq_l (x : List Int) (hx : x.length ≤ 1048576) : ∀ m j, j + m = x.length → ∀ k, laws_sameInts.l0 (m + 1 + k) x x (j : Int) = some true := by
  intro m
  induction m with
  | zero =>
    intro j hj k
    rw [show 0 + 1 + k = k + 1 by omega]
    unfold laws_sameInts.l0
    rw [if_neg (by omega)]
  | succ m ih =>
    intro j hj k
    rw [show m + 1 + 1 + k = (m + 1 + k) + 1 by omega]
    unfold laws_sameInts.l0
    rw [if_pos (by omega), if_pos (by omega), if_pos (by omega), if_pos rfl, wr j (by omega)]
    exact ih (j + 1) (by omega) k
theorem eq_f (x : List Int) (hx : x.length ≤ 1048576) (k : Nat) (hk : x.length + 1 ≤ k) : laws_sameInts.f k x x = some true := by
  obtain ⟨d, rfl⟩ : ∃ d, k = x.length + 1 + d := ⟨k - (x.length + 1), by omega⟩
  unfold laws_sameInts.f
  rw [if_pos rfl]
  exact eq_l x hx x.length 0 (by omega) d
def marks (n : Nat) : List Int := (List.range n).map fun i => ((1 + i : Nat) : Int)
theorem block_len (l : List Int) (s : ByteArray) (h : l.length ≤ 1048576) : (blockF l s).length ≤ 1048576 := by
  unfold blockF
  split
  · rename_i hc
    rw [intsU_len, Sha.blk_len (by rw [toU_len]; exact hc.1)]
    decide
  · exact h
theorem new_l0 (l : List Int) (hl : l.length ≤ 2000000) (d : Nat) : ∀ (i : Nat) (x : Int), i + d = l.length → ∃ h, Ev (fun k => spec_l01New.l0 k l x (i : Int)) (l, 0, h) := by
  induction d with
  | zero =>
    intro i x hi
    refine ⟨x, Ev.step (f := fun _ => some (l, 0, x)) (fun k => ?_) (Math.Ev.const rfl)⟩
    show spec_l01New.l0 (k + 1) l x _ = _
    rw [spec_l01New.l0, if_neg (by omega)]
  | succ d ih =>
    intro i x hi
    by_cases c : (i : Int) < 4000
    · obtain ⟨h, hh⟩ := ih (i + 1) (Go.bits .and .i64 (wrap64 ((wrap64 ((wrap64 (x * 131)) + (wrap64 (rd l (i : Int))))) + 7)) 1073741823) (by omega)
      refine ⟨h, Ev.step (fun k => ?_) hh⟩
      show spec_l01New.l0 (k + 1) l x _ = _
      rw [spec_l01New.l0, if_pos (by omega), if_pos c, if_pos (by omega), show wrap64 ((i : Int) + 1) = ((i + 1 : Nat) : Int) from by rw [Math.wrap_in (by omega) (by omega)]; omega]
    · refine ⟨x, Ev.step (f := fun _ => some (l, 0, x)) (fun k => ?_) (Math.Ev.const rfl)⟩
      show spec_l01New.l0 (k + 1) l x _ = _
      rw [spec_l01New.l0, if_pos (by omega), if_neg c]
theorem new_ev (l : List Int) (hl : l.length ≤ 2000000) : ∃ h, Ev (fun k => spec_l01New.f k l) (l, 0, h) := new_l0 l hl l.length 0 _ (by omega)
def Cur (l : List Int) (i : Int) : Prop := 0 ≤ i ∧ i ≤ l.length ∧ l.length ≤ 2000000
theorem byte_ok {l : List Int} {i : Int} (c : Cur l i) (h : Int) : ∃ x i' h', spec_l01Byte.f l i h = some (x, i', h') ∧ Cur l i' ∧ 0 ≤ x ∧ x ≤ 255 := by
  unfold Cur at c
  unfold spec_l01Byte.f
  by_cases hlt : i < (l.length : Int)
  · rw [if_pos hlt, if_pos c.1]
    refine ⟨_, _, _, rfl, ?_, Math.and255 _⟩
    unfold Cur
    rw [Math.wrap_in (n := i + 1) (by omega) (by omega)]
    omega
  · rw [if_neg hlt]
    exact ⟨_, _, _, rfl, c, Math.and255 _⟩
theorem below_ok {l : List Int} {i : Int} (c : Cur l i) (h : Int) (n : Int) : ∃ x i' h', spec_l01Below.f l i h n = some (x, i', h') ∧ Cur l i' ∧ 0 ≤ x ∧ (0 < n → x < n) ∧ (n ≤ 0 → x = 0) := by
  unfold spec_l01Below.f
  by_cases h0 : n ≤ 0
  · rw [if_pos h0]
    exact ⟨0, i, h, rfl, c, by omega, by omega, fun _ => rfl⟩
  · rw [if_neg h0]
    by_cases h1 : n ≤ 256
    · rw [if_pos h1]
      obtain ⟨x, i1, g1, e1, c1, x0, x1⟩ := byte_ok c h
      rw [e1, Option.bind_some, if_neg (by omega)]
      refine ⟨_, i1, g1, rfl, c1, ?_, fun _ => ?_, fun e => absurd e h0⟩
      · exact Int.tmod_nonneg _ x0
      · exact Int.tmod_lt_of_pos _ (by omega)
    · rw [if_neg h1]
      obtain ⟨x, i1, g1, e1, c1, x0, x1⟩ := byte_ok c h
      obtain ⟨y, i2, g2, e2, c2, y0, y1⟩ := byte_ok c1 g1
      obtain ⟨z, i3, g3, e3, c3, z0, z1⟩ := byte_ok c2 g2
      obtain ⟨u, i4, g4, e4, c4, u0, u1⟩ := byte_ok c3 g3
      rw [e1, Option.bind_some, e2, Option.bind_some, e3, Option.bind_some, e4, Option.bind_some, if_neg (by omega)]
      rw [Math.wrap_in (n := x * 16777216) (by omega) (by omega), Math.wrap_in (n := y * 65536) (by omega) (by omega), Math.wrap_in (n := z * 256) (by omega) (by omega)]
      rw [Math.wrap_in (n := x * 16777216 + y * 65536) (by omega) (by omega)]
      rw [Math.wrap_in (n := x * 16777216 + y * 65536 + z * 256) (by omega) (by omega)]
      rw [Math.wrap_in (n := x * 16777216 + y * 65536 + z * 256 + u) (by omega) (by omega)]
      refine ⟨_, i4, g4, rfl, c4, ?_, fun _ => ?_, fun e => absurd e h0⟩
      · exact Int.tmod_nonneg _ (by omega)
      · exact Int.tmod_lt_of_pos _ (by omega)
theorem cur0 {l : List Int} (hl : l.length ≤ 2000000) : Cur l 0 := ⟨by omega, by omega, hl⟩
theorem pickInt_ok {l : List Int} {i : Int} (c : Cur l i) (h : Int) (xs : List Int) (hx : 0 < xs.length) : ∃ x i' h', spec_l01PickInt.f l i h xs = some (x, i', h') ∧ Cur l i' ∧ x ∈ xs := by
  unfold spec_l01PickInt.f
  obtain ⟨x, i1, g1, e1, c1, x0, x1, _⟩ := below_ok c h (xs.length : Int)
  have hlt := x1 (by omega)
  rw [e1, Option.bind_some, if_pos x0, if_pos hlt]
  refine ⟨_, _, _, rfl, c1, ?_⟩
  unfold rd
  rw [List.getD_eq_getElem?_getD, List.getElem?_eq_getElem (by omega)]
  exact List.getElem_mem _
theorem text_l0 {l : List Int} (n d : Nat) (hn : n ≤ 5000) : ∀ (j : Nat) (acc : List Int) (i h : Int), j + d = n → acc.length ≤ j → Cur l i → ∃ s i' h', Ev (fun k => spec_l01Text.l0 k (n : Int) acc (j : Int) l i h) (s, i', h') ∧ Cur l i' ∧ s.size = acc.length + d := by
  induction d with
  | zero =>
    intro j acc i h hj ha c
    refine ⟨strOfNums acc, i, h, Ev.step (f := fun _ => some (strOfNums acc, i, h)) (fun k => ?_) (Math.Ev.const rfl), c, by rw [strOfNums_size]; omega⟩
    show spec_l01Text.l0 (k + 1) _ acc _ l i h = _
    rw [spec_l01Text.l0, if_neg (by omega)]
  | succ d ih =>
    intro j acc i h hj ha c
    obtain ⟨x, i1, g1, e1, c1, x0, x1⟩ := byte_ok c h
    obtain ⟨s, i', h', hs, c', hz⟩ := ih (j + 1) (acc ++ [x % 256]) i1 g1 (by omega) (by rw [List.length_append, List.length_singleton]; omega) c1
    rw [List.length_append, List.length_singleton] at hz
    refine ⟨s, i', h', Ev.step (fun k => ?_) hs, c', by omega⟩
    show spec_l01Text.l0 (k + 1) _ acc _ l i h = _
    rw [spec_l01Text.l0, if_pos (by omega), e1, Option.bind_some, if_pos (by omega), show wrap64 ((j : Int) + 1) = ((j + 1 : Nat) : Int) from by rw [Math.wrap_in (by omega) (by omega)]; omega]
theorem text_ok {l : List Int} {i : Int} (c : Cur l i) (h : Int) (n : Nat) (hn : n ≤ 5000) : ∃ s i' h', Ev (fun k => spec_l01Text.f k l i h (n : Int)) (s, i', h') ∧ Cur l i' ∧ s.size = n := by
  obtain ⟨s, i', h', hs, c', hz⟩ := text_l0 n n hn 0 [] i h (by omega) (by simp) c
  have e : Ev (fun k => spec_l01Text.j0 k (n : Int) l i h) (s, i', h') := Ev.step (f := fun k => spec_l01Text.l0 k (n : Int) [] ((0 : Nat) : Int) l i h) (fun k => rfl) hs
  exact ⟨s, i', h', Ev.congr (fun k => by unfold spec_l01Text.f; rw [if_neg (by omega)]) e, c', by simpa using hz⟩
theorem drawText_ev {l : List Int} (hl : l.length ≤ 2000000) : ∃ t, Ev (fun k => spec_DrawTextOf.f k l) t ∧ t.size ≤ 200 := by
  obtain ⟨h, hn⟩ := new_ev l hl
  obtain ⟨n, i1, g1, e1, c1, hm⟩ := pickInt_ok (cur0 hl) h [0, 1, 3, 9, 54, 55, 56, 63, 64, 65, 119, 120, 200] (by decide)
  have hn0 : 0 ≤ n ∧ n ≤ 200 := by
    simp only [List.mem_cons, List.not_mem_nil, or_false] at hm
    omega
  obtain ⟨m, rfl⟩ := Int.eq_ofNat_of_zero_le hn0.1
  obtain ⟨s, i2, g2, hs, c2, hz⟩ := text_ok c1 g1 m (by omega)
  refine ⟨s, Ev.congr (fun k => by unfold spec_DrawTextOf.f; rfl) (Ev.bind (f := fun k (bt165 : List Int × Int × Int) => ((spec_l03Some.f k bt165.1 bt165.2.1 bt165.2.2).bind fun bt169 => (some bt169.1))) hn ?_), by omega⟩
  refine Ev.congr (fun k => ?_) (Ev.bind (f := fun _ (b : ByteArray × Int × Int) => some b.1) hs (Math.Ev.const rfl))
  show (spec_l03Some.f k l 0 h).bind _ = _
  unfold spec_l03Some.f
  rw [e1, Option.bind_some, Option.bind_assoc]
  rfl
theorem sha_l0 {l : List Int} (q : Int) (s : ByteArray) (hs : s.size = 64) (d : Nat) : ∀ (j : Nat) (acc : List Int) (i h : Int), j + d = 8 → acc.length = j → Cur l i → ∃ a b, Ev (fun k => spec_DrawShaBlock.l0 k q s acc (j : Int) l i h) (a, b) ∧ a.length ≤ 8 := by
  induction d with
  | zero =>
    intro j acc i h hj ha c
    have hj8 : j = 8 := by omega
    subst hj8
    have go : ∃ a b, (∀ k, spec_DrawShaBlock.l0 (k + 1) q s acc ((8 : Nat) : Int) l i h = some (a, b)) ∧ a.length ≤ 8 := by
      by_cases c0 : q = 0
      · refine ⟨_, _, fun k => by rw [spec_DrawShaBlock.l0, if_neg (by omega), if_pos c0, if_pos (by omega)], ?_⟩
        rw [List.length_drop]
        omega
      · by_cases c1 : q = 1
        · exact ⟨_, _, fun k => by rw [spec_DrawShaBlock.l0, if_neg (by omega), if_neg c0, if_pos c1, if_pos (by omega)], by omega⟩
        · by_cases c2 : q = 2
          · obtain ⟨x, i1, g1, e1, _, _⟩ := pickInt_ok c h [(-1), 4294967296, 9223372036854775807] (by decide)
            refine ⟨_, _, fun k => by rw [spec_DrawShaBlock.l0, if_neg (by omega), if_neg c0, if_neg c1, if_pos c2, e1, Option.bind_some, if_pos (by omega)], ?_⟩
            rw [List.length_set]
            omega
          · by_cases c3 : q = 3
            · exact ⟨intsU first8, _, fun k => by rw [spec_DrawShaBlock.l0, if_neg (by omega), if_neg c0, if_neg c1, if_neg c2, if_pos c3, spec_ShaStart.f, Option.bind_some], by decide⟩
            · exact ⟨_, _, fun k => by rw [spec_DrawShaBlock.l0, if_neg (by omega), if_neg c0, if_neg c1, if_neg c2, if_neg c3], by omega⟩
    obtain ⟨a, b, e, hz⟩ := go
    exact ⟨a, b, Ev.step (f := fun _ => some (a, b)) e (Math.Ev.const rfl), hz⟩
  | succ d ih =>
    intro j acc i h hj ha c
    obtain ⟨x, i1, g1, e1, c1, _⟩ := pickInt_ok c h [0, 1, 4294967295, 2147483648, 12345678] (by decide)
    obtain ⟨a, b, hs1, hz⟩ := ih (j + 1) (acc ++ [wrap64 x]) i1 g1 (by omega) (by rw [List.length_append, List.length_singleton]; omega) c1
    refine ⟨a, b, Ev.step (fun k => ?_) hs1, hz⟩
    show spec_DrawShaBlock.l0 (k + 1) q s acc _ l i h = _
    rw [spec_DrawShaBlock.l0, if_pos (by omega), e1, Option.bind_some, if_pos (by omega), show wrap64 ((j : Int) + 1) = ((j + 1 : Nat) : Int) from by rw [Math.wrap_in (by omega) (by omega)]; omega]
theorem drawBlock_ev {l : List Int} (hl : l.length ≤ 2000000) : ∃ a b, Ev (fun k => spec_DrawShaBlock.f k l) (a, b) ∧ a.length ≤ 8 := by
  obtain ⟨h, hn⟩ := new_ev l hl
  obtain ⟨q, i1, g1, e1, c1, _⟩ := below_ok (cur0 hl) h 10
  obtain ⟨s, i2, g2, hs, c2, hz⟩ := text_ok c1 g1 64 (by omega)
  obtain ⟨a, b, hab, hab8⟩ := sha_l0 q s hz 8 0 [] i2 g2 rfl rfl c2
  refine ⟨a, b, Ev.congr (fun k => by unfold spec_DrawShaBlock.f; rfl) (Ev.bind (f := fun k (bt172 : List Int × Int × Int) => ((spec_l01Below.f bt172.1 bt172.2.1 bt172.2.2 10).bind fun bt176 => ((spec_l01Text.f k bt172.1 bt176.2.1 bt176.2.2 64).bind fun bt179 => (spec_DrawShaBlock.l0 k bt176.1 bt179.1 (([] : List Int)) 0 bt172.1 bt179.2.1 bt179.2.2)))) hn ?_), hab8⟩
  refine Ev.congr (fun k => ?_) (Ev.bind (f := fun k (bt179 : ByteArray × Int × Int) => spec_DrawShaBlock.l0 k q bt179.1 (([] : List Int)) 0 l bt179.2.1 bt179.2.2) hs hab)
  dsimp only
  rw [e1, Option.bind_some]
  rfl
theorem law_l0 (l : List Int) (t p : ByteArray) (n : Nat) (hp : p.size = 64 * n) (hn : 64 * n ≤ 2000200) : ∀ m j, j + m = n → ∀ k, laws_FnBlocks.l0 (m + 1 + k) l t p (intsU (after p j)) ((64 * j : Nat) : Int) = laws_FnBlocks.l1 k l t (intsU (after p n)) (⟨#[]⟩ : ByteArray) 0 := by
  intro m
  induction m with
  | zero =>
    intro j hj k
    obtain rfl : j = n := by omega
    rw [show 0 + 1 + k = k + 1 by omega, laws_FnBlocks.l0, if_neg (by omega)]
  | succ m ih =>
    intro j hj k
    have ew : wrap64 (((64 * j : Nat) : Int) + 64) = ((64 * (j + 1) : Nat) : Int) := by unfold wrap64; omega
    rw [show m + 1 + 1 + k = (m + 1 + k) + 1 by omega, laws_FnBlocks.l0, if_pos (by omega), if_pos (by omega), ew, if_pos (by omega), if_pos (by omega), Int.toNat_natCast, Int.toNat_natCast, block_is (after p j) (after_len p j) _ (by rw [ByteArray.size_extract]; omega), Option.bind_some]
    exact ih (j + 1) (by omega) k
def fin (k : Nat) (x0 : List Int) (x3 x7 : ByteArray) : Option Bool := ((spec_DrawShaBlock.f k x0).bind fun bt225 => ((impl_Digest.f k x3).bind fun t229 => (if x7.toList = t229.toList then ((spec_Digest.f x3).bind fun t230 => (if x7.toList = t230.toList then (if (x7.size : Int) = 32 then ((impl_CutDigest.f k x3 5).bind fun t231 => (if 0 ≤ 5 then (if 5 ≤ (x7.size : Int) then (if t231.toList = (x7.extract 0 5).toList then ((impl_ShaBlock.f bt225.1 bt225.2).bind fun t232 => ((spec_ShaBlock.f bt225.1 bt225.2).bind fun t235 => ((laws_sameInts.f k t232 t235).bind fun t238 => (some t238)))) else (some false)) else (none)) else (none))) else (some false)) else (some false))) else (some false))))
theorem law_l1 (l : List Int) (t : ByteArray) (st : List UInt32) (h : st.length = 8) : ∀ m j, j + m = 8 → ∀ k, laws_FnBlocks.l1 (m + 1 + k) l t (intsU st) (strOfNums (outL (st.take j))) (j : Int) = fin k l t (strOfNums (outL st)) := by
  intro m
  induction m with
  | zero =>
    intro j hj k
    rw [show 0 + 1 + k = k + 1 by omega, laws_FnBlocks.l1, if_neg (by omega), List.take_of_length_le (by omega)]
    rfl
  | succ m ih =>
    intro j hj k
    have e : outL (st.take j ++ [st[j]'(by omega)]) = outL (st.take j) ++ fourB (st[j]'(by omega)) := by unfold outL; rw [List.flatMap_append]; simp
    rw [show m + 1 + 1 + k = (m + 1 + k) + 1 by omega, laws_FnBlocks.l1, if_pos (by omega), if_pos (by omega), if_pos (by rw [intsU_len, h]; omega), rd_ints st j (by omega), Option.bind_some]
    rw [show ([((st[j].toNat : Nat) : Int) / 16777216 % 256, ((st[j].toNat : Nat) : Int) / 65536 % 256, ((st[j].toNat : Nat) : Int) / 256 % 256, ((st[j].toNat : Nat) : Int) % 256] : List Int) = fourB st[j] from rfl]
    rw [if_pos (by rw [strOfNums_size, strOfNums_size, outL_len, List.length_take]; show 4 * min j st.length + 4 ≤ _; omega), ← strOfNums_app, ← e, ← List.take_succ_eq_append_getElem (by omega), show wrap64 ((j : Int) + 1) = ((j + 1 : Nat) : Int) by unfold wrap64; omega]
    exact ih (j + 1) (by omega) k
theorem ext_app (a b : ByteArray) : (a ++ b).extract 0 a.size = a := by
  apply Math.str_eq.1
  rw [Lib.toList_data, Lib.toList_data]
  simp [ByteArray.data_extract, ByteArray.data_append]
  exact List.take_of_length_le (by rw [Math.size_data]; exact Nat.le_refl _)
theorem padL_begins (t : ByteArray) : (strOfNums (padL t)).extract 0 t.size = t := by
  unfold padL
  rw [List.append_assoc, List.append_assoc, strOfNums_app, strOf_bytesI]
  exact ext_app _ _
theorem FnBlocks : laws_FnBlocks.Pure := by
  intro l _ _ _
  by_cases hb : (l.length : Int) > 1048576
  · refine ⟨0, ?_⟩
    unfold laws_FnBlocks.f laws_big.f
    rw [Option.bind_some, if_pos (decide_eq_true hb)]
  · obtain ⟨t, ⟨K1, hK1⟩, ht⟩ := drawText_ev (l := l) (by omega)
    obtain ⟨a, b, ⟨K2, hK2⟩, ha⟩ := drawBlock_ev (l := l) (by omega)
    obtain ⟨K3, hK3⟩ := Digest_is t (by omega)
    obtain ⟨n, hn, hn2⟩ := pad_size t
    have hz := digF_size t
    obtain ⟨B, hB⟩ : ∃ B, blockF a b = B := ⟨_, rfl⟩
    have hBl : B.length ≤ 1048576 := by rw [← hB]; exact block_len a b (by omega)
    have s1 : spec_ShaBlock.f a b = some B := by unfold spec_ShaBlock.f; rw [if_pos (by omega), hB]
    have s2 : impl_ShaBlock.f a b = some B := by unfold impl_ShaBlock.f; rw [if_pos (by omega), hB]
    have hF : fin (K1 + K2 + K3 + B.length + 1) l t (digF t) = some true := by
      have k2 : spec_DrawShaBlock.f (K1 + K2 + K3 + B.length + 1) l = some (a, b) := hK2 _ (by omega)
      have k3 : impl_Digest.f (K1 + K2 + K3 + B.length + 1) t = some (digF t) := hK3 _ (by omega)
      have hs : spec_Digest.f t = some (digF t) := if_pos (by omega)
      have i2 : impl_within.f 5 1 32 = some true := by unfold impl_within.f; rw [if_pos (by omega)]; rfl
      have c2 : impl_CutDigest.f (K1 + K2 + K3 + B.length + 1) t 5 = some ((digF t).extract 0 5) := by
        unfold impl_CutDigest.f
        rw [i2, Option.bind_some, if_pos rfl, k3, Option.bind_some, if_pos (by omega), if_pos (by omega)]
        rfl
      unfold fin
      rw [k2, Option.bind_some, k3, Option.bind_some, if_pos rfl, hs, Option.bind_some, if_pos rfl, if_pos (by omega), c2, Option.bind_some, if_pos (by omega), if_pos (by omega), if_pos rfl, s2, Option.bind_some, s1, Option.bind_some, eq_f B hBl _ (by omega), Option.bind_some]
    have hD : strOfNums (outL (after (strOfNums (padL t)) n)) = digF t := by unfold digF; rw [hn, Nat.mul_div_cancel_left n (by decide)]
    refine ⟨(n + 1 + (8 + 1 + (K1 + K2 + K3 + B.length + 1))) + 1, ?_⟩
    have k1 : spec_DrawTextOf.f ((n + 1 + (8 + 1 + (K1 + K2 + K3 + B.length + 1))) + 1) l = some t := hK1 _ (by omega)
    have ps : (strOfNums (padL t)).size = t.size + 9 + padZ t.size := by rw [strOfNums_size, padL_size]
    have st : impl_ShaStart.f = some (intsU first8) := rfl
    unfold laws_FnBlocks.f laws_big.f
    rw [Option.bind_some, if_neg (by rw [decide_eq_false hb]; decide), k1, Option.bind_some, impl_PadText_is t (by omega), Option.bind_some, st, Option.bind_some, if_pos (by omega), if_neg (by rw [Math.wrap_in (by omega) (by omega)]; omega), if_pos (by omega), if_pos (by omega), Int.toNat_natCast, padL_begins, laws_FnBlocks.j0, if_neg (by simp)]
    have h0 := law_l0 l t (strOfNums (padL t)) n hn (by omega) n 0 (by omega) (8 + 1 + (K1 + K2 + K3 + B.length + 1))
    have h1 := law_l1 l t (after (strOfNums (padL t)) n) (after_len _ _) 8 0 (by omega) (K1 + K2 + K3 + B.length + 1)
    rw [hD, hF] at h1
    exact h0.trans h1
end Go.Proofs.YtfjhfmfeblcnhaaDoor.Pure
