/- FnDigestTurned: a digest of a drawn text, also with one byte turned; what is padded of unlike texts is not the same. -/
import Derived.Test.YtfjhfmfeblcnhaaDoorOFnDigestTurnedx4
import Derived.Test.YtfjhfmfeblcnhaaDoorMath
import Derived.Test.YtfjhfmfeblcnhaaDoorDig
import Derived.Test.YtfjhfmfeblcnhaaDoorTurn
namespace Go.Proofs.YtfjhfmfeblcnhaaDoor.Pure
open Go.RowKit Go.Proofs.YtfjhfmfeblcnhaaDoor.PFnDigestTurned Go.Proofs.YtfjhfmfeblcnhaaDoorW.PrintWords Go.Proofs.YtfjhfmfeblcnhaaDoorW.PrintLast Go.Proofs.YtfjhfmfeblcnhaaDoorW.PrintMore Go.Proofs.YtfjhfmfeblcnhaaDoor.Hand Go.Proofs.YtfjhfmfeblcnhaaDoor.Sha
set_option linter.unusedVariables false
theorem strOfNums_app (a b : List Int) : strOfNums (a ++ b) = strOfNums a ++ strOfNums b := by
  apply Math.str_eq.1
  rw [Lib.toList_data, Lib.toList_data, strOfNums_data, ByteArray.data_append, Array.toList_append, strOfNums_data, strOfNums_data, List.map_append]
theorem pad_zeros (n : Nat) (h : n ≤ 140737488351232) : Int.tmod (wrap64 (64 - Int.tmod (wrap64 ((n : Int) + 9)) 64)) 64 = ((padZ n : Nat) : Int) := by
  have e1 : Int.tmod ((n : Int) + 9) 64 = ((n : Int) + 9) % 64 := Int.tmod_eq_emod_of_nonneg (by omega)
  have h1 := Int.emod_nonneg ((n : Int) + 9) (show (64 : Int) ≠ 0 by decide)
  have h2 := Int.emod_lt_of_pos ((n : Int) + 9) (show (0 : Int) < 64 by decide)
  rw [Math.wrap_in (n := (n : Int) + 9) (by omega) (by omega), e1]
  clear e1
  rw [Math.wrap_in (n := 64 - ((n : Int) + 9) % 64) (by omega) (by omega), Int.tmod_eq_emod_of_nonneg (by omega)]
  unfold padZ
  omega
theorem padL_size (s : ByteArray) : (padL s).length = s.size + 9 + padZ s.size := by
  unfold padL
  rw [List.length_append, List.length_append, List.length_append, bytesI_length, List.length_replicate]
  show s.size + 1 + padZ s.size + 8 = _
  omega
theorem eight_is (n : Int) (h : 0 ≤ n) : eightL n 8 = [n / 4294967296 / 16777216 % 256, n / 4294967296 / 65536 % 256, n / 4294967296 / 256 % 256, n / 4294967296 % 256] ++ [n / 16777216 % 256, n / 65536 % 256, n / 256 % 256, n % 256] := by
  simp only [eightL, Nat.reduceMul, Int.reducePow, List.cons_append, List.nil_append, List.cons.injEq, and_true]
  refine ⟨by omega, by omega, by omega, trivial, trivial, trivial, trivial, by omega⟩
theorem impl_PadText_is (s : ByteArray) (h : s.size ≤ 140737488351232) : impl_PadText.f s = some (strOfNums (padL s)) := by
  have hz : padZ s.size < 64 := by unfold padZ; omega
  have h1 : (s ++ (⟨#[128]⟩ : ByteArray)).size = s.size + 1 := Math.size_append _ _
  have h2 : (strOfNums (List.replicate (padZ s.size) 0)).size = padZ s.size := by rw [strOfNums_size, List.length_replicate]
  have h3 := Math.size_append (s ++ (⟨#[128]⟩ : ByteArray)) (strOfNums (List.replicate (padZ s.size) 0))
  unfold impl_PadText.f impl_four.f
  rw [if_pos (by omega), pad_zeros s.size h, if_pos (by omega), Int.toNat_natCast, if_pos (by omega), Option.bind_some, if_pos (by omega), Option.bind_some, if_pos (by rw [strOfNums_size]; simp only [List.length_cons, List.length_nil]; omega), Option.bind_some]
  rw [if_pos (by rw [Math.size_append, strOfNums_size, strOfNums_size]; simp only [List.length_cons, List.length_nil]; omega)]
  rw [Math.wrap_in (n := 8 * (s.size : Int)) (by omega) (by omega)]
  unfold padL
  rw [eight_is (8 * (s.size : Int)) (by omega), ← List.append_assoc]
  rw [strOfNums_app, strOfNums_app, strOfNums_app, strOfNums_app, strOf_bytesI]
  rfl
theorem toU_ints (l : List UInt32) : toU (intsU l) = l := by
  unfold toU intsU
  rw [List.map_map]
  conv => rhs; rw [← List.map_id l]
  apply List.map_congr_left
  intro b _
  simp
theorem all_ints (l : List UInt32) : (intsU l).all halfB = true := by
  rw [List.all_eq_true]
  intro x hx
  unfold intsU at hx
  obtain ⟨y, _, rfl⟩ := List.mem_map.1 hx
  rw [halfB_iff]
  have := y.toNat_lt
  omega
theorem block_is (st : List UInt32) (h : st.length = 8) (s : ByteArray) (hs : s.size = 64) : impl_ShaBlock.f (intsU st) s = some (intsU (blk st s keys64)) := by
  unfold impl_ShaBlock.f blockF
  rw [if_pos (by rw [intsU_len]; omega), if_pos ⟨by rw [intsU_len]; exact h, hs, all_ints st⟩, toU_ints]
theorem rd_ints (st : List UInt32) (j : Nat) (h : j < st.length) : rd (intsU st) (j : Int) = ((st[j].toNat : Nat) : Int) := by
  unfold rd
  rw [Int.toNat_natCast, List.getD_eq_getElem?_getD, List.getElem?_eq_getElem (by rw [intsU_len]; exact h), Option.getD_some]
  simp [intsU]
theorem four_is (x : UInt32) : impl_four.f ((x.toNat : Nat) : Int) = some (strOfNums (fourB x)) := rfl
theorem l1_is (st : List UInt32) (h : st.length = 8) : ∀ m j, j + m = 8 → ∀ k, impl_Digest.l1 (m + 1 + k) (strOfNums (outL (st.take j))) (intsU st) ((intsU st).length : Int) (j : Int) = some (strOfNums (outL st)) := by
  intro m
  induction m with
  | zero =>
    intro j hj k
    rw [show 0 + 1 + k = k + 1 by omega, impl_Digest.l1, if_neg (by rw [intsU_len, h]; omega), List.take_of_length_le (by omega)]
  | succ m ih =>
    intro j hj k
    have e : outL (st.take j ++ [st[j]'(by omega)]) = outL (st.take j) ++ fourB (st[j]'(by omega)) := by unfold outL; rw [List.flatMap_append]; simp
    rw [show m + 1 + 1 + k = (m + 1 + k) + 1 by omega, impl_Digest.l1, if_pos (by rw [intsU_len, h]; omega), if_pos (by omega), if_pos (by rw [intsU_len, h]; omega), rd_ints st j (by omega), four_is, Option.bind_some]
    rw [if_pos (by rw [strOfNums_size, strOfNums_size, outL_len, List.length_take]; show 4 * min j st.length + 4 ≤ _; omega), ← strOfNums_app, ← e, ← List.take_succ_eq_append_getElem (by omega), show wrap64 ((j : Int) + 1) = ((j + 1 : Nat) : Int) by unfold wrap64; omega]
    exact ih (j + 1) (by omega) k
theorem l0_is (p : ByteArray) (n : Nat) (hp : p.size = 64 * n) (hn : 64 * n ≤ 2000200) : ∀ m j, j + m = n → ∀ k, impl_Digest.l0 (m + 1 + 9 + k) p (intsU (after p j)) ((64 * j : Nat) : Int) = some (strOfNums (outL (after p n))) := by
  intro m
  induction m with
  | zero =>
    intro j hj k
    obtain rfl : j = n := by omega
    rw [show 0 + 1 + 9 + k = (8 + 1 + k) + 1 by omega, impl_Digest.l0, if_neg (by omega)]
    exact l1_is (after p j) (after_len p j) 8 0 (by omega) k
  | succ m ih =>
    intro j hj k
    have ew : wrap64 (((64 * j : Nat) : Int) + 64) = ((64 * (j + 1) : Nat) : Int) := by unfold wrap64; omega
    rw [show m + 1 + 1 + 9 + k = (m + 1 + 9 + k) + 1 by omega, impl_Digest.l0, if_pos (by omega), if_pos (by omega), ew, if_pos (by omega), if_pos (by omega), Int.toNat_natCast, Int.toNat_natCast, block_is (after p j) (after_len p j) _ (by rw [ByteArray.size_extract]; omega), Option.bind_some]
    exact ih (j + 1) (by omega) k
theorem Digest_is (s : ByteArray) (hs : s.size ≤ 2000000) : Ev (fun k => impl_Digest.f k s) (digF s) := by
  obtain ⟨n, hn, hn2⟩ := pad_size s
  refine ⟨n + 1 + 9, fun k hk => ?_⟩
  obtain ⟨d, rfl⟩ : ∃ d, k = n + 1 + 9 + d := ⟨k - (n + 1 + 9), by omega⟩
  show impl_Digest.f _ s = _
  unfold impl_Digest.f digF
  rw [impl_PadText_is s (by omega), Option.bind_some]
  show impl_Digest.l0 (n + 1 + 9 + d) (strOfNums (padL s)) (intsU (after (strOfNums (padL s)) 0)) ((64 * 0 : Nat) : Int) = _
  rw [l0_is (strOfNums (padL s)) n hn (by omega) n 0 (by omega) d, hn, Nat.mul_div_cancel_left n (by decide)]
theorem digF_size (s : ByteArray) : (digF s).size = 32 := by
  unfold digF
  rw [strOfNums_size, outL_len, after_len]
theorem new_l0 (l : List Int) (hl : l.length ≤ 2000000) (d : Nat) : ∀ (i : Nat) (x : Int), i + d = l.length → ∃ h, Ev (fun k => spec_l01New.l0 k l x (i : Int)) (l, 0, h) := by
  induction d with
  | zero =>
    intro i x hi
    refine ⟨x, Ev.step (f := fun _ => some (l, 0, x)) (fun k => ?_) (Math.Ev.const rfl)⟩
    show spec_l01New.l0 (k + 1) l x _ = _
    rw [spec_l01New.l0, if_neg (by omega)]
  | succ d ih =>
    intro i x hi
    by_cases c : (i : Int) < 4000
    · obtain ⟨h, hh⟩ := ih (i + 1) (Go.bits .and .i64 (wrap64 ((wrap64 ((wrap64 (x * 131)) + (wrap64 (rd l (i : Int))))) + 7)) 1073741823) (by omega)
      refine ⟨h, Ev.step (fun k => ?_) hh⟩
      show spec_l01New.l0 (k + 1) l x _ = _
      rw [spec_l01New.l0, if_pos (by omega), if_pos c, if_pos (by omega), show wrap64 ((i : Int) + 1) = ((i + 1 : Nat) : Int) from by rw [Math.wrap_in (by omega) (by omega)]; omega]
    · refine ⟨x, Ev.step (f := fun _ => some (l, 0, x)) (fun k => ?_) (Math.Ev.const rfl)⟩
      show spec_l01New.l0 (k + 1) l x _ = _
      rw [spec_l01New.l0, if_pos (by omega), if_neg c]
theorem new_ev (l : List Int) (hl : l.length ≤ 2000000) : ∃ h, Ev (fun k => spec_l01New.f k l) (l, 0, h) := new_l0 l hl l.length 0 _ (by omega)
def Cur (l : List Int) (i : Int) : Prop := 0 ≤ i ∧ i ≤ l.length ∧ l.length ≤ 2000000
theorem byte_ok {l : List Int} {i : Int} (c : Cur l i) (h : Int) : ∃ x i' h', spec_l01Byte.f l i h = some (x, i', h') ∧ Cur l i' ∧ 0 ≤ x ∧ x ≤ 255 := by
  unfold Cur at c
  unfold spec_l01Byte.f
  by_cases hlt : i < (l.length : Int)
  · rw [if_pos hlt, if_pos c.1]
    refine ⟨_, _, _, rfl, ?_, Math.and255 _⟩
    unfold Cur
    rw [Math.wrap_in (n := i + 1) (by omega) (by omega)]
    omega
  · rw [if_neg hlt]
    exact ⟨_, _, _, rfl, c, Math.and255 _⟩
theorem below_ok {l : List Int} {i : Int} (c : Cur l i) (h : Int) (n : Int) : ∃ x i' h', spec_l01Below.f l i h n = some (x, i', h') ∧ Cur l i' ∧ 0 ≤ x ∧ (0 < n → x < n) ∧ (n ≤ 0 → x = 0) := by
  unfold spec_l01Below.f
  by_cases h0 : n ≤ 0
  · rw [if_pos h0]
    exact ⟨0, i, h, rfl, c, by omega, by omega, fun _ => rfl⟩
  · rw [if_neg h0]
    by_cases h1 : n ≤ 256
    · rw [if_pos h1]
      obtain ⟨x, i1, g1, e1, c1, x0, x1⟩ := byte_ok c h
      rw [e1, Option.bind_some, if_neg (by omega)]
      refine ⟨_, i1, g1, rfl, c1, ?_, fun _ => ?_, fun e => absurd e h0⟩
      · exact Int.tmod_nonneg _ x0
      · exact Int.tmod_lt_of_pos _ (by omega)
    · rw [if_neg h1]
      obtain ⟨x, i1, g1, e1, c1, x0, x1⟩ := byte_ok c h
      obtain ⟨y, i2, g2, e2, c2, y0, y1⟩ := byte_ok c1 g1
      obtain ⟨z, i3, g3, e3, c3, z0, z1⟩ := byte_ok c2 g2
      obtain ⟨u, i4, g4, e4, c4, u0, u1⟩ := byte_ok c3 g3
      rw [e1, Option.bind_some, e2, Option.bind_some, e3, Option.bind_some, e4, Option.bind_some, if_neg (by omega)]
      rw [Math.wrap_in (n := x * 16777216) (by omega) (by omega), Math.wrap_in (n := y * 65536) (by omega) (by omega), Math.wrap_in (n := z * 256) (by omega) (by omega)]
      rw [Math.wrap_in (n := x * 16777216 + y * 65536) (by omega) (by omega)]
      rw [Math.wrap_in (n := x * 16777216 + y * 65536 + z * 256) (by omega) (by omega)]
      rw [Math.wrap_in (n := x * 16777216 + y * 65536 + z * 256 + u) (by omega) (by omega)]
      refine ⟨_, i4, g4, rfl, c4, ?_, fun _ => ?_, fun e => absurd e h0⟩
      · exact Int.tmod_nonneg _ (by omega)
      · exact Int.tmod_lt_of_pos _ (by omega)
theorem cur0 {l : List Int} (hl : l.length ≤ 2000000) : Cur l 0 := ⟨by omega, by omega, hl⟩
theorem pickInt_ok {l : List Int} {i : Int} (c : Cur l i) (h : Int) (xs : List Int) (hx : 0 < xs.length) : ∃ x i' h', spec_l01PickInt.f l i h xs = some (x, i', h') ∧ Cur l i' ∧ x ∈ xs := by
  unfold spec_l01PickInt.f
  obtain ⟨x, i1, g1, e1, c1, x0, x1, _⟩ := below_ok c h (xs.length : Int)
  have hlt := x1 (by omega)
  rw [e1, Option.bind_some, if_pos x0, if_pos hlt]
  refine ⟨_, _, _, rfl, c1, ?_⟩
  unfold rd
  rw [List.getD_eq_getElem?_getD, List.getElem?_eq_getElem (by omega)]
  exact List.getElem_mem _
theorem text_l0 {l : List Int} (n d : Nat) (hn : n ≤ 5000) : ∀ (j : Nat) (acc : List Int) (i h : Int), j + d = n → acc.length ≤ j → Cur l i → ∃ s i' h', Ev (fun k => spec_l01Text.l0 k (n : Int) acc (j : Int) l i h) (s, i', h') ∧ Cur l i' ∧ s.size = acc.length + d := by
  induction d with
  | zero =>
    intro j acc i h hj ha c
    refine ⟨strOfNums acc, i, h, Ev.step (f := fun _ => some (strOfNums acc, i, h)) (fun k => ?_) (Math.Ev.const rfl), c, by rw [strOfNums_size]; omega⟩
    show spec_l01Text.l0 (k + 1) _ acc _ l i h = _
    rw [spec_l01Text.l0, if_neg (by omega)]
  | succ d ih =>
    intro j acc i h hj ha c
    obtain ⟨x, i1, g1, e1, c1, x0, x1⟩ := byte_ok c h
    obtain ⟨s, i', h', hs, c', hz⟩ := ih (j + 1) (acc ++ [x % 256]) i1 g1 (by omega) (by rw [List.length_append, List.length_singleton]; omega) c1
    rw [List.length_append, List.length_singleton] at hz
    refine ⟨s, i', h', Ev.step (fun k => ?_) hs, c', by omega⟩
    show spec_l01Text.l0 (k + 1) _ acc _ l i h = _
    rw [spec_l01Text.l0, if_pos (by omega), e1, Option.bind_some, if_pos (by omega), show wrap64 ((j : Int) + 1) = ((j + 1 : Nat) : Int) from by rw [Math.wrap_in (by omega) (by omega)]; omega]
theorem text_ok {l : List Int} {i : Int} (c : Cur l i) (h : Int) (n : Nat) (hn : n ≤ 5000) : ∃ s i' h', Ev (fun k => spec_l01Text.f k l i h (n : Int)) (s, i', h') ∧ Cur l i' ∧ s.size = n := by
  obtain ⟨s, i', h', hs, c', hz⟩ := text_l0 n n hn 0 [] i h (by omega) (by simp) c
  have e : Ev (fun k => spec_l01Text.j0 k (n : Int) l i h) (s, i', h') := Ev.step (f := fun k => spec_l01Text.l0 k (n : Int) [] ((0 : Nat) : Int) l i h) (fun k => rfl) hs
  exact ⟨s, i', h', Ev.congr (fun k => by unfold spec_l01Text.f; rw [if_neg (by omega)]) e, c', by simpa using hz⟩
theorem drawText_ev {l : List Int} (hl : l.length ≤ 2000000) : ∃ t, Ev (fun k => spec_DrawTextOf.f k l) t ∧ t.size ≤ 200 := by
  obtain ⟨h, hn⟩ := new_ev l hl
  obtain ⟨n, i1, g1, e1, c1, hm⟩ := pickInt_ok (cur0 hl) h [0, 1, 3, 9, 54, 55, 56, 63, 64, 65, 119, 120, 200] (by decide)
  have hn0 : 0 ≤ n ∧ n ≤ 200 := by
    simp only [List.mem_cons, List.not_mem_nil, or_false] at hm
    omega
  obtain ⟨m, rfl⟩ := Int.eq_ofNat_of_zero_le hn0.1
  obtain ⟨s, i2, g2, hs, c2, hz⟩ := text_ok c1 g1 m (by omega)
  refine ⟨s, Ev.congr (fun k => by unfold spec_DrawTextOf.f; rfl) (Ev.bind (f := fun k (bt165 : List Int × Int × Int) => ((spec_l03Some.f k bt165.1 bt165.2.1 bt165.2.2).bind fun bt169 => (some bt169.1))) hn ?_), by omega⟩
  refine Ev.congr (fun k => ?_) (Ev.bind (f := fun _ (b : ByteArray × Int × Int) => some b.1) hs (Math.Ev.const rfl))
  show (spec_l03Some.f k l 0 h).bind _ = _
  unfold spec_l03Some.f
  rw [e1, Option.bind_some, Option.bind_assoc]
  rfl
theorem places_l0 {l : List Int} (d : Nat) : ∀ (j : Nat) (acc : List Int) (i h : Int), j + d = 12 → acc.length = j → (∀ x ∈ acc, 0 ≤ x ∧ x < 10000) → Cur l i → ∃ s, Ev (fun k => spec_DrawPlaces.l0 k acc (j : Int) l i h) s ∧ s.length = 12 ∧ (∀ x ∈ s, 0 ≤ x ∧ x < 10000) := by
  induction d with
  | zero =>
    intro j acc i h hj ha hm c
    refine ⟨acc, Ev.step (f := fun _ => some acc) (fun k => ?_) (Math.Ev.const rfl), by omega, hm⟩
    show spec_DrawPlaces.l0 (k + 1) acc _ l i h = _
    rw [spec_DrawPlaces.l0, if_neg (by omega)]
  | succ d ih =>
    intro j acc i h hj ha hm c
    obtain ⟨x, i1, g1, e1, c1, x0, x1, _⟩ := below_ok c h 10000
    have hx1 := x1 (by omega)
    obtain ⟨s, hs, hz, hsm⟩ := ih (j + 1) (acc ++ [x]) i1 g1 (by omega) (by rw [List.length_append, List.length_singleton]; omega) (by
      intro y hy
      rcases List.mem_append.1 hy with hy | hy
      · exact hm y hy
      · rw [List.mem_singleton.1 hy]
        exact ⟨x0, hx1⟩) c1
    refine ⟨s, Ev.step (fun k => ?_) hs, hz, hsm⟩
    show spec_DrawPlaces.l0 (k + 1) acc _ l i h = _
    rw [spec_DrawPlaces.l0, if_pos (by omega), e1, Option.bind_some, if_pos (by omega), show wrap64 ((j : Int) + 1) = ((j + 1 : Nat) : Int) from by rw [Math.wrap_in (by omega) (by omega)]; omega]
theorem places_ok (l : List Int) (hl : l.length ≤ 2000000) : ∃ s, Ev (fun k => spec_DrawPlaces.f k l) s ∧ s.length = 12 ∧ (∀ x ∈ s, 0 ≤ x ∧ x < 10000) := by
  obtain ⟨h, hn⟩ := new_ev l hl
  obtain ⟨x, i1, g1, e1, c1, _, _⟩ := byte_ok (cur0 hl) h
  obtain ⟨s, hs, hz, hm⟩ := places_l0 12 0 [] i1 g1 (by omega) rfl (by intro x hx; cases hx) c1
  refine ⟨s, ?_, hz, hm⟩
  unfold spec_DrawPlaces.f
  refine Ev.bind hn ?_
  refine Ev.congr (fun k => ?_) hs
  dsimp only
  rw [e1, Option.bind_some]
  rfl
theorem rd_mem {s : List Int} (hz : s.length = 12) (hm : ∀ x ∈ s, 0 ≤ x ∧ x < 10000) (j : Nat) (hj : j < 12) : 0 ≤ rd s (j : Int) ∧ rd s (j : Int) < 10000 := by
  unfold rd
  rw [Int.toNat_natCast, List.getD_eq_getElem?_getD, List.getElem?_eq_getElem (by omega)]
  exact hm _ (List.getElem_mem _)
theorem ext_app (a b : ByteArray) : (a ++ b).extract 0 a.size = a := by
  apply Math.str_eq.1
  rw [Lib.toList_data, Lib.toList_data]
  simp [ByteArray.data_extract, ByteArray.data_append]
  exact List.take_of_length_le (by rw [Math.size_data]; exact Nat.le_refl _)
theorem padL_begins (t : ByteArray) : (strOfNums (padL t)).extract 0 t.size = t := by
  unfold padL
  rw [List.append_assoc, List.append_assoc, strOfNums_app, strOf_bytesI]
  exact ext_app _ _
theorem bytesI_map (s : ByteArray) : (bytesI s).map (fun n => UInt8.ofNat n.toNat) = s.data.toList := by
  unfold bytesI
  rw [List.map_map]
  conv => rhs; rw [← List.map_id s.data.toList]
  apply List.map_congr_left
  intro b _
  simp
theorem turnS_data (s : ByteArray) (i m : Nat) (hm : m < 255) : (turnS s i m).data.toList = s.data.toList.set i (UInt8.ofNat ((s.data.toList.getD i 0).toNat ^^^ (1 + m))) := by
  unfold turnS
  rw [strOfNums_data, List.map_set, bytesI_map]
  have hb := (s.data.toList.getD i 0).toNat_lt
  generalize (s.data.toList.getD i 0).toNat = u at hb ⊢
  rw [show 1 + ((m : Nat) : Int) = ((1 + m : Nat) : Int) by omega, u8_xor_nat u (1 + m) (by omega) (by omega), Int.toNat_natCast]
theorem turnS_size (s : ByteArray) (i m : Nat) (hm : m < 255) : (turnS s i m).size = s.size := by
  rw [← Math.size_data, turnS_data s i m hm, List.length_set, Math.size_data]
theorem xor_ne (u m : Nat) (hu : u < 256) (hm : m < 255) : UInt8.ofNat (u ^^^ (1 + m)) ≠ UInt8.ofNat u := by
  intro h
  have hx : u ^^^ (1 + m) < 256 := Nat.xor_lt_two_pow (n := 8) (by omega) (by omega)
  have h1 := Math.ofNat_inj hx hu h
  have h2 : u ^^^ (u ^^^ (1 + m)) = u ^^^ u := by rw [h1]
  rw [← Nat.xor_assoc, Nat.xor_self, Nat.zero_xor] at h2
  omega
theorem turnS_ne (s : ByteArray) (i m : Nat) (hi : i < s.size) (hm : m < 255) : turnS s i m ≠ s := by
  intro h
  have h1 := congrArg (fun t : ByteArray => t.data.toList[i]?) h
  simp only [turnS_data s i m hm] at h1
  have hl : i < s.data.toList.length := by rw [Math.size_data]; exact hi
  rw [List.getElem?_set_self hl, List.getElem?_eq_getElem hl, List.getD_eq_getElem?_getD, List.getElem?_eq_getElem hl, Option.getD_some] at h1
  have h2 := Option.some.inj h1
  refine xor_ne (s.data.toList[i]).toNat m (s.data.toList[i]).toNat_lt hm (h2.trans ?_)
  exact UInt8.ofNat_toNat.symm
def hx (d : Nat) : Int := if d < 10 then ((48 + d : Nat) : Int) else ((87 + d : Nat) : Int)
def hexL (l : List UInt8) : List Int := l.flatMap fun b => [hx (b.toNat / 16), hx (b.toNat % 16)]
def hexS (s : ByteArray) : ByteArray × Bool := if (s.size : Int) > 20000 then (⟨#[]⟩, false) else (strOfNums (hexL s.data.toList), true)
theorem hx_figs : ∀ d : Fin 16, bt (⟨#[48, 49, 50, 51, 52, 53, 54, 55, 56, 57, 97, 98, 99, 100, 101, 102]⟩ : ByteArray) ((d.val : Nat) : Int) = hx d.val := by decide
theorem hexL_cons (b : UInt8) (l : List UInt8) : hexL (b :: l) = [hx (b.toNat / 16), hx (b.toNat % 16)] ++ hexL l := rfl
theorem u8_and15 (x : Int) (h0 : 0 ≤ x) (h1 : x < 256) : Go.bits .and .u8 x 15 = x % 16 := bits_mask .u8 8 (by decide) wraps_u8 4 (by decide) x h0 h1
theorem impl_Hex_l0 (s : ByteArray) (hs : s.size ≤ 20000) (n : Nat) : ∀ (i : Nat) (acc : List Int), i + n = s.size → acc.length ≤ 2 * i →
    Ev (fun k => impl_Hex.l0 k s acc (i : Int)) (strOfNums (acc ++ hexL (s.data.toList.drop i)), true) := by
  induction n with
  | zero =>
    intro i acc hi ha
    refine Ev.step (f := fun _ => some (strOfNums (acc ++ hexL (s.data.toList.drop i)), true)) (fun k => ?_) (Math.Ev.const rfl)
    show impl_Hex.l0 (k + 1) s acc (i : Int) = _
    rw [impl_Hex.l0, if_neg (by omega), List.drop_of_length_le (by rw [Math.size_data]; omega)]
    simp [hexL]
  | succ n ih =>
    intro i acc hi ha
    have hb := (s.data.toList[i]'(by rw [Math.size_data]; omega)).toNat_lt
    refine Ev.step (f := fun k => impl_Hex.l0 k s (acc ++ [hx ((s.data.toList[i]'(by rw [Math.size_data]; omega)).toNat / 16), hx ((s.data.toList[i]'(by rw [Math.size_data]; omega)).toNat % 16)]) ((i + 1 : Nat) : Int)) (fun k => ?_) ?_
    · show impl_Hex.l0 (k + 1) s acc (i : Int) = _
      rw [impl_Hex.l0, if_pos (by omega), if_pos (by omega), Math.bt_nat s i (by omega)]
      rw [u8_and15 _ (by omega) (by omega)]
      rw [show ((s.data.toList[i]'(by rw [Math.size_data]; omega)).toNat : Int) / 16 = (((s.data.toList[i]'(by rw [Math.size_data]; omega)).toNat / 16 : Nat) : Int) from by omega, show ((s.data.toList[i]'(by rw [Math.size_data]; omega)).toNat : Int) % 16 = (((s.data.toList[i]'(by rw [Math.size_data]; omega)).toNat % 16 : Nat) : Int) from by omega]
      rw [if_pos (by omega), if_pos (by omega), if_pos (by omega), if_pos (by omega)]
      rw [hx_figs ⟨(s.data.toList[i]'(by rw [Math.size_data]; omega)).toNat / 16, by omega⟩, hx_figs ⟨(s.data.toList[i]'(by rw [Math.size_data]; omega)).toNat % 16, by omega⟩]
      simp only [Option.bind_some]
      rw [if_pos (by simp only [List.length_cons, List.length_nil]; omega), Math.wrap_in (by omega) (by omega)]
      rfl
    · have := ih (i + 1) (acc ++ [hx ((s.data.toList[i]'(by rw [Math.size_data]; omega)).toNat / 16), hx ((s.data.toList[i]'(by rw [Math.size_data]; omega)).toNat % 16)]) (by omega) (by simp only [List.length_append, List.length_cons, List.length_nil]; omega)
      rw [Math.drop_at s i (by omega), hexL_cons, ← List.append_assoc]
      exact this
theorem impl_Hex_ev (s : ByteArray) : Ev (fun k => impl_Hex.f k s) (hexS s) := by
  unfold hexS impl_Hex.f
  by_cases h : (s.size : Int) > 20000
  · rw [if_pos h]
    simp only [h, if_true]
    exact Math.Ev.const rfl
  · simp only [h, if_false]
    refine Ev.congr (f := fun k => impl_Hex.l0 k s [] 0) (fun k => by rw [Math.wrap_in (by omega) (by omega), if_pos (by omega), if_pos (by omega)]) ?_
    have := impl_Hex_l0 s (by omega) s.size 0 [] (by omega) (by simp)
    simpa using this
theorem hexL_len (l : List UInt8) : (hexL l).length = 2 * l.length := by
  induction l with
  | nil => rfl
  | cons b l ih =>
    rw [hexL_cons, List.length_append, ih]
    simp only [List.length_cons, List.length_nil]
    omega
theorem hex_size (s : ByteArray) (hs : s.size = 32) : (hexS s).1.size = 64 := by
  unfold hexS
  rw [if_neg (by omega)]
  show (strOfNums (hexL s.data.toList)).size = 64
  rw [strOfNums_size, hexL_len, Math.size_data, hs]
theorem cut_in (k : Nat) (s : ByteArray) (hk : impl_Digest.f k s = some (digF s)) (c : Int) (h1 : 1 ≤ c) (h2 : c ≤ 32) : impl_CutDigest.f k s c = some ((digF s).extract 0 c.toNat) := by
  have hz := digF_size s
  have i2 : impl_within.f c 1 32 = some true := by unfold impl_within.f; rw [if_pos (by omega), decide_eq_true h2]
  unfold impl_CutDigest.f
  rw [i2, Option.bind_some, if_pos rfl, hk, Option.bind_some, if_pos (by omega), if_pos (by omega)]
theorem cut_out (k : Nat) (s : ByteArray) (c : Int) (h : c = 0 ∨ c = 33) : impl_CutDigest.f k s c = some (⟨#[]⟩ : ByteArray) := by
  have i2 : impl_within.f c 1 32 = some false := by
    unfold impl_within.f
    rcases h with rfl | rfl <;> rfl
  unfold impl_CutDigest.f
  rw [i2, Option.bind_some, if_neg (by decide)]
theorem nil_list : (⟨#[]⟩ : ByteArray).toList = ([] : List UInt8) := by rw [Lib.toList_data]
theorem FnDigestTurned : laws_FnDigestTurned.Pure := by
  intro l _ _ _
  by_cases hb : (l.length : Int) > 1048576
  · refine ⟨0, ?_⟩
    unfold laws_FnDigestTurned.f laws_big.f
    rw [Option.bind_some, if_pos (decide_eq_true hb)]
  · obtain ⟨s, ⟨K1, hK1⟩, hs⟩ := drawText_ev (l := l) (by omega)
    obtain ⟨p, ⟨K2, hK2⟩, hp, hm⟩ := places_ok l (by omega)
    obtain ⟨t, ht⟩ : ∃ t, s ++ (⟨#[120]⟩ : ByteArray) = t := ⟨_, rfl⟩
    have hts : t.size = s.size + 1 := by rw [← ht]; exact Math.size_append _ _
    have q0 : 0 ≤ rd p 0 ∧ rd p 0 < 10000 := rd_mem hp hm 0 (by omega)
    have q1 : 0 ≤ rd p 1 ∧ rd p 1 < 10000 := rd_mem hp hm 1 (by omega)
    have q2 : 0 ≤ rd p 2 ∧ rd p 2 < 10000 := rd_mem hp hm 2 (by omega)
    obtain ⟨u, hu⟩ : ∃ u, turnS t ((rd p 0).toNat % t.size) ((rd p 1).toNat % 255) = u := ⟨_, rfl⟩
    have hm1 : (rd p 1).toNat % 255 < 255 := Nat.mod_lt _ (by decide)
    have hus : u.size = t.size := by rw [← hu]; exact turnS_size _ _ _ hm1
    have hne : u ≠ t := by rw [← hu]; exact turnS_ne _ _ _ (Nat.mod_lt _ (by omega)) hm1
    have hturn : laws_turned.f t p = some u := by
      unfold laws_turned.f
      rw [if_pos (by unfold turnOk; exact decide_eq_true ⟨by omega, by omega, by omega, q0.1, by have := q0.2; omega, q1.1, by have := q1.2; omega⟩), hu]
    clear hu hm1
    obtain ⟨K3, hK3⟩ := Digest_is t (by omega)
    obtain ⟨K4, hK4⟩ := Digest_is u (by omega)
    obtain ⟨K5, hK5⟩ := impl_Hex_ev (digF u)
    have hz := digF_size t
    have hzu := digF_size u
    obtain ⟨k, hk⟩ : ∃ k, k = K1 + K2 + K3 + K4 + K5 := ⟨_, rfl⟩
    have k1 : spec_DrawTextOf.f k l = some s := hK1 k (by omega)
    have k2 : spec_DrawPlaces.f k l = some p := hK2 k (by omega)
    have k3 : impl_Digest.f k t = some (digF t) := hK3 k (by omega)
    have k4 : impl_Digest.f k u = some (digF u) := hK4 k (by omega)
    have k5 : impl_Hex.f k (digF u) = some (hexS (digF u)) := hK5 k (by omega)
    have s3 : spec_Digest.f t = some (digF t) := if_pos (by omega)
    have s4 : spec_Digest.f u = some (digF u) := if_pos (by omega)
    have hdx : impl_DigestHex.f k u = some (hexS (digF u)).1 := by
      unfold impl_DigestHex.f
      rw [k4, Option.bind_some, k5, Option.bind_some]
    obtain ⟨c, hc⟩ : ∃ c, wrap64 (1 + (Int.tmod (rd p 2) 32)) = c := ⟨_, rfl⟩
    have hc12 : 1 ≤ c ∧ c ≤ 32 := by
      have q3 := q2.1
      have a1 := Int.tmod_nonneg 32 q3
      have a2 := Int.tmod_lt_of_pos (rd p 2) (show (0 : Int) < 32 by decide)
      rw [Math.wrap_in (by omega) (by omega)] at hc
      omega
    have hpad : strOfNums (padL t) ≠ strOfNums (padL u) := by
      intro e
      have e2 : (strOfNums (padL t)).extract 0 t.size = (strOfNums (padL u)).extract 0 t.size := by rw [e]
      rw [padL_begins t, ← hus, padL_begins u] at e2
      exact hne e2.symm
    refine ⟨k, ?_⟩
    unfold laws_FnDigestTurned.f laws_big.f
    rw [Option.bind_some, if_neg (by rw [decide_eq_false hb]; decide), k1, Option.bind_some, if_pos (by omega), k2, Option.bind_some, ht, hturn, Option.bind_some, if_pos (by omega), k3, Option.bind_some, s3, Option.bind_some, if_pos rfl, k4, Option.bind_some, s4, Option.bind_some, if_pos rfl, hc]
    rw [cut_in k t k3 c hc12.1 hc12.2, Option.bind_some, Option.bind_some, if_pos (by omega), if_pos (by omega), if_pos rfl, cut_out k t 0 (Or.inl rfl), Option.bind_some, if_pos nil_list, cut_out k t 33 (Or.inr rfl), Option.bind_some, if_pos nil_list, hdx, Option.bind_some, if_pos (by rw [hex_size _ hzu]; rfl), impl_PadText_is t (by omega), Option.bind_some, impl_PadText_is u (by omega), Option.bind_some]
    exact congrArg some (bne_iff_ne.2 fun e => hpad (Math.str_eq.1 e))
end Go.Proofs.YtfjhfmfeblcnhaaDoor.Pure
