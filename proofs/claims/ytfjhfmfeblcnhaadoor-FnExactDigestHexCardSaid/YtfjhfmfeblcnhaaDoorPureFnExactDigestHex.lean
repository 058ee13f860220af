/- FnExactDigestHex: the program's digest is the reference's. -/
import Derived.Test.YtfjhfmfeblcnhaaDoorOFnExactDigestHexx3
import Derived.Test.YtfjhfmfeblcnhaaDoorMath
import Derived.Test.YtfjhfmfeblcnhaaDoorDig
namespace Go.Proofs.YtfjhfmfeblcnhaaDoor.Pure
open Go.RowKit Go.Proofs.YtfjhfmfeblcnhaaDoor.PFnExactDigestHex Go.Proofs.YtfjhfmfeblcnhaaDoorW.PrintWords Go.Proofs.YtfjhfmfeblcnhaaDoorW.PrintLast Go.Proofs.YtfjhfmfeblcnhaaDoorW.PrintMore Go.Proofs.YtfjhfmfeblcnhaaDoor.Hand Go.Proofs.YtfjhfmfeblcnhaaDoor.Sha
set_option linter.unusedVariables false
theorem strOfNums_app (a b : List Int) : strOfNums (a ++ b) = strOfNums a ++ strOfNums b := by
  apply Math.str_eq.1
  rw [Lib.toList_data, Lib.toList_data, strOfNums_data, ByteArray.data_append, Array.toList_append, strOfNums_data, strOfNums_data, List.map_append]
theorem pad_zeros (n : Nat) (h : n ≤ 140737488351232) : Int.tmod (wrap64 (64 - Int.tmod (wrap64 ((n : Int) + 9)) 64)) 64 = ((padZ n : Nat) : Int) := by
  have e1 : Int.tmod ((n : Int) + 9) 64 = ((n : Int) + 9) % 64 := Int.tmod_eq_emod_of_nonneg (by omega)
  have h1 := Int.emod_nonneg ((n : Int) + 9) (show (64 : Int) ≠ 0 by decide)
  have h2 := Int.emod_lt_of_pos ((n : Int) + 9) (show (0 : Int) < 64 by decide)
  rw [Math.wrap_in (n := (n : Int) + 9) (by omega) (by omega), e1]
  clear e1
  rw [Math.wrap_in (n := 64 - ((n : Int) + 9) % 64) (by omega) (by omega), Int.tmod_eq_emod_of_nonneg (by omega)]
  unfold padZ
  omega
theorem padL_size (s : ByteArray) : (padL s).length = s.size + 9 + padZ s.size := by
  unfold padL
  rw [List.length_append, List.length_append, List.length_append, bytesI_length, List.length_replicate]
  show s.size + 1 + padZ s.size + 8 = _
  omega
theorem eight_is (n : Int) (h : 0 ≤ n) : eightL n 8 = [n / 4294967296 / 16777216 % 256, n / 4294967296 / 65536 % 256, n / 4294967296 / 256 % 256, n / 4294967296 % 256] ++ [n / 16777216 % 256, n / 65536 % 256, n / 256 % 256, n % 256] := by
  simp only [eightL, Nat.reduceMul, Int.reducePow, List.cons_append, List.nil_append, List.cons.injEq, and_true]
  refine ⟨by omega, by omega, by omega, trivial, trivial, trivial, trivial, by omega⟩
theorem impl_PadText_is (s : ByteArray) (h : s.size ≤ 140737488351232) : impl_PadText.f s = some (strOfNums (padL s)) := by
  have hz : padZ s.size < 64 := by unfold padZ; omega
  have h1 : (s ++ (⟨#[128]⟩ : ByteArray)).size = s.size + 1 := Math.size_append _ _
  have h2 : (strOfNums (List.replicate (padZ s.size) 0)).size = padZ s.size := by rw [strOfNums_size, List.length_replicate]
  have h3 := Math.size_append (s ++ (⟨#[128]⟩ : ByteArray)) (strOfNums (List.replicate (padZ s.size) 0))
  unfold impl_PadText.f impl_four.f
  rw [if_pos (by omega), pad_zeros s.size h, if_pos (by omega), Int.toNat_natCast, if_pos (by omega), Option.bind_some, if_pos (by omega), Option.bind_some, if_pos (by rw [strOfNums_size]; simp only [List.length_cons, List.length_nil]; omega), Option.bind_some]
  rw [if_pos (by rw [Math.size_append, strOfNums_size, strOfNums_size]; simp only [List.length_cons, List.length_nil]; omega)]
  rw [Math.wrap_in (n := 8 * (s.size : Int)) (by omega) (by omega)]
  unfold padL
  rw [eight_is (8 * (s.size : Int)) (by omega), ← List.append_assoc]
  rw [strOfNums_app, strOfNums_app, strOfNums_app, strOfNums_app, strOf_bytesI]
  rfl
theorem toU_ints (l : List UInt32) : toU (intsU l) = l := by
  unfold toU intsU
  rw [List.map_map]
  conv => rhs; rw [← List.map_id l]
  apply List.map_congr_left
  intro b _
  simp
theorem all_ints (l : List UInt32) : (intsU l).all halfB = true := by
  rw [List.all_eq_true]
  intro x hx
  unfold intsU at hx
  obtain ⟨y, _, rfl⟩ := List.mem_map.1 hx
  rw [halfB_iff]
  have := y.toNat_lt
  omega
theorem block_is (st : List UInt32) (h : st.length = 8) (s : ByteArray) (hs : s.size = 64) : impl_ShaBlock.f (intsU st) s = some (intsU (blk st s keys64)) := by
  unfold impl_ShaBlock.f blockF
  rw [if_pos (by rw [intsU_len]; omega), if_pos ⟨by rw [intsU_len]; exact h, hs, all_ints st⟩, toU_ints]
theorem rd_ints (st : List UInt32) (j : Nat) (h : j < st.length) : rd (intsU st) (j : Int) = ((st[j].toNat : Nat) : Int) := by
  unfold rd
  rw [Int.toNat_natCast, List.getD_eq_getElem?_getD, List.getElem?_eq_getElem (by rw [intsU_len]; exact h), Option.getD_some]
  simp [intsU]
theorem four_is (x : UInt32) : impl_four.f ((x.toNat : Nat) : Int) = some (strOfNums (fourB x)) := rfl
theorem l1_is (st : List UInt32) (h : st.length = 8) : ∀ m j, j + m = 8 → ∀ k, impl_Digest.l1 (m + 1 + k) (strOfNums (outL (st.take j))) (intsU st) ((intsU st).length : Int) (j : Int) = some (strOfNums (outL st)) := by
  intro m
  induction m with
  | zero =>
    intro j hj k
    rw [show 0 + 1 + k = k + 1 by omega, impl_Digest.l1, if_neg (by rw [intsU_len, h]; omega), List.take_of_length_le (by omega)]
  | succ m ih =>
    intro j hj k
    have e : outL (st.take j ++ [st[j]'(by omega)]) = outL (st.take j) ++ fourB (st[j]'(by omega)) := by unfold outL; rw [List.flatMap_append]; simp
    rw [show m + 1 + 1 + k = (m + 1 + k) + 1 by omega, impl_Digest.l1, if_pos (by rw [intsU_len, h]; omega), if_pos (by omega), if_pos (by rw [intsU_len, h]; omega), rd_ints st j (by omega), four_is, Option.bind_some]
    rw [if_pos (by rw [strOfNums_size, strOfNums_size, outL_len, List.length_take]; show 4 * min j st.length + 4 ≤ _; omega), ← strOfNums_app, ← e, ← List.take_succ_eq_append_getElem (by omega), show wrap64 ((j : Int) + 1) = ((j + 1 : Nat) : Int) by unfold wrap64; omega]
    exact ih (j + 1) (by omega) k
theorem l0_is (p : ByteArray) (n : Nat) (hp : p.size = 64 * n) (hn : 64 * n ≤ 2000200) : ∀ m j, j + m = n → ∀ k, impl_Digest.l0 (m + 1 + 9 + k) p (intsU (after p j)) ((64 * j : Nat) : Int) = some (strOfNums (outL (after p n))) := by
  intro m
  induction m with
  | zero =>
    intro j hj k
    obtain rfl : j = n := by omega
    rw [show 0 + 1 + 9 + k = (8 + 1 + k) + 1 by omega, impl_Digest.l0, if_neg (by omega)]
    exact l1_is (after p j) (after_len p j) 8 0 (by omega) k
  | succ m ih =>
    intro j hj k
    have ew : wrap64 (((64 * j : Nat) : Int) + 64) = ((64 * (j + 1) : Nat) : Int) := by unfold wrap64; omega
    rw [show m + 1 + 1 + 9 + k = (m + 1 + 9 + k) + 1 by omega, impl_Digest.l0, if_pos (by omega), if_pos (by omega), ew, if_pos (by omega), if_pos (by omega), Int.toNat_natCast, Int.toNat_natCast, block_is (after p j) (after_len p j) _ (by rw [ByteArray.size_extract]; omega), Option.bind_some]
    exact ih (j + 1) (by omega) k
theorem Digest_is (s : ByteArray) (hs : s.size ≤ 2000000) : Ev (fun k => impl_Digest.f k s) (digF s) := by
  obtain ⟨n, hn, hn2⟩ := pad_size s
  refine ⟨n + 1 + 9, fun k hk => ?_⟩
  obtain ⟨d, rfl⟩ : ∃ d, k = n + 1 + 9 + d := ⟨k - (n + 1 + 9), by omega⟩
  show impl_Digest.f _ s = _
  unfold impl_Digest.f digF
  rw [impl_PadText_is s (by omega), Option.bind_some]
  show impl_Digest.l0 (n + 1 + 9 + d) (strOfNums (padL s)) (intsU (after (strOfNums (padL s)) 0)) ((64 * 0 : Nat) : Int) = _
  rw [l0_is (strOfNums (padL s)) n hn (by omega) n 0 (by omega) d, hn, Nat.mul_div_cancel_left n (by decide)]
def hx (d : Nat) : Int := if d < 10 then ((48 + d : Nat) : Int) else ((87 + d : Nat) : Int)
def hexL (l : List UInt8) : List Int := l.flatMap fun b => [hx (b.toNat / 16), hx (b.toNat % 16)]
def hexS (s : ByteArray) : ByteArray × Bool := if (s.size : Int) > 20000 then (⟨#[]⟩, false) else (strOfNums (hexL s.data.toList), true)
theorem hx_figs : ∀ d : Fin 16, bt (⟨#[48, 49, 50, 51, 52, 53, 54, 55, 56, 57, 97, 98, 99, 100, 101, 102]⟩ : ByteArray) ((d.val : Nat) : Int) = hx d.val := by decide
theorem hexL_cons (b : UInt8) (l : List UInt8) : hexL (b :: l) = [hx (b.toNat / 16), hx (b.toNat % 16)] ++ hexL l := rfl
theorem u8_and15 (x : Int) (h0 : 0 ≤ x) (h1 : x < 256) : Go.bits .and .u8 x 15 = x % 16 := bits_mask .u8 8 (by decide) wraps_u8 4 (by decide) x h0 h1
theorem spec_l01Figure_hx (m : Nat) (h : m < 16) : spec_l01Figure.f (m : Int) = some (hx m) := by
  unfold spec_l01Figure.f hx
  by_cases c : m < 10
  · rw [if_pos (by omega), if_pos c, Math.wrap_in (by omega) (by omega)]
    congr 1
    omega
  · rw [if_neg (by omega), if_neg c, Math.wrap_in (n := 97 + (m : Int)) (by omega) (by omega), Math.wrap_in (by omega) (by omega)]
    congr 1
    omega
theorem spec_Hex_l0 (s : ByteArray) (hs : s.size ≤ 20000) (n : Nat) : ∀ (i : Nat) (acc : List Int), i + n = s.size → acc.length ≤ 2 * i →
    Ev (fun k => spec_Hex.l0 k s acc (i : Int)) (strOfNums (acc ++ hexL (s.data.toList.drop i)), true) := by
  induction n with
  | zero =>
    intro i acc hi ha
    refine Ev.step (f := fun _ => some (strOfNums (acc ++ hexL (s.data.toList.drop i)), true)) (fun k => ?_) (Math.Ev.const rfl)
    show spec_Hex.l0 (k + 1) s acc (i : Int) = _
    rw [spec_Hex.l0, if_neg (by omega), List.drop_of_length_le (by rw [Math.size_data]; omega)]
    simp [hexL]
  | succ n ih =>
    intro i acc hi ha
    have hb := (s.data.toList[i]'(by rw [Math.size_data]; omega)).toNat_lt
    refine Ev.step (f := fun k => spec_Hex.l0 k s (acc ++ [hx ((s.data.toList[i]'(by rw [Math.size_data]; omega)).toNat / 16), hx ((s.data.toList[i]'(by rw [Math.size_data]; omega)).toNat % 16)]) ((i + 1 : Nat) : Int)) (fun k => ?_) ?_
    · show spec_Hex.l0 (k + 1) s acc (i : Int) = _
      rw [spec_Hex.l0, if_pos (by omega), if_pos (by omega), Math.bt_nat s i (by omega)]
      rw [Math.wrap_in (n := ((s.data.toList[i]'(by rw [Math.size_data]; omega)).toNat : Int)) (by omega) (by omega), Int.tdiv_eq_ediv_of_nonneg (by omega), Int.tmod_eq_emod_of_nonneg (by omega)]
      rw [Math.wrap_in (n := ((s.data.toList[i]'(by rw [Math.size_data]; omega)).toNat : Int) / 16) (by omega) (by omega)]
      rw [show ((s.data.toList[i]'(by rw [Math.size_data]; omega)).toNat : Int) / 16 = (((s.data.toList[i]'(by rw [Math.size_data]; omega)).toNat / 16 : Nat) : Int) from by omega, show ((s.data.toList[i]'(by rw [Math.size_data]; omega)).toNat : Int) % 16 = (((s.data.toList[i]'(by rw [Math.size_data]; omega)).toNat % 16 : Nat) : Int) from by omega]
      rw [spec_l01Figure_hx _ (by omega), spec_l01Figure_hx _ (by omega)]
      simp only [Option.bind_some]
      rw [if_pos (by simp only [List.length_cons, List.length_nil]; omega), Math.wrap_in (by omega) (by omega)]
      rfl
    · have := ih (i + 1) (acc ++ [hx ((s.data.toList[i]'(by rw [Math.size_data]; omega)).toNat / 16), hx ((s.data.toList[i]'(by rw [Math.size_data]; omega)).toNat % 16)]) (by omega) (by simp only [List.length_append, List.length_cons, List.length_nil]; omega)
      rw [Math.drop_at s i (by omega), hexL_cons, ← List.append_assoc]
      exact this
theorem spec_Hex_ev (s : ByteArray) : Ev (fun k => spec_Hex.f k s) (hexS s) := by
  unfold hexS spec_Hex.f
  by_cases h : (s.size : Int) > 20000
  · rw [if_pos h]
    simp only [h, if_true]
    exact Math.Ev.const rfl
  · rw [if_neg h]
    simp only [h, if_false]
    have := spec_Hex_l0 s (by omega) s.size 0 [] (by omega) (by simp)
    simpa using this
theorem impl_Hex_l0 (s : ByteArray) (hs : s.size ≤ 20000) (n : Nat) : ∀ (i : Nat) (acc : List Int), i + n = s.size → acc.length ≤ 2 * i →
    Ev (fun k => impl_Hex.l0 k s acc (i : Int)) (strOfNums (acc ++ hexL (s.data.toList.drop i)), true) := by
  induction n with
  | zero =>
    intro i acc hi ha
    refine Ev.step (f := fun _ => some (strOfNums (acc ++ hexL (s.data.toList.drop i)), true)) (fun k => ?_) (Math.Ev.const rfl)
    show impl_Hex.l0 (k + 1) s acc (i : Int) = _
    rw [impl_Hex.l0, if_neg (by omega), List.drop_of_length_le (by rw [Math.size_data]; omega)]
    simp [hexL]
  | succ n ih =>
    intro i acc hi ha
    have hb := (s.data.toList[i]'(by rw [Math.size_data]; omega)).toNat_lt
    refine Ev.step (f := fun k => impl_Hex.l0 k s (acc ++ [hx ((s.data.toList[i]'(by rw [Math.size_data]; omega)).toNat / 16), hx ((s.data.toList[i]'(by rw [Math.size_data]; omega)).toNat % 16)]) ((i + 1 : Nat) : Int)) (fun k => ?_) ?_
    · show impl_Hex.l0 (k + 1) s acc (i : Int) = _
      rw [impl_Hex.l0, if_pos (by omega), if_pos (by omega), Math.bt_nat s i (by omega)]
      rw [u8_and15 _ (by omega) (by omega)]
      rw [show ((s.data.toList[i]'(by rw [Math.size_data]; omega)).toNat : Int) / 16 = (((s.data.toList[i]'(by rw [Math.size_data]; omega)).toNat / 16 : Nat) : Int) from by omega, show ((s.data.toList[i]'(by rw [Math.size_data]; omega)).toNat : Int) % 16 = (((s.data.toList[i]'(by rw [Math.size_data]; omega)).toNat % 16 : Nat) : Int) from by omega]
      rw [if_pos (by omega), if_pos (by omega), if_pos (by omega), if_pos (by omega)]
      rw [hx_figs ⟨(s.data.toList[i]'(by rw [Math.size_data]; omega)).toNat / 16, by omega⟩, hx_figs ⟨(s.data.toList[i]'(by rw [Math.size_data]; omega)).toNat % 16, by omega⟩]
      simp only [Option.bind_some]
      rw [if_pos (by simp only [List.length_cons, List.length_nil]; omega), Math.wrap_in (by omega) (by omega)]
      rfl
    · have := ih (i + 1) (acc ++ [hx ((s.data.toList[i]'(by rw [Math.size_data]; omega)).toNat / 16), hx ((s.data.toList[i]'(by rw [Math.size_data]; omega)).toNat % 16)]) (by omega) (by simp only [List.length_append, List.length_cons, List.length_nil]; omega)
      rw [Math.drop_at s i (by omega), hexL_cons, ← List.append_assoc]
      exact this
theorem impl_Hex_ev (s : ByteArray) : Ev (fun k => impl_Hex.f k s) (hexS s) := by
  unfold hexS impl_Hex.f
  by_cases h : (s.size : Int) > 20000
  · rw [if_pos h]
    simp only [h, if_true]
    exact Math.Ev.const rfl
  · simp only [h, if_false]
    refine Ev.congr (f := fun k => impl_Hex.l0 k s [] 0) (fun k => by rw [Math.wrap_in (by omega) (by omega), if_pos (by omega), if_pos (by omega)]) ?_
    have := impl_Hex_l0 s (by omega) s.size 0 [] (by omega) (by simp)
    simpa using this
theorem FnExactDigestHex : laws_FnExactDigestHex.Pure := by
  intro s _
  by_cases h : (s.size : Int) > 1048576
  · exact ⟨0, by unfold laws_FnExactDigestHex.f; rw [if_pos h]⟩
  · have hs : spec_Digest.f s = some (digF s) := if_pos (by omega)
    have e1 : Ev (fun k => spec_DigestHex.f k s) (hexS (digF s)).1 := by
      refine Ev.congr (f := fun k => (spec_Hex.f k (digF s)).bind fun b => some b.1) (fun k => ?_) (Ev.bind (spec_Hex_ev (digF s)) (Ev.now _))
      unfold spec_DigestHex.f
      rw [hs, Option.bind_some]
    have e2 : Ev (fun k => impl_DigestHex.f k s) (hexS (digF s)).1 := by
      refine Ev.congr (f := fun k => (impl_Digest.f k s).bind fun t => (impl_Hex.f k t).bind fun b => some b.1) (fun k => rfl) ?_
      exact Ev.bind (Digest_is s (by omega)) (Ev.bind (impl_Hex_ev (digF s)) (Ev.now _))
    obtain ⟨K1, h1⟩ := e1
    obtain ⟨K2, h2⟩ := e2
    have g1 : spec_DigestHex.f (K1 + K2) s = some (hexS (digF s)).1 := h1 _ (by omega)
    have g2 : impl_DigestHex.f (K1 + K2) s = some (hexS (digF s)).1 := h2 _ (by omega)
    refine ⟨K1 + K2, ?_⟩
    unfold laws_FnExactDigestHex.f
    rw [if_neg h, g1, Option.bind_some, g2, Option.bind_some, if_pos rfl]
end Go.Proofs.YtfjhfmfeblcnhaaDoor.Pure
