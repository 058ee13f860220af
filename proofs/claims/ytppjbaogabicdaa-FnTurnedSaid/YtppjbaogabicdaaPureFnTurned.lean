/- FnTurned: a text whose one byte is another is not unsealed; a sealed text is unsealed as it was; a sum goes on. -/
import Derived.Test.YtppjbaogabicdaaOFnTurnedx3
import Derived.Test.YtppjbaogabicdaaMath
namespace Go.Proofs.Ytppjbaogabicdaa.Pure
open Go.RowKit Go.Proofs.Ytppjbaogabicdaa.PFnTurned Go.Proofs.YtppjbaogabicdaaW.PrintWords Go.Proofs.YtppjbaogabicdaaW.PrintLast Go.Proofs.YtppjbaogabicdaaW.PrintMore
set_option linter.unusedVariables false
theorem impl_within_is (a lo hi : Int) : impl_within.f a lo hi = some (decide (lo ≤ a ∧ a ≤ hi)) := by
  unfold impl_within.f
  by_cases h : a ≥ lo
  · rw [if_pos h]
    by_cases h2 : a ≤ hi
    · simp [h, h2]
    · simp [h2]
  · rw [if_neg h]
    have : ¬ lo ≤ a := h
    simp [this]
theorem u32_xor_nat' (a b : Nat) (ha : a < 4294967296) (hb : b < 4294967296) : Go.bits .xor .u32 (a : Int) (b : Int) = ((a ^^^ b : Nat) : Int) := u32_xor_nat a b ha hb
theorem impl_SumMore_l1 (s : ByteArray) (i : Int) (d : Nat) : ∀ (k x : Nat), x < 4294967296 → d ≤ 8 →
    impl_SumMore.l1 (k + d + 1) (x : Int) s i (8 - (d : Int)) = impl_SumMore.l0 k (Math.crcBits d x : Nat) s (wrap64 (i + 1)) := by
  induction d with
  | zero =>
    intro k x hx _
    rw [impl_SumMore.l1]
    rw [if_neg (by omega)]
    rfl
  | succ d ih =>
    intro k x hx hd
    have hw : wrap64 (8 - ((d + 1 : Nat) : Int) + 1) = 8 - (d : Int) := by unfold wrap64; omega
    have e : k + (d + 1) + 1 = (k + d + 1) + 1 := by omega
    rw [e]
    rw [impl_SumMore.l1]
    rw [if_pos (by omega), hw]
    have hm : (Go.bits .and .u32 (x : Int) 1) = ((x % 2 : Nat) : Int) := by have := u32_and_nat x 1 hx (by omega); rw [Nat.and_one_is_mod] at this; exact this
    have hh : ((x : Int) / 2) = ((x / 2 : Nat) : Int) := by omega
    have hxor : Go.bits .xor .u32 ((x / 2 : Nat) : Int) 3558460437 = (((x / 2) ^^^ 3558460437 : Nat) : Int) := u32_xor_nat' (x / 2) 3558460437 (by omega) (by omega)
    rw [hm, hh, hxor]
    by_cases c : x % 2 = 1
    · rw [if_pos (by omega)]
      have := ih k (Math.crcBit x) (Math.crcBit_lt hx) (by omega)
      unfold Math.crcBit at this
      rw [if_pos c] at this
      rw [this]
      simp only [Math.crcBits, Math.crcBit, if_pos c]
    · rw [if_neg (by omega)]
      have := ih k (Math.crcBit x) (Math.crcBit_lt hx) (by omega)
      unfold Math.crcBit at this
      rw [if_neg c] at this
      rw [this]
      simp only [Math.crcBits, Math.crcBit, if_neg c]
theorem impl_SumMore_l0 (s : ByteArray) (hs : s.size ≤ 140737488351232) (d : Nat) : ∀ (k x i : Nat), x < 4294967296 → i + d = s.size →
    impl_SumMore.l0 (k + 10 * d + 1) (x : Int) s (i : Int) = some ((Math.crc x (s.data.toList.drop i) : Nat) : Int) := by
  induction d with
  | zero =>
    intro k x i hx hi
    rw [impl_SumMore.l0]
    rw [if_neg (by omega), List.drop_eq_nil_of_le (by rw [Math.size_data]; omega)]
    rfl
  | succ d ih =>
    intro k x i hx hi
    have e : k + 10 * (d + 1) + 1 = ((k + 10 * d + 1) + 8 + 1) + 1 := by omega
    rw [e]
    rw [impl_SumMore.l0]
    have hlt : i < s.size := by omega
    have hb := (s.data.toList[i]'(by rw [Math.size_data]; exact hlt)).toNat_lt
    rw [if_pos (by omega), if_pos (by omega), Math.bt_nat s i hlt]
    rw [show (((s.data.toList[i]'(by rw [Math.size_data]; exact hlt)).toNat : Int) % 4294967296) = (((s.data.toList[i]'(by rw [Math.size_data]; exact hlt)).toNat : Nat) : Int) from by omega]
    rw [u32_xor_nat' _ _ hx (by omega)]
    have h1 := impl_SumMore_l1 s i 8 (k + 10 * d + 1) (x ^^^ (s.data.toList[i]'(by rw [Math.size_data]; exact hlt)).toNat) (Nat.xor_lt_two_pow (n := 32) (by omega) (by omega)) (by omega)
    rw [show ((8 : Int) - ((8 : Nat) : Int)) = 0 from by omega] at h1
    rw [h1, show wrap64 ((i : Int) + 1) = ((i + 1 : Nat) : Int) from by unfold wrap64; omega]
    have h2 := ih k _ (i + 1) (Math.crcByte_lt (b := (s.data.toList[i]'(by rw [Math.size_data]; exact hlt)).toNat) hx (by omega)) (by omega)
    rw [Math.drop_at s i hlt]
    exact h2
theorem impl_SumMore_ev (s : ByteArray) (hs : s.size ≤ 140737488351232) (x : Nat) (hx : x < 4294967296) : Ev (fun k => impl_SumMore.f k (x : Int) s) ((Math.crc x s.data.toList : Nat) : Int) := by
  refine Ev.of (k := 10 * s.size + 1) (impl_SumMore.mono (x : Int) s) ?_
  have := impl_SumMore_l0 s hs s.size 0 x 0 hx (by omega)
  rw [Nat.zero_add] at this
  exact this
theorem impl_SumOf_ev (s : ByteArray) (hs : s.size ≤ 140737488351232) : Ev (fun k => impl_SumOf.f k s) ((Math.crc 4294967295 s.data.toList : Nat) : Int) := by
  have h := impl_SumMore_ev s hs 4294967295 (by omega)
  exact Ev.bind (f := fun _ t => some t) h (Math.Ev.const rfl)
def unsealS (s : ByteArray) : ByteArray × Bool :=
  if 4 ≤ s.size ∧ s.size ≤ 20004 ∧ Math.crc 4294967295 (s.extract 0 (s.size - 4)).data.toList = Math.fourN s (s.size - 4) then (s.extract 0 (s.size - 4), true) else (⟨#[]⟩, false)
theorem impl_fourAt_is (s : ByteArray) (hs : s.size ≤ 140737488351232) (p : Nat) (h : p + 4 ≤ s.size) : impl_fourAt.f s (p : Int) = some ((Math.fourN s p : Nat) : Int) := by
  unfold impl_fourAt.f
  rw [show wrap64 ((p : Int) + 1) = ((p + 1 : Nat) : Int) from by rw [Math.wrap_in (by omega) (by omega)]; omega, show wrap64 ((p : Int) + 2) = ((p + 2 : Nat) : Int) from by rw [Math.wrap_in (by omega) (by omega)]; omega, show wrap64 ((p : Int) + 3) = ((p + 3 : Nat) : Int) from by rw [Math.wrap_in (by omega) (by omega)]; omega]
  rw [if_pos (by omega), if_pos (by omega), if_pos (by omega), if_pos (by omega), if_pos (by omega), if_pos (by omega), if_pos (by omega), if_pos (by omega)]
  have := Math.four_join _ _ _ _ (Math.bt_lt s (p : Int)) (Math.bt_lt s ((p + 1 : Nat) : Int)) (Math.bt_lt s ((p + 2 : Nat) : Int)) (Math.bt_lt s ((p + 3 : Nat) : Int))
  rw [← Math.bt_cast, ← Math.bt_cast, ← Math.bt_cast, ← Math.bt_cast] at this
  rw [this]
  rfl
theorem impl_Unsealed_ev (s : ByteArray) (hs : s.size ≤ 140737488351232) : Ev (fun k => impl_Unsealed.f k s) (unsealS s) := by
  have hw : wrap64 ((s.size : Int) - 4) = (s.size : Int) - 4 := Math.wrap_in (by omega) (by omega)
  unfold unsealS
  by_cases h4 : 4 ≤ s.size ∧ s.size ≤ 20004
  · obtain ⟨p, hp⟩ : ∃ p, p + 4 = s.size := ⟨s.size - 4, by omega⟩
    have hw2 : wrap64 ((s.size : Int) - 4) = (p : Int) := by rw [hw]; omega
    have hp4 : s.size - 4 = p := by omega
    rw [hp4]
    refine Ev.congr (f := fun k => (impl_SumOf.f k (s.extract 0 p)).bind fun t109 => ((impl_fourAt.f s (p : Int)).bind fun t110 => (if (wrap64 (t109)) = t110 then (some (s.extract 0 p, true)) else (some ((⟨#[]⟩ : ByteArray), false))))) (fun k => ?_) ?_
    · unfold impl_Unsealed.f
      rw [hw2, impl_within_is, Option.bind_some, if_pos (decide_eq_true (by omega)), if_pos (by omega), if_pos (by omega), Int.toNat_natCast]
    · have hx : (s.extract 0 p).size ≤ 140737488351232 := by rw [ByteArray.size_extract]; omega
      refine Ev.bind (f := fun _ t109 => (impl_fourAt.f s (p : Int)).bind fun t110 => (if (wrap64 (t109)) = t110 then (some (s.extract 0 p, true)) else (some ((⟨#[]⟩ : ByteArray), false)))) (impl_SumOf_ev _ hx) (Math.Ev.const ?_)
      have hl := Math.crc_lt (s.extract 0 p).data.toList (x := 4294967295) (by omega)
      rw [impl_fourAt_is s hs p (by omega), Option.bind_some, Math.wrap_in (by omega) (by omega)]
      by_cases c : Math.crc 4294967295 (s.extract 0 p).data.toList = Math.fourN s p
      · rw [if_pos (by omega), if_pos ⟨h4.1, h4.2, c⟩]
      · rw [if_neg (by omega), if_neg (fun e => c e.2.2)]
  · rw [if_neg (fun e => h4 ⟨e.1, e.2.1⟩)]
    refine ⟨0, fun k _ => ?_⟩
    show impl_Unsealed.f k s = _
    unfold impl_Unsealed.f
    rw [hw, impl_within_is, Option.bind_some, if_neg (by rw [decide_eq_false (by omega)]; decide)]
theorem new_l0 (l : List Int) (hl : l.length ≤ 2000000) (d : Nat) : ∀ (i : Nat) (x : Int), i + d = l.length → ∃ h, Ev (fun k => spec_l01New.l0 k l x (i : Int)) (l, 0, h) := by
  induction d with
  | zero =>
    intro i x hi
    refine ⟨x, Ev.step (f := fun _ => some (l, 0, x)) (fun k => ?_) (Math.Ev.const rfl)⟩
    show spec_l01New.l0 (k + 1) l x _ = _
    rw [spec_l01New.l0, if_neg (by omega)]
  | succ d ih =>
    intro i x hi
    by_cases c : (i : Int) < 4000
    · obtain ⟨h, hh⟩ := ih (i + 1) (Go.bits .and .i64 (wrap64 ((wrap64 ((wrap64 (x * 131)) + (wrap64 (rd l (i : Int))))) + 7)) 1073741823) (by omega)
      refine ⟨h, Ev.step (fun k => ?_) hh⟩
      show spec_l01New.l0 (k + 1) l x _ = _
      rw [spec_l01New.l0, if_pos (by omega), if_pos c, if_pos (by omega), show wrap64 ((i : Int) + 1) = ((i + 1 : Nat) : Int) from by rw [Math.wrap_in (by omega) (by omega)]; omega]
    · refine ⟨x, Ev.step (f := fun _ => some (l, 0, x)) (fun k => ?_) (Math.Ev.const rfl)⟩
      show spec_l01New.l0 (k + 1) l x _ = _
      rw [spec_l01New.l0, if_pos (by omega), if_neg c]
theorem new_ev (l : List Int) (hl : l.length ≤ 2000000) : ∃ h, Ev (fun k => spec_l01New.f k l) (l, 0, h) := new_l0 l hl l.length 0 _ (by omega)
def Cur (l : List Int) (i : Int) : Prop := 0 ≤ i ∧ i ≤ l.length ∧ l.length ≤ 2000000
theorem byte_ok {l : List Int} {i : Int} (c : Cur l i) (h : Int) : ∃ x i' h', spec_l01Byte.f l i h = some (x, i', h') ∧ Cur l i' ∧ 0 ≤ x ∧ x ≤ 255 := by
  unfold Cur at c
  unfold spec_l01Byte.f
  by_cases hlt : i < (l.length : Int)
  · rw [if_pos hlt, if_pos c.1]
    refine ⟨_, _, _, rfl, ?_, Math.and255 _⟩
    unfold Cur
    rw [Math.wrap_in (n := i + 1) (by omega) (by omega)]
    omega
  · rw [if_neg hlt]
    exact ⟨_, _, _, rfl, c, Math.and255 _⟩
theorem below_ok {l : List Int} {i : Int} (c : Cur l i) (h : Int) (n : Int) : ∃ x i' h', spec_l01Below.f l i h n = some (x, i', h') ∧ Cur l i' ∧ 0 ≤ x ∧ (0 < n → x < n) ∧ (n ≤ 0 → x = 0) := by
  unfold spec_l01Below.f
  by_cases h0 : n ≤ 0
  · rw [if_pos h0]
    exact ⟨0, i, h, rfl, c, by omega, by omega, fun _ => rfl⟩
  · rw [if_neg h0]
    by_cases h1 : n ≤ 256
    · rw [if_pos h1]
      obtain ⟨x, i1, g1, e1, c1, x0, x1⟩ := byte_ok c h
      rw [e1, Option.bind_some, if_neg (by omega)]
      refine ⟨_, i1, g1, rfl, c1, ?_, fun _ => ?_, fun e => absurd e h0⟩
      · exact Int.tmod_nonneg _ x0
      · exact Int.tmod_lt_of_pos _ (by omega)
    · rw [if_neg h1]
      obtain ⟨x, i1, g1, e1, c1, x0, x1⟩ := byte_ok c h
      obtain ⟨y, i2, g2, e2, c2, y0, y1⟩ := byte_ok c1 g1
      obtain ⟨z, i3, g3, e3, c3, z0, z1⟩ := byte_ok c2 g2
      obtain ⟨u, i4, g4, e4, c4, u0, u1⟩ := byte_ok c3 g3
      rw [e1, Option.bind_some, e2, Option.bind_some, e3, Option.bind_some, e4, Option.bind_some, if_neg (by omega)]
      rw [Math.wrap_in (n := x * 16777216) (by omega) (by omega), Math.wrap_in (n := y * 65536) (by omega) (by omega), Math.wrap_in (n := z * 256) (by omega) (by omega)]
      rw [Math.wrap_in (n := x * 16777216 + y * 65536) (by omega) (by omega)]
      rw [Math.wrap_in (n := x * 16777216 + y * 65536 + z * 256) (by omega) (by omega)]
      rw [Math.wrap_in (n := x * 16777216 + y * 65536 + z * 256 + u) (by omega) (by omega)]
      refine ⟨_, i4, g4, rfl, c4, ?_, fun _ => ?_, fun e => absurd e h0⟩
      · exact Int.tmod_nonneg _ (by omega)
      · exact Int.tmod_lt_of_pos _ (by omega)
theorem cur0 {l : List Int} (hl : l.length ≤ 2000000) : Cur l 0 := ⟨by omega, by omega, hl⟩
theorem text_l0 {l : List Int} (n d : Nat) (hn : n ≤ 5000) : ∀ (j : Nat) (acc : List Int) (i h : Int), j + d = n → acc.length ≤ j → Cur l i → ∃ s i' h', Ev (fun k => spec_l01Text.l0 k (n : Int) acc (j : Int) l i h) (s, i', h') ∧ Cur l i' ∧ s.size = acc.length + d := by
  induction d with
  | zero =>
    intro j acc i h hj ha c
    refine ⟨strOfNums acc, i, h, Ev.step (f := fun _ => some (strOfNums acc, i, h)) (fun k => ?_) (Math.Ev.const rfl), c, by rw [strOfNums_size]; omega⟩
    show spec_l01Text.l0 (k + 1) _ acc _ l i h = _
    rw [spec_l01Text.l0, if_neg (by omega)]
  | succ d ih =>
    intro j acc i h hj ha c
    obtain ⟨x, i1, g1, e1, c1, x0, x1⟩ := byte_ok c h
    obtain ⟨s, i', h', hs, c', hz⟩ := ih (j + 1) (acc ++ [x % 256]) i1 g1 (by omega) (by rw [List.length_append, List.length_singleton]; omega) c1
    rw [List.length_append, List.length_singleton] at hz
    refine ⟨s, i', h', Ev.step (fun k => ?_) hs, c', by omega⟩
    show spec_l01Text.l0 (k + 1) _ acc _ l i h = _
    rw [spec_l01Text.l0, if_pos (by omega), e1, Option.bind_some, if_pos (by omega), show wrap64 ((j : Int) + 1) = ((j + 1 : Nat) : Int) from by rw [Math.wrap_in (by omega) (by omega)]; omega]
theorem text_ok {l : List Int} {i : Int} (c : Cur l i) (h : Int) (n : Nat) (hn : n ≤ 5000) : ∃ s i' h', Ev (fun k => spec_l01Text.f k l i h (n : Int)) (s, i', h') ∧ Cur l i' ∧ s.size = n := by
  obtain ⟨s, i', h', hs, c', hz⟩ := text_l0 n n hn 0 [] i h (by omega) (by simp) c
  have e : Ev (fun k => spec_l01Text.j0 k (n : Int) l i h) (s, i', h') := Ev.step (f := fun k => spec_l01Text.l0 k (n : Int) [] ((0 : Nat) : Int) l i h) (fun k => rfl) hs
  exact ⟨s, i', h', Ev.congr (fun k => by unfold spec_l01Text.f; rw [if_neg (by omega)]) e, c', by simpa using hz⟩
theorem places_l0 {l : List Int} (d : Nat) : ∀ (j : Nat) (acc : List Int) (i h : Int), j + d = 12 → acc.length = j → (∀ x ∈ acc, 0 ≤ x ∧ x < 10000) → Cur l i → ∃ s, Ev (fun k => spec_DrawPlaces.l0 k acc (j : Int) l i h) s ∧ s.length = 12 ∧ (∀ x ∈ s, 0 ≤ x ∧ x < 10000) := by
  induction d with
  | zero =>
    intro j acc i h hj ha hm c
    refine ⟨acc, Ev.step (f := fun _ => some acc) (fun k => ?_) (Math.Ev.const rfl), by omega, hm⟩
    show spec_DrawPlaces.l0 (k + 1) acc _ l i h = _
    rw [spec_DrawPlaces.l0, if_neg (by omega)]
  | succ d ih =>
    intro j acc i h hj ha hm c
    obtain ⟨x, i1, g1, e1, c1, x0, x1, _⟩ := below_ok c h 10000
    have hx1 := x1 (by omega)
    obtain ⟨s, hs, hz, hsm⟩ := ih (j + 1) (acc ++ [x]) i1 g1 (by omega) (by rw [List.length_append, List.length_singleton]; omega) (by
      intro y hy
      rcases List.mem_append.1 hy with hy | hy
      · exact hm y hy
      · rw [List.mem_singleton.1 hy]
        exact ⟨x0, hx1⟩) c1
    refine ⟨s, Ev.step (fun k => ?_) hs, hz, hsm⟩
    show spec_DrawPlaces.l0 (k + 1) acc _ l i h = _
    rw [spec_DrawPlaces.l0, if_pos (by omega), e1, Option.bind_some, if_pos (by omega), show wrap64 ((j : Int) + 1) = ((j + 1 : Nat) : Int) from by rw [Math.wrap_in (by omega) (by omega)]; omega]
theorem places_ok (l : List Int) (hl : l.length ≤ 2000000) : ∃ s, Ev (fun k => spec_DrawPlaces.f k l) s ∧ s.length = 12 ∧ (∀ x ∈ s, 0 ≤ x ∧ x < 10000) := by
  obtain ⟨h, hn⟩ := new_ev l hl
  obtain ⟨x, i1, g1, e1, c1, _, _⟩ := byte_ok (cur0 hl) h
  obtain ⟨s, hs, hz, hm⟩ := places_l0 12 0 [] i1 g1 (by omega) rfl (by intro x hx; cases hx) c1
  refine ⟨s, ?_, hz, hm⟩
  unfold spec_DrawPlaces.f
  refine Ev.bind hn ?_
  refine Ev.congr (fun k => ?_) hs
  dsimp only
  rw [e1, Option.bind_some]
  rfl
theorem rd_mem {s : List Int} (hz : s.length = 12) (hm : ∀ x ∈ s, 0 ≤ x ∧ x < 10000) (j : Nat) (hj : j < 12) : 0 ≤ rd s (j : Int) ∧ rd s (j : Int) < 10000 := by
  unfold rd
  rw [Int.toNat_natCast, List.getD_eq_getElem?_getD, List.getElem?_eq_getElem (by omega)]
  exact hm _ (List.getElem_mem _)
theorem bytesI_map (s : ByteArray) : (bytesI s).map (fun n => UInt8.ofNat n.toNat) = s.data.toList := by
  unfold bytesI
  rw [List.map_map]
  conv => rhs; rw [← List.map_id s.data.toList]
  apply List.map_congr_left
  intro b _
  simp
theorem turnS_data (s : ByteArray) (i m : Nat) (hm : m < 255) : (turnS s i m).data.toList = s.data.toList.set i (UInt8.ofNat ((s.data.toList.getD i 0).toNat ^^^ (1 + m))) := by
  unfold turnS
  rw [strOfNums_data, List.map_set, bytesI_map]
  have hb := (s.data.toList.getD i 0).toNat_lt
  generalize (s.data.toList.getD i 0).toNat = u at hb ⊢
  rw [show 1 + ((m : Nat) : Int) = ((1 + m : Nat) : Int) by omega, u8_xor_nat u (1 + m) (by omega) (by omega), Int.toNat_natCast]
theorem turnS_size (s : ByteArray) (i m : Nat) (hm : m < 255) : (turnS s i m).size = s.size := by
  rw [← Math.size_data, turnS_data s i m hm, List.length_set, Math.size_data]
theorem xor_ne (u m : Nat) (hu : u < 256) (hm : m < 255) : UInt8.ofNat (u ^^^ (1 + m)) ≠ UInt8.ofNat u := by
  intro h
  have hx : u ^^^ (1 + m) < 256 := Nat.xor_lt_two_pow (n := 8) (by omega) (by omega)
  have h1 := Math.ofNat_inj hx hu h
  have h2 : u ^^^ (u ^^^ (1 + m)) = u ^^^ u := by rw [h1]
  rw [← Nat.xor_assoc, Nat.xor_self, Nat.zero_xor] at h2
  omega
theorem turnS_ne (s : ByteArray) (i m : Nat) (hi : i < s.size) (hm : m < 255) : turnS s i m ≠ s := by
  intro h
  have h1 := congrArg (fun t : ByteArray => t.data.toList[i]?) h
  simp only [turnS_data s i m hm] at h1
  have hl : i < s.data.toList.length := by rw [Math.size_data]; exact hi
  rw [List.getElem?_set_self hl, List.getElem?_eq_getElem hl, List.getD_eq_getElem?_getD, List.getElem?_eq_getElem hl, Option.getD_some] at h1
  have h2 := Option.some.inj h1
  refine xor_ne (s.data.toList[i]).toNat m (s.data.toList[i]).toNat_lt hm (h2.trans ?_)
  exact UInt8.ofNat_toNat.symm
theorem drawSumOf_ev {l : List Int} (hl : l.length ≤ 2000000) : ∃ t, Ev (fun k => spec_DrawSumOf.f k l) t ∧ t.size ≤ 40 := by
  obtain ⟨h, hn⟩ := new_ev l hl
  obtain ⟨n, i1, g1, e1, c1, n0, n1, _⟩ := below_ok (cur0 hl) h 40
  have hn1 := n1 (by omega)
  obtain ⟨m, rfl⟩ := Int.eq_ofNat_of_zero_le n0
  obtain ⟨s, i2, g2, hs, c2, hz⟩ := text_ok c1 g1 m (by omega)
  refine ⟨s, Ev.congr (fun k => by unfold spec_DrawSumOf.f; rfl) (Ev.bind (f := fun k (bt129 : List Int × Int × Int) => ((spec_l01Below.f bt129.1 bt129.2.1 bt129.2.2 40).bind fun bt133 => ((spec_l01Text.f k bt129.1 bt133.2.1 bt133.2.2 bt133.1).bind fun bt136 => (some bt136.1)))) hn ?_), by omega⟩
  refine Ev.congr (fun k => ?_) (Ev.bind (f := fun _ (b : ByteArray × Int × Int) => some b.1) hs (Math.Ev.const rfl))
  dsimp only
  rw [e1, Option.bind_some]
theorem crcBit_inj {x y : Nat} (hx : x < 4294967296) (hy : y < 4294967296) (h : Math.crcBit x = Math.crcBit y) : x = y := by
  unfold Math.crcBit at h
  have mix : ∀ a b : Nat, a < 2147483648 → b < 2147483648 → a ^^^ 3558460437 ≠ b := by
    intro a b ha hb e
    have h1 : a ^^^ (a ^^^ 3558460437) = a ^^^ b := by rw [e]
    rw [← Nat.xor_assoc, Nat.xor_self, Nat.zero_xor] at h1
    have h2 : a ^^^ b < 2 ^ 31 := Nat.xor_lt_two_pow (by omega) (by omega)
    omega
  by_cases cx : x % 2 = 1
  · rw [if_pos cx] at h
    by_cases cy : y % 2 = 1
    · rw [if_pos cy] at h
      have h1 : (x / 2 ^^^ 3558460437) ^^^ 3558460437 = (y / 2 ^^^ 3558460437) ^^^ 3558460437 := by rw [h]
      rw [Nat.xor_assoc, Nat.xor_assoc, Nat.xor_self, Nat.xor_zero, Nat.xor_zero] at h1
      omega
    · rw [if_neg cy] at h
      exact absurd h (mix _ _ (by omega) (by omega))
  · rw [if_neg cx] at h
    by_cases cy : y % 2 = 1
    · rw [if_pos cy] at h
      exact absurd h.symm (mix _ _ (by omega) (by omega))
    · rw [if_neg cy] at h
      omega
theorem crcBits_inj (d : Nat) : ∀ {x y : Nat}, x < 4294967296 → y < 4294967296 → Math.crcBits d x = Math.crcBits d y → x = y := by
  induction d with
  | zero => intro x y _ _ h; exact h
  | succ d ih => intro x y hx hy h; exact crcBit_inj hx hy (ih (Math.crcBit_lt hx) (Math.crcBit_lt hy) h)
theorem crcByte_inj {x y b : Nat} (hx : x < 4294967296) (hy : y < 4294967296) (hb : b < 4294967296) (h : Math.crcByte x b = Math.crcByte y b) : x = y := by
  have h1 := crcBits_inj 8 (Nat.xor_lt_two_pow (n := 32) hx hb) (Nat.xor_lt_two_pow (n := 32) hy hb) h
  have h2 : (x ^^^ b) ^^^ b = (y ^^^ b) ^^^ b := by rw [h1]
  rw [Nat.xor_assoc, Nat.xor_assoc, Nat.xor_self, Nat.xor_zero, Nat.xor_zero] at h2
  exact h2
theorem crcByte_inj2 {x b c : Nat} (hx : x < 4294967296) (hb : b < 4294967296) (hc : c < 4294967296) (h : Math.crcByte x b = Math.crcByte x c) : b = c := by
  have h1 := crcBits_inj 8 (Nat.xor_lt_two_pow (n := 32) hx hb) (Nat.xor_lt_two_pow (n := 32) hx hc) h
  have h2 : x ^^^ (x ^^^ b) = x ^^^ (x ^^^ c) := by rw [h1]
  rw [← Nat.xor_assoc, ← Nat.xor_assoc, Nat.xor_self, Nat.zero_xor, Nat.zero_xor] at h2
  exact h2
theorem u8_lt (b : UInt8) : b.toNat < 4294967296 := by have := b.toNat_lt; omega
theorem crc_inj (l : List UInt8) : ∀ {x y : Nat}, x < 4294967296 → y < 4294967296 → Math.crc x l = Math.crc y l → x = y := by
  induction l with
  | nil => intro x y _ _ h; exact h
  | cons b l ih =>
    intro x y hx hy h
    exact crcByte_inj hx hy (u8_lt b) (ih (Math.crcByte_lt hx (u8_lt b)) (Math.crcByte_lt hy (u8_lt b)) h)
theorem crc_set (l : List UInt8) : ∀ {x : Nat} (i : Nat) (b : UInt8), x < 4294967296 → (hi : i < l.length) → Math.crc x (l.set i b) = Math.crc x l → b = l[i] := by
  induction l with
  | nil => intro x i b _ hi _; exact absurd hi (by simp)
  | cons c l ih =>
    intro x i b hx hi h
    cases i with
    | zero =>
      rw [List.set_cons_zero] at h
      have h1 : Math.crcByte x b.toNat = Math.crcByte x c.toNat := crc_inj l (Math.crcByte_lt hx (u8_lt b)) (Math.crcByte_lt hx (u8_lt c)) h
      have h2 := crcByte_inj2 hx (u8_lt b) (u8_lt c) h1
      exact UInt8.toNat_inj.1 h2
    | succ i =>
      rw [List.set_cons_succ] at h
      exact ih i b (Math.crcByte_lt hx (u8_lt c)) (by simpa using hi) h
theorem ext_list (s : ByteArray) (a b : Nat) : (s.extract a b).data.toList = (s.data.toList.drop a).take (b - a) := by
  simp [ByteArray.data_extract]
theorem fourS_size (x : Int) : (Math.fourS x).size = 4 := by unfold Math.fourS; rw [strOfNums_size]; rfl
theorem ext_all (s : ByteArray) : s.extract 0 s.size = s := by
  apply Math.str_eq.1
  rw [Lib.toList_data, Lib.toList_data, ext_list, List.drop_zero]
  exact List.take_of_length_le (by rw [Math.size_data]; omega)
theorem fourS_inj {x y : Nat} (hx : x < 4294967296) (hy : y < 4294967296) (h : Math.fourS (x : Int) = Math.fourS (y : Int)) : x = y := by
  have hz := fourS_size (x : Int)
  have e1 := (Math.four_eq (Math.fourS (x : Int)) 0 (by omega) x hx).1 (ext_all _)
  have e2 := (Math.four_eq (Math.fourS (x : Int)) 0 (by omega) y hy).1 ((ext_all _).trans h)
  omega
def sealT (s : ByteArray) : ByteArray := s ++ Math.fourS ((Math.crc 4294967295 s.data.toList : Nat) : Int)
theorem sealT_size (s : ByteArray) : (sealT s).size = s.size + 4 := by unfold sealT; rw [Math.size_append, fourS_size]
theorem sealT_take (s : ByteArray) : (sealT s).data.toList.take s.size = s.data.toList := by
  unfold sealT
  rw [ByteArray.data_append, Array.toList_append, List.take_left' (Math.size_data s)]
theorem sealT_begins (s : ByteArray) : (sealT s).extract 0 s.size = s := by
  apply Math.str_eq.1
  rw [Lib.toList_data, Lib.toList_data, ext_list, List.drop_zero, Nat.sub_zero, sealT_take]
theorem sealT_ends (s : ByteArray) : (sealT s).extract s.size (sealT s).size = Math.fourS ((Math.crc 4294967295 s.data.toList : Nat) : Int) := by
  apply Math.str_eq.1
  rw [Lib.toList_data, Lib.toList_data, ext_list]
  unfold sealT
  rw [ByteArray.data_append, Array.toList_append, List.drop_left' (Math.size_data s)]
  exact List.take_of_length_le (by rw [Math.size_data, Math.size_append]; omega)
theorem sealed_ev (s : ByteArray) (hs : s.size ≤ 20000) : Ev (fun k => impl_Sealed.f k s) (sealT s, true) := by
  have hl := Math.crc_lt s.data.toList (x := 4294967295) (by omega)
  refine Ev.congr (fun k => by unfold impl_Sealed.f; rw [if_neg (by omega)]) (Ev.bind (f := fun _ (t159 : Int) => ((impl_four.f (wrap64 (t159))).bind fun t160 => (if s.size + t160.size ≤ 9223372036854775807 then (some (s ++ t160, true)) else (none)))) (impl_SumOf_ev s (by omega)) (Math.Ev.const ?_))
  rw [Math.wrap_in (by omega) (by omega), show impl_four.f ((Math.crc 4294967295 s.data.toList : Nat) : Int) = some (Math.fourS ((Math.crc 4294967295 s.data.toList : Nat) : Int)) from rfl, Option.bind_some, if_pos (by rw [fourS_size]; omega)]
  rfl
theorem unseal_sealed (s : ByteArray) (hs : s.size ≤ 20000) : unsealS (sealT s) = (s, true) := by
  have hl := Math.crc_lt s.data.toList (x := 4294967295) (by omega)
  have hz := sealT_size s
  unfold unsealS
  rw [show (sealT s).size - 4 = s.size by omega, sealT_begins]
  rw [if_pos ⟨by omega, by omega, (Math.four_eq (sealT s) s.size (by omega) _ hl).1 (sealT_ends s)⟩]
theorem unseal_turned (s : ByteArray) (hs : s.size ≤ 20000) (i m : Nat) (hi : i < (sealT s).size) (hm : m < 255) : unsealS (turnS (sealT s) i m) = ((⟨#[]⟩ : ByteArray), false) := by
  have hz := sealT_size s
  have hne := turnS_ne (sealT s) i m hi hm
  have hd := turnS_data (sealT s) i m hm
  have hT := turnS_size (sealT s) i m hm
  have hb := xor_ne ((sealT s).data.toList.getD i 0).toNat m ((sealT s).data.toList.getD i 0).toNat_lt hm
  rw [UInt8.ofNat_toNat] at hb
  generalize UInt8.ofNat (((sealT s).data.toList.getD i 0).toNat ^^^ (1 + m)) = b at hd hb
  generalize turnS (sealT s) i m = T at hne hd hT ⊢
  unfold unsealS
  rw [if_neg]
  rintro ⟨_, _, e⟩
  rw [show T.size - 4 = s.size by omega] at e
  have hlT := Math.crc_lt (T.extract 0 s.size).data.toList (x := 4294967295) (by omega)
  have hls := Math.crc_lt s.data.toList (x := 4294967295) (by omega)
  have e1 := (Math.four_eq T s.size (by omega) _ hlT).2 e
  have hpre : (T.extract 0 s.size).data.toList = ((sealT s).data.toList.set i b).take s.size := by rw [ext_list, List.drop_zero, Nat.sub_zero, hd]
  have hsuf : (T.extract s.size T.size).data.toList = ((sealT s).data.toList.set i b).drop s.size := by
    rw [ext_list, hd]
    exact List.take_of_length_le (by rw [List.length_drop, List.length_set, Math.size_data]; omega)
  have hends : (Math.fourS ((Math.crc 4294967295 s.data.toList : Nat) : Int)).data.toList = (sealT s).data.toList.drop s.size := by
    rw [← sealT_ends s, ext_list]
    exact List.take_of_length_le (by rw [List.length_drop, Math.size_data]; omega)
  have hlen : (sealT s).data.toList.length = s.size + 4 := by rw [Math.size_data, hz]
  by_cases c : i < s.size
  · have h1 : (T.extract s.size T.size).data.toList = (Math.fourS ((Math.crc 4294967295 s.data.toList : Nat) : Int)).data.toList := by
      rw [hsuf, hends, List.drop_set_of_lt c]
    have h2 : T.extract s.size T.size = Math.fourS ((Math.crc 4294967295 s.data.toList : Nat) : Int) := Math.str_eq.1 (by rw [Lib.toList_data, Lib.toList_data]; exact h1)
    have h3 := fourS_inj hlT hls (e1.symm.trans h2)
    rw [hpre, List.take_set, sealT_take] at h3
    have hi2 : i < s.data.toList.length := by rw [Math.size_data]; exact c
    have h4 := crc_set s.data.toList i b (by omega) hi2 h3
    apply hb
    rw [h4]
    have h5 : (sealT s).data.toList[i]? = s.data.toList[i]? := by rw [← sealT_take s, List.getElem?_take_of_lt c]
    rw [List.getD_eq_getElem?_getD, h5, List.getElem?_eq_getElem hi2]
    rfl
  · have h1 : (T.extract 0 s.size).data.toList = s.data.toList := by rw [hpre, List.take_set_of_le (by omega), sealT_take]
    rw [h1] at e1
    have h2 : (T.extract s.size T.size).data.toList = (sealT s).data.toList.drop s.size := by rw [e1, hends]
    apply hne
    apply Math.str_eq.1
    rw [Lib.toList_data, Lib.toList_data, ← List.take_append_drop s.size T.data.toList, ← List.take_append_drop s.size (sealT s).data.toList, sealT_take, ← h2, ← h1, ext_list, ext_list, List.drop_zero, Nat.sub_zero]
    rw [List.take_of_length_le (l := T.data.toList.drop s.size) (by rw [List.length_drop, Math.size_data]; exact Nat.le_refl _)]
theorem FnTurned : laws_FnTurned.Pure := by
  intro l _ _ _
  by_cases hb : (l.length : Int) > 1048576
  · refine ⟨0, ?_⟩
    unfold laws_FnTurned.f laws_big.f
    rw [Option.bind_some, if_pos (decide_eq_true hb)]
  · obtain ⟨s, ⟨K1, hK1⟩, hs⟩ := drawSumOf_ev (l := l) (by omega)
    obtain ⟨p, ⟨K2, hK2⟩, hp, hm⟩ := places_ok l (by omega)
    have q0 : 0 ≤ rd p 0 ∧ rd p 0 < 10000 := rd_mem hp hm 0 (by omega)
    have q1 : 0 ≤ rd p 1 ∧ rd p 1 < 10000 := rd_mem hp hm 1 (by omega)
    have hz := sealT_size s
    obtain ⟨K3, hK3⟩ := sealed_ev s (by omega)
    obtain ⟨K4, hK4⟩ := impl_Unsealed_ev (sealT s) (by omega)
    rw [unseal_sealed s (by omega)] at hK4
    have hm1 : (rd p 1).toNat % 255 < 255 := Nat.mod_lt _ (by decide)
    have hi1 : (rd p 0).toNat % (sealT s).size < (sealT s).size := Nat.mod_lt _ (by omega)
    obtain ⟨K5, hK5⟩ := impl_Unsealed_ev (turnS (sealT s) ((rd p 0).toNat % (sealT s).size) ((rd p 1).toNat % 255)) (by rw [turnS_size _ _ _ hm1]; omega)
    rw [unseal_turned s (by omega) _ _ hi1 hm1] at hK5
    have hok : turnOk (sealT s) p = true := by unfold turnOk; exact decide_eq_true ⟨by omega, by omega, by omega, q0.1, by have := q0.2; omega, q1.1, by have := q1.2; omega⟩
    obtain ⟨K6, hK6⟩ := impl_SumOf_ev s (by omega)
    have hl := Math.crc_lt s.data.toList (x := 4294967295) (by omega)
    obtain ⟨K7, hK7⟩ := impl_SumMore_ev (⟨#[120]⟩ : ByteArray) (by decide) _ hl
    obtain ⟨K8, hK8⟩ := impl_SumOf_ev (s ++ (⟨#[120]⟩ : ByteArray)) (by rw [Math.size_append]; show s.size + 1 ≤ _; omega)
    rw [ByteArray.data_append, Array.toList_append, Math.crc_append] at hK8
    obtain ⟨k, hk⟩ : ∃ k, k = K1 + K2 + K3 + K4 + K5 + K6 + K7 + K8 := ⟨_, rfl⟩
    have k1 : spec_DrawSumOf.f k l = some s := hK1 k (by omega)
    have k2 : spec_DrawPlaces.f k l = some p := hK2 k (by omega)
    have k3 : impl_Sealed.f k s = some (sealT s, true) := hK3 k (by omega)
    have k4 := hK4 k (by omega)
    have k5 := hK5 k (by omega)
    have k6 := hK6 k (by omega)
    have k7 := hK7 k (by omega)
    have k8 := hK8 k (by omega)
    dsimp only at k4 k5 k6 k7 k8
    refine ⟨k, ?_⟩
    unfold laws_FnTurned.f laws_big.f
    rw [Option.bind_some, if_neg (by rw [decide_eq_false hb]; decide), k1, Option.bind_some, k2, Option.bind_some, k3, Option.bind_some]
    dsimp only
    rw [k4, Option.bind_some, if_pos ⟨rfl, rfl, hz, hok⟩, k5, Option.bind_some, k6, Option.bind_some, k7, Option.bind_some, k8, Option.bind_some, if_pos ⟨rfl, rfl⟩]
end Go.Proofs.Ytppjbaogabicdaa.Pure
