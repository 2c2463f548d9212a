/- Numbers of a description: what is written is read, by both readers; what the strict reader reads was written so. No condition. -/
import Derived.Test.YtngmkpediibhjaaPFnExactDecodeDescx8
import Derived.Test.YtngmkpediibhjaaKitVDd
namespace Go.Proofs.Ytngmkpediibhjaa.Pure
open Go.RowKit Go.Proofs.Ytngmkpediibhjaa.PFnExactDecodeDesc Go.Proofs.Ytngmkpediibhjaa.Kit Go.Proofs.YtngmkpediibhjaaW.PrintWords Go.Proofs.YtngmkpediibhjaaW.PrintLast Go.Proofs.YtngmkpediibhjaaW.PrintMore
set_option linter.unusedVariables false
set_option linter.unusedSimpArgs false

theorem u64_mod (x : Int) : IntKind.u64.wrap x = x % 18446744073709551616 := IntKind.wrap_u64 x
theorem or_add (x y : Int) (i : Nat) (hi : i ≤ 64) (hx0 : 0 ≤ x) (hx : x < 2 ^ i) (hx1 : x < 18446744073709551616) (hy0 : 0 ≤ y) (hy : y % 2 ^ i = 0) (hy1 : y < 18446744073709551616) : Go.bits .or .u64 x y = x + y := by
  rw [u64_or x y hx0 hx1 hy0 hy1, Nat.or_comm, ← u64_or y x hy0 hy1 hx0 hx1, bits_join .u64 64 (by decide) (fun n h0 h1 => by rw [IntKind.wrap_u64]; exact Int.emod_eq_of_lt h0 h1) i y x hy0 hy hy1 hx0 hx hx1, Int.add_comm]
theorem and127 (c : Int) (h0 : 0 ≤ c) (h1 : c < 256) : Go.bits .and .u8 c 127 = c % 128 := bits_mask .u8 8 (by decide) wraps_u8 7 (by decide) c h0 h1
theorem drop_cons {b : List Int} {i : Nat} {c : Int} {r : List Int} (h : b.drop i = c :: r) : i < b.length ∧ rd b (i : Int) = c ∧ b.drop (i + 1) = r := by
  have hlt : i < b.length := by
    rcases Nat.lt_or_ge i b.length with h2 | h2
    · exact h2
    · rw [List.drop_of_length_le h2] at h; cases h
  rw [List.drop_eq_getElem_cons hlt] at h
  injection h with h1 h2
  exact ⟨hlt, by rw [rd_nat b i hlt]; exact h1, h2⟩
theorem cons_drop {b : List Int} {i : Nat} (h : i < b.length) : b.drop i = rd b (i : Int) :: b.drop (i + 1) := drop_rd b i h
/-- A number, seven bits a byte, the lowest first. -/
def nl : Nat → Int → List Int
  | 0, x => [x]
  | m + 1, x => if 128 ≤ x then (x % 128 + 128) :: nl m (x / 128) else [x]
theorem nl_len : ∀ m x, (nl m x).length ≤ m + 1 := by
  intro m
  induction m with
  | zero => intro x; simp [nl]
  | succ m ih =>
    intro x
    rw [nl]
    split
    · have := ih (x / 128); rw [List.length_cons]; omega
    · simp
theorem iOr_0 (x c : Int) (hx0 : 0 ≤ x) (hx : x < 1) (h0 : 0 ≤ c) (h1 : c < 256) : iOr x c 0 = x + c % 128 * 1 := by
  unfold iOr shl
  rw [and127 c h0 h1, u64_mod (c % 128), show c % 128 % 18446744073709551616 = c % 128 from by omega, show (2 : Int) ^ min (Int.toNat 0) IntKind.u64.bits = 1 from rfl, u64_mod, show c % 128 * 1 % 18446744073709551616 = c % 128 * 1 from by omega]
  exact or_add x _ 0 (by decide) hx0 (show x < (1 : Int) from hx) (by omega) (by omega) (show c % 128 * 1 % (1 : Int) = 0 from by omega) (by omega)
theorem iOr_7 (x c : Int) (hx0 : 0 ≤ x) (hx : x < 128) (h0 : 0 ≤ c) (h1 : c < 256) : iOr x c 7 = x + c % 128 * 128 := by
  unfold iOr shl
  rw [and127 c h0 h1, u64_mod (c % 128), show c % 128 % 18446744073709551616 = c % 128 from by omega, show (2 : Int) ^ min (Int.toNat 7) IntKind.u64.bits = 128 from rfl, u64_mod, show c % 128 * 128 % 18446744073709551616 = c % 128 * 128 from by omega]
  exact or_add x _ 7 (by decide) hx0 (show x < (128 : Int) from hx) (by omega) (by omega) (show c % 128 * 128 % (128 : Int) = 0 from by omega) (by omega)
theorem iOr_14 (x c : Int) (hx0 : 0 ≤ x) (hx : x < 16384) (h0 : 0 ≤ c) (h1 : c < 256) : iOr x c 14 = x + c % 128 * 16384 := by
  unfold iOr shl
  rw [and127 c h0 h1, u64_mod (c % 128), show c % 128 % 18446744073709551616 = c % 128 from by omega, show (2 : Int) ^ min (Int.toNat 14) IntKind.u64.bits = 16384 from rfl, u64_mod, show c % 128 * 16384 % 18446744073709551616 = c % 128 * 16384 from by omega]
  exact or_add x _ 14 (by decide) hx0 (show x < (16384 : Int) from hx) (by omega) (by omega) (show c % 128 * 16384 % (16384 : Int) = 0 from by omega) (by omega)
theorem iOr_21 (x c : Int) (hx0 : 0 ≤ x) (hx : x < 2097152) (h0 : 0 ≤ c) (h1 : c < 256) : iOr x c 21 = x + c % 128 * 2097152 := by
  unfold iOr shl
  rw [and127 c h0 h1, u64_mod (c % 128), show c % 128 % 18446744073709551616 = c % 128 from by omega, show (2 : Int) ^ min (Int.toNat 21) IntKind.u64.bits = 2097152 from rfl, u64_mod, show c % 128 * 2097152 % 18446744073709551616 = c % 128 * 2097152 from by omega]
  exact or_add x _ 21 (by decide) hx0 (show x < (2097152 : Int) from hx) (by omega) (by omega) (show c % 128 * 2097152 % (2097152 : Int) = 0 from by omega) (by omega)
theorem iOr_28 (x c : Int) (hx0 : 0 ≤ x) (hx : x < 268435456) (h0 : 0 ≤ c) (h1 : c < 256) : iOr x c 28 = x + c % 128 * 268435456 := by
  unfold iOr shl
  rw [and127 c h0 h1, u64_mod (c % 128), show c % 128 % 18446744073709551616 = c % 128 from by omega, show (2 : Int) ^ min (Int.toNat 28) IntKind.u64.bits = 268435456 from rfl, u64_mod, show c % 128 * 268435456 % 18446744073709551616 = c % 128 * 268435456 from by omega]
  exact or_add x _ 28 (by decide) hx0 (show x < (268435456 : Int) from hx) (by omega) (by omega) (show c % 128 * 268435456 % (268435456 : Int) = 0 from by omega) (by omega)
theorem iOr_35 (x c : Int) (hx0 : 0 ≤ x) (hx : x < 34359738368) (h0 : 0 ≤ c) (h1 : c < 256) : iOr x c 35 = x + c % 128 * 34359738368 := by
  unfold iOr shl
  rw [and127 c h0 h1, u64_mod (c % 128), show c % 128 % 18446744073709551616 = c % 128 from by omega, show (2 : Int) ^ min (Int.toNat 35) IntKind.u64.bits = 34359738368 from rfl, u64_mod, show c % 128 * 34359738368 % 18446744073709551616 = c % 128 * 34359738368 from by omega]
  exact or_add x _ 35 (by decide) hx0 (show x < (34359738368 : Int) from hx) (by omega) (by omega) (show c % 128 * 34359738368 % (34359738368 : Int) = 0 from by omega) (by omega)
theorem iOr_42 (x c : Int) (hx0 : 0 ≤ x) (hx : x < 4398046511104) (h0 : 0 ≤ c) (h1 : c < 256) : iOr x c 42 = x + c % 128 * 4398046511104 := by
  unfold iOr shl
  rw [and127 c h0 h1, u64_mod (c % 128), show c % 128 % 18446744073709551616 = c % 128 from by omega, show (2 : Int) ^ min (Int.toNat 42) IntKind.u64.bits = 4398046511104 from rfl, u64_mod, show c % 128 * 4398046511104 % 18446744073709551616 = c % 128 * 4398046511104 from by omega]
  exact or_add x _ 42 (by decide) hx0 (show x < (4398046511104 : Int) from hx) (by omega) (by omega) (show c % 128 * 4398046511104 % (4398046511104 : Int) = 0 from by omega) (by omega)
theorem iOr_49 (x c : Int) (hx0 : 0 ≤ x) (hx : x < 562949953421312) (h0 : 0 ≤ c) (h1 : c < 256) : iOr x c 49 = x + c % 128 * 562949953421312 := by
  unfold iOr shl
  rw [and127 c h0 h1, u64_mod (c % 128), show c % 128 % 18446744073709551616 = c % 128 from by omega, show (2 : Int) ^ min (Int.toNat 49) IntKind.u64.bits = 562949953421312 from rfl, u64_mod, show c % 128 * 562949953421312 % 18446744073709551616 = c % 128 * 562949953421312 from by omega]
  exact or_add x _ 49 (by decide) hx0 (show x < (562949953421312 : Int) from hx) (by omega) (by omega) (show c % 128 * 562949953421312 % (562949953421312 : Int) = 0 from by omega) (by omega)
theorem iOr_56 (x c : Int) (hx0 : 0 ≤ x) (hx : x < 72057594037927936) (h0 : 0 ≤ c) (h1 : c < 256) : iOr x c 56 = x + c % 128 * 72057594037927936 := by
  unfold iOr shl
  rw [and127 c h0 h1, u64_mod (c % 128), show c % 128 % 18446744073709551616 = c % 128 from by omega, show (2 : Int) ^ min (Int.toNat 56) IntKind.u64.bits = 72057594037927936 from rfl, u64_mod, show c % 128 * 72057594037927936 % 18446744073709551616 = c % 128 * 72057594037927936 from by omega]
  exact or_add x _ 56 (by decide) hx0 (show x < (72057594037927936 : Int) from hx) (by omega) (by omega) (show c % 128 * 72057594037927936 % (72057594037927936 : Int) = 0 from by omega) (by omega)
theorem iOr_63 (x c : Int) (hx0 : 0 ≤ x) (hx : x < 9223372036854775808) (h0 : 0 ≤ c) (h1 : c < 256) (h2 : c ≤ 1) : iOr x c 63 = x + c % 128 * 9223372036854775808 := by
  unfold iOr shl
  rw [and127 c h0 h1, u64_mod (c % 128), show c % 128 % 18446744073709551616 = c % 128 from by omega, show (2 : Int) ^ min (Int.toNat 63) IntKind.u64.bits = 9223372036854775808 from rfl, u64_mod, show c % 128 * 9223372036854775808 % 18446744073709551616 = c % 128 * 9223372036854775808 from by omega]
  exact or_add x _ 63 (by decide) hx0 (show x < (9223372036854775808 : Int) from hx) (by omega) (by omega) (show c % 128 * 9223372036854775808 % (9223372036854775808 : Int) = 0 from by omega) (by omega)
theorem n2_63 (b : List Int) (i : Nat) (x u : Int) (rest : List Int) (hd : b.drop i = nl 0 u ++ rest) (hx0 : 0 ≤ x) (hx : x < 9223372036854775808) (hu0 : 0 ≤ u) (hu : u < 2) (hz : 0 < u) : iNumL b 2 x 63 i = some (x + u * 9223372036854775808, ((i + (nl 0 u).length : Nat) : Int)) := by
  obtain ⟨hlt, hrd, hdr⟩ := drop_cons (show b.drop i = u :: rest from hd)
  rw [iNumL, if_pos (by omega), hrd, if_pos (.inr ⟨rfl, by omega⟩), if_pos (by omega), if_pos (.inl hz), iOr_63 x u hx0 hx hu0 (by omega) (by omega), show u % 128 = u from by omega]
  rfl
theorem n2_56 (b : List Int) (i : Nat) (x u : Int) (rest : List Int) (hd : b.drop i = nl 1 u ++ rest) (hx0 : 0 ≤ x) (hx : x < 72057594037927936) (hu0 : 0 ≤ u) (hu : u < 256) (hz : 0 < u) : iNumL b 3 x 56 i = some (x + u * 72057594037927936, ((i + (nl 1 u).length : Nat) : Int)) := by
  rw [nl] at hd ⊢
  by_cases hu1 : 128 ≤ u
  · rw [if_pos hu1] at hd ⊢
    obtain ⟨hlt, hrd, hdr⟩ := drop_cons (show b.drop i = (u % 128 + 128) :: (nl 0 (u / 128) ++ rest) from hd)
    have hr := n2_63 b (i + 1) (x + u % 128 * 72057594037927936) (u / 128) rest hdr (by omega) (by omega) (by omega) (by omega) (by omega)
    rw [iNumL, if_pos (by omega), hrd, if_pos (.inl (by decide)), if_neg (by omega), iOr_56 x (u % 128 + 128) hx0 hx (by omega) (by omega), show (u % 128 + 128) % 128 = u % 128 from by omega]
    refine hr.trans ?_
    rw [List.length_cons, show x + u % 128 * 72057594037927936 + u / 128 * 9223372036854775808 = x + u * 72057594037927936 from by omega, show i + 1 + (nl 0 (u / 128)).length = i + ((nl 0 (u / 128)).length + 1) from by omega]
  · rw [if_neg hu1] at hd ⊢
    obtain ⟨hlt, hrd, hdr⟩ := drop_cons (show b.drop i = u :: rest from hd)
    rw [iNumL, if_pos (by omega), hrd, if_pos (.inl (by decide)), if_pos (by omega), if_pos (.inl hz), iOr_56 x u hx0 hx hu0 (by omega), show u % 128 = u from by omega]
    rfl
theorem n2_49 (b : List Int) (i : Nat) (x u : Int) (rest : List Int) (hd : b.drop i = nl 2 u ++ rest) (hx0 : 0 ≤ x) (hx : x < 562949953421312) (hu0 : 0 ≤ u) (hu : u < 32768) (hz : 0 < u) : iNumL b 4 x 49 i = some (x + u * 562949953421312, ((i + (nl 2 u).length : Nat) : Int)) := by
  rw [nl] at hd ⊢
  by_cases hu1 : 128 ≤ u
  · rw [if_pos hu1] at hd ⊢
    obtain ⟨hlt, hrd, hdr⟩ := drop_cons (show b.drop i = (u % 128 + 128) :: (nl 1 (u / 128) ++ rest) from hd)
    have hr := n2_56 b (i + 1) (x + u % 128 * 562949953421312) (u / 128) rest hdr (by omega) (by omega) (by omega) (by omega) (by omega)
    rw [iNumL, if_pos (by omega), hrd, if_pos (.inl (by decide)), if_neg (by omega), iOr_49 x (u % 128 + 128) hx0 hx (by omega) (by omega), show (u % 128 + 128) % 128 = u % 128 from by omega]
    refine hr.trans ?_
    rw [List.length_cons, show x + u % 128 * 562949953421312 + u / 128 * 72057594037927936 = x + u * 562949953421312 from by omega, show i + 1 + (nl 1 (u / 128)).length = i + ((nl 1 (u / 128)).length + 1) from by omega]
  · rw [if_neg hu1] at hd ⊢
    obtain ⟨hlt, hrd, hdr⟩ := drop_cons (show b.drop i = u :: rest from hd)
    rw [iNumL, if_pos (by omega), hrd, if_pos (.inl (by decide)), if_pos (by omega), if_pos (.inl hz), iOr_49 x u hx0 hx hu0 (by omega), show u % 128 = u from by omega]
    rfl
theorem n2_42 (b : List Int) (i : Nat) (x u : Int) (rest : List Int) (hd : b.drop i = nl 3 u ++ rest) (hx0 : 0 ≤ x) (hx : x < 4398046511104) (hu0 : 0 ≤ u) (hu : u < 4194304) (hz : 0 < u) : iNumL b 5 x 42 i = some (x + u * 4398046511104, ((i + (nl 3 u).length : Nat) : Int)) := by
  rw [nl] at hd ⊢
  by_cases hu1 : 128 ≤ u
  · rw [if_pos hu1] at hd ⊢
    obtain ⟨hlt, hrd, hdr⟩ := drop_cons (show b.drop i = (u % 128 + 128) :: (nl 2 (u / 128) ++ rest) from hd)
    have hr := n2_49 b (i + 1) (x + u % 128 * 4398046511104) (u / 128) rest hdr (by omega) (by omega) (by omega) (by omega) (by omega)
    rw [iNumL, if_pos (by omega), hrd, if_pos (.inl (by decide)), if_neg (by omega), iOr_42 x (u % 128 + 128) hx0 hx (by omega) (by omega), show (u % 128 + 128) % 128 = u % 128 from by omega]
    refine hr.trans ?_
    rw [List.length_cons, show x + u % 128 * 4398046511104 + u / 128 * 562949953421312 = x + u * 4398046511104 from by omega, show i + 1 + (nl 2 (u / 128)).length = i + ((nl 2 (u / 128)).length + 1) from by omega]
  · rw [if_neg hu1] at hd ⊢
    obtain ⟨hlt, hrd, hdr⟩ := drop_cons (show b.drop i = u :: rest from hd)
    rw [iNumL, if_pos (by omega), hrd, if_pos (.inl (by decide)), if_pos (by omega), if_pos (.inl hz), iOr_42 x u hx0 hx hu0 (by omega), show u % 128 = u from by omega]
    rfl
theorem n2_35 (b : List Int) (i : Nat) (x u : Int) (rest : List Int) (hd : b.drop i = nl 4 u ++ rest) (hx0 : 0 ≤ x) (hx : x < 34359738368) (hu0 : 0 ≤ u) (hu : u < 536870912) (hz : 0 < u) : iNumL b 6 x 35 i = some (x + u * 34359738368, ((i + (nl 4 u).length : Nat) : Int)) := by
  rw [nl] at hd ⊢
  by_cases hu1 : 128 ≤ u
  · rw [if_pos hu1] at hd ⊢
    obtain ⟨hlt, hrd, hdr⟩ := drop_cons (show b.drop i = (u % 128 + 128) :: (nl 3 (u / 128) ++ rest) from hd)
    have hr := n2_42 b (i + 1) (x + u % 128 * 34359738368) (u / 128) rest hdr (by omega) (by omega) (by omega) (by omega) (by omega)
    rw [iNumL, if_pos (by omega), hrd, if_pos (.inl (by decide)), if_neg (by omega), iOr_35 x (u % 128 + 128) hx0 hx (by omega) (by omega), show (u % 128 + 128) % 128 = u % 128 from by omega]
    refine hr.trans ?_
    rw [List.length_cons, show x + u % 128 * 34359738368 + u / 128 * 4398046511104 = x + u * 34359738368 from by omega, show i + 1 + (nl 3 (u / 128)).length = i + ((nl 3 (u / 128)).length + 1) from by omega]
  · rw [if_neg hu1] at hd ⊢
    obtain ⟨hlt, hrd, hdr⟩ := drop_cons (show b.drop i = u :: rest from hd)
    rw [iNumL, if_pos (by omega), hrd, if_pos (.inl (by decide)), if_pos (by omega), if_pos (.inl hz), iOr_35 x u hx0 hx hu0 (by omega), show u % 128 = u from by omega]
    rfl
theorem n2_28 (b : List Int) (i : Nat) (x u : Int) (rest : List Int) (hd : b.drop i = nl 5 u ++ rest) (hx0 : 0 ≤ x) (hx : x < 268435456) (hu0 : 0 ≤ u) (hu : u < 68719476736) (hz : 0 < u) : iNumL b 7 x 28 i = some (x + u * 268435456, ((i + (nl 5 u).length : Nat) : Int)) := by
  rw [nl] at hd ⊢
  by_cases hu1 : 128 ≤ u
  · rw [if_pos hu1] at hd ⊢
    obtain ⟨hlt, hrd, hdr⟩ := drop_cons (show b.drop i = (u % 128 + 128) :: (nl 4 (u / 128) ++ rest) from hd)
    have hr := n2_35 b (i + 1) (x + u % 128 * 268435456) (u / 128) rest hdr (by omega) (by omega) (by omega) (by omega) (by omega)
    rw [iNumL, if_pos (by omega), hrd, if_pos (.inl (by decide)), if_neg (by omega), iOr_28 x (u % 128 + 128) hx0 hx (by omega) (by omega), show (u % 128 + 128) % 128 = u % 128 from by omega]
    refine hr.trans ?_
    rw [List.length_cons, show x + u % 128 * 268435456 + u / 128 * 34359738368 = x + u * 268435456 from by omega, show i + 1 + (nl 4 (u / 128)).length = i + ((nl 4 (u / 128)).length + 1) from by omega]
  · rw [if_neg hu1] at hd ⊢
    obtain ⟨hlt, hrd, hdr⟩ := drop_cons (show b.drop i = u :: rest from hd)
    rw [iNumL, if_pos (by omega), hrd, if_pos (.inl (by decide)), if_pos (by omega), if_pos (.inl hz), iOr_28 x u hx0 hx hu0 (by omega), show u % 128 = u from by omega]
    rfl
theorem n2_21 (b : List Int) (i : Nat) (x u : Int) (rest : List Int) (hd : b.drop i = nl 6 u ++ rest) (hx0 : 0 ≤ x) (hx : x < 2097152) (hu0 : 0 ≤ u) (hu : u < 8796093022208) (hz : 0 < u) : iNumL b 8 x 21 i = some (x + u * 2097152, ((i + (nl 6 u).length : Nat) : Int)) := by
  rw [nl] at hd ⊢
  by_cases hu1 : 128 ≤ u
  · rw [if_pos hu1] at hd ⊢
    obtain ⟨hlt, hrd, hdr⟩ := drop_cons (show b.drop i = (u % 128 + 128) :: (nl 5 (u / 128) ++ rest) from hd)
    have hr := n2_28 b (i + 1) (x + u % 128 * 2097152) (u / 128) rest hdr (by omega) (by omega) (by omega) (by omega) (by omega)
    rw [iNumL, if_pos (by omega), hrd, if_pos (.inl (by decide)), if_neg (by omega), iOr_21 x (u % 128 + 128) hx0 hx (by omega) (by omega), show (u % 128 + 128) % 128 = u % 128 from by omega]
    refine hr.trans ?_
    rw [List.length_cons, show x + u % 128 * 2097152 + u / 128 * 268435456 = x + u * 2097152 from by omega, show i + 1 + (nl 5 (u / 128)).length = i + ((nl 5 (u / 128)).length + 1) from by omega]
  · rw [if_neg hu1] at hd ⊢
    obtain ⟨hlt, hrd, hdr⟩ := drop_cons (show b.drop i = u :: rest from hd)
    rw [iNumL, if_pos (by omega), hrd, if_pos (.inl (by decide)), if_pos (by omega), if_pos (.inl hz), iOr_21 x u hx0 hx hu0 (by omega), show u % 128 = u from by omega]
    rfl
theorem n2_14 (b : List Int) (i : Nat) (x u : Int) (rest : List Int) (hd : b.drop i = nl 7 u ++ rest) (hx0 : 0 ≤ x) (hx : x < 16384) (hu0 : 0 ≤ u) (hu : u < 1125899906842624) (hz : 0 < u) : iNumL b 9 x 14 i = some (x + u * 16384, ((i + (nl 7 u).length : Nat) : Int)) := by
  rw [nl] at hd ⊢
  by_cases hu1 : 128 ≤ u
  · rw [if_pos hu1] at hd ⊢
    obtain ⟨hlt, hrd, hdr⟩ := drop_cons (show b.drop i = (u % 128 + 128) :: (nl 6 (u / 128) ++ rest) from hd)
    have hr := n2_21 b (i + 1) (x + u % 128 * 16384) (u / 128) rest hdr (by omega) (by omega) (by omega) (by omega) (by omega)
    rw [iNumL, if_pos (by omega), hrd, if_pos (.inl (by decide)), if_neg (by omega), iOr_14 x (u % 128 + 128) hx0 hx (by omega) (by omega), show (u % 128 + 128) % 128 = u % 128 from by omega]
    refine hr.trans ?_
    rw [List.length_cons, show x + u % 128 * 16384 + u / 128 * 2097152 = x + u * 16384 from by omega, show i + 1 + (nl 6 (u / 128)).length = i + ((nl 6 (u / 128)).length + 1) from by omega]
  · rw [if_neg hu1] at hd ⊢
    obtain ⟨hlt, hrd, hdr⟩ := drop_cons (show b.drop i = u :: rest from hd)
    rw [iNumL, if_pos (by omega), hrd, if_pos (.inl (by decide)), if_pos (by omega), if_pos (.inl hz), iOr_14 x u hx0 hx hu0 (by omega), show u % 128 = u from by omega]
    rfl
theorem n2_7 (b : List Int) (i : Nat) (x u : Int) (rest : List Int) (hd : b.drop i = nl 8 u ++ rest) (hx0 : 0 ≤ x) (hx : x < 128) (hu0 : 0 ≤ u) (hu : u < 144115188075855872) (hz : 0 < u) : iNumL b 10 x 7 i = some (x + u * 128, ((i + (nl 8 u).length : Nat) : Int)) := by
  rw [nl] at hd ⊢
  by_cases hu1 : 128 ≤ u
  · rw [if_pos hu1] at hd ⊢
    obtain ⟨hlt, hrd, hdr⟩ := drop_cons (show b.drop i = (u % 128 + 128) :: (nl 7 (u / 128) ++ rest) from hd)
    have hr := n2_14 b (i + 1) (x + u % 128 * 128) (u / 128) rest hdr (by omega) (by omega) (by omega) (by omega) (by omega)
    rw [iNumL, if_pos (by omega), hrd, if_pos (.inl (by decide)), if_neg (by omega), iOr_7 x (u % 128 + 128) hx0 hx (by omega) (by omega), show (u % 128 + 128) % 128 = u % 128 from by omega]
    refine hr.trans ?_
    rw [List.length_cons, show x + u % 128 * 128 + u / 128 * 16384 = x + u * 128 from by omega, show i + 1 + (nl 7 (u / 128)).length = i + ((nl 7 (u / 128)).length + 1) from by omega]
  · rw [if_neg hu1] at hd ⊢
    obtain ⟨hlt, hrd, hdr⟩ := drop_cons (show b.drop i = u :: rest from hd)
    rw [iNumL, if_pos (by omega), hrd, if_pos (.inl (by decide)), if_pos (by omega), if_pos (.inl hz), iOr_7 x u hx0 hx hu0 (by omega), show u % 128 = u from by omega]
    rfl
theorem n2_0 (b : List Int) (i : Nat) (x u : Int) (rest : List Int) (hd : b.drop i = nl 9 u ++ rest) (hx0 : 0 ≤ x) (hx : x < 1) (hu0 : 0 ≤ u) (hu : u < 18446744073709551616) : iNumL b 11 x 0 i = some (x + u * 1, ((i + (nl 9 u).length : Nat) : Int)) := by
  rw [nl] at hd ⊢
  by_cases hu1 : 128 ≤ u
  · rw [if_pos hu1] at hd ⊢
    obtain ⟨hlt, hrd, hdr⟩ := drop_cons (show b.drop i = (u % 128 + 128) :: (nl 8 (u / 128) ++ rest) from hd)
    have hr := n2_7 b (i + 1) (x + u % 128 * 1) (u / 128) rest hdr (by omega) (by omega) (by omega) (by omega) (by omega)
    rw [iNumL, if_pos (by omega), hrd, if_pos (.inl (by decide)), if_neg (by omega), iOr_0 x (u % 128 + 128) hx0 hx (by omega) (by omega), show (u % 128 + 128) % 128 = u % 128 from by omega]
    refine hr.trans ?_
    rw [List.length_cons, show x + u % 128 * 1 + u / 128 * 128 = x + u * 1 from by omega, show i + 1 + (nl 8 (u / 128)).length = i + ((nl 8 (u / 128)).length + 1) from by omega]
  · rw [if_neg hu1] at hd ⊢
    obtain ⟨hlt, hrd, hdr⟩ := drop_cons (show b.drop i = u :: rest from hd)
    rw [iNumL, if_pos (by omega), hrd, if_pos (.inl (by decide)), if_pos (by omega), if_pos (.inr rfl), iOr_0 x u hx0 hx hu0 (by omega), show u % 128 = u from by omega]
    rfl
theorem n1_70 (b : List Int) (x : Int) (i : Nat) (v j : Int) (h : iNumL b 1 x 70 i = some (v, j)) : False := by
  rw [iNumL] at h
  split at h
  · rw [if_neg (by omega)] at h; cases h
  · cases h
theorem n1_63 (b : List Int) (hb : ∀ j, 0 ≤ rd b j ∧ rd b j < 256) (x : Int) (i : Nat) (v j : Int) (hx0 : 0 ≤ x) (hx : x < 9223372036854775808) (h : iNumL b 2 x 63 i = some (v, j)) : ∃ u : Int, 0 ≤ u ∧ u < 2 ∧ 0 < u ∧ v = x + u * 9223372036854775808 ∧ j = ((i + (nl 0 u).length : Nat) : Int) ∧ b.drop i = nl 0 u ++ b.drop (i + (nl 0 u).length) := by
  obtain ⟨hc0, hc1⟩ := hb (i : Int)
  rw [iNumL] at h
  by_cases h1 : (i : Int) < (b.length : Int)
  · have hlt : i < b.length := by omega
    have hcd := cons_drop hlt
    obtain ⟨c, hc⟩ : ∃ c, c = rd b (i : Int) := ⟨_, rfl⟩
    rw [← hc] at h hcd hc0 hc1
    rw [if_pos h1] at h
    by_cases h2 : c ≤ 1
    · rw [if_pos (.inr ⟨rfl, h2⟩), if_pos (by omega)] at h
      by_cases h3 : 0 < c
      · rw [if_pos (.inl h3)] at h
        rw [iOr_63 x c hx0 hx hc0 hc1 h2] at h
        injection h with h
        injection h with h4 h5
        exact ⟨c, hc0, by omega, h3, by omega, by rw [← h5]; rfl, hcd⟩
      · rw [if_neg (fun h => h.elim h3 (by decide))] at h; cases h
    · rw [if_neg (by omega)] at h; cases h
  · rw [if_neg h1] at h; cases h
theorem n1_56 (b : List Int) (hb : ∀ j, 0 ≤ rd b j ∧ rd b j < 256) (x : Int) (i : Nat) (v j : Int) (hx0 : 0 ≤ x) (hx : x < 72057594037927936) (h : iNumL b 3 x 56 i = some (v, j)) : ∃ u : Int, 0 ≤ u ∧ u < 256 ∧ 0 < u ∧ v = x + u * 72057594037927936 ∧ j = ((i + (nl 1 u).length : Nat) : Int) ∧ b.drop i = nl 1 u ++ b.drop (i + (nl 1 u).length) := by
  obtain ⟨hc0, hc1⟩ := hb (i : Int)
  rw [iNumL] at h
  by_cases h1 : (i : Int) < (b.length : Int)
  · have hlt : i < b.length := by omega
    have hcd := cons_drop hlt
    obtain ⟨c, hc⟩ : ∃ c, c = rd b (i : Int) := ⟨_, rfl⟩
    rw [← hc] at h hcd hc0 hc1
    rw [if_pos h1] at h
    rw [if_pos (.inl (by decide))] at h
    by_cases h2 : c < 128
    · rw [if_pos h2] at h
      by_cases h3 : 0 < c
      · rw [if_pos (.inl h3)] at h
        rw [iOr_56 x c hx0 hx hc0 hc1] at h
        injection h with h
        injection h with h4 h5
        have e : nl 1 c = [c] := by rw [nl, if_neg (by omega)]
        rw [show c % 128 * 72057594037927936 = c * 72057594037927936 from by omega] at h4
        exact ⟨c, hc0, by omega, h3, h4.symm, by rw [← h5, e]; rfl, by rw [e]; exact hcd⟩
      · rw [if_neg (fun h => h.elim h3 (by decide))] at h; cases h
    · rw [if_neg h2] at h
      rw [iOr_56 x c hx0 hx hc0 hc1] at h
      have h' : iNumL b 2 (x + c % 128 * 72057594037927936) 63 ((i + 1 : Nat) : Int) = some (v, j) := h
      obtain ⟨u, u0, u1, uz, uv, uj, ud⟩ := n1_63 b hb (x + c % 128 * 72057594037927936) (i + 1) v j (by omega) (by omega) h'
      refine ⟨c - 128 + 128 * u, by omega, by omega, by omega, by omega, ?_, ?_⟩
      · rw [nl, if_pos (by omega), List.length_cons, show (c - 128 + 128 * u) / 128 = u from by omega, uj]
        omega
      · rw [nl, if_pos (by omega), List.length_cons, show (c - 128 + 128 * u) / 128 = u from by omega, show (c - 128 + 128 * u) % 128 + 128 = c from by omega, hcd, ud, show i + 1 + (nl 0 u).length = i + ((nl 0 u).length + 1) from by omega]
        rfl
  · rw [if_neg h1] at h; cases h
theorem n1_49 (b : List Int) (hb : ∀ j, 0 ≤ rd b j ∧ rd b j < 256) (x : Int) (i : Nat) (v j : Int) (hx0 : 0 ≤ x) (hx : x < 562949953421312) (h : iNumL b 4 x 49 i = some (v, j)) : ∃ u : Int, 0 ≤ u ∧ u < 32768 ∧ 0 < u ∧ v = x + u * 562949953421312 ∧ j = ((i + (nl 2 u).length : Nat) : Int) ∧ b.drop i = nl 2 u ++ b.drop (i + (nl 2 u).length) := by
  obtain ⟨hc0, hc1⟩ := hb (i : Int)
  rw [iNumL] at h
  by_cases h1 : (i : Int) < (b.length : Int)
  · have hlt : i < b.length := by omega
    have hcd := cons_drop hlt
    obtain ⟨c, hc⟩ : ∃ c, c = rd b (i : Int) := ⟨_, rfl⟩
    rw [← hc] at h hcd hc0 hc1
    rw [if_pos h1] at h
    rw [if_pos (.inl (by decide))] at h
    by_cases h2 : c < 128
    · rw [if_pos h2] at h
      by_cases h3 : 0 < c
      · rw [if_pos (.inl h3)] at h
        rw [iOr_49 x c hx0 hx hc0 hc1] at h
        injection h with h
        injection h with h4 h5
        have e : nl 2 c = [c] := by rw [nl, if_neg (by omega)]
        rw [show c % 128 * 562949953421312 = c * 562949953421312 from by omega] at h4
        exact ⟨c, hc0, by omega, h3, h4.symm, by rw [← h5, e]; rfl, by rw [e]; exact hcd⟩
      · rw [if_neg (fun h => h.elim h3 (by decide))] at h; cases h
    · rw [if_neg h2] at h
      rw [iOr_49 x c hx0 hx hc0 hc1] at h
      have h' : iNumL b 3 (x + c % 128 * 562949953421312) 56 ((i + 1 : Nat) : Int) = some (v, j) := h
      obtain ⟨u, u0, u1, uz, uv, uj, ud⟩ := n1_56 b hb (x + c % 128 * 562949953421312) (i + 1) v j (by omega) (by omega) h'
      refine ⟨c - 128 + 128 * u, by omega, by omega, by omega, by omega, ?_, ?_⟩
      · rw [nl, if_pos (by omega), List.length_cons, show (c - 128 + 128 * u) / 128 = u from by omega, uj]
        omega
      · rw [nl, if_pos (by omega), List.length_cons, show (c - 128 + 128 * u) / 128 = u from by omega, show (c - 128 + 128 * u) % 128 + 128 = c from by omega, hcd, ud, show i + 1 + (nl 1 u).length = i + ((nl 1 u).length + 1) from by omega]
        rfl
  · rw [if_neg h1] at h; cases h
theorem n1_42 (b : List Int) (hb : ∀ j, 0 ≤ rd b j ∧ rd b j < 256) (x : Int) (i : Nat) (v j : Int) (hx0 : 0 ≤ x) (hx : x < 4398046511104) (h : iNumL b 5 x 42 i = some (v, j)) : ∃ u : Int, 0 ≤ u ∧ u < 4194304 ∧ 0 < u ∧ v = x + u * 4398046511104 ∧ j = ((i + (nl 3 u).length : Nat) : Int) ∧ b.drop i = nl 3 u ++ b.drop (i + (nl 3 u).length) := by
  obtain ⟨hc0, hc1⟩ := hb (i : Int)
  rw [iNumL] at h
  by_cases h1 : (i : Int) < (b.length : Int)
  · have hlt : i < b.length := by omega
    have hcd := cons_drop hlt
    obtain ⟨c, hc⟩ : ∃ c, c = rd b (i : Int) := ⟨_, rfl⟩
    rw [← hc] at h hcd hc0 hc1
    rw [if_pos h1] at h
    rw [if_pos (.inl (by decide))] at h
    by_cases h2 : c < 128
    · rw [if_pos h2] at h
      by_cases h3 : 0 < c
      · rw [if_pos (.inl h3)] at h
        rw [iOr_42 x c hx0 hx hc0 hc1] at h
        injection h with h
        injection h with h4 h5
        have e : nl 3 c = [c] := by rw [nl, if_neg (by omega)]
        rw [show c % 128 * 4398046511104 = c * 4398046511104 from by omega] at h4
        exact ⟨c, hc0, by omega, h3, h4.symm, by rw [← h5, e]; rfl, by rw [e]; exact hcd⟩
      · rw [if_neg (fun h => h.elim h3 (by decide))] at h; cases h
    · rw [if_neg h2] at h
      rw [iOr_42 x c hx0 hx hc0 hc1] at h
      have h' : iNumL b 4 (x + c % 128 * 4398046511104) 49 ((i + 1 : Nat) : Int) = some (v, j) := h
      obtain ⟨u, u0, u1, uz, uv, uj, ud⟩ := n1_49 b hb (x + c % 128 * 4398046511104) (i + 1) v j (by omega) (by omega) h'
      refine ⟨c - 128 + 128 * u, by omega, by omega, by omega, by omega, ?_, ?_⟩
      · rw [nl, if_pos (by omega), List.length_cons, show (c - 128 + 128 * u) / 128 = u from by omega, uj]
        omega
      · rw [nl, if_pos (by omega), List.length_cons, show (c - 128 + 128 * u) / 128 = u from by omega, show (c - 128 + 128 * u) % 128 + 128 = c from by omega, hcd, ud, show i + 1 + (nl 2 u).length = i + ((nl 2 u).length + 1) from by omega]
        rfl
  · rw [if_neg h1] at h; cases h
theorem n1_35 (b : List Int) (hb : ∀ j, 0 ≤ rd b j ∧ rd b j < 256) (x : Int) (i : Nat) (v j : Int) (hx0 : 0 ≤ x) (hx : x < 34359738368) (h : iNumL b 6 x 35 i = some (v, j)) : ∃ u : Int, 0 ≤ u ∧ u < 536870912 ∧ 0 < u ∧ v = x + u * 34359738368 ∧ j = ((i + (nl 4 u).length : Nat) : Int) ∧ b.drop i = nl 4 u ++ b.drop (i + (nl 4 u).length) := by
  obtain ⟨hc0, hc1⟩ := hb (i : Int)
  rw [iNumL] at h
  by_cases h1 : (i : Int) < (b.length : Int)
  · have hlt : i < b.length := by omega
    have hcd := cons_drop hlt
    obtain ⟨c, hc⟩ : ∃ c, c = rd b (i : Int) := ⟨_, rfl⟩
    rw [← hc] at h hcd hc0 hc1
    rw [if_pos h1] at h
    rw [if_pos (.inl (by decide))] at h
    by_cases h2 : c < 128
    · rw [if_pos h2] at h
      by_cases h3 : 0 < c
      · rw [if_pos (.inl h3)] at h
        rw [iOr_35 x c hx0 hx hc0 hc1] at h
        injection h with h
        injection h with h4 h5
        have e : nl 4 c = [c] := by rw [nl, if_neg (by omega)]
        rw [show c % 128 * 34359738368 = c * 34359738368 from by omega] at h4
        exact ⟨c, hc0, by omega, h3, h4.symm, by rw [← h5, e]; rfl, by rw [e]; exact hcd⟩
      · rw [if_neg (fun h => h.elim h3 (by decide))] at h; cases h
    · rw [if_neg h2] at h
      rw [iOr_35 x c hx0 hx hc0 hc1] at h
      have h' : iNumL b 5 (x + c % 128 * 34359738368) 42 ((i + 1 : Nat) : Int) = some (v, j) := h
      obtain ⟨u, u0, u1, uz, uv, uj, ud⟩ := n1_42 b hb (x + c % 128 * 34359738368) (i + 1) v j (by omega) (by omega) h'
      refine ⟨c - 128 + 128 * u, by omega, by omega, by omega, by omega, ?_, ?_⟩
      · rw [nl, if_pos (by omega), List.length_cons, show (c - 128 + 128 * u) / 128 = u from by omega, uj]
        omega
      · rw [nl, if_pos (by omega), List.length_cons, show (c - 128 + 128 * u) / 128 = u from by omega, show (c - 128 + 128 * u) % 128 + 128 = c from by omega, hcd, ud, show i + 1 + (nl 3 u).length = i + ((nl 3 u).length + 1) from by omega]
        rfl
  · rw [if_neg h1] at h; cases h
theorem n1_28 (b : List Int) (hb : ∀ j, 0 ≤ rd b j ∧ rd b j < 256) (x : Int) (i : Nat) (v j : Int) (hx0 : 0 ≤ x) (hx : x < 268435456) (h : iNumL b 7 x 28 i = some (v, j)) : ∃ u : Int, 0 ≤ u ∧ u < 68719476736 ∧ 0 < u ∧ v = x + u * 268435456 ∧ j = ((i + (nl 5 u).length : Nat) : Int) ∧ b.drop i = nl 5 u ++ b.drop (i + (nl 5 u).length) := by
  obtain ⟨hc0, hc1⟩ := hb (i : Int)
  rw [iNumL] at h
  by_cases h1 : (i : Int) < (b.length : Int)
  · have hlt : i < b.length := by omega
    have hcd := cons_drop hlt
    obtain ⟨c, hc⟩ : ∃ c, c = rd b (i : Int) := ⟨_, rfl⟩
    rw [← hc] at h hcd hc0 hc1
    rw [if_pos h1] at h
    rw [if_pos (.inl (by decide))] at h
    by_cases h2 : c < 128
    · rw [if_pos h2] at h
      by_cases h3 : 0 < c
      · rw [if_pos (.inl h3)] at h
        rw [iOr_28 x c hx0 hx hc0 hc1] at h
        injection h with h
        injection h with h4 h5
        have e : nl 5 c = [c] := by rw [nl, if_neg (by omega)]
        rw [show c % 128 * 268435456 = c * 268435456 from by omega] at h4
        exact ⟨c, hc0, by omega, h3, h4.symm, by rw [← h5, e]; rfl, by rw [e]; exact hcd⟩
      · rw [if_neg (fun h => h.elim h3 (by decide))] at h; cases h
    · rw [if_neg h2] at h
      rw [iOr_28 x c hx0 hx hc0 hc1] at h
      have h' : iNumL b 6 (x + c % 128 * 268435456) 35 ((i + 1 : Nat) : Int) = some (v, j) := h
      obtain ⟨u, u0, u1, uz, uv, uj, ud⟩ := n1_35 b hb (x + c % 128 * 268435456) (i + 1) v j (by omega) (by omega) h'
      refine ⟨c - 128 + 128 * u, by omega, by omega, by omega, by omega, ?_, ?_⟩
      · rw [nl, if_pos (by omega), List.length_cons, show (c - 128 + 128 * u) / 128 = u from by omega, uj]
        omega
      · rw [nl, if_pos (by omega), List.length_cons, show (c - 128 + 128 * u) / 128 = u from by omega, show (c - 128 + 128 * u) % 128 + 128 = c from by omega, hcd, ud, show i + 1 + (nl 4 u).length = i + ((nl 4 u).length + 1) from by omega]
        rfl
  · rw [if_neg h1] at h; cases h
theorem n1_21 (b : List Int) (hb : ∀ j, 0 ≤ rd b j ∧ rd b j < 256) (x : Int) (i : Nat) (v j : Int) (hx0 : 0 ≤ x) (hx : x < 2097152) (h : iNumL b 8 x 21 i = some (v, j)) : ∃ u : Int, 0 ≤ u ∧ u < 8796093022208 ∧ 0 < u ∧ v = x + u * 2097152 ∧ j = ((i + (nl 6 u).length : Nat) : Int) ∧ b.drop i = nl 6 u ++ b.drop (i + (nl 6 u).length) := by
  obtain ⟨hc0, hc1⟩ := hb (i : Int)
  rw [iNumL] at h
  by_cases h1 : (i : Int) < (b.length : Int)
  · have hlt : i < b.length := by omega
    have hcd := cons_drop hlt
    obtain ⟨c, hc⟩ : ∃ c, c = rd b (i : Int) := ⟨_, rfl⟩
    rw [← hc] at h hcd hc0 hc1
    rw [if_pos h1] at h
    rw [if_pos (.inl (by decide))] at h
    by_cases h2 : c < 128
    · rw [if_pos h2] at h
      by_cases h3 : 0 < c
      · rw [if_pos (.inl h3)] at h
        rw [iOr_21 x c hx0 hx hc0 hc1] at h
        injection h with h
        injection h with h4 h5
        have e : nl 6 c = [c] := by rw [nl, if_neg (by omega)]
        rw [show c % 128 * 2097152 = c * 2097152 from by omega] at h4
        exact ⟨c, hc0, by omega, h3, h4.symm, by rw [← h5, e]; rfl, by rw [e]; exact hcd⟩
      · rw [if_neg (fun h => h.elim h3 (by decide))] at h; cases h
    · rw [if_neg h2] at h
      rw [iOr_21 x c hx0 hx hc0 hc1] at h
      have h' : iNumL b 7 (x + c % 128 * 2097152) 28 ((i + 1 : Nat) : Int) = some (v, j) := h
      obtain ⟨u, u0, u1, uz, uv, uj, ud⟩ := n1_28 b hb (x + c % 128 * 2097152) (i + 1) v j (by omega) (by omega) h'
      refine ⟨c - 128 + 128 * u, by omega, by omega, by omega, by omega, ?_, ?_⟩
      · rw [nl, if_pos (by omega), List.length_cons, show (c - 128 + 128 * u) / 128 = u from by omega, uj]
        omega
      · rw [nl, if_pos (by omega), List.length_cons, show (c - 128 + 128 * u) / 128 = u from by omega, show (c - 128 + 128 * u) % 128 + 128 = c from by omega, hcd, ud, show i + 1 + (nl 5 u).length = i + ((nl 5 u).length + 1) from by omega]
        rfl
  · rw [if_neg h1] at h; cases h
theorem n1_14 (b : List Int) (hb : ∀ j, 0 ≤ rd b j ∧ rd b j < 256) (x : Int) (i : Nat) (v j : Int) (hx0 : 0 ≤ x) (hx : x < 16384) (h : iNumL b 9 x 14 i = some (v, j)) : ∃ u : Int, 0 ≤ u ∧ u < 1125899906842624 ∧ 0 < u ∧ v = x + u * 16384 ∧ j = ((i + (nl 7 u).length : Nat) : Int) ∧ b.drop i = nl 7 u ++ b.drop (i + (nl 7 u).length) := by
  obtain ⟨hc0, hc1⟩ := hb (i : Int)
  rw [iNumL] at h
  by_cases h1 : (i : Int) < (b.length : Int)
  · have hlt : i < b.length := by omega
    have hcd := cons_drop hlt
    obtain ⟨c, hc⟩ : ∃ c, c = rd b (i : Int) := ⟨_, rfl⟩
    rw [← hc] at h hcd hc0 hc1
    rw [if_pos h1] at h
    rw [if_pos (.inl (by decide))] at h
    by_cases h2 : c < 128
    · rw [if_pos h2] at h
      by_cases h3 : 0 < c
      · rw [if_pos (.inl h3)] at h
        rw [iOr_14 x c hx0 hx hc0 hc1] at h
        injection h with h
        injection h with h4 h5
        have e : nl 7 c = [c] := by rw [nl, if_neg (by omega)]
        rw [show c % 128 * 16384 = c * 16384 from by omega] at h4
        exact ⟨c, hc0, by omega, h3, h4.symm, by rw [← h5, e]; rfl, by rw [e]; exact hcd⟩
      · rw [if_neg (fun h => h.elim h3 (by decide))] at h; cases h
    · rw [if_neg h2] at h
      rw [iOr_14 x c hx0 hx hc0 hc1] at h
      have h' : iNumL b 8 (x + c % 128 * 16384) 21 ((i + 1 : Nat) : Int) = some (v, j) := h
      obtain ⟨u, u0, u1, uz, uv, uj, ud⟩ := n1_21 b hb (x + c % 128 * 16384) (i + 1) v j (by omega) (by omega) h'
      refine ⟨c - 128 + 128 * u, by omega, by omega, by omega, by omega, ?_, ?_⟩
      · rw [nl, if_pos (by omega), List.length_cons, show (c - 128 + 128 * u) / 128 = u from by omega, uj]
        omega
      · rw [nl, if_pos (by omega), List.length_cons, show (c - 128 + 128 * u) / 128 = u from by omega, show (c - 128 + 128 * u) % 128 + 128 = c from by omega, hcd, ud, show i + 1 + (nl 6 u).length = i + ((nl 6 u).length + 1) from by omega]
        rfl
  · rw [if_neg h1] at h; cases h
theorem n1_7 (b : List Int) (hb : ∀ j, 0 ≤ rd b j ∧ rd b j < 256) (x : Int) (i : Nat) (v j : Int) (hx0 : 0 ≤ x) (hx : x < 128) (h : iNumL b 10 x 7 i = some (v, j)) : ∃ u : Int, 0 ≤ u ∧ u < 144115188075855872 ∧ 0 < u ∧ v = x + u * 128 ∧ j = ((i + (nl 8 u).length : Nat) : Int) ∧ b.drop i = nl 8 u ++ b.drop (i + (nl 8 u).length) := by
  obtain ⟨hc0, hc1⟩ := hb (i : Int)
  rw [iNumL] at h
  by_cases h1 : (i : Int) < (b.length : Int)
  · have hlt : i < b.length := by omega
    have hcd := cons_drop hlt
    obtain ⟨c, hc⟩ : ∃ c, c = rd b (i : Int) := ⟨_, rfl⟩
    rw [← hc] at h hcd hc0 hc1
    rw [if_pos h1] at h
    rw [if_pos (.inl (by decide))] at h
    by_cases h2 : c < 128
    · rw [if_pos h2] at h
      by_cases h3 : 0 < c
      · rw [if_pos (.inl h3)] at h
        rw [iOr_7 x c hx0 hx hc0 hc1] at h
        injection h with h
        injection h with h4 h5
        have e : nl 8 c = [c] := by rw [nl, if_neg (by omega)]
        rw [show c % 128 * 128 = c * 128 from by omega] at h4
        exact ⟨c, hc0, by omega, h3, h4.symm, by rw [← h5, e]; rfl, by rw [e]; exact hcd⟩
      · rw [if_neg (fun h => h.elim h3 (by decide))] at h; cases h
    · rw [if_neg h2] at h
      rw [iOr_7 x c hx0 hx hc0 hc1] at h
      have h' : iNumL b 9 (x + c % 128 * 128) 14 ((i + 1 : Nat) : Int) = some (v, j) := h
      obtain ⟨u, u0, u1, uz, uv, uj, ud⟩ := n1_14 b hb (x + c % 128 * 128) (i + 1) v j (by omega) (by omega) h'
      refine ⟨c - 128 + 128 * u, by omega, by omega, by omega, by omega, ?_, ?_⟩
      · rw [nl, if_pos (by omega), List.length_cons, show (c - 128 + 128 * u) / 128 = u from by omega, uj]
        omega
      · rw [nl, if_pos (by omega), List.length_cons, show (c - 128 + 128 * u) / 128 = u from by omega, show (c - 128 + 128 * u) % 128 + 128 = c from by omega, hcd, ud, show i + 1 + (nl 7 u).length = i + ((nl 7 u).length + 1) from by omega]
        rfl
  · rw [if_neg h1] at h; cases h
theorem n1_0 (b : List Int) (hb : ∀ j, 0 ≤ rd b j ∧ rd b j < 256) (x : Int) (i : Nat) (v j : Int) (hx0 : 0 ≤ x) (hx : x < 1) (h : iNumL b 11 x 0 i = some (v, j)) : ∃ u : Int, 0 ≤ u ∧ u < 18446744073709551616 ∧ v = x + u * 1 ∧ j = ((i + (nl 9 u).length : Nat) : Int) ∧ b.drop i = nl 9 u ++ b.drop (i + (nl 9 u).length) := by
  obtain ⟨hc0, hc1⟩ := hb (i : Int)
  rw [iNumL] at h
  by_cases h1 : (i : Int) < (b.length : Int)
  · have hlt : i < b.length := by omega
    have hcd := cons_drop hlt
    obtain ⟨c, hc⟩ : ∃ c, c = rd b (i : Int) := ⟨_, rfl⟩
    rw [← hc] at h hcd hc0 hc1
    rw [if_pos h1] at h
    rw [if_pos (.inl (by decide))] at h
    by_cases h2 : c < 128
    · rw [if_pos h2] at h
      have h3 : True := trivial
      rw [if_pos (.inr rfl)] at h
      rw [iOr_0 x c hx0 hx hc0 hc1] at h
      injection h with h
      injection h with h4 h5
      have e : nl 9 c = [c] := by rw [nl, if_neg (by omega)]
      rw [show c % 128 * 1 = c * 1 from by omega] at h4
      exact ⟨c, hc0, by omega, h4.symm, by rw [← h5, e]; rfl, by rw [e]; exact hcd⟩
    · rw [if_neg h2] at h
      rw [iOr_0 x c hx0 hx hc0 hc1] at h
      have h' : iNumL b 10 (x + c % 128 * 1) 7 ((i + 1 : Nat) : Int) = some (v, j) := h
      obtain ⟨u, u0, u1, uz, uv, uj, ud⟩ := n1_7 b hb (x + c % 128 * 1) (i + 1) v j (by omega) (by omega) h'
      refine ⟨c - 128 + 128 * u, by omega, by omega, by omega, ?_, ?_⟩
      · rw [nl, if_pos (by omega), List.length_cons, show (c - 128 + 128 * u) / 128 = u from by omega, uj]
        omega
      · rw [nl, if_pos (by omega), List.length_cons, show (c - 128 + 128 * u) / 128 = u from by omega, show (c - 128 + 128 * u) % 128 + 128 = c from by omega, hcd, ud, show i + 1 + (nl 8 u).length = i + ((nl 8 u).length + 1) from by omega]
        rfl
  · rw [if_neg h1] at h; cases h
/-- A number's bytes. -/
def NL (x : Int) : List Int := nl 9 x
theorem NL_len (x : Int) : (NL x).length ≤ 10 := nl_len 9 x
theorem iNum_of (b : List Int) (i : Nat) (u : Int) (rest : List Int) (hd : b.drop i = NL u ++ rest) (h0 : 0 ≤ u) (h1 : u < 18446744073709551616) : iNum b i = some (u, ((i + (NL u).length : Nat) : Int)) := by
  have h := n2_0 b i 0 u rest hd (by omega) (by omega) h0 h1
  rw [show (0 : Int) + u * 1 = u from by omega] at h
  exact h
theorem of_iNum (b : List Int) (hb : ∀ j, 0 ≤ rd b j ∧ rd b j < 256) (i : Nat) (v j : Int) (h : iNum b i = some (v, j)) : 0 ≤ v ∧ v < 18446744073709551616 ∧ j = ((i + (NL v).length : Nat) : Int) ∧ b.drop i = NL v ++ b.drop (i + (NL v).length) := by
  obtain ⟨u, h0, h1, h2, h3, h4⟩ := n1_0 b hb 0 i v j (by omega) (by omega) h
  obtain rfl : v = u := by omega
  exact ⟨h0, h1, h3, h4⟩
theorem u64_7 (x : Int) (h0 : 0 ≤ x) (h1 : x ≤ 1000) : IntKind.u64.wrap (x + 7) = x + 7 := by rw [u64_mod]; omega
theorem sh_0 (c : Int) (h0 : 0 ≤ c) (h1 : c < 256) : shl .i64 (wrap64 (Go.bits .and .u8 c 127)) 0 = c % 128 * 1 := by
  unfold shl
  rw [and127 c h0 h1, show wrap64 (c % 128) = c % 128 from by unfold wrap64; omega, show (2 : Int) ^ min (Int.toNat 0) IntKind.i64.bits = 1 from rfl, IntKind.wrap_i64]
  omega
theorem sh_7 (c : Int) (h0 : 0 ≤ c) (h1 : c < 256) : shl .i64 (wrap64 (Go.bits .and .u8 c 127)) 7 = c % 128 * 128 := by
  unfold shl
  rw [and127 c h0 h1, show wrap64 (c % 128) = c % 128 from by unfold wrap64; omega, show (2 : Int) ^ min (Int.toNat 7) IntKind.i64.bits = 128 from rfl, IntKind.wrap_i64]
  omega
theorem sh_14 (c : Int) (h0 : 0 ≤ c) (h1 : c < 256) : shl .i64 (wrap64 (Go.bits .and .u8 c 127)) 14 = c % 128 * 16384 := by
  unfold shl
  rw [and127 c h0 h1, show wrap64 (c % 128) = c % 128 from by unfold wrap64; omega, show (2 : Int) ^ min (Int.toNat 14) IntKind.i64.bits = 16384 from rfl, IntKind.wrap_i64]
  omega
theorem sh_21 (c : Int) (h0 : 0 ≤ c) (h1 : c < 256) : shl .i64 (wrap64 (Go.bits .and .u8 c 127)) 21 = c % 128 * 2097152 := by
  unfold shl
  rw [and127 c h0 h1, show wrap64 (c % 128) = c % 128 from by unfold wrap64; omega, show (2 : Int) ^ min (Int.toNat 21) IntKind.i64.bits = 2097152 from rfl, IntKind.wrap_i64]
  omega
theorem sh_28 (c : Int) (h0 : 0 ≤ c) (h1 : c < 256) : shl .i64 (wrap64 (Go.bits .and .u8 c 127)) 28 = c % 128 * 268435456 := by
  unfold shl
  rw [and127 c h0 h1, show wrap64 (c % 128) = c % 128 from by unfold wrap64; omega, show (2 : Int) ^ min (Int.toNat 28) IntKind.i64.bits = 268435456 from rfl, IntKind.wrap_i64]
  omega
theorem sh_35 (c : Int) (h0 : 0 ≤ c) (h1 : c < 256) : shl .i64 (wrap64 (Go.bits .and .u8 c 127)) 35 = c % 128 * 34359738368 := by
  unfold shl
  rw [and127 c h0 h1, show wrap64 (c % 128) = c % 128 from by unfold wrap64; omega, show (2 : Int) ^ min (Int.toNat 35) IntKind.i64.bits = 34359738368 from rfl, IntKind.wrap_i64]
  omega
theorem st_42 (b : List Int) (bad : Bool) (i : Nat) (n : Int) (hi : i ≤ b.length) : ∃ (v : Int) (j : Nat) (bad' : Bool), Ev (fun k => spec_l15Read.l0 k n 42 b i bad) (v, (j : Int), bad') ∧ 0 ≤ v ∧ v < 4398046511104 ∧ i ≤ j ∧ j ≤ b.length ∧ (bad = true → bad' = true) :=
  ⟨0, i, true, Ev.step (f := fun _ => some (0, (i : Int), true)) (fun k => by rw [spec_l15Read.l0, if_neg (by decide)]) (Ev.now _), by omega, by omega, Nat.le_refl _, hi, fun _ => rfl⟩
theorem s1_35 (b : List Int) (bad : Bool) (i : Nat) (n u : Int) (rest : List Int) (hl : b.length ≤ 1048576) (hd : b.drop i = nl 4 u ++ rest) (hn0 : 0 ≤ n) (hn : n < 34359738368) (hu0 : 0 ≤ u) (hu : u < 128) : Ev (fun k => spec_l15Read.l0 k n 35 b i bad) (n + u * 34359738368, ((i + (nl 4 u).length : Nat) : Int), bad) := by
  rw [nl] at hd ⊢
  rw [if_neg (by omega)] at hd ⊢
  obtain ⟨hlt, hrd, hdr⟩ := drop_cons (show b.drop i = u :: rest from hd)
  refine Ev.step (f := fun _ => some (n + u * 34359738368, ((i + 1 : Nat) : Int), bad)) (fun k => ?_) (Ev.now _)
  rw [spec_l15Read.l0, if_pos (by decide), if_neg (by omega), if_pos (by omega), if_pos (by omega), if_pos (by decide), hrd, if_pos (by omega), sh_35 u hu0 (by omega), show u % 128 = u from by omega, wrap_succ i (by omega), show wrap64 (n + u * 34359738368) = n + u * 34359738368 from by unfold wrap64; omega]
theorem st_35 (b : List Int) (hb : ∀ j, 0 ≤ rd b j ∧ rd b j < 256) (hl : b.length ≤ 1048576) (bad : Bool) (i : Nat) (n : Int) (hn0 : 0 ≤ n) (hn : n < 34359738368) (hi : i ≤ b.length) : ∃ (v : Int) (j : Nat) (bad' : Bool), Ev (fun k => spec_l15Read.l0 k n 35 b i bad) (v, (j : Int), bad') ∧ 0 ≤ v ∧ v < 4398046511104 ∧ i ≤ j ∧ j ≤ b.length ∧ (bad = true → bad' = true) := by
  obtain ⟨hc0, hc1⟩ := hb (i : Int)
  by_cases h1 : i < b.length
  · by_cases h2 : rd b (i : Int) < 128
    · refine ⟨n + rd b (i : Int) % 128 * 34359738368, i + 1, bad, Ev.step (f := fun _ => some (n + rd b (i : Int) % 128 * 34359738368, ((i + 1 : Nat) : Int), bad)) (fun k => ?_) (Ev.now _), by omega, by omega, by omega, by omega, fun h => h⟩
      rw [spec_l15Read.l0, if_pos (by decide), if_neg (by omega), if_pos (by omega), if_pos (by omega), if_pos (by decide), if_pos h2, sh_35 _ hc0 hc1, wrap_succ i (by omega), show wrap64 (n + rd b (i : Int) % 128 * 34359738368) = n + rd b (i : Int) % 128 * 34359738368 from by unfold wrap64; omega]
    · obtain ⟨v, j, bad', he, h3⟩ := st_42 b bad (i + 1) (n + rd b (i : Int) % 128 * 34359738368) (by omega)
      refine ⟨v, j, bad', Ev.step (fun k => ?_) he, h3.1, h3.2.1, by omega, h3.2.2.2.1, h3.2.2.2.2⟩
      rw [spec_l15Read.l0, if_pos (by decide), if_neg (by omega), if_pos (by omega), if_pos (by omega), if_pos (by decide), if_neg h2, sh_35 _ hc0 hc1, wrap_succ i (by omega), show wrap64 (n + rd b (i : Int) % 128 * 34359738368) = n + rd b (i : Int) % 128 * 34359738368 from by unfold wrap64; omega, u64_7 35 (by decide) (by decide)]
      rfl
  · exact ⟨0, i, true, Ev.step (f := fun _ => some (0, (i : Int), true)) (fun k => by rw [spec_l15Read.l0, if_pos (by decide), if_pos (by omega)]) (Ev.now _), by omega, by omega, Nat.le_refl _, hi, fun _ => rfl⟩
theorem s1_28 (b : List Int) (bad : Bool) (i : Nat) (n u : Int) (rest : List Int) (hl : b.length ≤ 1048576) (hd : b.drop i = nl 5 u ++ rest) (hn0 : 0 ≤ n) (hn : n < 268435456) (hu0 : 0 ≤ u) (hu : u < 16384) : Ev (fun k => spec_l15Read.l0 k n 28 b i bad) (n + u * 268435456, ((i + (nl 5 u).length : Nat) : Int), bad) := by
  rw [nl] at hd ⊢
  by_cases hu1 : 128 ≤ u
  · rw [if_pos hu1] at hd ⊢
    obtain ⟨hlt, hrd, hdr⟩ := drop_cons (show b.drop i = (u % 128 + 128) :: (nl 4 (u / 128) ++ rest) from hd)
    have hr := s1_35 b bad (i + 1) (n + u % 128 * 268435456) (u / 128) rest hl hdr (by omega) (by omega) (by omega) (by omega)
    rw [show n + u % 128 * 268435456 + u / 128 * 34359738368 = n + u * 268435456 from by omega, show i + 1 + (nl 4 (u / 128)).length = i + ((nl 4 (u / 128)).length + 1) from by omega] at hr
    rw [List.length_cons]
    refine Ev.step (fun k => ?_) hr
    rw [spec_l15Read.l0, if_pos (by decide), if_neg (by omega), if_pos (by omega), if_pos (by omega), if_pos (by decide), hrd, if_neg (by omega), sh_28 (u % 128 + 128) (by omega) (by omega), show (u % 128 + 128) % 128 = u % 128 from by omega, wrap_succ i (by omega), show wrap64 (n + u % 128 * 268435456) = n + u % 128 * 268435456 from by unfold wrap64; omega, u64_7 28 (by decide) (by decide)]
    rfl
  · rw [if_neg hu1] at hd ⊢
    obtain ⟨hlt, hrd, hdr⟩ := drop_cons (show b.drop i = u :: rest from hd)
    refine Ev.step (f := fun _ => some (n + u * 268435456, ((i + 1 : Nat) : Int), bad)) (fun k => ?_) (Ev.now _)
    rw [spec_l15Read.l0, if_pos (by decide), if_neg (by omega), if_pos (by omega), if_pos (by omega), if_pos (by decide), hrd, if_pos (by omega), sh_28 u hu0 (by omega), show u % 128 = u from by omega, wrap_succ i (by omega), show wrap64 (n + u * 268435456) = n + u * 268435456 from by unfold wrap64; omega]
theorem st_28 (b : List Int) (hb : ∀ j, 0 ≤ rd b j ∧ rd b j < 256) (hl : b.length ≤ 1048576) (bad : Bool) (i : Nat) (n : Int) (hn0 : 0 ≤ n) (hn : n < 268435456) (hi : i ≤ b.length) : ∃ (v : Int) (j : Nat) (bad' : Bool), Ev (fun k => spec_l15Read.l0 k n 28 b i bad) (v, (j : Int), bad') ∧ 0 ≤ v ∧ v < 4398046511104 ∧ i ≤ j ∧ j ≤ b.length ∧ (bad = true → bad' = true) := by
  obtain ⟨hc0, hc1⟩ := hb (i : Int)
  by_cases h1 : i < b.length
  · by_cases h2 : rd b (i : Int) < 128
    · refine ⟨n + rd b (i : Int) % 128 * 268435456, i + 1, bad, Ev.step (f := fun _ => some (n + rd b (i : Int) % 128 * 268435456, ((i + 1 : Nat) : Int), bad)) (fun k => ?_) (Ev.now _), by omega, by omega, by omega, by omega, fun h => h⟩
      rw [spec_l15Read.l0, if_pos (by decide), if_neg (by omega), if_pos (by omega), if_pos (by omega), if_pos (by decide), if_pos h2, sh_28 _ hc0 hc1, wrap_succ i (by omega), show wrap64 (n + rd b (i : Int) % 128 * 268435456) = n + rd b (i : Int) % 128 * 268435456 from by unfold wrap64; omega]
    · obtain ⟨v, j, bad', he, h3⟩ := st_35 b hb hl bad (i + 1) (n + rd b (i : Int) % 128 * 268435456) (by omega) (by omega) (by omega)
      refine ⟨v, j, bad', Ev.step (fun k => ?_) he, h3.1, h3.2.1, by omega, h3.2.2.2.1, h3.2.2.2.2⟩
      rw [spec_l15Read.l0, if_pos (by decide), if_neg (by omega), if_pos (by omega), if_pos (by omega), if_pos (by decide), if_neg h2, sh_28 _ hc0 hc1, wrap_succ i (by omega), show wrap64 (n + rd b (i : Int) % 128 * 268435456) = n + rd b (i : Int) % 128 * 268435456 from by unfold wrap64; omega, u64_7 28 (by decide) (by decide)]
      rfl
  · exact ⟨0, i, true, Ev.step (f := fun _ => some (0, (i : Int), true)) (fun k => by rw [spec_l15Read.l0, if_pos (by decide), if_pos (by omega)]) (Ev.now _), by omega, by omega, Nat.le_refl _, hi, fun _ => rfl⟩
theorem s1_21 (b : List Int) (bad : Bool) (i : Nat) (n u : Int) (rest : List Int) (hl : b.length ≤ 1048576) (hd : b.drop i = nl 6 u ++ rest) (hn0 : 0 ≤ n) (hn : n < 2097152) (hu0 : 0 ≤ u) (hu : u < 2097152) : Ev (fun k => spec_l15Read.l0 k n 21 b i bad) (n + u * 2097152, ((i + (nl 6 u).length : Nat) : Int), bad) := by
  rw [nl] at hd ⊢
  by_cases hu1 : 128 ≤ u
  · rw [if_pos hu1] at hd ⊢
    obtain ⟨hlt, hrd, hdr⟩ := drop_cons (show b.drop i = (u % 128 + 128) :: (nl 5 (u / 128) ++ rest) from hd)
    have hr := s1_28 b bad (i + 1) (n + u % 128 * 2097152) (u / 128) rest hl hdr (by omega) (by omega) (by omega) (by omega)
    rw [show n + u % 128 * 2097152 + u / 128 * 268435456 = n + u * 2097152 from by omega, show i + 1 + (nl 5 (u / 128)).length = i + ((nl 5 (u / 128)).length + 1) from by omega] at hr
    rw [List.length_cons]
    refine Ev.step (fun k => ?_) hr
    rw [spec_l15Read.l0, if_pos (by decide), if_neg (by omega), if_pos (by omega), if_pos (by omega), if_pos (by decide), hrd, if_neg (by omega), sh_21 (u % 128 + 128) (by omega) (by omega), show (u % 128 + 128) % 128 = u % 128 from by omega, wrap_succ i (by omega), show wrap64 (n + u % 128 * 2097152) = n + u % 128 * 2097152 from by unfold wrap64; omega, u64_7 21 (by decide) (by decide)]
    rfl
  · rw [if_neg hu1] at hd ⊢
    obtain ⟨hlt, hrd, hdr⟩ := drop_cons (show b.drop i = u :: rest from hd)
    refine Ev.step (f := fun _ => some (n + u * 2097152, ((i + 1 : Nat) : Int), bad)) (fun k => ?_) (Ev.now _)
    rw [spec_l15Read.l0, if_pos (by decide), if_neg (by omega), if_pos (by omega), if_pos (by omega), if_pos (by decide), hrd, if_pos (by omega), sh_21 u hu0 (by omega), show u % 128 = u from by omega, wrap_succ i (by omega), show wrap64 (n + u * 2097152) = n + u * 2097152 from by unfold wrap64; omega]
theorem st_21 (b : List Int) (hb : ∀ j, 0 ≤ rd b j ∧ rd b j < 256) (hl : b.length ≤ 1048576) (bad : Bool) (i : Nat) (n : Int) (hn0 : 0 ≤ n) (hn : n < 2097152) (hi : i ≤ b.length) : ∃ (v : Int) (j : Nat) (bad' : Bool), Ev (fun k => spec_l15Read.l0 k n 21 b i bad) (v, (j : Int), bad') ∧ 0 ≤ v ∧ v < 4398046511104 ∧ i ≤ j ∧ j ≤ b.length ∧ (bad = true → bad' = true) := by
  obtain ⟨hc0, hc1⟩ := hb (i : Int)
  by_cases h1 : i < b.length
  · by_cases h2 : rd b (i : Int) < 128
    · refine ⟨n + rd b (i : Int) % 128 * 2097152, i + 1, bad, Ev.step (f := fun _ => some (n + rd b (i : Int) % 128 * 2097152, ((i + 1 : Nat) : Int), bad)) (fun k => ?_) (Ev.now _), by omega, by omega, by omega, by omega, fun h => h⟩
      rw [spec_l15Read.l0, if_pos (by decide), if_neg (by omega), if_pos (by omega), if_pos (by omega), if_pos (by decide), if_pos h2, sh_21 _ hc0 hc1, wrap_succ i (by omega), show wrap64 (n + rd b (i : Int) % 128 * 2097152) = n + rd b (i : Int) % 128 * 2097152 from by unfold wrap64; omega]
    · obtain ⟨v, j, bad', he, h3⟩ := st_28 b hb hl bad (i + 1) (n + rd b (i : Int) % 128 * 2097152) (by omega) (by omega) (by omega)
      refine ⟨v, j, bad', Ev.step (fun k => ?_) he, h3.1, h3.2.1, by omega, h3.2.2.2.1, h3.2.2.2.2⟩
      rw [spec_l15Read.l0, if_pos (by decide), if_neg (by omega), if_pos (by omega), if_pos (by omega), if_pos (by decide), if_neg h2, sh_21 _ hc0 hc1, wrap_succ i (by omega), show wrap64 (n + rd b (i : Int) % 128 * 2097152) = n + rd b (i : Int) % 128 * 2097152 from by unfold wrap64; omega, u64_7 21 (by decide) (by decide)]
      rfl
  · exact ⟨0, i, true, Ev.step (f := fun _ => some (0, (i : Int), true)) (fun k => by rw [spec_l15Read.l0, if_pos (by decide), if_pos (by omega)]) (Ev.now _), by omega, by omega, Nat.le_refl _, hi, fun _ => rfl⟩
theorem s1_14 (b : List Int) (bad : Bool) (i : Nat) (n u : Int) (rest : List Int) (hl : b.length ≤ 1048576) (hd : b.drop i = nl 7 u ++ rest) (hn0 : 0 ≤ n) (hn : n < 16384) (hu0 : 0 ≤ u) (hu : u < 268435456) : Ev (fun k => spec_l15Read.l0 k n 14 b i bad) (n + u * 16384, ((i + (nl 7 u).length : Nat) : Int), bad) := by
  rw [nl] at hd ⊢
  by_cases hu1 : 128 ≤ u
  · rw [if_pos hu1] at hd ⊢
    obtain ⟨hlt, hrd, hdr⟩ := drop_cons (show b.drop i = (u % 128 + 128) :: (nl 6 (u / 128) ++ rest) from hd)
    have hr := s1_21 b bad (i + 1) (n + u % 128 * 16384) (u / 128) rest hl hdr (by omega) (by omega) (by omega) (by omega)
    rw [show n + u % 128 * 16384 + u / 128 * 2097152 = n + u * 16384 from by omega, show i + 1 + (nl 6 (u / 128)).length = i + ((nl 6 (u / 128)).length + 1) from by omega] at hr
    rw [List.length_cons]
    refine Ev.step (fun k => ?_) hr
    rw [spec_l15Read.l0, if_pos (by decide), if_neg (by omega), if_pos (by omega), if_pos (by omega), if_pos (by decide), hrd, if_neg (by omega), sh_14 (u % 128 + 128) (by omega) (by omega), show (u % 128 + 128) % 128 = u % 128 from by omega, wrap_succ i (by omega), show wrap64 (n + u % 128 * 16384) = n + u % 128 * 16384 from by unfold wrap64; omega, u64_7 14 (by decide) (by decide)]
    rfl
  · rw [if_neg hu1] at hd ⊢
    obtain ⟨hlt, hrd, hdr⟩ := drop_cons (show b.drop i = u :: rest from hd)
    refine Ev.step (f := fun _ => some (n + u * 16384, ((i + 1 : Nat) : Int), bad)) (fun k => ?_) (Ev.now _)
    rw [spec_l15Read.l0, if_pos (by decide), if_neg (by omega), if_pos (by omega), if_pos (by omega), if_pos (by decide), hrd, if_pos (by omega), sh_14 u hu0 (by omega), show u % 128 = u from by omega, wrap_succ i (by omega), show wrap64 (n + u * 16384) = n + u * 16384 from by unfold wrap64; omega]
theorem st_14 (b : List Int) (hb : ∀ j, 0 ≤ rd b j ∧ rd b j < 256) (hl : b.length ≤ 1048576) (bad : Bool) (i : Nat) (n : Int) (hn0 : 0 ≤ n) (hn : n < 16384) (hi : i ≤ b.length) : ∃ (v : Int) (j : Nat) (bad' : Bool), Ev (fun k => spec_l15Read.l0 k n 14 b i bad) (v, (j : Int), bad') ∧ 0 ≤ v ∧ v < 4398046511104 ∧ i ≤ j ∧ j ≤ b.length ∧ (bad = true → bad' = true) := by
  obtain ⟨hc0, hc1⟩ := hb (i : Int)
  by_cases h1 : i < b.length
  · by_cases h2 : rd b (i : Int) < 128
    · refine ⟨n + rd b (i : Int) % 128 * 16384, i + 1, bad, Ev.step (f := fun _ => some (n + rd b (i : Int) % 128 * 16384, ((i + 1 : Nat) : Int), bad)) (fun k => ?_) (Ev.now _), by omega, by omega, by omega, by omega, fun h => h⟩
      rw [spec_l15Read.l0, if_pos (by decide), if_neg (by omega), if_pos (by omega), if_pos (by omega), if_pos (by decide), if_pos h2, sh_14 _ hc0 hc1, wrap_succ i (by omega), show wrap64 (n + rd b (i : Int) % 128 * 16384) = n + rd b (i : Int) % 128 * 16384 from by unfold wrap64; omega]
    · obtain ⟨v, j, bad', he, h3⟩ := st_21 b hb hl bad (i + 1) (n + rd b (i : Int) % 128 * 16384) (by omega) (by omega) (by omega)
      refine ⟨v, j, bad', Ev.step (fun k => ?_) he, h3.1, h3.2.1, by omega, h3.2.2.2.1, h3.2.2.2.2⟩
      rw [spec_l15Read.l0, if_pos (by decide), if_neg (by omega), if_pos (by omega), if_pos (by omega), if_pos (by decide), if_neg h2, sh_14 _ hc0 hc1, wrap_succ i (by omega), show wrap64 (n + rd b (i : Int) % 128 * 16384) = n + rd b (i : Int) % 128 * 16384 from by unfold wrap64; omega, u64_7 14 (by decide) (by decide)]
      rfl
  · exact ⟨0, i, true, Ev.step (f := fun _ => some (0, (i : Int), true)) (fun k => by rw [spec_l15Read.l0, if_pos (by decide), if_pos (by omega)]) (Ev.now _), by omega, by omega, Nat.le_refl _, hi, fun _ => rfl⟩
theorem s1_7 (b : List Int) (bad : Bool) (i : Nat) (n u : Int) (rest : List Int) (hl : b.length ≤ 1048576) (hd : b.drop i = nl 8 u ++ rest) (hn0 : 0 ≤ n) (hn : n < 128) (hu0 : 0 ≤ u) (hu : u < 34359738368) : Ev (fun k => spec_l15Read.l0 k n 7 b i bad) (n + u * 128, ((i + (nl 8 u).length : Nat) : Int), bad) := by
  rw [nl] at hd ⊢
  by_cases hu1 : 128 ≤ u
  · rw [if_pos hu1] at hd ⊢
    obtain ⟨hlt, hrd, hdr⟩ := drop_cons (show b.drop i = (u % 128 + 128) :: (nl 7 (u / 128) ++ rest) from hd)
    have hr := s1_14 b bad (i + 1) (n + u % 128 * 128) (u / 128) rest hl hdr (by omega) (by omega) (by omega) (by omega)
    rw [show n + u % 128 * 128 + u / 128 * 16384 = n + u * 128 from by omega, show i + 1 + (nl 7 (u / 128)).length = i + ((nl 7 (u / 128)).length + 1) from by omega] at hr
    rw [List.length_cons]
    refine Ev.step (fun k => ?_) hr
    rw [spec_l15Read.l0, if_pos (by decide), if_neg (by omega), if_pos (by omega), if_pos (by omega), if_pos (by decide), hrd, if_neg (by omega), sh_7 (u % 128 + 128) (by omega) (by omega), show (u % 128 + 128) % 128 = u % 128 from by omega, wrap_succ i (by omega), show wrap64 (n + u % 128 * 128) = n + u % 128 * 128 from by unfold wrap64; omega, u64_7 7 (by decide) (by decide)]
    rfl
  · rw [if_neg hu1] at hd ⊢
    obtain ⟨hlt, hrd, hdr⟩ := drop_cons (show b.drop i = u :: rest from hd)
    refine Ev.step (f := fun _ => some (n + u * 128, ((i + 1 : Nat) : Int), bad)) (fun k => ?_) (Ev.now _)
    rw [spec_l15Read.l0, if_pos (by decide), if_neg (by omega), if_pos (by omega), if_pos (by omega), if_pos (by decide), hrd, if_pos (by omega), sh_7 u hu0 (by omega), show u % 128 = u from by omega, wrap_succ i (by omega), show wrap64 (n + u * 128) = n + u * 128 from by unfold wrap64; omega]
theorem st_7 (b : List Int) (hb : ∀ j, 0 ≤ rd b j ∧ rd b j < 256) (hl : b.length ≤ 1048576) (bad : Bool) (i : Nat) (n : Int) (hn0 : 0 ≤ n) (hn : n < 128) (hi : i ≤ b.length) : ∃ (v : Int) (j : Nat) (bad' : Bool), Ev (fun k => spec_l15Read.l0 k n 7 b i bad) (v, (j : Int), bad') ∧ 0 ≤ v ∧ v < 4398046511104 ∧ i ≤ j ∧ j ≤ b.length ∧ (bad = true → bad' = true) := by
  obtain ⟨hc0, hc1⟩ := hb (i : Int)
  by_cases h1 : i < b.length
  · by_cases h2 : rd b (i : Int) < 128
    · refine ⟨n + rd b (i : Int) % 128 * 128, i + 1, bad, Ev.step (f := fun _ => some (n + rd b (i : Int) % 128 * 128, ((i + 1 : Nat) : Int), bad)) (fun k => ?_) (Ev.now _), by omega, by omega, by omega, by omega, fun h => h⟩
      rw [spec_l15Read.l0, if_pos (by decide), if_neg (by omega), if_pos (by omega), if_pos (by omega), if_pos (by decide), if_pos h2, sh_7 _ hc0 hc1, wrap_succ i (by omega), show wrap64 (n + rd b (i : Int) % 128 * 128) = n + rd b (i : Int) % 128 * 128 from by unfold wrap64; omega]
    · obtain ⟨v, j, bad', he, h3⟩ := st_14 b hb hl bad (i + 1) (n + rd b (i : Int) % 128 * 128) (by omega) (by omega) (by omega)
      refine ⟨v, j, bad', Ev.step (fun k => ?_) he, h3.1, h3.2.1, by omega, h3.2.2.2.1, h3.2.2.2.2⟩
      rw [spec_l15Read.l0, if_pos (by decide), if_neg (by omega), if_pos (by omega), if_pos (by omega), if_pos (by decide), if_neg h2, sh_7 _ hc0 hc1, wrap_succ i (by omega), show wrap64 (n + rd b (i : Int) % 128 * 128) = n + rd b (i : Int) % 128 * 128 from by unfold wrap64; omega, u64_7 7 (by decide) (by decide)]
      rfl
  · exact ⟨0, i, true, Ev.step (f := fun _ => some (0, (i : Int), true)) (fun k => by rw [spec_l15Read.l0, if_pos (by decide), if_pos (by omega)]) (Ev.now _), by omega, by omega, Nat.le_refl _, hi, fun _ => rfl⟩
theorem s1_0 (b : List Int) (bad : Bool) (i : Nat) (n u : Int) (rest : List Int) (hl : b.length ≤ 1048576) (hd : b.drop i = nl 9 u ++ rest) (hn0 : 0 ≤ n) (hn : n < 1) (hu0 : 0 ≤ u) (hu : u < 4398046511104) : Ev (fun k => spec_l15Read.l0 k n 0 b i bad) (n + u * 1, ((i + (nl 9 u).length : Nat) : Int), bad) := by
  rw [nl] at hd ⊢
  by_cases hu1 : 128 ≤ u
  · rw [if_pos hu1] at hd ⊢
    obtain ⟨hlt, hrd, hdr⟩ := drop_cons (show b.drop i = (u % 128 + 128) :: (nl 8 (u / 128) ++ rest) from hd)
    have hr := s1_7 b bad (i + 1) (n + u % 128 * 1) (u / 128) rest hl hdr (by omega) (by omega) (by omega) (by omega)
    rw [show n + u % 128 * 1 + u / 128 * 128 = n + u * 1 from by omega, show i + 1 + (nl 8 (u / 128)).length = i + ((nl 8 (u / 128)).length + 1) from by omega] at hr
    rw [List.length_cons]
    refine Ev.step (fun k => ?_) hr
    rw [spec_l15Read.l0, if_pos (by decide), if_neg (by omega), if_pos (by omega), if_pos (by omega), if_pos (by decide), hrd, if_neg (by omega), sh_0 (u % 128 + 128) (by omega) (by omega), show (u % 128 + 128) % 128 = u % 128 from by omega, wrap_succ i (by omega), show wrap64 (n + u % 128 * 1) = n + u % 128 * 1 from by unfold wrap64; omega, u64_7 0 (by decide) (by decide)]
    rfl
  · rw [if_neg hu1] at hd ⊢
    obtain ⟨hlt, hrd, hdr⟩ := drop_cons (show b.drop i = u :: rest from hd)
    refine Ev.step (f := fun _ => some (n + u * 1, ((i + 1 : Nat) : Int), bad)) (fun k => ?_) (Ev.now _)
    rw [spec_l15Read.l0, if_pos (by decide), if_neg (by omega), if_pos (by omega), if_pos (by omega), if_pos (by decide), hrd, if_pos (by omega), sh_0 u hu0 (by omega), show u % 128 = u from by omega, wrap_succ i (by omega), show wrap64 (n + u * 1) = n + u * 1 from by unfold wrap64; omega]
theorem st_0 (b : List Int) (hb : ∀ j, 0 ≤ rd b j ∧ rd b j < 256) (hl : b.length ≤ 1048576) (bad : Bool) (i : Nat) (n : Int) (hn0 : 0 ≤ n) (hn : n < 1) (hi : i ≤ b.length) : ∃ (v : Int) (j : Nat) (bad' : Bool), Ev (fun k => spec_l15Read.l0 k n 0 b i bad) (v, (j : Int), bad') ∧ 0 ≤ v ∧ v < 4398046511104 ∧ i ≤ j ∧ j ≤ b.length ∧ (bad = true → bad' = true) := by
  obtain ⟨hc0, hc1⟩ := hb (i : Int)
  by_cases h1 : i < b.length
  · by_cases h2 : rd b (i : Int) < 128
    · refine ⟨n + rd b (i : Int) % 128 * 1, i + 1, bad, Ev.step (f := fun _ => some (n + rd b (i : Int) % 128 * 1, ((i + 1 : Nat) : Int), bad)) (fun k => ?_) (Ev.now _), by omega, by omega, by omega, by omega, fun h => h⟩
      rw [spec_l15Read.l0, if_pos (by decide), if_neg (by omega), if_pos (by omega), if_pos (by omega), if_pos (by decide), if_pos h2, sh_0 _ hc0 hc1, wrap_succ i (by omega), show wrap64 (n + rd b (i : Int) % 128 * 1) = n + rd b (i : Int) % 128 * 1 from by unfold wrap64; omega]
    · obtain ⟨v, j, bad', he, h3⟩ := st_7 b hb hl bad (i + 1) (n + rd b (i : Int) % 128 * 1) (by omega) (by omega) (by omega)
      refine ⟨v, j, bad', Ev.step (fun k => ?_) he, h3.1, h3.2.1, by omega, h3.2.2.2.1, h3.2.2.2.2⟩
      rw [spec_l15Read.l0, if_pos (by decide), if_neg (by omega), if_pos (by omega), if_pos (by omega), if_pos (by decide), if_neg h2, sh_0 _ hc0 hc1, wrap_succ i (by omega), show wrap64 (n + rd b (i : Int) % 128 * 1) = n + rd b (i : Int) % 128 * 1 from by unfold wrap64; omega, u64_7 0 (by decide) (by decide)]
      rfl
  · exact ⟨0, i, true, Ev.step (f := fun _ => some (0, (i : Int), true)) (fun k => by rw [spec_l15Read.l0, if_pos (by decide), if_pos (by omega)]) (Ev.now _), by omega, by omega, Nat.le_refl _, hi, fun _ => rfl⟩
theorem read_of (b : List Int) (bad : Bool) (i : Nat) (u : Int) (rest : List Int) (hl : b.length ≤ 1048576) (hd : b.drop i = NL u ++ rest) (h0 : 0 ≤ u) (h1 : u < 4398046511104) : Ev (fun k => spec_l15Read.f k b i bad) (u, ((i + (NL u).length : Nat) : Int), bad) := by
  have h := s1_0 b bad i 0 u rest hl hd (by omega) (by omega) h0 h1
  rw [show (0 : Int) + u * 1 = u from by omega] at h
  exact h
theorem read_any (b : List Int) (hb : ∀ j, 0 ≤ rd b j ∧ rd b j < 256) (hl : b.length ≤ 1048576) (bad : Bool) (i : Nat) (hi : i ≤ b.length) : ∃ (v : Int) (j : Nat) (bad' : Bool), Ev (fun k => spec_l15Read.f k b i bad) (v, (j : Int), bad') ∧ 0 ≤ v ∧ v < 4398046511104 ∧ i ≤ j ∧ j ≤ b.length ∧ (bad = true → bad' = true) := st_0 b hb hl bad i 0 (by omega) (by omega) hi
end Go.Proofs.Ytngmkpediibhjaa.Pure
