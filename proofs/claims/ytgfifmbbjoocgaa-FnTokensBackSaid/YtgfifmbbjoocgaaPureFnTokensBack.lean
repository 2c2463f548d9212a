/- The pure statement of FnTokensBack: the tokens of a text, shown and scanned again, are the same tokens. No condition. -/
import Derived.Test.YtgfifmbbjoocgaaPFnTokensBackx7
import Derived.Test.YtgfifmbbjoocgaaKit
namespace Go.Proofs.Ytgfifmbbjoocgaa.Pure
open Go.RowKit Go.Proofs.Ytgfifmbbjoocgaa.PFnTokensBack Go.Proofs.Ytgfifmbbjoocgaa.Kit Go.Proofs.YtgfifmbbjoocgaaW.PrintWords Go.Proofs.YtgfifmbbjoocgaaW.PrintLast Go.Proofs.YtgfifmbbjoocgaaW.PrintMore
set_option linter.unusedVariables false
set_option linter.unusedSimpArgs false
set_option linter.unusedSectionVars false

def okc (c : Int) : Bool := !decide (c < 0) && !decide (c > 15)
def catsB (l : List Int) : Bool := l.all okc && ((l.length : Int) == 256)
theorem impl_l0 (l : List Int) (hl : l.length ≤ 1048576) : ∀ d k i : Nat, l.length - i = d → i ≤ l.length → d < k → impl_CatsOk.l0 k l l (l.length : Int) i = some ((l.drop i).all okc && ((l.length : Int) == 256)) := by
  intro d
  induction d with
  | zero =>
    intro k i hd hi hk
    obtain ⟨k, rfl⟩ : ∃ m, k = m + 1 := ⟨k - 1, by omega⟩
    rw [impl_CatsOk.l0, if_neg (by omega), List.drop_of_length_le (by omega)]
    simp
  | succ d ih =>
    intro k i hd hi hk
    obtain ⟨k, rfl⟩ : ∃ m, k = m + 1 := ⟨k - 1, by omega⟩
    rw [impl_CatsOk.l0, if_pos (by omega), if_pos (by omega), if_pos (by omega), drop_rd l i (by omega), List.all_cons]
    by_cases h1 : rd l (i : Int) < 0
    · rw [if_pos h1]; simp [okc, h1]
    · rw [if_neg h1]
      by_cases h2 : rd l (i : Int) > 15
      · rw [if_pos h2]; simp [okc, h2]
      · rw [if_neg h2, wrap_succ i (by omega), ih k (i + 1) (by omega) (by omega) (by omega)]
        have e : okc (rd l (i : Int)) = true := by simp [okc]; omega
        rw [e, Bool.true_and]
theorem cats_i (l : List Int) (hl : l.length ≤ 1048576) (k : Nat) (hk : l.length < k) : impl_CatsOk.f k l = some (catsB l) := by
  unfold impl_CatsOk.f catsB
  simpa using impl_l0 l hl l.length k 0 (by omega) (by omega) hk
theorem cats_at (l : List Int) (h : catsB l = true) : l.length = 256 ∧ ∀ c : Int, 0 ≤ c → c < 256 → 0 ≤ rd l c ∧ rd l c ≤ 15 := by
  simp only [catsB, Bool.and_eq_true, beq_iff_eq] at h
  refine ⟨by omega, fun c h0 h1 => ?_⟩
  obtain ⟨n, rfl⟩ := Int.eq_ofNat_of_zero_le h0
  rw [rd_nat l n (by omega)]
  have := List.all_eq_true.1 h.1 _ (List.getElem_mem (show n < l.length by omega))
  simp only [okc, Bool.and_eq_true, Bool.not_eq_true', decide_eq_false_iff_not] at this
  omega
theorem clone_f (s : ByteArray) (h : s.size ≤ 140737488351232) : strings_Clone.f s = some s := by
  unfold strings_Clone.f stringslite_Clone.f
  rw [if_pos h]
  rfl
theorem extract_le (s : ByteArray) (a b : Nat) : (s.extract a b).size ≤ s.size := by
  rw [ByteArray.size_extract]
  omega
theorem extract_none (s : ByteArray) (a : Nat) : s.extract a a = (⟨#[]⟩ : ByteArray) := by
  apply ByteArray.ext
  apply Array.eq_empty_of_size_eq_zero
  have : (s.extract a a).size = 0 := by rw [ByteArray.size_extract]; omega
  exact this
abbrev Sc := Int × Int × Int × ByteArray × Int × Int

theorem next_no (l : List Int) (s : ByteArray) (a st : Int) (hl : l.length ≤ 1048576) (h : catsB l = false ∨ s.size > 65536) (k : Nat) (hk : l.length + 300 < k) : impl_Next.f k l s a st = some (3, 0, 0, (⟨#[]⟩ : ByteArray), 0, 0) := by
  have no : ∀ k, 0 < k → impl_Next.j0 k l s a st true = some (3, 0, 0, (⟨#[]⟩ : ByteArray), 0, 0) := by
    intro k hk
    obtain ⟨k, rfl⟩ : ∃ m, k = m + 1 := ⟨k - 1, by omega⟩
    rw [impl_Next.j0, if_pos rfl]
  unfold impl_Next.f
  rw [cats_i l hl k (by omega)]
  simp only [Option.bind_some]
  rcases h with h | h
  · rw [h, if_neg (by simp), no k (by omega)]
  · cases catsB l
    · rw [if_neg (by simp), no k (by omega)]
    · rw [if_pos rfl, if_pos (by omega), no k (by omega)]
theorem toList_loop (u : ByteArray) : ∀ d i (r : List UInt8), u.size - i = d → (ByteArray.toList.loop u i r).length = r.length + d := by
  intro d
  induction d with
  | zero =>
    intro i r h
    rw [ByteArray.toList.loop.eq_def, if_neg (by omega)]
    simp
  | succ d ih =>
    intro i r h
    rw [ByteArray.toList.loop.eq_def, if_pos (by omega), ih (i + 1) _ (by omega)]
    simp; omega
theorem toList_nil (u : ByteArray) : u.toList = [] ↔ u.size = 0 := by
  have h : u.toList.length = u.size := by
    unfold ByteArray.toList
    rw [toList_loop u u.size 0 [] (by omega)]
    simp
  constructor
  · intro e; rw [e] at h; exact h.symm
  · intro e; exact List.eq_nil_of_length_eq_zero (by omega)

theorem tok_tot (c x : Int) (n : ByteArray) : ∃ b, impl_TokenOk.f c x n = some b := by
  have h1 : ∃ b, impl_isName.f c x n = some b := by
    unfold impl_isName.f
    repeat' split
    all_goals exact ⟨_, rfl⟩
  have h2 : ∃ b, impl_isChar.f c x n = some b := by
    unfold impl_isChar.f
    repeat' split
    all_goals exact ⟨_, rfl⟩
  have h3 : ∃ b, impl_isSlot.f c x n = some b := by
    unfold impl_isSlot.f
    repeat' split
    all_goals exact ⟨_, rfl⟩
  obtain ⟨b1, h1⟩ := h1
  obtain ⟨b2, h2⟩ := h2
  obtain ⟨b3, h3⟩ := h3
  unfold impl_TokenOk.f
  simp only [h1, h2, h3, Option.bind_some]
  repeat' split
  all_goals exact ⟨_, rfl⟩
def tokB (c x : Int) (n : ByteArray) : Bool := (impl_TokenOk.f c x n).getD false
theorem tok_i (c x : Int) (n : ByteArray) : impl_TokenOk.f c x n = some (tokB c x n) := by
  obtain ⟨b, h⟩ := tok_tot c x n
  unfold tokB
  rw [h]
  rfl
theorem nums_app (x y : List Int) : strOfNums (x ++ y) = strOfNums x ++ strOfNums y := by
  apply ByteArray.ext
  simp [strOfNums]
theorem nums_size (x : List Int) : (strOfNums x).size = x.length := by simp [strOfNums, ByteArray.size]
theorem nums_of (s : ByteArray) : strOfNums (bytesOf s) = s := by
  apply ByteArray.ext
  have h : ((fun n : Int => UInt8.ofNat n.toNat) ∘ fun b : UInt8 => (b.toNat : Int)) = id := by
    funext b
    simp
  simp only [strOfNums, bytesOf, List.map_map, h, List.map_id, Array.toArray_toList]
theorem app_assoc (a b c : ByteArray) : (a ++ b) ++ c = a ++ (b ++ c) := by
  apply ByteArray.ext
  simp
theorem app_nil (a : ByteArray) : a ++ strOfNums [] = a := by
  apply ByteArray.ext
  simp [strOfNums]
def letB (c : Int) : Bool := (decide (97 ≤ c) && decide (c ≤ 122)) || (decide (65 ≤ c) && decide (c ≤ 90))
theorem let_i (c : Int) : impl_isLetter.f c = some (letB c) := by
  unfold impl_isLetter.f letB
  repeat' split
  all_goals congr 1
  all_goals rw [Bool.eq_iff_iff]
  all_goals simp
  all_goals omega
def lastB (s : ByteArray) : Bool := decide (0 < s.size) && letB (bt s ((s.size : Int) - 1))
def showL (t : S42) : List Int := if t.f0 = 0 then 92 :: (bytesOf t.f2 ++ if lastB t.f2 = true then [32] else []) else if t.f0 = 16 then [35, (wrap64 (48 + t.f1)) % 256] else [t.f1 % 256]
theorem showL_len (t : S42) (h : t.f2.size ≤ 40) : (showL t).length ≤ 42 := by
  unfold showL
  split
  · rw [List.length_cons, List.length_append, bytesOf_length]
    split <;> simp <;> omega
  · split <;> simp
theorem show_i (t : S42) (hn : t.f2.size ≤ 40) : impl_show.f t.f0 t.f1 t.f2 = some (strOfNums (showL t)) := by
  have e92 : (⟨#[92]⟩ : ByteArray) = strOfNums [92] := rfl
  have e32 : (⟨#[32]⟩ : ByteArray) = strOfNums [32] := rfl
  have e35 : (⟨#[35]⟩ : ByteArray) = strOfNums [35] := rfl
  unfold impl_show.f showL
  by_cases h0 : t.f0 = 0
  · rw [if_pos h0, if_pos h0]
    have hw : wrap64 ((t.f2.size : Int) - 1) = (t.f2.size : Int) - 1 := wrap_in _ (by omega) (by omega)
    have hc : (92 : Int) :: (bytesOf t.f2 ++ if lastB t.f2 = true then [32] else []) = [92] ++ (bytesOf t.f2 ++ if lastB t.f2 = true then [32] else []) := rfl
    rw [hc, nums_app, nums_app, nums_of]
    by_cases hp : (t.f2.size : Int) > 0
    · rw [if_pos hp, hw, if_pos (by omega), if_pos (by omega), let_i, Option.bind_some]
      have hl : lastB t.f2 = letB (bt t.f2 ((t.f2.size : Int) - 1)) := by unfold lastB; rw [decide_eq_true (by omega)]; rfl
      rw [hl]
      cases letB (bt t.f2 ((t.f2.size : Int) - 1)) with
      | true =>
        rw [if_pos rfl, if_pos rfl, if_pos (by omega), if_pos (by rw [ByteArray.size_append]; show 1 + t.f2.size + 1 ≤ _; omega), e92, e32, app_assoc]
      | false =>
        rw [if_neg (show ¬ (false = true) by decide), if_neg (show ¬ (false = true) by decide), if_pos (by omega), e92, app_nil]
    · have hl : lastB t.f2 = false := by unfold lastB; rw [decide_eq_false (by omega)]; rfl
      rw [if_neg hp, if_pos (by omega), hl, if_neg (by decide), e92, app_nil]
  · rw [if_neg h0, if_neg h0]
    by_cases h16 : t.f0 = 16
    · rw [if_pos h16, if_pos h16, Option.bind_some, if_pos (by rw [nums_size]; show 1 + 1 ≤ _; omega), e35]
      have hc : [35, (wrap64 (48 + t.f1)) % 256] = [35] ++ [(wrap64 (48 + t.f1)) % 256] := rfl
      rw [hc, nums_app]
    · rw [if_neg h16, if_neg h16]
theorem all_i (l : List S42) (hl : l.length ≤ 1048576) (hn : ∀ x ∈ l, x.f2.size ≤ 40) : ∀ d k i : Nat, ∀ y : ByteArray, l.length - i = d → i ≤ l.length → d < k → y.size + 42 * d ≤ 100000000 → impl_showAll.l0 k l i y = some (y ++ strOfNums ((l.drop i).map showL).flatten) := by
  intro d
  induction d with
  | zero =>
    intro k i y hd hi hk hy
    obtain ⟨k, rfl⟩ : ∃ m, k = m + 1 := ⟨k - 1, by omega⟩
    rw [impl_showAll.l0, if_neg (by omega), List.drop_of_length_le (by omega)]
    congr 1
    apply ByteArray.ext
    simp [strOfNums]
  | succ d ih =>
    intro k i y hd hi hk hy
    obtain ⟨k, rfl⟩ : ∃ m, k = m + 1 := ⟨k - 1, by omega⟩
    have hlt : i < l.length := by omega
    have hr : rd_T42 l (i : Int) = l[i] := by simp [rd_T42, hlt]
    have hx := hn l[i] (List.getElem_mem hlt)
    have hs := showL_len l[i] hx
    rw [impl_showAll.l0, if_pos (by omega), if_pos (by omega), hr, show_i _ hx, Option.bind_some, if_pos (by rw [nums_size]; omega)]
    have hw : wrap64 ((i : Int) + 1) = ((i + 1 : Nat) : Int) := wrap_succ i (by omega)
    rw [hw, ih k (i + 1) _ (by omega) (by omega) (by omega) (by rw [ByteArray.size_append, nums_size]; omega)]
    rw [List.drop_eq_getElem_cons hlt, List.map_cons, List.flatten_cons, nums_app]
    congr 1
    apply ByteArray.ext
    simp [strOfNums]
theorem showAll_f (l : List S42) (hl : l.length ≤ 1048576) (hn : ∀ x ∈ l, x.f2.size ≤ 40) (k : Nat) (hk : l.length < k) : impl_showAll.f k l = some (strOfNums (l.map showL).flatten) := by
  unfold impl_showAll.f
  have h := all_i l hl hn l.length k 0 ByteArray.empty (by omega) (by omega) (by omega) (by show 0 + _ ≤ _; omega)
  rw [show (0 : Int) = ((0 : Nat) : Int) from rfl, h, List.drop_zero]
  congr 1
  first | done | (apply ByteArray.ext; simp [strOfNums])
def okT (t : S42) : Bool := tokB t.f0 t.f1 t.f2
theorem oks_i (l : List S42) (hl : l.length ≤ 1048576) : ∀ d k i : Nat, l.length - i = d → i ≤ l.length → d < k → impl_tokensOk.l0 k l (l.length : Int) i = some ((l.drop i).all okT) := by
  intro d
  induction d with
  | zero =>
    intro k i hd hi hk
    obtain ⟨k, rfl⟩ : ∃ m, k = m + 1 := ⟨k - 1, by omega⟩
    rw [impl_tokensOk.l0, if_neg (by omega), List.drop_of_length_le (by omega)]
    rfl
  | succ d ih =>
    intro k i hd hi hk
    obtain ⟨k, rfl⟩ : ∃ m, k = m + 1 := ⟨k - 1, by omega⟩
    have hlt : i < l.length := by omega
    have hr : rd_T42 l (i : Int) = l[i] := by simp [rd_T42, hlt]
    rw [impl_tokensOk.l0, if_pos (by omega), if_pos (by omega), if_pos (by omega), hr, tok_i, Option.bind_some, List.drop_eq_getElem_cons hlt, List.all_cons]
    show (if okT l[i] = true then _ else _) = _
    cases okT l[i] with
    | true =>
      have hw : wrap64 ((i : Int) + 1) = ((i + 1 : Nat) : Int) := wrap_succ i (by omega)
      rw [if_pos rfl, hw, ih k (i + 1) (by omega) (by omega) (by omega)]
      simp
    | false => simp
theorem ok_size (t : S42) (h : okT t = true) : t.f2.size ≤ 40 := by
  unfold okT at h
  have e := tok_i t.f0 t.f1 t.f2
  rw [h] at e
  by_cases h0 : t.f0 = 0
  · unfold impl_TokenOk.f impl_isName.f impl_isChar.f impl_isSlot.f at e
    by_cases hs : (t.f2.size : Int) ≤ 40
    · omega
    · exfalso
      rw [h0] at e
      simp [hs] at e
  · have hz : t.f2.toList = [] := by
      by_cases hz : t.f2.toList = []
      · exact hz
      · exfalso
        unfold impl_TokenOk.f impl_isName.f impl_isChar.f impl_isSlot.f at e
        simp [h0, hz] at e
    have := (toList_nil t.f2).1 hz
    omega
theorem and_small (x : Int) (m : Nat) (h : m < 9223372036854775808) : 0 ≤ Go.bits .and .i64 x m ∧ Go.bits .and .i64 x m ≤ m := by
  have e : Go.bits .and .i64 x m = Go.IntKind.i64.wrap ((BitVec.ofInt 64 x &&& BitVec.ofInt 64 (m : Int)).toNat : Int) := rfl
  have h1 : (BitVec.ofInt 64 x &&& BitVec.ofInt 64 (m : Int)).toNat ≤ m := by
    rw [BitVec.toNat_and]
    refine Nat.le_trans Nat.and_le_right ?_
    simp
    omega
  rw [e, i64_w, wrap_in _ (by omega) (by omega)]
  omega
theorem and_255 (x : Int) : 0 ≤ Go.bits .and .i64 x 255 ∧ Go.bits .and .i64 x 255 ≤ 255 := and_small x 255 (by omega)
section
variable (l : List Int) (hl : l.length ≤ 1048576)
include hl
theorem byte_ok (p h : Int) (h0 : 0 ≤ p) (h1 : p ≤ l.length) : ∃ (v p' h' : Int), spec_l1Byte.f l p h = some (v, p', h') ∧ 0 ≤ v ∧ v ≤ 255 ∧ 0 ≤ p' ∧ p' ≤ l.length := by
  unfold spec_l1Byte.f
  by_cases hlt : p < (l.length : Int)
  · rw [if_pos hlt, if_pos h0, wrap_in (p + 1) (by omega) (by omega)]
    exact ⟨_, _, _, rfl, (and_255 _).1, (and_255 _).2, by omega, by omega⟩
  · rw [if_neg hlt]
    exact ⟨_, _, _, rfl, (and_255 _).1, (and_255 _).2, h0, h1⟩
theorem below_ok (n p h : Int) (h0 : 0 ≤ p) (h1 : p ≤ l.length) (hn : 0 < n) : ∃ v p' h', spec_l1Below.f l p h n = some (v, p', h') ∧ 0 ≤ v ∧ v < n ∧ 0 ≤ p' ∧ p' ≤ l.length := by
  unfold spec_l1Below.f
  rw [if_neg (by omega)]
  split
  · obtain ⟨v, p', h', e, a, b, c, d⟩ := byte_ok l hl p h h0 h1
    rw [e]
    simp only [Option.bind_some]
    rw [if_neg (by omega)]
    exact ⟨_, _, _, rfl, Int.tmod_nonneg _ a, Int.tmod_lt_of_pos _ hn, c, d⟩
  · obtain ⟨v1, p1, h1', e1, a1, b1, c1, d1⟩ := byte_ok l hl p h h0 h1
    obtain ⟨v2, p2, h2', e2, a2, b2, c2, d2⟩ := byte_ok l hl p1 h1' c1 d1
    obtain ⟨v3, p3, h3', e3, a3, b3, c3, d3⟩ := byte_ok l hl p2 h2' c2 d2
    obtain ⟨v4, p4, h4', e4, a4, b4, c4, d4⟩ := byte_ok l hl p3 h3' c3 d3
    rw [e1]
    simp only [Option.bind_some]
    rw [e2]
    simp only [Option.bind_some]
    rw [e3]
    simp only [Option.bind_some]
    rw [e4]
    simp only [Option.bind_some]
    rw [if_neg (by omega)]
    refine ⟨_, _, _, rfl, Int.tmod_nonneg _ ?_, Int.tmod_lt_of_pos _ hn, c4, d4⟩
    unfold wrap64
    omega
theorem once_ok (n p h : Int) (h0 : 0 ≤ p) (h1 : p ≤ l.length) (hn : 0 < n) : ∃ v p' h', spec_l1Once.f l p h n = some (v, p', h') ∧ 0 ≤ p' ∧ p' ≤ l.length := by
  obtain ⟨v, p', h', e, -, -, c, d⟩ := below_ok l hl n p h h0 h1 hn
  unfold spec_l1Once.f
  rw [e]
  exact ⟨_, _, _, rfl, c, d⟩
theorem new_l0 : ∀ d i : Nat, ∀ h : Int, l.length - i = d → i ≤ l.length → ∃ h', ∀ k, d < k → spec_l1New.l0 k l h i = some (l, 0, h') := by
  intro d
  induction d with
  | zero =>
    intro i h hd hi
    refine ⟨h, fun k hk => ?_⟩
    obtain ⟨k, rfl⟩ : ∃ m, k = m + 1 := ⟨k - 1, by omega⟩
    rw [spec_l1New.l0, if_neg (by omega)]
  | succ d ih =>
    intro i h hd hi
    obtain ⟨h', hh⟩ := ih (i + 1) (Go.bits .and .i64 (wrap64 ((wrap64 ((wrap64 (h * 137)) + (wrap64 (rd l i)))) + 11)) 1073741823) (by omega) (by omega)
    refine ⟨h', fun k hk => ?_⟩
    obtain ⟨k, rfl⟩ : ∃ m, k = m + 1 := ⟨k - 1, by omega⟩
    rw [spec_l1New.l0, if_pos (by omega), if_pos (by omega), wrap_succ i (by omega)]
    exact hh k (by omega)
theorem new_ok : ∃ h', ∀ k, l.length < k → spec_l1New.f k l = some (l, 0, h') := by
  obtain ⟨h', hh⟩ := new_l0 l hl l.length 0 (wrap64 (91237 + (l.length : Int))) (by omega) (by omega)
  exact ⟨h', fun k hk => hh k hk⟩
end
theorem letter_ok (a : Int) : ∃ b, spec_l2Letter.f a = some b := by
  unfold spec_l2Letter.f
  split
  · split
    · exact ⟨_, rfl⟩
    · split <;> exact ⟨_, rfl⟩
  · split <;> exact ⟨_, rfl⟩
theorem plain_l0 : ∀ d i : Nat, ∀ x : List Int, 256 - i = d → i ≤ 256 → x.length = i → ∃ r, r.length = 256 ∧ ∀ k, d < k → spec_PlainCats.l0 k x i = some r := by
  intro d
  induction d with
  | zero =>
    intro i x hd hi hx
    refine ⟨(((((((((((((((x.set (92 : Int).toNat 0).set (123 : Int).toNat 1).set (125 : Int).toNat 2).set (32 : Int).toNat 3).set (9 : Int).toNat 3).set (10 : Int).toNat 6).set (35 : Int).toNat 7).set (37 : Int).toNat 8).set (0 : Int).toNat 9).set (36 : Int).toNat 10).set (94 : Int).toNat 11).set (95 : Int).toNat 12).set (38 : Int).toNat 13).set (126 : Int).toNat 14).set (127 : Int).toNat 15), by simp; omega, fun k hk => ?_⟩
    obtain ⟨k, rfl⟩ : ∃ m, k = m + 1 := ⟨k - 1, by omega⟩
    rw [spec_PlainCats.l0, if_neg (by omega)]
    repeat rw [if_pos (by omega)]
  | succ d ih =>
    intro i x hd hi hx
    obtain ⟨b, hb⟩ := letter_ok ((i : Int) % 256)
    obtain ⟨r, hr, hh⟩ := ih (i + 1) (x ++ [if b = true then 4 else 5]) (by omega) (by omega) (by simp; omega)
    refine ⟨r, hr, fun k hk => ?_⟩
    obtain ⟨k, rfl⟩ : ∃ m, k = m + 1 := ⟨k - 1, by omega⟩
    have hx2 : x.length < 17592186044416 := by omega
    have hg := hh k (by omega)
    rw [spec_PlainCats.l0, if_pos (by omega), hb]
    simp only [Option.bind_some]
    rw [wrap_succ i (by omega)]
    cases b
    · rw [if_neg (by simp), if_pos hx2]
      exact hg
    · rw [if_pos rfl, if_pos hx2]
      exact hg
theorem plain_ok : ∃ r : List Int, r.length = 256 ∧ ∀ k, 256 < k → spec_PlainCats.f k = some r := by
  obtain ⟨r, h1, h2⟩ := plain_l0 256 0 [] (by omega) (by omega) rfl
  exact ⟨r, h1, fun k hk => h2 k hk⟩
section
variable (l : List Int) (hl : l.length ≤ 1048576)
include hl
theorem cats_l0 : ∀ d n : Nat, n = d → n ≤ 256 → ∀ (x : List Int) (p h : Int), x.length = 256 → 0 ≤ p → p ≤ l.length → ∃ (r : List Int) (p' h' : Int), (r.length ≤ 256 ∧ 0 ≤ p' ∧ p' ≤ l.length) ∧ ∀ k, d < k → spec_l2DrawCats.l0 k x n l p h = some (r, p', h') := by
  intro d
  induction d with
  | zero =>
    intro n hn hle x p h hx h0 h1
    subst hn
    obtain ⟨b, p1, h1', e1, c1, d1⟩ := once_ok l hl 30 p h h0 h1 (by omega)
    cases b
    · obtain ⟨b2, p2, h2', e2, c2, d2⟩ := once_ok l hl 40 p1 h1' c1 d1 (by omega)
      cases b2
      · refine ⟨x, p2, h2', ⟨by omega, c2, d2⟩, fun k hk => ?_⟩
        obtain ⟨k, rfl⟩ : ∃ m, k = m + 1 := ⟨k - 1, by omega⟩
        rw [spec_l2DrawCats.l0, if_neg (by omega), e1]
        simp [e2]
      · refine ⟨x.take 255, p2, h2', ⟨by simp; omega, c2, d2⟩, fun k hk => ?_⟩
        obtain ⟨k, rfl⟩ : ∃ m, k = m + 1 := ⟨k - 1, by omega⟩
        rw [spec_l2DrawCats.l0, if_neg (by omega), e1]
        simp [e2]
        omega
    · obtain ⟨v, p2, h2', e2, a2, b2, c2, d2⟩ := below_ok l hl 3 p1 h1' c1 d1 (by omega)
      obtain ⟨b3, p3, h3', e3, c3, d3⟩ := once_ok l hl 40 p2 h2' c2 d2 (by omega)
      cases b3
      · refine ⟨x.set 7 (rd [(-1), 16, 15] v), p3, h3', ⟨by simp; omega, c3, d3⟩, fun k hk => ?_⟩
        obtain ⟨k, rfl⟩ : ∃ m, k = m + 1 := ⟨k - 1, by omega⟩
        rw [spec_l2DrawCats.l0, if_neg (by omega), e1]
        simp only [Option.bind_some, if_true]
        rw [e2]
        simp only [Option.bind_some]
        rw [if_pos a2, if_pos (by simp; omega), if_pos (by omega), e3]
        simp
      · refine ⟨(x.set 7 (rd [(-1), 16, 15] v)).take 255, p3, h3', ⟨by simp; omega, c3, d3⟩, fun k hk => ?_⟩
        obtain ⟨k, rfl⟩ : ∃ m, k = m + 1 := ⟨k - 1, by omega⟩
        rw [spec_l2DrawCats.l0, if_neg (by omega), e1]
        simp only [Option.bind_some, if_true]
        rw [e2]
        simp only [Option.bind_some]
        rw [if_pos a2, if_pos (by simp; omega), if_pos (by omega), e3]
        simp
        omega
  | succ d ih =>
    intro n hn hle x p h hx h0 h1
    obtain ⟨v1, p1, h1', e1, a1, b1, c1, d1⟩ := below_ok l hl 128 p h h0 h1 (by omega)
    obtain ⟨v2, p2, h2', e2, a2, b2, c2, d2⟩ := below_ok l hl 16 p1 h1' c1 d1 (by omega)
    obtain ⟨r, p', h', g, hh⟩ := ih (n - 1) (by omega) (by omega) (x.set v1.toNat v2) p2 h2' (by simpa using hx) c2 d2
    refine ⟨r, p', h', g, fun k hk => ?_⟩
    obtain ⟨k, rfl⟩ : ∃ m, k = m + 1 := ⟨k - 1, by omega⟩
    rw [spec_l2DrawCats.l0, if_pos (by omega), e1]
    simp only [Option.bind_some]
    rw [e2]
    simp only [Option.bind_some]
    rw [if_pos a1, if_pos (by omega), wrap_in ((n : Int) - 1) (by omega) (by omega), show (n : Int) - 1 = ((n - 1 : Nat) : Int) by omega]
    exact hh k (by omega)
theorem cats_ok (p h : Int) (h0 : 0 ≤ p) (h1 : p ≤ l.length) : ∃ (r : List Int) (p' h' : Int), (r.length ≤ 256 ∧ 0 ≤ p' ∧ p' ≤ l.length) ∧ ∀ k, 300 < k → spec_l2DrawCats.f k l p h = some (r, p', h') := by
  obtain ⟨c, hc, hcc⟩ := plain_ok
  obtain ⟨v, p1, h1', e, a, b, c1, d1⟩ := below_ok l hl 4 p h h0 h1 (by omega)
  obtain ⟨n, rfl⟩ := Int.eq_ofNat_of_zero_le a
  obtain ⟨r, p', h', g, hh⟩ := cats_l0 l hl n n rfl (by omega) c p1 h1' hc c1 d1
  refine ⟨r, p', h', g, fun k hk => ?_⟩
  unfold spec_l2DrawCats.f
  rw [hcc k (by omega)]
  simp only [Option.bind_some]
  rw [e]
  exact hh k (by omega)
theorem text_l1 (p h : Int) : ∀ d n : Nat, n = d → n ≤ 1000 → ∀ x : List Int, x.length + n ≤ 100000 → ∃ r : ByteArray, r.size ≤ x.length + n ∧ ∀ k, d < k → spec_l2DrawText.l1 k x n l p h = some (r, p, h) := by
  intro d
  induction d with
  | zero =>
    intro n hn hle x hx
    subst hn
    refine ⟨strOfNums x, by simp [strOfNums, ByteArray.size], fun k hk => ?_⟩
    obtain ⟨k, rfl⟩ : ∃ m, k = m + 1 := ⟨k - 1, by omega⟩
    rw [spec_l2DrawText.l1, if_neg (by omega)]
  | succ d ih =>
    intro n hn hle x hx
    obtain ⟨r, g, hh⟩ := ih (n - 1) (by omega) (by omega) (x ++ [113]) (by simp; omega)
    refine ⟨r, by simp at g; omega, fun k hk => ?_⟩
    obtain ⟨k, rfl⟩ : ∃ m, k = m + 1 := ⟨k - 1, by omega⟩
    rw [spec_l2DrawText.l1, if_pos (by omega), if_pos (by omega), wrap_in ((n : Int) - 1) (by omega) (by omega), show (n : Int) - 1 = ((n - 1 : Nat) : Int) by omega]
    exact hh k (by omega)
theorem text_l0 (N : Nat) (hN : N ≤ 100) : ∀ d i : Nat, N - i = d → i ≤ N → ∀ (x : List Int) (p h : Int), x.length + d ≤ 1000 → 0 ≤ p → p ≤ l.length → ∃ (r : ByteArray) (p' h' : Int), (r.size ≤ x.length + d + 100 ∧ 0 ≤ p' ∧ p' ≤ l.length) ∧ ∀ k, 3 * d + 200 < k → spec_l2DrawText.l0 k N x i l p h = some (r, p', h') := by
  intro d
  induction d with
  | zero =>
    intro i hd hi x p h hx h0 h1
    obtain rfl : i = N := by omega
    obtain ⟨b, p1, h1', e1, c1, d1⟩ := once_ok l hl 40 p h h0 h1 (by omega)
    cases b
    · have e_ : (strOfNums x).size = x.length := by simp [strOfNums, ByteArray.size]
      refine ⟨strOfNums x, p1, h1', ⟨by omega, c1, d1⟩, fun k hk => ?_⟩
      obtain ⟨k, rfl⟩ : ∃ m, k = m + 1 := ⟨k - 1, by omega⟩
      rw [spec_l2DrawText.l0, if_neg (by omega), e1]
      simp
    · obtain ⟨v, p2, h2', e2, a2, b2, c2, d2⟩ := below_ok l hl 5 p1 h1' c1 d1 (by omega)
      obtain ⟨n, rfl⟩ := Int.eq_ofNat_of_zero_le a2
      obtain ⟨r, g, hh⟩ := text_l1 l hl p2 h2' (n + 38) (n + 38) rfl (by omega) (x ++ [92]) (by simp; omega)
      refine ⟨r, p2, h2', ⟨by simp at g; omega, c2, d2⟩, fun k hk => ?_⟩
      obtain ⟨k, rfl⟩ : ∃ m, k = m + 1 := ⟨k - 1, by omega⟩
      rw [spec_l2DrawText.l0, if_neg (by omega), e1]
      simp only [Option.bind_some, if_true]
      rw [if_pos (by omega), e2]
      simp only [Option.bind_some]
      rw [wrap_in ((n : Int) + 38) (by omega) (by omega)]
      exact hh k (by omega)
  | succ d ih =>
    intro i hd hi x p h hx h0 h1
    have go : ∀ (b p1 h1' : Int), 0 ≤ p1 → p1 ≤ l.length → ∃ (r : ByteArray) (p' h' : Int), (r.size ≤ x.length + (d + 1) + 100 ∧ 0 ≤ p' ∧ p' ≤ l.length) ∧ ∀ k, 3 * d + 200 < k → (if x.length < 140737488355328 then spec_l2DrawText.l0 k N (x ++ [b]) (wrap64 ((i : Int) + 1)) l p1 h1' else none) = some (r, p', h') := by
      intro b p1 h1' g0 g1
      obtain ⟨r, p', h', ⟨g, gg⟩, hh⟩ := ih (i + 1) (by omega) (by omega) (x ++ [b]) p1 h1' (by simp; omega) g0 g1
      refine ⟨r, p', h', ⟨by simp at g; omega, gg⟩, fun k hk => ?_⟩
      rw [if_pos (by omega), wrap_succ i (by omega)]
      exact hh k hk
    obtain ⟨v, p1, h1', e1, a1, b1, c1, d1⟩ := below_ok l hl 16 p h h0 h1 (by omega)
    have st : ∀ k, spec_l2DrawText.l0 (k + 1) N x i l p h = (if v = 0 then (if x.length < 140737488355328 then spec_l2DrawText.l0 k N (x ++ [92]) (wrap64 ((i : Int) + 1)) l p1 h1' else none) else spec_l2DrawText.j1 k N x i v (decide (v ≤ 3)) l p1 h1') := by
      intro k
      rw [spec_l2DrawText.l0, if_pos (by omega), e1]
      simp only [Option.bind_some]
      by_cases v0 : v = 0
      · rw [if_pos v0, if_pos v0]
      · rw [if_neg v0, if_neg v0]
        by_cases v1 : v = 1
        · rw [if_pos v1, show (v == 1) = decide (v ≤ 3) by subst v1; decide]
        · rw [if_neg v1]
          by_cases v2 : v = 2
          · rw [if_pos v2, show (v == 2) = decide (v ≤ 3) by subst v2; decide]
          · rw [if_neg v2]
            by_cases v3 : v = 3
            · rw [show (v == 3) = decide (v ≤ 3) by subst v3; decide]
            · rw [show (v == 3) = decide (v ≤ 3) by rw [show decide (v ≤ 3) = false from decide_eq_false (by omega)]; exact beq_false_of_ne v3]
    have sj : ∀ k, ¬ v ≤ 3 → spec_l2DrawText.j1 (k + 1) N x i v (decide (v ≤ 3)) l p1 h1' = spec_l2DrawText.j2 k N x i v (decide (v ≤ 5)) l p1 h1' := by
      intro k hv
      rw [spec_l2DrawText.j1, if_neg (by simpa using hv)]
      by_cases v4 : v = 4
      · rw [if_pos v4, show (v == 4) = decide (v ≤ 5) by subst v4; decide]
      · rw [if_neg v4]
        by_cases v5 : v = 5
        · rw [show (v == 5) = decide (v ≤ 5) by subst v5; decide]
        · rw [show (v == 5) = decide (v ≤ 5) by rw [show decide (v ≤ 5) = false from decide_eq_false (by omega)]; exact beq_false_of_ne v5]
    by_cases v0 : v = 0
    · obtain ⟨r, p', h', g, hh⟩ := go 92 p1 h1' c1 d1
      refine ⟨r, p', h', g, fun k hk => ?_⟩
      obtain ⟨k, rfl⟩ : ∃ m, k = m + 1 := ⟨k - 1, by omega⟩
      rw [st, if_pos v0]
      exact hh k (by omega)
    by_cases v3 : v ≤ 3
    · obtain ⟨r, p', h', g, hh⟩ := go 32 p1 h1' c1 d1
      refine ⟨r, p', h', g, fun k hk => ?_⟩
      obtain ⟨k, rfl⟩ : ∃ m, k = m + 2 := ⟨k - 2, by omega⟩
      rw [st, if_neg v0, spec_l2DrawText.j1, if_pos (by simpa using v3)]
      exact hh k (by omega)
    have fin : ∀ (r : ByteArray) (p' h' : Int), (r.size ≤ x.length + (d + 1) + 100 ∧ 0 ≤ p' ∧ p' ≤ l.length) → (∀ k, 3 * d + 200 < k → spec_l2DrawText.j2 (k + 1) N x i v (decide (v ≤ 5)) l p1 h1' = some (r, p', h')) → ∃ (r : ByteArray) (p' h' : Int), (r.size ≤ x.length + (d + 1) + 100 ∧ 0 ≤ p' ∧ p' ≤ l.length) ∧ ∀ k, 3 * (d + 1) + 200 < k → spec_l2DrawText.l0 k N x i l p h = some (r, p', h') := by
      intro r p' h' g hh
      refine ⟨r, p', h', g, fun k hk => ?_⟩
      obtain ⟨k, rfl⟩ : ∃ m, k = m + 3 := ⟨k - 3, by omega⟩
      rw [st, if_neg v0, sj _ v3]
      exact hh k (by omega)
    by_cases v5 : v ≤ 5
    · obtain ⟨r, p', h', g, hh⟩ := go 10 p1 h1' c1 d1
      refine fin r p' h' g (fun k hk => ?_)
      rw [spec_l2DrawText.j2, if_pos (by simpa using v5)]
      exact hh k hk
    by_cases v6 : v = 6
    · obtain ⟨w, p2, h2', e2, a2, b2, c2, d2⟩ := below_ok l hl 8 p1 h1' c1 d1 (by omega)
      obtain ⟨r, p', h', g, hh⟩ := go (bt (⟨#[123, 125, 36, 94, 95, 38, 35, 126]⟩ : ByteArray) w) p2 h2' c2 d2
      refine fin r p' h' g (fun k hk => ?_)
      rw [spec_l2DrawText.j2, if_neg (by simpa using v5), if_pos v6, e2]
      simp only [Option.bind_some]
      rw [if_pos a2, if_pos (by omega)]
      exact hh k hk
    by_cases v7 : v = 7
    · obtain ⟨r, p', h', g, hh⟩ := go 37 p1 h1' c1 d1
      refine fin r p' h' g (fun k hk => ?_)
      rw [spec_l2DrawText.j2, if_neg (by simpa using v5), if_neg v6, if_pos v7]
      exact hh k hk
    by_cases v8 : v = 8
    · obtain ⟨w, p2, h2', e2, a2, b2, c2, d2⟩ := below_ok l hl 256 p1 h1' c1 d1 (by omega)
      obtain ⟨r, p', h', g, hh⟩ := go (w % 256) p2 h2' c2 d2
      refine fin r p' h' g (fun k hk => ?_)
      rw [spec_l2DrawText.j2, if_neg (by simpa using v5), if_neg v6, if_neg v7, if_pos v8, e2]
      simp only [Option.bind_some]
      exact hh k hk
    · obtain ⟨w, p2, h2', e2, a2, b2, c2, d2⟩ := below_ok l hl 26 p1 h1' c1 d1 (by omega)
      obtain ⟨r, p', h', g, hh⟩ := go ((wrap64 (97 + w)) % 256) p2 h2' c2 d2
      refine fin r p' h' g (fun k hk => ?_)
      rw [spec_l2DrawText.j2, if_neg (by simpa using v5), if_neg v6, if_neg v7, if_neg v8, e2]
      simp only [Option.bind_some]
      exact hh k hk
theorem draw_ok : ∃ r : List Int × ByteArray, (∀ k, 1048576 + 1000 < k → spec_DrawTokenize.f k l = some r) ∧ r.1.length ≤ 256 ∧ r.2.size ≤ 65537 := by
  obtain ⟨h, hh⟩ := new_ok l hl
  obtain ⟨c, p1, h1, ⟨g1, c1, d1⟩, hc⟩ := cats_ok l hl 0 h (by omega) (by omega)
  obtain ⟨v, p2, h2, e2, a2, b2, c2, d2⟩ := below_ok l hl 60 p1 h1 c1 d1 (by omega)
  obtain ⟨n, rfl⟩ := Int.eq_ofNat_of_zero_le a2
  obtain ⟨t, p3, h3, ⟨g3, c3, d3⟩, ht⟩ := text_l0 l hl n (by omega) n 0 (by omega) (by omega) [] p2 h2 (by simp; omega) c2 d2
  obtain ⟨b, p4, h4, e4, c4, d4⟩ := once_ok l hl 60 p3 h3 c3 d3 (by omega)
  have ht' : ∀ k, 1000 < k → spec_l2DrawText.f k l p2 h2 (n : Int) = some (t, p3, h3) := fun k hk => ht k (by omega)
  cases b
  · refine ⟨(c, t), fun k hk => ?_, g1, by simp at g3 ⊢; omega⟩
    unfold spec_DrawTokenize.f
    rw [hh k (by omega)]
    simp only [Option.bind_some]
    rw [hc k (by omega)]
    simp only [Option.bind_some]
    rw [e2]
    simp only [Option.bind_some]
    rw [ht' k (by omega)]
    simp only [Option.bind_some]
    rw [e4]
    simp
  · obtain ⟨w, p5, h5, e5, a5, b5, c5, d5⟩ := below_ok l hl 2 p4 h4 c4 d4 (by omega)
    refine ⟨(c, strOfNums (List.replicate (wrap64 (65536 + w) : Int).toNat 0)), fun k hk => ?_, g1, by rw [wrap_in (65536 + w) (by omega) (by omega)]; simp [strOfNums, ByteArray.size]; omega⟩
    unfold spec_DrawTokenize.f
    rw [hh k (by omega)]
    simp only [Option.bind_some]
    rw [hc k (by omega)]
    simp only [Option.bind_some]
    rw [e2]
    simp only [Option.bind_some]
    rw [ht' k (by omega)]
    simp only [Option.bind_some]
    rw [e4]
    simp only [Option.bind_some, if_true]
    rw [e5]
    simp only [Option.bind_some]
    rw [if_pos (by rw [wrap_in (65536 + w) (by omega) (by omega)]; omega), if_pos (by rw [wrap_in (65536 + w) (by omega) (by omega)]; omega)]
end

theorem same_l0 (l : List S42) (hl : l.length ≤ 1048576) : ∀ d k i : Nat, l.length - i = d → i ≤ l.length → d < k → laws_sameTokens.l0 k l l i = some true := by
  intro d
  induction d with
  | zero =>
    intro k i hd hi hk
    obtain ⟨k, rfl⟩ : ∃ m, k = m + 1 := ⟨k - 1, by omega⟩
    rw [laws_sameTokens.l0, if_neg (by omega)]
  | succ d ih =>
    intro k i hd hi hk
    obtain ⟨k, rfl⟩ : ∃ m, k = m + 1 := ⟨k - 1, by omega⟩
    rw [laws_sameTokens.l0, if_pos (by omega), if_pos (by omega), if_pos (by omega), if_neg (by simp), wrap_succ i (by omega)]
    exact ih k (i + 1) (by omega) (by omega) (by omega)
theorem same_f (l : List S42) (hl : l.length ≤ 1048576) (k : Nat) (hk : l.length < k) : laws_sameTokens.f k l l = some true := by
  unfold laws_sameTokens.f
  rw [if_pos rfl]
  exact same_l0 l hl l.length k 0 (by omega) (by omega) hk


/-! ### the plain table -/
def PC : List Int := [9, 5, 5, 5, 5, 5, 5, 5, 5, 3, 6, 5, 5, 5, 5, 5, 5, 5, 5, 5, 5, 5, 5, 5, 5, 5, 5, 5, 5, 5, 5, 5, 3, 5, 5, 7, 10, 8, 13, 5, 5, 5, 5, 5, 5, 5, 5, 5, 5, 5, 5, 5, 5, 5, 5, 5, 5, 5, 5, 5, 5, 5, 5, 5, 5, 4, 4, 4, 4, 4, 4, 4, 4, 4, 4, 4, 4, 4, 4, 4, 4, 4, 4, 4, 4, 4, 4, 4, 4, 4, 4, 5, 0, 5, 11, 12, 5, 4, 4, 4, 4, 4, 4, 4, 4, 4, 4, 4, 4, 4, 4, 4, 4, 4, 4, 4, 4, 4, 4, 4, 4, 4, 4, 1, 5, 2, 14, 15, 5, 5, 5, 5, 5, 5, 5, 5, 5, 5, 5, 5, 5, 5, 5, 5, 5, 5, 5, 5, 5, 5, 5, 5, 5, 5, 5, 5, 5, 5, 5, 5, 5, 5, 5, 5, 5, 5, 5, 5, 5, 5, 5, 5, 5, 5, 5, 5, 5, 5, 5, 5, 5, 5, 5, 5, 5, 5, 5, 5, 5, 5, 5, 5, 5, 5, 5, 5, 5, 5, 5, 5, 5, 5, 5, 5, 5, 5, 5, 5, 5, 5, 5, 5, 5, 5, 5, 5, 5, 5, 5, 5, 5, 5, 5, 5, 5, 5, 5, 5, 5, 5, 5, 5, 5, 5, 5, 5, 5, 5, 5, 5, 5, 5, 5, 5, 5, 5, 5, 5, 5, 5, 5, 5, 5, 5, 5, 5]
theorem pc_300 : impl_PlainCats.f 300 = some PC := by kernel_rfl
theorem pc_f (k : Nat) (hk : 300 ≤ k) : impl_PlainCats.f k = some PC := by
  induction k with
  | zero => omega
  | succ k ih =>
    rcases Nat.lt_or_ge k 300 with h | h
    · obtain rfl : k = 299 := by omega
      exact pc_300
    · exact impl_PlainCats.mono k _ (ih h)
theorem pc_len : PC.length = 256 := by decide +kernel
theorem pc_cats : catsB PC = true := by decide +kernel
def ct (c : Int) : Int := rd PC c
def letr (c : Int) : Bool := ct c == 4
def byteB (c : Int) : Prop := 0 ≤ c ∧ c < 256
theorem byte_nat {c : Int} (h : byteB c) : ∃ n : Nat, n < 256 ∧ c = (n : Int) := ⟨c.toNat, by unfold byteB at h; omega, by unfold byteB at h; omega⟩
theorem let_all : ∀ n < 256, letB ((n : Nat) : Int) = letr ((n : Nat) : Int) := by decide +kernel
theorem let_ct {c : Int} (h : byteB c) : letB c = letr c := by
  obtain ⟨n, hn, rfl⟩ := byte_nat h
  exact let_all n hn
theorem ct_range {c : Int} (h : byteB c) : 0 ≤ ct c ∧ ct c ≤ 15 := (cats_at PC pc_cats).2 c h.1 h.2
/-! ### one token of a list of bytes -/
abbrev Tk := Int × Int × List Int
inductive Res where
  | fin : Res
  | bad : Res
  | tok (t : Tk) (rest : List Int) (st : Int) : Res
def pre (r : List Int) : List Int := (r.take 40).takeWhile letr
def nameR (r : List Int) : Res :=
  if pre r = [] then (match r with
    | [] => .tok (0, 0, []) [] 1
    | d :: r' => .tok (0, 0, [d]) r' (if ct d = 3 then 2 else 1))
  else .tok (0, 0, pre r) (r.drop (pre r).length) 2
def scan : List Int → Int → Res
  | [], _ => .fin
  | c :: r, st =>
    if st = 3 then (if ct c = 6 then scan r 0 else scan r 3)
    else if ct c = 0 then nameR r
    else if ct c = 6 then (if st = 0 then .tok (0, 0, [112, 97, 114]) r 0 else if st = 1 then .tok (3, 32, []) r 0 else scan r 0)
    else if ct c = 3 then (if st = 1 then .tok (3, 32, []) r 2 else scan r st)
    else if ct c = 8 then scan r 3
    else if ct c = 9 then scan r st
    else if ct c = 15 then .bad
    else .tok (ct c, c, []) r 1
theorem pre_is : ∀ (m b : Nat) (L : List Int), m ≤ b → m ≤ L.length → (∀ c ∈ L.take m, letr c = true) → (m = b ∨ m = L.length ∨ ∃ c, L[m]? = some c ∧ letr c = false) → (L.take b).takeWhile letr = L.take m := by
  intro m
  induction m with
  | zero =>
    intro b L hb hl h1 h2
    rw [List.take_zero]
    rcases h2 with h | h | ⟨c, h, hc⟩
    · subst h; rfl
    · rw [List.eq_nil_of_length_eq_zero h.symm]; simp
    · cases L with
      | nil => simp at h
      | cons x t =>
        have e : x = c := by simpa using h
        subst e
        cases b with
        | zero => rfl
        | succ b => rw [List.take_succ_cons, List.takeWhile_cons, hc]; rfl
  | succ m ih =>
    intro b L hb hl h1 h2
    cases L with
    | nil => simp at hl
    | cons x t =>
      obtain ⟨b, rfl⟩ : ∃ q, b = q + 1 := ⟨b - 1, by omega⟩
      have hx := h1 x (by simp)
      rw [List.take_succ_cons, List.takeWhile_cons, hx, if_pos rfl, List.take_succ_cons]
      rw [ih b t (by omega) (by simpa using hl) (fun c hc => h1 c (by simp [hc])) (by
        rcases h2 with h | h | ⟨c, h, hc⟩
        · exact .inl (by omega)
        · exact .inr (.inl (by simpa using h))
        · exact .inr (.inr ⟨c, by simpa using h, hc⟩))]
theorem pre_le (r : List Int) : (pre r).length ≤ 40 := by
  unfold pre
  exact Nat.le_trans (List.takeWhile_prefix _).length_le (List.length_take_le _ _)
theorem pre_letr (r : List Int) : ∀ c ∈ pre r, letr c = true := fun c hc => List.all_eq_true.1 (List.all_takeWhile (p := letr) (l := r.take 40)) c hc
theorem pre_sub (r : List Int) : ∀ c ∈ pre r, c ∈ r := fun c hc => List.mem_of_mem_take ((List.takeWhile_sublist _).subset hc)
/-! ### what the program's scan does -/
def Rel (s : ByteArray) (i : Nat) (r : Sc) : Res → Prop
  | .fin => r.1 = 0
  | .bad => r.1 = 2 ∧ 1 ≤ r.2.2.2.2.1 ∧ r.2.2.2.2.1 ≤ 100000
  | .tok t rest st => ∃ j : Nat, r = (1, t.1, t.2.1, strOfNums t.2.2, (j : Int), st) ∧ i < j ∧ j ≤ s.size ∧ rest = (bytesOf s).drop j ∧ 0 ≤ st ∧ st ≤ 2
theorem Rel.mono {s : ByteArray} {i i' : Nat} {r : Sc} {m : Res} (h : Rel s i r m) (hi : i' ≤ i) : Rel s i' r m := by
  cases m with
  | fin => exact h
  | bad => exact h
  | tok t rest st =>
    obtain ⟨j, h1, h2, h3⟩ := h
    exact ⟨j, h1, by omega, h3⟩
theorem drop_bt (s : ByteArray) (i : Nat) (h : i < s.size) : (bytesOf s).drop i = bt s (i : Int) :: (bytesOf s).drop (i + 1) := by
  rw [← rd_bytesOf]
  exact drop_rd _ i (by rw [bytesOf_length]; exact h)
theorem drop_end (s : ByteArray) : (bytesOf s).drop s.size = [] := List.drop_of_length_le (by rw [bytesOf_length]; omega)
theorem bt_byte (s : ByteArray) (i : Int) : byteB (bt s i) := by have := bt_range s i; unfold byteB; omega
theorem ext_nums (s : ByteArray) (i j : Nat) (hj : j ≤ s.size) (hij : i ≤ j) : strOfNums (((bytesOf s).drop i).take (j - i)) = s.extract i j := by
  have h : ((bytesOf s).drop i).take (j - i) = bytesOf (s.extract i j) := by
    unfold bytesOf
    rw [ByteArray.data_extract, Array.toList_extract]
    rw [List.extract_eq_take_drop, ← List.map_drop, ← List.map_take]
  rw [h, nums_of]
section
variable (s : ByteArray) (hn : s.size ≤ 65536)
include hn
theorem name_end (i j : Nat) (hi : i ≤ s.size) (hij : i ≤ j) (hj : j ≤ s.size) (hp : pre ((bytesOf s).drop i) = ((bytesOf s).drop i).take (j - i)) : ∃ r : Sc, (∃ q : Nat, r = (1, 0, 0, r.2.2.2.1, (q : Int), r.2.2.2.2.2) ∧ i ≤ q ∧ q ≤ s.size ∧ ∃ nm st, nameR ((bytesOf s).drop i) = .tok (0, 0, nm) ((bytesOf s).drop q) st ∧ r.2.2.2.1 = strOfNums nm ∧ r.2.2.2.2.2 = st ∧ 0 ≤ st ∧ st ≤ 2) ∧ ∀ k, 0 < k → impl_Next.j3 k PC s i (s.size : Int) j = some r := by
  have hlen : ((bytesOf s).drop i).length = s.size - i := by rw [List.length_drop, bytesOf_length]
  by_cases h : i < j
  · have hne : pre ((bytesOf s).drop i) ≠ [] := by
      rw [hp]
      intro e
      have := congrArg List.length e
      rw [List.length_take, hlen] at this
      simp at this
      omega
    have hl : (pre ((bytesOf s).drop i)).length = j - i := by rw [hp, List.length_take, hlen]; omega
    refine ⟨(1, 0, 0, s.extract i j, j, 2), ⟨j, rfl, hij, hj, pre ((bytesOf s).drop i), 2, ?_, ?_, rfl, by omega, by omega⟩, fun k hk => ?_⟩
    · unfold nameR
      rw [if_neg hne, List.drop_drop, hl]
      congr 2
      omega
    · rw [hp, ext_nums s i j hj hij]
    · obtain ⟨k, rfl⟩ : ∃ m, k = m + 1 := ⟨k - 1, by omega⟩
      rw [impl_Next.j3, if_pos (by omega), if_pos (by omega), if_pos (by omega), Int.toNat_natCast, Int.toNat_natCast, clone_f _ (by have := extract_le s i j; omega), Option.bind_some, if_pos (by omega)]
  · obtain rfl : i = j := by omega
    have hne : pre ((bytesOf s).drop i) = [] := by rw [hp, Nat.sub_self, List.take_zero]
    by_cases hlt : i < s.size
    · have hb := bt_byte s (i : Int)
      have hd := drop_bt s i hlt
      have he : s.extract i (i + 1) = strOfNums [bt s (i : Int)] := by
        rw [← ext_nums s i (i + 1) (by omega) (by omega), hd, show i + 1 - i = 1 by omega]
        rfl
      refine ⟨(1, 0, 0, s.extract i (i + 1), ((i + 1 : Nat) : Int), if ct (bt s (i : Int)) = 3 then 2 else 1), ⟨i + 1, rfl, by omega, by omega, [bt s (i : Int)], if ct (bt s (i : Int)) = 3 then 2 else 1, ?_, he, rfl, (by split <;> omega), (by split <;> omega)⟩, fun k hk => ?_⟩
      · unfold nameR
        rw [if_pos hne, hd]
      · obtain ⟨k, rfl⟩ : ∃ m, k = m + 1 := ⟨k - 1, by omega⟩
        unfold byteB at hb
        rw [impl_Next.j3, if_pos (by omega), if_pos (by omega), if_pos (by omega), Int.toNat_natCast, extract_none, clone_f _ (by decide), Option.bind_some, if_neg (by omega), if_pos (by omega), wrap_succ i (by omega), if_pos (by omega), if_pos (by omega), Int.toNat_natCast, clone_f _ (by have := extract_le s i (i + 1); omega), Option.bind_some, if_pos (by omega), if_pos (by omega), if_pos (by have := pc_len; omega)]
        show (if ct (bt s (i : Int)) = 3 then _ else _) = _
        split <;> rfl
    · obtain rfl : i = s.size := by omega
      refine ⟨(1, 0, 0, (⟨#[]⟩ : ByteArray), (s.size : Int), 1), ⟨s.size, rfl, by omega, by omega, [], 1, ?_, rfl, rfl, by omega, by omega⟩, fun k hk => ?_⟩
      · unfold nameR
        rw [if_pos hne, drop_end]
      · obtain ⟨k, rfl⟩ : ∃ m, k = m + 1 := ⟨k - 1, by omega⟩
        rw [impl_Next.j3, if_pos (by omega), if_pos (by omega), if_pos (by omega), Int.toNat_natCast, extract_none, clone_f _ (by decide), Option.bind_some, if_neg (by omega), if_neg (by omega)]
theorem name_l (i : Nat) (hi : i ≤ s.size) : ∀ d j : Nat, s.size - j = d → i ≤ j → j ≤ s.size → j ≤ i + 40 → (∀ c ∈ ((bytesOf s).drop i).take (j - i), letr c = true) → ∃ r : Sc, (∃ q : Nat, r = (1, 0, 0, r.2.2.2.1, (q : Int), r.2.2.2.2.2) ∧ i ≤ q ∧ q ≤ s.size ∧ ∃ nm st, nameR ((bytesOf s).drop i) = .tok (0, 0, nm) ((bytesOf s).drop q) st ∧ r.2.2.2.1 = strOfNums nm ∧ r.2.2.2.2.2 = st ∧ 0 ≤ st ∧ st ≤ 2) ∧ ∀ k, d + 1 < k → impl_Next.l1 k PC s i (s.size : Int) j = some r := by
  have hlen : ((bytesOf s).drop i).length = s.size - i := by rw [List.length_drop, bytesOf_length]
  have hw : wrap64 ((i : Int) + 40) = (i : Int) + 40 := wrap_in _ (by omega) (by omega)
  intro d
  induction d with
  | zero =>
    intro j hd h1 h2 h3 h4
    obtain ⟨r, hr, he⟩ := name_end s hn i j hi h1 h2 (pre_is (j - i) 40 _ (by omega) (by omega) h4 (.inr (.inl (by omega))))
    refine ⟨r, hr, fun k hk => ?_⟩
    obtain ⟨k, rfl⟩ : ∃ m, k = m + 1 := ⟨k - 1, by omega⟩
    rw [impl_Next.l1, if_neg (by omega), he k (by omega)]
  | succ d ih =>
    intro j hd h1 h2 h3 h4
    have hb := bt_byte s (j : Int)
    have hidx : ((bytesOf s).drop i)[j - i]? = some (bt s (j : Int)) := by
      rw [List.getElem?_drop, show i + (j - i) = j by omega]
      have h := drop_bt s j (by omega)
      have h5 := congrArg (fun z => z[0]?) h
      simpa [List.getElem?_drop] using h5
    by_cases hj : j < i + 40
    · by_cases hc : letr (bt s (j : Int)) = true
      · obtain ⟨r, hr, he⟩ := ih (j + 1) (by omega) (by omega) (by omega) (by omega) (by
          intro c hc'
          rw [show j + 1 - i = (j - i) + 1 by omega, List.take_add_one, hidx] at hc'
          rcases List.mem_append.1 hc' with h | h
          · exact h4 c h
          · have : c = bt s (j : Int) := by simpa using h
            rw [this]; exact hc)
        refine ⟨r, hr, fun k hk => ?_⟩
        obtain ⟨k, rfl⟩ : ∃ m, k = m + 1 := ⟨k - 1, by omega⟩
        unfold byteB at hb
        rw [impl_Next.l1, if_pos (by omega), hw, if_pos (by omega), if_pos (by omega), if_pos (by omega), if_pos (by omega), if_pos (by have := pc_len; omega), if_pos (by simpa [letr, ct] using hc), wrap_succ j (by omega)]
        exact he k (by omega)
      · obtain ⟨r, hr, he⟩ := name_end s hn i j hi h1 h2 (pre_is (j - i) 40 _ (by omega) (by omega) h4 (.inr (.inr ⟨_, hidx, by simpa using hc⟩)))
        refine ⟨r, hr, fun k hk => ?_⟩
        obtain ⟨k, rfl⟩ : ∃ m, k = m + 1 := ⟨k - 1, by omega⟩
        unfold byteB at hb
        rw [impl_Next.l1, if_pos (by omega), hw, if_pos (by omega), if_pos (by omega), if_pos (by omega), if_pos (by omega), if_pos (by have := pc_len; omega), if_neg (by simpa [letr, ct] using hc), he k (by omega)]
    · obtain ⟨r, hr, he⟩ := name_end s hn i j hi h1 h2 (pre_is (j - i) 40 _ (by omega) (by omega) h4 (.inl (by omega)))
      refine ⟨r, hr, fun k hk => ?_⟩
      obtain ⟨k, rfl⟩ : ∃ m, k = m + 1 := ⟨k - 1, by omega⟩
      rw [impl_Next.l1, if_pos (by omega), hw, if_neg (by omega), he k (by omega)]
theorem scan_l : ∀ d : Nat,
    (∀ i : Nat, ∀ st : Int, s.size - i = d → i ≤ s.size → 0 ≤ st → st ≤ 2 → ∃ r : Sc, Rel s i r (scan ((bytesOf s).drop i) st) ∧ ∀ k, 2 * d + 10 < k → impl_Next.l0 k PC s i st (s.size : Int) = some r) ∧
    (∀ i : Nat, s.size - i = d → i ≤ s.size → ∃ r : Sc, Rel s i r (scan ((bytesOf s).drop i) 3) ∧ ∀ k, 2 * d + 11 < k → impl_Next.l2 k PC s i (s.size : Int) = some r) := by
  intro d
  induction d with
  | zero =>
    have h0 : ∀ i : Nat, ∀ st : Int, s.size - i = 0 → i ≤ s.size → ∃ r : Sc, Rel s i r (scan ((bytesOf s).drop i) st) ∧ ∀ k, 2 * 0 + 10 < k → impl_Next.l0 k PC s i st (s.size : Int) = some r := by
      intro i st hd hi
      obtain rfl : i = s.size := by omega
      refine ⟨(0, 0, 0, (⟨#[]⟩ : ByteArray), (s.size : Int), st), by rw [drop_end]; rfl, fun k hk => ?_⟩
      obtain ⟨k, rfl⟩ : ∃ m, k = m + 1 := ⟨k - 1, by omega⟩
      rw [impl_Next.l0, if_neg (by omega)]
    refine ⟨fun i st hd hi _ _ => h0 i st hd hi, fun i hd hi => ?_⟩
    obtain ⟨r, hr, he⟩ := h0 i 0 hd hi
    obtain rfl : i = s.size := by omega
    refine ⟨r, by rw [drop_end] at hr ⊢; exact hr, fun k hk => ?_⟩
    obtain ⟨k, rfl⟩ : ∃ m, k = m + 1 := ⟨k - 1, by omega⟩
    rw [impl_Next.l2, if_neg (by omega), he k (by omega)]
  | succ d ih =>
    obtain ⟨ih0, ih2⟩ := ih
    refine ⟨fun i st hd hi hs0 hs2 => ?_, fun i hd hi => ?_⟩
    · have hlt : i < s.size := by omega
      have hb := bt_byte s (i : Int)
      have hct := ct_range hb
      have hdrop := drop_bt s i hlt
      have hpl := pc_len
      have step : ∀ k, impl_Next.l0 (k + 1) PC s i st (s.size : Int) = (if ct (bt s (i : Int)) = 0 then (impl_Next.l1 k PC s ((i + 1 : Nat) : Int) (s.size : Int) ((i + 1 : Nat) : Int)) else (if ct (bt s (i : Int)) = 6 then (if st = 0 then (some (1, 0, 0, (⟨#[112, 97, 114]⟩ : ByteArray), ((i + 1 : Nat) : Int), 0)) else (if st = 1 then (some (1, 3, 32, (⟨#[]⟩ : ByteArray), ((i + 1 : Nat) : Int), 0)) else (impl_Next.l0 k PC s ((i + 1 : Nat) : Int) 0 (s.size : Int)))) else (if ct (bt s (i : Int)) = 3 then (if st = 1 then (some (1, 3, 32, (⟨#[]⟩ : ByteArray), ((i + 1 : Nat) : Int), 2)) else (impl_Next.l0 k PC s ((i + 1 : Nat) : Int) st (s.size : Int))) else (if ct (bt s (i : Int)) = 8 then (impl_Next.l2 k PC s ((i + 1 : Nat) : Int) (s.size : Int)) else (if ct (bt s (i : Int)) = 9 then (impl_Next.l0 k PC s ((i + 1 : Nat) : Int) st (s.size : Int)) else (if ct (bt s (i : Int)) = 15 then (some (2, 0, 0, (⟨#[]⟩ : ByteArray), ((i + 1 : Nat) : Int), st)) else (some (1, ct (bt s (i : Int)), bt s (i : Int), (⟨#[]⟩ : ByteArray), ((i + 1 : Nat) : Int), 1)))))))) := by
        intro k
        have hb' := hb
        unfold byteB at hb'
        rw [impl_Next.l0, if_pos (by omega), if_pos (by omega), if_pos (by omega), if_pos (by omega), if_pos (by omega), wrap_succ i (by omega)]
        have e1 : wrap64 (bt s (i : Int)) = bt s (i : Int) := wrap_in _ (by omega) (by omega)
        have e2 : wrap64 32 = 32 := wrap_in _ (by omega) (by omega)
        simp only [impl_Next_1.f, Option.bind_some, e1, e2]
        rfl
      have unf : scan ((bytesOf s).drop i) st = if ct (bt s (i : Int)) = 0 then nameR ((bytesOf s).drop (i + 1)) else if ct (bt s (i : Int)) = 6 then (if st = 0 then .tok (0, 0, [112, 97, 114]) ((bytesOf s).drop (i + 1)) 0 else if st = 1 then .tok (3, 32, []) ((bytesOf s).drop (i + 1)) 0 else scan ((bytesOf s).drop (i + 1)) 0) else if ct (bt s (i : Int)) = 3 then (if st = 1 then .tok (3, 32, []) ((bytesOf s).drop (i + 1)) 2 else scan ((bytesOf s).drop (i + 1)) st) else if ct (bt s (i : Int)) = 8 then scan ((bytesOf s).drop (i + 1)) 3 else if ct (bt s (i : Int)) = 9 then scan ((bytesOf s).drop (i + 1)) st else if ct (bt s (i : Int)) = 15 then .bad else .tok (ct (bt s (i : Int)), bt s (i : Int), []) ((bytesOf s).drop (i + 1)) 1 := by
        rw [hdrop, scan, if_neg (by omega)]
      have go : ∀ (r : Sc), (∀ k, impl_Next.l0 (k + 1) PC s i st (s.size : Int) = some r) → Rel s i r (scan ((bytesOf s).drop i) st) → ∃ r : Sc, Rel s i r (scan ((bytesOf s).drop i) st) ∧ ∀ k, 2 * (d + 1) + 10 < k → impl_Next.l0 k PC s i st (s.size : Int) = some r := by
        intro r h1 h2
        refine ⟨r, h2, fun k hk => ?_⟩
        obtain ⟨k, rfl⟩ : ∃ m, k = m + 1 := ⟨k - 1, by omega⟩
        exact h1 k
      by_cases h0 : ct (bt s (i : Int)) = 0
      · obtain ⟨r, ⟨q, hq1, hq2, hq3, nm, st', hnm, hs, hst, hst0, hst2⟩, he⟩ := name_l s hn (i + 1) (by omega) (s.size - (i + 1)) (i + 1) rfl (by omega) (by omega) (by omega) (by rw [Nat.sub_self, List.take_zero]; simp)
        refine ⟨r, ?_, fun k hk => ?_⟩
        · rw [unf, if_pos h0, hnm]
          refine ⟨q, ?_, by omega, hq3, rfl, hst0, hst2⟩
          rw [hq1, hs, hst]
        · obtain ⟨k, rfl⟩ : ∃ m, k = m + 1 := ⟨k - 1, by omega⟩
          rw [step, if_pos h0, he k (by omega)]
      · by_cases h6 : ct (bt s (i : Int)) = 6
        · by_cases s0 : st = 0
          · refine go (1, 0, 0, (⟨#[112, 97, 114]⟩ : ByteArray), ((i + 1 : Nat) : Int), 0) (fun k => by rw [step, if_neg h0, if_pos h6, if_pos s0]) ?_
            rw [unf, if_neg h0, if_pos h6, if_pos s0]
            exact ⟨i + 1, rfl, by omega, by omega, rfl, by omega, by omega⟩
          · by_cases s1 : st = 1
            · refine go (1, 3, 32, (⟨#[]⟩ : ByteArray), ((i + 1 : Nat) : Int), 0) (fun k => by rw [step, if_neg h0, if_pos h6, if_neg s0, if_pos s1]) ?_
              rw [unf, if_neg h0, if_pos h6, if_neg s0, if_pos s1]
              exact ⟨i + 1, rfl, by omega, by omega, rfl, by omega, by omega⟩
            · obtain ⟨r, hr, he⟩ := ih0 (i + 1) 0 (by omega) (by omega) (by omega) (by omega)
              refine ⟨r, ?_, fun k hk => ?_⟩
              · rw [unf, if_neg h0, if_pos h6, if_neg s0, if_neg s1]
                exact hr.mono (by omega)
              · obtain ⟨k, rfl⟩ : ∃ m, k = m + 1 := ⟨k - 1, by omega⟩
                rw [step, if_neg h0, if_pos h6, if_neg s0, if_neg s1, he k (by omega)]
        · by_cases h3 : ct (bt s (i : Int)) = 3
          · by_cases s1 : st = 1
            · refine go (1, 3, 32, (⟨#[]⟩ : ByteArray), ((i + 1 : Nat) : Int), 2) (fun k => by rw [step, if_neg h0, if_neg h6, if_pos h3, if_pos s1]) ?_
              rw [unf, if_neg h0, if_neg h6, if_pos h3, if_pos s1]
              exact ⟨i + 1, rfl, by omega, by omega, rfl, by omega, by omega⟩
            · obtain ⟨r, hr, he⟩ := ih0 (i + 1) st (by omega) (by omega) (by omega) (by omega)
              refine ⟨r, ?_, fun k hk => ?_⟩
              · rw [unf, if_neg h0, if_neg h6, if_pos h3, if_neg s1]
                exact hr.mono (by omega)
              · obtain ⟨k, rfl⟩ : ∃ m, k = m + 1 := ⟨k - 1, by omega⟩
                rw [step, if_neg h0, if_neg h6, if_pos h3, if_neg s1, he k (by omega)]
          · by_cases h8 : ct (bt s (i : Int)) = 8
            · obtain ⟨r, hr, he⟩ := ih2 (i + 1) (by omega) (by omega)
              refine ⟨r, ?_, fun k hk => ?_⟩
              · rw [unf, if_neg h0, if_neg h6, if_neg h3, if_pos h8]
                exact hr.mono (by omega)
              · obtain ⟨k, rfl⟩ : ∃ m, k = m + 1 := ⟨k - 1, by omega⟩
                rw [step, if_neg h0, if_neg h6, if_neg h3, if_pos h8, he k (by omega)]
            · by_cases h9 : ct (bt s (i : Int)) = 9
              · obtain ⟨r, hr, he⟩ := ih0 (i + 1) st (by omega) (by omega) (by omega) (by omega)
                refine ⟨r, ?_, fun k hk => ?_⟩
                · rw [unf, if_neg h0, if_neg h6, if_neg h3, if_neg h8, if_pos h9]
                  exact hr.mono (by omega)
                · obtain ⟨k, rfl⟩ : ∃ m, k = m + 1 := ⟨k - 1, by omega⟩
                  rw [step, if_neg h0, if_neg h6, if_neg h3, if_neg h8, if_pos h9, he k (by omega)]
              · by_cases h15 : ct (bt s (i : Int)) = 15
                · refine go (2, 0, 0, (⟨#[]⟩ : ByteArray), ((i + 1 : Nat) : Int), st) (fun k => by rw [step, if_neg h0, if_neg h6, if_neg h3, if_neg h8, if_neg h9, if_pos h15]) ?_
                  rw [unf, if_neg h0, if_neg h6, if_neg h3, if_neg h8, if_neg h9, if_pos h15]
                  exact ⟨rfl, show (1 : Int) ≤ ((i + 1 : Nat) : Int) by omega, show ((i + 1 : Nat) : Int) ≤ 100000 by omega⟩
                · refine go (1, ct (bt s (i : Int)), bt s (i : Int), (⟨#[]⟩ : ByteArray), ((i + 1 : Nat) : Int), 1) (fun k => by rw [step, if_neg h0, if_neg h6, if_neg h3, if_neg h8, if_neg h9, if_neg h15]) ?_
                  rw [unf, if_neg h0, if_neg h6, if_neg h3, if_neg h8, if_neg h9, if_neg h15]
                  exact ⟨i + 1, rfl, by omega, by omega, rfl, by omega, by omega⟩
    · have hlt : i < s.size := by omega
      have hb := bt_byte s (i : Int)
      have hpl := pc_len
      have hdrop := drop_bt s i hlt
      have step : ∀ k, impl_Next.l2 (k + 1) PC s i (s.size : Int) = (if ct (bt s (i : Int)) = 6 then (impl_Next.l0 k PC s ((i + 1 : Nat) : Int) 0 (s.size : Int)) else (impl_Next.l2 k PC s ((i + 1 : Nat) : Int) (s.size : Int))) := by
        intro k
        have hb' := hb
        unfold byteB at hb'
        rw [impl_Next.l2, if_pos (by omega), if_pos (by omega), if_pos (by omega), if_pos (by omega), if_pos (by omega), wrap_succ i (by omega)]
        rfl
      have unf : scan ((bytesOf s).drop i) 3 = if ct (bt s (i : Int)) = 6 then scan ((bytesOf s).drop (i + 1)) 0 else scan ((bytesOf s).drop (i + 1)) 3 := by
        rw [hdrop, scan, if_pos rfl]
      by_cases h6 : ct (bt s (i : Int)) = 6
      · obtain ⟨r, hr, he⟩ := ih0 (i + 1) 0 (by omega) (by omega) (by omega) (by omega)
        refine ⟨r, by rw [unf, if_pos h6]; exact hr.mono (by omega), fun k hk => ?_⟩
        obtain ⟨k, rfl⟩ : ∃ m, k = m + 1 := ⟨k - 1, by omega⟩
        rw [step, if_pos h6, he k (by omega)]
      · obtain ⟨r, hr, he⟩ := ih2 (i + 1) (by omega) (by omega)
        refine ⟨r, by rw [unf, if_neg h6]; exact hr.mono (by omega), fun k hk => ?_⟩
        obtain ⟨k, rfl⟩ : ∃ m, k = m + 1 := ⟨k - 1, by omega⟩
        rw [step, if_neg h6, he k (by omega)]
theorem next_f (i : Nat) (st : Int) (hi : i ≤ s.size) (h0 : 0 ≤ st) (h2 : st ≤ 2) : ∃ r : Sc, Rel s i r (scan ((bytesOf s).drop i) st) ∧ ∀ k, 2 * s.size + 300 < k → impl_Next.f k PC s i st = some r := by
  obtain ⟨r, hr, he⟩ := (scan_l s hn (s.size - i)).1 i st rfl hi h0 h2
  refine ⟨r, hr, fun k hk => ?_⟩
  have hpl := pc_len
  unfold impl_Next.f
  rw [cats_i PC (by omega) k (by omega), pc_cats]
  simp only [Option.bind_some, if_true]
  rw [if_neg (by omega), if_neg (by omega), if_neg (by omega), if_neg (by omega), show decide (st > 2) = false from decide_eq_false (by omega)]
  obtain ⟨k, rfl⟩ : ∃ m, k = m + 1 := ⟨k - 1, by omega⟩
  rw [impl_Next.j0, if_neg (by simp)]
  exact he k (by omega)
end
/-! ### the tokens of a list of bytes -/
def mk (t : Tk) : S42 := ⟨t.1, t.2.1, strOfNums t.2.2⟩
inductive Toks : List Int → Int → List Tk → Bool → Prop
  | fin {L st} (h : scan L st = .fin) : Toks L st [] true
  | bad {L st} (h : scan L st = .bad) : Toks L st [] false
  | step {L st t rest st1 ts e} (h : scan L st = .tok t rest st1) (ht : Toks rest st1 ts e) : Toks L st (t :: ts) e
theorem Toks.det {L st ts e} (h : Toks L st ts e) : ∀ {ts' e'}, Toks L st ts' e' → ts = ts' ∧ e = e' := by
  induction h with
  | fin h =>
    intro ts' e' h'
    cases h' with
    | fin => exact ⟨rfl, rfl⟩
    | bad h2 => rw [h] at h2; cases h2
    | step h2 _ => rw [h] at h2; cases h2
  | bad h =>
    intro ts' e' h'
    cases h' with
    | fin h2 => rw [h] at h2; cases h2
    | bad => exact ⟨rfl, rfl⟩
    | step h2 _ => rw [h] at h2; cases h2
  | step h _ ih =>
    intro ts' e' h'
    cases h' with
    | fin h2 => rw [h] at h2; cases h2
    | bad h2 => rw [h] at h2; cases h2
    | step h2 h3 =>
      rw [h] at h2
      injection h2 with a b c
      subst a; subst b; subst c
      obtain ⟨e1, e2⟩ := ih h3
      exact ⟨by rw [e1], e2⟩
theorem toks_l (s : ByteArray) (hn : s.size ≤ 65536) : ∀ d i : Nat, ∀ (st : Int) (acc : List S42), s.size - i ≤ d → i ≤ s.size → 0 ≤ st → st ≤ 2 → acc.length + d ≤ 100000 →
    ∃ (ts : List Tk) (e : Bool) (E : Int), Toks ((bytesOf s).drop i) st ts e ∧ ts.length ≤ d ∧ (e = true → E = -1) ∧ (e = false → 0 ≤ E) ∧ ∀ k, 2 * s.size + d + 301 < k → impl_Tokenize.l0 k PC s acc i st = some (acc ++ ts.map mk, E) := by
  intro d
  induction d with
  | zero =>
    intro i st acc hd hi h0 h2 ha
    obtain rfl : i = s.size := by omega
    obtain ⟨r, hr, he⟩ := next_f s hn s.size st (by omega) h0 h2
    rw [drop_end] at hr ⊢
    refine ⟨[], true, -1, .fin rfl, by simp, fun _ => rfl, (fun h => by cases h), fun k hk => ?_⟩
    obtain ⟨k, rfl⟩ : ∃ m, k = m + 1 := ⟨k - 1, by omega⟩
    have hr' : r.1 = 0 := hr
    rw [impl_Tokenize.l0, he k (by omega), Option.bind_some, if_neg (by omega), if_pos hr']
    simp
  | succ d ih =>
    intro i st acc hd hi h0 h2 ha
    obtain ⟨r, hr, he⟩ := next_f s hn i st hi h0 h2
    cases hs : scan ((bytesOf s).drop i) st with
    | fin =>
      rw [hs] at hr
      have hr' : r.1 = 0 := hr
      refine ⟨[], true, -1, .fin hs, by simp, fun _ => rfl, (fun h => by cases h), fun k hk => ?_⟩
      obtain ⟨k, rfl⟩ : ∃ m, k = m + 1 := ⟨k - 1, by omega⟩
      rw [impl_Tokenize.l0, he k (by omega), Option.bind_some, if_neg (by omega), if_pos hr']
      simp
    | bad =>
      rw [hs] at hr
      obtain ⟨hr1, hr2, hr3⟩ := hr
      refine ⟨[], false, r.2.2.2.2.1 - 1, .bad hs, by simp, fun h => (by cases h), fun _ => by omega, fun k hk => ?_⟩
      obtain ⟨k, rfl⟩ : ∃ m, k = m + 1 := ⟨k - 1, by omega⟩
      rw [impl_Tokenize.l0, he k (by omega), Option.bind_some, if_neg (by omega), if_neg (by omega), if_pos hr1, wrap_in _ (by omega) (by omega)]
      simp
    | tok t rest st1 =>
      rw [hs] at hr
      obtain ⟨j, hrj, hj1, hj2, hrest, hst0, hst2⟩ := hr
      obtain ⟨ts, e, E, h1, h3, h4, h5, h6⟩ := ih j st1 (acc ++ [mk t]) (by omega) hj2 hst0 hst2 (by rw [List.length_append]; simp; omega)
      refine ⟨t :: ts, e, E, .step hs (hrest ▸ h1), by simp; omega, h4, h5, fun k hk => ?_⟩
      obtain ⟨k, rfl⟩ : ∃ m, k = m + 1 := ⟨k - 1, by omega⟩
      rw [impl_Tokenize.l0, he k (by omega), Option.bind_some, hrj]
      simp only
      rw [if_neg (by omega), if_neg (by omega), if_neg (by omega), if_pos (by omega)]
      have := h6 k (by omega)
      rw [List.append_assoc] at this
      exact this
theorem tokenize_f (s : ByteArray) (hn : s.size ≤ 65536) : ∃ (ts : List Tk) (e : Bool) (E : Int), Toks (bytesOf s) 0 ts e ∧ ts.length ≤ 65536 ∧ (e = true → E = -1) ∧ (e = false → 0 ≤ E) ∧ ∀ k, 300000 < k → impl_Tokenize.f k PC s = some (ts.map mk, E) := by
  obtain ⟨ts, e, E, h1, h2, h3, h4, h5⟩ := toks_l s hn s.size 0 0 [] (by omega) (by omega) (by omega) (by omega) (by simp; omega)
  refine ⟨ts, e, E, by simpa using h1, by omega, h3, h4, fun k hk => ?_⟩
  unfold impl_Tokenize.f
  have := h5 k (by omega)
  simpa using this
/-! ### what tokens there are, and how they are shown -/
def allB (L : List Int) : Prop := ∀ c ∈ L, byteB c
inductive Kind (st : Int) : Tk → List Int → Int → Prop
  | a (m rest) (h1 : m ≠ []) (h2 : m.length ≤ 40) (h3 : ∀ c ∈ m, letr c = true) (h4 : allB m) : Kind st (0, 0, m) rest 2
  | b (d rest) (h1 : letr d = false) (h2 : byteB d) : Kind st (0, 0, [d]) rest (if ct d = 3 then 2 else 1)
  | c : Kind st (0, 0, []) [] 1
  | d (rest) : Kind st (0, 0, [112, 97, 114]) rest 0
  | e (rest st1) (h1 : st = 1) (h2 : st1 = 0 ∨ st1 = 2) : Kind st (3, 32, []) rest st1
  | f (c rest) (h0 : byteB c) (h1 : ct c ≠ 0) (h2 : ct c ≠ 6) (h3 : ct c ≠ 3) (h4 : ct c ≠ 8) (h5 : ct c ≠ 9) (h6 : ct c ≠ 15) : Kind st (ct c, c, []) rest 1
theorem Kind.from {st st' : Int} {t rest st1} (h : Kind st' t rest st1) (hs : st' = 1 → st = 1) : Kind st t rest st1 := by
  cases h with
  | a m rest h1 h2 h3 h4 => exact .a m rest h1 h2 h3 h4
  | b d rest h1 h2 => exact .b d rest h1 h2
  | c => exact .c
  | d rest => exact .d rest
  | e rest st1 h1 h2 => exact .e rest st1 (hs h1) h2
  | f c rest h0 h1 h2 h3 h4 h5 h6 => exact .f c rest h0 h1 h2 h3 h4 h5 h6
theorem name_kind (st : Int) (r : List Int) (hb : allB r) : ∀ t rest st1, nameR r = .tok t rest st1 → Kind st t rest st1 ∧ allB rest := by
  intro t rest st1 h
  unfold nameR at h
  by_cases hp : pre r = []
  · rw [if_pos hp] at h
    cases r with
    | nil =>
      injection h with a b c
      subst a; subst b; subst c
      exact ⟨.c, fun c hc => by cases hc⟩
    | cons d r =>
      injection h with a b c
      subst a; subst b; subst c
      refine ⟨.b d r ?_ (hb d (by simp)), fun c hc => hb c (by simp [hc])⟩
      cases hl : letr d with
      | false => rfl
      | true =>
        exfalso
        unfold pre at hp
        rw [List.take_succ_cons, List.takeWhile_cons, hl, if_pos rfl] at hp
        cases hp
  · rw [if_neg hp] at h
    injection h with a b c
    subst a; subst b; subst c
    exact ⟨.a _ _ hp (pre_le r) (pre_letr r) (fun c hc => hb c (pre_sub r c hc)), fun c hc => hb c (List.mem_of_mem_drop hc)⟩
theorem scan_kind : ∀ (L : List Int) (st : Int), allB L → 0 ≤ st → st ≤ 3 → ∀ t rest st1, scan L st = .tok t rest st1 → Kind st t rest st1 ∧ allB rest := by
  intro L
  induction L with
  | nil => intro st _ _ _ t rest st1 h; cases h
  | cons c r ih =>
    intro st hb h0 h3 t rest st1 h
    have hbr : allB r := fun x hx => hb x (by simp [hx])
    have hbc : byteB c := hb c (by simp)
    rw [scan] at h
    by_cases s3 : st = 3
    · rw [if_pos s3] at h
      by_cases h6 : ct c = 6
      · rw [if_pos h6] at h
        obtain ⟨q, w⟩ := ih 0 hbr (by omega) (by omega) t rest st1 h
        exact ⟨q.from (fun h => by omega), w⟩
      · rw [if_neg h6] at h
        obtain ⟨q, w⟩ := ih 3 hbr (by omega) (by omega) t rest st1 h
        exact ⟨q.from (fun h => by omega), w⟩
    rw [if_neg s3] at h
    by_cases c0 : ct c = 0
    · rw [if_pos c0] at h
      exact name_kind st r hbr t rest st1 h
    rw [if_neg c0] at h
    by_cases c6 : ct c = 6
    · rw [if_pos c6] at h
      by_cases s0 : st = 0
      · rw [if_pos s0] at h
        injection h with a b c
        subst a; subst b; subst c
        exact ⟨.d r, hbr⟩
      · rw [if_neg s0] at h
        by_cases s1 : st = 1
        · rw [if_pos s1] at h
          injection h with a b c
          subst a; subst b; subst c
          exact ⟨.e r 0 s1 (.inl rfl), hbr⟩
        · rw [if_neg s1] at h
          obtain ⟨q, w⟩ := ih 0 hbr (by omega) (by omega) t rest st1 h
          exact ⟨q.from (fun h => by omega), w⟩
    rw [if_neg c6] at h
    by_cases c3 : ct c = 3
    · rw [if_pos c3] at h
      by_cases s1 : st = 1
      · rw [if_pos s1] at h
        injection h with a b c
        subst a; subst b; subst c
        exact ⟨.e r 2 s1 (.inr rfl), hbr⟩
      · rw [if_neg s1] at h
        exact ih st hbr h0 h3 t rest st1 h
    rw [if_neg c3] at h
    by_cases c8 : ct c = 8
    · rw [if_pos c8] at h
      obtain ⟨q, w⟩ := ih 3 hbr (by omega) (by omega) t rest st1 h
      exact ⟨q.from (fun h => by omega), w⟩
    rw [if_neg c8] at h
    by_cases c9 : ct c = 9
    · rw [if_pos c9] at h
      exact ih st hbr h0 h3 t rest st1 h
    rw [if_neg c9] at h
    by_cases c15 : ct c = 15
    · rw [if_pos c15] at h; cases h
    rw [if_neg c15] at h
    injection h with a b d
    subst a; subst b; subst d
    exact ⟨.f c r hbc c0 c6 c3 c8 c9 c15, hbr⟩
theorem bytes_nums (m : List Int) (h : allB m) : bytesOf (strOfNums m) = m := by
  unfold bytesOf strOfNums
  simp only [List.map_map]
  have e : ∀ c ∈ m, ((fun b : UInt8 => (b.toNat : Int)) ∘ fun n : Int => UInt8.ofNat n.toNat) c = c := by
    intro c hc
    have := h c hc
    unfold byteB at this
    simp only [Function.comp, UInt8.toNat_ofNat']
    omega
  rw [List.map_congr_left e, List.map_id']
theorem last_nums (m : List Int) (hb : allB m) (hne : m ≠ []) : lastB (strOfNums m) = letr (m.getLast hne) := by
  have hp : 0 < m.length := List.length_pos_iff.2 hne
  unfold lastB
  rw [decide_eq_true (by rw [nums_size]; exact hp), Bool.true_and, ← rd_bytesOf, bytes_nums m hb, nums_size]
  rw [show ((m.length : Int) - 1) = ((m.length - 1 : Nat) : Int) by omega, rd_nat m _ (by omega), ← List.getLast_eq_getElem hne]
  exact let_ct (hb _ (List.getLast_mem hne))
theorem ct_32 : ct 32 = 3 := rfl
theorem ct_92 : ct 92 = 0 := rfl
theorem scan_esc (M : List Int) (st : Int) (h : st ≤ 2) : scan (92 :: M) st = nameR M := by
  rw [scan, if_neg (by omega), ct_92, if_pos rfl]
theorem name_again (m M : List Int) (h1 : m ≠ []) (h2 : m.length ≤ 40) (h3 : ∀ c ∈ m, letr c = true) : nameR (m ++ 32 :: M) = .tok (0, 0, m) (32 :: M) 2 := by
  have hp : pre (m ++ 32 :: M) = m := by
    have h := pre_is m.length 40 (m ++ 32 :: M) h2 (by simp) (by rw [List.take_left]; exact h3) (.inr (.inr ⟨32, by simp, rfl⟩))
    rw [List.take_left] at h
    exact h
  unfold nameR
  rw [hp, if_neg h1, List.drop_left]
theorem show_name (m : List Int) (h1 : m ≠ []) (h3 : ∀ c ∈ m, letr c = true) (h4 : allB m) : showL (mk (0, 0, m)) = 92 :: (m ++ [32]) := by
  unfold showL mk
  rw [if_pos rfl, bytes_nums m h4, last_nums m h4 h1, h3 _ (List.getLast_mem h1), if_pos rfl]
/-- A token, shown, is scanned again. -/
theorem again {st : Int} {t rest st1} (h : Kind st t rest st1) (st' : Int) (hs0 : 0 ≤ st') (hs2 : st' ≤ 2) (hs : st = 1 → st' = 1) (M : List Int) (hM : rest = [] → t = (0, 0, []) → M = []) :
    ∃ M' st1', scan (showL (mk t) ++ M) st' = .tok t M' st1' ∧ 0 ≤ st1' ∧ st1' ≤ 2 ∧ (st1 = 1 → st1' = 1) ∧ (M' = M ∨ (M' = 32 :: M ∧ st1' = 2)) := by
  cases h with
  | a m rest h1 h2 h3 h4 =>
    refine ⟨32 :: M, 2, ?_, by omega, by omega, fun h => by omega, .inr ⟨rfl, rfl⟩⟩
    rw [show_name m h1 h3 h4, List.cons_append, scan_esc _ _ hs2, List.append_assoc]
    exact name_again m M h1 h2 h3
  | b d rest h1 h2 =>
    refine ⟨M, if ct d = 3 then 2 else 1, ?_, by split <;> omega, by split <;> omega, fun h => h, .inl rfl⟩
    have hb : allB [d] := fun c hc => by rw [List.mem_singleton.1 hc]; exact h2
    have e : showL (mk (0, 0, [d])) = [92, d] := by
      unfold showL mk
      rw [if_pos rfl, bytes_nums [d] hb, last_nums [d] hb (by simp)]
      rw [show [d].getLast (by simp) = d from rfl, h1, if_neg (by simp)]
      rfl
    rw [e]
    show scan (92 :: d :: M) st' = _
    rw [scan_esc _ _ hs2]
    have hp : pre (d :: M) = [] := by
      unfold pre
      rw [List.take_succ_cons, List.takeWhile_cons, h1]
      rfl
    unfold nameR
    rw [if_pos hp]
  | c =>
    have e := hM rfl rfl
    subst e
    refine ⟨[], 1, ?_, by omega, by omega, fun _ => rfl, .inl rfl⟩
    have e : showL (mk (0, 0, [])) = [92] := rfl
    rw [e]
    show scan [92] st' = _
    rw [scan_esc _ _ hs2]
    rfl
  | d rest =>
    refine ⟨32 :: M, 2, ?_, by omega, by omega, fun h => by omega, .inr ⟨rfl, rfl⟩⟩
    have h3 : ∀ c ∈ ([112, 97, 114] : List Int), letr c = true := by decide
    have h4 : allB [112, 97, 114] := by
      intro c hc
      simp only [List.mem_cons, List.not_mem_nil, or_false] at hc
      unfold byteB
      omega
    rw [show_name _ (by simp) h3 h4, List.cons_append, scan_esc _ _ hs2, List.append_assoc]
    exact name_again _ M (by simp) (by decide) h3
  | e rest st1 h1 h2 =>
    refine ⟨M, 2, ?_, by omega, by omega, fun h => by omega, .inl rfl⟩
    have e : showL (mk (3, 32, [])) = [32] := rfl
    rw [e, hs h1]
    show scan (32 :: M) 1 = _
    rw [scan, if_neg (by omega), ct_32, if_neg (by omega), if_neg (by omega), if_pos rfl, if_pos rfl]
  | f c rest h0 h1 h2 h3 h4 h5 h6 =>
    refine ⟨M, 1, ?_, by omega, by omega, fun _ => rfl, .inl rfl⟩
    have hr := ct_range h0
    have e : showL (mk (ct c, c, [])) = [c] := by
      unfold showL mk
      unfold byteB at h0
      simp only
      rw [if_neg h1, if_neg (by omega)]
      congr 1
      omega
    rw [e]
    show scan (c :: M) st' = _
    rw [scan, if_neg (by omega), if_neg h1, if_neg h2, if_neg h3, if_neg h4, if_neg h5, if_neg h6]
theorem Toks.sp {M : List Int} {ts e} (h : Toks M 2 ts e) : Toks (32 :: M) 2 ts e := by
  have hs : scan (32 :: M) 2 = scan M 2 := by
    rw [scan, if_neg (by omega), ct_32, if_neg (by omega), if_neg (by omega), if_pos rfl, if_neg (by omega)]
  cases h with
  | fin h => exact .fin (hs.trans h)
  | bad h => exact .bad (hs.trans h)
  | step h ht => exact .step (hs.trans h) ht
def shown (ts : List Tk) : List Int := (ts.map (fun t => showL (mk t))).flatten
theorem kind_st {st : Int} {t rest st1} (h : Kind st t rest st1) : 0 ≤ st1 ∧ st1 ≤ 2 := by
  cases h with
  | b d rest => split <;> omega
  | e rest st1 h1 h2 => omega
  | _ => omega
theorem back {L : List Int} {st : Int} {ts e} (h : Toks L st ts e) : e = true → allB L → 0 ≤ st → st ≤ 2 → ∀ st', 0 ≤ st' → st' ≤ 2 → (st = 1 → st' = 1) → Toks (shown ts) st' ts true := by
  induction h with
  | fin h => intro _ _ _ _ st' _ _ _; exact .fin rfl
  | bad h => intro he; cases he
  | step h ht ih =>
    rename_i L st t rest st1 ts e
    intro he hb h0 h2 st' hs0 hs2 hs
    obtain ⟨hk, hbr⟩ := scan_kind L st hb h0 (by omega) t rest st1 h
    obtain ⟨k0, k2⟩ := kind_st hk
    have hM : rest = [] → t = (0, 0, []) → shown ts = [] := by
      intro hr _
      subst hr
      cases ht with
      | fin => rfl
      | bad => rfl
      | step h' => cases h'
    obtain ⟨M', st1', h1, h3, h4, h5, h6⟩ := again hk st' hs0 hs2 hs (shown ts) hM
    have hgo := ih he hbr k0 k2 st1' h3 h4 h5
    have e : shown (t :: ts) = showL (mk t) ++ shown ts := rfl
    rw [e]
    refine .step h1 ?_
    rcases h6 with h6 | ⟨h6, h7⟩
    · rw [h6]; exact hgo
    · rw [h6, h7]
      rw [h7] at hgo
      exact hgo.sp
theorem kinds {L : List Int} {st : Int} {ts e} (h : Toks L st ts e) : allB L → 0 ≤ st → st ≤ 2 → ∀ t ∈ ts, ∃ st rest st1, Kind st t rest st1 := by
  induction h with
  | fin => intro _ _ _ t ht; cases ht
  | bad => intro _ _ _ t ht; cases ht
  | step h ht ih =>
    rename_i L st t0 rest st1 ts e
    intro hb h0 h2 t hm
    obtain ⟨hk, hbr⟩ := scan_kind L st hb h0 (by omega) _ _ _ h
    obtain ⟨k0, k2⟩ := kind_st hk
    rcases List.mem_cons.1 hm with rfl | hm
    · exact ⟨_, _, _, hk⟩
    · exact ih hbr k0 k2 t hm
theorem nil_text : (strOfNums []).toList = [] := (toList_nil _).2 rfl
theorem char_ok (k c : Int) (h0 : byteB c) (hr : 0 ≤ k ∧ k ≤ 15) (h1 : k ≠ 0) (h2 : k ≠ 6) (h4 : k ≠ 8) (h5 : k ≠ 9) (h6 : k ≠ 15) : okT (mk (k, c, [])) = true := by
  unfold byteB at h0
  have e1 : impl_isName.f k c (strOfNums []) = some false := by unfold impl_isName.f; rw [if_neg h1]
  have e2 : impl_isChar.f k c (strOfNums []) = some true := by
    unfold impl_isChar.f
    rw [if_pos nil_text, if_neg (by omega), if_neg (by omega), if_neg (by omega), if_neg (by omega), if_neg h2, if_neg h4, if_neg h5]
    congr 1
    rw [bne_iff_ne]
    exact h6
  unfold okT tokB impl_TokenOk.f mk
  simp only [e1, e2, Option.bind_some]
  rfl
theorem kind_ok {st : Int} {t rest st1} (h : Kind st t rest st1) : okT (mk t) = true ∧ allB (showL (mk t)) := by
  have name : ∀ m : List Int, m.length ≤ 40 → allB m → okT (mk (0, 0, m)) = true ∧ allB (showL (mk (0, 0, m))) := by
    intro m hm hb
    refine ⟨?_, ?_⟩
    · have e1 : impl_isName.f 0 0 (strOfNums m) = some true := by
        unfold impl_isName.f
        rw [if_pos rfl, if_pos (by rw [nums_size]; omega)]
        rfl
      unfold okT tokB impl_TokenOk.f mk
      simp only [e1, Option.bind_some]
      rfl
    · intro c hc
      unfold showL mk at hc
      rw [if_pos rfl, bytes_nums m hb] at hc
      rcases List.mem_cons.1 hc with rfl | hc
      · exact ⟨by omega, by omega⟩
      · rcases List.mem_append.1 hc with hc | hc
        · exact hb c hc
        · split at hc
          · rw [List.mem_singleton.1 hc]; exact ⟨by omega, by omega⟩
          · cases hc
  cases h with
  | a m rest h1 h2 h3 h4 => exact name m h2 h4
  | b d rest h1 h2 => exact name [d] (by simp) (fun c hc => by rw [List.mem_singleton.1 hc]; exact h2)
  | c => exact name [] (by simp) (fun c hc => by cases hc)
  | d rest =>
    refine name _ (by decide) ?_
    intro c hc
    simp only [List.mem_cons, List.not_mem_nil, or_false] at hc
    unfold byteB
    omega
  | e rest st1 h1 h2 => exact ⟨char_ok 3 32 ⟨by omega, by omega⟩ (by omega) (by omega) (by omega) (by omega) (by omega) (by omega), fun c hc => by have e : showL (mk (3, 32, [])) = [32] := rfl; rw [e] at hc; rw [List.mem_singleton.1 hc]; exact ⟨by omega, by omega⟩⟩
  | f c rest h0 h1 h2 h3 h4 h5 h6 =>
    have hr := ct_range h0
    have hc := h0
    unfold byteB at hc
    refine ⟨?_, ?_⟩
    · exact char_ok _ c h0 hr h1 h2 h4 h5 h6
    · intro x hx
      unfold showL mk at hx
      simp only at hx
      rw [if_neg h1, if_neg (by omega)] at hx
      rw [List.mem_singleton.1 hx]
      exact ⟨by omega, by omega⟩
theorem bytes_all (s : ByteArray) : allB (bytesOf s) := by
  intro c hc
  unfold bytesOf at hc
  obtain ⟨b, _, rfl⟩ := List.mem_map.1 hc
  have := b.toNat_lt
  exact ⟨by omega, by omega⟩
/-- The whole: the tokens of a text, shown, are the same tokens. -/
theorem round (ts : List Tk) (s : ByteArray) (h : Toks (bytesOf s) 0 ts true) (hl : ts.length ≤ 20000) : ∃ u : ByteArray, (∀ k, ts.length + 10 < k → impl_ShowTokens.f k (ts.map mk) = some u) ∧ (u.size ≤ 65536 → ∀ k, 300000 < k → impl_Tokenize.f k PC u = some (ts.map mk, -1)) := by
  have hk := kinds h (bytes_all s) (by omega) (by omega)
  have hok : (ts.map mk).all okT = true := by
    rw [List.all_eq_true]
    intro x hx
    obtain ⟨t, ht, rfl⟩ := List.mem_map.1 hx
    obtain ⟨_, _, _, q⟩ := hk t ht
    exact (kind_ok q).1
  have hsz : ∀ x ∈ ts.map mk, x.f2.size ≤ 40 := fun x hx => ok_size x (List.all_eq_true.1 hok x hx)
  have hsh : ((ts.map mk).map showL).flatten = shown ts := by unfold shown; rw [List.map_map]; rfl
  have hall : allB (shown ts) := by
    intro c hc
    unfold shown at hc
    obtain ⟨l, hl', hcl⟩ := List.mem_flatten.1 hc
    obtain ⟨t, ht, rfl⟩ := List.mem_map.1 hl'
    obtain ⟨_, _, _, q⟩ := hk t ht
    exact (kind_ok q).2 c hcl
  refine ⟨strOfNums (shown ts), fun k hkk => ?_, fun hu k hkk => ?_⟩
  · have hi := oks_i (ts.map mk) (by rw [List.length_map]; omega) ts.length k 0 (by rw [List.length_map]; omega) (by omega) (by omega)
    rw [List.drop_zero, hok] at hi
    unfold impl_ShowTokens.f impl_tokensOk.f
    rw [if_neg (by rw [List.length_map]; omega)]
    refine (congrArg (fun z => Option.bind z _) hi).trans ?_
    rw [Option.bind_some, if_pos rfl, showAll_f _ (by rw [List.length_map]; omega) hsz k (by rw [List.length_map]; omega), Option.bind_some, hsh]
  · obtain ⟨us, e, E, h1, h2, h3, h4, h5⟩ := tokenize_f (strOfNums (shown ts)) hu
    rw [bytes_nums _ hall] at h1
    obtain ⟨q1, q2⟩ := h1.det (back h rfl (bytes_all s) (by omega) (by omega) 0 (by omega) (by omega) (fun h => h))
    rw [h5 k hkk, q1, h3 q2]
theorem letter_a : ∃ x : Tk, Toks (bytesOf (⟨#[97]⟩ : ByteArray)) 0 [x] true := ⟨(4, 97, []), .step (rest := []) (st1 := 1) rfl (.fin rfl)⟩

theorem FnTokensBack : laws_FnTokensBack.Pure := by
  intro l hl hx
  suffices h : ∀ k, 2000000 < k → laws_FnTokensBack.f k l = some true from ⟨_, h 2000001 (by omega)⟩
  intro k hk
  unfold laws_FnTokensBack.f laws_big.f
  rw [Option.bind_some]
  by_cases hb : (l.length : Int) > 1048576
  · rw [if_pos (by simpa using hb)]
  rw [if_neg (by simpa using hb)]
  obtain ⟨⟨cs, tx⟩, hd, h1, h2⟩ := draw_ok l (by omega)
  simp only at h2
  rw [hd k (by omega), Option.bind_some, pc_f k (by omega), Option.bind_some]
  have one : impl_Tokenize.f k PC (⟨#[97]⟩ : ByteArray) = some ([(⟨4, 97, strOfNums []⟩ : S42)], -1) := by
    obtain ⟨ts, e, E, q1, q2, q3, q4, q5⟩ := tokenize_f (⟨#[97]⟩ : ByteArray) (by decide)
    have q6 : Toks (bytesOf (⟨#[97]⟩ : ByteArray)) 0 [((4, 97, []) : Tk)] true := .step (rest := []) (st1 := 1) rfl (.fin rfl)
    obtain ⟨r1, r2⟩ := q1.det q6
    rw [q5 k (by omega), r1, q3 r2]
    rfl
  obtain ⟨k, rfl⟩ : ∃ q, k = q + 1 := ⟨k - 1, by omega⟩
  have last : ∀ (ts : List S42) (E : Int), -2 ≤ E → laws_FnTokensBack.j1 k ts E true = some true := by
    intro ts E hE
    obtain ⟨k, rfl⟩ : ∃ q, k = q + 1 := ⟨k - 1, by omega⟩
    rw [laws_FnTokensBack.j1, if_pos rfl, decide_eq_true (by omega)]
  rcases Nat.lt_or_ge 65536 tx.size with hbig | hsmall
  · have hno : impl_Tokenize.f (k + 1) PC tx = some (([] : List S42), -2) := by
      unfold impl_Tokenize.f
      rw [impl_Tokenize.l0, next_no PC tx 0 0 (by have := pc_len; omega) (.inr hbig) k (by have := pc_len; omega), Option.bind_some, if_pos rfl]
    rw [hno, Option.bind_some, Option.bind_some, one, Option.bind_some, if_pos rfl, laws_FnTokensBack.j0, if_neg (by decide), if_neg (by decide)]
    exact last _ _ (by omega)
  · obtain ⟨ts, e, E, q1, q2, q3, q4, q5⟩ := tokenize_f tx hsmall
    rw [q5 (k + 1) (by omega), Option.bind_some, Option.bind_some, one, Option.bind_some, if_pos rfl, laws_FnTokensBack.j0, if_neg (by decide)]
    cases e with
    | false =>
      have := q4 rfl
      rw [if_neg (by simp only; omega)]
      exact last _ _ (by simp only; omega)
    | true =>
      have hE := q3 rfl
      subst hE
      rw [if_pos rfl]
      by_cases hlen : ts.length > 20000
      · rw [show decide (((ts.map mk, (-1 : Int)).1.length : Int) > 20000) = true from decide_eq_true (by simp; omega)]
        exact last _ _ (by simp)
      · rw [show decide (((ts.map mk, (-1 : Int)).1.length : Int) > 20000) = false from decide_eq_false (by simp; omega)]
        obtain ⟨u, hu1, hu2⟩ := round ts tx q1 (by omega)
        obtain ⟨k, rfl⟩ : ∃ q, k = q + 1 := ⟨k - 1, by omega⟩
        rw [laws_FnTokensBack.j1, if_neg (by decide), hu1 k (by omega), Option.bind_some]
        by_cases hus : (u.size : Int) > 65536
        · rw [if_pos hus]
        · rw [if_neg hus, pc_f k (by omega), Option.bind_some, hu2 (by omega) k (by omega), Option.bind_some, if_pos rfl, same_f _ (by rw [List.length_map]; omega) k (by rw [List.length_map]; omega), Option.bind_some]

end Go.Proofs.Ytgfifmbbjoocgaa.Pure
