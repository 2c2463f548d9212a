/- The pure statement of FnExactCatsOk: both sides ask for 256 numbers from 0 to 15. No condition. -/
import Derived.Test.YticdpekeaipnaaaPFnExactCatsOkx1
import Derived.Test.YticdpekeaipnaaaKit
namespace Go.Proofs.Yticdpekeaipnaaa.Pure
open Go.RowKit Go.Proofs.Yticdpekeaipnaaa.PFnExactCatsOk Go.Proofs.Yticdpekeaipnaaa.Kit Go.Proofs.YticdpekeaipnaaaW.PrintWords Go.Proofs.YticdpekeaipnaaaW.PrintLast
set_option linter.unusedVariables false
set_option linter.unusedSimpArgs false

def okc (c : Int) : Bool := !decide (c < 0) && !decide (c > 15)

theorem impl_l0 (l : List Int) (hl : l.length ≤ 1048576) : ∀ d k i : Nat, l.length - i = d → i ≤ l.length → d < k → impl_CatsOk.l0 k l l (l.length : Int) i = some ((l.drop i).all okc && ((l.length : Int) == 256)) := by
  intro d
  induction d with
  | zero =>
    intro k i hd hi hk
    obtain ⟨k, rfl⟩ : ∃ m, k = m + 1 := ⟨k - 1, by omega⟩
    simp only [impl_CatsOk.l0]
    rw [if_neg (by omega), List.drop_of_length_le (by omega)]
    simp
  | succ d ih =>
    intro k i hd hi hk
    obtain ⟨k, rfl⟩ : ∃ m, k = m + 1 := ⟨k - 1, by omega⟩
    simp only [impl_CatsOk.l0]
    rw [if_pos (by omega), if_pos (by omega), if_pos (by omega), drop_rd l i (by omega), List.all_cons]
    by_cases h1 : rd l (i : Int) < 0
    · rw [if_pos h1]; simp [okc, h1]
    · rw [if_neg h1]
      by_cases h2 : rd l (i : Int) > 15
      · rw [if_pos h2]; simp [okc, h2]
      · rw [if_neg h2, wrap_succ i (by omega), ih k (i + 1) (by omega) (by omega) (by omega)]
        have e : okc (rd l (i : Int)) = true := by simp [okc]; omega
        rw [e, Bool.true_and]

theorem spec_l0 (l : List Int) (hl : l.length = 256) : ∀ d k i : Nat, 256 - i = d → i ≤ 256 → d < k → spec_CatsOk.l0 k l i = some ((l.drop i).all okc) := by
  intro d
  induction d with
  | zero =>
    intro k i hd hi hk
    obtain ⟨k, rfl⟩ : ∃ m, k = m + 1 := ⟨k - 1, by omega⟩
    simp only [spec_CatsOk.l0]
    rw [if_neg (by omega), List.drop_of_length_le (by omega)]
    simp
  | succ d ih =>
    intro k i hd hi hk
    obtain ⟨k, rfl⟩ : ∃ m, k = m + 1 := ⟨k - 1, by omega⟩
    simp only [spec_CatsOk.l0]
    rw [if_pos (by omega), if_pos (by omega), if_pos (by omega), drop_rd l i (by omega), List.all_cons]
    by_cases h1 : rd l (i : Int) < 0
    · rw [if_pos h1]; simp [okc, h1]
    · rw [if_neg h1]
      by_cases h2 : rd l (i : Int) > 15
      · rw [if_pos h2]; simp [okc, h2]
      · rw [if_neg h2, wrap_succ i (by omega), ih k (i + 1) (by omega) (by omega) (by omega)]
        have e : okc (rd l (i : Int)) = true := by simp [okc]; omega
        rw [e, Bool.true_and]

theorem to_l0 (l : List Int) (hl : l.length ≤ 1048576) : ∀ d k i : Nat, l.length - i = d → i ≤ l.length → d < k →
    laws_toInt64S.l0 k l ((List.range i).map (fun j : Nat => rd l (j : Int)) ++ List.replicate (l.length - i) 0) i = some l := by
  intro d
  induction d with
  | zero =>
    intro k i hd hi hk
    obtain ⟨k, rfl⟩ : ∃ m, k = m + 1 := ⟨k - 1, by omega⟩
    obtain rfl : i = l.length := by omega
    simp only [laws_toInt64S.l0]
    rw [if_neg (by omega), Nat.sub_self, map_get l (fun x => x) (fun j : Nat => rd l (j : Int)) (fun j hj => rd_nat l j hj)]
    simp
  | succ d ih =>
    intro k i hd hi hk
    obtain ⟨k, rfl⟩ : ∃ m, k = m + 1 := ⟨k - 1, by omega⟩
    simp only [laws_toInt64S.l0]
    rw [if_pos (by omega), if_pos (by omega), if_pos (by simp; omega), wrap_succ i (by omega), Int.toNat_natCast, set_step (fun j : Nat => rd l (j : Int)) 0 l.length i (by omega)]
    exact ih k (i + 1) (by omega) (by omega) (by omega)
theorem to_f (l : List Int) (hl : l.length ≤ 1048576) (k : Nat) (hk : l.length < k) : laws_toInt64S.f k l = some l := by
  unfold laws_toInt64S.f
  rw [if_pos (by omega), if_pos (by simp; omega), Int.toNat_natCast]
  exact to_l0 l hl l.length k 0 (by omega) (by omega) hk

theorem eq_l0 (l : List Int) (hl : l.length ≤ 1048576) : ∀ d k i : Nat, l.length - i = d → i ≤ l.length → d < k → laws_eqInt64S.l0 k l l i = some true := by
  intro d
  induction d with
  | zero =>
    intro k i hd hi hk
    obtain ⟨k, rfl⟩ : ∃ m, k = m + 1 := ⟨k - 1, by omega⟩
    simp only [laws_eqInt64S.l0]
    rw [if_neg (by omega)]
  | succ d ih =>
    intro k i hd hi hk
    obtain ⟨k, rfl⟩ : ∃ m, k = m + 1 := ⟨k - 1, by omega⟩
    rw [laws_eqInt64S.l0, if_pos (by omega), if_pos (by omega), if_pos (by omega), if_pos rfl, wrap_succ i (by omega)]
    exact ih k (i + 1) (by omega) (by omega) (by omega)
theorem eq_f (l : List Int) (hl : l.length ≤ 1048576) (k : Nat) (hk : l.length < k) : laws_eqInt64S.f k l l = some true := by
  unfold laws_eqInt64S.f
  rw [if_pos rfl]
  exact eq_l0 l hl l.length k 0 (by omega) (by omega) hk

theorem FnExactCatsOk : laws_FnExactCatsOk.Pure := by
  intro l _ _
  by_cases hb : (l.length : Int) > 1048576
  · exact ⟨0, by unfold laws_FnExactCatsOk.f; rw [if_pos hb]⟩
  · have hl : l.length ≤ 1048576 := by omega
    refine ⟨l.length + 300, ?_⟩
    have hi : impl_CatsOk.f (l.length + 300) l = some (l.all okc && ((l.length : Int) == 256)) := by
      unfold impl_CatsOk.f
      exact impl_l0 l hl l.length _ 0 (by omega) (by omega) (by omega)
    have hs : spec_CatsOk.f (l.length + 300) l = some (l.all okc && ((l.length : Int) == 256)) := by
      unfold spec_CatsOk.f
      by_cases h : (l.length : Int) = 256
      · rw [if_pos h]
        have := spec_l0 l (by omega) 256 (l.length + 300) 0 (by omega) (by omega) (by omega)
        rw [show ((0 : Nat) : Int) = 0 from rfl] at this
        rw [this, List.drop_zero, h]
        simp
      · rw [if_neg h]
        have : ((l.length : Int) == 256) = false := by simpa using h
        rw [this, Bool.and_false]
    unfold laws_FnExactCatsOk.f
    rw [if_neg hb, to_f l hl _ (by omega)]
    simp only [Option.bind_some, hs, hi, eq_f l hl _ (show l.length < l.length + 300 by omega), bne_self]
    simp

end Go.Proofs.Yticdpekeaipnaaa.Pure
