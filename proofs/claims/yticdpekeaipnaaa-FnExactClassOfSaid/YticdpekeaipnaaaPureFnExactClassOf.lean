/- The pure statement of FnExactClassOf: both sides give each of fifteen characters its class, and every other number none. No condition. -/
import Derived.Test.YticdpekeaipnaaaPFnExactClassOfx1
import Derived.Test.YticdpekeaipnaaaKit
namespace Go.Proofs.Yticdpekeaipnaaa.Pure
open Go.RowKit Go.Proofs.Yticdpekeaipnaaa.PFnExactClassOf Go.Proofs.Yticdpekeaipnaaa.Kit Go.Proofs.YticdpekeaipnaaaW.PrintWords Go.Proofs.YticdpekeaipnaaaW.PrintLast
set_option linter.unusedVariables false
set_option linter.unusedSimpArgs false

theorem in_l0 (s : ByteArray) (x : Int) (hs : s.size ≤ 100) (hx : ∀ i : Nat, i < s.size → ¬ bt s (i : Int) = x) : ∀ d k i : Nat, s.size - i = d → i ≤ s.size → d < k → spec_l6In.l0 k s x i = some false := by
  intro d
  induction d with
  | zero =>
    intro k i hd hi hk
    obtain ⟨k, rfl⟩ : ∃ m, k = m + 1 := ⟨k - 1, by omega⟩
    simp only [spec_l6In.l0]
    rw [if_neg (by omega)]
  | succ d ih =>
    intro k i hd hi hk
    obtain ⟨k, rfl⟩ : ∃ m, k = m + 1 := ⟨k - 1, by omega⟩
    simp only [spec_l6In.l0]
    have hb := bt_range s (i : Int)
    rw [if_pos (by omega), if_pos (by omega), wrap_in (bt s (i : Int)) (by omega) (by omega), if_neg (hx i (by omega)), wrap_succ i (by omega)]
    exact ih k (i + 1) (by omega) (by omega) (by omega)
theorem in_f (s : ByteArray) (x : Int) (k : Nat) (hs : s.size ≤ 100) (hk : s.size < k) (hx : ∀ i : Nat, i < s.size → ¬ bt s (i : Int) = x) : spec_l6In.f k s x = some false := by
  unfold spec_l6In.f
  exact in_l0 s x hs hx s.size k 0 (by omega) (by omega) hk

theorem FnExactClassOf : laws_FnExactClassOf.Pure := by
  intro a _
  refine ⟨20, ?_⟩
  by_cases h1 : a = 43
  · subst h1; decide +kernel
  by_cases h2 : a = 45
  · subst h2; decide +kernel
  by_cases h3 : a = 42
  · subst h3; decide +kernel
  by_cases h4 : a = 60
  · subst h4; decide +kernel
  by_cases h5 : a = 61
  · subst h5; decide +kernel
  by_cases h6 : a = 62
  · subst h6; decide +kernel
  by_cases h7 : a = 58
  · subst h7; decide +kernel
  by_cases h8 : a = 40
  · subst h8; decide +kernel
  by_cases h9 : a = 91
  · subst h9; decide +kernel
  by_cases h10 : a = 41
  · subst h10; decide +kernel
  by_cases h11 : a = 93
  · subst h11; decide +kernel
  by_cases h12 : a = 33
  · subst h12; decide +kernel
  by_cases h13 : a = 63
  · subst h13; decide +kernel
  by_cases h14 : a = 44
  · subst h14; decide +kernel
  by_cases h15 : a = 59
  · subst h15; decide +kernel
  have hs : spec_ClassOf.f 20 a = some 0 := by
    unfold spec_ClassOf.f
    have b3 : ∀ (x y z : UInt8), (¬ (x.toNat : Int) = a) → (¬ (y.toNat : Int) = a) → (¬ (z.toNat : Int) = a) → spec_l6In.f 20 (⟨#[x, y, z]⟩ : ByteArray) a = some false := by
      intro x y z hx hy hz
      refine in_f _ a 20 (by show 3 ≤ 100; omega) (by show 3 < 20; omega) (fun i hi => ?_)
      have hi' : i < 3 := hi
      match i, hi' with
      | 0, _ => exact hx
      | 1, _ => exact hy
      | 2, _ => exact hz
    have b4 : ∀ (x y z t : UInt8), (¬ (x.toNat : Int) = a) → (¬ (y.toNat : Int) = a) → (¬ (z.toNat : Int) = a) → (¬ (t.toNat : Int) = a) → spec_l6In.f 20 (⟨#[x, y, z, t]⟩ : ByteArray) a = some false := by
      intro x y z t hx hy hz ht
      refine in_f _ a 20 (by show 4 ≤ 100; omega) (by show 4 < 20; omega) (fun i hi => ?_)
      have hi' : i < 4 := hi
      match i, hi' with
      | 0, _ => exact hx
      | 1, _ => exact hy
      | 2, _ => exact hz
      | 3, _ => exact ht
    have b2 : ∀ (x y : UInt8), (¬ (x.toNat : Int) = a) → (¬ (y.toNat : Int) = a) → spec_l6In.f 20 (⟨#[x, y]⟩ : ByteArray) a = some false := by
      intro x y hx hy
      refine in_f _ a 20 (by show 2 ≤ 100; omega) (by show 2 < 20; omega) (fun i hi => ?_)
      have hi' : i < 2 := hi
      match i, hi' with
      | 0, _ => exact hx
      | 1, _ => exact hy
    have e1 := b3 43 45 42 (fun h => h1 h.symm) (fun h => h2 h.symm) (fun h => h3 h.symm)
    have e2 := b4 60 61 62 58 (fun h => h4 h.symm) (fun h => h5 h.symm) (fun h => h6 h.symm) (fun h => h7 h.symm)
    have e3 := b2 40 91 (fun h => h8 h.symm) (fun h => h9 h.symm)
    have e4 := b4 41 93 33 63 (fun h => h10 h.symm) (fun h => h11 h.symm) (fun h => h12 h.symm) (fun h => h13 h.symm)
    have e5 := b2 44 59 (fun h => h14 h.symm) (fun h => h15 h.symm)
    rw [e1]; simp only [Option.bind_some]; rw [if_neg (by decide), e2]; simp only [Option.bind_some]; rw [if_neg (by decide), e3]; simp only [Option.bind_some]
    rw [if_neg (by decide), e4]; simp only [Option.bind_some]; rw [if_neg (by decide), e5]; simp
  have hi : impl_ClassOf.f 20 a = some 0 := by
    unfold impl_ClassOf.f
    simp only [impl_ClassOf.j0, impl_ClassOf.j1, impl_ClassOf.j2, impl_ClassOf.j3]
    simp [h1, h2, h3, h4, h5, h6, h7, h8, h9, h10, h11, h12, h13, h14, h15]
  unfold laws_FnExactClassOf.f
  rw [hs, hi]
  rfl

end Go.Proofs.Yticdpekeaipnaaa.Pure
