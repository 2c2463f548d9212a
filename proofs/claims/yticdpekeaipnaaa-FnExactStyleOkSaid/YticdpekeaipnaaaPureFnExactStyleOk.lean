/- The pure statement of FnExactStyleOk: both sides ask the same of a style's eight numbers and three glues. No condition. -/
import Derived.Test.YticdpekeaipnaaaPFnExactStyleOkx3
namespace Go.Proofs.Yticdpekeaipnaaa.Pure
open Go.RowKit Go.Proofs.Yticdpekeaipnaaa.PFnExactStyleOk Go.Proofs.YticdpekeaipnaaaW.PrintWords Go.Proofs.YticdpekeaipnaaaW.PrintLast
set_option linter.unusedVariables false
set_option linter.unusedSimpArgs false

def fitsB (a : Int) : Bool := decide (-1073741823 ≤ a ∧ a ≤ 1073741823)
def ordB (a : Int) : Bool := decide (0 ≤ a ∧ a ≤ 3)
def costB (a : Int) : Bool := decide (0 ≤ a ∧ a ≤ 1000000)
def inB (a m : Int) : Bool := decide (0 ≤ a ∧ a ≤ m)
def glueB (a b c d e : Int) : Bool := fitsB a && fitsB b && fitsB d && ordB c && ordB e
theorem fits_s (a : Int) : spec_l1Fits.f a = some (fitsB a) := by
  unfold spec_l1Fits.f fitsB
  split <;> simp <;> omega
theorem ord_s (a : Int) : spec_l1Order.f a = some (ordB a) := by
  unfold spec_l1Order.f ordB
  split <;> simp <;> omega
theorem cost_s (a : Int) : spec_l9Cost.f a = some (costB a) := by
  unfold spec_l9Cost.f costB
  split <;> simp <;> omega
theorem fits_i (a : Int) : impl_fits.f a = some (fitsB a) := fits_s a
theorem ord_i (a : Int) : impl_GlueOk_1.f a = some (ordB a) := ord_s a
theorem in_i (a m : Int) : impl_StyleOk_1.f a m = some (inB a m) := by
  unfold impl_StyleOk_1.f inB
  split <;> simp <;> omega
theorem glue_s (a b c d e : Int) : spec_GlueOk.f a b c d e = some (glueB a b c d e) := by
  simp only [spec_GlueOk.f, fits_s, ord_s, Option.bind_some, glueB]
  cases fitsB a <;> cases fitsB b <;> cases fitsB d <;> cases ordB c <;> cases ordB e <;> simp
theorem glue_i (a b c d e : Int) : impl_GlueOk.f a b c d e = some (glueB a b c d e) := by
  simp only [impl_GlueOk.f, fits_i, ord_i, Option.bind_some, glueB]
  cases fitsB a <;> cases fitsB b <;> cases fitsB d <;> cases ordB c <;> cases ordB e <;> simp
theorem j1_eq (k : Nat) (x : Bool) (a0 a1 a2 a3 a4 a5 a6 a7 a8 a9 a10 a11 a12 a13 a14 a15 a16 a17 a18 a19 a20 a21 a22 : Int) : spec_StyleOk.j1 (k + 1) x a0 a1 a2 a3 a4 a5 a6 a7 a8 a9 a10 a11 a12 a13 a14 a15 a16 a17 a18 a19 a20 a21 a22 = some (!x && (glueB a8 a9 a10 a11 a12 && (glueB a13 a14 a15 a16 a17 && glueB a18 a19 a20 a21 a22))) := by
  simp only [spec_StyleOk.j1, glue_s, Option.bind_some]
  cases x <;> cases glueB a8 a9 a10 a11 a12 <;> cases glueB a13 a14 a15 a16 a17 <;> cases glueB a18 a19 a20 a21 a22 <;> simp
theorem j0_eq (k : Nat) (x : Bool) (a0 a1 a2 a3 a4 a5 a6 a7 a8 a9 a10 a11 a12 a13 a14 a15 a16 a17 a18 a19 a20 a21 a22 : Int) : spec_StyleOk.j0 (k + 2) x a0 a1 a2 a3 a4 a5 a6 a7 a8 a9 a10 a11 a12 a13 a14 a15 a16 a17 a18 a19 a20 a21 a22 = some (!x && (costB a4 && (costB a5 && (costB a6 && (costB a7 && (!decide (a4 > 10000) && (!decide (a5 > 10000) && (glueB a8 a9 a10 a11 a12 && (glueB a13 a14 a15 a16 a17 && glueB a18 a19 a20 a21 a22))))))))) := by
  simp only [spec_StyleOk.j0, cost_s, j1_eq, Option.bind_some]
  generalize (glueB a8 a9 a10 a11 a12 && (glueB a13 a14 a15 a16 a17 && glueB a18 a19 a20 a21 a22)) = g
  by_cases h4 : a4 > 10000
  · rw [if_pos h4]
    cases x <;> cases costB a4 <;> cases costB a5 <;> cases costB a6 <;> cases costB a7 <;> simp [h4]
  · rw [if_neg h4]
    cases x <;> cases costB a4 <;> cases costB a5 <;> cases costB a6 <;> cases costB a7 <;> simp [h4]
theorem style_s (k : Nat) (a0 a1 a2 a3 a4 a5 a6 a7 a8 a9 a10 a11 a12 a13 a14 a15 a16 a17 a18 a19 a20 a21 a22 : Int) : spec_StyleOk.f (k + 2) a0 a1 a2 a3 a4 a5 a6 a7 a8 a9 a10 a11 a12 a13 a14 a15 a16 a17 a18 a19 a20 a21 a22 = some (inB a0 1073741823 && (inB a1 1073741823 && (inB a2 4 && (inB a3 10000 && (costB a4 && (costB a5 && (costB a6 && (costB a7 && (!decide (a4 > 10000) && (!decide (a5 > 10000) && (glueB a8 a9 a10 a11 a12 && (glueB a13 a14 a15 a16 a17 && glueB a18 a19 a20 a21 a22)))))))))))) := by
  simp only [spec_StyleOk.f, j0_eq]
  generalize (costB a4 && (costB a5 && (costB a6 && (costB a7 && (!decide (a4 > 10000) && (!decide (a5 > 10000) && (glueB a8 a9 a10 a11 a12 && (glueB a13 a14 a15 a16 a17 && glueB a18 a19 a20 a21 a22)))))))) = g
  have no : ∀ a m : Int, (a < 0 ∨ m < a) → inB a m = false := fun a m h => by simp [inB]; omega
  have yes : ∀ a m : Int, ¬ a < 0 → ¬ a > m → inB a m = true := fun a m h h' => by simp [inB]; omega
  by_cases c0 : a0 < 0
  · rw [if_pos c0, no a0 _ (.inl c0)]; simp
  rw [if_neg c0]
  by_cases d0 : a0 > 1073741823
  · rw [if_pos d0, no a0 _ (.inr d0)]; simp
  rw [if_neg d0, yes a0 _ c0 d0]
  by_cases c1 : a1 < 0
  · rw [if_pos c1, no a1 _ (.inl c1)]; simp
  rw [if_neg c1]
  by_cases d1 : a1 > 1073741823
  · rw [if_pos d1, no a1 _ (.inr d1)]; simp
  rw [if_neg d1, yes a1 _ c1 d1]
  by_cases c2 : a2 < 0
  · rw [if_pos c2, no a2 _ (.inl c2)]; simp
  rw [if_neg c2]
  by_cases d2 : a2 > 4
  · rw [if_pos d2, no a2 _ (.inr d2)]; simp
  rw [if_neg d2, yes a2 _ c2 d2]
  by_cases c3 : a3 < 0
  · rw [if_pos c3, no a3 _ (.inl c3)]; simp
  rw [if_neg c3]
  by_cases d3 : a3 > 10000
  · rw [no a3 _ (.inr d3)]; simp [d3]
  · rw [yes a3 _ c3 d3]; simp [d3]
theorem style_i (a0 a1 a2 a3 a4 a5 a6 a7 a8 a9 a10 a11 a12 a13 a14 a15 a16 a17 a18 a19 a20 a21 a22 : Int) : impl_StyleOk.f a0 a1 a2 a3 a4 a5 a6 a7 a8 a9 a10 a11 a12 a13 a14 a15 a16 a17 a18 a19 a20 a21 a22 = some (inB a0 1073741823 && (inB a1 1073741823 && (inB a2 4 && (inB a3 10000 && (inB a4 10000 && (inB a5 10000 && (inB a6 1000000 && (inB a7 1000000 && (glueB a8 a9 a10 a11 a12 && (glueB a13 a14 a15 a16 a17 && glueB a18 a19 a20 a21 a22)))))))))) := by
  simp only [impl_StyleOk.f, in_i, glue_i, Option.bind_some]
  generalize glueB a8 a9 a10 a11 a12 = g8
  generalize glueB a13 a14 a15 a16 a17 = g13
  generalize glueB a18 a19 a20 a21 a22 = g18
  generalize inB a0 1073741823 = b0
  generalize inB a1 1073741823 = b1
  generalize inB a2 4 = b2
  generalize inB a3 10000 = b3
  generalize inB a4 10000 = b4
  generalize inB a5 10000 = b5
  generalize inB a6 1000000 = b6
  generalize inB a7 1000000 = b7
  cases b0 <;> simp
  cases b1 <;> simp
  cases b2 <;> simp
  cases b3 <;> simp
  cases b4 <;> simp
  cases b5 <;> simp
  cases b6 <;> simp
  cases b7 <;> simp
  cases g8 <;> simp
  cases g13 <;> simp
theorem same (a0 a1 a2 a3 a4 a5 a6 a7 a8 a9 a10 a11 a12 a13 a14 a15 a16 a17 a18 a19 a20 a21 a22 : Int) : (costB a4 && (costB a5 && (costB a6 && (costB a7 && (!decide (a4 > 10000) && (!decide (a5 > 10000) && (glueB a8 a9 a10 a11 a12 && (glueB a13 a14 a15 a16 a17 && glueB a18 a19 a20 a21 a22)))))))) = (inB a4 10000 && (inB a5 10000 && (inB a6 1000000 && (inB a7 1000000 && (glueB a8 a9 a10 a11 a12 && (glueB a13 a14 a15 a16 a17 && glueB a18 a19 a20 a21 a22)))))) := by
  generalize (glueB a8 a9 a10 a11 a12 && (glueB a13 a14 a15 a16 a17 && glueB a18 a19 a20 a21 a22)) = g
  have e4 : (costB a4 && !decide (a4 > 10000)) = inB a4 10000 := by
    rw [Bool.eq_iff_iff]; simp [costB, inB]; omega
  have e5 : (costB a5 && !decide (a5 > 10000)) = inB a5 10000 := by
    rw [Bool.eq_iff_iff]; simp [costB, inB]; omega
  rw [← e4, ← e5, show inB a6 1000000 = costB a6 from rfl, show inB a7 1000000 = costB a7 from rfl]
  cases costB a4 <;> cases costB a5 <;> cases costB a6 <;> cases costB a7 <;> cases decide (a4 > 10000) <;> cases decide (a5 > 10000) <;> simp

theorem FnExactStyleOk : laws_FnExactStyleOk.Pure := by
  intro a0 a1 a2 a3 a4 a5 a6 a7 a8 a9 a10 a11 a12 a13 a14 a15 a16 a17 a18 a19 a20 a21 a22 _ _ _ _ _ _ _ _ _ _ _ _ _ _ _ _ _ _ _ _ _ _ _
  refine ⟨2, ?_⟩
  simp only [laws_FnExactStyleOk.f, laws_toStyle.f, laws_toGlue.f, Option.bind_some, style_s 0, style_i]
  rw [same a0 a1 a2 a3 a4 a5 a6 a7 a8 a9 a10 a11 a12 a13 a14 a15 a16 a17 a18 a19 a20 a21 a22]
  simp

end Go.Proofs.Yticdpekeaipnaaa.Pure
