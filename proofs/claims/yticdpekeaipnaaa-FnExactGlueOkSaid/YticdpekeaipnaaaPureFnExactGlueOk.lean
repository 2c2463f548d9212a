/- The pure statement of FnExactGlueOk: both sides ask the same of a glue's five numbers. No condition. -/
import Derived.Test.YticdpekeaipnaaaPFnExactGlueOkx1
namespace Go.Proofs.Yticdpekeaipnaaa.Pure
open Go.RowKit Go.Proofs.Yticdpekeaipnaaa.PFnExactGlueOk Go.Proofs.YticdpekeaipnaaaW.PrintWords Go.Proofs.YticdpekeaipnaaaW.PrintLast
set_option linter.unusedVariables false
set_option linter.unusedSimpArgs false

def fitsB (a : Int) : Bool := decide (-1073741823 ≤ a ∧ a ≤ 1073741823)
def ordB (a : Int) : Bool := decide (0 ≤ a ∧ a ≤ 3)
def glueB (a b c d e : Int) : Bool := fitsB a && fitsB b && fitsB d && ordB c && ordB e
theorem fits_s (a : Int) : spec_l1Fits.f a = some (fitsB a) := by
  unfold spec_l1Fits.f fitsB
  split <;> simp <;> omega
theorem ord_s (a : Int) : spec_l1Order.f a = some (ordB a) := by
  unfold spec_l1Order.f ordB
  split <;> simp <;> omega
theorem fits_i (a : Int) : impl_fits.f a = some (fitsB a) := fits_s a
theorem ord_i (a : Int) : impl_GlueOk_1.f a = some (ordB a) := ord_s a
theorem glue_s (a b c d e : Int) : spec_GlueOk.f a b c d e = some (glueB a b c d e) := by
  simp only [spec_GlueOk.f, fits_s, ord_s, Option.bind_some, glueB]
  cases fitsB a <;> cases fitsB b <;> cases fitsB d <;> cases ordB c <;> cases ordB e <;> simp
theorem glue_i (a b c d e : Int) : impl_GlueOk.f a b c d e = some (glueB a b c d e) := by
  simp only [impl_GlueOk.f, fits_i, ord_i, Option.bind_some, glueB]
  cases fitsB a <;> cases fitsB b <;> cases fitsB d <;> cases ordB c <;> cases ordB e <;> simp

theorem FnExactGlueOk : laws_FnExactGlueOk.Pure := by
  intro a b c d e _ _ _ _ _
  simp [laws_FnExactGlueOk.f, laws_toGlue.f, glue_s, glue_i]

end Go.Proofs.Yticdpekeaipnaaa.Pure
