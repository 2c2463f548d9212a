/- The pure statement of FnExactSheetOk: both sides ask the same of a sheet's eight numbers. No condition. -/
import Derived.Test.YticdpekeaipnaaaPFnExactSheetOkx1
namespace Go.Proofs.Yticdpekeaipnaaa.Pure
open Go.RowKit Go.Proofs.Yticdpekeaipnaaa.PFnExactSheetOk Go.Proofs.YticdpekeaipnaaaW.PrintWords Go.Proofs.YticdpekeaipnaaaW.PrintLast
set_option linter.unusedVariables false
set_option linter.unusedSimpArgs false

def fitsB (a : Int) : Bool := decide (-1073741823 ≤ a ∧ a ≤ 1073741823)
def ordB (a : Int) : Bool := decide (0 ≤ a ∧ a ≤ 3)
def lenB (a : Int) : Bool := decide (0 ≤ a ∧ a ≤ 1073741823)
def glueB (a b c d e : Int) : Bool := fitsB a && fitsB b && fitsB d && ordB c && ordB e
theorem fits_s (a : Int) : spec_l1Fits.f a = some (fitsB a) := by
  unfold spec_l1Fits.f fitsB
  split <;> simp <;> omega
theorem ord_s (a : Int) : spec_l1Order.f a = some (ordB a) := by
  unfold spec_l1Order.f ordB
  split <;> simp <;> omega
theorem fits_i (a : Int) : impl_fits.f a = some (fitsB a) := fits_s a
theorem ord_i (a : Int) : impl_GlueOk_1.f a = some (ordB a) := ord_s a
theorem len_i (a : Int) : impl_oLen.f a = some (lenB a) := by
  unfold impl_oLen.f lenB
  split <;> simp <;> omega
theorem glue_s (a b c d e : Int) : spec_GlueOk.f a b c d e = some (glueB a b c d e) := by
  simp only [spec_GlueOk.f, fits_s, ord_s, Option.bind_some, glueB]
  cases fitsB a <;> cases fitsB b <;> cases fitsB d <;> cases ordB c <;> cases ordB e <;> simp
theorem glue_i (a b c d e : Int) : impl_GlueOk.f a b c d e = some (glueB a b c d e) := by
  simp only [impl_GlueOk.f, fits_i, ord_i, Option.bind_some, glueB]
  cases fitsB a <;> cases fitsB b <;> cases fitsB d <;> cases ordB c <;> cases ordB e <;> simp
def sheetB (h d a b c e f n : Int) : Bool := lenB h && lenB d && lenB n && glueB a b c e f
theorem sheet_s (h d a b c e f n : Int) : spec_SheetOk.f h d a b c e f n = some (sheetB h d a b c e f n) := by
  simp only [spec_SheetOk.f, glue_s, Option.bind_some, sheetB, lenB]
  repeat' split
  all_goals first
    | (have e1 : decide (0 ≤ h ∧ h ≤ 1073741823) = true := by simp; omega
       have e2 : decide (0 ≤ d ∧ d ≤ 1073741823) = true := by simp; omega
       have e3 : decide (0 ≤ n ∧ n ≤ 1073741823) = true := by simp; omega
       rw [e1, e2, e3]; simp; done)
    | (have e1 : decide (0 ≤ h ∧ h ≤ 1073741823) = false := by simp; omega
       rw [e1]; simp; done)
    | (have e1 : decide (0 ≤ d ∧ d ≤ 1073741823) = false := by simp; omega
       rw [e1]; simp; done)
    | (have e1 : decide (0 ≤ n ∧ n ≤ 1073741823) = false := by simp; omega
       rw [e1]; simp; done)
theorem sheet_i (h d a b c e f n : Int) : impl_SheetOk.f h d a b c e f n = some (sheetB h d a b c e f n) := by
  simp only [impl_SheetOk.f, glue_i, len_i, Option.bind_some, sheetB]
  cases lenB h <;> cases lenB d <;> cases lenB n <;> cases glueB a b c e f <;> simp

theorem FnExactSheetOk : laws_FnExactSheetOk.Pure := by
  intro a b c d e f g h _ _ _ _ _ _ _ _
  simp [laws_FnExactSheetOk.f, laws_toSheet.f, laws_toGlue.f, sheet_s, sheet_i]

end Go.Proofs.Yticdpekeaipnaaa.Pure
