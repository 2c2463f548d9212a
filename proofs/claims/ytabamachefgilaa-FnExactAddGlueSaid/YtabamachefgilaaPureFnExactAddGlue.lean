/- The pure statement of FnExactAddGlue: both sides add two glues alike. No condition. -/
import Derived.Test.YtabamachefgilaaPFnExactAddGluex3
import Derived.Test.YtabamachefgilaaKit
namespace Go.Proofs.Ytabamachefgilaa.Pure
open Go.RowKit Go.Proofs.Ytabamachefgilaa.PFnExactAddGlue Go.Proofs.Ytabamachefgilaa.Kit Go.Proofs.YtabamachefgilaaW.PrintWords Go.Proofs.YtabamachefgilaaW.PrintLast Go.Proofs.YtabamachefgilaaW.PrintMore
set_option linter.unusedVariables false
set_option linter.unusedSimpArgs false

def fitsB (a : Int) : Bool := decide (-1073741823 ≤ a ∧ a ≤ 1073741823)
def ordB (a : Int) : Bool := decide (0 ≤ a ∧ a ≤ 3)
def glueB (a b c d e : Int) : Bool := fitsB a && fitsB b && fitsB d && ordB c && ordB e
theorem fits_s (a : Int) : spec_l1Fits.f a = some (fitsB a) := by
  unfold spec_l1Fits.f fitsB
  split <;> simp <;> omega
theorem ord_s (a : Int) : spec_l1Order.f a = some (ordB a) := by
  unfold spec_l1Order.f ordB
  split <;> simp <;> omega
theorem fits_i (a : Int) : impl_fits.f a = some (fitsB a) := fits_s a
theorem ord_i (a : Int) : impl_GlueOk_1.f a = some (ordB a) := ord_s a
theorem glue_s (a b c d e : Int) : spec_GlueOk.f a b c d e = some (glueB a b c d e) := by
  simp only [spec_GlueOk.f, fits_s, ord_s, Option.bind_some, glueB]
  cases fitsB a <;> cases fitsB b <;> cases fitsB d <;> cases ordB c <;> cases ordB e <;> simp
theorem glue_i (a b c d e : Int) : impl_GlueOk.f a b c d e = some (glueB a b c d e) := by
  simp only [impl_GlueOk.f, fits_i, ord_i, Option.bind_some, glueB]
  cases fitsB a <;> cases fitsB b <;> cases fitsB d <;> cases ordB c <;> cases ordB e <;> simp
theorem glueB_ord (a b c d e : Int) (h : glueB a b c d e = true) : 0 ≤ c ∧ 0 ≤ e := by
  simp only [glueB, ordB, Bool.and_eq_true, decide_eq_true_eq] at h
  omega
def partR (x xo y yo : Int) : Int × Int := if x = 0 then (if y = 0 then (0, 0) else (y, yo)) else (if y = 0 then (x, xo) else (if xo = yo then (if wrap64 (x + y) = 0 then (0, 0) else (wrap64 (x + y), xo)) else (if yo > xo then (y, yo) else (x, xo))))
theorem wrap_id (x : Int) (h : (Lit.int .i64 x).wf = true) : wrap64 x = x := wrap_in x (wf64 x h).1 (wf64 x h).2
theorem part_i (k : Nat) (hk : 2 < k) (x xo y yo : Int) : impl_addPart.f k x xo y yo = some (partR x xo y yo) := by
  obtain ⟨k, rfl⟩ : ∃ m, k = m + 2 := ⟨k - 2, by omega⟩
  unfold impl_addPart.f partR
  simp only [impl_addPart.j0, impl_addPart.j1]
  by_cases h1 : x = 0
  · by_cases h2 : y = 0
    · simp [h1, h2]
    · simp [h1, h2]
  · by_cases h2 : y = 0
    · simp [h1, h2]
    · by_cases h3 : xo = yo
      · by_cases h4 : wrap64 (x + y) = 0
        · simp [h1, h2, h3, h4]
        · simp [h1, h2, h3, h4]
      · simp [h1, h2, h3]
        split <;> rfl
theorem part_s (k : Nat) (hk : 2 < k) (x xo y yo : Int) (hx : wrap64 x = x) (hy : wrap64 y = y) (h0 : 0 ≤ xo) (h0' : 0 ≤ yo) : spec_l1AddOrder.f k x xo y yo = some (partR x xo y yo) := by
  obtain ⟨k, rfl⟩ : ∃ m, k = m + 2 := ⟨k - 2, by omega⟩
  unfold spec_l1AddOrder.f partR
  simp only [spec_l1AddOrder.j0, spec_l1AddOrder.j1]
  by_cases h1 : x = 0
  · subst h1
    by_cases h2 : y = 0
    · subst h2
      simp [show wrap64 0 = 0 from wrap_in 0 (by omega) (by omega)]
    · by_cases h3 : yo = 0
      · simp [h2, h3, hy]
      · have : yo > 0 := by omega
        simp [h2, this]
        omega
  · by_cases h2 : y = 0
    · subst h2
      by_cases h3 : xo = 0
      · simp [h1, h3, hx]
      · have : xo > 0 := by omega
        simp [h1, this]
    · by_cases h3 : xo = yo
      · subst h3
        by_cases h4 : wrap64 (x + y) = 0
        · simp [h1, h2, h4]
        · simp [h1, h2, h4]
      · rcases Int.lt_or_gt_of_ne h3 with h5 | h5
        · have h6 : ¬ xo > yo := by omega
          simp [h1, h2, h3, h5, h6]
        · have h6 : ¬ yo > xo := by omega
          simp [h1, h2, h3, h5, h6]
def addR (a b c d e a' b' c' d' e' : Int) : Int × Int × Int × Int × Int × Bool :=
  if glueB a b c d e = true then (if glueB a' b' c' d' e' = true then (if glueB (wrap64 (a + a')) (partR b c b' c').1 (partR b c b' c').2 (partR d e d' e').1 (partR d e d' e').2 = true then
    (wrap64 (a + a'), (partR b c b' c').1, (partR b c b' c').2, (partR d e d' e').1, (partR d e d' e').2, true) else (0, 0, 0, 0, 0, false)) else (0, 0, 0, 0, 0, false)) else (0, 0, 0, 0, 0, false)
theorem add_i (a b c d e a' b' c' d' e' : Int) : impl_AddGlue.f 10 a b c d e a' b' c' d' e' = some (addR a b c d e a' b' c' d' e') := by
  unfold impl_AddGlue.f addR
  simp only [glue_i, Option.bind_some, impl_AddGlue.j0, part_i 9 (by omega)]
  cases glueB a b c d e
  · simp
  · cases glueB a' b' c' d' e'
    · simp
    · simp
      split <;> rfl
theorem add_s (a b c d e a' b' c' d' e' : Int) (h1 : wrap64 b = b) (h2 : wrap64 d = d) (h3 : wrap64 b' = b') (h4 : wrap64 d' = d') : spec_AddGlue.f 10 a b c d e a' b' c' d' e' = some (addR a b c d e a' b' c' d' e') := by
  unfold spec_AddGlue.f addR
  simp only [glue_s, Option.bind_some, spec_AddGlue.j0]
  cases hg : glueB a b c d e
  · simp
  · cases hg' : glueB a' b' c' d' e'
    · simp
    · obtain ⟨o1, o2⟩ := glueB_ord _ _ _ _ _ hg
      obtain ⟨o3, o4⟩ := glueB_ord _ _ _ _ _ hg'
      simp [part_s 9 (by omega) b c b' c' h1 h3 o1 o3, part_s 9 (by omega) d e d' e' h2 h4 o2 o4]
      split <;> rfl

theorem FnExactAddGlue : laws_FnExactAddGlue.Pure := by
  intro a b c d e a' b' c' d' e' w1 w2 w3 w4 w5 w6 w7 w8 w9 w10
  refine ⟨10, ?_⟩
  simp only [laws_FnExactAddGlue.f, laws_toGlue.f, Option.bind_some, add_i, add_s a b c d e a' b' c' d' e' (wrap_id _ w2) (wrap_id _ w4) (wrap_id _ w7) (wrap_id _ w9), laws_eqGlue.f, if_true]
  simp

end Go.Proofs.Ytabamachefgilaa.Pure
