/- The pure statement of FnExactTokenOk: both sides ask the same of a token's parts. No condition. -/
import Derived.Test.YticdpekeaipnaaaPFnExactTokenOkx1
namespace Go.Proofs.Yticdpekeaipnaaa.Pure
open Go.RowKit Go.Proofs.Yticdpekeaipnaaa.PFnExactTokenOk Go.Proofs.YticdpekeaipnaaaW.PrintWords Go.Proofs.YticdpekeaipnaaaW.PrintLast
set_option linter.unusedVariables false
set_option linter.unusedSimpArgs false

theorem token_same (c x : Int) (n : ByteArray) : ∃ b, spec_TokenOk.f c x n = some b ∧ impl_TokenOk.f c x n = some b := by
  unfold spec_TokenOk.f impl_TokenOk.f impl_isName.f impl_isChar.f impl_isSlot.f
  by_cases hc : c = 0
  · subst hc
    by_cases hx : x = 0
    · subst hx
      by_cases hn : (n.size : Int) ≤ 40
      · exact ⟨true, by simp [hn], by simp [hn]⟩
      · exact ⟨false, by simp [hn], by simp [hn]⟩
    · refine ⟨false, by simp [hx], ?_⟩
      by_cases hn : (n.size : Int) ≤ 40 <;> simp [hn, hx]
  · by_cases hl : n.toList = ([] : List UInt8)
    · by_cases h16 : c = 16
      · subst h16
        by_cases h1 : x ≥ 1
        · exact ⟨decide (x ≤ 9), by simp [hl, h1], by simp [hl, h1]⟩
        · exact ⟨false, by simp [hl, h1], by simp [hl, h1]⟩
      · by_cases h6 : c = 6
        · subst h6
          exact ⟨false, by simp [hl], by simp [hl]⟩
        · by_cases h8 : c = 8
          · subst h8
            exact ⟨false, by simp [hl], by simp [hl]⟩
          · by_cases h9 : c = 9
            · subst h9
              exact ⟨false, by simp [hl], by simp [hl]⟩
            · by_cases h15 : c = 15
              · subst h15
                exact ⟨false, by simp [hl], by simp [hl]⟩
              · by_cases a1 : c < 1
                · have a1' : ¬ c ≥ 1 := by omega
                  exact ⟨false, by simp [hc, hl, h16, h6, h8, h9, h15, a1'], by simp [hc, hl, h16, a1]⟩
                · by_cases a2 : c > 15
                  · have a1' : c ≥ 1 := by omega
                    have a2' : ¬ c < 15 := by omega
                    exact ⟨false, by simp [hc, hl, h16, h6, h8, h9, h15, a1', a2'], by simp [hc, hl, h16, a1, a2]⟩
                  · have a1' : c ≥ 1 := by omega
                    have a2' : c < 15 := by omega
                    by_cases a3 : x < 0
                    · have a3' : ¬ x ≥ 0 := by omega
                      exact ⟨false, by simp [hc, hl, h16, h6, h8, h9, h15, a1', a2', a3'], by simp [hc, hl, h16, a1, a2, a3]⟩
                    · have a3' : x ≥ 0 := by omega
                      by_cases a4 : x > 255
                      · have a4' : ¬ x ≤ 255 := by omega
                        exact ⟨false, by simp [hc, hl, h16, h6, h8, h9, h15, a1', a2', a3', a4'], by simp [hc, hl, h16, a1, a2, a3, a4]⟩
                      · have a4' : x ≤ 255 := by omega
                        exact ⟨true, by simp [hc, hl, h16, h6, h8, h9, h15, a1', a2', a3', a4'], by simp [hc, hl, h16, a1, a2, a3, a4, h6, h8, h9, h15]⟩
    · exact ⟨false, by simp [hc, hl], by simp [hc, hl]⟩

theorem FnExactTokenOk : laws_FnExactTokenOk.Pure := by
  intro c x n _ _ _
  obtain ⟨b, h1, h2⟩ := token_same c x n
  unfold laws_FnExactTokenOk.f laws_szToken.f
  split
  · simp
  · rename_i hz
    simp [laws_toToken.f, h1, h2, hz]

end Go.Proofs.Yticdpekeaipnaaa.Pure
