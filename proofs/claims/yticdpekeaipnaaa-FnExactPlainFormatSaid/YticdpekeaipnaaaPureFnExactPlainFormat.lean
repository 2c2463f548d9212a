/- The pure statement of FnExactPlainFormat: the lines put together are the text. No condition. -/
import Derived.Test.YticdpekeaipnaaaPFnExactPlainFormatx1
import Derived.Test.YticdpekeaipnaaaKit
namespace Go.Proofs.Yticdpekeaipnaaa.Pure
open Go.RowKit Go.Proofs.Yticdpekeaipnaaa.PFnExactPlainFormat Go.Proofs.Yticdpekeaipnaaa.Kit Go.Proofs.YticdpekeaipnaaaW.PrintWords Go.Proofs.YticdpekeaipnaaaW.PrintLast
set_option linter.unusedVariables false
set_option linter.unusedSimpArgs false

theorem app_mk (ys zs : List UInt8) : (⟨ys.toArray⟩ : ByteArray) ++ (⟨zs.toArray⟩ : ByteArray) = ⟨(ys ++ zs).toArray⟩ := by
  apply ByteArray.ext
  simp [ByteArray.data_append]
theorem mk_list (s : ByteArray) : (⟨s.data.toList.toArray⟩ : ByteArray) = s := by
  apply ByteArray.ext
  simp
theorem size_mk (ys : List UInt8) : (⟨ys.toArray⟩ : ByteArray).size = ys.length := by
  show ys.toArray.size = ys.length
  simp
def joined (l : List ByteArray) : List UInt8 := l.flatMap (fun s => s.data.toList ++ [10])
theorem fmt_l0 (l : List ByteArray) (hl : l.length ≤ 1000) : ∀ d k i : Nat, ∀ ys : List UInt8, l.length - i = d → i ≤ l.length → d < k → ys.length + (joined (l.drop i)).length ≤ 9223372036854775807 →
    spec_PlainFormat.l0 k l ⟨ys.toArray⟩ i = some ⟨(ys ++ joined (l.drop i)).toArray⟩ := by
  intro d
  induction d with
  | zero =>
    intro k i ys hd hi hk hs
    obtain ⟨k, rfl⟩ : ∃ m, k = m + 1 := ⟨k - 1, by omega⟩
    simp only [spec_PlainFormat.l0]
    rw [if_neg (by omega), List.drop_of_length_le (by omega)]
    simp [joined]
  | succ d ih =>
    intro k i ys hd hi hk hs
    obtain ⟨k, rfl⟩ : ∃ m, k = m + 1 := ⟨k - 1, by omega⟩
    have hlt : i < l.length := by omega
    simp only [spec_PlainFormat.l0]
    have e0 : rdOf ByteArray.empty l (i : Int) = ⟨l[i].data.toList.toArray⟩ := by rw [rdOf_nat _ l i hlt, mk_list]
    have e1 : l.drop i = l[i] :: l.drop (i + 1) := List.drop_eq_getElem_cons hlt
    have e2 : joined (l.drop i) = (l[i].data.toList ++ [10]) ++ joined (l.drop (i + 1)) := by unfold joined; rw [e1, List.flatMap_cons]
    rw [e2] at hs ⊢
    have hs' : ys.length + (l[i].data.toList.length + 1 + (joined (l.drop (i + 1))).length) ≤ 9223372036854775807 := by
      simp only [List.length_append, List.length_singleton] at hs
      omega
    rw [if_pos (by omega), if_pos (by omega), e0, app_mk, size_mk, size_mk, size_mk, if_pos (by omega), if_pos (by rw [List.length_append]; omega), wrap_succ i (by omega)]
    have e3 : (⟨#[10]⟩ : ByteArray) = ⟨([10] : List UInt8).toArray⟩ := rfl
    rw [e3, app_mk, ih k (i + 1) _ (by omega) (by omega) (by omega) (by simp only [List.length_append, List.length_singleton]; omega)]
    simp

theorem fin (o : Option ByteArray) (r : ByteArray) (h : o = some r) : (o.bind fun t => o.bind fun t' => if t'.toList = t.toList then some true else some false) = some true := by
  subst h
  simp

theorem FnExactPlainFormat : laws_FnExactPlainFormat.Pure := by
  refine ⟨1000, ?_⟩
  have h0 : spec_PlainFormat.f 1000 = impl_PlainFormat.f := by
    unfold spec_PlainFormat.f
    have e : ∀ l : List ByteArray, l.length ≤ 900 → (joined l).length ≤ 100000 → ∀ r : ByteArray, joined l = r.data.toList → spec_PlainFormat.l0 1000 l (⟨#[]⟩ : ByteArray) 0 = some r := by
      intro l h1 h2 r h3
      have := fmt_l0 l (by omega) l.length 1000 0 [] (by omega) (by omega) (by omega) (by simp; omega)
      rw [List.drop_zero, List.nil_append, h3, mk_list] at this
      exact this
    exact e _ (by decide +kernel) (by decide +kernel) _ (by decide +kernel)
  unfold laws_FnExactPlainFormat.f
  rw [h0]
  exact fin _ _ rfl

end Go.Proofs.Yticdpekeaipnaaa.Pure
