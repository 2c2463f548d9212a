/- For every input the law FnTokensBack returns true, and each argument reads afterwards as it read before. No condition. -/
import Derived.Test.YtgfifmbbjoocgaaRows
import Derived.Test.YtgfifmbbjoocgaaPFnTokensBackx7
import Derived.Test.YtgfifmbbjoocgaaPureFnTokensBack
import Derived.Test.YtgfifmbbjoocgaaOpen
import Derived.WalkKit
import Derived.ProofKit
import Derived.OpenShut
import Derived.ShutString
import Derived.ChangeOld
import Derived.Below
import Derived.SizedLaws
namespace Go.Proofs.Ytgfifmbbjoocgaa.fnTokensBack
open Go.ChangeShapes Go.WideShapes Go.ChangeAt Go.RowKit Go.Proofs.Ytgfifmbbjoocgaa.Open Go.Proofs.YtgfifmbbjoocgaaW.PrintWords Go.Proofs.Ytgfifmbbjoocgaa.PFnTokensBack
open Go.ChangeMaps (open_string shut_string)
set_option linter.unusedVariables false
theorem own : ownKnob Try.prog.godebug = none := by kernel_rfl
theorem laidOut : laidOutB Try.prog = true := by kernel_rfl
set_option maxRecDepth 100000 in
theorem lifted (os : Os) (started : os.Started) (H : Type) (enc : TypeId × Value → H) :
    ReturnsInHanded {} Try.checked os 9 .any (Rows.fnTokensBackSpec.pre6 enc Try.prog Try.f9 Rows.fnTokensBackRow.domain false) (Rows.fnTokensBackSpec.post enc Try.prog Try.f9 false true false false) := by
  refine returnsInHanded_of_change_sized (C := Try.checked) own started (by kernel_rfl) Try.func9
    (ChangeSpec.witness6 (enc := enc) (C := Try.checked) false ⟨#[], #[.slice none 0 0], []⟩ 8 (by kernel_rfl) (by kernel_rfl) (by kernel_rfl) (by kernel_rfl)) ?_
  intro W base args ds gs before hval0 hW hcnd _ _
  have hval : ∀ (j : Nat) t v, Try.f9.params[j]? = some t → args[j]? = some v → Value.okWide Try.prog W .any base t v := hval0
  have hW' := hW
  obtain ⟨p, q, hA0, hV, rfl, hfz, hnd⟩ := hW
  have hA : DataW.TrodAll enc Try.prog W 0 (fun _ => true) true Try.f9.params.toList args.toList ds p := hA0
  rw [Try.params9] at hA hval
  obtain ⟨v0, vs0, d0, ds0, p0, q0, hargs, rfl, rfl, h0, r0⟩ := trodAll_cons hA
  obtain ⟨rfl, rfl, rfl⟩ := trodAll_nil r0
  obtain rfl : args = #[v0] := by cases args; simp_all
  obtain ⟨rfl, rfl⟩ := trodVars_none hV
  have k0 := h0
  have lt0 : ∀ x ∈ p0, x.block < W.heap.size := by obtain ⟨m, hm⟩ := k0; exact DataW.trod_lt m _ _ _ hm
  obtain ⟨A0, c0, l0, rfl, hc0, hr0, hm0, hw0⟩ := arg_slice Try.underlying86 (by kernel_rfl) (opens_int Try.underlying5) (hval 0 86 v0 rfl rfl) h0
  clear hA0 hval0
  obtain ⟨k, h⟩ := Pure.FnTokensBack l0 hm0 hw0
  refine (laws_FnTokensBack.calls k A0 c0 l0 true W hr0 hc0 rfl h).mono fun e W' ⟨he, bel⟩ => ?_
  subst he
  exact ⟨_, rfl, _, _, _, [], _, [], hW', trodAll_mk1 (shut_bool Try.underlying4 _), (trodAll_cons_mk (Below.trod laidOut (by kernel_rfl) (of_decide_eq_true (by kernel_rfl)) k0 bel lt0) trodAll_mk0), rfl, bel.frame _, fun h => by cases h⟩
theorem over : Rows.fnTokensBackRow.holds Try.pinned (OpenSpec.ofChange Rows.fnTokensBackSpec) :=
  OpenClaim.holds_of_wide 9 Try.f9 rfl rfl rfl rfl rfl rfl rfl ⟨rfl, rfl, rfl, rfl, rfl⟩ rfl rfl rfl rfl rfl (by kernel_rfl) Try.func9 (by kernel_rfl)
    (of_decide_eq_true (by kernel_rfl)) (by unfold Func.isWrapper; first | (rw [if_pos (by decide +kernel)]; kernel_rfl) | (rw [if_neg (by decide +kernel)]; exact ⟨rfl, rfl⟩))
    (fun os started H enc _ => lifted os started H enc)
theorem proved : Rows.FnTokensBackSaid := over
#print axioms proved
end Go.Proofs.Ytgfifmbbjoocgaa.fnTokensBack
namespace Go.Proofs.Ytgfifmbbjoocgaa
/-- The row, under a short name, for the claim. -/
theorem fnTokensBack_holds : Rows.FnTokensBackSaid := fnTokensBack.proved
end Go.Proofs.Ytgfifmbbjoocgaa
