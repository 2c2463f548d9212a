/- For every input the law FnExactGlyphOf returns true, and each argument reads afterwards as it read before. No condition. -/
import Derived.Test.YtngmkpediibhjaaRows
import Derived.Test.YtngmkpediibhjaaPFnExactGlyphOfx5
import Derived.Test.YtngmkpediibhjaaPureFnExactGlyphOf
import Derived.Test.YtngmkpediibhjaaOpenVGl
import Derived.WalkKit
import Derived.ProofKit
import Derived.OpenShut
import Derived.ShutString
import Derived.ChangeOld
import Derived.Below
import Derived.SizedLaws
namespace Go.Proofs.Ytngmkpediibhjaa.fnExactGlyphOf
open Go.ChangeShapes Go.WideShapes Go.ChangeAt Go.RowKit Go.Proofs.Ytngmkpediibhjaa.Open Go.Proofs.YtngmkpediibhjaaW.PrintWords Go.Proofs.Ytngmkpediibhjaa.PFnExactGlyphOf
open Go.ChangeMaps (open_string shut_string)
set_option linter.unusedVariables false
theorem own : ownKnob Try.prog.godebug = none := by kernel_rfl
theorem laidOut : laidOutB Try.prog = true := by kernel_rfl
theorem opens_S104 (W : World) : Opens Try.prog W 104 k104 WF104 := by
  have h := opens_struct (W := W) Try.underlying104 (by kernel_rfl) (opensFs_cons (opens_int Try.underlying2) rfl (by kernel_rfl) (opensFs_cons (opens_int Try.underlying2) rfl (by kernel_rfl) (opensFs_cons (opens_int Try.underlying2) rfl (by kernel_rfl) (opensFs_one (opens_int Try.underlying2) rfl (by kernel_rfl))))) (fun x : S104 => (x.f0, x.f1, x.f2, x.f3)) (fun p => ⟨p.1, p.2.1, p.2.2.1, p.2.2.2⟩) (fun _ => rfl)
  exact h
theorem opens_S106 (W : World) : Opens Try.prog W 106 k106 WF106 := by
  have h := opens_struct (W := W) Try.underlying106 (by kernel_rfl) (opensFs_cons (opens_int Try.underlying2) rfl (by kernel_rfl) (opensFs_cons (opens_int Try.underlying2) rfl (by kernel_rfl) (opensFs_cons (opens_int Try.underlying2) rfl (by kernel_rfl) (opensFs_one (opens_int Try.underlying2) rfl (by kernel_rfl))))) (fun x : S106 => (x.f0, x.f1, x.f2, x.f3)) (fun p => ⟨p.1, p.2.1, p.2.2.1, p.2.2.2⟩) (fun _ => rfl)
  exact h
theorem opens_S25 (W : World) : Opens Try.prog W 25 k25 WF25 := by
  have h := opens_struct (W := W) Try.underlying25 (by kernel_rfl) (opensFs_cons (opens_int Try.underlying2) rfl (by kernel_rfl) (opensFs_cons (opens_int Try.underlying2) rfl (by kernel_rfl) (opensFs_cons (opens_int Try.underlying2) rfl (by kernel_rfl) (opensFs_cons (opens_int Try.underlying2) rfl (by kernel_rfl) (opensFs_one (opens_int Try.underlying2) rfl (by kernel_rfl)))))) (fun x : S25 => (x.f0, x.f1, x.f2, x.f3, x.f4)) (fun p => ⟨p.1, p.2.1, p.2.2.1, p.2.2.2.1, p.2.2.2.2⟩) (fun _ => rfl)
  exact h
theorem opens_S27 (W : World) : Opens Try.prog W 27 k27 WF27 := by
  have h := opens_struct (W := W) Try.underlying27 (by kernel_rfl) (opensFs_cons (opens_string Try.underlying9) rfl (by kernel_rfl) (opensFs_cons (opens_slice Try.underlying22 (by kernel_rfl) (opens_S104 W)) rfl (by kernel_rfl) (opensFs_cons (opens_slice Try.underlying23 (by kernel_rfl) (opens_S106 W)) rfl (by kernel_rfl) (opensFs_cons (opens_S25 W) rfl (by kernel_rfl) (opensFs_cons (opens_int Try.underlying2) rfl (by kernel_rfl) (opensFs_one (opens_int Try.underlying2) rfl (by kernel_rfl))))))) (fun x : S27 => (x.f0, x.f1, x.f2, x.f3, x.f4, x.f5)) (fun p => ⟨p.1, p.2.1, p.2.2.1, p.2.2.2.1, p.2.2.2.2.1, p.2.2.2.2.2⟩) (fun _ => rfl)
  exact h
set_option maxRecDepth 100000 in
theorem lifted (os : Os) (started : os.Started) (H : Type) (enc : TypeId × Value → H) :
    ReturnsInHanded {} Try.checked os 4 .any (Rows.fnExactGlyphOfSpec.pre6 enc Try.prog Try.f4 Rows.fnExactGlyphOfRow.domain false) (Rows.fnExactGlyphOfSpec.post enc Try.prog Try.f4 false true false false) := by
  refine returnsInHanded_of_change_sized (C := Try.checked) own started (by kernel_rfl) Try.func4
    (ChangeSpec.witness6 (enc := enc) (C := Try.checked) false ⟨#[], #[.agg #[.string ByteArray.empty, .slice none 0 0, .slice none 0 0, .int .i64 0, .int .i64 0, .int .i64 0, .int .i64 0, .int .i64 0, .int .i64 0, .int .i64 0], .int .i64 0], []⟩ 8 (by kernel_rfl) (by kernel_rfl) (by kernel_rfl) (by kernel_rfl)) ?_
  intro W base args ds gs before hval0 hW hcnd _ _
  have hval : ∀ (j : Nat) t v, Try.f4.params[j]? = some t → args[j]? = some v → Value.okWide Try.prog W .any base t v := hval0
  have hW' := hW
  obtain ⟨p, q, hA0, hV, rfl, hfz, hnd⟩ := hW
  have hA : DataW.TrodAll enc Try.prog W 0 (fun _ => true) true Try.f4.params.toList args.toList ds p := hA0
  rw [Try.params4] at hA hval
  obtain ⟨v0, vs0, d0, ds0, p0, q0, hargs, rfl, rfl, h0, r0⟩ := trodAll_cons hA
  obtain ⟨v1, vs1, d1, ds1, p1, q1, rfl, rfl, rfl, h1, r1⟩ := trodAll_cons r0
  obtain ⟨rfl, rfl, rfl⟩ := trodAll_nil r1
  obtain rfl : args = #[v0, v1] := by cases args; simp_all
  obtain ⟨rfl, rfl⟩ := trodVars_none hV
  have k0 := h0
  have lt0 : ∀ x ∈ p0, x.block < W.heap.size := by obtain ⟨m, hm⟩ := k0; exact DataW.trod_lt m _ _ _ hm
  obtain ⟨y0, cs0, rfl, hK0, hF0⟩ := arg_struct (opens_S27 W) Try.underlying27 (hval 0 27 v0 rfl rfl) h0
  obtain ⟨A0_1, c0_1, A0_2, c0_2, e0, hc0_1, hr0_1, hc0_2, hr0_2⟩ := k27_open hK0
  obtain rfl : cs0 = #[.string y0.f0, .slice A0_1 y0.f1.length c0_1, .slice A0_2 y0.f2.length c0_2, .int .i64 y0.f3.f0, .int .i64 y0.f3.f1, .int .i64 y0.f3.f2, .int .i64 y0.f3.f3, .int .i64 y0.f3.f4, .int .i64 y0.f4, .int .i64 y0.f5] := Array.ext' e0
  obtain ⟨a1, rfl, rfl, rfl, w1⟩ := open_int Try.underlying2 (hval 1 2 v1 rfl rfl) h1
  clear hA0 hval0
  obtain ⟨k, h⟩ := Pure.FnExactGlyphOf y0.f0 y0.f1 y0.f2 y0.f3.f0 y0.f3.f1 y0.f3.f2 y0.f3.f3 y0.f3.f4 y0.f4 y0.f5 a1 hF0.1 hF0.2.1.1 hF0.2.1.2 hF0.2.2.1.1 hF0.2.2.1.2 hF0.2.2.2.1.1 hF0.2.2.2.1.2.1 hF0.2.2.2.1.2.2.1 hF0.2.2.2.1.2.2.2.1 hF0.2.2.2.1.2.2.2.2 hF0.2.2.2.2.1 hF0.2.2.2.2.2 w1
  refine (laws_FnExactGlyphOf.calls k y0.f0 A0_1 c0_1 y0.f1 A0_2 c0_2 y0.f2 y0.f3.f0 y0.f3.f1 y0.f3.f2 y0.f3.f3 y0.f3.f4 y0.f4 y0.f5 a1 true W hr0_1 hc0_1 hr0_2 hc0_2 rfl h).mono fun e W' ⟨he, bel⟩ => ?_
  subst he
  exact ⟨_, rfl, _, _, _, [], _, [], hW', trodAll_mk1 (shut_bool Try.underlying4 _), (trodAll_cons_mk (Below.trod laidOut (by kernel_rfl) (of_decide_eq_true (by kernel_rfl)) k0 bel lt0) (trodAll_cons_mk (shut_int Try.underlying2 w1) trodAll_mk0)), rfl, bel.frame _, fun h => by cases h⟩
theorem over : Rows.fnExactGlyphOfRow.holds Try.pinned (OpenSpec.ofChange Rows.fnExactGlyphOfSpec) :=
  OpenClaim.holds_of_wide 4 Try.f4 rfl rfl rfl rfl rfl rfl rfl ⟨rfl, rfl, rfl, rfl, rfl⟩ rfl rfl rfl rfl rfl (by kernel_rfl) Try.func4 (by kernel_rfl)
    (of_decide_eq_true (by kernel_rfl)) (by unfold Func.isWrapper; first | (rw [if_pos (by decide +kernel)]; kernel_rfl) | (rw [if_neg (by decide +kernel)]; exact ⟨rfl, rfl⟩))
    (fun os started H enc _ => lifted os started H enc)
theorem proved : Rows.FnExactGlyphOfSaid := over
#print axioms proved
end Go.Proofs.Ytngmkpediibhjaa.fnExactGlyphOf
namespace Go.Proofs.Ytngmkpediibhjaa
/-- The row, under a short name, for the claim. -/
theorem fnExactGlyphOf_holds : Rows.FnExactGlyphOfSaid := fnExactGlyphOf.proved
end Go.Proofs.Ytngmkpediibhjaa
