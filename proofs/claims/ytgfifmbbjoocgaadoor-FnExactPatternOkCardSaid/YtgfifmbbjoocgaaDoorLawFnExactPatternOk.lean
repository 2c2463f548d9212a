/- For every input the law FnExactPatternOk returns true, and each argument reads afterwards as it read before. The condition: the listed tables of the library read as the program's text lays them (the card ties them to it). -/
import Derived.Test.YtgfifmbbjoocgaaDoorTie
import Derived.Test.YtgfifmbbjoocgaaDoorCards
import Derived.Test.YtgfifmbbjoocgaaDoorRows
import Derived.Test.YtgfifmbbjoocgaaDoorPFnExactPatternOkx4
import Derived.Test.YtgfifmbbjoocgaaDoorPureFnExactPatternOk
import Derived.Test.YtgfifmbbjoocgaaDoorOpen
import Derived.WalkKit
import Derived.ProofKit
import Derived.OpenShut
import Derived.ShutString
import Derived.ChangeOld
import Derived.Below
import Derived.SizedLaws
import Derived.LaidMore
import Derived.Lay
import Derived.SevenTiedAt
import Derived.Stop.Joined
namespace Go.Proofs.YtgfifmbbjoocgaaDoor.fnExactPatternOk
open Go.ChangeShapes Go.WideShapes Go.ChangeAt Go.RowKit Go.Proofs.YtgfifmbbjoocgaaDoor.Open Go.Proofs.YtgfifmbbjoocgaaDoorW.PrintWords Go.Proofs.YtgfifmbbjoocgaaDoor.PFnExactPatternOk
open Go.ChangeMaps (open_string shut_string)
set_option linter.unusedVariables false
theorem own : ownKnob Tryd.prog.godebug = none := by kernel_rfl
theorem laidOut : laidOutB Tryd.prog = true := by kernel_rfl
theorem opens_S24 (W : World) : Opens Tryd.prog W 24 k24 WF24 := by
  have h := opens_struct (W := W) Tryd.underlying24 (by kernel_rfl) (opensFs_cons (opens_string Tryd.underlying9) rfl (by kernel_rfl) (opensFs_one (opens_slice Tryd.underlying22 (by kernel_rfl) (opens_int Tryd.underlying2)) rfl (by kernel_rfl))) (fun x : S24 => (x.f0, x.f1)) (fun p => ⟨p.1, p.2⟩) (fun _ => rfl)
  exact h
set_option maxRecDepth 100000 in
theorem lifted (os : Os) (started : os.Started) (H : Type) (enc : TypeId × Value → H) :
    ReturnsInHanded {} Tryd.checked os 3 .any (fun w args => (Rows.fnExactPatternOkSpec.pre enc Tryd.prog Tryd.f3 Rows.fnExactPatternOkRow.domain false w args ∧ laidMetH Tryd.prog Rows.fnExactPatternOkRow.laid w) ∧ sizedMet enc Tryd.prog Tryd.f3 (OpenSpec.ofChange Rows.fnExactPatternOkSpec) false w args) (Rows.fnExactPatternOkSpec.post enc Tryd.prog Tryd.f3 false true false false) := by
  refine returnsInHanded_of_change_and (C := Tryd.checked) (X := fun w _ => laidMetH Tryd.prog Rows.fnExactPatternOkRow.laid w) (fun _ _ _ hh h => h.of_heap hh) own started (by kernel_rfl) Tryd.func3
    (ChangeSpec.witness_shaped (enc := enc) (C := Tryd.checked) (os := os) (X := fun w _ => laidMetH Tryd.prog Rows.fnExactPatternOkRow.laid w) false (World.laidAll Tryd.prog os Rows.fnExactPatternOkRow.laid) #[.agg #[.string ByteArray.empty, .slice none 0 0]] 8 (World.laidAll_os _ _ _)
      (World.shaped_of_ZipB (by kernel_rfl) (by kernel_rfl)) (by kernel_rfl) (by kernel_rfl) (by kernel_rfl)
      (by rw [MakeChecks.laidMetH_plain _ _ _ (by kernel_rfl)]; exact laidMet_laidAll _ (by kernel_rfl) (by kernel_rfl))) ?_
  intro W base args ds gs before hval0 hW hcnd _ hL _
  have hval : ∀ (j : Nat) t v, Tryd.f3.params[j]? = some t → args[j]? = some v → Value.okWide Tryd.prog W .any base t v := hval0
  have hW' := hW
  obtain ⟨p, q, hA0, hV, rfl, hfz, hnd⟩ := hW
  have hA : DataW.TrodAll enc Tryd.prog W 0 (fun _ => true) true Tryd.f3.params.toList args.toList ds p := hA0
  rw [Tryd.params3] at hA hval
  obtain ⟨v0, vs0, d0, ds0, p0, q0, hargs, rfl, rfl, h0, r0⟩ := trodAll_cons hA
  obtain ⟨rfl, rfl, rfl⟩ := trodAll_nil r0
  obtain rfl : args = #[v0] := by cases args; simp_all
  obtain ⟨rfl, rfl⟩ := trodVars_none hV
  have k0 := h0
  have lt0 : ∀ x ∈ p0, x.block < W.heap.size := by obtain ⟨m, hm⟩ := k0; exact DataW.trod_lt m _ _ _ hm
  obtain ⟨y0, cs0, rfl, hK0, hF0⟩ := arg_struct (opens_S24 W) Tryd.underlying24 (hval 0 24 v0 rfl rfl) h0
  obtain ⟨A0_1, c0_1, e0, hc0_1, hr0_1⟩ := k24_open hK0
  obtain rfl : cs0 = #[.string y0.f0, .slice A0_1 y0.f1.length c0_1] := Array.ext' e0
  clear hA0 hval0
  obtain ⟨k, h⟩ := Pure.FnExactPatternOk y0.f0 y0.f1 hF0.1 hF0.2.1 hF0.2.2
  refine (laws_FnExactPatternOk.calls k y0.f0 A0_1 c0_1 y0.f1 true W hr0_1 hc0_1 rfl h).mono fun e W' ⟨he, bel⟩ => ?_
  subst he
  exact ⟨_, rfl, _, _, _, [], _, [], hW', trodAll_mk1 (shut_bool Tryd.underlying4 _), (trodAll_cons_mk (Below.trod laidOut (by kernel_rfl) (of_decide_eq_true (by kernel_rfl)) k0 bel lt0) trodAll_mk0), rfl, bel.frame _, fun h => by cases h⟩
theorem over : Rows.fnExactPatternOkRow.holds Tryd.pinned (OpenSpec.ofChange Rows.fnExactPatternOkSpec) :=
  OpenClaim.holds_of_wide 3 Tryd.f3 rfl rfl rfl rfl rfl rfl rfl ⟨rfl, rfl, rfl, rfl, rfl⟩ rfl rfl rfl rfl rfl (by kernel_rfl) Tryd.func3 (by kernel_rfl)
    (of_decide_eq_true (by kernel_rfl)) (by unfold Func.isWrapper; first | (rw [if_pos (by decide +kernel)]; kernel_rfl) | (rw [if_neg (by decide +kernel)]; exact ⟨rfl, rfl⟩))
    (fun os started H enc _ => lifted os started H enc)
theorem card : Rows.FnExactPatternOkCardSaid :=
  Claim7.holds_tied_plain_at .later [] [.data, .pinned] true (true, "9d0f65fbbaf7d15d96790614dc25c816f1fb166e1c8d9393941093424d8bb94e") false over (fun _ h => by cases h) (by kernel_rfl) (fun _ h => by cases h) fnExactPatternOk_row_tie rfl ⟨rfl, rfl⟩ (by kernel_rfl) rfl
    (fun f fn hf hfn => by
      obtain rfl : f = 3 := Option.some.inj ((show Tryd.prog.funcNamed "loop.example/g00014/laws.FnExactPatternOk" = some 3 by kernel_rfl).symm.trans hf) |>.symm
      obtain rfl : fn = Tryd.f3 := (Option.some.inj (Tryd.func3.symm.trans hfn)).symm
      exact ⟨by kernel_rfl, fun j t ht => by
        rw [Tryd.params3] at ht
        have hm : t ∈ [24] := by simpa using Array.mem_of_getElem? ht
        have hall : ([24].all fun u => !Tryd.prog.wantsStandIn u) = true := by kernel_rfl
        exact (show Tryd.prog.wantsStandIn t = false by simpa using List.all_eq_true.1 hall t hm)⟩)
    (by kernel_rfl)
theorem proved : Rows.FnExactPatternOkCardSaid := card
#print axioms proved
end Go.Proofs.YtgfifmbbjoocgaaDoor.fnExactPatternOk
namespace Go.Proofs.YtgfifmbbjoocgaaDoor
/-- The row, under a short name, for the claim. -/
theorem fnExactPatternOk_holds : Rows.FnExactPatternOkCardSaid := fnExactPatternOk.proved
end Go.Proofs.YtgfifmbbjoocgaaDoor
