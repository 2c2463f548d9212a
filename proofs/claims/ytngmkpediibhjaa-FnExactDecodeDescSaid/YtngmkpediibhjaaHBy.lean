import Derived.Test.YtngmkpediibhjaaHRd
import Derived.Test.YtngmkpediibhjaaPFnExactDecodeDescx5
import Derived.WalkLawsBesides
import Derived.StillTailTactics
namespace Go.Proofs.Ytngmkpediibhjaa.PFnExactDecodeDesc
open Go.RowKit Go.Proofs.YtngmkpediibhjaaW.PrintWords Go.Proofs.YtngmkpediibhjaaW.PrintLast Go.Proofs.YtngmkpediibhjaaW.PrintMore
attribute [local go_sem] max2_int min2_int max_two min_two max_three min_three max_four min_four   -- for this text's walks alone
set_option linter.unusedVariables false
set_option linter.unusedSimpArgs false

/-- The panic of 'must'. -/
def PW : List PanicEntry := [{ v := .iface 115 (.agg #[]), recovered := false }]
section
variable {P : Program} {ops : Array Oper} {Q : Exit → Act → World → Prop}
/-- A call in a plain region that may panic. -/
theorem goesE_ {rest : List Oper} {oi : Oper} {a : Act} {w : World} (N : Option Tmp) (hd : oi.dst = N) (hg : oi.guard = none) {f : FuncId} {fn : Func} {xs_ : Array Operand} {ts : Array TypeId} (hf : P.funcs[f]? = some fn) (hname : (fn.name == "runtime.NumGoroutine") = false) (hb : fn.body.isSome = true) (args : Array Value)
    (hop : oi.op = .call { callee := .value (.func f), args := xs_, argTypes := ts }) (hargs : xs_.map a.eval = args)
    (h : Calls P f args w fun e w' => (∃ v, e = .returned v ∧ wpList P ops Q rest (a.put N v) w') ∨ (∃ ch, e = .panicked ch ∧ Q (.panic ch) a w')) : wpList P ops Q (oi :: rest) a w := by
  refine wpList_plain hg fun K hK => ?_
  have he := enters_ hf hname hb args w
  have hrun : (execOp a.eval oi).run P w = .ok (.enter f args) w := by
    unfold execOp
    simp [hop, resolve, Deferred.ofValue, invoke, Act.eval, hargs, he]
  unfold Oper.wp
  rw [hrun, Oper.upon_enter]
  refine h.mono fun e w'' hh => ?_
  subst hd
  rcases hh with ⟨v, rfl, hk⟩ | ⟨ch, rfl, hk⟩
  · exact hK _ _ hk
  · exact hk
end
theorem must_ok (v : Value) (w : World) : Calls Try.prog 60 #[v, .bool true] w fun e w' => e = .returned (.tuple #[]) ∧ w' = w := by
  go_enter Try.func60, Try.ntmps60
  go_wp2
  exact ⟨rfl, _, results_none rfl _ _ _, rfl, rfl⟩
theorem must_no (v : Value) (w : World) : Calls Try.prog 60 #[v, .bool false] w fun e w' => e = .panicked PW ∧ w' = w := by
  have hu115 := Try.underlying115
  go_enter Try.func60, Try.ntmps60
  go_wp2
  exact ⟨rfl, rfl, rfl⟩
/-- must: by what it is told. -/
theorem must_calls (v : Value) (b : Bool) (w : World) : Calls Try.prog 60 #[v, .bool b] w fun e w' => w' = w ∧ ((b = true ∧ e = .returned (.tuple #[])) ∨ (b = false ∧ e = .panicked PW)) := by
  cases b
  · exact (must_no v w).mono fun e w' h => ⟨h.2, .inr ⟨rfl, h.1⟩⟩
  · exact (must_ok v w).mono fun e w' h => ⟨h.2, .inl ⟨rfl, h.1⟩⟩
/-- How a method of the reader ends: with a value and the reader further on; or by must's panic. -/
structure REnd (w0 w : World) (g : Nat) (b : List Int) (r : Option (Value × Int)) (e : Ending) (w' : World) : Prop where
  below : Below w0.heap.size w0 w'
  keep : KeepBut w w' g none
  ends : (∃ v i, r = some (v, i) ∧ e = .returned v ∧ IsS97 w0 w' g b i) ∨ (r = none ∧ e = .panicked PW)
theorem REnd.yes {w0 w : World} {g : Nat} {b : List Int} {r : Option (Value × Int)} {v : Value} {i : Int} {w' : World} (hr : r = some (v, i)) (hI : IsS97 w0 w' g b i) (hB : Below w0.heap.size w0 w') (hK : KeepBut w w' g none) : REnd w0 w g b r (.returned v) w' := ⟨hB, hK, .inl ⟨v, i, hr, rfl, hI⟩⟩
theorem REnd.no {w0 w : World} {g : Nat} {b : List Int} {r : Option (Value × Int)} {w' : World} (hr : r = none) (hB : Below w0.heap.size w0 w') (hK : KeepBut w w' g none) : REnd w0 w g b r (.panicked PW) w' := ⟨hB, hK, .inr ⟨hr, rfl⟩⟩
def iByte (b : List Int) (i : Int) : Option (Value × Int) := if i < (b.length : Int) then some (.int .u8 (rd b i), i + 1) else none
set_option maxHeartbeats 8000000 in
set_option maxRecDepth 100000 in
theorem byte_calls (g : Nat) (b : List Int) (i : Int) (w0 w : World) (h0 : 0 ≤ i) (h1 : i ≤ 1073741824) (hI : IsS97 w0 w g b i) (hB : Below w0.heap.size w0 w) :
    Calls Try.prog 84 #[.pointer (some ⟨g, 0, none⟩)] w (REnd w0 w g b (iByte b i)) := by
  have HI0 := Aside0.mk hI
  have HK := Aside0.mk (KeepBut.refl w g none)
  have HB := Aside0.mk hB
  clear hB hI
  go_enter Try.func84, Try.ntmps84
  go_wp2
  refine wp_region_still_tail 11 rfl (by kernel_rfl) ?_
  obtain ⟨w1, hw1⟩ : ∃ w1, w1 = w.drew := ⟨_, rfl⟩
  replace HI0 := Aside0.mk (show IsS97 w0 w1 g b i from by rw [hw1]; exact IsS97.drew HI0.out)
  replace HK := Aside0.mk (show KeepBut w w1 g none from by rw [hw1]; exact keep_drew HK.out)
  replace HB := Aside0.mk (show Below w0.heap.size w0 w1 from by rw [hw1]; exact below_drew1 HB.out)
  show wpStill Try.prog _ w.drew (fun a' => wpList Try.prog _ _ _ a' w.drew) _ _
  rw [← hw1]
  clear hw1
  obtain ⟨AS, cS, HG, hg, HS⟩ := HI0.out
  have hc0 := cellS97_0 HG
  have hc1 := cellS97_1 HG
  have hf1 := blk_frozen HG 1
  clear HG hg
  simp only [List.take_succ_cons, List.take_zero, List.drop_succ_cons, List.drop_zero]
  repeat still_step
  refine wpStill_nil ?_
  refine goesE_ (some 14) rfl rfl Try.func60 (by kernel_rfl) rfl #[.pointer (some ⟨g, 0, none⟩), .bool (decide (i < (b.length : Int)))] rfl (by simp only [List.map_toArray, List.map_cons, List.map_nil]; rfl) ?_
  refine (must_calls _ _ _).mono ?_
  rintro e w2 ⟨rfl, ⟨hq, rfl⟩ | ⟨hq, rfl⟩⟩
  · refine .inl ⟨_, rfl, ?_⟩
    replace hq := of_decide_eq_true hq
    have h2 : wrap64 (i + 1) = i + 1 := by unfold wrap64; omega
    have h3 : wrap64 (i + 1 - 1) = i := by unfold wrap64; omega
    have h4 : wrap64 i = i := by unfold wrap64; omega
    go_wp2
    obtain ⟨w3, hw3⟩ : ∃ w3, w3 = w2.setCell ⟨g, 1, none⟩ (.int .i64 (i + 1)) := ⟨_, rfl⟩
    have HK3 := Aside0.mk (show KeepBut w w3 g none from by rw [hw3]; apply KeepBut.set_; exact HK.out)
    have HB3 := Aside0.mk (show Below w0.heap.size w0 w3 from by rw [hw3]; exact below_set HB.out (IsS97.ge HI0.out))
    have HI3 := Aside0.mk (show IsS97 w0 w3 g b (i + 1) from by rw [hw3]; exact IsS97.set_1 HI0.out _)
    rw [← hw3]
    clear hw3 HI0 HK HB hc0 hc1 hf1 HS
    obtain ⟨AS, cS, HG, hg, HS⟩ := HI3.out
    have hc0 := cellS97_0 HG
    have hc1 := cellS97_1 HG
    clear HG hg
    obtain ⟨ad, e2, hx⟩ := Kd.at_int HS.1 i h0 hq
    cases e2
    replace hx := pw_cell_below HB3.out hx
    have p0 := eq_true h0
    have q0 := eq_true hq
    have hr := Aside0.mk (show iByte b i = some (.int .u8 (rd b i), i + 1) from if_pos hq)
    clear h0 h1 hq
    go_quiet (fail)
    go_wp2
    go_ret
    exact (REnd.yes hr.out (by repeat (first | (with_reducible first | exact HI3.out | apply IsS97.drewN | apply IsS97.drew) | exact HI3.out)) (by repeat (first | (with_reducible first | exact HB3.out | apply below_alloc | apply pw_below_drewN | apply below_drew1) | exact HB3.out)) (by repeat (first | (with_reducible first | exact HK3.out | apply keep_drewN | apply keep_drew) | exact HK3.out)))
  · refine .inr ⟨_, rfl, ?_⟩
    replace hq := of_decide_eq_false hq
    exact ⟨rfl, REnd.no (if_neg hq) HB.out HK.out⟩
end Go.Proofs.Ytngmkpediibhjaa.PFnExactDecodeDesc
