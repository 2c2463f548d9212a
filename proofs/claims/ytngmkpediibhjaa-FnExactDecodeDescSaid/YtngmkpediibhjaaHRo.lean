/- oRead over the reader's closure: its deferred function recovers must's panic. No condition. -/
import Derived.Test.YtngmkpediibhjaaHCl
import Derived.Defers
import Derived.Recover
import Derived.Tactics2
import Derived.Laws.Pointers
namespace Go.Proofs.Ytngmkpediibhjaa.PFnExactDecodeDesc
open Go.RowKit Go.Proofs.YtngmkpediibhjaaW.PrintWords Go.Proofs.YtngmkpediibhjaaW.PrintLast Go.Proofs.YtngmkpediibhjaaW.PrintMore
set_option linter.unusedVariables false
set_option linter.unusedSimpArgs false

set_option maxHeartbeats 4000000 in
set_option maxRecDepth 100000 in
theorem catch_idle (p : Addr) (w : World) :
    CallsD Try.prog 79 #[.pointer (some p)] .returning w fun e u' w' => e = .returned (.tuple #[]) ∧ u' = .returning ∧ w' = w := by
  refine callsD_of_wpS Try.func79 rfl fun c₀ cs hu => ?_
  apply wpS_seq
  apply wpS_region
  simp [wpOpsS, go_sem, recoverD, hu, Try.ntmps79, Exit.thenS]
  apply wpS_seq
  apply wpS_region
  simp [wpOpsS, go_sem, recoverD, hu, Try.ntmps79, Exit.thenS]
  refine wpS_cond (t := false) (by simp [Act.eval, Array.replicate]) ?_
  simp only [Bool.false_eq_true, if_false]
  refine wpS_of_wp (wp_skip ?_)
  cases c₀
  simp_all [bodyPostS, results, Try.results79]
set_option maxHeartbeats 4000000 in
set_option maxRecDepth 100000 in
theorem catch_panicking (gx : Nat) (x : Bool) (w : World) (hb : w.heap[gx]? = some (.cells #[.bool x] 4 (0, 0))) :
    CallsD Try.prog 79 #[.pointer (some ⟨gx, 0, none⟩)] (.panicking PW) w fun e u' w' =>
      e = .returned (.tuple #[]) ∧ u' = .panicking [{ v := .iface 115 (.agg #[]), recovered := true }] ∧ ∃ w1, Below w.heap.size w w1 ∧ w' = w1.setCell ⟨gx, 0, none⟩ (.bool false) := by
  refine callsD_of_wpS Try.func79 rfl fun c₀ cs hu => ?_
  apply wpS_seq
  apply wpS_region
  simp [wpOpsS, go_sem, recoverD, hu, Try.ntmps79, Exit.thenS, PW]
  apply wpS_seq
  apply wpS_region
  simp [wpOpsS, go_sem, recoverD, hu, Try.ntmps79, Exit.thenS]
  refine wpS_cond (t := true) (by simp [Act.eval, Array.replicate]) ?_
  simp only [if_true]
  refine wpS_of_wp ?_
  show Code.wp _ _ _ { tmps := #[.pointer (some ⟨gx, 0, none⟩), .iface 115 (.agg #[]), undef, undef, .iface 115 (.agg #[]), .iface 115 (.agg #[]), .bool true, undef, undef, undef, undef, undef, undef, undef, undef], defers := [] } w
  have hu115 := Try.underlying115
  have hta : ∀ W : World, (Instr.typeAssert (.iface 115 (.agg #[])) 20 115 true).run Try.prog W = .ok (.tuple #[.agg #[], .bool true]) W := fun W => by kernel_rfl
  have hb2 := blk_alloc hb (Obj.cells #[] 115)
  have hc : (w.alloc (Obj.cells #[] 115)).cell? ⟨gx, 0, none⟩ = some (.bool x) := (blk_cell hb2 0).trans rfl
  have hz := blk_frozen hb2 0
  go_wp2
  exact ⟨rfl, _, rfl, _, results_none rfl _ _ _, rfl, rfl, _, below_alloc (Below.refl _ _) _, rfl⟩
/-- How oRead ends. -/
structure OEnd (w0 : World) (g4 : Nat) (b : List Int) (e : Ending) (w' : World) : Prop where
  below : Below w0.heap.size w0 w'
  ends : (∃ o vo, iDec b = some o ∧ e = .returned (.bool true) ∧ w'.heap[g4]? = some (.cells #[vo] 48 (0, 0)) ∧ Kd.S (Kd.slice 81 k81) 79 w' w0.heap.size (fun _ => True) vo o) ∨ (iDec b = none ∧ e = .returned (.bool false))
set_option maxHeartbeats 4000000 in
set_option maxRecDepth 100000 in
theorem oRead_calls (g g5 g1 g4 : Nat) (A1 : Option Addr) (c1 : Nat) (b : List Int) (w0 w : World) (hlen : b.length ≤ 1048576) (hb8 : ∀ j, 0 ≤ rd b j ∧ rd b j < 256) (hC : Kd.C (Kd.int .u8) w0 A1 b.length b) (hcap : b.length ≤ c1)
    (hI : IsS97 w0 w g b 0) (hB : Below w0.heap.size w0 w) (h5 : w.heap[g5]? = some (.cells #[.pointer (some ⟨g, 0, none⟩)] 95 (0, 0))) (h1 : w.heap[g1]? = some (.cells #[.slice A1 b.length c1] 46 (0, 0))) (h4 : w.heap[g4]? = some (.cells #[.slice none 0 0] 48 (0, 0))) (l4 : w0.heap.size ≤ g4) :
    Calls Try.prog 58 #[.func (.func 59) #[] #[.pointer (some ⟨g5, 0, none⟩), .pointer (some ⟨g1, 0, none⟩), .pointer (some ⟨g4, 0, none⟩)]] w (OEnd w0 g4 b) := by
  have hmf : ∀ (fn : Fn) (first cap : Array Value) (w : World), (Instr.makeFunc fn first cap).run Try.prog w = .ok (.func fn first cap) w := fun _ _ _ _ => rfl
  have HC := Aside0.mk hC
  have HB8 := Aside0.mk hb8
  have HI := Aside0.mk hI
  have HB := Aside0.mk hB
  have H5 := Aside0.mk h5
  have H1 := Aside0.mk h1
  have H4 := Aside0.mk h4
  clear hC hb8 hI hB h5 h1 h4
  go_enter_defers Try.func58, Try.ntmps58
  go_wp2_with (first | ((with_reducible refine gate_dst (N := 2) rfl ?_); refine box_event ?hg (N := 2) ?hd (cs := #[.bool false]) (t := 4) ?hr ?_; (case hd => rfl); (case hg => rfl); (case hr => first | (go_simp; done) | (go_simp; rfl)); intro gx hgx w1 hbox hb; have HM := Aside0.mk (MO.mk (MB.mk (IsS97.below HI.out hb) (below_step HB.out hb) ((hb.block g5 (blk_lt H5.out)).trans H5.out) ((hb.block g1 (blk_lt H1.out)).trans H1.out) ((hb.block g4 (blk_lt H4.out)).trans H4.out) hbox l4) (Kd.S_nil (Kd.slice 81 k81) 79 w1 w0.heap.size (fun _ => True))); have LX := Aside0.mk (show w0.heap.size ≤ gx from by rw [hgx]; exact below_size HB.out); clear hbox hb hgx HI HB H5 H1 H4))
  refine (clo_calls g g5 g1 g4 gx A1 c1 b w0 w1 hlen HB8.out HC.out hcap HM.out).mono ?_
  rintro e w2 ⟨hb2, hx2, ⟨o, vo, hd, rfl, h4, hS⟩ | ⟨hd, rfl⟩⟩
  · have HB2 := Aside0.mk hb2
    have HX2 := Aside0.mk hx2
    have HD := Aside0.mk hd
    have H4 := Aside0.mk h4
    have HS := Aside0.mk hS
    have hcx : w2.cell? ⟨gx, 0, none⟩ = some (.bool false) := (blk_cell hx2 0).trans rfl
    have hfx := blk_frozen hx2 0
    clear hb2 hx2 hd h4 hS
    go_wp2
    refine leaves_cons (f := 79) (args := #[.pointer (some ⟨gx, 0, none⟩)]) (by simp) (by simp [go_sem]) ?_
    refine (catch_idle ⟨gx, 0, none⟩ _).mono ?_
    rintro e u' w'' ⟨rfl, rfl, rfl⟩
    have hne : g4 ≠ gx := by
      rintro rfl
      have h := H4.out
      rw [HX2.out] at h
      injection h with h
      injection h with _ h
      cases h
    have hE : OEnd w0 g4 b (.returned (.bool true)) (w2.setCell ⟨gx, 0, none⟩ (.bool true)) := ⟨below_set HB2.out LX.out, .inl ⟨o, vo, HD.out, rfl, blk_far H4.out hne _, Kd.S_mono (Kd.S_set HS.out HX2.out (by decide) 0 _) (fun _ _ => trivial)⟩⟩
    simpa [Leaves, settle, results, Try.results58, go_sem, hcx, hfx] using hE
  · have HB2 := Aside0.mk hb2
    have HX2 := Aside0.mk hx2
    have HD := Aside0.mk hd
    clear hb2 hx2 hd
    refine leaves_cons (f := 79) (args := #[.pointer (some ⟨gx, 0, none⟩)]) (by simp) (by simp [go_sem]) ?_
    refine (catch_panicking gx false w2 HX2.out).mono ?_
    rintro e u' w'' ⟨rfl, rfl, w3, hw3, rfl⟩
    have hx3 : w3.heap[gx]? = some (.cells #[.bool false] 4 (0, 0)) := (hw3.block gx (blk_lt HX2.out)).trans HX2.out
    have hcx : w3.cell? ⟨gx, 0, none⟩ = some (.bool false) := (blk_cell hx3 0).trans rfl
    have hfx := blk_frozen hx3 0
    have hE : OEnd w0 g4 b (.returned (.bool false)) (w3.setCell ⟨gx, 0, none⟩ (.bool false)) := ⟨below_set (below_step HB2.out hw3) LX.out, .inr ⟨HD.out, rfl⟩⟩
    simpa [Leaves, settle, results, Try.results58, go_sem, hcx, hfx] using hE
end Go.Proofs.Ytngmkpediibhjaa.PFnExactDecodeDesc
