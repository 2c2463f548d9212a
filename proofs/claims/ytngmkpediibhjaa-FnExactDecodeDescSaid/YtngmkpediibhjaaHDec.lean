/- impl's DecodeDesc: what the plain reader gives. No condition. -/
import Derived.Test.YtngmkpediibhjaaHRo
namespace Go.Proofs.Ytngmkpediibhjaa.PFnExactDecodeDesc
open Go.RowKit Go.Proofs.YtngmkpediibhjaaW.PrintWords Go.Proofs.YtngmkpediibhjaaW.PrintLast Go.Proofs.YtngmkpediibhjaaW.PrintMore
attribute [local go_sem] max2_int min2_int max_two min_two max_three min_three max_four min_four   -- for this text's walks alone
set_option linter.unusedVariables false
set_option linter.unusedSimpArgs false

/-- impl's DecodeDesc, of at most 2^20 bytes. -/
def iRes (b : List Int) : List (List S81) × Bool := match iDec b with | some o => (o, true) | none => ([], false)
def impl_DecodeDesc.f (_k : Nat) (l0 : List Int) : Option ((List (List S81)) × Bool) := if l0.length ≤ 1048576 ∧ l0.all (fun x => decide (0 ≤ x ∧ x < 256)) = true then some (iRes l0) else none
theorem impl_DecodeDesc.mono (a0 : List Int) (k : Nat) : LeO (impl_DecodeDesc.f k a0) (impl_DecodeDesc.f (k + 1) a0) := LeO.refl _
theorem rd_in {b : List Int} (h : b.all (fun x => decide (0 ≤ x ∧ x < 256)) = true) (j : Int) : 0 ≤ rd b j ∧ rd b j < 256 := by
  have h2 := List.all_eq_true.mp h
  unfold rd
  rw [List.getD_eq_getElem?_getD]
  cases hq : b[j.toNat]? with
  | none => simp
  | some x => simpa using h2 x (List.mem_of_getElem? hq)
set_option maxHeartbeats 8000000 in
set_option maxRecDepth 100000 in
theorem impl_DecodeDesc.calls (k : Nat) (A0 : Option Addr) (c0 : Nat) (l0 : List Int) (r1 : List (List (S81))) (r2 : Bool) (w : World) (hr0 : Kd.C (Kd.int .u8) w A0 l0.length l0) (hc0 : l0.length ≤ c0) (h : impl_DecodeDesc.f k l0 = some (r1, r2)) :
    Calls Try.prog 26 #[.slice A0 l0.length c0] w fun e w' => ∃ v0_ : Value, e = .returned (.tuple #[v0_, .bool r2]) ∧ Kd.S (Kd.slice 81 k81) 79 w' w.heap.size (fun _ => True) v0_ r1 ∧ Below w.heap.size w w' := by
  have hcond : l0.length ≤ 1048576 ∧ l0.all (fun x => decide (0 ≤ x ∧ x < 256)) = true := by
    by_cases hq : l0.length ≤ 1048576 ∧ l0.all (fun x => decide (0 ≤ x ∧ x < 256)) = true
    · exact hq
    · rw [impl_DecodeDesc.f, if_neg hq] at h; cases h
  rw [impl_DecodeDesc.f, if_pos hcond] at h
  have H := Aside0.mk (Option.some.inj h)
  have HR0 := Aside0.mk hr0
  have HC0 := Aside0.mk hc0
  have HL := Aside0.mk hcond
  have hmf : ∀ (fn : Fn) (first cap : Array Value) (w : World), (Instr.makeFunc fn first cap).run Try.prog w = .ok (.func fn first cap) w := fun _ _ _ _ => rfl
  have hu97 := Try.underlying97
  have HB := Aside0.mk (Below.refl w.heap.size w)
  clear h hcond hr0 hc0
  go_enter Try.func26, Try.ntmps26
  go_wp2_with (first
    | ((with_reducible refine gate_dst (N := 1) rfl ?_); refine box_event ?hg (N := 1) ?hd (cs := #[.slice A0 l0.length c0]) (t := 46) ?hr ?_; (case hd => rfl); (case hg => rfl); (case hr => first | (go_simp; done) | (go_simp; rfl)); intro g1 hg1 w1 hbox hb; have H1 := Aside0.mk hbox; have n0_ := Aside0.mk (below_step HB.out hb); clear HB hbox hb hg1; have HB := n0_; clear n0_)
    | ((with_reducible refine gate_dst (N := 4) rfl ?_); refine box_event ?hg (N := 4) ?hd (cs := #[.slice none 0 0]) (t := 48) ?hr ?_; (case hd => rfl); (case hg => rfl); (case hr => first | (go_simp; done) | (go_simp; rfl)); intro g4 hg4 w4 hbox hb; have L4 := Aside0.mk (show w.heap.size ≤ g4 from by rw [hg4]; exact below_size HB.out); have H4 := Aside0.mk hbox; have n0_ := Aside0.mk (below_step HB.out hb); have n1_ := Aside0.mk ((hb.block g1 (blk_lt H1.out)).trans H1.out); clear HB H1 hbox hb hg4; have HB := n0_; have H1 := n1_; clear n0_ n1_; have h1 := (blk_cell H1.out 0).trans rfl)
    | ((with_reducible refine gate_dst (N := 9) rfl ?_); refine box_event ?hg (N := 9) ?hd (cs := #[.slice A0 l0.length c0, .int .i64 0]) (t := 97) ?hr ?_; (case hd => rfl); (case hg => rfl); (case hr => first | (go_simp; done) | (go_simp; rfl)); intro g hg w9 hbox hb; have HI := Aside0.mk (show IsS97 w w9 g l0 0 from ⟨A0, c0, hbox, by rw [hg]; exact below_size HB.out, HR0.out, HC0.out⟩); have n0_ := Aside0.mk (below_step HB.out hb); have n1_ := Aside0.mk ((hb.block g1 (blk_lt H1.out)).trans H1.out); have n4_ := Aside0.mk ((hb.block g4 (blk_lt H4.out)).trans H4.out); clear HB H1 H4 hbox hb hg h1; have HB := n0_; have H1 := n1_; have H4 := n4_; clear n0_ n1_ n4_)
    | ((with_reducible refine gate_dst (N := 5) rfl ?_); refine box_event ?hg (N := 5) ?hd (cs := #[.pointer none]) (t := 95) ?hr ?_; (case hd => rfl); (case hg => rfl); (case hr => first | (go_simp; done) | (go_simp; rfl)); intro g5 hg5 w5 hbox hb; have L5 := Aside0.mk (show w.heap.size ≤ g5 from by rw [hg5]; exact below_size HB.out); have H5 := Aside0.mk hbox; have n0_ := Aside0.mk (below_step HB.out hb); have n1_ := Aside0.mk ((hb.block g1 (blk_lt H1.out)).trans H1.out); have n4_ := Aside0.mk ((hb.block g4 (blk_lt H4.out)).trans H4.out); have n5_ := Aside0.mk (IsS97.below HI.out hb); clear HB H1 H4 HI hbox hb hg5; have HB := n0_; have H1 := n1_; have H4 := n4_; have HI := n5_; clear n0_ n1_ n4_ n5_; have h5 : w5.cell? ⟨g5, 0, none⟩ = some (.pointer none) := (blk_cell H5.out 0).trans rfl; have hf5 := blk_frozen H5.out 0))
  have far : ∀ {k : Nat} {cells : Array Value} {t : TypeId}, t ≠ 95 → w5.heap[k]? = some (.cells cells t (0, 0)) → (w5.setCell ⟨g5, 0, none⟩ (.pointer (some ⟨g, 0, none⟩))).heap[k]? = some (.cells cells t (0, 0)) := by
    intro k cells t ht hk
    refine blk_far hk ?_ _
    rintro rfl
    have h := H5.out
    rw [hk] at h
    injection h with h
    injection h with _ h2
    exact ht h2
  have hI6 : IsS97 w (w5.setCell ⟨g5, 0, none⟩ (.pointer (some ⟨g, 0, none⟩))) g l0 0 := by
    obtain ⟨A, c, hg, hl, hr⟩ := HI.out
    exact ⟨A, c, far (by decide) hg, hl, hr⟩
  have h56 : (w5.setCell ⟨g5, 0, none⟩ (.pointer (some ⟨g, 0, none⟩))).heap[g5]? = some (.cells #[.pointer (some ⟨g, 0, none⟩)] 95 (0, 0)) := by simpa using blk_set H5.out 0 (.pointer (some ⟨g, 0, none⟩))
  refine (oRead_calls g g5 g1 g4 A0 c0 l0 w _ HL.out.1 (rd_in HL.out.2) HR0.out HC0.out hI6 (below_set HB.out L5.out) h56 (far (by decide) H1.out) (far (by decide) H4.out) L4.out).mono ?_
  rintro e w7 ⟨hb, ⟨o, vo, hd, rfl, h4, hS⟩ | ⟨hd, rfl⟩⟩
  · have HB7 := Aside0.mk hb
    have H := Aside0.mk (show (o, true) = (r1, r2) from by rw [← H.out, iRes, hd])
    have HS := Aside0.mk hS
    obtain ⟨Av, cv, ev⟩ := Kd.S_slice hS
    subst ev
    have h4c := (blk_cell h4 0).trans rfl
    clear hb hd hS h4 far hI6 h56 h5 hf5
    have h := H.out
    injection h with e1 e2
    subst e1; subst e2
    go_wp2
    go_ret2
    exact ⟨_, rfl, HS.out, HB7.out⟩
  · have HB7 := Aside0.mk hb
    have H := Aside0.mk (show (([] : List (List S81)), false) = (r1, r2) from by rw [← H.out, iRes, hd])
    clear hb hd far hI6 h56 h5 hf5
    have h := H.out
    injection h with e1 e2
    subst e1; subst e2
    go_wp2
    go_ret2
    exact ⟨_, rfl, Kd.S_nil _ _ _ _ _, HB7.out⟩
end Go.Proofs.Ytngmkpediibhjaa.PFnExactDecodeDesc
