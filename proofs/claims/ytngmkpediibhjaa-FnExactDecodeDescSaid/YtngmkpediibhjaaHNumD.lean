/- Bytes that a function appends to: a literal's full row or a row of its own; the writer's methods of impl's EncodeDesc. No condition. -/
import Derived.Test.YtngmkpediibhjaaPFnExactDecodeDescx3
import Derived.Laws.BitsAllLaws
import Derived.ArgAppend
import Derived.Lib.SlBytesConst
namespace Go.Proofs.Ytngmkpediibhjaa.PFnExactDecodeDesc
open Go.RowKit Go.Proofs.YtngmkpediibhjaaW.PrintWords Go.Proofs.YtngmkpediibhjaaW.PrintLast Go.Proofs.YtngmkpediibhjaaW.PrintMore
attribute [local go_sem] max2_int min2_int max_two min_two max_three min_three max_four min_four   -- for this text's walks alone
set_option linter.unusedVariables false
set_option linter.unusedSimpArgs false

/-! ### append to bytes of one's own, or to a literal's full row -/
def Full (W : World) (ok : Nat → Prop) (v : Value) (xs : List Int) : Prop := ∃ g, v = .slice (some ⟨g, 0, none⟩) xs.length xs.length ∧ ok g ∧ ∀ (j : Nat) (u : Value), (nums .u8 xs)[j]? = some u → W.cell? ⟨g, j, none⟩ = some u
def Ap (W : World) (B : Nat) (ok : Nat → Prop) (v : Value) (xs : List Int) : Prop := Kd.R (Kd.int .u8) 5 W B ok v xs ∨ Full W ok v xs
def Keep5 (w w' : World) : Prop := ∀ (j : Nat) (cs : Array Value) (t : Nat), t ≠ 5 → w.heap[j]? = some (.cells cs t (0, 0)) → w'.heap[j]? = some (.cells cs t (0, 0))
theorem Full.alloc {W : World} {ok : Nat → Prop} {v : Value} {xs : List Int} (h : Full W ok v xs) (o : Obj) : Full (W.alloc o) ok v xs := by
  obtain ⟨g, e, ho, hc⟩ := h
  exact ⟨g, e, ho, fun j u hj => Go.Lib.cell?_alloc_marked o (hc j u hj)⟩
theorem Keep5.grown {w w1 : World} {v : Value} (hg : w.grownBy w1 v.ownBlock) (hv : ∀ k, v.ownBlock = some k → ∃ cells, w.heap[k]? = some (.cells cells 5 (0, 0))) : Keep5 w w1 := by
  intro j cs t ht e1
  refine blk_grown e1 hg fun he => ?_
  obtain ⟨c, hc⟩ := hv j he.symm
  rw [hc] at e1
  injection e1 with e1
  injection e1 with _ e1
  exact ht e1.symm
section
variable {ops : Array Oper} {rest : List Oper} {o : Oper} {a : Act} {Q : Exit → Act → World → Prop}
set_option maxRecDepth 100000 in
theorem Ap_append {w0 W : World} (B : Nat) (hgd : o.guard = none) (s x : Operand) (ho : o.op = .call { callee := .builtin .append, args := #[s, x], argTypes := #[46, 46] })
    (v : Value) (xs : List Int) (p : Int) (ok : Nat → Prop) (hs : a.eval s = v) (hx : a.eval x = .slice (some ⟨W.heap.size, 0, none⟩) 1 1) (hfresh : ∀ k, W.heap.size ≤ k → ok k)
    (HO : Ap W B ok v xs) (HB : Below B w0 W) (hbase : B ≤ W.heap.size) (hl : xs.length + 1 ≤ 140737488355328)
    (h : ∀ v1 w1, Kd.R (Kd.int .u8) 5 w1 B ok v1 (xs ++ [p]) → Below B w0 w1 → Keep5 W w1 → wpList Try.prog ops Q rest (a.put o.dst v1) w1) :
    wpList Try.prog ops Q (o :: rest) a (W.alloc (.cells #[.int .u8 p] 5)) := by
  rcases HO with HR | ⟨g, rfl, hok, hc⟩
  · refine Kd.R_append (Kd.int .u8) (w0 := w0) B hgd s x 46 5 (.int .u8 0) 1 ho Try.underlying46 info5 rfl (by decide) (by omega) v xs p [.int .u8 p] ok (fun _ => False) hs hx rfl (fun _ hk => hk.elim) hfresh HR HB hbase (by omega) ?_
    intro v1 w1 h1 hb hg _
    exact h v1 w1 h1 hb (Keep5.grown hg (Kd.R_typed HR))
  · obtain ⟨i0, hi, hzz⟩ := Option.map_eq_some_iff.1 info5
    simp only [Prod.mk.injEq] at hzz
    obtain ⟨hz0, hz1, hz2⟩ := hzz
    refine wpList_append_grows (W.alloc (.cells #[.int .u8 p] 5)) hgd s x 46 ho 5 i0 (.int .u8 0) 1 1 Try.underlying46 hi hz0 hz1 hz2 rfl (by omega) (some ⟨g, 0, none⟩) xs.length xs.length (nums .u8 xs) hs (fun e => by cases e) (by simp [nums])
      (fun b hb j u hj => by injection hb with hb; subst hb; rw [add_plain]; exact Go.Lib.cell?_alloc_marked _ (hc j u hj)) ⟨W.heap.size, 0, none⟩ 1 1 [.int .u8 p] hx rfl
      (by simpa using World.news_of_block (cs := #[.int .u8 p]) (t := 5) (fr := (0, 0)) (heap_alloc_new W (.cells #[.int .u8 p] 5))) (fun u hu => by simp at hu; subst hu; rfl) (by omega) (by simp only [maxLen]; omega) (by omega) ?_
    intro v1 w1 hown hg
    have hgr : W.grownBy w1 none := World.grownBy.trans (World.grownBy_alloc W _ _) hg
    refine h v1 w1 ?_ (HB.grown hgr hbase (fun k hk => by cases hk)) (fun j cs t ht e1 => blk_grown e1 hgr (by simp))
    refine Kd.R_of_own ?_ (fun k hk => hfresh k ?_)
    · have := own_weaken hown (base' := B) (by simp; omega)
      simpa [encs, nums] using this
    · have := own_base hown k hk
      simp at this
      omega
end
set_option maxHeartbeats 8000000 in
set_option maxRecDepth 100000 in
theorem spec_l15Num.calls0 (k : Nat) (u : Value) (xs : List Int) (a1 : Int) (r : List Int) (w0 w : World) (hB : Below w0.heap.size w0 w) (ho : Full w (fun _ => True) u xs) (h : spec_l15Num.f k xs a1 = some r) :
    Calls Try.prog 45 #[u, .int .u64 a1] w fun e w' => ∃ v0_ : Value, e = .returned (v0_) ∧ Kd.R (Kd.int .u8) 5 w' w0.heap.size (fun _ => True) v0_ r ∧ Below w0.heap.size w0 w' := by
  have HR := Aside0.mk (show Ap w w0.heap.size (fun _ => True) u xs from .inr ho)
  have HB := Aside0.mk hB
  have H' := Aside0.mk (show spec_l15Num.l0 k xs a1 = some r from h)
  clear h hB ho
  go_enter Try.func45, Try.ntmps45
  go_wp2
  go_loopg [0, 1] k (fun kq v0 v1 w' => ∃ (x0 : List Int) (x1 : Int), v1 = .int .u64 x1 ∧ Aside0 (spec_l15Num.l0 kq x0 x1 = some r) ∧ Aside0 (kq ≤ k) ∧ Aside0 (Ap w' w0.heap.size (fun _ => True) v0 x0) ∧ Aside0 (Below w0.heap.size w0 w'))
  case atStart => exact ⟨xs, a1, rfl, H', ⟨Nat.le_refl _⟩, HR, HB⟩
  case round =>
    clear H' HR HB
    obtain ⟨x0, x1, rfl, HA, HK1, HR, HB⟩ := hrel
    cases gk with
    | zero => exact absurd HA.out (by simp [spec_l15Num.l0])
    | succ k1 =>
      have H := HA.out
      clear HA
      simp only [spec_l15Num.l0] at H
      by_cases c3 : x1 ≥ 128
      · rw [if_pos c3] at H
        have c3b0 : decide (128 ≤ x1) = true := decide_eq_true c3
        clear c3
        by_cases c4 : x0.length < 140737488355328
        · rw [if_pos c4] at H
          have LM := Aside0.mk c4
          clear c4
          obtain ⟨y, hy⟩ : ∃ y_ : List Int, y_ = x0 ++ [(IntKind.u64.wrap ((Int.tmod x1 128) + 128)) % 256] := ⟨_, rfl⟩
          rw [← hy] at H
          have Ny := Aside0.mk hy
          have H' := Aside0.mk H
          clear hy H
          go_wp2_with (first | ((with_reducible refine gate_builtin (b := .append) (xs := #[.tmp 7, .tmp 12]) rfl ?_); at_builtin; refine Ap_append (w0 := w0) w0.heap.size rfl (.tmp 7) (.tmp 12) rfl u0 x0 ((IntKind.u64.wrap ((Int.tmod x1 128) + 128)) % 256) (fun _ => True) rfl rfl (fun _ _ => trivial) HR.out HB.out ?aS ?aL ?_; (case aS => exact (below_size HB.out)); (case aL => have := LM.out; omega); intro v2 w5 ho hb h5; rw [← Ny.out] at ho; have n1_ := Aside0.mk (hb); have n3_ := Aside0.mk ho; clear HB HR ho hb h5; have HB := n1_; have HR := n3_; clear n1_ n3_; obtain ⟨A2, c2, e2⟩ := Kd.R_slice HR.out; subst e2))
          go_roundg k1
          case measure => have := HK1.out; omega
          case rel => exact ⟨y, (IntKind.u64.wrap (Int.tdiv x1 128)), (by first | rfl | (simp; done) | (simp [*]; done)), H', ⟨by have := HK1.out; omega⟩, ⟨.inl HR.out⟩, HB⟩
        · rw [if_neg c4] at H
          exact absurd H (by simp)
      · rw [if_neg c3] at H
        have c3b0 : decide (128 ≤ x1) = false := decide_eq_false c3
        clear c3
        by_cases c4 : x0.length < 140737488355328
        · rw [if_pos c4] at H
          have LM := Aside0.mk c4
          clear c4
          obtain rfl := Option.some.inj H
          obtain ⟨y, hy⟩ : ∃ y_ : List Int, y_ = x0 ++ [x1 % 256] := ⟨_, rfl⟩
          have Ny := Aside0.mk hy
          clear H hy
          go_wp2_with (first | ((with_reducible refine gate_builtin (b := .append) (xs := #[.tmp 16, .tmp 19]) rfl ?_); at_builtin; refine Ap_append (w0 := w0) w0.heap.size rfl (.tmp 16) (.tmp 19) rfl u0 x0 (x1 % 256) (fun _ => True) rfl rfl (fun _ _ => trivial) HR.out HB.out ?aS ?aL ?_; (case aS => exact (below_size HB.out)); (case aL => have := LM.out; omega); intro v2 w5 ho hb h5; rw [← Ny.out] at ho; have n1_ := Aside0.mk (hb); have n3_ := Aside0.mk ho; clear HB HR ho hb h5; have HB := n1_; have HR := n3_; clear n1_ n3_; obtain ⟨A2, c2, e2⟩ := Kd.R_slice HR.out; subst e2))
          go_ret
          exact ⟨_, rfl, by rw [← Ny.out]; exact HR.out, HB.out⟩
        · rw [if_neg c4] at H
          exact absurd H (by simp)
/-- The literal "QPD1" as bytes. -/
theorem full4 (W : World) (fr : Nat × Nat) (ok : Nat → Prop) (hok : ok W.heap.size) : Full (W.alloc (.cells #[.int .u8 81, .int .u8 80, .int .u8 68, .int .u8 49] 5 fr)) ok (.slice (some ⟨W.heap.size, 0, none⟩) 4 4) [81, 80, 68, 49] := by
  refine ⟨W.heap.size, rfl, hok, fun j u hj => ?_⟩
  have h := cell_of_row (W.alloc (.cells #[.int .u8 81, .int .u8 80, .int .u8 68, .int .u8 49] 5 fr)) W.heap.size j #[.int .u8 81, .int .u8 80, .int .u8 68, .int .u8 49] 5 fr (heap_alloc_new W _)
  rw [h]
  simpa [nums] using hj
theorem conv4 (w : World) : (convert 46 46 (.slice (some ⟨w.heap.size, 0, none⟩) 4 4)).run Try.prog (w.alloc (.cells #[.int .u8 81, .int .u8 80, .int .u8 68, .int .u8 49] 5)) = .ok (.slice (some ⟨w.heap.size, 0, none⟩) 4 4) (w.alloc (.cells #[.int .u8 81, .int .u8 80, .int .u8 68, .int .u8 49] 5 (4, 5))) :=
  Go.Lib.run_convert_bytes_const (P := Try.prog) w 46 5 #[.int .u8 81, .int .u8 80, .int .u8 68, .int .u8 49] 4 4 Try.underlying46 Try.underlying5
end Go.Proofs.Ytngmkpediibhjaa.PFnExactDecodeDesc
