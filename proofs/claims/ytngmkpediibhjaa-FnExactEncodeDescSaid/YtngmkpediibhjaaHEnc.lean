/- impl's EncodeDesc: the sum, and the whole function over the writer. No condition. -/
import Derived.Test.YtngmkpediibhjaaPFnExactEncodeDescx3
import Derived.Test.YtngmkpediibhjaaHNum
import Derived.Test.YtngmkpediibhjaaBox
namespace Go.Proofs.Ytngmkpediibhjaa.PFnExactEncodeDesc
open Go.RowKit Go.Proofs.YtngmkpediibhjaaW.PrintWords Go.Proofs.YtngmkpediibhjaaW.PrintLast Go.Proofs.YtngmkpediibhjaaW.PrintMore
attribute [local go_sem] max2_int min2_int max_two min_two max_three min_three max_four min_four   -- for this text's walks alone
set_option linter.unusedVariables false
set_option linter.unusedSimpArgs false

section
variable {ops : Array Oper} {rest : List Oper} {o : Oper} {a : Act} {Q : Exit → Act → World → Prop}
set_option maxRecDepth 100000 in
theorem R_append2 {w0 W : World} (B : Nat) (hgd : o.guard = none) (s x : Operand) (ho : o.op = .call { callee := .builtin .append, args := #[s, x], argTypes := #[46, 46] })
    (v : Value) (xs : List Int) (p q : Int) (ok : Nat → Prop) (hs : a.eval s = v) (hx : a.eval x = .slice (some ⟨W.heap.size, 0, none⟩) 2 2) (hfresh : ∀ k, W.heap.size ≤ k → ok k)
    (HR : Kd.R (Kd.int .u8) 5 W B ok v xs) (HB : Below B w0 W) (hbase : B ≤ W.heap.size) (hl : xs.length + 2 ≤ 140737488355328)
    (h : ∀ v1 w1, Kd.R (Kd.int .u8) 5 w1 B ok v1 (xs ++ [p, q]) → Below B w0 w1 → Keep5 W w1 → wpList Try.prog ops Q rest (a.put o.dst v1) w1) :
    wpList Try.prog ops Q (o :: rest) a (W.alloc (.cells #[.int .u8 p, .int .u8 q] 5)) := by
  have hrow := cell_of_row (W.alloc (.cells #[.int .u8 p, .int .u8 q] 5)) W.heap.size
  refine Kd.R_append_rows (Kd.int .u8) (Rr := (Kd.int .u8).K W) (w0 := w0) B hgd s x 46 5 (.int .u8 0) 1 ho Try.underlying46 info5 rfl (by decide) (by omega) v xs [p, q] (some ⟨W.heap.size, 0, none⟩) 2 2 ok (fun _ => False) hs hx (Kd.R_alloc HR _) ?_ (fun _ _ h => h) (fun _ h => h.elim) (fun k hk => hfresh k (by simp at hk; omega)) (HB.alloc hbase _) (by simp; omega) (by omega) ?_
  · refine ⟨rfl, by omega, fun _ => ⟨_, rfl, fun j z hz => ⟨[.int .u8 z], rfl, rfl, fun i u hu => ?_⟩⟩⟩
    rw [add_plain, hrow _ #[.int .u8 p, .int .u8 q] 5 (0, 0) (heap_alloc_new W _)]
    match j, i, hz, hu with
    | 0, 0, hz, hu => simp at hz hu; subst hz; subst hu; rfl
    | 1, 0, hz, hu => simp at hz hu; subst hz; subst hu; rfl
  · intro v1 w1 h1 hb hg _
    refine h v1 w1 h1 hb (fun j cs t ht e => ?_)
    exact (Keep5.grown hg (fun k hk => by obtain ⟨c, hc⟩ := Kd.R_typed HR k hk; exact ⟨c, blk_alloc hc _⟩)) j cs t ht (blk_alloc e _)
end

def impl_sum.f (k : Nat) (xs : List Int) : Option (List Int) := (impl_oSum.f k xs).bind fun t => if xs.length + 2 ≤ 140737488355328 then some (xs ++ [(Int.tmod (IntKind.u64.wrap (t + IntKind.u64.wrap (xs.length : Int))) 65521) % 256, ((Int.tmod (IntKind.u64.wrap (t + IntKind.u64.wrap (xs.length : Int))) 65521) / 256) % 256]) else none
theorem impl_sum.mono : ∀ xs k, LeO (impl_sum.f k xs) (impl_sum.f (k + 1) xs) := fun xs k => LeO.bind (impl_oSum.mono _ _) (fun _ => LeO.refl _)
set_option maxHeartbeats 8000000 in
set_option maxRecDepth 100000 in
theorem impl_sum.calls (k g : Nat) (xs : List Int) (r : List Int) (w0 w : World) (hB : Below w0.heap.size w0 w) (hw : WrR w0.heap.size g w xs) (h : impl_sum.f k xs = some r) :
    Calls Try.prog 52 #[.pointer (some ⟨g, 0, none⟩)] w fun e w' => e = .returned (.tuple #[]) ∧ WrR w0.heap.size g w' r ∧ Below w0.heap.size w0 w' := by
  unfold impl_sum.f at h
  obtain ⟨t, ht, h⟩ := Option.bind_eq_some_iff.mp h
  by_cases c : xs.length + 2 ≤ 140737488355328
  case neg => rw [if_neg c] at h; cases h
  rw [if_pos c] at h
  obtain rfl := Option.some.inj h
  have LM := Aside0.mk c
  have HS := Aside0.mk ht
  have HB := Aside0.mk hB
  obtain ⟨hgB, v, hblk, hR⟩ := hw
  obtain ⟨A, cp, rfl⟩ := Kd.R_slice hR
  have HR := Aside0.mk hR
  have BK := Aside0.mk hblk
  have HG := Aside0.mk hgB
  have hcz : w.cell? ⟨g, 0, none⟩ = some (.slice A xs.length cp) := (blk_cell hblk 0).trans rfl
  have hfz := blk_frozen hblk 0
  obtain ⟨y, hy⟩ : ∃ y_ : Int, y_ = Int.tmod (IntKind.u64.wrap (t + IntKind.u64.wrap (xs.length : Int))) 65521 := ⟨_, rfl⟩
  have Ny := Aside0.mk hy
  clear h ht hB hgB hblk hR c hy
  go_enter Try.func52, Try.ntmps52
  go_wp2_with (fail)
  go_quiet (first | (go_at_call 77; exact Calls.quiet_of ((impl_oSum.calls k A cp xs t _ (by repeat (first | exact (Kd.R_reads' HR.out).2.2 | (with_reducible refine Kd.C_alloc ?_ _) | (with_reducible refine Kd.C_drewN ?_ _) | (with_reducible refine Kd.C_drew ?_))) (Kd.R_reads' HR.out).2.1 HS.out).mono fun _ _ hd => ⟨hd.1, by obtain ⟨nd, hn⟩ := hd.2; exact ⟨nd, hn⟩⟩)))
  generalize hq_ : World.drewN w _ = wq
  have n0_ := Aside0.mk (Kd.R_at hq_ HR.out)
  have n1_ := Aside0.mk (blk_at hq_ BK.out)
  have n2_ := Aside0.mk (below_at hq_ HB.out)
  clear hq_ HR BK HB hcz hfz
  have HR := n0_
  have BK := n1_
  have HB := n2_
  clear n0_ n1_ n2_
  have hcz : wq.cell? ⟨g, 0, none⟩ = some (.slice A xs.length cp) := (blk_cell BK.out 0).trans rfl
  have hfz := blk_frozen BK.out 0
  go_wp2_with (first | ((with_reducible refine gate_builtin (b := .append) (xs := #[.tmp 20, .tmp 26]) rfl ?_); at_builtin; refine R_append2 (w0 := w0) w0.heap.size rfl (.tmp 20) (.tmp 26) rfl (.slice A xs.length cp) xs ((Int.tmod (IntKind.u64.wrap (t + IntKind.u64.wrap (xs.length : Int))) 65521) % 256) (((Int.tmod (IntKind.u64.wrap (t + IntKind.u64.wrap (xs.length : Int))) 65521) / 256) % 256) (fun k_ => w0.heap.size ≤ k_ ∧ k_ ≠ g) rfl rfl ?aF HR.out HB.out ?aS ?aL ?_; (case aF => exact (fun k_ hk => ⟨Nat.le_trans (below_size HB.out) hk, Nat.ne_of_gt (Nat.lt_of_lt_of_le (blk_lt BK.out) hk)⟩)); (case aS => exact (below_size HB.out)); (case aL => exact LM.out); intro v2 w5 ho hb h5; rw [← Ny.out] at ho; obtain ⟨z, hz⟩ : ∃ z_ : List Int, z_ = xs ++ [y % 256, y / 256 % 256] := ⟨_, rfl⟩; rw [← hz] at ho; have Nz := Aside0.mk hz; have n1_ := Aside0.mk (hb); have n3_ := Aside0.mk ho; have n4_ := Aside0.mk (h5 _ _ _ (by decide) BK.out); clear HB HR BK hcz hfz ho hb h5 hz; have HB := n1_; have HR := n3_; have BK := n4_; clear n1_ n3_ n4_; obtain ⟨A2, c2, e2⟩ := Kd.R_slice HR.out; subst e2; have hcz : w5.cell? ⟨g, 0, none⟩ = some (.slice A xs.length cp) := (blk_cell BK.out 0).trans rfl; have hfz := blk_frozen BK.out 0))
  go_end0
  exact ⟨rfl, by rw [← Ny.out, ← Nz.out]; exact WrR.set HG.out BK.out HR.out, below_set HB.out HG.out⟩

mutual
def impl_EncodeDesc.l0 : Nat → List (List S81) → List Int → Int → Option (List Int)
  | 0, _, _, _ => none
  | k + 1, x0, b, i => if i < (x0.length : Int) then (if 0 ≤ i then ((spec_l15Num.f k b (IntKind.u64.wrap ((rd_L4 x0 i).length : Int))).bind fun t => impl_EncodeDesc.l1 k x0 i t 0 0 0 0) else none) else impl_sum.f k b
def impl_EncodeDesc.l1 : Nat → List (List S81) → Int → List Int → Int → Int → Int → Int → Option (List Int)
  | 0, _, _, _, _, _, _, _ => none
  | k + 1, x0, i, b, x, y, f, j => if j < ((rd_L4 x0 i).length : Int) then (if 0 ≤ j then (if (rd_T81 (rd_L4 x0 i) j).f3 < 0 ∧ ¬ (rd_T81 (rd_L4 x0 i) j).f2 = 0 then some [] else
      ((spec_l15Signed.f k b (wrap64 ((rd_T81 (rd_L4 x0 i) j).f0 - x))).bind fun t1 => (spec_l15Signed.f k t1 (wrap64 ((rd_T81 (rd_L4 x0 i) j).f1 - y))).bind fun t2 =>
        (spec_l15Num.f k t2 (if (rd_T81 (rd_L4 x0 i) j).f3 < 0 then 0 else if (rd_T81 (rd_L4 x0 i) j).f2 = f then IntKind.u64.wrap (wrap64 (1 + (rd_T81 (rd_L4 x0 i) j).f3)) else IntKind.u64.wrap (wrap64 (wrap64 (257 + (rd_T81 (rd_L4 x0 i) j).f3) + wrap64 (256 * (rd_T81 (rd_L4 x0 i) j).f2))))).bind fun t3 =>
        (spec_l15Num.f k t3 (IntKind.u64.wrap (rd_T81 (rd_L4 x0 i) j).f4)).bind fun t4 => (spec_l15Num.f k t4 (IntKind.u64.wrap (rd_T81 (rd_L4 x0 i) j).f5)).bind fun t5 => impl_EncodeDesc.l1 k x0 i t5 (rd_T81 (rd_L4 x0 i) j).f0 (rd_T81 (rd_L4 x0 i) j).f1 (if (rd_T81 (rd_L4 x0 i) j).f3 < 0 then f else (rd_T81 (rd_L4 x0 i) j).f2) (wrap64 (j + 1)))) else none) else impl_EncodeDesc.l0 k x0 b (wrap64 (i + 1))
end
def impl_EncodeDesc.f (k : Nat) (l0 : List (List S81)) : Option (List Int) := (impl_DescOk.f k l0).bind fun t => if t = true then ((spec_l15Num.f k [81, 80, 68, 49] (IntKind.u64.wrap (l0.length : Int))).bind fun b => impl_EncodeDesc.l0 k l0 b 0) else some []
theorem impl_EncodeDesc.mono_l : ∀ k, (∀ y0 y1 y2, LeO (impl_EncodeDesc.l0 k y0 y1 y2) (impl_EncodeDesc.l0 (k + 1) y0 y1 y2)) ∧ (∀ y0 y1 y2 y3 y4 y5 y6, LeO (impl_EncodeDesc.l1 k y0 y1 y2 y3 y4 y5 y6) (impl_EncodeDesc.l1 (k + 1) y0 y1 y2 y3 y4 y5 y6))
  | 0 => ⟨fun _ _ _ r h => by simp [impl_EncodeDesc.l0] at h, fun _ _ _ _ _ _ _ r h => by simp [impl_EncodeDesc.l1] at h⟩
  | k + 1 => by
    obtain ⟨ih0, ih1⟩ := impl_EncodeDesc.mono_l k
    refine ⟨?_, ?_⟩
    · intro y0 y1 y2
      unfold impl_EncodeDesc.l0
      repeat' first
      | (with_reducible exact ih0 _ _ _)
      | (with_reducible exact ih1 _ _ _ _ _ _ _)
      | (with_reducible exact impl_sum.mono _ _)
      | (with_reducible exact spec_l15Num.mono _ _ _)
      | (with_reducible exact LeO.refl _)
      | (with_reducible exact LeO.none _)
      | (with_reducible refine LeO.ite ?_ ?_)
      | (with_reducible refine LeO.bind ?_ (fun _ => ?_))
    · intro y0 y1 y2 y3 y4 y5 y6
      unfold impl_EncodeDesc.l1
      repeat' first
      | (with_reducible exact ih0 _ _ _)
      | (with_reducible exact ih1 _ _ _ _ _ _ _)
      | (with_reducible exact spec_l15Num.mono _ _ _)
      | (with_reducible exact spec_l15Signed.mono _ _ _)
      | (with_reducible exact LeO.refl _)
      | (with_reducible exact LeO.none _)
      | (with_reducible refine LeO.ite ?_ ?_)
      | (with_reducible refine LeO.bind ?_ (fun _ => ?_))
theorem impl_EncodeDesc.mono : ∀ a0 k, LeO (impl_EncodeDesc.f k a0) (impl_EncodeDesc.f (k + 1) a0) := by
  intro a0 k
  have ih0 := (impl_EncodeDesc.mono_l k).1
  unfold impl_EncodeDesc.f
  repeat' first
      | (with_reducible exact ih0 _ _ _)
      | (with_reducible exact impl_DescOk.mono _ _)
      | (with_reducible exact spec_l15Num.mono _ _ _)
      | (with_reducible exact LeO.refl _)
      | (with_reducible exact LeO.none _)
      | (with_reducible refine LeO.ite ?_ ?_)
      | (with_reducible refine LeO.bind ?_ (fun _ => ?_))
theorem WrR.lt {B g : Nat} {W : World} {xs : List Int} (h : WrR B g W xs) : g < W.heap.size := by
  obtain ⟨_, _, h_, _⟩ := h
  exact blk_lt h_
theorem WrR.below {B g : Nat} {W W' : World} {xs : List Int} (h : WrR B g W xs) (hb : Below W.heap.size W W') : WrR B g W' xs := ⟨h.1, h.2.imp fun v hv => ⟨blk_below hv.1 hb, Kd.R_below hv.2 hb⟩⟩
theorem WrR.step {B g gb : Nat} {W W' : World} {xs : List Int} {cs : Array Value} (h : WrR B g W xs) (hbx : W.heap[gb]? = some (.cells cs 81 (0, 0))) (hne : gb ≠ g) (hk : ∀ k, k ≠ gb → W'.heap[k]? = W.heap[k]?) : WrR B g W' xs := by
  obtain ⟨hb, v, h1, h2⟩ := h
  refine ⟨hb, v, (hk g (Ne.symm hne)).trans h1, ?_⟩
  exact Kd.R_mono (Kd.R_step (Kd.R_types h2 hbx (by decide)) (fun k_ hk_ _ => hk k_ hk_.2)) (fun _ hk_ => hk_.1)
theorem WrR.at {B g m : Nat} {W W' : World} {xs : List Int} (hq : W.drewN m = W') (h : WrR B g W xs) : WrR B g W' xs := ⟨h.1, h.2.imp fun v hv => ⟨blk_at hq hv.1, Kd.R_at hq hv.2⟩⟩
theorem Full.below {W W' : World} {ok : Nat → Prop} {v : Value} {xs : List Int} (h : Full W ok v xs) (hb : Below W.heap.size W W') : Full W' ok v xs := by
  obtain ⟨g, e, ho, hc⟩ := h
  exact ⟨g, e, ho, fun j u hj => pw_cell_below hb (hc j u hj)⟩
theorem six_ {w : World} {g : Nat} {a0 a1 a2 a3 a4 a5 : Value} (h : w.heap[g]? = some (.cells #[a0, a1, a2, a3, a4, a5] 81 (0, 0))) : w.cell? ⟨g, 0, none⟩ = some a0 ∧ w.cell? ⟨g, 1, none⟩ = some a1 ∧ w.cell? ⟨g, 2, none⟩ = some a2 ∧ w.cell? ⟨g, 3, none⟩ = some a3 ∧ w.cell? ⟨g, 4, none⟩ = some a4 ∧ w.cell? ⟨g, 5, none⟩ = some a5 :=
  ⟨(blk_cell h 0).trans rfl, (blk_cell h 1).trans rfl, (blk_cell h 2).trans rfl, (blk_cell h 3).trans rfl, (blk_cell h 4).trans rfl, (blk_cell h 5).trans rfl⟩
theorem u64_in (x : Int) : 0 ≤ IntKind.u64.wrap x ∧ IntKind.u64.wrap x < 18446744073709551616 := by
  have hw : IntKind.u64.wrap x = x % 18446744073709551616 := by
    unfold IntKind.wrap
    simp only [IntKind.signed, IntKind.bits]
    simp
  rw [hw]
  omega
theorem i64_in (x : Int) : -9223372036854775808 ≤ wrap64 x ∧ wrap64 x ≤ 9223372036854775807 := by
  unfold wrap64
  omega
set_option maxHeartbeats 8000000 in
set_option maxRecDepth 100000 in
theorem impl_EncodeDesc.calls (k : Nat) (A0 : Option Addr) (c0 : Nat) (l0 : List (List (S81))) (r : List Int) (w : World) (hr0 : Kd.C (Kd.slice 81 k81) w A0 l0.length l0) (hc0 : l0.length ≤ c0) (h : impl_EncodeDesc.f k l0 = some r) :
    Calls Try.prog 18 #[.slice A0 l0.length c0] w fun e w' => ∃ v0_ : Value, e = .returned (v0_) ∧ Kd.R (Kd.int .u8) 5 w' w.heap.size (fun _ => True) v0_ r ∧ Below w.heap.size w w' := by
  have hu81 := Try.underlying81
  have hi81 : (Try.prog.info? 81).map (·.size) = some 6 := by kernel_rfl
  have HR0 := Aside0.mk hr0
  have HC0 := Aside0.mk hc0
  clear hr0 hc0
  have HB := Aside0.mk (Below.refl w.heap.size w)
  unfold impl_EncodeDesc.f at h
  obtain ⟨t, ht, h⟩ := Option.bind_eq_some_iff.mp h
  have A2 := Aside0.mk ht
  clear ht
  cases t with
  | false =>
    rw [if_neg (by decide)] at h
    obtain rfl := Option.some.inj h
    go_enter Try.func18, Try.ntmps18
    go_wp2_with (first | ((with_reducible refine gate_callee (f := 49) rfl ?_); refine goesL_ (some 12) rfl rfl Try.func49 (by kernel_rfl) rfl #[.slice A0 l0.length c0] rfl (by (try simp only [List.map_toArray, List.map_cons, List.map_nil]); first | done | rfl) ?_; (with_reducible refine (impl_DescOk.calls k _ _ l0 _ _ HR0.out HC0.out A2.out).mono ?_); rintro e w5 ⟨rfl, hb⟩; refine ⟨_, rfl, ?_⟩; have n0_ := Aside0.mk (below_step HB.out hb); clear HB hb; have HB := n0_; clear n0_))
    go_ret
    exact ⟨_, rfl, Kd.R_nil _ _ _ _ _, HB.out⟩
  | true =>
    rw [if_pos rfl] at h
    obtain ⟨b, hb0, h⟩ := Option.bind_eq_some_iff.mp h
    have A4 := Aside0.mk hb0
    have H' := Aside0.mk h
    clear hb0 h
    have hcv_ := conv4
    go_enter Try.func18, Try.ntmps18
    go_wp2_with (first | ((with_reducible refine gate_callee (f := 49) rfl ?_); refine goesL_ (some 12) rfl rfl Try.func49 (by kernel_rfl) rfl #[.slice A0 l0.length c0] rfl (by (try simp only [List.map_toArray, List.map_cons, List.map_nil]); first | done | rfl) ?_; (with_reducible refine (impl_DescOk.calls k _ _ l0 _ _ HR0.out HC0.out A2.out).mono ?_); rintro e w5 ⟨rfl, hb⟩; refine ⟨_, rfl, ?_⟩; have n0_ := Aside0.mk (below_step HB.out hb); clear HB hb; have HB := n0_; clear n0_) | ((with_reducible refine gate_dst (N := 17) rfl ?_); refine box_event ?hg (N := 17) ?hd (cs := #[.slice (some ⟨w5.heap.size, 0, none⟩) 4 4]) (t := 86) ?hr ?_; (case hd => rfl); (case hg => rfl); (case hr => first | (go_simp; done) | (go_simp; rfl)); intro g hg wb hbox hb; have n0_ := Aside0.mk (below_step (below_alloc HB.out _) hb); have n1_ : Aside0 (Wr w.heap.size g wb [81, 80, 68, 49]) := ⟨⟨by rw [hg]; exact below_size (below_alloc HB.out _), _, hbox, .inr (Full.below (full4 w5 (4, 5) _ ⟨below_size HB.out, by rw [hg]; simp⟩) hb)⟩⟩; clear HB hb hbox hg; have HB := n0_; have HW0 := n1_; clear n0_ n1_) | ((with_reducible refine gate_callee (f := 50) rfl ?_); refine goesL_ (some 22) rfl rfl Try.func50 (by kernel_rfl) rfl #[.pointer (some ⟨g, 0, none⟩), .int .u64 (IntKind.u64.wrap (l0.length : Int))] rfl (by (try simp only [List.map_toArray, List.map_cons, List.map_nil]); first | done | rfl) ?_; (with_reducible refine (impl_num.calls k g [81, 80, 68, 49] _ b w _ HB.out HW0.out (u64_in _).1 (u64_in _).2 A4.out).mono ?_); rintro e w5 ⟨rfl, hw5, hb5, hk5⟩; refine ⟨_, rfl, ?_⟩; have n1_ := Aside0.mk hw5; have n2_ := Aside0.mk hb5; clear HW0 HB hw5 hb5 hk5; have HW := n1_; have HB := n2_; clear n1_ n2_))
    clear hcv_
    go_loopg [25] k (fun kq v25 w' => ∃ (b : List Int) (i : Int), v25 = .int .i64 i ∧ Aside0 (impl_EncodeDesc.l0 kq l0 b i = some r) ∧ Aside0 (kq ≤ k) ∧ Aside0 (WrR w.heap.size g w' b) ∧ Aside0 (Below w.heap.size w w'))
    case atStart => exact ⟨b, 0, (by first | rfl | (simp; done) | (simp [*]; done)), H', ⟨Nat.le_refl _⟩, HW, HB⟩
    case round =>
      clear H' HW HB A4
      obtain ⟨b, i, rfl, HA, HK1, HW, HB⟩ := hrel
      cases gk with
      | zero => exact absurd HA.out (by simp [impl_EncodeDesc.l0])
      | succ k1 =>
        have H := HA.out
        clear HA
        simp only [impl_EncodeDesc.l0] at H
        by_cases c5 : i < (l0.length : Int)
        case neg =>
          rw [if_neg c5] at H
          have c5b0 : decide (i < (l0.length : Int)) = false := decide_eq_false c5
          clear c5
          have AS := Aside0.mk H
          clear H
          go_wp2_with (first | ((with_reducible refine gate_callee (f := 52) rfl ?_); refine goesL_ (some 106) rfl rfl Try.func52 (by kernel_rfl) rfl #[.pointer (some ⟨g, 0, none⟩)] rfl (by (try simp only [List.map_toArray, List.map_cons, List.map_nil]); first | done | rfl) ?_; (with_reducible refine (impl_sum.calls k1 g b r w _ HB.out HW.out AS.out).mono ?_); rintro e w5 ⟨rfl, hw5, hb5⟩; refine ⟨_, rfl, ?_⟩; have n2_ := Aside0.mk hb5; clear HW HB hb5; have HB := n2_; clear n2_; obtain ⟨hgB, v, hblk, hR⟩ := hw5; have HR := Aside0.mk hR; have hcz : w5.cell? ⟨g, 0, none⟩ = some v := (blk_cell hblk 0).trans rfl; clear hgB hblk hR))
          go_ret
          exact ⟨_, rfl, Kd.R_mono HR.out (fun _ _ => trivial), HB.out⟩
        rw [if_pos c5] at H
        have c5b0 : decide (i < (l0.length : Int)) = true := decide_eq_true c5
        by_cases c6 : 0 ≤ i
        case neg => rw [if_neg c6] at H; cases H
        rw [if_pos c6] at H
        obtain ⟨t, ht, h⟩ := Option.bind_eq_some_iff.mp H
        have A5 := Aside0.mk ht
        have H' := Aside0.mk h
        clear H ht h
        obtain ⟨ad1, Ai, ci, e1, hx1, hl1, hi1⟩ := at_L4 HR0.out i c6 c5
        cases e1
        replace hx1 := (HB.out.cell (World.block_lt_of_cell? w _ hx1)).trans hx1
        have HRi := Aside0.mk hi1
        have HCi := Aside0.mk hl1
        clear hi1 hl1
        replace c5 := eq_true c5
        replace c6 := eq_true c6
        go_wp2_with (first | ((with_reducible refine gate_callee (f := 50) rfl ?_); refine goesL_ (some 33) rfl rfl Try.func50 (by kernel_rfl) rfl #[.pointer (some ⟨g, 0, none⟩), .int .u64 (IntKind.u64.wrap ((rd_L4 l0 i).length : Int))] rfl (by (try simp only [List.map_toArray, List.map_cons, List.map_nil]); first | done | rfl) ?_; (with_reducible refine (impl_num.calls k1 g b _ t w _ HB.out HW.out.wr (u64_in _).1 (u64_in _).2 A5.out).mono ?_); rintro e w5 ⟨rfl, hw5, hb5, hk5⟩; refine ⟨_, rfl, ?_⟩; have n1_ := Aside0.mk hw5; have n2_ := Aside0.mk hb5; clear HW HB hw5 hb5 hk5; have HW := n1_; have HB := n2_; clear n1_ n2_))
        go_loopg [6, 7, 8, 36] k1 (fun kq v6 v7 v8 v36 w' => ∃ (b : List Int) (x y f j : Int), v6 = .int .i64 x ∧ v7 = .int .i64 y ∧ v8 = .int .i64 f ∧ v36 = .int .i64 j ∧ Aside0 (impl_EncodeDesc.l1 kq l0 i b x y f j = some r) ∧ Aside0 (kq ≤ k1) ∧ Aside0 (WrR w.heap.size g w' b) ∧ Aside0 (Below w.heap.size w w'))
        case atStart => exact ⟨t, 0, 0, 0, 0, (by first | rfl | (simp; done) | (simp [*]; done)), (by first | rfl | (simp; done) | (simp [*]; done)), (by first | rfl | (simp; done) | (simp [*]; done)), (by first | rfl | (simp; done) | (simp [*]; done)), H', ⟨Nat.le_refl _⟩, HW, HB⟩
        case round =>
          clear H' HW HB A5 c5 c6 c5b0
          obtain ⟨b, x, y, f, j, rfl, rfl, rfl, rfl, HA, HK2, HW, HB⟩ := hrel
          cases gk with
          | zero => exact absurd HA.out (by simp [impl_EncodeDesc.l1])
          | succ k2 =>
            have H := HA.out
            clear HA
            simp only [impl_EncodeDesc.l1] at H
            by_cases c7 : j < ((rd_L4 l0 i).length : Int)
            case neg =>
              rw [if_neg c7] at H
              have c7b0 : decide (j < ((rd_L4 l0 i).length : Int)) = false := decide_eq_false c7
              clear c7
              have H' := Aside0.mk H
              clear H
              go_wp2
              go_roundg k2
              case measure => have := HK1.out; have := HK2.out; omega
              case rel => exact ⟨b, wrap64 (i + 1), (by first | rfl | (simp; done) | (simp [*]; done)), H', ⟨by have := HK1.out; have := HK2.out; omega⟩, HW, HB⟩
            rw [if_pos c7] at H
            have c7b0 : decide (j < ((rd_L4 l0 i).length : Int)) = true := decide_eq_true c7
            by_cases c8 : 0 ≤ j
            case neg => rw [if_neg c8] at H; cases H
            rw [if_pos c8] at H
            obtain ⟨ad2, e2, hx2_0, hx2_1, hx2_2, hx2_3, hx2_4, hx2_5⟩ := at_T81 HRi.out j c8 c7
            cases e2
            replace hx2_0 := (HB.out.cell (World.block_lt_of_cell? w _ hx2_0)).trans hx2_0
            replace hx2_1 := (HB.out.cell (World.block_lt_of_cell? w _ hx2_1)).trans hx2_1
            replace hx2_2 := (HB.out.cell (World.block_lt_of_cell? w _ hx2_2)).trans hx2_2
            replace hx2_3 := (HB.out.cell (World.block_lt_of_cell? w _ hx2_3)).trans hx2_3
            replace hx2_4 := (HB.out.cell (World.block_lt_of_cell? w _ hx2_4)).trans hx2_4
            replace hx2_5 := (HB.out.cell (World.block_lt_of_cell? w _ hx2_5)).trans hx2_5
            replace c7 := eq_true c7
            replace c8 := eq_true c8
            by_cases c9 : (rd_T81 (rd_L4 l0 i) j).f3 < 0 ∧ ¬ (rd_T81 (rd_L4 l0 i) j).f2 = 0
            case pos =>
              rw [if_pos c9] at H
              obtain rfl := Option.some.inj H
              have c9b0 : decide ((rd_T81 (rd_L4 l0 i) j).f3 < 0) = true := decide_eq_true c9.1
              have c9b1 : ((rd_T81 (rd_L4 l0 i) j).f2 != 0) = true := bne_iff_ne.mpr c9.2
              have c9b2 : ((rd_T81 (rd_L4 l0 i) j).f2 == 0) = false := beq_eq_false_iff_ne.mpr c9.2
              clear c9 H
              go_wp2_with (first | ((with_reducible refine gate_dst (N := 10) rfl ?_); refine box_event ?hg (N := 10) ?hd (cs := #[.int .i64 0, .int .i64 0, .int .i64 0, .int .i64 0, .int .i64 0, .int .i64 0]) (t := 81) ?hr ?_; (case hd => rfl); (case hg => rfl); (case hr => first | (go_simp; done) | (go_simp; rfl)); intro gb hg wb hbox hb; have n0_ := Aside0.mk (WrR.below HW.out hb); have n4_ : Aside0 (w.heap.size ≤ gb) := ⟨by rw [hg]; exact below_size HB.out⟩; have n5_ : Aside0 (gb ≠ g) := ⟨by rw [hg]; exact Nat.ne_of_gt (WrR.lt HW.out)⟩; have n2_ := Aside0.mk (below_step HB.out hb); have BX := Aside0.mk hbox; clear HW HB hbox hb hg; have HW := n0_; have HB := n2_; have HE := n4_; have HN := n5_; clear n0_ n2_ n4_ n5_) | ((with_reducible refine gate_store (t := 81) (p := 10) rfl ?_); refine Box.part_store rfl 81 81 10 _ rfl rfl gb 0 (.agg #[.int .i64 ((rd_T81 (rd_L4 l0 i) j).f0), .int .i64 ((rd_T81 (rd_L4 l0 i) j).f1), .int .i64 ((rd_T81 (rd_L4 l0 i) j).f2), .int .i64 ((rd_T81 (rd_L4 l0 i) j).f3), .int .i64 ((rd_T81 (rd_L4 l0 i) j).f4), .int .i64 ((rd_T81 (rd_L4 l0 i) j).f5)]) [.int .i64 ((rd_T81 (rd_L4 l0 i) j).f0), .int .i64 ((rd_T81 (rd_L4 l0 i) j).f1), .int .i64 ((rd_T81 (rd_L4 l0 i) j).f2), .int .i64 ((rd_T81 (rd_L4 l0 i) j).f3), .int .i64 ((rd_T81 (rd_L4 l0 i) j).f4), .int .i64 ((rd_T81 (rd_L4 l0 i) j).f5)] #[.int .i64 0, .int .i64 0, .int .i64 0, .int .i64 0, .int .i64 0, .int .i64 0] #[.int .i64 ((rd_T81 (rd_L4 l0 i) j).f0), .int .i64 ((rd_T81 (rd_L4 l0 i) j).f1), .int .i64 ((rd_T81 (rd_L4 l0 i) j).f2), .int .i64 ((rd_T81 (rd_L4 l0 i) j).f3), .int .i64 ((rd_T81 (rd_L4 l0 i) j).f4), .int .i64 ((rd_T81 (rd_L4 l0 i) j).f5)] rfl rfl rfl BX.out hi81 (Nat.le_of_ble_eq_true rfl) rfl rfl ?_; intro wst hb hk hl; have n0_ := Aside0.mk (hl w.heap.size w HE.out HB.out); have n1_ := Aside0.mk (WrR.step HW.out BX.out HN.out hk); clear HB HW BX hl hk; have HB := n0_; have HW := n1_; have BX := Aside0.mk hb; clear n0_ n1_ hb; obtain ⟨hc0, hc1, hc2, hc3, hc4, hc5⟩ := six_ BX.out))
              go_ret
              exact ⟨_, rfl, Kd.R_nil _ _ _ _ _, HB.out⟩
            rw [if_neg c9] at H
            obtain ⟨t1, ht1, H⟩ := Option.bind_eq_some_iff.mp H
            obtain ⟨t2, ht2, H⟩ := Option.bind_eq_some_iff.mp H
            obtain ⟨t3, ht3, H⟩ := Option.bind_eq_some_iff.mp H
            obtain ⟨t4, ht4, H⟩ := Option.bind_eq_some_iff.mp H
            obtain ⟨t5, ht5, H⟩ := Option.bind_eq_some_iff.mp H
            have B1 := Aside0.mk ht1
            have B2 := Aside0.mk ht2
            have B4 := Aside0.mk ht4
            have B5 := Aside0.mk ht5
            clear ht1 ht2 ht4 ht5
            by_cases c10 : (rd_T81 (rd_L4 l0 i) j).f3 < 0
            · rw [if_pos c10] at ht3 H
              have c10b0 : decide ((rd_T81 (rd_L4 l0 i) j).f3 < 0) = true := decide_eq_true c10
              have e0 : (rd_T81 (rd_L4 l0 i) j).f2 = 0 := Decidable.byContradiction fun h_ => c9 ⟨c10, h_⟩
              have c9b1 : ((rd_T81 (rd_L4 l0 i) j).f2 != 0) = false := bne_eq_false_iff_eq.mpr e0
              have c9b2 : ((rd_T81 (rd_L4 l0 i) j).f2 == 0) = true := beq_iff_eq.mpr e0
              have B3 := Aside0.mk ht3
              have H' := Aside0.mk H
              clear c9 c10 e0 H ht3
              go_wp2_with (first | ((with_reducible refine gate_dst (N := 10) rfl ?_); refine box_event ?hg (N := 10) ?hd (cs := #[.int .i64 0, .int .i64 0, .int .i64 0, .int .i64 0, .int .i64 0, .int .i64 0]) (t := 81) ?hr ?_; (case hd => rfl); (case hg => rfl); (case hr => first | (go_simp; done) | (go_simp; rfl)); intro gb hg wb hbox hb; have n0_ := Aside0.mk (WrR.below HW.out hb); have n4_ : Aside0 (w.heap.size ≤ gb) := ⟨by rw [hg]; exact below_size HB.out⟩; have n5_ : Aside0 (gb ≠ g) := ⟨by rw [hg]; exact Nat.ne_of_gt (WrR.lt HW.out)⟩; have n2_ := Aside0.mk (below_step HB.out hb); have BX := Aside0.mk hbox; clear HW HB hbox hb hg; have HW := n0_; have HB := n2_; have HE := n4_; have HN := n5_; clear n0_ n2_ n4_ n5_) | ((with_reducible refine gate_store (t := 81) (p := 10) rfl ?_); refine Box.part_store rfl 81 81 10 _ rfl rfl gb 0 (.agg #[.int .i64 ((rd_T81 (rd_L4 l0 i) j).f0), .int .i64 ((rd_T81 (rd_L4 l0 i) j).f1), .int .i64 ((rd_T81 (rd_L4 l0 i) j).f2), .int .i64 ((rd_T81 (rd_L4 l0 i) j).f3), .int .i64 ((rd_T81 (rd_L4 l0 i) j).f4), .int .i64 ((rd_T81 (rd_L4 l0 i) j).f5)]) [.int .i64 ((rd_T81 (rd_L4 l0 i) j).f0), .int .i64 ((rd_T81 (rd_L4 l0 i) j).f1), .int .i64 ((rd_T81 (rd_L4 l0 i) j).f2), .int .i64 ((rd_T81 (rd_L4 l0 i) j).f3), .int .i64 ((rd_T81 (rd_L4 l0 i) j).f4), .int .i64 ((rd_T81 (rd_L4 l0 i) j).f5)] #[.int .i64 0, .int .i64 0, .int .i64 0, .int .i64 0, .int .i64 0, .int .i64 0] #[.int .i64 ((rd_T81 (rd_L4 l0 i) j).f0), .int .i64 ((rd_T81 (rd_L4 l0 i) j).f1), .int .i64 ((rd_T81 (rd_L4 l0 i) j).f2), .int .i64 ((rd_T81 (rd_L4 l0 i) j).f3), .int .i64 ((rd_T81 (rd_L4 l0 i) j).f4), .int .i64 ((rd_T81 (rd_L4 l0 i) j).f5)] rfl rfl rfl BX.out hi81 (Nat.le_of_ble_eq_true rfl) rfl rfl ?_; intro wst hb hk hl; have n0_ := Aside0.mk (hl w.heap.size w HE.out HB.out); have n1_ := Aside0.mk (WrR.step HW.out BX.out HN.out hk); clear HB HW BX hl hk; have HB := n0_; have HW := n1_; have BX := Aside0.mk hb; clear n0_ n1_ hb; obtain ⟨hc0, hc1, hc2, hc3, hc4, hc5⟩ := six_ BX.out) | ((with_reducible refine gate_callee (f := 51) rfl ?_); refine goesL_ (some 53) rfl rfl Try.func51 (by kernel_rfl) rfl #[.pointer (some ⟨g, 0, none⟩), .int .i64 (wrap64 ((rd_T81 (rd_L4 l0 i) j).f0 - x))] rfl (by (try simp only [List.map_toArray, List.map_cons, List.map_nil]); first | done | rfl) ?_; (with_reducible refine (impl_signed.calls k2 g b _ t1 w _ HB.out HW.out.wr (i64_in _).1 (i64_in _).2 B1.out).mono ?_); rintro e w5 ⟨rfl, hw5, hb5, hk5⟩; refine ⟨_, rfl, ?_⟩; have n1_ := Aside0.mk hw5; have n2_ := Aside0.mk hb5; have n3_ := Aside0.mk (hk5 _ _ _ HN.out (by decide) BX.out); clear HW HB hw5 hb5 hk5 BX hc0 hc1 hc2 hc3 hc4 hc5; have HW := n1_; have HB := n2_; have BX := n3_; clear n3_; obtain ⟨hc0, hc1, hc2, hc3, hc4, hc5⟩ := six_ BX.out; clear n1_ n2_) | ((with_reducible refine gate_callee (f := 51) rfl ?_); refine goesL_ (some 59) rfl rfl Try.func51 (by kernel_rfl) rfl #[.pointer (some ⟨g, 0, none⟩), .int .i64 (wrap64 ((rd_T81 (rd_L4 l0 i) j).f1 - y))] rfl (by (try simp only [List.map_toArray, List.map_cons, List.map_nil]); first | done | rfl) ?_; (with_reducible refine (impl_signed.calls k2 g t1 _ t2 w _ HB.out HW.out.wr (i64_in _).1 (i64_in _).2 B2.out).mono ?_); rintro e w5 ⟨rfl, hw5, hb5, hk5⟩; refine ⟨_, rfl, ?_⟩; have n1_ := Aside0.mk hw5; have n2_ := Aside0.mk hb5; have n3_ := Aside0.mk (hk5 _ _ _ HN.out (by decide) BX.out); clear HW HB hw5 hb5 hk5 BX hc0 hc1 hc2 hc3 hc4 hc5; have HW := n1_; have HB := n2_; have BX := n3_; clear n3_; obtain ⟨hc0, hc1, hc2, hc3, hc4, hc5⟩ := six_ BX.out; clear n1_ n2_))
              go_quiet (fail)
              generalize hq_ : World.drewN _ _ = wq; have n0_ := Aside0.mk (WrR.at hq_ HW.out); have n1_ := Aside0.mk (blk_at hq_ BX.out); have n2_ := Aside0.mk (below_at hq_ HB.out); clear hq_ HW BX HB hc0 hc1 hc2 hc3 hc4 hc5; have HW := n0_; have BX := n1_; have HB := n2_; clear n0_ n1_ n2_; obtain ⟨hc0, hc1, hc2, hc3, hc4, hc5⟩ := six_ BX.out
              go_wp2_with (first | ((with_reducible refine gate_callee (f := 50) rfl ?_); refine goesL_ (some 81) rfl rfl Try.func50 (by kernel_rfl) rfl #[.pointer (some ⟨g, 0, none⟩), .int .u64 0] rfl (by (try simp only [List.map_toArray, List.map_cons, List.map_nil]); first | done | rfl) ?_; (with_reducible refine (impl_num.calls k2 g t2 _ t3 w _ HB.out HW.out.wr (by omega) (by omega) B3.out).mono ?_); rintro e w5 ⟨rfl, hw5, hb5, hk5⟩; refine ⟨_, rfl, ?_⟩; have n1_ := Aside0.mk hw5; have n2_ := Aside0.mk hb5; have n3_ := Aside0.mk (hk5 _ _ _ HN.out (by decide) BX.out); clear HW HB hw5 hb5 hk5 BX hc0 hc1 hc2 hc3 hc4 hc5; have HW := n1_; have HB := n2_; have BX := n3_; clear n3_; obtain ⟨hc0, hc1, hc2, hc3, hc4, hc5⟩ := six_ BX.out; clear n1_ n2_) | ((with_reducible refine gate_callee (f := 50) rfl ?_); refine goesL_ (some 97) rfl rfl Try.func50 (by kernel_rfl) rfl #[.pointer (some ⟨g, 0, none⟩), .int .u64 (IntKind.u64.wrap (rd_T81 (rd_L4 l0 i) j).f4)] rfl (by (try simp only [List.map_toArray, List.map_cons, List.map_nil]); first | done | rfl) ?_; (with_reducible refine (impl_num.calls k2 g t3 _ t4 w _ HB.out HW.out.wr (u64_in _).1 (u64_in _).2 B4.out).mono ?_); rintro e w5 ⟨rfl, hw5, hb5, hk5⟩; refine ⟨_, rfl, ?_⟩; have n1_ := Aside0.mk hw5; have n2_ := Aside0.mk hb5; have n3_ := Aside0.mk (hk5 _ _ _ HN.out (by decide) BX.out); clear HW HB hw5 hb5 hk5 BX hc0 hc1 hc2 hc3 hc4 hc5; have HW := n1_; have HB := n2_; have BX := n3_; clear n3_; obtain ⟨hc0, hc1, hc2, hc3, hc4, hc5⟩ := six_ BX.out; clear n1_ n2_) | ((with_reducible refine gate_callee (f := 50) rfl ?_); refine goesL_ (some 102) rfl rfl Try.func50 (by kernel_rfl) rfl #[.pointer (some ⟨g, 0, none⟩), .int .u64 (IntKind.u64.wrap (rd_T81 (rd_L4 l0 i) j).f5)] rfl (by (try simp only [List.map_toArray, List.map_cons, List.map_nil]); first | done | rfl) ?_; (with_reducible refine (impl_num.calls k2 g t4 _ t5 w _ HB.out HW.out.wr (u64_in _).1 (u64_in _).2 B5.out).mono ?_); rintro e w5 ⟨rfl, hw5, hb5, hk5⟩; refine ⟨_, rfl, ?_⟩; have n1_ := Aside0.mk hw5; have n2_ := Aside0.mk hb5; have n3_ := Aside0.mk (hk5 _ _ _ HN.out (by decide) BX.out); clear HW HB hw5 hb5 hk5 BX hc0 hc1 hc2 hc3 hc4 hc5; have HW := n1_; have HB := n2_; have BX := n3_; clear n3_; obtain ⟨hc0, hc1, hc2, hc3, hc4, hc5⟩ := six_ BX.out; clear n1_ n2_))
              go_roundg k2
              case measure => have := HK1.out; have := HK2.out; omega
              case rel => exact ⟨t5, (rd_T81 (rd_L4 l0 i) j).f0, (rd_T81 (rd_L4 l0 i) j).f1, f, wrap64 (j + 1), (by first | rfl | (simp; done) | (simp [*]; done)), (by first | rfl | (simp; done) | (simp [*]; done)), (by first | rfl | (simp; done) | (simp [*]; done)), (by first | rfl | (simp; done) | (simp [*]; done)), H', ⟨by have := HK2.out; omega⟩, HW, HB⟩
            · rw [if_neg c10] at ht3 H
              have c10b0 : decide ((rd_T81 (rd_L4 l0 i) j).f3 < 0) = false := decide_eq_false c10
              clear c9 c10
              by_cases c11 : (rd_T81 (rd_L4 l0 i) j).f2 = f
              · rw [if_pos c11] at ht3
                have c11b0 : ((rd_T81 (rd_L4 l0 i) j).f2 == f) = true := beq_iff_eq.mpr c11
                have B3 := Aside0.mk ht3
                have H' := Aside0.mk H
                have C11 := Aside0.mk c11
                clear c11 H ht3
                go_wp2_with (first | ((with_reducible refine gate_dst (N := 10) rfl ?_); refine box_event ?hg (N := 10) ?hd (cs := #[.int .i64 0, .int .i64 0, .int .i64 0, .int .i64 0, .int .i64 0, .int .i64 0]) (t := 81) ?hr ?_; (case hd => rfl); (case hg => rfl); (case hr => first | (go_simp; done) | (go_simp; rfl)); intro gb hg wb hbox hb; have n0_ := Aside0.mk (WrR.below HW.out hb); have n4_ : Aside0 (w.heap.size ≤ gb) := ⟨by rw [hg]; exact below_size HB.out⟩; have n5_ : Aside0 (gb ≠ g) := ⟨by rw [hg]; exact Nat.ne_of_gt (WrR.lt HW.out)⟩; have n2_ := Aside0.mk (below_step HB.out hb); have BX := Aside0.mk hbox; clear HW HB hbox hb hg; have HW := n0_; have HB := n2_; have HE := n4_; have HN := n5_; clear n0_ n2_ n4_ n5_) | ((with_reducible refine gate_store (t := 81) (p := 10) rfl ?_); refine Box.part_store rfl 81 81 10 _ rfl rfl gb 0 (.agg #[.int .i64 ((rd_T81 (rd_L4 l0 i) j).f0), .int .i64 ((rd_T81 (rd_L4 l0 i) j).f1), .int .i64 ((rd_T81 (rd_L4 l0 i) j).f2), .int .i64 ((rd_T81 (rd_L4 l0 i) j).f3), .int .i64 ((rd_T81 (rd_L4 l0 i) j).f4), .int .i64 ((rd_T81 (rd_L4 l0 i) j).f5)]) [.int .i64 ((rd_T81 (rd_L4 l0 i) j).f0), .int .i64 ((rd_T81 (rd_L4 l0 i) j).f1), .int .i64 ((rd_T81 (rd_L4 l0 i) j).f2), .int .i64 ((rd_T81 (rd_L4 l0 i) j).f3), .int .i64 ((rd_T81 (rd_L4 l0 i) j).f4), .int .i64 ((rd_T81 (rd_L4 l0 i) j).f5)] #[.int .i64 0, .int .i64 0, .int .i64 0, .int .i64 0, .int .i64 0, .int .i64 0] #[.int .i64 ((rd_T81 (rd_L4 l0 i) j).f0), .int .i64 ((rd_T81 (rd_L4 l0 i) j).f1), .int .i64 ((rd_T81 (rd_L4 l0 i) j).f2), .int .i64 ((rd_T81 (rd_L4 l0 i) j).f3), .int .i64 ((rd_T81 (rd_L4 l0 i) j).f4), .int .i64 ((rd_T81 (rd_L4 l0 i) j).f5)] rfl rfl rfl BX.out hi81 (Nat.le_of_ble_eq_true rfl) rfl rfl ?_; intro wst hb hk hl; have n0_ := Aside0.mk (hl w.heap.size w HE.out HB.out); have n1_ := Aside0.mk (WrR.step HW.out BX.out HN.out hk); clear HB HW BX hl hk; have HB := n0_; have HW := n1_; have BX := Aside0.mk hb; clear n0_ n1_ hb; obtain ⟨hc0, hc1, hc2, hc3, hc4, hc5⟩ := six_ BX.out) | ((with_reducible refine gate_callee (f := 51) rfl ?_); refine goesL_ (some 53) rfl rfl Try.func51 (by kernel_rfl) rfl #[.pointer (some ⟨g, 0, none⟩), .int .i64 (wrap64 ((rd_T81 (rd_L4 l0 i) j).f0 - x))] rfl (by (try simp only [List.map_toArray, List.map_cons, List.map_nil]); first | done | rfl) ?_; (with_reducible refine (impl_signed.calls k2 g b _ t1 w _ HB.out HW.out.wr (i64_in _).1 (i64_in _).2 B1.out).mono ?_); rintro e w5 ⟨rfl, hw5, hb5, hk5⟩; refine ⟨_, rfl, ?_⟩; have n1_ := Aside0.mk hw5; have n2_ := Aside0.mk hb5; have n3_ := Aside0.mk (hk5 _ _ _ HN.out (by decide) BX.out); clear HW HB hw5 hb5 hk5 BX hc0 hc1 hc2 hc3 hc4 hc5; have HW := n1_; have HB := n2_; have BX := n3_; clear n3_; obtain ⟨hc0, hc1, hc2, hc3, hc4, hc5⟩ := six_ BX.out; clear n1_ n2_) | ((with_reducible refine gate_callee (f := 51) rfl ?_); refine goesL_ (some 59) rfl rfl Try.func51 (by kernel_rfl) rfl #[.pointer (some ⟨g, 0, none⟩), .int .i64 (wrap64 ((rd_T81 (rd_L4 l0 i) j).f1 - y))] rfl (by (try simp only [List.map_toArray, List.map_cons, List.map_nil]); first | done | rfl) ?_; (with_reducible refine (impl_signed.calls k2 g t1 _ t2 w _ HB.out HW.out.wr (i64_in _).1 (i64_in _).2 B2.out).mono ?_); rintro e w5 ⟨rfl, hw5, hb5, hk5⟩; refine ⟨_, rfl, ?_⟩; have n1_ := Aside0.mk hw5; have n2_ := Aside0.mk hb5; have n3_ := Aside0.mk (hk5 _ _ _ HN.out (by decide) BX.out); clear HW HB hw5 hb5 hk5 BX hc0 hc1 hc2 hc3 hc4 hc5; have HW := n1_; have HB := n2_; have BX := n3_; clear n3_; obtain ⟨hc0, hc1, hc2, hc3, hc4, hc5⟩ := six_ BX.out; clear n1_ n2_))
                go_quiet (fail)
                generalize hq_ : World.drewN _ _ = wq; have n0_ := Aside0.mk (WrR.at hq_ HW.out); have n1_ := Aside0.mk (blk_at hq_ BX.out); have n2_ := Aside0.mk (below_at hq_ HB.out); clear hq_ HW BX HB hc0 hc1 hc2 hc3 hc4 hc5; have HW := n0_; have BX := n1_; have HB := n2_; clear n0_ n1_ n2_; obtain ⟨hc0, hc1, hc2, hc3, hc4, hc5⟩ := six_ BX.out
                go_wp2_with (first | ((with_reducible refine gate_callee (f := 50) rfl ?_); refine goesL_ (some 92) rfl rfl Try.func50 (by kernel_rfl) rfl #[.pointer (some ⟨g, 0, none⟩), .int .u64 (IntKind.u64.wrap (wrap64 (1 + (rd_T81 (rd_L4 l0 i) j).f3)))] rfl (by (try simp only [List.map_toArray, List.map_cons, List.map_nil]); first | done | rfl) ?_; (with_reducible refine (impl_num.calls k2 g t2 _ t3 w _ HB.out HW.out.wr (u64_in _).1 (u64_in _).2 B3.out).mono ?_); rintro e w5 ⟨rfl, hw5, hb5, hk5⟩; refine ⟨_, rfl, ?_⟩; have n1_ := Aside0.mk hw5; have n2_ := Aside0.mk hb5; have n3_ := Aside0.mk (hk5 _ _ _ HN.out (by decide) BX.out); clear HW HB hw5 hb5 hk5 BX hc0 hc1 hc2 hc3 hc4 hc5; have HW := n1_; have HB := n2_; have BX := n3_; clear n3_; obtain ⟨hc0, hc1, hc2, hc3, hc4, hc5⟩ := six_ BX.out; clear n1_ n2_) | ((with_reducible refine gate_callee (f := 50) rfl ?_); refine goesL_ (some 97) rfl rfl Try.func50 (by kernel_rfl) rfl #[.pointer (some ⟨g, 0, none⟩), .int .u64 (IntKind.u64.wrap (rd_T81 (rd_L4 l0 i) j).f4)] rfl (by (try simp only [List.map_toArray, List.map_cons, List.map_nil]); first | done | rfl) ?_; (with_reducible refine (impl_num.calls k2 g t3 _ t4 w _ HB.out HW.out.wr (u64_in _).1 (u64_in _).2 B4.out).mono ?_); rintro e w5 ⟨rfl, hw5, hb5, hk5⟩; refine ⟨_, rfl, ?_⟩; have n1_ := Aside0.mk hw5; have n2_ := Aside0.mk hb5; have n3_ := Aside0.mk (hk5 _ _ _ HN.out (by decide) BX.out); clear HW HB hw5 hb5 hk5 BX hc0 hc1 hc2 hc3 hc4 hc5; have HW := n1_; have HB := n2_; have BX := n3_; clear n3_; obtain ⟨hc0, hc1, hc2, hc3, hc4, hc5⟩ := six_ BX.out; clear n1_ n2_) | ((with_reducible refine gate_callee (f := 50) rfl ?_); refine goesL_ (some 102) rfl rfl Try.func50 (by kernel_rfl) rfl #[.pointer (some ⟨g, 0, none⟩), .int .u64 (IntKind.u64.wrap (rd_T81 (rd_L4 l0 i) j).f5)] rfl (by (try simp only [List.map_toArray, List.map_cons, List.map_nil]); first | done | rfl) ?_; (with_reducible refine (impl_num.calls k2 g t4 _ t5 w _ HB.out HW.out.wr (u64_in _).1 (u64_in _).2 B5.out).mono ?_); rintro e w5 ⟨rfl, hw5, hb5, hk5⟩; refine ⟨_, rfl, ?_⟩; have n1_ := Aside0.mk hw5; have n2_ := Aside0.mk hb5; have n3_ := Aside0.mk (hk5 _ _ _ HN.out (by decide) BX.out); clear HW HB hw5 hb5 hk5 BX hc0 hc1 hc2 hc3 hc4 hc5; have HW := n1_; have HB := n2_; have BX := n3_; clear n3_; obtain ⟨hc0, hc1, hc2, hc3, hc4, hc5⟩ := six_ BX.out; clear n1_ n2_))
                go_roundg k2
                case measure => have := HK1.out; have := HK2.out; omega
                case rel => exact ⟨t5, (rd_T81 (rd_L4 l0 i) j).f0, (rd_T81 (rd_L4 l0 i) j).f1, f, wrap64 (j + 1), (by first | rfl | (simp; done) | (simp [*]; done)), (by first | rfl | (simp; done) | (simp [*]; done)), (by first | rfl | (simp; done) | (simp [*]; done)), (by first | rfl | (simp; done) | (simp [*]; done)), ⟨by have e_ := H'.out; rw [C11.out] at e_; exact e_⟩, ⟨by have := HK2.out; omega⟩, HW, HB⟩
              · rw [if_neg c11] at ht3
                have c11b0 : ((rd_T81 (rd_L4 l0 i) j).f2 == f) = false := beq_eq_false_iff_ne.mpr c11
                have B3 := Aside0.mk ht3
                have H' := Aside0.mk H
                clear c11 H ht3
                go_wp2_with (first | ((with_reducible refine gate_dst (N := 10) rfl ?_); refine box_event ?hg (N := 10) ?hd (cs := #[.int .i64 0, .int .i64 0, .int .i64 0, .int .i64 0, .int .i64 0, .int .i64 0]) (t := 81) ?hr ?_; (case hd => rfl); (case hg => rfl); (case hr => first | (go_simp; done) | (go_simp; rfl)); intro gb hg wb hbox hb; have n0_ := Aside0.mk (WrR.below HW.out hb); have n4_ : Aside0 (w.heap.size ≤ gb) := ⟨by rw [hg]; exact below_size HB.out⟩; have n5_ : Aside0 (gb ≠ g) := ⟨by rw [hg]; exact Nat.ne_of_gt (WrR.lt HW.out)⟩; have n2_ := Aside0.mk (below_step HB.out hb); have BX := Aside0.mk hbox; clear HW HB hbox hb hg; have HW := n0_; have HB := n2_; have HE := n4_; have HN := n5_; clear n0_ n2_ n4_ n5_) | ((with_reducible refine gate_store (t := 81) (p := 10) rfl ?_); refine Box.part_store rfl 81 81 10 _ rfl rfl gb 0 (.agg #[.int .i64 ((rd_T81 (rd_L4 l0 i) j).f0), .int .i64 ((rd_T81 (rd_L4 l0 i) j).f1), .int .i64 ((rd_T81 (rd_L4 l0 i) j).f2), .int .i64 ((rd_T81 (rd_L4 l0 i) j).f3), .int .i64 ((rd_T81 (rd_L4 l0 i) j).f4), .int .i64 ((rd_T81 (rd_L4 l0 i) j).f5)]) [.int .i64 ((rd_T81 (rd_L4 l0 i) j).f0), .int .i64 ((rd_T81 (rd_L4 l0 i) j).f1), .int .i64 ((rd_T81 (rd_L4 l0 i) j).f2), .int .i64 ((rd_T81 (rd_L4 l0 i) j).f3), .int .i64 ((rd_T81 (rd_L4 l0 i) j).f4), .int .i64 ((rd_T81 (rd_L4 l0 i) j).f5)] #[.int .i64 0, .int .i64 0, .int .i64 0, .int .i64 0, .int .i64 0, .int .i64 0] #[.int .i64 ((rd_T81 (rd_L4 l0 i) j).f0), .int .i64 ((rd_T81 (rd_L4 l0 i) j).f1), .int .i64 ((rd_T81 (rd_L4 l0 i) j).f2), .int .i64 ((rd_T81 (rd_L4 l0 i) j).f3), .int .i64 ((rd_T81 (rd_L4 l0 i) j).f4), .int .i64 ((rd_T81 (rd_L4 l0 i) j).f5)] rfl rfl rfl BX.out hi81 (Nat.le_of_ble_eq_true rfl) rfl rfl ?_; intro wst hb hk hl; have n0_ := Aside0.mk (hl w.heap.size w HE.out HB.out); have n1_ := Aside0.mk (WrR.step HW.out BX.out HN.out hk); clear HB HW BX hl hk; have HB := n0_; have HW := n1_; have BX := Aside0.mk hb; clear n0_ n1_ hb; obtain ⟨hc0, hc1, hc2, hc3, hc4, hc5⟩ := six_ BX.out) | ((with_reducible refine gate_callee (f := 51) rfl ?_); refine goesL_ (some 53) rfl rfl Try.func51 (by kernel_rfl) rfl #[.pointer (some ⟨g, 0, none⟩), .int .i64 (wrap64 ((rd_T81 (rd_L4 l0 i) j).f0 - x))] rfl (by (try simp only [List.map_toArray, List.map_cons, List.map_nil]); first | done | rfl) ?_; (with_reducible refine (impl_signed.calls k2 g b _ t1 w _ HB.out HW.out.wr (i64_in _).1 (i64_in _).2 B1.out).mono ?_); rintro e w5 ⟨rfl, hw5, hb5, hk5⟩; refine ⟨_, rfl, ?_⟩; have n1_ := Aside0.mk hw5; have n2_ := Aside0.mk hb5; have n3_ := Aside0.mk (hk5 _ _ _ HN.out (by decide) BX.out); clear HW HB hw5 hb5 hk5 BX hc0 hc1 hc2 hc3 hc4 hc5; have HW := n1_; have HB := n2_; have BX := n3_; clear n3_; obtain ⟨hc0, hc1, hc2, hc3, hc4, hc5⟩ := six_ BX.out; clear n1_ n2_) | ((with_reducible refine gate_callee (f := 51) rfl ?_); refine goesL_ (some 59) rfl rfl Try.func51 (by kernel_rfl) rfl #[.pointer (some ⟨g, 0, none⟩), .int .i64 (wrap64 ((rd_T81 (rd_L4 l0 i) j).f1 - y))] rfl (by (try simp only [List.map_toArray, List.map_cons, List.map_nil]); first | done | rfl) ?_; (with_reducible refine (impl_signed.calls k2 g t1 _ t2 w _ HB.out HW.out.wr (i64_in _).1 (i64_in _).2 B2.out).mono ?_); rintro e w5 ⟨rfl, hw5, hb5, hk5⟩; refine ⟨_, rfl, ?_⟩; have n1_ := Aside0.mk hw5; have n2_ := Aside0.mk hb5; have n3_ := Aside0.mk (hk5 _ _ _ HN.out (by decide) BX.out); clear HW HB hw5 hb5 hk5 BX hc0 hc1 hc2 hc3 hc4 hc5; have HW := n1_; have HB := n2_; have BX := n3_; clear n3_; obtain ⟨hc0, hc1, hc2, hc3, hc4, hc5⟩ := six_ BX.out; clear n1_ n2_))
                go_quiet (fail)
                generalize hq_ : World.drewN _ _ = wq; have n0_ := Aside0.mk (WrR.at hq_ HW.out); have n1_ := Aside0.mk (blk_at hq_ BX.out); have n2_ := Aside0.mk (below_at hq_ HB.out); clear hq_ HW BX HB hc0 hc1 hc2 hc3 hc4 hc5; have HW := n0_; have BX := n1_; have HB := n2_; clear n0_ n1_ n2_; obtain ⟨hc0, hc1, hc2, hc3, hc4, hc5⟩ := six_ BX.out
                go_wp2_with (first | ((with_reducible refine gate_callee (f := 50) rfl ?_); refine goesL_ (some 73) rfl rfl Try.func50 (by kernel_rfl) rfl #[.pointer (some ⟨g, 0, none⟩), .int .u64 (IntKind.u64.wrap (wrap64 (wrap64 (257 + (rd_T81 (rd_L4 l0 i) j).f3) + wrap64 (256 * (rd_T81 (rd_L4 l0 i) j).f2))))] rfl (by (try simp only [List.map_toArray, List.map_cons, List.map_nil]); first | done | rfl) ?_; (with_reducible refine (impl_num.calls k2 g t2 _ t3 w _ HB.out HW.out.wr (u64_in _).1 (u64_in _).2 B3.out).mono ?_); rintro e w5 ⟨rfl, hw5, hb5, hk5⟩; refine ⟨_, rfl, ?_⟩; have n1_ := Aside0.mk hw5; have n2_ := Aside0.mk hb5; have n3_ := Aside0.mk (hk5 _ _ _ HN.out (by decide) BX.out); clear HW HB hw5 hb5 hk5 BX hc0 hc1 hc2 hc3 hc4 hc5; have HW := n1_; have HB := n2_; have BX := n3_; clear n3_; obtain ⟨hc0, hc1, hc2, hc3, hc4, hc5⟩ := six_ BX.out; clear n1_ n2_) | ((with_reducible refine gate_callee (f := 50) rfl ?_); refine goesL_ (some 97) rfl rfl Try.func50 (by kernel_rfl) rfl #[.pointer (some ⟨g, 0, none⟩), .int .u64 (IntKind.u64.wrap (rd_T81 (rd_L4 l0 i) j).f4)] rfl (by (try simp only [List.map_toArray, List.map_cons, List.map_nil]); first | done | rfl) ?_; (with_reducible refine (impl_num.calls k2 g t3 _ t4 w _ HB.out HW.out.wr (u64_in _).1 (u64_in _).2 B4.out).mono ?_); rintro e w5 ⟨rfl, hw5, hb5, hk5⟩; refine ⟨_, rfl, ?_⟩; have n1_ := Aside0.mk hw5; have n2_ := Aside0.mk hb5; have n3_ := Aside0.mk (hk5 _ _ _ HN.out (by decide) BX.out); clear HW HB hw5 hb5 hk5 BX hc0 hc1 hc2 hc3 hc4 hc5; have HW := n1_; have HB := n2_; have BX := n3_; clear n3_; obtain ⟨hc0, hc1, hc2, hc3, hc4, hc5⟩ := six_ BX.out; clear n1_ n2_) | ((with_reducible refine gate_callee (f := 50) rfl ?_); refine goesL_ (some 102) rfl rfl Try.func50 (by kernel_rfl) rfl #[.pointer (some ⟨g, 0, none⟩), .int .u64 (IntKind.u64.wrap (rd_T81 (rd_L4 l0 i) j).f5)] rfl (by (try simp only [List.map_toArray, List.map_cons, List.map_nil]); first | done | rfl) ?_; (with_reducible refine (impl_num.calls k2 g t4 _ t5 w _ HB.out HW.out.wr (u64_in _).1 (u64_in _).2 B5.out).mono ?_); rintro e w5 ⟨rfl, hw5, hb5, hk5⟩; refine ⟨_, rfl, ?_⟩; have n1_ := Aside0.mk hw5; have n2_ := Aside0.mk hb5; have n3_ := Aside0.mk (hk5 _ _ _ HN.out (by decide) BX.out); clear HW HB hw5 hb5 hk5 BX hc0 hc1 hc2 hc3 hc4 hc5; have HW := n1_; have HB := n2_; have BX := n3_; clear n3_; obtain ⟨hc0, hc1, hc2, hc3, hc4, hc5⟩ := six_ BX.out; clear n1_ n2_))
                go_roundg k2
                case measure => have := HK1.out; have := HK2.out; omega
                case rel => exact ⟨t5, (rd_T81 (rd_L4 l0 i) j).f0, (rd_T81 (rd_L4 l0 i) j).f1, (rd_T81 (rd_L4 l0 i) j).f2, wrap64 (j + 1), (by first | rfl | (simp; done) | (simp [*]; done)), (by first | rfl | (simp; done) | (simp [*]; done)), (by first | rfl | (simp; done) | (simp [*]; done)), (by first | rfl | (simp; done) | (simp [*]; done)), H', ⟨by have := HK2.out; omega⟩, HW, HB⟩
end Go.Proofs.Ytngmkpediibhjaa.PFnExactEncodeDesc
