/- Bytes that a function appends to: a literal's full row or a row of its own; the writer's methods of impl's EncodeDesc. No condition. -/
import Derived.Test.YtngmkpediibhjaaPFnExactEncodeDescx1
import Derived.Laws.BitsAllLaws
import Derived.ArgAppend
import Derived.Lib.SlBytesConst
namespace Go.Proofs.Ytngmkpediibhjaa.PFnExactEncodeDesc
open Go.RowKit Go.Proofs.YtngmkpediibhjaaW.PrintWords Go.Proofs.YtngmkpediibhjaaW.PrintLast Go.Proofs.YtngmkpediibhjaaW.PrintMore
attribute [local go_sem] max2_int min2_int max_two min_two max_three min_three max_four min_four   -- for this text's walks alone
set_option linter.unusedVariables false
set_option linter.unusedSimpArgs false

/-! ### append to bytes of one's own, or to a literal's full row -/
def Full (W : World) (ok : Nat → Prop) (v : Value) (xs : List Int) : Prop := ∃ g, v = .slice (some ⟨g, 0, none⟩) xs.length xs.length ∧ ok g ∧ ∀ (j : Nat) (u : Value), (nums .u8 xs)[j]? = some u → W.cell? ⟨g, j, none⟩ = some u
def Ap (W : World) (B : Nat) (ok : Nat → Prop) (v : Value) (xs : List Int) : Prop := Kd.R (Kd.int .u8) 5 W B ok v xs ∨ Full W ok v xs
def Keep5 (w w' : World) : Prop := ∀ (j : Nat) (cs : Array Value) (t : Nat), t ≠ 5 → w.heap[j]? = some (.cells cs t (0, 0)) → w'.heap[j]? = some (.cells cs t (0, 0))
theorem Full.alloc {W : World} {ok : Nat → Prop} {v : Value} {xs : List Int} (h : Full W ok v xs) (o : Obj) : Full (W.alloc o) ok v xs := by
  obtain ⟨g, e, ho, hc⟩ := h
  exact ⟨g, e, ho, fun j u hj => Go.Lib.cell?_alloc_marked o (hc j u hj)⟩
theorem Keep5.grown {w w1 : World} {v : Value} (hg : w.grownBy w1 v.ownBlock) (hv : ∀ k, v.ownBlock = some k → ∃ cells, w.heap[k]? = some (.cells cells 5 (0, 0))) : Keep5 w w1 := by
  intro j cs t ht e1
  refine blk_grown e1 hg fun he => ?_
  obtain ⟨c, hc⟩ := hv j he.symm
  rw [hc] at e1
  injection e1 with e1
  injection e1 with _ e1
  exact ht e1.symm
section
variable {ops : Array Oper} {rest : List Oper} {o : Oper} {a : Act} {Q : Exit → Act → World → Prop}
set_option maxRecDepth 100000 in
theorem Ap_append {w0 W : World} (B : Nat) (hgd : o.guard = none) (s x : Operand) (ho : o.op = .call { callee := .builtin .append, args := #[s, x], argTypes := #[46, 46] })
    (v : Value) (xs : List Int) (p : Int) (ok : Nat → Prop) (hs : a.eval s = v) (hx : a.eval x = .slice (some ⟨W.heap.size, 0, none⟩) 1 1) (hfresh : ∀ k, W.heap.size ≤ k → ok k)
    (HO : Ap W B ok v xs) (HB : Below B w0 W) (hbase : B ≤ W.heap.size) (hl : xs.length + 1 ≤ 140737488355328)
    (h : ∀ v1 w1, Kd.R (Kd.int .u8) 5 w1 B ok v1 (xs ++ [p]) → Below B w0 w1 → Keep5 W w1 → wpList Try.prog ops Q rest (a.put o.dst v1) w1) :
    wpList Try.prog ops Q (o :: rest) a (W.alloc (.cells #[.int .u8 p] 5)) := by
  rcases HO with HR | ⟨g, rfl, hok, hc⟩
  · refine Kd.R_append (Kd.int .u8) (w0 := w0) B hgd s x 46 5 (.int .u8 0) 1 ho Try.underlying46 info5 rfl (by decide) (by omega) v xs p [.int .u8 p] ok (fun _ => False) hs hx rfl (fun _ hk => hk.elim) hfresh HR HB hbase (by omega) ?_
    intro v1 w1 h1 hb hg _
    exact h v1 w1 h1 hb (Keep5.grown hg (Kd.R_typed HR))
  · obtain ⟨i0, hi, hzz⟩ := Option.map_eq_some_iff.1 info5
    simp only [Prod.mk.injEq] at hzz
    obtain ⟨hz0, hz1, hz2⟩ := hzz
    refine wpList_append_grows (W.alloc (.cells #[.int .u8 p] 5)) hgd s x 46 ho 5 i0 (.int .u8 0) 1 1 Try.underlying46 hi hz0 hz1 hz2 rfl (by omega) (some ⟨g, 0, none⟩) xs.length xs.length (nums .u8 xs) hs (fun e => by cases e) (by simp [nums])
      (fun b hb j u hj => by injection hb with hb; subst hb; rw [add_plain]; exact Go.Lib.cell?_alloc_marked _ (hc j u hj)) ⟨W.heap.size, 0, none⟩ 1 1 [.int .u8 p] hx rfl
      (by simpa using World.news_of_block (cs := #[.int .u8 p]) (t := 5) (fr := (0, 0)) (heap_alloc_new W (.cells #[.int .u8 p] 5))) (fun u hu => by simp at hu; subst hu; rfl) (by omega) (by simp only [maxLen]; omega) (by omega) ?_
    intro v1 w1 hown hg
    have hgr : W.grownBy w1 none := World.grownBy.trans (World.grownBy_alloc W _ _) hg
    refine h v1 w1 ?_ (HB.grown hgr hbase (fun k hk => by cases hk)) (fun j cs t ht e1 => blk_grown e1 hgr (by simp))
    refine Kd.R_of_own ?_ (fun k hk => hfresh k ?_)
    · have := own_weaken hown (base' := B) (by simp; omega)
      simpa [encs, nums] using this
    · have := own_base hown k hk
      simp at this
      omega
end
/-! ### the writer -/
def WrR (B g : Nat) (W : World) (xs : List Int) : Prop := B ≤ g ∧ ∃ v, W.heap[g]? = some (.cells #[v] 86 (0, 0)) ∧ Kd.R (Kd.int .u8) 5 W B (fun k => B ≤ k ∧ k ≠ g) v xs
def Wr (B g : Nat) (W : World) (xs : List Int) : Prop := B ≤ g ∧ ∃ v, W.heap[g]? = some (.cells #[v] 86 (0, 0)) ∧ Ap W B (fun k => B ≤ k ∧ k ≠ g) v xs
theorem WrR.wr {B g : Nat} {W : World} {xs : List Int} (h : WrR B g W xs) : Wr B g W xs := ⟨h.1, h.2.imp fun v hv => ⟨hv.1, .inl hv.2⟩⟩
/-- Blocks that are neither the writer nor bytes are left. -/
def KeepW (g : Nat) (w w' : World) : Prop := ∀ (j : Nat) (cs : Array Value) (t : Nat), j ≠ g → t ≠ 5 → w.heap[j]? = some (.cells cs t (0, 0)) → w'.heap[j]? = some (.cells cs t (0, 0))
theorem KeepW.refl (g : Nat) (w : World) : KeepW g w w := fun _ _ _ _ _ h => h
theorem KeepW.trans {g : Nat} {w w1 w2 : World} (h : KeepW g w w1) (k : KeepW g w1 w2) : KeepW g w w2 := fun j cs t hj ht e => k j cs t hj ht (h j cs t hj ht e)
theorem KeepW.alloc {g : Nat} {w w1 : World} (h : KeepW g w w1) (o : Obj) : KeepW g w (w1.alloc o) := fun j cs t hj ht e => blk_alloc (h j cs t hj ht e) o
theorem KeepW.drew {g : Nat} {w w1 : World} (h : KeepW g w w1) : KeepW g w w1.drew := fun j cs t hj ht e => h j cs t hj ht e
theorem KeepW.drewN {g : Nat} {w w1 : World} (h : KeepW g w w1) (n : Nat) : KeepW g w (w1.drewN n) := fun j cs t hj ht e => h j cs t hj ht e
theorem KeepW.set {g : Nat} {w w1 : World} (h : KeepW g w w1) (u : Value) : KeepW g w (w1.setCell ⟨g, 0, none⟩ u) := fun j cs t hj ht e => blk_far (h j cs t hj ht e) hj u
theorem KeepW.grown {g : Nat} {w w1 w2 : World} (h : KeepW g w w1) (hg : Keep5 w1 w2) : KeepW g w w2 := fun j cs t hj ht e => hg j cs t ht (h j cs t hj ht e)
theorem WrR.set {B g : Nat} {W : World} {v0 v : Value} {xs : List Int} (hb : B ≤ g) (h0 : W.heap[g]? = some (.cells #[v0] 86 (0, 0))) (h : Kd.R (Kd.int .u8) 5 W B (fun k => B ≤ k ∧ k ≠ g) v xs) : WrR B g (W.setCell ⟨g, 0, none⟩ v) xs :=
  ⟨hb, v, blk_put (cs := #[v0]) h0 0 v rfl, Kd.R_far (p := ⟨g, 0, none⟩) h (fun k hk => hk.2) v⟩
theorem or_nat128 (x : Nat) (h : x < 256) : x ||| 128 = x % 128 + 128 := by
  have h1 : ∀ y : BitVec 8, y ||| 128#8 = (y &&& 127#8) + 128#8 := by decide
  have h2 := congrArg BitVec.toNat (h1 (BitVec.ofNat 8 x))
  simp [BitVec.toNat_or, BitVec.toNat_and, BitVec.toNat_add] at h2
  rw [Nat.mod_eq_of_lt h] at h2
  have e : x &&& 127 = x % 128 := Nat.and_two_pow_sub_one_eq_mod x 7
  rw [e] at h2
  omega
theorem or_128 (x : Int) (h : 128 ≤ x) : Go.bits .or .u8 (x % 256) 128 = (IntKind.u64.wrap (Int.tmod x 128 + 128)) % 256 := by
  have e : Int.tmod x 128 = x % 128 := Int.tmod_eq_emod_of_nonneg (by omega)
  have hw : IntKind.u64.wrap (x % 128 + 128) = x % 128 + 128 := by
    unfold IntKind.wrap
    simp only [IntKind.signed, IntKind.bits]
    simp
    omega
  rw [e, hw, u8_or _ _ (by omega) (by omega) (by omega) (by omega)]
  have h3 := or_nat128 (x % 256).toNat (by omega)
  rw [show ((128 : Int)).toNat = 128 from rfl, h3]
  omega
theorem xor_nat64 (x : Nat) (h : x < 18446744073709551616) : x ^^^ 18446744073709551615 = 18446744073709551615 - x := by
  have h1 : (BitVec.ofNat 64 x) ^^^ BitVec.allOnes 64 = ~~~ (BitVec.ofNat 64 x) := BitVec.xor_allOnes
  have h2 := congrArg BitVec.toNat h1
  rw [BitVec.toNat_xor, BitVec.toNat_not, BitVec.toNat_allOnes, BitVec.toNat_ofNat] at h2
  rw [Nat.mod_eq_of_lt (by omega)] at h2
  exact h2
theorem signed_u64 (a : Int) (h0 : -9223372036854775808 ≤ a) (h1 : a ≤ 9223372036854775807) :
    Go.bits .xor .u64 (IntKind.u64.wrap ((IntKind.u64.wrap a) * 2)) (IntKind.u64.wrap (a / 9223372036854775808)) = if a < 0 then IntKind.u64.wrap (wrap64 ((wrap64 ((-2) * a)) - 1)) else IntKind.u64.wrap (wrap64 (2 * a)) := by
  have hw : ∀ x : Int, IntKind.u64.wrap x = x % 18446744073709551616 := by
    intro x
    unfold IntKind.wrap
    simp only [IntKind.signed, IntKind.bits]
    simp
  have h64 : ∀ x : Int, wrap64 x % 18446744073709551616 = x % 18446744073709551616 := by
    intro x
    unfold wrap64
    omega
  rw [hw, hw, hw, hw, hw, h64, h64]
  rw [u64_xor _ _ (by omega) (by omega) (by omega) (by omega)]
  by_cases h : a < 0
  · rw [if_pos h]
    have e1 : a / 9223372036854775808 = -1 := by omega
    rw [e1, show ((-1 : Int) % 18446744073709551616).toNat = 18446744073709551615 from rfl, xor_nat64 _ (by omega)]
    have e2 : (wrap64 (-2 * a) - 1) % 18446744073709551616 = (-2 * a - 1) % 18446744073709551616 := by
      have := h64 (-2 * a)
      omega
    rw [e2]
    omega
  · rw [if_neg h]
    have e1 : a / 9223372036854775808 = 0 := by omega
    rw [e1, show ((0 : Int) % 18446744073709551616).toNat = 0 from rfl, Nat.xor_zero]
    omega
theorem shr_7 (x : Int) (h : 0 ≤ x) (h2 : x < 18446744073709551616) : IntKind.u64.wrap (Int.tdiv x 128) = x / 128 := by
  have e : Int.tdiv x 128 = x / 128 := Int.tdiv_eq_ediv_of_nonneg h
  rw [e]
  unfold IntKind.wrap
  simp only [IntKind.signed, IntKind.bits]
  simp
  omega
set_option maxHeartbeats 8000000 in
set_option maxRecDepth 100000 in
theorem impl_num.calls (k g : Nat) (xs : List Int) (a1 : Int) (r : List Int) (w0 w : World) (hB : Below w0.heap.size w0 w) (hw : Wr w0.heap.size g w xs) (h0 : 0 ≤ a1) (h1 : a1 < 18446744073709551616) (h : spec_l15Num.f k xs a1 = some r) :
    Calls Try.prog 50 #[.pointer (some ⟨g, 0, none⟩), .int .u64 a1] w fun e w' => e = .returned (.tuple #[]) ∧ WrR w0.heap.size g w' r ∧ Below w0.heap.size w0 w' ∧ KeepW g w w' := by
  have HW := Aside0.mk hw
  have HB := Aside0.mk hB
  have HK := Aside0.mk (KeepW.refl g w)
  have H' := Aside0.mk (show spec_l15Num.l0 k xs a1 = some r from h)
  clear h hB hw
  go_enter Try.func50, Try.ntmps50
  go_wp2
  go_loopg [1] k (fun kq v1 w' => ∃ (x0 : List Int) (x1 : Int), v1 = .int .u64 x1 ∧ Aside0 (0 ≤ x1 ∧ x1 < 18446744073709551616) ∧ Aside0 (spec_l15Num.l0 kq x0 x1 = some r) ∧ Aside0 (kq ≤ k) ∧ Aside0 (Wr w0.heap.size g w' x0) ∧ Aside0 (Below w0.heap.size w0 w') ∧ Aside0 (KeepW g w w'))
  case atStart => exact ⟨xs, a1, rfl, ⟨⟨h0, h1⟩⟩, H', ⟨Nat.le_refl _⟩, HW, HB, HK⟩
  case round =>
    clear H' HW HB HK
    obtain ⟨x0, x1, rfl, HX, HA, HK1, HW, HB, HK⟩ := hrel
    cases gk with
    | zero => exact absurd HA.out (by simp [spec_l15Num.l0])
    | succ k1 =>
      have H := HA.out
      clear HA
      simp only [spec_l15Num.l0] at H
      obtain ⟨hgB, v, hblk, hR⟩ := HW.out
      have HR := Aside0.mk hR
      have BK := Aside0.mk hblk
      have HG := Aside0.mk hgB
      have hcz : wr.cell? ⟨g, 0, none⟩ = some v := (blk_cell hblk 0).trans rfl
      have hfz := blk_frozen hblk 0
      clear hgB hblk hR HW
      by_cases c3 : x1 ≥ 128
      · rw [if_pos c3] at H
        have c3b0 : decide (128 ≤ x1) = true := decide_eq_true c3
        have eo := or_128 x1 c3
        have es := shr_7 x1 HX.out.1 HX.out.2
        rw [← eo, es] at H
        clear c3 eo es
        by_cases c4 : x0.length < 140737488355328
        · rw [if_pos c4] at H
          have LM := Aside0.mk c4
          clear c4
          obtain ⟨y, hy⟩ : ∃ y_ : List Int, y_ = x0 ++ [Go.bits .or .u8 (x1 % 256) 128] := ⟨_, rfl⟩
          rw [← hy] at H
          have Ny := Aside0.mk hy
          have H' := Aside0.mk H
          clear hy H
          go_wp2_with (first | ((with_reducible refine gate_builtin (b := .append) (xs := #[.tmp 10, .tmp 14]) rfl ?_); at_builtin; refine Ap_append (w0 := w0) w0.heap.size rfl (.tmp 10) (.tmp 14) rfl v x0 (Go.bits .or .u8 (x1 % 256) 128) (fun k_ => w0.heap.size ≤ k_ ∧ k_ ≠ g) rfl rfl ?aF HR.out HB.out ?aS ?aL ?_; (case aF => exact (fun k_ hk => ⟨Nat.le_trans (below_size HB.out) hk, Nat.ne_of_gt (Nat.lt_of_lt_of_le (blk_lt BK.out) hk)⟩)); (case aS => exact (below_size HB.out)); (case aL => have := LM.out; omega); intro v2 w5 ho hb h5; rw [← Ny.out] at ho; have n1_ := Aside0.mk (hb); have n2_ := Aside0.mk (KeepW.grown HK.out h5); have n3_ := Aside0.mk ho; have n4_ := Aside0.mk (h5 _ _ _ (by decide) BK.out); clear HB HK HR BK hcz hfz ho hb h5; have HB := n1_; have HK := n2_; have HR := n3_; have BK := n4_; clear n1_ n2_ n3_ n4_; obtain ⟨A2, c2, e2⟩ := Kd.R_slice HR.out; subst e2; have hcz : w5.cell? ⟨g, 0, none⟩ = some v := (blk_cell BK.out 0).trans rfl; have hfz := blk_frozen BK.out 0))
          go_roundg k1
          case measure => have := HK1.out; omega
          case rel => exact ⟨y, x1 / 128, rfl, ⟨by have := HX.out; omega⟩, H', ⟨by have := HK1.out; omega⟩, ⟨(WrR.set HG.out BK.out HR.out).wr⟩, ⟨below_set HB.out HG.out⟩, ⟨KeepW.set HK.out _⟩⟩
        · rw [if_neg c4] at H
          exact absurd H (by simp)
      · rw [if_neg c3] at H
        have c3b0 : decide (128 ≤ x1) = false := decide_eq_false c3
        clear c3
        by_cases c4 : x0.length < 140737488355328
        · rw [if_pos c4] at H
          have LM := Aside0.mk c4
          clear c4
          obtain rfl := Option.some.inj H
          obtain ⟨y, hy⟩ : ∃ y_ : List Int, y_ = x0 ++ [x1 % 256] := ⟨_, rfl⟩
          have Ny := Aside0.mk hy
          clear H hy
          go_wp2_with (first | ((with_reducible refine gate_builtin (b := .append) (xs := #[.tmp 24, .tmp 27]) rfl ?_); at_builtin; refine Ap_append (w0 := w0) w0.heap.size rfl (.tmp 24) (.tmp 27) rfl v x0 (x1 % 256) (fun k_ => w0.heap.size ≤ k_ ∧ k_ ≠ g) rfl rfl ?aF HR.out HB.out ?aS ?aL ?_; (case aF => exact (fun k_ hk => ⟨Nat.le_trans (below_size HB.out) hk, Nat.ne_of_gt (Nat.lt_of_lt_of_le (blk_lt BK.out) hk)⟩)); (case aS => exact (below_size HB.out)); (case aL => have := LM.out; omega); intro v2 w5 ho hb h5; rw [← Ny.out] at ho; have n1_ := Aside0.mk (hb); have n2_ := Aside0.mk (KeepW.grown HK.out h5); have n3_ := Aside0.mk ho; have n4_ := Aside0.mk (h5 _ _ _ (by decide) BK.out); clear HB HK HR BK hcz hfz ho hb h5; have HB := n1_; have HK := n2_; have HR := n3_; have BK := n4_; clear n1_ n2_ n3_ n4_; obtain ⟨A2, c2, e2⟩ := Kd.R_slice HR.out; subst e2; have hcz : w5.cell? ⟨g, 0, none⟩ = some v := (blk_cell BK.out 0).trans rfl; have hfz := blk_frozen BK.out 0))
          go_end0
          exact ⟨rfl, by rw [← Ny.out]; exact WrR.set HG.out BK.out HR.out, below_set HB.out HG.out, KeepW.set HK.out _⟩
        · rw [if_neg c4] at H
          exact absurd H (by simp)
set_option maxHeartbeats 8000000 in
set_option maxRecDepth 100000 in
theorem impl_signed.calls (k g : Nat) (xs : List Int) (a1 : Int) (r : List Int) (w0 w : World) (hB : Below w0.heap.size w0 w) (hw : Wr w0.heap.size g w xs) (h0 : -9223372036854775808 ≤ a1) (h1 : a1 ≤ 9223372036854775807) (h : spec_l15Signed.f k xs a1 = some r) :
    Calls Try.prog 51 #[.pointer (some ⟨g, 0, none⟩), .int .i64 a1] w fun e w' => e = .returned (.tuple #[]) ∧ WrR w0.heap.size g w' r ∧ Below w0.heap.size w0 w' ∧ KeepW g w w' := by
  have hs : spec_l15Num.f k xs (Go.bits .xor .u64 (IntKind.u64.wrap ((IntKind.u64.wrap a1) * 2)) (IntKind.u64.wrap (a1 / 9223372036854775808))) = some r := by
    rw [signed_u64 a1 h0 h1]
    unfold spec_l15Signed.f at h
    by_cases c : a1 < 0
    · rw [if_pos c] at h ⊢
      obtain ⟨t, ht, hr⟩ := Option.bind_eq_some_iff.mp h
      rw [ht]; exact hr
    · rw [if_neg c] at h ⊢
      obtain ⟨t, ht, hr⟩ := Option.bind_eq_some_iff.mp h
      rw [ht]; exact hr
  have hx : 0 ≤ (Go.bits .xor .u64 (IntKind.u64.wrap ((IntKind.u64.wrap a1) * 2)) (IntKind.u64.wrap (a1 / 9223372036854775808))) ∧ (Go.bits .xor .u64 (IntKind.u64.wrap ((IntKind.u64.wrap a1) * 2)) (IntKind.u64.wrap (a1 / 9223372036854775808))) < 18446744073709551616 := by
    rw [signed_u64 a1 h0 h1]
    have hw : ∀ x : Int, IntKind.u64.wrap x = x % 18446744073709551616 := by
      intro x
      unfold IntKind.wrap
      simp only [IntKind.signed, IntKind.bits]
      simp
    rw [hw, hw]
    split <;> omega
  have HS := Aside0.mk hs
  have HX := Aside0.mk hx
  have HW := Aside0.mk hw
  have HB := Aside0.mk hB
  clear h hs hx hw hB
  go_enter Try.func51, Try.ntmps51
  go_wp2_with (first | ((with_reducible refine gate_callee (f := 50) rfl ?_); refine goesL_ (some 12) rfl rfl Try.func50 (by kernel_rfl) rfl #[.pointer (some ⟨g, 0, none⟩), .int .u64 (Go.bits .xor .u64 (IntKind.u64.wrap ((IntKind.u64.wrap a1) * 2)) (IntKind.u64.wrap (a1 / 9223372036854775808)))] rfl (by (try simp only [List.map_toArray, List.map_cons, List.map_nil]); first | done | rfl) ?_; (with_reducible refine (impl_num.calls k g xs _ r w0 _ HB.out HW.out HX.out.1 HX.out.2 HS.out).mono ?_); rintro e w5 ⟨rfl, hw5, hb5, hk5⟩; refine ⟨_, rfl, ?_⟩; have HW5 := Aside0.mk hw5; have HB5 := Aside0.mk hb5; have HK5 := Aside0.mk hk5; clear hw5 hb5 hk5))
  go_end0
  exact ⟨rfl, HW5.out, HB5.out, HK5.out⟩
set_option maxHeartbeats 8000000 in
set_option maxRecDepth 100000 in
theorem spec_l15Num.calls0 (k : Nat) (u : Value) (xs : List Int) (a1 : Int) (r : List Int) (w0 w : World) (hB : Below w0.heap.size w0 w) (ho : Full w (fun _ => True) u xs) (h : spec_l15Num.f k xs a1 = some r) :
    Calls Try.prog 45 #[u, .int .u64 a1] w fun e w' => ∃ v0_ : Value, e = .returned (v0_) ∧ Kd.R (Kd.int .u8) 5 w' w0.heap.size (fun _ => True) v0_ r ∧ Below w0.heap.size w0 w' := by
  have HR := Aside0.mk (show Ap w w0.heap.size (fun _ => True) u xs from .inr ho)
  have HB := Aside0.mk hB
  have H' := Aside0.mk (show spec_l15Num.l0 k xs a1 = some r from h)
  clear h hB ho
  go_enter Try.func45, Try.ntmps45
  go_wp2
  go_loopg [0, 1] k (fun kq v0 v1 w' => ∃ (x0 : List Int) (x1 : Int), v1 = .int .u64 x1 ∧ Aside0 (spec_l15Num.l0 kq x0 x1 = some r) ∧ Aside0 (kq ≤ k) ∧ Aside0 (Ap w' w0.heap.size (fun _ => True) v0 x0) ∧ Aside0 (Below w0.heap.size w0 w'))
  case atStart => exact ⟨xs, a1, rfl, H', ⟨Nat.le_refl _⟩, HR, HB⟩
  case round =>
    clear H' HR HB
    obtain ⟨x0, x1, rfl, HA, HK1, HR, HB⟩ := hrel
    cases gk with
    | zero => exact absurd HA.out (by simp [spec_l15Num.l0])
    | succ k1 =>
      have H := HA.out
      clear HA
      simp only [spec_l15Num.l0] at H
      by_cases c3 : x1 ≥ 128
      · rw [if_pos c3] at H
        have c3b0 : decide (128 ≤ x1) = true := decide_eq_true c3
        clear c3
        by_cases c4 : x0.length < 140737488355328
        · rw [if_pos c4] at H
          have LM := Aside0.mk c4
          clear c4
          obtain ⟨y, hy⟩ : ∃ y_ : List Int, y_ = x0 ++ [(IntKind.u64.wrap ((Int.tmod x1 128) + 128)) % 256] := ⟨_, rfl⟩
          rw [← hy] at H
          have Ny := Aside0.mk hy
          have H' := Aside0.mk H
          clear hy H
          go_wp2_with (first | ((with_reducible refine gate_builtin (b := .append) (xs := #[.tmp 7, .tmp 12]) rfl ?_); at_builtin; refine Ap_append (w0 := w0) w0.heap.size rfl (.tmp 7) (.tmp 12) rfl u0 x0 ((IntKind.u64.wrap ((Int.tmod x1 128) + 128)) % 256) (fun _ => True) rfl rfl (fun _ _ => trivial) HR.out HB.out ?aS ?aL ?_; (case aS => exact (below_size HB.out)); (case aL => have := LM.out; omega); intro v2 w5 ho hb h5; rw [← Ny.out] at ho; have n1_ := Aside0.mk (hb); have n3_ := Aside0.mk ho; clear HB HR ho hb h5; have HB := n1_; have HR := n3_; clear n1_ n3_; obtain ⟨A2, c2, e2⟩ := Kd.R_slice HR.out; subst e2))
          go_roundg k1
          case measure => have := HK1.out; omega
          case rel => exact ⟨y, (IntKind.u64.wrap (Int.tdiv x1 128)), (by first | rfl | (simp; done) | (simp [*]; done)), H', ⟨by have := HK1.out; omega⟩, ⟨.inl HR.out⟩, HB⟩
        · rw [if_neg c4] at H
          exact absurd H (by simp)
      · rw [if_neg c3] at H
        have c3b0 : decide (128 ≤ x1) = false := decide_eq_false c3
        clear c3
        by_cases c4 : x0.length < 140737488355328
        · rw [if_pos c4] at H
          have LM := Aside0.mk c4
          clear c4
          obtain rfl := Option.some.inj H
          obtain ⟨y, hy⟩ : ∃ y_ : List Int, y_ = x0 ++ [x1 % 256] := ⟨_, rfl⟩
          have Ny := Aside0.mk hy
          clear H hy
          go_wp2_with (first | ((with_reducible refine gate_builtin (b := .append) (xs := #[.tmp 16, .tmp 19]) rfl ?_); at_builtin; refine Ap_append (w0 := w0) w0.heap.size rfl (.tmp 16) (.tmp 19) rfl u0 x0 (x1 % 256) (fun _ => True) rfl rfl (fun _ _ => trivial) HR.out HB.out ?aS ?aL ?_; (case aS => exact (below_size HB.out)); (case aL => have := LM.out; omega); intro v2 w5 ho hb h5; rw [← Ny.out] at ho; have n1_ := Aside0.mk (hb); have n3_ := Aside0.mk ho; clear HB HR ho hb h5; have HB := n1_; have HR := n3_; clear n1_ n3_; obtain ⟨A2, c2, e2⟩ := Kd.R_slice HR.out; subst e2))
          go_ret
          exact ⟨_, rfl, by rw [← Ny.out]; exact HR.out, HB.out⟩
        · rw [if_neg c4] at H
          exact absurd H (by simp)
/-- The literal "QPD1" as bytes. -/
theorem full4 (W : World) (fr : Nat × Nat) (ok : Nat → Prop) (hok : ok W.heap.size) : Full (W.alloc (.cells #[.int .u8 81, .int .u8 80, .int .u8 68, .int .u8 49] 5 fr)) ok (.slice (some ⟨W.heap.size, 0, none⟩) 4 4) [81, 80, 68, 49] := by
  refine ⟨W.heap.size, rfl, hok, fun j u hj => ?_⟩
  have h := cell_of_row (W.alloc (.cells #[.int .u8 81, .int .u8 80, .int .u8 68, .int .u8 49] 5 fr)) W.heap.size j #[.int .u8 81, .int .u8 80, .int .u8 68, .int .u8 49] 5 fr (heap_alloc_new W _)
  rw [h]
  simpa [nums] using hj
theorem conv4 (w : World) : (convert 46 46 (.slice (some ⟨w.heap.size, 0, none⟩) 4 4)).run Try.prog (w.alloc (.cells #[.int .u8 81, .int .u8 80, .int .u8 68, .int .u8 49] 5)) = .ok (.slice (some ⟨w.heap.size, 0, none⟩) 4 4) (w.alloc (.cells #[.int .u8 81, .int .u8 80, .int .u8 68, .int .u8 49] 5 (4, 5))) :=
  Go.Lib.run_convert_bytes_const (P := Try.prog) w 46 5 #[.int .u8 81, .int .u8 80, .int .u8 68, .int .u8 49] 4 4 Try.underlying46 Try.underlying5
end Go.Proofs.Ytngmkpediibhjaa.PFnExactEncodeDesc
