/- The reader told plainly: spots, pages, the whole description; the memory that the reader's closure holds, and how it goes on. No condition. -/
import Derived.Test.YtngmkpediibhjaaHSm
import Derived.Test.YtngmkpediibhjaaBox
import Derived.Test.YtngmkpediibhjaaKitVDd
namespace Go.Proofs.Ytngmkpediibhjaa.PFnExactDecodeDesc
open Go.RowKit Go.Proofs.Ytngmkpediibhjaa.Kit Go.Proofs.YtngmkpediibhjaaW.PrintWords Go.Proofs.YtngmkpediibhjaaW.PrintLast Go.Proofs.YtngmkpediibhjaaW.PrintMore
set_option linter.unusedVariables false
set_option linter.unusedSimpArgs false

def fitsB (a : Int) : Bool := decide (-1073741823 ≤ a ∧ a ≤ 1073741823)
def lenB (a : Int) : Bool := decide (0 ≤ a ∧ a ≤ 1073741823)
theorem fits_i (a : Int) : impl_oFits.f a = some (fitsB a) := by
  unfold impl_oFits.f fitsB
  split <;> simp <;> omega
theorem len_i (a : Int) : impl_oLen.f a = some (lenB a) := by
  unfold impl_oLen.f lenB
  split <;> simp <;> omega
def spotB (x y f c w h : Int) : Bool := fitsB x && fitsB y && decide (0 ≤ f ∧ f ≤ 15) && decide (-1 ≤ c ∧ c ≤ 255) && lenB w && lenB h
theorem spot_i (x y f c w h : Int) : impl_oSpotOk.f x y f c w h = some (spotB x y f c w h) := by
  simp only [impl_oSpotOk.f, fits_i, len_i, Option.bind_some, spotB]
  cases fitsB x <;> cases fitsB y <;> simp
  by_cases h1 : 0 ≤ f
  · by_cases h2 : f ≤ 15
    · by_cases h3 : -1 ≤ c
      · by_cases h4 : c ≤ 255
        · cases lenB w <;> simp [h1, h2, h3, h4]
        · simp [h1, h2, h3, h4]
      · simp [h1, h2, h3]
    · simp [h1, h2]
  · simp [h1]
def okS (x : S81) : Bool := spotB x.f0 x.f1 x.f2 x.f3 x.f4 x.f5
/-- The tag of a spot, where the font was f: its character, its font, the font that goes on. -/
def iTag (c f : Int) : Option (Int × Int × Int) :=
  if c = 0 then some (-1, 0, f) else if c ≤ 256 then some (c - 1, f, f) else if (c - 257) / 256 = f then none else some ((c - 257) % 256, (c - 257) / 256, (c - 257) / 256)
/-- A step of at most twice the greatest length. -/
def iStep (dx dy : Int) : Bool := decide (-2147483646 ≤ dx ∧ dx ≤ 2147483646) && decide (-2147483646 ≤ dy ∧ dy ≤ 2147483646)
/-- Behind the steps and the tag: the size, and whether all is well. -/
def iSize (b : List Int) (X Y c f : Int) (i : Int) : Option (S81 × Int) :=
  (iBelow b i 1073741823).bind fun p => (iBelow b p.2 1073741823).bind fun q => if okS ⟨X, Y, f, c, p.1, q.1⟩ = true then some (⟨X, Y, f, c, p.1, q.1⟩, q.2) else none
/-- A spot, behind (x, y) and the font f, from place i: the spot, the font, the place. -/
def iSpot (b : List Int) (x y f i : Int) : Option (S81 × Int × Int) :=
  (iSigned b i).bind fun p => (iSigned b p.2).bind fun q => if iStep p.1 q.1 = true then (iBelow b q.2 4352).bind fun t => (iTag t.1 f).bind fun u => (iSize b (x + p.1) (y + q.1) u.1 u.2.1 t.2).bind fun s => some (s.1, u.2.2, s.2) else none
def iSpots (b : List Int) : Nat → Int → Int → Int → Int → List S81 → Option (List S81 × Int)
  | 0, _, _, _, i, p => some (p, i)
  | k + 1, x, y, f, i, p => (iSpot b x y f i).bind fun r => iSpots b k r.1.f0 r.1.f1 r.2.1 r.2.2 (p ++ [r.1])
def iPages (b : List Int) : Nat → Int → Int → List (List S81) → Option (List (List S81) × Int)
  | 0, _, i, o => some (o, i)
  | m + 1, n, i, o => (iBelow b i 20000).bind fun r => if n + r.1 ≤ 20000 then (iSpots b r.1.toNat 0 0 0 r.2 []).bind fun q => iPages b m (n + r.1) q.2 (o ++ [q.1]) else none
/-- The sum of the bytes, each times its place. -/
def sumR (b : List Int) : Nat → Nat → Int → Int
  | 0, _, n => n
  | d + 1, i, n => sumR b d (i + 1) ((n + (((i : Int) + 1) % 65521 * (rd b i % 18446744073709551616)) % 18446744073709551616) % 18446744073709551616 % 65521)
def sumP (b : List Int) : Int := sumR b b.length 0 0
def iDec (b : List Int) : Option (List (List S81)) :=
  if 4 ≤ (b.length : Int) ∧ ((strOfNums (b.take 4)).toList == ([81, 80, 68, 49] : List UInt8)) = true then (iBelow b 4 1000).bind fun m => (iPages b m.1.toNat 0 m.2 []).bind fun q => if iEnd b q.2 (sumP (b.take q.2.toNat)) then some q.1 else none else none

theorem iBelow_at {b : List Int} {i m v j : Int} (h : iBelow b i m = some (v, j)) : 0 ≤ v ∧ v ≤ m ∧ i < j ∧ j ≤ (b.length : Int) := by
  obtain ⟨⟨x, k⟩, h1, h2⟩ := Option.bind_eq_some_iff.mp h
  obtain ⟨h3, h4, h5, h6⟩ := iNum_at h1
  by_cases hx : x ≤ m
  · rw [if_pos hx] at h2
    injection h2 with h2
    injection h2 with h7 h8
    omega
  · rw [if_neg hx] at h2; cases h2
theorem iSigned_at {b : List Int} {i v j : Int} (h : iSigned b i = some (v, j)) : i < j ∧ j ≤ (b.length : Int) := by
  obtain ⟨⟨x, k⟩, h1, h2⟩ := Option.map_eq_some_iff.mp h
  obtain ⟨h3, h4, h5, h6⟩ := iNum_at h1
  injection h2 with h7 h8
  omega
theorem tm (x m : Int) (h : 0 ≤ x) : Int.tmod x m = x % m := Int.tmod_eq_emod_of_nonneg h
theorem sum_i (b : List Int) (hb : b.length ≤ 140737488355328) : ∀ d i : Nat, ∀ n : Int, b.length - i = d → i ≤ b.length → Ev (fun k => impl_oSum.l0 k n b (b.length : Int) i) (sumR b d i n) := by
  intro d
  induction d with
  | zero =>
    intro i n hd hi
    refine Ev.step (f := fun k => some n) (fun k => ?_) (Ev.now _)
    rw [impl_oSum.l0, if_neg (by omega)]
  | succ d ih =>
    intro i n hd hi
    rw [sumR]
    refine Ev.step (fun k => ?_) (ih (i + 1) _ (by omega) (by omega))
    rw [impl_oSum.l0, if_pos (by omega), if_pos (by omega), if_pos (by omega), wrap_succ i (by omega), tm ((i + 1 : Nat) : Int) _ (by omega), IntKind.wrap_u64 (((i + 1 : Nat) : Int) % 65521), IntKind.wrap_u64 (rd b i), IntKind.wrap_u64, IntKind.wrap_u64, tm _ _ (by omega)]
    have e : ((i + 1 : Nat) : Int) % 65521 % 18446744073709551616 = ((i : Int) + 1) % 65521 := by omega
    rw [e, Int.mul_comm]
theorem sumP_i (b : List Int) (hb : b.length ≤ 140737488355328) : ∃ k, impl_oSum.f k b = some (sumP b) := (sum_i b hb b.length 0 0 (by omega) (by omega)).rounds

/-! ### steps of a region that leaves its order open -/
section
variable {P : Program} {ops : Array Oper} {Q : Exit → Act → World → Prop} {K : Act → World → Prop}
/-- A call that may panic. -/
theorem goesH_ {i : Nat} {oi : Oper} {a : Act} {w : World} (N : Option Tmp) (hi : ops[i]? = some oi) (hd : oi.dst = N) (hw : Region.wanted oi (yielded ops a.tmps) = true) {f : FuncId} {fn : Func} {xs_ : Array Operand} {ts : Array TypeId} (hf : P.funcs[f]? = some fn) (hname : (fn.name == "runtime.NumGoroutine") = false) (hb : fn.body.isSome = true) (args : Array Value)
    (hop : oi.op = .call { callee := .value (.func f), args := xs_, argTypes := ts }) (hargs : xs_.map a.eval = args)
    (h : Calls P f args w fun e w' => (∃ v, e = .returned v ∧ K (a.put N v) w') ∨ (∃ ch, e = .panicked ch ∧ Q (.panic ch) a w')) : wpOp P ops Q i K a w := by
  have he := enters_ hf hname hb args w
  have hrun : (execOp a.eval oi).run P w = .ok (.enter f args) w := by
    unfold execOp
    simp [hop, resolve, Deferred.ofValue, invoke, Act.eval, hargs, he]
  unfold wpOp
  simp only [hi, hw, if_true]
  refine .inl ?_
  unfold Oper.wp
  rw [hrun, Oper.upon_enter]
  refine h.mono fun e w'' hh => ?_
  subst hd
  rcases hh with ⟨v, rfl, hk⟩ | ⟨ch, rfl, hk⟩
  · exact hk
  · exact hk
theorem load95 {o : Oper} {a : Act} {w : World} {g g5 : Nat} (ho : o.op = .load 95 (.tmp 0)) (hp : a.eval (.tmp 0) = .pointer (some ⟨g5, 0, none⟩)) (hS : w.heap[g5]? = some (.cells #[.pointer (some ⟨g, 0, none⟩)] 95 (0, 0))) : (execOp a.eval o).run Try.prog w = .ok (.value (.pointer (some ⟨g, 0, none⟩))) w := by
  have hc : w.cell? ⟨g5, 0, none⟩ = some (.pointer (some ⟨g, 0, none⟩)) := (blk_cell hS 0).trans rfl
  have hu := Try.underlying95
  unfold execOp
  simp only [ho, hp]
  simp [go_sem, hc, hu]
/-- A quiet operation, taken first; its slot told. -/
theorem takeH_ {S : World → Prop} {md : Region.Mode} {i : Nat} {oi : Oper} {v : Value} {fuel : Nat} {listed : Array Bool} {a : Act} {w : World} (N : Option Tmp) (hi : ops[i]? = some oi) (hN : oi.dst = N)
    (hs : Region.noSelect ops = true) (hf : Region.free md ops listed i = true) (hr : (Region.ready md ops listed).contains i = true)
    (hQ : ∀ c a w, Q (.panic c) (a.put N v) w → Q (.panic c) a w) (hy : YieldsIf P ops S oi v a) (hS : S w)
    (h : wpAnyH P md ops Q S fuel (listed.setIfInBounds i true) (a.put N v) w) : wpAnyH P md ops Q S (fuel + 1) listed a w := by
  subst hN
  exact wpAnyH_take hi hs hf hr hQ hy hS h
/-- A part of a variable is written. -/
theorem storeH_ {i : Nat} {oi : Oper} {a : Act} {W : World} (hi : ops[i]? = some oi) (hw : Region.wanted oi (yielded ops a.tmps) = true) (t T : TypeId) (p : Tmp) (v : Operand) (ho : oi.op = .store t (.tmp p) v) (hN : oi.dst = none) (g j : Nat) (u : Value) (seg : List Value) (cur cur' : Array Value)
    (hp : a.eval (.tmp p) = .pointer (some ⟨g, j, none⟩)) (hv : a.eval v = u) (hu : u.cells.toList = seg) (hb : W.heap[g]? = some (.cells cur T (0, 0))) (ht : (P.info? t).map (·.size) = some seg.length) (hfit : j + seg.length ≤ cur.size) (h1 : seg.all (·.oneCell') = true)
    (he : cur.toList.take j ++ seg ++ cur.toList.drop (j + seg.length) = cur'.toList)
    (h : ∀ w', w'.heap[g]? = some (.cells cur' T (0, 0)) → (∀ k, k ≠ g → w'.heap[k]? = W.heap[k]?) → (∀ (base : Nat) (w0 : World), base ≤ g → Below base w0 W → Below base w0 w') → K a w') : wpOp P ops Q i K a W := by
  have hrun := run_store_run (P := P) (g := g) (o := j) t u seg hb hu ht hfit (fun q hq => List.all_eq_true.1 h1 q hq)
  obtain ⟨c2, h2, _, h3⟩ := setCells_row seg j W cur hb hfit
  rw [he] at h3
  obtain rfl : c2 = cur' := Array.ext' h3
  unfold wpOp
  simp only [hi, hw, if_true]
  refine .inl ?_
  unfold Oper.wp execOp
  simp only [ho, hp, hv, Sem.run_bind, Sem.run_pure, Result.andThen_ok, hrun]
  show K (a.put oi.dst undef) _
  rw [hN]
  exact h _ h2 (fun k hk => setCells_far seg j k hk) (fun base w0 hg hB => Box.below_part seg hg hB)
theorem load81 {o : Oper} {a : Act} {w : World} {gs : Nat} {cs : Array Value} (ho : o.op = .load 81 (.tmp 11)) (hp : a.eval (.tmp 11) = .pointer (some ⟨gs, 0, none⟩)) (hb : w.heap[gs]? = some (.cells cs 81 (0, 0))) (hs : cs.size = 6) : (execOp a.eval o).run Try.prog w = .ok (.value (.agg cs)) w := by
  have hi : (Try.prog.info? 81).map (·.size) = some cs.size := by rw [hs]; kernel_rfl
  unfold execOp
  simp [ho, hp, Instr.loadAt, Instr.sureAddr, run_loadVar_row w gs 81 81 cs (0, 0) _ hb Try.underlying81 rfl hi]
theorem faddr81 {o : Oper} {a : Act} {w : World} {gs j : Nat} (ho : o.op = .fieldAddr 81 (.tmp 11) j) (hp : a.eval (.tmp 11) = .pointer (some ⟨gs, 0, none⟩)) (hj : j < 6) : (execOp a.eval o).run Try.prog w = .ok (.value (.pointer (some ⟨gs, j, none⟩))) w := by
  have hu := Try.underlying81
  unfold execOp
  simp only [ho, hp]
  rcases j with _ | _ | _ | _ | _ | _ | j <;> first | (simp [go_sem, hu]; done) | omega
theorem bind_at {α β : Type} {o : Option α} {f : α → Option β} {r : Option β} {x : α} (h : o = some x) (H : o.bind f = r) : f x = r := by rw [h] at H; exact H
theorem bind_no {α β : Type} {o : Option α} {f : α → Option β} {r : Option β} (h : o = none) (H : o.bind f = r) : r = none := by rw [h] at H; exact H.symm
theorem iStep_iff (dx dy : Int) : iStep dx dy = true ↔ (-2147483646 ≤ dx ∧ dx ≤ 2147483646) ∧ -2147483646 ≤ dy ∧ dy ≤ 2147483646 := by
  unfold iStep
  simp
theorem okS_in {s : S81} (h : okS s = true) : (-1073741823 ≤ s.f0 ∧ s.f0 ≤ 1073741823) ∧ (-1073741823 ≤ s.f1 ∧ s.f1 ≤ 1073741823) ∧ (0 ≤ s.f2 ∧ s.f2 ≤ 15) ∧ (-1 ≤ s.f3 ∧ s.f3 ≤ 255) ∧ (0 ≤ s.f4 ∧ s.f4 ≤ 1073741823) ∧ 0 ≤ s.f5 ∧ s.f5 ≤ 1073741823 := by
  unfold okS spotB fitsB lenB at h
  simp only [Bool.and_eq_true, decide_eq_true_eq] at h
  omega
theorem assigns {o : Oper} {a : Act} {w : World} {x : Operand} {v : Value} (ho : o.op = .assign x) (hp : a.eval x = v) : (execOp a.eval o).run P w = .ok (.value v) w := by
  unfold execOp
  simp only [ho, hp]
  simp
end
/-! ### memory -/
theorem cellS97 {w0 W : World} {g : Nat} {b : List Int} {i : Int} (h : IsS97 w0 W g b i) : (∃ A c, W.cell? ⟨g, 0, none⟩ = some (.slice A b.length c)) ∧ W.cell? ⟨g, 1, none⟩ = some (.int .i64 i) := by
  obtain ⟨A, c, hg, hl, hr⟩ := h
  exact ⟨⟨A, c, cellS97_0 hg⟩, cellS97_1 hg⟩
theorem IsS97.frozen {w0 W : World} {g : Nat} {b : List Int} {i : Int} (h : IsS97 w0 W g b i) : W.frozen? ⟨g, 1, none⟩ = false := by
  obtain ⟨A, c, hg, hl, hr⟩ := h
  exact blk_frozen hg 1
/-- What holds of every block that is no spot and no row of spots or pages. -/
def Other (w w' : World) : Prop := ∀ (k : Nat) (cells : Array Value) (t : TypeId), t ≠ 81 → t ≠ 79 → w.heap[k]? = some (.cells cells t (0, 0)) → w'.heap[k]? = some (.cells cells t (0, 0))
theorem Other.of_below {w w' : World} (h : Below w.heap.size w w') : Other w w' := fun k cells t _ _ hk => (h.block k (blk_lt hk)).trans hk
theorem Other.of_grown {w w' : World} {row : Option Nat} {e : Nat} (h : w.grownBy w' row) (hr : ∀ k, row = some k → ∃ cells, w.heap[k]? = some (.cells cells e (0, 0))) (he : e = 81 ∨ e = 79) : Other w w' := by
  intro k cells t h1 h2 hk
  refine (h.block k (blk_lt hk) ?_).trans hk
  intro h3
  obtain ⟨c2, hc⟩ := hr k h3.symm
  rw [hk] at hc
  injection hc with hc
  injection hc with _ ht
  rcases he with rfl | rfl
  · exact h1 ht
  · exact h2 ht
theorem Other.of_far {w w' : World} {gs : Nat} {cs : Array Value} (hb : w.heap[gs]? = some (.cells cs 81 (0, 0))) (h : ∀ k, k ≠ gs → w'.heap[k]? = w.heap[k]?) : Other w w' := by
  intro k cells t h1 h2 hk
  refine (h k ?_).trans hk
  rintro rfl
  rw [hk] at hb
  injection hb with hb
  injection hb with _ ht
  exact h1 ht
/-- What the closure and its makers hold: the reader g, the variables r (g5), b (g1), out (g4), ok (gx). -/
structure MB (w0 w : World) (g g5 g1 g4 gx : Nat) (A1 : Option Addr) (c1 : Nat) (b : List Int) (i : Int) (vo : Value) : Prop where
  rd : IsS97 w0 w g b i
  below : Below w0.heap.size w0 w
  b5 : w.heap[g5]? = some (.cells #[.pointer (some ⟨g, 0, none⟩)] 95 (0, 0))
  b1 : w.heap[g1]? = some (.cells #[.slice A1 b.length c1] 46 (0, 0))
  b4 : w.heap[g4]? = some (.cells #[vo] 48 (0, 0))
  bx : w.heap[gx]? = some (.cells #[.bool false] 4 (0, 0))
  l4 : w0.heap.size ≤ g4
section
variable {w0 w w' : World} {g g5 g1 g4 gx : Nat} {A1 : Option Addr} {c1 : Nat} {b : List Int} {i i' : Int} {vo : Value}
theorem MB.n5 (h : MB w0 w g g5 g1 g4 gx A1 c1 b i vo) : g5 ≠ g := (IsS97.ne_blk h.rd h.b5 (by decide)).symm
theorem MB.n1 (h : MB w0 w g g5 g1 g4 gx A1 c1 b i vo) : g1 ≠ g := (IsS97.ne_blk h.rd h.b1 (by decide)).symm
theorem MB.n4 (h : MB w0 w g g5 g1 g4 gx A1 c1 b i vo) : g4 ≠ g := (IsS97.ne_blk h.rd h.b4 (by decide)).symm
theorem MB.nx (h : MB w0 w g g5 g1 g4 gx A1 c1 b i vo) : gx ≠ g := (IsS97.ne_blk h.rd h.bx (by decide)).symm
theorem MB.read (h : MB w0 w g g5 g1 g4 gx A1 c1 b i vo) (hk : KeepBut w w' g none) (hi : IsS97 w0 w' g b i') (hb : Below w0.heap.size w0 w') : MB w0 w' g g5 g1 g4 gx A1 c1 b i' vo :=
  ⟨hi, hb, KeepBut.blk hk h.b5 h.n5 (by simp), KeepBut.blk hk h.b1 h.n1 (by simp), KeepBut.blk hk h.b4 h.n4 (by simp), KeepBut.blk hk h.bx h.nx (by simp), h.l4⟩
theorem MB.other (h : MB w0 w g g5 g1 g4 gx A1 c1 b i vo) (ho : Other w w') (hb : Below w0.heap.size w0 w') : MB w0 w' g g5 g1 g4 gx A1 c1 b i vo := by
  refine ⟨?_, hb, ho _ _ _ (by decide) (by decide) h.b5, ho _ _ _ (by decide) (by decide) h.b1, ho _ _ _ (by decide) (by decide) h.b4, ho _ _ _ (by decide) (by decide) h.bx, h.l4⟩
  obtain ⟨A, c, hg, hl, hr⟩ := h.rd
  exact ⟨A, c, ho _ _ _ (by decide) (by decide) hg, hl, hr⟩
theorem MB.drew (h : MB w0 w g g5 g1 g4 gx A1 c1 b i vo) : MB w0 w.drew g g5 g1 g4 gx A1 c1 b i vo := h.other (fun _ _ _ _ _ hk => hk) (below_drew1 h.below)
theorem MB.drewN (h : MB w0 w g g5 g1 g4 gx A1 c1 b i vo) (m : Nat) : MB w0 (w.drewN m) g g5 g1 g4 gx A1 c1 b i vo := h.other (fun _ _ _ _ _ hk => hk) (pw_below_drewN h.below m)
/-- 'out' is written. -/
theorem MB.setOut (h : MB w0 w g g5 g1 g4 gx A1 c1 b i vo) (u : Value) : MB w0 (w.setCell ⟨g4, 0, none⟩ u) g g5 g1 g4 gx A1 c1 b i u := by
  have far : ∀ {k : Nat} {cells : Array Value} {t : TypeId}, t ≠ 48 → w.heap[k]? = some (.cells cells t (0, 0)) → (w.setCell ⟨g4, 0, none⟩ u).heap[k]? = some (.cells cells t (0, 0)) := by
    intro k cells t ht hk
    refine blk_far hk ?_ u
    rintro rfl
    have := h.b4
    rw [hk] at this
    injection this with this
    injection this with _ h2
    exact ht h2
  refine ⟨?_, below_set h.below h.l4, far (by decide) h.b5, far (by decide) h.b1, by simpa using blk_set h.b4 0 u, far (by decide) h.bx, h.l4⟩
  obtain ⟨A, c, hg, hl, hr⟩ := h.rd
  exact ⟨A, c, far (by decide) hg, hl, hr⟩
end
/-- Between two pages. -/
structure MO (w0 w : World) (g g5 g1 g4 gx : Nat) (A1 : Option Addr) (c1 : Nat) (b : List Int) (i : Int) (vo : Value) (o : List (List S81)) : Prop where
  mb : MB w0 w g g5 g1 g4 gx A1 c1 b i vo
  out : Kd.S (Kd.slice 81 k81) 79 w w0.heap.size (fun _ => True) vo o
/-- Between two spots. -/
structure MI (w0 w : World) (g g5 g1 g4 gx : Nat) (A1 : Option Addr) (c1 : Nat) (b : List Int) (i : Int) (vo : Value) (o : List (List S81)) (vp : Value) (p : List S81) : Prop where
  mb : MB w0 w g g5 g1 g4 gx A1 c1 b i vo
  out : Kd.S (Kd.slice 81 k81) 79 w w0.heap.size (fun k => some k ≠ vp.ownBlock) vo o
  row : Kd.R k81 81 w w0.heap.size (fun _ => True) vp p
/-- In a spot, whose variable is gs. -/
structure MS (w0 w : World) (g g5 g1 g4 gx : Nat) (A1 : Option Addr) (c1 : Nat) (b : List Int) (i : Int) (vo : Value) (o : List (List S81)) (vp : Value) (p : List S81) (gs : Nat) (cs : Array Value) : Prop where
  mb : MB w0 w g g5 g1 g4 gx A1 c1 b i vo
  out : Kd.S (Kd.slice 81 k81) 79 w w0.heap.size (fun k => some k ≠ vp.ownBlock ∧ k ≠ gs) vo o
  row : Kd.R k81 81 w w0.heap.size (fun k => k ≠ gs) vp p
  bs : w.heap[gs]? = some (.cells cs 81 (0, 0))
  ls : w0.heap.size ≤ gs
section
variable {w0 w w' : World} {g g5 g1 g4 gx gs : Nat} {A1 : Option Addr} {c1 : Nat} {b : List Int} {i i' : Int} {vo vp : Value} {o : List (List S81)} {p : List S81} {cs cs' : Array Value}
theorem S_read (hI : IsS97 w0 w g b i) {ok : Nat → Prop} (h : Kd.S (Kd.slice 81 k81) 79 w w0.heap.size ok vo o) (hk : KeepBut w w' g none) : Kd.S (Kd.slice 81 k81) 79 w' w0.heap.size ok vo o :=
  Kd.S_mono (Kd.S_keep (IsS97.apartS hI h (by decide)) hk (fun _ h => h.2)) (fun _ h => h.1)
theorem R_read (hI : IsS97 w0 w g b i) {ok : Nat → Prop} (h : Kd.R k81 81 w w0.heap.size ok vp p) (hk : KeepBut w w' g none) : Kd.R k81 81 w' w0.heap.size ok vp p :=
  Kd.R_mono (Kd.R_keep (IsS97.apart hI h (by decide)) hk (fun _ h => h.2)) (fun _ h => h.1)
theorem MO.read (h : MO w0 w g g5 g1 g4 gx A1 c1 b i vo o) (hk : KeepBut w w' g none) (hi : IsS97 w0 w' g b i') (hb : Below w0.heap.size w0 w') : MO w0 w' g g5 g1 g4 gx A1 c1 b i' vo o :=
  ⟨h.mb.read hk hi hb, S_read h.mb.rd h.out hk⟩
theorem MI.read (h : MI w0 w g g5 g1 g4 gx A1 c1 b i vo o vp p) (hk : KeepBut w w' g none) (hi : IsS97 w0 w' g b i') (hb : Below w0.heap.size w0 w') : MI w0 w' g g5 g1 g4 gx A1 c1 b i' vo o vp p :=
  ⟨h.mb.read hk hi hb, S_read h.mb.rd h.out hk, R_read h.mb.rd h.row hk⟩
theorem MS.ns (h : MS w0 w g g5 g1 g4 gx A1 c1 b i vo o vp p gs cs) : gs ≠ g := (IsS97.ne_blk h.mb.rd h.bs (by decide)).symm
theorem MS.read (h : MS w0 w g g5 g1 g4 gx A1 c1 b i vo o vp p gs cs) (hk : KeepBut w w' g none) (hi : IsS97 w0 w' g b i') (hb : Below w0.heap.size w0 w') : MS w0 w' g g5 g1 g4 gx A1 c1 b i' vo o vp p gs cs :=
  ⟨h.mb.read hk hi hb, S_read h.mb.rd h.out hk, R_read h.mb.rd h.row hk, KeepBut.blk hk h.bs h.ns (by simp), h.ls⟩
theorem MO.drewN (h : MO w0 w g g5 g1 g4 gx A1 c1 b i vo o) (m : Nat) : MO w0 (w.drewN m) g g5 g1 g4 gx A1 c1 b i vo o := ⟨h.mb.drewN m, Kd.S_drewN h.out m⟩
theorem MI.drewN (h : MI w0 w g g5 g1 g4 gx A1 c1 b i vo o vp p) (m : Nat) : MI w0 (w.drewN m) g g5 g1 g4 gx A1 c1 b i vo o vp p := ⟨h.mb.drewN m, Kd.S_drewN h.out m, Kd.R_drewN h.row m⟩
theorem MS.drewN (h : MS w0 w g g5 g1 g4 gx A1 c1 b i vo o vp p gs cs) (m : Nat) : MS w0 (w.drewN m) g g5 g1 g4 gx A1 c1 b i vo o vp p gs cs := ⟨h.mb.drewN m, Kd.S_drewN h.out m, Kd.R_drewN h.row m, h.bs, h.ls⟩
theorem MO.drew (h : MO w0 w g g5 g1 g4 gx A1 c1 b i vo o) : MO w0 w.drew g g5 g1 g4 gx A1 c1 b i vo o := ⟨h.mb.drew, Kd.S_drew h.out⟩
theorem MI.drew (h : MI w0 w g g5 g1 g4 gx A1 c1 b i vo o vp p) : MI w0 w.drew g g5 g1 g4 gx A1 c1 b i vo o vp p := ⟨h.mb.drew, Kd.S_drew h.out, Kd.R_drew h.row⟩
theorem MS.drew (h : MS w0 w g g5 g1 g4 gx A1 c1 b i vo o vp p gs cs) : MS w0 w.drew g g5 g1 g4 gx A1 c1 b i vo o vp p gs cs := ⟨h.mb.drew, Kd.S_drew h.out, Kd.R_drew h.row, h.bs, h.ls⟩
/-- The reader is set. -/
theorem MO.seek (h : MO w0 w g g5 g1 g4 gx A1 c1 b i vo o) (x : Int) : MO w0 (w.setCell ⟨g, 1, none⟩ (.int .i64 x)) g g5 g1 g4 gx A1 c1 b x vo o :=
  h.read (KeepBut.set_ (KeepBut.refl w g none) 1 _) (IsS97.set_1 h.mb.rd x) (below_set h.mb.below (IsS97.ge h.mb.rd))
/-- A call that only makes. -/
theorem MS.made (h : MS w0 w g g5 g1 g4 gx A1 c1 b i vo o vp p gs cs) (hb : Below w.heap.size w w') : MS w0 w' g g5 g1 g4 gx A1 c1 b i vo o vp p gs cs :=
  ⟨h.mb.other (Other.of_below hb) (below_step h.mb.below hb), Kd.S_below h.out hb, Kd.R_below h.row hb, (hb.block gs (blk_lt h.bs)).trans h.bs, h.ls⟩
/-- A spot's variable is made. -/
theorem MI.spot (h : MI w0 w g g5 g1 g4 gx A1 c1 b i vo o vp p) (hs : gs = w.heap.size) (hbs : w'.heap[gs]? = some (.cells cs 81 (0, 0))) (hb : Below w.heap.size w w') : MS w0 w' g g5 g1 g4 gx A1 c1 b i vo o vp p gs cs :=
  ⟨h.mb.other (Other.of_below hb) (below_step h.mb.below hb), Kd.S_below (Kd.S_elderB h.out gs (Nat.le_of_eq hs.symm)) hb, Kd.R_below (Kd.R_mono (Kd.R_elderB h.row gs (Nat.le_of_eq hs.symm)) (fun _ hk => hk.2)) hb, hbs, by rw [hs]; exact below_size h.mb.below⟩
/-- A spot's variable is written. -/
theorem MS.put (h : MS w0 w g g5 g1 g4 gx A1 c1 b i vo o vp p gs cs) (hbs : w'.heap[gs]? = some (.cells cs' 81 (0, 0))) (hf : ∀ k, k ≠ gs → w'.heap[k]? = w.heap[k]?) (hb : ∀ (base : Nat) (W : World), base ≤ gs → Below base W w → Below base W w') : MS w0 w' g g5 g1 g4 gx A1 c1 b i vo o vp p gs cs' :=
  ⟨h.mb.other (Other.of_far h.bs hf) (hb _ _ h.ls h.mb.below), Kd.S_move h.out (fun k hk => hf k hk.2), Kd.R_move h.row (fun k hk => hf k hk), hbs, h.ls⟩
/-- A spot is put behind the row. -/
theorem MS.grow (h : MS w0 w g g5 g1 g4 gx A1 c1 b i vo o vp p gs cs) {v1 : Value} {p1 : List S81} (hr : Kd.R k81 81 w' w0.heap.size (fun k => k ≠ gs) v1 p1) (hb : Below w0.heap.size w0 w') (hg : w.grownBy w' vp.ownBlock) (hat : v1.ownBlock = vp.ownBlock ∨ ∃ b, v1.ownBlock = some b ∧ w.heap.size ≤ b) : MI w0 w' g g5 g1 g4 gx A1 c1 b i vo o v1 p1 := by
  refine ⟨h.mb.other (Other.of_grown hg (Kd.R_typed h.row) (.inl rfl)) hb, ?_, Kd.R_mono hr (fun _ _ => trivial)⟩
  exact Kd.S_mono (Kd.S_after (ok := fun k => k ≠ gs) (Kd.S_mono h.out (fun k hk => ⟨hk.2, hk.1⟩)) hg hat) (fun _ hk => hk.2)
/-- A page begins. -/
theorem MO.page (h : MO w0 w g g5 g1 g4 gx A1 c1 b i vo o) {v1 : Value} (hr : Kd.R k81 81 w' w.heap.size (fun _ => True) v1 p) (hb : Below w.heap.size w w') : MI w0 w' g g5 g1 g4 gx A1 c1 b i vo o v1 p :=
  ⟨h.mb.other (Other.of_below hb) (below_step h.mb.below hb), Kd.S_mono (Kd.S_elder' h.out (Kd.R_base hr) hb) (fun _ hk => hk.2), Kd.R_lower hr (below_size h.mb.below)⟩
theorem MI.rowOut (h : MI w0 w g g5 g1 g4 gx A1 c1 b i vo o vp p) : ∀ k, some k = vp.ownBlock → some k ≠ vo.ownBlock := by
  intro k hk hk2
  obtain ⟨c, hc⟩ := Kd.R_typed h.row k hk.symm
  exact Kd.S_ne h.out hc (by decide) hk2
/-- A page is put behind the pages: 'out' is still to be written. -/
theorem MI.grow (h : MI w0 w g g5 g1 g4 gx A1 c1 b i vo o vp p) {v1 : Value} {o1 : List (List S81)} (hr : Kd.S (Kd.slice 81 k81) 79 w' w0.heap.size (fun _ => True) v1 o1) (hb : Below w0.heap.size w0 w') (hg : w.grownBy w' vo.ownBlock) : MB w0 w' g g5 g1 g4 gx A1 c1 b i vo :=
  h.mb.other (Other.of_grown hg (Kd.S_typed h.out) (.inr rfl)) hb
theorem MB.close (h : MB w0 w g g5 g1 g4 gx A1 c1 b i vo) {v1 : Value} {o1 : List (List S81)} (hr : Kd.S (Kd.slice 81 k81) 79 w w0.heap.size (fun _ => True) v1 o1) : MO w0 (w.setCell ⟨g4, 0, none⟩ v1) g g5 g1 g4 gx A1 c1 b i v1 o1 :=
  ⟨h.setOut v1, Kd.S_mono (Kd.S_set hr h.b4 (by decide) 0 v1) (fun _ _ => trivial)⟩
end
end Go.Proofs.Ytngmkpediibhjaa.PFnExactDecodeDesc
