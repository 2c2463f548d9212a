/- A region that draws its order and only reads, calls quietly or calls what only makes memory: one step an operation, the variables' values in a list. No condition. -/
import Derived.Test.YtngmkpediibhjaaProg
import Derived.Test.YtngmkpediibhjaaVGlWords
import Derived.Test.YtngmkpediibhjaaVGlLast
import Derived.Test.YtngmkpediibhjaaVGlMore
import Derived.Deep.QuietTactic
namespace Go.Proofs.Ytngmkpediibhjaa.Quiet
open Go.RowKit Go.Proofs.YtngmkpediibhjaaW.PrintWords Go.Proofs.YtngmkpediibhjaaW.PrintLast Go.Proofs.YtngmkpediibhjaaW.PrintMore
set_option linter.unusedVariables false
set_option linter.unusedSimpArgs false
def lk : List (Tmp × Value) → Nat → Option Value
  | [], _ => none
  | (n, v) :: l, t => cond (Nat.beq n t) (some v) (lk l t)
def putL (a : Act) : List (Tmp × Value) → Act
  | [] => a
  | (n, v) :: l => (putL a l).put (some n) v
def lookO (a : Act) (l : List (Tmp × Value)) : Operand → Value
  | .tmp t => match lk l t with | some v => v | none => a.eval (.tmp t)
  | x => a.eval x
def wantL (ops : Array Oper) (l : List (Tmp × Value)) (o : Oper) : Option Bool :=
  match o.guard with
  | none => some true
  | some (j, b) => match (ops[j]?).bind (·.dst) with
    | none => none
    | some t => match lk l t with
      | some (.bool b') => some (b' == b)
      | some _ => some false
      | none => none
theorem putL_size (a : Act) : ∀ l, (putL a l).tmps.size = a.tmps.size
  | [] => rfl
  | (n, v) :: l => by simp [putL, Act.put, putL_size a l]
theorem putL_get (a : Act) (t : Nat) : ∀ l : List (Tmp × Value), (∀ p ∈ l, p.1 < a.tmps.size) → (putL a l).tmps[t]? = match lk l t with | some v => some v | none => a.tmps[t]?
  | [], _ => rfl
  | (n, v) :: l, h => by
    have ih := putL_get a t l (fun p hp => h p (List.mem_cons_of_mem _ hp))
    have hn : n < a.tmps.size := h (n, v) List.mem_cons_self
    show ((putL a l).tmps.setIfInBounds n v)[t]? = match cond (Nat.beq n t) (some v) (lk l t) with | some v => some v | none => a.tmps[t]?
    rw [Array.getElem?_setIfInBounds]
    by_cases e : n = t
    · subst e
      rw [if_pos rfl, if_pos (by rw [putL_size]; exact hn), show Nat.beq n n = true from by simp]
      rfl
    · rw [if_neg e, ih, show Nat.beq n t = false from by cases hb : Nat.beq n t with | false => rfl | true => exact absurd (Nat.eq_of_beq_eq_true hb) e]
      rfl
theorem eval_putL (a : Act) (l : List (Tmp × Value)) (h : ∀ p ∈ l, p.1 < a.tmps.size) (x : Operand) : (putL a l).eval x = lookO a l x := by
  have hconst : ∀ l, (putL a l).defers = a.defers := by
    intro l
    induction l with
    | nil => rfl
    | cons p l ih => exact ih
  cases x with
  | tmp t =>
    have hp := putL_get a t l h
    show (putL a l).tmps.getD t undef = match lk l t with | some v => v | none => a.tmps.getD t undef
    rw [Array.getD_eq_getD_getElem?, hp]
    cases lk l t with
    | some v => rfl
    | none => rw [Array.getD_eq_getD_getElem?]
  | const v => rfl
  | global g => rfl
  | func f => rfl
theorem wanted_putL (ops : Array Oper) (a : Act) (l : List (Tmp × Value)) (h : ∀ p ∈ l, p.1 < a.tmps.size) (o : Oper) (b : Bool) (hw : wantL ops l o = some b) : Region.wanted o (yielded ops (putL a l).tmps) = b := by
  unfold wantL at hw
  unfold Region.wanted
  cases hg : o.guard with
  | none => rw [hg] at hw; injection hw with hw
  | some jb =>
    obtain ⟨j, want⟩ := jb
    rw [hg] at hw
    simp only at hw ⊢
    unfold yielded
    cases hd : (ops[j]?).bind (·.dst) with
    | none => rw [hd] at hw; cases hw
    | some t =>
      rw [hd] at hw
      simp only at hw
      have hp := putL_get a t l h
      rw [Option.bind_some, hp]
      cases hl : lk l t with
      | none => rw [hl] at hw; cases hw
      | some v =>
        rw [hl] at hw
        simp only at hw ⊢
        cases v with
        | bool b' =>
          injection hw
        | _ => injection hw
section
variable {P : Program} {ρ : Operand → Value} {o : Oper} {w : World}
/-- One check: the operation reads x and hands it on. -/
def mvB (ρ : Operand → Value) (o : Oper) : Option Value := match o.op with | .move x => some (ρ x) | .assign x => some (ρ x) | .pick c x y => (match ρ c with | .bool b => some (cond b (ρ x) (ρ y)) | _ => none) | .unOp .not _ x => (match ρ x with | .bool b => some (.bool (!b)) | _ => none) | _ => none
theorem ex_move {x : Operand} {v : Value} (hp : ρ x = v) (ho : o.op = .move x) : (execOp ρ o).run P w = .ok (.value v) w := by
  unfold execOp
  simp [ho, hp]
theorem ex_pick {c x y : Operand} {b : Bool} {v : Value} (hc : ρ c = .bool b) (hv : (if b = true then ρ x else ρ y) = v) (ho : o.op = .pick c x y) : (execOp ρ o).run P w = .ok (.value v) w := by
  subst hv
  unfold execOp
  simp only [ho, hc]
  cases b <;> go_simp
theorem ex_not {x : Operand} {T : TypeId} {b : Bool} (hp : ρ x = .bool b) (ho : o.op = .unOp .not T x) : (execOp ρ o).run P w = .ok (.value (.bool (!b))) w := by
  unfold execOp
  simp only [ho, hp]
  cases b <;> go_simp
/-- A move, a choice, a 'not'. -/
theorem em {v : Value} (h : mvB ρ o = some v) : (execOp ρ o).run P w = .ok (.value v) w := by
  unfold mvB at h
  split at h
  · rename_i x ho
    injection h with h
    exact ex_move h ho
  · rename_i x ho
    injection h with h
    unfold execOp
    simp [ho, h]
  · rename_i c x y ho
    split at h
    · rename_i b hc
      injection h with h
      exact ex_pick hc (by cases b <;> exact h) ho
    · cases h
  · rename_i T x ho
    split at h
    · rename_i b hc
      injection h with h
      subst h
      exact ex_not hc ho
    · cases h
  · cases h
theorem ex_lss {p q : Operand} {T g : TypeId} {x y : Int} (hp : ρ p = .int .i64 x) (hq : ρ q = .int .i64 y) (ho : o.op = .binOp .lss T p q g) : (execOp ρ o).run P w = .ok (.value (.bool (decide (x < y)))) w := by
  unfold execOp
  simp only [ho, hp, hq]
  go_simp
theorem ex_gtr {p q : Operand} {T g : TypeId} {x y : Int} (hp : ρ p = .int .i64 x) (hq : ρ q = .int .i64 y) (ho : o.op = .binOp .gtr T p q g) : (execOp ρ o).run P w = .ok (.value (.bool (decide (y < x)))) w := by
  unfold execOp
  simp only [ho, hp, hq]
  go_simp
theorem ex_geq {p q : Operand} {T g : TypeId} {x y : Int} (hp : ρ p = .int .i64 x) (hq : ρ q = .int .i64 y) (ho : o.op = .binOp .geq T p q g) : (execOp ρ o).run P w = .ok (.value (.bool (decide (y ≤ x)))) w := by
  unfold execOp
  simp only [ho, hp, hq]
  go_simp
theorem ex_eql {p q : Operand} {T g : TypeId} {x y : Int} (hp : ρ p = .int .i64 x) (hq : ρ q = .int .i64 y) (ho : o.op = .binOp .eql T p q g) : (execOp ρ o).run P w = .ok (.value (.bool (x == y))) w := by
  unfold execOp
  simp only [ho, hp, hq]
  go_simp
theorem ex_neq {p q : Operand} {T g : TypeId} {x y : Int} (hp : ρ p = .int .i64 x) (hq : ρ q = .int .i64 y) (ho : o.op = .binOp .neq T p q g) : (execOp ρ o).run P w = .ok (.value (.bool (x != y))) w := by
  unfold execOp
  simp only [ho, hp, hq]
  go_simp
theorem ex_sub {p q : Operand} {T g : TypeId} {x y : Int} (hp : ρ p = .int .i64 x) (hq : ρ q = .int .i64 y) (ho : o.op = .binOp .sub T p q g) : (execOp ρ o).run P w = .ok (.value (.int .i64 (wrap64 (x - y)))) w := by
  unfold execOp
  simp only [ho, hp, hq]
  go_simp
  exact i64_w _
theorem ex_load {t : TypeId} {p : Operand} {ad : Addr} {v : Value} (ho : o.op = .load t p) (hp : ρ p = .pointer (some ad)) (h : (Instr.loadAt t (.pointer (some ad))).run P w = .ok v w) : (execOp ρ o).run P w = .ok (.value v) w := by
  unfold execOp
  simp [ho, hp, h]
theorem ex_index {t : TypeId} {p q : Operand} {u u' v : Value} (ho : o.op = .indexAddr t p q) (hp : ρ p = u) (hq : ρ q = u') (h : (Instr.indexAt t u u').run P w = .ok v w) : (execOp ρ o).run P w = .ok (.value v) w := by
  unfold execOp
  simp [ho, hp, hq, h]
theorem ex_field {t : TypeId} {p : Operand} {i : Nat} {u v : Value} (ho : o.op = .fieldAddr t p i) (hp : ρ p = u) (h : (Instr.fieldAt t u i).run P w = .ok v w) : (execOp ρ o).run P w = .ok (.value v) w := by
  unfold execOp
  simp [ho, hp, h]
end
def QL (P : Program) (ops : Array Oper) (C : World → Prop) (Q : Act → Prop) (rest : List Oper) (a : Act) (S : Nat) (l : List (Tmp × Value)) : Prop := (∀ p ∈ l, p.1 < S) → wpQuiet P ops C Q rest (putL a l)
section
variable {P : Program} {ops : Array Oper} {C : World → Prop} {Q : Act → Prop} {o : Oper} {rest : List Oper} {a : Act} {S : Nat} {l : List (Tmp × Value)}
theorem z_start {id : Nat} {Q : Exit → Act → World → Prop} {w : World} {ol : List Oper} (S : Nat) (C : World → Prop) (hm : P.follows .mixedOrders = true) (hB : Region.lexB .any ol.toArray = true) (hC : C w.drew)
    (h : QL P ol.toArray C (fun a' => ∀ w', C w' → Q .normal a' w') ol a S []) : (Code.region id ol.toArray true).wp P Q a w :=
  wp_region_quiet (C := C) hm hB hC (show wpQuiet P ol.toArray C _ ol.toArray.toList a by rw [List.toList_toArray]; exact h (fun p hp => by cases hp))
def ck (ops : Array Oper) (a : Act) (S : Nat) (l : List (Tmp × Value)) (o : Oper) (N : Tmp) (b : Bool) : Bool := Nat.beq a.tmps.size S && (match o.dst with | some M => Nat.beq M N | none => false) && Nat.blt N S && (match wantL ops l o with | some c => c == b | none => false)
theorem ck_spec {b : Bool} {N : Tmp} (h : ck ops a S l o N b = true) : a.tmps.size = S ∧ o.dst = some N ∧ N < S ∧ wantL ops l o = some b := by
  unfold ck at h
  simp only [Bool.and_eq_true] at h
  obtain ⟨⟨⟨h1, h2⟩, h3⟩, h4⟩ := h
  refine ⟨Nat.eq_of_beq_eq_true h1, ?_, by simpa using h3, ?_⟩
  · cases hd : o.dst with
    | none => rw [hd] at h2; cases h2
    | some M => rw [hd] at h2; rw [Nat.eq_of_beq_eq_true h2]
  · cases hd : wantL ops l o with
    | none => rw [hd] at h4; cases h4
    | some M => rw [hd] at h4; rw [show M = b by simpa using h4]
/-- An operation that the tests ahead of it leave out. -/
theorem zs (N : Tmp) (h0 : ck ops a S l o N false = true) (h : QL P ops C Q rest a S ((N, undef) :: l)) : QL P ops C Q (o :: rest) a S l := by
  obtain ⟨hS, hN, hN', hw⟩ := ck_spec h0
  intro hl
  unfold wpQuiet
  rw [if_neg (by rw [wanted_putL ops a l (by rw [hS]; exact hl) o false hw]; decide), hN]
  exact h (fun p hp => by rcases List.mem_cons.1 hp with rfl | hp; exact hN'; exact hl p hp)
/-- An operation that yields v in every world of the class. -/
theorem zi (N : Tmp) (v : Value) (h0 : ck ops a S l o N true = true) (hv : ∀ w, C w → (execOp (lookO a l) o).run P w = .ok (.value v) w) (h : QL P ops C Q rest a S ((N, v) :: l)) : QL P ops C Q (o :: rest) a S l := by
  obtain ⟨hS, hN, hN', hw⟩ := ck_spec h0
  intro hl
  have he : (putL a l).eval = lookO a l := funext (eval_putL a l (by rw [hS]; exact hl))
  unfold wpQuiet
  rw [if_pos (wanted_putL ops a l (by rw [hS]; exact hl) o true hw)]
  refine ⟨v, fun w hC => ?_, by rw [hN]; exact h (fun p hp => by rcases List.mem_cons.1 hp with rfl | hp; exact hN'; exact hl p hp)⟩
  unfold Oper.quietAt
  rw [he, hv w hC]
  exact ⟨rfl, rfl⟩
/-- .. in every world. -/
theorem zv (N : Tmp) (v : Value) (h0 : ck ops a S l o N true = true) (hv : ∀ w, (execOp (lookO a l) o).run P w = .ok (.value v) w) (h : QL P ops C Q rest a S ((N, v) :: l)) : QL P ops C Q (o :: rest) a S l :=
  zi N v h0 (fun w _ => hv w) h
/-- A test whose answer is known. -/
theorem zb (N : Tmp) (b b' : Bool) (h0 : ck ops a S l o N true = true) (hv : ∀ w, (execOp (lookO a l) o).run P w = .ok (.value (.bool b)) w) (e : b = b') (h : QL P ops C Q rest a S ((N, .bool b') :: l)) : QL P ops C Q (o :: rest) a S l := by
  subst e
  exact zv N _ h0 hv h
/-- A call. -/
theorem zc (N : Tmp) (v : Value) (f : FuncId) (args : Array Value) (h0 : ck ops a S l o N true = true) (hr : ∀ w, (execOp (lookO a l) o).run P w = .ok (.enter f args) w)
    (hc : ∀ w, C w → Calls P f args w fun e w'' => e = .returned v ∧ C w'') (h : QL P ops C Q rest a S ((N, v) :: l)) : QL P ops C Q (o :: rest) a S l := by
  obtain ⟨hS, hN, hN', hw⟩ := ck_spec h0
  intro hl
  have he : (putL a l).eval = lookO a l := funext (eval_putL a l (by rw [hS]; exact hl))
  unfold wpQuiet
  rw [if_pos (wanted_putL ops a l (by rw [hS]; exact hl) o true hw)]
  refine ⟨v, fun w hC => ?_, by rw [hN]; exact h (fun p hp => by rcases List.mem_cons.1 hp with rfl | hp; exact hN'; exact hl p hp)⟩
  unfold Oper.quietAt
  rw [he, hr w]
  exact ⟨rfl, hc w hC⟩
/-- A move, a choice, a 'not': one check more. -/
theorem zm (N : Tmp) (v : Value) (h0 : ck ops a S l o N true = true) (h1 : mvB (lookO a l) o = some v) (h : QL P ops C Q rest a S ((N, v) :: l)) : QL P ops C Q (o :: rest) a S l := zv N v h0 (fun _ => em h1) h
theorem quiet_list {Q : Act → Prop} {Q' : Exit → Act → World → Prop} (hQ : ∀ a w, C w → Q a → Q' .normal a w) : ∀ (l : List Oper) (a : Act) (w : World), C w → wpQuiet P ops C Q l a → wpList P ops Q' l a w := by
  intro l
  induction l with
  | nil => intro a w hC h; exact hQ a w hC h
  | cons o l ih =>
    intro a w hC h
    unfold wpQuiet at h
    unfold wpList
    split at h
    · rename_i hw
      rw [if_pos hw]
      exact .inl (Oper.wp_of_quiet hC (fun a' w' hw' hk => ih a' w' hw' hk) h)
    · rename_i hw
      rw [if_neg hw]
      exact ih _ w hC h
/-- A region that draws nothing, by the same steps. -/
theorem zl_start {id : Nat} {Q : Exit → Act → World → Prop} {w : World} {ol : List Oper} (S : Nat) (C : World → Prop) (hC : C w)
    (h : QL P ol.toArray C (fun a' => ∀ w', C w' → Q .normal a' w') ol a S []) : (Code.region id ol.toArray false).wp P Q a w :=
  wp_region_list (quiet_list (Q := fun a' => ∀ w', C w' → Q .normal a' w') (fun a' w' hw' hk => hk w' hw') _ _ _ hC (show wpQuiet P ol.toArray C _ ol.toArray.toList a by rw [List.toList_toArray]; exact h (fun p hp => by cases hp)))
theorem z_end (h : Q (putL a l)) : QL P ops C Q [] a S l := fun _ => wpQuiet_nil h
end
theorem ex_look {P : Program} {ρ : Operand → Value} {o : Oper} {w : World} {t : TypeId} {p q : Operand} {u u' v : Value} (ho : o.op = .lookup t p q false) (hp : ρ p = u) (hq : ρ q = u') (h : (Instr.lookup t u u' false).run P w = .ok v w) : (execOp ρ o).run P w = .ok (.value v) w := by
  unfold execOp
  simp [ho, hp, hq, h]
/-! ### the class of worlds in which some blocks stand and nothing older is changed -/
def CH (w : World) (L : List (Nat × Obj)) (W : World) : Prop := (∀ p ∈ L, W.heap[p.1]? = some p.2) ∧ Below w.heap.size w W
def cellO (o : Option (Nat × Obj)) (j : Nat) : Option Value := match o with | some (_, .cells r _ (0, 0)) => r[j]? | _ => none
theorem CH.nil {w W : World} (h : Below w.heap.size w W) : CH w [] W := ⟨fun _ hp => (by cases hp), h⟩
theorem CH.cons {w W : World} {g : Nat} {o : Obj} {L : List (Nat × Obj)} (hg : W.heap[g]? = some o) (h : CH w L W) : CH w ((g, o) :: L) W := ⟨fun p hp => by rcases List.mem_cons.1 hp with rfl | hp; exact hg; exact h.1 p hp, h.2⟩
theorem CH.alloc {w W : World} {L : List (Nat × Obj)} (o : Obj) (h : CH w L W) : CH w ((W.heap.size, o) :: L) (W.alloc o) := ⟨fun p hp => by rcases List.mem_cons.1 hp with rfl | hp; exact blk_new W o; exact blk_alloc (h.1 p hp) o, below_alloc h.2 o⟩
theorem CH.drew {w W : World} {L : List (Nat × Obj)} (h : CH w L W) : CH w L W.drew := ⟨fun p hp => blk_drew (h.1 p hp), below_drew1 h.2⟩
theorem CH.drawn {w W W' : World} {L : List (Nat × Obj)} (h : CH w L W) (hd : Drawn0 W W') : CH w L W' := by
  obtain ⟨n, rfl⟩ := hd.out
  exact ⟨fun p hp => blk_drewN (h.1 p hp) n, pw_below_drewN h.2 n⟩
theorem CH.made {w W W' : World} {L : List (Nat × Obj)} (h : CH w L W) (hb : Below W.heap.size W W') : CH w L W' := ⟨fun p hp => blk_below (h.1 p hp) hb, below_step h.2 hb⟩
theorem CH.old {w W : World} {L : List (Nat × Obj)} (h : CH w L W) {ad : Addr} {v : Value} (hx : w.cell? ad = some v) : W.cell? ad = some v := (h.2.cell (World.block_lt_of_cell? w _ hx)).trans hx
theorem CH.below {w W : World} {L : List (Nat × Obj)} (h : CH w L W) : Below w.heap.size w W := h.2
theorem CH.at {w W : World} {L : List (Nat × Obj)} (h : CH w L W) (i : Nat) {g : Nat} {o : Obj} (hi : L[i]? = some (g, o)) : W.heap[g]? = some o := h.1 (g, o) (List.mem_of_getElem? hi)
theorem CH.c {w W : World} {L : List (Nat × Obj)} (h : CH w L W) (i j : Nat) {g : Nat} {v : Value} (hg : (L[i]?).map Prod.fst = some g) (hv : cellO L[i]? j = some v) : W.cell? ⟨g, j, none⟩ = some v := by
  cases hL : L[i]? with
  | none => rw [hL] at hg; cases hg
  | some p =>
    obtain ⟨g', o⟩ := p
    rw [hL] at hg hv
    simp only [Option.map_some] at hg
    injection hg with hg
    subst hg
    have hb := h.at i hL
    unfold cellO at hv
    split at hv
    · rename_i heq
      injection heq with heq
      injection heq with _ heq
      subst heq
      exact (blk_cell hb j).trans hv
    · cases hv
end Go.Proofs.Ytngmkpediibhjaa.Quiet
