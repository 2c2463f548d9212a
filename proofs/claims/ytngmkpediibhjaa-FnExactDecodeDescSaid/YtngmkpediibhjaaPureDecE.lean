/- The spec's reader: it reads what is fine; and on any bytes it ends, with what was written so, or with nothing. No condition. -/
import Derived.Test.YtngmkpediibhjaaPureDecD
namespace Go.Proofs.Ytngmkpediibhjaa.Pure
open Go.RowKit Go.Proofs.Ytngmkpediibhjaa.PFnExactDecodeDesc Go.Proofs.Ytngmkpediibhjaa.Kit Go.Proofs.YtngmkpediibhjaaW.PrintWords Go.Proofs.YtngmkpediibhjaaW.PrintLast Go.Proofs.YtngmkpediibhjaaW.PrintMore
set_option linter.unusedVariables false
set_option linter.unusedSimpArgs false

theorem Ev.pos {α : Type} {c : Prop} [Decidable c] {f g : Nat → Option α} {r : α} (hc : c) (h : Ev f r) : Ev (fun k => if c then f k else g k) r := Ev.congr (fun k => if_pos hc) h
theorem Ev.neg {α : Type} {c : Prop} [Decidable c] {f g : Nat → Option α} {r : α} (hc : ¬ c) (h : Ev g r) : Ev (fun k => if c then f k else g k) r := Ev.congr (fun k => if_neg hc) h
theorem sread_of {b : List Int} (hl : b.length ≤ 1048576) (bad : Bool) {i j : Nat} {u : Int} (h : Rd b i (NL u) j) (h0 : 0 ≤ u) (h1 : u < 4398046511104) : Ev (fun k => spec_l15Read.f k b i bad) (u, (j : Int), bad) := by
  have := read_of b bad i u _ hl h.2 h0 h1
  rw [← h.1] at this
  exact this
theorem ssigned_of {b : List Int} (hl : b.length ≤ 1048576) (bad : Bool) {i j : Nat} {a : Int} (h : Rd b i (NL (zig a)) j) (h0 : -2147483646 ≤ a) (h1 : a ≤ 2147483646) : Ev (fun k => spec_l15ReadSigned.f k b i bad) (a, (j : Int), bad) := by
  have hz := zig_in a h0 h1
  unfold spec_l15ReadSigned.f
  refine Ev.bind (sread_of hl bad h hz.1 (by omega)) ?_
  dsimp only
  rw [Int.tmod_eq_emod_of_nonneg hz.1]
  unfold zig
  by_cases hn : a < 0
  · rw [if_pos hn, if_pos (by omega), show wrap64 (-(wrap64 (-2 * a - 1 + 1))) = 2 * a from by unfold wrap64; omega, show wrap64 (Int.tdiv (2 * a) 2) = a from by rw [Int.mul_tdiv_cancel_left _ (by decide)]; unfold wrap64; omega]
    exact Ev.now _
  · rw [if_neg hn, if_neg (by omega), show wrap64 (Int.tdiv (2 * a) 2) = a from by rw [Int.mul_tdiv_cancel_left _ (by decide)]; unfold wrap64; omega]
    exact Ev.now _
theorem ssigned_any (b : List Int) (hb : ∀ j, 0 ≤ rd b j ∧ rd b j < 256) (hl : b.length ≤ 1048576) (bad : Bool) (i : Nat) (hi : i ≤ b.length) : ∃ (v : Int) (j : Nat) (bad' : Bool), Ev (fun k => spec_l15ReadSigned.f k b i bad) (v, (j : Int), bad') ∧ j ≤ b.length := by
  obtain ⟨v, j, bad', he, h0, h1, h2, h3, h4⟩ := read_any b hb hl bad i hi
  by_cases hv : Int.tmod v 2 = 1
  · refine ⟨wrap64 (Int.tdiv (wrap64 (-(wrap64 (v + 1)))) 2), j, bad', ?_, h3⟩
    unfold spec_l15ReadSigned.f
    refine Ev.bind he ?_
    dsimp only
    rw [if_pos hv]
    exact Ev.now _
  · refine ⟨wrap64 (Int.tdiv v 2), j, bad', ?_, h3⟩
    unfold spec_l15ReadSigned.f
    refine Ev.bind he ?_
    dsimp only
    rw [if_neg hv]
    exact Ev.now _
theorem Rd.split2 {b xs ys : List Int} {i k : Nat} (h : Rd b i (xs ++ ys) k) : ∃ j, Rd b i xs j ∧ Rd b j ys k := ⟨_, h.split⟩
theorem spot_run {b : List Int} (hl : b.length ≤ 1048576) {i j : Nat} {x y f : Int} (s : S81) (hs : okS s = true) (hn : badS s = false) (hxy : inXY x y) (h : Rd b i (encS s x y f) j) (z out : List (List S81)) (all n kk : Int) (page : List S81) (hp : page.length ≤ 20000) (hk : 0 < kk) (a2 a3 a4 a5 : Int) (r : List (List S81) × Bool)
    (hr : Ev (fun k => spec_DecodeDesc.l1 k b z out all n (page ++ [s]) (nextF s f) (wrap64 (kk - 1)) b j false s.f0 s.f1 s.f2 s.f3 s.f4 s.f5) r) : Ev (fun k => spec_DecodeDesc.l1 k b z out all n page f kk b i false x y a2 a3 a4 a5) r := by
  obtain ⟨h0, h1, h2, h3, h4, h5⟩ := okS_in hs
  obtain ⟨hx, hy⟩ := hxy
  obtain ⟨j1, g1, g⟩ := h.split2
  obtain ⟨j2, g2, g⟩ := g.split2
  obtain ⟨j3, g3, g⟩ := g.split2
  obtain ⟨j4, g4, g5⟩ := g.split2
  have ht := tag_in s f hs
  refine Ev.step (fun k => by rw [spec_DecodeDesc.l1, if_pos (show kk > 0 from hk)]) ?_
  refine Ev.step (fun k => by rw [spec_DecodeDesc.j5, if_pos (show (!false) = true from rfl)]) ?_
  refine Ev.bind (ssigned_of hl false g1 (by omega) (by omega)) ?_
  dsimp only
  refine Ev.bind (ssigned_of hl false g2 (by omega) (by omega)) ?_
  dsimp only
  refine Ev.bind (sread_of hl false g3 ht.1 (by omega)) ?_
  dsimp only
  rw [show wrap64 (x + (s.f0 - x)) = s.f0 from by unfold wrap64; omega, show wrap64 (y + (s.f1 - y)) = s.f1 from by unfold wrap64; omega]
  unfold badS at hn
  unfold tagC
  unfold nextF at hr
  have e5 : s = ⟨s.f0, s.f1, s.f2, s.f3, s.f4, s.f5⟩ := rfl
  by_cases c1 : s.f3 < 0
  · have c2 : s.f2 = 0 := by
      rw [decide_eq_true c1, Bool.true_and] at hn
      simpa using hn
    have c3 : s.f3 = -1 := by omega
    rw [if_pos c1]
    refine Ev.neg (by omega) ?_
    rw [if_pos c1] at hr
    refine Ev.step (fun k => by rw [spec_DecodeDesc.j6, if_neg (by omega)]) ?_
    refine Ev.bind (sread_of hl false g4 (by omega) (by omega)) ?_
    dsimp only
    refine Ev.bind (sread_of hl false g5 (by omega) (by omega)) ?_
    dsimp only
    refine Ev.pos (by omega) ?_
    rw [e5, c2, c3] at hr
    exact hr
  · by_cases c2 : s.f2 = f
    · rw [if_neg c1, if_pos c2]
      refine Ev.neg (by omega) ?_
      rw [if_neg c1] at hr
      refine Ev.step (fun k => by rw [spec_DecodeDesc.j6, if_pos (by omega)]) ?_
      refine Ev.bind (sread_of hl false g4 (by omega) (by omega)) ?_
      dsimp only
      refine Ev.bind (sread_of hl false g5 (by omega) (by omega)) ?_
      dsimp only
      refine Ev.pos (by omega) ?_
      rw [show wrap64 (1 + s.f3 - 1) = s.f3 from by unfold wrap64; omega, ← c2]
      exact hr
    · rw [if_neg c1, if_neg c2]
      refine Ev.pos (by omega) ?_
      rw [if_neg c1] at hr
      rw [show wrap64 (257 + s.f3 + 256 * s.f2 - 257) = s.f3 + 256 * s.f2 from by unfold wrap64; omega, show wrap64 (Int.tdiv (s.f3 + 256 * s.f2) 256) = s.f2 from by rw [Int.tdiv_eq_ediv_of_nonneg (by omega)]; unfold wrap64; omega, show wrap64 (Int.tmod (s.f3 + 256 * s.f2) 256 + 1) = s.f3 + 1 from by rw [Int.tmod_eq_emod_of_nonneg (by omega)]; unfold wrap64; omega]
      refine Ev.step (fun k => by rw [spec_DecodeDesc.j6, if_pos (by omega)]) ?_
      refine Ev.bind (sread_of hl false g4 (by omega) (by omega)) ?_
      dsimp only
      refine Ev.bind (sread_of hl false g5 (by omega) (by omega)) ?_
      dsimp only
      refine Ev.pos (by omega) ?_
      rw [show wrap64 (s.f3 + 1 - 1) = s.f3 from by unfold wrap64; omega]
      exact hr
theorem spots_run {b : List Int} (hl : b.length ≤ 1048576) (z out : List (List S81)) (hout : out.length ≤ 1000) (all n : Int) (r : List (List S81) × Bool) : ∀ (ss : List S81) {i j : Nat} (x y f : Int) (page : List S81) (a2 a3 a4 a5 : Int), ss.all okS = true → ss.any badS = false → inXY x y → page.length + ss.length ≤ 20000 → Rd b i (encP ss x y f) j → Ev (fun k => spec_DecodeDesc.l0 k b z (out ++ [page ++ ss]) all (wrap64 (n - 1)) b j false) r → Ev (fun k => spec_DecodeDesc.l1 k b z out all n page f (ss.length : Int) b i false x y a2 a3 a4 a5) r := by
  intro ss
  induction ss with
  | nil =>
    intro i j x y f page a2 a3 a4 a5 _ _ _ _ h hr
    rw [List.append_nil, h.1] at hr
    refine Ev.step (fun k => by rw [spec_DecodeDesc.l1, if_neg (show ¬ ((([] : List S81).length : Int) > 0) from by simp)]) ?_
    refine Ev.step (fun k => by rw [spec_DecodeDesc.j5, if_neg (by decide), if_pos (by omega)]) ?_
    exact hr
  | cons s ss ih =>
    intro i j x y f page a2 a3 a4 a5 hs hn hxy hp h hr
    rw [List.all_cons, Bool.and_eq_true] at hs
    rw [List.any_cons, Bool.or_eq_false_iff] at hn
    rw [List.length_cons] at hp
    obtain ⟨g1, g2⟩ := Rd.split (xs := encS s x y f) (ys := encP ss s.f0 s.f1 (nextF s f)) h
    refine spot_run hl s hs.1 hn.1 hxy g1 z out all n _ page (by omega) (by rw [List.length_cons]; omega) a2 a3 a4 a5 r ?_
    rw [show wrap64 (((s :: ss).length : Int) - 1) = (ss.length : Int) from by rw [List.length_cons]; unfold wrap64; omega]
    refine ih s.f0 s.f1 (nextF s f) (page ++ [s]) s.f2 s.f3 s.f4 s.f5 hs.2 hn.2 (okXY hs.1) (by rw [List.length_append, List.length_singleton]; omega) g2 ?_
    rw [List.append_assoc]
    exact hr
theorem pages_run {b : List Int} (hl : b.length ≤ 1048576) (z : List (List S81)) (r : List (List S81) × Bool) : ∀ (l : List (List S81)) {i j : Nat} (out : List (List S81)) (all : Int), descR l all = true → (l.any fun p => p.any badS) = false → out.length + l.length ≤ 1000 → 0 ≤ all → all ≤ 20000 → Rd b i (encD l) j → (∀ all', Ev (fun k => spec_DecodeDesc.l0 k b z (out ++ l) all' 0 b j false) r) → Ev (fun k => spec_DecodeDesc.l0 k b z out all (l.length : Int) b i false) r := by
  intro l
  induction l with
  | nil =>
    intro i j out all _ _ _ _ _ h hr
    have := hr all
    rw [List.append_nil, h.1] at this
    exact this
  | cons p l ih =>
    intro i j out all hd hn ho a0 a1 h hr
    rw [descR] at hd
    rw [List.length_cons] at ho
    by_cases h1 : all + (p.length : Int) > 20000
    · rw [if_pos h1] at hd; cases hd
    · rw [if_neg h1, Bool.and_eq_true] at hd
      rw [List.any_cons, Bool.or_eq_false_iff] at hn
      obtain ⟨g1, g⟩ := Rd.split (xs := NL (p.length : Int)) (ys := encP p 0 0 0 ++ encD l) h
      obtain ⟨g2, g3⟩ := g.split
      refine Ev.step (fun k => by rw [spec_DecodeDesc.l0, if_pos (show (((p :: l).length : Nat) : Int) > 0 from by rw [List.length_cons]; omega)]) ?_
      refine Ev.step (fun k => by rw [spec_DecodeDesc.j2, if_pos (show (!false) = true from rfl), Option.bind_some]) ?_
      refine Ev.bind (sread_of hl false g1 (by omega) (by omega)) ?_
      dsimp only
      rw [show wrap64 (all + (p.length : Int)) = all + (p.length : Int) from by unfold wrap64; omega]
      refine Ev.neg h1 ?_
      rw [decide_eq_false (show ¬ ((out.length : Int) ≥ 1000) from by omega)]
      refine Ev.step (fun k => by rw [spec_DecodeDesc.j3, if_neg (by decide)]) ?_
      refine spots_run hl z out (by omega) _ _ r p 0 0 0 [] 0 0 0 0 hd.1 hn.1 (by unfold inXY; omega) (by rw [List.length_nil]; omega) g2 ?_
      rw [show wrap64 (((p :: l).length : Int) - 1) = (l.length : Int) from by rw [List.length_cons]; unfold wrap64; omega, List.nil_append]
      refine ih (out ++ [p]) (all + (p.length : Int)) hd.2 hn.2 (by rw [List.length_append, List.length_singleton]; omega) (by omega) (by omega) g3 ?_
      intro all'
      rw [List.append_assoc]
      exact hr all'
/-! ### bytes, compared -/
theorem bytes_l0 (t b : List Int) (hl : t.length ≤ 9223372036854775806) (e : t.length = b.length) : ∀ d i : Nat, t.length - i = d → i ≤ t.length → ∃ q, Ev (fun k => spec_l12Bytes.l0 k t b i) q ∧ (q = true ↔ t.drop i = b.drop i) := by
  intro d
  induction d with
  | zero =>
    intro i hd hi
    refine ⟨true, Ev.step (f := fun _ => some true) (fun k => by rw [spec_l12Bytes.l0, if_neg (by omega)]) (Ev.now _), fun _ => ?_, fun _ => rfl⟩
    rw [List.drop_of_length_le (by omega), List.drop_of_length_le (by omega)]
  | succ d ih =>
    intro i hd hi
    obtain ⟨q, hq, hiff⟩ := ih (i + 1) (by omega) (by omega)
    rw [drop_rd t i (by omega), drop_rd b i (by omega)]
    by_cases hc : rd t (i : Int) = rd b (i : Int)
    · refine ⟨q, Ev.step (fun k => ?_) hq, fun h => ?_, fun h => ?_⟩
      · rw [spec_l12Bytes.l0, if_pos (by omega), if_pos (by omega), if_pos (by omega), if_pos hc, wrap_succ i (by omega)]
      · rw [hc, hiff.mp h]
      · injection h with _ h2
        exact hiff.mpr h2
    · refine ⟨false, Ev.step (f := fun _ => some false) (fun k => ?_) (Ev.now _), fun h => ?_, fun h => ?_⟩
      · rw [spec_l12Bytes.l0, if_pos (by omega), if_pos (by omega), if_pos (by omega), if_neg hc]
      · cases h
      · injection h with h2 _
        exact absurd h2 hc
theorem bytes_ev (t b : List Int) (hl : t.length ≤ 9223372036854775806) : ∃ q, Ev (fun k => spec_l12Bytes.f k t b) q ∧ (q = true ↔ t = b) := by
  unfold spec_l12Bytes.f
  by_cases e : (t.length : Int) = (b.length : Int)
  · obtain ⟨q, hq, hiff⟩ := bytes_l0 t b hl (by omega) t.length 0 (by omega) (by omega)
    refine ⟨q, ?_, by rw [hiff]; simp⟩
    simp only [if_pos e]
    exact hq
  · have hne : ¬ t = b := fun h => e (by rw [h])
    refine ⟨false, ?_, ⟨fun h => Bool.noConfusion h, fun h => absurd h hne⟩⟩
    simp only [if_neg e]
    exact Ev.now _
/-! ### any bytes -/
def Good (b : List Int) (r : List (List S81) × Bool) : Prop := r = ([], false) ∨ ∃ o, r = (o, true) ∧ fine o = true ∧ b = encF o
theorem fin_any {b : List Int} (hb4 : 4 ≤ b.length) (out : List (List S81)) (h1 : out.length ≤ 1000) (h2 : ∀ p ∈ out, p.length ≤ 1048576) : ∃ r, Ev (fun k => (spec_EncodeDesc.f k out).bind fun t => (spec_l12Bytes.f k t b).bind fun q => if q = true then some (out, true) else some (([] : List (List S81)), false)) r ∧ Good b r := by
  have hE := enc_spec out (by omega) h2
  have hlen := eF_len out (by omega) h2 (okD out)
  obtain ⟨q, hq, hiff⟩ := bytes_ev (eF out (okD out)) b (by omega)
  cases q with
  | false =>
    refine ⟨([], false), Ev.bind hE (Ev.bind hq ?_), .inl rfl⟩
    rw [if_neg (by decide)]
    exact Ev.now _
  | true =>
    have he := hiff.mp rfl
    have hf := eF_fine out (by rw [he]; intro h; rw [h] at hb4; simp at hb4)
    refine ⟨(out, true), Ev.bind hE (Ev.bind hq ?_), .inr ⟨out, rfl, hf, by rw [← eF_encF out hf]; exact he.symm⟩⟩
    rw [if_pos rfl]
    exact Ev.now _
theorem l0_end {b : List Int} (hb4 : 4 ≤ b.length) (out : List (List S81)) (h1 : out.length ≤ 1000) (h2 : ∀ p ∈ out, p.length ≤ 1048576) (all n i : Int) (bad : Bool) (hc : ¬ n > 0 ∨ bad = true) : ∃ r, Ev (fun k => spec_DecodeDesc.l0 k b [] out all n b i bad) r ∧ Good b r := by
  have key : ∃ r, Ev (fun k => spec_DecodeDesc.j2 k b [] out all n false b i bad) r ∧ Good b r := by
    cases bad with
    | true =>
      refine ⟨([], false), Ev.step (f := fun _ => some (([] : List (List S81)), false)) (fun k => ?_) (Ev.now _), .inl rfl⟩
      rw [spec_DecodeDesc.j2, if_neg (by decide), if_pos rfl]
    | false =>
      obtain ⟨r, hr, hg⟩ := fin_any hb4 out h1 h2
      refine ⟨r, Ev.step (fun k => ?_) hr, hg⟩
      rw [spec_DecodeDesc.j2, if_neg (by decide), if_neg (by decide)]
  obtain ⟨r, hr, hg⟩ := key
  by_cases hn : n > 0
  · have hbad : bad = true := hc.elim (fun h => absurd hn h) id
    subst hbad
    exact ⟨r, Ev.step (fun k => by rw [spec_DecodeDesc.l0, if_pos hn]; rfl) hr, hg⟩
  · exact ⟨r, Ev.step (fun k => by rw [spec_DecodeDesc.l0, if_neg hn]) hr, hg⟩
theorem l1_any {b : List Int} (hb : ∀ j, 0 ≤ rd b j ∧ rd b j < 256) (hl : b.length ≤ 1048576) (out : List (List S81)) (hout : out.length ≤ 1000) (all n : Int)
    (H : ∀ (page : List S81) (i : Nat) (bad : Bool), page.length ≤ 20000 → i ≤ b.length → ∃ r, Ev (fun k => spec_DecodeDesc.l0 k b [] (out ++ [page]) all (wrap64 (n - 1)) b i bad) r ∧ Good b r) :
    ∀ (d : Nat) (page : List S81) (f : Int) (i : Nat) (bad : Bool) (a0 a1 a2 a3 a4 a5 : Int), page.length + d ≤ 20000 → i ≤ b.length → ∃ r, Ev (fun k => spec_DecodeDesc.l1 k b [] out all n page f (d : Int) b i bad a0 a1 a2 a3 a4 a5) r ∧ Good b r := by
  intro d
  have stop : ∀ (kk : Int) (page : List S81) (f : Int) (i : Nat) (bad : Bool) (a0 a1 a2 a3 a4 a5 : Int), page.length ≤ 20000 → i ≤ b.length → ∃ r, Ev (fun k => spec_DecodeDesc.j5 k b [] out all n page f kk false b i bad a0 a1 a2 a3 a4 a5) r ∧ Good b r := by
    intro kk page f i bad a0 a1 a2 a3 a4 a5 hp hi
    obtain ⟨r, hr, hg⟩ := H page i bad hp hi
    refine ⟨r, Ev.step (fun k => ?_) hr, hg⟩
    rw [spec_DecodeDesc.j5, if_neg (by decide), if_pos (by omega)]
  induction d with
  | zero =>
    intro page f i bad a0 a1 a2 a3 a4 a5 hp hi
    obtain ⟨r, hr, hg⟩ := stop ((0 : Nat) : Int) page f i bad a0 a1 a2 a3 a4 a5 (by omega) hi
    exact ⟨r, Ev.step (fun k => by rw [spec_DecodeDesc.l1, if_neg (by omega)]) hr, hg⟩
  | succ d ih =>
    intro page f i bad a0 a1 a2 a3 a4 a5 hp hi
    cases bad with
    | true =>
      obtain ⟨r, hr, hg⟩ := stop ((d + 1 : Nat) : Int) page f i true a0 a1 a2 a3 a4 a5 (by omega) hi
      exact ⟨r, Ev.step (fun k => by rw [spec_DecodeDesc.l1, if_pos (by omega)]; rfl) hr, hg⟩
    | false =>
      obtain ⟨dx, i1, b1, e1, hi1⟩ := ssigned_any b hb hl false i hi
      obtain ⟨dy, i2, b2, e2, hi2⟩ := ssigned_any b hb hl b1 i1 hi1
      obtain ⟨tag, i3, b3, e3, _, _, _, hi3, _⟩ := read_any b hb hl b2 i2 hi2
      obtain ⟨wd, i4, b4, e4, _, _, _, hi4, _⟩ := read_any b hb hl b3 i3 hi3
      obtain ⟨ht, i5, b5, e5, _, _, _, hi5, _⟩ := read_any b hb hl b4 i4 hi4
      have j6_any : ∀ (f tag s0 s1 s2 s3 s4 s5 : Int), ∃ r, Ev (fun k => spec_DecodeDesc.j6 k b [] out all n page f ((d + 1 : Nat) : Int) tag b i3 b3 s0 s1 s2 s3 s4 s5) r ∧ Good b r := by
        intro f tag s0 s1 s2 s3 s4 s5
        have hw : wrap64 (((d + 1 : Nat) : Int) - 1) = (d : Int) := by unfold wrap64; omega
        by_cases hc : tag > 0
        · obtain ⟨r, hr, hg⟩ := ih (page ++ [⟨s0, s1, f, wrap64 (tag - 1), wd, ht⟩]) f i5 b5 s0 s1 f (wrap64 (tag - 1)) wd ht (by rw [List.length_append, List.length_singleton]; omega) hi5
          refine ⟨r, Ev.step (fun k => by rw [spec_DecodeDesc.j6, if_pos hc]) ?_, hg⟩
          refine Ev.bind e4 ?_
          dsimp only
          refine Ev.bind e5 ?_
          dsimp only
          refine Ev.pos (by omega) ?_
          rw [hw]
          exact hr
        · obtain ⟨r, hr, hg⟩ := ih (page ++ [⟨s0, s1, s2, s3, wd, ht⟩]) f i5 b5 s0 s1 s2 s3 wd ht (by rw [List.length_append, List.length_singleton]; omega) hi5
          refine ⟨r, Ev.step (fun k => by rw [spec_DecodeDesc.j6, if_neg hc]) ?_, hg⟩
          refine Ev.bind e4 ?_
          dsimp only
          refine Ev.bind e5 ?_
          dsimp only
          refine Ev.pos (by omega) ?_
          rw [hw]
          exact hr
      by_cases hc : tag > 256
      · obtain ⟨r, hr, hg⟩ := j6_any (wrap64 (Int.tdiv (wrap64 (tag - 257)) 256)) (wrap64 ((Int.tmod (wrap64 (tag - 257)) 256) + 1)) (wrap64 (a0 + dx)) (wrap64 (a1 + dy)) 0 (-1) a4 a5
        refine ⟨r, Ev.step (fun k => by rw [spec_DecodeDesc.l1, if_pos (by omega)]) ?_, hg⟩
        refine Ev.step (fun k => by rw [spec_DecodeDesc.j5, if_pos (show (!false) = true from rfl)]) ?_
        refine Ev.bind e1 ?_
        dsimp only
        refine Ev.bind e2 ?_
        dsimp only
        refine Ev.bind e3 ?_
        dsimp only
        exact Ev.pos hc hr
      · obtain ⟨r, hr, hg⟩ := j6_any f tag (wrap64 (a0 + dx)) (wrap64 (a1 + dy)) 0 (-1) a4 a5
        refine ⟨r, Ev.step (fun k => by rw [spec_DecodeDesc.l1, if_pos (by omega)]) ?_, hg⟩
        refine Ev.step (fun k => by rw [spec_DecodeDesc.j5, if_pos (show (!false) = true from rfl)]) ?_
        refine Ev.bind e1 ?_
        dsimp only
        refine Ev.bind e2 ?_
        dsimp only
        refine Ev.bind e3 ?_
        dsimp only
        exact Ev.neg hc hr
theorem l0_any {b : List Int} (hb : ∀ j, 0 ≤ rd b j ∧ rd b j < 256) (hl : b.length ≤ 1048576) (hb4 : 4 ≤ b.length) : ∀ (e : Nat) (out : List (List S81)) (all n : Int) (i : Nat) (bad : Bool), 1000 - out.length = e → out.length ≤ 1000 → (∀ p ∈ out, p.length ≤ 20000) → 0 ≤ all → all ≤ 20000 → i ≤ b.length → ∃ r, Ev (fun k => spec_DecodeDesc.l0 k b [] out all n b i bad) r ∧ Good b r := by
  intro e
  induction e with
  | zero =>
    intro out all n i bad he ho hp a0 a1 hi
    by_cases hc : ¬ n > 0 ∨ bad = true
    · exact l0_end hb4 out ho (fun p h => by have := hp p h; omega) all n i bad hc
    · have hn : n > 0 := Decidable.byContradiction fun h => hc (.inl h)
      have hbad : bad = false := Bool.eq_false_iff.mpr fun h => hc (.inr h)
      subst hbad
      obtain ⟨kk, i1, b1, e1, k0, k1, _, hi1, _⟩ := read_any b hb hl false i hi
      refine ⟨([], false), Ev.step (fun k => by rw [spec_DecodeDesc.l0, if_pos hn]) ?_, .inl rfl⟩
      refine Ev.step (fun k => by rw [spec_DecodeDesc.j2, if_pos (show (!false) = true from rfl), Option.bind_some]) ?_
      refine Ev.bind e1 ?_
      dsimp only
      rw [decide_eq_true (show (out.length : Int) ≥ 1000 from by omega)]
      by_cases hk : wrap64 (all + kk) > 20000
      · refine Ev.pos hk ?_
        exact Ev.step (f := fun _ => some (([] : List (List S81)), false)) (fun k => by rw [spec_DecodeDesc.j3, if_pos rfl]) (Ev.now _)
      · refine Ev.neg hk ?_
        exact Ev.step (f := fun _ => some (([] : List (List S81)), false)) (fun k => by rw [spec_DecodeDesc.j3, if_pos rfl]) (Ev.now _)
  | succ e ih =>
    intro out all n i bad he ho hp a0 a1 hi
    by_cases hc : ¬ n > 0 ∨ bad = true
    · exact l0_end hb4 out ho (fun p h => by have := hp p h; omega) all n i bad hc
    · have hn : n > 0 := Decidable.byContradiction fun h => hc (.inl h)
      have hbad : bad = false := Bool.eq_false_iff.mpr fun h => hc (.inr h)
      subst hbad
      obtain ⟨kk, i1, b1, e1, k0, k1, _, hi1, _⟩ := read_any b hb hl false i hi
      have hw : wrap64 (all + kk) = all + kk := by unfold wrap64; omega
      by_cases hk : all + kk > 20000
      · refine ⟨([], false), Ev.step (fun k => by rw [spec_DecodeDesc.l0, if_pos hn]) ?_, .inl rfl⟩
        refine Ev.step (fun k => by rw [spec_DecodeDesc.j2, if_pos (show (!false) = true from rfl), Option.bind_some]) ?_
        refine Ev.bind e1 ?_
        dsimp only
        rw [hw]
        refine Ev.pos hk ?_
        exact Ev.step (f := fun _ => some (([] : List (List S81)), false)) (fun k => by rw [spec_DecodeDesc.j3, if_pos rfl]) (Ev.now _)
      · obtain ⟨r, hr, hg⟩ := l1_any hb hl out ho (all + kk) n (fun page i' bad' hp' hi' => ih (out ++ [page]) (all + kk) (wrap64 (n - 1)) i' bad' (by rw [List.length_append, List.length_singleton]; omega) (by rw [List.length_append, List.length_singleton]; omega) (fun p h => by
          rcases List.mem_append.mp h with h | h
          · exact hp p h
          · rw [List.mem_singleton.mp h]; exact hp') (by omega) (by omega) hi') kk.toNat [] 0 i1 b1 0 0 0 0 0 0 (by rw [List.length_nil]; omega) hi1
        rw [show ((kk.toNat : Nat) : Int) = kk from by omega] at hr
        refine ⟨r, Ev.step (fun k => by rw [spec_DecodeDesc.l0, if_pos hn]) ?_, hg⟩
        refine Ev.step (fun k => by rw [spec_DecodeDesc.j2, if_pos (show (!false) = true from rfl), Option.bind_some]) ?_
        refine Ev.bind e1 ?_
        dsimp only
        rw [hw]
        refine Ev.neg hk ?_
        rw [decide_eq_false (show ¬ ((out.length : Int) ≥ 1000) from by omega)]
        refine Ev.step (fun k => by rw [spec_DecodeDesc.j3, if_neg (by decide)]) ?_
        exact hr
theorem spec_any {b : List Int} (hb : ∀ j, 0 ≤ rd b j ∧ rd b j < 256) (hl : b.length ≤ 1048576) : ∃ r, Ev (fun k => spec_DecodeDesc.f k b) r ∧ Good b r := by
  unfold spec_DecodeDesc.f
  simp only [Option.bind_some]
  by_cases h4 : (b.length : Int) < 4
  · simp only [if_pos h4]
    exact ⟨([], false), Ev.step (f := fun _ => some (([] : List (List S81)), false)) (fun k => by rw [spec_DecodeDesc.j0, if_pos rfl]) (Ev.now _), .inl rfl⟩
  · have h5 : 4 ≤ (b.length : Int) := by omega
    simp only [if_neg h4, if_pos h5]
    cases hq : ((strOfNums (b.take 4)).toList != ([81, 80, 68, 49] : List UInt8)) with
    | true => exact ⟨([], false), Ev.step (f := fun _ => some (([] : List (List S81)), false)) (fun k => by rw [spec_DecodeDesc.j0, if_pos rfl]) (Ev.now _), .inl rfl⟩
    | false =>
      obtain ⟨n, i1, b1, e1, n0, n1, _, hi1, _⟩ := read_any b hb hl false 4 (by omega)
      obtain ⟨r, hr, hg⟩ := l0_any hb hl (by omega) 1000 [] 0 n i1 b1 rfl (by simp) (by simp) (by decide) (by decide) hi1
      refine ⟨r, Ev.step (fun k => by rw [spec_DecodeDesc.j0, if_neg (by decide)]) ?_, hg⟩
      exact Ev.bind (g := fun k => spec_l15Read.f k b 4 false) e1 hr
theorem spec_fine {b : List Int} {l : List (List S81)} (hf : fine l = true) (hl : b.length ≤ 1048576) (e : b = encF l) : Ev (fun k => spec_DecodeDesc.f k b) (l, true) := by
  obtain ⟨f1, f2, f3⟩ := fine_in hf
  obtain ⟨pre, hpre⟩ : ∃ pre, pre = [81, 80, 68, 49] ++ (NL (l.length : Int) ++ encD l) := ⟨_, rfl⟩
  have e1 : b = pre ++ [(sumP pre + pre.length) % 65521 % 256, (sumP pre + pre.length) % 65521 / 256] := by rw [e, encF, ← hpre]; rfl
  have hbl : b.length = pre.length + 2 := by rw [e1, List.length_append]; rfl
  have hpl : pre.length = 4 + (NL (l.length : Int) ++ encD l).length := by rw [hpre, List.length_append]; rfl
  have hd4 : b.drop 4 = (NL (l.length : Int) ++ encD l) ++ [(sumP pre + pre.length) % 65521 % 256, (sumP pre + pre.length) % 65521 / 256] := by
    rw [e1]
    generalize [(sumP pre + pre.length) % 65521 % 256, (sumP pre + pre.length) % 65521 / 256] = t
    rw [hpre]
    rfl
  have ht4 : b.take 4 = [81, 80, 68, 49] := by
    rw [e1]
    generalize [(sumP pre + pre.length) % 65521 % 256, (sumP pre + pre.length) % 65521 / 256] = t
    rw [hpre]
    rfl
  have hr := Rd.of_prefix hd4
  rw [← hpl] at hr
  obtain ⟨g1, g2⟩ := hr.split
  have hm : ∀ p ∈ l, p.length ≤ 1048576 := by
    have : ∀ (l : List (List S81)) (n : Int), 0 ≤ n → descR l n = true → ∀ p ∈ l, p.length ≤ 1048576 := by
      intro l
      induction l with
      | nil => intro n _ _ p hp; simp at hp
      | cons q l ih =>
        intro n h0 hd p hp
        rw [descR] at hd
        by_cases h1 : n + (q.length : Int) > 20000
        · rw [if_pos h1] at hd; cases hd
        · rw [if_neg h1, Bool.and_eq_true] at hd
          rcases List.mem_cons.mp hp with h | h
          · rw [h]; omega
          · exact ih _ (by omega) hd.2 p h
    exact this l 0 (by decide) f2
  have hE := enc_spec l (by omega) hm
  have hlen := eF_len l (by omega) hm (okD l)
  rw [eF_encF l hf, ← e] at hE
  obtain ⟨q, hq, hiff⟩ := bytes_ev b b (by omega)
  rw [hiff.mpr rfl] at hq
  have hend : ∀ all', Ev (fun k => spec_DecodeDesc.l0 k b [] ([] ++ l) all' 0 b (pre.length : Int) false) (l, true) := by
    intro all'
    rw [List.nil_append]
    refine Ev.step (fun k => by rw [spec_DecodeDesc.l0, if_neg (by decide)]) ?_
    refine Ev.step (fun k => by rw [spec_DecodeDesc.j2, if_neg (by decide), if_neg (by decide)]) ?_
    refine Ev.bind hE (Ev.bind hq ?_)
    rw [if_pos rfl]
    exact Ev.now _
  have hrun := pages_run hl [] (l, true) l [] 0 f2 f3 (by rw [List.length_nil]; omega) (by decide) (by decide) g2 hend
  unfold spec_DecodeDesc.f
  simp only [Option.bind_some]
  have h4 : ¬ (b.length : Int) < 4 := by omega
  have h5 : 4 ≤ (b.length : Int) := by omega
  simp only [if_neg h4, if_pos h5]
  have hmg : ((strOfNums (b.take 4)).toList != ([81, 80, 68, 49] : List UInt8)) = false := by rw [bne, magic_of ht4]; rfl
  rw [hmg]
  refine Ev.step (fun k => by rw [spec_DecodeDesc.j0, if_neg (by decide)]) ?_
  exact Ev.bind (g := fun k => spec_l15Read.f k b 4 false) (sread_of hl false g1 (by omega) (by omega)) hrun
theorem ev_one {α : Type} {g : Nat → Option α} {r s : α} (h : Ev g r) (k : Ev g s) : r = s := by
  obtain ⟨K, hK⟩ := h
  obtain ⟨L, hL⟩ := k
  have h1 := hK (max K L) (Nat.le_max_left _ _)
  have h2 := hL (max K L) (Nat.le_max_right _ _)
  rw [h1] at h2
  exact Option.some.inj h2
/-- Both readers give the same. -/
theorem both (b : List Int) (hb : ∀ j, 0 ≤ rd b j ∧ rd b j < 256) (hl : b.length ≤ 1048576) : Ev (fun k => spec_DecodeDesc.f k b) (iRes b) := by
  obtain ⟨r, hr, hg⟩ := spec_any hb hl
  unfold iRes
  rcases hg with rfl | ⟨o, rfl, hf, e⟩
  · cases hq : iDec b with
    | none => exact hr
    | some o =>
      obtain ⟨hf, e⟩ := of_dec hb hl hq
      exact absurd (ev_one hr (spec_fine hf hl e)) (by intro h; injection h with _ h; cases h)
  · rw [dec_of hf hl e]
    exact hr
end Go.Proofs.Ytngmkpediibhjaa.Pure
