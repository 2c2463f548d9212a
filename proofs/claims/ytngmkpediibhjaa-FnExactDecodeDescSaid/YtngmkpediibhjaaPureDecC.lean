/- The strict reader: what it reads is what was written, and it reads what was written. No condition. -/
import Derived.Test.YtngmkpediibhjaaPureDecB
namespace Go.Proofs.Ytngmkpediibhjaa.Pure
open Go.RowKit Go.Proofs.Ytngmkpediibhjaa.PFnExactDecodeDesc Go.Proofs.Ytngmkpediibhjaa.Kit Go.Proofs.YtngmkpediibhjaaW.PrintWords Go.Proofs.YtngmkpediibhjaaW.PrintLast Go.Proofs.YtngmkpediibhjaaW.PrintMore
set_option linter.unusedVariables false
set_option linter.unusedSimpArgs false

/-- From i to j stand xs. -/
def Rd (b : List Int) (i : Nat) (xs : List Int) (j : Nat) : Prop := j = i + xs.length ∧ b.drop i = xs ++ b.drop j
theorem Rd.nil (b : List Int) (i : Nat) : Rd b i [] i := ⟨rfl, rfl⟩
theorem Rd.append {b xs ys : List Int} {i j k : Nat} (h : Rd b i xs j) (g : Rd b j ys k) : Rd b i (xs ++ ys) k := by
  obtain ⟨h1, h2⟩ := h
  obtain ⟨g1, g2⟩ := g
  exact ⟨by rw [List.length_append]; omega, by rw [h2, g2, List.append_assoc]⟩
theorem Rd.of_prefix {b xs rest : List Int} {i : Nat} (h : b.drop i = xs ++ rest) : Rd b i xs (i + xs.length) := by
  refine ⟨rfl, ?_⟩
  have : b.drop (i + xs.length) = rest := by rw [← List.drop_drop, h, List.drop_left]
  rw [this, h]
theorem Rd.split {b xs ys : List Int} {i k : Nat} (h : Rd b i (xs ++ ys) k) : Rd b i xs (i + xs.length) ∧ Rd b (i + xs.length) ys k := by
  obtain ⟨h1, h2⟩ := h
  rw [List.append_assoc] at h2
  have h3 := Rd.of_prefix h2
  rw [List.length_append] at h1
  refine ⟨h3, by omega, ?_⟩
  have h4 := h3.2
  rw [h2] at h4
  exact (List.append_cancel_left h4).symm
theorem NL_pos (x : Int) : 0 < (NL x).length := by
  unfold NL
  rw [nl]
  split <;> simp
theorem Rd.le {b xs : List Int} {i j : Nat} (h : Rd b i xs j) (hi : i ≤ b.length) : j ≤ b.length := by
  have := congrArg List.length h.2
  rw [List.length_append, List.length_drop, List.length_drop] at this
  have := h.1
  omega
theorem num_of {b : List Int} {i j : Nat} {u : Int} (h : Rd b i (NL u) j) (h0 : 0 ≤ u) (h1 : u < 18446744073709551616) : iNum b i = some (u, (j : Int)) := by
  have := iNum_of b i u _ h.2 h0 h1
  rw [← h.1] at this
  exact this
theorem of_num {b : List Int} (hb : ∀ j, 0 ≤ rd b j ∧ rd b j < 256) {i : Nat} {v J : Int} (h : iNum b i = some (v, J)) : 0 ≤ v ∧ v < 18446744073709551616 ∧ ∃ j : Nat, J = (j : Int) ∧ Rd b i (NL v) j := by
  obtain ⟨h0, h1, h2, h3⟩ := of_iNum b hb i v J h
  exact ⟨h0, h1, _, h2, rfl, h3⟩
theorem below_of {b : List Int} {i j : Nat} {u m : Int} (h : Rd b i (NL u) j) (h0 : 0 ≤ u) (h1 : u ≤ m) (hm : m ≤ 1073741823) : iBelow b i m = some (u, (j : Int)) := by
  rw [iBelow, num_of h h0 (by omega), Option.bind_some, if_pos h1]
theorem of_below {b : List Int} (hb : ∀ j, 0 ≤ rd b j ∧ rd b j < 256) {i : Nat} {v J m : Int} (h : iBelow b i m = some (v, J)) : 0 ≤ v ∧ v ≤ m ∧ ∃ j : Nat, J = (j : Int) ∧ Rd b i (NL v) j := by
  obtain ⟨⟨x, k⟩, h1, h2⟩ := Option.bind_eq_some_iff.mp h
  obtain ⟨g0, g1, j, g2, g3⟩ := of_num hb h1
  by_cases hx : x ≤ m
  · rw [if_pos hx] at h2
    injection h2 with h2
    injection h2 with h3 h4
    subst h3; subst h4
    exact ⟨g0, hx, j, g2, g3⟩
  · rw [if_neg hx] at h2; cases h2
theorem xor_zero (a : Int) (h0 : 0 ≤ a) (h1 : a < 9223372036854775808) : Go.bits .xor .i64 a 0 = a := by
  show IntKind.i64.wrap ((BitVec.ofInt 64 a ^^^ BitVec.ofInt 64 0).toNat : Int) = a
  obtain ⟨n, rfl⟩ := Int.eq_ofNat_of_zero_le h0
  have h2 : BitVec.ofInt 64 (0 : Int) = 0#64 := by decide
  rw [h2, BitVec.xor_zero, BitVec.ofInt_natCast, BitVec.toNat_ofNat, Nat.mod_eq_of_lt (by omega), IntKind.wrap_i64]
  omega
theorem xor_ones (a : Int) (h0 : 0 ≤ a) (h1 : a < 9223372036854775808) : Go.bits .xor .i64 a (-1) = -a - 1 := by
  show IntKind.i64.wrap ((BitVec.ofInt 64 a ^^^ BitVec.ofInt 64 (-1)).toNat : Int) = -a - 1
  obtain ⟨n, rfl⟩ := Int.eq_ofNat_of_zero_le h0
  have h2 : BitVec.ofInt 64 (-1 : Int) = BitVec.allOnes 64 := by decide
  rw [h2, BitVec.xor_allOnes, BitVec.toNat_not, BitVec.ofInt_natCast, BitVec.toNat_ofNat, Nat.mod_eq_of_lt (by omega), IntKind.wrap_i64]
  omega
theorem iUn_eq (v : Int) (h0 : 0 ≤ v) (h1 : v < 18446744073709551616) : iUn v = if v % 2 = 0 then v / 2 else -(v / 2) - 1 := by
  have ha : Go.bits .and .u64 v 1 = v % 2 := bits_mask .u64 64 (by decide) (fun n h0 h1 => by rw [IntKind.wrap_u64]; exact Int.emod_eq_of_lt h0 h1) 1 (by decide) v h0 h1
  unfold iUn
  rw [ha, show wrap64 (v / 2) = v / 2 from by unfold wrap64; omega]
  by_cases h : v % 2 = 0
  · rw [if_pos h, h, show wrap64 (-(wrap64 0)) = 0 from by unfold wrap64; omega, xor_zero _ (by omega) (by omega)]
  · rw [if_neg h, show v % 2 = 1 from by omega, show wrap64 (-(wrap64 1)) = -1 from by unfold wrap64; omega, xor_ones _ (by omega) (by omega)]
theorem iUn_zig (a : Int) (h0 : -2147483646 ≤ a) (h1 : a ≤ 2147483646) : iUn (zig a) = a := by
  have hz := zig_in a h0 h1
  rw [iUn_eq _ hz.1 (by omega)]
  unfold zig
  split <;> split <;> omega
theorem zig_iUn (v : Int) (h0 : 0 ≤ v) (h1 : v < 18446744073709551616) : zig (iUn v) = v := by
  rw [iUn_eq v h0 h1]
  unfold zig
  split <;> split <;> omega
theorem signed_of {b : List Int} {i j : Nat} {a : Int} (h : Rd b i (NL (zig a)) j) (h0 : -2147483646 ≤ a) (h1 : a ≤ 2147483646) : iSigned b i = some (a, (j : Int)) := by
  have hz := zig_in a h0 h1
  rw [iSigned, num_of h hz.1 (by omega), Option.map_some, iUn_zig a h0 h1]
theorem of_signed {b : List Int} (hb : ∀ j, 0 ≤ rd b j ∧ rd b j < 256) {i : Nat} {a J : Int} (h : iSigned b i = some (a, J)) : ∃ j : Nat, J = (j : Int) ∧ Rd b i (NL (zig a)) j := by
  obtain ⟨⟨x, k⟩, h1, h2⟩ := Option.map_eq_some_iff.mp h
  obtain ⟨g0, g1, j, g2, g3⟩ := of_num hb h1
  injection h2 with h3 h4
  subst h3; subst h4
  exact ⟨j, g2, by rw [zig_iUn x g0 g1]; exact g3⟩
theorem tag_of (s : S81) (f : Int) (hs : okS s = true) (hn : badS s = false) : iTag (tagC s f) f = some (s.f3, s.f2, nextF s f) := by
  obtain ⟨h0, h1, h2, h3, h4, h5⟩ := okS_in hs
  unfold badS at hn
  unfold tagC nextF iTag
  by_cases c1 : s.f3 < 0
  · have c2 : s.f2 = 0 := by
      rw [decide_eq_true c1, Bool.true_and] at hn
      simpa using hn
    rw [if_pos c1, if_pos c1, if_pos rfl, c2, show s.f3 = -1 from by omega]
  · rw [if_neg c1, if_neg c1]
    by_cases c2 : s.f2 = f
    · rw [if_pos c2, if_neg (by omega), if_pos (by omega), c2, show 1 + s.f3 - 1 = s.f3 from by omega]
    · rw [if_neg c2, if_neg (by omega), if_neg (by omega), show (257 + s.f3 + 256 * s.f2 - 257) / 256 = s.f2 from by omega, if_neg c2, show (257 + s.f3 + 256 * s.f2 - 257) % 256 = s.f3 from by omega]
theorem of_tag {t f c fo f2 : Int} (h : iTag t f = some (c, fo, f2)) (h0 : 0 ≤ t) (h1 : t ≤ 4352) (s : S81) (hc : s.f3 = c) (hf : s.f2 = fo) : tagC s f = t ∧ f2 = nextF s f ∧ badS s = false := by
  unfold iTag at h
  unfold tagC nextF badS
  by_cases c1 : t = 0
  · rw [if_pos c1] at h
    injection h with h
    injection h with h2 h3
    injection h3 with h3 h4
    subst h4; subst h3; subst h2
    rw [hc, hf, if_pos (by decide), if_pos (by decide)]
    exact ⟨c1.symm, rfl, rfl⟩
  · rw [if_neg c1] at h
    by_cases c2 : t ≤ 256
    · rw [if_pos c2] at h
      injection h with h
      injection h with h2 h3
      injection h3 with h3 h4
      subst h4; subst h3; subst h2
      rw [hc, hf, if_neg (by omega), if_pos rfl, if_neg (by omega), decide_eq_false (by omega)]
      exact ⟨by omega, rfl, rfl⟩
    · rw [if_neg c2] at h
      by_cases c3 : (t - 257) / 256 = f
      · rw [if_pos c3] at h; cases h
      · rw [if_neg c3] at h
        injection h with h
        injection h with h2 h3
        injection h3 with h3 h4
        subst h4; subst h3; subst h2
        rw [hc, hf, if_neg (by omega), if_neg c3, if_neg (by omega), decide_eq_false (by omega)]
        exact ⟨by omega, rfl, rfl⟩
theorem size_of {b : List Int} {i j : Nat} (s : S81) (hs : okS s = true) (h : Rd b i (NL s.f4 ++ NL s.f5) j) : iSize b s.f0 s.f1 s.f3 s.f2 i = some (s, (j : Int)) := by
  obtain ⟨h0, h1, h2, h3, h4, h5⟩ := okS_in hs
  obtain ⟨g1, g2⟩ := h.split
  rw [iSize, below_of g1 h4.1 h4.2 (by omega), Option.bind_some, below_of g2 h5.1 h5.2 (by omega), Option.bind_some]
  exact if_pos hs
theorem of_size {b : List Int} (hb : ∀ j, 0 ≤ rd b j ∧ rd b j < 256) {i : Nat} {X Y c f J : Int} {s : S81} (h : iSize b X Y c f i = some (s, J)) : okS s = true ∧ s.f0 = X ∧ s.f1 = Y ∧ s.f3 = c ∧ s.f2 = f ∧ ∃ j : Nat, J = (j : Int) ∧ Rd b i (NL s.f4 ++ NL s.f5) j := by
  obtain ⟨⟨w, J1⟩, h1, h2⟩ := Option.bind_eq_some_iff.mp h
  obtain ⟨⟨ht, J2⟩, h3, h4⟩ := Option.bind_eq_some_iff.mp h2
  obtain ⟨_, _, j1, rfl, r1⟩ := of_below hb h1
  obtain ⟨_, _, j2, rfl, r2⟩ := of_below hb (show iBelow b (j1 : Int) 1073741823 = some (ht, J2) from h3)
  by_cases hk : okS ⟨X, Y, f, c, w, ht⟩ = true
  · have h5 := (if_pos hk).symm.trans h4
    injection h5 with h5
    injection h5 with h6 h7
    subst h6
    exact ⟨hk, rfl, rfl, rfl, rfl, j2, h7.symm, r1.append r2⟩
  · have h5 := (if_neg hk).symm.trans h4
    cases h5
theorem spot_of {b : List Int} {i j : Nat} {x y f : Int} (s : S81) (hs : okS s = true) (hn : badS s = false) (hxy : inXY x y) (h : Rd b i (encS s x y f) j) : iSpot b x y f i = some (s, nextF s f, (j : Int)) := by
  obtain ⟨h0, h1, h2, h3, h4, h5⟩ := okS_in hs
  obtain ⟨hx, hy⟩ := hxy
  obtain ⟨g1, g⟩ := h.split
  obtain ⟨g2, g⟩ := g.split
  obtain ⟨g3, g⟩ := g.split
  have ht := tag_in s f hs
  rw [iSpot, signed_of g1 (by omega) (by omega), Option.bind_some, signed_of g2 (by omega) (by omega), Option.bind_some, if_pos ((iStep_iff _ _).mpr ⟨⟨by omega, by omega⟩, by omega, by omega⟩), below_of g3 ht.1 ht.2 (by omega), Option.bind_some, tag_of s f hs hn, Option.bind_some, show x + (s.f0 - x) = s.f0 from by omega, show y + (s.f1 - y) = s.f1 from by omega, size_of s hs g]
  rfl
theorem of_spot {b : List Int} (hb : ∀ j, 0 ≤ rd b j ∧ rd b j < 256) {i : Nat} {x y f f2 J : Int} {s : S81} (h : iSpot b x y f i = some (s, f2, J)) : okS s = true ∧ badS s = false ∧ f2 = nextF s f ∧ ∃ j : Nat, J = (j : Int) ∧ Rd b i (encS s x y f) j := by
  obtain ⟨⟨dx, J1⟩, h1, h⟩ := Option.bind_eq_some_iff.mp h
  obtain ⟨j1, rfl, r1⟩ := of_signed hb h1
  obtain ⟨⟨dy, J2⟩, h2, h⟩ := Option.bind_eq_some_iff.mp h
  obtain ⟨j2, rfl, r2⟩ := of_signed hb (show iSigned b (j1 : Int) = some (dy, J2) from h2)
  by_cases hst : iStep dx dy = true
  · replace h := (if_pos hst).symm.trans h
    obtain ⟨⟨t, J3⟩, h3, h⟩ := Option.bind_eq_some_iff.mp h
    obtain ⟨t0, t1, j3, rfl, r3⟩ := of_below hb (show iBelow b (j2 : Int) 4352 = some (t, J3) from h3)
    obtain ⟨⟨c, fo, f3⟩, h4, h⟩ := Option.bind_eq_some_iff.mp h
    obtain ⟨⟨s2, J4⟩, h5, h⟩ := Option.bind_eq_some_iff.mp h
    obtain ⟨ok, e0, e1, e3, e2, j4, rfl, r4⟩ := of_size hb (show iSize b (x + dx) (y + dy) c fo (j3 : Int) = some (s2, J4) from h5)
    injection h with h
    injection h with h6 h7
    injection h7 with h7 h8
    have h9 : s2 = s := h6
    subst h9
    obtain ⟨q1, q2, q3⟩ := of_tag (show iTag t f = some (c, fo, f3) from h4) t0 t1 s2 e3 e2
    refine ⟨ok, q3, h7.symm.trans q2, j4, h8.symm, ?_⟩
    unfold encS
    rw [q1, e0, e1, show x + dx - x = dx from by omega, show y + dy - y = dy from by omega]
    exact r1.append (r2.append (r3.append r4))
  · replace h := (if_neg hst).symm.trans h
    cases h
theorem okXY {s : S81} (hs : okS s = true) : inXY s.f0 s.f1 := ⟨(okS_in hs).1, (okS_in hs).2.1⟩
theorem spots_of {b : List Int} : ∀ (ss : List S81) {i j : Nat} (x y f : Int) (p : List S81), ss.all okS = true → ss.any badS = false → inXY x y → Rd b i (encP ss x y f) j → iSpots b ss.length x y f i p = some (p ++ ss, (j : Int)) := by
  intro ss
  induction ss with
  | nil =>
    intro i j x y f p _ _ _ h
    rw [List.append_nil, h.1]
    rfl
  | cons s ss ih =>
    intro i j x y f p hs hn hxy h
    rw [List.all_cons, Bool.and_eq_true] at hs
    rw [List.any_cons, Bool.or_eq_false_iff] at hn
    obtain ⟨g1, g2⟩ := Rd.split (xs := encS s x y f) (ys := encP ss s.f0 s.f1 (nextF s f)) h
    rw [List.length_cons, iSpots, spot_of s hs.1 hn.1 hxy g1, Option.bind_some]
    refine (ih s.f0 s.f1 (nextF s f) (p ++ [s]) hs.2 hn.2 (okXY hs.1) g2).trans ?_
    rw [List.append_assoc]
    rfl
theorem of_spots {b : List Int} (hb : ∀ j, 0 ≤ rd b j ∧ rd b j < 256) : ∀ (k : Nat) {i : Nat} (x y f : Int) (p p2 : List S81) {J : Int}, iSpots b k x y f i p = some (p2, J) → ∃ (ss : List S81) (j : Nat), J = (j : Int) ∧ p2 = p ++ ss ∧ ss.length = k ∧ ss.all okS = true ∧ ss.any badS = false ∧ Rd b i (encP ss x y f) j := by
  intro k
  induction k with
  | zero =>
    intro i x y f p p2 J h
    injection h with h
    injection h with h1 h2
    exact ⟨[], i, h2.symm, by rw [List.append_nil]; exact h1.symm, rfl, rfl, rfl, Rd.nil b i⟩
  | succ k ih =>
    intro i x y f p p2 J h
    obtain ⟨⟨s, f2, J1⟩, h1, h2⟩ := Option.bind_eq_some_iff.mp h
    obtain ⟨hs, hn, hf, j1, rfl, r1⟩ := of_spot hb h1
    obtain ⟨ss, j, e1, e2, e3, e4, e5, r2⟩ := ih s.f0 s.f1 f2 (p ++ [s]) p2 (show iSpots b k s.f0 s.f1 f2 (j1 : Int) (p ++ [s]) = some (p2, J) from h2)
    refine ⟨s :: ss, j, e1, by rw [e2, List.append_assoc]; rfl, by rw [List.length_cons, e3], by rw [List.all_cons, hs, e4]; rfl, by rw [List.any_cons, hn, e5]; rfl, ?_⟩
    rw [encP, ← hf]
    exact r1.append r2
theorem pages_of {b : List Int} : ∀ (l : List (List S81)) {i j : Nat} (n : Int) (o : List (List S81)), descR l n = true → (l.any fun p => p.any badS) = false → 0 ≤ n → Rd b i (encD l) j → iPages b l.length n i o = some (o ++ l, (j : Int)) := by
  intro l
  induction l with
  | nil =>
    intro i j n o _ _ _ h
    rw [List.append_nil, h.1]
    rfl
  | cons p l ih =>
    intro i j n o hd hn h0 h
    rw [descR] at hd
    by_cases h1 : n + (p.length : Int) > 20000
    · rw [if_pos h1] at hd; cases hd
    · rw [if_neg h1, Bool.and_eq_true] at hd
      rw [List.any_cons, Bool.or_eq_false_iff] at hn
      obtain ⟨g1, g⟩ := Rd.split (xs := NL (p.length : Int)) (ys := encP p 0 0 0 ++ encD l) h
      obtain ⟨g2, g3⟩ := g.split
      rw [List.length_cons, iPages, below_of g1 (by omega) (by omega) (by omega), Option.bind_some, if_pos (show n + (p.length : Int) ≤ 20000 from by omega)]
      have hp := spots_of p 0 0 0 [] hd.1 hn.1 (by unfold inXY; omega) g2
      rw [show ((p.length : Int)).toNat = p.length from by omega]
      refine (congrArg (fun z => Option.bind z _) hp).trans ?_
      rw [Option.bind_some]
      refine (ih (n + (p.length : Int)) (o ++ [[] ++ p]) hd.2 hn.2 (by omega) g3).trans ?_
      rw [List.append_assoc]
      rfl
theorem of_pages {b : List Int} (hb : ∀ j, 0 ≤ rd b j ∧ rd b j < 256) : ∀ (m : Nat) {i : Nat} (n : Int) (o o2 : List (List S81)) {J : Int}, 0 ≤ n → iPages b m n i o = some (o2, J) → ∃ (l : List (List S81)) (j : Nat), J = (j : Int) ∧ o2 = o ++ l ∧ l.length = m ∧ descR l n = true ∧ (l.any fun p => p.any badS) = false ∧ Rd b i (encD l) j := by
  intro m
  induction m with
  | zero =>
    intro i n o o2 J _ h
    injection h with h
    injection h with h1 h2
    exact ⟨[], i, h2.symm, by rw [List.append_nil]; exact h1.symm, rfl, rfl, rfl, Rd.nil b i⟩
  | succ m ih =>
    intro i n o o2 J h0 h
    obtain ⟨⟨kk, J1⟩, h1, h2⟩ := Option.bind_eq_some_iff.mp h
    obtain ⟨k0, k1, j1, rfl, r1⟩ := of_below hb h1
    by_cases hk : n + kk ≤ 20000
    · replace h2 := (if_pos (show n + (kk, (j1 : Int)).1 ≤ 20000 from hk)).symm.trans h2
      obtain ⟨⟨p, J2⟩, h3, h4⟩ := Option.bind_eq_some_iff.mp h2
      obtain ⟨ss, j2, rfl, e2, e3, e4, e5, r2⟩ := of_spots hb kk.toNat 0 0 0 [] p (show iSpots b kk.toNat 0 0 0 (j1 : Int) [] = some (p, J2) from h3)
      rw [List.nil_append] at e2
      subst e2
      have hkl : (p.length : Int) = kk := by omega
      obtain ⟨l, j, q1, q2, q3, q4, q5, r3⟩ := ih (n + kk) (o ++ [p]) o2 (by omega) (show iPages b m (n + kk) (j2 : Int) (o ++ [p]) = some (o2, J) from h4)
      refine ⟨p :: l, j, q1, by rw [q2, List.append_assoc]; rfl, by rw [List.length_cons, q3], ?_, by rw [List.any_cons, e5, q5]; rfl, ?_⟩
      · rw [descR, hkl, if_neg (by omega), e4, q4]; rfl
      · rw [encD, hkl]
        exact r1.append (r2.append r3)
    · replace h2 := (if_neg (show ¬ n + (kk, (j1 : Int)).1 ≤ 20000 from hk)).symm.trans h2
      cases h2
end Go.Proofs.Ytngmkpediibhjaa.Pure
