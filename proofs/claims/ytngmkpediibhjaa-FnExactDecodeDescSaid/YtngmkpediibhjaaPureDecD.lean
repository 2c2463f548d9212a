/- The strict reader over the whole: it reads what is fine, and what it reads is fine and was written so. No condition. -/
import Derived.Test.YtngmkpediibhjaaPureDecC
namespace Go.Proofs.Ytngmkpediibhjaa.Pure
open Go.RowKit Go.Proofs.Ytngmkpediibhjaa.PFnExactDecodeDesc Go.Proofs.Ytngmkpediibhjaa.Kit Go.Proofs.YtngmkpediibhjaaW.PrintWords Go.Proofs.YtngmkpediibhjaaW.PrintLast Go.Proofs.YtngmkpediibhjaaW.PrintMore
set_option linter.unusedVariables false
set_option linter.unusedSimpArgs false

theorem magic_of {b : List Int} (h : b.take 4 = [81, 80, 68, 49]) : ((strOfNums (b.take 4)).toList == ([81, 80, 68, 49] : List UInt8)) = true := by
  rw [h, ByteArray.toList_eq, strOfNums_data]
  decide
theorem byte_is (x : Int) (n : Nat) (h0 : 0 ≤ x) (h1 : x < 256) (hn : n < 256) (h : UInt8.ofNat x.toNat = UInt8.ofNat n) : x = n := by
  have := congrArg UInt8.toNat h
  rw [UInt8.toNat_ofNat', UInt8.toNat_ofNat'] at this
  omega
theorem of_magic {b : List Int} (hb : ∀ j, 0 ≤ rd b j ∧ rd b j < 256) (hl : 4 ≤ b.length) (h : ((strOfNums (b.take 4)).toList == ([81, 80, 68, 49] : List UInt8)) = true) : b.take 4 = [81, 80, 68, 49] := by
  rw [ByteArray.toList_eq, strOfNums_data] at h
  have h2 := beq_iff_eq.mp h
  match b, hb, hl, h2 with
  | a0 :: a1 :: a2 :: a3 :: r, hb, _, h2 =>
    have b0 := hb 0; have b1 := hb 1; have b2 := hb 2; have b3 := hb 3
    simp only [rd] at b0 b1 b2 b3
    simp only [List.take_succ_cons, List.take_zero, List.map_cons, List.map_nil] at h2 ⊢
    injection h2 with e0 h2
    injection h2 with e1 h2
    injection h2 with e2 h2
    injection h2 with e3 h2
    have q0 := byte_is a0 81 b0.1 b0.2 (by decide) e0
    have q1 := byte_is a1 80 b1.1 b1.2 (by decide) e1
    have q2 := byte_is a2 68 b2.1 b2.2 (by decide) e2
    have q3 := byte_is a3 49 b3.1 b3.2 (by decide) e3
    rw [q0, q1, q2, q3]
    rfl
theorem sumP_in (b : List Int) : 0 ≤ sumP b ∧ sumP b < 65521 := sumR_in b b.length 0 0 (by decide) (by decide)
theorem iS_eq (S i : Int) (h0 : 0 ≤ S) (h1 : S < 65521) (i0 : 0 ≤ i) (i1 : i ≤ 1048576) : iS S i = (S + i) % 65521 := by
  unfold iS
  rw [u64_mod, Int.tmod_eq_emod_of_nonneg (by omega)]
  omega
theorem fine_in {l : List (List S81)} (h : fine l = true) : l.length ≤ 1000 ∧ descR l 0 = true ∧ (l.any fun p => p.any badS) = false := by
  unfold fine okD at h
  rw [Bool.and_eq_true, Bool.and_eq_true, decide_eq_true_eq] at h
  exact ⟨by omega, h.1.2, by simpa using h.2⟩
theorem in_fine {l : List (List S81)} (h1 : l.length ≤ 1000) (h2 : descR l 0 = true) (h3 : (l.any fun p => p.any badS) = false) : fine l = true := by
  unfold fine okD
  rw [h2, h3, decide_eq_true (by omega)]
  rfl
theorem dec_of {b : List Int} {l : List (List S81)} (hf : fine l = true) (hl : b.length ≤ 1048576) (e : b = encF l) : iDec b = some l := by
  obtain ⟨f1, f2, f3⟩ := fine_in hf
  obtain ⟨pre, hpre⟩ : ∃ pre, pre = [81, 80, 68, 49] ++ (NL (l.length : Int) ++ encD l) := ⟨_, rfl⟩
  have e1 : b = pre ++ [(sumP pre + pre.length) % 65521 % 256, (sumP pre + pre.length) % 65521 / 256] := by rw [e, encF, ← hpre]; rfl
  have hbl : b.length = pre.length + 2 := by rw [e1, List.length_append]; rfl
  have hpl : pre.length = 4 + (NL (l.length : Int) ++ encD l).length := by rw [hpre, List.length_append]; rfl
  have hd4 : b.drop 4 = (NL (l.length : Int) ++ encD l) ++ [(sumP pre + pre.length) % 65521 % 256, (sumP pre + pre.length) % 65521 / 256] := by
    rw [e1]
    generalize [(sumP pre + pre.length) % 65521 % 256, (sumP pre + pre.length) % 65521 / 256] = t
    rw [hpre]
    rfl
  have ht4 : b.take 4 = [81, 80, 68, 49] := by
    rw [e1]
    generalize [(sumP pre + pre.length) % 65521 % 256, (sumP pre + pre.length) % 65521 / 256] = t
    rw [hpre]
    rfl
  have hr := Rd.of_prefix hd4
  rw [← hpl] at hr
  obtain ⟨g1, g2⟩ := hr.split
  have hp := pages_of l 0 [] f2 f3 (by decide) g2
  have htk : b.take pre.length = pre := by rw [e1, List.take_left']; rfl
  have hend : iEnd b (pre.length : Int) (sumP (b.take ((pre.length : Int)).toNat)) := by
    rw [Int.toNat_natCast, htk]
    obtain ⟨s0, s1⟩ := sumP_in pre
    have hiS := iS_eq (sumP pre) (pre.length : Int) s0 s1 (by omega) (by omega)
    unfold iEnd
    rw [hiS]
    refine ⟨by omega, ?_, ?_⟩
    · rw [rd_nat b pre.length (by omega)]
      simp [e1]
    · rw [show (pre.length : Int) + 1 = ((pre.length + 1 : Nat) : Int) from by omega, rd_nat b (pre.length + 1) (by omega)]
      have : (sumP pre + (pre.length : Int)) % 65521 / 256 % 256 = (sumP pre + (pre.length : Int)) % 65521 / 256 := by omega
      rw [this]
      simp [e1]
  have hN := below_of (m := 1000) g1 (by omega) (by omega) (by omega)
  unfold iDec
  rw [if_pos ⟨by omega, magic_of ht4⟩]
  refine (congrArg (fun z => Option.bind z _) hN).trans ?_
  rw [Option.bind_some]
  refine (congrArg (fun z => Option.bind z _) (show iPages b ((l.length : Int)).toNat 0 ((4 + (NL (l.length : Int)).length : Nat) : Int) [] = some (l, (pre.length : Int)) from by rw [Int.toNat_natCast, hp]; rfl)).trans ?_
  rw [Option.bind_some]
  exact if_pos hend
theorem of_dec {b : List Int} {l : List (List S81)} (hb : ∀ j, 0 ≤ rd b j ∧ rd b j < 256) (hl : b.length ≤ 1048576) (h : iDec b = some l) : fine l = true ∧ b = encF l := by
  unfold iDec at h
  by_cases hc : 4 ≤ (b.length : Int) ∧ ((strOfNums (b.take 4)).toList == ([81, 80, 68, 49] : List UInt8)) = true
  · rw [if_pos hc] at h
    have ht4 := of_magic hb (by omega) hc.2
    obtain ⟨⟨m, J1⟩, h1, h2⟩ := Option.bind_eq_some_iff.mp h
    obtain ⟨m0, m1, j1, rfl, r1⟩ := of_below (i := 4) hb h1
    obtain ⟨⟨o, J2⟩, h3, h4⟩ := Option.bind_eq_some_iff.mp h2
    obtain ⟨l2, j, rfl, e2, e3, e4, e5, r2⟩ := of_pages hb m.toNat 0 [] o (by decide) (show iPages b m.toNat 0 (j1 : Int) [] = some (o, J2) from h3)
    rw [List.nil_append] at e2
    subst e2
    by_cases he : iEnd b (j : Int) (sumP (b.take ((j : Int)).toNat))
    · have h5 := (if_pos he).symm.trans h4
      injection h5 with h5
      have h6 : o = l := h5
      subst h6
      have hol : (o.length : Int) = m := by omega
      have hR := r1.append r2
      obtain ⟨pre, hpre⟩ : ∃ pre, pre = [81, 80, 68, 49] ++ (NL (o.length : Int) ++ encD o) := ⟨_, rfl⟩
      have hj : j = pre.length := by
        have := hR.1
        rw [hpre, List.length_append, hol, this]
        rfl
      have hb1 : b = pre ++ b.drop j := by
        have h7 := hR.2
        have h8 := List.take_append_drop 4 b
        rw [ht4, h7, ← List.append_assoc, ← hol, ← hpre] at h8
        exact h8.symm
      have htk : b.take j = pre := by
        conv => lhs; rw [hb1]
        rw [hj, List.take_left']; rfl
      rw [Int.toNat_natCast, htk] at he
      obtain ⟨q1, q2, q3⟩ := he
      obtain ⟨s0, s1⟩ := sumP_in pre
      rw [iS_eq (sumP pre) (j : Int) s0 s1 (by omega) (by omega)] at q2 q3
      have hdj : b.drop j = [rd b (j : Int), rd b ((j : Int) + 1)] := by
        rw [drop_rd b j (by omega), drop_rd b (j + 1) (by omega), List.drop_of_length_le (by omega)]
        rfl
      refine ⟨in_fine (by omega) e4 e5, ?_⟩
      unfold encF finP
      rw [← hpre, ← hj]
      conv => lhs; rw [hb1]
      rw [hdj, q2, q3, show (sumP pre + (j : Int)) % 65521 / 256 % 256 = (sumP pre + (j : Int)) % 65521 / 256 from by omega]
    · have h5 := (if_neg he).symm.trans h4
      cases h5
  · rw [if_neg hc] at h; cases h
end Go.Proofs.Ytngmkpediibhjaa.Pure
