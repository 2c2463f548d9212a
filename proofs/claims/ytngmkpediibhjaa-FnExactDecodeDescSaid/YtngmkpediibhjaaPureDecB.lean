/- What the spec's EncodeDesc writes, and the same told without wraps. No condition. -/
import Derived.Test.YtngmkpediibhjaaPureDecA
namespace Go.Proofs.Ytngmkpediibhjaa.Pure
open Go.RowKit Go.Proofs.Ytngmkpediibhjaa.PFnExactDecodeDesc Go.Proofs.Ytngmkpediibhjaa.Kit Go.Proofs.YtngmkpediibhjaaW.PrintWords Go.Proofs.YtngmkpediibhjaaW.PrintLast Go.Proofs.YtngmkpediibhjaaW.PrintMore
set_option linter.unusedVariables false
set_option linter.unusedSimpArgs false

theorem rdSpot_b (l : List S81) (i : Nat) (h : i < l.length) : rd_T81 l (i : Int) = l[i] := by simp [rd_T81, h]
theorem rdSpotL_b (l : List (List S81)) (i : Nat) (h : i < l.length) : rd_L3 l (i : Int) = l[i] := by simp [rd_L3, h]
theorem fits_s (a : Int) : spec_l1Fits.f a = some (fitsB a) := by
  unfold spec_l1Fits.f fitsB
  split <;> simp <;> omega
theorem spot_s (x y f c w h : Int) : spec_l15SpotOk.f x y f c w h = some (spotB x y f c w h) := by
  simp only [spec_l15SpotOk.f, fits_s, Option.bind_some, spotB]
  cases fitsB x <;> cases fitsB y <;> simp
  by_cases h1 : 0 ≤ f
  · by_cases h2 : f ≤ 15
    · by_cases h3 : -1 ≤ c
      · by_cases h4 : c ≤ 255
        · by_cases h5 : 0 ≤ w
          · by_cases h6 : w ≤ 1073741823
            · by_cases h7 : 0 ≤ h
              · simp [lenB, h1, h2, h3, h4, h5, h6, h7]
              · simp [lenB, h1, h2, h3, h4, h5, h6, h7]
            · simp [lenB, h1, h2, h3, h4, h5, h6]
          · simp [lenB, h1, h2, h3, h4, h5]
        · simp [h1, h2, h3, h4]
      · simp [h1, h2, h3]
    · simp [h1, h2]
  · simp [h1]
theorem page_l0 (l : List S81) (hl : l.length ≤ 1048576) : ∀ d k i : Nat, l.length - i = d → i ≤ l.length → d < k → spec_l15PageOk.l0 k l i = some ((l.drop i).all okS && decide ((l.length : Int) ≤ 20000)) := by
  intro d
  induction d with
  | zero =>
    intro k i hd hi hk
    obtain ⟨k, rfl⟩ : ∃ m, k = m + 1 := ⟨k - 1, by omega⟩
    rw [spec_l15PageOk.l0, if_neg (by omega), List.drop_of_length_le (by omega)]
    simp
  | succ d ih =>
    intro k i hd hi hk
    obtain ⟨k, rfl⟩ : ∃ m, k = m + 1 := ⟨k - 1, by omega⟩
    have hlt : i < l.length := by omega
    rw [spec_l15PageOk.l0, if_pos (by omega), if_pos (by omega), spot_s, wrap_succ i (by omega), ih k (i + 1) (by omega) (by omega) (by omega), List.drop_eq_getElem_cons hlt, List.all_cons, rdSpot_b l i hlt]
    simp only [Option.bind_some, okS]
    cases spotB l[i].f0 l[i].f1 l[i].f2 l[i].f3 l[i].f4 l[i].f5 <;> simp
theorem page_f (l : List S81) (hl : l.length ≤ 1048576) (k : Nat) (hk : l.length < k) : spec_l15PageOk.f k l = some (l.all okS && decide ((l.length : Int) ≤ 20000)) := by
  unfold spec_l15PageOk.f
  simpa using page_l0 l hl l.length k 0 (by omega) (by omega) hk
def descR : List (List S81) → Int → Bool
  | [], _ => true
  | p :: ps, n => if n + (p.length : Int) > 20000 then false else p.all okS && descR ps (n + (p.length : Int))
theorem desc_s (l : List (List S81)) (hl : l.length ≤ 1048576) (hm : ∀ x ∈ l, x.length ≤ 1048576) : ∀ d k i : Nat, ∀ n : Int, l.length - i = d → i ≤ l.length → d + 1048577 < k → 0 ≤ n → n ≤ 20000 → spec_DescOk.l0 k l n i = some (descR (l.drop i) n) := by
  intro d
  induction d with
  | zero =>
    intro k i n hd hi hk h0 h1
    obtain ⟨k, rfl⟩ : ∃ m, k = m + 1 := ⟨k - 1, by omega⟩
    rw [spec_DescOk.l0, if_neg (by omega), List.drop_of_length_le (by omega)]
    rfl
  | succ d ih =>
    intro k i n hd hi hk h0 h1
    obtain ⟨k, rfl⟩ : ∃ m, k = m + 1 := ⟨k - 1, by omega⟩
    have hlt : i < l.length := by omega
    have hx := hm _ (List.getElem_mem hlt)
    rw [spec_DescOk.l0, if_pos (by omega), if_pos (by omega), rdSpotL_b l i hlt, wrap_in (n + (l[i].length : Int)) (by omega) (by omega), List.drop_eq_getElem_cons hlt, descR]
    by_cases hb : n + (l[i].length : Int) > 20000
    · rw [if_pos hb, if_pos hb]
    · rw [if_neg hb, if_neg hb, page_f l[i] (by omega) k (by omega), wrap_succ i (by omega), ih k (i + 1) _ (by omega) (by omega) (by omega) (by omega) (by omega)]
      have : decide ((l[i].length : Int) ≤ 20000) = true := by simp; omega
      rw [this]
      simp only [Option.bind_some]
      by_cases hq : l[i].all okS = true <;> simp [hq]
def numL : Nat → Int → List Int
  | 0, x => [x % 256]
  | m + 1, x => if x ≥ 128 then (IntKind.u64.wrap ((Int.tmod x 128) + 128)) % 256 :: numL m (IntKind.u64.wrap (Int.tdiv x 128)) else [x % 256]
theorem numL_len : ∀ m x, (numL m x).length ≤ m + 1 := by
  intro m
  induction m with
  | zero => intro x; simp [numL]
  | succ m ih =>
    intro x
    rw [numL]
    split
    · have := ih (IntKind.u64.wrap (Int.tdiv x 128))
      rw [List.length_cons]; omega
    · simp
theorem num_ev0 : ∀ (m : Nat) (x P : Int) (b : List Int), 0 ≤ x → (128 : Int) ^ (m + 1) = P → x < P → b.length + m < 140737488355328 → Ev (fun k => spec_l15Num.l0 k b x) (b ++ numL m x) := by
  intro m
  induction m with
  | zero =>
    intro x P b h0 hP h1 hb
    have : x < 128 := by simp at hP; omega
    refine Ev.step (f := fun k => some (b ++ numL 0 x)) (fun k => ?_) (Ev.now _)
    rw [spec_l15Num.l0, if_neg (by omega), if_pos (by omega)]
    rfl
  | succ m ih =>
    intro x P b h0 hP h1 hb
    rw [numL]
    by_cases h : x ≥ 128
    · have hd : Int.tdiv x 128 = x / 128 := Int.tdiv_eq_ediv_of_nonneg h0
      rw [if_pos h]
      refine Ev.step (f := fun k => spec_l15Num.l0 k (b ++ [(IntKind.u64.wrap ((Int.tmod x 128) + 128)) % 256]) (IntKind.u64.wrap (Int.tdiv x 128))) (fun k => ?_) ?_
      · rw [spec_l15Num.l0, if_pos h, if_pos (by omega)]
      · have hP2 : (128 : Int) ^ (m + 1) * 128 = P := by rw [← hP, Int.pow_succ (128 : Int) (m + 1)]
        have := ih (IntKind.u64.wrap (Int.tdiv x 128)) ((128 : Int) ^ (m + 1)) (b ++ [(IntKind.u64.wrap ((Int.tmod x 128) + 128)) % 256]) (by rw [u64_mod]; omega) rfl (by rw [hd, u64_mod]; omega) (by simp; omega)
        simpa using this
    · rw [if_neg h]
      refine Ev.step (f := fun k => some (b ++ [x % 256])) (fun k => ?_) (Ev.now _)
      rw [spec_l15Num.l0, if_neg h, if_pos (by omega)]
def NO (x : Int) : List Int := numL 9 x
theorem NO_len (x : Int) : (NO x).length ≤ 10 := numL_len 9 x
theorem num_ev (b : List Int) (x : Int) (h0 : 0 ≤ x) (h1 : x < 18446744073709551616) (hb : b.length ≤ 140000000000000) : Ev (fun k => spec_l15Num.f k b x) (b ++ NO x) :=
  num_ev0 9 x ((128 : Int) ^ 10) b h0 rfl (by have : (128 : Int) ^ 10 = 1180591620717411303424 := by decide
                                              omega) (by omega)
theorem num_u (b : List Int) (x : Int) (hb : b.length ≤ 140000000000000) : Ev (fun k => spec_l15Num.f k b (IntKind.u64.wrap x)) (b ++ NO (IntKind.u64.wrap x)) :=
  num_ev b _ (by rw [u64_mod]; omega) (by rw [u64_mod]; omega) hb
def SO (a : Int) : List Int := NO (if a < 0 then IntKind.u64.wrap (wrap64 ((wrap64 ((-2) * a)) - 1)) else IntKind.u64.wrap (wrap64 (2 * a)))
theorem SO_len (x : Int) : (SO x).length ≤ 10 := NO_len _
theorem signed_ev (b : List Int) (a : Int) (hb : b.length ≤ 140000000000000) : Ev (fun k => spec_l15Signed.f k b a) (b ++ SO a) := by
  unfold SO
  by_cases h : a < 0
  · rw [if_pos h]
    obtain ⟨K, hK⟩ := num_u b (wrap64 ((wrap64 ((-2) * a)) - 1)) hb
    refine ⟨K, fun k hk => ?_⟩
    have e : spec_l15Num.f k b (IntKind.u64.wrap (wrap64 ((wrap64 ((-2) * a)) - 1))) = _ := hK k hk
    show spec_l15Signed.f k b a = _
    unfold spec_l15Signed.f
    rw [if_pos h, e]
    rfl
  · rw [if_neg h]
    obtain ⟨K, hK⟩ := num_u b (wrap64 (2 * a)) hb
    refine ⟨K, fun k hk => ?_⟩
    have e : spec_l15Num.f k b (IntKind.u64.wrap (wrap64 (2 * a))) = _ := hK k hk
    show spec_l15Signed.f k b a = _
    unfold spec_l15Signed.f
    rw [if_neg h, e]
    rfl
def cH (s : S81) (f : Int) : Int := if s.f3 < 0 then 0 else if s.f2 = f then IntKind.u64.wrap (wrap64 (1 + s.f3)) else IntKind.u64.wrap (wrap64 (wrap64 (257 + s.f3) + wrap64 (256 * s.f2)))
theorem cH_in (s : S81) (f : Int) : 0 ≤ cH s f ∧ cH s f < 18446744073709551616 := by
  unfold cH
  split
  · omega
  · split <;> rw [u64_mod] <;> omega
def eS (s : S81) (x y f : Int) : List Int := SO (wrap64 (s.f0 - x)) ++ (SO (wrap64 (s.f1 - y)) ++ (NO (cH s f) ++ (NO (IntKind.u64.wrap s.f4) ++ NO (IntKind.u64.wrap s.f5))))
theorem eS_len (s : S81) (x y f : Int) : (eS s x y f).length ≤ 50 := by
  have h1 := SO_len (wrap64 (s.f0 - x)); have h2 := SO_len (wrap64 (s.f1 - y)); have h3 := NO_len (cH s f); have h4 := NO_len (IntKind.u64.wrap s.f4); have h5 := NO_len (IntKind.u64.wrap s.f5)
  unfold eS
  simp only [List.length_append]
  omega
def eP : List S81 → Int → Int → Int → List Int
  | [], _, _, _ => []
  | s :: ss, x, y, f => eS s x y f ++ eP ss s.f0 s.f1 (if s.f3 < 0 then f else s.f2)
theorem eP_len : ∀ ss x y f, (eP ss x y f).length ≤ 50 * ss.length := by
  intro ss
  induction ss with
  | nil => intro x y f; simp [eP]
  | cons s ss ih =>
    intro x y f
    have h1 := ih s.f0 s.f1 (if s.f3 < 0 then f else s.f2)
    have h2 := eS_len s x y f
    rw [eP, List.length_append, List.length_cons]
    omega
theorem five_ev (s : S81) (b : List Int) (x y f : Int) (hb : b.length ≤ 130000000000000) {g : Nat → List Int → Option (List Int)} {r : List Int} (hg : Ev (fun k => g k (b ++ eS s x y f)) r) :
    Ev (fun k => (spec_l15Signed.f k b (wrap64 (s.f0 - x))).bind fun t1 => (spec_l15Signed.f k t1 (wrap64 (s.f1 - y))).bind fun t2 => (spec_l15Num.f k t2 (cH s f)).bind fun t3 => (spec_l15Num.f k t3 (IntKind.u64.wrap s.f4)).bind fun t4 => (spec_l15Num.f k t4 (IntKind.u64.wrap s.f5)).bind fun t5 => g k t5) r := by
  have h1 := SO_len (wrap64 (s.f0 - x)); have h2 := SO_len (wrap64 (s.f1 - y)); have h3 := NO_len (cH s f); have h4 := NO_len (IntKind.u64.wrap s.f4)
  refine Ev.bind (signed_ev b _ (by omega)) ?_
  refine Ev.bind (signed_ev _ _ (by simp only [List.length_append]; omega)) ?_
  refine Ev.bind (num_ev _ _ (cH_in s f).1 (cH_in s f).2 (by simp only [List.length_append]; omega)) ?_
  refine Ev.bind (num_u _ _ (by simp only [List.length_append]; omega)) ?_
  refine Ev.bind (num_u _ _ (by simp only [List.length_append]; omega)) ?_
  unfold eS at hg
  simpa only [List.append_assoc] using hg
theorem NO_zero : NO 0 = [0] := rfl
theorem page_ev (ss : List S81) (hl : ss.length ≤ 1048576) : ∀ (d i : Nat) (b : List Int) (x y f : Int), ss.length - i = d → i ≤ ss.length → b.length + 50 * d ≤ 130000000000000 → Ev (fun k => spec_l15Page.l0 k b ss x y f i) (b ++ eP (ss.drop i) x y f) := by
  intro d
  induction d with
  | zero =>
    intro i b x y f hd hi hb
    refine Ev.step (f := fun k => some b) (fun k => ?_) ?_
    · rw [spec_l15Page.l0, if_neg (by omega)]
    · rw [List.drop_of_length_le (by omega), eP, List.append_nil]
      exact Ev.now _
  | succ d ih =>
    intro i b x y f hd hi hb
    have hlt : i < ss.length := by omega
    have hr : rd_T81 ss (i : Int) = ss[i] := by simp [rd_T81, hlt]
    have hw : wrap64 ((i : Int) + 1) = ((i + 1 : Nat) : Int) := wrap_succ i (by omega)
    rw [List.drop_eq_getElem_cons hlt, eP]
    have hE := eS_len ss[i] x y f
    have hI := ih (i + 1) (b ++ eS ss[i] x y f) ss[i].f0 ss[i].f1 (if ss[i].f3 < 0 then f else ss[i].f2) (by omega) (by omega) (by simp only [List.length_append]; omega)
    rw [List.append_assoc] at hI
    obtain ⟨s, hs⟩ : ∃ s, s = ss[i] := ⟨_, rfl⟩
    rw [← hs] at hr hE hI ⊢
    have h5 := five_ev (g := fun k t => spec_l15Page.l0 k t ss s.f0 s.f1 (if s.f3 < 0 then f else s.f2) ((i + 1 : Nat) : Int)) s b x y f (by omega) hI
    have h1 := SO_len (wrap64 (s.f0 - x)); have h2 := SO_len (wrap64 (s.f1 - y))
    by_cases c1 : s.f3 < 0
    · refine Ev.step (f := fun k => (spec_l15Signed.f k b (wrap64 (s.f0 - x))).bind fun t1 => (spec_l15Signed.f k t1 (wrap64 (s.f1 - y))).bind fun t2 => (if t2.length < 140737488355328 then ((spec_l15Num.f k (t2 ++ [0]) (IntKind.u64.wrap s.f4)).bind fun t137 => ((spec_l15Num.f k t137 (IntKind.u64.wrap s.f5)).bind fun t140 => (spec_l15Page.l0 k t140 ss s.f0 s.f1 f ((i + 1 : Nat) : Int)))) else none)) (fun k => ?_) ?_
      · rw [spec_l15Page.l0, if_pos (by omega), if_pos (by omega), hr, hw]
        simp only [if_pos c1]
      · refine Ev.bind (signed_ev b _ (by omega)) ?_
        refine Ev.bind (signed_ev _ _ (by simp only [List.length_append]; omega)) ?_
        simp only [if_pos c1] at hI
        have hlen : (b ++ SO (wrap64 (s.f0 - x)) ++ SO (wrap64 (s.f1 - y))).length < 140737488355328 := by simp only [List.length_append]; omega
        simp only [if_pos hlen]
        refine Ev.bind (num_u _ _ (by simp only [List.length_append, List.length_cons, List.length_nil]; omega)) ?_
        have h4 := NO_len (IntKind.u64.wrap s.f4)
        refine Ev.bind (num_u _ _ (by simp only [List.length_append, List.length_cons, List.length_nil]; omega)) ?_
        have hc : cH s f = 0 := by unfold cH; rw [if_pos c1]
        unfold eS at hI
        rw [hc, NO_zero] at hI
        simp only [if_pos c1]
        unfold eS
        rw [hc, NO_zero]
        simpa only [List.append_assoc] using hI
    · by_cases c2 : s.f2 = f
      · refine Ev.congr (g := fun k => spec_l15Page.l0 k b ss x y f i) (f := fun k => spec_l15Page.l0 k b ss x y f i) (fun _ => rfl) (Ev.step (fun k => ?_) h5)
        have hc : cH s f = IntKind.u64.wrap (wrap64 (1 + s.f3)) := by unfold cH; rw [if_neg c1, if_pos c2]
        rw [spec_l15Page.l0, if_pos (by omega), if_pos (by omega), hr, hw]
        simp only [if_neg c1, if_pos c2, hc]
        rw [c2]
      · refine Ev.congr (g := fun k => spec_l15Page.l0 k b ss x y f i) (f := fun k => spec_l15Page.l0 k b ss x y f i) (fun _ => rfl) (Ev.step (fun k => ?_) h5)
        have hc : cH s f = IntKind.u64.wrap (wrap64 (wrap64 (257 + s.f3) + wrap64 (256 * s.f2))) := by unfold cH; rw [if_neg c1, if_neg c2]
        rw [spec_l15Page.l0, if_pos (by omega), if_pos (by omega), hr, hw]
        simp only [if_neg c1, if_neg c2, hc]
theorem pageF_ev (ss : List S81) (hl : ss.length ≤ 1048576) (b : List Int) (hb : b.length ≤ 120000000000000) : Ev (fun k => spec_l15Page.f k b ss) (b ++ (NO (IntKind.u64.wrap (ss.length : Int)) ++ eP ss 0 0 0)) := by
  have h1 := NO_len (IntKind.u64.wrap (ss.length : Int))
  unfold spec_l15Page.f
  refine Ev.bind (num_u b _ (by omega)) ?_
  have := page_ev ss hl ss.length 0 (b ++ NO (IntKind.u64.wrap (ss.length : Int))) 0 0 0 (by omega) (by omega) (by simp only [List.length_append]; omega)
  rw [List.append_assoc, List.drop_zero] at this
  exact this
theorem sumR_in (b : List Int) : ∀ d i n, 0 ≤ n → n < 65521 → 0 ≤ sumR b d i n ∧ sumR b d i n < 65521 := by
  intro d
  induction d with
  | zero => intro i n h0 h1; exact ⟨h0, h1⟩
  | succ d ih => intro i n h0 h1; rw [sumR]; exact ih _ _ (by omega) (by omega)
theorem sum_s (b : List Int) (hb : b.length ≤ 140737488355328) : ∀ d i : Nat, ∀ n : Int, b.length - i = d → i ≤ b.length → Ev (fun k => spec_l15Sum.l0 k b n i) (sumR b d i n) := by
  intro d
  induction d with
  | zero =>
    intro i n hd hi
    refine Ev.step (f := fun k => some n) (fun k => ?_) (Ev.now _)
    rw [spec_l15Sum.l0, if_neg (by omega)]
  | succ d ih =>
    intro i n hd hi
    rw [sumR]
    refine Ev.step (fun k => ?_) (ih (i + 1) _ (by omega) (by omega))
    have e : ((i + 1 : Nat) : Int) % 18446744073709551616 = (i : Int) + 1 := by omega
    rw [spec_l15Sum.l0, if_pos (by omega), if_pos (by omega), wrap_succ i (by omega), u64_mod ((i + 1 : Nat) : Int), e, u64_mod (rd b i), tm ((i : Int) + 1) 65521 (by omega), u64_mod, u64_mod, tm _ _ (by omega)]
def finL (b : List Int) : List Int := b ++ [((sumR b b.length 0 0 + b.length) % 65521) % 256, ((sumR b b.length 0 0 + b.length) % 65521) / 256]
theorem end_s (b : List Int) (hb : b.length ≤ 140000000000000) : Ev (fun k => spec_l15End.f k b) (finL b) := by
  have hS := sum_s b (by omega) b.length 0 0 (by omega) (by omega)
  obtain ⟨h0, h1⟩ := sumR_in b b.length 0 0 (by omega) (by omega)
  unfold spec_l15End.f finL
  refine Ev.bind (g := fun k => spec_l15Sum.f k b) hS ?_
  generalize sumR b b.length 0 0 = n at h0 h1 ⊢
  simp only [Option.bind_some]
  rw [if_pos (by simp; omega)]
  have e1 : IntKind.u64.wrap (IntKind.u64.wrap (b.length : Int) + n) = n + b.length := by rw [u64_mod, u64_mod]; omega
  rw [e1, tm (n + (b.length : Int)) _ (by omega), tm _ 256 (by omega), Int.tdiv_eq_ediv_of_nonneg (by omega), u64_mod]
  have e2 : (n + (b.length : Int)) % 65521 % 256 % 256 = (n + (b.length : Int)) % 65521 % 256 := by omega
  have e3 : (n + (b.length : Int)) % 65521 / 256 % 18446744073709551616 % 256 = (n + (b.length : Int)) % 65521 / 256 := by omega
  rw [e2, e3]
  exact Ev.now _
def badS (s : S81) : Bool := decide (s.f3 < 0) && !decide (s.f2 = 0)
def eD : List (List S81) → List Int → List Int
  | [], b => finL b
  | p :: ps, b => if p.any badS = true then [] else eD ps (b ++ (NO (IntKind.u64.wrap (p.length : Int)) ++ eP p 0 0 0))
theorem spec_page_ev (l : List (List S81)) (i : Nat) (hi : i < l.length) (hl : l.length ≤ 1048576) (p : List S81) (hp : rd_L3 l (i : Int) = p) (hpl : p.length ≤ 1048576) (b r : List Int) (hb : b.length ≤ 120000000000000) : ∀ (d j : Nat), p.length - j = d → j ≤ p.length →
    (((p.drop j).any badS = true ∧ r = []) ∨ ((p.drop j).any badS = false ∧ Ev (fun k => spec_EncodeDesc.l0 k l (b ++ (NO (IntKind.u64.wrap (p.length : Int)) ++ eP p 0 0 0)) (wrap64 ((i : Int) + 1))) r)) → Ev (fun k => spec_EncodeDesc.l1 k l b i j) r := by
  intro d
  induction d with
  | zero =>
    intro j hd hj h
    rw [List.drop_of_length_le (by omega)] at h
    rcases h with ⟨h, _⟩ | ⟨_, h⟩
    · simp at h
    · refine Ev.step (f := fun k => (spec_l15Page.f k b p).bind fun t => spec_EncodeDesc.l0 k l t (wrap64 ((i : Int) + 1))) (fun k => ?_) (Ev.bind (pageF_ev p hpl b hb) h)
      rw [spec_EncodeDesc.l1, if_pos (by omega), if_pos (by omega), hp, if_neg (by omega)]
  | succ d ih =>
    intro j hd hj h
    have hlt : j < p.length := by omega
    have hr : rd_T81 p (j : Int) = p[j] := by simp [rd_T81, hlt]
    have hw : wrap64 ((j : Int) + 1) = ((j + 1 : Nat) : Int) := wrap_succ j (by omega)
    rw [List.drop_eq_getElem_cons hlt, List.any_cons] at h
    have hI := ih (j + 1) (by omega) (by omega)
    obtain ⟨s, hs⟩ : ∃ s, s = p[j] := ⟨_, rfl⟩
    rw [← hs] at hr h
    by_cases c1 : s.f3 < 0
    · by_cases c2 : s.f2 = 0
      · have hbad : badS s = false := by unfold badS; simp [c2]
        rw [hbad, Bool.false_or] at h
        refine Ev.step (fun k => ?_) (hI h)
        rw [spec_EncodeDesc.l1, if_pos (by omega), if_pos (by omega), hp, if_pos (by omega), if_pos (by omega), hr, if_pos c1, if_pos c2, hw]
      · have hbad : badS s = true := by unfold badS; simp [c1, c2]
        rw [hbad] at h
        rcases h with ⟨_, h⟩ | ⟨h, _⟩
        · refine Ev.step (f := fun k => some []) (fun k => ?_) (by rw [h]; exact Ev.now _)
          rw [spec_EncodeDesc.l1, if_pos (by omega), if_pos (by omega), hp, if_pos (by omega), if_pos (by omega), hr, if_pos c1, if_neg c2]
        · simp at h
    · have hbad : badS s = false := by unfold badS; simp [c1]
      rw [hbad, Bool.false_or] at h
      refine Ev.step (fun k => ?_) (hI h)
      rw [spec_EncodeDesc.l1, if_pos (by omega), if_pos (by omega), hp, if_pos (by omega), if_pos (by omega), hr, if_neg c1, hw]
theorem spec_desc_ev (l : List (List S81)) (hl : l.length ≤ 1048576) (hm : ∀ x ∈ l, x.length ≤ 1048576) : ∀ (d i : Nat) (b : List Int), l.length - i = d → i ≤ l.length → b.length + 52428900 * d ≤ 110000000000000 → Ev (fun k => spec_EncodeDesc.l0 k l b i) (eD (l.drop i) b) := by
  intro d
  induction d with
  | zero =>
    intro i b hd hi hb
    rw [List.drop_of_length_le (by omega), eD]
    refine Ev.step (f := fun k => (spec_l15End.f k b).bind fun t => some t) (fun k => ?_) (Ev.bind (end_s b (by omega)) (Ev.now _))
    rw [spec_EncodeDesc.l0, if_neg (by omega)]
  | succ d ih =>
    intro i b hd hi hb
    have hlt : i < l.length := by omega
    have hx := hm _ (List.getElem_mem hlt)
    have hp := rdSpotL_b l i hlt
    have hw : wrap64 ((i : Int) + 1) = ((i + 1 : Nat) : Int) := wrap_succ i (by omega)
    rw [List.drop_eq_getElem_cons hlt, eD]
    have h1 := NO_len (IntKind.u64.wrap (l[i].length : Int))
    have h2 := eP_len l[i] 0 0 0
    have hI := ih (i + 1) (b ++ (NO (IntKind.u64.wrap (l[i].length : Int)) ++ eP l[i] 0 0 0)) (by omega) (by omega) (by simp only [List.length_append]; omega)
    refine Ev.step (f := fun k => spec_EncodeDesc.l1 k l b i 0) (fun k => by rw [spec_EncodeDesc.l0, if_pos (by omega)]) ?_
    refine spec_page_ev l i hlt hl l[i] hp hx b _ (by omega) l[i].length 0 (by omega) (by omega) ?_
    rw [List.drop_zero]
    by_cases hb2 : l[i].any badS = true
    · exact .inl ⟨hb2, by rw [if_pos hb2]⟩
    · refine .inr ⟨by simpa using hb2, ?_⟩
      rw [if_neg hb2, hw]
      exact hI
def eF (l : List (List S81)) (ok : Bool) : List Int := if ok = true then eD l ([81, 80, 68, 49] ++ NO (IntKind.u64.wrap (l.length : Int))) else []
theorem eD_len : ∀ (l : List (List S81)) (b : List Int), (∀ x ∈ l, x.length ≤ 1048576) → (eD l b).length ≤ b.length + 52428900 * l.length + 2 := by
  intro l
  induction l with
  | nil => intro b _; simp [eD, finL]
  | cons p ps ih =>
    intro b hm
    rw [eD]
    split
    · simp
    · have h1 := NO_len (IntKind.u64.wrap (p.length : Int))
      have h2 := eP_len p 0 0 0
      have hx := hm p (by simp)
      have := ih (b ++ (NO (IntKind.u64.wrap (p.length : Int)) ++ eP p 0 0 0)) (fun x h => hm x (by simp [h]))
      simp only [List.length_append] at this
      rw [List.length_cons]
      omega
theorem eF_len (l : List (List S81)) (hl : l.length ≤ 1048576) (hm : ∀ x ∈ l, x.length ≤ 1048576) (ok : Bool) : (eF l ok).length ≤ 60000000000000 := by
  unfold eF
  split
  · have h1 := NO_len (IntKind.u64.wrap (l.length : Int))
    have := eD_len l ([81, 80, 68, 49] ++ NO (IntKind.u64.wrap (l.length : Int))) hm
    simp only [List.length_append, List.length_cons, List.length_nil] at this
    omega
  · simp
def okD (l : List (List S81)) : Bool := decide ((l.length : Int) ≤ 1000) && descR l 0
theorem enc_spec (l : List (List S81)) (hl : l.length ≤ 1048576) (hm : ∀ x ∈ l, x.length ≤ 1048576) : Ev (fun k => spec_EncodeDesc.f k l) (eF l (okD l)) := by
  have hs : Ev (fun k => spec_DescOk.f k l) (okD l) := by
    refine ⟨l.length + 1048578, fun k hk => ?_⟩
    show spec_DescOk.f k l = some (okD l)
    unfold spec_DescOk.f okD
    by_cases hb : (l.length : Int) > 1000
    · rw [if_pos hb, decide_eq_false (by omega)]; rfl
    · rw [if_neg hb, decide_eq_true (by omega)]
      simpa using desc_s l hl hm l.length k 0 0 (by omega) (by omega) (by omega) (by omega) (by omega)
  have h1 := NO_len (IntKind.u64.wrap (l.length : Int))
  unfold spec_EncodeDesc.f eF
  refine Ev.bind hs ?_
  cases okD l with
  | false => simp only [Bool.false_eq_true, if_false]; exact Ev.now _
  | true =>
    simp only [if_true]
    refine Ev.bind (num_u [81, 80, 68, 49] _ (by simp)) ?_
    have := spec_desc_ev l hl hm l.length 0 ([81, 80, 68, 49] ++ NO (IntKind.u64.wrap (l.length : Int))) (by omega) (by omega) (by simp only [List.length_append, List.length_cons, List.length_nil]; omega)
    rw [List.drop_zero] at this
    exact this
/-! ### without wraps -/
theorem numL_nl : ∀ (m : Nat) (x P : Int), 0 ≤ x → x < 18446744073709551616 → (128 : Int) ^ (m + 1) = P → x < P → numL m x = nl m x := by
  intro m
  induction m with
  | zero =>
    intro x P h0 h1 hP h2
    have : x < 128 := by simp at hP; omega
    rw [numL, nl, show x % 256 = x from by omega]
  | succ m ih =>
    intro x P h0 h1 hP h2
    have hP2 : (128 : Int) ^ (m + 1) * 128 = P := by rw [← hP, Int.pow_succ (128 : Int) (m + 1)]
    rw [numL, nl]
    by_cases h : x ≥ 128
    · rw [if_pos h, if_pos h, Int.tmod_eq_emod_of_nonneg h0, Int.tdiv_eq_ediv_of_nonneg h0, u64_mod, u64_mod, show (x % 128 + 128) % 18446744073709551616 % 256 = x % 128 + 128 from by omega, show x / 128 % 18446744073709551616 = x / 128 from by omega, ih (x / 128) ((128 : Int) ^ (m + 1)) (by omega) (by omega) rfl (by omega)]
    · rw [if_neg h, if_neg h, show x % 256 = x from by omega]
theorem NO_NL (x : Int) (h0 : 0 ≤ x) (h1 : x < 18446744073709551616) : NO x = NL x :=
  numL_nl 9 x ((128 : Int) ^ 10) h0 h1 rfl (by have : (128 : Int) ^ 10 = 1180591620717411303424 := by decide
                                               omega)
/-- A number with its sign, as it is written. -/
def zig (a : Int) : Int := if a < 0 then -2 * a - 1 else 2 * a
theorem zig_in (a : Int) (h0 : -2147483646 ≤ a) (h1 : a ≤ 2147483646) : 0 ≤ zig a ∧ zig a < 4294967296 := by unfold zig; split <;> omega
theorem SO_NL (a : Int) (h0 : -2147483646 ≤ a) (h1 : a ≤ 2147483646) : SO a = NL (zig a) := by
  unfold SO zig
  by_cases h : a < 0
  · rw [if_pos h, if_pos h, show IntKind.u64.wrap (wrap64 ((wrap64 ((-2) * a)) - 1)) = -2 * a - 1 from by rw [u64_mod]; unfold wrap64; omega]
    exact NO_NL _ (by omega) (by omega)
  · rw [if_neg h, if_neg h, show IntKind.u64.wrap (wrap64 (2 * a)) = 2 * a from by rw [u64_mod]; unfold wrap64; omega]
    exact NO_NL _ (by omega) (by omega)
/-- A spot's tag, as it is written. -/
def tagC (s : S81) (f : Int) : Int := if s.f3 < 0 then 0 else if s.f2 = f then 1 + s.f3 else 257 + s.f3 + 256 * s.f2
def encS (s : S81) (x y f : Int) : List Int := NL (zig (s.f0 - x)) ++ (NL (zig (s.f1 - y)) ++ (NL (tagC s f) ++ (NL s.f4 ++ NL s.f5)))
def nextF (s : S81) (f : Int) : Int := if s.f3 < 0 then f else s.f2
def encP : List S81 → Int → Int → Int → List Int
  | [], _, _, _ => []
  | s :: ss, x, y, f => encS s x y f ++ encP ss s.f0 s.f1 (nextF s f)
def inXY (x y : Int) : Prop := (-1073741823 ≤ x ∧ x ≤ 1073741823) ∧ -1073741823 ≤ y ∧ y ≤ 1073741823
theorem tag_in (s : S81) (f : Int) (hs : okS s = true) : 0 ≤ tagC s f ∧ tagC s f ≤ 4352 := by
  obtain ⟨h0, h1, h2, h3, h4, h5⟩ := okS_in hs
  unfold tagC
  split
  · omega
  · split <;> omega
theorem eS_encS (s : S81) (x y f : Int) (hs : okS s = true) (hxy : inXY x y) : eS s x y f = encS s x y f := by
  obtain ⟨h0, h1, h2, h3, h4, h5⟩ := okS_in hs
  obtain ⟨hx, hy⟩ := hxy
  unfold eS encS
  rw [show wrap64 (s.f0 - x) = s.f0 - x from by unfold wrap64; omega, show wrap64 (s.f1 - y) = s.f1 - y from by unfold wrap64; omega, SO_NL _ (by omega) (by omega), SO_NL _ (by omega) (by omega), NO_NL (IntKind.u64.wrap s.f4) (by rw [u64_mod]; omega) (by rw [u64_mod]; omega), NO_NL (IntKind.u64.wrap s.f5) (by rw [u64_mod]; omega) (by rw [u64_mod]; omega), NO_NL _ (cH_in s f).1 (cH_in s f).2, u64_mod, u64_mod, show s.f4 % 18446744073709551616 = s.f4 from by omega, show s.f5 % 18446744073709551616 = s.f5 from by omega, show cH s f = tagC s f from by
    unfold cH tagC
    split
    · rfl
    · split
      · rw [u64_mod]; unfold wrap64; omega
      · rw [u64_mod]; unfold wrap64; omega]
theorem eP_encP : ∀ (ss : List S81) (x y f : Int), ss.all okS = true → inXY x y → eP ss x y f = encP ss x y f := by
  intro ss
  induction ss with
  | nil => intro x y f _ _; rfl
  | cons s ss ih =>
    intro x y f hs hxy
    rw [List.all_cons, Bool.and_eq_true] at hs
    obtain ⟨h0, h1, _⟩ := okS_in hs.1
    rw [eP, encP, eS_encS s x y f hs.1 hxy, ih s.f0 s.f1 _ hs.2 ⟨h0, h1⟩]
    rfl
def finP (b : List Int) : List Int := b ++ [(sumP b + b.length) % 65521 % 256, (sumP b + b.length) % 65521 / 256]
theorem finL_finP (b : List Int) : finL b = finP b := rfl
def encD : List (List S81) → List Int
  | [] => []
  | p :: ps => NL (p.length : Int) ++ (encP p 0 0 0 ++ encD ps)
theorem eD_encD : ∀ (l : List (List S81)) (n : Int) (b : List Int), descR l n = true → 0 ≤ n → eD l b = if l.any (fun p => p.any badS) = true then [] else finP (b ++ encD l) := by
  intro l
  induction l with
  | nil => intro n b _ _; rw [eD, encD, List.append_nil]; rfl
  | cons p ps ih =>
    intro n b hd hn
    rw [descR] at hd
    by_cases h1 : n + (p.length : Int) > 20000
    · rw [if_pos h1] at hd; cases hd
    · rw [if_neg h1, Bool.and_eq_true] at hd
      rw [eD, List.any_cons]
      by_cases h2 : p.any badS = true
      · rw [if_pos h2, h2]; rfl
      · rw [if_neg h2, ih _ _ hd.2 (by omega), Bool.eq_false_iff.mpr h2, Bool.false_or, eP_encP p 0 0 0 hd.1 (by unfold inXY; omega), NO_NL _ (by rw [u64_mod]; omega) (by rw [u64_mod]; omega), u64_mod, show (p.length : Int) % 18446744073709551616 = (p.length : Int) from by omega]
        rw [encD]
        simp only [List.append_assoc]
/-- What may be written, and is. -/
def fine (l : List (List S81)) : Bool := okD l && !(l.any fun p => p.any badS)
def encF (l : List (List S81)) : List Int := finP ([81, 80, 68, 49] ++ (NL (l.length : Int) ++ encD l))
theorem eF_encF (l : List (List S81)) (hf : fine l = true) : eF l (okD l) = encF l := by
  unfold fine at hf
  rw [Bool.and_eq_true] at hf
  obtain ⟨h1, h2⟩ := hf
  have h3 := h1
  unfold okD at h3
  rw [Bool.and_eq_true, decide_eq_true_eq] at h3
  rw [h1]
  unfold eF encF
  rw [if_pos rfl, eD_encD l 0 _ h3.2 (by omega), if_neg (by simpa using h2), NO_NL _ (by rw [u64_mod]; omega) (by rw [u64_mod]; omega), u64_mod, show (l.length : Int) % 18446744073709551616 = (l.length : Int) from by omega, List.append_assoc]
theorem eF_fine (l : List (List S81)) (h : eF l (okD l) ≠ []) : fine l = true := by
  unfold fine
  by_cases h1 : okD l = true
  · rw [h1]
    have h3 := h1
    unfold okD at h3
    rw [Bool.and_eq_true] at h3
    rw [h1] at h
    unfold eF at h
    rw [if_pos rfl, eD_encD l 0 _ h3.2 (by omega)] at h
    by_cases h2 : (l.any fun p => p.any badS) = true
    · rw [if_pos h2] at h; exact absurd rfl h
    · rw [Bool.eq_false_iff.mpr h2]; rfl
  · unfold eF at h
    rw [if_neg h1] at h
    exact absurd rfl h
end Go.Proofs.Ytngmkpediibhjaa.Pure
