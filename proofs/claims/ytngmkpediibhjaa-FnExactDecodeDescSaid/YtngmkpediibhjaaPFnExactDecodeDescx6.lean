-- Written by this session's program over the kit's printer (wip/gen/gp.py): Lean checks it.
import Derived.Test.YtngmkpediibhjaaPFnExactDecodeDescx0
import Derived.Test.YtngmkpediibhjaaPFnExactDecodeDescx4
import Derived.Test.YtngmkpediibhjaaPFnExactDecodeDescx5
namespace Go.Proofs.Ytngmkpediibhjaa.PFnExactDecodeDesc
open Go.RowKit Go.Proofs.YtngmkpediibhjaaW.PrintWords Go.Proofs.YtngmkpediibhjaaW.PrintLast Go.Proofs.YtngmkpediibhjaaW.PrintMore
attribute [local go_sem] max2_int min2_int max_two min_two max_three min_three max_four min_four   -- for this text's walks alone
set_option linter.unusedVariables false
set_option linter.unusedSimpArgs false

/-! ### spec_DecodeDesc: function 24 -/
mutual
def spec_DecodeDesc.j0 : Nat → List Int → List (List (S81)) → Bool → Option ((List (List (S81))) × Bool)
  | 0, _, _, _ => none
  | k + 1, x0, x4, x23 => if x23 = true then (some (x4, false)) else ((spec_l15Read.f k x0 4 false).bind fun bt223 => (spec_DecodeDesc.l0 k x0 x4 (([] : List (List (S81)))) 0 bt223.1 x0 bt223.2.1 bt223.2.2))
def spec_DecodeDesc.l0 : Nat → List Int → List (List (S81)) → List (List (S81)) → Int → Int → List Int → Int → Bool → Option ((List (List (S81))) × Bool)
  | 0, _, _, _, _, _, _, _, _ => none
  | k + 1, x0, x4, x6, x7, x8, x220000, x220001, x220002 => if x8 > 0 then (spec_DecodeDesc.j2 k x0 x4 x6 x7 x8 (!x220002) x220000 x220001 x220002) else (spec_DecodeDesc.j2 k x0 x4 x6 x7 x8 false x220000 x220001 x220002)
def spec_DecodeDesc.j2 : Nat → List Int → List (List (S81)) → List (List (S81)) → Int → Int → Bool → List Int → Int → Bool → Option ((List (List (S81))) × Bool)
  | 0, _, _, _, _, _, _, _, _, _ => none
  | k + 1, x0, x4, x6, x7, x8, x39, x220000, x220001, x220002 => if x39 = true then ((some (([] : List (S81)) : List (S81))).bind fun y226 => ((spec_l15Read.f k x220000 x220001 x220002).bind fun bt230 => (if (wrap64 (x7 + bt230.1)) > 20000 then (spec_DecodeDesc.j3 k x0 x4 x6 (wrap64 (x7 + bt230.1)) x8 y226 0 bt230.1 true x220000 bt230.2.1 bt230.2.2 0 0 0 0 0 0) else (spec_DecodeDesc.j3 k x0 x4 x6 (wrap64 (x7 + bt230.1)) x8 y226 0 bt230.1 (decide ((x6.length : Int) ≥ 1000)) x220000 bt230.2.1 bt230.2.2 0 0 0 0 0 0)))) else (if x220002 = true then (some (x4, false)) else ((spec_EncodeDesc.f k x6).bind fun t263 => ((spec_l12Bytes.f k t263 x0).bind fun t266 => (if t266 = true then (some (x6, true)) else (some (x4, false))))))
def spec_DecodeDesc.j3 : Nat → List Int → List (List (S81)) → List (List (S81)) → Int → Int → List (S81) → Int → Int → Bool → List Int → Int → Bool → Int → Int → Int → Int → Int → Int → Option ((List (List (S81))) × Bool)
  | 0, _, _, _, _, _, _, _, _, _, _, _, _, _, _, _, _, _, _ => none
  | k + 1, x0, x4, x6, x7, x8, x9, x11, x12, x55, x220000, x220001, x220002, x230000, x230001, x230002, x230003, x230004, x230005 => if x55 = true then (some (x4, false)) else (spec_DecodeDesc.l1 k x0 x4 x6 x7 x8 x9 x11 x12 x220000 x220001 x220002 x230000 x230001 x230002 x230003 x230004 x230005)
def spec_DecodeDesc.l1 : Nat → List Int → List (List (S81)) → List (List (S81)) → Int → Int → List (S81) → Int → Int → List Int → Int → Bool → Int → Int → Int → Int → Int → Int → Option ((List (List (S81))) × Bool)
  | 0, _, _, _, _, _, _, _, _, _, _, _, _, _, _, _, _, _ => none
  | k + 1, x0, x4, x6, x7, x8, x9, x11, x12, x220000, x220001, x220002, x230000, x230001, x230002, x230003, x230004, x230005 => if x12 > 0 then (spec_DecodeDesc.j5 k x0 x4 x6 x7 x8 x9 x11 x12 (!x220002) x220000 x220001 x220002 x230000 x230001 x230002 x230003 x230004 x230005) else (spec_DecodeDesc.j5 k x0 x4 x6 x7 x8 x9 x11 x12 false x220000 x220001 x220002 x230000 x230001 x230002 x230003 x230004 x230005)
def spec_DecodeDesc.j5 : Nat → List Int → List (List (S81)) → List (List (S81)) → Int → Int → List (S81) → Int → Int → Bool → List Int → Int → Bool → Int → Int → Int → Int → Int → Int → Option ((List (List (S81))) × Bool)
  | 0, _, _, _, _, _, _, _, _, _, _, _, _, _, _, _, _, _, _ => none
  | k + 1, x0, x4, x6, x7, x8, x9, x11, x12, x65, x220000, x220001, x220002, x230000, x230001, x230002, x230003, x230004, x230005 => if x65 = true then ((spec_l15ReadSigned.f k x220000 x220001 x220002).bind fun bt236 => ((spec_l15ReadSigned.f k x220000 bt236.2.1 bt236.2.2).bind fun bt239 => ((spec_l15Read.f k x220000 bt239.2.1 bt239.2.2).bind fun bt242 => (if bt242.1 > 256 then (spec_DecodeDesc.j6 k x0 x4 x6 x7 x8 x9 (wrap64 (Int.tdiv (wrap64 (bt242.1 - 257)) 256)) x12 (wrap64 ((Int.tmod (wrap64 (bt242.1 - 257)) 256) + 1)) x220000 bt242.2.1 bt242.2.2 (wrap64 (x230000 + bt236.1)) (wrap64 (x230001 + bt239.1)) 0 (-1) x230004 x230005) else (spec_DecodeDesc.j6 k x0 x4 x6 x7 x8 x9 x11 x12 bt242.1 x220000 bt242.2.1 bt242.2.2 (wrap64 (x230000 + bt236.1)) (wrap64 (x230001 + bt239.1)) 0 (-1) x230004 x230005))))) else (if x6.length < 5864062014805 then (spec_DecodeDesc.l0 k x0 x4 (x6 ++ [x9]) x7 (wrap64 (x8 - 1)) x220000 x220001 x220002) else (none))
def spec_DecodeDesc.j6 : Nat → List Int → List (List (S81)) → List (List (S81)) → Int → Int → List (S81) → Int → Int → Int → List Int → Int → Bool → Int → Int → Int → Int → Int → Int → Option ((List (List (S81))) × Bool)
  | 0, _, _, _, _, _, _, _, _, _, _, _, _, _, _, _, _, _, _ => none
  | k + 1, x0, x4, x6, x7, x8, x9, x11, x12, x13, x220000, x220001, x220002, x230000, x230001, x230002, x230003, x230004, x230005 => if x13 > 0 then ((spec_l15Read.f k x220000 x220001 x220002).bind fun bt245 => ((spec_l15Read.f k x220000 bt245.2.1 bt245.2.2).bind fun bt248 => (if x9.length < 2932031007402 then (spec_DecodeDesc.l1 k x0 x4 x6 x7 x8 (x9 ++ [(⟨x230000, x230001, x11, wrap64 (x13 - 1), bt245.1, bt248.1⟩ : S81)]) x11 (wrap64 (x12 - 1)) x220000 bt248.2.1 bt248.2.2 x230000 x230001 x11 (wrap64 (x13 - 1)) bt245.1 bt248.1) else (none)))) else ((spec_l15Read.f k x220000 x220001 x220002).bind fun bt254 => ((spec_l15Read.f k x220000 bt254.2.1 bt254.2.2).bind fun bt257 => (if x9.length < 2932031007402 then (spec_DecodeDesc.l1 k x0 x4 x6 x7 x8 (x9 ++ [(⟨x230000, x230001, x230002, x230003, bt254.1, bt257.1⟩ : S81)]) x11 (wrap64 (x12 - 1)) x220000 bt257.2.1 bt257.2.2 x230000 x230001 x230002 x230003 bt254.1 bt257.1) else (none))))
end
def spec_DecodeDesc.f (k : Nat) (l0 : List Int) : Option ((List (List (S81))) × Bool) := (some (([] : List (List (S81))) : List (List (S81)))).bind fun y215 => (if (l0.length : Int) < 4 then (spec_DecodeDesc.j0 k l0 y215 true) else (if 4 ≤ (l0.length : Int) then (spec_DecodeDesc.j0 k l0 y215 ((strOfNums (l0.take 4)).toList != ([81, 80, 68, 49] : List UInt8))) else (none)))
theorem spec_DecodeDesc.mono_l : ∀ k, (∀ y0 y1 y2, LeO (spec_DecodeDesc.j0 k y0 y1 y2) (spec_DecodeDesc.j0 (k + 1) y0 y1 y2)) ∧ (∀ y0 y1 y2 y3 y4 y5 y6 y7, LeO (spec_DecodeDesc.l0 k y0 y1 y2 y3 y4 y5 y6 y7) (spec_DecodeDesc.l0 (k + 1) y0 y1 y2 y3 y4 y5 y6 y7)) ∧ (∀ y0 y1 y2 y3 y4 y5 y6 y7 y8, LeO (spec_DecodeDesc.j2 k y0 y1 y2 y3 y4 y5 y6 y7 y8) (spec_DecodeDesc.j2 (k + 1) y0 y1 y2 y3 y4 y5 y6 y7 y8)) ∧ (∀ y0 y1 y2 y3 y4 y5 y6 y7 y8 y9 y10 y11 y12 y13 y14 y15 y16 y17, LeO (spec_DecodeDesc.j3 k y0 y1 y2 y3 y4 y5 y6 y7 y8 y9 y10 y11 y12 y13 y14 y15 y16 y17) (spec_DecodeDesc.j3 (k + 1) y0 y1 y2 y3 y4 y5 y6 y7 y8 y9 y10 y11 y12 y13 y14 y15 y16 y17)) ∧ (∀ y0 y1 y2 y3 y4 y5 y6 y7 y8 y9 y10 y11 y12 y13 y14 y15 y16, LeO (spec_DecodeDesc.l1 k y0 y1 y2 y3 y4 y5 y6 y7 y8 y9 y10 y11 y12 y13 y14 y15 y16) (spec_DecodeDesc.l1 (k + 1) y0 y1 y2 y3 y4 y5 y6 y7 y8 y9 y10 y11 y12 y13 y14 y15 y16)) ∧ (∀ y0 y1 y2 y3 y4 y5 y6 y7 y8 y9 y10 y11 y12 y13 y14 y15 y16 y17, LeO (spec_DecodeDesc.j5 k y0 y1 y2 y3 y4 y5 y6 y7 y8 y9 y10 y11 y12 y13 y14 y15 y16 y17) (spec_DecodeDesc.j5 (k + 1) y0 y1 y2 y3 y4 y5 y6 y7 y8 y9 y10 y11 y12 y13 y14 y15 y16 y17)) ∧ (∀ y0 y1 y2 y3 y4 y5 y6 y7 y8 y9 y10 y11 y12 y13 y14 y15 y16 y17, LeO (spec_DecodeDesc.j6 k y0 y1 y2 y3 y4 y5 y6 y7 y8 y9 y10 y11 y12 y13 y14 y15 y16 y17) (spec_DecodeDesc.j6 (k + 1) y0 y1 y2 y3 y4 y5 y6 y7 y8 y9 y10 y11 y12 y13 y14 y15 y16 y17))
  | 0 => ⟨fun _ _ _ r h => by simp [spec_DecodeDesc.j0] at h, fun _ _ _ _ _ _ _ _ r h => by simp [spec_DecodeDesc.l0] at h, fun _ _ _ _ _ _ _ _ _ r h => by simp [spec_DecodeDesc.j2] at h, fun _ _ _ _ _ _ _ _ _ _ _ _ _ _ _ _ _ _ r h => by simp [spec_DecodeDesc.j3] at h, fun _ _ _ _ _ _ _ _ _ _ _ _ _ _ _ _ _ r h => by simp [spec_DecodeDesc.l1] at h, fun _ _ _ _ _ _ _ _ _ _ _ _ _ _ _ _ _ _ r h => by simp [spec_DecodeDesc.j5] at h, fun _ _ _ _ _ _ _ _ _ _ _ _ _ _ _ _ _ _ r h => by simp [spec_DecodeDesc.j6] at h⟩
  | k + 1 => by
    obtain ⟨ih0, ih1, ih2, ih3, ih4, ih5, ih6⟩ := spec_DecodeDesc.mono_l k
    refine ⟨?_, ?_, ?_, ?_, ?_, ?_, ?_⟩
    · intro y0 y1 y2
      unfold spec_DecodeDesc.j0
      repeat' first
      | (with_reducible exact ih0 _ _ _)
      | (with_reducible exact ih1 _ _ _ _ _ _ _ _)
      | (with_reducible exact ih2 _ _ _ _ _ _ _ _ _)
      | (with_reducible exact ih3 _ _ _ _ _ _ _ _ _ _ _ _ _ _ _ _ _ _)
      | (with_reducible exact ih4 _ _ _ _ _ _ _ _ _ _ _ _ _ _ _ _ _)
      | (with_reducible exact ih5 _ _ _ _ _ _ _ _ _ _ _ _ _ _ _ _ _ _)
      | (with_reducible exact ih6 _ _ _ _ _ _ _ _ _ _ _ _ _ _ _ _ _ _)
      | (with_reducible exact spec_EncodeDesc.mono _ _)
      | (with_reducible exact spec_l12Bytes.mono _ _ _)
      | (with_reducible exact spec_l15Read.mono _ _ _ _)
      | (with_reducible exact spec_l15ReadSigned.mono _ _ _ _)
      | (with_reducible exact LeO.refl _)
      | (with_reducible exact LeO.none _)
      | (with_reducible refine LeO.ite ?_ ?_)
      | (with_reducible refine LeO.bind ?_ (fun _ => ?_))
      | exact ih0 _ _ _
      | exact ih1 _ _ _ _ _ _ _ _
      | exact ih2 _ _ _ _ _ _ _ _ _
      | exact ih3 _ _ _ _ _ _ _ _ _ _ _ _ _ _ _ _ _ _
      | exact ih4 _ _ _ _ _ _ _ _ _ _ _ _ _ _ _ _ _
      | exact ih5 _ _ _ _ _ _ _ _ _ _ _ _ _ _ _ _ _ _
      | exact ih6 _ _ _ _ _ _ _ _ _ _ _ _ _ _ _ _ _ _
      | exact spec_EncodeDesc.mono _ _
      | exact spec_l12Bytes.mono _ _ _
      | exact spec_l15Read.mono _ _ _ _
      | exact spec_l15ReadSigned.mono _ _ _ _
      | exact LeO.none _
      | refine LeO.ite ?_ ?_
      | refine LeO.bind ?_ (fun _ => ?_)
    · intro y0 y1 y2 y3 y4 y5 y6 y7
      unfold spec_DecodeDesc.l0
      repeat' first
      | (with_reducible exact ih0 _ _ _)
      | (with_reducible exact ih1 _ _ _ _ _ _ _ _)
      | (with_reducible exact ih2 _ _ _ _ _ _ _ _ _)
      | (with_reducible exact ih3 _ _ _ _ _ _ _ _ _ _ _ _ _ _ _ _ _ _)
      | (with_reducible exact ih4 _ _ _ _ _ _ _ _ _ _ _ _ _ _ _ _ _)
      | (with_reducible exact ih5 _ _ _ _ _ _ _ _ _ _ _ _ _ _ _ _ _ _)
      | (with_reducible exact ih6 _ _ _ _ _ _ _ _ _ _ _ _ _ _ _ _ _ _)
      | (with_reducible exact spec_EncodeDesc.mono _ _)
      | (with_reducible exact spec_l12Bytes.mono _ _ _)
      | (with_reducible exact spec_l15Read.mono _ _ _ _)
      | (with_reducible exact spec_l15ReadSigned.mono _ _ _ _)
      | (with_reducible exact LeO.refl _)
      | (with_reducible exact LeO.none _)
      | (with_reducible refine LeO.ite ?_ ?_)
      | (with_reducible refine LeO.bind ?_ (fun _ => ?_))
      | exact ih0 _ _ _
      | exact ih1 _ _ _ _ _ _ _ _
      | exact ih2 _ _ _ _ _ _ _ _ _
      | exact ih3 _ _ _ _ _ _ _ _ _ _ _ _ _ _ _ _ _ _
      | exact ih4 _ _ _ _ _ _ _ _ _ _ _ _ _ _ _ _ _
      | exact ih5 _ _ _ _ _ _ _ _ _ _ _ _ _ _ _ _ _ _
      | exact ih6 _ _ _ _ _ _ _ _ _ _ _ _ _ _ _ _ _ _
      | exact spec_EncodeDesc.mono _ _
      | exact spec_l12Bytes.mono _ _ _
      | exact spec_l15Read.mono _ _ _ _
      | exact spec_l15ReadSigned.mono _ _ _ _
      | exact LeO.none _
      | refine LeO.ite ?_ ?_
      | refine LeO.bind ?_ (fun _ => ?_)
    · intro y0 y1 y2 y3 y4 y5 y6 y7 y8
      unfold spec_DecodeDesc.j2
      repeat' first
      | (with_reducible exact ih0 _ _ _)
      | (with_reducible exact ih1 _ _ _ _ _ _ _ _)
      | (with_reducible exact ih2 _ _ _ _ _ _ _ _ _)
      | (with_reducible exact ih3 _ _ _ _ _ _ _ _ _ _ _ _ _ _ _ _ _ _)
      | (with_reducible exact ih4 _ _ _ _ _ _ _ _ _ _ _ _ _ _ _ _ _)
      | (with_reducible exact ih5 _ _ _ _ _ _ _ _ _ _ _ _ _ _ _ _ _ _)
      | (with_reducible exact ih6 _ _ _ _ _ _ _ _ _ _ _ _ _ _ _ _ _ _)
      | (with_reducible exact spec_EncodeDesc.mono _ _)
      | (with_reducible exact spec_l12Bytes.mono _ _ _)
      | (with_reducible exact spec_l15Read.mono _ _ _ _)
      | (with_reducible exact spec_l15ReadSigned.mono _ _ _ _)
      | (with_reducible exact LeO.refl _)
      | (with_reducible exact LeO.none _)
      | (with_reducible refine LeO.ite ?_ ?_)
      | (with_reducible refine LeO.bind ?_ (fun _ => ?_))
      | exact ih0 _ _ _
      | exact ih1 _ _ _ _ _ _ _ _
      | exact ih2 _ _ _ _ _ _ _ _ _
      | exact ih3 _ _ _ _ _ _ _ _ _ _ _ _ _ _ _ _ _ _
      | exact ih4 _ _ _ _ _ _ _ _ _ _ _ _ _ _ _ _ _
      | exact ih5 _ _ _ _ _ _ _ _ _ _ _ _ _ _ _ _ _ _
      | exact ih6 _ _ _ _ _ _ _ _ _ _ _ _ _ _ _ _ _ _
      | exact spec_EncodeDesc.mono _ _
      | exact spec_l12Bytes.mono _ _ _
      | exact spec_l15Read.mono _ _ _ _
      | exact spec_l15ReadSigned.mono _ _ _ _
      | exact LeO.none _
      | refine LeO.ite ?_ ?_
      | refine LeO.bind ?_ (fun _ => ?_)
    · intro y0 y1 y2 y3 y4 y5 y6 y7 y8 y9 y10 y11 y12 y13 y14 y15 y16 y17
      unfold spec_DecodeDesc.j3
      repeat' first
      | (with_reducible exact ih0 _ _ _)
      | (with_reducible exact ih1 _ _ _ _ _ _ _ _)
      | (with_reducible exact ih2 _ _ _ _ _ _ _ _ _)
      | (with_reducible exact ih3 _ _ _ _ _ _ _ _ _ _ _ _ _ _ _ _ _ _)
      | (with_reducible exact ih4 _ _ _ _ _ _ _ _ _ _ _ _ _ _ _ _ _)
      | (with_reducible exact ih5 _ _ _ _ _ _ _ _ _ _ _ _ _ _ _ _ _ _)
      | (with_reducible exact ih6 _ _ _ _ _ _ _ _ _ _ _ _ _ _ _ _ _ _)
      | (with_reducible exact spec_EncodeDesc.mono _ _)
      | (with_reducible exact spec_l12Bytes.mono _ _ _)
      | (with_reducible exact spec_l15Read.mono _ _ _ _)
      | (with_reducible exact spec_l15ReadSigned.mono _ _ _ _)
      | (with_reducible exact LeO.refl _)
      | (with_reducible exact LeO.none _)
      | (with_reducible refine LeO.ite ?_ ?_)
      | (with_reducible refine LeO.bind ?_ (fun _ => ?_))
      | exact ih0 _ _ _
      | exact ih1 _ _ _ _ _ _ _ _
      | exact ih2 _ _ _ _ _ _ _ _ _
      | exact ih3 _ _ _ _ _ _ _ _ _ _ _ _ _ _ _ _ _ _
      | exact ih4 _ _ _ _ _ _ _ _ _ _ _ _ _ _ _ _ _
      | exact ih5 _ _ _ _ _ _ _ _ _ _ _ _ _ _ _ _ _ _
      | exact ih6 _ _ _ _ _ _ _ _ _ _ _ _ _ _ _ _ _ _
      | exact spec_EncodeDesc.mono _ _
      | exact spec_l12Bytes.mono _ _ _
      | exact spec_l15Read.mono _ _ _ _
      | exact spec_l15ReadSigned.mono _ _ _ _
      | exact LeO.none _
      | refine LeO.ite ?_ ?_
      | refine LeO.bind ?_ (fun _ => ?_)
    · intro y0 y1 y2 y3 y4 y5 y6 y7 y8 y9 y10 y11 y12 y13 y14 y15 y16
      unfold spec_DecodeDesc.l1
      repeat' first
      | (with_reducible exact ih0 _ _ _)
      | (with_reducible exact ih1 _ _ _ _ _ _ _ _)
      | (with_reducible exact ih2 _ _ _ _ _ _ _ _ _)
      | (with_reducible exact ih3 _ _ _ _ _ _ _ _ _ _ _ _ _ _ _ _ _ _)
      | (with_reducible exact ih4 _ _ _ _ _ _ _ _ _ _ _ _ _ _ _ _ _)
      | (with_reducible exact ih5 _ _ _ _ _ _ _ _ _ _ _ _ _ _ _ _ _ _)
      | (with_reducible exact ih6 _ _ _ _ _ _ _ _ _ _ _ _ _ _ _ _ _ _)
      | (with_reducible exact spec_EncodeDesc.mono _ _)
      | (with_reducible exact spec_l12Bytes.mono _ _ _)
      | (with_reducible exact spec_l15Read.mono _ _ _ _)
      | (with_reducible exact spec_l15ReadSigned.mono _ _ _ _)
      | (with_reducible exact LeO.refl _)
      | (with_reducible exact LeO.none _)
      | (with_reducible refine LeO.ite ?_ ?_)
      | (with_reducible refine LeO.bind ?_ (fun _ => ?_))
      | exact ih0 _ _ _
      | exact ih1 _ _ _ _ _ _ _ _
      | exact ih2 _ _ _ _ _ _ _ _ _
      | exact ih3 _ _ _ _ _ _ _ _ _ _ _ _ _ _ _ _ _ _
      | exact ih4 _ _ _ _ _ _ _ _ _ _ _ _ _ _ _ _ _
      | exact ih5 _ _ _ _ _ _ _ _ _ _ _ _ _ _ _ _ _ _
      | exact ih6 _ _ _ _ _ _ _ _ _ _ _ _ _ _ _ _ _ _
      | exact spec_EncodeDesc.mono _ _
      | exact spec_l12Bytes.mono _ _ _
      | exact spec_l15Read.mono _ _ _ _
      | exact spec_l15ReadSigned.mono _ _ _ _
      | exact LeO.none _
      | refine LeO.ite ?_ ?_
      | refine LeO.bind ?_ (fun _ => ?_)
    · intro y0 y1 y2 y3 y4 y5 y6 y7 y8 y9 y10 y11 y12 y13 y14 y15 y16 y17
      unfold spec_DecodeDesc.j5
      repeat' first
      | (with_reducible exact ih0 _ _ _)
      | (with_reducible exact ih1 _ _ _ _ _ _ _ _)
      | (with_reducible exact ih2 _ _ _ _ _ _ _ _ _)
      | (with_reducible exact ih3 _ _ _ _ _ _ _ _ _ _ _ _ _ _ _ _ _ _)
      | (with_reducible exact ih4 _ _ _ _ _ _ _ _ _ _ _ _ _ _ _ _ _)
      | (with_reducible exact ih5 _ _ _ _ _ _ _ _ _ _ _ _ _ _ _ _ _ _)
      | (with_reducible exact ih6 _ _ _ _ _ _ _ _ _ _ _ _ _ _ _ _ _ _)
      | (with_reducible exact spec_EncodeDesc.mono _ _)
      | (with_reducible exact spec_l12Bytes.mono _ _ _)
      | (with_reducible exact spec_l15Read.mono _ _ _ _)
      | (with_reducible exact spec_l15ReadSigned.mono _ _ _ _)
      | (with_reducible exact LeO.refl _)
      | (with_reducible exact LeO.none _)
      | (with_reducible refine LeO.ite ?_ ?_)
      | (with_reducible refine LeO.bind ?_ (fun _ => ?_))
      | exact ih0 _ _ _
      | exact ih1 _ _ _ _ _ _ _ _
      | exact ih2 _ _ _ _ _ _ _ _ _
      | exact ih3 _ _ _ _ _ _ _ _ _ _ _ _ _ _ _ _ _ _
      | exact ih4 _ _ _ _ _ _ _ _ _ _ _ _ _ _ _ _ _
      | exact ih5 _ _ _ _ _ _ _ _ _ _ _ _ _ _ _ _ _ _
      | exact ih6 _ _ _ _ _ _ _ _ _ _ _ _ _ _ _ _ _ _
      | exact spec_EncodeDesc.mono _ _
      | exact spec_l12Bytes.mono _ _ _
      | exact spec_l15Read.mono _ _ _ _
      | exact spec_l15ReadSigned.mono _ _ _ _
      | exact LeO.none _
      | refine LeO.ite ?_ ?_
      | refine LeO.bind ?_ (fun _ => ?_)
    · intro y0 y1 y2 y3 y4 y5 y6 y7 y8 y9 y10 y11 y12 y13 y14 y15 y16 y17
      unfold spec_DecodeDesc.j6
      repeat' first
      | (with_reducible exact ih0 _ _ _)
      | (with_reducible exact ih1 _ _ _ _ _ _ _ _)
      | (with_reducible exact ih2 _ _ _ _ _ _ _ _ _)
      | (with_reducible exact ih3 _ _ _ _ _ _ _ _ _ _ _ _ _ _ _ _ _ _)
      | (with_reducible exact ih4 _ _ _ _ _ _ _ _ _ _ _ _ _ _ _ _ _)
      | (with_reducible exact ih5 _ _ _ _ _ _ _ _ _ _ _ _ _ _ _ _ _ _)
      | (with_reducible exact ih6 _ _ _ _ _ _ _ _ _ _ _ _ _ _ _ _ _ _)
      | (with_reducible exact spec_EncodeDesc.mono _ _)
      | (with_reducible exact spec_l12Bytes.mono _ _ _)
      | (with_reducible exact spec_l15Read.mono _ _ _ _)
      | (with_reducible exact spec_l15ReadSigned.mono _ _ _ _)
      | (with_reducible exact LeO.refl _)
      | (with_reducible exact LeO.none _)
      | (with_reducible refine LeO.ite ?_ ?_)
      | (with_reducible refine LeO.bind ?_ (fun _ => ?_))
      | exact ih0 _ _ _
      | exact ih1 _ _ _ _ _ _ _ _
      | exact ih2 _ _ _ _ _ _ _ _ _
      | exact ih3 _ _ _ _ _ _ _ _ _ _ _ _ _ _ _ _ _ _
      | exact ih4 _ _ _ _ _ _ _ _ _ _ _ _ _ _ _ _ _
      | exact ih5 _ _ _ _ _ _ _ _ _ _ _ _ _ _ _ _ _ _
      | exact ih6 _ _ _ _ _ _ _ _ _ _ _ _ _ _ _ _ _ _
      | exact spec_EncodeDesc.mono _ _
      | exact spec_l12Bytes.mono _ _ _
      | exact spec_l15Read.mono _ _ _ _
      | exact spec_l15ReadSigned.mono _ _ _ _
      | exact LeO.none _
      | refine LeO.ite ?_ ?_
      | refine LeO.bind ?_ (fun _ => ?_)
theorem spec_DecodeDesc.mono : ∀ a0 k, LeO (spec_DecodeDesc.f k a0) (spec_DecodeDesc.f (k + 1) a0) := by
  intro a0 k
  obtain ⟨ih0, ih1, ih2, ih3, ih4, ih5, ih6⟩ := spec_DecodeDesc.mono_l k
  unfold spec_DecodeDesc.f
  repeat' first
      | (with_reducible exact ih0 _ _ _)
      | (with_reducible exact ih1 _ _ _ _ _ _ _ _)
      | (with_reducible exact ih2 _ _ _ _ _ _ _ _ _)
      | (with_reducible exact ih3 _ _ _ _ _ _ _ _ _ _ _ _ _ _ _ _ _ _)
      | (with_reducible exact ih4 _ _ _ _ _ _ _ _ _ _ _ _ _ _ _ _ _)
      | (with_reducible exact ih5 _ _ _ _ _ _ _ _ _ _ _ _ _ _ _ _ _ _)
      | (with_reducible exact ih6 _ _ _ _ _ _ _ _ _ _ _ _ _ _ _ _ _ _)
      | (with_reducible exact spec_EncodeDesc.mono _ _)
      | (with_reducible exact spec_l12Bytes.mono _ _ _)
      | (with_reducible exact spec_l15Read.mono _ _ _ _)
      | (with_reducible exact spec_l15ReadSigned.mono _ _ _ _)
      | (with_reducible exact LeO.refl _)
      | (with_reducible exact LeO.none _)
      | (with_reducible refine LeO.ite ?_ ?_)
      | (with_reducible refine LeO.bind ?_ (fun _ => ?_))
      | exact ih0 _ _ _
      | exact ih1 _ _ _ _ _ _ _ _
      | exact ih2 _ _ _ _ _ _ _ _ _
      | exact ih3 _ _ _ _ _ _ _ _ _ _ _ _ _ _ _ _ _ _
      | exact ih4 _ _ _ _ _ _ _ _ _ _ _ _ _ _ _ _ _
      | exact ih5 _ _ _ _ _ _ _ _ _ _ _ _ _ _ _ _ _ _
      | exact ih6 _ _ _ _ _ _ _ _ _ _ _ _ _ _ _ _ _ _
      | exact spec_EncodeDesc.mono _ _
      | exact spec_l12Bytes.mono _ _ _
      | exact spec_l15Read.mono _ _ _ _
      | exact spec_l15ReadSigned.mono _ _ _ _
      | exact LeO.none _
      | refine LeO.ite ?_ ?_
      | refine LeO.bind ?_ (fun _ => ?_)
set_option maxHeartbeats 8000000 in
set_option maxRecDepth 100000 in
theorem spec_DecodeDesc.calls (k : Nat) (A0 : Option Addr) (c0 : Nat) (l0 : List Int) (r1 : List (List (S81))) (r2 : Bool) (w : World) (hr0 : Kd.C (Kd.int .u8) w A0 l0.length l0) (hc0 : l0.length ≤ c0) (h : spec_DecodeDesc.f k l0 = some (r1, r2)) :
    Calls Try.prog 24 #[.slice A0 l0.length c0] w fun e w' => ∃ v0_ : Value, e = .returned (.tuple #[v0_, .bool r2]) ∧ Kd.S (Kd.slice 81 k81) 79 w' w.heap.size (fun _ => True) v0_ r1 ∧ Below w.heap.size w w' := by
  have hu93 := Try.underlying93
  have hu81 := Try.underlying81
  have HR0 := Aside0.mk hr0
  have HC0 := Aside0.mk hc0
  clear hr0 hc0
  have HB := Aside0.mk (Below.refl w.heap.size w)
  have H : ((some (([] : List (List (S81))) : List (List (S81)))).bind fun y215 => (if (l0.length : Int) < 4 then (spec_DecodeDesc.j0 k l0 y215 true) else (if 4 ≤ (l0.length : Int) then (spec_DecodeDesc.j0 k l0 y215 ((strOfNums (l0.take 4)).toList != ([81, 80, 68, 49] : List UInt8))) else (none)))) = some (r1, r2) := h
  clear h
  obtain ⟨y215, hy215⟩ : ∃ y_ : List (List (S81)), y_ = (([] : List (List (S81)))) := ⟨_, rfl⟩
  replace H : (if (l0.length : Int) < 4 then (spec_DecodeDesc.j0 k l0 y215 true) else (if 4 ≤ (l0.length : Int) then (spec_DecodeDesc.j0 k l0 y215 ((strOfNums (l0.take 4)).toList != ([81, 80, 68, 49] : List UInt8))) else (none))) = some (r1, r2) := by first | (rw [hy215]; with_reducible exact H) | (have H2_ := (Option.bind_some _ _).symm.trans H; rw [hy215]; with_reducible exact H2_) | (have H2_ := (Option.bind_some _ _).symm.trans H; with_reducible exact H2_) | with_reducible exact H | (rw [hy215]; exact H) | exact H
  have Ny215 := Aside0.mk hy215
  clear hy215
  have HC2 := Aside0.mk H
  clear H
  go_enter Try.func24, Try.ntmps24
  go_upto_region 2 with (first | ((with_reducible refine gate_dst (N := 14) rfl ?_); (try (refine gate_guard (by rfl) ?_; dsimp only)); refine Kd.S_lit (Kd.slice 81 k81) _ 79 ?hg (N := 14) ?hd (xs := ([] : List (List (S81)))) (inner := []) (ok := fun _ => True) (okp := fun _ => True) ?hr ?hp (fun _ hk => hk) trivial (Below.refl _ _) (Nat.le_refl _) (by simp) ?_; (case hd => rfl); (case hg => rfl); (case hr => first | (go_simp; done) | (go_simp; rfl)); (case hp => exact (Reps.none _ _)); intro v216 w3 ho4 hb hg_ hnew_; clear hg_ hnew_; (first | rw [← Ny215.out] at ho4 | (simp only [Int.reduceToNat] at ho4; rw [← Ny215.out] at ho4)); have n0_ := Aside0.mk (Kd.S_lower ho4 (below_size (by repeat (first | (with_reducible first | exact HB.out | apply below_alloc | apply pw_below_drewN | apply below_drew1) | exact HB.out)))); have n1_ := Aside0.mk (below_step (by repeat (first | (with_reducible first | exact HB.out | apply below_alloc | apply pw_below_drewN | apply below_drew1) | exact HB.out)) hb); clear HB; have HO217 := n0_; have HB := n1_; clear n0_ n1_; clear hb ho4))
  (try simp only [Act.put, List.setIfInBounds_toArray, List.set_cons_zero, List.set_cons_succ])
  go_cut [23] (fun v23 wc => ∃ (kq : Nat) (x23_1 : Bool), v23 = .bool x23_1 ∧ Aside0 (spec_DecodeDesc.j0 kq l0 y215 x23_1 = some (r1, r2)) ∧ Aside0 (kq ≤ k) ∧ Aside0 (Kd.S (Kd.slice 81 k81) 79 wc w.heap.size (fun _ => True) v216 y215) ∧ Aside0 (Below w.heap.size w wc))
  case first =>
    have H := HC2.out
    clear HC2
    by_cases c5 : (l0.length : Int) < 4
    · rw [if_pos c5] at H
      have c5b0 : decide ((l0.length : Int) < 4) = true := decide_eq_true c5
      have c5b1 : decide (l0.length < 4) = true := decide_eq_true (by omega)
      clear c5
      (first | rw [c5b0] | (simp only [i64_w, i32_w]; rw [c5b0]) | skip)
      have H' := Aside0.mk H
      clear H
      go_wp2
      go_meet
      case rel => exact ⟨_, (true), (by first | rfl | (simp; done) | (simp [*]; done)), H', ⟨by first | omega | exact Nat.le_refl _⟩, ⟨by (with_reducible repeat (first | apply Kd.S_alloc | apply Kd.S_drewN | apply Kd.S_drew)); exact HO217.out⟩, ⟨by repeat (first | (with_reducible first | exact HB.out | apply below_alloc | apply pw_below_drewN | apply below_drew1) | exact HB.out)⟩⟩
    · rw [if_neg c5] at H
      have c5b0 : decide ((l0.length : Int) < 4) = false := decide_eq_false c5
      have c5b1 : decide (l0.length < 4) = false := decide_eq_false (by omega)
      clear c5
      (first | rw [c5b0] | (simp only [i64_w, i32_w]; rw [c5b0]) | skip)
      by_cases c6 : 4 ≤ (l0.length : Int)
      · rw [if_pos c6] at H
        have c6b0 := eq_true c6
        have c6b1 : decide (4 ≤ (l0.length : Int)) = true := decide_eq_true c6
        clear c6
        have H' := Aside0.mk H
        clear H
        obtain ⟨i07, hi07, _, hsz7, _⟩ := info_parts info5
        obtain ⟨hcut7, hA7, hC7⟩ := print_take_of (P := Try.prog) (Value.int .u8) 0 46 5 .i64 Try.underlying46 hi07 hsz7 A0 c0 l0 4 (by omega) (of_decide_eq_true (by first | (with_reducible assumption) | assumption)) HC0.out
        have HR218 := Aside0.mk (Kd.C_of_reads (h1 := fun _ => rfl) (hA7 _ (Kd.reads_of_C HR0.out)))
        have HC218 := Aside0.mk hC7
        clear hA7 hC7 hi07 hsz7
        have hcv8 := Kd.C_string (P := Try.prog) (A := A0) (c := c0) Try.underlying46 Try.underlying5 Try.underlying9 (Kd.C_below HR218.out HB.out)
        have hcv8_ := hcv8
        simp only [List.length_take, show Int.toNat 4 = 4 from rfl] at hcv8_
        go_wp2
        go_meet
        case rel => exact ⟨_, (((strOfNums (l0.take 4)).toList != ([81, 80, 68, 49] : List UInt8))), (by first | rfl | (simp; done) | (simp [*]; done)), H', ⟨by first | omega | exact Nat.le_refl _⟩, ⟨by (with_reducible repeat (first | apply Kd.S_alloc | apply Kd.S_drewN | apply Kd.S_drew)); exact HO217.out⟩, ⟨by repeat (first | (with_reducible first | exact HB.out | apply below_alloc | apply pw_below_drewN | apply below_drew1) | exact HB.out)⟩⟩
      · rw [if_neg c6] at H
        exact absurd H (by simp)
  case rest =>
    clear HC2
    try clear c2
    try clear p2
    try clear c5
    try clear c5b0
    try clear c5b1
    try clear c6
    try clear c6b0
    try clear c6b1
    try clear hcv8
    obtain ⟨kq, x23_1, rfl, HA, HJ1, HO_4, HB⟩ := hcut
    cases kq with
    | zero => exact absurd HA.out (by simp [spec_DecodeDesc.j0])
    | succ kj1 =>
      have H := HA.out
      clear HA
      simp only [spec_DecodeDesc.j0] at H
      by_cases c9 : x23_1 = true
      · subst c9
        have H1 : (some (y215, false)) = some (r1, r2) := by rw [if_pos rfl] at H; exact H
        clear H
        have H := H1
        clear H1
        simp only [Option.some.injEq, Prod.mk.injEq] at H
        obtain ⟨rfl, rfl⟩ := H
        go_wp2
        go_ret2
        exact ⟨_, by first | rfl | (simp [errW_none, errW_some] <;> rfl) | (simp [*, errW_none, errW_some] <;> rfl), by (with_reducible repeat (first | apply Kd.S_alloc | apply Kd.S_drewN | apply Kd.S_drew)); exact HO_4.out, by repeat (first | (with_reducible first | exact HB.out | apply below_alloc | apply pw_below_drewN | apply below_drew1) | exact HB.out)⟩
      · replace c9 := Bool.eq_false_iff.mpr c9
        subst c9
        have H1 : ((spec_l15Read.f kj1 l0 4 false).bind fun bt223 => (spec_DecodeDesc.l0 kj1 l0 y215 (([] : List (List (S81)))) 0 bt223.1 l0 bt223.2.1 bt223.2.2)) = some (r1, r2) := by rw [if_neg (show ¬ (false = true) by decide)] at H; exact H
        clear H
        have H := H1
        clear H1
        obtain ⟨y220, hy220⟩ : ∃ y_ : List (List (S81)), y_ = (([] : List (List (S81)))) := ⟨_, rfl⟩
        replace H : ((spec_l15Read.f kj1 l0 4 false).bind fun bt223 => (spec_DecodeDesc.l0 kj1 l0 y215 y220 0 bt223.1 l0 bt223.2.1 bt223.2.2)) = some (r1, r2) := by first | (rw [hy220]; with_reducible exact H) | (have H2_ := (Option.bind_some _ _).symm.trans H; rw [hy220]; with_reducible exact H2_) | (have H2_ := (Option.bind_some _ _).symm.trans H; with_reducible exact H2_) | with_reducible exact H | (rw [hy220]; exact H) | exact H
        have Ny220 := Aside0.mk hy220
        clear hy220
        replace H := Option.bind_eq_some_iff.mp H
        obtain ⟨⟨t223, t224, t225⟩, A100, H⟩ := H
        replace H : (spec_DecodeDesc.l0 kj1 l0 y215 y220 0 t223 l0 t224 t225) = some (r1, r2) := H
        have A10 := Aside0.mk A100
        clear A100
        have H' := Aside0.mk H
        clear H
        go_wp2_with (first | ((with_reducible refine gate_dst (N := 27) rfl ?_); (try (refine gate_guard (by rfl) ?_; dsimp only)); refine box_event ?hg (N := 27) ?hd (cs := #[.slice A0 l0.length c0, .int .i64 4, .bool false]) (t := 93) ?hr ?_; (case hd => rfl); (case hg => rfl); (case hr => first | (go_simp; done) | (go_simp; rfl)); intro gb219 hg w11 hbox hb; have n0_ := Aside0.mk (Kd.S_below (by (with_reducible repeat (first | apply Kd.S_alloc | apply Kd.S_drewN | apply Kd.S_drew)); exact HO_4.out) hb); have n1_ := Aside0.mk (below_step (by repeat (first | (with_reducible first | exact HB.out | apply below_alloc | apply pw_below_drewN | apply below_drew1) | exact HB.out)) hb); have n2_ := Aside0.mk ((⟨_, _, hbox, (by rw [hg]; exact (below_size (by repeat (first | (with_reducible first | exact HB.out | apply below_alloc | apply pw_below_drewN | apply below_drew1) | exact HB.out))) : w.heap.size ≤ gb219), HR0.out⟩ : IsS93 w w11 gb219 l0 4 false)); clear HO_4; clear HB; have HO_4 := n0_; have HB := n1_; have HI219 := n2_; clear n0_ n1_ n2_; clear hb hbox hg) | ((with_reducible refine gate_dst (N := 28) rfl ?_); (try (refine gate_guard (by rfl) ?_; dsimp only)); refine Kd.S_lit (Kd.slice 81 k81) _ 79 ?hg (N := 28) ?hd (xs := ([] : List (List (S81)))) (inner := []) (ok := fun _ => True) (okp := fun _ => True) ?hr ?hp (fun _ hk => hk) trivial (Below.refl _ _) (Nat.le_refl _) (by simp) ?_; (case hd => rfl); (case hg => rfl); (case hr => first | (go_simp; done) | (go_simp; rfl)); (case hp => exact (Reps.none _ _)); intro v221 w12 ho13 hb hg_ hnew_; clear hg_ hnew_; (first | rw [← Ny220.out] at ho13 | (simp only [Int.reduceToNat] at ho13; rw [← Ny220.out] at ho13)); have n0_ := Aside0.mk (Kd.S_elder' (by (with_reducible repeat (first | apply Kd.S_alloc | apply Kd.S_drewN | apply Kd.S_drew)); exact HO_4.out) (Kd.S_base ho13) hb); have n1_ := Aside0.mk (Kd.S_lower (Kd.S_new' ho13 (Kd.S_lt (by (with_reducible repeat (first | apply Kd.S_alloc | apply Kd.S_drewN | apply Kd.S_drew)); exact HO_4.out))) (below_size (by repeat (first | (with_reducible first | exact HB.out | apply below_alloc | apply pw_below_drewN | apply below_drew1 | refine below_set ?_ (IsS93.ge HI219.out)) | exact HB.out)))); have n2_ := Aside0.mk (IsS93.below (by repeat (first | (with_reducible first | exact HI219.out | apply IsS93.alloc | apply IsS93.drewN | apply IsS93.drew | apply IsS93.set_1 | apply IsS93.set_2) | exact HI219.out)) hb); have n3_ := Aside0.mk (below_step (by repeat (first | (with_reducible first | exact HB.out | apply below_alloc | apply pw_below_drewN | apply below_drew1 | refine below_set ?_ (IsS93.ge HI219.out)) | exact HB.out)) hb); clear HO_4; clear HI219; clear HB; have HO_4 := n0_; have HO222 := n1_; have HI219 := n2_; have HB := n3_; clear n0_ n1_ n2_ n3_; clear hb ho13) | ((with_reducible refine gate_callee (f := 55) rfl ?_); refine goesL_ (some 30) rfl rfl Try.func55 (by kernel_rfl) rfl #[.pointer (some ⟨gb219, 0, none⟩)] rfl (by (try simp only [List.map_toArray, List.map_cons, List.map_nil]); first | done | rfl | (simp only [List.length_drop, List.length_take]; rfl)) ?_; (with_reducible refine (spec_l15Read.calls kj1 gb219 l0 4 false t223 t224 t225 w _ ?side1 ?side2 A10.out).mono ?_); (case side1 => repeat (first | (with_reducible first | exact HI219.out | apply IsS93.alloc | apply IsS93.drewN | apply IsS93.drew | apply IsS93.set_1 | apply IsS93.set_2) | exact HI219.out)); (case side2 => repeat (first | (with_reducible first | exact HB.out | apply below_alloc | apply pw_below_drewN | apply below_drew1 | refine below_set ?_ (IsS93.ge HI219.out)) | exact HB.out)); rintro e w14 ⟨rfl, hi, hb, hk⟩; refine ⟨_, rfl, ?_⟩; have n0_ := Aside0.mk (Kd.S_mono (Kd.S_keep (IsS93.apartS (show IsS93 w _ gb219 l0 4 false from by repeat (first | (with_reducible first | exact HI219.out | apply IsS93.alloc | apply IsS93.drewN | apply IsS93.drew | apply IsS93.set_1 | apply IsS93.set_2) | exact HI219.out)) (by (with_reducible repeat (first | apply Kd.S_alloc | apply Kd.S_drewN | apply Kd.S_drew)); exact HO_4.out) (by decide)) hk (fun _ h => h.2)) (fun _ h => h.1)); have n1_ := Aside0.mk (Kd.S_mono (Kd.S_keep (IsS93.apartS (show IsS93 w _ gb219 l0 4 false from by repeat (first | (with_reducible first | exact HI219.out | apply IsS93.alloc | apply IsS93.drewN | apply IsS93.drew | apply IsS93.set_1 | apply IsS93.set_2) | exact HI219.out)) (by (with_reducible repeat (first | apply Kd.S_alloc | apply Kd.S_drewN | apply Kd.S_drew)); exact HO222.out) (by decide)) hk (fun _ h => h.2)) (fun _ h => h.1)); have n2_ := Aside0.mk (hb); have n3_ := Aside0.mk (hi); clear HO_4; clear HO222; clear HB; clear HI219; have HO_4 := n0_; have HO222 := n1_; have HB := n2_; have HI219 := n3_; clear n0_ n1_ n2_ n3_; (try clear hb); (try clear hb2); (try clear hk); (try clear hi)))
        go_loopg [6, 7, 8] kj1 (fun kq v6 v7 v8 w' => ∃ (x6_2 : List (List (S81))) (x7_2 : Int) (x8_2 : Int) (x220001_2 : Int) (x220002_2 : Bool), v7 = .int .i64 x7_2 ∧ v8 = .int .i64 x8_2 ∧ Aside0 (spec_DecodeDesc.l0 kq l0 y215 x6_2 x7_2 x8_2 l0 x220001_2 x220002_2 = some (r1, r2)) ∧ Aside0 (kq ≤ kj1) ∧ Aside0 (Kd.S (Kd.slice 81 k81) 79 w' w.heap.size (fun k_ => some k_ ≠ (v6 : Value).ownBlock) v216 y215) ∧ Aside0 (Kd.S (Kd.slice 81 k81) 79 w' w.heap.size (fun k_ => some k_ ≠ (v216 : Value).ownBlock) v6 x6_2) ∧ Aside0 (IsS93 w w' gb219 l0 x220001_2 x220002_2) ∧ Aside0 (Below w.heap.size w w'))
        case atStart => exact ⟨(y220), (0), (t223), (t224), (t225), (by first | rfl | (simp; done) | (simp [*]; done)), (by first | rfl | (simp; done) | (simp [*]; done)), H', ⟨Nat.le_refl _⟩, ⟨by (with_reducible repeat (first | apply Kd.S_alloc | apply Kd.S_drewN | apply Kd.S_drew)); exact Kd.S_mono HO_4.out (fun _ hk => hk.2)⟩, ⟨by (with_reducible repeat (first | apply Kd.S_alloc | apply Kd.S_drewN | apply Kd.S_drew)); exact Kd.S_mono HO222.out (fun _ hk => hk.2)⟩, ⟨by repeat (first | (with_reducible first | exact HI219.out | apply IsS93.alloc | apply IsS93.drewN | apply IsS93.drew | apply IsS93.set_1 | apply IsS93.set_2) | exact HI219.out)⟩, ⟨by repeat (first | (with_reducible first | exact HB.out | apply below_alloc | apply pw_below_drewN | apply below_drew1 | refine below_set ?_ (IsS93.ge HI219.out)) | exact HB.out)⟩⟩
        case round =>
          clear H'
          try clear c2
          try clear p2
          try clear c5
          try clear c5b0
          try clear c5b1
          try clear c6
          try clear c6b0
          try clear c6b1
          try clear hcv8
          try clear c9
          try clear p2
          obtain ⟨x6_2, x7_2, x8_2, x220001_2, x220002_2, rfl, rfl, HA, HK2, HO_4, HO_6, HI219, HB⟩ := hrel
          cases gk with
          | zero => exact absurd HA.out (by simp [spec_DecodeDesc.l0])
          | succ k2 =>
            have H := HA.out
            clear HA
            simp only [spec_DecodeDesc.l0] at H
            have HC15 := Aside0.mk H
            clear H
            go_upto_region 8 with (fail)
            go_cut [39] (fun v39 wc => ∃ (kq : Nat) (x39_14 : Bool), v39 = .bool x39_14 ∧ Aside0 (spec_DecodeDesc.j2 kq l0 y215 x6_2 x7_2 x8_2 x39_14 l0 x220001_2 x220002_2 = some (r1, r2)) ∧ Aside0 (kq ≤ k2) ∧ Aside0 (Kd.S (Kd.slice 81 k81) 79 wc w.heap.size (fun k_ => some k_ ≠ (u6 : Value).ownBlock) v216 y215) ∧ Aside0 (Kd.S (Kd.slice 81 k81) 79 wc w.heap.size (fun k_ => some k_ ≠ (v216 : Value).ownBlock) u6 x6_2) ∧ Aside0 (IsS93 w wc gb219 l0 x220001_2 x220002_2) ∧ Aside0 (Below w.heap.size w wc))
            case first =>
              have H := HC15.out
              clear HC15
              by_cases c16 : x8_2 > 0
              · rw [if_pos c16] at H
                have c16b0 : decide (0 < x8_2) = true := decide_eq_true c16
                clear c16
                (first | rw [c16b0] | (simp only [i64_w, i32_w]; rw [c16b0]) | skip)
                have H' := Aside0.mk H
                clear H
                obtain ⟨ASz17_0, cSz17_0, HGz17, hgz17, HSz17_0⟩ := HI219.out
                have hcz17_0 := cellS93_0 HGz17
                have hcz17_1 := cellS93_1 HGz17
                have hcz17_2 := cellS93_2 HGz17
                have hfz17_1 := blk_frozen HGz17 1
                have hfz17_2 := blk_frozen HGz17 2
                clear HGz17 hgz17
                go_wp2
                go_meet
                case rel => exact ⟨_, (!x220002_2), (by first | rfl | (simp; done) | (simp [*]; done)), H', ⟨by have := HJ1.out; have := HK2.out; first | omega | exact Nat.le_refl _⟩, ⟨by (with_reducible repeat (first | apply Kd.S_alloc | apply Kd.S_drewN | apply Kd.S_drew)); exact HO_4.out⟩, ⟨by (with_reducible repeat (first | apply Kd.S_alloc | apply Kd.S_drewN | apply Kd.S_drew)); exact HO_6.out⟩, ⟨by repeat (first | (with_reducible first | exact HI219.out | apply IsS93.alloc | apply IsS93.drewN | apply IsS93.drew | apply IsS93.set_1 | apply IsS93.set_2) | exact HI219.out)⟩, ⟨by repeat (first | (with_reducible first | exact HB.out | apply below_alloc | apply pw_below_drewN | apply below_drew1 | refine below_set ?_ (IsS93.ge HI219.out)) | exact HB.out)⟩⟩
              · rw [if_neg c16] at H
                have c16b0 : decide (0 < x8_2) = false := decide_eq_false c16
                clear c16
                (first | rw [c16b0] | (simp only [i64_w, i32_w]; rw [c16b0]) | skip)
                have H' := Aside0.mk H
                clear H
                go_wp2
                go_meet
                case rel => exact ⟨_, (false), (by first | rfl | (simp; done) | (simp [*]; done)), H', ⟨by have := HJ1.out; have := HK2.out; first | omega | exact Nat.le_refl _⟩, ⟨by (with_reducible repeat (first | apply Kd.S_alloc | apply Kd.S_drewN | apply Kd.S_drew)); exact HO_4.out⟩, ⟨by (with_reducible repeat (first | apply Kd.S_alloc | apply Kd.S_drewN | apply Kd.S_drew)); exact HO_6.out⟩, ⟨by repeat (first | (with_reducible first | exact HI219.out | apply IsS93.alloc | apply IsS93.drewN | apply IsS93.drew | apply IsS93.set_1 | apply IsS93.set_2) | exact HI219.out)⟩, ⟨by repeat (first | (with_reducible first | exact HB.out | apply below_alloc | apply pw_below_drewN | apply below_drew1 | refine below_set ?_ (IsS93.ge HI219.out)) | exact HB.out)⟩⟩
            case rest =>
              clear HC15
              try clear c1
              try clear c2
              try clear p2
              try clear c5
              try clear c5b0
              try clear c5b1
              try clear c6
              try clear c6b0
              try clear c6b1
              try clear hcv8
              try clear c9
              try clear c16
              try clear c16b0
              try clear hcz17_0
              try clear hcz17_1
              try clear hcz17_2
              try clear hfz17_1
              try clear hfz17_2
              try clear p2
              obtain ⟨kq, x39_14, rfl, HA, HJ14, HO_4, HO_6, HI219, HB⟩ := hcut
              cases kq with
              | zero => exact absurd HA.out (by simp [spec_DecodeDesc.j2])
              | succ kj14 =>
                have H := HA.out
                clear HA
                simp only [spec_DecodeDesc.j2] at H
                by_cases c18 : x39_14 = true
                · subst c18
                  have H1 : ((some (([] : List (S81)) : List (S81))).bind fun y226 => ((spec_l15Read.f kj14 l0 x220001_2 x220002_2).bind fun bt230 => (if (wrap64 (x7_2 + bt230.1)) > 20000 then (spec_DecodeDesc.j3 kj14 l0 y215 x6_2 (wrap64 (x7_2 + bt230.1)) x8_2 y226 0 bt230.1 true l0 bt230.2.1 bt230.2.2 0 0 0 0 0 0) else (spec_DecodeDesc.j3 kj14 l0 y215 x6_2 (wrap64 (x7_2 + bt230.1)) x8_2 y226 0 bt230.1 (decide ((x6_2.length : Int) ≥ 1000)) l0 bt230.2.1 bt230.2.2 0 0 0 0 0 0)))) = some (r1, r2) := by rw [if_pos rfl] at H; exact H
                  clear H
                  have H := H1
                  clear H1
                  obtain ⟨y226, hy226⟩ : ∃ y_ : List (S81), y_ = (([] : List (S81))) := ⟨_, rfl⟩
                  replace H : ((spec_l15Read.f kj14 l0 x220001_2 x220002_2).bind fun bt230 => (if (wrap64 (x7_2 + bt230.1)) > 20000 then (spec_DecodeDesc.j3 kj14 l0 y215 x6_2 (wrap64 (x7_2 + bt230.1)) x8_2 y226 0 bt230.1 true l0 bt230.2.1 bt230.2.2 0 0 0 0 0 0) else (spec_DecodeDesc.j3 kj14 l0 y215 x6_2 (wrap64 (x7_2 + bt230.1)) x8_2 y226 0 bt230.1 (decide ((x6_2.length : Int) ≥ 1000)) l0 bt230.2.1 bt230.2.2 0 0 0 0 0 0))) = some (r1, r2) := by first | (rw [hy226]; with_reducible exact H) | (have H2_ := (Option.bind_some _ _).symm.trans H; rw [hy226]; with_reducible exact H2_) | (have H2_ := (Option.bind_some _ _).symm.trans H; with_reducible exact H2_) | with_reducible exact H | (rw [hy226]; exact H) | exact H
                  have Ny226 := Aside0.mk hy226
                  clear hy226
                  replace H := Option.bind_eq_some_iff.mp H
                  obtain ⟨⟨t230, t231, t232⟩, A190, H⟩ := H
                  replace H : (if (wrap64 (x7_2 + t230)) > 20000 then (spec_DecodeDesc.j3 kj14 l0 y215 x6_2 (wrap64 (x7_2 + t230)) x8_2 y226 0 t230 true l0 t231 t232 0 0 0 0 0 0) else (spec_DecodeDesc.j3 kj14 l0 y215 x6_2 (wrap64 (x7_2 + t230)) x8_2 y226 0 t230 (decide ((x6_2.length : Int) ≥ 1000)) l0 t231 t232 0 0 0 0 0 0)) = some (r1, r2) := H
                  have A19 := Aside0.mk A190
                  clear A190
                  have HC20 := Aside0.mk H
                  clear H
                  go_upto_region 15 with (first | ((with_reducible refine gate_dst (N := 42) rfl ?_); (try (refine gate_guard (by rfl) ?_; dsimp only)); refine Kd.R_lit k81 _ 81 ?hg (N := 42) ?hd (xs := ([] : List (S81))) (inner := []) (ok := fun _ => True) (okp := fun _ => True) ?hr ?hp (fun _ hk => hk) trivial (Below.refl _ _) (Nat.le_refl _) (by simp) ?_; (case hd => rfl); (case hg => rfl); (case hr => first | (go_simp; done) | (go_simp; rfl)); (case hp => exact (Reps.none _ _)); intro v227 w21 ho22 hb hg_ hnew_; clear hg_ hnew_; (first | rw [← Ny226.out] at ho22 | (simp only [Int.reduceToNat] at ho22; rw [← Ny226.out] at ho22)); have n0_ := Aside0.mk (Kd.S_elder' (by (with_reducible repeat (first | apply Kd.S_alloc | apply Kd.S_drewN | apply Kd.S_drew)); exact HO_4.out) (Kd.R_base ho22) hb); have n1_ := Aside0.mk (Kd.S_elder' (by (with_reducible repeat (first | apply Kd.S_alloc | apply Kd.S_drewN | apply Kd.S_drew)); exact HO_6.out) (Kd.R_base ho22) hb); have n2_ := Aside0.mk (Kd.R_lower ho22 (below_size (by repeat (first | (with_reducible first | exact HB.out | apply below_alloc | apply pw_below_drewN | apply below_drew1 | refine below_set ?_ (IsS93.ge HI219.out)) | exact HB.out)))); have n3_ := Aside0.mk (IsS93.below (by repeat (first | (with_reducible first | exact HI219.out | apply IsS93.alloc | apply IsS93.drewN | apply IsS93.drew | apply IsS93.set_1 | apply IsS93.set_2) | exact HI219.out)) hb); have n4_ := Aside0.mk (below_step (by repeat (first | (with_reducible first | exact HB.out | apply below_alloc | apply pw_below_drewN | apply below_drew1 | refine below_set ?_ (IsS93.ge HI219.out)) | exact HB.out)) hb); clear HO_4; clear HO_6; clear HI219; clear HB; have HO_4 := n0_; have HO_6 := n1_; have HO228 := n2_; have HI219 := n3_; have HB := n4_; clear n0_ n1_ n2_ n3_ n4_; clear hb ho22) | ((with_reducible refine gate_dst (N := 10) rfl ?_); (try (refine gate_guard (by rfl) ?_; dsimp only)); refine box_event ?hg (N := 10) ?hd (cs := #[.int .i64 0, .int .i64 0, .int .i64 0, .int .i64 0, .int .i64 0, .int .i64 0]) (t := 81) ?hr ?_; (case hd => rfl); (case hg => rfl); (case hr => first | (go_simp; done) | (go_simp; rfl)); intro gb229 hg w23 hbox hb; have n0_ := Aside0.mk (Kd.S_below (Kd.S_elderB (by (with_reducible repeat (first | apply Kd.S_alloc | apply Kd.S_drewN | apply Kd.S_drew)); exact HO_4.out) gb229 (Nat.le_of_eq hg.symm)) hb); have n1_ := Aside0.mk (Kd.S_below (Kd.S_elderB (by (with_reducible repeat (first | apply Kd.S_alloc | apply Kd.S_drewN | apply Kd.S_drew)); exact HO_6.out) gb229 (Nat.le_of_eq hg.symm)) hb); have n2_ := Aside0.mk (Kd.R_below (Kd.R_elderB (by (with_reducible repeat (first | apply Kd.R_alloc | apply Kd.R_drewN | apply Kd.R_drew)); exact HO228.out) gb229 (Nat.le_of_eq hg.symm)) hb); have n3_ := Aside0.mk (IsS93.below (by repeat (first | (with_reducible first | exact HI219.out | apply IsS93.alloc | apply IsS93.drewN | apply IsS93.drew | apply IsS93.set_1 | apply IsS93.set_2) | exact HI219.out)) hb); have n4_ := Aside0.mk (below_step (by repeat (first | (with_reducible first | exact HB.out | apply below_alloc | apply pw_below_drewN | apply below_drew1 | refine below_set ?_ (IsS93.ge HI219.out)) | exact HB.out)) hb); have n5_ := Aside0.mk (hbox); have n6_ := Aside0.mk ((by rw [hg]; exact (below_size (by repeat (first | (with_reducible first | exact HB.out | apply below_alloc | apply pw_below_drewN | apply below_drew1 | refine below_set ?_ (IsS93.ge HI219.out)) | exact HB.out))) : w.heap.size ≤ gb229)); have n7_ := Aside0.mk ((by rw [hg]; exact (below_size (by repeat (first | (with_reducible first | exact HB.out | apply below_alloc | apply pw_below_drewN | apply below_drew1 | refine below_set ?_ (IsS93.ge HI219.out)) | exact HB.out))) : w.heap.size ≤ gb229)); have n8_ := Aside0.mk ((by rw [hg]; exact Nat.ne_of_lt (IsS93.lt (show IsS93 w _ gb219 l0 x220001_2 x220002_2 from by repeat (first | (with_reducible first | exact HI219.out | apply IsS93.alloc | apply IsS93.drewN | apply IsS93.drew | apply IsS93.set_1 | apply IsS93.set_2) | exact HI219.out))) : gb219 ≠ gb229)); have n9_ := Aside0.mk ((by rw [hg]; exact Nat.ne_of_gt (IsS93.lt (show IsS93 w _ gb219 l0 x220001_2 x220002_2 from by repeat (first | (with_reducible first | exact HI219.out | apply IsS93.alloc | apply IsS93.drewN | apply IsS93.drew | apply IsS93.set_1 | apply IsS93.set_2) | exact HI219.out))) : gb229 ≠ gb219)); clear HO_4; clear HO_6; clear HO228; clear HI219; clear HB; have HO_4 := n0_; have HO_6 := n1_; have HO228 := n2_; have HI219 := n3_; have HB := n4_; have BK229 := n5_; have GW229 := n6_; have GE229 := n7_; have NB219_229 := n8_; have NB229_219 := n9_; clear n0_ n1_ n2_ n3_ n4_ n5_ n6_ n7_ n8_ n9_; clear hb hbox hg; have hnb24 := NB229_219.out; have hnc24 := NB219_229.out; have hcz25_0 : w23.cell? ⟨gb229, 0, none⟩ = some (.int .i64 0) := (blk_cell BK229.out 0).trans rfl; have hcz25_1 : w23.cell? ⟨gb229, 1, none⟩ = some (.int .i64 0) := (blk_cell BK229.out 1).trans rfl; have hcz25_2 : w23.cell? ⟨gb229, 2, none⟩ = some (.int .i64 0) := (blk_cell BK229.out 2).trans rfl; have hcz25_3 : w23.cell? ⟨gb229, 3, none⟩ = some (.int .i64 0) := (blk_cell BK229.out 3).trans rfl; have hcz25_4 : w23.cell? ⟨gb229, 4, none⟩ = some (.int .i64 0) := (blk_cell BK229.out 4).trans rfl; have hcz25_5 : w23.cell? ⟨gb229, 5, none⟩ = some (.int .i64 0) := (blk_cell BK229.out 5).trans rfl; have hfz25_0 := blk_frozen BK229.out 0; have hfz25_1 := blk_frozen BK229.out 1; have hfz25_2 := blk_frozen BK229.out 2; have hfz25_3 := blk_frozen BK229.out 3; have hfz25_4 := blk_frozen BK229.out 4; have hfz25_5 := blk_frozen BK229.out 5) | ((with_reducible refine gate_callee (f := 55) rfl ?_); refine goesL_ (some 45) rfl rfl Try.func55 (by kernel_rfl) rfl #[.pointer (some ⟨gb219, 0, none⟩)] rfl (by (try simp only [List.map_toArray, List.map_cons, List.map_nil]); first | done | rfl | (simp only [List.length_drop, List.length_take]; rfl)) ?_; (with_reducible refine (spec_l15Read.calls kj14 gb219 l0 x220001_2 x220002_2 t230 t231 t232 w _ ?side1 ?side2 A19.out).mono ?_); (case side1 => repeat (first | (with_reducible first | exact HI219.out | apply IsS93.alloc | apply IsS93.drewN | apply IsS93.drew | apply IsS93.set_1 | apply IsS93.set_2 | refine IsS93.far ?_ NB219_229.out _) | exact HI219.out)); (case side2 => repeat (first | (with_reducible first | exact HB.out | apply below_alloc | apply pw_below_drewN | apply below_drew1 | refine below_set ?_ (IsS93.ge HI219.out) | refine below_set ?_ GE229.out) | exact HB.out)); rintro e w26 ⟨rfl, hi, hb, hk⟩; refine ⟨_, rfl, ?_⟩; have n0_ := Aside0.mk (Kd.S_mono (Kd.S_keep (IsS93.apartS (show IsS93 w _ gb219 l0 x220001_2 x220002_2 from by repeat (first | (with_reducible first | exact HI219.out | apply IsS93.alloc | apply IsS93.drewN | apply IsS93.drew | apply IsS93.set_1 | apply IsS93.set_2 | refine IsS93.far ?_ NB219_229.out _) | exact HI219.out)) (by (with_reducible repeat (first | apply Kd.S_alloc | apply Kd.S_drewN | apply Kd.S_drew)); exact (Kd.S_mono (Kd.S_far (p := ⟨gb229, 5, none⟩) (Kd.S_far (p := ⟨gb229, 4, none⟩) (Kd.S_far (p := ⟨gb229, 3, none⟩) (Kd.S_far (p := ⟨gb229, 2, none⟩) (Kd.S_far (p := ⟨gb229, 1, none⟩) (Kd.S_far (p := ⟨gb229, 0, none⟩) (Kd.S_mono HO_4.out (fun k_ hk => (⟨hk, hk.2⟩ : _ ∧ k_ ≠ gb229))) (fun _ hk => hk.2) (.int .i64 0)) (fun _ hk => hk.2) (.int .i64 0)) (fun _ hk => hk.2) (.int .i64 0)) (fun _ hk => hk.2) (.int .i64 0)) (fun _ hk => hk.2) (.int .i64 0)) (fun _ hk => hk.2) (.int .i64 0)) (fun _ h_ => h_.1))) (by decide)) hk (fun _ h => h.2)) (fun _ h => h.1)); have n1_ := Aside0.mk (Kd.S_mono (Kd.S_keep (IsS93.apartS (show IsS93 w _ gb219 l0 x220001_2 x220002_2 from by repeat (first | (with_reducible first | exact HI219.out | apply IsS93.alloc | apply IsS93.drewN | apply IsS93.drew | apply IsS93.set_1 | apply IsS93.set_2 | refine IsS93.far ?_ NB219_229.out _) | exact HI219.out)) (by (with_reducible repeat (first | apply Kd.S_alloc | apply Kd.S_drewN | apply Kd.S_drew)); exact (Kd.S_mono (Kd.S_far (p := ⟨gb229, 5, none⟩) (Kd.S_far (p := ⟨gb229, 4, none⟩) (Kd.S_far (p := ⟨gb229, 3, none⟩) (Kd.S_far (p := ⟨gb229, 2, none⟩) (Kd.S_far (p := ⟨gb229, 1, none⟩) (Kd.S_far (p := ⟨gb229, 0, none⟩) (Kd.S_mono HO_6.out (fun k_ hk => (⟨hk, hk.2⟩ : _ ∧ k_ ≠ gb229))) (fun _ hk => hk.2) (.int .i64 0)) (fun _ hk => hk.2) (.int .i64 0)) (fun _ hk => hk.2) (.int .i64 0)) (fun _ hk => hk.2) (.int .i64 0)) (fun _ hk => hk.2) (.int .i64 0)) (fun _ hk => hk.2) (.int .i64 0)) (fun _ h_ => h_.1))) (by decide)) hk (fun _ h => h.2)) (fun _ h => h.1)); have n2_ := Aside0.mk (Kd.R_mono (Kd.R_keep (IsS93.apart (show IsS93 w _ gb219 l0 x220001_2 x220002_2 from by repeat (first | (with_reducible first | exact HI219.out | apply IsS93.alloc | apply IsS93.drewN | apply IsS93.drew | apply IsS93.set_1 | apply IsS93.set_2 | refine IsS93.far ?_ NB219_229.out _) | exact HI219.out)) (by (with_reducible repeat (first | apply Kd.R_alloc | apply Kd.R_drewN | apply Kd.R_drew)); exact (Kd.R_mono (Kd.R_far (p := ⟨gb229, 5, none⟩) (Kd.R_far (p := ⟨gb229, 4, none⟩) (Kd.R_far (p := ⟨gb229, 3, none⟩) (Kd.R_far (p := ⟨gb229, 2, none⟩) (Kd.R_far (p := ⟨gb229, 1, none⟩) (Kd.R_far (p := ⟨gb229, 0, none⟩) (Kd.R_mono HO228.out (fun k_ hk => (⟨hk, hk.2⟩ : _ ∧ k_ ≠ gb229))) (fun _ hk => hk.2) (.int .i64 0)) (fun _ hk => hk.2) (.int .i64 0)) (fun _ hk => hk.2) (.int .i64 0)) (fun _ hk => hk.2) (.int .i64 0)) (fun _ hk => hk.2) (.int .i64 0)) (fun _ hk => hk.2) (.int .i64 0)) (fun _ h_ => h_.1))) (by decide)) hk (fun _ h => h.2)) (fun _ h => h.1)); have n3_ := Aside0.mk (KeepBut.blk hk (g' := gb229) (o := .cells #[.int .i64 0, .int .i64 0, .int .i64 0, .int .i64 0, .int .i64 0, .int .i64 0] 81 (0, 0)) (by (with_reducible repeat (first | refine blk_drewN ?_ _ | refine blk_drew ?_ | refine blk_alloc ?_ _)); refine blk_put (cs := #[.int .i64 0, .int .i64 0, .int .i64 0, .int .i64 0, .int .i64 0, .int .i64 0]) ?_ 5 _ rfl; (with_reducible repeat (first | refine blk_drewN ?_ _ | refine blk_drew ?_ | refine blk_alloc ?_ _)); refine blk_put (cs := #[.int .i64 0, .int .i64 0, .int .i64 0, .int .i64 0, .int .i64 0, .int .i64 0]) ?_ 4 _ rfl; (with_reducible repeat (first | refine blk_drewN ?_ _ | refine blk_drew ?_ | refine blk_alloc ?_ _)); refine blk_put (cs := #[.int .i64 0, .int .i64 0, .int .i64 0, .int .i64 0, .int .i64 0, .int .i64 0]) ?_ 3 _ rfl; (with_reducible repeat (first | refine blk_drewN ?_ _ | refine blk_drew ?_ | refine blk_alloc ?_ _)); refine blk_put (cs := #[.int .i64 0, .int .i64 0, .int .i64 0, .int .i64 0, .int .i64 0, .int .i64 0]) ?_ 2 _ rfl; (with_reducible repeat (first | refine blk_drewN ?_ _ | refine blk_drew ?_ | refine blk_alloc ?_ _)); refine blk_put (cs := #[.int .i64 0, .int .i64 0, .int .i64 0, .int .i64 0, .int .i64 0, .int .i64 0]) ?_ 1 _ rfl; (with_reducible repeat (first | refine blk_drewN ?_ _ | refine blk_drew ?_ | refine blk_alloc ?_ _)); refine blk_put (cs := #[.int .i64 0, .int .i64 0, .int .i64 0, .int .i64 0, .int .i64 0, .int .i64 0]) ?_ 0 _ rfl; (with_reducible repeat (first | refine blk_drewN ?_ _ | refine blk_drew ?_ | refine blk_alloc ?_ _)); exact BK229.out) NB229_219.out (by simp)); have n4_ := Aside0.mk (hb); have n5_ := Aside0.mk (hi); clear HO_4; clear HO_6; clear HO228; clear BK229; clear HB; clear HI219; have HO_4 := n0_; have HO_6 := n1_; have HO228 := n2_; have BK229 := n3_; have HB := n4_; have HI219 := n5_; clear n0_ n1_ n2_ n3_ n4_ n5_; (try clear hb); (try clear hb2); (try clear hk); (try clear hi)))
                  (try simp only [Act.put, List.setIfInBounds_toArray, List.set_cons_zero, List.set_cons_succ])
                  go_cut [55] (fun v55 wc => ∃ (kq : Nat) (x55_19 : Bool), v55 = .bool x55_19 ∧ Aside0 (spec_DecodeDesc.j3 kq l0 y215 x6_2 (wrap64 (x7_2 + t230)) x8_2 y226 0 t230 x55_19 l0 t231 t232 0 0 0 0 0 0 = some (r1, r2)) ∧ Aside0 (kq ≤ kj14) ∧ Aside0 (Kd.S (Kd.slice 81 k81) 79 wc w.heap.size (fun k_ => some k_ ≠ (u6 : Value).ownBlock ∧ some k_ ≠ (v227 : Value).ownBlock ∧ k_ ≠ gb229) v216 y215) ∧ Aside0 (Kd.S (Kd.slice 81 k81) 79 wc w.heap.size (fun k_ => some k_ ≠ (v216 : Value).ownBlock ∧ some k_ ≠ (v227 : Value).ownBlock ∧ k_ ≠ gb229) u6 x6_2) ∧ Aside0 (Kd.R k81 81 wc w.heap.size (fun k_ => k_ ≠ gb229) v227 y226) ∧ Aside0 (wc.heap[gb229]? = some (.cells #[.int .i64 0, .int .i64 0, .int .i64 0, .int .i64 0, .int .i64 0, .int .i64 0] 81 (0, 0))) ∧ Aside0 (IsS93 w wc gb219 l0 t231 t232) ∧ Aside0 (Below w.heap.size w wc))
                  case first =>
                    have H := HC20.out
                    clear HC20
                    by_cases c27 : (wrap64 (x7_2 + t230)) > 20000
                    · rw [if_pos c27] at H
                      have c27b0 : decide (20000 < (wrap64 (x7_2 + t230))) = true := decide_eq_true c27
                      clear c27
                      (first | rw [c27b0] | (simp only [i64_w, i32_w]; rw [c27b0]) | skip)
                      have H' := Aside0.mk H
                      clear H
                      go_wp2
                      go_meet
                      case rel => exact ⟨_, (true), (by first | rfl | (simp; done) | (simp [*]; done)), H', ⟨by have := HJ1.out; have := HK2.out; have := HJ14.out; first | omega | exact Nat.le_refl _⟩, ⟨by (with_reducible repeat (first | apply Kd.S_alloc | apply Kd.S_drewN | apply Kd.S_drew)); exact Kd.S_mono HO_4.out (fun _ hk => ⟨hk.1.1, ⟨hk.1.2, hk.2⟩⟩)⟩, ⟨by (with_reducible repeat (first | apply Kd.S_alloc | apply Kd.S_drewN | apply Kd.S_drew)); exact Kd.S_mono HO_6.out (fun _ hk => ⟨hk.1.1, ⟨hk.1.2, hk.2⟩⟩)⟩, ⟨by (with_reducible repeat (first | apply Kd.R_alloc | apply Kd.R_drewN | apply Kd.R_drew)); exact Kd.R_mono HO228.out (fun _ hk => hk.2)⟩, ⟨by (with_reducible repeat (first | refine blk_drewN ?_ _ | refine blk_drew ?_ | refine blk_alloc ?_ _)); exact BK229.out⟩, ⟨by repeat (first | (with_reducible first | exact HI219.out | apply IsS93.alloc | apply IsS93.drewN | apply IsS93.drew | apply IsS93.set_1 | apply IsS93.set_2 | refine IsS93.far ?_ NB219_229.out _) | exact HI219.out)⟩, ⟨by repeat (first | (with_reducible first | exact HB.out | apply below_alloc | apply pw_below_drewN | apply below_drew1 | refine below_set ?_ (IsS93.ge HI219.out) | refine below_set ?_ GE229.out) | exact HB.out)⟩⟩
                    · rw [if_neg c27] at H
                      have c27b0 : decide (20000 < (wrap64 (x7_2 + t230))) = false := decide_eq_false c27
                      clear c27
                      (first | rw [c27b0] | (simp only [i64_w, i32_w]; rw [c27b0]) | skip)
                      have H' := Aside0.mk H
                      clear H
                      obtain ⟨Ao28, co28, eo28⟩ := Kd.S_slice HO_6.out
                      subst eo28
                      go_wp2
                      go_meet
                      case rel => exact ⟨_, (decide ((x6_2.length : Int) ≥ 1000)), (by first | rfl | (simp; done) | (simp [*]; done)), H', ⟨by have := HJ1.out; have := HK2.out; have := HJ14.out; first | omega | exact Nat.le_refl _⟩, ⟨by (with_reducible repeat (first | apply Kd.S_alloc | apply Kd.S_drewN | apply Kd.S_drew)); exact Kd.S_mono HO_4.out (fun _ hk => ⟨hk.1.1, ⟨hk.1.2, hk.2⟩⟩)⟩, ⟨by (with_reducible repeat (first | apply Kd.S_alloc | apply Kd.S_drewN | apply Kd.S_drew)); exact Kd.S_mono HO_6.out (fun _ hk => ⟨hk.1.1, ⟨hk.1.2, hk.2⟩⟩)⟩, ⟨by (with_reducible repeat (first | apply Kd.R_alloc | apply Kd.R_drewN | apply Kd.R_drew)); exact Kd.R_mono HO228.out (fun _ hk => hk.2)⟩, ⟨by (with_reducible repeat (first | refine blk_drewN ?_ _ | refine blk_drew ?_ | refine blk_alloc ?_ _)); exact BK229.out⟩, ⟨by repeat (first | (with_reducible first | exact HI219.out | apply IsS93.alloc | apply IsS93.drewN | apply IsS93.drew | apply IsS93.set_1 | apply IsS93.set_2 | refine IsS93.far ?_ NB219_229.out _) | exact HI219.out)⟩, ⟨by repeat (first | (with_reducible first | exact HB.out | apply below_alloc | apply pw_below_drewN | apply below_drew1 | refine below_set ?_ (IsS93.ge HI219.out) | refine below_set ?_ GE229.out) | exact HB.out)⟩⟩
                  case rest =>
                    clear HC20
                    try clear c1
                    try clear c2
                    try clear p2
                    try clear c5
                    try clear c5b0
                    try clear c5b1
                    try clear c6
                    try clear c6b0
                    try clear c6b1
                    try clear p6
                    try clear hcv8
                    try clear c9
                    try clear c16
                    try clear c16b0
                    try clear c18
                    try clear c24
                    try clear c27
                    try clear c27b0
                    try clear hcz17_0
                    try clear hcz17_1
                    try clear hcz17_2
                    try clear hcz25_0
                    try clear hcz25_1
                    try clear hcz25_2
                    try clear hcz25_3
                    try clear hcz25_4
                    try clear hcz25_5
                    try clear hfz17_1
                    try clear hfz17_2
                    try clear hfz25_0
                    try clear hfz25_1
                    try clear hfz25_2
                    try clear hfz25_3
                    try clear hfz25_4
                    try clear hfz25_5
                    try clear p2
                    obtain ⟨kq, x55_19, rfl, HA, HJ19, HO_4, HO_6, HO_9, BK229, HI219, HB⟩ := hcut
                    cases kq with
                    | zero => exact absurd HA.out (by simp [spec_DecodeDesc.j3])
                    | succ kj19 =>
                      have H := HA.out
                      clear HA
                      simp only [spec_DecodeDesc.j3] at H
                      by_cases c29 : x55_19 = true
                      · subst c29
                        have H1 : (some (y215, false)) = some (r1, r2) := by rw [if_pos rfl] at H; exact H
                        clear H
                        have H := H1
                        clear H1
                        simp only [Option.some.injEq, Prod.mk.injEq] at H
                        obtain ⟨rfl, rfl⟩ := H
                        go_wp2
                        go_ret2
                        exact ⟨_, by first | rfl | (simp [errW_none, errW_some] <;> rfl) | (simp [*, errW_none, errW_some] <;> rfl), by (with_reducible repeat (first | apply Kd.S_alloc | apply Kd.S_drewN | apply Kd.S_drew)); exact Kd.S_mono HO_4.out (fun _ hk => trivial), by repeat (first | (with_reducible first | exact HB.out | apply below_alloc | apply pw_below_drewN | apply below_drew1 | refine below_set ?_ (IsS93.ge HI219.out) | refine below_set ?_ GE229.out) | exact HB.out)⟩
                      · replace c29 := Bool.eq_false_iff.mpr c29
                        subst c29
                        have H1 : (spec_DecodeDesc.l1 kj19 l0 y215 x6_2 (wrap64 (x7_2 + t230)) x8_2 y226 0 t230 l0 t231 t232 0 0 0 0 0 0) = some (r1, r2) := by rw [if_neg (show ¬ (false = true) by decide)] at H; exact H
                        clear H
                        have H := H1
                        clear H1
                        have H' := Aside0.mk H
                        clear H
                        go_wp2
                        go_loopg [9, 11, 12] kj19 (fun kq v9 v11 v12 w' => ∃ (x9_5 : List (S81)) (x11_5 : Int) (x12_5 : Int) (x220001_5 : Int) (x220002_5 : Bool) (x230000_5 : Int) (x230001_5 : Int) (x230002_5 : Int) (x230003_5 : Int) (x230004_5 : Int) (x230005_5 : Int), v11 = .int .i64 x11_5 ∧ v12 = .int .i64 x12_5 ∧ Aside0 (spec_DecodeDesc.l1 kq l0 y215 x6_2 (wrap64 (x7_2 + t230)) x8_2 x9_5 x11_5 x12_5 l0 x220001_5 x220002_5 x230000_5 x230001_5 x230002_5 x230003_5 x230004_5 x230005_5 = some (r1, r2)) ∧ Aside0 (kq ≤ kj19) ∧ Aside0 (Kd.S (Kd.slice 81 k81) 79 w' w.heap.size (fun k_ => some k_ ≠ (u6 : Value).ownBlock ∧ some k_ ≠ (v9 : Value).ownBlock ∧ k_ ≠ gb229) v216 y215) ∧ Aside0 (Kd.S (Kd.slice 81 k81) 79 w' w.heap.size (fun k_ => some k_ ≠ (v216 : Value).ownBlock ∧ some k_ ≠ (v9 : Value).ownBlock ∧ k_ ≠ gb229) u6 x6_2) ∧ Aside0 (Kd.R k81 81 w' w.heap.size (fun k_ => k_ ≠ gb229) v9 x9_5) ∧ Aside0 (w'.heap[gb229]? = some (.cells #[.int .i64 x230000_5, .int .i64 x230001_5, .int .i64 x230002_5, .int .i64 x230003_5, .int .i64 x230004_5, .int .i64 x230005_5] 81 (0, 0))) ∧ Aside0 (IsS93 w w' gb219 l0 x220001_5 x220002_5) ∧ Aside0 (Below w.heap.size w w'))
                        case atStart => exact ⟨(y226), (0), (t230), (t231), (t232), (0), (0), (0), (0), (0), (0), (by first | rfl | (simp; done) | (simp [*]; done)), (by first | rfl | (simp; done) | (simp [*]; done)), H', ⟨Nat.le_refl _⟩, ⟨by (with_reducible repeat (first | apply Kd.S_alloc | apply Kd.S_drewN | apply Kd.S_drew)); exact HO_4.out⟩, ⟨by (with_reducible repeat (first | apply Kd.S_alloc | apply Kd.S_drewN | apply Kd.S_drew)); exact HO_6.out⟩, ⟨by (with_reducible repeat (first | apply Kd.R_alloc | apply Kd.R_drewN | apply Kd.R_drew)); exact HO_9.out⟩, ⟨by (with_reducible repeat (first | refine blk_drewN ?_ _ | refine blk_drew ?_ | refine blk_alloc ?_ _)); exact BK229.out⟩, ⟨by repeat (first | (with_reducible first | exact HI219.out | apply IsS93.alloc | apply IsS93.drewN | apply IsS93.drew | apply IsS93.set_1 | apply IsS93.set_2 | refine IsS93.far ?_ NB219_229.out _) | exact HI219.out)⟩, ⟨by repeat (first | (with_reducible first | exact HB.out | apply below_alloc | apply pw_below_drewN | apply below_drew1 | refine below_set ?_ (IsS93.ge HI219.out) | refine below_set ?_ GE229.out) | exact HB.out)⟩⟩
                        case round =>
                          clear H'
                          try clear c1
                          try clear c2
                          try clear p2
                          try clear c5
                          try clear c5b0
                          try clear c5b1
                          try clear c6
                          try clear c6b0
                          try clear c6b1
                          try clear p6
                          try clear hcv8
                          try clear c9
                          try clear c16
                          try clear c16b0
                          try clear c18
                          try clear c24
                          try clear c27
                          try clear c27b0
                          try clear c29
                          try clear hcz17_0
                          try clear hcz17_1
                          try clear hcz17_2
                          try clear hcz25_0
                          try clear hcz25_1
                          try clear hcz25_2
                          try clear hcz25_3
                          try clear hcz25_4
                          try clear hcz25_5
                          try clear hfz17_1
                          try clear hfz17_2
                          try clear hfz25_0
                          try clear hfz25_1
                          try clear hfz25_2
                          try clear hfz25_3
                          try clear hfz25_4
                          try clear hfz25_5
                          try clear p2
                          try clear p6
                          obtain ⟨x9_5, x11_5, x12_5, x220001_5, x220002_5, x230000_5, x230001_5, x230002_5, x230003_5, x230004_5, x230005_5, rfl, rfl, HA, HK5, HO_4, HO_6, HO_9, BK229, HI219, HB⟩ := hrel
                          cases gk with
                          | zero => exact absurd HA.out (by simp [spec_DecodeDesc.l1])
                          | succ k5 =>
                            have H := HA.out
                            clear HA
                            simp only [spec_DecodeDesc.l1] at H
                            have HC30 := Aside0.mk H
                            clear H
                            go_upto_region 17 with (fail)
                            go_cut [65] (fun v65 wc => ∃ (kq : Nat) (x65_29 : Bool), v65 = .bool x65_29 ∧ Aside0 (spec_DecodeDesc.j5 kq l0 y215 x6_2 (wrap64 (x7_2 + t230)) x8_2 x9_5 x11_5 x12_5 x65_29 l0 x220001_5 x220002_5 x230000_5 x230001_5 x230002_5 x230003_5 x230004_5 x230005_5 = some (r1, r2)) ∧ Aside0 (kq ≤ k5) ∧ Aside0 (Kd.S (Kd.slice 81 k81) 79 wc w.heap.size (fun k_ => some k_ ≠ (u6 : Value).ownBlock ∧ some k_ ≠ (u9 : Value).ownBlock ∧ k_ ≠ gb229) v216 y215) ∧ Aside0 (Kd.S (Kd.slice 81 k81) 79 wc w.heap.size (fun k_ => some k_ ≠ (v216 : Value).ownBlock ∧ some k_ ≠ (u9 : Value).ownBlock ∧ k_ ≠ gb229) u6 x6_2) ∧ Aside0 (Kd.R k81 81 wc w.heap.size (fun k_ => k_ ≠ gb229) u9 x9_5) ∧ Aside0 (wc.heap[gb229]? = some (.cells #[.int .i64 x230000_5, .int .i64 x230001_5, .int .i64 x230002_5, .int .i64 x230003_5, .int .i64 x230004_5, .int .i64 x230005_5] 81 (0, 0))) ∧ Aside0 (IsS93 w wc gb219 l0 x220001_5 x220002_5) ∧ Aside0 (Below w.heap.size w wc))
                            case first =>
                              have H := HC30.out
                              clear HC30
                              by_cases c31 : x12_5 > 0
                              · rw [if_pos c31] at H
                                have c31b0 : decide (0 < x12_5) = true := decide_eq_true c31
                                clear c31
                                (first | rw [c31b0] | (simp only [i64_w, i32_w]; rw [c31b0]) | skip)
                                have H' := Aside0.mk H
                                clear H
                                obtain ⟨ASz32_0, cSz32_0, HGz32, hgz32, HSz32_0⟩ := HI219.out
                                have hcz32_0 := cellS93_0 HGz32
                                have hcz32_1 := cellS93_1 HGz32
                                have hcz32_2 := cellS93_2 HGz32
                                have hfz32_1 := blk_frozen HGz32 1
                                have hfz32_2 := blk_frozen HGz32 2
                                clear HGz32 hgz32
                                go_wp2
                                go_meet
                                case rel => exact ⟨_, (!x220002_5), (by first | rfl | (simp; done) | (simp [*]; done)), H', ⟨by have := HJ1.out; have := HK2.out; have := HJ14.out; have := HJ19.out; have := HK5.out; first | omega | exact Nat.le_refl _⟩, ⟨by (with_reducible repeat (first | apply Kd.S_alloc | apply Kd.S_drewN | apply Kd.S_drew)); exact HO_4.out⟩, ⟨by (with_reducible repeat (first | apply Kd.S_alloc | apply Kd.S_drewN | apply Kd.S_drew)); exact HO_6.out⟩, ⟨by (with_reducible repeat (first | apply Kd.R_alloc | apply Kd.R_drewN | apply Kd.R_drew)); exact HO_9.out⟩, ⟨by (with_reducible repeat (first | refine blk_drewN ?_ _ | refine blk_drew ?_ | refine blk_alloc ?_ _)); exact BK229.out⟩, ⟨by repeat (first | (with_reducible first | exact HI219.out | apply IsS93.alloc | apply IsS93.drewN | apply IsS93.drew | apply IsS93.set_1 | apply IsS93.set_2 | refine IsS93.far ?_ NB219_229.out _) | exact HI219.out)⟩, ⟨by repeat (first | (with_reducible first | exact HB.out | apply below_alloc | apply pw_below_drewN | apply below_drew1 | refine below_set ?_ (IsS93.ge HI219.out) | refine below_set ?_ GE229.out) | exact HB.out)⟩⟩
                              · rw [if_neg c31] at H
                                have c31b0 : decide (0 < x12_5) = false := decide_eq_false c31
                                clear c31
                                (first | rw [c31b0] | (simp only [i64_w, i32_w]; rw [c31b0]) | skip)
                                have H' := Aside0.mk H
                                clear H
                                go_wp2
                                go_meet
                                case rel => exact ⟨_, (false), (by first | rfl | (simp; done) | (simp [*]; done)), H', ⟨by have := HJ1.out; have := HK2.out; have := HJ14.out; have := HJ19.out; have := HK5.out; first | omega | exact Nat.le_refl _⟩, ⟨by (with_reducible repeat (first | apply Kd.S_alloc | apply Kd.S_drewN | apply Kd.S_drew)); exact HO_4.out⟩, ⟨by (with_reducible repeat (first | apply Kd.S_alloc | apply Kd.S_drewN | apply Kd.S_drew)); exact HO_6.out⟩, ⟨by (with_reducible repeat (first | apply Kd.R_alloc | apply Kd.R_drewN | apply Kd.R_drew)); exact HO_9.out⟩, ⟨by (with_reducible repeat (first | refine blk_drewN ?_ _ | refine blk_drew ?_ | refine blk_alloc ?_ _)); exact BK229.out⟩, ⟨by repeat (first | (with_reducible first | exact HI219.out | apply IsS93.alloc | apply IsS93.drewN | apply IsS93.drew | apply IsS93.set_1 | apply IsS93.set_2 | refine IsS93.far ?_ NB219_229.out _) | exact HI219.out)⟩, ⟨by repeat (first | (with_reducible first | exact HB.out | apply below_alloc | apply pw_below_drewN | apply below_drew1 | refine below_set ?_ (IsS93.ge HI219.out) | refine below_set ?_ GE229.out) | exact HB.out)⟩⟩
                            case rest =>
                              clear HC30
                              try clear c1
                              try clear c2
                              try clear p2
                              try clear c3
                              try clear c5
                              try clear c5b0
                              try clear c5b1
                              try clear c6
                              try clear c6b0
                              try clear c6b1
                              try clear p6
                              try clear hcv8
                              try clear c9
                              try clear c16
                              try clear c16b0
                              try clear c18
                              try clear c24
                              try clear c27
                              try clear c27b0
                              try clear c29
                              try clear c31
                              try clear c31b0
                              try clear hcz17_0
                              try clear hcz17_1
                              try clear hcz17_2
                              try clear hcz25_0
                              try clear hcz25_1
                              try clear hcz25_2
                              try clear hcz25_3
                              try clear hcz25_4
                              try clear hcz25_5
                              try clear hcz32_0
                              try clear hcz32_1
                              try clear hcz32_2
                              try clear hfz17_1
                              try clear hfz17_2
                              try clear hfz25_0
                              try clear hfz25_1
                              try clear hfz25_2
                              try clear hfz25_3
                              try clear hfz25_4
                              try clear hfz25_5
                              try clear hfz32_1
                              try clear hfz32_2
                              try clear p2
                              try clear p6
                              obtain ⟨kq, x65_29, rfl, HA, HJ29, HO_4, HO_6, HO_9, BK229, HI219, HB⟩ := hcut
                              cases kq with
                              | zero => exact absurd HA.out (by simp [spec_DecodeDesc.j5])
                              | succ kj29 =>
                                have H := HA.out
                                clear HA
                                simp only [spec_DecodeDesc.j5] at H
                                by_cases c33 : x65_29 = true
                                · subst c33
                                  have H1 : ((spec_l15ReadSigned.f kj29 l0 x220001_5 x220002_5).bind fun bt236 => ((spec_l15ReadSigned.f kj29 l0 bt236.2.1 bt236.2.2).bind fun bt239 => ((spec_l15Read.f kj29 l0 bt239.2.1 bt239.2.2).bind fun bt242 => (if bt242.1 > 256 then (spec_DecodeDesc.j6 kj29 l0 y215 x6_2 (wrap64 (x7_2 + t230)) x8_2 x9_5 (wrap64 (Int.tdiv (wrap64 (bt242.1 - 257)) 256)) x12_5 (wrap64 ((Int.tmod (wrap64 (bt242.1 - 257)) 256) + 1)) l0 bt242.2.1 bt242.2.2 (wrap64 (x230000_5 + bt236.1)) (wrap64 (x230001_5 + bt239.1)) 0 (-1) x230004_5 x230005_5) else (spec_DecodeDesc.j6 kj29 l0 y215 x6_2 (wrap64 (x7_2 + t230)) x8_2 x9_5 x11_5 x12_5 bt242.1 l0 bt242.2.1 bt242.2.2 (wrap64 (x230000_5 + bt236.1)) (wrap64 (x230001_5 + bt239.1)) 0 (-1) x230004_5 x230005_5))))) = some (r1, r2) := by rw [if_pos rfl] at H; exact H
                                  clear H
                                  have H := H1
                                  clear H1
                                  replace H := Option.bind_eq_some_iff.mp H
                                  obtain ⟨⟨t236, t237, t238⟩, A340, H⟩ := H
                                  replace H : ((spec_l15ReadSigned.f kj29 l0 t237 t238).bind fun bt239 => ((spec_l15Read.f kj29 l0 bt239.2.1 bt239.2.2).bind fun bt242 => (if bt242.1 > 256 then (spec_DecodeDesc.j6 kj29 l0 y215 x6_2 (wrap64 (x7_2 + t230)) x8_2 x9_5 (wrap64 (Int.tdiv (wrap64 (bt242.1 - 257)) 256)) x12_5 (wrap64 ((Int.tmod (wrap64 (bt242.1 - 257)) 256) + 1)) l0 bt242.2.1 bt242.2.2 (wrap64 (x230000_5 + t236)) (wrap64 (x230001_5 + bt239.1)) 0 (-1) x230004_5 x230005_5) else (spec_DecodeDesc.j6 kj29 l0 y215 x6_2 (wrap64 (x7_2 + t230)) x8_2 x9_5 x11_5 x12_5 bt242.1 l0 bt242.2.1 bt242.2.2 (wrap64 (x230000_5 + t236)) (wrap64 (x230001_5 + bt239.1)) 0 (-1) x230004_5 x230005_5)))) = some (r1, r2) := H
                                  have A34 := Aside0.mk A340
                                  clear A340
                                  replace H := Option.bind_eq_some_iff.mp H
                                  obtain ⟨⟨t239, t240, t241⟩, A350, H⟩ := H
                                  replace H : ((spec_l15Read.f kj29 l0 t240 t241).bind fun bt242 => (if bt242.1 > 256 then (spec_DecodeDesc.j6 kj29 l0 y215 x6_2 (wrap64 (x7_2 + t230)) x8_2 x9_5 (wrap64 (Int.tdiv (wrap64 (bt242.1 - 257)) 256)) x12_5 (wrap64 ((Int.tmod (wrap64 (bt242.1 - 257)) 256) + 1)) l0 bt242.2.1 bt242.2.2 (wrap64 (x230000_5 + t236)) (wrap64 (x230001_5 + t239)) 0 (-1) x230004_5 x230005_5) else (spec_DecodeDesc.j6 kj29 l0 y215 x6_2 (wrap64 (x7_2 + t230)) x8_2 x9_5 x11_5 x12_5 bt242.1 l0 bt242.2.1 bt242.2.2 (wrap64 (x230000_5 + t236)) (wrap64 (x230001_5 + t239)) 0 (-1) x230004_5 x230005_5))) = some (r1, r2) := H
                                  have A35 := Aside0.mk A350
                                  clear A350
                                  replace H := Option.bind_eq_some_iff.mp H
                                  obtain ⟨⟨t242, t243, t244⟩, A360, H⟩ := H
                                  replace H : (if t242 > 256 then (spec_DecodeDesc.j6 kj29 l0 y215 x6_2 (wrap64 (x7_2 + t230)) x8_2 x9_5 (wrap64 (Int.tdiv (wrap64 (t242 - 257)) 256)) x12_5 (wrap64 ((Int.tmod (wrap64 (t242 - 257)) 256) + 1)) l0 t243 t244 (wrap64 (x230000_5 + t236)) (wrap64 (x230001_5 + t239)) 0 (-1) x230004_5 x230005_5) else (spec_DecodeDesc.j6 kj29 l0 y215 x6_2 (wrap64 (x7_2 + t230)) x8_2 x9_5 x11_5 x12_5 t242 l0 t243 t244 (wrap64 (x230000_5 + t236)) (wrap64 (x230001_5 + t239)) 0 (-1) x230004_5 x230005_5)) = some (r1, r2) := H
                                  have A36 := Aside0.mk A360
                                  clear A360
                                  have HC37 := Aside0.mk H
                                  clear H
                                  try go_wp2
                                  have n0_ := Aside0.mk (Kd.S_drew HO_4.out)
                                  have n1_ := Aside0.mk (Kd.S_drew HO_6.out)
                                  have n2_ := Aside0.mk (Kd.R_drew HO_9.out)
                                  have n3_ := Aside0.mk (blk_drew BK229.out)
                                  have n4_ := Aside0.mk (IsS93.drew HI219.out)
                                  have n5_ := Aside0.mk (below_drew1 HB.out)
                                  clear HO_4
                                  clear HO_6
                                  clear HO_9
                                  clear BK229
                                  clear HI219
                                  clear HB
                                  have HO_4 := n0_
                                  have HO_6 := n1_
                                  have HO_9 := n2_
                                  have BK229 := n3_
                                  have HI219 := n4_
                                  have HB := n5_
                                  clear n0_ n1_ n2_ n3_ n4_ n5_
                                  refine start_ (n := 7) (S := fun w' => w'.cell? ⟨gb229, 0, none⟩ = some (.int .i64 x230000_5) ∧ w'.cell? ⟨gb229, 1, none⟩ = some (.int .i64 x230001_5) ∧ w'.cell? ⟨gb229, 2, none⟩ = some (.int .i64 x230002_5) ∧ w'.cell? ⟨gb229, 3, none⟩ = some (.int .i64 x230003_5) ∧ w'.cell? ⟨gb229, 4, none⟩ = some (.int .i64 x230004_5) ∧ w'.cell? ⟨gb229, 5, none⟩ = some (.int .i64 x230005_5)) (ds := [6]) #[false, false, false, false, false, false, false] (by kernel_rfl) rfl rfl ⟨(blk_cell BK229.out 0).trans rfl, (blk_cell BK229.out 1).trans rfl, (blk_cell BK229.out 2).trans rfl, (blk_cell BK229.out 3).trans rfl, (blk_cell BK229.out 4).trans rfl, (blk_cell BK229.out 5).trans rfl⟩ (fun hHeld => ?_)
                                  generalize wc.drew = w38 at HO_4 HO_6 HO_9 BK229 HI219 HB hHeld ⊢
                                  refine pure_ (i := 0) (N := some 68) (v := ?_) (a' := ?_) #[true, false, false, false, false, false, false] rfl rfl (by kernel_rfl) (fun _ _ _ h => h) (Or.inl ⟨by rfl, ?_⟩) ?_ ?_
                                  rotate_left
                                  · intro w'
                                    go_simp
                                    with_reducible rfl
                                  rotate_left
                                  · simp only [Act.put, List.setIfInBounds_toArray, List.set_cons_zero, List.set_cons_succ, i64_w, i32_w]
                                    rfl
                                  refine pure_ (i := 2) (N := some 70) (v := ?_) (a' := ?_) #[true, false, true, false, false, false, false] rfl rfl (by kernel_rfl) (fun _ _ _ h => h) (Or.inl ⟨by rfl, ?_⟩) ?_ ?_
                                  rotate_left
                                  · intro w'
                                    go_simp
                                    with_reducible rfl
                                  rotate_left
                                  · simp only [Act.put, List.setIfInBounds_toArray, List.set_cons_zero, List.set_cons_succ, i64_w, i32_w]
                                    rfl
                                  refine take_ (i := 1) (N := some 69) (v := ?_) (a' := ?_) #[true, true, true, false, false, false, false] rfl rfl (by kernel_rfl) (fun _ _ _ h => h) (Or.inl ⟨by rfl, ?_⟩) hHeld ?_ ?_
                                  rotate_left
                                  · rintro w' ⟨s0, s1, s2, s3, s4, s5⟩
                                    go_simp
                                    with_reducible rfl
                                  rotate_left
                                  · simp only [Act.put, List.setIfInBounds_toArray, List.set_cons_zero, List.set_cons_succ, i64_w, i32_w]
                                    rfl
                                  refine one_ (i := 3) (N := some 71) #[true, true, true, true, false, false, false] rfl rfl (by kernel_rfl) (by decide) (fun K hK => ?_)
                                  refine goes_ Try.func56 (by kernel_rfl) rfl #[.pointer (some ⟨gb219, 0, none⟩)] (by rfl) rfl rfl (by (try simp only [List.map_toArray, List.map_cons, List.map_nil]); first | done | rfl | (simp only [List.length_drop, List.length_take]; rfl)) ?_
                                  with_reducible refine (spec_l15ReadSigned.calls kj29 gb219 l0 x220001_5 x220002_5 t236 t237 t238 w _ ?side1 ?side2 A34.out).mono ?_
                                  (case side1 => repeat (first | (with_reducible first | exact HI219.out | apply IsS93.alloc | apply IsS93.drewN | apply IsS93.drew | apply IsS93.set_1 | apply IsS93.set_2 | refine IsS93.far ?_ NB219_229.out _) | exact HI219.out))
                                  (case side2 => repeat (first | (with_reducible first | exact HB.out | apply below_alloc | apply pw_below_drewN | apply below_drew1 | refine below_set ?_ (IsS93.ge HI219.out) | refine below_set ?_ GE229.out) | exact HB.out))
                                  rintro e w39 ⟨rfl, hi, hb, hk⟩
                                  refine ⟨_, rfl, ?_⟩
                                  have n0_ := Aside0.mk (Kd.S_mono (Kd.S_keep (IsS93.apartS (show IsS93 w _ gb219 l0 x220001_5 x220002_5 from by repeat (first | (with_reducible first | exact HI219.out | apply IsS93.alloc | apply IsS93.drewN | apply IsS93.drew | apply IsS93.set_1 | apply IsS93.set_2 | refine IsS93.far ?_ NB219_229.out _) | exact HI219.out)) (by (with_reducible repeat (first | apply Kd.S_alloc | apply Kd.S_drewN | apply Kd.S_drew)); exact HO_4.out) (by decide)) hk (fun _ h => h.2)) (fun _ h => h.1))
                                  have n1_ := Aside0.mk (Kd.S_mono (Kd.S_keep (IsS93.apartS (show IsS93 w _ gb219 l0 x220001_5 x220002_5 from by repeat (first | (with_reducible first | exact HI219.out | apply IsS93.alloc | apply IsS93.drewN | apply IsS93.drew | apply IsS93.set_1 | apply IsS93.set_2 | refine IsS93.far ?_ NB219_229.out _) | exact HI219.out)) (by (with_reducible repeat (first | apply Kd.S_alloc | apply Kd.S_drewN | apply Kd.S_drew)); exact HO_6.out) (by decide)) hk (fun _ h => h.2)) (fun _ h => h.1))
                                  have n2_ := Aside0.mk (Kd.R_mono (Kd.R_keep (IsS93.apart (show IsS93 w _ gb219 l0 x220001_5 x220002_5 from by repeat (first | (with_reducible first | exact HI219.out | apply IsS93.alloc | apply IsS93.drewN | apply IsS93.drew | apply IsS93.set_1 | apply IsS93.set_2 | refine IsS93.far ?_ NB219_229.out _) | exact HI219.out)) (by (with_reducible repeat (first | apply Kd.R_alloc | apply Kd.R_drewN | apply Kd.R_drew)); exact HO_9.out) (by decide)) hk (fun _ h => h.2)) (fun _ h => h.1))
                                  have n3_ := Aside0.mk (KeepBut.blk hk (g' := gb229) (o := .cells #[.int .i64 x230000_5, .int .i64 x230001_5, .int .i64 x230002_5, .int .i64 x230003_5, .int .i64 x230004_5, .int .i64 x230005_5] 81 (0, 0)) (by (with_reducible repeat (first | refine blk_drewN ?_ _ | refine blk_drew ?_ | refine blk_alloc ?_ _)); exact BK229.out) NB229_219.out (by simp))
                                  have n4_ := Aside0.mk (hb)
                                  have n5_ := Aside0.mk (hi)
                                  clear HO_4
                                  clear HO_6
                                  clear HO_9
                                  clear BK229
                                  clear HB
                                  clear HI219
                                  have HO_4 := n0_
                                  have HO_6 := n1_
                                  have HO_9 := n2_
                                  have BK229 := n3_
                                  have HB := n4_
                                  have HI219 := n5_
                                  clear n0_ n1_ n2_ n3_ n4_ n5_
                                  (try clear hb)
                                  (try clear hb2)
                                  (try clear hk)
                                  (try clear hi)
                                  refine hK.out _ _ ⟨(blk_cell BK229.out 0).trans rfl, (blk_cell BK229.out 1).trans rfl, (blk_cell BK229.out 2).trans rfl, (blk_cell BK229.out 3).trans rfl, (blk_cell BK229.out 4).trans rfl, (blk_cell BK229.out 5).trans rfl⟩ (fun hHeld => ?_)
                                  clear hK K
                                  refine norm_ (a' := ?_) ?_ ?_
                                  rotate_left
                                  · show Act.put _ (some 71) _ = _
                                    simp only [Act.put, List.setIfInBounds_toArray, List.set_cons_zero, List.set_cons_succ, i64_w, i32_w]
                                    rfl
                                  refine pure_ (i := 4) (N := some 72) (v := ?_) (a' := ?_) #[true, true, true, true, true, false, false] rfl rfl (by kernel_rfl) (fun _ _ _ h => h) (Or.inl ⟨by rfl, ?_⟩) ?_ ?_
                                  rotate_left
                                  · intro w'
                                    go_simp
                                    with_reducible rfl
                                  rotate_left
                                  · simp only [Act.put, List.setIfInBounds_toArray, List.set_cons_zero, List.set_cons_succ, i64_w, i32_w]
                                    rfl
                                  refine pure_ (i := 5) (N := some 73) (v := ?_) (a' := ?_) #[true, true, true, true, true, true, false] rfl rfl (by kernel_rfl) (fun _ _ _ h => h) (Or.inl ⟨by rfl, ?_⟩) ?_ ?_
                                  rotate_left
                                  · intro w'
                                    go_simp
                                    with_reducible rfl
                                  rotate_left
                                  · simp only [Act.put, List.setIfInBounds_toArray, List.set_cons_zero, List.set_cons_succ, i64_w, i32_w]
                                    rfl
                                  refine last_ (i := 6) (N := none) #[true, true, true, true, true, true, true] rfl rfl (by kernel_rfl) (by decide) (fun K hK => ?_)
                                  have hs40 : w39.cell? ⟨gb229, 0, none⟩ = some (.int .i64 x230000_5) := (blk_cell BK229.out 0).trans rfl
                                  have hfs40 := blk_frozen BK229.out 0
                                  refine skip_ (w1 := ?_) (by rfl) rfl ?_ ?_
                                  rotate_left
                                  · go_simp
                                    rfl
                                  refine hK.out _ _ ?_
                                  clear hK K
                                  refine done_ (by kernel_rfl) ?_
                                  try go_wp2
                                  have n0_ : Aside0 (Kd.S (Kd.slice 81 k81) 79 (w39.setCell ⟨gb229, 0, none⟩ (.int .i64 (wrap64 (x230000_5 + t236)))) w.heap.size (fun k_ => some k_ ≠ (u6 : Value).ownBlock ∧ some k_ ≠ (u9 : Value).ownBlock ∧ k_ ≠ gb229) v216 y215) := ⟨by (with_reducible repeat (first | apply Kd.S_alloc | apply Kd.S_drewN | apply Kd.S_drew)); exact Kd.S_mono (Kd.S_far (p := ⟨gb229, 0, none⟩) (Kd.S_mono HO_4.out (fun k_ hk => (⟨hk, hk.2.2⟩ : _ ∧ k_ ≠ gb229))) (fun _ hk => hk.2) (.int .i64 (wrap64 (x230000_5 + t236)))) (fun _ hk => ⟨hk.1.1, ⟨hk.1.2.1, hk.1.2.2⟩⟩)⟩
                                  have n1_ : Aside0 (Kd.S (Kd.slice 81 k81) 79 (w39.setCell ⟨gb229, 0, none⟩ (.int .i64 (wrap64 (x230000_5 + t236)))) w.heap.size (fun k_ => some k_ ≠ (v216 : Value).ownBlock ∧ some k_ ≠ (u9 : Value).ownBlock ∧ k_ ≠ gb229) u6 x6_2) := ⟨by (with_reducible repeat (first | apply Kd.S_alloc | apply Kd.S_drewN | apply Kd.S_drew)); exact Kd.S_mono (Kd.S_far (p := ⟨gb229, 0, none⟩) (Kd.S_mono HO_6.out (fun k_ hk => (⟨hk, hk.2.2⟩ : _ ∧ k_ ≠ gb229))) (fun _ hk => hk.2) (.int .i64 (wrap64 (x230000_5 + t236)))) (fun _ hk => ⟨hk.1.1, ⟨hk.1.2.1, hk.1.2.2⟩⟩)⟩
                                  have n2_ : Aside0 (Kd.R k81 81 (w39.setCell ⟨gb229, 0, none⟩ (.int .i64 (wrap64 (x230000_5 + t236)))) w.heap.size (fun k_ => k_ ≠ gb229) u9 x9_5) := ⟨by (with_reducible repeat (first | apply Kd.R_alloc | apply Kd.R_drewN | apply Kd.R_drew)); exact Kd.R_mono (Kd.R_far (p := ⟨gb229, 0, none⟩) (Kd.R_mono HO_9.out (fun k_ hk => (⟨hk, hk⟩ : _ ∧ k_ ≠ gb229))) (fun _ hk => hk.2) (.int .i64 (wrap64 (x230000_5 + t236)))) (fun _ hk => hk.1)⟩
                                  have n3_ : Aside0 ((w39.setCell ⟨gb229, 0, none⟩ (.int .i64 (wrap64 (x230000_5 + t236)))).heap[gb229]? = some (.cells #[.int .i64 (wrap64 (x230000_5 + t236)), .int .i64 x230001_5, .int .i64 x230002_5, .int .i64 x230003_5, .int .i64 x230004_5, .int .i64 x230005_5] 81 (0, 0))) := ⟨by (with_reducible repeat (first | refine blk_drewN ?_ _ | refine blk_drew ?_ | refine blk_alloc ?_ _)); refine blk_put (cs := #[.int .i64 x230000_5, .int .i64 x230001_5, .int .i64 x230002_5, .int .i64 x230003_5, .int .i64 x230004_5, .int .i64 x230005_5]) ?_ 0 _ rfl; (with_reducible repeat (first | refine blk_drewN ?_ _ | refine blk_drew ?_ | refine blk_alloc ?_ _)); exact BK229.out⟩
                                  have n4_ : Aside0 (IsS93 w (w39.setCell ⟨gb229, 0, none⟩ (.int .i64 (wrap64 (x230000_5 + t236)))) gb219 l0 t237 t238) := ⟨by repeat (first | (with_reducible first | exact HI219.out | apply IsS93.alloc | apply IsS93.drewN | apply IsS93.drew | apply IsS93.set_1 | apply IsS93.set_2 | refine IsS93.far ?_ NB219_229.out _) | exact HI219.out)⟩
                                  have n5_ : Aside0 (Below w.heap.size w (w39.setCell ⟨gb229, 0, none⟩ (.int .i64 (wrap64 (x230000_5 + t236))))) := ⟨by repeat (first | (with_reducible first | exact HB.out | apply below_alloc | apply pw_below_drewN | apply below_drew1 | refine below_set ?_ (IsS93.ge HI219.out) | refine below_set ?_ GE229.out) | exact HB.out)⟩
                                  (try clear HO_4)
                                  (try clear HO_6)
                                  (try clear HO_9)
                                  (try clear BK229)
                                  (try clear HI219)
                                  (try clear HB)
                                  generalize (w39.setCell ⟨gb229, 0, none⟩ (.int .i64 (wrap64 (x230000_5 + t236)))) = w41 at n0_ n1_ n2_ n3_ n4_ n5_ ⊢
                                  have HO_4 := n0_
                                  have HO_6 := n1_
                                  have HO_9 := n2_
                                  have BK229 := n3_
                                  have HI219 := n4_
                                  have HB := n5_
                                  clear n0_ n1_ n2_ n3_ n4_ n5_
                                  have n0_ := Aside0.mk (Kd.S_drew HO_4.out)
                                  have n1_ := Aside0.mk (Kd.S_drew HO_6.out)
                                  have n2_ := Aside0.mk (Kd.R_drew HO_9.out)
                                  have n3_ := Aside0.mk (blk_drew BK229.out)
                                  have n4_ := Aside0.mk (IsS93.drew HI219.out)
                                  have n5_ := Aside0.mk (below_drew1 HB.out)
                                  clear HO_4
                                  clear HO_6
                                  clear HO_9
                                  clear BK229
                                  clear HI219
                                  clear HB
                                  have HO_4 := n0_
                                  have HO_6 := n1_
                                  have HO_9 := n2_
                                  have BK229 := n3_
                                  have HI219 := n4_
                                  have HB := n5_
                                  clear n0_ n1_ n2_ n3_ n4_ n5_
                                  refine start_ (n := 7) (S := fun w' => w'.cell? ⟨gb229, 0, none⟩ = some (.int .i64 (wrap64 (x230000_5 + t236))) ∧ w'.cell? ⟨gb229, 1, none⟩ = some (.int .i64 x230001_5) ∧ w'.cell? ⟨gb229, 2, none⟩ = some (.int .i64 x230002_5) ∧ w'.cell? ⟨gb229, 3, none⟩ = some (.int .i64 x230003_5) ∧ w'.cell? ⟨gb229, 4, none⟩ = some (.int .i64 x230004_5) ∧ w'.cell? ⟨gb229, 5, none⟩ = some (.int .i64 x230005_5)) (ds := [6]) #[false, false, false, false, false, false, false] (by kernel_rfl) rfl rfl ⟨(blk_cell BK229.out 0).trans rfl, (blk_cell BK229.out 1).trans rfl, (blk_cell BK229.out 2).trans rfl, (blk_cell BK229.out 3).trans rfl, (blk_cell BK229.out 4).trans rfl, (blk_cell BK229.out 5).trans rfl⟩ (fun hHeld => ?_)
                                  generalize w41.drew = w42 at HO_4 HO_6 HO_9 BK229 HI219 HB hHeld ⊢
                                  refine pure_ (i := 0) (N := some 74) (v := ?_) (a' := ?_) #[true, false, false, false, false, false, false] rfl rfl (by kernel_rfl) (fun _ _ _ h => h) (Or.inl ⟨by rfl, ?_⟩) ?_ ?_
                                  rotate_left
                                  · intro w'
                                    go_simp
                                    with_reducible rfl
                                  rotate_left
                                  · simp only [Act.put, List.setIfInBounds_toArray, List.set_cons_zero, List.set_cons_succ, i64_w, i32_w]
                                    rfl
                                  refine pure_ (i := 2) (N := some 76) (v := ?_) (a' := ?_) #[true, false, true, false, false, false, false] rfl rfl (by kernel_rfl) (fun _ _ _ h => h) (Or.inl ⟨by rfl, ?_⟩) ?_ ?_
                                  rotate_left
                                  · intro w'
                                    go_simp
                                    with_reducible rfl
                                  rotate_left
                                  · simp only [Act.put, List.setIfInBounds_toArray, List.set_cons_zero, List.set_cons_succ, i64_w, i32_w]
                                    rfl
                                  refine take_ (i := 1) (N := some 75) (v := ?_) (a' := ?_) #[true, true, true, false, false, false, false] rfl rfl (by kernel_rfl) (fun _ _ _ h => h) (Or.inl ⟨by rfl, ?_⟩) hHeld ?_ ?_
                                  rotate_left
                                  · rintro w' ⟨s0, s1, s2, s3, s4, s5⟩
                                    go_simp
                                    with_reducible rfl
                                  rotate_left
                                  · simp only [Act.put, List.setIfInBounds_toArray, List.set_cons_zero, List.set_cons_succ, i64_w, i32_w]
                                    rfl
                                  refine one_ (i := 3) (N := some 77) #[true, true, true, true, false, false, false] rfl rfl (by kernel_rfl) (by decide) (fun K hK => ?_)
                                  refine goes_ Try.func56 (by kernel_rfl) rfl #[.pointer (some ⟨gb219, 0, none⟩)] (by rfl) rfl rfl (by (try simp only [List.map_toArray, List.map_cons, List.map_nil]); first | done | rfl | (simp only [List.length_drop, List.length_take]; rfl)) ?_
                                  with_reducible refine (spec_l15ReadSigned.calls kj29 gb219 l0 t237 t238 t239 t240 t241 w _ ?side1 ?side2 A35.out).mono ?_
                                  (case side1 => repeat (first | (with_reducible first | exact HI219.out | apply IsS93.alloc | apply IsS93.drewN | apply IsS93.drew | apply IsS93.set_1 | apply IsS93.set_2 | refine IsS93.far ?_ NB219_229.out _) | exact HI219.out))
                                  (case side2 => repeat (first | (with_reducible first | exact HB.out | apply below_alloc | apply pw_below_drewN | apply below_drew1 | refine below_set ?_ (IsS93.ge HI219.out) | refine below_set ?_ GE229.out) | exact HB.out))
                                  rintro e w43 ⟨rfl, hi, hb, hk⟩
                                  refine ⟨_, rfl, ?_⟩
                                  have n0_ := Aside0.mk (Kd.S_mono (Kd.S_keep (IsS93.apartS (show IsS93 w _ gb219 l0 t237 t238 from by repeat (first | (with_reducible first | exact HI219.out | apply IsS93.alloc | apply IsS93.drewN | apply IsS93.drew | apply IsS93.set_1 | apply IsS93.set_2 | refine IsS93.far ?_ NB219_229.out _) | exact HI219.out)) (by (with_reducible repeat (first | apply Kd.S_alloc | apply Kd.S_drewN | apply Kd.S_drew)); exact HO_4.out) (by decide)) hk (fun _ h => h.2)) (fun _ h => h.1))
                                  have n1_ := Aside0.mk (Kd.S_mono (Kd.S_keep (IsS93.apartS (show IsS93 w _ gb219 l0 t237 t238 from by repeat (first | (with_reducible first | exact HI219.out | apply IsS93.alloc | apply IsS93.drewN | apply IsS93.drew | apply IsS93.set_1 | apply IsS93.set_2 | refine IsS93.far ?_ NB219_229.out _) | exact HI219.out)) (by (with_reducible repeat (first | apply Kd.S_alloc | apply Kd.S_drewN | apply Kd.S_drew)); exact HO_6.out) (by decide)) hk (fun _ h => h.2)) (fun _ h => h.1))
                                  have n2_ := Aside0.mk (Kd.R_mono (Kd.R_keep (IsS93.apart (show IsS93 w _ gb219 l0 t237 t238 from by repeat (first | (with_reducible first | exact HI219.out | apply IsS93.alloc | apply IsS93.drewN | apply IsS93.drew | apply IsS93.set_1 | apply IsS93.set_2 | refine IsS93.far ?_ NB219_229.out _) | exact HI219.out)) (by (with_reducible repeat (first | apply Kd.R_alloc | apply Kd.R_drewN | apply Kd.R_drew)); exact HO_9.out) (by decide)) hk (fun _ h => h.2)) (fun _ h => h.1))
                                  have n3_ := Aside0.mk (KeepBut.blk hk (g' := gb229) (o := .cells #[.int .i64 (wrap64 (x230000_5 + t236)), .int .i64 x230001_5, .int .i64 x230002_5, .int .i64 x230003_5, .int .i64 x230004_5, .int .i64 x230005_5] 81 (0, 0)) (by (with_reducible repeat (first | refine blk_drewN ?_ _ | refine blk_drew ?_ | refine blk_alloc ?_ _)); exact BK229.out) NB229_219.out (by simp))
                                  have n4_ := Aside0.mk (hb)
                                  have n5_ := Aside0.mk (hi)
                                  clear HO_4
                                  clear HO_6
                                  clear HO_9
                                  clear BK229
                                  clear HB
                                  clear HI219
                                  have HO_4 := n0_
                                  have HO_6 := n1_
                                  have HO_9 := n2_
                                  have BK229 := n3_
                                  have HB := n4_
                                  have HI219 := n5_
                                  clear n0_ n1_ n2_ n3_ n4_ n5_
                                  (try clear hb)
                                  (try clear hb2)
                                  (try clear hk)
                                  (try clear hi)
                                  refine hK.out _ _ ⟨(blk_cell BK229.out 0).trans rfl, (blk_cell BK229.out 1).trans rfl, (blk_cell BK229.out 2).trans rfl, (blk_cell BK229.out 3).trans rfl, (blk_cell BK229.out 4).trans rfl, (blk_cell BK229.out 5).trans rfl⟩ (fun hHeld => ?_)
                                  clear hK K
                                  refine norm_ (a' := ?_) ?_ ?_
                                  rotate_left
                                  · show Act.put _ (some 77) _ = _
                                    simp only [Act.put, List.setIfInBounds_toArray, List.set_cons_zero, List.set_cons_succ, i64_w, i32_w]
                                    rfl
                                  refine pure_ (i := 4) (N := some 78) (v := ?_) (a' := ?_) #[true, true, true, true, true, false, false] rfl rfl (by kernel_rfl) (fun _ _ _ h => h) (Or.inl ⟨by rfl, ?_⟩) ?_ ?_
                                  rotate_left
                                  · intro w'
                                    go_simp
                                    with_reducible rfl
                                  rotate_left
                                  · simp only [Act.put, List.setIfInBounds_toArray, List.set_cons_zero, List.set_cons_succ, i64_w, i32_w]
                                    rfl
                                  refine pure_ (i := 5) (N := some 79) (v := ?_) (a' := ?_) #[true, true, true, true, true, true, false] rfl rfl (by kernel_rfl) (fun _ _ _ h => h) (Or.inl ⟨by rfl, ?_⟩) ?_ ?_
                                  rotate_left
                                  · intro w'
                                    go_simp
                                    with_reducible rfl
                                  rotate_left
                                  · simp only [Act.put, List.setIfInBounds_toArray, List.set_cons_zero, List.set_cons_succ, i64_w, i32_w]
                                    rfl
                                  refine last_ (i := 6) (N := none) #[true, true, true, true, true, true, true] rfl rfl (by kernel_rfl) (by decide) (fun K hK => ?_)
                                  have hs44 : w43.cell? ⟨gb229, 1, none⟩ = some (.int .i64 x230001_5) := (blk_cell BK229.out 1).trans rfl
                                  have hfs44 := blk_frozen BK229.out 1
                                  refine skip_ (w1 := ?_) (by rfl) rfl ?_ ?_
                                  rotate_left
                                  · go_simp
                                    rfl
                                  refine hK.out _ _ ?_
                                  clear hK K
                                  refine done_ (by kernel_rfl) ?_
                                  go_upto_if 85 with (first | ((with_reducible refine gate_callee (f := 55) rfl ?_); refine goesL_ (some 81) rfl rfl Try.func55 (by kernel_rfl) rfl #[.pointer (some ⟨gb219, 0, none⟩)] rfl (by (try simp only [List.map_toArray, List.map_cons, List.map_nil]); first | done | rfl | (simp only [List.length_drop, List.length_take]; rfl)) ?_; (with_reducible refine (spec_l15Read.calls kj29 gb219 l0 t240 t241 t242 t243 t244 w _ ?side1 ?side2 A36.out).mono ?_); (case side1 => repeat (first | (with_reducible first | exact HI219.out | apply IsS93.alloc | apply IsS93.drewN | apply IsS93.drew | apply IsS93.set_1 | apply IsS93.set_2 | refine IsS93.far ?_ NB219_229.out _) | exact HI219.out)); (case side2 => repeat (first | (with_reducible first | exact HB.out | apply below_alloc | apply pw_below_drewN | apply below_drew1 | refine below_set ?_ (IsS93.ge HI219.out) | refine below_set ?_ GE229.out) | exact HB.out)); rintro e w45 ⟨rfl, hi, hb, hk⟩; refine ⟨_, rfl, ?_⟩; have n0_ := Aside0.mk (Kd.S_mono (Kd.S_keep (IsS93.apartS (show IsS93 w _ gb219 l0 t240 t241 from by repeat (first | (with_reducible first | exact HI219.out | apply IsS93.alloc | apply IsS93.drewN | apply IsS93.drew | apply IsS93.set_1 | apply IsS93.set_2 | refine IsS93.far ?_ NB219_229.out _) | exact HI219.out)) (by (with_reducible repeat (first | apply Kd.S_alloc | apply Kd.S_drewN | apply Kd.S_drew)); exact (Kd.S_mono (Kd.S_far (p := ⟨gb229, 1, none⟩) (Kd.S_mono HO_4.out (fun k_ hk => (⟨hk, hk.2.2⟩ : _ ∧ k_ ≠ gb229))) (fun _ hk => hk.2) (.int .i64 (wrap64 (x230001_5 + t239)))) (fun _ h_ => h_.1))) (by decide)) hk (fun _ h => h.2)) (fun _ h => h.1)); have n1_ := Aside0.mk (Kd.S_mono (Kd.S_keep (IsS93.apartS (show IsS93 w _ gb219 l0 t240 t241 from by repeat (first | (with_reducible first | exact HI219.out | apply IsS93.alloc | apply IsS93.drewN | apply IsS93.drew | apply IsS93.set_1 | apply IsS93.set_2 | refine IsS93.far ?_ NB219_229.out _) | exact HI219.out)) (by (with_reducible repeat (first | apply Kd.S_alloc | apply Kd.S_drewN | apply Kd.S_drew)); exact (Kd.S_mono (Kd.S_far (p := ⟨gb229, 1, none⟩) (Kd.S_mono HO_6.out (fun k_ hk => (⟨hk, hk.2.2⟩ : _ ∧ k_ ≠ gb229))) (fun _ hk => hk.2) (.int .i64 (wrap64 (x230001_5 + t239)))) (fun _ h_ => h_.1))) (by decide)) hk (fun _ h => h.2)) (fun _ h => h.1)); have n2_ := Aside0.mk (Kd.R_mono (Kd.R_keep (IsS93.apart (show IsS93 w _ gb219 l0 t240 t241 from by repeat (first | (with_reducible first | exact HI219.out | apply IsS93.alloc | apply IsS93.drewN | apply IsS93.drew | apply IsS93.set_1 | apply IsS93.set_2 | refine IsS93.far ?_ NB219_229.out _) | exact HI219.out)) (by (with_reducible repeat (first | apply Kd.R_alloc | apply Kd.R_drewN | apply Kd.R_drew)); exact (Kd.R_mono (Kd.R_far (p := ⟨gb229, 1, none⟩) (Kd.R_mono HO_9.out (fun k_ hk => (⟨hk, hk⟩ : _ ∧ k_ ≠ gb229))) (fun _ hk => hk.2) (.int .i64 (wrap64 (x230001_5 + t239)))) (fun _ h_ => h_.1))) (by decide)) hk (fun _ h => h.2)) (fun _ h => h.1)); have n3_ := Aside0.mk (KeepBut.blk hk (g' := gb229) (o := .cells #[.int .i64 (wrap64 (x230000_5 + t236)), .int .i64 (wrap64 (x230001_5 + t239)), .int .i64 x230002_5, .int .i64 x230003_5, .int .i64 x230004_5, .int .i64 x230005_5] 81 (0, 0)) (by (with_reducible repeat (first | refine blk_drewN ?_ _ | refine blk_drew ?_ | refine blk_alloc ?_ _)); refine blk_put (cs := #[.int .i64 (wrap64 (x230000_5 + t236)), .int .i64 x230001_5, .int .i64 x230002_5, .int .i64 x230003_5, .int .i64 x230004_5, .int .i64 x230005_5]) ?_ 1 _ rfl; (with_reducible repeat (first | refine blk_drewN ?_ _ | refine blk_drew ?_ | refine blk_alloc ?_ _)); exact BK229.out) NB229_219.out (by simp)); have n4_ := Aside0.mk (hb); have n5_ := Aside0.mk (hi); clear HO_4; clear HO_6; clear HO_9; clear BK229; clear HB; clear HI219; have HO_4 := n0_; have HO_6 := n1_; have HO_9 := n2_; have BK229 := n3_; have HB := n4_; have HI219 := n5_; clear n0_ n1_ n2_ n3_ n4_ n5_; (try clear hb); (try clear hb2); (try clear hk); (try clear hi); have hnb46 := NB229_219.out; have hnc46 := NB219_229.out; have hcz47_0 : w45.cell? ⟨gb229, 0, none⟩ = some (.int .i64 (wrap64 (x230000_5 + t236))) := (blk_cell BK229.out 0).trans rfl; have hcz47_1 : w45.cell? ⟨gb229, 1, none⟩ = some (.int .i64 (wrap64 (x230001_5 + t239))) := (blk_cell BK229.out 1).trans rfl; have hcz47_2 : w45.cell? ⟨gb229, 2, none⟩ = some (.int .i64 x230002_5) := (blk_cell BK229.out 2).trans rfl; have hcz47_3 : w45.cell? ⟨gb229, 3, none⟩ = some (.int .i64 x230003_5) := (blk_cell BK229.out 3).trans rfl; have hcz47_4 : w45.cell? ⟨gb229, 4, none⟩ = some (.int .i64 x230004_5) := (blk_cell BK229.out 4).trans rfl; have hcz47_5 : w45.cell? ⟨gb229, 5, none⟩ = some (.int .i64 x230005_5) := (blk_cell BK229.out 5).trans rfl; have hfz47_0 := blk_frozen BK229.out 0; have hfz47_1 := blk_frozen BK229.out 1; have hfz47_2 := blk_frozen BK229.out 2; have hfz47_3 := blk_frozen BK229.out 3; have hfz47_4 := blk_frozen BK229.out 4; have hfz47_5 := blk_frozen BK229.out 5))
                                  (try simp only [Act.put, List.setIfInBounds_toArray, List.set_cons_zero, List.set_cons_succ])
                                  go_cut [11, 13] (fun v11 v13 wc => ∃ (kq : Nat) (x11_36 : Int) (x13_36 : Int), v11 = .int .i64 x11_36 ∧ v13 = .int .i64 x13_36 ∧ Aside0 (spec_DecodeDesc.j6 kq l0 y215 x6_2 (wrap64 (x7_2 + t230)) x8_2 x9_5 x11_36 x12_5 x13_36 l0 t243 t244 (wrap64 (x230000_5 + t236)) (wrap64 (x230001_5 + t239)) 0 (-1) x230004_5 x230005_5 = some (r1, r2)) ∧ Aside0 (kq ≤ kj29) ∧ Aside0 (Kd.S (Kd.slice 81 k81) 79 wc w.heap.size (fun k_ => some k_ ≠ (u6 : Value).ownBlock ∧ some k_ ≠ (u9 : Value).ownBlock ∧ k_ ≠ gb229) v216 y215) ∧ Aside0 (Kd.S (Kd.slice 81 k81) 79 wc w.heap.size (fun k_ => some k_ ≠ (v216 : Value).ownBlock ∧ some k_ ≠ (u9 : Value).ownBlock ∧ k_ ≠ gb229) u6 x6_2) ∧ Aside0 (Kd.R k81 81 wc w.heap.size (fun k_ => k_ ≠ gb229) u9 x9_5) ∧ Aside0 (wc.heap[gb229]? = some (.cells #[.int .i64 (wrap64 (x230000_5 + t236)), .int .i64 (wrap64 (x230001_5 + t239)), .int .i64 0, .int .i64 (-1), .int .i64 x230004_5, .int .i64 x230005_5] 81 (0, 0))) ∧ Aside0 (IsS93 w wc gb219 l0 t243 t244) ∧ Aside0 (Below w.heap.size w wc))
                                  case first =>
                                    have H := HC37.out
                                    clear HC37
                                    by_cases c48 : t242 > 256
                                    · rw [if_pos c48] at H
                                      have c48b0 : decide (256 < t242) = true := decide_eq_true c48
                                      clear c48
                                      (first | rw [c48b0] | (simp only [i64_w, i32_w]; rw [c48b0]) | skip)
                                      have H' := Aside0.mk H
                                      clear H
                                      go_wp2
                                      go_meet
                                      case rel => exact ⟨_, (wrap64 (Int.tdiv (wrap64 (t242 - 257)) 256)), (wrap64 ((Int.tmod (wrap64 (t242 - 257)) 256) + 1)), (by first | rfl | (simp; done) | (simp [*]; done)), (by first | rfl | (simp; done) | (simp [*]; done)), H', ⟨by have := HJ1.out; have := HK2.out; have := HJ14.out; have := HJ19.out; have := HK5.out; have := HJ29.out; first | omega | exact Nat.le_refl _⟩, ⟨by (with_reducible repeat (first | apply Kd.S_alloc | apply Kd.S_drewN | apply Kd.S_drew)); exact Kd.S_mono (Kd.S_far (p := ⟨gb229, 3, none⟩) (Kd.S_far (p := ⟨gb229, 2, none⟩) (Kd.S_mono HO_4.out (fun k_ hk => (⟨hk, hk.2.2⟩ : _ ∧ k_ ≠ gb229))) (fun _ hk => hk.2) (.int .i64 0)) (fun _ hk => hk.2) (.int .i64 (-1))) (fun _ hk => ⟨hk.1.1, ⟨hk.1.2.1, hk.1.2.2⟩⟩)⟩, ⟨by (with_reducible repeat (first | apply Kd.S_alloc | apply Kd.S_drewN | apply Kd.S_drew)); exact Kd.S_mono (Kd.S_far (p := ⟨gb229, 3, none⟩) (Kd.S_far (p := ⟨gb229, 2, none⟩) (Kd.S_mono HO_6.out (fun k_ hk => (⟨hk, hk.2.2⟩ : _ ∧ k_ ≠ gb229))) (fun _ hk => hk.2) (.int .i64 0)) (fun _ hk => hk.2) (.int .i64 (-1))) (fun _ hk => ⟨hk.1.1, ⟨hk.1.2.1, hk.1.2.2⟩⟩)⟩, ⟨by (with_reducible repeat (first | apply Kd.R_alloc | apply Kd.R_drewN | apply Kd.R_drew)); exact Kd.R_mono (Kd.R_far (p := ⟨gb229, 3, none⟩) (Kd.R_far (p := ⟨gb229, 2, none⟩) (Kd.R_mono HO_9.out (fun k_ hk => (⟨hk, hk⟩ : _ ∧ k_ ≠ gb229))) (fun _ hk => hk.2) (.int .i64 0)) (fun _ hk => hk.2) (.int .i64 (-1))) (fun _ hk => hk.1)⟩, ⟨by (with_reducible repeat (first | refine blk_drewN ?_ _ | refine blk_drew ?_ | refine blk_alloc ?_ _)); refine blk_put (cs := #[.int .i64 (wrap64 (x230000_5 + t236)), .int .i64 (wrap64 (x230001_5 + t239)), .int .i64 0, .int .i64 x230003_5, .int .i64 x230004_5, .int .i64 x230005_5]) ?_ 3 _ rfl; (with_reducible repeat (first | refine blk_drewN ?_ _ | refine blk_drew ?_ | refine blk_alloc ?_ _)); refine blk_put (cs := #[.int .i64 (wrap64 (x230000_5 + t236)), .int .i64 (wrap64 (x230001_5 + t239)), .int .i64 x230002_5, .int .i64 x230003_5, .int .i64 x230004_5, .int .i64 x230005_5]) ?_ 2 _ rfl; (with_reducible repeat (first | refine blk_drewN ?_ _ | refine blk_drew ?_ | refine blk_alloc ?_ _)); exact BK229.out⟩, ⟨by repeat (first | (with_reducible first | exact HI219.out | apply IsS93.alloc | apply IsS93.drewN | apply IsS93.drew | apply IsS93.set_1 | apply IsS93.set_2 | refine IsS93.far ?_ NB219_229.out _) | exact HI219.out)⟩, ⟨by repeat (first | (with_reducible first | exact HB.out | apply below_alloc | apply pw_below_drewN | apply below_drew1 | refine below_set ?_ (IsS93.ge HI219.out) | refine below_set ?_ GE229.out) | exact HB.out)⟩⟩
                                    · rw [if_neg c48] at H
                                      have c48b0 : decide (256 < t242) = false := decide_eq_false c48
                                      clear c48
                                      (first | rw [c48b0] | (simp only [i64_w, i32_w]; rw [c48b0]) | skip)
                                      have H' := Aside0.mk H
                                      clear H
                                      go_wp2
                                      go_meet
                                      case rel => exact ⟨_, (x11_5), (t242), (by first | rfl | (simp; done) | (simp [*]; done)), (by first | rfl | (simp; done) | (simp [*]; done)), H', ⟨by have := HJ1.out; have := HK2.out; have := HJ14.out; have := HJ19.out; have := HK5.out; have := HJ29.out; first | omega | exact Nat.le_refl _⟩, ⟨by (with_reducible repeat (first | apply Kd.S_alloc | apply Kd.S_drewN | apply Kd.S_drew)); exact Kd.S_mono (Kd.S_far (p := ⟨gb229, 3, none⟩) (Kd.S_far (p := ⟨gb229, 2, none⟩) (Kd.S_mono HO_4.out (fun k_ hk => (⟨hk, hk.2.2⟩ : _ ∧ k_ ≠ gb229))) (fun _ hk => hk.2) (.int .i64 0)) (fun _ hk => hk.2) (.int .i64 (-1))) (fun _ hk => ⟨hk.1.1, ⟨hk.1.2.1, hk.1.2.2⟩⟩)⟩, ⟨by (with_reducible repeat (first | apply Kd.S_alloc | apply Kd.S_drewN | apply Kd.S_drew)); exact Kd.S_mono (Kd.S_far (p := ⟨gb229, 3, none⟩) (Kd.S_far (p := ⟨gb229, 2, none⟩) (Kd.S_mono HO_6.out (fun k_ hk => (⟨hk, hk.2.2⟩ : _ ∧ k_ ≠ gb229))) (fun _ hk => hk.2) (.int .i64 0)) (fun _ hk => hk.2) (.int .i64 (-1))) (fun _ hk => ⟨hk.1.1, ⟨hk.1.2.1, hk.1.2.2⟩⟩)⟩, ⟨by (with_reducible repeat (first | apply Kd.R_alloc | apply Kd.R_drewN | apply Kd.R_drew)); exact Kd.R_mono (Kd.R_far (p := ⟨gb229, 3, none⟩) (Kd.R_far (p := ⟨gb229, 2, none⟩) (Kd.R_mono HO_9.out (fun k_ hk => (⟨hk, hk⟩ : _ ∧ k_ ≠ gb229))) (fun _ hk => hk.2) (.int .i64 0)) (fun _ hk => hk.2) (.int .i64 (-1))) (fun _ hk => hk.1)⟩, ⟨by (with_reducible repeat (first | refine blk_drewN ?_ _ | refine blk_drew ?_ | refine blk_alloc ?_ _)); refine blk_put (cs := #[.int .i64 (wrap64 (x230000_5 + t236)), .int .i64 (wrap64 (x230001_5 + t239)), .int .i64 0, .int .i64 x230003_5, .int .i64 x230004_5, .int .i64 x230005_5]) ?_ 3 _ rfl; (with_reducible repeat (first | refine blk_drewN ?_ _ | refine blk_drew ?_ | refine blk_alloc ?_ _)); refine blk_put (cs := #[.int .i64 (wrap64 (x230000_5 + t236)), .int .i64 (wrap64 (x230001_5 + t239)), .int .i64 x230002_5, .int .i64 x230003_5, .int .i64 x230004_5, .int .i64 x230005_5]) ?_ 2 _ rfl; (with_reducible repeat (first | refine blk_drewN ?_ _ | refine blk_drew ?_ | refine blk_alloc ?_ _)); exact BK229.out⟩, ⟨by repeat (first | (with_reducible first | exact HI219.out | apply IsS93.alloc | apply IsS93.drewN | apply IsS93.drew | apply IsS93.set_1 | apply IsS93.set_2 | refine IsS93.far ?_ NB219_229.out _) | exact HI219.out)⟩, ⟨by repeat (first | (with_reducible first | exact HB.out | apply below_alloc | apply pw_below_drewN | apply below_drew1 | refine below_set ?_ (IsS93.ge HI219.out) | refine below_set ?_ GE229.out) | exact HB.out)⟩⟩
                                  case rest =>
                                    clear HC37
                                    try clear c1
                                    try clear c2
                                    try clear p2
                                    try clear c3
                                    try clear c4
                                    try clear c5
                                    try clear c5b0
                                    try clear c5b1
                                    try clear c6
                                    try clear c6b0
                                    try clear c6b1
                                    try clear p6
                                    try clear hcv8
                                    try clear c9
                                    try clear c16
                                    try clear c16b0
                                    try clear c18
                                    try clear c24
                                    try clear c27
                                    try clear c27b0
                                    try clear c29
                                    try clear c31
                                    try clear c31b0
                                    try clear c33
                                    try clear c46
                                    try clear c48
                                    try clear c48b0
                                    try clear hcz17_0
                                    try clear hcz17_1
                                    try clear hcz17_2
                                    try clear hcz25_0
                                    try clear hcz25_1
                                    try clear hcz25_2
                                    try clear hcz25_3
                                    try clear hcz25_4
                                    try clear hcz25_5
                                    try clear hcz32_0
                                    try clear hcz32_1
                                    try clear hcz32_2
                                    try clear hcz47_0
                                    try clear hcz47_1
                                    try clear hcz47_2
                                    try clear hcz47_3
                                    try clear hcz47_4
                                    try clear hcz47_5
                                    try clear hfz17_1
                                    try clear hfz17_2
                                    try clear hfz25_0
                                    try clear hfz25_1
                                    try clear hfz25_2
                                    try clear hfz25_3
                                    try clear hfz25_4
                                    try clear hfz25_5
                                    try clear hfz32_1
                                    try clear hfz32_2
                                    try clear hfz47_0
                                    try clear hfz47_1
                                    try clear hfz47_2
                                    try clear hfz47_3
                                    try clear hfz47_4
                                    try clear hfz47_5
                                    try clear p2
                                    try clear p6
                                    obtain ⟨kq, x11_36, x13_36, rfl, rfl, HA, HJ36, HO_4, HO_6, HO_9, BK229, HI219, HB⟩ := hcut
                                    cases kq with
                                    | zero => exact absurd HA.out (by simp [spec_DecodeDesc.j6])
                                    | succ kj36 =>
                                      have H := HA.out
                                      clear HA
                                      simp only [spec_DecodeDesc.j6] at H
                                      by_cases c49 : x13_36 > 0
                                      · rw [if_pos c49] at H
                                        have c49b0 : decide (0 < x13_36) = true := decide_eq_true c49
                                        clear c49
                                        replace H := Option.bind_eq_some_iff.mp H
                                        obtain ⟨⟨t245, t246, t247⟩, A500, H⟩ := H
                                        replace H : ((spec_l15Read.f kj36 l0 t246 t247).bind fun bt248 => (if x9_5.length < 2932031007402 then (spec_DecodeDesc.l1 kj36 l0 y215 x6_2 (wrap64 (x7_2 + t230)) x8_2 (x9_5 ++ [(⟨(wrap64 (x230000_5 + t236)), (wrap64 (x230001_5 + t239)), x11_36, wrap64 (x13_36 - 1), t245, bt248.1⟩ : S81)]) x11_36 (wrap64 (x12_5 - 1)) l0 bt248.2.1 bt248.2.2 (wrap64 (x230000_5 + t236)) (wrap64 (x230001_5 + t239)) x11_36 (wrap64 (x13_36 - 1)) t245 bt248.1) else (none))) = some (r1, r2) := H
                                        have A50 := Aside0.mk A500
                                        clear A500
                                        replace H := Option.bind_eq_some_iff.mp H
                                        obtain ⟨⟨t248, t249, t250⟩, A510, H⟩ := H
                                        replace H : (if x9_5.length < 2932031007402 then (spec_DecodeDesc.l1 kj36 l0 y215 x6_2 (wrap64 (x7_2 + t230)) x8_2 (x9_5 ++ [(⟨(wrap64 (x230000_5 + t236)), (wrap64 (x230001_5 + t239)), x11_36, wrap64 (x13_36 - 1), t245, t248⟩ : S81)]) x11_36 (wrap64 (x12_5 - 1)) l0 t249 t250 (wrap64 (x230000_5 + t236)) (wrap64 (x230001_5 + t239)) x11_36 (wrap64 (x13_36 - 1)) t245 t248) else (none)) = some (r1, r2) := H
                                        have A51 := Aside0.mk A510
                                        clear A510
                                        by_cases c52 : x9_5.length < 2932031007402
                                        · rw [if_pos c52] at H
                                          have LMc52 := Aside0.mk c52
                                          clear c52
                                          obtain ⟨y251, hy251⟩ : ∃ y_ : List (S81), y_ = (x9_5 ++ [(⟨(wrap64 (x230000_5 + t236)), (wrap64 (x230001_5 + t239)), x11_36, wrap64 (x13_36 - 1), t245, t248⟩ : S81)]) := ⟨_, rfl⟩
                                          replace H : (spec_DecodeDesc.l1 kj36 l0 y215 x6_2 (wrap64 (x7_2 + t230)) x8_2 y251 x11_36 (wrap64 (x12_5 - 1)) l0 t249 t250 (wrap64 (x230000_5 + t236)) (wrap64 (x230001_5 + t239)) x11_36 (wrap64 (x13_36 - 1)) t245 t248) = some (r1, r2) := by first | (rw [hy251]; with_reducible exact H) | (have H2_ := (Option.bind_some _ _).symm.trans H; rw [hy251]; with_reducible exact H2_) | (have H2_ := (Option.bind_some _ _).symm.trans H; with_reducible exact H2_) | with_reducible exact H | (rw [hy251]; exact H) | exact H
                                          have Ny251 := Aside0.mk hy251
                                          clear hy251
                                          have H' := Aside0.mk H
                                          clear H
                                          have hnb53 := NB229_219.out
                                          have hnc53 := NB219_229.out
                                          have hcz54_0 : wc.cell? ⟨gb229, 0, none⟩ = some (.int .i64 (wrap64 (x230000_5 + t236))) := (blk_cell BK229.out 0).trans rfl
                                          have hcz54_1 : wc.cell? ⟨gb229, 1, none⟩ = some (.int .i64 (wrap64 (x230001_5 + t239))) := (blk_cell BK229.out 1).trans rfl
                                          have hcz54_2 : wc.cell? ⟨gb229, 2, none⟩ = some (.int .i64 0) := (blk_cell BK229.out 2).trans rfl
                                          have hcz54_3 : wc.cell? ⟨gb229, 3, none⟩ = some (.int .i64 (-1)) := (blk_cell BK229.out 3).trans rfl
                                          have hcz54_4 : wc.cell? ⟨gb229, 4, none⟩ = some (.int .i64 x230004_5) := (blk_cell BK229.out 4).trans rfl
                                          have hcz54_5 : wc.cell? ⟨gb229, 5, none⟩ = some (.int .i64 x230005_5) := (blk_cell BK229.out 5).trans rfl
                                          have hfz54_0 := blk_frozen BK229.out 0
                                          have hfz54_1 := blk_frozen BK229.out 1
                                          have hfz54_2 := blk_frozen BK229.out 2
                                          have hfz54_3 := blk_frozen BK229.out 3
                                          have hfz54_4 := blk_frozen BK229.out 4
                                          have hfz54_5 := blk_frozen BK229.out 5
                                          go_wp2_with (first | ((with_reducible refine gate_callee (f := 55) rfl ?_); refine goesL_ (some 101) rfl rfl Try.func55 (by kernel_rfl) rfl #[.pointer (some ⟨gb219, 0, none⟩)] rfl (by (try simp only [List.map_toArray, List.map_cons, List.map_nil]); first | done | rfl | (simp only [List.length_drop, List.length_take]; rfl)) ?_; (with_reducible refine (spec_l15Read.calls kj36 gb219 l0 t243 t244 t245 t246 t247 w _ ?side1 ?side2 A50.out).mono ?_); (case side1 => repeat (first | (with_reducible first | exact HI219.out | apply IsS93.alloc | apply IsS93.drewN | apply IsS93.drew | apply IsS93.set_1 | apply IsS93.set_2 | refine IsS93.far ?_ NB219_229.out _) | exact HI219.out)); (case side2 => repeat (first | (with_reducible first | exact HB.out | apply below_alloc | apply pw_below_drewN | apply below_drew1 | refine below_set ?_ (IsS93.ge HI219.out) | refine below_set ?_ GE229.out) | exact HB.out)); rintro e w55 ⟨rfl, hi, hb, hk⟩; refine ⟨_, rfl, ?_⟩; have n0_ := Aside0.mk (Kd.S_mono (Kd.S_keep (IsS93.apartS (show IsS93 w _ gb219 l0 t243 t244 from by repeat (first | (with_reducible first | exact HI219.out | apply IsS93.alloc | apply IsS93.drewN | apply IsS93.drew | apply IsS93.set_1 | apply IsS93.set_2 | refine IsS93.far ?_ NB219_229.out _) | exact HI219.out)) (by (with_reducible repeat (first | apply Kd.S_alloc | apply Kd.S_drewN | apply Kd.S_drew)); exact (Kd.S_mono (Kd.S_far (p := ⟨gb229, 3, none⟩) (Kd.S_far (p := ⟨gb229, 2, none⟩) (Kd.S_mono HO_4.out (fun k_ hk => (⟨hk, hk.2.2⟩ : _ ∧ k_ ≠ gb229))) (fun _ hk => hk.2) (.int .i64 x11_36)) (fun _ hk => hk.2) (.int .i64 (wrap64 (x13_36 - 1)))) (fun _ h_ => h_.1))) (by decide)) hk (fun _ h => h.2)) (fun _ h => h.1)); have n1_ := Aside0.mk (Kd.S_mono (Kd.S_keep (IsS93.apartS (show IsS93 w _ gb219 l0 t243 t244 from by repeat (first | (with_reducible first | exact HI219.out | apply IsS93.alloc | apply IsS93.drewN | apply IsS93.drew | apply IsS93.set_1 | apply IsS93.set_2 | refine IsS93.far ?_ NB219_229.out _) | exact HI219.out)) (by (with_reducible repeat (first | apply Kd.S_alloc | apply Kd.S_drewN | apply Kd.S_drew)); exact (Kd.S_mono (Kd.S_far (p := ⟨gb229, 3, none⟩) (Kd.S_far (p := ⟨gb229, 2, none⟩) (Kd.S_mono HO_6.out (fun k_ hk => (⟨hk, hk.2.2⟩ : _ ∧ k_ ≠ gb229))) (fun _ hk => hk.2) (.int .i64 x11_36)) (fun _ hk => hk.2) (.int .i64 (wrap64 (x13_36 - 1)))) (fun _ h_ => h_.1))) (by decide)) hk (fun _ h => h.2)) (fun _ h => h.1)); have n2_ := Aside0.mk (Kd.R_mono (Kd.R_keep (IsS93.apart (show IsS93 w _ gb219 l0 t243 t244 from by repeat (first | (with_reducible first | exact HI219.out | apply IsS93.alloc | apply IsS93.drewN | apply IsS93.drew | apply IsS93.set_1 | apply IsS93.set_2 | refine IsS93.far ?_ NB219_229.out _) | exact HI219.out)) (by (with_reducible repeat (first | apply Kd.R_alloc | apply Kd.R_drewN | apply Kd.R_drew)); exact (Kd.R_mono (Kd.R_far (p := ⟨gb229, 3, none⟩) (Kd.R_far (p := ⟨gb229, 2, none⟩) (Kd.R_mono HO_9.out (fun k_ hk => (⟨hk, hk⟩ : _ ∧ k_ ≠ gb229))) (fun _ hk => hk.2) (.int .i64 x11_36)) (fun _ hk => hk.2) (.int .i64 (wrap64 (x13_36 - 1)))) (fun _ h_ => h_.1))) (by decide)) hk (fun _ h => h.2)) (fun _ h => h.1)); have n3_ := Aside0.mk (KeepBut.blk hk (g' := gb229) (o := .cells #[.int .i64 (wrap64 (x230000_5 + t236)), .int .i64 (wrap64 (x230001_5 + t239)), .int .i64 x11_36, .int .i64 (wrap64 (x13_36 - 1)), .int .i64 x230004_5, .int .i64 x230005_5] 81 (0, 0)) (by (with_reducible repeat (first | refine blk_drewN ?_ _ | refine blk_drew ?_ | refine blk_alloc ?_ _)); refine blk_put (cs := #[.int .i64 (wrap64 (x230000_5 + t236)), .int .i64 (wrap64 (x230001_5 + t239)), .int .i64 x11_36, .int .i64 (-1), .int .i64 x230004_5, .int .i64 x230005_5]) ?_ 3 _ rfl; (with_reducible repeat (first | refine blk_drewN ?_ _ | refine blk_drew ?_ | refine blk_alloc ?_ _)); refine blk_put (cs := #[.int .i64 (wrap64 (x230000_5 + t236)), .int .i64 (wrap64 (x230001_5 + t239)), .int .i64 0, .int .i64 (-1), .int .i64 x230004_5, .int .i64 x230005_5]) ?_ 2 _ rfl; (with_reducible repeat (first | refine blk_drewN ?_ _ | refine blk_drew ?_ | refine blk_alloc ?_ _)); exact BK229.out) NB229_219.out (by simp)); have n4_ := Aside0.mk (hb); have n5_ := Aside0.mk (hi); clear HO_4; clear HO_6; clear HO_9; clear BK229; clear HB; clear HI219; have HO_4 := n0_; have HO_6 := n1_; have HO_9 := n2_; have BK229 := n3_; have HB := n4_; have HI219 := n5_; clear n0_ n1_ n2_ n3_ n4_ n5_; (try clear hb); (try clear hb2); (try clear hk); (try clear hi); have hcz56_0 : w55.cell? ⟨gb229, 0, none⟩ = some (.int .i64 (wrap64 (x230000_5 + t236))) := (blk_cell BK229.out 0).trans rfl; have hcz56_1 : w55.cell? ⟨gb229, 1, none⟩ = some (.int .i64 (wrap64 (x230001_5 + t239))) := (blk_cell BK229.out 1).trans rfl; have hcz56_2 : w55.cell? ⟨gb229, 2, none⟩ = some (.int .i64 x11_36) := (blk_cell BK229.out 2).trans rfl; have hcz56_3 : w55.cell? ⟨gb229, 3, none⟩ = some (.int .i64 (wrap64 (x13_36 - 1))) := (blk_cell BK229.out 3).trans rfl; have hcz56_4 : w55.cell? ⟨gb229, 4, none⟩ = some (.int .i64 x230004_5) := (blk_cell BK229.out 4).trans rfl; have hcz56_5 : w55.cell? ⟨gb229, 5, none⟩ = some (.int .i64 x230005_5) := (blk_cell BK229.out 5).trans rfl; have hfz56_0 := blk_frozen BK229.out 0; have hfz56_1 := blk_frozen BK229.out 1; have hfz56_2 := blk_frozen BK229.out 2; have hfz56_3 := blk_frozen BK229.out 3; have hfz56_4 := blk_frozen BK229.out 4; have hfz56_5 := blk_frozen BK229.out 5) | ((with_reducible refine gate_callee (f := 55) rfl ?_); refine goesL_ (some 104) rfl rfl Try.func55 (by kernel_rfl) rfl #[.pointer (some ⟨gb219, 0, none⟩)] rfl (by (try simp only [List.map_toArray, List.map_cons, List.map_nil]); first | done | rfl | (simp only [List.length_drop, List.length_take]; rfl)) ?_; (with_reducible refine (spec_l15Read.calls kj36 gb219 l0 t246 t247 t248 t249 t250 w _ ?side1 ?side2 A51.out).mono ?_); (case side1 => repeat (first | (with_reducible first | exact HI219.out | apply IsS93.alloc | apply IsS93.drewN | apply IsS93.drew | apply IsS93.set_1 | apply IsS93.set_2 | refine IsS93.far ?_ NB219_229.out _) | exact HI219.out)); (case side2 => repeat (first | (with_reducible first | exact HB.out | apply below_alloc | apply pw_below_drewN | apply below_drew1 | refine below_set ?_ (IsS93.ge HI219.out) | refine below_set ?_ GE229.out) | exact HB.out)); rintro e w57 ⟨rfl, hi, hb, hk⟩; refine ⟨_, rfl, ?_⟩; have n0_ := Aside0.mk (Kd.S_mono (Kd.S_keep (IsS93.apartS (show IsS93 w _ gb219 l0 t246 t247 from by repeat (first | (with_reducible first | exact HI219.out | apply IsS93.alloc | apply IsS93.drewN | apply IsS93.drew | apply IsS93.set_1 | apply IsS93.set_2 | refine IsS93.far ?_ NB219_229.out _) | exact HI219.out)) (by (with_reducible repeat (first | apply Kd.S_alloc | apply Kd.S_drewN | apply Kd.S_drew)); exact (Kd.S_mono (Kd.S_far (p := ⟨gb229, 4, none⟩) (Kd.S_mono HO_4.out (fun k_ hk => (⟨hk, hk.2.2⟩ : _ ∧ k_ ≠ gb229))) (fun _ hk => hk.2) (.int .i64 t245)) (fun _ h_ => h_.1))) (by decide)) hk (fun _ h => h.2)) (fun _ h => h.1)); have n1_ := Aside0.mk (Kd.S_mono (Kd.S_keep (IsS93.apartS (show IsS93 w _ gb219 l0 t246 t247 from by repeat (first | (with_reducible first | exact HI219.out | apply IsS93.alloc | apply IsS93.drewN | apply IsS93.drew | apply IsS93.set_1 | apply IsS93.set_2 | refine IsS93.far ?_ NB219_229.out _) | exact HI219.out)) (by (with_reducible repeat (first | apply Kd.S_alloc | apply Kd.S_drewN | apply Kd.S_drew)); exact (Kd.S_mono (Kd.S_far (p := ⟨gb229, 4, none⟩) (Kd.S_mono HO_6.out (fun k_ hk => (⟨hk, hk.2.2⟩ : _ ∧ k_ ≠ gb229))) (fun _ hk => hk.2) (.int .i64 t245)) (fun _ h_ => h_.1))) (by decide)) hk (fun _ h => h.2)) (fun _ h => h.1)); have n2_ := Aside0.mk (Kd.R_mono (Kd.R_keep (IsS93.apart (show IsS93 w _ gb219 l0 t246 t247 from by repeat (first | (with_reducible first | exact HI219.out | apply IsS93.alloc | apply IsS93.drewN | apply IsS93.drew | apply IsS93.set_1 | apply IsS93.set_2 | refine IsS93.far ?_ NB219_229.out _) | exact HI219.out)) (by (with_reducible repeat (first | apply Kd.R_alloc | apply Kd.R_drewN | apply Kd.R_drew)); exact (Kd.R_mono (Kd.R_far (p := ⟨gb229, 4, none⟩) (Kd.R_mono HO_9.out (fun k_ hk => (⟨hk, hk⟩ : _ ∧ k_ ≠ gb229))) (fun _ hk => hk.2) (.int .i64 t245)) (fun _ h_ => h_.1))) (by decide)) hk (fun _ h => h.2)) (fun _ h => h.1)); have n3_ := Aside0.mk (KeepBut.blk hk (g' := gb229) (o := .cells #[.int .i64 (wrap64 (x230000_5 + t236)), .int .i64 (wrap64 (x230001_5 + t239)), .int .i64 x11_36, .int .i64 (wrap64 (x13_36 - 1)), .int .i64 t245, .int .i64 x230005_5] 81 (0, 0)) (by (with_reducible repeat (first | refine blk_drewN ?_ _ | refine blk_drew ?_ | refine blk_alloc ?_ _)); refine blk_put (cs := #[.int .i64 (wrap64 (x230000_5 + t236)), .int .i64 (wrap64 (x230001_5 + t239)), .int .i64 x11_36, .int .i64 (wrap64 (x13_36 - 1)), .int .i64 x230004_5, .int .i64 x230005_5]) ?_ 4 _ rfl; (with_reducible repeat (first | refine blk_drewN ?_ _ | refine blk_drew ?_ | refine blk_alloc ?_ _)); exact BK229.out) NB229_219.out (by simp)); have n4_ := Aside0.mk (hb); have n5_ := Aside0.mk (hi); clear HO_4; clear HO_6; clear HO_9; clear BK229; clear HB; clear HI219; have HO_4 := n0_; have HO_6 := n1_; have HO_9 := n2_; have BK229 := n3_; have HB := n4_; have HI219 := n5_; clear n0_ n1_ n2_ n3_ n4_ n5_; (try clear hb); (try clear hb2); (try clear hk); (try clear hi); have hcz58_0 : w57.cell? ⟨gb229, 0, none⟩ = some (.int .i64 (wrap64 (x230000_5 + t236))) := (blk_cell BK229.out 0).trans rfl; have hcz58_1 : w57.cell? ⟨gb229, 1, none⟩ = some (.int .i64 (wrap64 (x230001_5 + t239))) := (blk_cell BK229.out 1).trans rfl; have hcz58_2 : w57.cell? ⟨gb229, 2, none⟩ = some (.int .i64 x11_36) := (blk_cell BK229.out 2).trans rfl; have hcz58_3 : w57.cell? ⟨gb229, 3, none⟩ = some (.int .i64 (wrap64 (x13_36 - 1))) := (blk_cell BK229.out 3).trans rfl; have hcz58_4 : w57.cell? ⟨gb229, 4, none⟩ = some (.int .i64 t245) := (blk_cell BK229.out 4).trans rfl; have hcz58_5 : w57.cell? ⟨gb229, 5, none⟩ = some (.int .i64 x230005_5) := (blk_cell BK229.out 5).trans rfl; have hfz58_0 := blk_frozen BK229.out 0; have hfz58_1 := blk_frozen BK229.out 1; have hfz58_2 := blk_frozen BK229.out 2; have hfz58_3 := blk_frozen BK229.out 3; have hfz58_4 := blk_frozen BK229.out 4; have hfz58_5 := blk_frozen BK229.out 5) | ((with_reducible refine gate_builtin (b := .append) (xs := #[.tmp 106, .tmp 108]) rfl ?_); (try (refine gate_guard (by rfl) ?_; dsimp only)); at_builtin; refine Kd.R_append k81 (w0 := w) w.heap.size rfl (.tmp 106) (.tmp 108) 79 81 (.agg #[(.int .i64 0), (.int .i64 0), (.int .i64 0), (.int .i64 0), (.int .i64 0), (.int .i64 0)]) 48 rfl Try.underlying79 info81 rfl (by decide) (by omega) u9 x9_5 (⟨(wrap64 (x230000_5 + t236)), (wrap64 (x230001_5 + t239)), x11_36, wrap64 (x13_36 - 1), t245, t248⟩ : S81) [.int .i64 (wrap64 (x230000_5 + t236)), .int .i64 (wrap64 (x230001_5 + t239)), .int .i64 x11_36, .int .i64 (wrap64 (x13_36 - 1)), .int .i64 t245, .int .i64 t248] (fun k_ => k_ ≠ gb229) (fun _ => False) rfl (by first | (go_simp; done) | (go_simp; rfl)) ?aP (fun _ hk => hk.elim) ?aF ?aO ?aB ?aS ?aL ?_; (case aP => exact k81_mkM _ _ _ (⟨(wrap64 (x230000_5 + t236)), (wrap64 (x230001_5 + t239)), x11_36, wrap64 (x13_36 - 1), t245, t248⟩ : S81)); (case aB => exact (by repeat (first | (with_reducible first | exact HB.out | apply below_alloc | apply pw_below_drewN | apply below_drew1 | refine below_set ?_ (IsS93.ge HI219.out) | refine below_set ?_ GE229.out) | exact HB.out))); (case aF => exact (fun k_ hk => Kd.freshB (g := gb229) (o := .cells #[.int .i64 (wrap64 (x230000_5 + t236)), .int .i64 (wrap64 (x230001_5 + t239)), .int .i64 x11_36, .int .i64 (wrap64 (x13_36 - 1)), .int .i64 t245, .int .i64 t248] 81 (0, 0)) (by (with_reducible repeat (first | refine blk_drewN ?_ _ | refine blk_drew ?_ | refine blk_alloc ?_ _)); refine blk_put (cs := #[.int .i64 (wrap64 (x230000_5 + t236)), .int .i64 (wrap64 (x230001_5 + t239)), .int .i64 x11_36, .int .i64 (wrap64 (x13_36 - 1)), .int .i64 t245, .int .i64 x230005_5]) ?_ 5 _ rfl; (with_reducible repeat (first | refine blk_drewN ?_ _ | refine blk_drew ?_ | refine blk_alloc ?_ _)); exact BK229.out) k_ hk)); (case aO => exact (by (with_reducible repeat (first | apply Kd.R_alloc | apply Kd.R_drewN | apply Kd.R_drew)); exact Kd.R_mono (Kd.R_far (p := ⟨gb229, 5, none⟩) (Kd.R_mono HO_9.out (fun k_ hk => (⟨hk, hk⟩ : _ ∧ k_ ≠ gb229))) (fun _ hk => hk.2) (.int .i64 t248)) (fun _ hk => hk.1))); (case aS => exact (below_size (by repeat (first | (with_reducible first | exact HB.out | apply below_alloc | apply pw_below_drewN | apply below_drew1 | refine below_set ?_ (IsS93.ge HI219.out) | refine below_set ?_ GE229.out) | exact HB.out)))); (case aL => have := LMc52.out; omega); intro v252 w59 ho hb hg hat; rw [← Ny251.out] at ho; have n0_ := Aside0.mk (Kd.S_after (ok := (fun k_ => some k_ ≠ (u6 : Value).ownBlock ∧ k_ ≠ gb229)) (by (with_reducible repeat (first | apply Kd.S_alloc | apply Kd.S_drewN | apply Kd.S_drew)); exact Kd.S_mono (Kd.S_far (p := ⟨gb229, 5, none⟩) (Kd.S_mono HO_4.out (fun k_ hk => (⟨hk, hk.2.2⟩ : _ ∧ k_ ≠ gb229))) (fun _ hk => hk.2) (.int .i64 t248)) (fun _ hk => ⟨⟨hk.1.1, hk.1.2.2⟩, hk.1.2.1⟩)) hg hat); have n1_ := Aside0.mk (Kd.S_after (ok := (fun k_ => some k_ ≠ (v216 : Value).ownBlock ∧ k_ ≠ gb229)) (by (with_reducible repeat (first | apply Kd.S_alloc | apply Kd.S_drewN | apply Kd.S_drew)); exact Kd.S_mono (Kd.S_far (p := ⟨gb229, 5, none⟩) (Kd.S_mono HO_6.out (fun k_ hk => (⟨hk, hk.2.2⟩ : _ ∧ k_ ≠ gb229))) (fun _ hk => hk.2) (.int .i64 t248)) (fun _ hk => ⟨⟨hk.1.1, hk.1.2.2⟩, hk.1.2.1⟩)) hg hat); have n2_ := Aside0.mk (blk_grown (g := gb229) (o := .cells #[.int .i64 (wrap64 (x230000_5 + t236)), .int .i64 (wrap64 (x230001_5 + t239)), .int .i64 x11_36, .int .i64 (wrap64 (x13_36 - 1)), .int .i64 t245, .int .i64 t248] 81 (0, 0)) (by (with_reducible repeat (first | refine blk_drewN ?_ _ | refine blk_drew ?_ | refine blk_alloc ?_ _)); refine blk_put (cs := #[.int .i64 (wrap64 (x230000_5 + t236)), .int .i64 (wrap64 (x230001_5 + t239)), .int .i64 x11_36, .int .i64 (wrap64 (x13_36 - 1)), .int .i64 t245, .int .i64 x230005_5]) ?_ 5 _ rfl; (with_reducible repeat (first | refine blk_drewN ?_ _ | refine blk_drew ?_ | refine blk_alloc ?_ _)); exact BK229.out) hg (Kd.R_away HO_9.out (fun _ hk => hk))); have n3_ := Aside0.mk (IsS93.grown (by first | exact HI219.out | exact IsS93.far HI219.out NB219_229.out _ | repeat (first | (with_reducible first | exact HI219.out | apply IsS93.alloc | apply IsS93.drewN | apply IsS93.drew | apply IsS93.set_1 | apply IsS93.set_2 | refine IsS93.far ?_ NB219_229.out _) | exact HI219.out)) hg (IsS93.own_ne HI219.out HO_9.out (by decide))); have n4_ := Aside0.mk (hb); have n5_ := Aside0.mk (ho); clear HO_4; clear HO_6; clear BK229; clear HI219; clear HB; clear HO_9; have HO_4 := n0_; have HO_6 := n1_; have BK229 := n2_; have HI219 := n3_; have HB := n4_; have HO253 := n5_; clear n0_ n1_ n2_ n3_ n4_ n5_; clear ho hb hg hat))
                                          go_roundg kj36
                                          case measure => have := HJ1.out; have := HK2.out; have := HJ14.out; have := HJ19.out; have := HK5.out; have := HJ29.out; have := HJ36.out; omega
                                          case rel => exact ⟨(y251), (x11_36), (wrap64 (x12_5 - 1)), (t249), (t250), ((wrap64 (x230000_5 + t236))), ((wrap64 (x230001_5 + t239))), (x11_36), (wrap64 (x13_36 - 1)), (t245), (t248), (by first | rfl | (simp; done) | (simp [*]; done)), (by first | rfl | (simp; done) | (simp [*]; done)), H', ⟨by have := HJ1.out; have := HK2.out; have := HJ14.out; have := HJ19.out; have := HK5.out; have := HJ29.out; have := HJ36.out; omega⟩, ⟨by (with_reducible repeat (first | apply Kd.S_alloc | apply Kd.S_drewN | apply Kd.S_drew)); exact Kd.S_mono HO_4.out (fun _ hk => ⟨hk.1.1, ⟨hk.2, hk.1.2⟩⟩)⟩, ⟨by (with_reducible repeat (first | apply Kd.S_alloc | apply Kd.S_drewN | apply Kd.S_drew)); exact Kd.S_mono HO_6.out (fun _ hk => ⟨hk.1.1, ⟨hk.2, hk.1.2⟩⟩)⟩, ⟨by (with_reducible repeat (first | apply Kd.R_alloc | apply Kd.R_drewN | apply Kd.R_drew)); exact HO253.out⟩, ⟨by (with_reducible repeat (first | refine blk_drewN ?_ _ | refine blk_drew ?_ | refine blk_alloc ?_ _)); exact BK229.out⟩, ⟨by repeat (first | (with_reducible first | exact HI219.out | apply IsS93.alloc | apply IsS93.drewN | apply IsS93.drew | apply IsS93.set_1 | apply IsS93.set_2 | refine IsS93.far ?_ NB219_229.out _) | exact HI219.out)⟩, ⟨by repeat (first | (with_reducible first | exact HB.out | apply below_alloc | apply pw_below_drewN | apply below_drew1 | refine below_set ?_ (IsS93.ge HI219.out) | refine below_set ?_ GE229.out) | exact HB.out)⟩⟩
                                        · rw [if_neg c52] at H
                                          exact absurd H (by simp)
                                      · rw [if_neg c49] at H
                                        have c49b0 : decide (0 < x13_36) = false := decide_eq_false c49
                                        clear c49
                                        replace H := Option.bind_eq_some_iff.mp H
                                        obtain ⟨⟨t254, t255, t256⟩, A600, H⟩ := H
                                        replace H : ((spec_l15Read.f kj36 l0 t255 t256).bind fun bt257 => (if x9_5.length < 2932031007402 then (spec_DecodeDesc.l1 kj36 l0 y215 x6_2 (wrap64 (x7_2 + t230)) x8_2 (x9_5 ++ [(⟨(wrap64 (x230000_5 + t236)), (wrap64 (x230001_5 + t239)), 0, (-1), t254, bt257.1⟩ : S81)]) x11_36 (wrap64 (x12_5 - 1)) l0 bt257.2.1 bt257.2.2 (wrap64 (x230000_5 + t236)) (wrap64 (x230001_5 + t239)) 0 (-1) t254 bt257.1) else (none))) = some (r1, r2) := H
                                        have A60 := Aside0.mk A600
                                        clear A600
                                        replace H := Option.bind_eq_some_iff.mp H
                                        obtain ⟨⟨t257, t258, t259⟩, A610, H⟩ := H
                                        replace H : (if x9_5.length < 2932031007402 then (spec_DecodeDesc.l1 kj36 l0 y215 x6_2 (wrap64 (x7_2 + t230)) x8_2 (x9_5 ++ [(⟨(wrap64 (x230000_5 + t236)), (wrap64 (x230001_5 + t239)), 0, (-1), t254, t257⟩ : S81)]) x11_36 (wrap64 (x12_5 - 1)) l0 t258 t259 (wrap64 (x230000_5 + t236)) (wrap64 (x230001_5 + t239)) 0 (-1) t254 t257) else (none)) = some (r1, r2) := H
                                        have A61 := Aside0.mk A610
                                        clear A610
                                        by_cases c62 : x9_5.length < 2932031007402
                                        · rw [if_pos c62] at H
                                          have LMc62 := Aside0.mk c62
                                          clear c62
                                          obtain ⟨y260, hy260⟩ : ∃ y_ : List (S81), y_ = (x9_5 ++ [(⟨(wrap64 (x230000_5 + t236)), (wrap64 (x230001_5 + t239)), 0, (-1), t254, t257⟩ : S81)]) := ⟨_, rfl⟩
                                          replace H : (spec_DecodeDesc.l1 kj36 l0 y215 x6_2 (wrap64 (x7_2 + t230)) x8_2 y260 x11_36 (wrap64 (x12_5 - 1)) l0 t258 t259 (wrap64 (x230000_5 + t236)) (wrap64 (x230001_5 + t239)) 0 (-1) t254 t257) = some (r1, r2) := by first | (rw [hy260]; with_reducible exact H) | (have H2_ := (Option.bind_some _ _).symm.trans H; rw [hy260]; with_reducible exact H2_) | (have H2_ := (Option.bind_some _ _).symm.trans H; with_reducible exact H2_) | with_reducible exact H | (rw [hy260]; exact H) | exact H
                                          have Ny260 := Aside0.mk hy260
                                          clear hy260
                                          have H' := Aside0.mk H
                                          clear H
                                          go_wp2_with (first | ((with_reducible refine gate_callee (f := 55) rfl ?_); refine goesL_ (some 101) rfl rfl Try.func55 (by kernel_rfl) rfl #[.pointer (some ⟨gb219, 0, none⟩)] rfl (by (try simp only [List.map_toArray, List.map_cons, List.map_nil]); first | done | rfl | (simp only [List.length_drop, List.length_take]; rfl)) ?_; (with_reducible refine (spec_l15Read.calls kj36 gb219 l0 t243 t244 t254 t255 t256 w _ ?side1 ?side2 A60.out).mono ?_); (case side1 => repeat (first | (with_reducible first | exact HI219.out | apply IsS93.alloc | apply IsS93.drewN | apply IsS93.drew | apply IsS93.set_1 | apply IsS93.set_2 | refine IsS93.far ?_ NB219_229.out _) | exact HI219.out)); (case side2 => repeat (first | (with_reducible first | exact HB.out | apply below_alloc | apply pw_below_drewN | apply below_drew1 | refine below_set ?_ (IsS93.ge HI219.out) | refine below_set ?_ GE229.out) | exact HB.out)); rintro e w63 ⟨rfl, hi, hb, hk⟩; refine ⟨_, rfl, ?_⟩; have n0_ := Aside0.mk (Kd.S_mono (Kd.S_keep (IsS93.apartS (show IsS93 w _ gb219 l0 t243 t244 from by repeat (first | (with_reducible first | exact HI219.out | apply IsS93.alloc | apply IsS93.drewN | apply IsS93.drew | apply IsS93.set_1 | apply IsS93.set_2 | refine IsS93.far ?_ NB219_229.out _) | exact HI219.out)) (by (with_reducible repeat (first | apply Kd.S_alloc | apply Kd.S_drewN | apply Kd.S_drew)); exact HO_4.out) (by decide)) hk (fun _ h => h.2)) (fun _ h => h.1)); have n1_ := Aside0.mk (Kd.S_mono (Kd.S_keep (IsS93.apartS (show IsS93 w _ gb219 l0 t243 t244 from by repeat (first | (with_reducible first | exact HI219.out | apply IsS93.alloc | apply IsS93.drewN | apply IsS93.drew | apply IsS93.set_1 | apply IsS93.set_2 | refine IsS93.far ?_ NB219_229.out _) | exact HI219.out)) (by (with_reducible repeat (first | apply Kd.S_alloc | apply Kd.S_drewN | apply Kd.S_drew)); exact HO_6.out) (by decide)) hk (fun _ h => h.2)) (fun _ h => h.1)); have n2_ := Aside0.mk (Kd.R_mono (Kd.R_keep (IsS93.apart (show IsS93 w _ gb219 l0 t243 t244 from by repeat (first | (with_reducible first | exact HI219.out | apply IsS93.alloc | apply IsS93.drewN | apply IsS93.drew | apply IsS93.set_1 | apply IsS93.set_2 | refine IsS93.far ?_ NB219_229.out _) | exact HI219.out)) (by (with_reducible repeat (first | apply Kd.R_alloc | apply Kd.R_drewN | apply Kd.R_drew)); exact HO_9.out) (by decide)) hk (fun _ h => h.2)) (fun _ h => h.1)); have n3_ := Aside0.mk (KeepBut.blk hk (g' := gb229) (o := .cells #[.int .i64 (wrap64 (x230000_5 + t236)), .int .i64 (wrap64 (x230001_5 + t239)), .int .i64 0, .int .i64 (-1), .int .i64 x230004_5, .int .i64 x230005_5] 81 (0, 0)) (by (with_reducible repeat (first | refine blk_drewN ?_ _ | refine blk_drew ?_ | refine blk_alloc ?_ _)); exact BK229.out) NB229_219.out (by simp)); have n4_ := Aside0.mk (hb); have n5_ := Aside0.mk (hi); clear HO_4; clear HO_6; clear HO_9; clear BK229; clear HB; clear HI219; have HO_4 := n0_; have HO_6 := n1_; have HO_9 := n2_; have BK229 := n3_; have HB := n4_; have HI219 := n5_; clear n0_ n1_ n2_ n3_ n4_ n5_; (try clear hb); (try clear hb2); (try clear hk); (try clear hi); have hnb64 := NB229_219.out; have hnc64 := NB219_229.out; have hcz65_0 : w63.cell? ⟨gb229, 0, none⟩ = some (.int .i64 (wrap64 (x230000_5 + t236))) := (blk_cell BK229.out 0).trans rfl; have hcz65_1 : w63.cell? ⟨gb229, 1, none⟩ = some (.int .i64 (wrap64 (x230001_5 + t239))) := (blk_cell BK229.out 1).trans rfl; have hcz65_2 : w63.cell? ⟨gb229, 2, none⟩ = some (.int .i64 0) := (blk_cell BK229.out 2).trans rfl; have hcz65_3 : w63.cell? ⟨gb229, 3, none⟩ = some (.int .i64 (-1)) := (blk_cell BK229.out 3).trans rfl; have hcz65_4 : w63.cell? ⟨gb229, 4, none⟩ = some (.int .i64 x230004_5) := (blk_cell BK229.out 4).trans rfl; have hcz65_5 : w63.cell? ⟨gb229, 5, none⟩ = some (.int .i64 x230005_5) := (blk_cell BK229.out 5).trans rfl; have hfz65_0 := blk_frozen BK229.out 0; have hfz65_1 := blk_frozen BK229.out 1; have hfz65_2 := blk_frozen BK229.out 2; have hfz65_3 := blk_frozen BK229.out 3; have hfz65_4 := blk_frozen BK229.out 4; have hfz65_5 := blk_frozen BK229.out 5) | ((with_reducible refine gate_callee (f := 55) rfl ?_); refine goesL_ (some 104) rfl rfl Try.func55 (by kernel_rfl) rfl #[.pointer (some ⟨gb219, 0, none⟩)] rfl (by (try simp only [List.map_toArray, List.map_cons, List.map_nil]); first | done | rfl | (simp only [List.length_drop, List.length_take]; rfl)) ?_; (with_reducible refine (spec_l15Read.calls kj36 gb219 l0 t255 t256 t257 t258 t259 w _ ?side1 ?side2 A61.out).mono ?_); (case side1 => repeat (first | (with_reducible first | exact HI219.out | apply IsS93.alloc | apply IsS93.drewN | apply IsS93.drew | apply IsS93.set_1 | apply IsS93.set_2 | refine IsS93.far ?_ NB219_229.out _) | exact HI219.out)); (case side2 => repeat (first | (with_reducible first | exact HB.out | apply below_alloc | apply pw_below_drewN | apply below_drew1 | refine below_set ?_ (IsS93.ge HI219.out) | refine below_set ?_ GE229.out) | exact HB.out)); rintro e w66 ⟨rfl, hi, hb, hk⟩; refine ⟨_, rfl, ?_⟩; have n0_ := Aside0.mk (Kd.S_mono (Kd.S_keep (IsS93.apartS (show IsS93 w _ gb219 l0 t255 t256 from by repeat (first | (with_reducible first | exact HI219.out | apply IsS93.alloc | apply IsS93.drewN | apply IsS93.drew | apply IsS93.set_1 | apply IsS93.set_2 | refine IsS93.far ?_ NB219_229.out _) | exact HI219.out)) (by (with_reducible repeat (first | apply Kd.S_alloc | apply Kd.S_drewN | apply Kd.S_drew)); exact (Kd.S_mono (Kd.S_far (p := ⟨gb229, 4, none⟩) (Kd.S_mono HO_4.out (fun k_ hk => (⟨hk, hk.2.2⟩ : _ ∧ k_ ≠ gb229))) (fun _ hk => hk.2) (.int .i64 t254)) (fun _ h_ => h_.1))) (by decide)) hk (fun _ h => h.2)) (fun _ h => h.1)); have n1_ := Aside0.mk (Kd.S_mono (Kd.S_keep (IsS93.apartS (show IsS93 w _ gb219 l0 t255 t256 from by repeat (first | (with_reducible first | exact HI219.out | apply IsS93.alloc | apply IsS93.drewN | apply IsS93.drew | apply IsS93.set_1 | apply IsS93.set_2 | refine IsS93.far ?_ NB219_229.out _) | exact HI219.out)) (by (with_reducible repeat (first | apply Kd.S_alloc | apply Kd.S_drewN | apply Kd.S_drew)); exact (Kd.S_mono (Kd.S_far (p := ⟨gb229, 4, none⟩) (Kd.S_mono HO_6.out (fun k_ hk => (⟨hk, hk.2.2⟩ : _ ∧ k_ ≠ gb229))) (fun _ hk => hk.2) (.int .i64 t254)) (fun _ h_ => h_.1))) (by decide)) hk (fun _ h => h.2)) (fun _ h => h.1)); have n2_ := Aside0.mk (Kd.R_mono (Kd.R_keep (IsS93.apart (show IsS93 w _ gb219 l0 t255 t256 from by repeat (first | (with_reducible first | exact HI219.out | apply IsS93.alloc | apply IsS93.drewN | apply IsS93.drew | apply IsS93.set_1 | apply IsS93.set_2 | refine IsS93.far ?_ NB219_229.out _) | exact HI219.out)) (by (with_reducible repeat (first | apply Kd.R_alloc | apply Kd.R_drewN | apply Kd.R_drew)); exact (Kd.R_mono (Kd.R_far (p := ⟨gb229, 4, none⟩) (Kd.R_mono HO_9.out (fun k_ hk => (⟨hk, hk⟩ : _ ∧ k_ ≠ gb229))) (fun _ hk => hk.2) (.int .i64 t254)) (fun _ h_ => h_.1))) (by decide)) hk (fun _ h => h.2)) (fun _ h => h.1)); have n3_ := Aside0.mk (KeepBut.blk hk (g' := gb229) (o := .cells #[.int .i64 (wrap64 (x230000_5 + t236)), .int .i64 (wrap64 (x230001_5 + t239)), .int .i64 0, .int .i64 (-1), .int .i64 t254, .int .i64 x230005_5] 81 (0, 0)) (by (with_reducible repeat (first | refine blk_drewN ?_ _ | refine blk_drew ?_ | refine blk_alloc ?_ _)); refine blk_put (cs := #[.int .i64 (wrap64 (x230000_5 + t236)), .int .i64 (wrap64 (x230001_5 + t239)), .int .i64 0, .int .i64 (-1), .int .i64 x230004_5, .int .i64 x230005_5]) ?_ 4 _ rfl; (with_reducible repeat (first | refine blk_drewN ?_ _ | refine blk_drew ?_ | refine blk_alloc ?_ _)); exact BK229.out) NB229_219.out (by simp)); have n4_ := Aside0.mk (hb); have n5_ := Aside0.mk (hi); clear HO_4; clear HO_6; clear HO_9; clear BK229; clear HB; clear HI219; have HO_4 := n0_; have HO_6 := n1_; have HO_9 := n2_; have BK229 := n3_; have HB := n4_; have HI219 := n5_; clear n0_ n1_ n2_ n3_ n4_ n5_; (try clear hb); (try clear hb2); (try clear hk); (try clear hi); have hcz67_0 : w66.cell? ⟨gb229, 0, none⟩ = some (.int .i64 (wrap64 (x230000_5 + t236))) := (blk_cell BK229.out 0).trans rfl; have hcz67_1 : w66.cell? ⟨gb229, 1, none⟩ = some (.int .i64 (wrap64 (x230001_5 + t239))) := (blk_cell BK229.out 1).trans rfl; have hcz67_2 : w66.cell? ⟨gb229, 2, none⟩ = some (.int .i64 0) := (blk_cell BK229.out 2).trans rfl; have hcz67_3 : w66.cell? ⟨gb229, 3, none⟩ = some (.int .i64 (-1)) := (blk_cell BK229.out 3).trans rfl; have hcz67_4 : w66.cell? ⟨gb229, 4, none⟩ = some (.int .i64 t254) := (blk_cell BK229.out 4).trans rfl; have hcz67_5 : w66.cell? ⟨gb229, 5, none⟩ = some (.int .i64 x230005_5) := (blk_cell BK229.out 5).trans rfl; have hfz67_0 := blk_frozen BK229.out 0; have hfz67_1 := blk_frozen BK229.out 1; have hfz67_2 := blk_frozen BK229.out 2; have hfz67_3 := blk_frozen BK229.out 3; have hfz67_4 := blk_frozen BK229.out 4; have hfz67_5 := blk_frozen BK229.out 5) | ((with_reducible refine gate_builtin (b := .append) (xs := #[.tmp 106, .tmp 108]) rfl ?_); (try (refine gate_guard (by rfl) ?_; dsimp only)); at_builtin; refine Kd.R_append k81 (w0 := w) w.heap.size rfl (.tmp 106) (.tmp 108) 79 81 (.agg #[(.int .i64 0), (.int .i64 0), (.int .i64 0), (.int .i64 0), (.int .i64 0), (.int .i64 0)]) 48 rfl Try.underlying79 info81 rfl (by decide) (by omega) u9 x9_5 (⟨(wrap64 (x230000_5 + t236)), (wrap64 (x230001_5 + t239)), 0, (-1), t254, t257⟩ : S81) [.int .i64 (wrap64 (x230000_5 + t236)), .int .i64 (wrap64 (x230001_5 + t239)), .int .i64 0, .int .i64 (-1), .int .i64 t254, .int .i64 t257] (fun k_ => k_ ≠ gb229) (fun _ => False) rfl (by first | (go_simp; done) | (go_simp; rfl)) ?aP (fun _ hk => hk.elim) ?aF ?aO ?aB ?aS ?aL ?_; (case aP => exact k81_mkM _ _ _ (⟨(wrap64 (x230000_5 + t236)), (wrap64 (x230001_5 + t239)), 0, (-1), t254, t257⟩ : S81)); (case aB => exact (by repeat (first | (with_reducible first | exact HB.out | apply below_alloc | apply pw_below_drewN | apply below_drew1 | refine below_set ?_ (IsS93.ge HI219.out) | refine below_set ?_ GE229.out) | exact HB.out))); (case aF => exact (fun k_ hk => Kd.freshB (g := gb229) (o := .cells #[.int .i64 (wrap64 (x230000_5 + t236)), .int .i64 (wrap64 (x230001_5 + t239)), .int .i64 0, .int .i64 (-1), .int .i64 t254, .int .i64 t257] 81 (0, 0)) (by (with_reducible repeat (first | refine blk_drewN ?_ _ | refine blk_drew ?_ | refine blk_alloc ?_ _)); refine blk_put (cs := #[.int .i64 (wrap64 (x230000_5 + t236)), .int .i64 (wrap64 (x230001_5 + t239)), .int .i64 0, .int .i64 (-1), .int .i64 t254, .int .i64 x230005_5]) ?_ 5 _ rfl; (with_reducible repeat (first | refine blk_drewN ?_ _ | refine blk_drew ?_ | refine blk_alloc ?_ _)); exact BK229.out) k_ hk)); (case aO => exact (by (with_reducible repeat (first | apply Kd.R_alloc | apply Kd.R_drewN | apply Kd.R_drew)); exact Kd.R_mono (Kd.R_far (p := ⟨gb229, 5, none⟩) (Kd.R_mono HO_9.out (fun k_ hk => (⟨hk, hk⟩ : _ ∧ k_ ≠ gb229))) (fun _ hk => hk.2) (.int .i64 t257)) (fun _ hk => hk.1))); (case aS => exact (below_size (by repeat (first | (with_reducible first | exact HB.out | apply below_alloc | apply pw_below_drewN | apply below_drew1 | refine below_set ?_ (IsS93.ge HI219.out) | refine below_set ?_ GE229.out) | exact HB.out)))); (case aL => have := LMc62.out; omega); intro v261 w68 ho hb hg hat; rw [← Ny260.out] at ho; have n0_ := Aside0.mk (Kd.S_after (ok := (fun k_ => some k_ ≠ (u6 : Value).ownBlock ∧ k_ ≠ gb229)) (by (with_reducible repeat (first | apply Kd.S_alloc | apply Kd.S_drewN | apply Kd.S_drew)); exact Kd.S_mono (Kd.S_far (p := ⟨gb229, 5, none⟩) (Kd.S_mono HO_4.out (fun k_ hk => (⟨hk, hk.2.2⟩ : _ ∧ k_ ≠ gb229))) (fun _ hk => hk.2) (.int .i64 t257)) (fun _ hk => ⟨⟨hk.1.1, hk.1.2.2⟩, hk.1.2.1⟩)) hg hat); have n1_ := Aside0.mk (Kd.S_after (ok := (fun k_ => some k_ ≠ (v216 : Value).ownBlock ∧ k_ ≠ gb229)) (by (with_reducible repeat (first | apply Kd.S_alloc | apply Kd.S_drewN | apply Kd.S_drew)); exact Kd.S_mono (Kd.S_far (p := ⟨gb229, 5, none⟩) (Kd.S_mono HO_6.out (fun k_ hk => (⟨hk, hk.2.2⟩ : _ ∧ k_ ≠ gb229))) (fun _ hk => hk.2) (.int .i64 t257)) (fun _ hk => ⟨⟨hk.1.1, hk.1.2.2⟩, hk.1.2.1⟩)) hg hat); have n2_ := Aside0.mk (blk_grown (g := gb229) (o := .cells #[.int .i64 (wrap64 (x230000_5 + t236)), .int .i64 (wrap64 (x230001_5 + t239)), .int .i64 0, .int .i64 (-1), .int .i64 t254, .int .i64 t257] 81 (0, 0)) (by (with_reducible repeat (first | refine blk_drewN ?_ _ | refine blk_drew ?_ | refine blk_alloc ?_ _)); refine blk_put (cs := #[.int .i64 (wrap64 (x230000_5 + t236)), .int .i64 (wrap64 (x230001_5 + t239)), .int .i64 0, .int .i64 (-1), .int .i64 t254, .int .i64 x230005_5]) ?_ 5 _ rfl; (with_reducible repeat (first | refine blk_drewN ?_ _ | refine blk_drew ?_ | refine blk_alloc ?_ _)); exact BK229.out) hg (Kd.R_away HO_9.out (fun _ hk => hk))); have n3_ := Aside0.mk (IsS93.grown (by first | exact HI219.out | exact IsS93.far HI219.out NB219_229.out _ | repeat (first | (with_reducible first | exact HI219.out | apply IsS93.alloc | apply IsS93.drewN | apply IsS93.drew | apply IsS93.set_1 | apply IsS93.set_2 | refine IsS93.far ?_ NB219_229.out _) | exact HI219.out)) hg (IsS93.own_ne HI219.out HO_9.out (by decide))); have n4_ := Aside0.mk (hb); have n5_ := Aside0.mk (ho); clear HO_4; clear HO_6; clear BK229; clear HI219; clear HB; clear HO_9; have HO_4 := n0_; have HO_6 := n1_; have BK229 := n2_; have HI219 := n3_; have HB := n4_; have HO262 := n5_; clear n0_ n1_ n2_ n3_ n4_ n5_; clear ho hb hg hat))
                                          go_roundg kj36
                                          case measure => have := HJ1.out; have := HK2.out; have := HJ14.out; have := HJ19.out; have := HK5.out; have := HJ29.out; have := HJ36.out; omega
                                          case rel => exact ⟨(y260), (x11_36), (wrap64 (x12_5 - 1)), (t258), (t259), ((wrap64 (x230000_5 + t236))), ((wrap64 (x230001_5 + t239))), (0), ((-1)), (t254), (t257), (by first | rfl | (simp; done) | (simp [*]; done)), (by first | rfl | (simp; done) | (simp [*]; done)), H', ⟨by have := HJ1.out; have := HK2.out; have := HJ14.out; have := HJ19.out; have := HK5.out; have := HJ29.out; have := HJ36.out; omega⟩, ⟨by (with_reducible repeat (first | apply Kd.S_alloc | apply Kd.S_drewN | apply Kd.S_drew)); exact Kd.S_mono HO_4.out (fun _ hk => ⟨hk.1.1, ⟨hk.2, hk.1.2⟩⟩)⟩, ⟨by (with_reducible repeat (first | apply Kd.S_alloc | apply Kd.S_drewN | apply Kd.S_drew)); exact Kd.S_mono HO_6.out (fun _ hk => ⟨hk.1.1, ⟨hk.2, hk.1.2⟩⟩)⟩, ⟨by (with_reducible repeat (first | apply Kd.R_alloc | apply Kd.R_drewN | apply Kd.R_drew)); exact HO262.out⟩, ⟨by (with_reducible repeat (first | refine blk_drewN ?_ _ | refine blk_drew ?_ | refine blk_alloc ?_ _)); exact BK229.out⟩, ⟨by repeat (first | (with_reducible first | exact HI219.out | apply IsS93.alloc | apply IsS93.drewN | apply IsS93.drew | apply IsS93.set_1 | apply IsS93.set_2 | refine IsS93.far ?_ NB219_229.out _) | exact HI219.out)⟩, ⟨by repeat (first | (with_reducible first | exact HB.out | apply below_alloc | apply pw_below_drewN | apply below_drew1 | refine below_set ?_ (IsS93.ge HI219.out) | refine below_set ?_ GE229.out) | exact HB.out)⟩⟩
                                        · rw [if_neg c62] at H
                                          exact absurd H (by simp)
                                · replace c33 := Bool.eq_false_iff.mpr c33
                                  subst c33
                                  have H1 : (if x6_2.length < 5864062014805 then (spec_DecodeDesc.l0 kj29 l0 y215 (x6_2 ++ [x9_5]) (wrap64 (x7_2 + t230)) (wrap64 (x8_2 - 1)) l0 x220001_5 x220002_5) else (none)) = some (r1, r2) := by rw [if_neg (show ¬ (false = true) by decide)] at H; exact H
                                  clear H
                                  have H := H1
                                  clear H1
                                  by_cases c69 : x6_2.length < 5864062014805
                                  · rw [if_pos c69] at H
                                    have LMc69 := Aside0.mk c69
                                    clear c69
                                    obtain ⟨y233, hy233⟩ : ∃ y_ : List (List (S81)), y_ = (x6_2 ++ [x9_5]) := ⟨_, rfl⟩
                                    replace H : (spec_DecodeDesc.l0 kj29 l0 y215 y233 (wrap64 (x7_2 + t230)) (wrap64 (x8_2 - 1)) l0 x220001_5 x220002_5) = some (r1, r2) := by first | (rw [hy233]; with_reducible exact H) | (have H2_ := (Option.bind_some _ _).symm.trans H; rw [hy233]; with_reducible exact H2_) | (have H2_ := (Option.bind_some _ _).symm.trans H; with_reducible exact H2_) | with_reducible exact H | (rw [hy233]; exact H) | exact H
                                    have Ny233 := Aside0.mk hy233
                                    clear hy233
                                    have H' := Aside0.mk H
                                    clear H
                                    obtain ⟨Ao71, co71, eo71⟩ := Kd.R_slice HO_9.out
                                    subst eo71
                                    go_wp2_with (first | ((with_reducible refine gate_builtin (b := .append) (xs := #[.tmp 110, .tmp 112]) rfl ?_); (try (refine gate_guard (by rfl) ?_; dsimp only)); at_builtin; refine Kd.S_append (Kd.slice 81 k81) (w0 := w) w.heap.size rfl (.tmp 110) (.tmp 112) 48 79 (.slice none 0 0) 24 rfl Try.underlying48 info79 rfl (by decide) (by omega) u6 x6_2 x9_5 [.slice Ao71 x9_5.length co71] (fun k_ => some k_ ≠ (v216 : Value).ownBlock ∧ k_ ≠ gb229) (fun k_ => some k_ = (.slice Ao71 x9_5.length co71 : Value).ownBlock) rfl rfl ?aP (fun k_ hk_ => ((Kd.R_mono (ok' := fun k_ => ((fun k_ => some k_ ≠ (v216 : Value).ownBlock ∧ k_ ≠ gb229)) k_ ∧ some k_ ≠ (u6 : Value).ownBlock) (Kd.R_apart' (Kd.R_apart' (HO_9.out) (Kd.S_typed HO_4.out) (by decide)) (Kd.S_typed HO_6.out) (by decide)) (fun k_ hk => ⟨⟨hk.1.2, hk.1.1⟩, hk.2⟩))).1 k_ hk_.symm) ?aF ?aO ?aB ?aS ?aL ?_; (case aP => exact Kd.M_row (Kd.R_mono (Kd.R_tight rfl (Kd.R_mono (ok' := fun k_ => ((fun k_ => some k_ ≠ (v216 : Value).ownBlock ∧ k_ ≠ gb229)) k_ ∧ some k_ ≠ (u6 : Value).ownBlock) (Kd.R_apart' (Kd.R_apart' (HO_9.out) (Kd.S_typed HO_4.out) (by decide)) (Kd.S_typed HO_6.out) (by decide)) (fun k_ hk => ⟨⟨hk.1.2, hk.1.1⟩, hk.2⟩))) (fun _ h_ => h_))); (case aB => exact (by repeat (first | (with_reducible first | exact HB.out | apply below_alloc | apply pw_below_drewN | apply below_drew1 | refine below_set ?_ (IsS93.ge HI219.out) | refine below_set ?_ GE229.out) | exact HB.out))); (case aF => exact (fun k_ hk => ⟨Kd.fresh' (Kd.S_lt (by (with_reducible repeat (first | apply Kd.S_alloc | apply Kd.S_drewN | apply Kd.S_drew)); exact HO_4.out)) k_ hk, Kd.freshB (g := gb229) (o := .cells #[.int .i64 x230000_5, .int .i64 x230001_5, .int .i64 x230002_5, .int .i64 x230003_5, .int .i64 x230004_5, .int .i64 x230005_5] 81 (0, 0)) (by (with_reducible repeat (first | refine blk_drewN ?_ _ | refine blk_drew ?_ | refine blk_alloc ?_ _)); exact BK229.out) k_ hk⟩)); (case aO => exact (by (with_reducible repeat (first | apply Kd.S_alloc | apply Kd.S_drewN | apply Kd.S_drew)); exact Kd.S_mono HO_6.out (fun k_ hk => ⟨⟨hk.1, hk.2.2⟩, fun e_ => hk.2.1 e_⟩))); (case aS => exact (below_size (by repeat (first | (with_reducible first | exact HB.out | apply below_alloc | apply pw_below_drewN | apply below_drew1 | refine below_set ?_ (IsS93.ge HI219.out) | refine below_set ?_ GE229.out) | exact HB.out)))); (case aL => have := LMc69.out; omega); intro v234 w70 ho hb hg hat; rw [← Ny233.out] at ho; have n0_ := Aside0.mk (Kd.S_after (ok := (fun k_ => some k_ ≠ (.slice Ao71 x9_5.length co71 : Value).ownBlock ∧ k_ ≠ gb229)) (by (with_reducible repeat (first | apply Kd.S_alloc | apply Kd.S_drewN | apply Kd.S_drew)); exact Kd.S_mono HO_4.out (fun _ hk => ⟨⟨hk.2.1, hk.2.2⟩, hk.1⟩)) hg hat); have n1_ := Aside0.mk (blk_grown (g := gb229) (o := .cells #[.int .i64 x230000_5, .int .i64 x230001_5, .int .i64 x230002_5, .int .i64 x230003_5, .int .i64 x230004_5, .int .i64 x230005_5] 81 (0, 0)) (by (with_reducible repeat (first | refine blk_drewN ?_ _ | refine blk_drew ?_ | refine blk_alloc ?_ _)); exact BK229.out) hg (Kd.S_ne HO_6.out BK229.out (by decide))); have n2_ := Aside0.mk (IsS93.grown (by first | exact HI219.out | exact IsS93.far HI219.out NB219_229.out _ | repeat (first | (with_reducible first | exact HI219.out | apply IsS93.alloc | apply IsS93.drewN | apply IsS93.drew | apply IsS93.set_1 | apply IsS93.set_2 | refine IsS93.far ?_ NB219_229.out _) | exact HI219.out)) hg (IsS93.own_neS HI219.out HO_6.out (by decide))); have n3_ := Aside0.mk (hb); have n4_ := Aside0.mk (ho); clear HO_4; clear BK229; clear HI219; clear HB; clear HO_6; clear HO_9; have HO_4 := n0_; have BK229 := n1_; have HI219 := n2_; have HB := n3_; have HO235 := n4_; clear n0_ n1_ n2_ n3_ n4_; clear ho hb hg hat))
                                    go_roundg kj29
                                    case measure => have := HJ1.out; have := HK2.out; have := HJ14.out; have := HJ19.out; have := HK5.out; have := HJ29.out; omega
                                    case rel => exact ⟨(y233), ((wrap64 (x7_2 + t230))), (wrap64 (x8_2 - 1)), (x220001_5), (x220002_5), (by first | rfl | (simp; done) | (simp [*]; done)), (by first | rfl | (simp; done) | (simp [*]; done)), H', ⟨by have := HJ1.out; have := HK2.out; have := HJ14.out; have := HJ19.out; have := HK5.out; have := HJ29.out; omega⟩, ⟨by (with_reducible repeat (first | apply Kd.S_alloc | apply Kd.S_drewN | apply Kd.S_drew)); exact Kd.S_mono HO_4.out (fun _ hk => hk.2)⟩, ⟨by (with_reducible repeat (first | apply Kd.S_alloc | apply Kd.S_drewN | apply Kd.S_drew)); exact Kd.S_mono HO235.out (fun _ hk => hk.1)⟩, ⟨by repeat (first | (with_reducible first | exact HI219.out | apply IsS93.alloc | apply IsS93.drewN | apply IsS93.drew | apply IsS93.set_1 | apply IsS93.set_2 | refine IsS93.far ?_ NB219_229.out _) | exact HI219.out)⟩, ⟨by repeat (first | (with_reducible first | exact HB.out | apply below_alloc | apply pw_below_drewN | apply below_drew1 | refine below_set ?_ (IsS93.ge HI219.out) | refine below_set ?_ GE229.out) | exact HB.out)⟩⟩
                                  · rw [if_neg c69] at H
                                    exact absurd H (by simp)
                · replace c18 := Bool.eq_false_iff.mpr c18
                  subst c18
                  have H1 : (if x220002_2 = true then (some (y215, false)) else ((spec_EncodeDesc.f kj14 x6_2).bind fun t263 => ((spec_l12Bytes.f kj14 t263 l0).bind fun t266 => (if t266 = true then (some (x6_2, true)) else (some (y215, false)))))) = some (r1, r2) := by rw [if_neg (show ¬ (false = true) by decide)] at H; exact H
                  clear H
                  have H := H1
                  clear H1
                  by_cases c72 : x220002_2 = true
                  · subst c72
                    have H1 : (some (y215, false)) = some (r1, r2) := by rw [if_pos rfl] at H; exact H
                    clear H
                    have H := H1
                    clear H1
                    simp only [Option.some.injEq, Prod.mk.injEq] at H
                    obtain ⟨rfl, rfl⟩ := H
                    obtain ⟨ASz73_0, cSz73_0, HGz73, hgz73, HSz73_0⟩ := HI219.out
                    have hcz73_0 := cellS93_0 HGz73
                    have hcz73_1 := cellS93_1 HGz73
                    have hcz73_2 := cellS93_2 HGz73
                    have hfz73_1 := blk_frozen HGz73 1
                    have hfz73_2 := blk_frozen HGz73 2
                    clear HGz73 hgz73
                    go_wp2
                    go_ret2
                    exact ⟨_, by first | rfl | (simp [errW_none, errW_some] <;> rfl) | (simp [*, errW_none, errW_some] <;> rfl), by (with_reducible repeat (first | apply Kd.S_alloc | apply Kd.S_drewN | apply Kd.S_drew)); exact Kd.S_mono HO_4.out (fun _ hk => trivial), by repeat (first | (with_reducible first | exact HB.out | apply below_alloc | apply pw_below_drewN | apply below_drew1 | refine below_set ?_ (IsS93.ge HI219.out)) | exact HB.out)⟩
                  · replace c72 := Bool.eq_false_iff.mpr c72
                    subst c72
                    have H1 : ((spec_EncodeDesc.f kj14 x6_2).bind fun t263 => ((spec_l12Bytes.f kj14 t263 l0).bind fun t266 => (if t266 = true then (some (x6_2, true)) else (some (y215, false))))) = some (r1, r2) := by rw [if_neg (show ¬ (false = true) by decide)] at H; exact H
                    clear H
                    have H := H1
                    clear H1
                    replace H := Option.bind_eq_some_iff.mp H
                    obtain ⟨t263, A740, H⟩ := H
                    replace H : ((spec_l12Bytes.f kj14 t263 l0).bind fun t266 => (if t266 = true then (some (x6_2, true)) else (some (y215, false)))) = some (r1, r2) := H
                    have A74 := Aside0.mk A740
                    clear A740
                    replace H := Option.bind_eq_some_iff.mp H
                    obtain ⟨t266, A750, H⟩ := H
                    replace H : (if t266 = true then (some (x6_2, true)) else (some (y215, false))) = some (r1, r2) := H
                    have A75 := Aside0.mk A750
                    clear A750
                    by_cases c76 : t266 = true
                    · subst c76
                      have H1 : (some (x6_2, true)) = some (r1, r2) := by rw [if_pos rfl] at H; exact H
                      clear H
                      have H := H1
                      clear H1
                      simp only [Option.some.injEq, Prod.mk.injEq] at H
                      obtain ⟨rfl, rfl⟩ := H
                      obtain ⟨ASz77_0, cSz77_0, HGz77, hgz77, HSz77_0⟩ := HI219.out
                      have hcz77_0 := cellS93_0 HGz77
                      have hcz77_1 := cellS93_1 HGz77
                      have hcz77_2 := cellS93_2 HGz77
                      have hfz77_1 := blk_frozen HGz77 1
                      have hfz77_2 := blk_frozen HGz77 2
                      clear HGz77 hgz77
                      obtain ⟨Ao78, co78, eo78⟩ := Kd.S_slice HO_6.out
                      subst eo78
                      go_wp2_with (first | (go_at_call 16; (with_reducible refine (spec_EncodeDesc.calls kj14 _ _ x6_2 t263 _ ?side1 ?side2 A74.out).mono ?_); (case side1 => repeat (first | exact (Kd.S_reads' HO_6.out).2.2 | (with_reducible refine Kd.C_alloc ?_ _) | (with_reducible refine Kd.C_drewN ?_ _) | (with_reducible refine Kd.C_drew ?_))); (case side2 => exact (Kd.S_reads' HO_6.out).2.1); rintro e w79 ⟨v264, rfl, ho0, hb⟩; have n0_ := Aside0.mk (Kd.S_below (by (with_reducible repeat (first | apply Kd.S_alloc | apply Kd.S_drewN | apply Kd.S_drew)); exact HO_4.out) hb); have n1_ := Aside0.mk (Kd.S_below (by (with_reducible repeat (first | apply Kd.S_alloc | apply Kd.S_drewN | apply Kd.S_drew)); exact HO_6.out) hb); have n2_ := Aside0.mk (Kd.R_lower ho0 (below_size (by repeat (first | (with_reducible first | exact HB.out | apply below_alloc | apply pw_below_drewN | apply below_drew1 | refine below_set ?_ (IsS93.ge HI219.out)) | exact HB.out)))); have n3_ := Aside0.mk (IsS93.below (by repeat (first | (with_reducible first | exact HI219.out | apply IsS93.alloc | apply IsS93.drewN | apply IsS93.drew | apply IsS93.set_1 | apply IsS93.set_2) | exact HI219.out)) hb); have n4_ := Aside0.mk (below_step (by repeat (first | (with_reducible first | exact HB.out | apply below_alloc | apply pw_below_drewN | apply below_drew1 | refine below_set ?_ (IsS93.ge HI219.out)) | exact HB.out)) hb); clear HO_4; clear HO_6; clear HI219; clear HB; have HO_4 := n0_; have HO_6 := n1_; have HO265 := n2_; have HI219 := n3_; have HB := n4_; clear n0_ n1_ n2_ n3_ n4_; (try clear hb); (try clear hb2); (try clear hk); (try clear hi); (try clear ho0); obtain ⟨Ao80, co80, eo80⟩ := Kd.R_slice HO265.out; subst eo80) | (go_at_call 57; (with_reducible refine (spec_l12Bytes.calls kj14 _ _ t263 _ _ l0 true _ ?side1 ?side2 ?side3 ?side4 A75.out).mono ?_); (case side1 => repeat (first | exact (Kd.R_reads' HO265.out).2.2 | (with_reducible refine Kd.C_alloc ?_ _) | (with_reducible refine Kd.C_drewN ?_ _) | (with_reducible refine Kd.C_drew ?_))); (case side2 => exact (Kd.R_reads' HO265.out).2.1); (case side3 => repeat (first | exact (Kd.C_below HR0.out HB.out) | (with_reducible refine Kd.C_alloc ?_ _) | (with_reducible refine Kd.C_drewN ?_ _) | (with_reducible refine Kd.C_drew ?_))); (case side4 => exact HC0.out); rintro e w' ⟨rfl, ⟨nd, rfl⟩⟩))
                      go_ret2
                      exact ⟨_, by first | rfl | (simp [errW_none, errW_some] <;> rfl) | (simp [*, errW_none, errW_some] <;> rfl), by (with_reducible repeat (first | apply Kd.S_alloc | apply Kd.S_drewN | apply Kd.S_drew)); exact Kd.S_mono HO_6.out (fun _ hk => trivial), by repeat (first | (with_reducible first | exact HB.out | apply below_alloc | apply pw_below_drewN | apply below_drew1 | refine below_set ?_ (IsS93.ge HI219.out)) | exact HB.out)⟩
                    · replace c76 := Bool.eq_false_iff.mpr c76
                      subst c76
                      have H1 : (some (y215, false)) = some (r1, r2) := by rw [if_neg (show ¬ (false = true) by decide)] at H; exact H
                      clear H
                      have H := H1
                      clear H1
                      simp only [Option.some.injEq, Prod.mk.injEq] at H
                      obtain ⟨rfl, rfl⟩ := H
                      obtain ⟨ASz81_0, cSz81_0, HGz81, hgz81, HSz81_0⟩ := HI219.out
                      have hcz81_0 := cellS93_0 HGz81
                      have hcz81_1 := cellS93_1 HGz81
                      have hcz81_2 := cellS93_2 HGz81
                      have hfz81_1 := blk_frozen HGz81 1
                      have hfz81_2 := blk_frozen HGz81 2
                      clear HGz81 hgz81
                      obtain ⟨Ao82, co82, eo82⟩ := Kd.S_slice HO_6.out
                      subst eo82
                      go_wp2_with (first | (go_at_call 16; (with_reducible refine (spec_EncodeDesc.calls kj14 _ _ x6_2 t263 _ ?side1 ?side2 A74.out).mono ?_); (case side1 => repeat (first | exact (Kd.S_reads' HO_6.out).2.2 | (with_reducible refine Kd.C_alloc ?_ _) | (with_reducible refine Kd.C_drewN ?_ _) | (with_reducible refine Kd.C_drew ?_))); (case side2 => exact (Kd.S_reads' HO_6.out).2.1); rintro e w83 ⟨v264, rfl, ho0, hb⟩; have n0_ := Aside0.mk (Kd.S_below (by (with_reducible repeat (first | apply Kd.S_alloc | apply Kd.S_drewN | apply Kd.S_drew)); exact HO_4.out) hb); have n1_ := Aside0.mk (Kd.S_below (by (with_reducible repeat (first | apply Kd.S_alloc | apply Kd.S_drewN | apply Kd.S_drew)); exact HO_6.out) hb); have n2_ := Aside0.mk (Kd.R_lower ho0 (below_size (by repeat (first | (with_reducible first | exact HB.out | apply below_alloc | apply pw_below_drewN | apply below_drew1 | refine below_set ?_ (IsS93.ge HI219.out)) | exact HB.out)))); have n3_ := Aside0.mk (IsS93.below (by repeat (first | (with_reducible first | exact HI219.out | apply IsS93.alloc | apply IsS93.drewN | apply IsS93.drew | apply IsS93.set_1 | apply IsS93.set_2) | exact HI219.out)) hb); have n4_ := Aside0.mk (below_step (by repeat (first | (with_reducible first | exact HB.out | apply below_alloc | apply pw_below_drewN | apply below_drew1 | refine below_set ?_ (IsS93.ge HI219.out)) | exact HB.out)) hb); clear HO_4; clear HO_6; clear HI219; clear HB; have HO_4 := n0_; have HO_6 := n1_; have HO265 := n2_; have HI219 := n3_; have HB := n4_; clear n0_ n1_ n2_ n3_ n4_; (try clear hb); (try clear hb2); (try clear hk); (try clear hi); (try clear ho0); obtain ⟨Ao84, co84, eo84⟩ := Kd.R_slice HO265.out; subst eo84) | (go_at_call 57; (with_reducible refine (spec_l12Bytes.calls kj14 _ _ t263 _ _ l0 false _ ?side1 ?side2 ?side3 ?side4 A75.out).mono ?_); (case side1 => repeat (first | exact (Kd.R_reads' HO265.out).2.2 | (with_reducible refine Kd.C_alloc ?_ _) | (with_reducible refine Kd.C_drewN ?_ _) | (with_reducible refine Kd.C_drew ?_))); (case side2 => exact (Kd.R_reads' HO265.out).2.1); (case side3 => repeat (first | exact (Kd.C_below HR0.out HB.out) | (with_reducible refine Kd.C_alloc ?_ _) | (with_reducible refine Kd.C_drewN ?_ _) | (with_reducible refine Kd.C_drew ?_))); (case side4 => exact HC0.out); rintro e w' ⟨rfl, ⟨nd, rfl⟩⟩))
                      go_ret2
                      exact ⟨_, by first | rfl | (simp [errW_none, errW_some] <;> rfl) | (simp [*, errW_none, errW_some] <;> rfl), by (with_reducible repeat (first | apply Kd.S_alloc | apply Kd.S_drewN | apply Kd.S_drew)); exact Kd.S_mono HO_4.out (fun _ hk => trivial), by repeat (first | (with_reducible first | exact HB.out | apply below_alloc | apply pw_below_drewN | apply below_drew1 | refine below_set ?_ (IsS93.ge HI219.out)) | exact HB.out)⟩

end Go.Proofs.Ytngmkpediibhjaa.PFnExactDecodeDesc
