-- Written by this session's program over the kit's printer (wip/gen/gp.py): Lean checks it.
import Derived.Test.YtgfifmbbjoocgaaPFnExactClassesx0
import Derived.Test.YtgfifmbbjoocgaaPFnExactClassesx4
namespace Go.Proofs.Ytgfifmbbjoocgaa.PFnExactClasses
open Go.RowKit Go.Proofs.YtgfifmbbjoocgaaW.PrintWords Go.Proofs.YtgfifmbbjoocgaaW.PrintLast Go.Proofs.YtgfifmbbjoocgaaW.PrintMore
attribute [local go_sem] max2_int min2_int max_two min_two max_three min_three max_four min_four   -- for this text's walks alone
set_option linter.unusedVariables false
set_option linter.unusedSimpArgs false

/-! ### impl_oFormula: function 130 -/
set_option maxHeartbeats 800000000 in
set_option maxRecDepth 100000 in
theorem impl_oFormula.parts_ (ad : Addr) (n c : Nat) (B U j1 j2 : Int) (S1 S2 S3 : Value) (w : World) (hn : (0 < n) = True) (hB : w.cell? { block := ad.block, off := ad.off + 3 } = some (.int .i64 B)) (hU : w.cell? { block := ad.block, off := ad.off + 4 } = some (.int .i64 U))
  (e1 : IntKind.i64.wrap (1 + B) = j1) (e2 : IntKind.i64.wrap (j1 + U) = j2)
  (h1 : ∀ W : World, (Instr.slice 26 (.slice (some ad) n c) (some (.int .i64 1)) (some (.int .i64 j1)) none).run Try.prog W = .ok S1 W)
  (h2 : ∀ W : World, (Instr.slice 26 (.slice (some ad) n c) (some (.int .i64 j1)) (some (.int .i64 j2)) none).run Try.prog W = .ok S2 W)
  (h3 : ∀ W : World, (Instr.slice 26 (.slice (some ad) n c) (some (.int .i64 j2)) none none).run Try.prog W = .ok S3 W) :
  Calls Try.prog 167 #[.slice (some ad) n c] w fun e w' => e = .returned (.tuple #[S1, S2, S3]) ∧ Drawn0 w w' := by
 have hu121 := Try.underlying115
 have e1w := (i64_w (1 + B)).symm.trans e1
 have e2w := (i64_w (j1 + U)).symm.trans e2
 go_enter Try.func167, Try.ntmps167
 go_wp2
 repeat (go_quiet (fail); try go_wp2)
 go_ret3
 exact ⟨rfl, by repeat (first | exact Drawn0.refl _ | apply Drawn0.step)⟩
mutual
def impl_oFormula.j0 : Nat → List (S115) → Int → Bool → Option (Bool)
 | 0, _, _, _ => none
 | k + 1, x0, x1, x21 => if x21 = true then (some false) else (impl_oFormula.l0 k x0 x1 0)
def impl_oFormula.l0 : Nat → List (S115) → Int → Int → Option (Bool)
 | 0, _, _, _ => none
 | k + 1, x0, x1, x5 => if x5 < (x0.length : Int) then (if 0 ≤ x5 then (if ((rd_T115 x0 x5).f3) < 0 then (impl_oFormula.j2 k x0 x1 x5 true ((rd_T115 x0 x5).f0) ((rd_T115 x0 x5).f1) ((rd_T115 x0 x5).f2) ((rd_T115 x0 x5).f3) ((rd_T115 x0 x5).f4) ((rd_T115 x0 x5).f5)) else (if ((rd_T115 x0 x5).f4) < 0 then (impl_oFormula.j2 k x0 x1 x5 true ((rd_T115 x0 x5).f0) ((rd_T115 x0 x5).f1) ((rd_T115 x0 x5).f2) ((rd_T115 x0 x5).f3) ((rd_T115 x0 x5).f4) ((rd_T115 x0 x5).f5)) else (if ((rd_T115 x0 x5).f5) < 0 then (impl_oFormula.j2 k x0 x1 x5 true ((rd_T115 x0 x5).f0) ((rd_T115 x0 x5).f1) ((rd_T115 x0 x5).f2) ((rd_T115 x0 x5).f3) ((rd_T115 x0 x5).f4) ((rd_T115 x0 x5).f5)) else (if ((rd_T115 x0 x5).f3) > (wrap64 ((wrap64 ((x0.length : Int) - x5)) - 1)) then (impl_oFormula.j2 k x0 x1 x5 true ((rd_T115 x0 x5).f0) ((rd_T115 x0 x5).f1) ((rd_T115 x0 x5).f2) ((rd_T115 x0 x5).f3) ((rd_T115 x0 x5).f4) ((rd_T115 x0 x5).f5)) else (if ((rd_T115 x0 x5).f4) > (wrap64 ((wrap64 ((wrap64 ((x0.length : Int) - x5)) - 1)) - ((rd_T115 x0 x5).f3))) then (impl_oFormula.j2 k x0 x1 x5 true ((rd_T115 x0 x5).f0) ((rd_T115 x0 x5).f1) ((rd_T115 x0 x5).f2) ((rd_T115 x0 x5).f3) ((rd_T115 x0 x5).f4) ((rd_T115 x0 x5).f5)) else (if ((rd_T115 x0 x5).f5) > (wrap64 ((wrap64 ((wrap64 ((wrap64 ((x0.length : Int) - x5)) - 1)) - ((rd_T115 x0 x5).f3))) - ((rd_T115 x0 x5).f4))) then (impl_oFormula.j2 k x0 x1 x5 true ((rd_T115 x0 x5).f0) ((rd_T115 x0 x5).f1) ((rd_T115 x0 x5).f2) ((rd_T115 x0 x5).f3) ((rd_T115 x0 x5).f4) ((rd_T115 x0 x5).f5)) else (if ((rd_T115 x0 x5).f1) < 0 then (impl_oFormula.j2 k x0 x1 x5 true ((rd_T115 x0 x5).f0) ((rd_T115 x0 x5).f1) ((rd_T115 x0 x5).f2) ((rd_T115 x0 x5).f3) ((rd_T115 x0 x5).f4) ((rd_T115 x0 x5).f5)) else (impl_oFormula.j2 k x0 x1 x5 (decide (((rd_T115 x0 x5).f1) > 7)) ((rd_T115 x0 x5).f0) ((rd_T115 x0 x5).f1) ((rd_T115 x0 x5).f2) ((rd_T115 x0 x5).f3) ((rd_T115 x0 x5).f4) ((rd_T115 x0 x5).f5))))))))) else (none)) else (some true)
def impl_oFormula.j2 : Nat → List (S115) → Int → Int → Bool → Int → Int → Int → Int → Int → Int → Option (Bool)
 | 0, _, _, _, _, _, _, _, _, _, _ => none
 | k + 1, x0, x1, x5, x84, x244000, x244001, x244002, x244003, x244004, x244005 => if x84 = true then (some false) else (if 0 ≤ x5 then (if x5 ≤ (wrap64 ((wrap64 (x5 + 1)) + (wrap64 ((wrap64 (x244003 + x244004)) + x244005)))) then (if (wrap64 ((wrap64 (x5 + 1)) + (wrap64 ((wrap64 (x244003 + x244004)) + x244005)))) ≤ (x0.length : Int) then ((some ((x0.take ((wrap64 ((wrap64 (x5 + 1)) + (wrap64 ((wrap64 (x244003 + x244004)) + x244005)))) : Int).toNat).drop (x5 : Int).toNat : List (S115))).bind fun y244 => (if 0 < (y244.length : Int) then (if 1 ≤ (wrap64 (1 + ((rd_T115 y244 0).f3))) then (if (wrap64 (1 + ((rd_T115 y244 0).f3))) ≤ (y244.length : Int) then ((some ((y244.take ((wrap64 (1 + ((rd_T115 y244 0).f3))) : Int).toNat).drop 1 : List (S115))).bind fun y251 => (if 0 ≤ (wrap64 (1 + ((rd_T115 y244 0).f3))) then (if (wrap64 (1 + ((rd_T115 y244 0).f3))) ≤ (wrap64 ((wrap64 (1 + ((rd_T115 y244 0).f3))) + ((rd_T115 y244 0).f4))) then (if (wrap64 ((wrap64 (1 + ((rd_T115 y244 0).f3))) + ((rd_T115 y244 0).f4))) ≤ (y244.length : Int) then (if 0 ≤ (wrap64 ((wrap64 (1 + ((rd_T115 y244 0).f3))) + ((rd_T115 y244 0).f4))) then ((impl_oFormula.f k y251 (wrap64 (x1 + 1))).bind fun t263 => (if t263 = true then ((impl_oFormula.f k ((y244.take ((wrap64 ((wrap64 (1 + ((rd_T115 y244 0).f3))) + ((rd_T115 y244 0).f4))) : Int).toNat).drop ((wrap64 (1 + ((rd_T115 y244 0).f3))) : Int).toNat) (wrap64 (x1 + 1))).bind fun t264 => (if t264 = true then ((impl_oFormula.f k (y244.drop ((wrap64 ((wrap64 (1 + ((rd_T115 y244 0).f3))) + ((rd_T115 y244 0).f4))) : Int).toNat) (wrap64 (x1 + 1))).bind fun t265 => (impl_oFormula.j3 k x0 x1 x5 y244 y251 (!t265) x244000 x244001 x244002 x244003 x244004 x244005)) else (impl_oFormula.j3 k x0 x1 x5 y244 y251 true x244000 x244001 x244002 x244003 x244004 x244005))) else (impl_oFormula.j3 k x0 x1 x5 y244 y251 true x244000 x244001 x244002 x244003 x244004 x244005))) else (none)) else (none)) else (none)) else (none))) else (none)) else (none)) else (none))) else (none)) else (none)) else (none))
def impl_oFormula.j3 : Nat → List (S115) → Int → Int → List (S115) → List (S115) → Bool → Int → Int → Int → Int → Int → Int → Option (Bool)
 | 0, _, _, _, _, _, _, _, _, _, _, _, _ => none
 | k + 1, x0, x1, x5, x8, x9, x123, x244000, x244001, x244002, x244003, x244004, x244005 => if x123 = true then (some false) else (if x244000 = 1 then (if x244002 < 33 then (impl_oFormula.j4 k x0 x1 x5 x8 true x244000 x244001 x244002 x244003 x244004 x244005) else (if x244002 > 126 then (impl_oFormula.j4 k x0 x1 x5 x8 true x244000 x244001 x244002 x244003 x244004 x244005) else (impl_oFormula.j4 k x0 x1 x5 x8 (x244003 != 0) x244000 x244001 x244002 x244003 x244004 x244005))) else (if x244000 = 2 then (impl_oFormula.j5 k x0 x1 x5 x8 x9 x244000 (x244000 == 2) x244000 x244001 x244002 x244003 x244004 x244005) else (impl_oFormula.j5 k x0 x1 x5 x8 x9 x244000 (x244000 == 4) x244000 x244001 x244002 x244003 x244004 x244005)))
def impl_oFormula.j4 : Nat → List (S115) → Int → Int → List (S115) → Bool → Int → Int → Int → Int → Int → Int → Option (Bool)
 | 0, _, _, _, _, _, _, _, _, _, _, _ => none
 | k + 1, x0, x1, x5, x8, x140, x244000, x244001, x244002, x244003, x244004, x244005 => if x140 = true then (some false) else (if x244000 = 1 then (impl_oFormula.l0 k x0 x1 (wrap64 (x5 + (x8.length : Int)))) else (if x244002 = 0 then (impl_oFormula.l0 k x0 x1 (wrap64 (x5 + (x8.length : Int)))) else (some false)))
def impl_oFormula.j5 : Nat → List (S115) → Int → Int → List (S115) → List (S115) → Int → Bool → Int → Int → Int → Int → Int → Int → Option (Bool)
 | 0, _, _, _, _, _, _, _, _, _, _, _, _, _ => none
 | k + 1, x0, x1, x5, x8, x9, x125, x141, x244000, x244001, x244002, x244003, x244004, x244005 => if x141 = true then (if x244000 = 1 then (impl_oFormula.l0 k x0 x1 (wrap64 (x5 + (x8.length : Int)))) else (if x244002 = 0 then (impl_oFormula.l0 k x0 x1 (wrap64 (x5 + (x8.length : Int)))) else (some false))) else (if x125 = 3 then ((impl_oAtoms.f k x9).bind fun t266 => (if (t266.length : Int) = 2 then (impl_oFormula.l1 k x0 x1 x5 x8 t266 (t266.length : Int) 0 x244000 x244001 x244002 x244003 x244004 x244005) else (some false))) else (some false))
def impl_oFormula.l1 : Nat → List (S115) → Int → Int → List (S115) → List (List (S115)) → Int → Int → Int → Int → Int → Int → Int → Int → Option (Bool)
 | 0, _, _, _, _, _, _, _, _, _, _, _, _, _ => none
 | k + 1, x0, x1, x5, x8, x151, x152, x153, x244000, x244001, x244002, x244003, x244004, x244005 => if x153 < x152 then (if 0 ≤ x153 then (if x153 < (x151.length : Int) then (if 0 < ((rd_L3 x151 x153).length : Int) then (if ((rd_T115 (rd_L3 x151 x153) 0).f0) = 2 then (if ((rd_T115 (rd_L3 x151 x153) 0).f4) = 0 then (if ((rd_T115 (rd_L3 x151 x153) 0).f5) = 0 then (impl_oFormula.l1 k x0 x1 x5 x8 x151 x152 (wrap64 (x153 + 1)) x244000 x244001 x244002 x244003 x244004 x244005) else (some false)) else (some false)) else (some false)) else (none)) else (none)) else (none)) else (if x244000 = 1 then (impl_oFormula.l0 k x0 x1 (wrap64 (x5 + (x8.length : Int)))) else (if x244002 = 0 then (impl_oFormula.l0 k x0 x1 (wrap64 (x5 + (x8.length : Int)))) else (some false)))
def impl_oFormula.f : Nat → List (S115) → Int → Option (Bool)
 | 0, _, _ => none
 | k + 1, l0, a1 => if (l0.length : Int) > 0 then (impl_oFormula.j0 k l0 a1 (decide (a1 > 40))) else (impl_oFormula.j0 k l0 a1 false)
end
theorem impl_oFormula.mono_l : ∀ k, (∀ y0 y1, LeO (impl_oFormula.f k y0 y1) (impl_oFormula.f (k + 1) y0 y1)) ∧ (∀ y0 y1 y2, LeO (impl_oFormula.j0 k y0 y1 y2) (impl_oFormula.j0 (k + 1) y0 y1 y2)) ∧ (∀ y0 y1 y2, LeO (impl_oFormula.l0 k y0 y1 y2) (impl_oFormula.l0 (k + 1) y0 y1 y2)) ∧ (∀ y0 y1 y2 y3 y4 y5 y6 y7 y8 y9, LeO (impl_oFormula.j2 k y0 y1 y2 y3 y4 y5 y6 y7 y8 y9) (impl_oFormula.j2 (k + 1) y0 y1 y2 y3 y4 y5 y6 y7 y8 y9)) ∧ (∀ y0 y1 y2 y3 y4 y5 y6 y7 y8 y9 y10 y11, LeO (impl_oFormula.j3 k y0 y1 y2 y3 y4 y5 y6 y7 y8 y9 y10 y11) (impl_oFormula.j3 (k + 1) y0 y1 y2 y3 y4 y5 y6 y7 y8 y9 y10 y11)) ∧ (∀ y0 y1 y2 y3 y4 y5 y6 y7 y8 y9 y10, LeO (impl_oFormula.j4 k y0 y1 y2 y3 y4 y5 y6 y7 y8 y9 y10) (impl_oFormula.j4 (k + 1) y0 y1 y2 y3 y4 y5 y6 y7 y8 y9 y10)) ∧ (∀ y0 y1 y2 y3 y4 y5 y6 y7 y8 y9 y10 y11 y12, LeO (impl_oFormula.j5 k y0 y1 y2 y3 y4 y5 y6 y7 y8 y9 y10 y11 y12) (impl_oFormula.j5 (k + 1) y0 y1 y2 y3 y4 y5 y6 y7 y8 y9 y10 y11 y12)) ∧ (∀ y0 y1 y2 y3 y4 y5 y6 y7 y8 y9 y10 y11 y12, LeO (impl_oFormula.l1 k y0 y1 y2 y3 y4 y5 y6 y7 y8 y9 y10 y11 y12) (impl_oFormula.l1 (k + 1) y0 y1 y2 y3 y4 y5 y6 y7 y8 y9 y10 y11 y12))
 | 0 => ⟨fun _ _ r h => by simp [impl_oFormula.f] at h, fun _ _ _ r h => by simp [impl_oFormula.j0] at h, fun _ _ _ r h => by simp [impl_oFormula.l0] at h, fun _ _ _ _ _ _ _ _ _ _ r h => by simp [impl_oFormula.j2] at h, fun _ _ _ _ _ _ _ _ _ _ _ _ r h => by simp [impl_oFormula.j3] at h, fun _ _ _ _ _ _ _ _ _ _ _ r h => by simp [impl_oFormula.j4] at h, fun _ _ _ _ _ _ _ _ _ _ _ _ _ r h => by simp [impl_oFormula.j5] at h, fun _ _ _ _ _ _ _ _ _ _ _ _ _ r h => by simp [impl_oFormula.l1] at h⟩
 | k + 1 => by
  obtain ⟨ih0, ih1, ih2, ih3, ih4, ih5, ih6, ih7⟩ := impl_oFormula.mono_l k
  refine ⟨?_, ?_, ?_, ?_, ?_, ?_, ?_, ?_⟩
  ·intro y0 y1
   unfold impl_oFormula.f
   repeat' first
   | (with_reducible exact ih0 _ _)
   | (with_reducible exact ih1 _ _ _)
   | (with_reducible exact ih2 _ _ _)
   | (with_reducible exact ih3 _ _ _ _ _ _ _ _ _ _)
   | (with_reducible exact ih4 _ _ _ _ _ _ _ _ _ _ _ _)
   | (with_reducible exact ih5 _ _ _ _ _ _ _ _ _ _ _)
   | (with_reducible exact ih6 _ _ _ _ _ _ _ _ _ _ _ _ _)
   | (with_reducible exact ih7 _ _ _ _ _ _ _ _ _ _ _ _ _)
   | (with_reducible exact impl_oAtoms.mono _ _)
   | (with_reducible exact LeO.refl _)
   | (with_reducible exact LeO.none _)
   | (with_reducible refine LeO.ite ?_ ?_)
   | (with_reducible refine LeO.bind ?_ (fun _ => ?_))
   | exact ih0 _ _
   | exact ih1 _ _ _
   | exact ih2 _ _ _
   | exact ih3 _ _ _ _ _ _ _ _ _ _
   | exact ih4 _ _ _ _ _ _ _ _ _ _ _ _
   | exact ih5 _ _ _ _ _ _ _ _ _ _ _
   | exact ih6 _ _ _ _ _ _ _ _ _ _ _ _ _
   | exact ih7 _ _ _ _ _ _ _ _ _ _ _ _ _
   | exact impl_oAtoms.mono _ _
   | exact LeO.none _
   | refine LeO.ite ?_ ?_
   | refine LeO.bind ?_ (fun _ => ?_)
  ·intro y0 y1 y2
   unfold impl_oFormula.j0
   repeat' first
   | (with_reducible exact ih0 _ _)
   | (with_reducible exact ih1 _ _ _)
   | (with_reducible exact ih2 _ _ _)
   | (with_reducible exact ih3 _ _ _ _ _ _ _ _ _ _)
   | (with_reducible exact ih4 _ _ _ _ _ _ _ _ _ _ _ _)
   | (with_reducible exact ih5 _ _ _ _ _ _ _ _ _ _ _)
   | (with_reducible exact ih6 _ _ _ _ _ _ _ _ _ _ _ _ _)
   | (with_reducible exact ih7 _ _ _ _ _ _ _ _ _ _ _ _ _)
   | (with_reducible exact impl_oAtoms.mono _ _)
   | (with_reducible exact LeO.refl _)
   | (with_reducible exact LeO.none _)
   | (with_reducible refine LeO.ite ?_ ?_)
   | (with_reducible refine LeO.bind ?_ (fun _ => ?_))
   | exact ih0 _ _
   | exact ih1 _ _ _
   | exact ih2 _ _ _
   | exact ih3 _ _ _ _ _ _ _ _ _ _
   | exact ih4 _ _ _ _ _ _ _ _ _ _ _ _
   | exact ih5 _ _ _ _ _ _ _ _ _ _ _
   | exact ih6 _ _ _ _ _ _ _ _ _ _ _ _ _
   | exact ih7 _ _ _ _ _ _ _ _ _ _ _ _ _
   | exact impl_oAtoms.mono _ _
   | exact LeO.none _
   | refine LeO.ite ?_ ?_
   | refine LeO.bind ?_ (fun _ => ?_)
  ·intro y0 y1 y2
   unfold impl_oFormula.l0
   repeat' first
   | (with_reducible exact ih0 _ _)
   | (with_reducible exact ih1 _ _ _)
   | (with_reducible exact ih2 _ _ _)
   | (with_reducible exact ih3 _ _ _ _ _ _ _ _ _ _)
   | (with_reducible exact ih4 _ _ _ _ _ _ _ _ _ _ _ _)
   | (with_reducible exact ih5 _ _ _ _ _ _ _ _ _ _ _)
   | (with_reducible exact ih6 _ _ _ _ _ _ _ _ _ _ _ _ _)
   | (with_reducible exact ih7 _ _ _ _ _ _ _ _ _ _ _ _ _)
   | (with_reducible exact impl_oAtoms.mono _ _)
   | (with_reducible exact LeO.refl _)
   | (with_reducible exact LeO.none _)
   | (with_reducible refine LeO.ite ?_ ?_)
   | (with_reducible refine LeO.bind ?_ (fun _ => ?_))
   | exact ih0 _ _
   | exact ih1 _ _ _
   | exact ih2 _ _ _
   | exact ih3 _ _ _ _ _ _ _ _ _ _
   | exact ih4 _ _ _ _ _ _ _ _ _ _ _ _
   | exact ih5 _ _ _ _ _ _ _ _ _ _ _
   | exact ih6 _ _ _ _ _ _ _ _ _ _ _ _ _
   | exact ih7 _ _ _ _ _ _ _ _ _ _ _ _ _
   | exact impl_oAtoms.mono _ _
   | exact LeO.none _
   | refine LeO.ite ?_ ?_
   | refine LeO.bind ?_ (fun _ => ?_)
  ·intro y0 y1 y2 y3 y4 y5 y6 y7 y8 y9
   unfold impl_oFormula.j2
   repeat' first
   | (with_reducible exact ih0 _ _)
   | (with_reducible exact ih1 _ _ _)
   | (with_reducible exact ih2 _ _ _)
   | (with_reducible exact ih3 _ _ _ _ _ _ _ _ _ _)
   | (with_reducible exact ih4 _ _ _ _ _ _ _ _ _ _ _ _)
   | (with_reducible exact ih5 _ _ _ _ _ _ _ _ _ _ _)
   | (with_reducible exact ih6 _ _ _ _ _ _ _ _ _ _ _ _ _)
   | (with_reducible exact ih7 _ _ _ _ _ _ _ _ _ _ _ _ _)
   | (with_reducible exact impl_oAtoms.mono _ _)
   | (with_reducible exact LeO.refl _)
   | (with_reducible exact LeO.none _)
   | (with_reducible refine LeO.ite ?_ ?_)
   | (with_reducible refine LeO.bind ?_ (fun _ => ?_))
   | exact ih0 _ _
   | exact ih1 _ _ _
   | exact ih2 _ _ _
   | exact ih3 _ _ _ _ _ _ _ _ _ _
   | exact ih4 _ _ _ _ _ _ _ _ _ _ _ _
   | exact ih5 _ _ _ _ _ _ _ _ _ _ _
   | exact ih6 _ _ _ _ _ _ _ _ _ _ _ _ _
   | exact ih7 _ _ _ _ _ _ _ _ _ _ _ _ _
   | exact impl_oAtoms.mono _ _
   | exact LeO.none _
   | refine LeO.ite ?_ ?_
   | refine LeO.bind ?_ (fun _ => ?_)
  ·intro y0 y1 y2 y3 y4 y5 y6 y7 y8 y9 y10 y11
   unfold impl_oFormula.j3
   repeat' first
   | (with_reducible exact ih0 _ _)
   | (with_reducible exact ih1 _ _ _)
   | (with_reducible exact ih2 _ _ _)
   | (with_reducible exact ih3 _ _ _ _ _ _ _ _ _ _)
   | (with_reducible exact ih4 _ _ _ _ _ _ _ _ _ _ _ _)
   | (with_reducible exact ih5 _ _ _ _ _ _ _ _ _ _ _)
   | (with_reducible exact ih6 _ _ _ _ _ _ _ _ _ _ _ _ _)
   | (with_reducible exact ih7 _ _ _ _ _ _ _ _ _ _ _ _ _)
   | (with_reducible exact impl_oAtoms.mono _ _)
   | (with_reducible exact LeO.refl _)
   | (with_reducible exact LeO.none _)
   | (with_reducible refine LeO.ite ?_ ?_)
   | (with_reducible refine LeO.bind ?_ (fun _ => ?_))
   | exact ih0 _ _
   | exact ih1 _ _ _
   | exact ih2 _ _ _
   | exact ih3 _ _ _ _ _ _ _ _ _ _
   | exact ih4 _ _ _ _ _ _ _ _ _ _ _ _
   | exact ih5 _ _ _ _ _ _ _ _ _ _ _
   | exact ih6 _ _ _ _ _ _ _ _ _ _ _ _ _
   | exact ih7 _ _ _ _ _ _ _ _ _ _ _ _ _
   | exact impl_oAtoms.mono _ _
   | exact LeO.none _
   | refine LeO.ite ?_ ?_
   | refine LeO.bind ?_ (fun _ => ?_)
  ·intro y0 y1 y2 y3 y4 y5 y6 y7 y8 y9 y10
   unfold impl_oFormula.j4
   repeat' first
   | (with_reducible exact ih0 _ _)
   | (with_reducible exact ih1 _ _ _)
   | (with_reducible exact ih2 _ _ _)
   | (with_reducible exact ih3 _ _ _ _ _ _ _ _ _ _)
   | (with_reducible exact ih4 _ _ _ _ _ _ _ _ _ _ _ _)
   | (with_reducible exact ih5 _ _ _ _ _ _ _ _ _ _ _)
   | (with_reducible exact ih6 _ _ _ _ _ _ _ _ _ _ _ _ _)
   | (with_reducible exact ih7 _ _ _ _ _ _ _ _ _ _ _ _ _)
   | (with_reducible exact impl_oAtoms.mono _ _)
   | (with_reducible exact LeO.refl _)
   | (with_reducible exact LeO.none _)
   | (with_reducible refine LeO.ite ?_ ?_)
   | (with_reducible refine LeO.bind ?_ (fun _ => ?_))
   | exact ih0 _ _
   | exact ih1 _ _ _
   | exact ih2 _ _ _
   | exact ih3 _ _ _ _ _ _ _ _ _ _
   | exact ih4 _ _ _ _ _ _ _ _ _ _ _ _
   | exact ih5 _ _ _ _ _ _ _ _ _ _ _
   | exact ih6 _ _ _ _ _ _ _ _ _ _ _ _ _
   | exact ih7 _ _ _ _ _ _ _ _ _ _ _ _ _
   | exact impl_oAtoms.mono _ _
   | exact LeO.none _
   | refine LeO.ite ?_ ?_
   | refine LeO.bind ?_ (fun _ => ?_)
  ·intro y0 y1 y2 y3 y4 y5 y6 y7 y8 y9 y10 y11 y12
   unfold impl_oFormula.j5
   repeat' first
   | (with_reducible exact ih0 _ _)
   | (with_reducible exact ih1 _ _ _)
   | (with_reducible exact ih2 _ _ _)
   | (with_reducible exact ih3 _ _ _ _ _ _ _ _ _ _)
   | (with_reducible exact ih4 _ _ _ _ _ _ _ _ _ _ _ _)
   | (with_reducible exact ih5 _ _ _ _ _ _ _ _ _ _ _)
   | (with_reducible exact ih6 _ _ _ _ _ _ _ _ _ _ _ _ _)
   | (with_reducible exact ih7 _ _ _ _ _ _ _ _ _ _ _ _ _)
   | (with_reducible exact impl_oAtoms.mono _ _)
   | (with_reducible exact LeO.refl _)
   | (with_reducible exact LeO.none _)
   | (with_reducible refine LeO.ite ?_ ?_)
   | (with_reducible refine LeO.bind ?_ (fun _ => ?_))
   | exact ih0 _ _
   | exact ih1 _ _ _
   | exact ih2 _ _ _
   | exact ih3 _ _ _ _ _ _ _ _ _ _
   | exact ih4 _ _ _ _ _ _ _ _ _ _ _ _
   | exact ih5 _ _ _ _ _ _ _ _ _ _ _
   | exact ih6 _ _ _ _ _ _ _ _ _ _ _ _ _
   | exact ih7 _ _ _ _ _ _ _ _ _ _ _ _ _
   | exact impl_oAtoms.mono _ _
   | exact LeO.none _
   | refine LeO.ite ?_ ?_
   | refine LeO.bind ?_ (fun _ => ?_)
  ·intro y0 y1 y2 y3 y4 y5 y6 y7 y8 y9 y10 y11 y12
   unfold impl_oFormula.l1
   repeat' first
   | (with_reducible exact ih0 _ _)
   | (with_reducible exact ih1 _ _ _)
   | (with_reducible exact ih2 _ _ _)
   | (with_reducible exact ih3 _ _ _ _ _ _ _ _ _ _)
   | (with_reducible exact ih4 _ _ _ _ _ _ _ _ _ _ _ _)
   | (with_reducible exact ih5 _ _ _ _ _ _ _ _ _ _ _)
   | (with_reducible exact ih6 _ _ _ _ _ _ _ _ _ _ _ _ _)
   | (with_reducible exact ih7 _ _ _ _ _ _ _ _ _ _ _ _ _)
   | (with_reducible exact impl_oAtoms.mono _ _)
   | (with_reducible exact LeO.refl _)
   | (with_reducible exact LeO.none _)
   | (with_reducible refine LeO.ite ?_ ?_)
   | (with_reducible refine LeO.bind ?_ (fun _ => ?_))
   | exact ih0 _ _
   | exact ih1 _ _ _
   | exact ih2 _ _ _
   | exact ih3 _ _ _ _ _ _ _ _ _ _
   | exact ih4 _ _ _ _ _ _ _ _ _ _ _ _
   | exact ih5 _ _ _ _ _ _ _ _ _ _ _
   | exact ih6 _ _ _ _ _ _ _ _ _ _ _ _ _
   | exact ih7 _ _ _ _ _ _ _ _ _ _ _ _ _
   | exact impl_oAtoms.mono _ _
   | exact LeO.none _
   | refine LeO.ite ?_ ?_
   | refine LeO.bind ?_ (fun _ => ?_)
theorem impl_oFormula.mono : ∀ a0 a1 k, LeO (impl_oFormula.f k a0 a1) (impl_oFormula.f (k + 1) a0 a1) := by
 intro a0 a1 k
 obtain ⟨ih0, ih1, ih2, ih3, ih4, ih5, ih6, ih7⟩ := impl_oFormula.mono_l k
 exact ih0 a0 a1
set_option maxHeartbeats 800000000 in
set_option maxRecDepth 100000 in
theorem impl_oFormula.calls (k : Nat) : ∀ (A0 : Option Addr) (c0 : Nat) (l0 : List (S115)) (a1 : Int) (r : Bool) (w : World) (hr0 : Kd.C k115 w A0 l0.length l0) (hc0 : l0.length ≤ c0) (h : impl_oFormula.f k l0 a1 = some r),
  Calls Try.prog 130 #[.slice A0 l0.length c0, .int .i64 a1] w fun e w' => e = .returned (.bool r) ∧ Below w.heap.size w w' := by
 induction k using Nat.strongRecOn with
 | _ k ih =>
 intro A0 c0 l0 a1 r w hr0 hc0 h
 cases k with
 | zero => exact absurd h (by simp [impl_oFormula.f])
 | succ k =>
 simp only [impl_oFormula.f] at h
 have hu115 := Try.underlying115
 have HR0 := Aside0.mk hr0
 have HC0 := Aside0.mk hc0
 clear hr0 hc0
 have HB := Aside0.mk (Below.refl w.heap.size w)
 have H : (if (l0.length : Int) > 0 then (impl_oFormula.j0 k l0 a1 (decide (a1 > 40))) else (impl_oFormula.j0 k l0 a1 false)) = some r := h
 clear h
 have HC3 := Aside0.mk H
 clear H
 go_enter Try.func130, Try.ntmps130
 go_upto_region 1 with (fail)
 go_cut [21] (fun v21 wc => ∃ (kq : Nat) (x21_2 : Bool), v21 = .bool x21_2 ∧ Aside0 (impl_oFormula.j0 kq l0 a1 x21_2 = some r) ∧ Aside0 (kq ≤ k) ∧ Aside0 (Below w.heap.size w wc))
 case first =>
  as_aux_lemma =>
   have H := HC3.out
   clear HC3
   by_cases c4 : (l0.length : Int) > 0
   ·rw [if_pos c4] at H
    have c4b0 : decide (0 < (l0.length : Int)) = true := decide_eq_true c4
    have c4b1 : decide (0 < l0.length) = true := decide_eq_true (by omega)
    clear c4
    (first | rw [c4b0] | (simp only [i64_w, i32_w]; rw [c4b0]) | skip)
    have H' := Aside0.mk H
    clear H
    go_wp2_with (fail)
    go_meet
    case rel => exact ⟨_, (decide (a1 > 40)), (by first | rfl | (simp; done) | (simp [*]; done)), H', ⟨by first | omega | exact Nat.le_refl _⟩, ⟨by repeat (first | (with_reducible first | exact HB.out | apply below_alloc | apply pw_below_drewN | apply below_drew1) | exact HB.out)⟩⟩
   ·rw [if_neg c4] at H
    have c4b0 : decide (0 < (l0.length : Int)) = false := decide_eq_false c4
    have c4b1 : decide (0 < l0.length) = false := decide_eq_false (by omega)
    clear c4
    (first | rw [c4b0] | (simp only [i64_w, i32_w]; rw [c4b0]) | skip)
    have H' := Aside0.mk H
    clear H
    go_wp2_with (fail)
    go_meet
    case rel => exact ⟨_, (false), (by first | rfl | (simp; done) | (simp [*]; done)), H', ⟨by first | omega | exact Nat.le_refl _⟩, ⟨by repeat (first | (with_reducible first | exact HB.out | apply below_alloc | apply pw_below_drewN | apply below_drew1) | exact HB.out)⟩⟩
 case rest =>
  as_aux_lemma =>
   clear HC3
   try clear c1
   try clear p2
   try clear c4
   try clear c4b0
   try clear c4b1
   obtain ⟨kq, x21_2, rfl, HA, HJ2, HB⟩ := hcut
   cases kq with
   | zero => exact absurd HA.out (by simp [impl_oFormula.j0])
   | succ kj2 =>
    have H := HA.out
    clear HA
    simp only [impl_oFormula.j0] at H
    by_cases c5 : x21_2 = true
    ·subst c5
     have H1 : (some false) = some r := by rw [if_pos rfl] at H; exact H
     clear H
     have H := H1
     clear H1
     obtain rfl := Option.some.inj H
     go_wp2_with (fail)
     go_ret
     exact ⟨by first | rfl | (simp [errW_none, errW_some] <;> rfl) | (simp [*, errW_none, errW_some] <;> rfl), by repeat (first | (with_reducible first | exact HB.out | apply below_alloc | apply pw_below_drewN | apply below_drew1) | exact HB.out)⟩
    ·replace c5 := Bool.eq_false_iff.mpr c5
     subst c5
     have H1 : (impl_oFormula.l0 kj2 l0 a1 0) = some r := by rw [if_neg (show ¬ (false = true) by decide)] at H; exact H
     clear H
     have H := H1
     clear H1
     have H' := Aside0.mk H
     clear H
     go_wp2_with (fail)
     go_loopg [5] kj2 (fun kq v5 w' => ∃ (x5_2 : Int), v5 = .int .i64 x5_2 ∧ Aside0 (impl_oFormula.l0 kq l0 a1 x5_2 = some r) ∧ Aside0 (kq ≤ kj2) ∧ Aside0 (Below w.heap.size w w'))
     case atStart => exact ⟨(0), (by first | rfl | (simp; done) | (simp [*]; done)), H', ⟨Nat.le_refl _⟩, ⟨by repeat (first | (with_reducible first | exact HB.out | apply below_alloc | apply pw_below_drewN | apply below_drew1) | exact HB.out)⟩⟩
     case round =>
      clear H'
      try clear c1
      try clear p2
      try clear c4
      try clear c4b0
      try clear c4b1
      try clear c5
      try clear p2
      obtain ⟨x5_2, rfl, HA, HK2, HB⟩ := hrel
      cases gk with
      | zero => exact absurd HA.out (by simp [impl_oFormula.l0])
      | succ k2 =>
       have H := HA.out
       clear HA
       simp only [impl_oFormula.l0] at H
       by_cases c6 : x5_2 < (l0.length : Int)
       ·rw [if_pos c6] at H
        have c6b0 : decide (x5_2 < (l0.length : Int)) = true := decide_eq_true c6
        clear c6
        by_cases c7 : 0 ≤ x5_2
        ·rw [if_pos c7] at H
         have c7b0 : decide (0 ≤ x5_2) = true := decide_eq_true c7
         clear c7
         have HC8 := Aside0.mk H
         clear H
         have p242 : 0 ≤ (x5_2 : Int) := of_decide_eq_true (by first | (with_reducible assumption) | assumption)
         have q242 : x5_2 < (l0.length : Int) := of_decide_eq_true (by first | (with_reducible assumption) | assumption)
         obtain ⟨ad242, e242, hx242_0, hx242_1, hx242_2, hx242_3, hx242_4, hx242_5⟩ := at_T115 HR0.out x5_2 p242 q242
         cases e242
         replace hx242_0 := (HB.out.cell (World.block_lt_of_cell? w _ hx242_0)).trans hx242_0
         replace hx242_1 := (HB.out.cell (World.block_lt_of_cell? w _ hx242_1)).trans hx242_1
         replace hx242_2 := (HB.out.cell (World.block_lt_of_cell? w _ hx242_2)).trans hx242_2
         replace hx242_3 := (HB.out.cell (World.block_lt_of_cell? w _ hx242_3)).trans hx242_3
         replace hx242_4 := (HB.out.cell (World.block_lt_of_cell? w _ hx242_4)).trans hx242_4
         replace hx242_5 := (HB.out.cell (World.block_lt_of_cell? w _ hx242_5)).trans hx242_5
         replace p242 := eq_true p242
         replace q242 := eq_true q242
         go_upto_region 7 with (first | ((with_reducible refine gate_dst (N := 6) rfl ?_); refine box_event ?hg (N := 6) ?hd (cs := #[.int .i64 0, .int .i64 0, .int .i64 0, .int .i64 0, .int .i64 0, .int .i64 0]) (t := 115) ?hr ?_; (case hd => rfl); (case hg => rfl); (case hr => first | (go_simp; done) | (go_simp; rfl)); intro gb243 hg w9 hbox hb; have n0_ := Aside0.mk (below_step (by repeat (first | (with_reducible first | exact HB.out | apply below_alloc | apply pw_below_drewN | apply below_drew1) | exact HB.out)) hb); have n1_ := Aside0.mk (hbox); have n2_ := Aside0.mk ((by rw [hg]; exact (below_size (by repeat (first | (with_reducible first | exact HB.out | apply below_alloc | apply pw_below_drewN | apply below_drew1) | exact HB.out))) : w.heap.size ≤ gb243)); have n3_ := Aside0.mk ((by rw [hg]; exact (below_size (by repeat (first | (with_reducible first | exact HB.out | apply below_alloc | apply pw_below_drewN | apply below_drew1) | exact HB.out))) : w.heap.size ≤ gb243)); clear HB; have HB := n0_; have BK243 := n1_; have GW243 := n2_; have GE243 := n3_; clear n0_ n1_ n2_ n3_; clear hb hbox hg; have hcz10_0 : w9.cell? ⟨gb243, 0, none⟩ = some (.int .i64 0) := (blk_cell BK243.out 0).trans rfl; have hcz10_1 : w9.cell? ⟨gb243, 1, none⟩ = some (.int .i64 0) := (blk_cell BK243.out 1).trans rfl; have hcz10_2 : w9.cell? ⟨gb243, 2, none⟩ = some (.int .i64 0) := (blk_cell BK243.out 2).trans rfl; have hcz10_3 : w9.cell? ⟨gb243, 3, none⟩ = some (.int .i64 0) := (blk_cell BK243.out 3).trans rfl; have hcz10_4 : w9.cell? ⟨gb243, 4, none⟩ = some (.int .i64 0) := (blk_cell BK243.out 4).trans rfl; have hcz10_5 : w9.cell? ⟨gb243, 5, none⟩ = some (.int .i64 0) := (blk_cell BK243.out 5).trans rfl; have hfz10_0 := blk_frozen BK243.out 0; have hfz10_1 := blk_frozen BK243.out 1; have hfz10_2 := blk_frozen BK243.out 2; have hfz10_3 := blk_frozen BK243.out 3; have hfz10_4 := blk_frozen BK243.out 4; have hfz10_5 := blk_frozen BK243.out 5))
         (try simp only [Act.put, List.setIfInBounds_toArray, List.set_cons_zero, List.set_cons_succ])
         go_cut [84] (fun v84 wc => ∃ (kq : Nat) (x84_7 : Bool), v84 = .bool x84_7 ∧ Aside0 (impl_oFormula.j2 kq l0 a1 x5_2 x84_7 ((rd_T115 l0 x5_2).f0) ((rd_T115 l0 x5_2).f1) ((rd_T115 l0 x5_2).f2) ((rd_T115 l0 x5_2).f3) ((rd_T115 l0 x5_2).f4) ((rd_T115 l0 x5_2).f5) = some r) ∧ Aside0 (kq ≤ k2) ∧ Aside0 (wc.heap[gb243]? = some (.cells #[.int .i64 ((rd_T115 l0 x5_2).f0), .int .i64 ((rd_T115 l0 x5_2).f1), .int .i64 ((rd_T115 l0 x5_2).f2), .int .i64 ((rd_T115 l0 x5_2).f3), .int .i64 ((rd_T115 l0 x5_2).f4), .int .i64 ((rd_T115 l0 x5_2).f5)] 115 (0, 0))) ∧ Aside0 (Below w.heap.size w wc))
         case first =>
          as_aux_lemma =>
           have H := HC8.out
           clear HC8
           by_cases c11 : ((rd_T115 l0 x5_2).f3) < 0
           ·rw [if_pos c11] at H
            have c11b0 : decide (((rd_T115 l0 x5_2).f3) < 0) = true := decide_eq_true c11
            clear c11
            (first | rw [c11b0] | (simp only [i64_w, i32_w]; rw [c11b0]) | skip)
            have H' := Aside0.mk H
            clear H
            have hcz12_0 : w9.cell? ⟨gb243, 0, none⟩ = some (.int .i64 0) := (blk_cell BK243.out 0).trans rfl
            have hcz12_1 : w9.cell? ⟨gb243, 1, none⟩ = some (.int .i64 0) := (blk_cell BK243.out 1).trans rfl
            have hcz12_2 : w9.cell? ⟨gb243, 2, none⟩ = some (.int .i64 0) := (blk_cell BK243.out 2).trans rfl
            have hcz12_3 : w9.cell? ⟨gb243, 3, none⟩ = some (.int .i64 0) := (blk_cell BK243.out 3).trans rfl
            have hcz12_4 : w9.cell? ⟨gb243, 4, none⟩ = some (.int .i64 0) := (blk_cell BK243.out 4).trans rfl
            have hcz12_5 : w9.cell? ⟨gb243, 5, none⟩ = some (.int .i64 0) := (blk_cell BK243.out 5).trans rfl
            have hfz12_0 := blk_frozen BK243.out 0
            have hfz12_1 := blk_frozen BK243.out 1
            have hfz12_2 := blk_frozen BK243.out 2
            have hfz12_3 := blk_frozen BK243.out 3
            have hfz12_4 := blk_frozen BK243.out 4
            have hfz12_5 := blk_frozen BK243.out 5
            go_wp2_with (fail)
            go_meet
            case rel => exact ⟨_, (true), (by first | rfl | (simp; done) | (simp [*]; done)), H', ⟨by have := HJ2.out; have := HK2.out; first | omega | exact Nat.le_refl _⟩, ⟨by (with_reducible repeat (first | refine blk_drewN ?_ _ | refine blk_drew ?_ | refine blk_alloc ?_ _)); refine blk_put (cs := #[.int .i64 ((rd_T115 l0 x5_2).f0), .int .i64 ((rd_T115 l0 x5_2).f1), .int .i64 ((rd_T115 l0 x5_2).f2), .int .i64 ((rd_T115 l0 x5_2).f3), .int .i64 ((rd_T115 l0 x5_2).f4), .int .i64 0]) ?_ 5 _ rfl; (with_reducible repeat (first | refine blk_drewN ?_ _ | refine blk_drew ?_ | refine blk_alloc ?_ _)); refine blk_put (cs := #[.int .i64 ((rd_T115 l0 x5_2).f0), .int .i64 ((rd_T115 l0 x5_2).f1), .int .i64 ((rd_T115 l0 x5_2).f2), .int .i64 ((rd_T115 l0 x5_2).f3), .int .i64 0, .int .i64 0]) ?_ 4 _ rfl; (with_reducible repeat (first | refine blk_drewN ?_ _ | refine blk_drew ?_ | refine blk_alloc ?_ _)); refine blk_put (cs := #[.int .i64 ((rd_T115 l0 x5_2).f0), .int .i64 ((rd_T115 l0 x5_2).f1), .int .i64 ((rd_T115 l0 x5_2).f2), .int .i64 0, .int .i64 0, .int .i64 0]) ?_ 3 _ rfl; (with_reducible repeat (first | refine blk_drewN ?_ _ | refine blk_drew ?_ | refine blk_alloc ?_ _)); refine blk_put (cs := #[.int .i64 ((rd_T115 l0 x5_2).f0), .int .i64 ((rd_T115 l0 x5_2).f1), .int .i64 0, .int .i64 0, .int .i64 0, .int .i64 0]) ?_ 2 _ rfl; (with_reducible repeat (first | refine blk_drewN ?_ _ | refine blk_drew ?_ | refine blk_alloc ?_ _)); refine blk_put (cs := #[.int .i64 ((rd_T115 l0 x5_2).f0), .int .i64 0, .int .i64 0, .int .i64 0, .int .i64 0, .int .i64 0]) ?_ 1 _ rfl; (with_reducible repeat (first | refine blk_drewN ?_ _ | refine blk_drew ?_ | refine blk_alloc ?_ _)); refine blk_put (cs := #[.int .i64 0, .int .i64 0, .int .i64 0, .int .i64 0, .int .i64 0, .int .i64 0]) ?_ 0 _ rfl; (with_reducible repeat (first | refine blk_drewN ?_ _ | refine blk_drew ?_ | refine blk_alloc ?_ _)); exact BK243.out⟩, ⟨by repeat (first | (with_reducible first | exact HB.out | apply below_alloc | apply pw_below_drewN | apply below_drew1 | refine below_set ?_ GE243.out) | exact HB.out)⟩⟩
           ·rw [if_neg c11] at H
            have c11b0 : decide (((rd_T115 l0 x5_2).f3) < 0) = false := decide_eq_false c11
            clear c11
            (first | rw [c11b0] | (simp only [i64_w, i32_w]; rw [c11b0]) | skip)
            by_cases c13 : ((rd_T115 l0 x5_2).f4) < 0
            ·rw [if_pos c13] at H
             have c13b0 : decide (((rd_T115 l0 x5_2).f4) < 0) = true := decide_eq_true c13
             clear c13
             have H' := Aside0.mk H
             clear H
             have hcz14_0 : w9.cell? ⟨gb243, 0, none⟩ = some (.int .i64 0) := (blk_cell BK243.out 0).trans rfl
             have hcz14_1 : w9.cell? ⟨gb243, 1, none⟩ = some (.int .i64 0) := (blk_cell BK243.out 1).trans rfl
             have hcz14_2 : w9.cell? ⟨gb243, 2, none⟩ = some (.int .i64 0) := (blk_cell BK243.out 2).trans rfl
             have hcz14_3 : w9.cell? ⟨gb243, 3, none⟩ = some (.int .i64 0) := (blk_cell BK243.out 3).trans rfl
             have hcz14_4 : w9.cell? ⟨gb243, 4, none⟩ = some (.int .i64 0) := (blk_cell BK243.out 4).trans rfl
             have hcz14_5 : w9.cell? ⟨gb243, 5, none⟩ = some (.int .i64 0) := (blk_cell BK243.out 5).trans rfl
             have hfz14_0 := blk_frozen BK243.out 0
             have hfz14_1 := blk_frozen BK243.out 1
             have hfz14_2 := blk_frozen BK243.out 2
             have hfz14_3 := blk_frozen BK243.out 3
             have hfz14_4 := blk_frozen BK243.out 4
             have hfz14_5 := blk_frozen BK243.out 5
             go_wp2_with (fail)
             go_meet
             case rel => exact ⟨_, (true), (by first | rfl | (simp; done) | (simp [*]; done)), H', ⟨by have := HJ2.out; have := HK2.out; first | omega | exact Nat.le_refl _⟩, ⟨by (with_reducible repeat (first | refine blk_drewN ?_ _ | refine blk_drew ?_ | refine blk_alloc ?_ _)); refine blk_put (cs := #[.int .i64 ((rd_T115 l0 x5_2).f0), .int .i64 ((rd_T115 l0 x5_2).f1), .int .i64 ((rd_T115 l0 x5_2).f2), .int .i64 ((rd_T115 l0 x5_2).f3), .int .i64 ((rd_T115 l0 x5_2).f4), .int .i64 0]) ?_ 5 _ rfl; (with_reducible repeat (first | refine blk_drewN ?_ _ | refine blk_drew ?_ | refine blk_alloc ?_ _)); refine blk_put (cs := #[.int .i64 ((rd_T115 l0 x5_2).f0), .int .i64 ((rd_T115 l0 x5_2).f1), .int .i64 ((rd_T115 l0 x5_2).f2), .int .i64 ((rd_T115 l0 x5_2).f3), .int .i64 0, .int .i64 0]) ?_ 4 _ rfl; (with_reducible repeat (first | refine blk_drewN ?_ _ | refine blk_drew ?_ | refine blk_alloc ?_ _)); refine blk_put (cs := #[.int .i64 ((rd_T115 l0 x5_2).f0), .int .i64 ((rd_T115 l0 x5_2).f1), .int .i64 ((rd_T115 l0 x5_2).f2), .int .i64 0, .int .i64 0, .int .i64 0]) ?_ 3 _ rfl; (with_reducible repeat (first | refine blk_drewN ?_ _ | refine blk_drew ?_ | refine blk_alloc ?_ _)); refine blk_put (cs := #[.int .i64 ((rd_T115 l0 x5_2).f0), .int .i64 ((rd_T115 l0 x5_2).f1), .int .i64 0, .int .i64 0, .int .i64 0, .int .i64 0]) ?_ 2 _ rfl; (with_reducible repeat (first | refine blk_drewN ?_ _ | refine blk_drew ?_ | refine blk_alloc ?_ _)); refine blk_put (cs := #[.int .i64 ((rd_T115 l0 x5_2).f0), .int .i64 0, .int .i64 0, .int .i64 0, .int .i64 0, .int .i64 0]) ?_ 1 _ rfl; (with_reducible repeat (first | refine blk_drewN ?_ _ | refine blk_drew ?_ | refine blk_alloc ?_ _)); refine blk_put (cs := #[.int .i64 0, .int .i64 0, .int .i64 0, .int .i64 0, .int .i64 0, .int .i64 0]) ?_ 0 _ rfl; (with_reducible repeat (first | refine blk_drewN ?_ _ | refine blk_drew ?_ | refine blk_alloc ?_ _)); exact BK243.out⟩, ⟨by repeat (first | (with_reducible first | exact HB.out | apply below_alloc | apply pw_below_drewN | apply below_drew1 | refine below_set ?_ GE243.out) | exact HB.out)⟩⟩
            ·rw [if_neg c13] at H
             have c13b0 : decide (((rd_T115 l0 x5_2).f4) < 0) = false := decide_eq_false c13
             clear c13
             by_cases c15 : ((rd_T115 l0 x5_2).f5) < 0
             ·rw [if_pos c15] at H
              have c15b0 : decide (((rd_T115 l0 x5_2).f5) < 0) = true := decide_eq_true c15
              clear c15
              have H' := Aside0.mk H
              clear H
              have hcz16_0 : w9.cell? ⟨gb243, 0, none⟩ = some (.int .i64 0) := (blk_cell BK243.out 0).trans rfl
              have hcz16_1 : w9.cell? ⟨gb243, 1, none⟩ = some (.int .i64 0) := (blk_cell BK243.out 1).trans rfl
              have hcz16_2 : w9.cell? ⟨gb243, 2, none⟩ = some (.int .i64 0) := (blk_cell BK243.out 2).trans rfl
              have hcz16_3 : w9.cell? ⟨gb243, 3, none⟩ = some (.int .i64 0) := (blk_cell BK243.out 3).trans rfl
              have hcz16_4 : w9.cell? ⟨gb243, 4, none⟩ = some (.int .i64 0) := (blk_cell BK243.out 4).trans rfl
              have hcz16_5 : w9.cell? ⟨gb243, 5, none⟩ = some (.int .i64 0) := (blk_cell BK243.out 5).trans rfl
              have hfz16_0 := blk_frozen BK243.out 0
              have hfz16_1 := blk_frozen BK243.out 1
              have hfz16_2 := blk_frozen BK243.out 2
              have hfz16_3 := blk_frozen BK243.out 3
              have hfz16_4 := blk_frozen BK243.out 4
              have hfz16_5 := blk_frozen BK243.out 5
              go_wp2_with (fail)
              go_meet
              case rel => exact ⟨_, (true), (by first | rfl | (simp; done) | (simp [*]; done)), H', ⟨by have := HJ2.out; have := HK2.out; first | omega | exact Nat.le_refl _⟩, ⟨by (with_reducible repeat (first | refine blk_drewN ?_ _ | refine blk_drew ?_ | refine blk_alloc ?_ _)); refine blk_put (cs := #[.int .i64 ((rd_T115 l0 x5_2).f0), .int .i64 ((rd_T115 l0 x5_2).f1), .int .i64 ((rd_T115 l0 x5_2).f2), .int .i64 ((rd_T115 l0 x5_2).f3), .int .i64 ((rd_T115 l0 x5_2).f4), .int .i64 0]) ?_ 5 _ rfl; (with_reducible repeat (first | refine blk_drewN ?_ _ | refine blk_drew ?_ | refine blk_alloc ?_ _)); refine blk_put (cs := #[.int .i64 ((rd_T115 l0 x5_2).f0), .int .i64 ((rd_T115 l0 x5_2).f1), .int .i64 ((rd_T115 l0 x5_2).f2), .int .i64 ((rd_T115 l0 x5_2).f3), .int .i64 0, .int .i64 0]) ?_ 4 _ rfl; (with_reducible repeat (first | refine blk_drewN ?_ _ | refine blk_drew ?_ | refine blk_alloc ?_ _)); refine blk_put (cs := #[.int .i64 ((rd_T115 l0 x5_2).f0), .int .i64 ((rd_T115 l0 x5_2).f1), .int .i64 ((rd_T115 l0 x5_2).f2), .int .i64 0, .int .i64 0, .int .i64 0]) ?_ 3 _ rfl; (with_reducible repeat (first | refine blk_drewN ?_ _ | refine blk_drew ?_ | refine blk_alloc ?_ _)); refine blk_put (cs := #[.int .i64 ((rd_T115 l0 x5_2).f0), .int .i64 ((rd_T115 l0 x5_2).f1), .int .i64 0, .int .i64 0, .int .i64 0, .int .i64 0]) ?_ 2 _ rfl; (with_reducible repeat (first | refine blk_drewN ?_ _ | refine blk_drew ?_ | refine blk_alloc ?_ _)); refine blk_put (cs := #[.int .i64 ((rd_T115 l0 x5_2).f0), .int .i64 0, .int .i64 0, .int .i64 0, .int .i64 0, .int .i64 0]) ?_ 1 _ rfl; (with_reducible repeat (first | refine blk_drewN ?_ _ | refine blk_drew ?_ | refine blk_alloc ?_ _)); refine blk_put (cs := #[.int .i64 0, .int .i64 0, .int .i64 0, .int .i64 0, .int .i64 0, .int .i64 0]) ?_ 0 _ rfl; (with_reducible repeat (first | refine blk_drewN ?_ _ | refine blk_drew ?_ | refine blk_alloc ?_ _)); exact BK243.out⟩, ⟨by repeat (first | (with_reducible first | exact HB.out | apply below_alloc | apply pw_below_drewN | apply below_drew1 | refine below_set ?_ GE243.out) | exact HB.out)⟩⟩
             ·rw [if_neg c15] at H
              have c15b0 : decide (((rd_T115 l0 x5_2).f5) < 0) = false := decide_eq_false c15
              clear c15
              by_cases c17 : ((rd_T115 l0 x5_2).f3) > (wrap64 ((wrap64 ((l0.length : Int) - x5_2)) - 1))
              ·rw [if_pos c17] at H
               have c17b0 : decide ((wrap64 ((wrap64 ((l0.length : Int) - x5_2)) - 1)) < ((rd_T115 l0 x5_2).f3)) = true := decide_eq_true c17
               clear c17
               have H' := Aside0.mk H
               clear H
               have hcz18_0 : w9.cell? ⟨gb243, 0, none⟩ = some (.int .i64 0) := (blk_cell BK243.out 0).trans rfl
               have hcz18_1 : w9.cell? ⟨gb243, 1, none⟩ = some (.int .i64 0) := (blk_cell BK243.out 1).trans rfl
               have hcz18_2 : w9.cell? ⟨gb243, 2, none⟩ = some (.int .i64 0) := (blk_cell BK243.out 2).trans rfl
               have hcz18_3 : w9.cell? ⟨gb243, 3, none⟩ = some (.int .i64 0) := (blk_cell BK243.out 3).trans rfl
               have hcz18_4 : w9.cell? ⟨gb243, 4, none⟩ = some (.int .i64 0) := (blk_cell BK243.out 4).trans rfl
               have hcz18_5 : w9.cell? ⟨gb243, 5, none⟩ = some (.int .i64 0) := (blk_cell BK243.out 5).trans rfl
               have hfz18_0 := blk_frozen BK243.out 0
               have hfz18_1 := blk_frozen BK243.out 1
               have hfz18_2 := blk_frozen BK243.out 2
               have hfz18_3 := blk_frozen BK243.out 3
               have hfz18_4 := blk_frozen BK243.out 4
               have hfz18_5 := blk_frozen BK243.out 5
               go_wp2_with (fail)
               go_meet
               case rel => exact ⟨_, (true), (by first | rfl | (simp; done) | (simp [*]; done)), H', ⟨by have := HJ2.out; have := HK2.out; first | omega | exact Nat.le_refl _⟩, ⟨by (with_reducible repeat (first | refine blk_drewN ?_ _ | refine blk_drew ?_ | refine blk_alloc ?_ _)); refine blk_put (cs := #[.int .i64 ((rd_T115 l0 x5_2).f0), .int .i64 ((rd_T115 l0 x5_2).f1), .int .i64 ((rd_T115 l0 x5_2).f2), .int .i64 ((rd_T115 l0 x5_2).f3), .int .i64 ((rd_T115 l0 x5_2).f4), .int .i64 0]) ?_ 5 _ rfl; (with_reducible repeat (first | refine blk_drewN ?_ _ | refine blk_drew ?_ | refine blk_alloc ?_ _)); refine blk_put (cs := #[.int .i64 ((rd_T115 l0 x5_2).f0), .int .i64 ((rd_T115 l0 x5_2).f1), .int .i64 ((rd_T115 l0 x5_2).f2), .int .i64 ((rd_T115 l0 x5_2).f3), .int .i64 0, .int .i64 0]) ?_ 4 _ rfl; (with_reducible repeat (first | refine blk_drewN ?_ _ | refine blk_drew ?_ | refine blk_alloc ?_ _)); refine blk_put (cs := #[.int .i64 ((rd_T115 l0 x5_2).f0), .int .i64 ((rd_T115 l0 x5_2).f1), .int .i64 ((rd_T115 l0 x5_2).f2), .int .i64 0, .int .i64 0, .int .i64 0]) ?_ 3 _ rfl; (with_reducible repeat (first | refine blk_drewN ?_ _ | refine blk_drew ?_ | refine blk_alloc ?_ _)); refine blk_put (cs := #[.int .i64 ((rd_T115 l0 x5_2).f0), .int .i64 ((rd_T115 l0 x5_2).f1), .int .i64 0, .int .i64 0, .int .i64 0, .int .i64 0]) ?_ 2 _ rfl; (with_reducible repeat (first | refine blk_drewN ?_ _ | refine blk_drew ?_ | refine blk_alloc ?_ _)); refine blk_put (cs := #[.int .i64 ((rd_T115 l0 x5_2).f0), .int .i64 0, .int .i64 0, .int .i64 0, .int .i64 0, .int .i64 0]) ?_ 1 _ rfl; (with_reducible repeat (first | refine blk_drewN ?_ _ | refine blk_drew ?_ | refine blk_alloc ?_ _)); refine blk_put (cs := #[.int .i64 0, .int .i64 0, .int .i64 0, .int .i64 0, .int .i64 0, .int .i64 0]) ?_ 0 _ rfl; (with_reducible repeat (first | refine blk_drewN ?_ _ | refine blk_drew ?_ | refine blk_alloc ?_ _)); exact BK243.out⟩, ⟨by repeat (first | (with_reducible first | exact HB.out | apply below_alloc | apply pw_below_drewN | apply below_drew1 | refine below_set ?_ GE243.out) | exact HB.out)⟩⟩
              ·rw [if_neg c17] at H
               have c17b0 : decide ((wrap64 ((wrap64 ((l0.length : Int) - x5_2)) - 1)) < ((rd_T115 l0 x5_2).f3)) = false := decide_eq_false c17
               clear c17
               by_cases c19 : ((rd_T115 l0 x5_2).f4) > (wrap64 ((wrap64 ((wrap64 ((l0.length : Int) - x5_2)) - 1)) - ((rd_T115 l0 x5_2).f3)))
               ·rw [if_pos c19] at H
                have c19b0 : decide ((wrap64 ((wrap64 ((wrap64 ((l0.length : Int) - x5_2)) - 1)) - ((rd_T115 l0 x5_2).f3))) < ((rd_T115 l0 x5_2).f4)) = true := decide_eq_true c19
                clear c19
                have H' := Aside0.mk H
                clear H
                have hcz20_0 : w9.cell? ⟨gb243, 0, none⟩ = some (.int .i64 0) := (blk_cell BK243.out 0).trans rfl
                have hcz20_1 : w9.cell? ⟨gb243, 1, none⟩ = some (.int .i64 0) := (blk_cell BK243.out 1).trans rfl
                have hcz20_2 : w9.cell? ⟨gb243, 2, none⟩ = some (.int .i64 0) := (blk_cell BK243.out 2).trans rfl
                have hcz20_3 : w9.cell? ⟨gb243, 3, none⟩ = some (.int .i64 0) := (blk_cell BK243.out 3).trans rfl
                have hcz20_4 : w9.cell? ⟨gb243, 4, none⟩ = some (.int .i64 0) := (blk_cell BK243.out 4).trans rfl
                have hcz20_5 : w9.cell? ⟨gb243, 5, none⟩ = some (.int .i64 0) := (blk_cell BK243.out 5).trans rfl
                have hfz20_0 := blk_frozen BK243.out 0
                have hfz20_1 := blk_frozen BK243.out 1
                have hfz20_2 := blk_frozen BK243.out 2
                have hfz20_3 := blk_frozen BK243.out 3
                have hfz20_4 := blk_frozen BK243.out 4
                have hfz20_5 := blk_frozen BK243.out 5
                go_wp2_with (fail)
                go_meet
                case rel => exact ⟨_, (true), (by first | rfl | (simp; done) | (simp [*]; done)), H', ⟨by have := HJ2.out; have := HK2.out; first | omega | exact Nat.le_refl _⟩, ⟨by (with_reducible repeat (first | refine blk_drewN ?_ _ | refine blk_drew ?_ | refine blk_alloc ?_ _)); refine blk_put (cs := #[.int .i64 ((rd_T115 l0 x5_2).f0), .int .i64 ((rd_T115 l0 x5_2).f1), .int .i64 ((rd_T115 l0 x5_2).f2), .int .i64 ((rd_T115 l0 x5_2).f3), .int .i64 ((rd_T115 l0 x5_2).f4), .int .i64 0]) ?_ 5 _ rfl; (with_reducible repeat (first | refine blk_drewN ?_ _ | refine blk_drew ?_ | refine blk_alloc ?_ _)); refine blk_put (cs := #[.int .i64 ((rd_T115 l0 x5_2).f0), .int .i64 ((rd_T115 l0 x5_2).f1), .int .i64 ((rd_T115 l0 x5_2).f2), .int .i64 ((rd_T115 l0 x5_2).f3), .int .i64 0, .int .i64 0]) ?_ 4 _ rfl; (with_reducible repeat (first | refine blk_drewN ?_ _ | refine blk_drew ?_ | refine blk_alloc ?_ _)); refine blk_put (cs := #[.int .i64 ((rd_T115 l0 x5_2).f0), .int .i64 ((rd_T115 l0 x5_2).f1), .int .i64 ((rd_T115 l0 x5_2).f2), .int .i64 0, .int .i64 0, .int .i64 0]) ?_ 3 _ rfl; (with_reducible repeat (first | refine blk_drewN ?_ _ | refine blk_drew ?_ | refine blk_alloc ?_ _)); refine blk_put (cs := #[.int .i64 ((rd_T115 l0 x5_2).f0), .int .i64 ((rd_T115 l0 x5_2).f1), .int .i64 0, .int .i64 0, .int .i64 0, .int .i64 0]) ?_ 2 _ rfl; (with_reducible repeat (first | refine blk_drewN ?_ _ | refine blk_drew ?_ | refine blk_alloc ?_ _)); refine blk_put (cs := #[.int .i64 ((rd_T115 l0 x5_2).f0), .int .i64 0, .int .i64 0, .int .i64 0, .int .i64 0, .int .i64 0]) ?_ 1 _ rfl; (with_reducible repeat (first | refine blk_drewN ?_ _ | refine blk_drew ?_ | refine blk_alloc ?_ _)); refine blk_put (cs := #[.int .i64 0, .int .i64 0, .int .i64 0, .int .i64 0, .int .i64 0, .int .i64 0]) ?_ 0 _ rfl; (with_reducible repeat (first | refine blk_drewN ?_ _ | refine blk_drew ?_ | refine blk_alloc ?_ _)); exact BK243.out⟩, ⟨by repeat (first | (with_reducible first | exact HB.out | apply below_alloc | apply pw_below_drewN | apply below_drew1 | refine below_set ?_ GE243.out) | exact HB.out)⟩⟩
               ·rw [if_neg c19] at H
                have c19b0 : decide ((wrap64 ((wrap64 ((wrap64 ((l0.length : Int) - x5_2)) - 1)) - ((rd_T115 l0 x5_2).f3))) < ((rd_T115 l0 x5_2).f4)) = false := decide_eq_false c19
                clear c19
                by_cases c21 : ((rd_T115 l0 x5_2).f5) > (wrap64 ((wrap64 ((wrap64 ((wrap64 ((l0.length : Int) - x5_2)) - 1)) - ((rd_T115 l0 x5_2).f3))) - ((rd_T115 l0 x5_2).f4)))
                ·rw [if_pos c21] at H
                 have c21b0 : decide ((wrap64 ((wrap64 ((wrap64 ((wrap64 ((l0.length : Int) - x5_2)) - 1)) - ((rd_T115 l0 x5_2).f3))) - ((rd_T115 l0 x5_2).f4))) < ((rd_T115 l0 x5_2).f5)) = true := decide_eq_true c21
                 clear c21
                 have H' := Aside0.mk H
                 clear H
                 have hcz22_0 : w9.cell? ⟨gb243, 0, none⟩ = some (.int .i64 0) := (blk_cell BK243.out 0).trans rfl
                 have hcz22_1 : w9.cell? ⟨gb243, 1, none⟩ = some (.int .i64 0) := (blk_cell BK243.out 1).trans rfl
                 have hcz22_2 : w9.cell? ⟨gb243, 2, none⟩ = some (.int .i64 0) := (blk_cell BK243.out 2).trans rfl
                 have hcz22_3 : w9.cell? ⟨gb243, 3, none⟩ = some (.int .i64 0) := (blk_cell BK243.out 3).trans rfl
                 have hcz22_4 : w9.cell? ⟨gb243, 4, none⟩ = some (.int .i64 0) := (blk_cell BK243.out 4).trans rfl
                 have hcz22_5 : w9.cell? ⟨gb243, 5, none⟩ = some (.int .i64 0) := (blk_cell BK243.out 5).trans rfl
                 have hfz22_0 := blk_frozen BK243.out 0
                 have hfz22_1 := blk_frozen BK243.out 1
                 have hfz22_2 := blk_frozen BK243.out 2
                 have hfz22_3 := blk_frozen BK243.out 3
                 have hfz22_4 := blk_frozen BK243.out 4
                 have hfz22_5 := blk_frozen BK243.out 5
                 go_wp2_with (fail)
                 go_meet
                 case rel => exact ⟨_, (true), (by first | rfl | (simp; done) | (simp [*]; done)), H', ⟨by have := HJ2.out; have := HK2.out; first | omega | exact Nat.le_refl _⟩, ⟨by (with_reducible repeat (first | refine blk_drewN ?_ _ | refine blk_drew ?_ | refine blk_alloc ?_ _)); refine blk_put (cs := #[.int .i64 ((rd_T115 l0 x5_2).f0), .int .i64 ((rd_T115 l0 x5_2).f1), .int .i64 ((rd_T115 l0 x5_2).f2), .int .i64 ((rd_T115 l0 x5_2).f3), .int .i64 ((rd_T115 l0 x5_2).f4), .int .i64 0]) ?_ 5 _ rfl; (with_reducible repeat (first | refine blk_drewN ?_ _ | refine blk_drew ?_ | refine blk_alloc ?_ _)); refine blk_put (cs := #[.int .i64 ((rd_T115 l0 x5_2).f0), .int .i64 ((rd_T115 l0 x5_2).f1), .int .i64 ((rd_T115 l0 x5_2).f2), .int .i64 ((rd_T115 l0 x5_2).f3), .int .i64 0, .int .i64 0]) ?_ 4 _ rfl; (with_reducible repeat (first | refine blk_drewN ?_ _ | refine blk_drew ?_ | refine blk_alloc ?_ _)); refine blk_put (cs := #[.int .i64 ((rd_T115 l0 x5_2).f0), .int .i64 ((rd_T115 l0 x5_2).f1), .int .i64 ((rd_T115 l0 x5_2).f2), .int .i64 0, .int .i64 0, .int .i64 0]) ?_ 3 _ rfl; (with_reducible repeat (first | refine blk_drewN ?_ _ | refine blk_drew ?_ | refine blk_alloc ?_ _)); refine blk_put (cs := #[.int .i64 ((rd_T115 l0 x5_2).f0), .int .i64 ((rd_T115 l0 x5_2).f1), .int .i64 0, .int .i64 0, .int .i64 0, .int .i64 0]) ?_ 2 _ rfl; (with_reducible repeat (first | refine blk_drewN ?_ _ | refine blk_drew ?_ | refine blk_alloc ?_ _)); refine blk_put (cs := #[.int .i64 ((rd_T115 l0 x5_2).f0), .int .i64 0, .int .i64 0, .int .i64 0, .int .i64 0, .int .i64 0]) ?_ 1 _ rfl; (with_reducible repeat (first | refine blk_drewN ?_ _ | refine blk_drew ?_ | refine blk_alloc ?_ _)); refine blk_put (cs := #[.int .i64 0, .int .i64 0, .int .i64 0, .int .i64 0, .int .i64 0, .int .i64 0]) ?_ 0 _ rfl; (with_reducible repeat (first | refine blk_drewN ?_ _ | refine blk_drew ?_ | refine blk_alloc ?_ _)); exact BK243.out⟩, ⟨by repeat (first | (with_reducible first | exact HB.out | apply below_alloc | apply pw_below_drewN | apply below_drew1 | refine below_set ?_ GE243.out) | exact HB.out)⟩⟩
                ·rw [if_neg c21] at H
                 have c21b0 : decide ((wrap64 ((wrap64 ((wrap64 ((wrap64 ((l0.length : Int) - x5_2)) - 1)) - ((rd_T115 l0 x5_2).f3))) - ((rd_T115 l0 x5_2).f4))) < ((rd_T115 l0 x5_2).f5)) = false := decide_eq_false c21
                 clear c21
                 by_cases c23 : ((rd_T115 l0 x5_2).f1) < 0
                 ·rw [if_pos c23] at H
                  have c23b0 : decide (((rd_T115 l0 x5_2).f1) < 0) = true := decide_eq_true c23
                  clear c23
                  have H' := Aside0.mk H
                  clear H
                  have hcz24_0 : w9.cell? ⟨gb243, 0, none⟩ = some (.int .i64 0) := (blk_cell BK243.out 0).trans rfl
                  have hcz24_1 : w9.cell? ⟨gb243, 1, none⟩ = some (.int .i64 0) := (blk_cell BK243.out 1).trans rfl
                  have hcz24_2 : w9.cell? ⟨gb243, 2, none⟩ = some (.int .i64 0) := (blk_cell BK243.out 2).trans rfl
                  have hcz24_3 : w9.cell? ⟨gb243, 3, none⟩ = some (.int .i64 0) := (blk_cell BK243.out 3).trans rfl
                  have hcz24_4 : w9.cell? ⟨gb243, 4, none⟩ = some (.int .i64 0) := (blk_cell BK243.out 4).trans rfl
                  have hcz24_5 : w9.cell? ⟨gb243, 5, none⟩ = some (.int .i64 0) := (blk_cell BK243.out 5).trans rfl
                  have hfz24_0 := blk_frozen BK243.out 0
                  have hfz24_1 := blk_frozen BK243.out 1
                  have hfz24_2 := blk_frozen BK243.out 2
                  have hfz24_3 := blk_frozen BK243.out 3
                  have hfz24_4 := blk_frozen BK243.out 4
                  have hfz24_5 := blk_frozen BK243.out 5
                  go_wp2_with (fail)
                  go_meet
                  case rel => exact ⟨_, (true), (by first | rfl | (simp; done) | (simp [*]; done)), H', ⟨by have := HJ2.out; have := HK2.out; first | omega | exact Nat.le_refl _⟩, ⟨by (with_reducible repeat (first | refine blk_drewN ?_ _ | refine blk_drew ?_ | refine blk_alloc ?_ _)); refine blk_put (cs := #[.int .i64 ((rd_T115 l0 x5_2).f0), .int .i64 ((rd_T115 l0 x5_2).f1), .int .i64 ((rd_T115 l0 x5_2).f2), .int .i64 ((rd_T115 l0 x5_2).f3), .int .i64 ((rd_T115 l0 x5_2).f4), .int .i64 0]) ?_ 5 _ rfl; (with_reducible repeat (first | refine blk_drewN ?_ _ | refine blk_drew ?_ | refine blk_alloc ?_ _)); refine blk_put (cs := #[.int .i64 ((rd_T115 l0 x5_2).f0), .int .i64 ((rd_T115 l0 x5_2).f1), .int .i64 ((rd_T115 l0 x5_2).f2), .int .i64 ((rd_T115 l0 x5_2).f3), .int .i64 0, .int .i64 0]) ?_ 4 _ rfl; (with_reducible repeat (first | refine blk_drewN ?_ _ | refine blk_drew ?_ | refine blk_alloc ?_ _)); refine blk_put (cs := #[.int .i64 ((rd_T115 l0 x5_2).f0), .int .i64 ((rd_T115 l0 x5_2).f1), .int .i64 ((rd_T115 l0 x5_2).f2), .int .i64 0, .int .i64 0, .int .i64 0]) ?_ 3 _ rfl; (with_reducible repeat (first | refine blk_drewN ?_ _ | refine blk_drew ?_ | refine blk_alloc ?_ _)); refine blk_put (cs := #[.int .i64 ((rd_T115 l0 x5_2).f0), .int .i64 ((rd_T115 l0 x5_2).f1), .int .i64 0, .int .i64 0, .int .i64 0, .int .i64 0]) ?_ 2 _ rfl; (with_reducible repeat (first | refine blk_drewN ?_ _ | refine blk_drew ?_ | refine blk_alloc ?_ _)); refine blk_put (cs := #[.int .i64 ((rd_T115 l0 x5_2).f0), .int .i64 0, .int .i64 0, .int .i64 0, .int .i64 0, .int .i64 0]) ?_ 1 _ rfl; (with_reducible repeat (first | refine blk_drewN ?_ _ | refine blk_drew ?_ | refine blk_alloc ?_ _)); refine blk_put (cs := #[.int .i64 0, .int .i64 0, .int .i64 0, .int .i64 0, .int .i64 0, .int .i64 0]) ?_ 0 _ rfl; (with_reducible repeat (first | refine blk_drewN ?_ _ | refine blk_drew ?_ | refine blk_alloc ?_ _)); exact BK243.out⟩, ⟨by repeat (first | (with_reducible first | exact HB.out | apply below_alloc | apply pw_below_drewN | apply below_drew1 | refine below_set ?_ GE243.out) | exact HB.out)⟩⟩
                 ·rw [if_neg c23] at H
                  have c23b0 : decide (((rd_T115 l0 x5_2).f1) < 0) = false := decide_eq_false c23
                  clear c23
                  have H' := Aside0.mk H
                  clear H
                  have hcz25_0 : w9.cell? ⟨gb243, 0, none⟩ = some (.int .i64 0) := (blk_cell BK243.out 0).trans rfl
                  have hcz25_1 : w9.cell? ⟨gb243, 1, none⟩ = some (.int .i64 0) := (blk_cell BK243.out 1).trans rfl
                  have hcz25_2 : w9.cell? ⟨gb243, 2, none⟩ = some (.int .i64 0) := (blk_cell BK243.out 2).trans rfl
                  have hcz25_3 : w9.cell? ⟨gb243, 3, none⟩ = some (.int .i64 0) := (blk_cell BK243.out 3).trans rfl
                  have hcz25_4 : w9.cell? ⟨gb243, 4, none⟩ = some (.int .i64 0) := (blk_cell BK243.out 4).trans rfl
                  have hcz25_5 : w9.cell? ⟨gb243, 5, none⟩ = some (.int .i64 0) := (blk_cell BK243.out 5).trans rfl
                  have hfz25_0 := blk_frozen BK243.out 0
                  have hfz25_1 := blk_frozen BK243.out 1
                  have hfz25_2 := blk_frozen BK243.out 2
                  have hfz25_3 := blk_frozen BK243.out 3
                  have hfz25_4 := blk_frozen BK243.out 4
                  have hfz25_5 := blk_frozen BK243.out 5
                  go_wp2_with (fail)
                  go_meet
                  case rel => exact ⟨_, (decide (((rd_T115 l0 x5_2).f1) > 7)), (by first | rfl | (simp; done) | (simp [*]; done)), H', ⟨by have := HJ2.out; have := HK2.out; first | omega | exact Nat.le_refl _⟩, ⟨by (with_reducible repeat (first | refine blk_drewN ?_ _ | refine blk_drew ?_ | refine blk_alloc ?_ _)); refine blk_put (cs := #[.int .i64 ((rd_T115 l0 x5_2).f0), .int .i64 ((rd_T115 l0 x5_2).f1), .int .i64 ((rd_T115 l0 x5_2).f2), .int .i64 ((rd_T115 l0 x5_2).f3), .int .i64 ((rd_T115 l0 x5_2).f4), .int .i64 0]) ?_ 5 _ rfl; (with_reducible repeat (first | refine blk_drewN ?_ _ | refine blk_drew ?_ | refine blk_alloc ?_ _)); refine blk_put (cs := #[.int .i64 ((rd_T115 l0 x5_2).f0), .int .i64 ((rd_T115 l0 x5_2).f1), .int .i64 ((rd_T115 l0 x5_2).f2), .int .i64 ((rd_T115 l0 x5_2).f3), .int .i64 0, .int .i64 0]) ?_ 4 _ rfl; (with_reducible repeat (first | refine blk_drewN ?_ _ | refine blk_drew ?_ | refine blk_alloc ?_ _)); refine blk_put (cs := #[.int .i64 ((rd_T115 l0 x5_2).f0), .int .i64 ((rd_T115 l0 x5_2).f1), .int .i64 ((rd_T115 l0 x5_2).f2), .int .i64 0, .int .i64 0, .int .i64 0]) ?_ 3 _ rfl; (with_reducible repeat (first | refine blk_drewN ?_ _ | refine blk_drew ?_ | refine blk_alloc ?_ _)); refine blk_put (cs := #[.int .i64 ((rd_T115 l0 x5_2).f0), .int .i64 ((rd_T115 l0 x5_2).f1), .int .i64 0, .int .i64 0, .int .i64 0, .int .i64 0]) ?_ 2 _ rfl; (with_reducible repeat (first | refine blk_drewN ?_ _ | refine blk_drew ?_ | refine blk_alloc ?_ _)); refine blk_put (cs := #[.int .i64 ((rd_T115 l0 x5_2).f0), .int .i64 0, .int .i64 0, .int .i64 0, .int .i64 0, .int .i64 0]) ?_ 1 _ rfl; (with_reducible repeat (first | refine blk_drewN ?_ _ | refine blk_drew ?_ | refine blk_alloc ?_ _)); refine blk_put (cs := #[.int .i64 0, .int .i64 0, .int .i64 0, .int .i64 0, .int .i64 0, .int .i64 0]) ?_ 0 _ rfl; (with_reducible repeat (first | refine blk_drewN ?_ _ | refine blk_drew ?_ | refine blk_alloc ?_ _)); exact BK243.out⟩, ⟨by repeat (first | (with_reducible first | exact HB.out | apply below_alloc | apply pw_below_drewN | apply below_drew1 | refine below_set ?_ GE243.out) | exact HB.out)⟩⟩
         case rest =>
          as_aux_lemma =>
           clear HC8
           try clear c1
           try clear c2
           try clear p2
           try clear q2
           try clear hx2
           try clear c4
           try clear c4b0
           try clear c4b1
           try clear c5
           try clear c6
           try clear c6b0
           try clear p6
           try clear c7
           try clear c7b0
           try clear c11
           try clear c11b0
           try clear c13
           try clear c13b0
           try clear c15
           try clear c15b0
           try clear c17
           try clear c17b0
           try clear c19
           try clear c19b0
           try clear c21
           try clear c21b0
           try clear c23
           try clear c23b0
           try clear p24
           try clear q24
           try clear hx24
           try clear hcz10_0
           try clear hcz10_1
           try clear hcz10_2
           try clear hcz10_3
           try clear hcz10_4
           try clear hcz10_5
           try clear hcz12_0
           try clear hcz12_1
           try clear hcz12_2
           try clear hcz12_3
           try clear hcz12_4
           try clear hcz12_5
           try clear hcz14_0
           try clear hcz14_1
           try clear hcz14_2
           try clear hcz14_3
           try clear hcz14_4
           try clear hcz14_5
           try clear hcz16_0
           try clear hcz16_1
           try clear hcz16_2
           try clear hcz16_3
           try clear hcz16_4
           try clear hcz16_5
           try clear hcz18_0
           try clear hcz18_1
           try clear hcz18_2
           try clear hcz18_3
           try clear hcz18_4
           try clear hcz18_5
           try clear hcz20_0
           try clear hcz20_1
           try clear hcz20_2
           try clear hcz20_3
           try clear hcz20_4
           try clear hcz20_5
           try clear hcz22_0
           try clear hcz22_1
           try clear hcz22_2
           try clear hcz22_3
           try clear hcz22_4
           try clear hcz22_5
           try clear hcz24_0
           try clear hcz24_1
           try clear hcz24_2
           try clear hcz24_3
           try clear hcz24_4
           try clear hcz24_5
           try clear hcz25_0
           try clear hcz25_1
           try clear hcz25_2
           try clear hcz25_3
           try clear hcz25_4
           try clear hcz25_5
           try clear hfz10_0
           try clear hfz10_1
           try clear hfz10_2
           try clear hfz10_3
           try clear hfz10_4
           try clear hfz10_5
           try clear hfz12_0
           try clear hfz12_1
           try clear hfz12_2
           try clear hfz12_3
           try clear hfz12_4
           try clear hfz12_5
           try clear hfz14_0
           try clear hfz14_1
           try clear hfz14_2
           try clear hfz14_3
           try clear hfz14_4
           try clear hfz14_5
           try clear hfz16_0
           try clear hfz16_1
           try clear hfz16_2
           try clear hfz16_3
           try clear hfz16_4
           try clear hfz16_5
           try clear hfz18_0
           try clear hfz18_1
           try clear hfz18_2
           try clear hfz18_3
           try clear hfz18_4
           try clear hfz18_5
           try clear hfz20_0
           try clear hfz20_1
           try clear hfz20_2
           try clear hfz20_3
           try clear hfz20_4
           try clear hfz20_5
           try clear hfz22_0
           try clear hfz22_1
           try clear hfz22_2
           try clear hfz22_3
           try clear hfz22_4
           try clear hfz22_5
           try clear hfz24_0
           try clear hfz24_1
           try clear hfz24_2
           try clear hfz24_3
           try clear hfz24_4
           try clear hfz24_5
           try clear hfz25_0
           try clear hfz25_1
           try clear hfz25_2
           try clear hfz25_3
           try clear hfz25_4
           try clear hfz25_5
           try clear hx242_0
           try clear hx242_1
           try clear hx242_2
           try clear hx242_3
           try clear hx242_4
           try clear hx242_5
           try clear p2
           try clear p242
           try clear q242
           obtain ⟨kq, x84_7, rfl, HA, HJ7, BK243, HB⟩ := hcut
           cases kq with
           | zero => exact absurd HA.out (by simp [impl_oFormula.j2])
           | succ kj7 =>
            have H := HA.out
            clear HA
            simp only [impl_oFormula.j2] at H
            by_cases c26 : x84_7 = true
            ·subst c26
             have H1 : (some false) = some r := by rw [if_pos rfl] at H; exact H
             clear H
             have H := H1
             clear H1
             obtain rfl := Option.some.inj H
             go_wp2_with (fail)
             go_ret
             exact ⟨by first | rfl | (simp [errW_none, errW_some] <;> rfl) | (simp [*, errW_none, errW_some] <;> rfl), by repeat (first | (with_reducible first | exact HB.out | apply below_alloc | apply pw_below_drewN | apply below_drew1 | refine below_set ?_ GE243.out) | exact HB.out)⟩
            ·replace c26 := Bool.eq_false_iff.mpr c26
             subst c26
             have H1 : (if 0 ≤ x5_2 then (if x5_2 ≤ (wrap64 ((wrap64 (x5_2 + 1)) + (wrap64 ((wrap64 (((rd_T115 l0 x5_2).f3) + ((rd_T115 l0 x5_2).f4))) + ((rd_T115 l0 x5_2).f5))))) then (if (wrap64 ((wrap64 (x5_2 + 1)) + (wrap64 ((wrap64 (((rd_T115 l0 x5_2).f3) + ((rd_T115 l0 x5_2).f4))) + ((rd_T115 l0 x5_2).f5))))) ≤ (l0.length : Int) then ((some ((l0.take ((wrap64 ((wrap64 (x5_2 + 1)) + (wrap64 ((wrap64 (((rd_T115 l0 x5_2).f3) + ((rd_T115 l0 x5_2).f4))) + ((rd_T115 l0 x5_2).f5))))) : Int).toNat).drop (x5_2 : Int).toNat : List (S115))).bind fun y244 => (if 0 < (y244.length : Int) then (if 1 ≤ (wrap64 (1 + ((rd_T115 y244 0).f3))) then (if (wrap64 (1 + ((rd_T115 y244 0).f3))) ≤ (y244.length : Int) then ((some ((y244.take ((wrap64 (1 + ((rd_T115 y244 0).f3))) : Int).toNat).drop 1 : List (S115))).bind fun y251 => (if 0 ≤ (wrap64 (1 + ((rd_T115 y244 0).f3))) then (if (wrap64 (1 + ((rd_T115 y244 0).f3))) ≤ (wrap64 ((wrap64 (1 + ((rd_T115 y244 0).f3))) + ((rd_T115 y244 0).f4))) then (if (wrap64 ((wrap64 (1 + ((rd_T115 y244 0).f3))) + ((rd_T115 y244 0).f4))) ≤ (y244.length : Int) then (if 0 ≤ (wrap64 ((wrap64 (1 + ((rd_T115 y244 0).f3))) + ((rd_T115 y244 0).f4))) then ((impl_oFormula.f kj7 y251 (wrap64 (a1 + 1))).bind fun t263 => (if t263 = true then ((impl_oFormula.f kj7 ((y244.take ((wrap64 ((wrap64 (1 + ((rd_T115 y244 0).f3))) + ((rd_T115 y244 0).f4))) : Int).toNat).drop ((wrap64 (1 + ((rd_T115 y244 0).f3))) : Int).toNat) (wrap64 (a1 + 1))).bind fun t264 => (if t264 = true then ((impl_oFormula.f kj7 (y244.drop ((wrap64 ((wrap64 (1 + ((rd_T115 y244 0).f3))) + ((rd_T115 y244 0).f4))) : Int).toNat) (wrap64 (a1 + 1))).bind fun t265 => (impl_oFormula.j3 kj7 l0 a1 x5_2 y244 y251 (!t265) ((rd_T115 l0 x5_2).f0) ((rd_T115 l0 x5_2).f1) ((rd_T115 l0 x5_2).f2) ((rd_T115 l0 x5_2).f3) ((rd_T115 l0 x5_2).f4) ((rd_T115 l0 x5_2).f5))) else (impl_oFormula.j3 kj7 l0 a1 x5_2 y244 y251 true ((rd_T115 l0 x5_2).f0) ((rd_T115 l0 x5_2).f1) ((rd_T115 l0 x5_2).f2) ((rd_T115 l0 x5_2).f3) ((rd_T115 l0 x5_2).f4) ((rd_T115 l0 x5_2).f5)))) else (impl_oFormula.j3 kj7 l0 a1 x5_2 y244 y251 true ((rd_T115 l0 x5_2).f0) ((rd_T115 l0 x5_2).f1) ((rd_T115 l0 x5_2).f2) ((rd_T115 l0 x5_2).f3) ((rd_T115 l0 x5_2).f4) ((rd_T115 l0 x5_2).f5)))) else (none)) else (none)) else (none)) else (none))) else (none)) else (none)) else (none))) else (none)) else (none)) else (none)) = some r := by rw [if_neg (show ¬ (false = true) by decide)] at H; exact H
             clear H
             have H := H1
             clear H1
             by_cases c27 : 0 ≤ x5_2
             ·rw [if_pos c27] at H
              have c27b0 := eq_true c27
              have c27b1 : decide (0 ≤ x5_2) = true := decide_eq_true c27
              clear c27
              by_cases c28 : x5_2 ≤ (wrap64 ((wrap64 (x5_2 + 1)) + (wrap64 ((wrap64 (((rd_T115 l0 x5_2).f3) + ((rd_T115 l0 x5_2).f4))) + ((rd_T115 l0 x5_2).f5)))))
              ·rw [if_pos c28] at H
               have c28b0 := eq_true c28
               have c28b1 : decide (x5_2 ≤ (wrap64 ((wrap64 (x5_2 + 1)) + (wrap64 ((wrap64 (((rd_T115 l0 x5_2).f3) + ((rd_T115 l0 x5_2).f4))) + ((rd_T115 l0 x5_2).f5)))))) = true := decide_eq_true c28
               by_cases c29 : (wrap64 ((wrap64 (x5_2 + 1)) + (wrap64 ((wrap64 (((rd_T115 l0 x5_2).f3) + ((rd_T115 l0 x5_2).f4))) + ((rd_T115 l0 x5_2).f5))))) ≤ (l0.length : Int)
               ·rw [if_pos c29] at H
                have c29b0 := eq_true c29
                have c29b1 : decide ((wrap64 ((wrap64 (x5_2 + 1)) + (wrap64 ((wrap64 (((rd_T115 l0 x5_2).f3) + ((rd_T115 l0 x5_2).f4))) + ((rd_T115 l0 x5_2).f5))))) ≤ (l0.length : Int)) = true := decide_eq_true c29
                obtain ⟨y244, hy244⟩ : ∃ y_ : List (S115), y_ = ((l0.take ((wrap64 ((wrap64 (x5_2 + 1)) + (wrap64 ((wrap64 (((rd_T115 l0 x5_2).f3) + ((rd_T115 l0 x5_2).f4))) + ((rd_T115 l0 x5_2).f5))))) : Int).toNat).drop (x5_2 : Int).toNat) := ⟨_, rfl⟩
                replace H : (if 0 < (y244.length : Int) then (if 1 ≤ (wrap64 (1 + ((rd_T115 y244 0).f3))) then (if (wrap64 (1 + ((rd_T115 y244 0).f3))) ≤ (y244.length : Int) then ((some ((y244.take ((wrap64 (1 + ((rd_T115 y244 0).f3))) : Int).toNat).drop 1 : List (S115))).bind fun y251 => (if 0 ≤ (wrap64 (1 + ((rd_T115 y244 0).f3))) then (if (wrap64 (1 + ((rd_T115 y244 0).f3))) ≤ (wrap64 ((wrap64 (1 + ((rd_T115 y244 0).f3))) + ((rd_T115 y244 0).f4))) then (if (wrap64 ((wrap64 (1 + ((rd_T115 y244 0).f3))) + ((rd_T115 y244 0).f4))) ≤ (y244.length : Int) then (if 0 ≤ (wrap64 ((wrap64 (1 + ((rd_T115 y244 0).f3))) + ((rd_T115 y244 0).f4))) then ((impl_oFormula.f kj7 y251 (wrap64 (a1 + 1))).bind fun t263 => (if t263 = true then ((impl_oFormula.f kj7 ((y244.take ((wrap64 ((wrap64 (1 + ((rd_T115 y244 0).f3))) + ((rd_T115 y244 0).f4))) : Int).toNat).drop ((wrap64 (1 + ((rd_T115 y244 0).f3))) : Int).toNat) (wrap64 (a1 + 1))).bind fun t264 => (if t264 = true then ((impl_oFormula.f kj7 (y244.drop ((wrap64 ((wrap64 (1 + ((rd_T115 y244 0).f3))) + ((rd_T115 y244 0).f4))) : Int).toNat) (wrap64 (a1 + 1))).bind fun t265 => (impl_oFormula.j3 kj7 l0 a1 x5_2 y244 y251 (!t265) ((rd_T115 l0 x5_2).f0) ((rd_T115 l0 x5_2).f1) ((rd_T115 l0 x5_2).f2) ((rd_T115 l0 x5_2).f3) ((rd_T115 l0 x5_2).f4) ((rd_T115 l0 x5_2).f5))) else (impl_oFormula.j3 kj7 l0 a1 x5_2 y244 y251 true ((rd_T115 l0 x5_2).f0) ((rd_T115 l0 x5_2).f1) ((rd_T115 l0 x5_2).f2) ((rd_T115 l0 x5_2).f3) ((rd_T115 l0 x5_2).f4) ((rd_T115 l0 x5_2).f5)))) else (impl_oFormula.j3 kj7 l0 a1 x5_2 y244 y251 true ((rd_T115 l0 x5_2).f0) ((rd_T115 l0 x5_2).f1) ((rd_T115 l0 x5_2).f2) ((rd_T115 l0 x5_2).f3) ((rd_T115 l0 x5_2).f4) ((rd_T115 l0 x5_2).f5)))) else (none)) else (none)) else (none)) else (none))) else (none)) else (none)) else (none)) = some r := by first | (rw [hy244]; with_reducible exact H) | (have H2_ := (Option.bind_some _ _).symm.trans H; rw [hy244]; with_reducible exact H2_) | (have H2_ := (Option.bind_some _ _).symm.trans H; with_reducible exact H2_) | with_reducible exact H | (rw [hy244]; exact H) | exact H
                have Ny244 := Aside0.mk hy244
                clear hy244
                by_cases c30 : 0 < (y244.length : Int)
                ·rw [if_pos c30] at H
                 have c30b0 : decide (0 < (y244.length : Int)) = true := decide_eq_true c30
                 have c30b1 : decide (0 < y244.length) = true := decide_eq_true (by omega)
                 clear c30
                 by_cases c31 : 1 ≤ (wrap64 (1 + ((rd_T115 y244 0).f3)))
                 ·rw [if_pos c31] at H
                  have c31b0 := eq_true c31
                  have c31b1 : decide (1 ≤ (wrap64 (1 + ((rd_T115 y244 0).f3)))) = true := decide_eq_true c31
                  by_cases c32 : (wrap64 (1 + ((rd_T115 y244 0).f3))) ≤ (y244.length : Int)
                  ·rw [if_pos c32] at H
                   have c32b0 := eq_true c32
                   have c32b1 : decide ((wrap64 (1 + ((rd_T115 y244 0).f3))) ≤ (y244.length : Int)) = true := decide_eq_true c32
                   obtain ⟨y251, hy251⟩ : ∃ y_ : List (S115), y_ = ((y244.take ((wrap64 (1 + ((rd_T115 y244 0).f3))) : Int).toNat).drop 1) := ⟨_, rfl⟩
                   replace H : (if 0 ≤ (wrap64 (1 + ((rd_T115 y244 0).f3))) then (if (wrap64 (1 + ((rd_T115 y244 0).f3))) ≤ (wrap64 ((wrap64 (1 + ((rd_T115 y244 0).f3))) + ((rd_T115 y244 0).f4))) then (if (wrap64 ((wrap64 (1 + ((rd_T115 y244 0).f3))) + ((rd_T115 y244 0).f4))) ≤ (y244.length : Int) then (if 0 ≤ (wrap64 ((wrap64 (1 + ((rd_T115 y244 0).f3))) + ((rd_T115 y244 0).f4))) then ((impl_oFormula.f kj7 y251 (wrap64 (a1 + 1))).bind fun t263 => (if t263 = true then ((impl_oFormula.f kj7 ((y244.take ((wrap64 ((wrap64 (1 + ((rd_T115 y244 0).f3))) + ((rd_T115 y244 0).f4))) : Int).toNat).drop ((wrap64 (1 + ((rd_T115 y244 0).f3))) : Int).toNat) (wrap64 (a1 + 1))).bind fun t264 => (if t264 = true then ((impl_oFormula.f kj7 (y244.drop ((wrap64 ((wrap64 (1 + ((rd_T115 y244 0).f3))) + ((rd_T115 y244 0).f4))) : Int).toNat) (wrap64 (a1 + 1))).bind fun t265 => (impl_oFormula.j3 kj7 l0 a1 x5_2 y244 y251 (!t265) ((rd_T115 l0 x5_2).f0) ((rd_T115 l0 x5_2).f1) ((rd_T115 l0 x5_2).f2) ((rd_T115 l0 x5_2).f3) ((rd_T115 l0 x5_2).f4) ((rd_T115 l0 x5_2).f5))) else (impl_oFormula.j3 kj7 l0 a1 x5_2 y244 y251 true ((rd_T115 l0 x5_2).f0) ((rd_T115 l0 x5_2).f1) ((rd_T115 l0 x5_2).f2) ((rd_T115 l0 x5_2).f3) ((rd_T115 l0 x5_2).f4) ((rd_T115 l0 x5_2).f5)))) else (impl_oFormula.j3 kj7 l0 a1 x5_2 y244 y251 true ((rd_T115 l0 x5_2).f0) ((rd_T115 l0 x5_2).f1) ((rd_T115 l0 x5_2).f2) ((rd_T115 l0 x5_2).f3) ((rd_T115 l0 x5_2).f4) ((rd_T115 l0 x5_2).f5)))) else (none)) else (none)) else (none)) else (none)) = some r := by first | (rw [hy251]; with_reducible exact H) | (have H2_ := (Option.bind_some _ _).symm.trans H; rw [hy251]; with_reducible exact H2_) | (have H2_ := (Option.bind_some _ _).symm.trans H; with_reducible exact H2_) | with_reducible exact H | (rw [hy251]; exact H) | exact H
                   have Ny251 := Aside0.mk hy251
                   clear hy251
                   obtain ⟨ji33, hji33⟩ : ∃ j_ : Int, (wrap64 (1 + ((rd_T115 y244 0).f3))) = j_ := ⟨_, rfl⟩
                   replace H : (if 0 ≤ (ji33) then (if (ji33) ≤ (wrap64 ((ji33) + ((rd_T115 y244 0).f4))) then (if (wrap64 ((ji33) + ((rd_T115 y244 0).f4))) ≤ (y244.length : Int) then (if 0 ≤ (wrap64 ((ji33) + ((rd_T115 y244 0).f4))) then ((impl_oFormula.f kj7 y251 (wrap64 (a1 + 1))).bind fun t263 => (if t263 = true then ((impl_oFormula.f kj7 ((y244.take ((wrap64 ((ji33) + ((rd_T115 y244 0).f4))) : Int).toNat).drop ((ji33) : Int).toNat) (wrap64 (a1 + 1))).bind fun t264 => (if t264 = true then ((impl_oFormula.f kj7 (y244.drop ((wrap64 ((ji33) + ((rd_T115 y244 0).f4))) : Int).toNat) (wrap64 (a1 + 1))).bind fun t265 => (impl_oFormula.j3 kj7 l0 a1 x5_2 y244 y251 (!t265) ((rd_T115 l0 x5_2).f0) ((rd_T115 l0 x5_2).f1) ((rd_T115 l0 x5_2).f2) ((rd_T115 l0 x5_2).f3) ((rd_T115 l0 x5_2).f4) ((rd_T115 l0 x5_2).f5))) else (impl_oFormula.j3 kj7 l0 a1 x5_2 y244 y251 true ((rd_T115 l0 x5_2).f0) ((rd_T115 l0 x5_2).f1) ((rd_T115 l0 x5_2).f2) ((rd_T115 l0 x5_2).f3) ((rd_T115 l0 x5_2).f4) ((rd_T115 l0 x5_2).f5)))) else (impl_oFormula.j3 kj7 l0 a1 x5_2 y244 y251 true ((rd_T115 l0 x5_2).f0) ((rd_T115 l0 x5_2).f1) ((rd_T115 l0 x5_2).f2) ((rd_T115 l0 x5_2).f3) ((rd_T115 l0 x5_2).f4) ((rd_T115 l0 x5_2).f5)))) else (none)) else (none)) else (none)) else (none)) = some r := by first | (rw [hji33] at H; exact H) | (simp only [hji33] at H ⊢; exact H)
                   (try rw [hji33] at c31b0)
                   (try rw [hji33] at c31b1)
                   (try rw [hji33] at c31)
                   (try rw [hji33] at c32b0)
                   (try rw [hji33] at c32b1)
                   (try rw [hji33] at c32)
                   (try rw [hji33] at Ny251)
                   have hji33w : (IntKind.i64.wrap (1 + ((rd_T115 y244 0).f3))) = ji33 := (i64_w _).trans hji33
                   by_cases c34 : 0 ≤ (ji33)
                   ·rw [if_pos c34] at H
                    have c34b0 := eq_true c34
                    have c34b1 : decide (0 ≤ (ji33)) = true := decide_eq_true c34
                    clear c34
                    by_cases c35 : (ji33) ≤ (wrap64 ((ji33) + ((rd_T115 y244 0).f4)))
                    ·rw [if_pos c35] at H
                     have c35b0 := eq_true c35
                     have c35b1 : decide ((ji33) ≤ (wrap64 ((ji33) + ((rd_T115 y244 0).f4)))) = true := decide_eq_true c35
                     by_cases c36 : (wrap64 ((ji33) + ((rd_T115 y244 0).f4))) ≤ (y244.length : Int)
                     ·rw [if_pos c36] at H
                      have c36b0 := eq_true c36
                      have c36b1 : decide ((wrap64 ((ji33) + ((rd_T115 y244 0).f4))) ≤ (y244.length : Int)) = true := decide_eq_true c36
                      obtain ⟨y255, hy255⟩ : ∃ y_ : List (S115), y_ = ((y244.take ((wrap64 ((ji33) + ((rd_T115 y244 0).f4))) : Int).toNat).drop ((ji33) : Int).toNat) := ⟨_, rfl⟩
                      replace H : (if 0 ≤ (wrap64 ((ji33) + ((rd_T115 y244 0).f4))) then ((impl_oFormula.f kj7 y251 (wrap64 (a1 + 1))).bind fun t263 => (if t263 = true then ((impl_oFormula.f kj7 y255 (wrap64 (a1 + 1))).bind fun t264 => (if t264 = true then ((impl_oFormula.f kj7 (y244.drop ((wrap64 ((ji33) + ((rd_T115 y244 0).f4))) : Int).toNat) (wrap64 (a1 + 1))).bind fun t265 => (impl_oFormula.j3 kj7 l0 a1 x5_2 y244 y251 (!t265) ((rd_T115 l0 x5_2).f0) ((rd_T115 l0 x5_2).f1) ((rd_T115 l0 x5_2).f2) ((rd_T115 l0 x5_2).f3) ((rd_T115 l0 x5_2).f4) ((rd_T115 l0 x5_2).f5))) else (impl_oFormula.j3 kj7 l0 a1 x5_2 y244 y251 true ((rd_T115 l0 x5_2).f0) ((rd_T115 l0 x5_2).f1) ((rd_T115 l0 x5_2).f2) ((rd_T115 l0 x5_2).f3) ((rd_T115 l0 x5_2).f4) ((rd_T115 l0 x5_2).f5)))) else (impl_oFormula.j3 kj7 l0 a1 x5_2 y244 y251 true ((rd_T115 l0 x5_2).f0) ((rd_T115 l0 x5_2).f1) ((rd_T115 l0 x5_2).f2) ((rd_T115 l0 x5_2).f3) ((rd_T115 l0 x5_2).f4) ((rd_T115 l0 x5_2).f5)))) else (none)) = some r := by first | (rw [hy255]; with_reducible exact H) | (have H2_ := (Option.bind_some _ _).symm.trans H; rw [hy255]; with_reducible exact H2_) | (have H2_ := (Option.bind_some _ _).symm.trans H; with_reducible exact H2_) | with_reducible exact H | (rw [hy255]; exact H) | exact H
                      have Ny255 := Aside0.mk hy255
                      clear hy255
                      obtain ⟨ji37, hji37⟩ : ∃ j_ : Int, (wrap64 ((ji33) + ((rd_T115 y244 0).f4))) = j_ := ⟨_, rfl⟩
                      replace H : (if 0 ≤ (ji37) then ((impl_oFormula.f kj7 y251 (wrap64 (a1 + 1))).bind fun t263 => (if t263 = true then ((impl_oFormula.f kj7 y255 (wrap64 (a1 + 1))).bind fun t264 => (if t264 = true then ((impl_oFormula.f kj7 (y244.drop ((ji37) : Int).toNat) (wrap64 (a1 + 1))).bind fun t265 => (impl_oFormula.j3 kj7 l0 a1 x5_2 y244 y251 (!t265) ((rd_T115 l0 x5_2).f0) ((rd_T115 l0 x5_2).f1) ((rd_T115 l0 x5_2).f2) ((rd_T115 l0 x5_2).f3) ((rd_T115 l0 x5_2).f4) ((rd_T115 l0 x5_2).f5))) else (impl_oFormula.j3 kj7 l0 a1 x5_2 y244 y251 true ((rd_T115 l0 x5_2).f0) ((rd_T115 l0 x5_2).f1) ((rd_T115 l0 x5_2).f2) ((rd_T115 l0 x5_2).f3) ((rd_T115 l0 x5_2).f4) ((rd_T115 l0 x5_2).f5)))) else (impl_oFormula.j3 kj7 l0 a1 x5_2 y244 y251 true ((rd_T115 l0 x5_2).f0) ((rd_T115 l0 x5_2).f1) ((rd_T115 l0 x5_2).f2) ((rd_T115 l0 x5_2).f3) ((rd_T115 l0 x5_2).f4) ((rd_T115 l0 x5_2).f5)))) else (none)) = some r := by first | (rw [hji37] at H; exact H) | (simp only [hji37] at H ⊢; exact H)
                      (try rw [hji37] at c35b0)
                      (try rw [hji37] at c35b1)
                      (try rw [hji37] at c35)
                      (try rw [hji37] at c36b0)
                      (try rw [hji37] at c36b1)
                      (try rw [hji37] at c36)
                      (try rw [hji37] at Ny255)
                      have hji37w : (IntKind.i64.wrap ((ji33) + ((rd_T115 y244 0).f4))) = ji37 := (i64_w _).trans hji37
                      by_cases c38 : 0 ≤ (ji37)
                      ·rw [if_pos c38] at H
                       have c38b0 := eq_true c38
                       have c38b1 : decide (0 ≤ (ji37)) = true := decide_eq_true c38
                       clear c38
                       have c39b0 := eq_true (of_decide_eq_true (by first | (with_reducible assumption) | assumption) : (ji37) ≤ (y244.length : Int))
                       obtain ⟨y259, hy259⟩ : ∃ y_ : List (S115), y_ = (y244.drop ((ji37) : Int).toNat) := ⟨_, rfl⟩
                       replace H : ((impl_oFormula.f kj7 y251 (wrap64 (a1 + 1))).bind fun t263 => (if t263 = true then ((impl_oFormula.f kj7 y255 (wrap64 (a1 + 1))).bind fun t264 => (if t264 = true then ((impl_oFormula.f kj7 y259 (wrap64 (a1 + 1))).bind fun t265 => (impl_oFormula.j3 kj7 l0 a1 x5_2 y244 y251 (!t265) ((rd_T115 l0 x5_2).f0) ((rd_T115 l0 x5_2).f1) ((rd_T115 l0 x5_2).f2) ((rd_T115 l0 x5_2).f3) ((rd_T115 l0 x5_2).f4) ((rd_T115 l0 x5_2).f5))) else (impl_oFormula.j3 kj7 l0 a1 x5_2 y244 y251 true ((rd_T115 l0 x5_2).f0) ((rd_T115 l0 x5_2).f1) ((rd_T115 l0 x5_2).f2) ((rd_T115 l0 x5_2).f3) ((rd_T115 l0 x5_2).f4) ((rd_T115 l0 x5_2).f5)))) else (impl_oFormula.j3 kj7 l0 a1 x5_2 y244 y251 true ((rd_T115 l0 x5_2).f0) ((rd_T115 l0 x5_2).f1) ((rd_T115 l0 x5_2).f2) ((rd_T115 l0 x5_2).f3) ((rd_T115 l0 x5_2).f4) ((rd_T115 l0 x5_2).f5)))) = some r := by first | (rw [hy259]; with_reducible exact H) | (have H2_ := (Option.bind_some _ _).symm.trans H; rw [hy259]; with_reducible exact H2_) | (have H2_ := (Option.bind_some _ _).symm.trans H; with_reducible exact H2_) | with_reducible exact H | (rw [hy259]; exact H) | exact H
                       have Ny259 := Aside0.mk hy259
                       clear hy259
                       have HC40 := Aside0.mk H
                       clear H
                       have hcz41_0 : wc.cell? ⟨gb243, 0, none⟩ = some (.int .i64 ((rd_T115 l0 x5_2).f0)) := (blk_cell BK243.out 0).trans rfl
                       have hcz41_1 : wc.cell? ⟨gb243, 1, none⟩ = some (.int .i64 ((rd_T115 l0 x5_2).f1)) := (blk_cell BK243.out 1).trans rfl
                       have hcz41_2 : wc.cell? ⟨gb243, 2, none⟩ = some (.int .i64 ((rd_T115 l0 x5_2).f2)) := (blk_cell BK243.out 2).trans rfl
                       have hcz41_3 : wc.cell? ⟨gb243, 3, none⟩ = some (.int .i64 ((rd_T115 l0 x5_2).f3)) := (blk_cell BK243.out 3).trans rfl
                       have hcz41_4 : wc.cell? ⟨gb243, 4, none⟩ = some (.int .i64 ((rd_T115 l0 x5_2).f4)) := (blk_cell BK243.out 4).trans rfl
                       have hcz41_5 : wc.cell? ⟨gb243, 5, none⟩ = some (.int .i64 ((rd_T115 l0 x5_2).f5)) := (blk_cell BK243.out 5).trans rfl
                       have hfz41_0 := blk_frozen BK243.out 0
                       have hfz41_1 := blk_frozen BK243.out 1
                       have hfz41_2 := blk_frozen BK243.out 2
                       have hfz41_3 := blk_frozen BK243.out 3
                       have hfz41_4 := blk_frozen BK243.out 4
                       have hfz41_5 := blk_frozen BK243.out 5
                       have q42 : ((wrap64 ((wrap64 (x5_2 + 1)) + (wrap64 ((wrap64 (((rd_T115 l0 x5_2).f3) + ((rd_T115 l0 x5_2).f4))) + ((rd_T115 l0 x5_2).f5))))) : Int) ≤ ((l0.length : Int) : Int) := of_decide_eq_true (by first | (with_reducible assumption) | assumption)
                       obtain ⟨i042, hi042, _, hsz42, _⟩ := info_parts info115
                       have hroom42 : l0.length ≤ c0 := HC0.out
                       have hC42 : Kd.C k115 _ (some ad242) l0.length l0 := HR0.out
                       have ql42 : (x5_2 : Int) ≤ ((wrap64 ((wrap64 (x5_2 + 1)) + (wrap64 ((wrap64 (((rd_T115 l0 x5_2).f3) + ((rd_T115 l0 x5_2).f4))) + ((rd_T115 l0 x5_2).f5))))) : Int) := of_decide_eq_true (by first | (with_reducible assumption) | assumption)
                       have q042 : (0 : Int) ≤ (x5_2 : Int) := of_decide_eq_true (by first | (with_reducible assumption) | assumption)
                       have hcut42 := cut_mid (P := Try.prog) 26 115 .i64 .i64 Try.underlying26 hi042 6 hsz42 (some ad242) l0.length c0 x5_2 (wrap64 ((wrap64 (x5_2 + 1)) + (wrap64 ((wrap64 (((rd_T115 l0 x5_2).f3) + ((rd_T115 l0 x5_2).f4))) + ((rd_T115 l0 x5_2).f5))))) q042 ql42 q42 hroom42
                       have hr42 := Kd.C_mid (lo := (x5_2 : Int).toNat) (hi := ((wrap64 ((wrap64 (x5_2 + 1)) + (wrap64 ((wrap64 (((rd_T115 l0 x5_2).f3) + ((rd_T115 l0 x5_2).f4))) + ((rd_T115 l0 x5_2).f5))))) : Int).toNat) (c := c0) hC42 (by omega) (by omega) hroom42
                       obtain ⟨A42, hA42⟩ : ∃ A1, A1 = (if c0 = (x5_2 : Int).toNat then (some ad242) else ((some ad242) : Option Addr).map (·.add ((x5_2 : Int).toNat * 6))) := ⟨_, rfl⟩
                       obtain ⟨c42, hc42⟩ : ∃ c1, c1 = c0 - (x5_2 : Int).toNat := ⟨_, rfl⟩
                       have hy42 : y244.length = ((wrap64 ((wrap64 (x5_2 + 1)) + (wrap64 ((wrap64 (((rd_T115 l0 x5_2).f3) + ((rd_T115 l0 x5_2).f4))) + ((rd_T115 l0 x5_2).f5))))) : Int).toNat - (x5_2 : Int).toNat := (by rw [Ny244.out, List.length_drop, List.length_take] <;> omega)
                       rw [show ((l0).take ((wrap64 ((wrap64 (x5_2 + 1)) + (wrap64 ((wrap64 (((rd_T115 l0 x5_2).f3) + ((rd_T115 l0 x5_2).f4))) + ((rd_T115 l0 x5_2).f5))))) : Int).toNat).drop (x5_2 : Int).toNat = y244 from Ny244.out.symm] at hr42
                       replace hr42 : Kd.C k115 _ A42 y244.length y244 := (by rw [hA42]; exact hr42)
                       rw [← hy42, ← hA42, ← hc42] at hcut42
                       have HR247 := Aside0.mk hr42
                       have HC247 := Aside0.mk (show y244.length ≤ c42 from by rw [hy42, hc42]; exact Nat.sub_le_sub_right (Nat.le_trans (by omega) hroom42) _)
                       clear hr42 hC42 hroom42 hi042 hsz42 hc42
                       have KY42 := Aside0.mk hy42
                       have KA42 := Aside0.mk hA42
                       clear hy42 hA42
                       replace q42 := eq_true q42
                       have p248 : 0 ≤ (0 : Int) := (by omega)
                       have q248 : 0 < (y244.length : Int) := of_decide_eq_true (by first | (with_reducible assumption) | assumption)
                       obtain ⟨ad248, e248, hx248_0, hx248_1, hx248_2, hx248_3, hx248_4, hx248_5⟩ := at_T115 HR247.out 0 p248 q248
                       cases e248
                       have qi248 : (0 < y244.length) = True := eq_true (by omega)
                       (try rw [show ((0 : Int)).toNat = 0 from rfl] at hx248_0)
                       (try rw [show 0 * 6 = 0 from rfl] at hx248_0)
                       (try rw [Addr.add_zero'] at hx248_0)
                       (try rw [show ((0 : Int)).toNat = 0 from rfl] at hx248_1)
                       (try rw [show 0 * 6 = 0 from rfl] at hx248_1)
                       (try rw [Addr.add_zero'] at hx248_1)
                       (try rw [show ((0 : Int)).toNat = 0 from rfl] at hx248_2)
                       (try rw [show 0 * 6 = 0 from rfl] at hx248_2)
                       (try rw [Addr.add_zero'] at hx248_2)
                       (try rw [show ((0 : Int)).toNat = 0 from rfl] at hx248_3)
                       (try rw [show 0 * 6 = 0 from rfl] at hx248_3)
                       (try rw [Addr.add_zero'] at hx248_3)
                       (try rw [show ((0 : Int)).toNat = 0 from rfl] at hx248_4)
                       (try rw [show 0 * 6 = 0 from rfl] at hx248_4)
                       (try rw [Addr.add_zero'] at hx248_4)
                       (try rw [show ((0 : Int)).toNat = 0 from rfl] at hx248_5)
                       (try rw [show 0 * 6 = 0 from rfl] at hx248_5)
                       (try rw [Addr.add_zero'] at hx248_5)
                       replace hx248_0 := (HB.out.cell (World.block_lt_of_cell? w _ hx248_0)).trans hx248_0
                       replace hx248_1 := (HB.out.cell (World.block_lt_of_cell? w _ hx248_1)).trans hx248_1
                       replace hx248_2 := (HB.out.cell (World.block_lt_of_cell? w _ hx248_2)).trans hx248_2
                       replace hx248_3 := (HB.out.cell (World.block_lt_of_cell? w _ hx248_3)).trans hx248_3
                       replace hx248_4 := (HB.out.cell (World.block_lt_of_cell? w _ hx248_4)).trans hx248_4
                       replace hx248_5 := (HB.out.cell (World.block_lt_of_cell? w _ hx248_5)).trans hx248_5
                       replace p248 := eq_true p248
                       replace q248 := eq_true q248
                       have p249 : 0 ≤ (0 : Int) := (by omega)
                       have q249 : 0 < (y244.length : Int) := of_decide_eq_true (by first | (with_reducible assumption) | assumption)
                       obtain ⟨ad249, e249, hx249_0, hx249_1, hx249_2, hx249_3, hx249_4, hx249_5⟩ := at_T115 HR247.out 0 p249 q249
                       obtain rfl : ad248 = ad249 := (by injection e249)
                       have qi249 : (0 < y244.length) = True := eq_true (by omega)
                       (try rw [show ((0 : Int)).toNat = 0 from rfl] at hx249_0)
                       (try rw [show 0 * 6 = 0 from rfl] at hx249_0)
                       (try rw [Addr.add_zero'] at hx249_0)
                       (try rw [show ((0 : Int)).toNat = 0 from rfl] at hx249_1)
                       (try rw [show 0 * 6 = 0 from rfl] at hx249_1)
                       (try rw [Addr.add_zero'] at hx249_1)
                       (try rw [show ((0 : Int)).toNat = 0 from rfl] at hx249_2)
                       (try rw [show 0 * 6 = 0 from rfl] at hx249_2)
                       (try rw [Addr.add_zero'] at hx249_2)
                       (try rw [show ((0 : Int)).toNat = 0 from rfl] at hx249_3)
                       (try rw [show 0 * 6 = 0 from rfl] at hx249_3)
                       (try rw [Addr.add_zero'] at hx249_3)
                       (try rw [show ((0 : Int)).toNat = 0 from rfl] at hx249_4)
                       (try rw [show 0 * 6 = 0 from rfl] at hx249_4)
                       (try rw [Addr.add_zero'] at hx249_4)
                       (try rw [show ((0 : Int)).toNat = 0 from rfl] at hx249_5)
                       (try rw [show 0 * 6 = 0 from rfl] at hx249_5)
                       (try rw [Addr.add_zero'] at hx249_5)
                       replace hx249_0 := (HB.out.cell (World.block_lt_of_cell? w _ hx249_0)).trans hx249_0
                       replace hx249_1 := (HB.out.cell (World.block_lt_of_cell? w _ hx249_1)).trans hx249_1
                       replace hx249_2 := (HB.out.cell (World.block_lt_of_cell? w _ hx249_2)).trans hx249_2
                       replace hx249_3 := (HB.out.cell (World.block_lt_of_cell? w _ hx249_3)).trans hx249_3
                       replace hx249_4 := (HB.out.cell (World.block_lt_of_cell? w _ hx249_4)).trans hx249_4
                       replace hx249_5 := (HB.out.cell (World.block_lt_of_cell? w _ hx249_5)).trans hx249_5
                       replace p249 := eq_true p249
                       replace q249 := eq_true q249
                       have p250 : 0 ≤ (0 : Int) := (by omega)
                       have q250 : 0 < (y244.length : Int) := of_decide_eq_true (by first | (with_reducible assumption) | assumption)
                       obtain ⟨ad250, e250, hx250_0, hx250_1, hx250_2, hx250_3, hx250_4, hx250_5⟩ := at_T115 HR247.out 0 p250 q250
                       obtain rfl : ad248 = ad250 := (by injection e250)
                       have qi250 : (0 < y244.length) = True := eq_true (by omega)
                       (try rw [show ((0 : Int)).toNat = 0 from rfl] at hx250_0)
                       (try rw [show 0 * 6 = 0 from rfl] at hx250_0)
                       (try rw [Addr.add_zero'] at hx250_0)
                       (try rw [show ((0 : Int)).toNat = 0 from rfl] at hx250_1)
                       (try rw [show 0 * 6 = 0 from rfl] at hx250_1)
                       (try rw [Addr.add_zero'] at hx250_1)
                       (try rw [show ((0 : Int)).toNat = 0 from rfl] at hx250_2)
                       (try rw [show 0 * 6 = 0 from rfl] at hx250_2)
                       (try rw [Addr.add_zero'] at hx250_2)
                       (try rw [show ((0 : Int)).toNat = 0 from rfl] at hx250_3)
                       (try rw [show 0 * 6 = 0 from rfl] at hx250_3)
                       (try rw [Addr.add_zero'] at hx250_3)
                       (try rw [show ((0 : Int)).toNat = 0 from rfl] at hx250_4)
                       (try rw [show 0 * 6 = 0 from rfl] at hx250_4)
                       (try rw [Addr.add_zero'] at hx250_4)
                       (try rw [show ((0 : Int)).toNat = 0 from rfl] at hx250_5)
                       (try rw [show 0 * 6 = 0 from rfl] at hx250_5)
                       (try rw [Addr.add_zero'] at hx250_5)
                       replace hx250_0 := (HB.out.cell (World.block_lt_of_cell? w _ hx250_0)).trans hx250_0
                       replace hx250_1 := (HB.out.cell (World.block_lt_of_cell? w _ hx250_1)).trans hx250_1
                       replace hx250_2 := (HB.out.cell (World.block_lt_of_cell? w _ hx250_2)).trans hx250_2
                       replace hx250_3 := (HB.out.cell (World.block_lt_of_cell? w _ hx250_3)).trans hx250_3
                       replace hx250_4 := (HB.out.cell (World.block_lt_of_cell? w _ hx250_4)).trans hx250_4
                       replace hx250_5 := (HB.out.cell (World.block_lt_of_cell? w _ hx250_5)).trans hx250_5
                       replace p250 := eq_true p250
                       replace q250 := eq_true q250
                       have q43 : ((ji33) : Int) ≤ ((y244.length : Int) : Int) := of_decide_eq_true (by first | (with_reducible assumption) | assumption)
                       obtain ⟨i043, hi043, _, hsz43, _⟩ := info_parts info115
                       have hroom43 : y244.length ≤ c42 := HC247.out
                       have hC43 : Kd.C k115 _ (some ad248) y244.length y244 := HR247.out
                       have ql43 : (1 : Int) ≤ ((ji33) : Int) := of_decide_eq_true (by first | (with_reducible assumption) | assumption)
                       have hcut43 := cut_mid (P := Try.prog) 26 115 .i64 .i64 Try.underlying26 hi043 6 hsz43 (some ad248) y244.length c42 1 (ji33) (by omega) ql43 q43 hroom43
                       have hr43 := Kd.C_mid (lo := (1 : Int).toNat) (hi := ((ji33) : Int).toNat) (c := c42) hC43 (by omega) (by omega) hroom43
                       obtain ⟨A43, hA43⟩ : ∃ A1, A1 = (if c42 = (1 : Int).toNat then (some ad248) else ((some ad248) : Option Addr).map (·.add ((1 : Int).toNat * 6))) := ⟨_, rfl⟩
                       obtain ⟨c43, hc43⟩ : ∃ c1, c1 = c42 - (1 : Int).toNat := ⟨_, rfl⟩
                       have hy43 : y251.length = ((ji33) : Int).toNat - (1 : Int).toNat := (by rw [Ny251.out, List.length_drop, List.length_take] <;> omega)
                       rw [show ((y244).take ((ji33) : Int).toNat).drop (1 : Int).toNat = y251 from Ny251.out.symm] at hr43
                       replace hr43 : Kd.C k115 _ A43 y251.length y251 := (by rw [hA43]; exact hr43)
                       rw [← hy43, ← hA43, ← hc43] at hcut43
                       have HR254 := Aside0.mk hr43
                       have HC254 := Aside0.mk (show y251.length ≤ c43 from by rw [hy43, hc43]; exact Nat.sub_le_sub_right (Nat.le_trans (by omega) hroom43) _)
                       clear hr43 hC43 hroom43 hi043 hsz43 hc43
                       have KY43 := Aside0.mk hy43
                       have KA43 := Aside0.mk hA43
                       clear hy43 hA43
                       replace q43 := eq_true q43
                       have q44 : ((ji37) : Int) ≤ ((y244.length : Int) : Int) := of_decide_eq_true (by first | (with_reducible assumption) | assumption)
                       obtain ⟨i044, hi044, _, hsz44, _⟩ := info_parts info115
                       have hroom44 : y244.length ≤ c42 := HC247.out
                       have hC44 : Kd.C k115 _ (some ad248) y244.length y244 := HR247.out
                       have ql44 : ((ji33) : Int) ≤ ((ji37) : Int) := of_decide_eq_true (by first | (with_reducible assumption) | assumption)
                       have q044 : (0 : Int) ≤ ((ji33) : Int) := of_decide_eq_true (by first | (with_reducible assumption) | assumption)
                       have hcut44 := cut_mid (P := Try.prog) 26 115 .i64 .i64 Try.underlying26 hi044 6 hsz44 (some ad248) y244.length c42 (ji33) (ji37) q044 ql44 q44 hroom44
                       have hr44 := Kd.C_mid (lo := ((ji33) : Int).toNat) (hi := ((ji37) : Int).toNat) (c := c42) hC44 (by omega) (by omega) hroom44
                       obtain ⟨A44, hA44⟩ : ∃ A1, A1 = (if c42 = ((ji33) : Int).toNat then (some ad248) else ((some ad248) : Option Addr).map (·.add (((ji33) : Int).toNat * 6))) := ⟨_, rfl⟩
                       obtain ⟨c44, hc44⟩ : ∃ c1, c1 = c42 - ((ji33) : Int).toNat := ⟨_, rfl⟩
                       have hy44 : y255.length = ((ji37) : Int).toNat - ((ji33) : Int).toNat := (by rw [Ny255.out, List.length_drop, List.length_take] <;> omega)
                       rw [show ((y244).take ((ji37) : Int).toNat).drop ((ji33) : Int).toNat = y255 from Ny255.out.symm] at hr44
                       replace hr44 : Kd.C k115 _ A44 y255.length y255 := (by rw [hA44]; exact hr44)
                       rw [← hy44, ← hA44, ← hc44] at hcut44
                       have HR258 := Aside0.mk hr44
                       have HC258 := Aside0.mk (show y255.length ≤ c44 from by rw [hy44, hc44]; exact Nat.sub_le_sub_right (Nat.le_trans (by omega) hroom44) _)
                       clear hr44 hC44 hroom44 hi044 hsz44 hc44
                       have KY44 := Aside0.mk hy44
                       have KA44 := Aside0.mk hA44
                       clear hy44 hA44
                       replace q44 := eq_true q44
                       have q45 : ((ji37) : Int) ≤ ((y244.length : Int) : Int) := of_decide_eq_true (by first | (with_reducible assumption) | assumption)
                       obtain ⟨i045, hi045, _, hsz45, _⟩ := info_parts info115
                       have hroom45 : y244.length ≤ c42 := HC247.out
                       have hC45 : Kd.C k115 _ (some ad248) y244.length y244 := HR247.out
                       have q045 : (0 : Int) ≤ ((ji37) : Int) := of_decide_eq_true (by first | (with_reducible assumption) | assumption)
                       have hcut45 := cut_from (P := Try.prog) 26 115 .i64 Try.underlying26 hi045 6 hsz45 (some ad248) y244.length c42 (ji37) q045 q45
                       have hr45 := Kd.C_drop (m := ((ji37) : Int).toNat) (c := c42) hC45 (by omega) hroom45
                       obtain ⟨A45, hA45⟩ : ∃ A1, A1 = (if c42 = ((ji37) : Int).toNat then (some ad248) else ((some ad248) : Option Addr).map (·.add (((ji37) : Int).toNat * 6))) := ⟨_, rfl⟩
                       obtain ⟨c45, hc45⟩ : ∃ c1, c1 = c42 - ((ji37) : Int).toNat := ⟨_, rfl⟩
                       have hy45 : y259.length = y244.length - ((ji37) : Int).toNat := (by rw [Ny259.out, List.length_drop] <;> omega)
                       rw [show (y244).drop ((ji37) : Int).toNat = y259 from Ny259.out.symm] at hr45
                       replace hr45 : Kd.C k115 _ A45 y259.length y259 := (by rw [hA45]; exact hr45)
                       rw [← hy45, ← hA45, ← hc45] at hcut45
                       have HR262 := Aside0.mk hr45
                       have HC262 := Aside0.mk (show y259.length ≤ c45 from by rw [hy45, hc45]; exact Nat.sub_le_sub_right hroom45 _)
                       clear hr45 hC45 hroom45 hi045 hsz45 hc45
                       have KY45 := Aside0.mk hy45
                       have KA45 := Aside0.mk hA45
                       clear hy45 hA45
                       replace q45 := eq_true q45
                       go_upto_region 11 with (fail)
                       try (go_at_call 167; (refine (impl_oFormula.parts_ _ _ _ _ _ _ _ _ _ _ _ (by with_reducible assumption) (by with_reducible assumption) (by with_reducible assumption) (by with_reducible assumption) (by with_reducible assumption) (by with_reducible assumption) (by with_reducible assumption) (by with_reducible assumption)).mono ?_); rintro e_ w_ ⟨rfl, ⟨nq_, rfl⟩⟩; (try simp only []); go_at_K)
                       try go_upto_region 11 with (fail)
                       go_cut [123] (fun v123 wc => ∃ (kq : Nat) (x123_39 : Bool), v123 = .bool x123_39 ∧ Aside0 (impl_oFormula.j3 kq l0 a1 x5_2 y244 y251 x123_39 ((rd_T115 l0 x5_2).f0) ((rd_T115 l0 x5_2).f1) ((rd_T115 l0 x5_2).f2) ((rd_T115 l0 x5_2).f3) ((rd_T115 l0 x5_2).f4) ((rd_T115 l0 x5_2).f5) = some r) ∧ Aside0 (kq ≤ kj7) ∧ Aside0 (wc.heap[gb243]? = some (.cells #[.int .i64 ((rd_T115 l0 x5_2).f0), .int .i64 ((rd_T115 l0 x5_2).f1), .int .i64 ((rd_T115 l0 x5_2).f2), .int .i64 ((rd_T115 l0 x5_2).f3), .int .i64 ((rd_T115 l0 x5_2).f4), .int .i64 ((rd_T115 l0 x5_2).f5)] 115 (0, 0))) ∧ Aside0 (Below w.heap.size w wc))
                       case first =>
                        as_aux_lemma =>
                         have H := HC40.out
                         clear HC40
                         replace H := Option.bind_eq_some_iff.mp H
                         obtain ⟨t263, A460, H⟩ := H
                         replace H : (if t263 = true then ((impl_oFormula.f kj7 y255 (wrap64 (a1 + 1))).bind fun t264 => (if t264 = true then ((impl_oFormula.f kj7 y259 (wrap64 (a1 + 1))).bind fun t265 => (impl_oFormula.j3 kj7 l0 a1 x5_2 y244 y251 (!t265) ((rd_T115 l0 x5_2).f0) ((rd_T115 l0 x5_2).f1) ((rd_T115 l0 x5_2).f2) ((rd_T115 l0 x5_2).f3) ((rd_T115 l0 x5_2).f4) ((rd_T115 l0 x5_2).f5))) else (impl_oFormula.j3 kj7 l0 a1 x5_2 y244 y251 true ((rd_T115 l0 x5_2).f0) ((rd_T115 l0 x5_2).f1) ((rd_T115 l0 x5_2).f2) ((rd_T115 l0 x5_2).f3) ((rd_T115 l0 x5_2).f4) ((rd_T115 l0 x5_2).f5)))) else (impl_oFormula.j3 kj7 l0 a1 x5_2 y244 y251 true ((rd_T115 l0 x5_2).f0) ((rd_T115 l0 x5_2).f1) ((rd_T115 l0 x5_2).f2) ((rd_T115 l0 x5_2).f3) ((rd_T115 l0 x5_2).f4) ((rd_T115 l0 x5_2).f5))) = some r := H
                         have A46 := Aside0.mk A460
                         clear A460
                         by_cases c47 : t263 = true
                         ·subst c47
                          have H1 : ((impl_oFormula.f kj7 y255 (wrap64 (a1 + 1))).bind fun t264 => (if t264 = true then ((impl_oFormula.f kj7 y259 (wrap64 (a1 + 1))).bind fun t265 => (impl_oFormula.j3 kj7 l0 a1 x5_2 y244 y251 (!t265) ((rd_T115 l0 x5_2).f0) ((rd_T115 l0 x5_2).f1) ((rd_T115 l0 x5_2).f2) ((rd_T115 l0 x5_2).f3) ((rd_T115 l0 x5_2).f4) ((rd_T115 l0 x5_2).f5))) else (impl_oFormula.j3 kj7 l0 a1 x5_2 y244 y251 true ((rd_T115 l0 x5_2).f0) ((rd_T115 l0 x5_2).f1) ((rd_T115 l0 x5_2).f2) ((rd_T115 l0 x5_2).f3) ((rd_T115 l0 x5_2).f4) ((rd_T115 l0 x5_2).f5)))) = some r := by rw [if_pos rfl] at H; exact H
                          clear H
                          have H := H1
                          clear H1
                          replace H := Option.bind_eq_some_iff.mp H
                          obtain ⟨t264, A480, H⟩ := H
                          replace H : (if t264 = true then ((impl_oFormula.f kj7 y259 (wrap64 (a1 + 1))).bind fun t265 => (impl_oFormula.j3 kj7 l0 a1 x5_2 y244 y251 (!t265) ((rd_T115 l0 x5_2).f0) ((rd_T115 l0 x5_2).f1) ((rd_T115 l0 x5_2).f2) ((rd_T115 l0 x5_2).f3) ((rd_T115 l0 x5_2).f4) ((rd_T115 l0 x5_2).f5))) else (impl_oFormula.j3 kj7 l0 a1 x5_2 y244 y251 true ((rd_T115 l0 x5_2).f0) ((rd_T115 l0 x5_2).f1) ((rd_T115 l0 x5_2).f2) ((rd_T115 l0 x5_2).f3) ((rd_T115 l0 x5_2).f4) ((rd_T115 l0 x5_2).f5))) = some r := H
                          have A48 := Aside0.mk A480
                          clear A480
                          by_cases c49 : t264 = true
                          ·subst c49
                           have H1 : ((impl_oFormula.f kj7 y259 (wrap64 (a1 + 1))).bind fun t265 => (impl_oFormula.j3 kj7 l0 a1 x5_2 y244 y251 (!t265) ((rd_T115 l0 x5_2).f0) ((rd_T115 l0 x5_2).f1) ((rd_T115 l0 x5_2).f2) ((rd_T115 l0 x5_2).f3) ((rd_T115 l0 x5_2).f4) ((rd_T115 l0 x5_2).f5))) = some r := by rw [if_pos rfl] at H; exact H
                           clear H
                           have H := H1
                           clear H1
                           replace H := Option.bind_eq_some_iff.mp H
                           obtain ⟨t265, A500, H⟩ := H
                           replace H : (impl_oFormula.j3 kj7 l0 a1 x5_2 y244 y251 (!t265) ((rd_T115 l0 x5_2).f0) ((rd_T115 l0 x5_2).f1) ((rd_T115 l0 x5_2).f2) ((rd_T115 l0 x5_2).f3) ((rd_T115 l0 x5_2).f4) ((rd_T115 l0 x5_2).f5)) = some r := H
                           have A50 := Aside0.mk A500
                           clear A500
                           have H' := Aside0.mk H
                           clear H
                           go_wp2_with (first | ((with_reducible refine gate_callee (f := 130) rfl ?_); refine goesL_ (some 108) rfl rfl Try.func130 (by kernel_rfl) rfl #[.slice A43 y251.length c43, .int .i64 (wrap64 (a1 + 1))] rfl (by (try simp only [List.map_toArray, List.map_cons, List.map_nil]); first | done | rfl | (simp only [List.length_drop, List.length_take]; rfl)) ?_; (with_reducible refine (ih kj7 (by have := HJ2.out; have := HK2.out; have := HJ7.out; omega) _ _ y251 (wrap64 (a1 + 1)) true _ ?side1 ?side2 A46.out).mono ?_); (case side1 => repeat (first | exact (Kd.C_below HR254.out HB.out) | (with_reducible refine Kd.C_alloc ?_ _) | (with_reducible refine Kd.C_drewN ?_ _) | (with_reducible refine Kd.C_drew ?_))); (case side2 => exact HC254.out); rintro e w51 ⟨rfl, hb⟩; refine ⟨_, rfl, ?_⟩; have n0_ := Aside0.mk (blk_below (g := gb243) (o := .cells #[.int .i64 ((rd_T115 l0 x5_2).f0), .int .i64 ((rd_T115 l0 x5_2).f1), .int .i64 ((rd_T115 l0 x5_2).f2), .int .i64 ((rd_T115 l0 x5_2).f3), .int .i64 ((rd_T115 l0 x5_2).f4), .int .i64 ((rd_T115 l0 x5_2).f5)] 115 (0, 0)) (by (with_reducible repeat (first | refine blk_drewN ?_ _ | refine blk_drew ?_ | refine blk_alloc ?_ _)); exact BK243.out) hb); have n1_ := Aside0.mk (below_step (by repeat (first | (with_reducible first | exact HB.out | apply below_alloc | apply pw_below_drewN | apply below_drew1 | refine below_set ?_ GE243.out) | exact HB.out)) hb); clear BK243; clear HB; have BK243 := n0_; have HB := n1_; clear n0_ n1_; (try clear hb); (try clear hb2); (try clear hk); (try clear hi)) | (go_at_call 130; (with_reducible refine (ih kj7 (by have := HJ2.out; have := HK2.out; have := HJ7.out; omega) _ _ y255 (wrap64 (a1 + 1)) true _ ?side1 ?side2 A48.out).mono ?_); (case side1 => repeat (first | exact (Kd.C_below HR258.out HB.out) | (with_reducible refine Kd.C_alloc ?_ _) | (with_reducible refine Kd.C_drewN ?_ _) | (with_reducible refine Kd.C_drew ?_))); (case side2 => exact HC258.out); rintro e w52 ⟨rfl, hb⟩; have n0_ := Aside0.mk (blk_below (g := gb243) (o := .cells #[.int .i64 ((rd_T115 l0 x5_2).f0), .int .i64 ((rd_T115 l0 x5_2).f1), .int .i64 ((rd_T115 l0 x5_2).f2), .int .i64 ((rd_T115 l0 x5_2).f3), .int .i64 ((rd_T115 l0 x5_2).f4), .int .i64 ((rd_T115 l0 x5_2).f5)] 115 (0, 0)) (by (with_reducible repeat (first | refine blk_drewN ?_ _ | refine blk_drew ?_ | refine blk_alloc ?_ _)); exact BK243.out) hb); have n1_ := Aside0.mk (below_step (by repeat (first | (with_reducible first | exact HB.out | apply below_alloc | apply pw_below_drewN | apply below_drew1 | refine below_set ?_ GE243.out) | exact HB.out)) hb); clear BK243; clear HB; have BK243 := n0_; have HB := n1_; clear n0_ n1_; (try clear hb); (try clear hb2); (try clear hk); (try clear hi)) | (go_at_call 130; (with_reducible refine (ih kj7 (by have := HJ2.out; have := HK2.out; have := HJ7.out; omega) _ _ y259 (wrap64 (a1 + 1)) t265 _ ?side1 ?side2 A50.out).mono ?_); (case side1 => repeat (first | exact (Kd.C_below HR262.out HB.out) | (with_reducible refine Kd.C_alloc ?_ _) | (with_reducible refine Kd.C_drewN ?_ _) | (with_reducible refine Kd.C_drew ?_))); (case side2 => exact HC262.out); rintro e w53 ⟨rfl, hb⟩; have n0_ := Aside0.mk (blk_below (g := gb243) (o := .cells #[.int .i64 ((rd_T115 l0 x5_2).f0), .int .i64 ((rd_T115 l0 x5_2).f1), .int .i64 ((rd_T115 l0 x5_2).f2), .int .i64 ((rd_T115 l0 x5_2).f3), .int .i64 ((rd_T115 l0 x5_2).f4), .int .i64 ((rd_T115 l0 x5_2).f5)] 115 (0, 0)) (by (with_reducible repeat (first | refine blk_drewN ?_ _ | refine blk_drew ?_ | refine blk_alloc ?_ _)); exact BK243.out) hb); have n1_ := Aside0.mk (below_step (by repeat (first | (with_reducible first | exact HB.out | apply below_alloc | apply pw_below_drewN | apply below_drew1 | refine below_set ?_ GE243.out) | exact HB.out)) hb); clear BK243; clear HB; have BK243 := n0_; have HB := n1_; clear n0_ n1_; (try clear hb); (try clear hb2); (try clear hk); (try clear hi)))
                           go_meet
                           case rel => exact ⟨_, (!t265), (by first | rfl | (simp; done) | (simp [*]; done)), H', ⟨by have := HJ2.out; have := HK2.out; have := HJ7.out; first | omega | exact Nat.le_refl _⟩, ⟨by (with_reducible repeat (first | refine blk_drewN ?_ _ | refine blk_drew ?_ | refine blk_alloc ?_ _)); exact BK243.out⟩, ⟨by repeat (first | (with_reducible first | exact HB.out | apply below_alloc | apply pw_below_drewN | apply below_drew1 | refine below_set ?_ GE243.out) | exact HB.out)⟩⟩
                          ·replace c49 := Bool.eq_false_iff.mpr c49
                           subst c49
                           have H1 : (impl_oFormula.j3 kj7 l0 a1 x5_2 y244 y251 true ((rd_T115 l0 x5_2).f0) ((rd_T115 l0 x5_2).f1) ((rd_T115 l0 x5_2).f2) ((rd_T115 l0 x5_2).f3) ((rd_T115 l0 x5_2).f4) ((rd_T115 l0 x5_2).f5)) = some r := by rw [if_neg (show ¬ (false = true) by decide)] at H; exact H
                           clear H
                           have H := H1
                           clear H1
                           have H' := Aside0.mk H
                           clear H
                           go_wp2_with (first | ((with_reducible refine gate_callee (f := 130) rfl ?_); refine goesL_ (some 108) rfl rfl Try.func130 (by kernel_rfl) rfl #[.slice A43 y251.length c43, .int .i64 (wrap64 (a1 + 1))] rfl (by (try simp only [List.map_toArray, List.map_cons, List.map_nil]); first | done | rfl | (simp only [List.length_drop, List.length_take]; rfl)) ?_; (with_reducible refine (ih kj7 (by have := HJ2.out; have := HK2.out; have := HJ7.out; omega) _ _ y251 (wrap64 (a1 + 1)) true _ ?side1 ?side2 A46.out).mono ?_); (case side1 => repeat (first | exact (Kd.C_below HR254.out HB.out) | (with_reducible refine Kd.C_alloc ?_ _) | (with_reducible refine Kd.C_drewN ?_ _) | (with_reducible refine Kd.C_drew ?_))); (case side2 => exact HC254.out); rintro e w54 ⟨rfl, hb⟩; refine ⟨_, rfl, ?_⟩; have n0_ := Aside0.mk (blk_below (g := gb243) (o := .cells #[.int .i64 ((rd_T115 l0 x5_2).f0), .int .i64 ((rd_T115 l0 x5_2).f1), .int .i64 ((rd_T115 l0 x5_2).f2), .int .i64 ((rd_T115 l0 x5_2).f3), .int .i64 ((rd_T115 l0 x5_2).f4), .int .i64 ((rd_T115 l0 x5_2).f5)] 115 (0, 0)) (by (with_reducible repeat (first | refine blk_drewN ?_ _ | refine blk_drew ?_ | refine blk_alloc ?_ _)); exact BK243.out) hb); have n1_ := Aside0.mk (below_step (by repeat (first | (with_reducible first | exact HB.out | apply below_alloc | apply pw_below_drewN | apply below_drew1 | refine below_set ?_ GE243.out) | exact HB.out)) hb); clear BK243; clear HB; have BK243 := n0_; have HB := n1_; clear n0_ n1_; (try clear hb); (try clear hb2); (try clear hk); (try clear hi)) | (go_at_call 130; (with_reducible refine (ih kj7 (by have := HJ2.out; have := HK2.out; have := HJ7.out; omega) _ _ y255 (wrap64 (a1 + 1)) false _ ?side1 ?side2 A48.out).mono ?_); (case side1 => repeat (first | exact (Kd.C_below HR258.out HB.out) | (with_reducible refine Kd.C_alloc ?_ _) | (with_reducible refine Kd.C_drewN ?_ _) | (with_reducible refine Kd.C_drew ?_))); (case side2 => exact HC258.out); rintro e w55 ⟨rfl, hb⟩; have n0_ := Aside0.mk (blk_below (g := gb243) (o := .cells #[.int .i64 ((rd_T115 l0 x5_2).f0), .int .i64 ((rd_T115 l0 x5_2).f1), .int .i64 ((rd_T115 l0 x5_2).f2), .int .i64 ((rd_T115 l0 x5_2).f3), .int .i64 ((rd_T115 l0 x5_2).f4), .int .i64 ((rd_T115 l0 x5_2).f5)] 115 (0, 0)) (by (with_reducible repeat (first | refine blk_drewN ?_ _ | refine blk_drew ?_ | refine blk_alloc ?_ _)); exact BK243.out) hb); have n1_ := Aside0.mk (below_step (by repeat (first | (with_reducible first | exact HB.out | apply below_alloc | apply pw_below_drewN | apply below_drew1 | refine below_set ?_ GE243.out) | exact HB.out)) hb); clear BK243; clear HB; have BK243 := n0_; have HB := n1_; clear n0_ n1_; (try clear hb); (try clear hb2); (try clear hk); (try clear hi)))
                           go_meet
                           case rel => exact ⟨_, (true), (by first | rfl | (simp; done) | (simp [*]; done)), H', ⟨by have := HJ2.out; have := HK2.out; have := HJ7.out; first | omega | exact Nat.le_refl _⟩, ⟨by (with_reducible repeat (first | refine blk_drewN ?_ _ | refine blk_drew ?_ | refine blk_alloc ?_ _)); exact BK243.out⟩, ⟨by repeat (first | (with_reducible first | exact HB.out | apply below_alloc | apply pw_below_drewN | apply below_drew1 | refine below_set ?_ GE243.out) | exact HB.out)⟩⟩
                         ·replace c47 := Bool.eq_false_iff.mpr c47
                          subst c47
                          have H1 : (impl_oFormula.j3 kj7 l0 a1 x5_2 y244 y251 true ((rd_T115 l0 x5_2).f0) ((rd_T115 l0 x5_2).f1) ((rd_T115 l0 x5_2).f2) ((rd_T115 l0 x5_2).f3) ((rd_T115 l0 x5_2).f4) ((rd_T115 l0 x5_2).f5)) = some r := by rw [if_neg (show ¬ (false = true) by decide)] at H; exact H
                          clear H
                          have H := H1
                          clear H1
                          have H' := Aside0.mk H
                          clear H
                          go_wp2_with (first | ((with_reducible refine gate_callee (f := 130) rfl ?_); refine goesL_ (some 108) rfl rfl Try.func130 (by kernel_rfl) rfl #[.slice A43 y251.length c43, .int .i64 (wrap64 (a1 + 1))] rfl (by (try simp only [List.map_toArray, List.map_cons, List.map_nil]); first | done | rfl | (simp only [List.length_drop, List.length_take]; rfl)) ?_; (with_reducible refine (ih kj7 (by have := HJ2.out; have := HK2.out; have := HJ7.out; omega) _ _ y251 (wrap64 (a1 + 1)) false _ ?side1 ?side2 A46.out).mono ?_); (case side1 => repeat (first | exact (Kd.C_below HR254.out HB.out) | (with_reducible refine Kd.C_alloc ?_ _) | (with_reducible refine Kd.C_drewN ?_ _) | (with_reducible refine Kd.C_drew ?_))); (case side2 => exact HC254.out); rintro e w56 ⟨rfl, hb⟩; refine ⟨_, rfl, ?_⟩; have n0_ := Aside0.mk (blk_below (g := gb243) (o := .cells #[.int .i64 ((rd_T115 l0 x5_2).f0), .int .i64 ((rd_T115 l0 x5_2).f1), .int .i64 ((rd_T115 l0 x5_2).f2), .int .i64 ((rd_T115 l0 x5_2).f3), .int .i64 ((rd_T115 l0 x5_2).f4), .int .i64 ((rd_T115 l0 x5_2).f5)] 115 (0, 0)) (by (with_reducible repeat (first | refine blk_drewN ?_ _ | refine blk_drew ?_ | refine blk_alloc ?_ _)); exact BK243.out) hb); have n1_ := Aside0.mk (below_step (by repeat (first | (with_reducible first | exact HB.out | apply below_alloc | apply pw_below_drewN | apply below_drew1 | refine below_set ?_ GE243.out) | exact HB.out)) hb); clear BK243; clear HB; have BK243 := n0_; have HB := n1_; clear n0_ n1_; (try clear hb); (try clear hb2); (try clear hk); (try clear hi)))
                          go_meet
                          case rel => exact ⟨_, (true), (by first | rfl | (simp; done) | (simp [*]; done)), H', ⟨by have := HJ2.out; have := HK2.out; have := HJ7.out; first | omega | exact Nat.le_refl _⟩, ⟨by (with_reducible repeat (first | refine blk_drewN ?_ _ | refine blk_drew ?_ | refine blk_alloc ?_ _)); exact BK243.out⟩, ⟨by repeat (first | (with_reducible first | exact HB.out | apply below_alloc | apply pw_below_drewN | apply below_drew1 | refine below_set ?_ GE243.out) | exact HB.out)⟩⟩
                       case rest =>
                        as_aux_lemma =>
                         clear HC40
                         try clear c1
                         try clear c2
                         try clear p2
                         try clear q2
                         try clear hx2
                         try clear qi2
                         try clear c3
                         try clear c4
                         try clear c4b0
                         try clear c4b1
                         try clear q4
                         try clear c5
                         try clear c6
                         try clear c6b0
                         try clear p6
                         try clear c7
                         try clear c7b0
                         try clear c11
                         try clear c11b0
                         try clear c13
                         try clear c13b0
                         try clear c15
                         try clear c15b0
                         try clear c17
                         try clear c17b0
                         try clear c19
                         try clear c19b0
                         try clear c21
                         try clear c21b0
                         try clear c23
                         try clear c23b0
                         try clear p24
                         try clear q24
                         try clear hx24
                         try clear qi24
                         try clear p25
                         try clear q25
                         try clear hx25
                         try clear qi25
                         try clear c26
                         try clear c27
                         try clear c27b0
                         try clear c27b1
                         try clear c28
                         try clear c28b0
                         try clear c28b1
                         try clear c29
                         try clear c29b0
                         try clear c29b1
                         try clear c30
                         try clear c30b0
                         try clear c30b1
                         try clear c31
                         try clear c31b0
                         try clear c31b1
                         try clear c32
                         try clear c32b0
                         try clear c32b1
                         try clear c34
                         try clear c34b0
                         try clear c34b1
                         try clear c35
                         try clear c35b0
                         try clear c35b1
                         try clear c36
                         try clear c36b0
                         try clear c36b1
                         try clear c38
                         try clear c38b0
                         try clear c38b1
                         try clear c39
                         try clear c39b0
                         try clear c42
                         try clear q42
                         try clear c43
                         try clear q43
                         try clear c44
                         try clear q44
                         try clear c45
                         try clear q45
                         try clear c47
                         try clear c49
                         try clear hcz10_0
                         try clear hcz10_1
                         try clear hcz10_2
                         try clear hcz10_3
                         try clear hcz10_4
                         try clear hcz10_5
                         try clear hcz12_0
                         try clear hcz12_1
                         try clear hcz12_2
                         try clear hcz12_3
                         try clear hcz12_4
                         try clear hcz12_5
                         try clear hcz14_0
                         try clear hcz14_1
                         try clear hcz14_2
                         try clear hcz14_3
                         try clear hcz14_4
                         try clear hcz14_5
                         try clear hcz16_0
                         try clear hcz16_1
                         try clear hcz16_2
                         try clear hcz16_3
                         try clear hcz16_4
                         try clear hcz16_5
                         try clear hcz18_0
                         try clear hcz18_1
                         try clear hcz18_2
                         try clear hcz18_3
                         try clear hcz18_4
                         try clear hcz18_5
                         try clear hcz20_0
                         try clear hcz20_1
                         try clear hcz20_2
                         try clear hcz20_3
                         try clear hcz20_4
                         try clear hcz20_5
                         try clear hcz22_0
                         try clear hcz22_1
                         try clear hcz22_2
                         try clear hcz22_3
                         try clear hcz22_4
                         try clear hcz22_5
                         try clear hcz24_0
                         try clear hcz24_1
                         try clear hcz24_2
                         try clear hcz24_3
                         try clear hcz24_4
                         try clear hcz24_5
                         try clear hcz25_0
                         try clear hcz25_1
                         try clear hcz25_2
                         try clear hcz25_3
                         try clear hcz25_4
                         try clear hcz25_5
                         try clear hcz41_0
                         try clear hcz41_1
                         try clear hcz41_2
                         try clear hcz41_3
                         try clear hcz41_4
                         try clear hcz41_5
                         try clear hfz10_0
                         try clear hfz10_1
                         try clear hfz10_2
                         try clear hfz10_3
                         try clear hfz10_4
                         try clear hfz10_5
                         try clear hfz12_0
                         try clear hfz12_1
                         try clear hfz12_2
                         try clear hfz12_3
                         try clear hfz12_4
                         try clear hfz12_5
                         try clear hfz14_0
                         try clear hfz14_1
                         try clear hfz14_2
                         try clear hfz14_3
                         try clear hfz14_4
                         try clear hfz14_5
                         try clear hfz16_0
                         try clear hfz16_1
                         try clear hfz16_2
                         try clear hfz16_3
                         try clear hfz16_4
                         try clear hfz16_5
                         try clear hfz18_0
                         try clear hfz18_1
                         try clear hfz18_2
                         try clear hfz18_3
                         try clear hfz18_4
                         try clear hfz18_5
                         try clear hfz20_0
                         try clear hfz20_1
                         try clear hfz20_2
                         try clear hfz20_3
                         try clear hfz20_4
                         try clear hfz20_5
                         try clear hfz22_0
                         try clear hfz22_1
                         try clear hfz22_2
                         try clear hfz22_3
                         try clear hfz22_4
                         try clear hfz22_5
                         try clear hfz24_0
                         try clear hfz24_1
                         try clear hfz24_2
                         try clear hfz24_3
                         try clear hfz24_4
                         try clear hfz24_5
                         try clear hfz25_0
                         try clear hfz25_1
                         try clear hfz25_2
                         try clear hfz25_3
                         try clear hfz25_4
                         try clear hfz25_5
                         try clear hfz41_0
                         try clear hfz41_1
                         try clear hfz41_2
                         try clear hfz41_3
                         try clear hfz41_4
                         try clear hfz41_5
                         try clear hx242_0
                         try clear hx242_1
                         try clear hx242_2
                         try clear hx242_3
                         try clear hx242_4
                         try clear hx242_5
                         try clear hx248_0
                         try clear hx248_1
                         try clear hx248_2
                         try clear hx248_3
                         try clear hx248_4
                         try clear hx248_5
                         try clear hx249_0
                         try clear hx249_1
                         try clear hx249_2
                         try clear hx249_3
                         try clear hx249_4
                         try clear hx249_5
                         try clear hx250_0
                         try clear hx250_1
                         try clear hx250_2
                         try clear hx250_3
                         try clear hx250_4
                         try clear hx250_5
                         try clear p2
                         try clear p24
                         try clear p242
                         try clear p248
                         try clear p249
                         try clear p250
                         try clear p6
                         try clear q042
                         try clear q044
                         try clear q045
                         try clear q2
                         try clear q24
                         try clear q242
                         try clear q248
                         try clear q249
                         try clear q250
                         try clear q42
                         try clear q43
                         try clear q44
                         try clear q45
                         obtain ⟨kq, x123_39, rfl, HA, HJ39, BK243, HB⟩ := hcut
                         cases kq with
                         | zero => exact absurd HA.out (by simp [impl_oFormula.j3])
                         | succ kj39 =>
                          have H := HA.out
                          clear HA
                          simp only [impl_oFormula.j3] at H
                          by_cases c57 : x123_39 = true
                          ·subst c57
                           have H1 : (some false) = some r := by rw [if_pos rfl] at H; exact H
                           clear H
                           have H := H1
                           clear H1
                           obtain rfl := Option.some.inj H
                           go_wp2_with (fail)
                           go_ret
                           exact ⟨by first | rfl | (simp [errW_none, errW_some] <;> rfl) | (simp only [← hji33, ← hji37]; first | rfl | (simp [errW_none, errW_some] <;> rfl)) | (simp [*, errW_none, errW_some] <;> rfl), by repeat (first | (with_reducible first | exact HB.out | apply below_alloc | apply pw_below_drewN | apply below_drew1 | refine below_set ?_ GE243.out) | exact HB.out)⟩
                          ·replace c57 := Bool.eq_false_iff.mpr c57
                           subst c57
                           have H1 : (if ((rd_T115 l0 x5_2).f0) = 1 then (if ((rd_T115 l0 x5_2).f2) < 33 then (impl_oFormula.j4 kj39 l0 a1 x5_2 y244 true ((rd_T115 l0 x5_2).f0) ((rd_T115 l0 x5_2).f1) ((rd_T115 l0 x5_2).f2) ((rd_T115 l0 x5_2).f3) ((rd_T115 l0 x5_2).f4) ((rd_T115 l0 x5_2).f5)) else (if ((rd_T115 l0 x5_2).f2) > 126 then (impl_oFormula.j4 kj39 l0 a1 x5_2 y244 true ((rd_T115 l0 x5_2).f0) ((rd_T115 l0 x5_2).f1) ((rd_T115 l0 x5_2).f2) ((rd_T115 l0 x5_2).f3) ((rd_T115 l0 x5_2).f4) ((rd_T115 l0 x5_2).f5)) else (impl_oFormula.j4 kj39 l0 a1 x5_2 y244 (((rd_T115 l0 x5_2).f3) != 0) ((rd_T115 l0 x5_2).f0) ((rd_T115 l0 x5_2).f1) ((rd_T115 l0 x5_2).f2) ((rd_T115 l0 x5_2).f3) ((rd_T115 l0 x5_2).f4) ((rd_T115 l0 x5_2).f5)))) else (if ((rd_T115 l0 x5_2).f0) = 2 then (impl_oFormula.j5 kj39 l0 a1 x5_2 y244 y251 ((rd_T115 l0 x5_2).f0) (((rd_T115 l0 x5_2).f0) == 2) ((rd_T115 l0 x5_2).f0) ((rd_T115 l0 x5_2).f1) ((rd_T115 l0 x5_2).f2) ((rd_T115 l0 x5_2).f3) ((rd_T115 l0 x5_2).f4) ((rd_T115 l0 x5_2).f5)) else (impl_oFormula.j5 kj39 l0 a1 x5_2 y244 y251 ((rd_T115 l0 x5_2).f0) (((rd_T115 l0 x5_2).f0) == 4) ((rd_T115 l0 x5_2).f0) ((rd_T115 l0 x5_2).f1) ((rd_T115 l0 x5_2).f2) ((rd_T115 l0 x5_2).f3) ((rd_T115 l0 x5_2).f4) ((rd_T115 l0 x5_2).f5)))) = some r := by rw [if_neg (show ¬ (false = true) by decide)] at H; exact H
                           clear H
                           have H := H1
                           clear H1
                           by_cases c58 : ((rd_T115 l0 x5_2).f0) = 1
                           ·rw [if_pos c58] at H
                            have c58b0 : (((rd_T115 l0 x5_2).f0) == 1) = true := beq_iff_eq.mpr c58
                            have c58b1 : (((rd_T115 l0 x5_2).f0) != 1) = false := bne_eq_false_iff_eq.mpr c58
                            clear c58
                            have HC59 := Aside0.mk H
                            clear H
                            have hcz60_0 : wc.cell? ⟨gb243, 0, none⟩ = some (.int .i64 ((rd_T115 l0 x5_2).f0)) := (blk_cell BK243.out 0).trans rfl
                            have hcz60_1 : wc.cell? ⟨gb243, 1, none⟩ = some (.int .i64 ((rd_T115 l0 x5_2).f1)) := (blk_cell BK243.out 1).trans rfl
                            have hcz60_2 : wc.cell? ⟨gb243, 2, none⟩ = some (.int .i64 ((rd_T115 l0 x5_2).f2)) := (blk_cell BK243.out 2).trans rfl
                            have hcz60_3 : wc.cell? ⟨gb243, 3, none⟩ = some (.int .i64 ((rd_T115 l0 x5_2).f3)) := (blk_cell BK243.out 3).trans rfl
                            have hcz60_4 : wc.cell? ⟨gb243, 4, none⟩ = some (.int .i64 ((rd_T115 l0 x5_2).f4)) := (blk_cell BK243.out 4).trans rfl
                            have hcz60_5 : wc.cell? ⟨gb243, 5, none⟩ = some (.int .i64 ((rd_T115 l0 x5_2).f5)) := (blk_cell BK243.out 5).trans rfl
                            have hfz60_0 := blk_frozen BK243.out 0
                            have hfz60_1 := blk_frozen BK243.out 1
                            have hfz60_2 := blk_frozen BK243.out 2
                            have hfz60_3 := blk_frozen BK243.out 3
                            have hfz60_4 := blk_frozen BK243.out 4
                            have hfz60_5 := blk_frozen BK243.out 5
                            go_upto_region 16 with (fail)
                            go_cut [140] (fun v140 wc => ∃ (kq : Nat) (x140_58 : Bool), v140 = .bool x140_58 ∧ Aside0 (impl_oFormula.j4 kq l0 a1 x5_2 y244 x140_58 ((rd_T115 l0 x5_2).f0) ((rd_T115 l0 x5_2).f1) ((rd_T115 l0 x5_2).f2) ((rd_T115 l0 x5_2).f3) ((rd_T115 l0 x5_2).f4) ((rd_T115 l0 x5_2).f5) = some r) ∧ Aside0 (kq ≤ kj39) ∧ Aside0 (wc.heap[gb243]? = some (.cells #[.int .i64 ((rd_T115 l0 x5_2).f0), .int .i64 ((rd_T115 l0 x5_2).f1), .int .i64 ((rd_T115 l0 x5_2).f2), .int .i64 ((rd_T115 l0 x5_2).f3), .int .i64 ((rd_T115 l0 x5_2).f4), .int .i64 ((rd_T115 l0 x5_2).f5)] 115 (0, 0))) ∧ Aside0 (Below w.heap.size w wc))
                            case first =>
                             as_aux_lemma =>
                              have H := HC59.out
                              clear HC59
                              by_cases c61 : ((rd_T115 l0 x5_2).f2) < 33
                              ·rw [if_pos c61] at H
                               have c61b0 : decide (((rd_T115 l0 x5_2).f2) < 33) = true := decide_eq_true c61
                               clear c61
                               (first | rw [c61b0] | (simp only [i64_w, i32_w]; rw [c61b0]) | skip)
                               have H' := Aside0.mk H
                               clear H
                               have hcz62_0 : wc.cell? ⟨gb243, 0, none⟩ = some (.int .i64 ((rd_T115 l0 x5_2).f0)) := (blk_cell BK243.out 0).trans rfl
                               have hcz62_1 : wc.cell? ⟨gb243, 1, none⟩ = some (.int .i64 ((rd_T115 l0 x5_2).f1)) := (blk_cell BK243.out 1).trans rfl
                               have hcz62_2 : wc.cell? ⟨gb243, 2, none⟩ = some (.int .i64 ((rd_T115 l0 x5_2).f2)) := (blk_cell BK243.out 2).trans rfl
                               have hcz62_3 : wc.cell? ⟨gb243, 3, none⟩ = some (.int .i64 ((rd_T115 l0 x5_2).f3)) := (blk_cell BK243.out 3).trans rfl
                               have hcz62_4 : wc.cell? ⟨gb243, 4, none⟩ = some (.int .i64 ((rd_T115 l0 x5_2).f4)) := (blk_cell BK243.out 4).trans rfl
                               have hcz62_5 : wc.cell? ⟨gb243, 5, none⟩ = some (.int .i64 ((rd_T115 l0 x5_2).f5)) := (blk_cell BK243.out 5).trans rfl
                               have hfz62_0 := blk_frozen BK243.out 0
                               have hfz62_1 := blk_frozen BK243.out 1
                               have hfz62_2 := blk_frozen BK243.out 2
                               have hfz62_3 := blk_frozen BK243.out 3
                               have hfz62_4 := blk_frozen BK243.out 4
                               have hfz62_5 := blk_frozen BK243.out 5
                               go_wp2_with (fail)
                               go_meet
                               case rel => exact ⟨_, (true), (by first | rfl | (simp; done) | (simp [*]; done)), H', ⟨by have := HJ2.out; have := HK2.out; have := HJ7.out; have := HJ39.out; first | omega | exact Nat.le_refl _⟩, ⟨by (with_reducible repeat (first | refine blk_drewN ?_ _ | refine blk_drew ?_ | refine blk_alloc ?_ _)); exact BK243.out⟩, ⟨by repeat (first | (with_reducible first | exact HB.out | apply below_alloc | apply pw_below_drewN | apply below_drew1 | refine below_set ?_ GE243.out) | exact HB.out)⟩⟩
                              ·rw [if_neg c61] at H
                               have c61b0 : decide (((rd_T115 l0 x5_2).f2) < 33) = false := decide_eq_false c61
                               clear c61
                               (first | rw [c61b0] | (simp only [i64_w, i32_w]; rw [c61b0]) | skip)
                               by_cases c63 : ((rd_T115 l0 x5_2).f2) > 126
                               ·rw [if_pos c63] at H
                                have c63b0 : decide (126 < ((rd_T115 l0 x5_2).f2)) = true := decide_eq_true c63
                                clear c63
                                have H' := Aside0.mk H
                                clear H
                                have hcz64_0 : wc.cell? ⟨gb243, 0, none⟩ = some (.int .i64 ((rd_T115 l0 x5_2).f0)) := (blk_cell BK243.out 0).trans rfl
                                have hcz64_1 : wc.cell? ⟨gb243, 1, none⟩ = some (.int .i64 ((rd_T115 l0 x5_2).f1)) := (blk_cell BK243.out 1).trans rfl
                                have hcz64_2 : wc.cell? ⟨gb243, 2, none⟩ = some (.int .i64 ((rd_T115 l0 x5_2).f2)) := (blk_cell BK243.out 2).trans rfl
                                have hcz64_3 : wc.cell? ⟨gb243, 3, none⟩ = some (.int .i64 ((rd_T115 l0 x5_2).f3)) := (blk_cell BK243.out 3).trans rfl
                                have hcz64_4 : wc.cell? ⟨gb243, 4, none⟩ = some (.int .i64 ((rd_T115 l0 x5_2).f4)) := (blk_cell BK243.out 4).trans rfl
                                have hcz64_5 : wc.cell? ⟨gb243, 5, none⟩ = some (.int .i64 ((rd_T115 l0 x5_2).f5)) := (blk_cell BK243.out 5).trans rfl
                                have hfz64_0 := blk_frozen BK243.out 0
                                have hfz64_1 := blk_frozen BK243.out 1
                                have hfz64_2 := blk_frozen BK243.out 2
                                have hfz64_3 := blk_frozen BK243.out 3
                                have hfz64_4 := blk_frozen BK243.out 4
                                have hfz64_5 := blk_frozen BK243.out 5
                                go_wp2_with (fail)
                                go_meet
                                case rel => exact ⟨_, (true), (by first | rfl | (simp; done) | (simp [*]; done)), H', ⟨by have := HJ2.out; have := HK2.out; have := HJ7.out; have := HJ39.out; first | omega | exact Nat.le_refl _⟩, ⟨by (with_reducible repeat (first | refine blk_drewN ?_ _ | refine blk_drew ?_ | refine blk_alloc ?_ _)); exact BK243.out⟩, ⟨by repeat (first | (with_reducible first | exact HB.out | apply below_alloc | apply pw_below_drewN | apply below_drew1 | refine below_set ?_ GE243.out) | exact HB.out)⟩⟩
                               ·rw [if_neg c63] at H
                                have c63b0 : decide (126 < ((rd_T115 l0 x5_2).f2)) = false := decide_eq_false c63
                                clear c63
                                have H' := Aside0.mk H
                                clear H
                                have hcz65_0 : wc.cell? ⟨gb243, 0, none⟩ = some (.int .i64 ((rd_T115 l0 x5_2).f0)) := (blk_cell BK243.out 0).trans rfl
                                have hcz65_1 : wc.cell? ⟨gb243, 1, none⟩ = some (.int .i64 ((rd_T115 l0 x5_2).f1)) := (blk_cell BK243.out 1).trans rfl
                                have hcz65_2 : wc.cell? ⟨gb243, 2, none⟩ = some (.int .i64 ((rd_T115 l0 x5_2).f2)) := (blk_cell BK243.out 2).trans rfl
                                have hcz65_3 : wc.cell? ⟨gb243, 3, none⟩ = some (.int .i64 ((rd_T115 l0 x5_2).f3)) := (blk_cell BK243.out 3).trans rfl
                                have hcz65_4 : wc.cell? ⟨gb243, 4, none⟩ = some (.int .i64 ((rd_T115 l0 x5_2).f4)) := (blk_cell BK243.out 4).trans rfl
                                have hcz65_5 : wc.cell? ⟨gb243, 5, none⟩ = some (.int .i64 ((rd_T115 l0 x5_2).f5)) := (blk_cell BK243.out 5).trans rfl
                                have hfz65_0 := blk_frozen BK243.out 0
                                have hfz65_1 := blk_frozen BK243.out 1
                                have hfz65_2 := blk_frozen BK243.out 2
                                have hfz65_3 := blk_frozen BK243.out 3
                                have hfz65_4 := blk_frozen BK243.out 4
                                have hfz65_5 := blk_frozen BK243.out 5
                                go_wp2_with (fail)
                                go_meet
                                case rel => exact ⟨_, ((((rd_T115 l0 x5_2).f3) != 0)), (by first | rfl | (simp; done) | (simp [*]; done)), H', ⟨by have := HJ2.out; have := HK2.out; have := HJ7.out; have := HJ39.out; first | omega | exact Nat.le_refl _⟩, ⟨by (with_reducible repeat (first | refine blk_drewN ?_ _ | refine blk_drew ?_ | refine blk_alloc ?_ _)); exact BK243.out⟩, ⟨by repeat (first | (with_reducible first | exact HB.out | apply below_alloc | apply pw_below_drewN | apply below_drew1 | refine below_set ?_ GE243.out) | exact HB.out)⟩⟩
                            case rest =>
                             as_aux_lemma =>
                              clear HC59
                              try clear c1
                              try clear c2
                              try clear p2
                              try clear q2
                              try clear hx2
                              try clear qi2
                              try clear c3
                              try clear c4
                              try clear c4b0
                              try clear c4b1
                              try clear q4
                              try clear c5
                              try clear c6
                              try clear c6b0
                              try clear p6
                              try clear c7
                              try clear c7b0
                              try clear c11
                              try clear c11b0
                              try clear c13
                              try clear c13b0
                              try clear c15
                              try clear c15b0
                              try clear c17
                              try clear c17b0
                              try clear c19
                              try clear c19b0
                              try clear c21
                              try clear c21b0
                              try clear c23
                              try clear c23b0
                              try clear p24
                              try clear q24
                              try clear hx24
                              try clear qi24
                              try clear p25
                              try clear q25
                              try clear hx25
                              try clear qi25
                              try clear c26
                              try clear c27
                              try clear c27b0
                              try clear c27b1
                              try clear c28
                              try clear c28b0
                              try clear c28b1
                              try clear c29
                              try clear c29b0
                              try clear c29b1
                              try clear c30
                              try clear c30b0
                              try clear c30b1
                              try clear c31
                              try clear c31b0
                              try clear c31b1
                              try clear c32
                              try clear c32b0
                              try clear c32b1
                              try clear c34
                              try clear c34b0
                              try clear c34b1
                              try clear c35
                              try clear c35b0
                              try clear c35b1
                              try clear c36
                              try clear c36b0
                              try clear c36b1
                              try clear c38
                              try clear c38b0
                              try clear c38b1
                              try clear c39
                              try clear c39b0
                              try clear c42
                              try clear q42
                              try clear c43
                              try clear q43
                              try clear c44
                              try clear q44
                              try clear c45
                              try clear q45
                              try clear c47
                              try clear c49
                              try clear c57
                              try clear c58
                              try clear c58b0
                              try clear c58b1
                              try clear c61
                              try clear c61b0
                              try clear c63
                              try clear c63b0
                              try clear p64
                              try clear hcz10_0
                              try clear hcz10_1
                              try clear hcz10_2
                              try clear hcz10_3
                              try clear hcz10_4
                              try clear hcz10_5
                              try clear hcz12_0
                              try clear hcz12_1
                              try clear hcz12_2
                              try clear hcz12_3
                              try clear hcz12_4
                              try clear hcz12_5
                              try clear hcz14_0
                              try clear hcz14_1
                              try clear hcz14_2
                              try clear hcz14_3
                              try clear hcz14_4
                              try clear hcz14_5
                              try clear hcz16_0
                              try clear hcz16_1
                              try clear hcz16_2
                              try clear hcz16_3
                              try clear hcz16_4
                              try clear hcz16_5
                              try clear hcz18_0
                              try clear hcz18_1
                              try clear hcz18_2
                              try clear hcz18_3
                              try clear hcz18_4
                              try clear hcz18_5
                              try clear hcz20_0
                              try clear hcz20_1
                              try clear hcz20_2
                              try clear hcz20_3
                              try clear hcz20_4
                              try clear hcz20_5
                              try clear hcz22_0
                              try clear hcz22_1
                              try clear hcz22_2
                              try clear hcz22_3
                              try clear hcz22_4
                              try clear hcz22_5
                              try clear hcz24_0
                              try clear hcz24_1
                              try clear hcz24_2
                              try clear hcz24_3
                              try clear hcz24_4
                              try clear hcz24_5
                              try clear hcz25_0
                              try clear hcz25_1
                              try clear hcz25_2
                              try clear hcz25_3
                              try clear hcz25_4
                              try clear hcz25_5
                              try clear hcz41_0
                              try clear hcz41_1
                              try clear hcz41_2
                              try clear hcz41_3
                              try clear hcz41_4
                              try clear hcz41_5
                              try clear hcz60_0
                              try clear hcz60_1
                              try clear hcz60_2
                              try clear hcz60_3
                              try clear hcz60_4
                              try clear hcz60_5
                              try clear hcz62_0
                              try clear hcz62_1
                              try clear hcz62_2
                              try clear hcz62_3
                              try clear hcz62_4
                              try clear hcz62_5
                              try clear hcz64_0
                              try clear hcz64_1
                              try clear hcz64_2
                              try clear hcz64_3
                              try clear hcz64_4
                              try clear hcz64_5
                              try clear hcz65_0
                              try clear hcz65_1
                              try clear hcz65_2
                              try clear hcz65_3
                              try clear hcz65_4
                              try clear hcz65_5
                              try clear hfz10_0
                              try clear hfz10_1
                              try clear hfz10_2
                              try clear hfz10_3
                              try clear hfz10_4
                              try clear hfz10_5
                              try clear hfz12_0
                              try clear hfz12_1
                              try clear hfz12_2
                              try clear hfz12_3
                              try clear hfz12_4
                              try clear hfz12_5
                              try clear hfz14_0
                              try clear hfz14_1
                              try clear hfz14_2
                              try clear hfz14_3
                              try clear hfz14_4
                              try clear hfz14_5
                              try clear hfz16_0
                              try clear hfz16_1
                              try clear hfz16_2
                              try clear hfz16_3
                              try clear hfz16_4
                              try clear hfz16_5
                              try clear hfz18_0
                              try clear hfz18_1
                              try clear hfz18_2
                              try clear hfz18_3
                              try clear hfz18_4
                              try clear hfz18_5
                              try clear hfz20_0
                              try clear hfz20_1
                              try clear hfz20_2
                              try clear hfz20_3
                              try clear hfz20_4
                              try clear hfz20_5
                              try clear hfz22_0
                              try clear hfz22_1
                              try clear hfz22_2
                              try clear hfz22_3
                              try clear hfz22_4
                              try clear hfz22_5
                              try clear hfz24_0
                              try clear hfz24_1
                              try clear hfz24_2
                              try clear hfz24_3
                              try clear hfz24_4
                              try clear hfz24_5
                              try clear hfz25_0
                              try clear hfz25_1
                              try clear hfz25_2
                              try clear hfz25_3
                              try clear hfz25_4
                              try clear hfz25_5
                              try clear hfz41_0
                              try clear hfz41_1
                              try clear hfz41_2
                              try clear hfz41_3
                              try clear hfz41_4
                              try clear hfz41_5
                              try clear hfz60_0
                              try clear hfz60_1
                              try clear hfz60_2
                              try clear hfz60_3
                              try clear hfz60_4
                              try clear hfz60_5
                              try clear hfz62_0
                              try clear hfz62_1
                              try clear hfz62_2
                              try clear hfz62_3
                              try clear hfz62_4
                              try clear hfz62_5
                              try clear hfz64_0
                              try clear hfz64_1
                              try clear hfz64_2
                              try clear hfz64_3
                              try clear hfz64_4
                              try clear hfz64_5
                              try clear hfz65_0
                              try clear hfz65_1
                              try clear hfz65_2
                              try clear hfz65_3
                              try clear hfz65_4
                              try clear hfz65_5
                              try clear hx242_0
                              try clear hx242_1
                              try clear hx242_2
                              try clear hx242_3
                              try clear hx242_4
                              try clear hx242_5
                              try clear hx248_0
                              try clear hx248_1
                              try clear hx248_2
                              try clear hx248_3
                              try clear hx248_4
                              try clear hx248_5
                              try clear hx249_0
                              try clear hx249_1
                              try clear hx249_2
                              try clear hx249_3
                              try clear hx249_4
                              try clear hx249_5
                              try clear hx250_0
                              try clear hx250_1
                              try clear hx250_2
                              try clear hx250_3
                              try clear hx250_4
                              try clear hx250_5
                              try clear p2
                              try clear p24
                              try clear p242
                              try clear p248
                              try clear p249
                              try clear p25
                              try clear p250
                              try clear p6
                              try clear q042
                              try clear q044
                              try clear q045
                              try clear q2
                              try clear q24
                              try clear q242
                              try clear q248
                              try clear q249
                              try clear q25
                              try clear q250
                              try clear q4
                              try clear q42
                              try clear q43
                              try clear q44
                              try clear q45
                              obtain ⟨kq, x140_58, rfl, HA, HJ58, BK243, HB⟩ := hcut
                              cases kq with
                              | zero => exact absurd HA.out (by simp [impl_oFormula.j4])
                              | succ kj58 =>
                               have H := HA.out
                               clear HA
                               simp only [impl_oFormula.j4] at H
                               by_cases c66 : x140_58 = true
                               ·subst c66
                                have H1 : (some false) = some r := by rw [if_pos rfl] at H; exact H
                                clear H
                                have H := H1
                                clear H1
                                obtain rfl := Option.some.inj H
                                go_wp2_with (fail)
                                go_ret
                                exact ⟨by first | rfl | (simp [errW_none, errW_some] <;> rfl) | (simp only [← hji33, ← hji37]; first | rfl | (simp [errW_none, errW_some] <;> rfl)) | (simp [*, errW_none, errW_some] <;> rfl), by repeat (first | (with_reducible first | exact HB.out | apply below_alloc | apply pw_below_drewN | apply below_drew1 | refine below_set ?_ GE243.out) | exact HB.out)⟩
                               ·replace c66 := Bool.eq_false_iff.mpr c66
                                subst c66
                                have H1 : (if ((rd_T115 l0 x5_2).f0) = 1 then (impl_oFormula.l0 kj58 l0 a1 (wrap64 (x5_2 + (y244.length : Int)))) else (if ((rd_T115 l0 x5_2).f2) = 0 then (impl_oFormula.l0 kj58 l0 a1 (wrap64 (x5_2 + (y244.length : Int)))) else (some false))) = some r := by rw [if_neg (show ¬ (false = true) by decide)] at H; exact H
                                clear H
                                have H := H1
                                clear H1
                                by_cases c67 : ((rd_T115 l0 x5_2).f0) = 1
                                ·rw [if_pos c67] at H
                                 have c67b0 : (((rd_T115 l0 x5_2).f0) == 1) = true := beq_iff_eq.mpr c67
                                 have c67b1 : (((rd_T115 l0 x5_2).f0) != 1) = false := bne_eq_false_iff_eq.mpr c67
                                 clear c67
                                 have H' := Aside0.mk H
                                 clear H
                                 have hcz68_0 : wc.cell? ⟨gb243, 0, none⟩ = some (.int .i64 ((rd_T115 l0 x5_2).f0)) := (blk_cell BK243.out 0).trans rfl
                                 have hcz68_1 : wc.cell? ⟨gb243, 1, none⟩ = some (.int .i64 ((rd_T115 l0 x5_2).f1)) := (blk_cell BK243.out 1).trans rfl
                                 have hcz68_2 : wc.cell? ⟨gb243, 2, none⟩ = some (.int .i64 ((rd_T115 l0 x5_2).f2)) := (blk_cell BK243.out 2).trans rfl
                                 have hcz68_3 : wc.cell? ⟨gb243, 3, none⟩ = some (.int .i64 ((rd_T115 l0 x5_2).f3)) := (blk_cell BK243.out 3).trans rfl
                                 have hcz68_4 : wc.cell? ⟨gb243, 4, none⟩ = some (.int .i64 ((rd_T115 l0 x5_2).f4)) := (blk_cell BK243.out 4).trans rfl
                                 have hcz68_5 : wc.cell? ⟨gb243, 5, none⟩ = some (.int .i64 ((rd_T115 l0 x5_2).f5)) := (blk_cell BK243.out 5).trans rfl
                                 have hfz68_0 := blk_frozen BK243.out 0
                                 have hfz68_1 := blk_frozen BK243.out 1
                                 have hfz68_2 := blk_frozen BK243.out 2
                                 have hfz68_3 := blk_frozen BK243.out 3
                                 have hfz68_4 := blk_frozen BK243.out 4
                                 have hfz68_5 := blk_frozen BK243.out 5
                                 go_wp2_with (fail)
                                 go_roundg kj58
                                 case measure => have := HJ2.out; have := HK2.out; have := HJ7.out; have := HJ39.out; have := HJ58.out; omega
                                 case rel => exact ⟨(wrap64 (x5_2 + (y244.length : Int))), (by first | rfl | (simp; done) | (simp [*]; done)), H', ⟨by have := HJ2.out; have := HK2.out; have := HJ7.out; have := HJ39.out; have := HJ58.out; omega⟩, ⟨by repeat (first | (with_reducible first | exact HB.out | apply below_alloc | apply pw_below_drewN | apply below_drew1 | refine below_set ?_ GE243.out) | exact HB.out)⟩⟩
                                ·rw [if_neg c67] at H
                                 have c67b0 : (((rd_T115 l0 x5_2).f0) == 1) = false := beq_eq_false_iff_ne.mpr c67
                                 have c67b1 : (((rd_T115 l0 x5_2).f0) != 1) = true := bne_iff_ne.mpr c67
                                 by_cases c69 : ((rd_T115 l0 x5_2).f2) = 0
                                 ·rw [if_pos c69] at H
                                  have c69b0 : (((rd_T115 l0 x5_2).f2) == 0) = true := beq_iff_eq.mpr c69
                                  have c69b1 : (((rd_T115 l0 x5_2).f2) != 0) = false := bne_eq_false_iff_eq.mpr c69
                                  clear c69
                                  have H' := Aside0.mk H
                                  clear H
                                  have hcz70_0 : wc.cell? ⟨gb243, 0, none⟩ = some (.int .i64 ((rd_T115 l0 x5_2).f0)) := (blk_cell BK243.out 0).trans rfl
                                  have hcz70_1 : wc.cell? ⟨gb243, 1, none⟩ = some (.int .i64 ((rd_T115 l0 x5_2).f1)) := (blk_cell BK243.out 1).trans rfl
                                  have hcz70_2 : wc.cell? ⟨gb243, 2, none⟩ = some (.int .i64 ((rd_T115 l0 x5_2).f2)) := (blk_cell BK243.out 2).trans rfl
                                  have hcz70_3 : wc.cell? ⟨gb243, 3, none⟩ = some (.int .i64 ((rd_T115 l0 x5_2).f3)) := (blk_cell BK243.out 3).trans rfl
                                  have hcz70_4 : wc.cell? ⟨gb243, 4, none⟩ = some (.int .i64 ((rd_T115 l0 x5_2).f4)) := (blk_cell BK243.out 4).trans rfl
                                  have hcz70_5 : wc.cell? ⟨gb243, 5, none⟩ = some (.int .i64 ((rd_T115 l0 x5_2).f5)) := (blk_cell BK243.out 5).trans rfl
                                  have hfz70_0 := blk_frozen BK243.out 0
                                  have hfz70_1 := blk_frozen BK243.out 1
                                  have hfz70_2 := blk_frozen BK243.out 2
                                  have hfz70_3 := blk_frozen BK243.out 3
                                  have hfz70_4 := blk_frozen BK243.out 4
                                  have hfz70_5 := blk_frozen BK243.out 5
                                  go_wp2_with (fail)
                                  go_roundg kj58
                                  case measure => have := HJ2.out; have := HK2.out; have := HJ7.out; have := HJ39.out; have := HJ58.out; omega
                                  case rel => exact ⟨(wrap64 (x5_2 + (y244.length : Int))), (by first | rfl | (simp; done) | (simp [*]; done)), H', ⟨by have := HJ2.out; have := HK2.out; have := HJ7.out; have := HJ39.out; have := HJ58.out; omega⟩, ⟨by repeat (first | (with_reducible first | exact HB.out | apply below_alloc | apply pw_below_drewN | apply below_drew1 | refine below_set ?_ GE243.out) | exact HB.out)⟩⟩
                                 ·rw [if_neg c69] at H
                                  have c69b0 : (((rd_T115 l0 x5_2).f2) == 0) = false := beq_eq_false_iff_ne.mpr c69
                                  have c69b1 : (((rd_T115 l0 x5_2).f2) != 0) = true := bne_iff_ne.mpr c69
                                  obtain rfl := Option.some.inj H
                                  have hcz71_0 : wc.cell? ⟨gb243, 0, none⟩ = some (.int .i64 ((rd_T115 l0 x5_2).f0)) := (blk_cell BK243.out 0).trans rfl
                                  have hcz71_1 : wc.cell? ⟨gb243, 1, none⟩ = some (.int .i64 ((rd_T115 l0 x5_2).f1)) := (blk_cell BK243.out 1).trans rfl
                                  have hcz71_2 : wc.cell? ⟨gb243, 2, none⟩ = some (.int .i64 ((rd_T115 l0 x5_2).f2)) := (blk_cell BK243.out 2).trans rfl
                                  have hcz71_3 : wc.cell? ⟨gb243, 3, none⟩ = some (.int .i64 ((rd_T115 l0 x5_2).f3)) := (blk_cell BK243.out 3).trans rfl
                                  have hcz71_4 : wc.cell? ⟨gb243, 4, none⟩ = some (.int .i64 ((rd_T115 l0 x5_2).f4)) := (blk_cell BK243.out 4).trans rfl
                                  have hcz71_5 : wc.cell? ⟨gb243, 5, none⟩ = some (.int .i64 ((rd_T115 l0 x5_2).f5)) := (blk_cell BK243.out 5).trans rfl
                                  have hfz71_0 := blk_frozen BK243.out 0
                                  have hfz71_1 := blk_frozen BK243.out 1
                                  have hfz71_2 := blk_frozen BK243.out 2
                                  have hfz71_3 := blk_frozen BK243.out 3
                                  have hfz71_4 := blk_frozen BK243.out 4
                                  have hfz71_5 := blk_frozen BK243.out 5
                                  go_wp2_with (fail)
                                  go_ret
                                  exact ⟨by first | rfl | (simp [errW_none, errW_some] <;> rfl) | (simp only [← hji33, ← hji37]; first | rfl | (simp [errW_none, errW_some] <;> rfl)) | (simp [*, errW_none, errW_some] <;> rfl), by repeat (first | (with_reducible first | exact HB.out | apply below_alloc | apply pw_below_drewN | apply below_drew1 | refine below_set ?_ GE243.out) | exact HB.out)⟩
                           ·rw [if_neg c58] at H
                            have c58b0 : (((rd_T115 l0 x5_2).f0) == 1) = false := beq_eq_false_iff_ne.mpr c58
                            have c58b1 : (((rd_T115 l0 x5_2).f0) != 1) = true := bne_iff_ne.mpr c58
                            have HC72 := Aside0.mk H
                            clear H
                            have hcz73_0 : wc.cell? ⟨gb243, 0, none⟩ = some (.int .i64 ((rd_T115 l0 x5_2).f0)) := (blk_cell BK243.out 0).trans rfl
                            have hcz73_1 : wc.cell? ⟨gb243, 1, none⟩ = some (.int .i64 ((rd_T115 l0 x5_2).f1)) := (blk_cell BK243.out 1).trans rfl
                            have hcz73_2 : wc.cell? ⟨gb243, 2, none⟩ = some (.int .i64 ((rd_T115 l0 x5_2).f2)) := (blk_cell BK243.out 2).trans rfl
                            have hcz73_3 : wc.cell? ⟨gb243, 3, none⟩ = some (.int .i64 ((rd_T115 l0 x5_2).f3)) := (blk_cell BK243.out 3).trans rfl
                            have hcz73_4 : wc.cell? ⟨gb243, 4, none⟩ = some (.int .i64 ((rd_T115 l0 x5_2).f4)) := (blk_cell BK243.out 4).trans rfl
                            have hcz73_5 : wc.cell? ⟨gb243, 5, none⟩ = some (.int .i64 ((rd_T115 l0 x5_2).f5)) := (blk_cell BK243.out 5).trans rfl
                            have hfz73_0 := blk_frozen BK243.out 0
                            have hfz73_1 := blk_frozen BK243.out 1
                            have hfz73_2 := blk_frozen BK243.out 2
                            have hfz73_3 := blk_frozen BK243.out 3
                            have hfz73_4 := blk_frozen BK243.out 4
                            have hfz73_5 := blk_frozen BK243.out 5
                            go_upto_if 141 with (fail)
                            go_cut [141] (fun v141 wc => ∃ (kq : Nat) (x141_71 : Bool), v141 = .bool x141_71 ∧ Aside0 (impl_oFormula.j5 kq l0 a1 x5_2 y244 y251 ((rd_T115 l0 x5_2).f0) x141_71 ((rd_T115 l0 x5_2).f0) ((rd_T115 l0 x5_2).f1) ((rd_T115 l0 x5_2).f2) ((rd_T115 l0 x5_2).f3) ((rd_T115 l0 x5_2).f4) ((rd_T115 l0 x5_2).f5) = some r) ∧ Aside0 (kq ≤ kj39) ∧ Aside0 (wc.heap[gb243]? = some (.cells #[.int .i64 ((rd_T115 l0 x5_2).f0), .int .i64 ((rd_T115 l0 x5_2).f1), .int .i64 ((rd_T115 l0 x5_2).f2), .int .i64 ((rd_T115 l0 x5_2).f3), .int .i64 ((rd_T115 l0 x5_2).f4), .int .i64 ((rd_T115 l0 x5_2).f5)] 115 (0, 0))) ∧ Aside0 (Below w.heap.size w wc))
                            case first =>
                             as_aux_lemma =>
                              have H := HC72.out
                              clear HC72
                              by_cases c74 : ((rd_T115 l0 x5_2).f0) = 2
                              ·rw [if_pos c74] at H
                               have c74b0 : (((rd_T115 l0 x5_2).f0) == 2) = true := beq_iff_eq.mpr c74
                               have c74b1 : (((rd_T115 l0 x5_2).f0) != 2) = false := bne_eq_false_iff_eq.mpr c74
                               clear c74
                               (first | rw [c74b0] | (simp only [i64_w, i32_w]; rw [c74b0]) | skip)
                               have H' := Aside0.mk H
                               clear H
                               go_wp2_with (fail)
                               go_meet
                               case rel => exact ⟨_, ((((rd_T115 l0 x5_2).f0) == 2)), (by first | rfl | (simp; done) | (simp [*]; done)), H', ⟨by have := HJ2.out; have := HK2.out; have := HJ7.out; have := HJ39.out; first | omega | exact Nat.le_refl _⟩, ⟨by (with_reducible repeat (first | refine blk_drewN ?_ _ | refine blk_drew ?_ | refine blk_alloc ?_ _)); exact BK243.out⟩, ⟨by repeat (first | (with_reducible first | exact HB.out | apply below_alloc | apply pw_below_drewN | apply below_drew1 | refine below_set ?_ GE243.out) | exact HB.out)⟩⟩
                              ·rw [if_neg c74] at H
                               have c74b0 : (((rd_T115 l0 x5_2).f0) == 2) = false := beq_eq_false_iff_ne.mpr c74
                               have c74b1 : (((rd_T115 l0 x5_2).f0) != 2) = true := bne_iff_ne.mpr c74
                               (first | rw [c74b0] | (simp only [i64_w, i32_w]; rw [c74b0]) | skip)
                               have H' := Aside0.mk H
                               clear H
                               go_wp2_with (fail)
                               go_meet
                               case rel => exact ⟨_, ((((rd_T115 l0 x5_2).f0) == 4)), (by first | rfl | (simp; done) | (simp [*]; done)), H', ⟨by have := HJ2.out; have := HK2.out; have := HJ7.out; have := HJ39.out; first | omega | exact Nat.le_refl _⟩, ⟨by (with_reducible repeat (first | refine blk_drewN ?_ _ | refine blk_drew ?_ | refine blk_alloc ?_ _)); exact BK243.out⟩, ⟨by repeat (first | (with_reducible first | exact HB.out | apply below_alloc | apply pw_below_drewN | apply below_drew1 | refine below_set ?_ GE243.out) | exact HB.out)⟩⟩
                            case rest =>
                             as_aux_lemma =>
                              clear HC72
                              try clear c1
                              try clear c2
                              try clear p2
                              try clear q2
                              try clear hx2
                              try clear qi2
                              try clear c3
                              try clear c4
                              try clear c4b0
                              try clear c4b1
                              try clear q4
                              try clear c5
                              try clear c6
                              try clear c6b0
                              try clear p6
                              try clear c7
                              try clear c7b0
                              try clear c11
                              try clear c11b0
                              try clear c13
                              try clear c13b0
                              try clear c15
                              try clear c15b0
                              try clear c17
                              try clear c17b0
                              try clear c19
                              try clear c19b0
                              try clear c21
                              try clear c21b0
                              try clear c23
                              try clear c23b0
                              try clear p24
                              try clear q24
                              try clear hx24
                              try clear qi24
                              try clear p25
                              try clear q25
                              try clear hx25
                              try clear qi25
                              try clear c26
                              try clear c27
                              try clear c27b0
                              try clear c27b1
                              try clear c28
                              try clear c28b0
                              try clear c28b1
                              try clear c29
                              try clear c29b0
                              try clear c29b1
                              try clear c30
                              try clear c30b0
                              try clear c30b1
                              try clear c31
                              try clear c31b0
                              try clear c31b1
                              try clear c32
                              try clear c32b0
                              try clear c32b1
                              try clear c34
                              try clear c34b0
                              try clear c34b1
                              try clear c35
                              try clear c35b0
                              try clear c35b1
                              try clear c36
                              try clear c36b0
                              try clear c36b1
                              try clear c38
                              try clear c38b0
                              try clear c38b1
                              try clear c39
                              try clear c39b0
                              try clear c42
                              try clear q42
                              try clear c43
                              try clear q43
                              try clear c44
                              try clear q44
                              try clear c45
                              try clear q45
                              try clear c47
                              try clear c49
                              try clear c57
                              try clear c58
                              try clear c58b0
                              try clear c58b1
                              try clear c61
                              try clear c61b0
                              try clear c63
                              try clear c63b0
                              try clear p64
                              try clear c66
                              try clear c67
                              try clear c67b0
                              try clear c67b1
                              try clear c69
                              try clear c69b0
                              try clear c69b1
                              try clear c74
                              try clear c74b0
                              try clear c74b1
                              try clear hcz10_0
                              try clear hcz10_1
                              try clear hcz10_2
                              try clear hcz10_3
                              try clear hcz10_4
                              try clear hcz10_5
                              try clear hcz12_0
                              try clear hcz12_1
                              try clear hcz12_2
                              try clear hcz12_3
                              try clear hcz12_4
                              try clear hcz12_5
                              try clear hcz14_0
                              try clear hcz14_1
                              try clear hcz14_2
                              try clear hcz14_3
                              try clear hcz14_4
                              try clear hcz14_5
                              try clear hcz16_0
                              try clear hcz16_1
                              try clear hcz16_2
                              try clear hcz16_3
                              try clear hcz16_4
                              try clear hcz16_5
                              try clear hcz18_0
                              try clear hcz18_1
                              try clear hcz18_2
                              try clear hcz18_3
                              try clear hcz18_4
                              try clear hcz18_5
                              try clear hcz20_0
                              try clear hcz20_1
                              try clear hcz20_2
                              try clear hcz20_3
                              try clear hcz20_4
                              try clear hcz20_5
                              try clear hcz22_0
                              try clear hcz22_1
                              try clear hcz22_2
                              try clear hcz22_3
                              try clear hcz22_4
                              try clear hcz22_5
                              try clear hcz24_0
                              try clear hcz24_1
                              try clear hcz24_2
                              try clear hcz24_3
                              try clear hcz24_4
                              try clear hcz24_5
                              try clear hcz25_0
                              try clear hcz25_1
                              try clear hcz25_2
                              try clear hcz25_3
                              try clear hcz25_4
                              try clear hcz25_5
                              try clear hcz41_0
                              try clear hcz41_1
                              try clear hcz41_2
                              try clear hcz41_3
                              try clear hcz41_4
                              try clear hcz41_5
                              try clear hcz60_0
                              try clear hcz60_1
                              try clear hcz60_2
                              try clear hcz60_3
                              try clear hcz60_4
                              try clear hcz60_5
                              try clear hcz62_0
                              try clear hcz62_1
                              try clear hcz62_2
                              try clear hcz62_3
                              try clear hcz62_4
                              try clear hcz62_5
                              try clear hcz64_0
                              try clear hcz64_1
                              try clear hcz64_2
                              try clear hcz64_3
                              try clear hcz64_4
                              try clear hcz64_5
                              try clear hcz65_0
                              try clear hcz65_1
                              try clear hcz65_2
                              try clear hcz65_3
                              try clear hcz65_4
                              try clear hcz65_5
                              try clear hcz68_0
                              try clear hcz68_1
                              try clear hcz68_2
                              try clear hcz68_3
                              try clear hcz68_4
                              try clear hcz68_5
                              try clear hcz70_0
                              try clear hcz70_1
                              try clear hcz70_2
                              try clear hcz70_3
                              try clear hcz70_4
                              try clear hcz70_5
                              try clear hcz71_0
                              try clear hcz71_1
                              try clear hcz71_2
                              try clear hcz71_3
                              try clear hcz71_4
                              try clear hcz71_5
                              try clear hcz73_0
                              try clear hcz73_1
                              try clear hcz73_2
                              try clear hcz73_3
                              try clear hcz73_4
                              try clear hcz73_5
                              try clear hfz10_0
                              try clear hfz10_1
                              try clear hfz10_2
                              try clear hfz10_3
                              try clear hfz10_4
                              try clear hfz10_5
                              try clear hfz12_0
                              try clear hfz12_1
                              try clear hfz12_2
                              try clear hfz12_3
                              try clear hfz12_4
                              try clear hfz12_5
                              try clear hfz14_0
                              try clear hfz14_1
                              try clear hfz14_2
                              try clear hfz14_3
                              try clear hfz14_4
                              try clear hfz14_5
                              try clear hfz16_0
                              try clear hfz16_1
                              try clear hfz16_2
                              try clear hfz16_3
                              try clear hfz16_4
                              try clear hfz16_5
                              try clear hfz18_0
                              try clear hfz18_1
                              try clear hfz18_2
                              try clear hfz18_3
                              try clear hfz18_4
                              try clear hfz18_5
                              try clear hfz20_0
                              try clear hfz20_1
                              try clear hfz20_2
                              try clear hfz20_3
                              try clear hfz20_4
                              try clear hfz20_5
                              try clear hfz22_0
                              try clear hfz22_1
                              try clear hfz22_2
                              try clear hfz22_3
                              try clear hfz22_4
                              try clear hfz22_5
                              try clear hfz24_0
                              try clear hfz24_1
                              try clear hfz24_2
                              try clear hfz24_3
                              try clear hfz24_4
                              try clear hfz24_5
                              try clear hfz25_0
                              try clear hfz25_1
                              try clear hfz25_2
                              try clear hfz25_3
                              try clear hfz25_4
                              try clear hfz25_5
                              try clear hfz41_0
                              try clear hfz41_1
                              try clear hfz41_2
                              try clear hfz41_3
                              try clear hfz41_4
                              try clear hfz41_5
                              try clear hfz60_0
                              try clear hfz60_1
                              try clear hfz60_2
                              try clear hfz60_3
                              try clear hfz60_4
                              try clear hfz60_5
                              try clear hfz62_0
                              try clear hfz62_1
                              try clear hfz62_2
                              try clear hfz62_3
                              try clear hfz62_4
                              try clear hfz62_5
                              try clear hfz64_0
                              try clear hfz64_1
                              try clear hfz64_2
                              try clear hfz64_3
                              try clear hfz64_4
                              try clear hfz64_5
                              try clear hfz65_0
                              try clear hfz65_1
                              try clear hfz65_2
                              try clear hfz65_3
                              try clear hfz65_4
                              try clear hfz65_5
                              try clear hfz68_0
                              try clear hfz68_1
                              try clear hfz68_2
                              try clear hfz68_3
                              try clear hfz68_4
                              try clear hfz68_5
                              try clear hfz70_0
                              try clear hfz70_1
                              try clear hfz70_2
                              try clear hfz70_3
                              try clear hfz70_4
                              try clear hfz70_5
                              try clear hfz71_0
                              try clear hfz71_1
                              try clear hfz71_2
                              try clear hfz71_3
                              try clear hfz71_4
                              try clear hfz71_5
                              try clear hfz73_0
                              try clear hfz73_1
                              try clear hfz73_2
                              try clear hfz73_3
                              try clear hfz73_4
                              try clear hfz73_5
                              try clear hx242_0
                              try clear hx242_1
                              try clear hx242_2
                              try clear hx242_3
                              try clear hx242_4
                              try clear hx242_5
                              try clear hx248_0
                              try clear hx248_1
                              try clear hx248_2
                              try clear hx248_3
                              try clear hx248_4
                              try clear hx248_5
                              try clear hx249_0
                              try clear hx249_1
                              try clear hx249_2
                              try clear hx249_3
                              try clear hx249_4
                              try clear hx249_5
                              try clear hx250_0
                              try clear hx250_1
                              try clear hx250_2
                              try clear hx250_3
                              try clear hx250_4
                              try clear hx250_5
                              try clear p2
                              try clear p24
                              try clear p242
                              try clear p248
                              try clear p249
                              try clear p25
                              try clear p250
                              try clear p6
                              try clear p64
                              try clear q042
                              try clear q044
                              try clear q045
                              try clear q2
                              try clear q24
                              try clear q242
                              try clear q248
                              try clear q249
                              try clear q25
                              try clear q250
                              try clear q4
                              try clear q42
                              try clear q43
                              try clear q44
                              try clear q45
                              obtain ⟨kq, x141_71, rfl, HA, HJ71, BK243, HB⟩ := hcut
                              cases kq with
                              | zero => exact absurd HA.out (by simp [impl_oFormula.j5])
                              | succ kj71 =>
                               have H := HA.out
                               clear HA
                               simp only [impl_oFormula.j5] at H
                               by_cases c75 : x141_71 = true
                               ·subst c75
                                have H1 : (if ((rd_T115 l0 x5_2).f0) = 1 then (impl_oFormula.l0 kj71 l0 a1 (wrap64 (x5_2 + (y244.length : Int)))) else (if ((rd_T115 l0 x5_2).f2) = 0 then (impl_oFormula.l0 kj71 l0 a1 (wrap64 (x5_2 + (y244.length : Int)))) else (some false))) = some r := by rw [if_pos rfl] at H; exact H
                                clear H
                                have H := H1
                                clear H1
                                by_cases c76 : ((rd_T115 l0 x5_2).f0) = 1
                                ·rw [if_pos c76] at H
                                 have c76b0 : (((rd_T115 l0 x5_2).f0) == 1) = true := beq_iff_eq.mpr c76
                                 have c76b1 : (((rd_T115 l0 x5_2).f0) != 1) = false := bne_eq_false_iff_eq.mpr c76
                                 clear c76
                                 have H' := Aside0.mk H
                                 clear H
                                 have hcz77_0 : wc.cell? ⟨gb243, 0, none⟩ = some (.int .i64 ((rd_T115 l0 x5_2).f0)) := (blk_cell BK243.out 0).trans rfl
                                 have hcz77_1 : wc.cell? ⟨gb243, 1, none⟩ = some (.int .i64 ((rd_T115 l0 x5_2).f1)) := (blk_cell BK243.out 1).trans rfl
                                 have hcz77_2 : wc.cell? ⟨gb243, 2, none⟩ = some (.int .i64 ((rd_T115 l0 x5_2).f2)) := (blk_cell BK243.out 2).trans rfl
                                 have hcz77_3 : wc.cell? ⟨gb243, 3, none⟩ = some (.int .i64 ((rd_T115 l0 x5_2).f3)) := (blk_cell BK243.out 3).trans rfl
                                 have hcz77_4 : wc.cell? ⟨gb243, 4, none⟩ = some (.int .i64 ((rd_T115 l0 x5_2).f4)) := (blk_cell BK243.out 4).trans rfl
                                 have hcz77_5 : wc.cell? ⟨gb243, 5, none⟩ = some (.int .i64 ((rd_T115 l0 x5_2).f5)) := (blk_cell BK243.out 5).trans rfl
                                 have hfz77_0 := blk_frozen BK243.out 0
                                 have hfz77_1 := blk_frozen BK243.out 1
                                 have hfz77_2 := blk_frozen BK243.out 2
                                 have hfz77_3 := blk_frozen BK243.out 3
                                 have hfz77_4 := blk_frozen BK243.out 4
                                 have hfz77_5 := blk_frozen BK243.out 5
                                 go_wp2_with (fail)
                                 go_roundg kj71
                                 case measure => have := HJ2.out; have := HK2.out; have := HJ7.out; have := HJ39.out; have := HJ71.out; omega
                                 case rel => exact ⟨(wrap64 (x5_2 + (y244.length : Int))), (by first | rfl | (simp; done) | (simp [*]; done)), H', ⟨by have := HJ2.out; have := HK2.out; have := HJ7.out; have := HJ39.out; have := HJ71.out; omega⟩, ⟨by repeat (first | (with_reducible first | exact HB.out | apply below_alloc | apply pw_below_drewN | apply below_drew1 | refine below_set ?_ GE243.out) | exact HB.out)⟩⟩
                                ·rw [if_neg c76] at H
                                 have c76b0 : (((rd_T115 l0 x5_2).f0) == 1) = false := beq_eq_false_iff_ne.mpr c76
                                 have c76b1 : (((rd_T115 l0 x5_2).f0) != 1) = true := bne_iff_ne.mpr c76
                                 by_cases c78 : ((rd_T115 l0 x5_2).f2) = 0
                                 ·rw [if_pos c78] at H
                                  have c78b0 : (((rd_T115 l0 x5_2).f2) == 0) = true := beq_iff_eq.mpr c78
                                  have c78b1 : (((rd_T115 l0 x5_2).f2) != 0) = false := bne_eq_false_iff_eq.mpr c78
                                  clear c78
                                  have H' := Aside0.mk H
                                  clear H
                                  have hcz79_0 : wc.cell? ⟨gb243, 0, none⟩ = some (.int .i64 ((rd_T115 l0 x5_2).f0)) := (blk_cell BK243.out 0).trans rfl
                                  have hcz79_1 : wc.cell? ⟨gb243, 1, none⟩ = some (.int .i64 ((rd_T115 l0 x5_2).f1)) := (blk_cell BK243.out 1).trans rfl
                                  have hcz79_2 : wc.cell? ⟨gb243, 2, none⟩ = some (.int .i64 ((rd_T115 l0 x5_2).f2)) := (blk_cell BK243.out 2).trans rfl
                                  have hcz79_3 : wc.cell? ⟨gb243, 3, none⟩ = some (.int .i64 ((rd_T115 l0 x5_2).f3)) := (blk_cell BK243.out 3).trans rfl
                                  have hcz79_4 : wc.cell? ⟨gb243, 4, none⟩ = some (.int .i64 ((rd_T115 l0 x5_2).f4)) := (blk_cell BK243.out 4).trans rfl
                                  have hcz79_5 : wc.cell? ⟨gb243, 5, none⟩ = some (.int .i64 ((rd_T115 l0 x5_2).f5)) := (blk_cell BK243.out 5).trans rfl
                                  have hfz79_0 := blk_frozen BK243.out 0
                                  have hfz79_1 := blk_frozen BK243.out 1
                                  have hfz79_2 := blk_frozen BK243.out 2
                                  have hfz79_3 := blk_frozen BK243.out 3
                                  have hfz79_4 := blk_frozen BK243.out 4
                                  have hfz79_5 := blk_frozen BK243.out 5
                                  go_wp2_with (fail)
                                  go_roundg kj71
                                  case measure => have := HJ2.out; have := HK2.out; have := HJ7.out; have := HJ39.out; have := HJ71.out; omega
                                  case rel => exact ⟨(wrap64 (x5_2 + (y244.length : Int))), (by first | rfl | (simp; done) | (simp [*]; done)), H', ⟨by have := HJ2.out; have := HK2.out; have := HJ7.out; have := HJ39.out; have := HJ71.out; omega⟩, ⟨by repeat (first | (with_reducible first | exact HB.out | apply below_alloc | apply pw_below_drewN | apply below_drew1 | refine below_set ?_ GE243.out) | exact HB.out)⟩⟩
                                 ·rw [if_neg c78] at H
                                  have c78b0 : (((rd_T115 l0 x5_2).f2) == 0) = false := beq_eq_false_iff_ne.mpr c78
                                  have c78b1 : (((rd_T115 l0 x5_2).f2) != 0) = true := bne_iff_ne.mpr c78
                                  obtain rfl := Option.some.inj H
                                  have hcz80_0 : wc.cell? ⟨gb243, 0, none⟩ = some (.int .i64 ((rd_T115 l0 x5_2).f0)) := (blk_cell BK243.out 0).trans rfl
                                  have hcz80_1 : wc.cell? ⟨gb243, 1, none⟩ = some (.int .i64 ((rd_T115 l0 x5_2).f1)) := (blk_cell BK243.out 1).trans rfl
                                  have hcz80_2 : wc.cell? ⟨gb243, 2, none⟩ = some (.int .i64 ((rd_T115 l0 x5_2).f2)) := (blk_cell BK243.out 2).trans rfl
                                  have hcz80_3 : wc.cell? ⟨gb243, 3, none⟩ = some (.int .i64 ((rd_T115 l0 x5_2).f3)) := (blk_cell BK243.out 3).trans rfl
                                  have hcz80_4 : wc.cell? ⟨gb243, 4, none⟩ = some (.int .i64 ((rd_T115 l0 x5_2).f4)) := (blk_cell BK243.out 4).trans rfl
                                  have hcz80_5 : wc.cell? ⟨gb243, 5, none⟩ = some (.int .i64 ((rd_T115 l0 x5_2).f5)) := (blk_cell BK243.out 5).trans rfl
                                  have hfz80_0 := blk_frozen BK243.out 0
                                  have hfz80_1 := blk_frozen BK243.out 1
                                  have hfz80_2 := blk_frozen BK243.out 2
                                  have hfz80_3 := blk_frozen BK243.out 3
                                  have hfz80_4 := blk_frozen BK243.out 4
                                  have hfz80_5 := blk_frozen BK243.out 5
                                  go_wp2_with (fail)
                                  go_ret
                                  exact ⟨by first | rfl | (simp [errW_none, errW_some] <;> rfl) | (simp only [← hji33, ← hji37]; first | rfl | (simp [errW_none, errW_some] <;> rfl)) | (simp [*, errW_none, errW_some] <;> rfl), by repeat (first | (with_reducible first | exact HB.out | apply below_alloc | apply pw_below_drewN | apply below_drew1 | refine below_set ?_ GE243.out) | exact HB.out)⟩
                               ·replace c75 := Bool.eq_false_iff.mpr c75
                                subst c75
                                have H1 : (if ((rd_T115 l0 x5_2).f0) = 3 then ((impl_oAtoms.f kj71 y251).bind fun t266 => (if (t266.length : Int) = 2 then (impl_oFormula.l1 kj71 l0 a1 x5_2 y244 t266 (t266.length : Int) 0 ((rd_T115 l0 x5_2).f0) ((rd_T115 l0 x5_2).f1) ((rd_T115 l0 x5_2).f2) ((rd_T115 l0 x5_2).f3) ((rd_T115 l0 x5_2).f4) ((rd_T115 l0 x5_2).f5)) else (some false))) else (some false)) = some r := by rw [if_neg (show ¬ (false = true) by decide)] at H; exact H
                                clear H
                                have H := H1
                                clear H1
                                by_cases c81 : ((rd_T115 l0 x5_2).f0) = 3
                                ·rw [if_pos c81] at H
                                 have c81b0 : (((rd_T115 l0 x5_2).f0) == 3) = true := beq_iff_eq.mpr c81
                                 have c81b1 : (((rd_T115 l0 x5_2).f0) != 3) = false := bne_eq_false_iff_eq.mpr c81
                                 clear c81
                                 replace H := Option.bind_eq_some_iff.mp H
                                 obtain ⟨t266, A820, H⟩ := H
                                 replace H : (if (t266.length : Int) = 2 then (impl_oFormula.l1 kj71 l0 a1 x5_2 y244 t266 (t266.length : Int) 0 ((rd_T115 l0 x5_2).f0) ((rd_T115 l0 x5_2).f1) ((rd_T115 l0 x5_2).f2) ((rd_T115 l0 x5_2).f3) ((rd_T115 l0 x5_2).f4) ((rd_T115 l0 x5_2).f5)) else (some false)) = some r := H
                                 have A82 := Aside0.mk A820
                                 clear A820
                                 by_cases c83 : (t266.length : Int) = 2
                                 ·rw [if_pos c83] at H
                                  have c83b0 : ((t266.length : Int) == 2) = true := beq_iff_eq.mpr c83
                                  have c83b1 : ((t266.length : Int) != 2) = false := bne_eq_false_iff_eq.mpr c83
                                  clear c83
                                  have H' := Aside0.mk H
                                  clear H
                                  go_wp2_with (first | ((with_reducible refine gate_callee (f := 71) rfl ?_); refine goesL_ (some 147) rfl rfl Try.func71 (by kernel_rfl) rfl #[.slice A43 y251.length c43] rfl (by (try simp only [List.map_toArray, List.map_cons, List.map_nil]); first | done | rfl | (simp only [List.length_drop, List.length_take]; rfl)) ?_; (with_reducible refine (impl_oAtoms.calls kj71 (fun k_ => k_ < w.heap.size) _ _ y251 t266 _ ?side1 A82.out).mono ?_); (case side1 => exact Kd.V_mk HC254.out (Kd.F_below (Kd.C_F k115_heap HR254.out) (by repeat (first | (with_reducible first | exact HB.out | apply below_alloc | apply pw_below_drewN | apply below_drew1 | refine below_set ?_ GE243.out) | exact HB.out)))); rintro e w84 ⟨v267, rfl, ho0, hb⟩; refine ⟨_, rfl, ?_⟩; have n0_ := Aside0.mk (Kd.N_lower (Kd.N_mono (ok' := fun k_ => k_ ≠ gb243) ho0 (fun k_ hk_ => Or.elim hk_ (fun hs_ => fun e_ => Nat.not_le.2 hs_ (by rw [e_]; exact GW243.out)) (fun hn_ => (Kd.freshB (g := gb243) (o := .cells #[.int .i64 ((rd_T115 l0 x5_2).f0), .int .i64 ((rd_T115 l0 x5_2).f1), .int .i64 ((rd_T115 l0 x5_2).f2), .int .i64 ((rd_T115 l0 x5_2).f3), .int .i64 ((rd_T115 l0 x5_2).f4), .int .i64 ((rd_T115 l0 x5_2).f5)] 115 (0, 0)) (by (with_reducible repeat (first | refine blk_drewN ?_ _ | refine blk_drew ?_ | refine blk_alloc ?_ _)); exact BK243.out) k_ hn_)))) (below_size (by repeat (first | (with_reducible first | exact HB.out | apply below_alloc | apply pw_below_drewN | apply below_drew1 | refine below_set ?_ GE243.out) | exact HB.out)))); have n1_ := Aside0.mk (blk_below (g := gb243) (o := .cells #[.int .i64 ((rd_T115 l0 x5_2).f0), .int .i64 ((rd_T115 l0 x5_2).f1), .int .i64 ((rd_T115 l0 x5_2).f2), .int .i64 ((rd_T115 l0 x5_2).f3), .int .i64 ((rd_T115 l0 x5_2).f4), .int .i64 ((rd_T115 l0 x5_2).f5)] 115 (0, 0)) (by (with_reducible repeat (first | refine blk_drewN ?_ _ | refine blk_drew ?_ | refine blk_alloc ?_ _)); exact BK243.out) hb); have n2_ := Aside0.mk (below_step (by repeat (first | (with_reducible first | exact HB.out | apply below_alloc | apply pw_below_drewN | apply below_drew1 | refine below_set ?_ GE243.out) | exact HB.out)) hb); clear BK243; clear HB; have HO268 := n0_; have BK243 := n1_; have HB := n2_; clear n0_ n1_ n2_; (try clear hb); (try clear hb2); (try clear hk); (try clear hi); (try clear ho0); obtain ⟨Ao85, co85, eo85⟩ := Kd.N_slice HO268.out; subst eo85))
                                  go_loopg [153] kj71 (fun kq v153 w' => ∃ (x153_6 : Int), v153 = .int .i64 x153_6 ∧ Aside0 (impl_oFormula.l1 kq l0 a1 x5_2 y244 t266 (t266.length : Int) x153_6 ((rd_T115 l0 x5_2).f0) ((rd_T115 l0 x5_2).f1) ((rd_T115 l0 x5_2).f2) ((rd_T115 l0 x5_2).f3) ((rd_T115 l0 x5_2).f4) ((rd_T115 l0 x5_2).f5) = some r) ∧ Aside0 (kq ≤ kj71) ∧ Aside0 (Kd.N (Kd.slice 115 k115) 26 w' w.heap.size (fun k_ => k_ ≠ gb243) (.slice Ao85 t266.length co85) t266) ∧ Aside0 (w'.heap[gb243]? = some (.cells #[.int .i64 ((rd_T115 l0 x5_2).f0), .int .i64 ((rd_T115 l0 x5_2).f1), .int .i64 ((rd_T115 l0 x5_2).f2), .int .i64 ((rd_T115 l0 x5_2).f3), .int .i64 ((rd_T115 l0 x5_2).f4), .int .i64 ((rd_T115 l0 x5_2).f5)] 115 (0, 0))) ∧ Aside0 (Below w.heap.size w w'))
                                  case atStart => exact ⟨(0), (by first | rfl | (simp; done) | (simp [*]; done)), H', ⟨Nat.le_refl _⟩, ⟨by (with_reducible repeat (first | apply Kd.N_alloc | apply Kd.N_drewN | apply Kd.N_drew)); exact HO268.out⟩, ⟨by (with_reducible repeat (first | refine blk_drewN ?_ _ | refine blk_drew ?_ | refine blk_alloc ?_ _)); exact BK243.out⟩, ⟨by repeat (first | (with_reducible first | exact HB.out | apply below_alloc | apply pw_below_drewN | apply below_drew1 | refine below_set ?_ GE243.out) | exact HB.out)⟩⟩
                                  case round =>
                                   clear H'
                                   try clear c1
                                   try clear c2
                                   try clear p2
                                   try clear q2
                                   try clear hx2
                                   try clear qi2
                                   try clear c3
                                   try clear c4
                                   try clear c4b0
                                   try clear c4b1
                                   try clear q4
                                   try clear c5
                                   try clear c6
                                   try clear c6b0
                                   try clear p6
                                   try clear c7
                                   try clear c7b0
                                   try clear c8
                                   try clear c11
                                   try clear c11b0
                                   try clear c13
                                   try clear c13b0
                                   try clear c15
                                   try clear c15b0
                                   try clear c17
                                   try clear c17b0
                                   try clear c19
                                   try clear c19b0
                                   try clear c21
                                   try clear c21b0
                                   try clear c23
                                   try clear c23b0
                                   try clear p24
                                   try clear q24
                                   try clear hx24
                                   try clear qi24
                                   try clear p25
                                   try clear q25
                                   try clear hx25
                                   try clear qi25
                                   try clear c26
                                   try clear c27
                                   try clear c27b0
                                   try clear c27b1
                                   try clear c28
                                   try clear c28b0
                                   try clear c28b1
                                   try clear c29
                                   try clear c29b0
                                   try clear c29b1
                                   try clear c30
                                   try clear c30b0
                                   try clear c30b1
                                   try clear c31
                                   try clear c31b0
                                   try clear c31b1
                                   try clear c32
                                   try clear c32b0
                                   try clear c32b1
                                   try clear c34
                                   try clear c34b0
                                   try clear c34b1
                                   try clear c35
                                   try clear c35b0
                                   try clear c35b1
                                   try clear c36
                                   try clear c36b0
                                   try clear c36b1
                                   try clear c38
                                   try clear c38b0
                                   try clear c38b1
                                   try clear c39
                                   try clear c39b0
                                   try clear c42
                                   try clear q42
                                   try clear c43
                                   try clear q43
                                   try clear c44
                                   try clear q44
                                   try clear c45
                                   try clear q45
                                   try clear c47
                                   try clear c49
                                   try clear c57
                                   try clear c58
                                   try clear c58b0
                                   try clear c58b1
                                   try clear c61
                                   try clear c61b0
                                   try clear c63
                                   try clear c63b0
                                   try clear p64
                                   try clear c66
                                   try clear c67
                                   try clear c67b0
                                   try clear c67b1
                                   try clear c69
                                   try clear c69b0
                                   try clear c69b1
                                   try clear c71
                                   try clear c74
                                   try clear c74b0
                                   try clear c74b1
                                   try clear c75
                                   try clear c76
                                   try clear c76b0
                                   try clear c76b1
                                   try clear c78
                                   try clear c78b0
                                   try clear c78b1
                                   try clear c81
                                   try clear c81b0
                                   try clear c81b1
                                   try clear c83
                                   try clear c83b0
                                   try clear c83b1
                                   try clear hcz10_0
                                   try clear hcz10_1
                                   try clear hcz10_2
                                   try clear hcz10_3
                                   try clear hcz10_4
                                   try clear hcz10_5
                                   try clear hcz12_0
                                   try clear hcz12_1
                                   try clear hcz12_2
                                   try clear hcz12_3
                                   try clear hcz12_4
                                   try clear hcz12_5
                                   try clear hcz14_0
                                   try clear hcz14_1
                                   try clear hcz14_2
                                   try clear hcz14_3
                                   try clear hcz14_4
                                   try clear hcz14_5
                                   try clear hcz16_0
                                   try clear hcz16_1
                                   try clear hcz16_2
                                   try clear hcz16_3
                                   try clear hcz16_4
                                   try clear hcz16_5
                                   try clear hcz18_0
                                   try clear hcz18_1
                                   try clear hcz18_2
                                   try clear hcz18_3
                                   try clear hcz18_4
                                   try clear hcz18_5
                                   try clear hcz20_0
                                   try clear hcz20_1
                                   try clear hcz20_2
                                   try clear hcz20_3
                                   try clear hcz20_4
                                   try clear hcz20_5
                                   try clear hcz22_0
                                   try clear hcz22_1
                                   try clear hcz22_2
                                   try clear hcz22_3
                                   try clear hcz22_4
                                   try clear hcz22_5
                                   try clear hcz24_0
                                   try clear hcz24_1
                                   try clear hcz24_2
                                   try clear hcz24_3
                                   try clear hcz24_4
                                   try clear hcz24_5
                                   try clear hcz25_0
                                   try clear hcz25_1
                                   try clear hcz25_2
                                   try clear hcz25_3
                                   try clear hcz25_4
                                   try clear hcz25_5
                                   try clear hcz41_0
                                   try clear hcz41_1
                                   try clear hcz41_2
                                   try clear hcz41_3
                                   try clear hcz41_4
                                   try clear hcz41_5
                                   try clear hcz60_0
                                   try clear hcz60_1
                                   try clear hcz60_2
                                   try clear hcz60_3
                                   try clear hcz60_4
                                   try clear hcz60_5
                                   try clear hcz62_0
                                   try clear hcz62_1
                                   try clear hcz62_2
                                   try clear hcz62_3
                                   try clear hcz62_4
                                   try clear hcz62_5
                                   try clear hcz64_0
                                   try clear hcz64_1
                                   try clear hcz64_2
                                   try clear hcz64_3
                                   try clear hcz64_4
                                   try clear hcz64_5
                                   try clear hcz65_0
                                   try clear hcz65_1
                                   try clear hcz65_2
                                   try clear hcz65_3
                                   try clear hcz65_4
                                   try clear hcz65_5
                                   try clear hcz68_0
                                   try clear hcz68_1
                                   try clear hcz68_2
                                   try clear hcz68_3
                                   try clear hcz68_4
                                   try clear hcz68_5
                                   try clear hcz70_0
                                   try clear hcz70_1
                                   try clear hcz70_2
                                   try clear hcz70_3
                                   try clear hcz70_4
                                   try clear hcz70_5
                                   try clear hcz71_0
                                   try clear hcz71_1
                                   try clear hcz71_2
                                   try clear hcz71_3
                                   try clear hcz71_4
                                   try clear hcz71_5
                                   try clear hcz73_0
                                   try clear hcz73_1
                                   try clear hcz73_2
                                   try clear hcz73_3
                                   try clear hcz73_4
                                   try clear hcz73_5
                                   try clear hcz77_0
                                   try clear hcz77_1
                                   try clear hcz77_2
                                   try clear hcz77_3
                                   try clear hcz77_4
                                   try clear hcz77_5
                                   try clear hcz79_0
                                   try clear hcz79_1
                                   try clear hcz79_2
                                   try clear hcz79_3
                                   try clear hcz79_4
                                   try clear hcz79_5
                                   try clear hcz80_0
                                   try clear hcz80_1
                                   try clear hcz80_2
                                   try clear hcz80_3
                                   try clear hcz80_4
                                   try clear hcz80_5
                                   try clear hfz10_0
                                   try clear hfz10_1
                                   try clear hfz10_2
                                   try clear hfz10_3
                                   try clear hfz10_4
                                   try clear hfz10_5
                                   try clear hfz12_0
                                   try clear hfz12_1
                                   try clear hfz12_2
                                   try clear hfz12_3
                                   try clear hfz12_4
                                   try clear hfz12_5
                                   try clear hfz14_0
                                   try clear hfz14_1
                                   try clear hfz14_2
                                   try clear hfz14_3
                                   try clear hfz14_4
                                   try clear hfz14_5
                                   try clear hfz16_0
                                   try clear hfz16_1
                                   try clear hfz16_2
                                   try clear hfz16_3
                                   try clear hfz16_4
                                   try clear hfz16_5
                                   try clear hfz18_0
                                   try clear hfz18_1
                                   try clear hfz18_2
                                   try clear hfz18_3
                                   try clear hfz18_4
                                   try clear hfz18_5
                                   try clear hfz20_0
                                   try clear hfz20_1
                                   try clear hfz20_2
                                   try clear hfz20_3
                                   try clear hfz20_4
                                   try clear hfz20_5
                                   try clear hfz22_0
                                   try clear hfz22_1
                                   try clear hfz22_2
                                   try clear hfz22_3
                                   try clear hfz22_4
                                   try clear hfz22_5
                                   try clear hfz24_0
                                   try clear hfz24_1
                                   try clear hfz24_2
                                   try clear hfz24_3
                                   try clear hfz24_4
                                   try clear hfz24_5
                                   try clear hfz25_0
                                   try clear hfz25_1
                                   try clear hfz25_2
                                   try clear hfz25_3
                                   try clear hfz25_4
                                   try clear hfz25_5
                                   try clear hfz41_0
                                   try clear hfz41_1
                                   try clear hfz41_2
                                   try clear hfz41_3
                                   try clear hfz41_4
                                   try clear hfz41_5
                                   try clear hfz60_0
                                   try clear hfz60_1
                                   try clear hfz60_2
                                   try clear hfz60_3
                                   try clear hfz60_4
                                   try clear hfz60_5
                                   try clear hfz62_0
                                   try clear hfz62_1
                                   try clear hfz62_2
                                   try clear hfz62_3
                                   try clear hfz62_4
                                   try clear hfz62_5
                                   try clear hfz64_0
                                   try clear hfz64_1
                                   try clear hfz64_2
                                   try clear hfz64_3
                                   try clear hfz64_4
                                   try clear hfz64_5
                                   try clear hfz65_0
                                   try clear hfz65_1
                                   try clear hfz65_2
                                   try clear hfz65_3
                                   try clear hfz65_4
                                   try clear hfz65_5
                                   try clear hfz68_0
                                   try clear hfz68_1
                                   try clear hfz68_2
                                   try clear hfz68_3
                                   try clear hfz68_4
                                   try clear hfz68_5
                                   try clear hfz70_0
                                   try clear hfz70_1
                                   try clear hfz70_2
                                   try clear hfz70_3
                                   try clear hfz70_4
                                   try clear hfz70_5
                                   try clear hfz71_0
                                   try clear hfz71_1
                                   try clear hfz71_2
                                   try clear hfz71_3
                                   try clear hfz71_4
                                   try clear hfz71_5
                                   try clear hfz73_0
                                   try clear hfz73_1
                                   try clear hfz73_2
                                   try clear hfz73_3
                                   try clear hfz73_4
                                   try clear hfz73_5
                                   try clear hfz77_0
                                   try clear hfz77_1
                                   try clear hfz77_2
                                   try clear hfz77_3
                                   try clear hfz77_4
                                   try clear hfz77_5
                                   try clear hfz79_0
                                   try clear hfz79_1
                                   try clear hfz79_2
                                   try clear hfz79_3
                                   try clear hfz79_4
                                   try clear hfz79_5
                                   try clear hfz80_0
                                   try clear hfz80_1
                                   try clear hfz80_2
                                   try clear hfz80_3
                                   try clear hfz80_4
                                   try clear hfz80_5
                                   try clear hx242_0
                                   try clear hx242_1
                                   try clear hx242_2
                                   try clear hx242_3
                                   try clear hx242_4
                                   try clear hx242_5
                                   try clear hx248_0
                                   try clear hx248_1
                                   try clear hx248_2
                                   try clear hx248_3
                                   try clear hx248_4
                                   try clear hx248_5
                                   try clear hx249_0
                                   try clear hx249_1
                                   try clear hx249_2
                                   try clear hx249_3
                                   try clear hx249_4
                                   try clear hx249_5
                                   try clear hx250_0
                                   try clear hx250_1
                                   try clear hx250_2
                                   try clear hx250_3
                                   try clear hx250_4
                                   try clear hx250_5
                                   try clear p2
                                   try clear p24
                                   try clear p242
                                   try clear p248
                                   try clear p249
                                   try clear p25
                                   try clear p250
                                   try clear p6
                                   try clear p64
                                   try clear q042
                                   try clear q044
                                   try clear q045
                                   try clear q2
                                   try clear q24
                                   try clear q242
                                   try clear q248
                                   try clear q249
                                   try clear q25
                                   try clear q250
                                   try clear q4
                                   try clear q42
                                   try clear q43
                                   try clear q44
                                   try clear q45
                                   obtain ⟨x153_6, rfl, HA, HK6, HO_151, BK243, HB⟩ := hrel
                                   cases gk with
                                   | zero => exact absurd HA.out (by simp [impl_oFormula.l1])
                                   | succ k6 =>
                                    have H := HA.out
                                    clear HA
                                    simp only [impl_oFormula.l1] at H
                                    by_cases c86 : x153_6 < (t266.length : Int)
                                    ·rw [if_pos c86] at H
                                     have c86b0 : decide (x153_6 < (t266.length : Int)) = true := decide_eq_true c86
                                     clear c86
                                     by_cases c87 : 0 ≤ x153_6
                                     ·rw [if_pos c87] at H
                                      have c87b0 : decide (0 ≤ x153_6) = true := decide_eq_true c87
                                      clear c87
                                      by_cases c88 : x153_6 < (t266.length : Int)
                                      ·rw [if_pos c88] at H
                                       have c88b0 : decide (x153_6 < (t266.length : Int)) = true := decide_eq_true c88
                                       clear c88
                                       by_cases c89 : 0 < ((rd_L3 t266 x153_6).length : Int)
                                       ·rw [if_pos c89] at H
                                        have c89b0 : decide (0 < ((rd_L3 t266 x153_6).length : Int)) = true := decide_eq_true c89
                                        have c89b1 : decide (0 < (rd_L3 t266 x153_6).length) = true := decide_eq_true (by omega)
                                        clear c89
                                        by_cases c90 : ((rd_T115 (rd_L3 t266 x153_6) 0).f0) = 2
                                        ·rw [if_pos c90] at H
                                         have c90b0 : (((rd_T115 (rd_L3 t266 x153_6) 0).f0) == 2) = true := beq_iff_eq.mpr c90
                                         have c90b1 : (((rd_T115 (rd_L3 t266 x153_6) 0).f0) != 2) = false := bne_eq_false_iff_eq.mpr c90
                                         clear c90
                                         by_cases c91 : ((rd_T115 (rd_L3 t266 x153_6) 0).f4) = 0
                                         ·rw [if_pos c91] at H
                                          have c91b0 : (((rd_T115 (rd_L3 t266 x153_6) 0).f4) == 0) = true := beq_iff_eq.mpr c91
                                          have c91b1 : (((rd_T115 (rd_L3 t266 x153_6) 0).f4) != 0) = false := bne_eq_false_iff_eq.mpr c91
                                          clear c91
                                          by_cases c92 : ((rd_T115 (rd_L3 t266 x153_6) 0).f5) = 0
                                          ·rw [if_pos c92] at H
                                           have c92b0 : (((rd_T115 (rd_L3 t266 x153_6) 0).f5) == 0) = true := beq_iff_eq.mpr c92
                                           have c92b1 : (((rd_T115 (rd_L3 t266 x153_6) 0).f5) != 0) = false := bne_eq_false_iff_eq.mpr c92
                                           clear c92
                                           have H' := Aside0.mk H
                                           clear H
                                           have p269 : 0 ≤ (x153_6 : Int) := of_decide_eq_true (by first | (with_reducible assumption) | assumption)
                                           have q269 : x153_6 < (t266.length : Int) := of_decide_eq_true (by first | (with_reducible assumption) | assumption)
                                           obtain ⟨ad269, A269_0, c269_0, e269, hx269_0, hl269_0, hi269_0⟩ := at_L3 (Kd.N_reads' HO_151.out).2.2 x153_6 p269 q269
                                           cases e269
                                           obtain ⟨ce269, hce269, hMe269, hcc269⟩ := Kd.N_get HO_151.out [] x153_6 p269 (by first | exact q269 | exact of_decide_eq_true (by first | (with_reducible assumption) | assumption) | (have e_ := (Kd.N_reads' HO_151.out).1; omega))
                                           obtain ⟨ua269_0, uc269_0, rfl, ul269_0, ge269_0⟩ := Kd.FK_slice_open hMe269
                                           have hv269_0 := hcc269 0 _ rfl
                                           rw [Nat.add_zero, show ((Kd.slice 115 k115)).sz = 1 from rfl, Nat.mul_one] at hv269_0
                                           replace hv269_0 := Option.some.inj (hv269_0.symm.trans hx269_0)
                                           injection hv269_0 with hva_ hvn_ hvc_
                                           rw [hva_] at ge269_0
                                           rw [hvc_] at ul269_0
                                           have HL269_0 := Aside0.mk (show Kd.V k115 115 _ w.heap.size _ _ (rd_L3 t266 x153_6) from Kd.V_mk ul269_0 ge269_0)
                                           clear hva_ hvn_ hvc_ ge269_0 ul269_0
                                           clear hcc269 hce269
                                           have HR269_0 := Aside0.mk hi269_0
                                           have HC269_0 := Aside0.mk hl269_0
                                           clear hi269_0 hl269_0
                                           replace p269 := eq_true p269
                                           replace q269 := eq_true q269
                                           have p270 : 0 ≤ (0 : Int) := (by omega)
                                           have q270 : 0 < ((rd_L3 t266 x153_6).length : Int) := of_decide_eq_true (by first | (with_reducible assumption) | assumption)
                                           obtain ⟨ad270, e270, hx270_0, hx270_1, hx270_2, hx270_3, hx270_4, hx270_5⟩ := at_T115 (by repeat (first | (with_reducible exact HR269_0.out) | (with_reducible refine Kd.C_alloc ?_ _) | (with_reducible refine Kd.C_drewN ?_ _) | (with_reducible refine Kd.C_drew ?_) | exact HR269_0.out)) 0 p270 q270
                                           cases e270
                                           have qi270 : (0 < (rd_L3 t266 x153_6).length) = True := eq_true (by omega)
                                           (try rw [show ((0 : Int)).toNat = 0 from rfl] at hx270_0)
                                           (try rw [show 0 * 6 = 0 from rfl] at hx270_0)
                                           (try rw [Addr.add_zero'] at hx270_0)
                                           (try rw [show ((0 : Int)).toNat = 0 from rfl] at hx270_1)
                                           (try rw [show 0 * 6 = 0 from rfl] at hx270_1)
                                           (try rw [Addr.add_zero'] at hx270_1)
                                           (try rw [show ((0 : Int)).toNat = 0 from rfl] at hx270_2)
                                           (try rw [show 0 * 6 = 0 from rfl] at hx270_2)
                                           (try rw [Addr.add_zero'] at hx270_2)
                                           (try rw [show ((0 : Int)).toNat = 0 from rfl] at hx270_3)
                                           (try rw [show 0 * 6 = 0 from rfl] at hx270_3)
                                           (try rw [Addr.add_zero'] at hx270_3)
                                           (try rw [show ((0 : Int)).toNat = 0 from rfl] at hx270_4)
                                           (try rw [show 0 * 6 = 0 from rfl] at hx270_4)
                                           (try rw [Addr.add_zero'] at hx270_4)
                                           (try rw [show ((0 : Int)).toNat = 0 from rfl] at hx270_5)
                                           (try rw [show 0 * 6 = 0 from rfl] at hx270_5)
                                           (try rw [Addr.add_zero'] at hx270_5)
                                           replace p270 := eq_true p270
                                           replace q270 := eq_true q270
                                           have p271 : 0 ≤ (0 : Int) := (by omega)
                                           have q271 : 0 < ((rd_L3 t266 x153_6).length : Int) := of_decide_eq_true (by first | (with_reducible assumption) | assumption)
                                           obtain ⟨ad271, e271, hx271_0, hx271_1, hx271_2, hx271_3, hx271_4, hx271_5⟩ := at_T115 (by repeat (first | (with_reducible exact HR269_0.out) | (with_reducible refine Kd.C_alloc ?_ _) | (with_reducible refine Kd.C_drewN ?_ _) | (with_reducible refine Kd.C_drew ?_) | exact HR269_0.out)) 0 p271 q271
                                           obtain rfl : ad270 = ad271 := (by injection e271)
                                           have qi271 : (0 < (rd_L3 t266 x153_6).length) = True := eq_true (by omega)
                                           (try rw [show ((0 : Int)).toNat = 0 from rfl] at hx271_0)
                                           (try rw [show 0 * 6 = 0 from rfl] at hx271_0)
                                           (try rw [Addr.add_zero'] at hx271_0)
                                           (try rw [show ((0 : Int)).toNat = 0 from rfl] at hx271_1)
                                           (try rw [show 0 * 6 = 0 from rfl] at hx271_1)
                                           (try rw [Addr.add_zero'] at hx271_1)
                                           (try rw [show ((0 : Int)).toNat = 0 from rfl] at hx271_2)
                                           (try rw [show 0 * 6 = 0 from rfl] at hx271_2)
                                           (try rw [Addr.add_zero'] at hx271_2)
                                           (try rw [show ((0 : Int)).toNat = 0 from rfl] at hx271_3)
                                           (try rw [show 0 * 6 = 0 from rfl] at hx271_3)
                                           (try rw [Addr.add_zero'] at hx271_3)
                                           (try rw [show ((0 : Int)).toNat = 0 from rfl] at hx271_4)
                                           (try rw [show 0 * 6 = 0 from rfl] at hx271_4)
                                           (try rw [Addr.add_zero'] at hx271_4)
                                           (try rw [show ((0 : Int)).toNat = 0 from rfl] at hx271_5)
                                           (try rw [show 0 * 6 = 0 from rfl] at hx271_5)
                                           (try rw [Addr.add_zero'] at hx271_5)
                                           replace p271 := eq_true p271
                                           replace q271 := eq_true q271
                                           have p272 : 0 ≤ (0 : Int) := (by omega)
                                           have q272 : 0 < ((rd_L3 t266 x153_6).length : Int) := of_decide_eq_true (by first | (with_reducible assumption) | assumption)
                                           obtain ⟨ad272, e272, hx272_0, hx272_1, hx272_2, hx272_3, hx272_4, hx272_5⟩ := at_T115 (by repeat (first | (with_reducible exact HR269_0.out) | (with_reducible refine Kd.C_alloc ?_ _) | (with_reducible refine Kd.C_drewN ?_ _) | (with_reducible refine Kd.C_drew ?_) | exact HR269_0.out)) 0 p272 q272
                                           obtain rfl : ad270 = ad272 := (by injection e272)
                                           have qi272 : (0 < (rd_L3 t266 x153_6).length) = True := eq_true (by omega)
                                           (try rw [show ((0 : Int)).toNat = 0 from rfl] at hx272_0)
                                           (try rw [show 0 * 6 = 0 from rfl] at hx272_0)
                                           (try rw [Addr.add_zero'] at hx272_0)
                                           (try rw [show ((0 : Int)).toNat = 0 from rfl] at hx272_1)
                                           (try rw [show 0 * 6 = 0 from rfl] at hx272_1)
                                           (try rw [Addr.add_zero'] at hx272_1)
                                           (try rw [show ((0 : Int)).toNat = 0 from rfl] at hx272_2)
                                           (try rw [show 0 * 6 = 0 from rfl] at hx272_2)
                                           (try rw [Addr.add_zero'] at hx272_2)
                                           (try rw [show ((0 : Int)).toNat = 0 from rfl] at hx272_3)
                                           (try rw [show 0 * 6 = 0 from rfl] at hx272_3)
                                           (try rw [Addr.add_zero'] at hx272_3)
                                           (try rw [show ((0 : Int)).toNat = 0 from rfl] at hx272_4)
                                           (try rw [show 0 * 6 = 0 from rfl] at hx272_4)
                                           (try rw [Addr.add_zero'] at hx272_4)
                                           (try rw [show ((0 : Int)).toNat = 0 from rfl] at hx272_5)
                                           (try rw [show 0 * 6 = 0 from rfl] at hx272_5)
                                           (try rw [Addr.add_zero'] at hx272_5)
                                           replace p272 := eq_true p272
                                           replace q272 := eq_true q272
                                           go_wp2_with (fail)
                                           go_roundg k6
                                           case measure => have := HJ2.out; have := HK2.out; have := HJ7.out; have := HJ39.out; have := HJ71.out; have := HK6.out; omega
                                           case rel => exact ⟨(wrap64 (x153_6 + 1)), (by first | rfl | (simp; done) | (simp [*]; done)), H', ⟨by have := HJ2.out; have := HK2.out; have := HJ7.out; have := HJ39.out; have := HJ71.out; have := HK6.out; omega⟩, ⟨by (with_reducible repeat (first | apply Kd.N_alloc | apply Kd.N_drewN | apply Kd.N_drew)); exact HO_151.out⟩, ⟨by (with_reducible repeat (first | refine blk_drewN ?_ _ | refine blk_drew ?_ | refine blk_alloc ?_ _)); exact BK243.out⟩, ⟨by repeat (first | (with_reducible first | exact HB.out | apply below_alloc | apply pw_below_drewN | apply below_drew1 | refine below_set ?_ GE243.out) | exact HB.out)⟩⟩
                                          ·rw [if_neg c92] at H
                                           have c92b0 : (((rd_T115 (rd_L3 t266 x153_6) 0).f5) == 0) = false := beq_eq_false_iff_ne.mpr c92
                                           have c92b1 : (((rd_T115 (rd_L3 t266 x153_6) 0).f5) != 0) = true := bne_iff_ne.mpr c92
                                           obtain rfl := Option.some.inj H
                                           have p269 : 0 ≤ (x153_6 : Int) := of_decide_eq_true (by first | (with_reducible assumption) | assumption)
                                           have q269 : x153_6 < (t266.length : Int) := of_decide_eq_true (by first | (with_reducible assumption) | assumption)
                                           obtain ⟨ad269, A269_0, c269_0, e269, hx269_0, hl269_0, hi269_0⟩ := at_L3 (Kd.N_reads' HO_151.out).2.2 x153_6 p269 q269
                                           cases e269
                                           obtain ⟨ce269, hce269, hMe269, hcc269⟩ := Kd.N_get HO_151.out [] x153_6 p269 (by first | exact q269 | exact of_decide_eq_true (by first | (with_reducible assumption) | assumption) | (have e_ := (Kd.N_reads' HO_151.out).1; omega))
                                           obtain ⟨ua269_0, uc269_0, rfl, ul269_0, ge269_0⟩ := Kd.FK_slice_open hMe269
                                           have hv269_0 := hcc269 0 _ rfl
                                           rw [Nat.add_zero, show ((Kd.slice 115 k115)).sz = 1 from rfl, Nat.mul_one] at hv269_0
                                           replace hv269_0 := Option.some.inj (hv269_0.symm.trans hx269_0)
                                           injection hv269_0 with hva_ hvn_ hvc_
                                           rw [hva_] at ge269_0
                                           rw [hvc_] at ul269_0
                                           have HL269_0 := Aside0.mk (show Kd.V k115 115 _ w.heap.size _ _ (rd_L3 t266 x153_6) from Kd.V_mk ul269_0 ge269_0)
                                           clear hva_ hvn_ hvc_ ge269_0 ul269_0
                                           clear hcc269 hce269
                                           have HR269_0 := Aside0.mk hi269_0
                                           have HC269_0 := Aside0.mk hl269_0
                                           clear hi269_0 hl269_0
                                           replace p269 := eq_true p269
                                           replace q269 := eq_true q269
                                           have p270 : 0 ≤ (0 : Int) := (by omega)
                                           have q270 : 0 < ((rd_L3 t266 x153_6).length : Int) := of_decide_eq_true (by first | (with_reducible assumption) | assumption)
                                           obtain ⟨ad270, e270, hx270_0, hx270_1, hx270_2, hx270_3, hx270_4, hx270_5⟩ := at_T115 (by repeat (first | (with_reducible exact HR269_0.out) | (with_reducible refine Kd.C_alloc ?_ _) | (with_reducible refine Kd.C_drewN ?_ _) | (with_reducible refine Kd.C_drew ?_) | exact HR269_0.out)) 0 p270 q270
                                           cases e270
                                           have qi270 : (0 < (rd_L3 t266 x153_6).length) = True := eq_true (by omega)
                                           (try rw [show ((0 : Int)).toNat = 0 from rfl] at hx270_0)
                                           (try rw [show 0 * 6 = 0 from rfl] at hx270_0)
                                           (try rw [Addr.add_zero'] at hx270_0)
                                           (try rw [show ((0 : Int)).toNat = 0 from rfl] at hx270_1)
                                           (try rw [show 0 * 6 = 0 from rfl] at hx270_1)
                                           (try rw [Addr.add_zero'] at hx270_1)
                                           (try rw [show ((0 : Int)).toNat = 0 from rfl] at hx270_2)
                                           (try rw [show 0 * 6 = 0 from rfl] at hx270_2)
                                           (try rw [Addr.add_zero'] at hx270_2)
                                           (try rw [show ((0 : Int)).toNat = 0 from rfl] at hx270_3)
                                           (try rw [show 0 * 6 = 0 from rfl] at hx270_3)
                                           (try rw [Addr.add_zero'] at hx270_3)
                                           (try rw [show ((0 : Int)).toNat = 0 from rfl] at hx270_4)
                                           (try rw [show 0 * 6 = 0 from rfl] at hx270_4)
                                           (try rw [Addr.add_zero'] at hx270_4)
                                           (try rw [show ((0 : Int)).toNat = 0 from rfl] at hx270_5)
                                           (try rw [show 0 * 6 = 0 from rfl] at hx270_5)
                                           (try rw [Addr.add_zero'] at hx270_5)
                                           replace p270 := eq_true p270
                                           replace q270 := eq_true q270
                                           have p271 : 0 ≤ (0 : Int) := (by omega)
                                           have q271 : 0 < ((rd_L3 t266 x153_6).length : Int) := of_decide_eq_true (by first | (with_reducible assumption) | assumption)
                                           obtain ⟨ad271, e271, hx271_0, hx271_1, hx271_2, hx271_3, hx271_4, hx271_5⟩ := at_T115 (by repeat (first | (with_reducible exact HR269_0.out) | (with_reducible refine Kd.C_alloc ?_ _) | (with_reducible refine Kd.C_drewN ?_ _) | (with_reducible refine Kd.C_drew ?_) | exact HR269_0.out)) 0 p271 q271
                                           obtain rfl : ad270 = ad271 := (by injection e271)
                                           have qi271 : (0 < (rd_L3 t266 x153_6).length) = True := eq_true (by omega)
                                           (try rw [show ((0 : Int)).toNat = 0 from rfl] at hx271_0)
                                           (try rw [show 0 * 6 = 0 from rfl] at hx271_0)
                                           (try rw [Addr.add_zero'] at hx271_0)
                                           (try rw [show ((0 : Int)).toNat = 0 from rfl] at hx271_1)
                                           (try rw [show 0 * 6 = 0 from rfl] at hx271_1)
                                           (try rw [Addr.add_zero'] at hx271_1)
                                           (try rw [show ((0 : Int)).toNat = 0 from rfl] at hx271_2)
                                           (try rw [show 0 * 6 = 0 from rfl] at hx271_2)
                                           (try rw [Addr.add_zero'] at hx271_2)
                                           (try rw [show ((0 : Int)).toNat = 0 from rfl] at hx271_3)
                                           (try rw [show 0 * 6 = 0 from rfl] at hx271_3)
                                           (try rw [Addr.add_zero'] at hx271_3)
                                           (try rw [show ((0 : Int)).toNat = 0 from rfl] at hx271_4)
                                           (try rw [show 0 * 6 = 0 from rfl] at hx271_4)
                                           (try rw [Addr.add_zero'] at hx271_4)
                                           (try rw [show ((0 : Int)).toNat = 0 from rfl] at hx271_5)
                                           (try rw [show 0 * 6 = 0 from rfl] at hx271_5)
                                           (try rw [Addr.add_zero'] at hx271_5)
                                           replace p271 := eq_true p271
                                           replace q271 := eq_true q271
                                           have p272 : 0 ≤ (0 : Int) := (by omega)
                                           have q272 : 0 < ((rd_L3 t266 x153_6).length : Int) := of_decide_eq_true (by first | (with_reducible assumption) | assumption)
                                           obtain ⟨ad272, e272, hx272_0, hx272_1, hx272_2, hx272_3, hx272_4, hx272_5⟩ := at_T115 (by repeat (first | (with_reducible exact HR269_0.out) | (with_reducible refine Kd.C_alloc ?_ _) | (with_reducible refine Kd.C_drewN ?_ _) | (with_reducible refine Kd.C_drew ?_) | exact HR269_0.out)) 0 p272 q272
                                           obtain rfl : ad270 = ad272 := (by injection e272)
                                           have qi272 : (0 < (rd_L3 t266 x153_6).length) = True := eq_true (by omega)
                                           (try rw [show ((0 : Int)).toNat = 0 from rfl] at hx272_0)
                                           (try rw [show 0 * 6 = 0 from rfl] at hx272_0)
                                           (try rw [Addr.add_zero'] at hx272_0)
                                           (try rw [show ((0 : Int)).toNat = 0 from rfl] at hx272_1)
                                           (try rw [show 0 * 6 = 0 from rfl] at hx272_1)
                                           (try rw [Addr.add_zero'] at hx272_1)
                                           (try rw [show ((0 : Int)).toNat = 0 from rfl] at hx272_2)
                                           (try rw [show 0 * 6 = 0 from rfl] at hx272_2)
                                           (try rw [Addr.add_zero'] at hx272_2)
                                           (try rw [show ((0 : Int)).toNat = 0 from rfl] at hx272_3)
                                           (try rw [show 0 * 6 = 0 from rfl] at hx272_3)
                                           (try rw [Addr.add_zero'] at hx272_3)
                                           (try rw [show ((0 : Int)).toNat = 0 from rfl] at hx272_4)
                                           (try rw [show 0 * 6 = 0 from rfl] at hx272_4)
                                           (try rw [Addr.add_zero'] at hx272_4)
                                           (try rw [show ((0 : Int)).toNat = 0 from rfl] at hx272_5)
                                           (try rw [show 0 * 6 = 0 from rfl] at hx272_5)
                                           (try rw [Addr.add_zero'] at hx272_5)
                                           replace p272 := eq_true p272
                                           replace q272 := eq_true q272
                                           go_wp2_with (fail)
                                           go_ret
                                           exact ⟨by first | rfl | (simp [errW_none, errW_some] <;> rfl) | (simp only [← hji33, ← hji37]; first | rfl | (simp [errW_none, errW_some] <;> rfl)) | (simp [*, errW_none, errW_some] <;> rfl), by repeat (first | (with_reducible first | exact HB.out | apply below_alloc | apply pw_below_drewN | apply below_drew1 | refine below_set ?_ GE243.out) | exact HB.out)⟩
                                         ·rw [if_neg c91] at H
                                          have c91b0 : (((rd_T115 (rd_L3 t266 x153_6) 0).f4) == 0) = false := beq_eq_false_iff_ne.mpr c91
                                          have c91b1 : (((rd_T115 (rd_L3 t266 x153_6) 0).f4) != 0) = true := bne_iff_ne.mpr c91
                                          obtain rfl := Option.some.inj H
                                          have p269 : 0 ≤ (x153_6 : Int) := of_decide_eq_true (by first | (with_reducible assumption) | assumption)
                                          have q269 : x153_6 < (t266.length : Int) := of_decide_eq_true (by first | (with_reducible assumption) | assumption)
                                          obtain ⟨ad269, A269_0, c269_0, e269, hx269_0, hl269_0, hi269_0⟩ := at_L3 (Kd.N_reads' HO_151.out).2.2 x153_6 p269 q269
                                          cases e269
                                          obtain ⟨ce269, hce269, hMe269, hcc269⟩ := Kd.N_get HO_151.out [] x153_6 p269 (by first | exact q269 | exact of_decide_eq_true (by first | (with_reducible assumption) | assumption) | (have e_ := (Kd.N_reads' HO_151.out).1; omega))
                                          obtain ⟨ua269_0, uc269_0, rfl, ul269_0, ge269_0⟩ := Kd.FK_slice_open hMe269
                                          have hv269_0 := hcc269 0 _ rfl
                                          rw [Nat.add_zero, show ((Kd.slice 115 k115)).sz = 1 from rfl, Nat.mul_one] at hv269_0
                                          replace hv269_0 := Option.some.inj (hv269_0.symm.trans hx269_0)
                                          injection hv269_0 with hva_ hvn_ hvc_
                                          rw [hva_] at ge269_0
                                          rw [hvc_] at ul269_0
                                          have HL269_0 := Aside0.mk (show Kd.V k115 115 _ w.heap.size _ _ (rd_L3 t266 x153_6) from Kd.V_mk ul269_0 ge269_0)
                                          clear hva_ hvn_ hvc_ ge269_0 ul269_0
                                          clear hcc269 hce269
                                          have HR269_0 := Aside0.mk hi269_0
                                          have HC269_0 := Aside0.mk hl269_0
                                          clear hi269_0 hl269_0
                                          replace p269 := eq_true p269
                                          replace q269 := eq_true q269
                                          have p270 : 0 ≤ (0 : Int) := (by omega)
                                          have q270 : 0 < ((rd_L3 t266 x153_6).length : Int) := of_decide_eq_true (by first | (with_reducible assumption) | assumption)
                                          obtain ⟨ad270, e270, hx270_0, hx270_1, hx270_2, hx270_3, hx270_4, hx270_5⟩ := at_T115 (by repeat (first | (with_reducible exact HR269_0.out) | (with_reducible refine Kd.C_alloc ?_ _) | (with_reducible refine Kd.C_drewN ?_ _) | (with_reducible refine Kd.C_drew ?_) | exact HR269_0.out)) 0 p270 q270
                                          cases e270
                                          have qi270 : (0 < (rd_L3 t266 x153_6).length) = True := eq_true (by omega)
                                          (try rw [show ((0 : Int)).toNat = 0 from rfl] at hx270_0)
                                          (try rw [show 0 * 6 = 0 from rfl] at hx270_0)
                                          (try rw [Addr.add_zero'] at hx270_0)
                                          (try rw [show ((0 : Int)).toNat = 0 from rfl] at hx270_1)
                                          (try rw [show 0 * 6 = 0 from rfl] at hx270_1)
                                          (try rw [Addr.add_zero'] at hx270_1)
                                          (try rw [show ((0 : Int)).toNat = 0 from rfl] at hx270_2)
                                          (try rw [show 0 * 6 = 0 from rfl] at hx270_2)
                                          (try rw [Addr.add_zero'] at hx270_2)
                                          (try rw [show ((0 : Int)).toNat = 0 from rfl] at hx270_3)
                                          (try rw [show 0 * 6 = 0 from rfl] at hx270_3)
                                          (try rw [Addr.add_zero'] at hx270_3)
                                          (try rw [show ((0 : Int)).toNat = 0 from rfl] at hx270_4)
                                          (try rw [show 0 * 6 = 0 from rfl] at hx270_4)
                                          (try rw [Addr.add_zero'] at hx270_4)
                                          (try rw [show ((0 : Int)).toNat = 0 from rfl] at hx270_5)
                                          (try rw [show 0 * 6 = 0 from rfl] at hx270_5)
                                          (try rw [Addr.add_zero'] at hx270_5)
                                          replace p270 := eq_true p270
                                          replace q270 := eq_true q270
                                          have p271 : 0 ≤ (0 : Int) := (by omega)
                                          have q271 : 0 < ((rd_L3 t266 x153_6).length : Int) := of_decide_eq_true (by first | (with_reducible assumption) | assumption)
                                          obtain ⟨ad271, e271, hx271_0, hx271_1, hx271_2, hx271_3, hx271_4, hx271_5⟩ := at_T115 (by repeat (first | (with_reducible exact HR269_0.out) | (with_reducible refine Kd.C_alloc ?_ _) | (with_reducible refine Kd.C_drewN ?_ _) | (with_reducible refine Kd.C_drew ?_) | exact HR269_0.out)) 0 p271 q271
                                          obtain rfl : ad270 = ad271 := (by injection e271)
                                          have qi271 : (0 < (rd_L3 t266 x153_6).length) = True := eq_true (by omega)
                                          (try rw [show ((0 : Int)).toNat = 0 from rfl] at hx271_0)
                                          (try rw [show 0 * 6 = 0 from rfl] at hx271_0)
                                          (try rw [Addr.add_zero'] at hx271_0)
                                          (try rw [show ((0 : Int)).toNat = 0 from rfl] at hx271_1)
                                          (try rw [show 0 * 6 = 0 from rfl] at hx271_1)
                                          (try rw [Addr.add_zero'] at hx271_1)
                                          (try rw [show ((0 : Int)).toNat = 0 from rfl] at hx271_2)
                                          (try rw [show 0 * 6 = 0 from rfl] at hx271_2)
                                          (try rw [Addr.add_zero'] at hx271_2)
                                          (try rw [show ((0 : Int)).toNat = 0 from rfl] at hx271_3)
                                          (try rw [show 0 * 6 = 0 from rfl] at hx271_3)
                                          (try rw [Addr.add_zero'] at hx271_3)
                                          (try rw [show ((0 : Int)).toNat = 0 from rfl] at hx271_4)
                                          (try rw [show 0 * 6 = 0 from rfl] at hx271_4)
                                          (try rw [Addr.add_zero'] at hx271_4)
                                          (try rw [show ((0 : Int)).toNat = 0 from rfl] at hx271_5)
                                          (try rw [show 0 * 6 = 0 from rfl] at hx271_5)
                                          (try rw [Addr.add_zero'] at hx271_5)
                                          replace p271 := eq_true p271
                                          replace q271 := eq_true q271
                                          go_wp2_with (fail)
                                          go_ret
                                          exact ⟨by first | rfl | (simp [errW_none, errW_some] <;> rfl) | (simp only [← hji33, ← hji37]; first | rfl | (simp [errW_none, errW_some] <;> rfl)) | (simp [*, errW_none, errW_some] <;> rfl), by repeat (first | (with_reducible first | exact HB.out | apply below_alloc | apply pw_below_drewN | apply below_drew1 | refine below_set ?_ GE243.out) | exact HB.out)⟩
                                        ·rw [if_neg c90] at H
                                         have c90b0 : (((rd_T115 (rd_L3 t266 x153_6) 0).f0) == 2) = false := beq_eq_false_iff_ne.mpr c90
                                         have c90b1 : (((rd_T115 (rd_L3 t266 x153_6) 0).f0) != 2) = true := bne_iff_ne.mpr c90
                                         obtain rfl := Option.some.inj H
                                         have p269 : 0 ≤ (x153_6 : Int) := of_decide_eq_true (by first | (with_reducible assumption) | assumption)
                                         have q269 : x153_6 < (t266.length : Int) := of_decide_eq_true (by first | (with_reducible assumption) | assumption)
                                         obtain ⟨ad269, A269_0, c269_0, e269, hx269_0, hl269_0, hi269_0⟩ := at_L3 (Kd.N_reads' HO_151.out).2.2 x153_6 p269 q269
                                         cases e269
                                         obtain ⟨ce269, hce269, hMe269, hcc269⟩ := Kd.N_get HO_151.out [] x153_6 p269 (by first | exact q269 | exact of_decide_eq_true (by first | (with_reducible assumption) | assumption) | (have e_ := (Kd.N_reads' HO_151.out).1; omega))
                                         obtain ⟨ua269_0, uc269_0, rfl, ul269_0, ge269_0⟩ := Kd.FK_slice_open hMe269
                                         have hv269_0 := hcc269 0 _ rfl
                                         rw [Nat.add_zero, show ((Kd.slice 115 k115)).sz = 1 from rfl, Nat.mul_one] at hv269_0
                                         replace hv269_0 := Option.some.inj (hv269_0.symm.trans hx269_0)
                                         injection hv269_0 with hva_ hvn_ hvc_
                                         rw [hva_] at ge269_0
                                         rw [hvc_] at ul269_0
                                         have HL269_0 := Aside0.mk (show Kd.V k115 115 _ w.heap.size _ _ (rd_L3 t266 x153_6) from Kd.V_mk ul269_0 ge269_0)
                                         clear hva_ hvn_ hvc_ ge269_0 ul269_0
                                         clear hcc269 hce269
                                         have HR269_0 := Aside0.mk hi269_0
                                         have HC269_0 := Aside0.mk hl269_0
                                         clear hi269_0 hl269_0
                                         replace p269 := eq_true p269
                                         replace q269 := eq_true q269
                                         have p270 : 0 ≤ (0 : Int) := (by omega)
                                         have q270 : 0 < ((rd_L3 t266 x153_6).length : Int) := of_decide_eq_true (by first | (with_reducible assumption) | assumption)
                                         obtain ⟨ad270, e270, hx270_0, hx270_1, hx270_2, hx270_3, hx270_4, hx270_5⟩ := at_T115 (by repeat (first | (with_reducible exact HR269_0.out) | (with_reducible refine Kd.C_alloc ?_ _) | (with_reducible refine Kd.C_drewN ?_ _) | (with_reducible refine Kd.C_drew ?_) | exact HR269_0.out)) 0 p270 q270
                                         cases e270
                                         have qi270 : (0 < (rd_L3 t266 x153_6).length) = True := eq_true (by omega)
                                         (try rw [show ((0 : Int)).toNat = 0 from rfl] at hx270_0)
                                         (try rw [show 0 * 6 = 0 from rfl] at hx270_0)
                                         (try rw [Addr.add_zero'] at hx270_0)
                                         (try rw [show ((0 : Int)).toNat = 0 from rfl] at hx270_1)
                                         (try rw [show 0 * 6 = 0 from rfl] at hx270_1)
                                         (try rw [Addr.add_zero'] at hx270_1)
                                         (try rw [show ((0 : Int)).toNat = 0 from rfl] at hx270_2)
                                         (try rw [show 0 * 6 = 0 from rfl] at hx270_2)
                                         (try rw [Addr.add_zero'] at hx270_2)
                                         (try rw [show ((0 : Int)).toNat = 0 from rfl] at hx270_3)
                                         (try rw [show 0 * 6 = 0 from rfl] at hx270_3)
                                         (try rw [Addr.add_zero'] at hx270_3)
                                         (try rw [show ((0 : Int)).toNat = 0 from rfl] at hx270_4)
                                         (try rw [show 0 * 6 = 0 from rfl] at hx270_4)
                                         (try rw [Addr.add_zero'] at hx270_4)
                                         (try rw [show ((0 : Int)).toNat = 0 from rfl] at hx270_5)
                                         (try rw [show 0 * 6 = 0 from rfl] at hx270_5)
                                         (try rw [Addr.add_zero'] at hx270_5)
                                         replace p270 := eq_true p270
                                         replace q270 := eq_true q270
                                         go_wp2_with (fail)
                                         go_ret
                                         exact ⟨by first | rfl | (simp [errW_none, errW_some] <;> rfl) | (simp only [← hji33, ← hji37]; first | rfl | (simp [errW_none, errW_some] <;> rfl)) | (simp [*, errW_none, errW_some] <;> rfl), by repeat (first | (with_reducible first | exact HB.out | apply below_alloc | apply pw_below_drewN | apply below_drew1 | refine below_set ?_ GE243.out) | exact HB.out)⟩
                                       ·rw [if_neg c89] at H
                                        exact absurd H (by simp)
                                      ·rw [if_neg c88] at H
                                       exact absurd H (by simp)
                                     ·rw [if_neg c87] at H
                                      exact absurd H (by simp)
                                    ·rw [if_neg c86] at H
                                     have c86b0 : decide (x153_6 < (t266.length : Int)) = false := decide_eq_false c86
                                     clear c86
                                     by_cases c93 : ((rd_T115 l0 x5_2).f0) = 1
                                     ·rw [if_pos c93] at H
                                      have c93b0 : (((rd_T115 l0 x5_2).f0) == 1) = true := beq_iff_eq.mpr c93
                                      have c93b1 : (((rd_T115 l0 x5_2).f0) != 1) = false := bne_eq_false_iff_eq.mpr c93
                                      clear c93
                                      have H' := Aside0.mk H
                                      clear H
                                      have hcz94_0 : wr.cell? ⟨gb243, 0, none⟩ = some (.int .i64 ((rd_T115 l0 x5_2).f0)) := (blk_cell BK243.out 0).trans rfl
                                      have hcz94_1 : wr.cell? ⟨gb243, 1, none⟩ = some (.int .i64 ((rd_T115 l0 x5_2).f1)) := (blk_cell BK243.out 1).trans rfl
                                      have hcz94_2 : wr.cell? ⟨gb243, 2, none⟩ = some (.int .i64 ((rd_T115 l0 x5_2).f2)) := (blk_cell BK243.out 2).trans rfl
                                      have hcz94_3 : wr.cell? ⟨gb243, 3, none⟩ = some (.int .i64 ((rd_T115 l0 x5_2).f3)) := (blk_cell BK243.out 3).trans rfl
                                      have hcz94_4 : wr.cell? ⟨gb243, 4, none⟩ = some (.int .i64 ((rd_T115 l0 x5_2).f4)) := (blk_cell BK243.out 4).trans rfl
                                      have hcz94_5 : wr.cell? ⟨gb243, 5, none⟩ = some (.int .i64 ((rd_T115 l0 x5_2).f5)) := (blk_cell BK243.out 5).trans rfl
                                      have hfz94_0 := blk_frozen BK243.out 0
                                      have hfz94_1 := blk_frozen BK243.out 1
                                      have hfz94_2 := blk_frozen BK243.out 2
                                      have hfz94_3 := blk_frozen BK243.out 3
                                      have hfz94_4 := blk_frozen BK243.out 4
                                      have hfz94_5 := blk_frozen BK243.out 5
                                      go_wp2_with (fail)
                                      go_roundg k6
                                      case measure => have := HJ2.out; have := HK2.out; have := HJ7.out; have := HJ39.out; have := HJ71.out; have := HK6.out; omega
                                      case rel => exact ⟨(wrap64 (x5_2 + (y244.length : Int))), (by first | rfl | (simp; done) | (simp [*]; done)), H', ⟨by have := HJ2.out; have := HK2.out; have := HJ7.out; have := HJ39.out; have := HJ71.out; have := HK6.out; omega⟩, ⟨by repeat (first | (with_reducible first | exact HB.out | apply below_alloc | apply pw_below_drewN | apply below_drew1 | refine below_set ?_ GE243.out) | exact HB.out)⟩⟩
                                     ·rw [if_neg c93] at H
                                      have c93b0 : (((rd_T115 l0 x5_2).f0) == 1) = false := beq_eq_false_iff_ne.mpr c93
                                      have c93b1 : (((rd_T115 l0 x5_2).f0) != 1) = true := bne_iff_ne.mpr c93
                                      by_cases c95 : ((rd_T115 l0 x5_2).f2) = 0
                                      ·rw [if_pos c95] at H
                                       have c95b0 : (((rd_T115 l0 x5_2).f2) == 0) = true := beq_iff_eq.mpr c95
                                       have c95b1 : (((rd_T115 l0 x5_2).f2) != 0) = false := bne_eq_false_iff_eq.mpr c95
                                       clear c95
                                       have H' := Aside0.mk H
                                       clear H
                                       have hcz96_0 : wr.cell? ⟨gb243, 0, none⟩ = some (.int .i64 ((rd_T115 l0 x5_2).f0)) := (blk_cell BK243.out 0).trans rfl
                                       have hcz96_1 : wr.cell? ⟨gb243, 1, none⟩ = some (.int .i64 ((rd_T115 l0 x5_2).f1)) := (blk_cell BK243.out 1).trans rfl
                                       have hcz96_2 : wr.cell? ⟨gb243, 2, none⟩ = some (.int .i64 ((rd_T115 l0 x5_2).f2)) := (blk_cell BK243.out 2).trans rfl
                                       have hcz96_3 : wr.cell? ⟨gb243, 3, none⟩ = some (.int .i64 ((rd_T115 l0 x5_2).f3)) := (blk_cell BK243.out 3).trans rfl
                                       have hcz96_4 : wr.cell? ⟨gb243, 4, none⟩ = some (.int .i64 ((rd_T115 l0 x5_2).f4)) := (blk_cell BK243.out 4).trans rfl
                                       have hcz96_5 : wr.cell? ⟨gb243, 5, none⟩ = some (.int .i64 ((rd_T115 l0 x5_2).f5)) := (blk_cell BK243.out 5).trans rfl
                                       have hfz96_0 := blk_frozen BK243.out 0
                                       have hfz96_1 := blk_frozen BK243.out 1
                                       have hfz96_2 := blk_frozen BK243.out 2
                                       have hfz96_3 := blk_frozen BK243.out 3
                                       have hfz96_4 := blk_frozen BK243.out 4
                                       have hfz96_5 := blk_frozen BK243.out 5
                                       go_wp2_with (fail)
                                       go_roundg k6
                                       case measure => have := HJ2.out; have := HK2.out; have := HJ7.out; have := HJ39.out; have := HJ71.out; have := HK6.out; omega
                                       case rel => exact ⟨(wrap64 (x5_2 + (y244.length : Int))), (by first | rfl | (simp; done) | (simp [*]; done)), H', ⟨by have := HJ2.out; have := HK2.out; have := HJ7.out; have := HJ39.out; have := HJ71.out; have := HK6.out; omega⟩, ⟨by repeat (first | (with_reducible first | exact HB.out | apply below_alloc | apply pw_below_drewN | apply below_drew1 | refine below_set ?_ GE243.out) | exact HB.out)⟩⟩
                                      ·rw [if_neg c95] at H
                                       have c95b0 : (((rd_T115 l0 x5_2).f2) == 0) = false := beq_eq_false_iff_ne.mpr c95
                                       have c95b1 : (((rd_T115 l0 x5_2).f2) != 0) = true := bne_iff_ne.mpr c95
                                       obtain rfl := Option.some.inj H
                                       have hcz97_0 : wr.cell? ⟨gb243, 0, none⟩ = some (.int .i64 ((rd_T115 l0 x5_2).f0)) := (blk_cell BK243.out 0).trans rfl
                                       have hcz97_1 : wr.cell? ⟨gb243, 1, none⟩ = some (.int .i64 ((rd_T115 l0 x5_2).f1)) := (blk_cell BK243.out 1).trans rfl
                                       have hcz97_2 : wr.cell? ⟨gb243, 2, none⟩ = some (.int .i64 ((rd_T115 l0 x5_2).f2)) := (blk_cell BK243.out 2).trans rfl
                                       have hcz97_3 : wr.cell? ⟨gb243, 3, none⟩ = some (.int .i64 ((rd_T115 l0 x5_2).f3)) := (blk_cell BK243.out 3).trans rfl
                                       have hcz97_4 : wr.cell? ⟨gb243, 4, none⟩ = some (.int .i64 ((rd_T115 l0 x5_2).f4)) := (blk_cell BK243.out 4).trans rfl
                                       have hcz97_5 : wr.cell? ⟨gb243, 5, none⟩ = some (.int .i64 ((rd_T115 l0 x5_2).f5)) := (blk_cell BK243.out 5).trans rfl
                                       have hfz97_0 := blk_frozen BK243.out 0
                                       have hfz97_1 := blk_frozen BK243.out 1
                                       have hfz97_2 := blk_frozen BK243.out 2
                                       have hfz97_3 := blk_frozen BK243.out 3
                                       have hfz97_4 := blk_frozen BK243.out 4
                                       have hfz97_5 := blk_frozen BK243.out 5
                                       go_wp2_with (fail)
                                       go_ret
                                       exact ⟨by first | rfl | (simp [errW_none, errW_some] <;> rfl) | (simp only [← hji33, ← hji37]; first | rfl | (simp [errW_none, errW_some] <;> rfl)) | (simp [*, errW_none, errW_some] <;> rfl), by repeat (first | (with_reducible first | exact HB.out | apply below_alloc | apply pw_below_drewN | apply below_drew1 | refine below_set ?_ GE243.out) | exact HB.out)⟩
                                 ·rw [if_neg c83] at H
                                  have c83b0 : ((t266.length : Int) == 2) = false := beq_eq_false_iff_ne.mpr c83
                                  have c83b1 : ((t266.length : Int) != 2) = true := bne_iff_ne.mpr c83
                                  obtain rfl := Option.some.inj H
                                  go_wp2_with (first | ((with_reducible refine gate_callee (f := 71) rfl ?_); refine goesL_ (some 147) rfl rfl Try.func71 (by kernel_rfl) rfl #[.slice A43 y251.length c43] rfl (by (try simp only [List.map_toArray, List.map_cons, List.map_nil]); first | done | rfl | (simp only [List.length_drop, List.length_take]; rfl)) ?_; (with_reducible refine (impl_oAtoms.calls kj71 (fun k_ => k_ < w.heap.size) _ _ y251 t266 _ ?side1 A82.out).mono ?_); (case side1 => exact Kd.V_mk HC254.out (Kd.F_below (Kd.C_F k115_heap HR254.out) (by repeat (first | (with_reducible first | exact HB.out | apply below_alloc | apply pw_below_drewN | apply below_drew1 | refine below_set ?_ GE243.out) | exact HB.out)))); rintro e w98 ⟨v267, rfl, ho0, hb⟩; refine ⟨_, rfl, ?_⟩; have n0_ := Aside0.mk (Kd.N_lower (Kd.N_mono (ok' := fun k_ => k_ ≠ gb243) ho0 (fun k_ hk_ => Or.elim hk_ (fun hs_ => fun e_ => Nat.not_le.2 hs_ (by rw [e_]; exact GW243.out)) (fun hn_ => (Kd.freshB (g := gb243) (o := .cells #[.int .i64 ((rd_T115 l0 x5_2).f0), .int .i64 ((rd_T115 l0 x5_2).f1), .int .i64 ((rd_T115 l0 x5_2).f2), .int .i64 ((rd_T115 l0 x5_2).f3), .int .i64 ((rd_T115 l0 x5_2).f4), .int .i64 ((rd_T115 l0 x5_2).f5)] 115 (0, 0)) (by (with_reducible repeat (first | refine blk_drewN ?_ _ | refine blk_drew ?_ | refine blk_alloc ?_ _)); exact BK243.out) k_ hn_)))) (below_size (by repeat (first | (with_reducible first | exact HB.out | apply below_alloc | apply pw_below_drewN | apply below_drew1 | refine below_set ?_ GE243.out) | exact HB.out)))); have n1_ := Aside0.mk (blk_below (g := gb243) (o := .cells #[.int .i64 ((rd_T115 l0 x5_2).f0), .int .i64 ((rd_T115 l0 x5_2).f1), .int .i64 ((rd_T115 l0 x5_2).f2), .int .i64 ((rd_T115 l0 x5_2).f3), .int .i64 ((rd_T115 l0 x5_2).f4), .int .i64 ((rd_T115 l0 x5_2).f5)] 115 (0, 0)) (by (with_reducible repeat (first | refine blk_drewN ?_ _ | refine blk_drew ?_ | refine blk_alloc ?_ _)); exact BK243.out) hb); have n2_ := Aside0.mk (below_step (by repeat (first | (with_reducible first | exact HB.out | apply below_alloc | apply pw_below_drewN | apply below_drew1 | refine below_set ?_ GE243.out) | exact HB.out)) hb); clear BK243; clear HB; have HO268 := n0_; have BK243 := n1_; have HB := n2_; clear n0_ n1_ n2_; (try clear hb); (try clear hb2); (try clear hk); (try clear hi); (try clear ho0); obtain ⟨Ao99, co99, eo99⟩ := Kd.N_slice HO268.out; subst eo99))
                                  go_ret
                                  exact ⟨by first | rfl | (simp [errW_none, errW_some] <;> rfl) | (simp only [← hji33, ← hji37]; first | rfl | (simp [errW_none, errW_some] <;> rfl)) | (simp [*, errW_none, errW_some] <;> rfl), by repeat (first | (with_reducible first | exact HB.out | apply below_alloc | apply pw_below_drewN | apply below_drew1 | refine below_set ?_ GE243.out) | exact HB.out)⟩
                                ·rw [if_neg c81] at H
                                 have c81b0 : (((rd_T115 l0 x5_2).f0) == 3) = false := beq_eq_false_iff_ne.mpr c81
                                 have c81b1 : (((rd_T115 l0 x5_2).f0) != 3) = true := bne_iff_ne.mpr c81
                                 obtain rfl := Option.some.inj H
                                 go_wp2_with (fail)
                                 go_ret
                                 exact ⟨by first | rfl | (simp [errW_none, errW_some] <;> rfl) | (simp only [← hji33, ← hji37]; first | rfl | (simp [errW_none, errW_some] <;> rfl)) | (simp [*, errW_none, errW_some] <;> rfl), by repeat (first | (with_reducible first | exact HB.out | apply below_alloc | apply pw_below_drewN | apply below_drew1 | refine below_set ?_ GE243.out) | exact HB.out)⟩
                      ·rw [if_neg c38] at H
                       exact absurd H (by simp)
                     ·rw [if_neg c36] at H
                      exact absurd H (by simp)
                    ·rw [if_neg c35] at H
                     exact absurd H (by simp)
                   ·rw [if_neg c34] at H
                    exact absurd H (by simp)
                  ·rw [if_neg c32] at H
                   exact absurd H (by simp)
                 ·rw [if_neg c31] at H
                  exact absurd H (by simp)
                ·rw [if_neg c30] at H
                 exact absurd H (by simp)
               ·rw [if_neg c29] at H
                exact absurd H (by simp)
              ·rw [if_neg c28] at H
               exact absurd H (by simp)
             ·rw [if_neg c27] at H
              exact absurd H (by simp)
        ·rw [if_neg c7] at H
         exact absurd H (by simp)
       ·rw [if_neg c6] at H
        have c6b0 : decide (x5_2 < (l0.length : Int)) = false := decide_eq_false c6
        clear c6
        obtain rfl := Option.some.inj H
        go_wp2_with (fail)
        go_ret
        exact ⟨by first | rfl | (simp [errW_none, errW_some] <;> rfl) | (simp [*, errW_none, errW_some] <;> rfl), by repeat (first | (with_reducible first | exact HB.out | apply below_alloc | apply pw_below_drewN | apply below_drew1) | exact HB.out)⟩

end Go.Proofs.Ytgfifmbbjoocgaa.PFnExactClasses
