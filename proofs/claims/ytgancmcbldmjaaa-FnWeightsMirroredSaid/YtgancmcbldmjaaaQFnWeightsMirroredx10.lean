-- Written by wprint.py (this session's program over the kit's print) out of the translation.
import Derived.Test.YtgancmcbldmjaaaQFnWeightsMirroredx0
import Derived.Test.YtgancmcbldmjaaaQFnWeightsMirroredx1
import Derived.Test.YtgancmcbldmjaaaQFnWeightsMirroredx2
import Derived.Test.YtgancmcbldmjaaaQFnWeightsMirroredx3
import Derived.Test.YtgancmcbldmjaaaQFnWeightsMirroredx4
import Derived.Test.YtgancmcbldmjaaaQFnWeightsMirroredx5
import Derived.Test.YtgancmcbldmjaaaQFnWeightsMirroredx6
import Derived.Test.YtgancmcbldmjaaaQFnWeightsMirroredx7
import Derived.Test.YtgancmcbldmjaaaQFnWeightsMirroredx8
import Derived.Test.YtgancmcbldmjaaaQFnWeightsMirroredx9
namespace Go.Proofs.Ytgancmcbldmjaaa.QFnWeightsMirrored
open Go.RowKit Go.Proofs.YtgancmcbldmjaaaW.PrintWords Go.Proofs.YtgancmcbldmjaaaW.PrintLast Go.Proofs.YtgancmcbldmjaaaW.PrintMore
attribute [local go_sem] max2_int min2_int max_two min_two max_three min_three max_four min_four   -- for this text's walks alone
set_option linter.unusedVariables false
set_option linter.unusedSimpArgs false

/-! ### laws_FnWeightsMirrored: function 5 -/
mutual
def laws_FnWeightsMirrored.j0 : Nat → List Int → List Int → Bool → Bool → Bool → List Int → Int → Int → Int → Int → Bool → Option (Bool)
  | 0, _, _, _, _, _, _, _, _, _, _, _ => none
  | k + 1, x1, x5, x6, x7, x10, x14, x18, x22, x26, x30, x246 => if x246 = true then (none) else (if x7 = true then ((impl_BackWeights.f k x14).bind fun bt412 => ((impl_GainOf.f k x14).bind fun bt416 => (if bt412.2 = true then ((laws_iSame.f k bt412.1 x5).bind fun t418 => (if t418 = true then (if bt416.2 = true then (if bt416.1 = x18 then ((laws_iSame.f k x14 x5).bind fun t419 => (if (x6 != t419) = true then (laws_FnWeightsMirrored.j1 k x1 x5 x14 true) else (if x10 = true then (if x18 = 0 then (if x6 = true then (if x26 = 0 then ((laws_iSize.f x18).bind fun t420 => (if t420 > x26 then (laws_FnWeightsMirrored.j1 k x1 x5 x14 true) else ((laws_iSize.f x22).bind fun t421 => (if t421 > x26 then (laws_FnWeightsMirrored.j1 k x1 x5 x14 true) else (if x30 > (x5.length : Int) then (laws_FnWeightsMirrored.j1 k x1 x5 x14 true) else (laws_FnWeightsMirrored.j1 k x1 x5 x14 ((x30 == 0) != (x26 == 0)))))))) else (laws_FnWeightsMirrored.j1 k x1 x5 x14 true)) else ((laws_iSize.f x18).bind fun t422 => (if t422 > x26 then (laws_FnWeightsMirrored.j1 k x1 x5 x14 true) else ((laws_iSize.f x22).bind fun t423 => (if t423 > x26 then (laws_FnWeightsMirrored.j1 k x1 x5 x14 true) else (if x30 > (x5.length : Int) then (laws_FnWeightsMirrored.j1 k x1 x5 x14 true) else (laws_FnWeightsMirrored.j1 k x1 x5 x14 ((x30 == 0) != (x26 == 0))))))))) else (laws_FnWeightsMirrored.j1 k x1 x5 x14 true)) else (if x6 = true then ((laws_iSize.f x18).bind fun t424 => (if t424 > x26 then (laws_FnWeightsMirrored.j1 k x1 x5 x14 true) else ((laws_iSize.f x22).bind fun t425 => (if t425 > x26 then (laws_FnWeightsMirrored.j1 k x1 x5 x14 true) else (if x30 > (x5.length : Int) then (laws_FnWeightsMirrored.j1 k x1 x5 x14 true) else (laws_FnWeightsMirrored.j1 k x1 x5 x14 ((x30 == 0) != (x26 == 0)))))))) else ((laws_iSize.f x18).bind fun t426 => (if t426 > x26 then (laws_FnWeightsMirrored.j1 k x1 x5 x14 true) else ((laws_iSize.f x22).bind fun t427 => (if t427 > x26 then (laws_FnWeightsMirrored.j1 k x1 x5 x14 true) else (if x30 > (x5.length : Int) then (laws_FnWeightsMirrored.j1 k x1 x5 x14 true) else (laws_FnWeightsMirrored.j1 k x1 x5 x14 ((x30 == 0) != (x26 == 0)))))))))))) else (laws_FnWeightsMirrored.j1 k x1 x5 x14 true)) else (laws_FnWeightsMirrored.j1 k x1 x5 x14 true)) else (laws_FnWeightsMirrored.j1 k x1 x5 x14 true))) else (laws_FnWeightsMirrored.j1 k x1 x5 x14 true)))) else (laws_FnWeightsMirrored.j2 k x1))
def laws_FnWeightsMirrored.j2 : Nat → List Int → Option (Bool)
  | 0, _ => none
  | k + 1, x1 => (spec_DrawInverseAnswer.f k x1).bind fun bt434 => ((impl_InverseAnswer.f k bt434.1 bt434.2).bind fun bt438 => ((spec_InverseAnswer.f k bt434.1 bt434.2).bind fun bt442 => (if (bt438.2 != bt442.2) = true then (laws_FnWeightsMirrored.j3 k x1 bt434.1 bt434.2 bt438.1 bt438.2 true) else ((laws_iSame.f k bt438.1 bt442.1).bind fun t446 => (laws_FnWeightsMirrored.j3 k x1 bt434.1 bt434.2 bt438.1 bt438.2 (!t446))))))
def laws_FnWeightsMirrored.j3 : Nat → List Int → List Int → Int → List Int → Bool → Bool → Option (Bool)
  | 0, _, _, _, _, _, _ => none
  | k + 1, x1, x42, x43, x44, x45, x367 => if x367 = true then (none) else (if x45 = true then ((impl_FilterShort.f k x42 x44).bind fun bt447 => (if bt447.2 = true then (laws_FnWeightsMirrored.j4 k x1 bt447.1 ((x44.length : Int) != x43)) else (laws_FnWeightsMirrored.j4 k x1 bt447.1 true))) else (laws_FnWeightsMirrored.j6 k x1))
def laws_FnWeightsMirrored.j6 : Nat → List Int → Option (Bool)
  | 0, _ => none
  | k + 1, x1 => (spec_DrawSpreadWeights.f k x1).bind fun bt452 => ((impl_SpreadWeights.f k bt452.1 bt452.2).bind fun bt456 => ((spec_SpreadWeights.f k bt452.1 bt452.2).bind fun bt460 => (if (bt456.2 != bt460.2) = true then (laws_FnWeightsMirrored.j7 k bt452.1 bt452.2 bt456.1 bt456.2 true) else ((laws_iSame.f k bt456.1 bt460.1).bind fun t464 => (laws_FnWeightsMirrored.j7 k bt452.1 bt452.2 bt456.1 bt456.2 (!t464))))))
def laws_FnWeightsMirrored.j7 : Nat → List Int → Int → List Int → Bool → Bool → Option (Bool)
  | 0, _, _, _, _, _ => none
  | k + 1, x52, x53, x54, x55, x430 => if x430 = true then (none) else (if x55 = true then (if (x54.length : Int) = (wrap64 ((wrap64 ((wrap64 ((x52.length : Int) - 1)) * x53)) + 1)) then ((laws_iSum.f k x54).bind fun t465 => ((laws_iSum.f k x52).bind fun t466 => (laws_FnWeightsMirrored.j8 k x52 x53 x54 (t465 != t466)))) else (laws_FnWeightsMirrored.j8 k x52 x53 x54 true)) else (some true))
def laws_FnWeightsMirrored.j8 : Nat → List Int → Int → List Int → Bool → Option (Bool)
  | 0, _, _, _, _ => none
  | k + 1, x52, x53, x54, x447 => if x447 = true then (none) else (laws_FnWeightsMirrored.l1 k x53 x54 x52 (x52.length : Int) 0)
def laws_FnWeightsMirrored.l1 : Nat → Int → List Int → List Int → Int → Int → Option (Bool)
  | 0, _, _, _, _, _ => none
  | k + 1, x53, x54, x448, x449, x450 => if x450 < x449 then (if 0 ≤ x450 then (if x450 < (x448.length : Int) then (if 0 ≤ (wrap64 (x450 * x53)) then (if (wrap64 (x450 * x53)) < (x54.length : Int) then (if (rd x54 (wrap64 (x450 * x53))) = (rd x448 x450) then (laws_FnWeightsMirrored.l1 k x53 x54 x448 x449 (wrap64 (x450 + 1))) else (none)) else (none)) else (none)) else (none)) else (none)) else (some true)
def laws_FnWeightsMirrored.j4 : Nat → List Int → List Int → Bool → Option (Bool)
  | 0, _, _, _ => none
  | k + 1, x1, x48, x382 => if x382 = true then (none) else (laws_FnWeightsMirrored.l0 k x1 x48 (x48.length : Int) 0)
def laws_FnWeightsMirrored.l0 : Nat → List Int → List Int → Int → Int → Option (Bool)
  | 0, _, _, _, _ => none
  | k + 1, x1, x383, x384, x385 => if x385 < x384 then (if 0 ≤ x385 then (if x385 < (x383.length : Int) then (if x385 = 0 then (if (rd x383 x385) = 1 then (if x385 > 0 then (if (rd x383 x385) = 0 then (laws_FnWeightsMirrored.l0 k x1 x383 x384 (wrap64 (x385 + 1))) else (none)) else (laws_FnWeightsMirrored.l0 k x1 x383 x384 (wrap64 (x385 + 1)))) else (none)) else (if x385 > 0 then (if (rd x383 x385) = 0 then (laws_FnWeightsMirrored.l0 k x1 x383 x384 (wrap64 (x385 + 1))) else (none)) else (laws_FnWeightsMirrored.l0 k x1 x383 x384 (wrap64 (x385 + 1))))) else (none)) else (none)) else (laws_FnWeightsMirrored.j6 k x1)
def laws_FnWeightsMirrored.j1 : Nat → List Int → List Int → List Int → Bool → Option (Bool)
  | 0, _, _, _, _ => none
  | k + 1, x1, x5, x14, x323 => if x323 = true then (none) else ((impl_TimesWeights.f k x5 x14).bind fun bt428 => (if bt428.2 = true then ((impl_IsSymmetric.f k bt428.1).bind fun bt432 => (if bt432.2 = true then (if bt432.1 = true then (laws_FnWeightsMirrored.j2 k x1) else (none)) else (none))) else (laws_FnWeightsMirrored.j2 k x1)))
end
def laws_FnWeightsMirrored.f (k : Nat) (l0 : List Int) (l1 : List Int) : Option (Bool) := (laws_big.f l0 l1).bind fun t372 => (if t372 = true then (some true) else ((spec_DrawIsSymmetric.f k l0).bind fun t373 => ((impl_IsSymmetric.f k t373).bind fun bt376 => ((spec_IsSymmetric.f k t373).bind fun bt378 => ((impl_IsMirrored.f k t373).bind fun bt380 => ((spec_IsMirrored.f k t373).bind fun bt382 => ((impl_BackWeights.f k t373).bind fun bt384 => ((spec_BackWeights.f k t373).bind fun bt388 => ((impl_GainOf.f k t373).bind fun bt392 => ((spec_GainOf.f k t373).bind fun bt394 => ((impl_GainAtHalf.f k t373).bind fun bt396 => ((spec_GainAtHalf.f k t373).bind fun bt398 => ((impl_SizeGain.f k t373).bind fun bt400 => ((spec_SizeGain.f k t373).bind fun bt402 => ((impl_FoldedProducts.f k t373).bind fun bt404 => ((spec_FoldedProducts.f k t373).bind fun bt406 => (if (bt376.2 != bt378.2) = true then (laws_FnWeightsMirrored.j0 k l1 t373 bt376.1 bt376.2 bt380.1 bt384.1 bt392.1 bt396.1 bt400.1 bt404.1 true) else (if (bt376.1 != bt378.1) = true then (laws_FnWeightsMirrored.j0 k l1 t373 bt376.1 bt376.2 bt380.1 bt384.1 bt392.1 bt396.1 bt400.1 bt404.1 true) else (if (bt380.2 != bt382.2) = true then (laws_FnWeightsMirrored.j0 k l1 t373 bt376.1 bt376.2 bt380.1 bt384.1 bt392.1 bt396.1 bt400.1 bt404.1 true) else (if (bt380.1 != bt382.1) = true then (laws_FnWeightsMirrored.j0 k l1 t373 bt376.1 bt376.2 bt380.1 bt384.1 bt392.1 bt396.1 bt400.1 bt404.1 true) else (if (bt384.2 != bt388.2) = true then (laws_FnWeightsMirrored.j0 k l1 t373 bt376.1 bt376.2 bt380.1 bt384.1 bt392.1 bt396.1 bt400.1 bt404.1 true) else ((laws_iSame.f k bt384.1 bt388.1).bind fun t408 => (if t408 = true then (if (bt392.2 != bt394.2) = true then (laws_FnWeightsMirrored.j0 k l1 t373 bt376.1 bt376.2 bt380.1 bt384.1 bt392.1 bt396.1 bt400.1 bt404.1 true) else (if bt392.1 = bt394.1 then (if (bt396.2 != bt398.2) = true then (laws_FnWeightsMirrored.j0 k l1 t373 bt376.1 bt376.2 bt380.1 bt384.1 bt392.1 bt396.1 bt400.1 bt404.1 true) else (if bt396.1 = bt398.1 then (if (bt400.2 != bt402.2) = true then (laws_FnWeightsMirrored.j0 k l1 t373 bt376.1 bt376.2 bt380.1 bt384.1 bt392.1 bt396.1 bt400.1 bt404.1 true) else (if bt400.1 = bt402.1 then (if (bt404.2 != bt406.2) = true then (laws_FnWeightsMirrored.j0 k l1 t373 bt376.1 bt376.2 bt380.1 bt384.1 bt392.1 bt396.1 bt400.1 bt404.1 true) else (if bt404.1 = bt406.1 then ((impl_IsWeights.f k t373).bind fun t409 => (if (bt376.2 != t409) = true then (laws_FnWeightsMirrored.j0 k l1 t373 bt376.1 bt376.2 bt380.1 bt384.1 bt392.1 bt396.1 bt400.1 bt404.1 true) else ((impl_IsWeights.f k t373).bind fun t410 => ((spec_IsWeights.f k t373).bind fun t411 => (if (t410 != t411) = true then (laws_FnWeightsMirrored.j0 k l1 t373 bt376.1 bt376.2 bt380.1 bt384.1 bt392.1 bt396.1 bt400.1 bt404.1 true) else (if (bt380.2 != bt376.2) = true then (laws_FnWeightsMirrored.j0 k l1 t373 bt376.1 bt376.2 bt380.1 bt384.1 bt392.1 bt396.1 bt400.1 bt404.1 true) else (if (bt384.2 != bt376.2) = true then (laws_FnWeightsMirrored.j0 k l1 t373 bt376.1 bt376.2 bt380.1 bt384.1 bt392.1 bt396.1 bt400.1 bt404.1 true) else (if (bt392.2 != bt376.2) = true then (laws_FnWeightsMirrored.j0 k l1 t373 bt376.1 bt376.2 bt380.1 bt384.1 bt392.1 bt396.1 bt400.1 bt404.1 true) else (if (bt396.2 != bt376.2) = true then (laws_FnWeightsMirrored.j0 k l1 t373 bt376.1 bt376.2 bt380.1 bt384.1 bt392.1 bt396.1 bt400.1 bt404.1 true) else (if (bt400.2 != bt376.2) = true then (laws_FnWeightsMirrored.j0 k l1 t373 bt376.1 bt376.2 bt380.1 bt384.1 bt392.1 bt396.1 bt400.1 bt404.1 true) else (laws_FnWeightsMirrored.j0 k l1 t373 bt376.1 bt376.2 bt380.1 bt384.1 bt392.1 bt396.1 bt400.1 bt404.1 (bt404.2 != bt376.2)))))))))))) else (laws_FnWeightsMirrored.j0 k l1 t373 bt376.1 bt376.2 bt380.1 bt384.1 bt392.1 bt396.1 bt400.1 bt404.1 true))) else (laws_FnWeightsMirrored.j0 k l1 t373 bt376.1 bt376.2 bt380.1 bt384.1 bt392.1 bt396.1 bt400.1 bt404.1 true))) else (laws_FnWeightsMirrored.j0 k l1 t373 bt376.1 bt376.2 bt380.1 bt384.1 bt392.1 bt396.1 bt400.1 bt404.1 true))) else (laws_FnWeightsMirrored.j0 k l1 t373 bt376.1 bt376.2 bt380.1 bt384.1 bt392.1 bt396.1 bt400.1 bt404.1 true))) else (laws_FnWeightsMirrored.j0 k l1 t373 bt376.1 bt376.2 bt380.1 bt384.1 bt392.1 bt396.1 bt400.1 bt404.1 true))))))))))))))))))))))))
theorem laws_FnWeightsMirrored.mono_l : ∀ k, (∀ y0 y1 y2 y3 y4 y5 y6 y7 y8 y9 y10, LeO (laws_FnWeightsMirrored.j0 k y0 y1 y2 y3 y4 y5 y6 y7 y8 y9 y10) (laws_FnWeightsMirrored.j0 (k + 1) y0 y1 y2 y3 y4 y5 y6 y7 y8 y9 y10)) ∧ (∀ y0, LeO (laws_FnWeightsMirrored.j2 k y0) (laws_FnWeightsMirrored.j2 (k + 1) y0)) ∧ (∀ y0 y1 y2 y3 y4 y5, LeO (laws_FnWeightsMirrored.j3 k y0 y1 y2 y3 y4 y5) (laws_FnWeightsMirrored.j3 (k + 1) y0 y1 y2 y3 y4 y5)) ∧ (∀ y0, LeO (laws_FnWeightsMirrored.j6 k y0) (laws_FnWeightsMirrored.j6 (k + 1) y0)) ∧ (∀ y0 y1 y2 y3 y4, LeO (laws_FnWeightsMirrored.j7 k y0 y1 y2 y3 y4) (laws_FnWeightsMirrored.j7 (k + 1) y0 y1 y2 y3 y4)) ∧ (∀ y0 y1 y2 y3, LeO (laws_FnWeightsMirrored.j8 k y0 y1 y2 y3) (laws_FnWeightsMirrored.j8 (k + 1) y0 y1 y2 y3)) ∧ (∀ y0 y1 y2 y3 y4, LeO (laws_FnWeightsMirrored.l1 k y0 y1 y2 y3 y4) (laws_FnWeightsMirrored.l1 (k + 1) y0 y1 y2 y3 y4)) ∧ (∀ y0 y1 y2, LeO (laws_FnWeightsMirrored.j4 k y0 y1 y2) (laws_FnWeightsMirrored.j4 (k + 1) y0 y1 y2)) ∧ (∀ y0 y1 y2 y3, LeO (laws_FnWeightsMirrored.l0 k y0 y1 y2 y3) (laws_FnWeightsMirrored.l0 (k + 1) y0 y1 y2 y3)) ∧ (∀ y0 y1 y2 y3, LeO (laws_FnWeightsMirrored.j1 k y0 y1 y2 y3) (laws_FnWeightsMirrored.j1 (k + 1) y0 y1 y2 y3))
  | 0 => ⟨fun _ _ _ _ _ _ _ _ _ _ _ r h => by simp [laws_FnWeightsMirrored.j0] at h, fun _ r h => by simp [laws_FnWeightsMirrored.j2] at h, fun _ _ _ _ _ _ r h => by simp [laws_FnWeightsMirrored.j3] at h, fun _ r h => by simp [laws_FnWeightsMirrored.j6] at h, fun _ _ _ _ _ r h => by simp [laws_FnWeightsMirrored.j7] at h, fun _ _ _ _ r h => by simp [laws_FnWeightsMirrored.j8] at h, fun _ _ _ _ _ r h => by simp [laws_FnWeightsMirrored.l1] at h, fun _ _ _ r h => by simp [laws_FnWeightsMirrored.j4] at h, fun _ _ _ _ r h => by simp [laws_FnWeightsMirrored.l0] at h, fun _ _ _ _ r h => by simp [laws_FnWeightsMirrored.j1] at h⟩
  | k + 1 => by
    obtain ⟨ih0, ih1, ih2, ih3, ih4, ih5, ih6, ih7, ih8, ih9⟩ := laws_FnWeightsMirrored.mono_l k
    refine ⟨?_, ?_, ?_, ?_, ?_, ?_, ?_, ?_, ?_, ?_⟩
    · intro y0 y1 y2 y3 y4 y5 y6 y7 y8 y9 y10
      unfold laws_FnWeightsMirrored.j0
      repeat' first
      | (with_reducible exact ih0 _ _ _ _ _ _ _ _ _ _ _)
      | (with_reducible exact ih1 _)
      | (with_reducible exact ih2 _ _ _ _ _ _)
      | (with_reducible exact ih3 _)
      | (with_reducible exact ih4 _ _ _ _ _)
      | (with_reducible exact ih5 _ _ _ _)
      | (with_reducible exact ih6 _ _ _ _ _)
      | (with_reducible exact ih7 _ _ _)
      | (with_reducible exact ih8 _ _ _ _)
      | (with_reducible exact ih9 _ _ _ _)
      | (with_reducible exact impl_BackWeights.mono _ _)
      | (with_reducible exact impl_FilterShort.mono _ _ _)
      | (with_reducible exact impl_FoldedProducts.mono _ _)
      | (with_reducible exact impl_GainAtHalf.mono _ _)
      | (with_reducible exact impl_GainOf.mono _ _)
      | (with_reducible exact impl_InverseAnswer.mono _ _ _)
      | (with_reducible exact impl_IsMirrored.mono _ _)
      | (with_reducible exact impl_IsSymmetric.mono _ _)
      | (with_reducible exact impl_IsWeights.mono _ _)
      | (with_reducible exact impl_SizeGain.mono _ _)
      | (with_reducible exact impl_SpreadWeights.mono _ _ _)
      | (with_reducible exact impl_TimesWeights.mono _ _ _)
      | (with_reducible exact laws_iSame.mono _ _ _)
      | (with_reducible exact laws_iSum.mono _ _)
      | (with_reducible exact spec_BackWeights.mono _ _)
      | (with_reducible exact spec_DrawInverseAnswer.mono _ _)
      | (with_reducible exact spec_DrawIsSymmetric.mono _ _)
      | (with_reducible exact spec_DrawSpreadWeights.mono _ _)
      | (with_reducible exact spec_FoldedProducts.mono _ _)
      | (with_reducible exact spec_GainAtHalf.mono _ _)
      | (with_reducible exact spec_GainOf.mono _ _)
      | (with_reducible exact spec_InverseAnswer.mono _ _ _)
      | (with_reducible exact spec_IsMirrored.mono _ _)
      | (with_reducible exact spec_IsSymmetric.mono _ _)
      | (with_reducible exact spec_IsWeights.mono _ _)
      | (with_reducible exact spec_SizeGain.mono _ _)
      | (with_reducible exact spec_SpreadWeights.mono _ _ _)
      | (with_reducible exact LeO.refl _)
      | (with_reducible exact LeO.none _)
      | (with_reducible refine LeO.ite ?_ ?_)
      | (with_reducible refine LeO.bind ?_ (fun _ => ?_))
      | exact ih0 _ _ _ _ _ _ _ _ _ _ _
      | exact ih1 _
      | exact ih2 _ _ _ _ _ _
      | exact ih3 _
      | exact ih4 _ _ _ _ _
      | exact ih5 _ _ _ _
      | exact ih6 _ _ _ _ _
      | exact ih7 _ _ _
      | exact ih8 _ _ _ _
      | exact ih9 _ _ _ _
      | exact impl_BackWeights.mono _ _
      | exact impl_FilterShort.mono _ _ _
      | exact impl_FoldedProducts.mono _ _
      | exact impl_GainAtHalf.mono _ _
      | exact impl_GainOf.mono _ _
      | exact impl_InverseAnswer.mono _ _ _
      | exact impl_IsMirrored.mono _ _
      | exact impl_IsSymmetric.mono _ _
      | exact impl_IsWeights.mono _ _
      | exact impl_SizeGain.mono _ _
      | exact impl_SpreadWeights.mono _ _ _
      | exact impl_TimesWeights.mono _ _ _
      | exact laws_iSame.mono _ _ _
      | exact laws_iSum.mono _ _
      | exact spec_BackWeights.mono _ _
      | exact spec_DrawInverseAnswer.mono _ _
      | exact spec_DrawIsSymmetric.mono _ _
      | exact spec_DrawSpreadWeights.mono _ _
      | exact spec_FoldedProducts.mono _ _
      | exact spec_GainAtHalf.mono _ _
      | exact spec_GainOf.mono _ _
      | exact spec_InverseAnswer.mono _ _ _
      | exact spec_IsMirrored.mono _ _
      | exact spec_IsSymmetric.mono _ _
      | exact spec_IsWeights.mono _ _
      | exact spec_SizeGain.mono _ _
      | exact spec_SpreadWeights.mono _ _ _
      | exact LeO.none _
      | refine LeO.ite ?_ ?_
      | refine LeO.bind ?_ (fun _ => ?_)
    · intro y0
      unfold laws_FnWeightsMirrored.j2
      repeat' first
      | (with_reducible exact ih0 _ _ _ _ _ _ _ _ _ _ _)
      | (with_reducible exact ih1 _)
      | (with_reducible exact ih2 _ _ _ _ _ _)
      | (with_reducible exact ih3 _)
      | (with_reducible exact ih4 _ _ _ _ _)
      | (with_reducible exact ih5 _ _ _ _)
      | (with_reducible exact ih6 _ _ _ _ _)
      | (with_reducible exact ih7 _ _ _)
      | (with_reducible exact ih8 _ _ _ _)
      | (with_reducible exact ih9 _ _ _ _)
      | (with_reducible exact impl_BackWeights.mono _ _)
      | (with_reducible exact impl_FilterShort.mono _ _ _)
      | (with_reducible exact impl_FoldedProducts.mono _ _)
      | (with_reducible exact impl_GainAtHalf.mono _ _)
      | (with_reducible exact impl_GainOf.mono _ _)
      | (with_reducible exact impl_InverseAnswer.mono _ _ _)
      | (with_reducible exact impl_IsMirrored.mono _ _)
      | (with_reducible exact impl_IsSymmetric.mono _ _)
      | (with_reducible exact impl_IsWeights.mono _ _)
      | (with_reducible exact impl_SizeGain.mono _ _)
      | (with_reducible exact impl_SpreadWeights.mono _ _ _)
      | (with_reducible exact impl_TimesWeights.mono _ _ _)
      | (with_reducible exact laws_iSame.mono _ _ _)
      | (with_reducible exact laws_iSum.mono _ _)
      | (with_reducible exact spec_BackWeights.mono _ _)
      | (with_reducible exact spec_DrawInverseAnswer.mono _ _)
      | (with_reducible exact spec_DrawIsSymmetric.mono _ _)
      | (with_reducible exact spec_DrawSpreadWeights.mono _ _)
      | (with_reducible exact spec_FoldedProducts.mono _ _)
      | (with_reducible exact spec_GainAtHalf.mono _ _)
      | (with_reducible exact spec_GainOf.mono _ _)
      | (with_reducible exact spec_InverseAnswer.mono _ _ _)
      | (with_reducible exact spec_IsMirrored.mono _ _)
      | (with_reducible exact spec_IsSymmetric.mono _ _)
      | (with_reducible exact spec_IsWeights.mono _ _)
      | (with_reducible exact spec_SizeGain.mono _ _)
      | (with_reducible exact spec_SpreadWeights.mono _ _ _)
      | (with_reducible exact LeO.refl _)
      | (with_reducible exact LeO.none _)
      | (with_reducible refine LeO.ite ?_ ?_)
      | (with_reducible refine LeO.bind ?_ (fun _ => ?_))
      | exact ih0 _ _ _ _ _ _ _ _ _ _ _
      | exact ih1 _
      | exact ih2 _ _ _ _ _ _
      | exact ih3 _
      | exact ih4 _ _ _ _ _
      | exact ih5 _ _ _ _
      | exact ih6 _ _ _ _ _
      | exact ih7 _ _ _
      | exact ih8 _ _ _ _
      | exact ih9 _ _ _ _
      | exact impl_BackWeights.mono _ _
      | exact impl_FilterShort.mono _ _ _
      | exact impl_FoldedProducts.mono _ _
      | exact impl_GainAtHalf.mono _ _
      | exact impl_GainOf.mono _ _
      | exact impl_InverseAnswer.mono _ _ _
      | exact impl_IsMirrored.mono _ _
      | exact impl_IsSymmetric.mono _ _
      | exact impl_IsWeights.mono _ _
      | exact impl_SizeGain.mono _ _
      | exact impl_SpreadWeights.mono _ _ _
      | exact impl_TimesWeights.mono _ _ _
      | exact laws_iSame.mono _ _ _
      | exact laws_iSum.mono _ _
      | exact spec_BackWeights.mono _ _
      | exact spec_DrawInverseAnswer.mono _ _
      | exact spec_DrawIsSymmetric.mono _ _
      | exact spec_DrawSpreadWeights.mono _ _
      | exact spec_FoldedProducts.mono _ _
      | exact spec_GainAtHalf.mono _ _
      | exact spec_GainOf.mono _ _
      | exact spec_InverseAnswer.mono _ _ _
      | exact spec_IsMirrored.mono _ _
      | exact spec_IsSymmetric.mono _ _
      | exact spec_IsWeights.mono _ _
      | exact spec_SizeGain.mono _ _
      | exact spec_SpreadWeights.mono _ _ _
      | exact LeO.none _
      | refine LeO.ite ?_ ?_
      | refine LeO.bind ?_ (fun _ => ?_)
    · intro y0 y1 y2 y3 y4 y5
      unfold laws_FnWeightsMirrored.j3
      repeat' first
      | (with_reducible exact ih0 _ _ _ _ _ _ _ _ _ _ _)
      | (with_reducible exact ih1 _)
      | (with_reducible exact ih2 _ _ _ _ _ _)
      | (with_reducible exact ih3 _)
      | (with_reducible exact ih4 _ _ _ _ _)
      | (with_reducible exact ih5 _ _ _ _)
      | (with_reducible exact ih6 _ _ _ _ _)
      | (with_reducible exact ih7 _ _ _)
      | (with_reducible exact ih8 _ _ _ _)
      | (with_reducible exact ih9 _ _ _ _)
      | (with_reducible exact impl_BackWeights.mono _ _)
      | (with_reducible exact impl_FilterShort.mono _ _ _)
      | (with_reducible exact impl_FoldedProducts.mono _ _)
      | (with_reducible exact impl_GainAtHalf.mono _ _)
      | (with_reducible exact impl_GainOf.mono _ _)
      | (with_reducible exact impl_InverseAnswer.mono _ _ _)
      | (with_reducible exact impl_IsMirrored.mono _ _)
      | (with_reducible exact impl_IsSymmetric.mono _ _)
      | (with_reducible exact impl_IsWeights.mono _ _)
      | (with_reducible exact impl_SizeGain.mono _ _)
      | (with_reducible exact impl_SpreadWeights.mono _ _ _)
      | (with_reducible exact impl_TimesWeights.mono _ _ _)
      | (with_reducible exact laws_iSame.mono _ _ _)
      | (with_reducible exact laws_iSum.mono _ _)
      | (with_reducible exact spec_BackWeights.mono _ _)
      | (with_reducible exact spec_DrawInverseAnswer.mono _ _)
      | (with_reducible exact spec_DrawIsSymmetric.mono _ _)
      | (with_reducible exact spec_DrawSpreadWeights.mono _ _)
      | (with_reducible exact spec_FoldedProducts.mono _ _)
      | (with_reducible exact spec_GainAtHalf.mono _ _)
      | (with_reducible exact spec_GainOf.mono _ _)
      | (with_reducible exact spec_InverseAnswer.mono _ _ _)
      | (with_reducible exact spec_IsMirrored.mono _ _)
      | (with_reducible exact spec_IsSymmetric.mono _ _)
      | (with_reducible exact spec_IsWeights.mono _ _)
      | (with_reducible exact spec_SizeGain.mono _ _)
      | (with_reducible exact spec_SpreadWeights.mono _ _ _)
      | (with_reducible exact LeO.refl _)
      | (with_reducible exact LeO.none _)
      | (with_reducible refine LeO.ite ?_ ?_)
      | (with_reducible refine LeO.bind ?_ (fun _ => ?_))
      | exact ih0 _ _ _ _ _ _ _ _ _ _ _
      | exact ih1 _
      | exact ih2 _ _ _ _ _ _
      | exact ih3 _
      | exact ih4 _ _ _ _ _
      | exact ih5 _ _ _ _
      | exact ih6 _ _ _ _ _
      | exact ih7 _ _ _
      | exact ih8 _ _ _ _
      | exact ih9 _ _ _ _
      | exact impl_BackWeights.mono _ _
      | exact impl_FilterShort.mono _ _ _
      | exact impl_FoldedProducts.mono _ _
      | exact impl_GainAtHalf.mono _ _
      | exact impl_GainOf.mono _ _
      | exact impl_InverseAnswer.mono _ _ _
      | exact impl_IsMirrored.mono _ _
      | exact impl_IsSymmetric.mono _ _
      | exact impl_IsWeights.mono _ _
      | exact impl_SizeGain.mono _ _
      | exact impl_SpreadWeights.mono _ _ _
      | exact impl_TimesWeights.mono _ _ _
      | exact laws_iSame.mono _ _ _
      | exact laws_iSum.mono _ _
      | exact spec_BackWeights.mono _ _
      | exact spec_DrawInverseAnswer.mono _ _
      | exact spec_DrawIsSymmetric.mono _ _
      | exact spec_DrawSpreadWeights.mono _ _
      | exact spec_FoldedProducts.mono _ _
      | exact spec_GainAtHalf.mono _ _
      | exact spec_GainOf.mono _ _
      | exact spec_InverseAnswer.mono _ _ _
      | exact spec_IsMirrored.mono _ _
      | exact spec_IsSymmetric.mono _ _
      | exact spec_IsWeights.mono _ _
      | exact spec_SizeGain.mono _ _
      | exact spec_SpreadWeights.mono _ _ _
      | exact LeO.none _
      | refine LeO.ite ?_ ?_
      | refine LeO.bind ?_ (fun _ => ?_)
    · intro y0
      unfold laws_FnWeightsMirrored.j6
      repeat' first
      | (with_reducible exact ih0 _ _ _ _ _ _ _ _ _ _ _)
      | (with_reducible exact ih1 _)
      | (with_reducible exact ih2 _ _ _ _ _ _)
      | (with_reducible exact ih3 _)
      | (with_reducible exact ih4 _ _ _ _ _)
      | (with_reducible exact ih5 _ _ _ _)
      | (with_reducible exact ih6 _ _ _ _ _)
      | (with_reducible exact ih7 _ _ _)
      | (with_reducible exact ih8 _ _ _ _)
      | (with_reducible exact ih9 _ _ _ _)
      | (with_reducible exact impl_BackWeights.mono _ _)
      | (with_reducible exact impl_FilterShort.mono _ _ _)
      | (with_reducible exact impl_FoldedProducts.mono _ _)
      | (with_reducible exact impl_GainAtHalf.mono _ _)
      | (with_reducible exact impl_GainOf.mono _ _)
      | (with_reducible exact impl_InverseAnswer.mono _ _ _)
      | (with_reducible exact impl_IsMirrored.mono _ _)
      | (with_reducible exact impl_IsSymmetric.mono _ _)
      | (with_reducible exact impl_IsWeights.mono _ _)
      | (with_reducible exact impl_SizeGain.mono _ _)
      | (with_reducible exact impl_SpreadWeights.mono _ _ _)
      | (with_reducible exact impl_TimesWeights.mono _ _ _)
      | (with_reducible exact laws_iSame.mono _ _ _)
      | (with_reducible exact laws_iSum.mono _ _)
      | (with_reducible exact spec_BackWeights.mono _ _)
      | (with_reducible exact spec_DrawInverseAnswer.mono _ _)
      | (with_reducible exact spec_DrawIsSymmetric.mono _ _)
      | (with_reducible exact spec_DrawSpreadWeights.mono _ _)
      | (with_reducible exact spec_FoldedProducts.mono _ _)
      | (with_reducible exact spec_GainAtHalf.mono _ _)
      | (with_reducible exact spec_GainOf.mono _ _)
      | (with_reducible exact spec_InverseAnswer.mono _ _ _)
      | (with_reducible exact spec_IsMirrored.mono _ _)
      | (with_reducible exact spec_IsSymmetric.mono _ _)
      | (with_reducible exact spec_IsWeights.mono _ _)
      | (with_reducible exact spec_SizeGain.mono _ _)
      | (with_reducible exact spec_SpreadWeights.mono _ _ _)
      | (with_reducible exact LeO.refl _)
      | (with_reducible exact LeO.none _)
      | (with_reducible refine LeO.ite ?_ ?_)
      | (with_reducible refine LeO.bind ?_ (fun _ => ?_))
      | exact ih0 _ _ _ _ _ _ _ _ _ _ _
      | exact ih1 _
      | exact ih2 _ _ _ _ _ _
      | exact ih3 _
      | exact ih4 _ _ _ _ _
      | exact ih5 _ _ _ _
      | exact ih6 _ _ _ _ _
      | exact ih7 _ _ _
      | exact ih8 _ _ _ _
      | exact ih9 _ _ _ _
      | exact impl_BackWeights.mono _ _
      | exact impl_FilterShort.mono _ _ _
      | exact impl_FoldedProducts.mono _ _
      | exact impl_GainAtHalf.mono _ _
      | exact impl_GainOf.mono _ _
      | exact impl_InverseAnswer.mono _ _ _
      | exact impl_IsMirrored.mono _ _
      | exact impl_IsSymmetric.mono _ _
      | exact impl_IsWeights.mono _ _
      | exact impl_SizeGain.mono _ _
      | exact impl_SpreadWeights.mono _ _ _
      | exact impl_TimesWeights.mono _ _ _
      | exact laws_iSame.mono _ _ _
      | exact laws_iSum.mono _ _
      | exact spec_BackWeights.mono _ _
      | exact spec_DrawInverseAnswer.mono _ _
      | exact spec_DrawIsSymmetric.mono _ _
      | exact spec_DrawSpreadWeights.mono _ _
      | exact spec_FoldedProducts.mono _ _
      | exact spec_GainAtHalf.mono _ _
      | exact spec_GainOf.mono _ _
      | exact spec_InverseAnswer.mono _ _ _
      | exact spec_IsMirrored.mono _ _
      | exact spec_IsSymmetric.mono _ _
      | exact spec_IsWeights.mono _ _
      | exact spec_SizeGain.mono _ _
      | exact spec_SpreadWeights.mono _ _ _
      | exact LeO.none _
      | refine LeO.ite ?_ ?_
      | refine LeO.bind ?_ (fun _ => ?_)
    · intro y0 y1 y2 y3 y4
      unfold laws_FnWeightsMirrored.j7
      repeat' first
      | (with_reducible exact ih0 _ _ _ _ _ _ _ _ _ _ _)
      | (with_reducible exact ih1 _)
      | (with_reducible exact ih2 _ _ _ _ _ _)
      | (with_reducible exact ih3 _)
      | (with_reducible exact ih4 _ _ _ _ _)
      | (with_reducible exact ih5 _ _ _ _)
      | (with_reducible exact ih6 _ _ _ _ _)
      | (with_reducible exact ih7 _ _ _)
      | (with_reducible exact ih8 _ _ _ _)
      | (with_reducible exact ih9 _ _ _ _)
      | (with_reducible exact impl_BackWeights.mono _ _)
      | (with_reducible exact impl_FilterShort.mono _ _ _)
      | (with_reducible exact impl_FoldedProducts.mono _ _)
      | (with_reducible exact impl_GainAtHalf.mono _ _)
      | (with_reducible exact impl_GainOf.mono _ _)
      | (with_reducible exact impl_InverseAnswer.mono _ _ _)
      | (with_reducible exact impl_IsMirrored.mono _ _)
      | (with_reducible exact impl_IsSymmetric.mono _ _)
      | (with_reducible exact impl_IsWeights.mono _ _)
      | (with_reducible exact impl_SizeGain.mono _ _)
      | (with_reducible exact impl_SpreadWeights.mono _ _ _)
      | (with_reducible exact impl_TimesWeights.mono _ _ _)
      | (with_reducible exact laws_iSame.mono _ _ _)
      | (with_reducible exact laws_iSum.mono _ _)
      | (with_reducible exact spec_BackWeights.mono _ _)
      | (with_reducible exact spec_DrawInverseAnswer.mono _ _)
      | (with_reducible exact spec_DrawIsSymmetric.mono _ _)
      | (with_reducible exact spec_DrawSpreadWeights.mono _ _)
      | (with_reducible exact spec_FoldedProducts.mono _ _)
      | (with_reducible exact spec_GainAtHalf.mono _ _)
      | (with_reducible exact spec_GainOf.mono _ _)
      | (with_reducible exact spec_InverseAnswer.mono _ _ _)
      | (with_reducible exact spec_IsMirrored.mono _ _)
      | (with_reducible exact spec_IsSymmetric.mono _ _)
      | (with_reducible exact spec_IsWeights.mono _ _)
      | (with_reducible exact spec_SizeGain.mono _ _)
      | (with_reducible exact spec_SpreadWeights.mono _ _ _)
      | (with_reducible exact LeO.refl _)
      | (with_reducible exact LeO.none _)
      | (with_reducible refine LeO.ite ?_ ?_)
      | (with_reducible refine LeO.bind ?_ (fun _ => ?_))
      | exact ih0 _ _ _ _ _ _ _ _ _ _ _
      | exact ih1 _
      | exact ih2 _ _ _ _ _ _
      | exact ih3 _
      | exact ih4 _ _ _ _ _
      | exact ih5 _ _ _ _
      | exact ih6 _ _ _ _ _
      | exact ih7 _ _ _
      | exact ih8 _ _ _ _
      | exact ih9 _ _ _ _
      | exact impl_BackWeights.mono _ _
      | exact impl_FilterShort.mono _ _ _
      | exact impl_FoldedProducts.mono _ _
      | exact impl_GainAtHalf.mono _ _
      | exact impl_GainOf.mono _ _
      | exact impl_InverseAnswer.mono _ _ _
      | exact impl_IsMirrored.mono _ _
      | exact impl_IsSymmetric.mono _ _
      | exact impl_IsWeights.mono _ _
      | exact impl_SizeGain.mono _ _
      | exact impl_SpreadWeights.mono _ _ _
      | exact impl_TimesWeights.mono _ _ _
      | exact laws_iSame.mono _ _ _
      | exact laws_iSum.mono _ _
      | exact spec_BackWeights.mono _ _
      | exact spec_DrawInverseAnswer.mono _ _
      | exact spec_DrawIsSymmetric.mono _ _
      | exact spec_DrawSpreadWeights.mono _ _
      | exact spec_FoldedProducts.mono _ _
      | exact spec_GainAtHalf.mono _ _
      | exact spec_GainOf.mono _ _
      | exact spec_InverseAnswer.mono _ _ _
      | exact spec_IsMirrored.mono _ _
      | exact spec_IsSymmetric.mono _ _
      | exact spec_IsWeights.mono _ _
      | exact spec_SizeGain.mono _ _
      | exact spec_SpreadWeights.mono _ _ _
      | exact LeO.none _
      | refine LeO.ite ?_ ?_
      | refine LeO.bind ?_ (fun _ => ?_)
    · intro y0 y1 y2 y3
      unfold laws_FnWeightsMirrored.j8
      repeat' first
      | (with_reducible exact ih0 _ _ _ _ _ _ _ _ _ _ _)
      | (with_reducible exact ih1 _)
      | (with_reducible exact ih2 _ _ _ _ _ _)
      | (with_reducible exact ih3 _)
      | (with_reducible exact ih4 _ _ _ _ _)
      | (with_reducible exact ih5 _ _ _ _)
      | (with_reducible exact ih6 _ _ _ _ _)
      | (with_reducible exact ih7 _ _ _)
      | (with_reducible exact ih8 _ _ _ _)
      | (with_reducible exact ih9 _ _ _ _)
      | (with_reducible exact impl_BackWeights.mono _ _)
      | (with_reducible exact impl_FilterShort.mono _ _ _)
      | (with_reducible exact impl_FoldedProducts.mono _ _)
      | (with_reducible exact impl_GainAtHalf.mono _ _)
      | (with_reducible exact impl_GainOf.mono _ _)
      | (with_reducible exact impl_InverseAnswer.mono _ _ _)
      | (with_reducible exact impl_IsMirrored.mono _ _)
      | (with_reducible exact impl_IsSymmetric.mono _ _)
      | (with_reducible exact impl_IsWeights.mono _ _)
      | (with_reducible exact impl_SizeGain.mono _ _)
      | (with_reducible exact impl_SpreadWeights.mono _ _ _)
      | (with_reducible exact impl_TimesWeights.mono _ _ _)
      | (with_reducible exact laws_iSame.mono _ _ _)
      | (with_reducible exact laws_iSum.mono _ _)
      | (with_reducible exact spec_BackWeights.mono _ _)
      | (with_reducible exact spec_DrawInverseAnswer.mono _ _)
      | (with_reducible exact spec_DrawIsSymmetric.mono _ _)
      | (with_reducible exact spec_DrawSpreadWeights.mono _ _)
      | (with_reducible exact spec_FoldedProducts.mono _ _)
      | (with_reducible exact spec_GainAtHalf.mono _ _)
      | (with_reducible exact spec_GainOf.mono _ _)
      | (with_reducible exact spec_InverseAnswer.mono _ _ _)
      | (with_reducible exact spec_IsMirrored.mono _ _)
      | (with_reducible exact spec_IsSymmetric.mono _ _)
      | (with_reducible exact spec_IsWeights.mono _ _)
      | (with_reducible exact spec_SizeGain.mono _ _)
      | (with_reducible exact spec_SpreadWeights.mono _ _ _)
      | (with_reducible exact LeO.refl _)
      | (with_reducible exact LeO.none _)
      | (with_reducible refine LeO.ite ?_ ?_)
      | (with_reducible refine LeO.bind ?_ (fun _ => ?_))
      | exact ih0 _ _ _ _ _ _ _ _ _ _ _
      | exact ih1 _
      | exact ih2 _ _ _ _ _ _
      | exact ih3 _
      | exact ih4 _ _ _ _ _
      | exact ih5 _ _ _ _
      | exact ih6 _ _ _ _ _
      | exact ih7 _ _ _
      | exact ih8 _ _ _ _
      | exact ih9 _ _ _ _
      | exact impl_BackWeights.mono _ _
      | exact impl_FilterShort.mono _ _ _
      | exact impl_FoldedProducts.mono _ _
      | exact impl_GainAtHalf.mono _ _
      | exact impl_GainOf.mono _ _
      | exact impl_InverseAnswer.mono _ _ _
      | exact impl_IsMirrored.mono _ _
      | exact impl_IsSymmetric.mono _ _
      | exact impl_IsWeights.mono _ _
      | exact impl_SizeGain.mono _ _
      | exact impl_SpreadWeights.mono _ _ _
      | exact impl_TimesWeights.mono _ _ _
      | exact laws_iSame.mono _ _ _
      | exact laws_iSum.mono _ _
      | exact spec_BackWeights.mono _ _
      | exact spec_DrawInverseAnswer.mono _ _
      | exact spec_DrawIsSymmetric.mono _ _
      | exact spec_DrawSpreadWeights.mono _ _
      | exact spec_FoldedProducts.mono _ _
      | exact spec_GainAtHalf.mono _ _
      | exact spec_GainOf.mono _ _
      | exact spec_InverseAnswer.mono _ _ _
      | exact spec_IsMirrored.mono _ _
      | exact spec_IsSymmetric.mono _ _
      | exact spec_IsWeights.mono _ _
      | exact spec_SizeGain.mono _ _
      | exact spec_SpreadWeights.mono _ _ _
      | exact LeO.none _
      | refine LeO.ite ?_ ?_
      | refine LeO.bind ?_ (fun _ => ?_)
    · intro y0 y1 y2 y3 y4
      unfold laws_FnWeightsMirrored.l1
      repeat' first
      | (with_reducible exact ih0 _ _ _ _ _ _ _ _ _ _ _)
      | (with_reducible exact ih1 _)
      | (with_reducible exact ih2 _ _ _ _ _ _)
      | (with_reducible exact ih3 _)
      | (with_reducible exact ih4 _ _ _ _ _)
      | (with_reducible exact ih5 _ _ _ _)
      | (with_reducible exact ih6 _ _ _ _ _)
      | (with_reducible exact ih7 _ _ _)
      | (with_reducible exact ih8 _ _ _ _)
      | (with_reducible exact ih9 _ _ _ _)
      | (with_reducible exact impl_BackWeights.mono _ _)
      | (with_reducible exact impl_FilterShort.mono _ _ _)
      | (with_reducible exact impl_FoldedProducts.mono _ _)
      | (with_reducible exact impl_GainAtHalf.mono _ _)
      | (with_reducible exact impl_GainOf.mono _ _)
      | (with_reducible exact impl_InverseAnswer.mono _ _ _)
      | (with_reducible exact impl_IsMirrored.mono _ _)
      | (with_reducible exact impl_IsSymmetric.mono _ _)
      | (with_reducible exact impl_IsWeights.mono _ _)
      | (with_reducible exact impl_SizeGain.mono _ _)
      | (with_reducible exact impl_SpreadWeights.mono _ _ _)
      | (with_reducible exact impl_TimesWeights.mono _ _ _)
      | (with_reducible exact laws_iSame.mono _ _ _)
      | (with_reducible exact laws_iSum.mono _ _)
      | (with_reducible exact spec_BackWeights.mono _ _)
      | (with_reducible exact spec_DrawInverseAnswer.mono _ _)
      | (with_reducible exact spec_DrawIsSymmetric.mono _ _)
      | (with_reducible exact spec_DrawSpreadWeights.mono _ _)
      | (with_reducible exact spec_FoldedProducts.mono _ _)
      | (with_reducible exact spec_GainAtHalf.mono _ _)
      | (with_reducible exact spec_GainOf.mono _ _)
      | (with_reducible exact spec_InverseAnswer.mono _ _ _)
      | (with_reducible exact spec_IsMirrored.mono _ _)
      | (with_reducible exact spec_IsSymmetric.mono _ _)
      | (with_reducible exact spec_IsWeights.mono _ _)
      | (with_reducible exact spec_SizeGain.mono _ _)
      | (with_reducible exact spec_SpreadWeights.mono _ _ _)
      | (with_reducible exact LeO.refl _)
      | (with_reducible exact LeO.none _)
      | (with_reducible refine LeO.ite ?_ ?_)
      | (with_reducible refine LeO.bind ?_ (fun _ => ?_))
      | exact ih0 _ _ _ _ _ _ _ _ _ _ _
      | exact ih1 _
      | exact ih2 _ _ _ _ _ _
      | exact ih3 _
      | exact ih4 _ _ _ _ _
      | exact ih5 _ _ _ _
      | exact ih6 _ _ _ _ _
      | exact ih7 _ _ _
      | exact ih8 _ _ _ _
      | exact ih9 _ _ _ _
      | exact impl_BackWeights.mono _ _
      | exact impl_FilterShort.mono _ _ _
      | exact impl_FoldedProducts.mono _ _
      | exact impl_GainAtHalf.mono _ _
      | exact impl_GainOf.mono _ _
      | exact impl_InverseAnswer.mono _ _ _
      | exact impl_IsMirrored.mono _ _
      | exact impl_IsSymmetric.mono _ _
      | exact impl_IsWeights.mono _ _
      | exact impl_SizeGain.mono _ _
      | exact impl_SpreadWeights.mono _ _ _
      | exact impl_TimesWeights.mono _ _ _
      | exact laws_iSame.mono _ _ _
      | exact laws_iSum.mono _ _
      | exact spec_BackWeights.mono _ _
      | exact spec_DrawInverseAnswer.mono _ _
      | exact spec_DrawIsSymmetric.mono _ _
      | exact spec_DrawSpreadWeights.mono _ _
      | exact spec_FoldedProducts.mono _ _
      | exact spec_GainAtHalf.mono _ _
      | exact spec_GainOf.mono _ _
      | exact spec_InverseAnswer.mono _ _ _
      | exact spec_IsMirrored.mono _ _
      | exact spec_IsSymmetric.mono _ _
      | exact spec_IsWeights.mono _ _
      | exact spec_SizeGain.mono _ _
      | exact spec_SpreadWeights.mono _ _ _
      | exact LeO.none _
      | refine LeO.ite ?_ ?_
      | refine LeO.bind ?_ (fun _ => ?_)
    · intro y0 y1 y2
      unfold laws_FnWeightsMirrored.j4
      repeat' first
      | (with_reducible exact ih0 _ _ _ _ _ _ _ _ _ _ _)
      | (with_reducible exact ih1 _)
      | (with_reducible exact ih2 _ _ _ _ _ _)
      | (with_reducible exact ih3 _)
      | (with_reducible exact ih4 _ _ _ _ _)
      | (with_reducible exact ih5 _ _ _ _)
      | (with_reducible exact ih6 _ _ _ _ _)
      | (with_reducible exact ih7 _ _ _)
      | (with_reducible exact ih8 _ _ _ _)
      | (with_reducible exact ih9 _ _ _ _)
      | (with_reducible exact impl_BackWeights.mono _ _)
      | (with_reducible exact impl_FilterShort.mono _ _ _)
      | (with_reducible exact impl_FoldedProducts.mono _ _)
      | (with_reducible exact impl_GainAtHalf.mono _ _)
      | (with_reducible exact impl_GainOf.mono _ _)
      | (with_reducible exact impl_InverseAnswer.mono _ _ _)
      | (with_reducible exact impl_IsMirrored.mono _ _)
      | (with_reducible exact impl_IsSymmetric.mono _ _)
      | (with_reducible exact impl_IsWeights.mono _ _)
      | (with_reducible exact impl_SizeGain.mono _ _)
      | (with_reducible exact impl_SpreadWeights.mono _ _ _)
      | (with_reducible exact impl_TimesWeights.mono _ _ _)
      | (with_reducible exact laws_iSame.mono _ _ _)
      | (with_reducible exact laws_iSum.mono _ _)
      | (with_reducible exact spec_BackWeights.mono _ _)
      | (with_reducible exact spec_DrawInverseAnswer.mono _ _)
      | (with_reducible exact spec_DrawIsSymmetric.mono _ _)
      | (with_reducible exact spec_DrawSpreadWeights.mono _ _)
      | (with_reducible exact spec_FoldedProducts.mono _ _)
      | (with_reducible exact spec_GainAtHalf.mono _ _)
      | (with_reducible exact spec_GainOf.mono _ _)
      | (with_reducible exact spec_InverseAnswer.mono _ _ _)
      | (with_reducible exact spec_IsMirrored.mono _ _)
      | (with_reducible exact spec_IsSymmetric.mono _ _)
      | (with_reducible exact spec_IsWeights.mono _ _)
      | (with_reducible exact spec_SizeGain.mono _ _)
      | (with_reducible exact spec_SpreadWeights.mono _ _ _)
      | (with_reducible exact LeO.refl _)
      | (with_reducible exact LeO.none _)
      | (with_reducible refine LeO.ite ?_ ?_)
      | (with_reducible refine LeO.bind ?_ (fun _ => ?_))
      | exact ih0 _ _ _ _ _ _ _ _ _ _ _
      | exact ih1 _
      | exact ih2 _ _ _ _ _ _
      | exact ih3 _
      | exact ih4 _ _ _ _ _
      | exact ih5 _ _ _ _
      | exact ih6 _ _ _ _ _
      | exact ih7 _ _ _
      | exact ih8 _ _ _ _
      | exact ih9 _ _ _ _
      | exact impl_BackWeights.mono _ _
      | exact impl_FilterShort.mono _ _ _
      | exact impl_FoldedProducts.mono _ _
      | exact impl_GainAtHalf.mono _ _
      | exact impl_GainOf.mono _ _
      | exact impl_InverseAnswer.mono _ _ _
      | exact impl_IsMirrored.mono _ _
      | exact impl_IsSymmetric.mono _ _
      | exact impl_IsWeights.mono _ _
      | exact impl_SizeGain.mono _ _
      | exact impl_SpreadWeights.mono _ _ _
      | exact impl_TimesWeights.mono _ _ _
      | exact laws_iSame.mono _ _ _
      | exact laws_iSum.mono _ _
      | exact spec_BackWeights.mono _ _
      | exact spec_DrawInverseAnswer.mono _ _
      | exact spec_DrawIsSymmetric.mono _ _
      | exact spec_DrawSpreadWeights.mono _ _
      | exact spec_FoldedProducts.mono _ _
      | exact spec_GainAtHalf.mono _ _
      | exact spec_GainOf.mono _ _
      | exact spec_InverseAnswer.mono _ _ _
      | exact spec_IsMirrored.mono _ _
      | exact spec_IsSymmetric.mono _ _
      | exact spec_IsWeights.mono _ _
      | exact spec_SizeGain.mono _ _
      | exact spec_SpreadWeights.mono _ _ _
      | exact LeO.none _
      | refine LeO.ite ?_ ?_
      | refine LeO.bind ?_ (fun _ => ?_)
    · intro y0 y1 y2 y3
      unfold laws_FnWeightsMirrored.l0
      repeat' first
      | (with_reducible exact ih0 _ _ _ _ _ _ _ _ _ _ _)
      | (with_reducible exact ih1 _)
      | (with_reducible exact ih2 _ _ _ _ _ _)
      | (with_reducible exact ih3 _)
      | (with_reducible exact ih4 _ _ _ _ _)
      | (with_reducible exact ih5 _ _ _ _)
      | (with_reducible exact ih6 _ _ _ _ _)
      | (with_reducible exact ih7 _ _ _)
      | (with_reducible exact ih8 _ _ _ _)
      | (with_reducible exact ih9 _ _ _ _)
      | (with_reducible exact impl_BackWeights.mono _ _)
      | (with_reducible exact impl_FilterShort.mono _ _ _)
      | (with_reducible exact impl_FoldedProducts.mono _ _)
      | (with_reducible exact impl_GainAtHalf.mono _ _)
      | (with_reducible exact impl_GainOf.mono _ _)
      | (with_reducible exact impl_InverseAnswer.mono _ _ _)
      | (with_reducible exact impl_IsMirrored.mono _ _)
      | (with_reducible exact impl_IsSymmetric.mono _ _)
      | (with_reducible exact impl_IsWeights.mono _ _)
      | (with_reducible exact impl_SizeGain.mono _ _)
      | (with_reducible exact impl_SpreadWeights.mono _ _ _)
      | (with_reducible exact impl_TimesWeights.mono _ _ _)
      | (with_reducible exact laws_iSame.mono _ _ _)
      | (with_reducible exact laws_iSum.mono _ _)
      | (with_reducible exact spec_BackWeights.mono _ _)
      | (with_reducible exact spec_DrawInverseAnswer.mono _ _)
      | (with_reducible exact spec_DrawIsSymmetric.mono _ _)
      | (with_reducible exact spec_DrawSpreadWeights.mono _ _)
      | (with_reducible exact spec_FoldedProducts.mono _ _)
      | (with_reducible exact spec_GainAtHalf.mono _ _)
      | (with_reducible exact spec_GainOf.mono _ _)
      | (with_reducible exact spec_InverseAnswer.mono _ _ _)
      | (with_reducible exact spec_IsMirrored.mono _ _)
      | (with_reducible exact spec_IsSymmetric.mono _ _)
      | (with_reducible exact spec_IsWeights.mono _ _)
      | (with_reducible exact spec_SizeGain.mono _ _)
      | (with_reducible exact spec_SpreadWeights.mono _ _ _)
      | (with_reducible exact LeO.refl _)
      | (with_reducible exact LeO.none _)
      | (with_reducible refine LeO.ite ?_ ?_)
      | (with_reducible refine LeO.bind ?_ (fun _ => ?_))
      | exact ih0 _ _ _ _ _ _ _ _ _ _ _
      | exact ih1 _
      | exact ih2 _ _ _ _ _ _
      | exact ih3 _
      | exact ih4 _ _ _ _ _
      | exact ih5 _ _ _ _
      | exact ih6 _ _ _ _ _
      | exact ih7 _ _ _
      | exact ih8 _ _ _ _
      | exact ih9 _ _ _ _
      | exact impl_BackWeights.mono _ _
      | exact impl_FilterShort.mono _ _ _
      | exact impl_FoldedProducts.mono _ _
      | exact impl_GainAtHalf.mono _ _
      | exact impl_GainOf.mono _ _
      | exact impl_InverseAnswer.mono _ _ _
      | exact impl_IsMirrored.mono _ _
      | exact impl_IsSymmetric.mono _ _
      | exact impl_IsWeights.mono _ _
      | exact impl_SizeGain.mono _ _
      | exact impl_SpreadWeights.mono _ _ _
      | exact impl_TimesWeights.mono _ _ _
      | exact laws_iSame.mono _ _ _
      | exact laws_iSum.mono _ _
      | exact spec_BackWeights.mono _ _
      | exact spec_DrawInverseAnswer.mono _ _
      | exact spec_DrawIsSymmetric.mono _ _
      | exact spec_DrawSpreadWeights.mono _ _
      | exact spec_FoldedProducts.mono _ _
      | exact spec_GainAtHalf.mono _ _
      | exact spec_GainOf.mono _ _
      | exact spec_InverseAnswer.mono _ _ _
      | exact spec_IsMirrored.mono _ _
      | exact spec_IsSymmetric.mono _ _
      | exact spec_IsWeights.mono _ _
      | exact spec_SizeGain.mono _ _
      | exact spec_SpreadWeights.mono _ _ _
      | exact LeO.none _
      | refine LeO.ite ?_ ?_
      | refine LeO.bind ?_ (fun _ => ?_)
    · intro y0 y1 y2 y3
      unfold laws_FnWeightsMirrored.j1
      repeat' first
      | (with_reducible exact ih0 _ _ _ _ _ _ _ _ _ _ _)
      | (with_reducible exact ih1 _)
      | (with_reducible exact ih2 _ _ _ _ _ _)
      | (with_reducible exact ih3 _)
      | (with_reducible exact ih4 _ _ _ _ _)
      | (with_reducible exact ih5 _ _ _ _)
      | (with_reducible exact ih6 _ _ _ _ _)
      | (with_reducible exact ih7 _ _ _)
      | (with_reducible exact ih8 _ _ _ _)
      | (with_reducible exact ih9 _ _ _ _)
      | (with_reducible exact impl_BackWeights.mono _ _)
      | (with_reducible exact impl_FilterShort.mono _ _ _)
      | (with_reducible exact impl_FoldedProducts.mono _ _)
      | (with_reducible exact impl_GainAtHalf.mono _ _)
      | (with_reducible exact impl_GainOf.mono _ _)
      | (with_reducible exact impl_InverseAnswer.mono _ _ _)
      | (with_reducible exact impl_IsMirrored.mono _ _)
      | (with_reducible exact impl_IsSymmetric.mono _ _)
      | (with_reducible exact impl_IsWeights.mono _ _)
      | (with_reducible exact impl_SizeGain.mono _ _)
      | (with_reducible exact impl_SpreadWeights.mono _ _ _)
      | (with_reducible exact impl_TimesWeights.mono _ _ _)
      | (with_reducible exact laws_iSame.mono _ _ _)
      | (with_reducible exact laws_iSum.mono _ _)
      | (with_reducible exact spec_BackWeights.mono _ _)
      | (with_reducible exact spec_DrawInverseAnswer.mono _ _)
      | (with_reducible exact spec_DrawIsSymmetric.mono _ _)
      | (with_reducible exact spec_DrawSpreadWeights.mono _ _)
      | (with_reducible exact spec_FoldedProducts.mono _ _)
      | (with_reducible exact spec_GainAtHalf.mono _ _)
      | (with_reducible exact spec_GainOf.mono _ _)
      | (with_reducible exact spec_InverseAnswer.mono _ _ _)
      | (with_reducible exact spec_IsMirrored.mono _ _)
      | (with_reducible exact spec_IsSymmetric.mono _ _)
      | (with_reducible exact spec_IsWeights.mono _ _)
      | (with_reducible exact spec_SizeGain.mono _ _)
      | (with_reducible exact spec_SpreadWeights.mono _ _ _)
      | (with_reducible exact LeO.refl _)
      | (with_reducible exact LeO.none _)
      | (with_reducible refine LeO.ite ?_ ?_)
      | (with_reducible refine LeO.bind ?_ (fun _ => ?_))
      | exact ih0 _ _ _ _ _ _ _ _ _ _ _
      | exact ih1 _
      | exact ih2 _ _ _ _ _ _
      | exact ih3 _
      | exact ih4 _ _ _ _ _
      | exact ih5 _ _ _ _
      | exact ih6 _ _ _ _ _
      | exact ih7 _ _ _
      | exact ih8 _ _ _ _
      | exact ih9 _ _ _ _
      | exact impl_BackWeights.mono _ _
      | exact impl_FilterShort.mono _ _ _
      | exact impl_FoldedProducts.mono _ _
      | exact impl_GainAtHalf.mono _ _
      | exact impl_GainOf.mono _ _
      | exact impl_InverseAnswer.mono _ _ _
      | exact impl_IsMirrored.mono _ _
      | exact impl_IsSymmetric.mono _ _
      | exact impl_IsWeights.mono _ _
      | exact impl_SizeGain.mono _ _
      | exact impl_SpreadWeights.mono _ _ _
      | exact impl_TimesWeights.mono _ _ _
      | exact laws_iSame.mono _ _ _
      | exact laws_iSum.mono _ _
      | exact spec_BackWeights.mono _ _
      | exact spec_DrawInverseAnswer.mono _ _
      | exact spec_DrawIsSymmetric.mono _ _
      | exact spec_DrawSpreadWeights.mono _ _
      | exact spec_FoldedProducts.mono _ _
      | exact spec_GainAtHalf.mono _ _
      | exact spec_GainOf.mono _ _
      | exact spec_InverseAnswer.mono _ _ _
      | exact spec_IsMirrored.mono _ _
      | exact spec_IsSymmetric.mono _ _
      | exact spec_IsWeights.mono _ _
      | exact spec_SizeGain.mono _ _
      | exact spec_SpreadWeights.mono _ _ _
      | exact LeO.none _
      | refine LeO.ite ?_ ?_
      | refine LeO.bind ?_ (fun _ => ?_)
theorem laws_FnWeightsMirrored.mono : ∀ a0 a1 k, LeO (laws_FnWeightsMirrored.f k a0 a1) (laws_FnWeightsMirrored.f (k + 1) a0 a1) := by
  intro a0 a1 k
  obtain ⟨ih0, ih1, ih2, ih3, ih4, ih5, ih6, ih7, ih8, ih9⟩ := laws_FnWeightsMirrored.mono_l k
  unfold laws_FnWeightsMirrored.f
  repeat' first
      | (with_reducible exact ih0 _ _ _ _ _ _ _ _ _ _ _)
      | (with_reducible exact ih1 _)
      | (with_reducible exact ih2 _ _ _ _ _ _)
      | (with_reducible exact ih3 _)
      | (with_reducible exact ih4 _ _ _ _ _)
      | (with_reducible exact ih5 _ _ _ _)
      | (with_reducible exact ih6 _ _ _ _ _)
      | (with_reducible exact ih7 _ _ _)
      | (with_reducible exact ih8 _ _ _ _)
      | (with_reducible exact ih9 _ _ _ _)
      | (with_reducible exact impl_BackWeights.mono _ _)
      | (with_reducible exact impl_FilterShort.mono _ _ _)
      | (with_reducible exact impl_FoldedProducts.mono _ _)
      | (with_reducible exact impl_GainAtHalf.mono _ _)
      | (with_reducible exact impl_GainOf.mono _ _)
      | (with_reducible exact impl_InverseAnswer.mono _ _ _)
      | (with_reducible exact impl_IsMirrored.mono _ _)
      | (with_reducible exact impl_IsSymmetric.mono _ _)
      | (with_reducible exact impl_IsWeights.mono _ _)
      | (with_reducible exact impl_SizeGain.mono _ _)
      | (with_reducible exact impl_SpreadWeights.mono _ _ _)
      | (with_reducible exact impl_TimesWeights.mono _ _ _)
      | (with_reducible exact laws_iSame.mono _ _ _)
      | (with_reducible exact laws_iSum.mono _ _)
      | (with_reducible exact spec_BackWeights.mono _ _)
      | (with_reducible exact spec_DrawInverseAnswer.mono _ _)
      | (with_reducible exact spec_DrawIsSymmetric.mono _ _)
      | (with_reducible exact spec_DrawSpreadWeights.mono _ _)
      | (with_reducible exact spec_FoldedProducts.mono _ _)
      | (with_reducible exact spec_GainAtHalf.mono _ _)
      | (with_reducible exact spec_GainOf.mono _ _)
      | (with_reducible exact spec_InverseAnswer.mono _ _ _)
      | (with_reducible exact spec_IsMirrored.mono _ _)
      | (with_reducible exact spec_IsSymmetric.mono _ _)
      | (with_reducible exact spec_IsWeights.mono _ _)
      | (with_reducible exact spec_SizeGain.mono _ _)
      | (with_reducible exact spec_SpreadWeights.mono _ _ _)
      | (with_reducible exact LeO.refl _)
      | (with_reducible exact LeO.none _)
      | (with_reducible refine LeO.ite ?_ ?_)
      | (with_reducible refine LeO.bind ?_ (fun _ => ?_))
      | exact ih0 _ _ _ _ _ _ _ _ _ _ _
      | exact ih1 _
      | exact ih2 _ _ _ _ _ _
      | exact ih3 _
      | exact ih4 _ _ _ _ _
      | exact ih5 _ _ _ _
      | exact ih6 _ _ _ _ _
      | exact ih7 _ _ _
      | exact ih8 _ _ _ _
      | exact ih9 _ _ _ _
      | exact impl_BackWeights.mono _ _
      | exact impl_FilterShort.mono _ _ _
      | exact impl_FoldedProducts.mono _ _
      | exact impl_GainAtHalf.mono _ _
      | exact impl_GainOf.mono _ _
      | exact impl_InverseAnswer.mono _ _ _
      | exact impl_IsMirrored.mono _ _
      | exact impl_IsSymmetric.mono _ _
      | exact impl_IsWeights.mono _ _
      | exact impl_SizeGain.mono _ _
      | exact impl_SpreadWeights.mono _ _ _
      | exact impl_TimesWeights.mono _ _ _
      | exact laws_iSame.mono _ _ _
      | exact laws_iSum.mono _ _
      | exact spec_BackWeights.mono _ _
      | exact spec_DrawInverseAnswer.mono _ _
      | exact spec_DrawIsSymmetric.mono _ _
      | exact spec_DrawSpreadWeights.mono _ _
      | exact spec_FoldedProducts.mono _ _
      | exact spec_GainAtHalf.mono _ _
      | exact spec_GainOf.mono _ _
      | exact spec_InverseAnswer.mono _ _ _
      | exact spec_IsMirrored.mono _ _
      | exact spec_IsSymmetric.mono _ _
      | exact spec_IsWeights.mono _ _
      | exact spec_SizeGain.mono _ _
      | exact spec_SpreadWeights.mono _ _ _
      | exact LeO.none _
      | refine LeO.ite ?_ ?_
      | refine LeO.bind ?_ (fun _ => ?_)
theorem laws_FnWeightsMirrored.dead_j0 {k : Nat} {y0 : List Int} {y1 : List Int} {y2 : Bool} {y3 : Bool} {y4 : Bool} {y5 : List Int} {y6 : Int} {y7 : Int} {y8 : Int} {y9 : Int} {r : Bool} (h : laws_FnWeightsMirrored.j0 k y0 y1 y2 y3 y4 y5 y6 y7 y8 y9 true = some r) : False := by
  cases k <;> simp [laws_FnWeightsMirrored.j0] at h
theorem laws_FnWeightsMirrored.dead_j3 {k : Nat} {y0 : List Int} {y1 : List Int} {y2 : Int} {y3 : List Int} {y4 : Bool} {r : Bool} (h : laws_FnWeightsMirrored.j3 k y0 y1 y2 y3 y4 true = some r) : False := by
  cases k <;> simp [laws_FnWeightsMirrored.j3] at h
theorem laws_FnWeightsMirrored.dead_j7 {k : Nat} {y0 : List Int} {y1 : Int} {y2 : List Int} {y3 : Bool} {r : Bool} (h : laws_FnWeightsMirrored.j7 k y0 y1 y2 y3 true = some r) : False := by
  cases k <;> simp [laws_FnWeightsMirrored.j7] at h
theorem laws_FnWeightsMirrored.dead_j8 {k : Nat} {y0 : List Int} {y1 : Int} {y2 : List Int} {r : Bool} (h : laws_FnWeightsMirrored.j8 k y0 y1 y2 true = some r) : False := by
  cases k <;> simp [laws_FnWeightsMirrored.j8] at h
theorem laws_FnWeightsMirrored.dead_j4 {k : Nat} {y0 : List Int} {y1 : List Int} {r : Bool} (h : laws_FnWeightsMirrored.j4 k y0 y1 true = some r) : False := by
  cases k <;> simp [laws_FnWeightsMirrored.j4] at h
theorem laws_FnWeightsMirrored.dead_j1 {k : Nat} {y0 : List Int} {y1 : List Int} {y2 : List Int} {r : Bool} (h : laws_FnWeightsMirrored.j1 k y0 y1 y2 true = some r) : False := by
  cases k <;> simp [laws_FnWeightsMirrored.j1] at h
/-- A statement of a sequence's; the rest of it; an arm; the law's own text. -/
def cL : Code → Code | .seq a _ => a | c => c
def cR : Code → Code | .seq _ b => b | c => c
def cT : Code → Code | .cond _ a _ => a | c => c
noncomputable def Try_body : Code := Try.f5.body.getD .skip
/-- What a frame holds behind a write of one slot. -/
theorem put_ {P : Program} {ops : Array Oper} {Q : Exit → Act → World → Prop} {rest : List Oper} {l : List Value} {ds : List Deferred} {n : Nat} {v : Value} {w : World} (h : wpList P ops Q rest ⟨(l.set n v).toArray, ds⟩ w) :
    wpList P ops Q rest ((Act.mk l.toArray ds).put (some n) v) w := by
  simpa [Act.put] using h
theorem set16_ (a0 a1 a2 a3 a4 a5 a6 a7 a8 a9 b0 b1 b2 b3 b4 b5 : Value) (l : List Value) (n : Nat) (v : Value) :
    (a0 :: a1 :: a2 :: a3 :: a4 :: a5 :: a6 :: a7 :: a8 :: a9 :: b0 :: b1 :: b2 :: b3 :: b4 :: b5 :: l).set (n + 16) v = a0 :: a1 :: a2 :: a3 :: a4 :: a5 :: a6 :: a7 :: a8 :: a9 :: b0 :: b1 :: b2 :: b3 :: b4 :: b5 :: l.set n v := rfl
/-- What is left of the law from its statement 18 on. -/
def Tail18 (r : Bool) (w : World) (a : Act) (w_ : World) : Prop := Code.wp Try.prog (cR (cR (cR (cR (cR (cR (cR (cR (cR (cR (cR (cR (cR (cR (cR (cR (cR (cR Try_body)))))))))))))))))) (bodyPost Try.prog Try.f5 fun e w' => e = Ending.returned (Value.bool r) ∧ Below w.heap.size w w') a w_
/-- What is left of the law from its statement 19 on. -/
def Tail19 (r : Bool) (w : World) (a : Act) (w_ : World) : Prop := Code.wp Try.prog (cR (cR (cR (cR (cR (cR (cR (cR (cR (cR (cR (cR (cR (cR (cR (cR (cR (cR (cR Try_body))))))))))))))))))) (bodyPost Try.prog Try.f5 fun e w' => e = Ending.returned (Value.bool r) ∧ Below w.heap.size w w') a w_
/-- What is left of the law from its statement 23 on. -/
def Tail23 (r : Bool) (w : World) (a : Act) (w_ : World) : Prop := Code.wp Try.prog (cR (cR (cR (cR (cR (cR (cR (cR (cR (cR (cR (cR (cR (cR (cR (cR (cR (cR (cR (cR (cR (cR (cR Try_body))))))))))))))))))))))) (bodyPost Try.prog Try.f5 fun e w' => e = Ending.returned (Value.bool r) ∧ Below w.heap.size w w') a w_
/-- What is left of the law from its statement 24 on. -/
def Tail24 (r : Bool) (w : World) (a : Act) (w_ : World) : Prop := Code.wp Try.prog (cR (cR (cR (cR (cR (cR (cR (cR (cR (cR (cR (cR (cR (cR (cR (cR (cR (cR (cR (cR (cR (cR (cR (cR Try_body)))))))))))))))))))))))) (bodyPost Try.prog Try.f5 fun e w' => e = Ending.returned (Value.bool r) ∧ Below w.heap.size w w') a w_
/-- What is left of the law from its statement 28 on. -/
def Tail28 (r : Bool) (w : World) (a : Act) (w_ : World) : Prop := Code.wp Try.prog (cR (cR (cR (cR (cR (cR (cR (cR (cR (cR (cR (cR (cR (cR (cR (cR (cR (cR (cR (cR (cR (cR (cR (cR (cR (cR (cR (cR Try_body)))))))))))))))))))))))))))) (bodyPost Try.prog Try.f5 fun e w' => e = Ending.returned (Value.bool r) ∧ Below w.heap.size w w') a w_
/-- What is left of the first choice behind its first test. -/
def TailB (r : Bool) (w : World) (K : Act → World → Prop) (a : Act) (w_ : World) : Prop := Code.wp Try.prog (cR (cR (cR (cT (cR (cL (cR (cR (cR (cR (cR (cR (cR (cR (cR (cR (cR (cR (cR (cR (cR (cR (cR (cR Try_body)))))))))))))))))))))))) (Exit.then K (bodyPost Try.prog Try.f5 fun e w' => e = Ending.returned (Value.bool r) ∧ Below w.heap.size w w')) a w_

end Go.Proofs.Ytgancmcbldmjaaa.QFnWeightsMirrored
