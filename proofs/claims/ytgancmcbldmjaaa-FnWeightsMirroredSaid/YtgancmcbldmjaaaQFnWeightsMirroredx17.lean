-- Written by wprint.py (this session's program over the kit's print) out of the translation.
import Derived.Test.YtgancmcbldmjaaaQFnWeightsMirroredx16
namespace Go.Proofs.Ytgancmcbldmjaaa.QFnWeightsMirrored
open Go.RowKit Go.Proofs.YtgancmcbldmjaaaW.PrintWords Go.Proofs.YtgancmcbldmjaaaW.PrintLast Go.Proofs.YtgancmcbldmjaaaW.PrintMore
attribute [local go_sem] max2_int min2_int max_two min_two max_three min_three max_four min_four   -- for this text's walks alone
set_option linter.unusedVariables false
set_option linter.unusedSimpArgs false

set_option maxHeartbeats 0 in
set_option maxRecDepth 100000 in
theorem laws_FnWeightsMirrored.calls (k : Nat) (A0 : Option Addr) (c0 : Nat) (l0 : List Int) (A1 : Option Addr) (c1 : Nat) (l1 : List Int) (r : Bool) (w : World) (hr0 : Kd.C (Kd.int .u8) w A0 l0.length l0) (hc0 : l0.length ≤ c0) (hr1 : Kd.C (Kd.int .u8) w A1 l1.length l1) (hc1 : l1.length ≤ c1) (h : laws_FnWeightsMirrored.f k l0 l1 = some r) :
    Calls Try.prog 5 #[.slice A0 l0.length c0, .slice A1 l1.length c1] w fun e w' => e = .returned (.bool r) ∧ Below w.heap.size w w' := by
  have HR0 := Aside0.mk hr0
  have HC0 := Aside0.mk hc0
  clear hr0 hc0
  have HR1 := Aside0.mk hr1
  have HC1 := Aside0.mk hc1
  clear hr1 hc1
  have HB := Aside0.mk (Below.refl w.heap.size w)
  have H : ((laws_big.f l0 l1).bind fun t372 => (if t372 = true then (some true) else ((spec_DrawIsSymmetric.f k l0).bind fun t373 => ((impl_IsSymmetric.f k t373).bind fun bt376 => ((spec_IsSymmetric.f k t373).bind fun bt378 => ((impl_IsMirrored.f k t373).bind fun bt380 => ((spec_IsMirrored.f k t373).bind fun bt382 => ((impl_BackWeights.f k t373).bind fun bt384 => ((spec_BackWeights.f k t373).bind fun bt388 => ((impl_GainOf.f k t373).bind fun bt392 => ((spec_GainOf.f k t373).bind fun bt394 => ((impl_GainAtHalf.f k t373).bind fun bt396 => ((spec_GainAtHalf.f k t373).bind fun bt398 => ((impl_SizeGain.f k t373).bind fun bt400 => ((spec_SizeGain.f k t373).bind fun bt402 => ((impl_FoldedProducts.f k t373).bind fun bt404 => ((spec_FoldedProducts.f k t373).bind fun bt406 => (if (bt376.2 != bt378.2) = true then (laws_FnWeightsMirrored.j0 k l1 t373 bt376.1 bt376.2 bt380.1 bt384.1 bt392.1 bt396.1 bt400.1 bt404.1 true) else (if (bt376.1 != bt378.1) = true then (laws_FnWeightsMirrored.j0 k l1 t373 bt376.1 bt376.2 bt380.1 bt384.1 bt392.1 bt396.1 bt400.1 bt404.1 true) else (if (bt380.2 != bt382.2) = true then (laws_FnWeightsMirrored.j0 k l1 t373 bt376.1 bt376.2 bt380.1 bt384.1 bt392.1 bt396.1 bt400.1 bt404.1 true) else (if (bt380.1 != bt382.1) = true then (laws_FnWeightsMirrored.j0 k l1 t373 bt376.1 bt376.2 bt380.1 bt384.1 bt392.1 bt396.1 bt400.1 bt404.1 true) else (if (bt384.2 != bt388.2) = true then (laws_FnWeightsMirrored.j0 k l1 t373 bt376.1 bt376.2 bt380.1 bt384.1 bt392.1 bt396.1 bt400.1 bt404.1 true) else ((laws_iSame.f k bt384.1 bt388.1).bind fun t408 => (if t408 = true then (if (bt392.2 != bt394.2) = true then (laws_FnWeightsMirrored.j0 k l1 t373 bt376.1 bt376.2 bt380.1 bt384.1 bt392.1 bt396.1 bt400.1 bt404.1 true) else (if bt392.1 = bt394.1 then (if (bt396.2 != bt398.2) = true then (laws_FnWeightsMirrored.j0 k l1 t373 bt376.1 bt376.2 bt380.1 bt384.1 bt392.1 bt396.1 bt400.1 bt404.1 true) else (if bt396.1 = bt398.1 then (if (bt400.2 != bt402.2) = true then (laws_FnWeightsMirrored.j0 k l1 t373 bt376.1 bt376.2 bt380.1 bt384.1 bt392.1 bt396.1 bt400.1 bt404.1 true) else (if bt400.1 = bt402.1 then (if (bt404.2 != bt406.2) = true then (laws_FnWeightsMirrored.j0 k l1 t373 bt376.1 bt376.2 bt380.1 bt384.1 bt392.1 bt396.1 bt400.1 bt404.1 true) else (if bt404.1 = bt406.1 then ((impl_IsWeights.f k t373).bind fun t409 => (if (bt376.2 != t409) = true then (laws_FnWeightsMirrored.j0 k l1 t373 bt376.1 bt376.2 bt380.1 bt384.1 bt392.1 bt396.1 bt400.1 bt404.1 true) else ((impl_IsWeights.f k t373).bind fun t410 => ((spec_IsWeights.f k t373).bind fun t411 => (if (t410 != t411) = true then (laws_FnWeightsMirrored.j0 k l1 t373 bt376.1 bt376.2 bt380.1 bt384.1 bt392.1 bt396.1 bt400.1 bt404.1 true) else (if (bt380.2 != bt376.2) = true then (laws_FnWeightsMirrored.j0 k l1 t373 bt376.1 bt376.2 bt380.1 bt384.1 bt392.1 bt396.1 bt400.1 bt404.1 true) else (if (bt384.2 != bt376.2) = true then (laws_FnWeightsMirrored.j0 k l1 t373 bt376.1 bt376.2 bt380.1 bt384.1 bt392.1 bt396.1 bt400.1 bt404.1 true) else (if (bt392.2 != bt376.2) = true then (laws_FnWeightsMirrored.j0 k l1 t373 bt376.1 bt376.2 bt380.1 bt384.1 bt392.1 bt396.1 bt400.1 bt404.1 true) else (if (bt396.2 != bt376.2) = true then (laws_FnWeightsMirrored.j0 k l1 t373 bt376.1 bt376.2 bt380.1 bt384.1 bt392.1 bt396.1 bt400.1 bt404.1 true) else (if (bt400.2 != bt376.2) = true then (laws_FnWeightsMirrored.j0 k l1 t373 bt376.1 bt376.2 bt380.1 bt384.1 bt392.1 bt396.1 bt400.1 bt404.1 true) else (laws_FnWeightsMirrored.j0 k l1 t373 bt376.1 bt376.2 bt380.1 bt384.1 bt392.1 bt396.1 bt400.1 bt404.1 (bt404.2 != bt376.2)))))))))))) else (laws_FnWeightsMirrored.j0 k l1 t373 bt376.1 bt376.2 bt380.1 bt384.1 bt392.1 bt396.1 bt400.1 bt404.1 true))) else (laws_FnWeightsMirrored.j0 k l1 t373 bt376.1 bt376.2 bt380.1 bt384.1 bt392.1 bt396.1 bt400.1 bt404.1 true))) else (laws_FnWeightsMirrored.j0 k l1 t373 bt376.1 bt376.2 bt380.1 bt384.1 bt392.1 bt396.1 bt400.1 bt404.1 true))) else (laws_FnWeightsMirrored.j0 k l1 t373 bt376.1 bt376.2 bt380.1 bt384.1 bt392.1 bt396.1 bt400.1 bt404.1 true))) else (laws_FnWeightsMirrored.j0 k l1 t373 bt376.1 bt376.2 bt380.1 bt384.1 bt392.1 bt396.1 bt400.1 bt404.1 true))))))))))))))))))))))))) = some r := h
  clear h
  replace H := Option.bind_eq_some_iff.mp H
  obtain ⟨t372, A30, H⟩ := H
  try dsimp only at H
  have A3 := Aside0.mk A30
  clear A30
  by_cases c4 : t372 = true
  · subst c4
    have H1 : (some true) = some r := by rw [if_pos rfl] at H; exact H
    clear H
    have H := H1
    clear H1
    obtain rfl := Option.some.inj H
    go_enter Try.func5, Try.ntmps5
    go_wp2_with (first | ((with_reducible refine gate_callee (f := 20) rfl ?_); refine goesL_ (some 62) rfl rfl Try.func20 (by kernel_rfl) rfl #[.slice A0 l0.length c0, .slice A1 l1.length c1] rfl (by (try simp only [List.map_toArray, List.map_cons, List.map_nil]); first | done | rfl | (simp only [List.length_drop, List.length_take]; rfl)) ?_; (with_reducible refine (laws_big.calls _ _ l0 _ _ l1 true _ ?side1 ?side2 ?side3 ?side4 A3.out).mono ?_); (case side1 => repeat (first | exact HR0.out | (with_reducible refine Kd.C_alloc ?_ _) | (with_reducible refine Kd.C_drewN ?_ _) | (with_reducible refine Kd.C_drew ?_))); (case side2 => exact HC0.out); (case side3 => repeat (first | exact HR1.out | (with_reducible refine Kd.C_alloc ?_ _) | (with_reducible refine Kd.C_drewN ?_ _) | (with_reducible refine Kd.C_drew ?_))); (case side4 => exact HC1.out); rintro e w' ⟨rfl, ⟨nd, rfl⟩⟩; refine ⟨_, rfl, ?_⟩))
    go_ret
    exact ⟨by first | rfl | (simp [errW_none, errW_some] <;> rfl) | (simp [*, errW_none, errW_some] <;> rfl), by repeat (first | (with_reducible first | exact HB.out | apply below_alloc | apply pw_below_drewN | apply below_drew1) | exact HB.out)⟩
  · replace c4 := Bool.eq_false_iff.mpr c4
    subst c4
    have H1 : ((spec_DrawIsSymmetric.f k l0).bind fun t373 => ((impl_IsSymmetric.f k t373).bind fun bt376 => ((spec_IsSymmetric.f k t373).bind fun bt378 => ((impl_IsMirrored.f k t373).bind fun bt380 => ((spec_IsMirrored.f k t373).bind fun bt382 => ((impl_BackWeights.f k t373).bind fun bt384 => ((spec_BackWeights.f k t373).bind fun bt388 => ((impl_GainOf.f k t373).bind fun bt392 => ((spec_GainOf.f k t373).bind fun bt394 => ((impl_GainAtHalf.f k t373).bind fun bt396 => ((spec_GainAtHalf.f k t373).bind fun bt398 => ((impl_SizeGain.f k t373).bind fun bt400 => ((spec_SizeGain.f k t373).bind fun bt402 => ((impl_FoldedProducts.f k t373).bind fun bt404 => ((spec_FoldedProducts.f k t373).bind fun bt406 => (if (bt376.2 != bt378.2) = true then (laws_FnWeightsMirrored.j0 k l1 t373 bt376.1 bt376.2 bt380.1 bt384.1 bt392.1 bt396.1 bt400.1 bt404.1 true) else (if (bt376.1 != bt378.1) = true then (laws_FnWeightsMirrored.j0 k l1 t373 bt376.1 bt376.2 bt380.1 bt384.1 bt392.1 bt396.1 bt400.1 bt404.1 true) else (if (bt380.2 != bt382.2) = true then (laws_FnWeightsMirrored.j0 k l1 t373 bt376.1 bt376.2 bt380.1 bt384.1 bt392.1 bt396.1 bt400.1 bt404.1 true) else (if (bt380.1 != bt382.1) = true then (laws_FnWeightsMirrored.j0 k l1 t373 bt376.1 bt376.2 bt380.1 bt384.1 bt392.1 bt396.1 bt400.1 bt404.1 true) else (if (bt384.2 != bt388.2) = true then (laws_FnWeightsMirrored.j0 k l1 t373 bt376.1 bt376.2 bt380.1 bt384.1 bt392.1 bt396.1 bt400.1 bt404.1 true) else ((laws_iSame.f k bt384.1 bt388.1).bind fun t408 => (if t408 = true then (if (bt392.2 != bt394.2) = true then (laws_FnWeightsMirrored.j0 k l1 t373 bt376.1 bt376.2 bt380.1 bt384.1 bt392.1 bt396.1 bt400.1 bt404.1 true) else (if bt392.1 = bt394.1 then (if (bt396.2 != bt398.2) = true then (laws_FnWeightsMirrored.j0 k l1 t373 bt376.1 bt376.2 bt380.1 bt384.1 bt392.1 bt396.1 bt400.1 bt404.1 true) else (if bt396.1 = bt398.1 then (if (bt400.2 != bt402.2) = true then (laws_FnWeightsMirrored.j0 k l1 t373 bt376.1 bt376.2 bt380.1 bt384.1 bt392.1 bt396.1 bt400.1 bt404.1 true) else (if bt400.1 = bt402.1 then (if (bt404.2 != bt406.2) = true then (laws_FnWeightsMirrored.j0 k l1 t373 bt376.1 bt376.2 bt380.1 bt384.1 bt392.1 bt396.1 bt400.1 bt404.1 true) else (if bt404.1 = bt406.1 then ((impl_IsWeights.f k t373).bind fun t409 => (if (bt376.2 != t409) = true then (laws_FnWeightsMirrored.j0 k l1 t373 bt376.1 bt376.2 bt380.1 bt384.1 bt392.1 bt396.1 bt400.1 bt404.1 true) else ((impl_IsWeights.f k t373).bind fun t410 => ((spec_IsWeights.f k t373).bind fun t411 => (if (t410 != t411) = true then (laws_FnWeightsMirrored.j0 k l1 t373 bt376.1 bt376.2 bt380.1 bt384.1 bt392.1 bt396.1 bt400.1 bt404.1 true) else (if (bt380.2 != bt376.2) = true then (laws_FnWeightsMirrored.j0 k l1 t373 bt376.1 bt376.2 bt380.1 bt384.1 bt392.1 bt396.1 bt400.1 bt404.1 true) else (if (bt384.2 != bt376.2) = true then (laws_FnWeightsMirrored.j0 k l1 t373 bt376.1 bt376.2 bt380.1 bt384.1 bt392.1 bt396.1 bt400.1 bt404.1 true) else (if (bt392.2 != bt376.2) = true then (laws_FnWeightsMirrored.j0 k l1 t373 bt376.1 bt376.2 bt380.1 bt384.1 bt392.1 bt396.1 bt400.1 bt404.1 true) else (if (bt396.2 != bt376.2) = true then (laws_FnWeightsMirrored.j0 k l1 t373 bt376.1 bt376.2 bt380.1 bt384.1 bt392.1 bt396.1 bt400.1 bt404.1 true) else (if (bt400.2 != bt376.2) = true then (laws_FnWeightsMirrored.j0 k l1 t373 bt376.1 bt376.2 bt380.1 bt384.1 bt392.1 bt396.1 bt400.1 bt404.1 true) else (laws_FnWeightsMirrored.j0 k l1 t373 bt376.1 bt376.2 bt380.1 bt384.1 bt392.1 bt396.1 bt400.1 bt404.1 (bt404.2 != bt376.2)))))))))))) else (laws_FnWeightsMirrored.j0 k l1 t373 bt376.1 bt376.2 bt380.1 bt384.1 bt392.1 bt396.1 bt400.1 bt404.1 true))) else (laws_FnWeightsMirrored.j0 k l1 t373 bt376.1 bt376.2 bt380.1 bt384.1 bt392.1 bt396.1 bt400.1 bt404.1 true))) else (laws_FnWeightsMirrored.j0 k l1 t373 bt376.1 bt376.2 bt380.1 bt384.1 bt392.1 bt396.1 bt400.1 bt404.1 true))) else (laws_FnWeightsMirrored.j0 k l1 t373 bt376.1 bt376.2 bt380.1 bt384.1 bt392.1 bt396.1 bt400.1 bt404.1 true))) else (laws_FnWeightsMirrored.j0 k l1 t373 bt376.1 bt376.2 bt380.1 bt384.1 bt392.1 bt396.1 bt400.1 bt404.1 true))))))))))))))))))))))) = some r := by rw [if_neg (show ¬ (false = true) by decide)] at H; exact H
    clear H
    have H := H1
    clear H1
    replace H := Option.bind_eq_some_iff.mp H
    obtain ⟨t373, A50, H⟩ := H
    try dsimp only at H
    have A5 := Aside0.mk A50
    clear A50
    replace H := Option.bind_eq_some_iff.mp H
    obtain ⟨⟨t376, t377⟩, A60, H⟩ := H
    try dsimp only at H
    have A6 := Aside0.mk A60
    clear A60
    replace H := Option.bind_eq_some_iff.mp H
    obtain ⟨⟨t378, t379⟩, A70, H⟩ := H
    try dsimp only at H
    have A7 := Aside0.mk A70
    clear A70
    replace H := Option.bind_eq_some_iff.mp H
    obtain ⟨⟨t380, t381⟩, A80, H⟩ := H
    try dsimp only at H
    have A8 := Aside0.mk A80
    clear A80
    replace H := Option.bind_eq_some_iff.mp H
    obtain ⟨⟨t382, t383⟩, A90, H⟩ := H
    try dsimp only at H
    have A9 := Aside0.mk A90
    clear A90
    replace H := Option.bind_eq_some_iff.mp H
    obtain ⟨⟨t384, t385⟩, A100, H⟩ := H
    try dsimp only at H
    have A10 := Aside0.mk A100
    clear A100
    replace H := Option.bind_eq_some_iff.mp H
    obtain ⟨⟨t388, t389⟩, A110, H⟩ := H
    try dsimp only at H
    have A11 := Aside0.mk A110
    clear A110
    replace H := Option.bind_eq_some_iff.mp H
    obtain ⟨⟨t392, t393⟩, A120, H⟩ := H
    try dsimp only at H
    have A12 := Aside0.mk A120
    clear A120
    replace H := Option.bind_eq_some_iff.mp H
    obtain ⟨⟨t394, t395⟩, A130, H⟩ := H
    try dsimp only at H
    have A13 := Aside0.mk A130
    clear A130
    replace H := Option.bind_eq_some_iff.mp H
    obtain ⟨⟨t396, t397⟩, A140, H⟩ := H
    try dsimp only at H
    have A14 := Aside0.mk A140
    clear A140
    replace H := Option.bind_eq_some_iff.mp H
    obtain ⟨⟨t398, t399⟩, A150, H⟩ := H
    try dsimp only at H
    have A15 := Aside0.mk A150
    clear A150
    replace H := Option.bind_eq_some_iff.mp H
    obtain ⟨⟨t400, t401⟩, A160, H⟩ := H
    try dsimp only at H
    have A16 := Aside0.mk A160
    clear A160
    replace H := Option.bind_eq_some_iff.mp H
    obtain ⟨⟨t402, t403⟩, A170, H⟩ := H
    try dsimp only at H
    have A17 := Aside0.mk A170
    clear A170
    replace H := Option.bind_eq_some_iff.mp H
    obtain ⟨⟨t404, t405⟩, A180, H⟩ := H
    try dsimp only at H
    have A18 := Aside0.mk A180
    clear A180
    replace H := Option.bind_eq_some_iff.mp H
    obtain ⟨⟨t406, t407⟩, A190, H⟩ := H
    try dsimp only at H
    have A19 := Aside0.mk A190
    clear A190
    have HC20 := Aside0.mk H
    clear H
    go_enter Try.func5, Try.ntmps5
    go_upto_region 18 with (go_big_may; (first | ((with_reducible refine gate_callee (f := 20) rfl ?_); refine goesL_ (some 62) rfl rfl Try.func20 (by kernel_rfl) rfl #[.slice A0 l0.length c0, .slice A1 l1.length c1] rfl (by (try simp only [List.map_toArray, List.map_cons, List.map_nil]); first | done | rfl | (simp only [List.length_drop, List.length_take]; rfl)) ?_; (with_reducible refine (laws_big.calls _ _ l0 _ _ l1 false _ ?side1 ?side2 ?side3 ?side4 A3.out).mono ?_); (case side1 => repeat (first | exact HR0.out | (with_reducible refine Kd.C_alloc ?_ _) | (with_reducible refine Kd.C_drewN ?_ _) | (with_reducible refine Kd.C_drew ?_))); (case side2 => exact HC0.out); (case side3 => repeat (first | exact HR1.out | (with_reducible refine Kd.C_alloc ?_ _) | (with_reducible refine Kd.C_drewN ?_ _) | (with_reducible refine Kd.C_drew ?_))); (case side4 => exact HC1.out); rintro e w' ⟨rfl, ⟨nd, rfl⟩⟩; refine ⟨_, rfl, ?_⟩) | ((with_reducible refine gate_callee (f := 21) rfl ?_); refine goesL_ (some 64) rfl rfl Try.func21 (by kernel_rfl) rfl #[.slice A0 l0.length c0] rfl (by (try simp only [List.map_toArray, List.map_cons, List.map_nil]); first | done | rfl | (simp only [List.length_drop, List.length_take]; rfl)) ?_; (with_reducible refine (spec_DrawIsSymmetric.calls k _ _ l0 t373 _ ?side1 ?side2 A5.out).mono ?_); (case side1 => repeat (first | exact HR0.out | (with_reducible refine Kd.C_alloc ?_ _) | (with_reducible refine Kd.C_drewN ?_ _) | (with_reducible refine Kd.C_drew ?_))); (case side2 => exact HC0.out); rintro e w21 ⟨v374, rfl, ho0, hb⟩; refine ⟨_, rfl, put_ ?_⟩; (conv => arg 5; dsimp only [set16_, List.set_cons_succ, List.set_cons_zero]); have n0_ := Aside0.mk (Kd.R_lower ho0 (below_size (by repeat (first | (with_reducible first | exact HB.out | apply below_alloc | apply pw_below_drewN | apply below_drew1) | exact HB.out)))); have n1_ := Aside0.mk (below_step (by repeat (first | (with_reducible first | exact HB.out | apply below_alloc | apply pw_below_drewN | apply below_drew1) | exact HB.out)) hb); clear HB; have HO375 := n0_; have HB := n1_; clear n0_ n1_; (try clear hb); (try clear hb2); (try clear hk); (try clear hi); (try clear ho0); obtain ⟨Ao22, co22, eo22⟩ := Kd.R_slice HO375.out; subst eo22) | ((with_reducible refine gate_callee (f := 22) rfl ?_); refine goesL_ (some 67) rfl rfl Try.func22 (by kernel_rfl) rfl #[.slice Ao22 t373.length co22] rfl (by (try simp only [List.map_toArray, List.map_cons, List.map_nil]); first | done | rfl | (simp only [List.length_drop, List.length_take]; rfl)) ?_; (with_reducible refine (impl_IsSymmetric.calls k _ _ t373 t376 t377 _ ?side1 ?side2 A6.out).mono ?_); (case side1 => repeat (first | exact (Kd.R_reads' HO375.out).2.2 | (with_reducible refine Kd.C_alloc ?_ _) | (with_reducible refine Kd.C_drewN ?_ _) | (with_reducible refine Kd.C_drew ?_))); (case side2 => exact (Kd.R_reads' HO375.out).2.1); rintro e w23 ⟨rfl, hb⟩; refine ⟨_, rfl, put_ ?_⟩; (conv => arg 5; dsimp only [set16_, List.set_cons_succ, List.set_cons_zero]); have n0_ := Aside0.mk (Kd.R_below (by (with_reducible repeat (first | apply Kd.R_alloc | apply Kd.R_drewN | apply Kd.R_drew)); exact HO375.out) hb); have n1_ := Aside0.mk (below_step (by repeat (first | (with_reducible first | exact HB.out | apply below_alloc | apply pw_below_drewN | apply below_drew1) | exact HB.out)) hb); clear HO375; clear HB; have HO375 := n0_; have HB := n1_; clear n0_ n1_; (try clear hb); (try clear hb2); (try clear hk); (try clear hi)) | ((with_reducible refine gate_callee (f := 23) rfl ?_); refine goesL_ (some 72) rfl rfl Try.func23 (by kernel_rfl) rfl #[.slice Ao22 t373.length co22] rfl (by (try simp only [List.map_toArray, List.map_cons, List.map_nil]); first | done | rfl | (simp only [List.length_drop, List.length_take]; rfl)) ?_; (with_reducible refine (spec_IsSymmetric.calls k _ _ t373 t378 t379 _ ?side1 ?side2 A7.out).mono ?_); (case side1 => repeat (first | exact (Kd.R_reads' HO375.out).2.2 | (with_reducible refine Kd.C_alloc ?_ _) | (with_reducible refine Kd.C_drewN ?_ _) | (with_reducible refine Kd.C_drew ?_))); (case side2 => exact (Kd.R_reads' HO375.out).2.1); rintro e w24 ⟨rfl, hb⟩; refine ⟨_, rfl, put_ ?_⟩; (conv => arg 5; dsimp only [set16_, List.set_cons_succ, List.set_cons_zero]); have n0_ := Aside0.mk (Kd.R_below (by (with_reducible repeat (first | apply Kd.R_alloc | apply Kd.R_drewN | apply Kd.R_drew)); exact HO375.out) hb); have n1_ := Aside0.mk (below_step (by repeat (first | (with_reducible first | exact HB.out | apply below_alloc | apply pw_below_drewN | apply below_drew1) | exact HB.out)) hb); clear HO375; clear HB; have HO375 := n0_; have HB := n1_; clear n0_ n1_; (try clear hb); (try clear hb2); (try clear hk); (try clear hi)) | ((with_reducible refine gate_callee (f := 24) rfl ?_); refine goesL_ (some 77) rfl rfl Try.func24 (by kernel_rfl) rfl #[.slice Ao22 t373.length co22] rfl (by (try simp only [List.map_toArray, List.map_cons, List.map_nil]); first | done | rfl | (simp only [List.length_drop, List.length_take]; rfl)) ?_; (with_reducible refine (impl_IsMirrored.calls k _ _ t373 t380 t381 _ ?side1 ?side2 A8.out).mono ?_); (case side1 => repeat (first | exact (Kd.R_reads' HO375.out).2.2 | (with_reducible refine Kd.C_alloc ?_ _) | (with_reducible refine Kd.C_drewN ?_ _) | (with_reducible refine Kd.C_drew ?_))); (case side2 => exact (Kd.R_reads' HO375.out).2.1); rintro e w25 ⟨rfl, hb⟩; refine ⟨_, rfl, put_ ?_⟩; (conv => arg 5; dsimp only [set16_, List.set_cons_succ, List.set_cons_zero]); have n0_ := Aside0.mk (Kd.R_below (by (with_reducible repeat (first | apply Kd.R_alloc | apply Kd.R_drewN | apply Kd.R_drew)); exact HO375.out) hb); have n1_ := Aside0.mk (below_step (by repeat (first | (with_reducible first | exact HB.out | apply below_alloc | apply pw_below_drewN | apply below_drew1) | exact HB.out)) hb); clear HO375; clear HB; have HO375 := n0_; have HB := n1_; clear n0_ n1_; (try clear hb); (try clear hb2); (try clear hk); (try clear hi)) | ((with_reducible refine gate_callee (f := 25) rfl ?_); refine goesL_ (some 82) rfl rfl Try.func25 (by kernel_rfl) rfl #[.slice Ao22 t373.length co22] rfl (by (try simp only [List.map_toArray, List.map_cons, List.map_nil]); first | done | rfl | (simp only [List.length_drop, List.length_take]; rfl)) ?_; (with_reducible refine (spec_IsMirrored.calls k _ _ t373 t382 t383 _ ?side1 ?side2 A9.out).mono ?_); (case side1 => repeat (first | exact (Kd.R_reads' HO375.out).2.2 | (with_reducible refine Kd.C_alloc ?_ _) | (with_reducible refine Kd.C_drewN ?_ _) | (with_reducible refine Kd.C_drew ?_))); (case side2 => exact (Kd.R_reads' HO375.out).2.1); rintro e w26 ⟨rfl, hb⟩; refine ⟨_, rfl, put_ ?_⟩; (conv => arg 5; dsimp only [set16_, List.set_cons_succ, List.set_cons_zero]); have n0_ := Aside0.mk (Kd.R_below (by (with_reducible repeat (first | apply Kd.R_alloc | apply Kd.R_drewN | apply Kd.R_drew)); exact HO375.out) hb); have n1_ := Aside0.mk (below_step (by repeat (first | (with_reducible first | exact HB.out | apply below_alloc | apply pw_below_drewN | apply below_drew1) | exact HB.out)) hb); clear HO375; clear HB; have HO375 := n0_; have HB := n1_; clear n0_ n1_; (try clear hb); (try clear hb2); (try clear hk); (try clear hi)) | ((with_reducible refine gate_callee (f := 26) rfl ?_); refine goesL_ (some 87) rfl rfl Try.func26 (by kernel_rfl) rfl #[.slice Ao22 t373.length co22] rfl (by (try simp only [List.map_toArray, List.map_cons, List.map_nil]); first | done | rfl | (simp only [List.length_drop, List.length_take]; rfl)) ?_; (with_reducible refine (impl_BackWeights.calls k _ _ t373 t384 t385 _ ?side1 ?side2 A10.out).mono ?_); (case side1 => repeat (first | exact (Kd.R_reads' HO375.out).2.2 | (with_reducible refine Kd.C_alloc ?_ _) | (with_reducible refine Kd.C_drewN ?_ _) | (with_reducible refine Kd.C_drew ?_))); (case side2 => exact (Kd.R_reads' HO375.out).2.1); rintro e w27 ⟨v386, rfl, ho0, hb⟩; refine ⟨_, rfl, put_ ?_⟩; (conv => arg 5; dsimp only [set16_, List.set_cons_succ, List.set_cons_zero]); have n0_ := Aside0.mk (Kd.R_elder' (by (with_reducible repeat (first | apply Kd.R_alloc | apply Kd.R_drewN | apply Kd.R_drew)); exact HO375.out) (Kd.R_base ho0) hb); have n1_ := Aside0.mk (Kd.R_lower (Kd.R_new' ho0 (Kd.R_lt (by (with_reducible repeat (first | apply Kd.R_alloc | apply Kd.R_drewN | apply Kd.R_drew)); exact HO375.out))) (below_size (by repeat (first | (with_reducible first | exact HB.out | apply below_alloc | apply pw_below_drewN | apply below_drew1) | exact HB.out)))); have n2_ := Aside0.mk (below_step (by repeat (first | (with_reducible first | exact HB.out | apply below_alloc | apply pw_below_drewN | apply below_drew1) | exact HB.out)) hb); clear HO375; clear HB; have HO375 := n0_; have HO387 := n1_; have HB := n2_; clear n0_ n1_ n2_; (try clear hb); (try clear hb2); (try clear hk); (try clear hi); (try clear ho0)) | ((with_reducible refine gate_callee (f := 27) rfl ?_); refine goesL_ (some 92) rfl rfl Try.func27 (by kernel_rfl) rfl #[.slice Ao22 t373.length co22] rfl (by (try simp only [List.map_toArray, List.map_cons, List.map_nil]); first | done | rfl | (simp only [List.length_drop, List.length_take]; rfl)) ?_; (with_reducible refine (spec_BackWeights.calls k _ _ t373 t388 t389 _ ?side1 ?side2 A11.out).mono ?_); (case side1 => repeat (first | exact (Kd.R_reads' HO375.out).2.2 | (with_reducible refine Kd.C_alloc ?_ _) | (with_reducible refine Kd.C_drewN ?_ _) | (with_reducible refine Kd.C_drew ?_))); (case side2 => exact (Kd.R_reads' HO375.out).2.1); rintro e w28 ⟨v390, rfl, ho0, hb⟩; refine ⟨_, rfl, put_ ?_⟩; (conv => arg 5; dsimp only [set16_, List.set_cons_succ, List.set_cons_zero]); have n0_ := Aside0.mk (Kd.R_elder' (by (with_reducible repeat (first | apply Kd.R_alloc | apply Kd.R_drewN | apply Kd.R_drew)); exact HO375.out) (Kd.R_base ho0) hb); have n1_ := Aside0.mk (Kd.R_elder' (by (with_reducible repeat (first | apply Kd.R_alloc | apply Kd.R_drewN | apply Kd.R_drew)); exact HO387.out) (Kd.R_base ho0) hb); have n2_ := Aside0.mk (Kd.R_lower (Kd.R_new' (Kd.R_new' ho0 (Kd.R_lt (by (with_reducible repeat (first | apply Kd.R_alloc | apply Kd.R_drewN | apply Kd.R_drew)); exact HO375.out))) (Kd.R_lt (by (with_reducible repeat (first | apply Kd.R_alloc | apply Kd.R_drewN | apply Kd.R_drew)); exact HO387.out))) (below_size (by repeat (first | (with_reducible first | exact HB.out | apply below_alloc | apply pw_below_drewN | apply below_drew1) | exact HB.out)))); have n3_ := Aside0.mk (below_step (by repeat (first | (with_reducible first | exact HB.out | apply below_alloc | apply pw_below_drewN | apply below_drew1) | exact HB.out)) hb); clear HO375; clear HO387; clear HB; have HO375 := n0_; have HO387 := n1_; have HO391 := n2_; have HB := n3_; clear n0_ n1_ n2_ n3_; (try clear hb); (try clear hb2); (try clear hk); (try clear hi); (try clear ho0)) | ((with_reducible refine gate_callee (f := 28) rfl ?_); refine goesL_ (some 97) rfl rfl Try.func28 (by kernel_rfl) rfl #[.slice Ao22 t373.length co22] rfl (by (try simp only [List.map_toArray, List.map_cons, List.map_nil]); first | done | rfl | (simp only [List.length_drop, List.length_take]; rfl)) ?_; (with_reducible refine (impl_GainOf.calls k _ _ t373 t392 t393 _ ?side1 ?side2 A12.out).mono ?_); (case side1 => repeat (first | exact (Kd.R_reads' HO375.out).2.2 | (with_reducible refine Kd.C_alloc ?_ _) | (with_reducible refine Kd.C_drewN ?_ _) | (with_reducible refine Kd.C_drew ?_))); (case side2 => exact (Kd.R_reads' HO375.out).2.1); rintro e w' ⟨rfl, ⟨nd, rfl⟩⟩; refine ⟨_, rfl, ?_⟩) | ((with_reducible refine gate_callee (f := 29) rfl ?_); refine goesL_ (some 102) rfl rfl Try.func29 (by kernel_rfl) rfl #[.slice Ao22 t373.length co22] rfl (by (try simp only [List.map_toArray, List.map_cons, List.map_nil]); first | done | rfl | (simp only [List.length_drop, List.length_take]; rfl)) ?_; (with_reducible refine (spec_GainOf.calls k _ _ t373 t394 t395 _ ?side1 ?side2 A13.out).mono ?_); (case side1 => repeat (first | exact (Kd.R_reads' HO375.out).2.2 | (with_reducible refine Kd.C_alloc ?_ _) | (with_reducible refine Kd.C_drewN ?_ _) | (with_reducible refine Kd.C_drew ?_))); (case side2 => exact (Kd.R_reads' HO375.out).2.1); rintro e w' ⟨rfl, ⟨nd, rfl⟩⟩; refine ⟨_, rfl, ?_⟩) | ((with_reducible refine gate_callee (f := 16) rfl ?_); refine goesL_ (some 107) rfl rfl Try.func16 (by kernel_rfl) rfl #[.slice Ao22 t373.length co22] rfl (by (try simp only [List.map_toArray, List.map_cons, List.map_nil]); first | done | rfl | (simp only [List.length_drop, List.length_take]; rfl)) ?_; (with_reducible refine (impl_GainAtHalf.calls k _ _ t373 t396 t397 _ ?side1 ?side2 A14.out).mono ?_); (case side1 => repeat (first | exact (Kd.R_reads' HO375.out).2.2 | (with_reducible refine Kd.C_alloc ?_ _) | (with_reducible refine Kd.C_drewN ?_ _) | (with_reducible refine Kd.C_drew ?_))); (case side2 => exact (Kd.R_reads' HO375.out).2.1); rintro e w' ⟨rfl, ⟨nd, rfl⟩⟩; refine ⟨_, rfl, ?_⟩) | ((with_reducible refine gate_callee (f := 14) rfl ?_); refine goesL_ (some 112) rfl rfl Try.func14 (by kernel_rfl) rfl #[.slice Ao22 t373.length co22] rfl (by (try simp only [List.map_toArray, List.map_cons, List.map_nil]); first | done | rfl | (simp only [List.length_drop, List.length_take]; rfl)) ?_; (with_reducible refine (spec_GainAtHalf.calls k _ _ t373 t398 t399 _ ?side1 ?side2 A15.out).mono ?_); (case side1 => repeat (first | exact (Kd.R_reads' HO375.out).2.2 | (with_reducible refine Kd.C_alloc ?_ _) | (with_reducible refine Kd.C_drewN ?_ _) | (with_reducible refine Kd.C_drew ?_))); (case side2 => exact (Kd.R_reads' HO375.out).2.1); rintro e w' ⟨rfl, ⟨nd, rfl⟩⟩; refine ⟨_, rfl, ?_⟩) | ((with_reducible refine gate_callee (f := 30) rfl ?_); refine goesL_ (some 117) rfl rfl Try.func30 (by kernel_rfl) rfl #[.slice Ao22 t373.length co22] rfl (by (try simp only [List.map_toArray, List.map_cons, List.map_nil]); first | done | rfl | (simp only [List.length_drop, List.length_take]; rfl)) ?_; (with_reducible refine (impl_SizeGain.calls k _ _ t373 t400 t401 _ ?side1 ?side2 A16.out).mono ?_); (case side1 => repeat (first | exact (Kd.R_reads' HO375.out).2.2 | (with_reducible refine Kd.C_alloc ?_ _) | (with_reducible refine Kd.C_drewN ?_ _) | (with_reducible refine Kd.C_drew ?_))); (case side2 => exact (Kd.R_reads' HO375.out).2.1); rintro e w29 ⟨rfl, hb⟩; refine ⟨_, rfl, put_ ?_⟩; (conv => arg 5; dsimp only [set16_, List.set_cons_succ, List.set_cons_zero]); have n0_ := Aside0.mk (Kd.R_below (by (with_reducible repeat (first | apply Kd.R_alloc | apply Kd.R_drewN | apply Kd.R_drew)); exact HO375.out) hb); have n1_ := Aside0.mk (Kd.R_below (by (with_reducible repeat (first | apply Kd.R_alloc | apply Kd.R_drewN | apply Kd.R_drew)); exact HO387.out) hb); have n2_ := Aside0.mk (Kd.R_below (by (with_reducible repeat (first | apply Kd.R_alloc | apply Kd.R_drewN | apply Kd.R_drew)); exact HO391.out) hb); have n3_ := Aside0.mk (below_step (by repeat (first | (with_reducible first | exact HB.out | apply below_alloc | apply pw_below_drewN | apply below_drew1) | exact HB.out)) hb); clear HO375; clear HO387; clear HO391; clear HB; have HO375 := n0_; have HO387 := n1_; have HO391 := n2_; have HB := n3_; clear n0_ n1_ n2_ n3_; (try clear hb); (try clear hb2); (try clear hk); (try clear hi)) | ((with_reducible refine gate_callee (f := 31) rfl ?_); refine goesL_ (some 122) rfl rfl Try.func31 (by kernel_rfl) rfl #[.slice Ao22 t373.length co22] rfl (by (try simp only [List.map_toArray, List.map_cons, List.map_nil]); first | done | rfl | (simp only [List.length_drop, List.length_take]; rfl)) ?_; (with_reducible refine (spec_SizeGain.calls k _ _ t373 t402 t403 _ ?side1 ?side2 A17.out).mono ?_); (case side1 => repeat (first | exact (Kd.R_reads' HO375.out).2.2 | (with_reducible refine Kd.C_alloc ?_ _) | (with_reducible refine Kd.C_drewN ?_ _) | (with_reducible refine Kd.C_drew ?_))); (case side2 => exact (Kd.R_reads' HO375.out).2.1); rintro e w' ⟨rfl, ⟨nd, rfl⟩⟩; refine ⟨_, rfl, ?_⟩) | ((with_reducible refine gate_callee (f := 32) rfl ?_); refine goesL_ (some 127) rfl rfl Try.func32 (by kernel_rfl) rfl #[.slice Ao22 t373.length co22] rfl (by (try simp only [List.map_toArray, List.map_cons, List.map_nil]); first | done | rfl | (simp only [List.length_drop, List.length_take]; rfl)) ?_; (with_reducible refine (impl_FoldedProducts.calls k _ _ t373 t404 t405 _ ?side1 ?side2 A18.out).mono ?_); (case side1 => repeat (first | exact (Kd.R_reads' HO375.out).2.2 | (with_reducible refine Kd.C_alloc ?_ _) | (with_reducible refine Kd.C_drewN ?_ _) | (with_reducible refine Kd.C_drew ?_))); (case side2 => exact (Kd.R_reads' HO375.out).2.1); rintro e w30 ⟨rfl, hb⟩; refine ⟨_, rfl, put_ ?_⟩; (conv => arg 5; dsimp only [set16_, List.set_cons_succ, List.set_cons_zero]); have n0_ := Aside0.mk (Kd.R_below (by (with_reducible repeat (first | apply Kd.R_alloc | apply Kd.R_drewN | apply Kd.R_drew)); exact HO375.out) hb); have n1_ := Aside0.mk (Kd.R_below (by (with_reducible repeat (first | apply Kd.R_alloc | apply Kd.R_drewN | apply Kd.R_drew)); exact HO387.out) hb); have n2_ := Aside0.mk (Kd.R_below (by (with_reducible repeat (first | apply Kd.R_alloc | apply Kd.R_drewN | apply Kd.R_drew)); exact HO391.out) hb); have n3_ := Aside0.mk (below_step (by repeat (first | (with_reducible first | exact HB.out | apply below_alloc | apply pw_below_drewN | apply below_drew1) | exact HB.out)) hb); clear HO375; clear HO387; clear HO391; clear HB; have HO375 := n0_; have HO387 := n1_; have HO391 := n2_; have HB := n3_; clear n0_ n1_ n2_ n3_; (try clear hb); (try clear hb2); (try clear hk); (try clear hi)) | ((with_reducible refine gate_callee (f := 33) rfl ?_); refine goesL_ (some 132) rfl rfl Try.func33 (by kernel_rfl) rfl #[.slice Ao22 t373.length co22] rfl (by (try simp only [List.map_toArray, List.map_cons, List.map_nil]); first | done | rfl | (simp only [List.length_drop, List.length_take]; rfl)) ?_; (with_reducible refine (spec_FoldedProducts.calls k _ _ t373 t406 t407 _ ?side1 ?side2 A19.out).mono ?_); (case side1 => repeat (first | exact (Kd.R_reads' HO375.out).2.2 | (with_reducible refine Kd.C_alloc ?_ _) | (with_reducible refine Kd.C_drewN ?_ _) | (with_reducible refine Kd.C_drew ?_))); (case side2 => exact (Kd.R_reads' HO375.out).2.1); rintro e w31 ⟨rfl, hb⟩; refine ⟨_, rfl, put_ ?_⟩; (conv => arg 5; dsimp only [set16_, List.set_cons_succ, List.set_cons_zero]); have n0_ := Aside0.mk (Kd.R_below (by (with_reducible repeat (first | apply Kd.R_alloc | apply Kd.R_drewN | apply Kd.R_drew)); exact HO375.out) hb); have n1_ := Aside0.mk (Kd.R_below (by (with_reducible repeat (first | apply Kd.R_alloc | apply Kd.R_drewN | apply Kd.R_drew)); exact HO387.out) hb); have n2_ := Aside0.mk (Kd.R_below (by (with_reducible repeat (first | apply Kd.R_alloc | apply Kd.R_drewN | apply Kd.R_drew)); exact HO391.out) hb); have n3_ := Aside0.mk (below_step (by repeat (first | (with_reducible first | exact HB.out | apply below_alloc | apply pw_below_drewN | apply below_drew1) | exact HB.out)) hb); clear HO375; clear HO387; clear HO391; clear HB; have HO375 := n0_; have HO387 := n1_; have HO391 := n2_; have HB := n3_; clear n0_ n1_ n2_ n3_; (try clear hb); (try clear hb2); (try clear hk); (try clear hi))))
    rename_i K17 hK17 Kn hKn
    have hM17 : ∀ a w_, Met (Tail18 r w) a w_ → K17 a w_ := hK17
    clear hK17
    conv => arg 2; dsimp only [List.append_eq, List.cons_append, List.nil_append]
    have H := HC20.out
    clear HC20
    by_cases c32 : (t377 != t379) = true
    · rw [if_pos c32] at H
      have c32b0 : (t377 != t379) = true := c32
      (try (have c32b1 : decide (t377 = t379) = false := by simpa using c32))
      (try (have c32b2 : (t377 == t379) = false := by simpa using c32))
      (try (have c32b3 : ¬ (t377 = t379) := by simpa using c32))
      clear c32
      (first | rw [c32b0] | (simp only [i64_w, i32_w]; rw [c32b0]) | skip)
      exact (by first | exact laws_FnWeightsMirrored.dead_j0 H | exact laws_FnWeightsMirrored.dead_j3 H | exact laws_FnWeightsMirrored.dead_j7 H | exact laws_FnWeightsMirrored.dead_j8 H | exact laws_FnWeightsMirrored.dead_j4 H | exact laws_FnWeightsMirrored.dead_j1 H : False).elim
    · rw [if_neg c32] at H
      have c32b0 : (t377 != t379) = false := by simpa using c32
      (try (have c32b1 : decide (t377 = t379) = true := by simpa using c32))
      (try (have c32b2 : (t377 == t379) = true := by simpa using c32))
      clear c32
      (first | rw [c32b0] | (simp only [i64_w, i32_w]; rw [c32b0]) | skip)
      by_cases c33 : (t376 != t378) = true
      · rw [if_pos c33] at H
        have c33b0 : (t376 != t378) = true := c33
        (try (have c33b1 : decide (t376 = t378) = false := by simpa using c33))
        (try (have c33b2 : (t376 == t378) = false := by simpa using c33))
        (try (have c33b3 : ¬ (t376 = t378) := by simpa using c33))
        clear c33
        exact (by first | exact laws_FnWeightsMirrored.dead_j0 H | exact laws_FnWeightsMirrored.dead_j3 H | exact laws_FnWeightsMirrored.dead_j7 H | exact laws_FnWeightsMirrored.dead_j8 H | exact laws_FnWeightsMirrored.dead_j4 H | exact laws_FnWeightsMirrored.dead_j1 H : False).elim
      · rw [if_neg c33] at H
        have c33b0 : (t376 != t378) = false := by simpa using c33
        (try (have c33b1 : decide (t376 = t378) = true := by simpa using c33))
        (try (have c33b2 : (t376 == t378) = true := by simpa using c33))
        clear c33
        by_cases c34 : (t381 != t383) = true
        · rw [if_pos c34] at H
          have c34b0 : (t381 != t383) = true := c34
          (try (have c34b1 : decide (t381 = t383) = false := by simpa using c34))
          (try (have c34b2 : (t381 == t383) = false := by simpa using c34))
          (try (have c34b3 : ¬ (t381 = t383) := by simpa using c34))
          clear c34
          exact (by first | exact laws_FnWeightsMirrored.dead_j0 H | exact laws_FnWeightsMirrored.dead_j3 H | exact laws_FnWeightsMirrored.dead_j7 H | exact laws_FnWeightsMirrored.dead_j8 H | exact laws_FnWeightsMirrored.dead_j4 H | exact laws_FnWeightsMirrored.dead_j1 H : False).elim
        · rw [if_neg c34] at H
          have c34b0 : (t381 != t383) = false := by simpa using c34
          (try (have c34b1 : decide (t381 = t383) = true := by simpa using c34))
          (try (have c34b2 : (t381 == t383) = true := by simpa using c34))
          clear c34
          by_cases c35 : (t380 != t382) = true
          · rw [if_pos c35] at H
            have c35b0 : (t380 != t382) = true := c35
            (try (have c35b1 : decide (t380 = t382) = false := by simpa using c35))
            (try (have c35b2 : (t380 == t382) = false := by simpa using c35))
            (try (have c35b3 : ¬ (t380 = t382) := by simpa using c35))
            clear c35
            exact (by first | exact laws_FnWeightsMirrored.dead_j0 H | exact laws_FnWeightsMirrored.dead_j3 H | exact laws_FnWeightsMirrored.dead_j7 H | exact laws_FnWeightsMirrored.dead_j8 H | exact laws_FnWeightsMirrored.dead_j4 H | exact laws_FnWeightsMirrored.dead_j1 H : False).elim
          · rw [if_neg c35] at H
            have c35b0 : (t380 != t382) = false := by simpa using c35
            (try (have c35b1 : decide (t380 = t382) = true := by simpa using c35))
            (try (have c35b2 : (t380 == t382) = true := by simpa using c35))
            clear c35
            by_cases c36 : (t385 != t389) = true
            · rw [if_pos c36] at H
              have c36b0 : (t385 != t389) = true := c36
              (try (have c36b1 : decide (t385 = t389) = false := by simpa using c36))
              (try (have c36b2 : (t385 == t389) = false := by simpa using c36))
              (try (have c36b3 : ¬ (t385 = t389) := by simpa using c36))
              clear c36
              exact (by first | exact laws_FnWeightsMirrored.dead_j0 H | exact laws_FnWeightsMirrored.dead_j3 H | exact laws_FnWeightsMirrored.dead_j7 H | exact laws_FnWeightsMirrored.dead_j8 H | exact laws_FnWeightsMirrored.dead_j4 H | exact laws_FnWeightsMirrored.dead_j1 H : False).elim
            · rw [if_neg c36] at H
              have c36b0 : (t385 != t389) = false := by simpa using c36
              (try (have c36b1 : decide (t385 = t389) = true := by simpa using c36))
              (try (have c36b2 : (t385 == t389) = true := by simpa using c36))
              clear c36
              replace H := Option.bind_eq_some_iff.mp H
              obtain ⟨t408, A370, H⟩ := H
              try dsimp only at H
              have A37 := Aside0.mk A370
              clear A370
              by_cases c38 : t408 = true
              · subst c38
                have H1 : (if (t393 != t395) = true then (laws_FnWeightsMirrored.j0 k l1 t373 t376 t377 t380 t384 t392 t396 t400 t404 true) else (if t392 = t394 then (if (t397 != t399) = true then (laws_FnWeightsMirrored.j0 k l1 t373 t376 t377 t380 t384 t392 t396 t400 t404 true) else (if t396 = t398 then (if (t401 != t403) = true then (laws_FnWeightsMirrored.j0 k l1 t373 t376 t377 t380 t384 t392 t396 t400 t404 true) else (if t400 = t402 then (if (t405 != t407) = true then (laws_FnWeightsMirrored.j0 k l1 t373 t376 t377 t380 t384 t392 t396 t400 t404 true) else (if t404 = t406 then ((impl_IsWeights.f k t373).bind fun t409 => (if (t377 != t409) = true then (laws_FnWeightsMirrored.j0 k l1 t373 t376 t377 t380 t384 t392 t396 t400 t404 true) else ((impl_IsWeights.f k t373).bind fun t410 => ((spec_IsWeights.f k t373).bind fun t411 => (if (t410 != t411) = true then (laws_FnWeightsMirrored.j0 k l1 t373 t376 t377 t380 t384 t392 t396 t400 t404 true) else (if (t381 != t377) = true then (laws_FnWeightsMirrored.j0 k l1 t373 t376 t377 t380 t384 t392 t396 t400 t404 true) else (if (t385 != t377) = true then (laws_FnWeightsMirrored.j0 k l1 t373 t376 t377 t380 t384 t392 t396 t400 t404 true) else (if (t393 != t377) = true then (laws_FnWeightsMirrored.j0 k l1 t373 t376 t377 t380 t384 t392 t396 t400 t404 true) else (if (t397 != t377) = true then (laws_FnWeightsMirrored.j0 k l1 t373 t376 t377 t380 t384 t392 t396 t400 t404 true) else (if (t401 != t377) = true then (laws_FnWeightsMirrored.j0 k l1 t373 t376 t377 t380 t384 t392 t396 t400 t404 true) else (laws_FnWeightsMirrored.j0 k l1 t373 t376 t377 t380 t384 t392 t396 t400 t404 (t405 != t377)))))))))))) else (laws_FnWeightsMirrored.j0 k l1 t373 t376 t377 t380 t384 t392 t396 t400 t404 true))) else (laws_FnWeightsMirrored.j0 k l1 t373 t376 t377 t380 t384 t392 t396 t400 t404 true))) else (laws_FnWeightsMirrored.j0 k l1 t373 t376 t377 t380 t384 t392 t396 t400 t404 true))) else (laws_FnWeightsMirrored.j0 k l1 t373 t376 t377 t380 t384 t392 t396 t400 t404 true))) = some r := by rw [if_pos rfl] at H; exact H
                clear H
                have H := H1
                clear H1
                by_cases c39 : (t393 != t395) = true
                · rw [if_pos c39] at H
                  have c39b0 : (t393 != t395) = true := c39
                  (try (have c39b1 : decide (t393 = t395) = false := by simpa using c39))
                  (try (have c39b2 : (t393 == t395) = false := by simpa using c39))
                  (try (have c39b3 : ¬ (t393 = t395) := by simpa using c39))
                  clear c39
                  exact (by first | exact laws_FnWeightsMirrored.dead_j0 H | exact laws_FnWeightsMirrored.dead_j3 H | exact laws_FnWeightsMirrored.dead_j7 H | exact laws_FnWeightsMirrored.dead_j8 H | exact laws_FnWeightsMirrored.dead_j4 H | exact laws_FnWeightsMirrored.dead_j1 H : False).elim
                · rw [if_neg c39] at H
                  have c39b0 : (t393 != t395) = false := by simpa using c39
                  (try (have c39b1 : decide (t393 = t395) = true := by simpa using c39))
                  (try (have c39b2 : (t393 == t395) = true := by simpa using c39))
                  clear c39
                  by_cases c42 : t392 = t394
                  · rw [if_pos c42] at H
                    have c42b0 : (t392 == t394) = true := beq_iff_eq.mpr c42
                    have c42b1 : (t392 != t394) = false := bne_eq_false_iff_eq.mpr c42
                    clear c42
                    by_cases c43 : (t397 != t399) = true
                    · rw [if_pos c43] at H
                      have c43b0 : (t397 != t399) = true := c43
                      (try (have c43b1 : decide (t397 = t399) = false := by simpa using c43))
                      (try (have c43b2 : (t397 == t399) = false := by simpa using c43))
                      (try (have c43b3 : ¬ (t397 = t399) := by simpa using c43))
                      clear c43
                      exact (by first | exact laws_FnWeightsMirrored.dead_j0 H | exact laws_FnWeightsMirrored.dead_j3 H | exact laws_FnWeightsMirrored.dead_j7 H | exact laws_FnWeightsMirrored.dead_j8 H | exact laws_FnWeightsMirrored.dead_j4 H | exact laws_FnWeightsMirrored.dead_j1 H : False).elim
                    · rw [if_neg c43] at H
                      have c43b0 : (t397 != t399) = false := by simpa using c43
                      (try (have c43b1 : decide (t397 = t399) = true := by simpa using c43))
                      (try (have c43b2 : (t397 == t399) = true := by simpa using c43))
                      clear c43
                      by_cases c46 : t396 = t398
                      · rw [if_pos c46] at H
                        have c46b0 : (t396 == t398) = true := beq_iff_eq.mpr c46
                        have c46b1 : (t396 != t398) = false := bne_eq_false_iff_eq.mpr c46
                        clear c46
                        by_cases c47 : (t401 != t403) = true
                        · rw [if_pos c47] at H
                          have c47b0 : (t401 != t403) = true := c47
                          (try (have c47b1 : decide (t401 = t403) = false := by simpa using c47))
                          (try (have c47b2 : (t401 == t403) = false := by simpa using c47))
                          (try (have c47b3 : ¬ (t401 = t403) := by simpa using c47))
                          clear c47
                          exact (by first | exact laws_FnWeightsMirrored.dead_j0 H | exact laws_FnWeightsMirrored.dead_j3 H | exact laws_FnWeightsMirrored.dead_j7 H | exact laws_FnWeightsMirrored.dead_j8 H | exact laws_FnWeightsMirrored.dead_j4 H | exact laws_FnWeightsMirrored.dead_j1 H : False).elim
                        · rw [if_neg c47] at H
                          have c47b0 : (t401 != t403) = false := by simpa using c47
                          (try (have c47b1 : decide (t401 = t403) = true := by simpa using c47))
                          (try (have c47b2 : (t401 == t403) = true := by simpa using c47))
                          clear c47
                          by_cases c50 : t400 = t402
                          · rw [if_pos c50] at H
                            have c50b0 : (t400 == t402) = true := beq_iff_eq.mpr c50
                            have c50b1 : (t400 != t402) = false := bne_eq_false_iff_eq.mpr c50
                            clear c50
                            by_cases c51 : (t405 != t407) = true
                            · rw [if_pos c51] at H
                              have c51b0 : (t405 != t407) = true := c51
                              (try (have c51b1 : decide (t405 = t407) = false := by simpa using c51))
                              (try (have c51b2 : (t405 == t407) = false := by simpa using c51))
                              (try (have c51b3 : ¬ (t405 = t407) := by simpa using c51))
                              clear c51
                              exact (by first | exact laws_FnWeightsMirrored.dead_j0 H | exact laws_FnWeightsMirrored.dead_j3 H | exact laws_FnWeightsMirrored.dead_j7 H | exact laws_FnWeightsMirrored.dead_j8 H | exact laws_FnWeightsMirrored.dead_j4 H | exact laws_FnWeightsMirrored.dead_j1 H : False).elim
                            · rw [if_neg c51] at H
                              have c51b0 : (t405 != t407) = false := by simpa using c51
                              (try (have c51b1 : decide (t405 = t407) = true := by simpa using c51))
                              (try (have c51b2 : (t405 == t407) = true := by simpa using c51))
                              clear c51
                              by_cases c54 : t404 = t406
                              · rw [if_pos c54] at H
                                have c54b0 : (t404 == t406) = true := beq_iff_eq.mpr c54
                                have c54b1 : (t404 != t406) = false := bne_eq_false_iff_eq.mpr c54
                                clear c54
                                replace H := Option.bind_eq_some_iff.mp H
                                obtain ⟨t409, A550, H⟩ := H
                                try dsimp only at H
                                have A55 := Aside0.mk A550
                                clear A550
                                by_cases c56 : (t377 != t409) = true
                                · rw [if_pos c56] at H
                                  have c56b0 : (t377 != t409) = true := c56
                                  (try (have c56b1 : decide (t377 = t409) = false := by simpa using c56))
                                  (try (have c56b2 : (t377 == t409) = false := by simpa using c56))
                                  (try (have c56b3 : ¬ (t377 = t409) := by simpa using c56))
                                  clear c56
                                  exact (by first | exact laws_FnWeightsMirrored.dead_j0 H | exact laws_FnWeightsMirrored.dead_j3 H | exact laws_FnWeightsMirrored.dead_j7 H | exact laws_FnWeightsMirrored.dead_j8 H | exact laws_FnWeightsMirrored.dead_j4 H | exact laws_FnWeightsMirrored.dead_j1 H : False).elim
                                · rw [if_neg c56] at H
                                  have c56b0 : (t377 != t409) = false := by simpa using c56
                                  (try (have c56b1 : decide (t377 = t409) = true := by simpa using c56))
                                  (try (have c56b2 : (t377 == t409) = true := by simpa using c56))
                                  clear c56
                                  replace H := Option.bind_eq_some_iff.mp H
                                  obtain ⟨t410, A590, H⟩ := H
                                  have Et410 := Aside0.mk (Option.some.inj (A590.symm.trans A55.out) : t410 = t409)
                                  try dsimp only at H
                                  have A59 := Aside0.mk A590
                                  clear A590
                                  replace H := Option.bind_eq_some_iff.mp H
                                  obtain ⟨t411, A600, H⟩ := H
                                  try dsimp only at H
                                  have A60 := Aside0.mk A600
                                  clear A600
                                  by_cases c61 : (t410 != t411) = true
                                  · rw [if_pos c61] at H
                                    have c61b0 : (t410 != t411) = true := c61
                                    (try (have c61b0z : (t409 != t411) = true := by rw [← Et410.out]; exact c61b0))
                                    (try (have c61b1 : decide (t410 = t411) = false := by simpa using c61))
                                    (try (have c61b1z : decide (t409 = t411) = false := by rw [← Et410.out]; exact c61b1))
                                    (try (have c61b2 : (t410 == t411) = false := by simpa using c61))
                                    (try (have c61b2z : (t409 == t411) = false := by rw [← Et410.out]; exact c61b2))
                                    (try (have c61b3 : ¬ (t410 = t411) := by simpa using c61))
                                    (try (have c61b3z : ¬ (t409 = t411) := by rw [← Et410.out]; exact c61b3))
                                    clear c61
                                    exact (by first | exact laws_FnWeightsMirrored.dead_j0 H | exact laws_FnWeightsMirrored.dead_j3 H | exact laws_FnWeightsMirrored.dead_j7 H | exact laws_FnWeightsMirrored.dead_j8 H | exact laws_FnWeightsMirrored.dead_j4 H | exact laws_FnWeightsMirrored.dead_j1 H : False).elim
                                  · rw [if_neg c61] at H
                                    have c61b0 : (t410 != t411) = false := by simpa using c61
                                    (try (have c61b0z : (t409 != t411) = false := by rw [← Et410.out]; exact c61b0))
                                    (try (have c61b1 : decide (t410 = t411) = true := by simpa using c61))
                                    (try (have c61b1z : decide (t409 = t411) = true := by rw [← Et410.out]; exact c61b1))
                                    (try (have c61b2 : (t410 == t411) = true := by simpa using c61))
                                    (try (have c61b2z : (t409 == t411) = true := by rw [← Et410.out]; exact c61b2))
                                    clear c61
                                    by_cases c64 : (t381 != t377) = true
                                    · rw [if_pos c64] at H
                                      have c64b0 : (t381 != t377) = true := c64
                                      (try (have c64b1 : decide (t381 = t377) = false := by simpa using c64))
                                      (try (have c64b2 : (t381 == t377) = false := by simpa using c64))
                                      (try (have c64b3 : ¬ (t381 = t377) := by simpa using c64))
                                      clear c64
                                      exact (by first | exact laws_FnWeightsMirrored.dead_j0 H | exact laws_FnWeightsMirrored.dead_j3 H | exact laws_FnWeightsMirrored.dead_j7 H | exact laws_FnWeightsMirrored.dead_j8 H | exact laws_FnWeightsMirrored.dead_j4 H | exact laws_FnWeightsMirrored.dead_j1 H : False).elim
                                    · rw [if_neg c64] at H
                                      have c64b0 : (t381 != t377) = false := by simpa using c64
                                      (try (have c64b1 : decide (t381 = t377) = true := by simpa using c64))
                                      (try (have c64b2 : (t381 == t377) = true := by simpa using c64))
                                      clear c64
                                      by_cases c67 : (t385 != t377) = true
                                      · rw [if_pos c67] at H
                                        have c67b0 : (t385 != t377) = true := c67
                                        (try (have c67b1 : decide (t385 = t377) = false := by simpa using c67))
                                        (try (have c67b2 : (t385 == t377) = false := by simpa using c67))
                                        (try (have c67b3 : ¬ (t385 = t377) := by simpa using c67))
                                        clear c67
                                        exact (by first | exact laws_FnWeightsMirrored.dead_j0 H | exact laws_FnWeightsMirrored.dead_j3 H | exact laws_FnWeightsMirrored.dead_j7 H | exact laws_FnWeightsMirrored.dead_j8 H | exact laws_FnWeightsMirrored.dead_j4 H | exact laws_FnWeightsMirrored.dead_j1 H : False).elim
                                      · rw [if_neg c67] at H
                                        have c67b0 : (t385 != t377) = false := by simpa using c67
                                        (try (have c67b1 : decide (t385 = t377) = true := by simpa using c67))
                                        (try (have c67b2 : (t385 == t377) = true := by simpa using c67))
                                        clear c67
                                        by_cases c70 : (t393 != t377) = true
                                        · rw [if_pos c70] at H
                                          have c70b0 : (t393 != t377) = true := c70
                                          (try (have c70b1 : decide (t393 = t377) = false := by simpa using c70))
                                          (try (have c70b2 : (t393 == t377) = false := by simpa using c70))
                                          (try (have c70b3 : ¬ (t393 = t377) := by simpa using c70))
                                          clear c70
                                          exact (by first | exact laws_FnWeightsMirrored.dead_j0 H | exact laws_FnWeightsMirrored.dead_j3 H | exact laws_FnWeightsMirrored.dead_j7 H | exact laws_FnWeightsMirrored.dead_j8 H | exact laws_FnWeightsMirrored.dead_j4 H | exact laws_FnWeightsMirrored.dead_j1 H : False).elim
                                        · rw [if_neg c70] at H
                                          have c70b0 : (t393 != t377) = false := by simpa using c70
                                          (try (have c70b1 : decide (t393 = t377) = true := by simpa using c70))
                                          (try (have c70b2 : (t393 == t377) = true := by simpa using c70))
                                          clear c70
                                          by_cases c73 : (t397 != t377) = true
                                          · rw [if_pos c73] at H
                                            have c73b0 : (t397 != t377) = true := c73
                                            (try (have c73b1 : decide (t397 = t377) = false := by simpa using c73))
                                            (try (have c73b2 : (t397 == t377) = false := by simpa using c73))
                                            (try (have c73b3 : ¬ (t397 = t377) := by simpa using c73))
                                            clear c73
                                            exact (by first | exact laws_FnWeightsMirrored.dead_j0 H | exact laws_FnWeightsMirrored.dead_j3 H | exact laws_FnWeightsMirrored.dead_j7 H | exact laws_FnWeightsMirrored.dead_j8 H | exact laws_FnWeightsMirrored.dead_j4 H | exact laws_FnWeightsMirrored.dead_j1 H : False).elim
                                          · rw [if_neg c73] at H
                                            have c73b0 : (t397 != t377) = false := by simpa using c73
                                            (try (have c73b1 : decide (t397 = t377) = true := by simpa using c73))
                                            (try (have c73b2 : (t397 == t377) = true := by simpa using c73))
                                            clear c73
                                            by_cases c76 : (t401 != t377) = true
                                            · rw [if_pos c76] at H
                                              have c76b0 : (t401 != t377) = true := c76
                                              (try (have c76b1 : decide (t401 = t377) = false := by simpa using c76))
                                              (try (have c76b2 : (t401 == t377) = false := by simpa using c76))
                                              (try (have c76b3 : ¬ (t401 = t377) := by simpa using c76))
                                              clear c76
                                              exact (by first | exact laws_FnWeightsMirrored.dead_j0 H | exact laws_FnWeightsMirrored.dead_j3 H | exact laws_FnWeightsMirrored.dead_j7 H | exact laws_FnWeightsMirrored.dead_j8 H | exact laws_FnWeightsMirrored.dead_j4 H | exact laws_FnWeightsMirrored.dead_j1 H : False).elim
                                            · rw [if_neg c76] at H
                                              have c76b0 : (t401 != t377) = false := by simpa using c76
                                              (try (have c76b1 : decide (t401 = t377) = true := by simpa using c76))
                                              (try (have c76b2 : (t401 == t377) = true := by simpa using c76))
                                              clear c76
                                              have H' := Aside0.mk H
                                              clear H
                                              obtain ⟨Ao79, co79, eo79⟩ := Kd.R_slice HO387.out
                                              subst eo79
                                              obtain ⟨Ao80, co80, eo80⟩ := Kd.R_slice HO391.out
                                              subst eo80
                                              have hX := Aside0.mk (show ((t405 != t377)) = false from by
                                                cases hx : ((t405 != t377)) with
                                                | false => rfl
                                                | true => have H := H'.out; rw [hx] at H; exact (laws_FnWeightsMirrored.dead_j0 H).elim)
                                              go_upto_if 246 with (go_big_may; (first | (go_at_call 34; (with_reducible refine (laws_iSame.calls k _ _ t384 _ _ t388 true _ ?side1 ?side2 ?side3 ?side4 A37.out).mono ?_); (case side1 => repeat (first | exact (Kd.R_reads' HO387.out).2.2 | (with_reducible refine Kd.C_alloc ?_ _) | (with_reducible refine Kd.C_drewN ?_ _) | (with_reducible refine Kd.C_drew ?_))); (case side2 => exact (Kd.R_reads' HO387.out).2.1); (case side3 => repeat (first | exact (Kd.R_reads' HO391.out).2.2 | (with_reducible refine Kd.C_alloc ?_ _) | (with_reducible refine Kd.C_drewN ?_ _) | (with_reducible refine Kd.C_drew ?_))); (case side4 => exact (Kd.R_reads' HO391.out).2.1); rintro e w' ⟨rfl, ⟨nd, rfl⟩⟩) | (go_at_call 35; (with_reducible refine (impl_IsWeights.calls k _ _ t373 t409 _ ?side1 ?side2 A55.out).mono ?_); (case side1 => repeat (first | exact (Kd.R_reads' HO375.out).2.2 | (with_reducible refine Kd.C_alloc ?_ _) | (with_reducible refine Kd.C_drewN ?_ _) | (with_reducible refine Kd.C_drew ?_))); (case side2 => exact (Kd.R_reads' HO375.out).2.1); rintro e w' ⟨rfl, ⟨nd, rfl⟩⟩) | (go_at_call 35; (with_reducible refine (impl_IsWeights.calls k _ _ t373 t410 _ ?side1 ?side2 A59.out).mono ?_); (case side1 => repeat (first | exact (Kd.R_reads' HO375.out).2.2 | (with_reducible refine Kd.C_alloc ?_ _) | (with_reducible refine Kd.C_drewN ?_ _) | (with_reducible refine Kd.C_drew ?_))); (case side2 => exact (Kd.R_reads' HO375.out).2.1); rintro e w' ⟨rfl, ⟨nd, rfl⟩⟩) | (go_at_call 36; (with_reducible refine (spec_IsWeights.calls k _ _ t373 t411 _ ?side1 ?side2 A60.out).mono ?_); (case side1 => repeat (first | exact (Kd.R_reads' HO375.out).2.2 | (with_reducible refine Kd.C_alloc ?_ _) | (with_reducible refine Kd.C_drewN ?_ _) | (with_reducible refine Kd.C_drew ?_))); (case side2 => exact (Kd.R_reads' HO375.out).2.1); rintro e w' ⟨rfl, ⟨nd, rfl⟩⟩)))
                                              refine wp_cond_false (by first | exact congrArg Value.bool hX.out | exact congrArg Value.bool (by simpa [*] using hX.out) | (simp [hX.out]; done)) ?_
                                              go_wp2
                                              refine Met.intro ?_
                                              apply laws_FnWeightsMirrored.T18
                                              case HA => exact H'
                                              case HO_5 => exact ⟨by (with_reducible repeat (first | apply Kd.R_alloc | apply Kd.R_drewN | apply Kd.R_drew)); exact Kd.R_mono HO375.out (fun _ hk => hk.1.2)⟩
                                              case HO_14 => exact ⟨by (with_reducible repeat (first | apply Kd.R_alloc | apply Kd.R_drewN | apply Kd.R_drew)); exact Kd.R_mono HO387.out (fun _ hk => hk.1.2)⟩
                                              case HR1 => exact HR1
                                              case HC1 => exact HC1
                                              case HB => exact ⟨by repeat (first | (with_reducible first | exact HB.out | apply below_alloc | apply pw_below_drewN | apply below_drew1) | exact HB.out)⟩
                              · rw [if_neg c54] at H
                                have c54b0 : (t404 == t406) = false := beq_eq_false_iff_ne.mpr c54
                                have c54b1 : (t404 != t406) = true := bne_iff_ne.mpr c54
                                exact (by first | exact laws_FnWeightsMirrored.dead_j0 H | exact laws_FnWeightsMirrored.dead_j3 H | exact laws_FnWeightsMirrored.dead_j7 H | exact laws_FnWeightsMirrored.dead_j8 H | exact laws_FnWeightsMirrored.dead_j4 H | exact laws_FnWeightsMirrored.dead_j1 H : False).elim
                          · rw [if_neg c50] at H
                            have c50b0 : (t400 == t402) = false := beq_eq_false_iff_ne.mpr c50
                            have c50b1 : (t400 != t402) = true := bne_iff_ne.mpr c50
                            exact (by first | exact laws_FnWeightsMirrored.dead_j0 H | exact laws_FnWeightsMirrored.dead_j3 H | exact laws_FnWeightsMirrored.dead_j7 H | exact laws_FnWeightsMirrored.dead_j8 H | exact laws_FnWeightsMirrored.dead_j4 H | exact laws_FnWeightsMirrored.dead_j1 H : False).elim
                      · rw [if_neg c46] at H
                        have c46b0 : (t396 == t398) = false := beq_eq_false_iff_ne.mpr c46
                        have c46b1 : (t396 != t398) = true := bne_iff_ne.mpr c46
                        exact (by first | exact laws_FnWeightsMirrored.dead_j0 H | exact laws_FnWeightsMirrored.dead_j3 H | exact laws_FnWeightsMirrored.dead_j7 H | exact laws_FnWeightsMirrored.dead_j8 H | exact laws_FnWeightsMirrored.dead_j4 H | exact laws_FnWeightsMirrored.dead_j1 H : False).elim
                  · rw [if_neg c42] at H
                    have c42b0 : (t392 == t394) = false := beq_eq_false_iff_ne.mpr c42
                    have c42b1 : (t392 != t394) = true := bne_iff_ne.mpr c42
                    exact (by first | exact laws_FnWeightsMirrored.dead_j0 H | exact laws_FnWeightsMirrored.dead_j3 H | exact laws_FnWeightsMirrored.dead_j7 H | exact laws_FnWeightsMirrored.dead_j8 H | exact laws_FnWeightsMirrored.dead_j4 H | exact laws_FnWeightsMirrored.dead_j1 H : False).elim
              · replace c38 := Bool.eq_false_iff.mpr c38
                subst c38
                have H1 : (laws_FnWeightsMirrored.j0 k l1 t373 t376 t377 t380 t384 t392 t396 t400 t404 true) = some r := by rw [if_neg (show ¬ (false = true) by decide)] at H; exact H
                clear H
                have H := H1
                clear H1
                exact (by first | exact laws_FnWeightsMirrored.dead_j0 H | exact laws_FnWeightsMirrored.dead_j3 H | exact laws_FnWeightsMirrored.dead_j7 H | exact laws_FnWeightsMirrored.dead_j8 H | exact laws_FnWeightsMirrored.dead_j4 H | exact laws_FnWeightsMirrored.dead_j1 H : False).elim
/-- THE ONE PURE STATEMENT of laws_FnWeightsMirrored: yours. -/
def laws_FnWeightsMirrored.Pure : Prop := ∀ (l0 : List Int) (l1 : List Int), l0.length ≤ maxLen → l0.length * 1 ≤ 140737488351232 → (∀ x ∈ l0, (Lit.int .u8 x).wf = true) → l1.length ≤ maxLen → l1.length * 1 ≤ 140737488351232 → (∀ x ∈ l1, (Lit.int .u8 x).wf = true) → ∃ k, laws_FnWeightsMirrored.f k l0 l1 = some true
theorem laws_FnWeightsMirrored.walk (P : laws_FnWeightsMirrored.Pure) (a0 : Option Addr) (len0 cap0 : Nat) (z0 : List Int) (a1 : Option Addr) (len1 cap1 : Nat) (z1 : List Int) (w : World) (w0 : (a0 = none ∧ len0 = 0 ∧ cap0 = 0 ∧ z0 = []) ∨ ∃ x, a0 = some x ∧ len0 ≤ cap0 ∧ cap0 ≤ maxLen ∧ z0.length = cap0 ∧ (∀ i, i < z0.length → w.cell? (x.add i) = some (.int .u8 (z0.getD i 0))) ∧ ∀ n ∈ z0, (Lit.int .u8 n).wf = true) (y0 : len0 * 1 ≤ 140737488351232) (w1 : (a1 = none ∧ len1 = 0 ∧ cap1 = 0 ∧ z1 = []) ∨ ∃ x, a1 = some x ∧ len1 ≤ cap1 ∧ cap1 ≤ maxLen ∧ z1.length = cap1 ∧ (∀ i, i < z1.length → w.cell? (x.add i) = some (.int .u8 (z1.getD i 0))) ∧ ∀ n ∈ z1, (Lit.int .u8 n).wf = true) (y1 : len1 * 1 ≤ 140737488351232) :
    Calls Try.prog 5 #[.slice a0 len0 cap0, .slice a1 len1 cap1] w fun e w' => e = .returned (.bool true) ∧ Below w.heap.size w w' := by
  obtain ⟨l0, rfl, hr0, hm0, hw0, hc0⟩ := ReadsInt.ofRowC w0
  obtain ⟨l1, rfl, hr1, hm1, hw1, hc1⟩ := ReadsInt.ofRowC w1
  obtain ⟨k, h⟩ := P l0 l1 hm0 y0 hw0 hm1 y1 hw1
  refine (laws_FnWeightsMirrored.calls k _ _ l0 _ _ l1 true w (Kd.C_of_reads (d := (0 : Int)) (h1 := fun _ => rfl) hr0) hc0 (Kd.C_of_reads (d := (0 : Int)) (h1 := fun _ => rfl) hr1) hc1 h).mono ?_
  rintro e w' ⟨rfl, hd⟩
  exact ⟨rfl, hd⟩


end Go.Proofs.Ytgancmcbldmjaaa.QFnWeightsMirrored
