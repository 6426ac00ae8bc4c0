-- Written by wprint.py (this session's program over the kit's print) out of the translation.
import Derived.Test.YtgancmcbldmjaaaQFnWeightsMirroredx15
namespace Go.Proofs.Ytgancmcbldmjaaa.QFnWeightsMirrored
open Go.RowKit Go.Proofs.YtgancmcbldmjaaaW.PrintWords Go.Proofs.YtgancmcbldmjaaaW.PrintLast Go.Proofs.YtgancmcbldmjaaaW.PrintMore
attribute [local go_sem] max2_int min2_int max_two min_two max_three min_three max_four min_four   -- for this text's walks alone
set_option linter.unusedVariables false
set_option linter.unusedSimpArgs false

set_option maxHeartbeats 0 in
set_option maxRecDepth 100000 in
theorem laws_FnWeightsMirrored.T18 (r : Bool) (w wc : World) (A1 : Option Addr) (c1 : Nat) (l1 : List Int) (HR1 : Aside0 (Kd.C (Kd.int .u8) w A1 l1.length l1)) (HC1 : Aside0 (l1.length ≤ c1)) (kq : Nat) (Ao22 : Option Addr) (co22 : Nat) (t373 : List Int) (t376 t377 t380 : Bool) (v386 : Value) (t384 : List Int) (t392 t396 t400 t404 : Int) (x246_19 : Bool) (HA : Aside0 (laws_FnWeightsMirrored.j0 kq l1 t373 t376 t377 t380 t384 t392 t396 t400 t404 x246_19 = some r)) (HO_5 : Aside0 (Kd.R (Kd.int .i64) 3 wc w.heap.size (fun k_ => some k_ ≠ (v386 : Value).ownBlock) (.slice Ao22 t373.length co22) t373)) (HO_14 : Aside0 (Kd.R (Kd.int .i64) 3 wc w.heap.size (fun k_ => some k_ ≠ ((.slice Ao22 t373.length co22) : Value).ownBlock) v386 t384)) (HB : Aside0 (Below w.heap.size w wc)) (z0 z2 z3 z4 z8 z9 z11 z12 z13 z15 z16 z17 z19 z20 z21 z23 z24 z25 z27 z28 z29 z31 z32 z33 z34 z35 z36 z37 z38 z39 z40 z41 z42 z43 z44 z45 z46 z47 z48 z49 z50 z51 z52 z53 z54 z55 z56 z57 z58 z59 z60 z61 z62 z63 z64 z65 z66 z67 z68 z69 z70 z71 z72 z73 z74 z75 z76 z77 z78 z79 z80 z81 z82 z83 z84 z85 z86 z87 z88 z89 z90 z91 z92 z93 z94 z95 z96 z97 z98 z99 z100 z101 z102 z103 z104 z105 z106 z107 z108 z109 z110 z111 z112 z113 z114 z115 z116 z117 z118 z119 z120 z121 z122 z123 z124 z125 z126 z127 z128 z129 z130 z131 z132 z133 z134 z135 z136 z137 z138 z139 z140 z141 z142 z143 z144 z145 z146 z147 z148 z149 z150 z151 z152 z153 z154 z155 z156 z157 z158 z159 z160 z161 z162 z163 z164 z165 z166 z167 z168 z169 z170 z171 z172 z173 z174 z175 z176 z177 z178 z179 z180 z181 z182 z183 z184 z185 z186 z187 z188 z189 z190 z191 z192 z193 z194 z195 z196 z197 z198 z199 z200 z201 z202 z203 z204 z205 z206 z207 z208 z209 z210 z211 z212 z213 z214 z215 z216 z217 z218 z219 z220 z221 z222 z223 z224 z225 z226 z227 z228 z229 z230 z231 z232 z233 z234 z235 z236 z237 z238 z239 z240 z241 z242 z243 z244 z245 z246 : Value) :
    Tail18 r w { tmps := #[z0, Value.slice A1 l1.length c1, z2, z3, z4, Value.slice Ao22 t373.length co22, Value.bool t376, Value.bool t377, z8, z9, Value.bool t380, z11, z12, z13, v386, z15, z16, z17, Value.int IntKind.i64 t392, z19, z20, z21, Value.int IntKind.i64 t396, z23, z24, z25, Value.int IntKind.i64 t400, z27, z28, z29, Value.int IntKind.i64 t404, z31, z32, z33, z34, z35, z36, z37, z38, z39, z40, z41, z42, z43, z44, z45, z46, z47, z48, z49, z50, z51, z52, z53, z54, z55, z56, z57, z58, z59, z60, z61, z62, z63, z64, z65, z66, z67, z68, z69, z70, z71, z72, z73, z74, z75, z76, z77, z78, z79, z80, z81, z82, z83, z84, z85, z86, z87, z88, z89, z90, z91, z92, z93, z94, z95, z96, z97, z98, z99, z100, z101, z102, z103, z104, z105, z106, z107, z108, z109, z110, z111, z112, z113, z114, z115, z116, z117, z118, z119, z120, z121, z122, z123, z124, z125, z126, z127, z128, z129, z130, z131, z132, z133, z134, z135, z136, z137, z138, z139, z140, z141, z142, z143, z144, z145, z146, z147, z148, z149, z150, z151, z152, z153, z154, z155, z156, z157, z158, z159, z160, z161, z162, z163, z164, z165, z166, z167, z168, z169, z170, z171, z172, z173, z174, z175, z176, z177, z178, z179, z180, z181, z182, z183, z184, z185, z186, z187, z188, z189, z190, z191, z192, z193, z194, z195, z196, z197, z198, z199, z200, z201, z202, z203, z204, z205, z206, z207, z208, z209, z210, z211, z212, z213, z214, z215, z216, z217, z218, z219, z220, z221, z222, z223, z224, z225, z226, z227, z228, z229, z230, z231, z232, z233, z234, z235, z236, z237, z238, z239, z240, z241, z242, z243, z244, z245, z246, undef, undef, undef, undef, undef, undef, undef, undef, undef, undef, undef, undef, undef, undef, undef, undef, undef, undef, undef, undef, undef, undef, undef, undef, undef, undef, undef, undef, undef, undef, undef, undef, undef, undef, undef, undef, undef, undef, undef, undef, undef, undef, undef, undef, undef, undef, undef, undef, undef, undef, undef, undef, undef, undef, undef, undef, undef, undef, undef, undef, undef, undef, undef, undef, undef, undef, undef, undef, undef, undef, undef, undef, undef, undef, undef, undef, undef, undef, undef, undef, undef, undef, undef, undef, undef, undef, undef, undef, undef, undef, undef, undef, undef, undef, undef, undef, undef, undef, undef, undef, undef, undef, undef, undef, undef, undef, undef, undef, undef, undef, undef, undef, undef, undef, undef, undef, undef, undef, undef, undef, undef, undef, undef, undef, undef, undef, undef, undef, undef, undef, undef, undef, undef, undef, undef, undef, undef, undef, undef, undef, undef, undef, undef, undef, undef, undef, undef, undef, undef, undef, undef, undef, undef, undef, undef, undef, undef, undef, undef, undef, undef, undef, undef, undef, undef, undef, undef, undef, undef, undef, undef, undef, undef, undef, undef, undef, undef, undef, undef, undef, undef, undef, undef, undef, undef, undef, undef, undef, undef, undef, undef, undef, undef, undef, undef, undef, undef, undef, undef, undef, undef, undef, undef, undef, undef, undef, undef, undef, undef, undef, undef, undef, undef, undef, undef, undef, undef], defers := [] } wc := by
  unfold Tail18
  conv => arg 2; whnf
  have HJ19 : Aside0 ((0 : Nat) ≤ 0) := ⟨Nat.le_refl 0⟩
  cases kq with
  | zero => exact absurd HA.out (by simp [laws_FnWeightsMirrored.j0])
  | succ kj19 =>
    have H := HA.out
    clear HA
    simp only [laws_FnWeightsMirrored.j0] at H
    by_cases c91 : x246_19 = true
    · subst c91
      have H1 : (none) = some r := by rw [if_pos rfl] at H; exact H
      clear H
      have H := H1
      clear H1
      exact absurd H (by simp)
    · replace c91 := Bool.eq_false_iff.mpr c91
      subst c91
      have H1 : (if t377 = true then ((impl_BackWeights.f kj19 t384).bind fun bt412 => ((impl_GainOf.f kj19 t384).bind fun bt416 => (if bt412.2 = true then ((laws_iSame.f kj19 bt412.1 t373).bind fun t418 => (if t418 = true then (if bt416.2 = true then (if bt416.1 = t392 then ((laws_iSame.f kj19 t384 t373).bind fun t419 => (if (t376 != t419) = true then (laws_FnWeightsMirrored.j1 kj19 l1 t373 t384 true) else (if t380 = true then (if t392 = 0 then (if t376 = true then (if t400 = 0 then ((laws_iSize.f t392).bind fun t420 => (if t420 > t400 then (laws_FnWeightsMirrored.j1 kj19 l1 t373 t384 true) else ((laws_iSize.f t396).bind fun t421 => (if t421 > t400 then (laws_FnWeightsMirrored.j1 kj19 l1 t373 t384 true) else (if t404 > (t373.length : Int) then (laws_FnWeightsMirrored.j1 kj19 l1 t373 t384 true) else (laws_FnWeightsMirrored.j1 kj19 l1 t373 t384 ((t404 == 0) != (t400 == 0)))))))) else (laws_FnWeightsMirrored.j1 kj19 l1 t373 t384 true)) else ((laws_iSize.f t392).bind fun t422 => (if t422 > t400 then (laws_FnWeightsMirrored.j1 kj19 l1 t373 t384 true) else ((laws_iSize.f t396).bind fun t423 => (if t423 > t400 then (laws_FnWeightsMirrored.j1 kj19 l1 t373 t384 true) else (if t404 > (t373.length : Int) then (laws_FnWeightsMirrored.j1 kj19 l1 t373 t384 true) else (laws_FnWeightsMirrored.j1 kj19 l1 t373 t384 ((t404 == 0) != (t400 == 0))))))))) else (laws_FnWeightsMirrored.j1 kj19 l1 t373 t384 true)) else (if t376 = true then ((laws_iSize.f t392).bind fun t424 => (if t424 > t400 then (laws_FnWeightsMirrored.j1 kj19 l1 t373 t384 true) else ((laws_iSize.f t396).bind fun t425 => (if t425 > t400 then (laws_FnWeightsMirrored.j1 kj19 l1 t373 t384 true) else (if t404 > (t373.length : Int) then (laws_FnWeightsMirrored.j1 kj19 l1 t373 t384 true) else (laws_FnWeightsMirrored.j1 kj19 l1 t373 t384 ((t404 == 0) != (t400 == 0)))))))) else ((laws_iSize.f t392).bind fun t426 => (if t426 > t400 then (laws_FnWeightsMirrored.j1 kj19 l1 t373 t384 true) else ((laws_iSize.f t396).bind fun t427 => (if t427 > t400 then (laws_FnWeightsMirrored.j1 kj19 l1 t373 t384 true) else (if t404 > (t373.length : Int) then (laws_FnWeightsMirrored.j1 kj19 l1 t373 t384 true) else (laws_FnWeightsMirrored.j1 kj19 l1 t373 t384 ((t404 == 0) != (t400 == 0)))))))))))) else (laws_FnWeightsMirrored.j1 kj19 l1 t373 t384 true)) else (laws_FnWeightsMirrored.j1 kj19 l1 t373 t384 true)) else (laws_FnWeightsMirrored.j1 kj19 l1 t373 t384 true))) else (laws_FnWeightsMirrored.j1 kj19 l1 t373 t384 true)))) else (laws_FnWeightsMirrored.j2 kj19 l1)) = some r := by rw [if_neg (show ¬ (false = true) by decide)] at H; exact H
      clear H
      have H := H1
      clear H1
      have HC92 := Aside0.mk H
      clear H
      go_upto_if 247 with (fail)
      rename_i K18 hK18
      have hM18 : ∀ a w_, Met (Tail19 r w) a w_ → K18 a w_ := hK18
      clear hK18
      have H := HC92.out
      clear HC92
      by_cases c93 : t377 = true
      · subst c93
        have H1 : ((impl_BackWeights.f kj19 t384).bind fun bt412 => ((impl_GainOf.f kj19 t384).bind fun bt416 => (if bt412.2 = true then ((laws_iSame.f kj19 bt412.1 t373).bind fun t418 => (if t418 = true then (if bt416.2 = true then (if bt416.1 = t392 then ((laws_iSame.f kj19 t384 t373).bind fun t419 => (if (t376 != t419) = true then (laws_FnWeightsMirrored.j1 kj19 l1 t373 t384 true) else (if t380 = true then (if t392 = 0 then (if t376 = true then (if t400 = 0 then ((laws_iSize.f t392).bind fun t420 => (if t420 > t400 then (laws_FnWeightsMirrored.j1 kj19 l1 t373 t384 true) else ((laws_iSize.f t396).bind fun t421 => (if t421 > t400 then (laws_FnWeightsMirrored.j1 kj19 l1 t373 t384 true) else (if t404 > (t373.length : Int) then (laws_FnWeightsMirrored.j1 kj19 l1 t373 t384 true) else (laws_FnWeightsMirrored.j1 kj19 l1 t373 t384 ((t404 == 0) != (t400 == 0)))))))) else (laws_FnWeightsMirrored.j1 kj19 l1 t373 t384 true)) else ((laws_iSize.f t392).bind fun t422 => (if t422 > t400 then (laws_FnWeightsMirrored.j1 kj19 l1 t373 t384 true) else ((laws_iSize.f t396).bind fun t423 => (if t423 > t400 then (laws_FnWeightsMirrored.j1 kj19 l1 t373 t384 true) else (if t404 > (t373.length : Int) then (laws_FnWeightsMirrored.j1 kj19 l1 t373 t384 true) else (laws_FnWeightsMirrored.j1 kj19 l1 t373 t384 ((t404 == 0) != (t400 == 0))))))))) else (laws_FnWeightsMirrored.j1 kj19 l1 t373 t384 true)) else (if t376 = true then ((laws_iSize.f t392).bind fun t424 => (if t424 > t400 then (laws_FnWeightsMirrored.j1 kj19 l1 t373 t384 true) else ((laws_iSize.f t396).bind fun t425 => (if t425 > t400 then (laws_FnWeightsMirrored.j1 kj19 l1 t373 t384 true) else (if t404 > (t373.length : Int) then (laws_FnWeightsMirrored.j1 kj19 l1 t373 t384 true) else (laws_FnWeightsMirrored.j1 kj19 l1 t373 t384 ((t404 == 0) != (t400 == 0)))))))) else ((laws_iSize.f t392).bind fun t426 => (if t426 > t400 then (laws_FnWeightsMirrored.j1 kj19 l1 t373 t384 true) else ((laws_iSize.f t396).bind fun t427 => (if t427 > t400 then (laws_FnWeightsMirrored.j1 kj19 l1 t373 t384 true) else (if t404 > (t373.length : Int) then (laws_FnWeightsMirrored.j1 kj19 l1 t373 t384 true) else (laws_FnWeightsMirrored.j1 kj19 l1 t373 t384 ((t404 == 0) != (t400 == 0)))))))))))) else (laws_FnWeightsMirrored.j1 kj19 l1 t373 t384 true)) else (laws_FnWeightsMirrored.j1 kj19 l1 t373 t384 true)) else (laws_FnWeightsMirrored.j1 kj19 l1 t373 t384 true))) else (laws_FnWeightsMirrored.j1 kj19 l1 t373 t384 true)))) = some r := by rw [if_pos rfl] at H; exact H
        clear H
        have H := H1
        clear H1
        replace H := Option.bind_eq_some_iff.mp H
        obtain ⟨⟨t412, t413⟩, A940, H⟩ := H
        try dsimp only at H
        have A94 := Aside0.mk A940
        clear A940
        replace H := Option.bind_eq_some_iff.mp H
        obtain ⟨⟨t416, t417⟩, A950, H⟩ := H
        try dsimp only at H
        have A95 := Aside0.mk A950
        clear A950
        have HC96 := Aside0.mk H
        clear H
        obtain ⟨Ao97, co97, eo97⟩ := Kd.R_slice HO_14.out
        subst eo97
        go_upto_region 23 with (go_big_may; (first | ((with_reducible refine gate_callee (f := 26) rfl ?_); refine goesL_ (some 250) rfl rfl Try.func26 (by kernel_rfl) rfl #[.slice Ao97 t384.length co97] rfl (by (try simp only [List.map_toArray, List.map_cons, List.map_nil]); first | done | rfl | (simp only [List.length_drop, List.length_take]; rfl)) ?_; (with_reducible refine (impl_BackWeights.calls kj19 _ _ t384 t412 t413 _ ?side1 ?side2 A94.out).mono ?_); (case side1 => repeat (first | exact (Kd.R_reads' HO_14.out).2.2 | (with_reducible refine Kd.C_alloc ?_ _) | (with_reducible refine Kd.C_drewN ?_ _) | (with_reducible refine Kd.C_drew ?_))); (case side2 => exact (Kd.R_reads' HO_14.out).2.1); rintro e w98 ⟨v414, rfl, ho0, hb⟩; refine ⟨_, rfl, put_ ?_⟩; (conv => arg 5; dsimp only [set16_, List.set_cons_succ, List.set_cons_zero]); have n0_ := Aside0.mk (Kd.R_elder' (by (with_reducible repeat (first | apply Kd.R_alloc | apply Kd.R_drewN | apply Kd.R_drew)); exact HO_5.out) (Kd.R_base ho0) hb); have n1_ := Aside0.mk (Kd.R_elder' (by (with_reducible repeat (first | apply Kd.R_alloc | apply Kd.R_drewN | apply Kd.R_drew)); exact HO_14.out) (Kd.R_base ho0) hb); have n2_ := Aside0.mk (Kd.R_lower (Kd.R_new' (Kd.R_new' ho0 (Kd.R_lt (by (with_reducible repeat (first | apply Kd.R_alloc | apply Kd.R_drewN | apply Kd.R_drew)); exact HO_5.out))) (Kd.R_lt (by (with_reducible repeat (first | apply Kd.R_alloc | apply Kd.R_drewN | apply Kd.R_drew)); exact HO_14.out))) (below_size (by repeat (first | (with_reducible first | exact HB.out | apply below_alloc | apply pw_below_drewN | apply below_drew1) | exact HB.out)))); have n3_ := Aside0.mk (below_step (by repeat (first | (with_reducible first | exact HB.out | apply below_alloc | apply pw_below_drewN | apply below_drew1) | exact HB.out)) hb); clear HO_5; clear HO_14; clear HB; have HO_5 := n0_; have HO_14 := n1_; have HO415 := n2_; have HB := n3_; clear n0_ n1_ n2_ n3_; (try clear hb); (try clear hb2); (try clear hk); (try clear hi); (try clear ho0)) | ((with_reducible refine gate_callee (f := 28) rfl ?_); refine goesL_ (some 255) rfl rfl Try.func28 (by kernel_rfl) rfl #[.slice Ao97 t384.length co97] rfl (by (try simp only [List.map_toArray, List.map_cons, List.map_nil]); first | done | rfl | (simp only [List.length_drop, List.length_take]; rfl)) ?_; (with_reducible refine (impl_GainOf.calls kj19 _ _ t384 t416 t417 _ ?side1 ?side2 A95.out).mono ?_); (case side1 => repeat (first | exact (Kd.R_reads' HO_14.out).2.2 | (with_reducible refine Kd.C_alloc ?_ _) | (with_reducible refine Kd.C_drewN ?_ _) | (with_reducible refine Kd.C_drew ?_))); (case side2 => exact (Kd.R_reads' HO_14.out).2.1); rintro e w' ⟨rfl, ⟨nd, rfl⟩⟩; refine ⟨_, rfl, ?_⟩)))
        rename_i KB hKB Kn hKn
        have hMB : ∀ a w_, Met (TailB r w K18) a w_ → KB a w_ := hKB
        clear hKB
        conv => arg 2; dsimp only [List.append_eq, List.cons_append, List.nil_append]
        have H := HC96.out
        clear HC96
        by_cases c99 : t413 = true
        · subst c99
          have H1 : ((laws_iSame.f kj19 t412 t373).bind fun t418 => (if t418 = true then (if t417 = true then (if t416 = t392 then ((laws_iSame.f kj19 t384 t373).bind fun t419 => (if (t376 != t419) = true then (laws_FnWeightsMirrored.j1 kj19 l1 t373 t384 true) else (if t380 = true then (if t392 = 0 then (if t376 = true then (if t400 = 0 then ((laws_iSize.f t392).bind fun t420 => (if t420 > t400 then (laws_FnWeightsMirrored.j1 kj19 l1 t373 t384 true) else ((laws_iSize.f t396).bind fun t421 => (if t421 > t400 then (laws_FnWeightsMirrored.j1 kj19 l1 t373 t384 true) else (if t404 > (t373.length : Int) then (laws_FnWeightsMirrored.j1 kj19 l1 t373 t384 true) else (laws_FnWeightsMirrored.j1 kj19 l1 t373 t384 ((t404 == 0) != (t400 == 0)))))))) else (laws_FnWeightsMirrored.j1 kj19 l1 t373 t384 true)) else ((laws_iSize.f t392).bind fun t422 => (if t422 > t400 then (laws_FnWeightsMirrored.j1 kj19 l1 t373 t384 true) else ((laws_iSize.f t396).bind fun t423 => (if t423 > t400 then (laws_FnWeightsMirrored.j1 kj19 l1 t373 t384 true) else (if t404 > (t373.length : Int) then (laws_FnWeightsMirrored.j1 kj19 l1 t373 t384 true) else (laws_FnWeightsMirrored.j1 kj19 l1 t373 t384 ((t404 == 0) != (t400 == 0))))))))) else (laws_FnWeightsMirrored.j1 kj19 l1 t373 t384 true)) else (if t376 = true then ((laws_iSize.f t392).bind fun t424 => (if t424 > t400 then (laws_FnWeightsMirrored.j1 kj19 l1 t373 t384 true) else ((laws_iSize.f t396).bind fun t425 => (if t425 > t400 then (laws_FnWeightsMirrored.j1 kj19 l1 t373 t384 true) else (if t404 > (t373.length : Int) then (laws_FnWeightsMirrored.j1 kj19 l1 t373 t384 true) else (laws_FnWeightsMirrored.j1 kj19 l1 t373 t384 ((t404 == 0) != (t400 == 0)))))))) else ((laws_iSize.f t392).bind fun t426 => (if t426 > t400 then (laws_FnWeightsMirrored.j1 kj19 l1 t373 t384 true) else ((laws_iSize.f t396).bind fun t427 => (if t427 > t400 then (laws_FnWeightsMirrored.j1 kj19 l1 t373 t384 true) else (if t404 > (t373.length : Int) then (laws_FnWeightsMirrored.j1 kj19 l1 t373 t384 true) else (laws_FnWeightsMirrored.j1 kj19 l1 t373 t384 ((t404 == 0) != (t400 == 0)))))))))))) else (laws_FnWeightsMirrored.j1 kj19 l1 t373 t384 true)) else (laws_FnWeightsMirrored.j1 kj19 l1 t373 t384 true)) else (laws_FnWeightsMirrored.j1 kj19 l1 t373 t384 true))) = some r := by rw [if_pos rfl] at H; exact H
          clear H
          have H := H1
          clear H1
          replace H := Option.bind_eq_some_iff.mp H
          obtain ⟨t418, A1000, H⟩ := H
          try dsimp only at H
          have A100 := Aside0.mk A1000
          clear A1000
          by_cases c101 : t418 = true
          · subst c101
            have H1 : (if t417 = true then (if t416 = t392 then ((laws_iSame.f kj19 t384 t373).bind fun t419 => (if (t376 != t419) = true then (laws_FnWeightsMirrored.j1 kj19 l1 t373 t384 true) else (if t380 = true then (if t392 = 0 then (if t376 = true then (if t400 = 0 then ((laws_iSize.f t392).bind fun t420 => (if t420 > t400 then (laws_FnWeightsMirrored.j1 kj19 l1 t373 t384 true) else ((laws_iSize.f t396).bind fun t421 => (if t421 > t400 then (laws_FnWeightsMirrored.j1 kj19 l1 t373 t384 true) else (if t404 > (t373.length : Int) then (laws_FnWeightsMirrored.j1 kj19 l1 t373 t384 true) else (laws_FnWeightsMirrored.j1 kj19 l1 t373 t384 ((t404 == 0) != (t400 == 0)))))))) else (laws_FnWeightsMirrored.j1 kj19 l1 t373 t384 true)) else ((laws_iSize.f t392).bind fun t422 => (if t422 > t400 then (laws_FnWeightsMirrored.j1 kj19 l1 t373 t384 true) else ((laws_iSize.f t396).bind fun t423 => (if t423 > t400 then (laws_FnWeightsMirrored.j1 kj19 l1 t373 t384 true) else (if t404 > (t373.length : Int) then (laws_FnWeightsMirrored.j1 kj19 l1 t373 t384 true) else (laws_FnWeightsMirrored.j1 kj19 l1 t373 t384 ((t404 == 0) != (t400 == 0))))))))) else (laws_FnWeightsMirrored.j1 kj19 l1 t373 t384 true)) else (if t376 = true then ((laws_iSize.f t392).bind fun t424 => (if t424 > t400 then (laws_FnWeightsMirrored.j1 kj19 l1 t373 t384 true) else ((laws_iSize.f t396).bind fun t425 => (if t425 > t400 then (laws_FnWeightsMirrored.j1 kj19 l1 t373 t384 true) else (if t404 > (t373.length : Int) then (laws_FnWeightsMirrored.j1 kj19 l1 t373 t384 true) else (laws_FnWeightsMirrored.j1 kj19 l1 t373 t384 ((t404 == 0) != (t400 == 0)))))))) else ((laws_iSize.f t392).bind fun t426 => (if t426 > t400 then (laws_FnWeightsMirrored.j1 kj19 l1 t373 t384 true) else ((laws_iSize.f t396).bind fun t427 => (if t427 > t400 then (laws_FnWeightsMirrored.j1 kj19 l1 t373 t384 true) else (if t404 > (t373.length : Int) then (laws_FnWeightsMirrored.j1 kj19 l1 t373 t384 true) else (laws_FnWeightsMirrored.j1 kj19 l1 t373 t384 ((t404 == 0) != (t400 == 0)))))))))))) else (laws_FnWeightsMirrored.j1 kj19 l1 t373 t384 true)) else (laws_FnWeightsMirrored.j1 kj19 l1 t373 t384 true)) = some r := by rw [if_pos rfl] at H; exact H
            clear H
            have H := H1
            clear H1
            by_cases c102 : t417 = true
            · subst c102
              have H1 : (if t416 = t392 then ((laws_iSame.f kj19 t384 t373).bind fun t419 => (if (t376 != t419) = true then (laws_FnWeightsMirrored.j1 kj19 l1 t373 t384 true) else (if t380 = true then (if t392 = 0 then (if t376 = true then (if t400 = 0 then ((laws_iSize.f t392).bind fun t420 => (if t420 > t400 then (laws_FnWeightsMirrored.j1 kj19 l1 t373 t384 true) else ((laws_iSize.f t396).bind fun t421 => (if t421 > t400 then (laws_FnWeightsMirrored.j1 kj19 l1 t373 t384 true) else (if t404 > (t373.length : Int) then (laws_FnWeightsMirrored.j1 kj19 l1 t373 t384 true) else (laws_FnWeightsMirrored.j1 kj19 l1 t373 t384 ((t404 == 0) != (t400 == 0)))))))) else (laws_FnWeightsMirrored.j1 kj19 l1 t373 t384 true)) else ((laws_iSize.f t392).bind fun t422 => (if t422 > t400 then (laws_FnWeightsMirrored.j1 kj19 l1 t373 t384 true) else ((laws_iSize.f t396).bind fun t423 => (if t423 > t400 then (laws_FnWeightsMirrored.j1 kj19 l1 t373 t384 true) else (if t404 > (t373.length : Int) then (laws_FnWeightsMirrored.j1 kj19 l1 t373 t384 true) else (laws_FnWeightsMirrored.j1 kj19 l1 t373 t384 ((t404 == 0) != (t400 == 0))))))))) else (laws_FnWeightsMirrored.j1 kj19 l1 t373 t384 true)) else (if t376 = true then ((laws_iSize.f t392).bind fun t424 => (if t424 > t400 then (laws_FnWeightsMirrored.j1 kj19 l1 t373 t384 true) else ((laws_iSize.f t396).bind fun t425 => (if t425 > t400 then (laws_FnWeightsMirrored.j1 kj19 l1 t373 t384 true) else (if t404 > (t373.length : Int) then (laws_FnWeightsMirrored.j1 kj19 l1 t373 t384 true) else (laws_FnWeightsMirrored.j1 kj19 l1 t373 t384 ((t404 == 0) != (t400 == 0)))))))) else ((laws_iSize.f t392).bind fun t426 => (if t426 > t400 then (laws_FnWeightsMirrored.j1 kj19 l1 t373 t384 true) else ((laws_iSize.f t396).bind fun t427 => (if t427 > t400 then (laws_FnWeightsMirrored.j1 kj19 l1 t373 t384 true) else (if t404 > (t373.length : Int) then (laws_FnWeightsMirrored.j1 kj19 l1 t373 t384 true) else (laws_FnWeightsMirrored.j1 kj19 l1 t373 t384 ((t404 == 0) != (t400 == 0)))))))))))) else (laws_FnWeightsMirrored.j1 kj19 l1 t373 t384 true)) = some r := by rw [if_pos rfl] at H; exact H
              clear H
              have H := H1
              clear H1
              by_cases c103 : t416 = t392
              · rw [if_pos c103] at H
                have c103b0 : (t416 == t392) = true := beq_iff_eq.mpr c103
                have c103b1 : (t416 != t392) = false := bne_eq_false_iff_eq.mpr c103
                clear c103
                (first | rw [c103b0] | (simp only [i64_w, i32_w]; rw [c103b0]) | skip)
                replace H := Option.bind_eq_some_iff.mp H
                obtain ⟨t419, A1040, H⟩ := H
                try dsimp only at H
                have A104 := Aside0.mk A1040
                clear A1040
                by_cases c105 : (t376 != t419) = true
                · rw [if_pos c105] at H
                  have c105b0 : (t376 != t419) = true := c105
                  (try (have c105b1 : decide (t376 = t419) = false := by simpa using c105))
                  (try (have c105b2 : (t376 == t419) = false := by simpa using c105))
                  (try (have c105b3 : ¬ (t376 = t419) := by simpa using c105))
                  clear c105
                  exact (by first | exact laws_FnWeightsMirrored.dead_j1 H | exact laws_FnWeightsMirrored.dead_j0 H | exact laws_FnWeightsMirrored.dead_j3 H | exact laws_FnWeightsMirrored.dead_j7 H | exact laws_FnWeightsMirrored.dead_j8 H | exact laws_FnWeightsMirrored.dead_j4 H : False).elim
                · rw [if_neg c105] at H
                  have c105b0 : (t376 != t419) = false := by simpa using c105
                  (try (have c105b1 : decide (t376 = t419) = true := by simpa using c105))
                  (try (have c105b2 : (t376 == t419) = true := by simpa using c105))
                  clear c105
                  by_cases c107 : t380 = true
                  · subst c107
                    have H1 : (if t392 = 0 then (if t376 = true then (if t400 = 0 then ((laws_iSize.f t392).bind fun t420 => (if t420 > t400 then (laws_FnWeightsMirrored.j1 kj19 l1 t373 t384 true) else ((laws_iSize.f t396).bind fun t421 => (if t421 > t400 then (laws_FnWeightsMirrored.j1 kj19 l1 t373 t384 true) else (if t404 > (t373.length : Int) then (laws_FnWeightsMirrored.j1 kj19 l1 t373 t384 true) else (laws_FnWeightsMirrored.j1 kj19 l1 t373 t384 ((t404 == 0) != (t400 == 0)))))))) else (laws_FnWeightsMirrored.j1 kj19 l1 t373 t384 true)) else ((laws_iSize.f t392).bind fun t422 => (if t422 > t400 then (laws_FnWeightsMirrored.j1 kj19 l1 t373 t384 true) else ((laws_iSize.f t396).bind fun t423 => (if t423 > t400 then (laws_FnWeightsMirrored.j1 kj19 l1 t373 t384 true) else (if t404 > (t373.length : Int) then (laws_FnWeightsMirrored.j1 kj19 l1 t373 t384 true) else (laws_FnWeightsMirrored.j1 kj19 l1 t373 t384 ((t404 == 0) != (t400 == 0))))))))) else (laws_FnWeightsMirrored.j1 kj19 l1 t373 t384 true)) = some r := by rw [if_pos rfl] at H; exact H
                    clear H
                    have H := H1
                    clear H1
                    by_cases c108 : t392 = 0
                    · rw [if_pos c108] at H
                      have c108b0 : (t392 == 0) = true := beq_iff_eq.mpr c108
                      have c108b1 : (t392 != 0) = false := bne_eq_false_iff_eq.mpr c108
                      clear c108
                      by_cases c109 : t376 = true
                      · subst c109
                        have H1 : (if t400 = 0 then ((laws_iSize.f t392).bind fun t420 => (if t420 > t400 then (laws_FnWeightsMirrored.j1 kj19 l1 t373 t384 true) else ((laws_iSize.f t396).bind fun t421 => (if t421 > t400 then (laws_FnWeightsMirrored.j1 kj19 l1 t373 t384 true) else (if t404 > (t373.length : Int) then (laws_FnWeightsMirrored.j1 kj19 l1 t373 t384 true) else (laws_FnWeightsMirrored.j1 kj19 l1 t373 t384 ((t404 == 0) != (t400 == 0)))))))) else (laws_FnWeightsMirrored.j1 kj19 l1 t373 t384 true)) = some r := by rw [if_pos rfl] at H; exact H
                        clear H
                        have H := H1
                        clear H1
                        by_cases c110 : t400 = 0
                        · rw [if_pos c110] at H
                          have c110b0 : (t400 == 0) = true := beq_iff_eq.mpr c110
                          have c110b1 : (t400 != 0) = false := bne_eq_false_iff_eq.mpr c110
                          clear c110
                          replace H := Option.bind_eq_some_iff.mp H
                          obtain ⟨t420, A1110, H⟩ := H
                          try dsimp only at H
                          have A111 := Aside0.mk A1110
                          clear A1110
                          by_cases c112 : t420 > t400
                          · rw [if_pos c112] at H
                            have c112b0 : decide (t400 < t420) = true := decide_eq_true c112
                            clear c112
                            exact (by first | exact laws_FnWeightsMirrored.dead_j1 H | exact laws_FnWeightsMirrored.dead_j0 H | exact laws_FnWeightsMirrored.dead_j3 H | exact laws_FnWeightsMirrored.dead_j7 H | exact laws_FnWeightsMirrored.dead_j8 H | exact laws_FnWeightsMirrored.dead_j4 H : False).elim
                          · rw [if_neg c112] at H
                            have c112b0 : decide (t400 < t420) = false := decide_eq_false c112
                            clear c112
                            replace H := Option.bind_eq_some_iff.mp H
                            obtain ⟨t421, A1140, H⟩ := H
                            try dsimp only at H
                            have A114 := Aside0.mk A1140
                            clear A1140
                            by_cases c115 : t421 > t400
                            · rw [if_pos c115] at H
                              have c115b0 : decide (t400 < t421) = true := decide_eq_true c115
                              clear c115
                              exact (by first | exact laws_FnWeightsMirrored.dead_j1 H | exact laws_FnWeightsMirrored.dead_j0 H | exact laws_FnWeightsMirrored.dead_j3 H | exact laws_FnWeightsMirrored.dead_j7 H | exact laws_FnWeightsMirrored.dead_j8 H | exact laws_FnWeightsMirrored.dead_j4 H : False).elim
                            · rw [if_neg c115] at H
                              have c115b0 : decide (t400 < t421) = false := decide_eq_false c115
                              clear c115
                              by_cases c117 : t404 > (t373.length : Int)
                              · rw [if_pos c117] at H
                                have c117b0 : decide ((t373.length : Int) < t404) = true := decide_eq_true c117
                                clear c117
                                exact (by first | exact laws_FnWeightsMirrored.dead_j1 H | exact laws_FnWeightsMirrored.dead_j0 H | exact laws_FnWeightsMirrored.dead_j3 H | exact laws_FnWeightsMirrored.dead_j7 H | exact laws_FnWeightsMirrored.dead_j8 H | exact laws_FnWeightsMirrored.dead_j4 H : False).elim
                              · rw [if_neg c117] at H
                                have c117b0 : decide ((t373.length : Int) < t404) = false := decide_eq_false c117
                                clear c117
                                have H' := Aside0.mk H
                                clear H
                                obtain ⟨Ao119, co119, eo119⟩ := Kd.R_slice HO415.out
                                subst eo119
                                have hX := Aside0.mk (show (((t404 == 0) != (t400 == 0))) = false from by
                                  cases hx : (((t404 == 0) != (t400 == 0))) with
                                  | false => rfl
                                  | true => have H := H'.out; rw [hx] at H; exact (laws_FnWeightsMirrored.dead_j1 H).elim)
                                go_upto_if 323 with (go_big_may; (first | (go_at_call 34; (with_reducible refine (laws_iSame.calls kj19 _ _ t412 _ _ t373 true _ ?side1 ?side2 ?side3 ?side4 A100.out).mono ?_); (case side1 => repeat (first | exact (Kd.R_reads' HO415.out).2.2 | (with_reducible refine Kd.C_alloc ?_ _) | (with_reducible refine Kd.C_drewN ?_ _) | (with_reducible refine Kd.C_drew ?_))); (case side2 => exact (Kd.R_reads' HO415.out).2.1); (case side3 => repeat (first | exact (Kd.R_reads' HO_5.out).2.2 | (with_reducible refine Kd.C_alloc ?_ _) | (with_reducible refine Kd.C_drewN ?_ _) | (with_reducible refine Kd.C_drew ?_))); (case side4 => exact (Kd.R_reads' HO_5.out).2.1); rintro e w' ⟨rfl, ⟨nd, rfl⟩⟩) | (go_at_call 34; (with_reducible refine (laws_iSame.calls kj19 _ _ t384 _ _ t373 t419 _ ?side1 ?side2 ?side3 ?side4 A104.out).mono ?_); (case side1 => repeat (first | exact (Kd.R_reads' HO_14.out).2.2 | (with_reducible refine Kd.C_alloc ?_ _) | (with_reducible refine Kd.C_drewN ?_ _) | (with_reducible refine Kd.C_drew ?_))); (case side2 => exact (Kd.R_reads' HO_14.out).2.1); (case side3 => repeat (first | exact (Kd.R_reads' HO_5.out).2.2 | (with_reducible refine Kd.C_alloc ?_ _) | (with_reducible refine Kd.C_drewN ?_ _) | (with_reducible refine Kd.C_drew ?_))); (case side4 => exact (Kd.R_reads' HO_5.out).2.1); rintro e w' ⟨rfl, ⟨nd, rfl⟩⟩) | (go_at_call 37; (with_reducible refine (laws_iSize.calls t392 t420 _ A111.out).mono ?_); rintro e w' ⟨rfl, ⟨nd, rfl⟩⟩) | (go_at_call 37; (with_reducible refine (laws_iSize.calls t396 t421 _ A114.out).mono ?_); rintro e w' ⟨rfl, ⟨nd, rfl⟩⟩)))
                                refine wp_cond_false (by first | exact congrArg Value.bool hX.out | exact congrArg Value.bool (by simpa [*] using hX.out) | (simp [hX.out]; done)) ?_
                                go_wp2
                                refine Met.intro ?_
                                apply laws_FnWeightsMirrored.TB
                                case HA => exact H'
                                case HO_5 => exact ⟨by (with_reducible repeat (first | apply Kd.R_alloc | apply Kd.R_drewN | apply Kd.R_drew)); exact Kd.R_mono HO_5.out (fun _ hk => hk.1)⟩
                                case HO_14 => exact ⟨by (with_reducible repeat (first | apply Kd.R_alloc | apply Kd.R_drewN | apply Kd.R_drew)); exact Kd.R_mono HO_14.out (fun _ hk => hk.1)⟩
                                case HR1 => exact HR1
                                case HC1 => exact HC1
                                case hM18 => exact hM18
                                case HB => exact ⟨by repeat (first | (with_reducible first | exact HB.out | apply below_alloc | apply pw_below_drewN | apply below_drew1) | exact HB.out)⟩
                        · rw [if_neg c110] at H
                          have c110b0 : (t400 == 0) = false := beq_eq_false_iff_ne.mpr c110
                          have c110b1 : (t400 != 0) = true := bne_iff_ne.mpr c110
                          exact (by first | exact laws_FnWeightsMirrored.dead_j1 H | exact laws_FnWeightsMirrored.dead_j0 H | exact laws_FnWeightsMirrored.dead_j3 H | exact laws_FnWeightsMirrored.dead_j7 H | exact laws_FnWeightsMirrored.dead_j8 H | exact laws_FnWeightsMirrored.dead_j4 H : False).elim
                      · replace c109 := Bool.eq_false_iff.mpr c109
                        subst c109
                        have H1 : ((laws_iSize.f t392).bind fun t422 => (if t422 > t400 then (laws_FnWeightsMirrored.j1 kj19 l1 t373 t384 true) else ((laws_iSize.f t396).bind fun t423 => (if t423 > t400 then (laws_FnWeightsMirrored.j1 kj19 l1 t373 t384 true) else (if t404 > (t373.length : Int) then (laws_FnWeightsMirrored.j1 kj19 l1 t373 t384 true) else (laws_FnWeightsMirrored.j1 kj19 l1 t373 t384 ((t404 == 0) != (t400 == 0)))))))) = some r := by rw [if_neg (show ¬ (false = true) by decide)] at H; exact H
                        clear H
                        have H := H1
                        clear H1
                        replace H := Option.bind_eq_some_iff.mp H
                        obtain ⟨t422, A1210, H⟩ := H
                        try dsimp only at H
                        have A121 := Aside0.mk A1210
                        clear A1210
                        by_cases c122 : t422 > t400
                        · rw [if_pos c122] at H
                          have c122b0 : decide (t400 < t422) = true := decide_eq_true c122
                          clear c122
                          exact (by first | exact laws_FnWeightsMirrored.dead_j1 H | exact laws_FnWeightsMirrored.dead_j0 H | exact laws_FnWeightsMirrored.dead_j3 H | exact laws_FnWeightsMirrored.dead_j7 H | exact laws_FnWeightsMirrored.dead_j8 H | exact laws_FnWeightsMirrored.dead_j4 H : False).elim
                        · rw [if_neg c122] at H
                          have c122b0 : decide (t400 < t422) = false := decide_eq_false c122
                          clear c122
                          replace H := Option.bind_eq_some_iff.mp H
                          obtain ⟨t423, A1240, H⟩ := H
                          try dsimp only at H
                          have A124 := Aside0.mk A1240
                          clear A1240
                          by_cases c125 : t423 > t400
                          · rw [if_pos c125] at H
                            have c125b0 : decide (t400 < t423) = true := decide_eq_true c125
                            clear c125
                            exact (by first | exact laws_FnWeightsMirrored.dead_j1 H | exact laws_FnWeightsMirrored.dead_j0 H | exact laws_FnWeightsMirrored.dead_j3 H | exact laws_FnWeightsMirrored.dead_j7 H | exact laws_FnWeightsMirrored.dead_j8 H | exact laws_FnWeightsMirrored.dead_j4 H : False).elim
                          · rw [if_neg c125] at H
                            have c125b0 : decide (t400 < t423) = false := decide_eq_false c125
                            clear c125
                            by_cases c127 : t404 > (t373.length : Int)
                            · rw [if_pos c127] at H
                              have c127b0 : decide ((t373.length : Int) < t404) = true := decide_eq_true c127
                              clear c127
                              exact (by first | exact laws_FnWeightsMirrored.dead_j1 H | exact laws_FnWeightsMirrored.dead_j0 H | exact laws_FnWeightsMirrored.dead_j3 H | exact laws_FnWeightsMirrored.dead_j7 H | exact laws_FnWeightsMirrored.dead_j8 H | exact laws_FnWeightsMirrored.dead_j4 H : False).elim
                            · rw [if_neg c127] at H
                              have c127b0 : decide ((t373.length : Int) < t404) = false := decide_eq_false c127
                              clear c127
                              have H' := Aside0.mk H
                              clear H
                              obtain ⟨Ao129, co129, eo129⟩ := Kd.R_slice HO415.out
                              subst eo129
                              have hX := Aside0.mk (show (((t404 == 0) != (t400 == 0))) = false from by
                                cases hx : (((t404 == 0) != (t400 == 0))) with
                                | false => rfl
                                | true => have H := H'.out; rw [hx] at H; exact (laws_FnWeightsMirrored.dead_j1 H).elim)
                              go_upto_if 323 with (go_big_may; (first | (go_at_call 34; (with_reducible refine (laws_iSame.calls kj19 _ _ t412 _ _ t373 true _ ?side1 ?side2 ?side3 ?side4 A100.out).mono ?_); (case side1 => repeat (first | exact (Kd.R_reads' HO415.out).2.2 | (with_reducible refine Kd.C_alloc ?_ _) | (with_reducible refine Kd.C_drewN ?_ _) | (with_reducible refine Kd.C_drew ?_))); (case side2 => exact (Kd.R_reads' HO415.out).2.1); (case side3 => repeat (first | exact (Kd.R_reads' HO_5.out).2.2 | (with_reducible refine Kd.C_alloc ?_ _) | (with_reducible refine Kd.C_drewN ?_ _) | (with_reducible refine Kd.C_drew ?_))); (case side4 => exact (Kd.R_reads' HO_5.out).2.1); rintro e w' ⟨rfl, ⟨nd, rfl⟩⟩) | (go_at_call 34; (with_reducible refine (laws_iSame.calls kj19 _ _ t384 _ _ t373 t419 _ ?side1 ?side2 ?side3 ?side4 A104.out).mono ?_); (case side1 => repeat (first | exact (Kd.R_reads' HO_14.out).2.2 | (with_reducible refine Kd.C_alloc ?_ _) | (with_reducible refine Kd.C_drewN ?_ _) | (with_reducible refine Kd.C_drew ?_))); (case side2 => exact (Kd.R_reads' HO_14.out).2.1); (case side3 => repeat (first | exact (Kd.R_reads' HO_5.out).2.2 | (with_reducible refine Kd.C_alloc ?_ _) | (with_reducible refine Kd.C_drewN ?_ _) | (with_reducible refine Kd.C_drew ?_))); (case side4 => exact (Kd.R_reads' HO_5.out).2.1); rintro e w' ⟨rfl, ⟨nd, rfl⟩⟩) | (go_at_call 37; (with_reducible refine (laws_iSize.calls t392 t422 _ A121.out).mono ?_); rintro e w' ⟨rfl, ⟨nd, rfl⟩⟩) | (go_at_call 37; (with_reducible refine (laws_iSize.calls t396 t423 _ A124.out).mono ?_); rintro e w' ⟨rfl, ⟨nd, rfl⟩⟩)))
                              refine wp_cond_false (by first | exact congrArg Value.bool hX.out | exact congrArg Value.bool (by simpa [*] using hX.out) | (simp [hX.out]; done)) ?_
                              go_wp2
                              refine Met.intro ?_
                              apply laws_FnWeightsMirrored.TB
                              case HA => exact H'
                              case HO_5 => exact ⟨by (with_reducible repeat (first | apply Kd.R_alloc | apply Kd.R_drewN | apply Kd.R_drew)); exact Kd.R_mono HO_5.out (fun _ hk => hk.1)⟩
                              case HO_14 => exact ⟨by (with_reducible repeat (first | apply Kd.R_alloc | apply Kd.R_drewN | apply Kd.R_drew)); exact Kd.R_mono HO_14.out (fun _ hk => hk.1)⟩
                              case HR1 => exact HR1
                              case HC1 => exact HC1
                              case hM18 => exact hM18
                              case HB => exact ⟨by repeat (first | (with_reducible first | exact HB.out | apply below_alloc | apply pw_below_drewN | apply below_drew1) | exact HB.out)⟩
                    · rw [if_neg c108] at H
                      have c108b0 : (t392 == 0) = false := beq_eq_false_iff_ne.mpr c108
                      have c108b1 : (t392 != 0) = true := bne_iff_ne.mpr c108
                      exact (by first | exact laws_FnWeightsMirrored.dead_j1 H | exact laws_FnWeightsMirrored.dead_j0 H | exact laws_FnWeightsMirrored.dead_j3 H | exact laws_FnWeightsMirrored.dead_j7 H | exact laws_FnWeightsMirrored.dead_j8 H | exact laws_FnWeightsMirrored.dead_j4 H : False).elim
                  · replace c107 := Bool.eq_false_iff.mpr c107
                    subst c107
                    have H1 : (if t376 = true then ((laws_iSize.f t392).bind fun t424 => (if t424 > t400 then (laws_FnWeightsMirrored.j1 kj19 l1 t373 t384 true) else ((laws_iSize.f t396).bind fun t425 => (if t425 > t400 then (laws_FnWeightsMirrored.j1 kj19 l1 t373 t384 true) else (if t404 > (t373.length : Int) then (laws_FnWeightsMirrored.j1 kj19 l1 t373 t384 true) else (laws_FnWeightsMirrored.j1 kj19 l1 t373 t384 ((t404 == 0) != (t400 == 0)))))))) else ((laws_iSize.f t392).bind fun t426 => (if t426 > t400 then (laws_FnWeightsMirrored.j1 kj19 l1 t373 t384 true) else ((laws_iSize.f t396).bind fun t427 => (if t427 > t400 then (laws_FnWeightsMirrored.j1 kj19 l1 t373 t384 true) else (if t404 > (t373.length : Int) then (laws_FnWeightsMirrored.j1 kj19 l1 t373 t384 true) else (laws_FnWeightsMirrored.j1 kj19 l1 t373 t384 ((t404 == 0) != (t400 == 0))))))))) = some r := by rw [if_neg (show ¬ (false = true) by decide)] at H; exact H
                    clear H
                    have H := H1
                    clear H1
                    by_cases c131 : t376 = true
                    · subst c131
                      have H1 : ((laws_iSize.f t392).bind fun t424 => (if t424 > t400 then (laws_FnWeightsMirrored.j1 kj19 l1 t373 t384 true) else ((laws_iSize.f t396).bind fun t425 => (if t425 > t400 then (laws_FnWeightsMirrored.j1 kj19 l1 t373 t384 true) else (if t404 > (t373.length : Int) then (laws_FnWeightsMirrored.j1 kj19 l1 t373 t384 true) else (laws_FnWeightsMirrored.j1 kj19 l1 t373 t384 ((t404 == 0) != (t400 == 0)))))))) = some r := by rw [if_pos rfl] at H; exact H
                      clear H
                      have H := H1
                      clear H1
                      replace H := Option.bind_eq_some_iff.mp H
                      obtain ⟨t424, A1320, H⟩ := H
                      try dsimp only at H
                      have A132 := Aside0.mk A1320
                      clear A1320
                      by_cases c133 : t424 > t400
                      · rw [if_pos c133] at H
                        have c133b0 : decide (t400 < t424) = true := decide_eq_true c133
                        clear c133
                        exact (by first | exact laws_FnWeightsMirrored.dead_j1 H | exact laws_FnWeightsMirrored.dead_j0 H | exact laws_FnWeightsMirrored.dead_j3 H | exact laws_FnWeightsMirrored.dead_j7 H | exact laws_FnWeightsMirrored.dead_j8 H | exact laws_FnWeightsMirrored.dead_j4 H : False).elim
                      · rw [if_neg c133] at H
                        have c133b0 : decide (t400 < t424) = false := decide_eq_false c133
                        clear c133
                        replace H := Option.bind_eq_some_iff.mp H
                        obtain ⟨t425, A1350, H⟩ := H
                        try dsimp only at H
                        have A135 := Aside0.mk A1350
                        clear A1350
                        by_cases c136 : t425 > t400
                        · rw [if_pos c136] at H
                          have c136b0 : decide (t400 < t425) = true := decide_eq_true c136
                          clear c136
                          exact (by first | exact laws_FnWeightsMirrored.dead_j1 H | exact laws_FnWeightsMirrored.dead_j0 H | exact laws_FnWeightsMirrored.dead_j3 H | exact laws_FnWeightsMirrored.dead_j7 H | exact laws_FnWeightsMirrored.dead_j8 H | exact laws_FnWeightsMirrored.dead_j4 H : False).elim
                        · rw [if_neg c136] at H
                          have c136b0 : decide (t400 < t425) = false := decide_eq_false c136
                          clear c136
                          by_cases c138 : t404 > (t373.length : Int)
                          · rw [if_pos c138] at H
                            have c138b0 : decide ((t373.length : Int) < t404) = true := decide_eq_true c138
                            clear c138
                            exact (by first | exact laws_FnWeightsMirrored.dead_j1 H | exact laws_FnWeightsMirrored.dead_j0 H | exact laws_FnWeightsMirrored.dead_j3 H | exact laws_FnWeightsMirrored.dead_j7 H | exact laws_FnWeightsMirrored.dead_j8 H | exact laws_FnWeightsMirrored.dead_j4 H : False).elim
                          · rw [if_neg c138] at H
                            have c138b0 : decide ((t373.length : Int) < t404) = false := decide_eq_false c138
                            clear c138
                            have H' := Aside0.mk H
                            clear H
                            obtain ⟨Ao140, co140, eo140⟩ := Kd.R_slice HO415.out
                            subst eo140
                            have hX := Aside0.mk (show (((t404 == 0) != (t400 == 0))) = false from by
                              cases hx : (((t404 == 0) != (t400 == 0))) with
                              | false => rfl
                              | true => have H := H'.out; rw [hx] at H; exact (laws_FnWeightsMirrored.dead_j1 H).elim)
                            go_upto_if 323 with (go_big_may; (first | (go_at_call 34; (with_reducible refine (laws_iSame.calls kj19 _ _ t412 _ _ t373 true _ ?side1 ?side2 ?side3 ?side4 A100.out).mono ?_); (case side1 => repeat (first | exact (Kd.R_reads' HO415.out).2.2 | (with_reducible refine Kd.C_alloc ?_ _) | (with_reducible refine Kd.C_drewN ?_ _) | (with_reducible refine Kd.C_drew ?_))); (case side2 => exact (Kd.R_reads' HO415.out).2.1); (case side3 => repeat (first | exact (Kd.R_reads' HO_5.out).2.2 | (with_reducible refine Kd.C_alloc ?_ _) | (with_reducible refine Kd.C_drewN ?_ _) | (with_reducible refine Kd.C_drew ?_))); (case side4 => exact (Kd.R_reads' HO_5.out).2.1); rintro e w' ⟨rfl, ⟨nd, rfl⟩⟩) | (go_at_call 34; (with_reducible refine (laws_iSame.calls kj19 _ _ t384 _ _ t373 t419 _ ?side1 ?side2 ?side3 ?side4 A104.out).mono ?_); (case side1 => repeat (first | exact (Kd.R_reads' HO_14.out).2.2 | (with_reducible refine Kd.C_alloc ?_ _) | (with_reducible refine Kd.C_drewN ?_ _) | (with_reducible refine Kd.C_drew ?_))); (case side2 => exact (Kd.R_reads' HO_14.out).2.1); (case side3 => repeat (first | exact (Kd.R_reads' HO_5.out).2.2 | (with_reducible refine Kd.C_alloc ?_ _) | (with_reducible refine Kd.C_drewN ?_ _) | (with_reducible refine Kd.C_drew ?_))); (case side4 => exact (Kd.R_reads' HO_5.out).2.1); rintro e w' ⟨rfl, ⟨nd, rfl⟩⟩) | (go_at_call 37; (with_reducible refine (laws_iSize.calls t392 t424 _ A132.out).mono ?_); rintro e w' ⟨rfl, ⟨nd, rfl⟩⟩) | (go_at_call 37; (with_reducible refine (laws_iSize.calls t396 t425 _ A135.out).mono ?_); rintro e w' ⟨rfl, ⟨nd, rfl⟩⟩)))
                            refine wp_cond_false (by first | exact congrArg Value.bool hX.out | exact congrArg Value.bool (by simpa [*] using hX.out) | (simp [hX.out]; done)) ?_
                            go_wp2
                            refine Met.intro ?_
                            apply laws_FnWeightsMirrored.TB
                            case HA => exact H'
                            case HO_5 => exact ⟨by (with_reducible repeat (first | apply Kd.R_alloc | apply Kd.R_drewN | apply Kd.R_drew)); exact Kd.R_mono HO_5.out (fun _ hk => hk.1)⟩
                            case HO_14 => exact ⟨by (with_reducible repeat (first | apply Kd.R_alloc | apply Kd.R_drewN | apply Kd.R_drew)); exact Kd.R_mono HO_14.out (fun _ hk => hk.1)⟩
                            case HR1 => exact HR1
                            case HC1 => exact HC1
                            case hM18 => exact hM18
                            case HB => exact ⟨by repeat (first | (with_reducible first | exact HB.out | apply below_alloc | apply pw_below_drewN | apply below_drew1) | exact HB.out)⟩
                    · replace c131 := Bool.eq_false_iff.mpr c131
                      subst c131
                      have H1 : ((laws_iSize.f t392).bind fun t426 => (if t426 > t400 then (laws_FnWeightsMirrored.j1 kj19 l1 t373 t384 true) else ((laws_iSize.f t396).bind fun t427 => (if t427 > t400 then (laws_FnWeightsMirrored.j1 kj19 l1 t373 t384 true) else (if t404 > (t373.length : Int) then (laws_FnWeightsMirrored.j1 kj19 l1 t373 t384 true) else (laws_FnWeightsMirrored.j1 kj19 l1 t373 t384 ((t404 == 0) != (t400 == 0)))))))) = some r := by rw [if_neg (show ¬ (false = true) by decide)] at H; exact H
                      clear H
                      have H := H1
                      clear H1
                      replace H := Option.bind_eq_some_iff.mp H
                      obtain ⟨t426, A1410, H⟩ := H
                      try dsimp only at H
                      have A141 := Aside0.mk A1410
                      clear A1410
                      by_cases c142 : t426 > t400
                      · rw [if_pos c142] at H
                        have c142b0 : decide (t400 < t426) = true := decide_eq_true c142
                        clear c142
                        exact (by first | exact laws_FnWeightsMirrored.dead_j1 H | exact laws_FnWeightsMirrored.dead_j0 H | exact laws_FnWeightsMirrored.dead_j3 H | exact laws_FnWeightsMirrored.dead_j7 H | exact laws_FnWeightsMirrored.dead_j8 H | exact laws_FnWeightsMirrored.dead_j4 H : False).elim
                      · rw [if_neg c142] at H
                        have c142b0 : decide (t400 < t426) = false := decide_eq_false c142
                        clear c142
                        replace H := Option.bind_eq_some_iff.mp H
                        obtain ⟨t427, A1440, H⟩ := H
                        try dsimp only at H
                        have A144 := Aside0.mk A1440
                        clear A1440
                        by_cases c145 : t427 > t400
                        · rw [if_pos c145] at H
                          have c145b0 : decide (t400 < t427) = true := decide_eq_true c145
                          clear c145
                          exact (by first | exact laws_FnWeightsMirrored.dead_j1 H | exact laws_FnWeightsMirrored.dead_j0 H | exact laws_FnWeightsMirrored.dead_j3 H | exact laws_FnWeightsMirrored.dead_j7 H | exact laws_FnWeightsMirrored.dead_j8 H | exact laws_FnWeightsMirrored.dead_j4 H : False).elim
                        · rw [if_neg c145] at H
                          have c145b0 : decide (t400 < t427) = false := decide_eq_false c145
                          clear c145
                          by_cases c147 : t404 > (t373.length : Int)
                          · rw [if_pos c147] at H
                            have c147b0 : decide ((t373.length : Int) < t404) = true := decide_eq_true c147
                            clear c147
                            exact (by first | exact laws_FnWeightsMirrored.dead_j1 H | exact laws_FnWeightsMirrored.dead_j0 H | exact laws_FnWeightsMirrored.dead_j3 H | exact laws_FnWeightsMirrored.dead_j7 H | exact laws_FnWeightsMirrored.dead_j8 H | exact laws_FnWeightsMirrored.dead_j4 H : False).elim
                          · rw [if_neg c147] at H
                            have c147b0 : decide ((t373.length : Int) < t404) = false := decide_eq_false c147
                            clear c147
                            have H' := Aside0.mk H
                            clear H
                            obtain ⟨Ao149, co149, eo149⟩ := Kd.R_slice HO415.out
                            subst eo149
                            have hX := Aside0.mk (show (((t404 == 0) != (t400 == 0))) = false from by
                              cases hx : (((t404 == 0) != (t400 == 0))) with
                              | false => rfl
                              | true => have H := H'.out; rw [hx] at H; exact (laws_FnWeightsMirrored.dead_j1 H).elim)
                            go_upto_if 323 with (go_big_may; (first | (go_at_call 34; (with_reducible refine (laws_iSame.calls kj19 _ _ t412 _ _ t373 true _ ?side1 ?side2 ?side3 ?side4 A100.out).mono ?_); (case side1 => repeat (first | exact (Kd.R_reads' HO415.out).2.2 | (with_reducible refine Kd.C_alloc ?_ _) | (with_reducible refine Kd.C_drewN ?_ _) | (with_reducible refine Kd.C_drew ?_))); (case side2 => exact (Kd.R_reads' HO415.out).2.1); (case side3 => repeat (first | exact (Kd.R_reads' HO_5.out).2.2 | (with_reducible refine Kd.C_alloc ?_ _) | (with_reducible refine Kd.C_drewN ?_ _) | (with_reducible refine Kd.C_drew ?_))); (case side4 => exact (Kd.R_reads' HO_5.out).2.1); rintro e w' ⟨rfl, ⟨nd, rfl⟩⟩) | (go_at_call 34; (with_reducible refine (laws_iSame.calls kj19 _ _ t384 _ _ t373 t419 _ ?side1 ?side2 ?side3 ?side4 A104.out).mono ?_); (case side1 => repeat (first | exact (Kd.R_reads' HO_14.out).2.2 | (with_reducible refine Kd.C_alloc ?_ _) | (with_reducible refine Kd.C_drewN ?_ _) | (with_reducible refine Kd.C_drew ?_))); (case side2 => exact (Kd.R_reads' HO_14.out).2.1); (case side3 => repeat (first | exact (Kd.R_reads' HO_5.out).2.2 | (with_reducible refine Kd.C_alloc ?_ _) | (with_reducible refine Kd.C_drewN ?_ _) | (with_reducible refine Kd.C_drew ?_))); (case side4 => exact (Kd.R_reads' HO_5.out).2.1); rintro e w' ⟨rfl, ⟨nd, rfl⟩⟩) | (go_at_call 37; (with_reducible refine (laws_iSize.calls t392 t426 _ A141.out).mono ?_); rintro e w' ⟨rfl, ⟨nd, rfl⟩⟩) | (go_at_call 37; (with_reducible refine (laws_iSize.calls t396 t427 _ A144.out).mono ?_); rintro e w' ⟨rfl, ⟨nd, rfl⟩⟩)))
                            refine wp_cond_false (by first | exact congrArg Value.bool hX.out | exact congrArg Value.bool (by simpa [*] using hX.out) | (simp [hX.out]; done)) ?_
                            go_wp2
                            refine Met.intro ?_
                            apply laws_FnWeightsMirrored.TB
                            case HA => exact H'
                            case HO_5 => exact ⟨by (with_reducible repeat (first | apply Kd.R_alloc | apply Kd.R_drewN | apply Kd.R_drew)); exact Kd.R_mono HO_5.out (fun _ hk => hk.1)⟩
                            case HO_14 => exact ⟨by (with_reducible repeat (first | apply Kd.R_alloc | apply Kd.R_drewN | apply Kd.R_drew)); exact Kd.R_mono HO_14.out (fun _ hk => hk.1)⟩
                            case HR1 => exact HR1
                            case HC1 => exact HC1
                            case hM18 => exact hM18
                            case HB => exact ⟨by repeat (first | (with_reducible first | exact HB.out | apply below_alloc | apply pw_below_drewN | apply below_drew1) | exact HB.out)⟩
              · rw [if_neg c103] at H
                have c103b0 : (t416 == t392) = false := beq_eq_false_iff_ne.mpr c103
                have c103b1 : (t416 != t392) = true := bne_iff_ne.mpr c103
                (first | rw [c103b0] | (simp only [i64_w, i32_w]; rw [c103b0]) | skip)
                exact (by first | exact laws_FnWeightsMirrored.dead_j1 H | exact laws_FnWeightsMirrored.dead_j0 H | exact laws_FnWeightsMirrored.dead_j3 H | exact laws_FnWeightsMirrored.dead_j7 H | exact laws_FnWeightsMirrored.dead_j8 H | exact laws_FnWeightsMirrored.dead_j4 H : False).elim
            · replace c102 := Bool.eq_false_iff.mpr c102
              subst c102
              have H1 : (laws_FnWeightsMirrored.j1 kj19 l1 t373 t384 true) = some r := by rw [if_neg (show ¬ (false = true) by decide)] at H; exact H
              clear H
              have H := H1
              clear H1
              exact (by first | exact laws_FnWeightsMirrored.dead_j1 H | exact laws_FnWeightsMirrored.dead_j0 H | exact laws_FnWeightsMirrored.dead_j3 H | exact laws_FnWeightsMirrored.dead_j7 H | exact laws_FnWeightsMirrored.dead_j8 H | exact laws_FnWeightsMirrored.dead_j4 H : False).elim
          · replace c101 := Bool.eq_false_iff.mpr c101
            subst c101
            have H1 : (laws_FnWeightsMirrored.j1 kj19 l1 t373 t384 true) = some r := by rw [if_neg (show ¬ (false = true) by decide)] at H; exact H
            clear H
            have H := H1
            clear H1
            exact (by first | exact laws_FnWeightsMirrored.dead_j1 H | exact laws_FnWeightsMirrored.dead_j0 H | exact laws_FnWeightsMirrored.dead_j3 H | exact laws_FnWeightsMirrored.dead_j7 H | exact laws_FnWeightsMirrored.dead_j8 H | exact laws_FnWeightsMirrored.dead_j4 H : False).elim
        · replace c99 := Bool.eq_false_iff.mpr c99
          subst c99
          have H1 : (laws_FnWeightsMirrored.j1 kj19 l1 t373 t384 true) = some r := by rw [if_neg (show ¬ (false = true) by decide)] at H; exact H
          clear H
          have H := H1
          clear H1
          exact (by first | exact laws_FnWeightsMirrored.dead_j1 H | exact laws_FnWeightsMirrored.dead_j0 H | exact laws_FnWeightsMirrored.dead_j3 H | exact laws_FnWeightsMirrored.dead_j7 H | exact laws_FnWeightsMirrored.dead_j8 H | exact laws_FnWeightsMirrored.dead_j4 H : False).elim
      · replace c93 := Bool.eq_false_iff.mpr c93
        subst c93
        have H1 : (laws_FnWeightsMirrored.j2 kj19 l1) = some r := by rw [if_neg (show ¬ (false = true) by decide)] at H; exact H
        clear H
        have H := H1
        clear H1
        have H' := Aside0.mk H
        clear H
        go_wp2
        refine Met.intro ?_
        apply laws_FnWeightsMirrored.T19
        case HA => exact H'
        case HR1 => exact HR1
        case HC1 => exact HC1
        case HB => exact ⟨by repeat (first | (with_reducible first | exact HB.out | apply below_alloc | apply pw_below_drewN | apply below_drew1) | exact HB.out)⟩

end Go.Proofs.Ytgancmcbldmjaaa.QFnWeightsMirrored
