-- Written by wprint.py (this session's program over the kit's print) out of the translation.
import Derived.Test.YtgancmcbldmjaaaQFnWeightsMirroredx13
namespace Go.Proofs.Ytgancmcbldmjaaa.QFnWeightsMirrored
open Go.RowKit Go.Proofs.YtgancmcbldmjaaaW.PrintWords Go.Proofs.YtgancmcbldmjaaaW.PrintLast Go.Proofs.YtgancmcbldmjaaaW.PrintMore
attribute [local go_sem] max2_int min2_int max_two min_two max_three min_three max_four min_four   -- for this text's walks alone
set_option linter.unusedVariables false
set_option linter.unusedSimpArgs false

set_option maxHeartbeats 0 in
set_option maxRecDepth 100000 in
theorem laws_FnWeightsMirrored.T19 (r : Bool) (w wc : World) (A1 : Option Addr) (c1 : Nat) (l1 : List Int) (HR1 : Aside0 (Kd.C (Kd.int .u8) w A1 l1.length l1)) (HC1 : Aside0 (l1.length ≤ c1)) (kq : Nat)  (HA : Aside0 (laws_FnWeightsMirrored.j2 kq l1 = some r)) (HB : Aside0 (Below w.heap.size w wc)) (z0 z2 z3 z4 z5 z6 z7 z8 z9 z10 z11 z12 z13 z14 z15 z16 z17 z18 z19 z20 z21 z22 z23 z24 z25 z26 z27 z28 z29 z30 z31 z32 z33 z34 z35 z36 z37 z38 z39 z40 z41 z42 z43 z44 z45 z46 z47 z48 z49 z50 z51 z52 z53 z54 z55 z56 z57 z58 z59 z60 z61 z62 z63 z64 z65 z66 z67 z68 z69 z70 z71 z72 z73 z74 z75 z76 z77 z78 z79 z80 z81 z82 z83 z84 z85 z86 z87 z88 z89 z90 z91 z92 z93 z94 z95 z96 z97 z98 z99 z100 z101 z102 z103 z104 z105 z106 z107 z108 z109 z110 z111 z112 z113 z114 z115 z116 z117 z118 z119 z120 z121 z122 z123 z124 z125 z126 z127 z128 z129 z130 z131 z132 z133 z134 z135 z136 z137 z138 z139 z140 z141 z142 z143 z144 z145 z146 z147 z148 z149 z150 z151 z152 z153 z154 z155 z156 z157 z158 z159 z160 z161 z162 z163 z164 z165 z166 z167 z168 z169 z170 z171 z172 z173 z174 z175 z176 z177 z178 z179 z180 z181 z182 z183 z184 z185 z186 z187 z188 z189 z190 z191 z192 z193 z194 z195 z196 z197 z198 z199 z200 z201 z202 z203 z204 z205 z206 z207 z208 z209 z210 z211 z212 z213 z214 z215 z216 z217 z218 z219 z220 z221 z222 z223 z224 z225 z226 z227 z228 z229 z230 z231 z232 z233 z234 z235 z236 z237 z238 z239 z240 z241 z242 z243 z244 z245 z246 z247 z248 z249 z250 z251 z252 z253 z254 z255 z256 z257 z258 z259 z260 z261 z262 z263 z264 z265 z266 z267 z268 z269 z270 z271 z272 z273 z274 z275 z276 z277 z278 z279 z280 z281 z282 z283 z284 z285 z286 z287 z288 z289 z290 z291 z292 z293 z294 z295 z296 z297 z298 z299 z300 z301 z302 z303 z304 z305 z306 z307 z308 z309 z310 z311 z312 z313 z314 z315 z316 z317 z318 z319 z320 z321 z322 z323 z324 z325 z326 z327 z328 z329 z330 z331 z332 z333 z334 z335 z336 z337 z338 z339 z340 z341 : Value) :
    Tail19 r w { tmps := #[z0, Value.slice A1 l1.length c1, z2, z3, z4, z5, z6, z7, z8, z9, z10, z11, z12, z13, z14, z15, z16, z17, z18, z19, z20, z21, z22, z23, z24, z25, z26, z27, z28, z29, z30, z31, z32, z33, z34, z35, z36, z37, z38, z39, z40, z41, z42, z43, z44, z45, z46, z47, z48, z49, z50, z51, z52, z53, z54, z55, z56, z57, z58, z59, z60, z61, z62, z63, z64, z65, z66, z67, z68, z69, z70, z71, z72, z73, z74, z75, z76, z77, z78, z79, z80, z81, z82, z83, z84, z85, z86, z87, z88, z89, z90, z91, z92, z93, z94, z95, z96, z97, z98, z99, z100, z101, z102, z103, z104, z105, z106, z107, z108, z109, z110, z111, z112, z113, z114, z115, z116, z117, z118, z119, z120, z121, z122, z123, z124, z125, z126, z127, z128, z129, z130, z131, z132, z133, z134, z135, z136, z137, z138, z139, z140, z141, z142, z143, z144, z145, z146, z147, z148, z149, z150, z151, z152, z153, z154, z155, z156, z157, z158, z159, z160, z161, z162, z163, z164, z165, z166, z167, z168, z169, z170, z171, z172, z173, z174, z175, z176, z177, z178, z179, z180, z181, z182, z183, z184, z185, z186, z187, z188, z189, z190, z191, z192, z193, z194, z195, z196, z197, z198, z199, z200, z201, z202, z203, z204, z205, z206, z207, z208, z209, z210, z211, z212, z213, z214, z215, z216, z217, z218, z219, z220, z221, z222, z223, z224, z225, z226, z227, z228, z229, z230, z231, z232, z233, z234, z235, z236, z237, z238, z239, z240, z241, z242, z243, z244, z245, z246, z247, z248, z249, z250, z251, z252, z253, z254, z255, z256, z257, z258, z259, z260, z261, z262, z263, z264, z265, z266, z267, z268, z269, z270, z271, z272, z273, z274, z275, z276, z277, z278, z279, z280, z281, z282, z283, z284, z285, z286, z287, z288, z289, z290, z291, z292, z293, z294, z295, z296, z297, z298, z299, z300, z301, z302, z303, z304, z305, z306, z307, z308, z309, z310, z311, z312, z313, z314, z315, z316, z317, z318, z319, z320, z321, z322, z323, z324, z325, z326, z327, z328, z329, z330, z331, z332, z333, z334, z335, z336, z337, z338, z339, z340, z341, undef, undef, undef, undef, undef, undef, undef, undef, undef, undef, undef, undef, undef, undef, undef, undef, undef, undef, undef, undef, undef, undef, undef, undef, undef, undef, undef, undef, undef, undef, undef, undef, undef, undef, undef, undef, undef, undef, undef, undef, undef, undef, undef, undef, undef, undef, undef, undef, undef, undef, undef, undef, undef, undef, undef, undef, undef, undef, undef, undef, undef, undef, undef, undef, undef, undef, undef, undef, undef, undef, undef, undef, undef, undef, undef, undef, undef, undef, undef, undef, undef, undef, undef, undef, undef, undef, undef, undef, undef, undef, undef, undef, undef, undef, undef, undef, undef, undef, undef, undef, undef, undef, undef, undef, undef, undef, undef, undef, undef, undef, undef, undef, undef, undef, undef, undef, undef, undef, undef, undef, undef, undef], defers := [] } wc := by
  unfold Tail19
  conv => arg 2; whnf
  have HJ19 : Aside0 ((0 : Nat) ≤ 0) := ⟨Nat.le_refl 0⟩
  have HJ91 : Aside0 ((0 : Nat) ≤ 0) := ⟨Nat.le_refl 0⟩
  cases kq with
  | zero => exact absurd HA.out (by simp [laws_FnWeightsMirrored.j2])
  | succ kj91 =>
    have H := HA.out
    clear HA
    simp only [laws_FnWeightsMirrored.j2] at H
    replace H := Option.bind_eq_some_iff.mp H
    obtain ⟨⟨t434, t435⟩, A1630, H⟩ := H
    try dsimp only at H
    have A163 := Aside0.mk A1630
    clear A1630
    replace H := Option.bind_eq_some_iff.mp H
    obtain ⟨⟨t438, t439⟩, A1640, H⟩ := H
    try dsimp only at H
    have A164 := Aside0.mk A1640
    clear A1640
    replace H := Option.bind_eq_some_iff.mp H
    obtain ⟨⟨t442, t443⟩, A1650, H⟩ := H
    try dsimp only at H
    have A165 := Aside0.mk A1650
    clear A1650
    have HC166 := Aside0.mk H
    clear H
    go_upto_region 33 with (go_big_may; (first | ((with_reducible refine gate_callee (f := 39) rfl ?_); refine goesL_ (some 344) rfl rfl Try.func39 (by kernel_rfl) rfl #[.slice A1 l1.length c1] rfl (by (try simp only [List.map_toArray, List.map_cons, List.map_nil]); first | done | rfl | (simp only [List.length_drop, List.length_take]; rfl)) ?_; (with_reducible refine (spec_DrawInverseAnswer.calls kj91 _ _ l1 t434 t435 _ ?side1 ?side2 A163.out).mono ?_); (case side1 => repeat (first | exact (Kd.C_below HR1.out HB.out) | (with_reducible refine Kd.C_alloc ?_ _) | (with_reducible refine Kd.C_drewN ?_ _) | (with_reducible refine Kd.C_drew ?_))); (case side2 => exact HC1.out); rintro e w167 ⟨v436, rfl, ho0, hb⟩; refine ⟨_, rfl, put_ ?_⟩; (conv => arg 5; dsimp only [set16_, List.set_cons_succ, List.set_cons_zero]); have n0_ := Aside0.mk (Kd.R_lower ho0 (below_size (by repeat (first | (with_reducible first | exact HB.out | apply below_alloc | apply pw_below_drewN | apply below_drew1) | exact HB.out)))); have n1_ := Aside0.mk (below_step (by repeat (first | (with_reducible first | exact HB.out | apply below_alloc | apply pw_below_drewN | apply below_drew1) | exact HB.out)) hb); clear HB; have HO437 := n0_; have HB := n1_; clear n0_ n1_; (try clear hb); (try clear hb2); (try clear hk); (try clear hi); (try clear ho0); obtain ⟨Ao168, co168, eo168⟩ := Kd.R_slice HO437.out; subst eo168) | ((with_reducible refine gate_callee (f := 40) rfl ?_); refine goesL_ (some 350) rfl rfl Try.func40 (by kernel_rfl) rfl #[.slice Ao168 t434.length co168, .int .i64 t435] rfl (by (try simp only [List.map_toArray, List.map_cons, List.map_nil]); first | done | rfl | (simp only [List.length_drop, List.length_take]; rfl)) ?_; (with_reducible refine (impl_InverseAnswer.calls kj91 _ _ t434 t435 t438 t439 _ ?side1 ?side2 A164.out).mono ?_); (case side1 => repeat (first | exact (Kd.R_reads' HO437.out).2.2 | (with_reducible refine Kd.C_alloc ?_ _) | (with_reducible refine Kd.C_drewN ?_ _) | (with_reducible refine Kd.C_drew ?_))); (case side2 => exact (Kd.R_reads' HO437.out).2.1); rintro e w169 ⟨v440, rfl, ho0, hb⟩; refine ⟨_, rfl, put_ ?_⟩; (conv => arg 5; dsimp only [set16_, List.set_cons_succ, List.set_cons_zero]); have n0_ := Aside0.mk (Kd.R_elder' (by (with_reducible repeat (first | apply Kd.R_alloc | apply Kd.R_drewN | apply Kd.R_drew)); exact HO437.out) (Kd.R_base ho0) hb); have n1_ := Aside0.mk (Kd.R_lower (Kd.R_new' ho0 (Kd.R_lt (by (with_reducible repeat (first | apply Kd.R_alloc | apply Kd.R_drewN | apply Kd.R_drew)); exact HO437.out))) (below_size (by repeat (first | (with_reducible first | exact HB.out | apply below_alloc | apply pw_below_drewN | apply below_drew1) | exact HB.out)))); have n2_ := Aside0.mk (below_step (by repeat (first | (with_reducible first | exact HB.out | apply below_alloc | apply pw_below_drewN | apply below_drew1) | exact HB.out)) hb); clear HO437; clear HB; have HO437 := n0_; have HO441 := n1_; have HB := n2_; clear n0_ n1_ n2_; (try clear hb); (try clear hb2); (try clear hk); (try clear hi); (try clear ho0)) | ((with_reducible refine gate_callee (f := 41) rfl ?_); refine goesL_ (some 356) rfl rfl Try.func41 (by kernel_rfl) rfl #[.slice Ao168 t434.length co168, .int .i64 t435] rfl (by (try simp only [List.map_toArray, List.map_cons, List.map_nil]); first | done | rfl | (simp only [List.length_drop, List.length_take]; rfl)) ?_; (with_reducible refine (spec_InverseAnswer.calls kj91 _ _ t434 t435 t442 t443 _ ?side1 ?side2 A165.out).mono ?_); (case side1 => repeat (first | exact (Kd.R_reads' HO437.out).2.2 | (with_reducible refine Kd.C_alloc ?_ _) | (with_reducible refine Kd.C_drewN ?_ _) | (with_reducible refine Kd.C_drew ?_))); (case side2 => exact (Kd.R_reads' HO437.out).2.1); rintro e w170 ⟨v444, rfl, ho0, hb⟩; refine ⟨_, rfl, put_ ?_⟩; (conv => arg 5; dsimp only [set16_, List.set_cons_succ, List.set_cons_zero]); have n0_ := Aside0.mk (Kd.R_elder' (by (with_reducible repeat (first | apply Kd.R_alloc | apply Kd.R_drewN | apply Kd.R_drew)); exact HO437.out) (Kd.R_base ho0) hb); have n1_ := Aside0.mk (Kd.R_elder' (by (with_reducible repeat (first | apply Kd.R_alloc | apply Kd.R_drewN | apply Kd.R_drew)); exact HO441.out) (Kd.R_base ho0) hb); have n2_ := Aside0.mk (Kd.R_lower (Kd.R_new' (Kd.R_new' ho0 (Kd.R_lt (by (with_reducible repeat (first | apply Kd.R_alloc | apply Kd.R_drewN | apply Kd.R_drew)); exact HO437.out))) (Kd.R_lt (by (with_reducible repeat (first | apply Kd.R_alloc | apply Kd.R_drewN | apply Kd.R_drew)); exact HO441.out))) (below_size (by repeat (first | (with_reducible first | exact HB.out | apply below_alloc | apply pw_below_drewN | apply below_drew1) | exact HB.out)))); have n3_ := Aside0.mk (below_step (by repeat (first | (with_reducible first | exact HB.out | apply below_alloc | apply pw_below_drewN | apply below_drew1) | exact HB.out)) hb); clear HO437; clear HO441; clear HB; have HO437 := n0_; have HO441 := n1_; have HO445 := n2_; have HB := n3_; clear n0_ n1_ n2_ n3_; (try clear hb); (try clear hb2); (try clear hk); (try clear hi); (try clear ho0))))
    rename_i K22 hK22 Kn hKn
    have hM22 : ∀ a w_, Met (Tail23 r w) a w_ → K22 a w_ := hK22
    clear hK22
    have H := HC166.out
    clear HC166
    by_cases c171 : (t439 != t443) = true
    · rw [if_pos c171] at H
      have c171b0 : (t439 != t443) = true := c171
      (try (have c171b1 : decide (t439 = t443) = false := by simpa using c171))
      (try (have c171b2 : (t439 == t443) = false := by simpa using c171))
      (try (have c171b3 : ¬ (t439 = t443) := by simpa using c171))
      clear c171
      (first | rw [c171b0] | (simp only [i64_w, i32_w]; rw [c171b0]) | skip)
      exact (by first | exact laws_FnWeightsMirrored.dead_j1 H | exact laws_FnWeightsMirrored.dead_j0 H | exact laws_FnWeightsMirrored.dead_j3 H | exact laws_FnWeightsMirrored.dead_j7 H | exact laws_FnWeightsMirrored.dead_j8 H | exact laws_FnWeightsMirrored.dead_j4 H : False).elim
    · rw [if_neg c171] at H
      have c171b0 : (t439 != t443) = false := by simpa using c171
      (try (have c171b1 : decide (t439 = t443) = true := by simpa using c171))
      (try (have c171b2 : (t439 == t443) = true := by simpa using c171))
      clear c171
      (first | rw [c171b0] | (simp only [i64_w, i32_w]; rw [c171b0]) | skip)
      replace H := Option.bind_eq_some_iff.mp H
      obtain ⟨t446, A1720, H⟩ := H
      replace H : (laws_FnWeightsMirrored.j3 kj91 l1 t434 t435 t438 t439 (!t446)) = some r := H
      have A172 := Aside0.mk A1720
      clear A1720
      have H' := Aside0.mk H
      clear H
      obtain ⟨Ao173, co173, eo173⟩ := Kd.R_slice HO441.out
      subst eo173
      obtain ⟨Ao174, co174, eo174⟩ := Kd.R_slice HO445.out
      subst eo174
      have hX := Aside0.mk (show (!t446) = false from by
        cases hx : (!t446) with
        | false => rfl
        | true => have H := H'.out; rw [hx] at H; exact (laws_FnWeightsMirrored.dead_j3 H).elim)
      go_upto_if 367 with (go_big_may; (first | (go_at_call 34; (with_reducible refine (laws_iSame.calls kj91 _ _ t438 _ _ t442 t446 _ ?side1 ?side2 ?side3 ?side4 A172.out).mono ?_); (case side1 => repeat (first | exact (Kd.R_reads' HO441.out).2.2 | (with_reducible refine Kd.C_alloc ?_ _) | (with_reducible refine Kd.C_drewN ?_ _) | (with_reducible refine Kd.C_drew ?_))); (case side2 => exact (Kd.R_reads' HO441.out).2.1); (case side3 => repeat (first | exact (Kd.R_reads' HO445.out).2.2 | (with_reducible refine Kd.C_alloc ?_ _) | (with_reducible refine Kd.C_drewN ?_ _) | (with_reducible refine Kd.C_drew ?_))); (case side4 => exact (Kd.R_reads' HO445.out).2.1); rintro e w' ⟨rfl, ⟨nd, rfl⟩⟩)))
      refine wp_cond_false (by first | exact congrArg Value.bool hX.out | exact congrArg Value.bool (by simpa [*] using hX.out) | (simp [hX.out]; done)) ?_
      go_wp2
      refine Met.intro ?_
      apply laws_FnWeightsMirrored.T23
      case HA => exact H'
      case HO_42 => exact ⟨by (with_reducible repeat (first | apply Kd.R_alloc | apply Kd.R_drewN | apply Kd.R_drew)); exact Kd.R_mono HO437.out (fun _ hk => hk.1.2)⟩
      case HO_44 => exact ⟨by (with_reducible repeat (first | apply Kd.R_alloc | apply Kd.R_drewN | apply Kd.R_drew)); exact Kd.R_mono HO441.out (fun _ hk => hk.1.2)⟩
      case HR1 => exact HR1
      case HC1 => exact HC1
      case HB => exact ⟨by repeat (first | (with_reducible first | exact HB.out | apply below_alloc | apply pw_below_drewN | apply below_drew1) | exact HB.out)⟩

end Go.Proofs.Ytgancmcbldmjaaa.QFnWeightsMirrored
