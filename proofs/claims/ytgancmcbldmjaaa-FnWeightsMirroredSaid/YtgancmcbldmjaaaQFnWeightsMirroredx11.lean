-- Written by wprint.py (this session's program over the kit's print) out of the translation.
import Derived.Test.YtgancmcbldmjaaaQFnWeightsMirroredx10
namespace Go.Proofs.Ytgancmcbldmjaaa.QFnWeightsMirrored
open Go.RowKit Go.Proofs.YtgancmcbldmjaaaW.PrintWords Go.Proofs.YtgancmcbldmjaaaW.PrintLast Go.Proofs.YtgancmcbldmjaaaW.PrintMore
attribute [local go_sem] max2_int min2_int max_two min_two max_three min_three max_four min_four   -- for this text's walks alone
set_option linter.unusedVariables false
set_option linter.unusedSimpArgs false

set_option maxHeartbeats 0 in
set_option maxRecDepth 100000 in
theorem laws_FnWeightsMirrored.T28 (r : Bool) (w wc : World) (kq : Nat) (Ao199 : Option Addr) (co199 : Nat) (t452 : List Int) (t453 : Int) (v458 : Value) (t456 : List Int) (t457 : Bool) (x430_196 : Bool) (HA : Aside0 (laws_FnWeightsMirrored.j7 kq t452 t453 t456 t457 x430_196 = some r)) (HO_52 : Aside0 (Kd.R (Kd.int .i64) 3 wc w.heap.size (fun k_ => some k_ ≠ (v458 : Value).ownBlock) (.slice Ao199 t452.length co199) t452)) (HO_54 : Aside0 (Kd.R (Kd.int .i64) 3 wc w.heap.size (fun k_ => some k_ ≠ ((.slice Ao199 t452.length co199) : Value).ownBlock) v458 t456)) (HB : Aside0 (Below w.heap.size w wc)) (z0 z1 z2 z3 z4 z5 z6 z7 z8 z9 z10 z11 z12 z13 z14 z15 z16 z17 z18 z19 z20 z21 z22 z23 z24 z25 z26 z27 z28 z29 z30 z31 z32 z33 z34 z35 z36 z37 z38 z39 z40 z41 z42 z43 z44 z45 z46 z47 z48 z49 z50 z51 z56 z57 z58 z59 z60 z61 z62 z63 z64 z65 z66 z67 z68 z69 z70 z71 z72 z73 z74 z75 z76 z77 z78 z79 z80 z81 z82 z83 z84 z85 z86 z87 z88 z89 z90 z91 z92 z93 z94 z95 z96 z97 z98 z99 z100 z101 z102 z103 z104 z105 z106 z107 z108 z109 z110 z111 z112 z113 z114 z115 z116 z117 z118 z119 z120 z121 z122 z123 z124 z125 z126 z127 z128 z129 z130 z131 z132 z133 z134 z135 z136 z137 z138 z139 z140 z141 z142 z143 z144 z145 z146 z147 z148 z149 z150 z151 z152 z153 z154 z155 z156 z157 z158 z159 z160 z161 z162 z163 z164 z165 z166 z167 z168 z169 z170 z171 z172 z173 z174 z175 z176 z177 z178 z179 z180 z181 z182 z183 z184 z185 z186 z187 z188 z189 z190 z191 z192 z193 z194 z195 z196 z197 z198 z199 z200 z201 z202 z203 z204 z205 z206 z207 z208 z209 z210 z211 z212 z213 z214 z215 z216 z217 z218 z219 z220 z221 z222 z223 z224 z225 z226 z227 z228 z229 z230 z231 z232 z233 z234 z235 z236 z237 z238 z239 z240 z241 z242 z243 z244 z245 z246 z247 z248 z249 z250 z251 z252 z253 z254 z255 z256 z257 z258 z259 z260 z261 z262 z263 z264 z265 z266 z267 z268 z269 z270 z271 z272 z273 z274 z275 z276 z277 z278 z279 z280 z281 z282 z283 z284 z285 z286 z287 z288 z289 z290 z291 z292 z293 z294 z295 z296 z297 z298 z299 z300 z301 z302 z303 z304 z305 z306 z307 z308 z309 z310 z311 z312 z313 z314 z315 z316 z317 z318 z319 z320 z321 z322 z323 z324 z325 z326 z327 z328 z329 z330 z331 z332 z333 z334 z335 z336 z337 z338 z339 z340 z341 z342 z343 z344 z345 z346 z347 z348 z349 z350 z351 z352 z353 z354 z355 z356 z357 z358 z359 z360 z361 z362 z363 z364 z365 z366 z367 z368 z369 z370 z371 z372 z373 z374 z375 z376 z377 z378 z379 z380 z381 z382 z383 z384 z385 z386 z387 z388 z389 z390 z391 z392 z393 z394 z395 z396 z397 z398 z399 z400 z401 z402 z403 z404 z405 z406 z407 z408 z409 z410 z411 z412 z413 z414 z415 z416 z417 z418 z419 z420 z421 z422 z423 z424 z425 z426 z427 z428 z429 z430 z431 z432 z433 z434 z435 z436 z437 z438 z439 z440 z441 z442 z443 z444 z445 z446 z447 z448 z449 z450 z451 z452 z453 z454 z455 z456 z457 z458 z459 z460 z461 z462 z463 : Value) :
    Tail28 r w { tmps := #[z0, z1, z2, z3, z4, z5, z6, z7, z8, z9, z10, z11, z12, z13, z14, z15, z16, z17, z18, z19, z20, z21, z22, z23, z24, z25, z26, z27, z28, z29, z30, z31, z32, z33, z34, z35, z36, z37, z38, z39, z40, z41, z42, z43, z44, z45, z46, z47, z48, z49, z50, z51, Value.slice Ao199 t452.length co199, Value.int IntKind.i64 t453, v458, Value.bool t457, z56, z57, z58, z59, z60, z61, z62, z63, z64, z65, z66, z67, z68, z69, z70, z71, z72, z73, z74, z75, z76, z77, z78, z79, z80, z81, z82, z83, z84, z85, z86, z87, z88, z89, z90, z91, z92, z93, z94, z95, z96, z97, z98, z99, z100, z101, z102, z103, z104, z105, z106, z107, z108, z109, z110, z111, z112, z113, z114, z115, z116, z117, z118, z119, z120, z121, z122, z123, z124, z125, z126, z127, z128, z129, z130, z131, z132, z133, z134, z135, z136, z137, z138, z139, z140, z141, z142, z143, z144, z145, z146, z147, z148, z149, z150, z151, z152, z153, z154, z155, z156, z157, z158, z159, z160, z161, z162, z163, z164, z165, z166, z167, z168, z169, z170, z171, z172, z173, z174, z175, z176, z177, z178, z179, z180, z181, z182, z183, z184, z185, z186, z187, z188, z189, z190, z191, z192, z193, z194, z195, z196, z197, z198, z199, z200, z201, z202, z203, z204, z205, z206, z207, z208, z209, z210, z211, z212, z213, z214, z215, z216, z217, z218, z219, z220, z221, z222, z223, z224, z225, z226, z227, z228, z229, z230, z231, z232, z233, z234, z235, z236, z237, z238, z239, z240, z241, z242, z243, z244, z245, z246, z247, z248, z249, z250, z251, z252, z253, z254, z255, z256, z257, z258, z259, z260, z261, z262, z263, z264, z265, z266, z267, z268, z269, z270, z271, z272, z273, z274, z275, z276, z277, z278, z279, z280, z281, z282, z283, z284, z285, z286, z287, z288, z289, z290, z291, z292, z293, z294, z295, z296, z297, z298, z299, z300, z301, z302, z303, z304, z305, z306, z307, z308, z309, z310, z311, z312, z313, z314, z315, z316, z317, z318, z319, z320, z321, z322, z323, z324, z325, z326, z327, z328, z329, z330, z331, z332, z333, z334, z335, z336, z337, z338, z339, z340, z341, z342, z343, z344, z345, z346, z347, z348, z349, z350, z351, z352, z353, z354, z355, z356, z357, z358, z359, z360, z361, z362, z363, z364, z365, z366, z367, z368, z369, z370, z371, z372, z373, z374, z375, z376, z377, z378, z379, z380, z381, z382, z383, z384, z385, z386, z387, z388, z389, z390, z391, z392, z393, z394, z395, z396, z397, z398, z399, z400, z401, z402, z403, z404, z405, z406, z407, z408, z409, z410, z411, z412, z413, z414, z415, z416, z417, z418, z419, z420, z421, z422, z423, z424, z425, z426, z427, z428, z429, z430, z431, z432, z433, z434, z435, z436, z437, z438, z439, z440, z441, z442, z443, z444, z445, z446, z447, z448, z449, z450, z451, z452, z453, z454, z455, z456, z457, z458, z459, z460, z461, z462, z463], defers := [] } wc := by
  unfold Tail28
  conv => arg 2; whnf
  have HJ19 : Aside0 ((0 : Nat) ≤ 0) := ⟨Nat.le_refl 0⟩
  have HJ91 : Aside0 ((0 : Nat) ≤ 0) := ⟨Nat.le_refl 0⟩
  have HJ165 : Aside0 ((0 : Nat) ≤ 0) := ⟨Nat.le_refl 0⟩
  have HJ175 : Aside0 ((0 : Nat) ≤ 0) := ⟨Nat.le_refl 0⟩
  have HJ196 : Aside0 ((0 : Nat) ≤ 0) := ⟨Nat.le_refl 0⟩
  cases kq with
  | zero => exact absurd HA.out (by simp [laws_FnWeightsMirrored.j7])
  | succ kj196 =>
    have H := HA.out
    clear HA
    simp only [laws_FnWeightsMirrored.j7] at H
    by_cases c206 : x430_196 = true
    · subst c206
      have H1 : (none) = some r := by rw [if_pos rfl] at H; exact H
      clear H
      have H := H1
      clear H1
      exact absurd H (by simp)
    · replace c206 := Bool.eq_false_iff.mpr c206
      subst c206
      have H1 : (if t457 = true then (if (t456.length : Int) = (wrap64 ((wrap64 ((wrap64 ((t452.length : Int) - 1)) * t453)) + 1)) then ((laws_iSum.f kj196 t456).bind fun t465 => ((laws_iSum.f kj196 t452).bind fun t466 => (laws_FnWeightsMirrored.j8 kj196 t452 t453 t456 (t465 != t466)))) else (laws_FnWeightsMirrored.j8 kj196 t452 t453 t456 true)) else (some true)) = some r := by rw [if_neg (show ¬ (false = true) by decide)] at H; exact H
      clear H
      have H := H1
      clear H1
      by_cases c207 : t457 = true
      · subst c207
        have H1 : (if (t456.length : Int) = (wrap64 ((wrap64 ((wrap64 ((t452.length : Int) - 1)) * t453)) + 1)) then ((laws_iSum.f kj196 t456).bind fun t465 => ((laws_iSum.f kj196 t452).bind fun t466 => (laws_FnWeightsMirrored.j8 kj196 t452 t453 t456 (t465 != t466)))) else (laws_FnWeightsMirrored.j8 kj196 t452 t453 t456 true)) = some r := by rw [if_pos rfl] at H; exact H
        clear H
        have H := H1
        clear H1
        have HC208 := Aside0.mk H
        clear H
        go_upto_region 51 with (fail)
        go_cut [447] (fun v447 wc => ∃ (kq : Nat) (x447_207 : Bool), v447 = .bool x447_207 ∧ Aside0 (laws_FnWeightsMirrored.j8 kq t452 t453 t456 x447_207 = some r) ∧ Aside0 (kq ≤ kj196) ∧ Aside0 (Kd.R (Kd.int .i64) 3 wc w.heap.size (fun k_ => some k_ ≠ (v458 : Value).ownBlock) (.slice Ao199 t452.length co199) t452) ∧ Aside0 (Kd.R (Kd.int .i64) 3 wc w.heap.size (fun k_ => some k_ ≠ ((.slice Ao199 t452.length co199) : Value).ownBlock) v458 t456) ∧ Aside0 (Below w.heap.size w wc))
        case first => as_aux_lemma =>
          have H := HC208.out
          clear HC208
          by_cases c209 : (t456.length : Int) = (wrap64 ((wrap64 ((wrap64 ((t452.length : Int) - 1)) * t453)) + 1))
          · rw [if_pos c209] at H
            have c209b0 : ((t456.length : Int) == (wrap64 ((wrap64 ((wrap64 ((t452.length : Int) - 1)) * t453)) + 1))) = true := beq_iff_eq.mpr c209
            have c209b1 : ((t456.length : Int) != (wrap64 ((wrap64 ((wrap64 ((t452.length : Int) - 1)) * t453)) + 1))) = false := bne_eq_false_iff_eq.mpr c209
            clear c209
            (first | rw [c209b0] | (simp only [i64_w, i32_w]; rw [c209b0]) | skip)
            replace H := Option.bind_eq_some_iff.mp H
            obtain ⟨t465, A2100, H⟩ := H
            replace H : ((laws_iSum.f kj196 t452).bind fun t466 => (laws_FnWeightsMirrored.j8 kj196 t452 t453 t456 (t465 != t466))) = some r := H
            have A210 := Aside0.mk A2100
            clear A2100
            replace H := Option.bind_eq_some_iff.mp H
            obtain ⟨t466, A2110, H⟩ := H
            replace H : (laws_FnWeightsMirrored.j8 kj196 t452 t453 t456 (t465 != t466)) = some r := H
            have A211 := Aside0.mk A2110
            clear A2110
            have H' := Aside0.mk H
            clear H
            obtain ⟨Ao212, co212, eo212⟩ := Kd.R_slice HO_54.out
            subst eo212
            go_wp2_with (first | (go_at_call 46; (with_reducible refine (laws_iSum.calls kj196 _ _ t456 t465 _ ?side1 ?side2 A210.out).mono ?_); (case side1 => repeat (first | exact (Kd.R_reads' HO_54.out).2.2 | (with_reducible refine Kd.C_alloc ?_ _) | (with_reducible refine Kd.C_drewN ?_ _) | (with_reducible refine Kd.C_drew ?_))); (case side2 => exact (Kd.R_reads' HO_54.out).2.1); rintro e w' ⟨rfl, ⟨nd, rfl⟩⟩) | (go_at_call 46; (with_reducible refine (laws_iSum.calls kj196 _ _ t452 t466 _ ?side1 ?side2 A211.out).mono ?_); (case side1 => repeat (first | exact (Kd.R_reads' HO_52.out).2.2 | (with_reducible refine Kd.C_alloc ?_ _) | (with_reducible refine Kd.C_drewN ?_ _) | (with_reducible refine Kd.C_drew ?_))); (case side2 => exact (Kd.R_reads' HO_52.out).2.1); rintro e w' ⟨rfl, ⟨nd, rfl⟩⟩))
            go_meet
            case rel => exact ⟨_, ((t465 != t466)), (by first | rfl | (simp; done) | (simp [*]; done)), H', ⟨by have := HJ19.out; have := HJ91.out; have := HJ165.out; have := HJ175.out; have := HJ196.out; first | omega | exact Nat.le_refl _⟩, ⟨by (with_reducible repeat (first | apply Kd.R_alloc | apply Kd.R_drewN | apply Kd.R_drew)); exact HO_52.out⟩, ⟨by (with_reducible repeat (first | apply Kd.R_alloc | apply Kd.R_drewN | apply Kd.R_drew)); exact HO_54.out⟩, ⟨by repeat (first | (with_reducible first | exact HB.out | apply below_alloc | apply pw_below_drewN | apply below_drew1) | exact HB.out)⟩⟩
          · rw [if_neg c209] at H
            have c209b0 : ((t456.length : Int) == (wrap64 ((wrap64 ((wrap64 ((t452.length : Int) - 1)) * t453)) + 1))) = false := beq_eq_false_iff_ne.mpr c209
            have c209b1 : ((t456.length : Int) != (wrap64 ((wrap64 ((wrap64 ((t452.length : Int) - 1)) * t453)) + 1))) = true := bne_iff_ne.mpr c209
            (first | rw [c209b0] | (simp only [i64_w, i32_w]; rw [c209b0]) | skip)
            exact (by first | exact laws_FnWeightsMirrored.dead_j8 H | exact laws_FnWeightsMirrored.dead_j0 H | exact laws_FnWeightsMirrored.dead_j3 H | exact laws_FnWeightsMirrored.dead_j7 H | exact laws_FnWeightsMirrored.dead_j4 H | exact laws_FnWeightsMirrored.dead_j1 H : False).elim
        case rest =>
          clear HC208
          obtain ⟨kq, x447_207, rfl, HA, HJ207, HO_52, HO_54, HB⟩ := hcut
          cases kq with
          | zero => exact absurd HA.out (by simp [laws_FnWeightsMirrored.j8])
          | succ kj207 =>
            have H := HA.out
            clear HA
            simp only [laws_FnWeightsMirrored.j8] at H
            by_cases c214 : x447_207 = true
            · subst c214
              have H1 : (none) = some r := by rw [if_pos rfl] at H; exact H
              clear H
              have H := H1
              clear H1
              exact absurd H (by simp)
            · replace c214 := Bool.eq_false_iff.mpr c214
              subst c214
              have H1 : (laws_FnWeightsMirrored.l1 kj207 t453 t456 t452 (t452.length : Int) 0) = some r := by rw [if_neg (show ¬ (false = true) by decide)] at H; exact H
              clear H
              have H := H1
              clear H1
              have H' := Aside0.mk H
              clear H
              go_wp2
              go_loopg [450] kj207 (fun kq v450 w' => ∃ (x450_7 : Int), v450 = .int .i64 x450_7 ∧ Aside0 (laws_FnWeightsMirrored.l1 kq t453 t456 t452 (t452.length : Int) x450_7 = some r) ∧ Aside0 (kq ≤ kj207) ∧ Aside0 (Kd.R (Kd.int .i64) 3 w' w.heap.size (fun k_ => some k_ ≠ ((.slice Ao199 t452.length co199) : Value).ownBlock) v458 t456) ∧ Aside0 (Kd.R (Kd.int .i64) 3 w' w.heap.size (fun k_ => some k_ ≠ (v458 : Value).ownBlock) (.slice Ao199 t452.length co199) t452) ∧ Aside0 (Below w.heap.size w w'))
              case atStart => exact ⟨(0), (by first | rfl | (simp; done) | (simp [*]; done)), H', ⟨Nat.le_refl _⟩, ⟨by (with_reducible repeat (first | apply Kd.R_alloc | apply Kd.R_drewN | apply Kd.R_drew)); exact HO_54.out⟩, ⟨by (with_reducible repeat (first | apply Kd.R_alloc | apply Kd.R_drewN | apply Kd.R_drew)); exact HO_52.out⟩, ⟨by repeat (first | (with_reducible first | exact HB.out | apply below_alloc | apply pw_below_drewN | apply below_drew1) | exact HB.out)⟩⟩
              case round => as_aux_lemma =>
                clear H'
                obtain ⟨x450_7, rfl, HA, HK7, HO_54, HO_448, HB⟩ := hrel
                cases gk with
                | zero => exact absurd HA.out (by simp [laws_FnWeightsMirrored.l1])
                | succ k7 =>
                  have H := HA.out
                  clear HA
                  simp only [laws_FnWeightsMirrored.l1] at H
                  by_cases c215 : x450_7 < (t452.length : Int)
                  · rw [if_pos c215] at H
                    have c215b0 : decide (x450_7 < (t452.length : Int)) = true := decide_eq_true c215
                    clear c215
                    by_cases c216 : 0 ≤ x450_7
                    · rw [if_pos c216] at H
                      have c216b0 : decide (0 ≤ x450_7) = true := decide_eq_true c216
                      clear c216
                      by_cases c217 : x450_7 < (t452.length : Int)
                      · rw [if_pos c217] at H
                        have c217b0 : decide (x450_7 < (t452.length : Int)) = true := decide_eq_true c217
                        clear c217
                        obtain ⟨ji218, hji218⟩ : ∃ j_ : Int, (wrap64 (x450_7 * t453)) = j_ := ⟨_, rfl⟩
                        replace H : (if 0 ≤ (ji218) then (if (ji218) < (t456.length : Int) then (if (rd t456 (ji218)) = (rd t452 x450_7) then (laws_FnWeightsMirrored.l1 k7 t453 t456 t452 (t452.length : Int) (wrap64 (x450_7 + 1))) else (none)) else (none)) else (none)) = some r := by first | (rw [hji218] at H; exact H) | (simp only [hji218] at H ⊢; exact H)
                        have hji218w : (IntKind.i64.wrap (x450_7 * t453)) = ji218 := (i64_w _).trans hji218
                        by_cases c219 : 0 ≤ (ji218)
                        · rw [if_pos c219] at H
                          have c219b0 : decide (0 ≤ (ji218)) = true := decide_eq_true c219
                          clear c219
                          by_cases c220 : (ji218) < (t456.length : Int)
                          · rw [if_pos c220] at H
                            have c220b0 : decide ((ji218) < (t456.length : Int)) = true := decide_eq_true c220
                            clear c220
                            by_cases c221 : (rd t456 (ji218)) = (rd t452 x450_7)
                            · rw [if_pos c221] at H
                              have c221b0 : ((rd t456 (ji218)) == (rd t452 x450_7)) = true := beq_iff_eq.mpr c221
                              have c221b1 : ((rd t456 (ji218)) != (rd t452 x450_7)) = false := bne_eq_false_iff_eq.mpr c221
                              clear c221
                              have H' := Aside0.mk H
                              clear H
                              have p467 : 0 ≤ (x450_7 : Int) := of_decide_eq_true (by first | (with_reducible assumption) | assumption)
                              have q467 : x450_7 < (t452.length : Int) := of_decide_eq_true (by first | (with_reducible assumption) | assumption)
                              obtain ⟨ad467, e467, hx467_0⟩ := Kd.at_int (Kd.R_reads' HO_448.out).2.2 x450_7 p467 q467
                              cases e467
                              replace p467 := eq_true p467
                              replace q467 := eq_true q467
                              obtain ⟨Ao222, co222, eo222⟩ := Kd.R_slice HO_54.out
                              subst eo222
                              have p468 : 0 ≤ ((ji218) : Int) := of_decide_eq_true (by first | (with_reducible assumption) | assumption)
                              have q468 : (ji218) < (t456.length : Int) := of_decide_eq_true (by first | (with_reducible assumption) | assumption)
                              obtain ⟨ad468, e468, hx468_0⟩ := Kd.at_int (Kd.R_reads' HO_54.out).2.2 (ji218) p468 q468
                              cases e468
                              replace p468 := eq_true p468
                              replace q468 := eq_true q468
                              go_wp2
                              go_roundg k7
                              case measure => have := HJ19.out; have := HJ91.out; have := HJ165.out; have := HJ175.out; have := HJ196.out; have := HJ207.out; have := HK7.out; omega
                              case rel => exact ⟨(wrap64 (x450_7 + 1)), (by first | rfl | (simp; done) | (simp [*]; done)), H', ⟨by have := HJ19.out; have := HJ91.out; have := HJ165.out; have := HJ175.out; have := HJ196.out; have := HJ207.out; have := HK7.out; omega⟩, ⟨by (with_reducible repeat (first | apply Kd.R_alloc | apply Kd.R_drewN | apply Kd.R_drew)); exact HO_54.out⟩, ⟨by (with_reducible repeat (first | apply Kd.R_alloc | apply Kd.R_drewN | apply Kd.R_drew)); exact HO_448.out⟩, ⟨by repeat (first | (with_reducible first | exact HB.out | apply below_alloc | apply pw_below_drewN | apply below_drew1) | exact HB.out)⟩⟩
                            · rw [if_neg c221] at H
                              exact absurd H (by simp)
                          · rw [if_neg c220] at H
                            exact absurd H (by simp)
                        · rw [if_neg c219] at H
                          exact absurd H (by simp)
                      · rw [if_neg c217] at H
                        exact absurd H (by simp)
                    · rw [if_neg c216] at H
                      exact absurd H (by simp)
                  · rw [if_neg c215] at H
                    have c215b0 : decide (x450_7 < (t452.length : Int)) = false := decide_eq_false c215
                    clear c215
                    obtain rfl := Option.some.inj H
                    go_wp2
                    go_ret
                    exact ⟨by first | rfl | (simp [errW_none, errW_some] <;> rfl) | (simp [*, errW_none, errW_some] <;> rfl), by repeat (first | (with_reducible first | exact HB.out | apply below_alloc | apply pw_below_drewN | apply below_drew1) | exact HB.out)⟩
      · replace c207 := Bool.eq_false_iff.mpr c207
        subst c207
        have H1 : (some true) = some r := by rw [if_neg (show ¬ (false = true) by decide)] at H; exact H
        clear H
        have H := H1
        clear H1
        obtain rfl := Option.some.inj H
        go_wp2
        go_ret
        exact ⟨by first | rfl | (simp [errW_none, errW_some] <;> rfl) | (simp [*, errW_none, errW_some] <;> rfl), by repeat (first | (with_reducible first | exact HB.out | apply below_alloc | apply pw_below_drewN | apply below_drew1) | exact HB.out)⟩


end Go.Proofs.Ytgancmcbldmjaaa.QFnWeightsMirrored
