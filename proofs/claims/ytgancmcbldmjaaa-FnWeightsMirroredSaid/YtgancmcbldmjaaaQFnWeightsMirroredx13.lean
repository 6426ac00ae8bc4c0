-- Written by wprint.py (this session's program over the kit's print) out of the translation.
import Derived.Test.YtgancmcbldmjaaaQFnWeightsMirroredx12
namespace Go.Proofs.Ytgancmcbldmjaaa.QFnWeightsMirrored
open Go.RowKit Go.Proofs.YtgancmcbldmjaaaW.PrintWords Go.Proofs.YtgancmcbldmjaaaW.PrintLast Go.Proofs.YtgancmcbldmjaaaW.PrintMore
attribute [local go_sem] max2_int min2_int max_two min_two max_three min_three max_four min_four   -- for this text's walks alone
set_option linter.unusedVariables false
set_option linter.unusedSimpArgs false

set_option maxHeartbeats 0 in
set_option maxRecDepth 100000 in
theorem laws_FnWeightsMirrored.T23 (r : Bool) (w wc : World) (A1 : Option Addr) (c1 : Nat) (l1 : List Int) (HR1 : Aside0 (Kd.C (Kd.int .u8) w A1 l1.length l1)) (HC1 : Aside0 (l1.length ≤ c1)) (kq : Nat) (Ao168 : Option Addr) (co168 : Nat) (t434 : List Int) (t435 : Int) (v440 : Value) (t438 : List Int) (t439 : Bool) (x367_165 : Bool) (HA : Aside0 (laws_FnWeightsMirrored.j3 kq l1 t434 t435 t438 t439 x367_165 = some r)) (HO_42 : Aside0 (Kd.R (Kd.int .i64) 3 wc w.heap.size (fun k_ => some k_ ≠ (v440 : Value).ownBlock) (.slice Ao168 t434.length co168) t434)) (HO_44 : Aside0 (Kd.R (Kd.int .i64) 3 wc w.heap.size (fun k_ => some k_ ≠ ((.slice Ao168 t434.length co168) : Value).ownBlock) v440 t438)) (HB : Aside0 (Below w.heap.size w wc)) (z0 z2 z3 z4 z5 z6 z7 z8 z9 z10 z11 z12 z13 z14 z15 z16 z17 z18 z19 z20 z21 z22 z23 z24 z25 z26 z27 z28 z29 z30 z31 z32 z33 z34 z35 z36 z37 z38 z39 z40 z41 z46 z47 z48 z49 z50 z51 z52 z53 z54 z55 z56 z57 z58 z59 z60 z61 z62 z63 z64 z65 z66 z67 z68 z69 z70 z71 z72 z73 z74 z75 z76 z77 z78 z79 z80 z81 z82 z83 z84 z85 z86 z87 z88 z89 z90 z91 z92 z93 z94 z95 z96 z97 z98 z99 z100 z101 z102 z103 z104 z105 z106 z107 z108 z109 z110 z111 z112 z113 z114 z115 z116 z117 z118 z119 z120 z121 z122 z123 z124 z125 z126 z127 z128 z129 z130 z131 z132 z133 z134 z135 z136 z137 z138 z139 z140 z141 z142 z143 z144 z145 z146 z147 z148 z149 z150 z151 z152 z153 z154 z155 z156 z157 z158 z159 z160 z161 z162 z163 z164 z165 z166 z167 z168 z169 z170 z171 z172 z173 z174 z175 z176 z177 z178 z179 z180 z181 z182 z183 z184 z185 z186 z187 z188 z189 z190 z191 z192 z193 z194 z195 z196 z197 z198 z199 z200 z201 z202 z203 z204 z205 z206 z207 z208 z209 z210 z211 z212 z213 z214 z215 z216 z217 z218 z219 z220 z221 z222 z223 z224 z225 z226 z227 z228 z229 z230 z231 z232 z233 z234 z235 z236 z237 z238 z239 z240 z241 z242 z243 z244 z245 z246 z247 z248 z249 z250 z251 z252 z253 z254 z255 z256 z257 z258 z259 z260 z261 z262 z263 z264 z265 z266 z267 z268 z269 z270 z271 z272 z273 z274 z275 z276 z277 z278 z279 z280 z281 z282 z283 z284 z285 z286 z287 z288 z289 z290 z291 z292 z293 z294 z295 z296 z297 z298 z299 z300 z301 z302 z303 z304 z305 z306 z307 z308 z309 z310 z311 z312 z313 z314 z315 z316 z317 z318 z319 z320 z321 z322 z323 z324 z325 z326 z327 z328 z329 z330 z331 z332 z333 z334 z335 z336 z337 z338 z339 z340 z341 z342 z343 z344 z345 z346 z347 z348 z349 z350 z351 z352 z353 z354 z355 z356 z357 z358 z359 z360 z361 z362 z363 z364 z365 z366 z367 : Value) :
    Tail23 r w { tmps := #[z0, Value.slice A1 l1.length c1, z2, z3, z4, z5, z6, z7, z8, z9, z10, z11, z12, z13, z14, z15, z16, z17, z18, z19, z20, z21, z22, z23, z24, z25, z26, z27, z28, z29, z30, z31, z32, z33, z34, z35, z36, z37, z38, z39, z40, z41, Value.slice Ao168 t434.length co168, Value.int IntKind.i64 t435, v440, Value.bool t439, z46, z47, z48, z49, z50, z51, z52, z53, z54, z55, z56, z57, z58, z59, z60, z61, z62, z63, z64, z65, z66, z67, z68, z69, z70, z71, z72, z73, z74, z75, z76, z77, z78, z79, z80, z81, z82, z83, z84, z85, z86, z87, z88, z89, z90, z91, z92, z93, z94, z95, z96, z97, z98, z99, z100, z101, z102, z103, z104, z105, z106, z107, z108, z109, z110, z111, z112, z113, z114, z115, z116, z117, z118, z119, z120, z121, z122, z123, z124, z125, z126, z127, z128, z129, z130, z131, z132, z133, z134, z135, z136, z137, z138, z139, z140, z141, z142, z143, z144, z145, z146, z147, z148, z149, z150, z151, z152, z153, z154, z155, z156, z157, z158, z159, z160, z161, z162, z163, z164, z165, z166, z167, z168, z169, z170, z171, z172, z173, z174, z175, z176, z177, z178, z179, z180, z181, z182, z183, z184, z185, z186, z187, z188, z189, z190, z191, z192, z193, z194, z195, z196, z197, z198, z199, z200, z201, z202, z203, z204, z205, z206, z207, z208, z209, z210, z211, z212, z213, z214, z215, z216, z217, z218, z219, z220, z221, z222, z223, z224, z225, z226, z227, z228, z229, z230, z231, z232, z233, z234, z235, z236, z237, z238, z239, z240, z241, z242, z243, z244, z245, z246, z247, z248, z249, z250, z251, z252, z253, z254, z255, z256, z257, z258, z259, z260, z261, z262, z263, z264, z265, z266, z267, z268, z269, z270, z271, z272, z273, z274, z275, z276, z277, z278, z279, z280, z281, z282, z283, z284, z285, z286, z287, z288, z289, z290, z291, z292, z293, z294, z295, z296, z297, z298, z299, z300, z301, z302, z303, z304, z305, z306, z307, z308, z309, z310, z311, z312, z313, z314, z315, z316, z317, z318, z319, z320, z321, z322, z323, z324, z325, z326, z327, z328, z329, z330, z331, z332, z333, z334, z335, z336, z337, z338, z339, z340, z341, z342, z343, z344, z345, z346, z347, z348, z349, z350, z351, z352, z353, z354, z355, z356, z357, z358, z359, z360, z361, z362, z363, z364, z365, z366, z367, undef, undef, undef, undef, undef, undef, undef, undef, undef, undef, undef, undef, undef, undef, undef, undef, undef, undef, undef, undef, undef, undef, undef, undef, undef, undef, undef, undef, undef, undef, undef, undef, undef, undef, undef, undef, undef, undef, undef, undef, undef, undef, undef, undef, undef, undef, undef, undef, undef, undef, undef, undef, undef, undef, undef, undef, undef, undef, undef, undef, undef, undef, undef, undef, undef, undef, undef, undef, undef, undef, undef, undef, undef, undef, undef, undef, undef, undef, undef, undef, undef, undef, undef, undef, undef, undef, undef, undef, undef, undef, undef, undef, undef, undef, undef, undef], defers := [] } wc := by
  unfold Tail23
  conv => arg 2; whnf
  have HJ19 : Aside0 ((0 : Nat) ≤ 0) := ⟨Nat.le_refl 0⟩
  have HJ91 : Aside0 ((0 : Nat) ≤ 0) := ⟨Nat.le_refl 0⟩
  have HJ165 : Aside0 ((0 : Nat) ≤ 0) := ⟨Nat.le_refl 0⟩
  cases kq with
  | zero => exact absurd HA.out (by simp [laws_FnWeightsMirrored.j3])
  | succ kj165 =>
    have H := HA.out
    clear HA
    simp only [laws_FnWeightsMirrored.j3] at H
    by_cases c175 : x367_165 = true
    · subst c175
      have H1 : (none) = some r := by rw [if_pos rfl] at H; exact H
      clear H
      have H := H1
      clear H1
      exact absurd H (by simp)
    · replace c175 := Bool.eq_false_iff.mpr c175
      subst c175
      have H1 : (if t439 = true then ((impl_FilterShort.f kj165 t434 t438).bind fun bt447 => (if bt447.2 = true then (laws_FnWeightsMirrored.j4 kj165 l1 bt447.1 ((t438.length : Int) != t435)) else (laws_FnWeightsMirrored.j4 kj165 l1 bt447.1 true))) else (laws_FnWeightsMirrored.j6 kj165 l1)) = some r := by rw [if_neg (show ¬ (false = true) by decide)] at H; exact H
      clear H
      have H := H1
      clear H1
      have HC176 := Aside0.mk H
      clear H
      go_upto_if 368 with (fail)
      rename_i K23 hK23
      have hM23 : ∀ a w_, Met (Tail24 r w) a w_ → K23 a w_ := hK23
      clear hK23
      have H := HC176.out
      clear HC176
      by_cases c177 : t439 = true
      · subst c177
        have H1 : ((impl_FilterShort.f kj165 t434 t438).bind fun bt447 => (if bt447.2 = true then (laws_FnWeightsMirrored.j4 kj165 l1 bt447.1 ((t438.length : Int) != t435)) else (laws_FnWeightsMirrored.j4 kj165 l1 bt447.1 true))) = some r := by rw [if_pos rfl] at H; exact H
        clear H
        have H := H1
        clear H1
        replace H := Option.bind_eq_some_iff.mp H
        obtain ⟨⟨t447, t448⟩, A1780, H⟩ := H
        replace H : (if t448 = true then (laws_FnWeightsMirrored.j4 kj165 l1 t447 ((t438.length : Int) != t435)) else (laws_FnWeightsMirrored.j4 kj165 l1 t447 true)) = some r := H
        have A178 := Aside0.mk A1780
        clear A1780
        have HC179 := Aside0.mk H
        clear H
        obtain ⟨Ao180, co180, eo180⟩ := Kd.R_slice HO_44.out
        subst eo180
        go_upto_region 37 with (go_big_may; (first | ((with_reducible refine gate_callee (f := 42) rfl ?_); refine goesL_ (some 372) rfl rfl Try.func42 (by kernel_rfl) rfl #[.slice Ao168 t434.length co168, .slice Ao180 t438.length co180] rfl (by (try simp only [List.map_toArray, List.map_cons, List.map_nil]); first | done | rfl | (simp only [List.length_drop, List.length_take]; rfl)) ?_; (with_reducible refine (impl_FilterShort.calls kj165 _ _ t434 _ _ t438 t447 t448 _ ?side1 ?side2 ?side3 ?side4 A178.out).mono ?_); (case side1 => repeat (first | exact (Kd.R_reads' HO_42.out).2.2 | (with_reducible refine Kd.C_alloc ?_ _) | (with_reducible refine Kd.C_drewN ?_ _) | (with_reducible refine Kd.C_drew ?_))); (case side2 => exact (Kd.R_reads' HO_42.out).2.1); (case side3 => repeat (first | exact (Kd.R_reads' HO_44.out).2.2 | (with_reducible refine Kd.C_alloc ?_ _) | (with_reducible refine Kd.C_drewN ?_ _) | (with_reducible refine Kd.C_drew ?_))); (case side4 => exact (Kd.R_reads' HO_44.out).2.1); rintro e w181 ⟨v449, rfl, ho0, hb⟩; refine ⟨_, rfl, put_ ?_⟩; (conv => arg 5; dsimp only [set16_, List.set_cons_succ, List.set_cons_zero]); have n0_ := Aside0.mk (Kd.R_elder' (by (with_reducible repeat (first | apply Kd.R_alloc | apply Kd.R_drewN | apply Kd.R_drew)); exact HO_42.out) (Kd.R_base ho0) hb); have n1_ := Aside0.mk (Kd.R_elder' (by (with_reducible repeat (first | apply Kd.R_alloc | apply Kd.R_drewN | apply Kd.R_drew)); exact HO_44.out) (Kd.R_base ho0) hb); have n2_ := Aside0.mk (Kd.R_lower (Kd.R_new' (Kd.R_new' ho0 (Kd.R_lt (by (with_reducible repeat (first | apply Kd.R_alloc | apply Kd.R_drewN | apply Kd.R_drew)); exact HO_42.out))) (Kd.R_lt (by (with_reducible repeat (first | apply Kd.R_alloc | apply Kd.R_drewN | apply Kd.R_drew)); exact HO_44.out))) (below_size (by repeat (first | (with_reducible first | exact HB.out | apply below_alloc | apply pw_below_drewN | apply below_drew1) | exact HB.out)))); have n3_ := Aside0.mk (below_step (by repeat (first | (with_reducible first | exact HB.out | apply below_alloc | apply pw_below_drewN | apply below_drew1) | exact HB.out)) hb); clear HO_42; clear HO_44; clear HB; have HO_42 := n0_; have HO_44 := n1_; have HO450 := n2_; have HB := n3_; clear n0_ n1_ n2_ n3_; (try clear hb); (try clear hb2); (try clear hk); (try clear hi); (try clear ho0))))
        go_cut [382] (fun v382 wc => ∃ (kq : Nat) (x382_178 : Bool), v382 = .bool x382_178 ∧ Aside0 (laws_FnWeightsMirrored.j4 kq l1 t447 x382_178 = some r) ∧ Aside0 (kq ≤ kj165) ∧ Aside0 (Kd.R (Kd.int .i64) 3 wc w.heap.size (fun _ => True) v449 t447) ∧ Aside0 (Below w.heap.size w wc))
        case first => as_aux_lemma =>
          have H := HC179.out
          clear HC179
          by_cases c182 : t448 = true
          · subst c182
            have H1 : (laws_FnWeightsMirrored.j4 kj165 l1 t447 ((t438.length : Int) != t435)) = some r := by rw [if_pos rfl] at H; exact H
            clear H
            have H := H1
            clear H1
            have H' := Aside0.mk H
            clear H
            go_wp2
            go_meet
            case rel => exact ⟨_, (((t438.length : Int) != t435)), (by first | rfl | (simp; done) | (simp [*]; done)), H', ⟨by have := HJ19.out; have := HJ91.out; have := HJ165.out; first | omega | exact Nat.le_refl _⟩, ⟨by (with_reducible repeat (first | apply Kd.R_alloc | apply Kd.R_drewN | apply Kd.R_drew)); exact Kd.R_mono HO450.out (fun _ hk => trivial)⟩, ⟨by repeat (first | (with_reducible first | exact HB.out | apply below_alloc | apply pw_below_drewN | apply below_drew1) | exact HB.out)⟩⟩
          · replace c182 := Bool.eq_false_iff.mpr c182
            subst c182
            have H1 : (laws_FnWeightsMirrored.j4 kj165 l1 t447 true) = some r := by rw [if_neg (show ¬ (false = true) by decide)] at H; exact H
            clear H
            have H := H1
            clear H1
            exact (by first | exact laws_FnWeightsMirrored.dead_j4 H | exact laws_FnWeightsMirrored.dead_j0 H | exact laws_FnWeightsMirrored.dead_j3 H | exact laws_FnWeightsMirrored.dead_j7 H | exact laws_FnWeightsMirrored.dead_j8 H | exact laws_FnWeightsMirrored.dead_j1 H : False).elim
        case rest =>
          clear HC179
          obtain ⟨kq, x382_178, rfl, HA, HJ178, HO_48, HB⟩ := hcut
          cases kq with
          | zero => exact absurd HA.out (by simp [laws_FnWeightsMirrored.j4])
          | succ kj178 =>
            have H := HA.out
            clear HA
            simp only [laws_FnWeightsMirrored.j4] at H
            by_cases c183 : x382_178 = true
            · subst c183
              have H1 : (none) = some r := by rw [if_pos rfl] at H; exact H
              clear H
              have H := H1
              clear H1
              exact absurd H (by simp)
            · replace c183 := Bool.eq_false_iff.mpr c183
              subst c183
              have H1 : (laws_FnWeightsMirrored.l0 kj178 l1 t447 (t447.length : Int) 0) = some r := by rw [if_neg (show ¬ (false = true) by decide)] at H; exact H
              clear H
              have H := H1
              clear H1
              have H' := Aside0.mk H
              clear H
              obtain ⟨Ao184, co184, eo184⟩ := Kd.R_slice HO_48.out
              subst eo184
              go_wp2
              go_loopg [385] kj178 (fun kq v385 w' => ∃ (x385_5 : Int), v385 = .int .i64 x385_5 ∧ Aside0 (laws_FnWeightsMirrored.l0 kq l1 t447 (t447.length : Int) x385_5 = some r) ∧ Aside0 (kq ≤ kj178) ∧ Aside0 (Kd.R (Kd.int .i64) 3 w' w.heap.size (fun _ => True) (.slice Ao184 t447.length co184) t447) ∧ Aside0 (Below w.heap.size w w'))
              case atStart => exact ⟨(0), (by first | rfl | (simp; done) | (simp [*]; done)), H', ⟨Nat.le_refl _⟩, ⟨by (with_reducible repeat (first | apply Kd.R_alloc | apply Kd.R_drewN | apply Kd.R_drew)); exact HO_48.out⟩, ⟨by repeat (first | (with_reducible first | exact HB.out | apply below_alloc | apply pw_below_drewN | apply below_drew1) | exact HB.out)⟩⟩
              case round => as_aux_lemma =>
                clear H'
                obtain ⟨x385_5, rfl, HA, HK5, HO_383, HB⟩ := hrel
                cases gk with
                | zero => exact absurd HA.out (by simp [laws_FnWeightsMirrored.l0])
                | succ k5 =>
                  have H := HA.out
                  clear HA
                  simp only [laws_FnWeightsMirrored.l0] at H
                  by_cases c185 : x385_5 < (t447.length : Int)
                  · rw [if_pos c185] at H
                    have c185b0 : decide (x385_5 < (t447.length : Int)) = true := decide_eq_true c185
                    clear c185
                    by_cases c186 : 0 ≤ x385_5
                    · rw [if_pos c186] at H
                      have c186b0 : decide (0 ≤ x385_5) = true := decide_eq_true c186
                      clear c186
                      by_cases c187 : x385_5 < (t447.length : Int)
                      · rw [if_pos c187] at H
                        have c187b0 : decide (x385_5 < (t447.length : Int)) = true := decide_eq_true c187
                        clear c187
                        by_cases c188 : x385_5 = 0
                        · rw [if_pos c188] at H
                          have c188b0 : (x385_5 == 0) = true := beq_iff_eq.mpr c188
                          have c188b1 : (x385_5 != 0) = false := bne_eq_false_iff_eq.mpr c188
                          clear c188
                          by_cases c189 : (rd t447 x385_5) = 1
                          · rw [if_pos c189] at H
                            have c189b0 : ((rd t447 x385_5) == 1) = true := beq_iff_eq.mpr c189
                            have c189b1 : ((rd t447 x385_5) != 1) = false := bne_eq_false_iff_eq.mpr c189
                            clear c189
                            by_cases c190 : x385_5 > 0
                            · rw [if_pos c190] at H
                              have c190b0 : decide (0 < x385_5) = true := decide_eq_true c190
                              clear c190
                              by_cases c191 : (rd t447 x385_5) = 0
                              · rw [if_pos c191] at H
                                have c191b0 : ((rd t447 x385_5) == 0) = true := beq_iff_eq.mpr c191
                                have c191b1 : ((rd t447 x385_5) != 0) = false := bne_eq_false_iff_eq.mpr c191
                                clear c191
                                have H' := Aside0.mk H
                                clear H
                                have p451 : 0 ≤ (x385_5 : Int) := of_decide_eq_true (by first | (with_reducible assumption) | assumption)
                                have q451 : x385_5 < (t447.length : Int) := of_decide_eq_true (by first | (with_reducible assumption) | assumption)
                                obtain ⟨ad451, e451, hx451_0⟩ := Kd.at_int (Kd.R_reads' HO_383.out).2.2 x385_5 p451 q451
                                cases e451
                                replace p451 := eq_true p451
                                replace q451 := eq_true q451
                                go_wp2
                                go_roundg k5
                                case measure => have := HJ19.out; have := HJ91.out; have := HJ165.out; have := HJ178.out; have := HK5.out; omega
                                case rel => exact ⟨(wrap64 (x385_5 + 1)), (by first | rfl | (simp; done) | (simp [*]; done)), H', ⟨by have := HJ19.out; have := HJ91.out; have := HJ165.out; have := HJ178.out; have := HK5.out; omega⟩, ⟨by (with_reducible repeat (first | apply Kd.R_alloc | apply Kd.R_drewN | apply Kd.R_drew)); exact HO_383.out⟩, ⟨by repeat (first | (with_reducible first | exact HB.out | apply below_alloc | apply pw_below_drewN | apply below_drew1) | exact HB.out)⟩⟩
                              · rw [if_neg c191] at H
                                exact absurd H (by simp)
                            · rw [if_neg c190] at H
                              have c190b0 : decide (0 < x385_5) = false := decide_eq_false c190
                              clear c190
                              have H' := Aside0.mk H
                              clear H
                              have p451 : 0 ≤ (x385_5 : Int) := of_decide_eq_true (by first | (with_reducible assumption) | assumption)
                              have q451 : x385_5 < (t447.length : Int) := of_decide_eq_true (by first | (with_reducible assumption) | assumption)
                              obtain ⟨ad451, e451, hx451_0⟩ := Kd.at_int (Kd.R_reads' HO_383.out).2.2 x385_5 p451 q451
                              cases e451
                              replace p451 := eq_true p451
                              replace q451 := eq_true q451
                              go_wp2
                              go_roundg k5
                              case measure => have := HJ19.out; have := HJ91.out; have := HJ165.out; have := HJ178.out; have := HK5.out; omega
                              case rel => exact ⟨(wrap64 (x385_5 + 1)), (by first | rfl | (simp; done) | (simp [*]; done)), H', ⟨by have := HJ19.out; have := HJ91.out; have := HJ165.out; have := HJ178.out; have := HK5.out; omega⟩, ⟨by (with_reducible repeat (first | apply Kd.R_alloc | apply Kd.R_drewN | apply Kd.R_drew)); exact HO_383.out⟩, ⟨by repeat (first | (with_reducible first | exact HB.out | apply below_alloc | apply pw_below_drewN | apply below_drew1) | exact HB.out)⟩⟩
                          · rw [if_neg c189] at H
                            exact absurd H (by simp)
                        · rw [if_neg c188] at H
                          have c188b0 : (x385_5 == 0) = false := beq_eq_false_iff_ne.mpr c188
                          have c188b1 : (x385_5 != 0) = true := bne_iff_ne.mpr c188
                          by_cases c192 : x385_5 > 0
                          · rw [if_pos c192] at H
                            have c192b0 : decide (0 < x385_5) = true := decide_eq_true c192
                            clear c192
                            by_cases c193 : (rd t447 x385_5) = 0
                            · rw [if_pos c193] at H
                              have c193b0 : ((rd t447 x385_5) == 0) = true := beq_iff_eq.mpr c193
                              have c193b1 : ((rd t447 x385_5) != 0) = false := bne_eq_false_iff_eq.mpr c193
                              clear c193
                              have H' := Aside0.mk H
                              clear H
                              have p451 : 0 ≤ (x385_5 : Int) := of_decide_eq_true (by first | (with_reducible assumption) | assumption)
                              have q451 : x385_5 < (t447.length : Int) := of_decide_eq_true (by first | (with_reducible assumption) | assumption)
                              obtain ⟨ad451, e451, hx451_0⟩ := Kd.at_int (Kd.R_reads' HO_383.out).2.2 x385_5 p451 q451
                              cases e451
                              replace p451 := eq_true p451
                              replace q451 := eq_true q451
                              go_wp2
                              go_roundg k5
                              case measure => have := HJ19.out; have := HJ91.out; have := HJ165.out; have := HJ178.out; have := HK5.out; omega
                              case rel => exact ⟨(wrap64 (x385_5 + 1)), (by first | rfl | (simp; done) | (simp [*]; done)), H', ⟨by have := HJ19.out; have := HJ91.out; have := HJ165.out; have := HJ178.out; have := HK5.out; omega⟩, ⟨by (with_reducible repeat (first | apply Kd.R_alloc | apply Kd.R_drewN | apply Kd.R_drew)); exact HO_383.out⟩, ⟨by repeat (first | (with_reducible first | exact HB.out | apply below_alloc | apply pw_below_drewN | apply below_drew1) | exact HB.out)⟩⟩
                            · rw [if_neg c193] at H
                              exact absurd H (by simp)
                          · rw [if_neg c192] at H
                            have c192b0 : decide (0 < x385_5) = false := decide_eq_false c192
                            clear c192
                            have H' := Aside0.mk H
                            clear H
                            have p451 : 0 ≤ (x385_5 : Int) := of_decide_eq_true (by first | (with_reducible assumption) | assumption)
                            have q451 : x385_5 < (t447.length : Int) := of_decide_eq_true (by first | (with_reducible assumption) | assumption)
                            obtain ⟨ad451, e451, hx451_0⟩ := Kd.at_int (Kd.R_reads' HO_383.out).2.2 x385_5 p451 q451
                            cases e451
                            replace p451 := eq_true p451
                            replace q451 := eq_true q451
                            go_wp2
                            go_roundg k5
                            case measure => have := HJ19.out; have := HJ91.out; have := HJ165.out; have := HJ178.out; have := HK5.out; omega
                            case rel => exact ⟨(wrap64 (x385_5 + 1)), (by first | rfl | (simp; done) | (simp [*]; done)), H', ⟨by have := HJ19.out; have := HJ91.out; have := HJ165.out; have := HJ178.out; have := HK5.out; omega⟩, ⟨by (with_reducible repeat (first | apply Kd.R_alloc | apply Kd.R_drewN | apply Kd.R_drew)); exact HO_383.out⟩, ⟨by repeat (first | (with_reducible first | exact HB.out | apply below_alloc | apply pw_below_drewN | apply below_drew1) | exact HB.out)⟩⟩
                      · rw [if_neg c187] at H
                        exact absurd H (by simp)
                    · rw [if_neg c186] at H
                      exact absurd H (by simp)
                  · rw [if_neg c185] at H
                    have c185b0 : decide (x385_5 < (t447.length : Int)) = false := decide_eq_false c185
                    clear c185
                    have H' := Aside0.mk H
                    clear H
                    go_wp2
                    refine Met.intro ?_
                    apply laws_FnWeightsMirrored.T24
                    case HA => exact H'
                    case HR1 => exact HR1
                    case HC1 => exact HC1
                    case HB => exact ⟨by repeat (first | (with_reducible first | exact HB.out | apply below_alloc | apply pw_below_drewN | apply below_drew1) | exact HB.out)⟩
      · replace c177 := Bool.eq_false_iff.mpr c177
        subst c177
        have H1 : (laws_FnWeightsMirrored.j6 kj165 l1) = some r := by rw [if_neg (show ¬ (false = true) by decide)] at H; exact H
        clear H
        have H := H1
        clear H1
        have H' := Aside0.mk H
        clear H
        go_wp2
        refine Met.intro ?_
        apply laws_FnWeightsMirrored.T24
        case HA => exact H'
        case HR1 => exact HR1
        case HC1 => exact HC1
        case HB => exact ⟨by repeat (first | (with_reducible first | exact HB.out | apply below_alloc | apply pw_below_drewN | apply below_drew1) | exact HB.out)⟩

end Go.Proofs.Ytgancmcbldmjaaa.QFnWeightsMirrored
