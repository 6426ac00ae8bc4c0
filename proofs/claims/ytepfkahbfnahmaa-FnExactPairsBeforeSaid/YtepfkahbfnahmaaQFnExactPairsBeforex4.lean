-- Written by wprint.py (this session's program over the kit's print) out of the translation.
import Derived.Test.YtepfkahbfnahmaaQFnExactPairsBeforex0
import Derived.Test.YtepfkahbfnahmaaQFnExactPairsBeforex3
namespace Go.Proofs.Ytepfkahbfnahmaa.QFnExactPairsBefore
open Go.RowKit Go.Proofs.YtepfkahbfnahmaaW.PrintWords Go.Proofs.YtepfkahbfnahmaaW.PrintLast Go.Proofs.YtepfkahbfnahmaaW.PrintMore
attribute [local go_sem] max2_int min2_int max_two min_two max_three min_three max_four min_four   -- for this text's walks alone
set_option linter.unusedVariables false
set_option linter.unusedSimpArgs false

/-! ### impl_shifted: function 87 -/
def impl_shifted.j0 : Nat → Int → Int → Int → Bool → Option (Int)
  | 0, _, _, _, _ => none
  | k + 1, x0, x1, x2, x7 => if x7 = true then (if 0 ≤ (wrap64 (x1 - 1)) then (if 0 ≤ x1 then (some (shr .i64 (wrap64 (x0 + (shl .i64 1 (wrap64 (x1 - 1))))) x1)) else (none)) else (none)) else (if x2 = 2 then (if x0 < 0 then (if 0 ≤ x1 then (some (wrap64 (-(shr .i64 (wrap64 (-x0)) x1)))) else (none)) else (if 0 ≤ x1 then (some (shr .i64 x0 x1)) else (none))) else (if 0 ≤ x1 then (some (shr .i64 x0 x1)) else (none)))
def impl_shifted.f (k : Nat) (a0 : Int) (a1 : Int) (a2 : Int) : Option (Int) := if a2 = 1 then (impl_shifted.j0 k a0 a1 a2 (decide (a1 > 0))) else (impl_shifted.j0 k a0 a1 a2 false)
theorem impl_shifted.mono_l : ∀ k, (∀ y0 y1 y2 y3, LeO (impl_shifted.j0 k y0 y1 y2 y3) (impl_shifted.j0 (k + 1) y0 y1 y2 y3))
  | 0 => fun _ _ _ _ r h => by simp [impl_shifted.j0] at h
  | k + 1 => by
    have ih0 := impl_shifted.mono_l k
    · intro y0 y1 y2 y3
      unfold impl_shifted.j0
      repeat' first
      | (with_reducible exact ih0 _ _ _ _)
      | (with_reducible exact LeO.refl _)
      | (with_reducible exact LeO.none _)
      | (with_reducible refine LeO.ite ?_ ?_)
      | (with_reducible refine LeO.bind ?_ (fun _ => ?_))
      | exact ih0 _ _ _ _
      | exact LeO.none _
      | refine LeO.ite ?_ ?_
      | refine LeO.bind ?_ (fun _ => ?_)
theorem impl_shifted.mono : ∀ a0 a1 a2 k, LeO (impl_shifted.f k a0 a1 a2) (impl_shifted.f (k + 1) a0 a1 a2) := by
  intro a0 a1 a2 k
  have ih0 := impl_shifted.mono_l k
  unfold impl_shifted.f
  repeat' first
      | (with_reducible exact ih0 _ _ _ _)
      | (with_reducible exact LeO.refl _)
      | (with_reducible exact LeO.none _)
      | (with_reducible refine LeO.ite ?_ ?_)
      | (with_reducible refine LeO.bind ?_ (fun _ => ?_))
      | exact ih0 _ _ _ _
      | exact LeO.none _
      | refine LeO.ite ?_ ?_
      | refine LeO.bind ?_ (fun _ => ?_)
set_option maxHeartbeats 8000000 in
set_option maxRecDepth 100000 in
theorem impl_shifted.calls (k : Nat) (a0 : Int) (a1 : Int) (a2 : Int) (r : Int) (w : World) (h : impl_shifted.f k a0 a1 a2 = some r) :
    Calls Try.prog 87 #[.int .i64 a0, .int .i64 a1, .int .i64 a2] w fun e w' => e = .returned (.int .i64 r) ∧ Drawn0 w w' := by
  have H : (if a2 = 1 then (impl_shifted.j0 k a0 a1 a2 (decide (a1 > 0))) else (impl_shifted.j0 k a0 a1 a2 false)) = some r := h
  clear h
  have HC4 := Aside0.mk H
  clear H
  go_enter Try.func87, Try.ntmps87
  go_upto_region 1 with (fail)
  go_cut [7] (fun v7 wc => ∃ (kq : Nat) (x7_3 : Bool), v7 = .bool x7_3 ∧ Aside0 (impl_shifted.j0 kq a0 a1 a2 x7_3 = some r) ∧ Aside0 (kq ≤ k) ∧ Drawn0 w wc)
  case first =>
    have H := HC4.out
    clear HC4
    by_cases c5 : a2 = 1
    · rw [if_pos c5] at H
      have c5b0 : (a2 == 1) = true := beq_iff_eq.mpr c5
      have c5b1 : (a2 != 1) = false := bne_eq_false_iff_eq.mpr c5
      clear c5
      (first | rw [c5b0] | (simp only [i64_w, i32_w]; rw [c5b0]) | skip)
      have H' := Aside0.mk H
      clear H
      go_wp2
      go_meet
      case rel => exact ⟨_, (decide (a1 > 0)), (by first | rfl | (simp; done) | (simp [*]; done)), H', ⟨by first | omega | exact Nat.le_refl _⟩, by repeat (first | exact Drawn0.refl _ | apply Drawn0.step)⟩
    · rw [if_neg c5] at H
      have c5b0 : (a2 == 1) = false := beq_eq_false_iff_ne.mpr c5
      have c5b1 : (a2 != 1) = true := bne_iff_ne.mpr c5
      (first | rw [c5b0] | (simp only [i64_w, i32_w]; rw [c5b0]) | skip)
      have H' := Aside0.mk H
      clear H
      go_wp2
      go_meet
      case rel => exact ⟨_, (false), (by first | rfl | (simp; done) | (simp [*]; done)), H', ⟨by first | omega | exact Nat.le_refl _⟩, by repeat (first | exact Drawn0.refl _ | apply Drawn0.step)⟩
  case rest =>
    clear HC4
    try clear p2
    try clear c5
    try clear c5b0
    try clear c5b1
    obtain ⟨kq, x7_3, rfl, HA, HJ3, ⟨mc3, rfl⟩⟩ := hcut
    cases kq with
    | zero => exact absurd HA.out (by simp [impl_shifted.j0])
    | succ kj3 =>
      have H := HA.out
      clear HA
      simp only [impl_shifted.j0] at H
      by_cases c6 : x7_3 = true
      · subst c6
        have H1 : (if 0 ≤ (wrap64 (a1 - 1)) then (if 0 ≤ a1 then (some (shr .i64 (wrap64 (a0 + (shl .i64 1 (wrap64 (a1 - 1))))) a1)) else (none)) else (none)) = some r := by rw [if_pos rfl] at H; exact H
        clear H
        have H := H1
        clear H1
        obtain ⟨ji7, hji7⟩ : ∃ j_ : Int, (wrap64 (a1 - 1)) = j_ := ⟨_, rfl⟩
        replace H : (if 0 ≤ (ji7) then (if 0 ≤ a1 then (some (shr .i64 (wrap64 (a0 + (shl .i64 1 (ji7)))) a1)) else (none)) else (none)) = some r := by first | (rw [hji7] at H; exact H) | (simp only [hji7] at H ⊢; exact H)
        have hji7w : (IntKind.i64.wrap (a1 - 1)) = ji7 := (i64_w _).trans hji7
        by_cases c8 : 0 ≤ (ji7)
        · rw [if_pos c8] at H
          have c8b0 := eq_true c8
          have c8b1 : decide (0 ≤ (ji7)) = true := decide_eq_true c8
          clear c8
          obtain ⟨ji9, hji9⟩ : ∃ j_ : Int, (shl .i64 1 (ji7)) = j_ := ⟨_, rfl⟩
          replace H : (if 0 ≤ a1 then (some (shr .i64 (wrap64 (a0 + (ji9))) a1)) else (none)) = some r := by first | (rw [hji9] at H; exact H) | (simp only [hji9] at H ⊢; exact H)
          have hji9_ : (IntKind.i64.wrap (1 * 2 ^ min (ji7).toNat 64)) = ji9 := hji9
          have hji9z : (ji7) ≤ 64 → (IntKind.i64.wrap (1 * 2 ^ (ji7).toNat)) = ji9 := shl_small hji9
          have hji9u : (IntKind.i64.wrap (2 ^ min (ji7).toNat 64)) = ji9 := by have h_ := hji9_; rw [Int.one_mul] at h_; exact h_
          have hji9v : (ji7) ≤ 64 → (IntKind.i64.wrap (2 ^ (ji7).toNat)) = ji9 := fun hle_ => by have h_ := hji9z hle_; rw [Int.one_mul] at h_; exact h_
          have hji9y : (wrap64 (1 * 2 ^ min (ji7).toNat 64)) = ji9 := (i64_w _).symm.trans hji9_
          have hji9x : (ji7) ≤ 64 → (wrap64 (1 * 2 ^ (ji7).toNat)) = ji9 := fun h_ => (i64_w _).symm.trans (hji9z h_)
          by_cases c10 : 0 ≤ a1
          · rw [if_pos c10] at H
            have c10b0 := eq_true c10
            have c10b1 : decide (0 ≤ a1) = true := decide_eq_true c10
            clear c10
            obtain ⟨ji11, hji11⟩ : ∃ j_ : Int, (shr .i64 (wrap64 (a0 + (ji9))) a1) = j_ := ⟨_, rfl⟩
            replace H : (some ji11) = some r := by first | (rw [hji11] at H; exact H) | (simp only [hji11] at H ⊢; exact H)
            have hji11_ : ((wrap64 (a0 + (ji9))) / 2 ^ min a1.toNat 64) = ji11 := hji11
            have hji11z : a1 ≤ 64 → ((wrap64 (a0 + (ji9))) / 2 ^ a1.toNat) = ji11 := shr_small hji11
            obtain rfl := Option.some.inj H
            go_wp2
            go_ret
            exact ⟨by first | rfl | (simp; done) | (simp only [← hji7, ← hji9, ← hji11] <;> (first | rfl | simp)) | (simp [*]; done), by repeat (first | exact Drawn0.refl _ | apply Drawn0.step)⟩
          · rw [if_neg c10] at H
            exact absurd H (by simp)
        · rw [if_neg c8] at H
          exact absurd H (by simp)
      · replace c6 := Bool.eq_false_iff.mpr c6
        subst c6
        have H1 : (if a2 = 2 then (if a0 < 0 then (if 0 ≤ a1 then (some (wrap64 (-(shr .i64 (wrap64 (-a0)) a1)))) else (none)) else (if 0 ≤ a1 then (some (shr .i64 a0 a1)) else (none))) else (if 0 ≤ a1 then (some (shr .i64 a0 a1)) else (none))) = some r := by rw [if_neg (show ¬ (false = true) by decide)] at H; exact H
        clear H
        have H := H1
        clear H1
        by_cases c12 : a2 = 2
        · rw [if_pos c12] at H
          have c12b0 : (a2 == 2) = true := beq_iff_eq.mpr c12
          have c12b1 : (a2 != 2) = false := bne_eq_false_iff_eq.mpr c12
          clear c12
          by_cases c13 : a0 < 0
          · rw [if_pos c13] at H
            have c13b0 : decide (a0 < 0) = true := decide_eq_true c13
            clear c13
            by_cases c14 : 0 ≤ a1
            · rw [if_pos c14] at H
              have c14b0 := eq_true c14
              have c14b1 : decide (0 ≤ a1) = true := decide_eq_true c14
              clear c14
              obtain ⟨ji15, hji15⟩ : ∃ j_ : Int, (shr .i64 (wrap64 (-a0)) a1) = j_ := ⟨_, rfl⟩
              replace H : (some (wrap64 (-(ji15)))) = some r := by first | (rw [hji15] at H; exact H) | (simp only [hji15] at H ⊢; exact H)
              have hji15_ : ((wrap64 (-a0)) / 2 ^ min a1.toNat 64) = ji15 := hji15
              have hji15z : a1 ≤ 64 → ((wrap64 (-a0)) / 2 ^ a1.toNat) = ji15 := shr_small hji15
              obtain rfl := Option.some.inj H
              go_wp2
              go_ret
              exact ⟨by first | rfl | (simp; done) | (simp only [← hji15] <;> (first | rfl | simp)) | (simp [*]; done), by repeat (first | exact Drawn0.refl _ | apply Drawn0.step)⟩
            · rw [if_neg c14] at H
              exact absurd H (by simp)
          · rw [if_neg c13] at H
            have c13b0 : decide (a0 < 0) = false := decide_eq_false c13
            clear c13
            by_cases c16 : 0 ≤ a1
            · rw [if_pos c16] at H
              have c16b0 := eq_true c16
              have c16b1 : decide (0 ≤ a1) = true := decide_eq_true c16
              clear c16
              obtain ⟨ji17, hji17⟩ : ∃ j_ : Int, (shr .i64 a0 a1) = j_ := ⟨_, rfl⟩
              replace H : (some ji17) = some r := by first | (rw [hji17] at H; exact H) | (simp only [hji17] at H ⊢; exact H)
              have hji17_ : (a0 / 2 ^ min a1.toNat 64) = ji17 := hji17
              have hji17z : a1 ≤ 64 → (a0 / 2 ^ a1.toNat) = ji17 := shr_small hji17
              obtain rfl := Option.some.inj H
              go_wp2
              go_ret
              exact ⟨by first | rfl | (simp; done) | (simp only [← hji17] <;> (first | rfl | simp)) | (simp [*]; done), by repeat (first | exact Drawn0.refl _ | apply Drawn0.step)⟩
            · rw [if_neg c16] at H
              exact absurd H (by simp)
        · rw [if_neg c12] at H
          have c12b0 : (a2 == 2) = false := beq_eq_false_iff_ne.mpr c12
          have c12b1 : (a2 != 2) = true := bne_iff_ne.mpr c12
          by_cases c18 : 0 ≤ a1
          · rw [if_pos c18] at H
            have c18b0 := eq_true c18
            have c18b1 : decide (0 ≤ a1) = true := decide_eq_true c18
            clear c18
            obtain ⟨ji19, hji19⟩ : ∃ j_ : Int, (shr .i64 a0 a1) = j_ := ⟨_, rfl⟩
            replace H : (some ji19) = some r := by first | (rw [hji19] at H; exact H) | (simp only [hji19] at H ⊢; exact H)
            have hji19_ : (a0 / 2 ^ min a1.toNat 64) = ji19 := hji19
            have hji19z : a1 ≤ 64 → (a0 / 2 ^ a1.toNat) = ji19 := shr_small hji19
            obtain rfl := Option.some.inj H
            go_wp2
            go_ret
            exact ⟨by first | rfl | (simp; done) | (simp only [← hji19] <;> (first | rfl | simp)) | (simp [*]; done), by repeat (first | exact Drawn0.refl _ | apply Drawn0.step)⟩
          · rw [if_neg c18] at H
            exact absurd H (by simp)

/-! ### impl_Second_raw: function 105 -/
def impl_Second_raw.f (k : Nat) (a0_0 : Int) (a0_1 : Int) (a0_2 : Int) (a0_3 : Int) (a0_4 : Int) (a0_5 : Bool) (a1_0 : Int) (a1_1 : Int) (a2 : Int) : Option (Int) := (impl_shifted.f k (wrap64 ((wrap64 (a0_0 * a1_0)) + (wrap64 (a0_1 * a1_1)))) a0_2 a0_3).bind fun t180 => (some (wrap64 (t180 + a2)))
theorem impl_Second_raw.mono : ∀ a0 a1 a2 a3 a4 a5 a6 a7 a8 k, LeO (impl_Second_raw.f k a0 a1 a2 a3 a4 a5 a6 a7 a8) (impl_Second_raw.f (k + 1) a0 a1 a2 a3 a4 a5 a6 a7 a8) := by
  intro a0 a1 a2 a3 a4 a5 a6 a7 a8 k
  unfold impl_Second_raw.f
  repeat' first
      | (with_reducible exact impl_shifted.mono _ _ _ _)
      | (with_reducible exact LeO.refl _)
      | (with_reducible exact LeO.none _)
      | (with_reducible refine LeO.ite ?_ ?_)
      | (with_reducible refine LeO.bind ?_ (fun _ => ?_))
      | exact impl_shifted.mono _ _ _ _
      | exact LeO.none _
      | refine LeO.ite ?_ ?_
      | refine LeO.bind ?_ (fun _ => ?_)
set_option maxHeartbeats 8000000 in
set_option maxRecDepth 100000 in
theorem impl_Second_raw.calls (k : Nat) (a0_0 : Int) (a0_1 : Int) (a0_2 : Int) (a0_3 : Int) (a0_4 : Int) (a0_5 : Bool) (a1_0 : Int) (a1_1 : Int) (a2 : Int) (r : Int) (w : World) (h : impl_Second_raw.f k a0_0 a0_1 a0_2 a0_3 a0_4 a0_5 a1_0 a1_1 a2 = some r) :
    Calls Try.prog 105 #[.agg #[.int .i64 a0_0, .int .i64 a0_1, .int .i64 a0_2, .int .i64 a0_3, .int .i64 a0_4, .bool a0_5], .agg #[.int .i64 a1_0, .int .i64 a1_1], .int .i64 a2] w fun e w' => e = .returned (.int .i64 r) ∧ Below w.heap.size w w' := by
  have hu45 := Try.underlying45
  have hu77 := Try.underlying77
  have HB := Aside0.mk (Below.refl w.heap.size w)
  have H : ((impl_shifted.f k (wrap64 ((wrap64 (a0_0 * a1_0)) + (wrap64 (a0_1 * a1_1)))) a0_2 a0_3).bind fun t180 => (some (wrap64 (t180 + a2)))) = some r := h
  clear h
  replace H := Option.bind_eq_some_iff.mp H
  obtain ⟨t180, A40, H⟩ := H
  replace H : (some (wrap64 (t180 + a2))) = some r := H
  have A4 := Aside0.mk A40
  clear A40
  obtain rfl := Option.some.inj H
  go_enter Try.func105, Try.ntmps105
  go_wp2_with (first | ((with_reducible refine gate_dst (N := 3) rfl ?_); refine box_event ?hg (N := 3) ?hd (cs := #[.int .i64 a0_0, .int .i64 a0_1, .int .i64 a0_2, .int .i64 a0_3, .int .i64 a0_4, .bool a0_5]) (t := 45) ?hr ?_; (case hd => rfl); (case hg => rfl); (case hr => first | (go_simp; done) | (go_simp; rfl)); intro gb178 hg w5 hbox hb; have n0_ := Aside0.mk (below_step (by repeat (first | (with_reducible first | exact HB.out | apply below_alloc | apply pw_below_drewN | apply below_drew1) | exact HB.out)) hb); have n1_ := Aside0.mk (hbox); have n2_ := Aside0.mk ((by rw [hg]; exact (below_size (by repeat (first | (with_reducible first | exact HB.out | apply below_alloc | apply pw_below_drewN | apply below_drew1) | exact HB.out))) : w.heap.size ≤ gb178)); have n3_ := Aside0.mk ((by rw [hg]; exact (below_size (by repeat (first | (with_reducible first | exact HB.out | apply below_alloc | apply pw_below_drewN | apply below_drew1) | exact HB.out))) : w.heap.size ≤ gb178)); clear HB; have HB := n0_; have BK178 := n1_; have GW178 := n2_; have GE178 := n3_; clear n0_ n1_ n2_ n3_; clear hb hbox hg) | ((with_reducible refine gate_dst (N := 4) rfl ?_); refine box_event ?hg (N := 4) ?hd (cs := #[.int .i64 a1_0, .int .i64 a1_1]) (t := 77) ?hr ?_; (case hd => rfl); (case hg => rfl); (case hr => first | (go_simp; done) | (go_simp; rfl)); intro gb179 hg w6 hbox hb; have n0_ := Aside0.mk (blk_below (g := gb178) (o := .cells #[.int .i64 a0_0, .int .i64 a0_1, .int .i64 a0_2, .int .i64 a0_3, .int .i64 a0_4, .bool a0_5] 45 (0, 0)) (by (with_reducible repeat (first | refine blk_drewN ?_ _ | refine blk_drew ?_ | refine blk_alloc ?_ _)); exact BK178.out) hb); have n1_ := Aside0.mk (below_step (by repeat (first | (with_reducible first | exact HB.out | apply below_alloc | apply pw_below_drewN | apply below_drew1 | refine below_set ?_ GE178.out) | exact HB.out)) hb); have n2_ := Aside0.mk (hbox); have n3_ := Aside0.mk ((by rw [hg]; exact (below_size (by repeat (first | (with_reducible first | exact HB.out | apply below_alloc | apply pw_below_drewN | apply below_drew1 | refine below_set ?_ GE178.out) | exact HB.out))) : w.heap.size ≤ gb179)); have n4_ := Aside0.mk ((by rw [hg]; exact (below_size (by repeat (first | (with_reducible first | exact HB.out | apply below_alloc | apply pw_below_drewN | apply below_drew1 | refine below_set ?_ GE178.out) | exact HB.out))) : w.heap.size ≤ gb179)); have n5_ := Aside0.mk ((by rw [hg]; exact Nat.ne_of_lt (blk_lt (g := gb178) (o := .cells #[.int .i64 a0_0, .int .i64 a0_1, .int .i64 a0_2, .int .i64 a0_3, .int .i64 a0_4, .bool a0_5] 45 (0, 0)) (by (with_reducible repeat (first | refine blk_drewN ?_ _ | refine blk_drew ?_ | refine blk_alloc ?_ _)); exact BK178.out)) : gb178 ≠ gb179)); have n6_ := Aside0.mk ((by rw [hg]; exact Nat.ne_of_gt (blk_lt (g := gb178) (o := .cells #[.int .i64 a0_0, .int .i64 a0_1, .int .i64 a0_2, .int .i64 a0_3, .int .i64 a0_4, .bool a0_5] 45 (0, 0)) (by (with_reducible repeat (first | refine blk_drewN ?_ _ | refine blk_drew ?_ | refine blk_alloc ?_ _)); exact BK178.out)) : gb179 ≠ gb178)); clear BK178; clear HB; have BK178 := n0_; have HB := n1_; have BK179 := n2_; have GW179 := n3_; have GE179 := n4_; have NB178_179 := n5_; have NB179_178 := n6_; clear n0_ n1_ n2_ n3_ n4_ n5_ n6_; clear hb hbox hg; have hnb7 := NB178_179.out; have hnc7 := NB179_178.out; have hcz8_0 : w6.cell? ⟨gb178, 0, none⟩ = some (.int .i64 a0_0) := (blk_cell BK178.out 0).trans rfl; have hcz8_1 : w6.cell? ⟨gb178, 1, none⟩ = some (.int .i64 a0_1) := (blk_cell BK178.out 1).trans rfl; have hcz8_2 : w6.cell? ⟨gb178, 2, none⟩ = some (.int .i64 a0_2) := (blk_cell BK178.out 2).trans rfl; have hcz8_3 : w6.cell? ⟨gb178, 3, none⟩ = some (.int .i64 a0_3) := (blk_cell BK178.out 3).trans rfl; have hcz8_4 : w6.cell? ⟨gb178, 4, none⟩ = some (.int .i64 a0_4) := (blk_cell BK178.out 4).trans rfl; have hcz8_5 : w6.cell? ⟨gb178, 5, none⟩ = some (.bool a0_5) := (blk_cell BK178.out 5).trans rfl; have hfz8_0 := blk_frozen BK178.out 0; have hfz8_1 := blk_frozen BK178.out 1; have hfz8_2 := blk_frozen BK178.out 2; have hfz8_3 := blk_frozen BK178.out 3; have hfz8_4 := blk_frozen BK178.out 4; have hfz8_5 := blk_frozen BK178.out 5; have hcz9_0 : w6.cell? ⟨gb179, 0, none⟩ = some (.int .i64 a1_0) := (blk_cell BK179.out 0).trans rfl; have hcz9_1 : w6.cell? ⟨gb179, 1, none⟩ = some (.int .i64 a1_1) := (blk_cell BK179.out 1).trans rfl; have hfz9_0 := blk_frozen BK179.out 0; have hfz9_1 := blk_frozen BK179.out 1) | ((with_reducible refine gate_callee (f := 87) rfl ?_); refine goesL_ (some 22) rfl rfl Try.func87 (by kernel_rfl) rfl #[.int .i64 (wrap64 ((wrap64 (a0_0 * a1_0)) + (wrap64 (a0_1 * a1_1)))), .int .i64 a0_2, .int .i64 a0_3] rfl (by (try simp only [List.map_toArray, List.map_cons, List.map_nil]); first | done | rfl | (simp only [List.length_drop, List.length_take]; rfl)) ?_; (with_reducible refine (impl_shifted.calls k (wrap64 ((wrap64 (a0_0 * a1_0)) + (wrap64 (a0_1 * a1_1)))) a0_2 a0_3 t180 _ A4.out).mono ?_); rintro e w' ⟨rfl, ⟨nd, rfl⟩⟩; refine ⟨_, rfl, ?_⟩))
  go_ret
  exact ⟨by first | rfl | (simp [errW_none, errW_some] <;> rfl) | (simp [*, errW_none, errW_some] <;> rfl), by repeat (first | (with_reducible first | exact HB.out | apply below_alloc | apply pw_below_drewN | apply below_drew1 | refine below_set ?_ GE178.out | refine below_set ?_ GE179.out) | exact HB.out)⟩

/-! ### impl_Second_step: function 72 -/
def impl_Second_step.f (k : Nat) (a0_0 : Int) (a0_1 : Int) (a0_2 : Int) (a0_3 : Int) (a0_4 : Int) (a0_5 : Bool) (a1_0 : Int) (a1_1 : Int) (a2 : Int) : Option (Int × Int) := (impl_Second_raw.f k a0_0 a0_1 a0_2 a0_3 a0_4 a0_5 a1_0 a1_1 a2).bind fun t184 => ((impl_Word_fit.f a0_4 a0_5 t184).bind fun t185 => (some (t185, a1_0)))
theorem impl_Second_step.mono : ∀ a0 a1 a2 a3 a4 a5 a6 a7 a8 k, LeO (impl_Second_step.f k a0 a1 a2 a3 a4 a5 a6 a7 a8) (impl_Second_step.f (k + 1) a0 a1 a2 a3 a4 a5 a6 a7 a8) := by
  intro a0 a1 a2 a3 a4 a5 a6 a7 a8 k
  unfold impl_Second_step.f
  repeat' first
      | (with_reducible exact impl_Second_raw.mono _ _ _ _ _ _ _ _ _ _)
      | (with_reducible exact LeO.refl _)
      | (with_reducible exact LeO.none _)
      | (with_reducible refine LeO.ite ?_ ?_)
      | (with_reducible refine LeO.bind ?_ (fun _ => ?_))
      | exact impl_Second_raw.mono _ _ _ _ _ _ _ _ _ _
      | exact LeO.none _
      | refine LeO.ite ?_ ?_
      | refine LeO.bind ?_ (fun _ => ?_)
def impl_Second_step.T1 : Bool × List (List Nat × List Nat) := (true, [([], []), ([0], [0]), ([], []), ([], []), ([], []), ([2, 3, 4], [2, 3, 4]), ([1, 5, 5], [1, 5]), ([], []), ([7], [7]), ([6, 8], [6, 8]), ([9, 6, 0, 1, 2, 3, 4, 5, 6, 7, 8, 9], [9])])
def impl_Second_step.B1 : List Nat := [0, 1, 0, 0, 0, 28, 63, 0, 128, 511, 1023]
theorem impl_Second_step.tab1 : rtab .any (opsOf Try.f72 1) = impl_Second_step.T1 := by kernel_rfl
theorem impl_Second_step.bits1 : waitsOk impl_Second_step.T1.2 impl_Second_step.B1 = true := by kernel_rfl
set_option maxHeartbeats 8000000 in
set_option maxRecDepth 100000 in
theorem impl_Second_step.calls (k : Nat) (a0_0 : Int) (a0_1 : Int) (a0_2 : Int) (a0_3 : Int) (a0_4 : Int) (a0_5 : Bool) (a1_0 : Int) (a1_1 : Int) (a2 : Int) (r1 : Int) (r2 : Int) (w : World) (h : impl_Second_step.f k a0_0 a0_1 a0_2 a0_3 a0_4 a0_5 a1_0 a1_1 a2 = some (r1, r2)) :
    Calls Try.prog 72 #[.agg #[.int .i64 a0_0, .int .i64 a0_1, .int .i64 a0_2, .int .i64 a0_3, .int .i64 a0_4, .bool a0_5], .agg #[.int .i64 a1_0, .int .i64 a1_1], .int .i64 a2] w fun e w' => e = .returned (.agg #[.int .i64 r1, .int .i64 r2]) ∧ Below w.heap.size w w' := by
  have hu45 := Try.underlying45
  have hu77 := Try.underlying77
  have hu28 := Try.underlying28
  have HB := Aside0.mk (Below.refl w.heap.size w)
  have H : ((impl_Second_raw.f k a0_0 a0_1 a0_2 a0_3 a0_4 a0_5 a1_0 a1_1 a2).bind fun t184 => ((impl_Word_fit.f a0_4 a0_5 t184).bind fun t185 => (some (t185, a1_0)))) = some (r1, r2) := h
  clear h
  replace H := Option.bind_eq_some_iff.mp H
  obtain ⟨t184, A40, H⟩ := H
  replace H : ((impl_Word_fit.f a0_4 a0_5 t184).bind fun t185 => (some (t185, a1_0))) = some (r1, r2) := H
  have A4 := Aside0.mk A40
  clear A40
  replace H := Option.bind_eq_some_iff.mp H
  obtain ⟨t185, A50, H⟩ := H
  replace H : (some (t185, a1_0)) = some (r1, r2) := H
  have A5 := Aside0.mk A50
  clear A50
  simp only [Option.some.injEq, Prod.mk.injEq] at H
  obtain ⟨rfl, rfl⟩ := H
  go_enter Try.func72, Try.ntmps72
  try go_wp2_with (first | ((with_reducible refine gate_dst (N := 3) rfl ?_); refine box_event ?hg (N := 3) ?hd (cs := #[.int .i64 a0_0, .int .i64 a0_1, .int .i64 a0_2, .int .i64 a0_3, .int .i64 a0_4, .bool a0_5]) (t := 45) ?hr ?_; (case hd => rfl); (case hg => rfl); (case hr => first | (go_simp; done) | (go_simp; rfl)); intro gb181 hg w6 hbox hb; have n0_ := Aside0.mk (below_step (by repeat (first | (with_reducible first | exact HB.out | apply below_alloc | apply pw_below_drewN | apply below_drew1) | exact HB.out)) hb); have n1_ := Aside0.mk (hbox); have n2_ := Aside0.mk ((by rw [hg]; exact (below_size (by repeat (first | (with_reducible first | exact HB.out | apply below_alloc | apply pw_below_drewN | apply below_drew1) | exact HB.out))) : w.heap.size ≤ gb181)); have n3_ := Aside0.mk ((by rw [hg]; exact (below_size (by repeat (first | (with_reducible first | exact HB.out | apply below_alloc | apply pw_below_drewN | apply below_drew1) | exact HB.out))) : w.heap.size ≤ gb181)); clear HB; have HB := n0_; have BK181 := n1_; have GW181 := n2_; have GE181 := n3_; clear n0_ n1_ n2_ n3_; clear hb hbox hg) | ((with_reducible refine gate_dst (N := 4) rfl ?_); refine box_event ?hg (N := 4) ?hd (cs := #[.int .i64 a1_0, .int .i64 a1_1]) (t := 77) ?hr ?_; (case hd => rfl); (case hg => rfl); (case hr => first | (go_simp; done) | (go_simp; rfl)); intro gb182 hg w7 hbox hb; have n0_ := Aside0.mk (blk_below (g := gb181) (o := .cells #[.int .i64 a0_0, .int .i64 a0_1, .int .i64 a0_2, .int .i64 a0_3, .int .i64 a0_4, .bool a0_5] 45 (0, 0)) (by (with_reducible repeat (first | refine blk_drewN ?_ _ | refine blk_drew ?_ | refine blk_alloc ?_ _)); exact BK181.out) hb); have n1_ := Aside0.mk (below_step (by repeat (first | (with_reducible first | exact HB.out | apply below_alloc | apply pw_below_drewN | apply below_drew1 | refine below_set ?_ GE181.out) | exact HB.out)) hb); have n2_ := Aside0.mk (hbox); have n3_ := Aside0.mk ((by rw [hg]; exact (below_size (by repeat (first | (with_reducible first | exact HB.out | apply below_alloc | apply pw_below_drewN | apply below_drew1 | refine below_set ?_ GE181.out) | exact HB.out))) : w.heap.size ≤ gb182)); have n4_ := Aside0.mk ((by rw [hg]; exact (below_size (by repeat (first | (with_reducible first | exact HB.out | apply below_alloc | apply pw_below_drewN | apply below_drew1 | refine below_set ?_ GE181.out) | exact HB.out))) : w.heap.size ≤ gb182)); have n5_ := Aside0.mk ((by rw [hg]; exact Nat.ne_of_lt (blk_lt (g := gb181) (o := .cells #[.int .i64 a0_0, .int .i64 a0_1, .int .i64 a0_2, .int .i64 a0_3, .int .i64 a0_4, .bool a0_5] 45 (0, 0)) (by (with_reducible repeat (first | refine blk_drewN ?_ _ | refine blk_drew ?_ | refine blk_alloc ?_ _)); exact BK181.out)) : gb181 ≠ gb182)); have n6_ := Aside0.mk ((by rw [hg]; exact Nat.ne_of_gt (blk_lt (g := gb181) (o := .cells #[.int .i64 a0_0, .int .i64 a0_1, .int .i64 a0_2, .int .i64 a0_3, .int .i64 a0_4, .bool a0_5] 45 (0, 0)) (by (with_reducible repeat (first | refine blk_drewN ?_ _ | refine blk_drew ?_ | refine blk_alloc ?_ _)); exact BK181.out)) : gb182 ≠ gb181)); clear BK181; clear HB; have BK181 := n0_; have HB := n1_; have BK182 := n2_; have GW182 := n3_; have GE182 := n4_; have NB181_182 := n5_; have NB182_181 := n6_; clear n0_ n1_ n2_ n3_ n4_ n5_ n6_; clear hb hbox hg) | ((with_reducible refine gate_dst (N := 6) rfl ?_); refine box_event ?hg (N := 6) ?hd (cs := #[.int .i64 0, .int .i64 0]) (t := 77) ?hr ?_; (case hd => rfl); (case hg => rfl); (case hr => first | (go_simp; done) | (go_simp; rfl)); intro gb183 hg w8 hbox hb; have n0_ := Aside0.mk (blk_below (g := gb181) (o := .cells #[.int .i64 a0_0, .int .i64 a0_1, .int .i64 a0_2, .int .i64 a0_3, .int .i64 a0_4, .bool a0_5] 45 (0, 0)) (by (with_reducible repeat (first | refine blk_drewN ?_ _ | refine blk_drew ?_ | refine blk_alloc ?_ _)); exact BK181.out) hb); have n1_ := Aside0.mk (blk_below (g := gb182) (o := .cells #[.int .i64 a1_0, .int .i64 a1_1] 77 (0, 0)) (by (with_reducible repeat (first | refine blk_drewN ?_ _ | refine blk_drew ?_ | refine blk_alloc ?_ _)); exact BK182.out) hb); have n2_ := Aside0.mk (below_step (by repeat (first | (with_reducible first | exact HB.out | apply below_alloc | apply pw_below_drewN | apply below_drew1 | refine below_set ?_ GE181.out | refine below_set ?_ GE182.out) | exact HB.out)) hb); have n3_ := Aside0.mk (hbox); have n4_ := Aside0.mk ((by rw [hg]; exact (below_size (by repeat (first | (with_reducible first | exact HB.out | apply below_alloc | apply pw_below_drewN | apply below_drew1 | refine below_set ?_ GE181.out | refine below_set ?_ GE182.out) | exact HB.out))) : w.heap.size ≤ gb183)); have n5_ := Aside0.mk ((by rw [hg]; exact (below_size (by repeat (first | (with_reducible first | exact HB.out | apply below_alloc | apply pw_below_drewN | apply below_drew1 | refine below_set ?_ GE181.out | refine below_set ?_ GE182.out) | exact HB.out))) : w.heap.size ≤ gb183)); have n6_ := Aside0.mk ((by rw [hg]; exact Nat.ne_of_lt (blk_lt (g := gb181) (o := .cells #[.int .i64 a0_0, .int .i64 a0_1, .int .i64 a0_2, .int .i64 a0_3, .int .i64 a0_4, .bool a0_5] 45 (0, 0)) (by (with_reducible repeat (first | refine blk_drewN ?_ _ | refine blk_drew ?_ | refine blk_alloc ?_ _)); exact BK181.out)) : gb181 ≠ gb183)); have n7_ := Aside0.mk ((by rw [hg]; exact Nat.ne_of_gt (blk_lt (g := gb181) (o := .cells #[.int .i64 a0_0, .int .i64 a0_1, .int .i64 a0_2, .int .i64 a0_3, .int .i64 a0_4, .bool a0_5] 45 (0, 0)) (by (with_reducible repeat (first | refine blk_drewN ?_ _ | refine blk_drew ?_ | refine blk_alloc ?_ _)); exact BK181.out)) : gb183 ≠ gb181)); have n8_ := Aside0.mk ((by rw [hg]; exact Nat.ne_of_lt (blk_lt (g := gb182) (o := .cells #[.int .i64 a1_0, .int .i64 a1_1] 77 (0, 0)) (by (with_reducible repeat (first | refine blk_drewN ?_ _ | refine blk_drew ?_ | refine blk_alloc ?_ _)); exact BK182.out)) : gb182 ≠ gb183)); have n9_ := Aside0.mk ((by rw [hg]; exact Nat.ne_of_gt (blk_lt (g := gb182) (o := .cells #[.int .i64 a1_0, .int .i64 a1_1] 77 (0, 0)) (by (with_reducible repeat (first | refine blk_drewN ?_ _ | refine blk_drew ?_ | refine blk_alloc ?_ _)); exact BK182.out)) : gb183 ≠ gb182)); clear BK181; clear BK182; clear HB; have BK181 := n0_; have BK182 := n1_; have HB := n2_; have BK183 := n3_; have GW183 := n4_; have GE183 := n5_; have NB181_183 := n6_; have NB183_181 := n7_; have NB182_183 := n8_; have NB183_182 := n9_; clear n0_ n1_ n2_ n3_ n4_ n5_ n6_ n7_ n8_ n9_; clear hb hbox hg))
  have n0_ := Aside0.mk (blk_drew BK181.out)
  have n1_ := Aside0.mk (blk_drew BK182.out)
  have n2_ := Aside0.mk (blk_drew BK183.out)
  have n3_ := Aside0.mk (below_drew1 HB.out)
  clear BK181
  clear BK182
  clear BK183
  clear HB
  have BK181 := n0_
  have BK182 := n1_
  have BK183 := n2_
  have HB := n3_
  clear n0_ n1_ n2_ n3_
  refine start_ (n := 11) (S := fun w' => w'.cell? ⟨gb181, 0, none⟩ = some (.int .i64 a0_0) ∧ w'.cell? ⟨gb181, 1, none⟩ = some (.int .i64 a0_1) ∧ w'.cell? ⟨gb181, 2, none⟩ = some (.int .i64 a0_2) ∧ w'.cell? ⟨gb181, 3, none⟩ = some (.int .i64 a0_3) ∧ w'.cell? ⟨gb181, 4, none⟩ = some (.int .i64 a0_4) ∧ w'.cell? ⟨gb181, 5, none⟩ = some (.bool a0_5) ∧ w'.cell? ⟨gb182, 0, none⟩ = some (.int .i64 a1_0) ∧ w'.cell? ⟨gb182, 1, none⟩ = some (.int .i64 a1_1)) (ds := []) #[false, false, false, false, false, false, false, false, false, false, false] (by kernel_rfl) rfl rfl ⟨(blk_cell BK181.out 0).trans rfl, (blk_cell BK181.out 1).trans rfl, (blk_cell BK181.out 2).trans rfl, (blk_cell BK181.out 3).trans rfl, (blk_cell BK181.out 4).trans rfl, (blk_cell BK181.out 5).trans rfl, (blk_cell BK182.out 0).trans rfl, (blk_cell BK182.out 1).trans rfl⟩ (fun hHeld => ?_); refine with_tabW impl_Second_step.tab1 impl_Second_step.bits1 (fun HT_ HW_ => ?_)
  generalize w8.drew = w9 at BK181 BK182 BK183 HB hHeld ⊢
  refine pure_ (i := 0) (N := some 7) (v := ?_) (a' := ?_) #[true, false, false, false, false, false, false, false, false, false, false] rfl rfl (any_of HT_.out (by kernel_rfl)) (fun _ _ _ h => h) (Or.inl ⟨by rfl, ?_⟩) ?_ ?_
  rotate_left
  · intro w'
    go_simp
    with_reducible rfl
  rotate_left
  · simp only [Act.put, List.setIfInBounds_toArray, List.set_cons_zero, List.set_cons_succ, i64_w, i32_w]
    rfl
  refine pure_ (i := 4) (N := some 11) (v := ?_) (a' := ?_) #[true, false, false, false, true, false, false, false, false, false, false] rfl rfl (any_of HT_.out (by kernel_rfl)) (fun _ _ _ h => h) (Or.inl ⟨by rfl, ?_⟩) ?_ ?_
  rotate_left
  · intro w'
    go_simp
    with_reducible rfl
  rotate_left
  · simp only [Act.put, List.setIfInBounds_toArray, List.set_cons_zero, List.set_cons_succ, i64_w, i32_w]
    rfl
  refine pure_ (i := 7) (N := some 14) (v := ?_) (a' := ?_) #[true, false, false, false, true, false, false, true, false, false, false] rfl rfl (any_of HT_.out (by kernel_rfl)) (fun _ _ _ h => h) (Or.inl ⟨by rfl, ?_⟩) ?_ ?_
  rotate_left
  · intro w'
    go_simp
    with_reducible rfl
  rotate_left
  · simp only [Act.put, List.setIfInBounds_toArray, List.set_cons_zero, List.set_cons_succ, i64_w, i32_w]
    rfl
  refine take_ (i := 1) (N := some 8) (v := ?_) (a' := ?_) #[true, true, false, false, true, false, false, true, false, false, false] rfl rfl (take_ofW HT_.out HW_.out (by kernel_rfl)) (fun _ _ _ h => h) (Or.inl ⟨by rfl, ?_⟩) hHeld ?_ ?_
  rotate_left
  · rintro w' ⟨s0, s1, s2, s3, s4, s5, s6, s7⟩
    go_simp
    with_reducible rfl
  rotate_left
  · simp only [Act.put, List.setIfInBounds_toArray, List.set_cons_zero, List.set_cons_succ, i64_w, i32_w]
    rfl
  refine take_ (i := 2) (N := some 9) (v := ?_) (a' := ?_) #[true, true, true, false, true, false, false, true, false, false, false] rfl rfl (take_ofW HT_.out HW_.out (by kernel_rfl)) (fun _ _ _ h => h) (Or.inl ⟨by rfl, ?_⟩) hHeld ?_ ?_
  rotate_left
  · rintro w' ⟨s0, s1, s2, s3, s4, s5, s6, s7⟩
    go_simp
    with_reducible rfl
  rotate_left
  · simp only [Act.put, List.setIfInBounds_toArray, List.set_cons_zero, List.set_cons_succ, i64_w, i32_w]
    rfl
  refine take_ (i := 3) (N := some 10) (v := ?_) (a' := ?_) #[true, true, true, true, true, false, false, true, false, false, false] rfl rfl (take_ofW HT_.out HW_.out (by kernel_rfl)) (fun _ _ _ h => h) (Or.inl ⟨by rfl, ?_⟩) hHeld ?_ ?_
  rotate_left
  · rintro w' ⟨s0, s1, s2, s3, s4, s5, s6, s7⟩
    go_simp
    with_reducible rfl
  rotate_left
  · simp only [Act.put, List.setIfInBounds_toArray, List.set_cons_zero, List.set_cons_succ, i64_w, i32_w]
    rfl
  refine take_ (i := 8) (N := some 15) (v := ?_) (a' := ?_) #[true, true, true, true, true, false, false, true, true, false, false] rfl rfl (take_ofW HT_.out HW_.out (by kernel_rfl)) (fun _ _ _ h => h) (Or.inl ⟨by rfl, ?_⟩) hHeld ?_ ?_
  rotate_left
  · rintro w' ⟨s0, s1, s2, s3, s4, s5, s6, s7⟩
    go_simp
    with_reducible rfl
  rotate_left
  · simp only [Act.put, List.setIfInBounds_toArray, List.set_cons_zero, List.set_cons_succ, i64_w, i32_w]
    rfl
  refine one_ (i := 5) (N := some 12) #[true, true, true, true, true, true, false, true, true, false, false] rfl rfl (one_of HT_.out (by kernel_rfl)) (by decide) (fun K hK => ?_)
  refine goes_ Try.func105 (by kernel_rfl) rfl #[.agg #[.int .i64 a0_0, .int .i64 a0_1, .int .i64 a0_2, .int .i64 a0_3, .int .i64 a0_4, .bool a0_5], .agg #[.int .i64 a1_0, .int .i64 a1_1], .int .i64 a2] (by rfl) rfl rfl (by (try simp only [List.map_toArray, List.map_cons, List.map_nil]); first | done | rfl | (simp only [List.length_drop, List.length_take]; rfl)) ?_
  with_reducible refine (impl_Second_raw.calls k a0_0 a0_1 a0_2 a0_3 a0_4 a0_5 a1_0 a1_1 a2 t184 _ A4.out).mono ?_
  rintro e w10 ⟨rfl, hb⟩
  refine ⟨_, rfl, ?_⟩
  have n0_ := Aside0.mk (blk_below (g := gb181) (o := .cells #[.int .i64 a0_0, .int .i64 a0_1, .int .i64 a0_2, .int .i64 a0_3, .int .i64 a0_4, .bool a0_5] 45 (0, 0)) (by (with_reducible repeat (first | refine blk_drewN ?_ _ | refine blk_drew ?_ | refine blk_alloc ?_ _)); exact BK181.out) hb)
  have n1_ := Aside0.mk (blk_below (g := gb182) (o := .cells #[.int .i64 a1_0, .int .i64 a1_1] 77 (0, 0)) (by (with_reducible repeat (first | refine blk_drewN ?_ _ | refine blk_drew ?_ | refine blk_alloc ?_ _)); exact BK182.out) hb)
  have n2_ := Aside0.mk (blk_below (g := gb183) (o := .cells #[.int .i64 0, .int .i64 0] 77 (0, 0)) (by (with_reducible repeat (first | refine blk_drewN ?_ _ | refine blk_drew ?_ | refine blk_alloc ?_ _)); exact BK183.out) hb)
  have n3_ := Aside0.mk (below_step (by repeat (first | (with_reducible first | exact HB.out | apply below_alloc | apply pw_below_drewN | apply below_drew1 | refine below_set ?_ GE181.out | refine below_set ?_ GE182.out | refine below_set ?_ GE183.out) | exact HB.out)) hb)
  clear BK181
  clear BK182
  clear BK183
  clear HB
  have BK181 := n0_
  have BK182 := n1_
  have BK183 := n2_
  have HB := n3_
  clear n0_ n1_ n2_ n3_
  (try clear hb)
  (try clear hb2)
  (try clear hk)
  (try clear hi)
  refine hK.out _ _ ⟨(blk_cell BK181.out 0).trans rfl, (blk_cell BK181.out 1).trans rfl, (blk_cell BK181.out 2).trans rfl, (blk_cell BK181.out 3).trans rfl, (blk_cell BK181.out 4).trans rfl, (blk_cell BK181.out 5).trans rfl, (blk_cell BK182.out 0).trans rfl, (blk_cell BK182.out 1).trans rfl⟩ (fun hHeld => ?_)
  clear hK K
  refine norm_ (a' := ?_) ?_ ?_
  rotate_left
  · show Act.put _ (some 12) _ = _
    simp only [Act.put, List.setIfInBounds_toArray, List.set_cons_zero, List.set_cons_succ, i64_w, i32_w]
    rfl
  refine one_ (i := 6) (N := some 13) #[true, true, true, true, true, true, true, true, true, false, false] rfl rfl (one_of HT_.out (by kernel_rfl)) (by decide) (fun K hK => ?_)
  refine goes_ Try.func86 (by kernel_rfl) rfl #[.agg #[.int .i64 a0_4, .bool a0_5], .int .i64 t184] (by rfl) rfl rfl (by (try simp only [List.map_toArray, List.map_cons, List.map_nil]); first | done | rfl | (simp only [List.length_drop, List.length_take]; rfl)) ?_
  with_reducible refine (impl_Word_fit.calls a0_4 a0_5 t184 t185 _ A5.out).mono ?_
  rintro e w11 ⟨rfl, hb⟩
  refine ⟨_, rfl, ?_⟩
  have n0_ := Aside0.mk (blk_below (g := gb181) (o := .cells #[.int .i64 a0_0, .int .i64 a0_1, .int .i64 a0_2, .int .i64 a0_3, .int .i64 a0_4, .bool a0_5] 45 (0, 0)) (by (with_reducible repeat (first | refine blk_drewN ?_ _ | refine blk_drew ?_ | refine blk_alloc ?_ _)); exact BK181.out) hb)
  have n1_ := Aside0.mk (blk_below (g := gb182) (o := .cells #[.int .i64 a1_0, .int .i64 a1_1] 77 (0, 0)) (by (with_reducible repeat (first | refine blk_drewN ?_ _ | refine blk_drew ?_ | refine blk_alloc ?_ _)); exact BK182.out) hb)
  have n2_ := Aside0.mk (blk_below (g := gb183) (o := .cells #[.int .i64 0, .int .i64 0] 77 (0, 0)) (by (with_reducible repeat (first | refine blk_drewN ?_ _ | refine blk_drew ?_ | refine blk_alloc ?_ _)); exact BK183.out) hb)
  have n3_ := Aside0.mk (below_step (by repeat (first | (with_reducible first | exact HB.out | apply below_alloc | apply pw_below_drewN | apply below_drew1 | refine below_set ?_ GE181.out | refine below_set ?_ GE182.out | refine below_set ?_ GE183.out) | exact HB.out)) hb)
  clear BK181
  clear BK182
  clear BK183
  clear HB
  have BK181 := n0_
  have BK182 := n1_
  have BK183 := n2_
  have HB := n3_
  clear n0_ n1_ n2_ n3_
  (try clear hb)
  (try clear hb2)
  (try clear hk)
  (try clear hi)
  refine hK.out _ _ ⟨(blk_cell BK181.out 0).trans rfl, (blk_cell BK181.out 1).trans rfl, (blk_cell BK181.out 2).trans rfl, (blk_cell BK181.out 3).trans rfl, (blk_cell BK181.out 4).trans rfl, (blk_cell BK181.out 5).trans rfl, (blk_cell BK182.out 0).trans rfl, (blk_cell BK182.out 1).trans rfl⟩ (fun hHeld => ?_)
  clear hK K
  refine norm_ (a' := ?_) ?_ ?_
  rotate_left
  · show Act.put _ (some 13) _ = _
    simp only [Act.put, List.setIfInBounds_toArray, List.set_cons_zero, List.set_cons_succ, i64_w, i32_w]
    rfl
  refine pure_ (i := 9) (N := some 16) (v := ?_) (a' := ?_) #[true, true, true, true, true, true, true, true, true, true, false] rfl rfl (any_of HT_.out (by kernel_rfl)) (fun _ _ _ h => h) (Or.inl ⟨by rfl, ?_⟩) ?_ ?_
  rotate_left
  · intro w'
    go_simp
    with_reducible rfl
  rotate_left
  · simp only [Act.put, List.setIfInBounds_toArray, List.set_cons_zero, List.set_cons_succ, i64_w, i32_w]
    rfl
  refine one_ (i := 10) (N := none) #[true, true, true, true, true, true, true, true, true, true, true] rfl rfl (one_of HT_.out (by kernel_rfl)) (by decide) (fun K hK => ?_)
  have hs12 : w11.cell? ⟨gb183, 0, none⟩ = some (.int .i64 0) := (blk_cell BK183.out 0).trans rfl
  have hfs12 := blk_frozen BK183.out 0
  have hns12_0 := NB181_183.out
  have hns12_1 := NB182_183.out
  have hms12_0 := NB183_181.out
  have hms12_1 := NB183_182.out
  have hs13 : w11.cell? ⟨gb183, 1, none⟩ = some (.int .i64 0) := (blk_cell BK183.out 1).trans rfl
  have hfs13 := blk_frozen BK183.out 1
  have hns13_0 := NB181_183.out
  have hns13_1 := NB182_183.out
  have hms13_0 := NB183_181.out
  have hms13_1 := NB183_182.out
  refine skip_ (w1 := ?_) (by rfl) rfl ?_ ?_
  rotate_left
  · go_simp
    rfl
  refine hK.out _ _ ⟨((cell_far (p := ⟨gb183, _, none⟩) NB181_183.out _).trans (((cell_far (p := ⟨gb183, _, none⟩) NB181_183.out _).trans (hHeld.1)))), ((cell_far (p := ⟨gb183, _, none⟩) NB181_183.out _).trans (((cell_far (p := ⟨gb183, _, none⟩) NB181_183.out _).trans (hHeld.2.1)))), ((cell_far (p := ⟨gb183, _, none⟩) NB181_183.out _).trans (((cell_far (p := ⟨gb183, _, none⟩) NB181_183.out _).trans (hHeld.2.2.1)))), ((cell_far (p := ⟨gb183, _, none⟩) NB181_183.out _).trans (((cell_far (p := ⟨gb183, _, none⟩) NB181_183.out _).trans (hHeld.2.2.2.1)))), ((cell_far (p := ⟨gb183, _, none⟩) NB181_183.out _).trans (((cell_far (p := ⟨gb183, _, none⟩) NB181_183.out _).trans (hHeld.2.2.2.2.1)))), ((cell_far (p := ⟨gb183, _, none⟩) NB181_183.out _).trans (((cell_far (p := ⟨gb183, _, none⟩) NB181_183.out _).trans (hHeld.2.2.2.2.2.1)))), ((cell_far (p := ⟨gb183, _, none⟩) NB182_183.out _).trans (((cell_far (p := ⟨gb183, _, none⟩) NB182_183.out _).trans (hHeld.2.2.2.2.2.2.1)))), ((cell_far (p := ⟨gb183, _, none⟩) NB182_183.out _).trans (((cell_far (p := ⟨gb183, _, none⟩) NB182_183.out _).trans (hHeld.2.2.2.2.2.2.2))))⟩ (fun hHeld => ?_)
  clear hK K
  refine done_ (done_of HT_.out (by kernel_rfl)) ?_
  try go_wp2
  refine bodyPost_ret (results_cell_row rfl _ _ gb183 77 #[.int .i64 t185, .int .i64 a1_0] (0, 0) _ rfl (by (with_reducible repeat (first | refine blk_drewN ?_ _ | refine blk_drew ?_ | refine blk_alloc ?_ _)); refine blk_put (cs := #[.int .i64 t185, .int .i64 0]) ?_ 1 _ rfl; (with_reducible repeat (first | refine blk_drewN ?_ _ | refine blk_drew ?_ | refine blk_alloc ?_ _)); refine blk_put (cs := #[.int .i64 0, .int .i64 0]) ?_ 0 _ rfl; (with_reducible repeat (first | refine blk_drewN ?_ _ | refine blk_drew ?_ | refine blk_alloc ?_ _)); exact BK183.out) Try.underlying77 rfl (by kernel_rfl)) rfl ?_
  exact ⟨by first | rfl | (simp [errW_none, errW_some] <;> rfl) | (simp [*, errW_none, errW_some] <;> rfl), by repeat (first | (with_reducible first | exact HB.out | apply below_alloc | apply pw_below_drewN | apply below_drew1 | refine below_set ?_ GE181.out | refine below_set ?_ GE182.out | refine below_set ?_ GE183.out) | exact HB.out)⟩

/-! ### impl_PairsBefore: function 28 -/
/-- What the captured variables hold, the row that grows among them. -/
def impl_PairsBefore.St (w0 W : World) (Bf Bz Bx By0 Bo : Nat) (a c s m b : Int) (p : Bool) (z x y0 : Int) (v : Value) (out : List Int) : Prop :=
  W.heap[Bf]? = some (.cells #[.int .i64 a, .int .i64 c, .int .i64 s, .int .i64 m, .int .i64 b, .bool p] 45 (0, 0)) ∧ W.heap[Bz]? = some (.cells #[.int .i64 z] 3 (0, 0)) ∧ W.heap[Bx]? = some (.cells #[.int .i64 x] 3 (0, 0)) ∧ W.heap[By0]? = some (.cells #[.int .i64 y0] 3 (0, 0)) ∧ W.heap[Bo]? = some (.cells #[v] 33 (0, 0)) ∧
    Kd.R (Kd.int .i64) 3 W w0.heap.size (fun k_ => k_ ≠ Bz ∧ k_ ≠ Bx ∧ k_ ≠ By0 ∧ k_ ≠ Bf ∧ k_ ≠ Bo) v out ∧ Below w0.heap.size w0 W
theorem impl_PairsBefore.St.below {w0 W W1 : World} {Bf Bz Bx By0 Bo : Nat} {a c s m b : Int} {p : Bool} {z x y0 : Int} {v : Value} {out : List Int} (h : impl_PairsBefore.St w0 W Bf Bz Bx By0 Bo a c s m b p z x y0 v out) (hb : Below W.heap.size W W1) : impl_PairsBefore.St w0 W1 Bf Bz Bx By0 Bo a c s m b p z x y0 v out :=
  ⟨blk_below h.1 hb, blk_below h.2.1 hb, blk_below h.2.2.1 hb, blk_below h.2.2.2.1 hb, blk_below h.2.2.2.2.1 hb, Kd.R_below h.2.2.2.2.2.1 hb, below_step h.2.2.2.2.2.2 hb⟩
theorem impl_PairsBefore.St.mk {w0 W : World} {Bf Bz Bx By0 Bo : Nat} {a c s m b : Int} {p : Bool} {z x y0 : Int} {v : Value} {out : List Int} (h : W.heap[Bf]? = some (.cells #[.int .i64 a, .int .i64 c, .int .i64 s, .int .i64 m, .int .i64 b, .bool p] 45 (0, 0)) ∧ W.heap[Bz]? = some (.cells #[.int .i64 z] 3 (0, 0)) ∧ W.heap[Bx]? = some (.cells #[.int .i64 x] 3 (0, 0)) ∧ W.heap[By0]? = some (.cells #[.int .i64 y0] 3 (0, 0)) ∧ W.heap[Bo]? = some (.cells #[v] 33 (0, 0)) ∧
    Kd.R (Kd.int .i64) 3 W w0.heap.size (fun k_ => k_ ≠ Bz ∧ k_ ≠ Bx ∧ k_ ≠ By0 ∧ k_ ≠ Bf ∧ k_ ≠ Bo) v out ∧ Below w0.heap.size w0 W) : impl_PairsBefore.St w0 W Bf Bz Bx By0 Bo a c s m b p z x y0 v out := h
def impl_PairsBefore.T0 : Bool × List (List Nat × List Nat) := (true, [([], []), ([], []), ([], []), ([1, 2], [1, 2]), ([], []), ([0, 3, 4], [0, 3, 4]), ([5], [5]), ([], []), ([6, 7], [6, 7])])
def impl_PairsBefore.B0 : List Nat := [0, 0, 0, 6, 0, 31, 63, 0, 255]
theorem impl_PairsBefore.tab0 : rtab .any (opsOf Try.f71 0) = impl_PairsBefore.T0 := by kernel_rfl
theorem impl_PairsBefore.bits0 : waitsOk impl_PairsBefore.T0.2 impl_PairsBefore.B0 = true := by kernel_rfl
set_option maxHeartbeats 8000000 in
set_option maxRecDepth 100000 in
theorem impl_PairsBefore.yes (k : Nat) (w0 W : World) (Bf Bz Bx By0 Bo : Nat) (a c s m b : Int) (p : Bool) (z x y0 y : Int) (t t2 : Int) (v : Value) (out : List Int) (h : impl_PairsBefore.St w0 W Bf Bz Bx By0 Bo a c s m b p z x y0 v out) (hB : w0.heap.size ≤ Bo) (h1 : Bf ≠ Bo) (gz : Bz ≠ Bo) (gx : Bx ≠ Bo) (gy0 : By0 ≠ Bo)
    (heq : t = y0) (hl : out.length < 17592186044416) (hs : impl_Second_step.f k a c s m b p z y x = some (t, t2)) :
    Calls Try.prog 71 #[.int .i64 y, .pointer (some ⟨Bf, 0, none⟩), .pointer (some ⟨Bz, 0, none⟩), .pointer (some ⟨Bx, 0, none⟩), .pointer (some ⟨By0, 0, none⟩), .pointer (some ⟨Bo, 0, none⟩)] W fun e W1 => e = .returned (.tuple #[]) ∧ ∃ v1 : Value, impl_PairsBefore.St w0 W1 Bf Bz Bx By0 Bo a c s m b p z x y0 v1 (out ++ [y]) := by
  have hu45 := Try.underlying45
  have A1 := Aside0.mk hs
  have HL := Aside0.mk hl
  have HS := Aside0.mk h
  have c0 : (t == y0) = true := beq_iff_eq.mpr heq
  clear hs hl heq
  have G1 := Aside0.mk h1
  have GB := Aside0.mk hB
  have Gz := Aside0.mk gz
  have Gx := Aside0.mk gx
  have Gy0 := Aside0.mk gy0
  clear h1 hB gz gx gy0
  clear h
  have hfl77_0 : ∀ (x0_ x1_ : Value) (W_ : World), (Instr.field 77 (.agg #[x0_, x1_]) 0).run Try.prog W_ = .ok x0_ W_ := fun x0_ x1_ W_ => by rfl
  go_enter Try.func71, Try.ntmps71
  try go_wp2
  have n0_ := Aside0.mk (HS.out.below (below_drew1 (Below.refl _ _)))
  clear HS
  have HS := n0_
  clear n0_
  refine start_ (n := 9) (S := fun w' => w'.cell? ⟨Bf, 0, none⟩ = some (.int .i64 a) ∧ w'.cell? ⟨Bf, 1, none⟩ = some (.int .i64 c) ∧ w'.cell? ⟨Bf, 2, none⟩ = some (.int .i64 s) ∧ w'.cell? ⟨Bf, 3, none⟩ = some (.int .i64 m) ∧ w'.cell? ⟨Bf, 4, none⟩ = some (.int .i64 b) ∧ w'.cell? ⟨Bf, 5, none⟩ = some (.bool p) ∧ w'.cell? ⟨Bz, 0, none⟩ = some (.int .i64 z) ∧ w'.cell? ⟨Bx, 0, none⟩ = some (.int .i64 x) ∧ w'.cell? ⟨By0, 0, none⟩ = some (.int .i64 y0)) (ds := []) #[false, false, false, false, false, false, false, false, false] (by kernel_rfl) rfl rfl ⟨(blk_cell HS.out.1 0).trans rfl, (blk_cell HS.out.1 1).trans rfl, (blk_cell HS.out.1 2).trans rfl, (blk_cell HS.out.1 3).trans rfl, (blk_cell HS.out.1 4).trans rfl, (blk_cell HS.out.1 5).trans rfl, (blk_cell HS.out.2.1 0).trans rfl, (blk_cell HS.out.2.2.1 0).trans rfl, (blk_cell HS.out.2.2.2.1 0).trans rfl⟩ (fun hHeld => ?_)
  refine with_tabW impl_PairsBefore.tab0 impl_PairsBefore.bits0 (fun HT_ HW_ => ?_)
  generalize W.drew = w6 at HS hHeld ⊢
  refine pure_ (i := 2) (N := some 9) (v := ?_) (a' := ?_) #[false, false, true, false, false, false, false, false, false] rfl rfl (any_of HT_.out (by kernel_rfl)) (fun _ _ _ h => h) (Or.inl ⟨by rfl, ?_⟩) ?_ ?_
  rotate_left
  · intro w'
    go_simp
    with_reducible rfl
  rotate_left
  · simp only [Act.put, List.setIfInBounds_toArray, List.set_cons_zero, List.set_cons_succ, i64_w, i32_w]
    rfl
  refine take_ (i := 0) (N := some 7) (v := ?_) (a' := ?_) #[true, false, true, false, false, false, false, false, false] rfl rfl (take_ofW HT_.out HW_.out (by kernel_rfl)) (fun _ _ _ h => h) (Or.inl ⟨by rfl, ?_⟩) hHeld ?_ ?_
  rotate_left
  · rintro w' ⟨s0, s1, s2, s3, s4, s5, s6, s7, s8⟩
    go_simp
    with_reducible rfl
  rotate_left
  · simp only [Act.put, List.setIfInBounds_toArray, List.set_cons_zero, List.set_cons_succ, i64_w, i32_w]
    rfl
  refine take_ (i := 1) (N := some 8) (v := ?_) (a' := ?_) #[true, true, true, false, false, false, false, false, false] rfl rfl (take_ofW HT_.out HW_.out (by kernel_rfl)) (fun _ _ _ h => h) (Or.inl ⟨by rfl, ?_⟩) hHeld ?_ ?_
  rotate_left
  · rintro w' ⟨s0, s1, s2, s3, s4, s5, s6, s7, s8⟩
    go_simp
    with_reducible rfl
  rotate_left
  · simp only [Act.put, List.setIfInBounds_toArray, List.set_cons_zero, List.set_cons_succ, i64_w, i32_w]
    rfl
  refine take_ (i := 4) (N := some 11) (v := ?_) (a' := ?_) #[true, true, true, false, true, false, false, false, false] rfl rfl (take_ofW HT_.out HW_.out (by kernel_rfl)) (fun _ _ _ h => h) (Or.inl ⟨by rfl, ?_⟩) hHeld ?_ ?_
  rotate_left
  · rintro w' ⟨s0, s1, s2, s3, s4, s5, s6, s7, s8⟩
    go_simp
    with_reducible rfl
  rotate_left
  · simp only [Act.put, List.setIfInBounds_toArray, List.set_cons_zero, List.set_cons_succ, i64_w, i32_w]
    rfl
  refine take_ (i := 7) (N := some 14) (v := ?_) (a' := ?_) #[true, true, true, false, true, false, false, true, false] rfl rfl (take_ofW HT_.out HW_.out (by kernel_rfl)) (fun _ _ _ h => h) (Or.inl ⟨by rfl, ?_⟩) hHeld ?_ ?_
  rotate_left
  · rintro w' ⟨s0, s1, s2, s3, s4, s5, s6, s7, s8⟩
    go_simp
    with_reducible rfl
  rotate_left
  · simp only [Act.put, List.setIfInBounds_toArray, List.set_cons_zero, List.set_cons_succ, i64_w, i32_w]
    rfl
  refine pure_ (i := 3) (N := some 10) (v := ?_) (a' := ?_) #[true, true, true, true, true, false, false, true, false] rfl rfl (any_of HT_.out (by kernel_rfl)) (fun _ _ _ h => h) (Or.inl ⟨by rfl, ?_⟩) ?_ ?_
  rotate_left
  · intro w'
    go_simp
    with_reducible rfl
  rotate_left
  · simp only [Act.put, List.setIfInBounds_toArray, List.set_cons_zero, List.set_cons_succ, i64_w, i32_w]
    rfl
  refine one_ (i := 5) (N := some 12) #[true, true, true, true, true, true, false, true, false] rfl rfl (one_of HT_.out (by kernel_rfl)) (by decide) (fun K hK => ?_)
  refine goes_ Try.func72 (by kernel_rfl) rfl #[.agg #[.int .i64 a, .int .i64 c, .int .i64 s, .int .i64 m, .int .i64 b, .bool p], .agg #[.int .i64 z, .int .i64 y], .int .i64 x] (by rfl) rfl rfl (by (try simp only [List.map_toArray, List.map_cons, List.map_nil]); first | done | rfl | (simp only [List.length_drop, List.length_take]; rfl)) ?_
  with_reducible refine (impl_Second_step.calls k a c s m b p z y x t t2 _ A1.out).mono ?_
  rintro e w8 ⟨rfl, hb⟩
  refine ⟨_, rfl, ?_⟩
  have n0_ := Aside0.mk (HS.out.below hb)
  clear HS
  have HS := n0_
  clear n0_ hb
  refine hK.out _ _ ⟨(blk_cell HS.out.1 0).trans rfl, (blk_cell HS.out.1 1).trans rfl, (blk_cell HS.out.1 2).trans rfl, (blk_cell HS.out.1 3).trans rfl, (blk_cell HS.out.1 4).trans rfl, (blk_cell HS.out.1 5).trans rfl, (blk_cell HS.out.2.1 0).trans rfl, (blk_cell HS.out.2.2.1 0).trans rfl, (blk_cell HS.out.2.2.2.1 0).trans rfl⟩ (fun hHeld => ?_)
  clear hK K
  refine norm_ (a' := ?_) ?_ ?_
  rotate_left
  · show Act.put _ (some 12) _ = _
    simp only [Act.put, List.setIfInBounds_toArray, List.set_cons_zero, List.set_cons_succ, i64_w, i32_w]
    rfl
  refine pure_ (i := 6) (N := some 13) (v := ?_) (a' := ?_) #[true, true, true, true, true, true, true, true, false] rfl rfl (any_of HT_.out (by kernel_rfl)) (fun _ _ _ h => h) (Or.inl ⟨by rfl, ?_⟩) ?_ ?_
  rotate_left
  · intro w'
    go_simp
    with_reducible rfl
  rotate_left
  · simp only [Act.put, List.setIfInBounds_toArray, List.set_cons_zero, List.set_cons_succ, i64_w, i32_w]
    rfl
  refine pure_ (i := 8) (N := some 15) (v := ?_) (a' := ?_) #[true, true, true, true, true, true, true, true, true] rfl rfl (any_of HT_.out (by kernel_rfl)) (fun _ _ _ h => h) (Or.inl ⟨by rfl, ?_⟩) ?_ ?_
  rotate_left
  · intro w'
    go_simp
    with_reducible rfl
  rotate_left
  · simp only [Act.put, List.setIfInBounds_toArray, List.set_cons_zero, List.set_cons_succ, i64_w, i32_w]
    rfl
  refine done_ (done_of HT_.out (by kernel_rfl)) ?_
  have o0 : w8.cell? ⟨Bo, 0, none⟩ = some v := (blk_cell HS.out.2.2.2.2.1 0).trans rfl
  go_wp2_with (first | ((with_reducible refine gate_builtin (b := .append) (xs := #[.tmp 16, .tmp 18]) rfl ?_); at_builtin; refine Kd.R_append (Kd.int .i64) (w0 := w0) w0.heap.size rfl (.tmp 16) (.tmp 18) 33 3 (.int .i64 0) 8 rfl Try.underlying33 info3 rfl (by decide) (by omega) v out y [.int .i64 y] (fun k_ => k_ ≠ Bz ∧ k_ ≠ Bx ∧ k_ ≠ By0 ∧ k_ ≠ Bf ∧ k_ ≠ Bo) (fun _ => False) rfl rfl ?aP (fun _ hk => hk.elim) ?aF ?aO ?aB ?aS ?aL ?_; (case aP => exact rfl); (case aB => exact HS.out.2.2.2.2.2.2); (case aF => exact (fun k_ hk_ => ⟨fun e_ => Nat.not_le.2 (blk_lt HS.out.2.1) (e_ ▸ hk_), fun e_ => Nat.not_le.2 (blk_lt HS.out.2.2.1) (e_ ▸ hk_), fun e_ => Nat.not_le.2 (blk_lt HS.out.2.2.2.1) (e_ ▸ hk_), fun e_ => Nat.not_le.2 (blk_lt HS.out.1) (e_ ▸ hk_), fun e_ => Nat.not_le.2 (blk_lt HS.out.2.2.2.2.1) (e_ ▸ hk_)⟩)); (case aO => exact HS.out.2.2.2.2.2.1); (case aS => exact HS.out.2.2.2.2.2.2.size); (case aL => have := HL.out; omega); intro v116 w7 ho hb hg hat; obtain ⟨A_, c_, rfl⟩ := Kd.R_slice ho; have F7 := Aside0.mk (blk_grown HS.out.1 hg (fun e_ => (HS.out.2.2.2.2.2.1.1 Bf e_.symm).2.2.2.1 rfl)); have Xz := Aside0.mk (blk_grown HS.out.2.1 hg (fun e_ => (HS.out.2.2.2.2.2.1.1 Bz e_.symm).1 rfl)); have Xx := Aside0.mk (blk_grown HS.out.2.2.1 hg (fun e_ => (HS.out.2.2.2.2.2.1.1 Bx e_.symm).2.1 rfl)); have Xy0 := Aside0.mk (blk_grown HS.out.2.2.2.1 hg (fun e_ => (HS.out.2.2.2.2.2.1.1 By0 e_.symm).2.2.1 rfl)); have O7 := Aside0.mk (blk_grown HS.out.2.2.2.2.1 hg (fun e_ => (HS.out.2.2.2.2.2.1.1 Bo e_.symm).2.2.2.2 rfl)); have HO := Aside0.mk ho; have HB := Aside0.mk hb; clear ho hb hg hat HS o0; have o1 : w7.cell? ⟨Bo, 0, none⟩ = some v := (blk_cell O7.out 0).trans rfl; have z1 := blk_frozen O7.out 0))
  go_end0
  exact ⟨rfl, _, blk_far F7.out G1.out _, blk_far Xz.out Gz.out _, blk_far Xx.out Gx.out _, blk_far Xy0.out Gy0.out _, blk_put O7.out 0 _ rfl, by have h_ := Kd.R_far HO.out (p := ⟨Bo, 0, none⟩) (fun k_ hk_ => hk_.2.2.2.2) (Value.slice A_ (out ++ [y]).length c_); simp only [List.length_append, List.length_singleton] at h_; exact h_, below_set HB.out GB.out⟩
set_option maxHeartbeats 8000000 in
set_option maxRecDepth 100000 in
theorem impl_PairsBefore.no (k : Nat) (w0 W : World) (Bf Bz Bx By0 Bo : Nat) (a c s m b : Int) (p : Bool) (z x y0 y : Int) (t t2 : Int) (v : Value) (out : List Int) (h : impl_PairsBefore.St w0 W Bf Bz Bx By0 Bo a c s m b p z x y0 v out) (hne : ¬ t = y0) (hs : impl_Second_step.f k a c s m b p z y x = some (t, t2)) :
    Calls Try.prog 71 #[.int .i64 y, .pointer (some ⟨Bf, 0, none⟩), .pointer (some ⟨Bz, 0, none⟩), .pointer (some ⟨Bx, 0, none⟩), .pointer (some ⟨By0, 0, none⟩), .pointer (some ⟨Bo, 0, none⟩)] W fun e W1 => e = .returned (.tuple #[]) ∧ impl_PairsBefore.St w0 W1 Bf Bz Bx By0 Bo a c s m b p z x y0 v out := by
  have hu45 := Try.underlying45
  have A1 := Aside0.mk hs
  have HS := Aside0.mk h
  have c0 : (t == y0) = false := beq_eq_false_iff_ne.mpr hne
  clear hs hne
  clear h
  have hfl77_0 : ∀ (x0_ x1_ : Value) (W_ : World), (Instr.field 77 (.agg #[x0_, x1_]) 0).run Try.prog W_ = .ok x0_ W_ := fun x0_ x1_ W_ => by rfl
  go_enter Try.func71, Try.ntmps71
  try go_wp2
  have n0_ := Aside0.mk (HS.out.below (below_drew1 (Below.refl _ _)))
  clear HS
  have HS := n0_
  clear n0_
  refine start_ (n := 9) (S := fun w' => w'.cell? ⟨Bf, 0, none⟩ = some (.int .i64 a) ∧ w'.cell? ⟨Bf, 1, none⟩ = some (.int .i64 c) ∧ w'.cell? ⟨Bf, 2, none⟩ = some (.int .i64 s) ∧ w'.cell? ⟨Bf, 3, none⟩ = some (.int .i64 m) ∧ w'.cell? ⟨Bf, 4, none⟩ = some (.int .i64 b) ∧ w'.cell? ⟨Bf, 5, none⟩ = some (.bool p) ∧ w'.cell? ⟨Bz, 0, none⟩ = some (.int .i64 z) ∧ w'.cell? ⟨Bx, 0, none⟩ = some (.int .i64 x) ∧ w'.cell? ⟨By0, 0, none⟩ = some (.int .i64 y0)) (ds := []) #[false, false, false, false, false, false, false, false, false] (by kernel_rfl) rfl rfl ⟨(blk_cell HS.out.1 0).trans rfl, (blk_cell HS.out.1 1).trans rfl, (blk_cell HS.out.1 2).trans rfl, (blk_cell HS.out.1 3).trans rfl, (blk_cell HS.out.1 4).trans rfl, (blk_cell HS.out.1 5).trans rfl, (blk_cell HS.out.2.1 0).trans rfl, (blk_cell HS.out.2.2.1 0).trans rfl, (blk_cell HS.out.2.2.2.1 0).trans rfl⟩ (fun hHeld => ?_)
  refine with_tabW impl_PairsBefore.tab0 impl_PairsBefore.bits0 (fun HT_ HW_ => ?_)
  generalize W.drew = w6 at HS hHeld ⊢
  refine pure_ (i := 2) (N := some 9) (v := ?_) (a' := ?_) #[false, false, true, false, false, false, false, false, false] rfl rfl (any_of HT_.out (by kernel_rfl)) (fun _ _ _ h => h) (Or.inl ⟨by rfl, ?_⟩) ?_ ?_
  rotate_left
  · intro w'
    go_simp
    with_reducible rfl
  rotate_left
  · simp only [Act.put, List.setIfInBounds_toArray, List.set_cons_zero, List.set_cons_succ, i64_w, i32_w]
    rfl
  refine take_ (i := 0) (N := some 7) (v := ?_) (a' := ?_) #[true, false, true, false, false, false, false, false, false] rfl rfl (take_ofW HT_.out HW_.out (by kernel_rfl)) (fun _ _ _ h => h) (Or.inl ⟨by rfl, ?_⟩) hHeld ?_ ?_
  rotate_left
  · rintro w' ⟨s0, s1, s2, s3, s4, s5, s6, s7, s8⟩
    go_simp
    with_reducible rfl
  rotate_left
  · simp only [Act.put, List.setIfInBounds_toArray, List.set_cons_zero, List.set_cons_succ, i64_w, i32_w]
    rfl
  refine take_ (i := 1) (N := some 8) (v := ?_) (a' := ?_) #[true, true, true, false, false, false, false, false, false] rfl rfl (take_ofW HT_.out HW_.out (by kernel_rfl)) (fun _ _ _ h => h) (Or.inl ⟨by rfl, ?_⟩) hHeld ?_ ?_
  rotate_left
  · rintro w' ⟨s0, s1, s2, s3, s4, s5, s6, s7, s8⟩
    go_simp
    with_reducible rfl
  rotate_left
  · simp only [Act.put, List.setIfInBounds_toArray, List.set_cons_zero, List.set_cons_succ, i64_w, i32_w]
    rfl
  refine take_ (i := 4) (N := some 11) (v := ?_) (a' := ?_) #[true, true, true, false, true, false, false, false, false] rfl rfl (take_ofW HT_.out HW_.out (by kernel_rfl)) (fun _ _ _ h => h) (Or.inl ⟨by rfl, ?_⟩) hHeld ?_ ?_
  rotate_left
  · rintro w' ⟨s0, s1, s2, s3, s4, s5, s6, s7, s8⟩
    go_simp
    with_reducible rfl
  rotate_left
  · simp only [Act.put, List.setIfInBounds_toArray, List.set_cons_zero, List.set_cons_succ, i64_w, i32_w]
    rfl
  refine take_ (i := 7) (N := some 14) (v := ?_) (a' := ?_) #[true, true, true, false, true, false, false, true, false] rfl rfl (take_ofW HT_.out HW_.out (by kernel_rfl)) (fun _ _ _ h => h) (Or.inl ⟨by rfl, ?_⟩) hHeld ?_ ?_
  rotate_left
  · rintro w' ⟨s0, s1, s2, s3, s4, s5, s6, s7, s8⟩
    go_simp
    with_reducible rfl
  rotate_left
  · simp only [Act.put, List.setIfInBounds_toArray, List.set_cons_zero, List.set_cons_succ, i64_w, i32_w]
    rfl
  refine pure_ (i := 3) (N := some 10) (v := ?_) (a' := ?_) #[true, true, true, true, true, false, false, true, false] rfl rfl (any_of HT_.out (by kernel_rfl)) (fun _ _ _ h => h) (Or.inl ⟨by rfl, ?_⟩) ?_ ?_
  rotate_left
  · intro w'
    go_simp
    with_reducible rfl
  rotate_left
  · simp only [Act.put, List.setIfInBounds_toArray, List.set_cons_zero, List.set_cons_succ, i64_w, i32_w]
    rfl
  refine one_ (i := 5) (N := some 12) #[true, true, true, true, true, true, false, true, false] rfl rfl (one_of HT_.out (by kernel_rfl)) (by decide) (fun K hK => ?_)
  refine goes_ Try.func72 (by kernel_rfl) rfl #[.agg #[.int .i64 a, .int .i64 c, .int .i64 s, .int .i64 m, .int .i64 b, .bool p], .agg #[.int .i64 z, .int .i64 y], .int .i64 x] (by rfl) rfl rfl (by (try simp only [List.map_toArray, List.map_cons, List.map_nil]); first | done | rfl | (simp only [List.length_drop, List.length_take]; rfl)) ?_
  with_reducible refine (impl_Second_step.calls k a c s m b p z y x t t2 _ A1.out).mono ?_
  rintro e w8 ⟨rfl, hb⟩
  refine ⟨_, rfl, ?_⟩
  have n0_ := Aside0.mk (HS.out.below hb)
  clear HS
  have HS := n0_
  clear n0_ hb
  refine hK.out _ _ ⟨(blk_cell HS.out.1 0).trans rfl, (blk_cell HS.out.1 1).trans rfl, (blk_cell HS.out.1 2).trans rfl, (blk_cell HS.out.1 3).trans rfl, (blk_cell HS.out.1 4).trans rfl, (blk_cell HS.out.1 5).trans rfl, (blk_cell HS.out.2.1 0).trans rfl, (blk_cell HS.out.2.2.1 0).trans rfl, (blk_cell HS.out.2.2.2.1 0).trans rfl⟩ (fun hHeld => ?_)
  clear hK K
  refine norm_ (a' := ?_) ?_ ?_
  rotate_left
  · show Act.put _ (some 12) _ = _
    simp only [Act.put, List.setIfInBounds_toArray, List.set_cons_zero, List.set_cons_succ, i64_w, i32_w]
    rfl
  refine pure_ (i := 6) (N := some 13) (v := ?_) (a' := ?_) #[true, true, true, true, true, true, true, true, false] rfl rfl (any_of HT_.out (by kernel_rfl)) (fun _ _ _ h => h) (Or.inl ⟨by rfl, ?_⟩) ?_ ?_
  rotate_left
  · intro w'
    go_simp
    with_reducible rfl
  rotate_left
  · simp only [Act.put, List.setIfInBounds_toArray, List.set_cons_zero, List.set_cons_succ, i64_w, i32_w]
    rfl
  refine pure_ (i := 8) (N := some 15) (v := ?_) (a' := ?_) #[true, true, true, true, true, true, true, true, true] rfl rfl (any_of HT_.out (by kernel_rfl)) (fun _ _ _ h => h) (Or.inl ⟨by rfl, ?_⟩) ?_ ?_
  rotate_left
  · intro w'
    go_simp
    with_reducible rfl
  rotate_left
  · simp only [Act.put, List.setIfInBounds_toArray, List.set_cons_zero, List.set_cons_succ, i64_w, i32_w]
    rfl
  refine done_ (done_of HT_.out (by kernel_rfl)) ?_
  go_wp2
  go_end0
  exact ⟨rfl, HS.out⟩
def impl_PairsBefore.l0 : Nat → Int → Int → Int → Int → Int → Bool → Int → Int → Int → List Int → Int → Int → Option (List Int)
  | 0, _, _, _, _, _, _, _, _, _, _, _, _ => none
  | k + 1, a, c, s, m, b, p, z, x, y0, out, y, hi => if y ≤ hi then ((impl_Second_step.f k a c s m b p z y x).bind fun bt => if bt.1 = y0 then (if out.length < 17592186044416 then (impl_PairsBefore.l0 k a c s m b p z x y0 (out ++ [y]) (wrap64 (y + 1)) hi) else (none)) else (impl_PairsBefore.l0 k a c s m b p z x y0 out (wrap64 (y + 1)) hi)) else (some out)
theorem impl_PairsBefore.mono_l : ∀ k, (∀ a c s m b p z x y0 out y hi, LeO (impl_PairsBefore.l0 k a c s m b p z x y0 out y hi) (impl_PairsBefore.l0 (k + 1) a c s m b p z x y0 out y hi))
  | 0 => fun _ _ _ _ _ _ _ _ _ _ _ _ r h => by simp [impl_PairsBefore.l0] at h
  | k + 1 => by
    have ih0 := impl_PairsBefore.mono_l k
    · intro a c s m b p z x y0 out y hi
      unfold impl_PairsBefore.l0
      repeat' first
      | (with_reducible exact ih0 _ _ _ _ _ _ _ _ _ _ _ _)
      | (with_reducible exact LeO.refl _)
      | (with_reducible exact LeO.none _)
      | (with_reducible refine LeO.ite ?_ ?_)
      | (with_reducible refine LeO.bind ?_ (fun _ => ?_))
      | exact impl_Second_step.mono _ _ _ _ _ _ _ _ _ _
      | exact LeO.none _
      | refine LeO.ite ?_ ?_
      | refine LeO.bind ?_ (fun _ => ?_)
set_option maxHeartbeats 8000000 in
set_option maxRecDepth 100000 in
theorem impl_PairsBefore.all (k : Nat) (w0 W : World) (Bf Bz Bx By0 Bo : Nat) (a c s m b : Int) (p : Bool) (z x y0 lo hi : Int) (v : Value) (out r : List Int) (h : impl_PairsBefore.St w0 W Bf Bz Bx By0 Bo a c s m b p z x y0 v out) (hB : w0.heap.size ≤ Bo) (h1 : Bf ≠ Bo) (gz : Bz ≠ Bo) (gx : Bx ≠ Bo) (gy0 : By0 ≠ Bo)
    (he : impl_Word_ends.f b p = some (lo, hi)) (hl : impl_PairsBefore.l0 k a c s m b p z x y0 out lo hi = some r) :
    Calls Try.prog 70 #[.agg #[.int .i64 b, .bool p], .func (.func 71) #[] #[.pointer (some ⟨Bf, 0, none⟩), .pointer (some ⟨Bz, 0, none⟩), .pointer (some ⟨Bx, 0, none⟩), .pointer (some ⟨By0, 0, none⟩), .pointer (some ⟨Bo, 0, none⟩)]] W fun e W1 => e = .returned (.tuple #[]) ∧ ∃ v1 : Value, impl_PairsBefore.St w0 W1 Bf Bz Bx By0 Bo a c s m b p z x y0 v1 r := by
  have hu28 := Try.underlying28
  have AE := Aside0.mk he
  have AL := Aside0.mk hl
  have HS := Aside0.mk h
  clear h he hl
  have G1 := Aside0.mk h1
  have GB := Aside0.mk hB
  have Gz := Aside0.mk gz
  have Gx := Aside0.mk gx
  have Gy0 := Aside0.mk gy0
  clear h1 hB gz gx gy0
  go_enter Try.func70, Try.ntmps70
  go_wp2_with (first | ((with_reducible refine gate_dst (N := 2) rfl ?_); refine box_event ?hg (N := 2) ?hd (cs := #[.int .i64 b, .bool p]) (t := 28) ?hr ?_; (case hd => rfl); (case hg => rfl); (case hr => first | (go_simp; done) | (go_simp; rfl)); intro gb hgb w4 hbox hb; have n0_ := Aside0.mk (HS.out.below hb); clear HS; have HS := n0_; clear n0_ hb hgb; have z0 : w4.cell? ⟨gb, 0, none⟩ = some (.int .i64 b) := (blk_cell hbox 0).trans rfl; have z1 : w4.cell? ⟨gb, 1, none⟩ = some (.bool p) := (blk_cell hbox 1).trans rfl; clear hbox) | (go_at_call 104; (with_reducible refine (impl_Word_ends.calls b p lo hi _ AE.out).mono ?_); rintro e w2 ⟨rfl, hb⟩; have n0_ := Aside0.mk (HS.out.below hb); clear HS; have HS := n0_; clear n0_ hb z0 z1))
  go_loopg [6] k (fun kq v6 w' => ∃ (y : Int) (v1 : Value) (out1 : List Int), v6 = .int .i64 y ∧ Aside0 (impl_PairsBefore.l0 kq a c s m b p z x y0 out1 y hi = some r) ∧ Aside0 (kq ≤ k) ∧ Aside0 (impl_PairsBefore.St w0 w' Bf Bz Bx By0 Bo a c s m b p z x y0 v1 out1))
  case atStart => exact ⟨lo, v, out, rfl, AL, ⟨Nat.le_refl _⟩, HS⟩
  case round =>
    clear HS AL
    obtain ⟨y, v1, out1, rfl, HA, HK, HS⟩ := hrel
    cases gk with
    | zero => exact absurd HA.out (by simp [impl_PairsBefore.l0])
    | succ k1 =>
      have H := HA.out
      clear HA
      simp only [impl_PairsBefore.l0] at H
      by_cases c1 : y ≤ hi
      · rw [if_pos c1] at H
        have c1b : decide (y ≤ hi) = true := decide_eq_true c1
        clear c1
        replace H := Option.bind_eq_some_iff.mp H
        obtain ⟨⟨t, t2⟩, A1, H⟩ := H
        have AS := Aside0.mk A1
        clear A1
        by_cases c2 : t = y0
        · replace H := (if_pos c2).symm.trans H
          by_cases c3 : out1.length < 17592186044416
          · rw [if_pos c3] at H
            have H' := Aside0.mk H
            have C2 := Aside0.mk c2
            have C3 := Aside0.mk c3
            clear H c3 c2
            go_wp2_with (first | (go_at_call 71; (with_reducible refine (impl_PairsBefore.yes k1 w0 _ Bf Bz Bx By0 Bo a c s m b p z x y0 y t t2 v1 out1 HS.out GB.out G1.out Gz.out Gx.out Gy0.out C2.out C3.out AS.out).mono ?_); rintro e w2 ⟨rfl, ⟨v2, hs2⟩⟩; have n0_ := Aside0.mk hs2; clear HS hs2; have HS := n0_; clear n0_))
            go_roundg k1
            case measure => have := HK.out; omega
            case rel => exact ⟨_, v2, _, rfl, H', ⟨by have := HK.out; omega⟩, HS⟩
          · rw [if_neg c3] at H
            exact absurd H (by simp)
        · replace H := (if_neg c2).symm.trans H
          have H' := Aside0.mk H
          have C2 := Aside0.mk c2
          clear H c2
          go_wp2_with (first | (go_at_call 71; (with_reducible refine (impl_PairsBefore.no k1 w0 _ Bf Bz Bx By0 Bo a c s m b p z x y0 y t t2 v1 out1 HS.out C2.out AS.out).mono ?_); rintro e w2 ⟨rfl, hs2⟩; have n0_ := Aside0.mk hs2; clear HS hs2; have HS := n0_; clear n0_))
          go_roundg k1
          case measure => have := HK.out; omega
          case rel => exact ⟨_, v1, _, rfl, H', ⟨by have := HK.out; omega⟩, HS⟩
      · rw [if_neg c1] at H
        have c1b : decide (y ≤ hi) = false := decide_eq_false c1
        clear c1
        obtain rfl := Option.some.inj H
        go_wp2
        go_end0
        exact ⟨rfl, v1, HS.out⟩
def impl_PairsBefore.f (k : Nat) (a c s m b : Int) (p : Bool) (y0 z x : Int) : Option (List Int × Bool) := ((impl_Second_isAt.f a c s m b p y0 z).bind fun t0 => if t0 = true then ((impl_isSample.f x).bind fun t1 => if t1 = true then (if b > 10 then some (([] : List Int), false) else ((impl_Word_ends.f b p).bind fun e => ((impl_PairsBefore.l0 k a c s m b p z x y0 ([] : List Int) e.1 e.2).bind fun r => some (r, true)))) else some (([] : List Int), false)) else some (([] : List Int), false))
theorem impl_PairsBefore.mono : ∀ a c s m b p y0 z x k, LeO (impl_PairsBefore.f k a c s m b p y0 z x) (impl_PairsBefore.f (k + 1) a c s m b p y0 z x) := by
  intro a c s m b p y0 z x k
  have ih0 := impl_PairsBefore.mono_l k
  unfold impl_PairsBefore.f
  repeat' first
      | (with_reducible exact ih0 _ _ _ _ _ _ _ _ _ _ _ _)
      | (with_reducible exact LeO.refl _)
      | (with_reducible exact LeO.none _)
      | (with_reducible refine LeO.ite ?_ ?_)
      | (with_reducible refine LeO.bind ?_ (fun _ => ?_))
      | exact ih0 _ _ _ _ _ _ _ _ _ _ _ _
      | exact LeO.none _
      | refine LeO.ite ?_ ?_
      | refine LeO.bind ?_ (fun _ => ?_)
set_option maxHeartbeats 8000000 in
set_option maxRecDepth 100000 in
theorem impl_PairsBefore.calls (k : Nat) (a c s m b : Int) (p : Bool) (y0 z x : Int) (r1 : List Int) (r2 : Bool) (w : World) (h : impl_PairsBefore.f k a c s m b p y0 z x = some (r1, r2)) :
    Calls Try.prog 28 #[.agg #[.int .i64 a, .int .i64 c, .int .i64 s, .int .i64 m, .int .i64 b, .bool p], .int .i64 y0, .int .i64 z, .int .i64 x] w fun e w' => ∃ v0_ : Value, e = .returned (.tuple #[v0_, .bool r2]) ∧ Kd.R (Kd.int .i64) 3 w' w.heap.size (fun _ => True) v0_ r1 ∧ Below w.heap.size w w' := by
  have hu45 := Try.underlying45
  have hu28 := Try.underlying28
  have hu33 := Try.underlying33
  have HB := Aside0.mk (Below.refl w.heap.size w)
  unfold impl_PairsBefore.f at h
  obtain ⟨t0, q0_, h⟩ := Option.bind_eq_some_iff.mp h
  have Q0 := Aside0.mk q0_
  clear q0_
  cases t0 with
  | false =>
    replace h := (if_neg (by decide)).symm.trans h
    obtain ⟨rfl, rfl⟩ : ([] : List Int) = r1 ∧ false = r2 := by simpa using h
    clear h
    go_enter Try.func28, Try.ntmps28
    go_wp2_with (first | ((with_reducible refine gate_dst (N := 4) rfl ?_); refine box_event ?hg (N := 4) ?hd (cs := #[.int .i64 a, .int .i64 c, .int .i64 s, .int .i64 m, .int .i64 b, .bool p]) (t := 45) ?hr ?_; (case hd => rfl); (case hg => rfl); (case hr => first | (go_simp; done) | (go_simp; rfl)); intro gf hg vf hbox hb; have Nf := Aside0.mk ((by rw [hg]; exact HB.out.size) : w.heap.size ≤ gf); have mB_ := Aside0.mk (below_step HB.out hb); clear HB; have HB := mB_; clear mB_; have Kf := Aside0.mk hbox; clear hbox hb hg) | ((with_reducible refine gate_dst (N := 5) rfl ?_); refine box_event ?hg (N := 5) ?hd (cs := #[.int .i64 y0]) (t := 3) ?hr ?_; (case hd => rfl); (case hg => rfl); (case hr => first | (go_simp; done) | (go_simp; rfl)); intro gy0 hg vy0 hbox hb; have Ny0 := Aside0.mk ((by rw [hg]; exact HB.out.size) : w.heap.size ≤ gy0); have Nfy0 := Aside0.mk ((by rw [hg]; exact Nat.ne_of_lt (blk_lt Kf.out)) : gf ≠ gy0); have mf_ := Aside0.mk (blk_below Kf.out hb); have mB_ := Aside0.mk (below_step HB.out hb); clear Kf HB; have Kf := mf_; have HB := mB_; clear mf_ mB_; have Ky0 := Aside0.mk hbox; clear hbox hb hg) | ((with_reducible refine gate_dst (N := 6) rfl ?_); refine box_event ?hg (N := 6) ?hd (cs := #[.int .i64 z]) (t := 3) ?hr ?_; (case hd => rfl); (case hg => rfl); (case hr => first | (go_simp; done) | (go_simp; rfl)); intro gz hg vz hbox hb; have Nz := Aside0.mk ((by rw [hg]; exact HB.out.size) : w.heap.size ≤ gz); have Nfz := Aside0.mk ((by rw [hg]; exact Nat.ne_of_lt (blk_lt Kf.out)) : gf ≠ gz); have Ny0z := Aside0.mk ((by rw [hg]; exact Nat.ne_of_lt (blk_lt Ky0.out)) : gy0 ≠ gz); have mf_ := Aside0.mk (blk_below Kf.out hb); have my0_ := Aside0.mk (blk_below Ky0.out hb); have mB_ := Aside0.mk (below_step HB.out hb); clear Kf Ky0 HB; have Kf := mf_; have Ky0 := my0_; have HB := mB_; clear mf_ my0_ mB_; have Kz := Aside0.mk hbox; clear hbox hb hg) | ((with_reducible refine gate_dst (N := 7) rfl ?_); refine box_event ?hg (N := 7) ?hd (cs := #[.int .i64 x]) (t := 3) ?hr ?_; (case hd => rfl); (case hg => rfl); (case hr => first | (go_simp; done) | (go_simp; rfl)); intro gx hg vx hbox hb; have Nx := Aside0.mk ((by rw [hg]; exact HB.out.size) : w.heap.size ≤ gx); have Nfx := Aside0.mk ((by rw [hg]; exact Nat.ne_of_lt (blk_lt Kf.out)) : gf ≠ gx); have Ny0x := Aside0.mk ((by rw [hg]; exact Nat.ne_of_lt (blk_lt Ky0.out)) : gy0 ≠ gx); have Nzx := Aside0.mk ((by rw [hg]; exact Nat.ne_of_lt (blk_lt Kz.out)) : gz ≠ gx); have mf_ := Aside0.mk (blk_below Kf.out hb); have my0_ := Aside0.mk (blk_below Ky0.out hb); have mz_ := Aside0.mk (blk_below Kz.out hb); have mB_ := Aside0.mk (below_step HB.out hb); clear Kf Ky0 Kz HB; have Kf := mf_; have Ky0 := my0_; have Kz := mz_; have HB := mB_; clear mf_ my0_ mz_ mB_; have Kx := Aside0.mk hbox; clear hbox hb hg; have yf0 : vx.cell? ⟨gf, 0, none⟩ = some (.int .i64 a) := (blk_cell Kf.out 0).trans rfl; have yf1 : vx.cell? ⟨gf, 1, none⟩ = some (.int .i64 c) := (blk_cell Kf.out 1).trans rfl; have yf2 : vx.cell? ⟨gf, 2, none⟩ = some (.int .i64 s) := (blk_cell Kf.out 2).trans rfl; have yf3 : vx.cell? ⟨gf, 3, none⟩ = some (.int .i64 m) := (blk_cell Kf.out 3).trans rfl; have yf4 : vx.cell? ⟨gf, 4, none⟩ = some (.int .i64 b) := (blk_cell Kf.out 4).trans rfl; have yf5 : vx.cell? ⟨gf, 5, none⟩ = some (.bool p) := (blk_cell Kf.out 5).trans rfl; have yy00 : vx.cell? ⟨gy0, 0, none⟩ = some (.int .i64 y0) := (blk_cell Ky0.out 0).trans rfl; have yz0 : vx.cell? ⟨gz, 0, none⟩ = some (.int .i64 z) := (blk_cell Kz.out 0).trans rfl; have yx0 : vx.cell? ⟨gx, 0, none⟩ = some (.int .i64 x) := (blk_cell Kx.out 0).trans rfl) | (go_at_call 65; (with_reducible refine (impl_Second_isAt.calls a c s m b p y0 z _ _ Q0.out).mono ?_); rintro e u0 ⟨rfl, hb⟩; have mf_ := Aside0.mk (blk_below Kf.out hb); have my0_ := Aside0.mk (blk_below Ky0.out hb); have mz_ := Aside0.mk (blk_below Kz.out hb); have mx_ := Aside0.mk (blk_below Kx.out hb); have mB_ := Aside0.mk (below_step HB.out hb); clear Kf Ky0 Kz Kx HB; have Kf := mf_; have Ky0 := my0_; have Kz := mz_; have Kx := mx_; have HB := mB_; clear mf_ my0_ mz_ mx_ mB_; clear yf0 yf1 yf2 yf3 yf4 yf5 yy00 yz0 yx0; clear hb; have yf0 : u0.cell? ⟨gf, 0, none⟩ = some (.int .i64 a) := (blk_cell Kf.out 0).trans rfl; have yf1 : u0.cell? ⟨gf, 1, none⟩ = some (.int .i64 c) := (blk_cell Kf.out 1).trans rfl; have yf2 : u0.cell? ⟨gf, 2, none⟩ = some (.int .i64 s) := (blk_cell Kf.out 2).trans rfl; have yf3 : u0.cell? ⟨gf, 3, none⟩ = some (.int .i64 m) := (blk_cell Kf.out 3).trans rfl; have yf4 : u0.cell? ⟨gf, 4, none⟩ = some (.int .i64 b) := (blk_cell Kf.out 4).trans rfl; have yf5 : u0.cell? ⟨gf, 5, none⟩ = some (.bool p) := (blk_cell Kf.out 5).trans rfl; have yy00 : u0.cell? ⟨gy0, 0, none⟩ = some (.int .i64 y0) := (blk_cell Ky0.out 0).trans rfl; have yz0 : u0.cell? ⟨gz, 0, none⟩ = some (.int .i64 z) := (blk_cell Kz.out 0).trans rfl; have yx0 : u0.cell? ⟨gx, 0, none⟩ = some (.int .i64 x) := (blk_cell Kx.out 0).trans rfl) | (go_at_call 44; (with_reducible refine (impl_isSample.calls x _ _ Q1.out).mono ?_); rintro e u1 ⟨rfl, hb_⟩; have hb := hb_.below; clear hb_; have mf_ := Aside0.mk (blk_below Kf.out hb); have my0_ := Aside0.mk (blk_below Ky0.out hb); have mz_ := Aside0.mk (blk_below Kz.out hb); have mx_ := Aside0.mk (blk_below Kx.out hb); have mB_ := Aside0.mk (below_step HB.out hb); clear Kf Ky0 Kz Kx HB; have Kf := mf_; have Ky0 := my0_; have Kz := mz_; have Kx := mx_; have HB := mB_; clear mf_ my0_ mz_ mx_ mB_; clear yf0 yf1 yf2 yf3 yf4 yf5 yy00 yz0 yx0; clear hb; have yf0 : u1.cell? ⟨gf, 0, none⟩ = some (.int .i64 a) := (blk_cell Kf.out 0).trans rfl; have yf1 : u1.cell? ⟨gf, 1, none⟩ = some (.int .i64 c) := (blk_cell Kf.out 1).trans rfl; have yf2 : u1.cell? ⟨gf, 2, none⟩ = some (.int .i64 s) := (blk_cell Kf.out 2).trans rfl; have yf3 : u1.cell? ⟨gf, 3, none⟩ = some (.int .i64 m) := (blk_cell Kf.out 3).trans rfl; have yf4 : u1.cell? ⟨gf, 4, none⟩ = some (.int .i64 b) := (blk_cell Kf.out 4).trans rfl; have yf5 : u1.cell? ⟨gf, 5, none⟩ = some (.bool p) := (blk_cell Kf.out 5).trans rfl; have yy00 : u1.cell? ⟨gy0, 0, none⟩ = some (.int .i64 y0) := (blk_cell Ky0.out 0).trans rfl; have yz0 : u1.cell? ⟨gz, 0, none⟩ = some (.int .i64 z) := (blk_cell Kz.out 0).trans rfl; have yx0 : u1.cell? ⟨gx, 0, none⟩ = some (.int .i64 x) := (blk_cell Kx.out 0).trans rfl))
    go_ret2
    exact ⟨_, rfl, Kd.R_nil _ _ _ _ _, HB.out⟩
  | true =>
    replace h := (if_pos rfl).symm.trans h
    obtain ⟨t1, q1_, h⟩ := Option.bind_eq_some_iff.mp h
    have Q1 := Aside0.mk q1_
    clear q1_
    cases t1 with
    | false =>
      replace h := (if_neg (by decide)).symm.trans h
      obtain ⟨rfl, rfl⟩ : ([] : List Int) = r1 ∧ false = r2 := by simpa using h
      clear h
      go_enter Try.func28, Try.ntmps28
      go_wp2_with (first | ((with_reducible refine gate_dst (N := 4) rfl ?_); refine box_event ?hg (N := 4) ?hd (cs := #[.int .i64 a, .int .i64 c, .int .i64 s, .int .i64 m, .int .i64 b, .bool p]) (t := 45) ?hr ?_; (case hd => rfl); (case hg => rfl); (case hr => first | (go_simp; done) | (go_simp; rfl)); intro gf hg vf hbox hb; have Nf := Aside0.mk ((by rw [hg]; exact HB.out.size) : w.heap.size ≤ gf); have mB_ := Aside0.mk (below_step HB.out hb); clear HB; have HB := mB_; clear mB_; have Kf := Aside0.mk hbox; clear hbox hb hg) | ((with_reducible refine gate_dst (N := 5) rfl ?_); refine box_event ?hg (N := 5) ?hd (cs := #[.int .i64 y0]) (t := 3) ?hr ?_; (case hd => rfl); (case hg => rfl); (case hr => first | (go_simp; done) | (go_simp; rfl)); intro gy0 hg vy0 hbox hb; have Ny0 := Aside0.mk ((by rw [hg]; exact HB.out.size) : w.heap.size ≤ gy0); have Nfy0 := Aside0.mk ((by rw [hg]; exact Nat.ne_of_lt (blk_lt Kf.out)) : gf ≠ gy0); have mf_ := Aside0.mk (blk_below Kf.out hb); have mB_ := Aside0.mk (below_step HB.out hb); clear Kf HB; have Kf := mf_; have HB := mB_; clear mf_ mB_; have Ky0 := Aside0.mk hbox; clear hbox hb hg) | ((with_reducible refine gate_dst (N := 6) rfl ?_); refine box_event ?hg (N := 6) ?hd (cs := #[.int .i64 z]) (t := 3) ?hr ?_; (case hd => rfl); (case hg => rfl); (case hr => first | (go_simp; done) | (go_simp; rfl)); intro gz hg vz hbox hb; have Nz := Aside0.mk ((by rw [hg]; exact HB.out.size) : w.heap.size ≤ gz); have Nfz := Aside0.mk ((by rw [hg]; exact Nat.ne_of_lt (blk_lt Kf.out)) : gf ≠ gz); have Ny0z := Aside0.mk ((by rw [hg]; exact Nat.ne_of_lt (blk_lt Ky0.out)) : gy0 ≠ gz); have mf_ := Aside0.mk (blk_below Kf.out hb); have my0_ := Aside0.mk (blk_below Ky0.out hb); have mB_ := Aside0.mk (below_step HB.out hb); clear Kf Ky0 HB; have Kf := mf_; have Ky0 := my0_; have HB := mB_; clear mf_ my0_ mB_; have Kz := Aside0.mk hbox; clear hbox hb hg) | ((with_reducible refine gate_dst (N := 7) rfl ?_); refine box_event ?hg (N := 7) ?hd (cs := #[.int .i64 x]) (t := 3) ?hr ?_; (case hd => rfl); (case hg => rfl); (case hr => first | (go_simp; done) | (go_simp; rfl)); intro gx hg vx hbox hb; have Nx := Aside0.mk ((by rw [hg]; exact HB.out.size) : w.heap.size ≤ gx); have Nfx := Aside0.mk ((by rw [hg]; exact Nat.ne_of_lt (blk_lt Kf.out)) : gf ≠ gx); have Ny0x := Aside0.mk ((by rw [hg]; exact Nat.ne_of_lt (blk_lt Ky0.out)) : gy0 ≠ gx); have Nzx := Aside0.mk ((by rw [hg]; exact Nat.ne_of_lt (blk_lt Kz.out)) : gz ≠ gx); have mf_ := Aside0.mk (blk_below Kf.out hb); have my0_ := Aside0.mk (blk_below Ky0.out hb); have mz_ := Aside0.mk (blk_below Kz.out hb); have mB_ := Aside0.mk (below_step HB.out hb); clear Kf Ky0 Kz HB; have Kf := mf_; have Ky0 := my0_; have Kz := mz_; have HB := mB_; clear mf_ my0_ mz_ mB_; have Kx := Aside0.mk hbox; clear hbox hb hg; have yf0 : vx.cell? ⟨gf, 0, none⟩ = some (.int .i64 a) := (blk_cell Kf.out 0).trans rfl; have yf1 : vx.cell? ⟨gf, 1, none⟩ = some (.int .i64 c) := (blk_cell Kf.out 1).trans rfl; have yf2 : vx.cell? ⟨gf, 2, none⟩ = some (.int .i64 s) := (blk_cell Kf.out 2).trans rfl; have yf3 : vx.cell? ⟨gf, 3, none⟩ = some (.int .i64 m) := (blk_cell Kf.out 3).trans rfl; have yf4 : vx.cell? ⟨gf, 4, none⟩ = some (.int .i64 b) := (blk_cell Kf.out 4).trans rfl; have yf5 : vx.cell? ⟨gf, 5, none⟩ = some (.bool p) := (blk_cell Kf.out 5).trans rfl; have yy00 : vx.cell? ⟨gy0, 0, none⟩ = some (.int .i64 y0) := (blk_cell Ky0.out 0).trans rfl; have yz0 : vx.cell? ⟨gz, 0, none⟩ = some (.int .i64 z) := (blk_cell Kz.out 0).trans rfl; have yx0 : vx.cell? ⟨gx, 0, none⟩ = some (.int .i64 x) := (blk_cell Kx.out 0).trans rfl) | (go_at_call 65; (with_reducible refine (impl_Second_isAt.calls a c s m b p y0 z _ _ Q0.out).mono ?_); rintro e u0 ⟨rfl, hb⟩; have mf_ := Aside0.mk (blk_below Kf.out hb); have my0_ := Aside0.mk (blk_below Ky0.out hb); have mz_ := Aside0.mk (blk_below Kz.out hb); have mx_ := Aside0.mk (blk_below Kx.out hb); have mB_ := Aside0.mk (below_step HB.out hb); clear Kf Ky0 Kz Kx HB; have Kf := mf_; have Ky0 := my0_; have Kz := mz_; have Kx := mx_; have HB := mB_; clear mf_ my0_ mz_ mx_ mB_; clear yf0 yf1 yf2 yf3 yf4 yf5 yy00 yz0 yx0; clear hb; have yf0 : u0.cell? ⟨gf, 0, none⟩ = some (.int .i64 a) := (blk_cell Kf.out 0).trans rfl; have yf1 : u0.cell? ⟨gf, 1, none⟩ = some (.int .i64 c) := (blk_cell Kf.out 1).trans rfl; have yf2 : u0.cell? ⟨gf, 2, none⟩ = some (.int .i64 s) := (blk_cell Kf.out 2).trans rfl; have yf3 : u0.cell? ⟨gf, 3, none⟩ = some (.int .i64 m) := (blk_cell Kf.out 3).trans rfl; have yf4 : u0.cell? ⟨gf, 4, none⟩ = some (.int .i64 b) := (blk_cell Kf.out 4).trans rfl; have yf5 : u0.cell? ⟨gf, 5, none⟩ = some (.bool p) := (blk_cell Kf.out 5).trans rfl; have yy00 : u0.cell? ⟨gy0, 0, none⟩ = some (.int .i64 y0) := (blk_cell Ky0.out 0).trans rfl; have yz0 : u0.cell? ⟨gz, 0, none⟩ = some (.int .i64 z) := (blk_cell Kz.out 0).trans rfl; have yx0 : u0.cell? ⟨gx, 0, none⟩ = some (.int .i64 x) := (blk_cell Kx.out 0).trans rfl) | (go_at_call 44; (with_reducible refine (impl_isSample.calls x _ _ Q1.out).mono ?_); rintro e u1 ⟨rfl, hb_⟩; have hb := hb_.below; clear hb_; have mf_ := Aside0.mk (blk_below Kf.out hb); have my0_ := Aside0.mk (blk_below Ky0.out hb); have mz_ := Aside0.mk (blk_below Kz.out hb); have mx_ := Aside0.mk (blk_below Kx.out hb); have mB_ := Aside0.mk (below_step HB.out hb); clear Kf Ky0 Kz Kx HB; have Kf := mf_; have Ky0 := my0_; have Kz := mz_; have Kx := mx_; have HB := mB_; clear mf_ my0_ mz_ mx_ mB_; clear yf0 yf1 yf2 yf3 yf4 yf5 yy00 yz0 yx0; clear hb; have yf0 : u1.cell? ⟨gf, 0, none⟩ = some (.int .i64 a) := (blk_cell Kf.out 0).trans rfl; have yf1 : u1.cell? ⟨gf, 1, none⟩ = some (.int .i64 c) := (blk_cell Kf.out 1).trans rfl; have yf2 : u1.cell? ⟨gf, 2, none⟩ = some (.int .i64 s) := (blk_cell Kf.out 2).trans rfl; have yf3 : u1.cell? ⟨gf, 3, none⟩ = some (.int .i64 m) := (blk_cell Kf.out 3).trans rfl; have yf4 : u1.cell? ⟨gf, 4, none⟩ = some (.int .i64 b) := (blk_cell Kf.out 4).trans rfl; have yf5 : u1.cell? ⟨gf, 5, none⟩ = some (.bool p) := (blk_cell Kf.out 5).trans rfl; have yy00 : u1.cell? ⟨gy0, 0, none⟩ = some (.int .i64 y0) := (blk_cell Ky0.out 0).trans rfl; have yz0 : u1.cell? ⟨gz, 0, none⟩ = some (.int .i64 z) := (blk_cell Kz.out 0).trans rfl; have yx0 : u1.cell? ⟨gx, 0, none⟩ = some (.int .i64 x) := (blk_cell Kx.out 0).trans rfl))
      go_ret2
      exact ⟨_, rfl, Kd.R_nil _ _ _ _ _, HB.out⟩
    | true =>
      replace h := (if_pos rfl).symm.trans h
      by_cases c2 : b > 10
      · replace h := (if_pos c2).symm.trans h
        have d2 := decide_eq_true c2
        clear c2
        obtain ⟨rfl, rfl⟩ : ([] : List Int) = r1 ∧ false = r2 := by simpa using h
        clear h
        go_enter Try.func28, Try.ntmps28
        go_wp2_with (first | ((with_reducible refine gate_dst (N := 4) rfl ?_); refine box_event ?hg (N := 4) ?hd (cs := #[.int .i64 a, .int .i64 c, .int .i64 s, .int .i64 m, .int .i64 b, .bool p]) (t := 45) ?hr ?_; (case hd => rfl); (case hg => rfl); (case hr => first | (go_simp; done) | (go_simp; rfl)); intro gf hg vf hbox hb; have Nf := Aside0.mk ((by rw [hg]; exact HB.out.size) : w.heap.size ≤ gf); have mB_ := Aside0.mk (below_step HB.out hb); clear HB; have HB := mB_; clear mB_; have Kf := Aside0.mk hbox; clear hbox hb hg) | ((with_reducible refine gate_dst (N := 5) rfl ?_); refine box_event ?hg (N := 5) ?hd (cs := #[.int .i64 y0]) (t := 3) ?hr ?_; (case hd => rfl); (case hg => rfl); (case hr => first | (go_simp; done) | (go_simp; rfl)); intro gy0 hg vy0 hbox hb; have Ny0 := Aside0.mk ((by rw [hg]; exact HB.out.size) : w.heap.size ≤ gy0); have Nfy0 := Aside0.mk ((by rw [hg]; exact Nat.ne_of_lt (blk_lt Kf.out)) : gf ≠ gy0); have mf_ := Aside0.mk (blk_below Kf.out hb); have mB_ := Aside0.mk (below_step HB.out hb); clear Kf HB; have Kf := mf_; have HB := mB_; clear mf_ mB_; have Ky0 := Aside0.mk hbox; clear hbox hb hg) | ((with_reducible refine gate_dst (N := 6) rfl ?_); refine box_event ?hg (N := 6) ?hd (cs := #[.int .i64 z]) (t := 3) ?hr ?_; (case hd => rfl); (case hg => rfl); (case hr => first | (go_simp; done) | (go_simp; rfl)); intro gz hg vz hbox hb; have Nz := Aside0.mk ((by rw [hg]; exact HB.out.size) : w.heap.size ≤ gz); have Nfz := Aside0.mk ((by rw [hg]; exact Nat.ne_of_lt (blk_lt Kf.out)) : gf ≠ gz); have Ny0z := Aside0.mk ((by rw [hg]; exact Nat.ne_of_lt (blk_lt Ky0.out)) : gy0 ≠ gz); have mf_ := Aside0.mk (blk_below Kf.out hb); have my0_ := Aside0.mk (blk_below Ky0.out hb); have mB_ := Aside0.mk (below_step HB.out hb); clear Kf Ky0 HB; have Kf := mf_; have Ky0 := my0_; have HB := mB_; clear mf_ my0_ mB_; have Kz := Aside0.mk hbox; clear hbox hb hg) | ((with_reducible refine gate_dst (N := 7) rfl ?_); refine box_event ?hg (N := 7) ?hd (cs := #[.int .i64 x]) (t := 3) ?hr ?_; (case hd => rfl); (case hg => rfl); (case hr => first | (go_simp; done) | (go_simp; rfl)); intro gx hg vx hbox hb; have Nx := Aside0.mk ((by rw [hg]; exact HB.out.size) : w.heap.size ≤ gx); have Nfx := Aside0.mk ((by rw [hg]; exact Nat.ne_of_lt (blk_lt Kf.out)) : gf ≠ gx); have Ny0x := Aside0.mk ((by rw [hg]; exact Nat.ne_of_lt (blk_lt Ky0.out)) : gy0 ≠ gx); have Nzx := Aside0.mk ((by rw [hg]; exact Nat.ne_of_lt (blk_lt Kz.out)) : gz ≠ gx); have mf_ := Aside0.mk (blk_below Kf.out hb); have my0_ := Aside0.mk (blk_below Ky0.out hb); have mz_ := Aside0.mk (blk_below Kz.out hb); have mB_ := Aside0.mk (below_step HB.out hb); clear Kf Ky0 Kz HB; have Kf := mf_; have Ky0 := my0_; have Kz := mz_; have HB := mB_; clear mf_ my0_ mz_ mB_; have Kx := Aside0.mk hbox; clear hbox hb hg; have yf0 : vx.cell? ⟨gf, 0, none⟩ = some (.int .i64 a) := (blk_cell Kf.out 0).trans rfl; have yf1 : vx.cell? ⟨gf, 1, none⟩ = some (.int .i64 c) := (blk_cell Kf.out 1).trans rfl; have yf2 : vx.cell? ⟨gf, 2, none⟩ = some (.int .i64 s) := (blk_cell Kf.out 2).trans rfl; have yf3 : vx.cell? ⟨gf, 3, none⟩ = some (.int .i64 m) := (blk_cell Kf.out 3).trans rfl; have yf4 : vx.cell? ⟨gf, 4, none⟩ = some (.int .i64 b) := (blk_cell Kf.out 4).trans rfl; have yf5 : vx.cell? ⟨gf, 5, none⟩ = some (.bool p) := (blk_cell Kf.out 5).trans rfl; have yy00 : vx.cell? ⟨gy0, 0, none⟩ = some (.int .i64 y0) := (blk_cell Ky0.out 0).trans rfl; have yz0 : vx.cell? ⟨gz, 0, none⟩ = some (.int .i64 z) := (blk_cell Kz.out 0).trans rfl; have yx0 : vx.cell? ⟨gx, 0, none⟩ = some (.int .i64 x) := (blk_cell Kx.out 0).trans rfl) | (go_at_call 65; (with_reducible refine (impl_Second_isAt.calls a c s m b p y0 z _ _ Q0.out).mono ?_); rintro e u0 ⟨rfl, hb⟩; have mf_ := Aside0.mk (blk_below Kf.out hb); have my0_ := Aside0.mk (blk_below Ky0.out hb); have mz_ := Aside0.mk (blk_below Kz.out hb); have mx_ := Aside0.mk (blk_below Kx.out hb); have mB_ := Aside0.mk (below_step HB.out hb); clear Kf Ky0 Kz Kx HB; have Kf := mf_; have Ky0 := my0_; have Kz := mz_; have Kx := mx_; have HB := mB_; clear mf_ my0_ mz_ mx_ mB_; clear yf0 yf1 yf2 yf3 yf4 yf5 yy00 yz0 yx0; clear hb; have yf0 : u0.cell? ⟨gf, 0, none⟩ = some (.int .i64 a) := (blk_cell Kf.out 0).trans rfl; have yf1 : u0.cell? ⟨gf, 1, none⟩ = some (.int .i64 c) := (blk_cell Kf.out 1).trans rfl; have yf2 : u0.cell? ⟨gf, 2, none⟩ = some (.int .i64 s) := (blk_cell Kf.out 2).trans rfl; have yf3 : u0.cell? ⟨gf, 3, none⟩ = some (.int .i64 m) := (blk_cell Kf.out 3).trans rfl; have yf4 : u0.cell? ⟨gf, 4, none⟩ = some (.int .i64 b) := (blk_cell Kf.out 4).trans rfl; have yf5 : u0.cell? ⟨gf, 5, none⟩ = some (.bool p) := (blk_cell Kf.out 5).trans rfl; have yy00 : u0.cell? ⟨gy0, 0, none⟩ = some (.int .i64 y0) := (blk_cell Ky0.out 0).trans rfl; have yz0 : u0.cell? ⟨gz, 0, none⟩ = some (.int .i64 z) := (blk_cell Kz.out 0).trans rfl; have yx0 : u0.cell? ⟨gx, 0, none⟩ = some (.int .i64 x) := (blk_cell Kx.out 0).trans rfl) | (go_at_call 44; (with_reducible refine (impl_isSample.calls x _ _ Q1.out).mono ?_); rintro e u1 ⟨rfl, hb_⟩; have hb := hb_.below; clear hb_; have mf_ := Aside0.mk (blk_below Kf.out hb); have my0_ := Aside0.mk (blk_below Ky0.out hb); have mz_ := Aside0.mk (blk_below Kz.out hb); have mx_ := Aside0.mk (blk_below Kx.out hb); have mB_ := Aside0.mk (below_step HB.out hb); clear Kf Ky0 Kz Kx HB; have Kf := mf_; have Ky0 := my0_; have Kz := mz_; have Kx := mx_; have HB := mB_; clear mf_ my0_ mz_ mx_ mB_; clear yf0 yf1 yf2 yf3 yf4 yf5 yy00 yz0 yx0; clear hb; have yf0 : u1.cell? ⟨gf, 0, none⟩ = some (.int .i64 a) := (blk_cell Kf.out 0).trans rfl; have yf1 : u1.cell? ⟨gf, 1, none⟩ = some (.int .i64 c) := (blk_cell Kf.out 1).trans rfl; have yf2 : u1.cell? ⟨gf, 2, none⟩ = some (.int .i64 s) := (blk_cell Kf.out 2).trans rfl; have yf3 : u1.cell? ⟨gf, 3, none⟩ = some (.int .i64 m) := (blk_cell Kf.out 3).trans rfl; have yf4 : u1.cell? ⟨gf, 4, none⟩ = some (.int .i64 b) := (blk_cell Kf.out 4).trans rfl; have yf5 : u1.cell? ⟨gf, 5, none⟩ = some (.bool p) := (blk_cell Kf.out 5).trans rfl; have yy00 : u1.cell? ⟨gy0, 0, none⟩ = some (.int .i64 y0) := (blk_cell Ky0.out 0).trans rfl; have yz0 : u1.cell? ⟨gz, 0, none⟩ = some (.int .i64 z) := (blk_cell Kz.out 0).trans rfl; have yx0 : u1.cell? ⟨gx, 0, none⟩ = some (.int .i64 x) := (blk_cell Kx.out 0).trans rfl))
        go_ret2
        exact ⟨_, rfl, Kd.R_nil _ _ _ _ _, HB.out⟩
      · replace h := (if_neg c2).symm.trans h
        have d2 := decide_eq_false c2
        clear c2
        obtain ⟨QE, qa_, h⟩ := Option.bind_eq_some_iff.mp h
        obtain ⟨rr, ql_, h⟩ := Option.bind_eq_some_iff.mp h
        obtain ⟨rfl, rfl⟩ : rr = r1 ∧ true = r2 := by simpa using h
        have QA := Aside0.mk qa_
        have QL := Aside0.mk ql_
        clear qa_ ql_ h
        go_enter Try.func28, Try.ntmps28
        go_wp2_with (first | ((with_reducible refine gate_dst (N := 4) rfl ?_); refine box_event ?hg (N := 4) ?hd (cs := #[.int .i64 a, .int .i64 c, .int .i64 s, .int .i64 m, .int .i64 b, .bool p]) (t := 45) ?hr ?_; (case hd => rfl); (case hg => rfl); (case hr => first | (go_simp; done) | (go_simp; rfl)); intro gf hg vf hbox hb; have Nf := Aside0.mk ((by rw [hg]; exact HB.out.size) : w.heap.size ≤ gf); have mB_ := Aside0.mk (below_step HB.out hb); clear HB; have HB := mB_; clear mB_; have Kf := Aside0.mk hbox; clear hbox hb hg) | ((with_reducible refine gate_dst (N := 5) rfl ?_); refine box_event ?hg (N := 5) ?hd (cs := #[.int .i64 y0]) (t := 3) ?hr ?_; (case hd => rfl); (case hg => rfl); (case hr => first | (go_simp; done) | (go_simp; rfl)); intro gy0 hg vy0 hbox hb; have Ny0 := Aside0.mk ((by rw [hg]; exact HB.out.size) : w.heap.size ≤ gy0); have Nfy0 := Aside0.mk ((by rw [hg]; exact Nat.ne_of_lt (blk_lt Kf.out)) : gf ≠ gy0); have mf_ := Aside0.mk (blk_below Kf.out hb); have mB_ := Aside0.mk (below_step HB.out hb); clear Kf HB; have Kf := mf_; have HB := mB_; clear mf_ mB_; have Ky0 := Aside0.mk hbox; clear hbox hb hg) | ((with_reducible refine gate_dst (N := 6) rfl ?_); refine box_event ?hg (N := 6) ?hd (cs := #[.int .i64 z]) (t := 3) ?hr ?_; (case hd => rfl); (case hg => rfl); (case hr => first | (go_simp; done) | (go_simp; rfl)); intro gz hg vz hbox hb; have Nz := Aside0.mk ((by rw [hg]; exact HB.out.size) : w.heap.size ≤ gz); have Nfz := Aside0.mk ((by rw [hg]; exact Nat.ne_of_lt (blk_lt Kf.out)) : gf ≠ gz); have Ny0z := Aside0.mk ((by rw [hg]; exact Nat.ne_of_lt (blk_lt Ky0.out)) : gy0 ≠ gz); have mf_ := Aside0.mk (blk_below Kf.out hb); have my0_ := Aside0.mk (blk_below Ky0.out hb); have mB_ := Aside0.mk (below_step HB.out hb); clear Kf Ky0 HB; have Kf := mf_; have Ky0 := my0_; have HB := mB_; clear mf_ my0_ mB_; have Kz := Aside0.mk hbox; clear hbox hb hg) | ((with_reducible refine gate_dst (N := 7) rfl ?_); refine box_event ?hg (N := 7) ?hd (cs := #[.int .i64 x]) (t := 3) ?hr ?_; (case hd => rfl); (case hg => rfl); (case hr => first | (go_simp; done) | (go_simp; rfl)); intro gx hg vx hbox hb; have Nx := Aside0.mk ((by rw [hg]; exact HB.out.size) : w.heap.size ≤ gx); have Nfx := Aside0.mk ((by rw [hg]; exact Nat.ne_of_lt (blk_lt Kf.out)) : gf ≠ gx); have Ny0x := Aside0.mk ((by rw [hg]; exact Nat.ne_of_lt (blk_lt Ky0.out)) : gy0 ≠ gx); have Nzx := Aside0.mk ((by rw [hg]; exact Nat.ne_of_lt (blk_lt Kz.out)) : gz ≠ gx); have mf_ := Aside0.mk (blk_below Kf.out hb); have my0_ := Aside0.mk (blk_below Ky0.out hb); have mz_ := Aside0.mk (blk_below Kz.out hb); have mB_ := Aside0.mk (below_step HB.out hb); clear Kf Ky0 Kz HB; have Kf := mf_; have Ky0 := my0_; have Kz := mz_; have HB := mB_; clear mf_ my0_ mz_ mB_; have Kx := Aside0.mk hbox; clear hbox hb hg; have yf0 : vx.cell? ⟨gf, 0, none⟩ = some (.int .i64 a) := (blk_cell Kf.out 0).trans rfl; have yf1 : vx.cell? ⟨gf, 1, none⟩ = some (.int .i64 c) := (blk_cell Kf.out 1).trans rfl; have yf2 : vx.cell? ⟨gf, 2, none⟩ = some (.int .i64 s) := (blk_cell Kf.out 2).trans rfl; have yf3 : vx.cell? ⟨gf, 3, none⟩ = some (.int .i64 m) := (blk_cell Kf.out 3).trans rfl; have yf4 : vx.cell? ⟨gf, 4, none⟩ = some (.int .i64 b) := (blk_cell Kf.out 4).trans rfl; have yf5 : vx.cell? ⟨gf, 5, none⟩ = some (.bool p) := (blk_cell Kf.out 5).trans rfl; have yy00 : vx.cell? ⟨gy0, 0, none⟩ = some (.int .i64 y0) := (blk_cell Ky0.out 0).trans rfl; have yz0 : vx.cell? ⟨gz, 0, none⟩ = some (.int .i64 z) := (blk_cell Kz.out 0).trans rfl; have yx0 : vx.cell? ⟨gx, 0, none⟩ = some (.int .i64 x) := (blk_cell Kx.out 0).trans rfl) | (go_at_call 65; (with_reducible refine (impl_Second_isAt.calls a c s m b p y0 z _ _ Q0.out).mono ?_); rintro e u0 ⟨rfl, hb⟩; have mf_ := Aside0.mk (blk_below Kf.out hb); have my0_ := Aside0.mk (blk_below Ky0.out hb); have mz_ := Aside0.mk (blk_below Kz.out hb); have mx_ := Aside0.mk (blk_below Kx.out hb); have mB_ := Aside0.mk (below_step HB.out hb); clear Kf Ky0 Kz Kx HB; have Kf := mf_; have Ky0 := my0_; have Kz := mz_; have Kx := mx_; have HB := mB_; clear mf_ my0_ mz_ mx_ mB_; clear yf0 yf1 yf2 yf3 yf4 yf5 yy00 yz0 yx0; clear hb; have yf0 : u0.cell? ⟨gf, 0, none⟩ = some (.int .i64 a) := (blk_cell Kf.out 0).trans rfl; have yf1 : u0.cell? ⟨gf, 1, none⟩ = some (.int .i64 c) := (blk_cell Kf.out 1).trans rfl; have yf2 : u0.cell? ⟨gf, 2, none⟩ = some (.int .i64 s) := (blk_cell Kf.out 2).trans rfl; have yf3 : u0.cell? ⟨gf, 3, none⟩ = some (.int .i64 m) := (blk_cell Kf.out 3).trans rfl; have yf4 : u0.cell? ⟨gf, 4, none⟩ = some (.int .i64 b) := (blk_cell Kf.out 4).trans rfl; have yf5 : u0.cell? ⟨gf, 5, none⟩ = some (.bool p) := (blk_cell Kf.out 5).trans rfl; have yy00 : u0.cell? ⟨gy0, 0, none⟩ = some (.int .i64 y0) := (blk_cell Ky0.out 0).trans rfl; have yz0 : u0.cell? ⟨gz, 0, none⟩ = some (.int .i64 z) := (blk_cell Kz.out 0).trans rfl; have yx0 : u0.cell? ⟨gx, 0, none⟩ = some (.int .i64 x) := (blk_cell Kx.out 0).trans rfl) | (go_at_call 44; (with_reducible refine (impl_isSample.calls x _ _ Q1.out).mono ?_); rintro e u1 ⟨rfl, hb_⟩; have hb := hb_.below; clear hb_; have mf_ := Aside0.mk (blk_below Kf.out hb); have my0_ := Aside0.mk (blk_below Ky0.out hb); have mz_ := Aside0.mk (blk_below Kz.out hb); have mx_ := Aside0.mk (blk_below Kx.out hb); have mB_ := Aside0.mk (below_step HB.out hb); clear Kf Ky0 Kz Kx HB; have Kf := mf_; have Ky0 := my0_; have Kz := mz_; have Kx := mx_; have HB := mB_; clear mf_ my0_ mz_ mx_ mB_; clear yf0 yf1 yf2 yf3 yf4 yf5 yy00 yz0 yx0; clear hb; have yf0 : u1.cell? ⟨gf, 0, none⟩ = some (.int .i64 a) := (blk_cell Kf.out 0).trans rfl; have yf1 : u1.cell? ⟨gf, 1, none⟩ = some (.int .i64 c) := (blk_cell Kf.out 1).trans rfl; have yf2 : u1.cell? ⟨gf, 2, none⟩ = some (.int .i64 s) := (blk_cell Kf.out 2).trans rfl; have yf3 : u1.cell? ⟨gf, 3, none⟩ = some (.int .i64 m) := (blk_cell Kf.out 3).trans rfl; have yf4 : u1.cell? ⟨gf, 4, none⟩ = some (.int .i64 b) := (blk_cell Kf.out 4).trans rfl; have yf5 : u1.cell? ⟨gf, 5, none⟩ = some (.bool p) := (blk_cell Kf.out 5).trans rfl; have yy00 : u1.cell? ⟨gy0, 0, none⟩ = some (.int .i64 y0) := (blk_cell Ky0.out 0).trans rfl; have yz0 : u1.cell? ⟨gz, 0, none⟩ = some (.int .i64 z) := (blk_cell Kz.out 0).trans rfl; have yx0 : u1.cell? ⟨gx, 0, none⟩ = some (.int .i64 x) := (blk_cell Kx.out 0).trans rfl) | ((with_reducible refine gate_dst (N := 27) rfl ?_); refine Kd.R_lit (Kd.int .i64) (w0 := w) w.heap.size 3 ?hg (N := 27) ?hd (xs := ([] : List Int)) (inner := []) (ok := fun k_ => k_ ≠ gz ∧ k_ ≠ gx ∧ k_ ≠ gy0 ∧ k_ ≠ gf) (okp := fun k_ => k_ ≠ gz ∧ k_ ≠ gx ∧ k_ ≠ gy0 ∧ k_ ≠ gf) ?hr ?hp (fun _ hk => hk) ?hf HB.out HB.out.size (by simp) ?_; (case hd => rfl); (case hg => rfl); (case hr => first | (go_simp; done) | (go_simp; rfl)); (case hp => exact (Reps.none _ _)); (case hf => exact ⟨Nat.ne_of_gt (blk_lt Kz.out), Nat.ne_of_gt (blk_lt Kx.out), Nat.ne_of_gt (blk_lt Ky0.out), Nat.ne_of_gt (blk_lt Kf.out)⟩); intro vl ul hol hb2 hgr hnew_; clear hnew_; have mf_ := Aside0.mk (blk_grown Kf.out hgr (by simp)); have my0_ := Aside0.mk (blk_grown Ky0.out hgr (by simp)); have mz_ := Aside0.mk (blk_grown Kz.out hgr (by simp)); have mx_ := Aside0.mk (blk_grown Kx.out hgr (by simp)); clear HB Kf Ky0 Kz Kx; have HB := Aside0.mk hb2; have Kf := mf_; have Ky0 := my0_; have Kz := mz_; have Kx := mx_; clear mf_ my0_ mz_ mx_ yf0 yf1 yf2 yf3 yf4 yf5 yy00 yz0 yx0; have HO := Aside0.mk hol; clear hol hb2 hgr) | ((with_reducible refine gate_dst (N := 10) rfl ?_); refine box_event ?hg (N := 10) ?hd (cs := #[.slice none 0 0]) (t := 33) ?hr ?_; (case hd => rfl); (case hg => rfl); (case hr => first | (go_simp; done) | (go_simp; rfl)); intro go hg vo hbox hb; have No := Aside0.mk ((by rw [hg]; exact HB.out.size) : w.heap.size ≤ go); have Nfo := Aside0.mk ((by rw [hg]; exact Nat.ne_of_lt (blk_lt Kf.out)) : gf ≠ go); have qfo := Nfo.out; have rfo := qfo.symm; have Ny0o := Aside0.mk ((by rw [hg]; exact Nat.ne_of_lt (blk_lt Ky0.out)) : gy0 ≠ go); have qy0o := Ny0o.out; have ry0o := qy0o.symm; have Nzo := Aside0.mk ((by rw [hg]; exact Nat.ne_of_lt (blk_lt Kz.out)) : gz ≠ go); have qzo := Nzo.out; have rzo := qzo.symm; have Nxo := Aside0.mk ((by rw [hg]; exact Nat.ne_of_lt (blk_lt Kx.out)) : gx ≠ go); have qxo := Nxo.out; have rxo := qxo.symm; have mO_ := Aside0.mk (Kd.R_below (Kd.R_mono (Kd.R_bound HO.out) (ok' := fun k_ => k_ ≠ gz ∧ k_ ≠ gx ∧ k_ ≠ gy0 ∧ k_ ≠ gf ∧ k_ ≠ go) (fun k_ hk_ => ⟨hk_.1.1, hk_.1.2.1, hk_.1.2.2.1, hk_.1.2.2.2, by rw [hg]; exact Nat.ne_of_lt hk_.2.2.1⟩)) hb); clear HO; obtain ⟨A_, c_, rfl⟩ := Kd.R_slice mO_.out; have HO := mO_; clear mO_; have mf_ := Aside0.mk (blk_below Kf.out hb); have my0_ := Aside0.mk (blk_below Ky0.out hb); have mz_ := Aside0.mk (blk_below Kz.out hb); have mx_ := Aside0.mk (blk_below Kx.out hb); have mB_ := Aside0.mk (below_step HB.out hb); clear Kf Ky0 Kz Kx HB; have Kf := mf_; have Ky0 := my0_; have Kz := mz_; have Kx := mx_; have HB := mB_; clear mf_ my0_ mz_ mx_ mB_; have Ko := Aside0.mk hbox; clear hbox hb hg; have yf0 : vo.cell? ⟨gf, 0, none⟩ = some (.int .i64 a) := (blk_cell Kf.out 0).trans rfl; have yf1 : vo.cell? ⟨gf, 1, none⟩ = some (.int .i64 c) := (blk_cell Kf.out 1).trans rfl; have yf2 : vo.cell? ⟨gf, 2, none⟩ = some (.int .i64 s) := (blk_cell Kf.out 2).trans rfl; have yf3 : vo.cell? ⟨gf, 3, none⟩ = some (.int .i64 m) := (blk_cell Kf.out 3).trans rfl; have yf4 : vo.cell? ⟨gf, 4, none⟩ = some (.int .i64 b) := (blk_cell Kf.out 4).trans rfl; have yf5 : vo.cell? ⟨gf, 5, none⟩ = some (.bool p) := (blk_cell Kf.out 5).trans rfl; have yy00 : vo.cell? ⟨gy0, 0, none⟩ = some (.int .i64 y0) := (blk_cell Ky0.out 0).trans rfl; have yz0 : vo.cell? ⟨gz, 0, none⟩ = some (.int .i64 z) := (blk_cell Kz.out 0).trans rfl; have yx0 : vo.cell? ⟨gx, 0, none⟩ = some (.int .i64 x) := (blk_cell Kx.out 0).trans rfl; have yo0 : vo.cell? ⟨go, 0, none⟩ = some (.slice none 0 0) := (blk_cell Ko.out 0).trans rfl; have zo0 := blk_frozen Ko.out 0) | (go_at_call 70; (with_reducible refine (impl_PairsBefore.all k w _ gf gz gx gy0 go a c s m b p z x y0 QE.1 QE.2 _ [] rr (impl_PairsBefore.St.mk ⟨blk_far Kf.out Nfo.out _, blk_far Kz.out Nzo.out _, blk_far Kx.out Nxo.out _, blk_far Ky0.out Ny0o.out _, blk_put Ko.out 0 _ rfl, Kd.R_far HO.out (p := ⟨go, 0, none⟩) (fun k_ hk_ => hk_.2.2.2.2) _, below_set HB.out No.out⟩) No.out Nfo.out Nzo.out Nxo.out Ny0o.out QA.out QL.out).mono ?_); rintro e ua ⟨rfl, ⟨v1, hs2⟩⟩; have HS := Aside0.mk hs2; clear hs2; clear yf0 yf1 yf2 yf3 yf4 yf5 yy00 yz0 yx0 yo0 zo0; have yo1 : ua.cell? ⟨go, 0, none⟩ = some v1 := (blk_cell HS.out.2.2.2.2.1 0).trans rfl))
        go_ret2
        exact ⟨_, rfl, Kd.R_mono HS.out.2.2.2.2.2.1 (fun _ _ => trivial), HS.out.2.2.2.2.2.2⟩

end Go.Proofs.Ytepfkahbfnahmaa.QFnExactPairsBefore
