-- Written by wprint.py (this session's program over the kit's print) out of the translation.
import Derived.Test.YtgancmcbldmjaaaQFnWeightsMirroredx0
import Derived.Test.YtgancmcbldmjaaaQFnWeightsMirroredx1
import Derived.Test.YtgancmcbldmjaaaQFnWeightsMirroredx2
namespace Go.Proofs.Ytgancmcbldmjaaa.QFnWeightsMirrored
open Go.RowKit Go.Proofs.YtgancmcbldmjaaaW.PrintWords Go.Proofs.YtgancmcbldmjaaaW.PrintLast Go.Proofs.YtgancmcbldmjaaaW.PrintMore
attribute [local go_sem] max2_int min2_int max_two min_two max_three min_three max_four min_four   -- for this text's walks alone
set_option linter.unusedVariables false
set_option linter.unusedSimpArgs false

/-! ### impl_weighed: function 78 -/
def impl_weighed.f (k : Nat) (l0 : List Int) : Option (List Int × Bool) := (impl_isWeights.f k l0).bind fun t273 => (if t273 = true then (some (l0, true)) else (some (([] : List Int), false)))
theorem impl_weighed.mono : ∀ a0 k, LeO (impl_weighed.f k a0) (impl_weighed.f (k + 1) a0) := by
  intro a0 k
  unfold impl_weighed.f
  repeat' first
      | (with_reducible exact impl_isWeights.mono _ _)
      | (with_reducible exact LeO.refl _)
      | (with_reducible exact LeO.none _)
      | (with_reducible refine LeO.ite ?_ ?_)
      | (with_reducible refine LeO.bind ?_ (fun _ => ?_))
      | exact impl_isWeights.mono _ _
      | exact LeO.none _
      | refine LeO.ite ?_ ?_
      | refine LeO.bind ?_ (fun _ => ?_)
set_option maxHeartbeats 8000000 in
set_option maxRecDepth 100000 in
theorem impl_weighed.calls (k : Nat) (P0_ : Nat → Prop) (u9000_ : Value) (l0 : List Int) (r1 : List Int) (r2 : Bool) (w0 w : World) (hB : Below w0.heap.size w0 w) (ho0 : Kd.R (Kd.int .i64) 3 w w0.heap.size P0_ u9000_ l0) (h : impl_weighed.f k l0 = some (r1, r2)) :
    Calls Try.prog 78 #[u9000_] w fun e w' => ∃ v0_ : Value, e = .returned (.tuple #[v0_, .bool r2]) ∧ Kd.R (Kd.int .i64) 3 w' w0.heap.size (fun k_ => (P0_ k_ ∨ w.heap.size ≤ k_)) v0_ r1 ∧ Below w0.heap.size w0 w' ∧ Kept w w' (fun k_ => P0_ k_) := by
  have HO0 := Aside0.mk (show Kd.R (Kd.int .i64) 3 w w0.heap.size (fun k_ => (P0_ k_ ∨ w.heap.size ≤ k_)) u9000_ l0 from Kd.R_mono ho0 (fun k_ hk => (.inl hk)))
  have HK := Aside0.mk (Kept.refl w (fun k_ => P0_ k_))
  have HW0 := Aside0.mk hB.size
  have HB := Aside0.mk hB
  clear hB
  have H : ((impl_isWeights.f k l0).bind fun t273 => (if t273 = true then (some (l0, true)) else (some (([] : List Int), false)))) = some (r1, r2) := h
  clear h
  replace H := Option.bind_eq_some_iff.mp H
  obtain ⟨t273, A20, H⟩ := H
  replace H : (if t273 = true then (some (l0, true)) else (some (([] : List Int), false))) = some (r1, r2) := H
  have A2 := Aside0.mk A20
  clear A20
  by_cases c3 : t273 = true
  · subst c3
    have H1 : (some (l0, true)) = some (r1, r2) := by rw [if_pos rfl] at H; exact H
    clear H
    have H := H1
    clear H1
    simp only [Option.some.injEq, Prod.mk.injEq] at H
    obtain ⟨rfl, rfl⟩ := H
    obtain ⟨Ao4, co4, eo4⟩ := Kd.R_slice HO0.out
    subst eo4
    go_enter Try.func78, Try.ntmps78
    go_wp2_with (first | ((with_reducible refine gate_callee (f := 62) rfl ?_); refine goesL_ (some 5) rfl rfl Try.func62 (by kernel_rfl) rfl #[.slice Ao4 l0.length co4] rfl (by (try simp only [List.map_toArray, List.map_cons, List.map_nil]); first | done | rfl | (simp only [List.length_drop, List.length_take]; rfl)) ?_; (with_reducible refine (impl_isWeights.calls k _ _ l0 true _ ?side1 ?side2 A2.out).mono ?_); (case side1 => repeat (first | exact (Kd.R_reads' HO0.out).2.2 | (with_reducible refine Kd.C_alloc ?_ _) | (with_reducible refine Kd.C_drewN ?_ _) | (with_reducible refine Kd.C_drew ?_))); (case side2 => exact (Kd.R_reads' HO0.out).2.1); rintro e w' ⟨rfl, ⟨nd, rfl⟩⟩; refine ⟨_, rfl, ?_⟩))
    go_ret2
    exact ⟨_, by first | rfl | (simp [errW_none, errW_some] <;> rfl) | (simp [*, errW_none, errW_some] <;> rfl), by (with_reducible repeat (first | apply Kd.R_alloc | apply Kd.R_drewN | apply Kd.R_drew)); exact HO0.out, by repeat (first | (with_reducible first | exact HB.out | apply below_alloc | apply pw_below_drewN | apply below_drew1) | exact HB.out), by repeat (first | (with_reducible first | exact HK.out | apply Kept.alloc | apply Kept.drewN | apply Kept.drew) | exact HK.out)⟩
  · replace c3 := Bool.eq_false_iff.mpr c3
    subst c3
    have H1 : (some (([] : List Int), false)) = some (r1, r2) := by rw [if_neg (show ¬ (false = true) by decide)] at H; exact H
    clear H
    have H := H1
    clear H1
    simp only [Option.some.injEq, Prod.mk.injEq] at H
    obtain ⟨rfl, rfl⟩ := H
    obtain ⟨Ao5, co5, eo5⟩ := Kd.R_slice HO0.out
    subst eo5
    go_enter Try.func78, Try.ntmps78
    go_wp2_with (first | ((with_reducible refine gate_callee (f := 62) rfl ?_); refine goesL_ (some 5) rfl rfl Try.func62 (by kernel_rfl) rfl #[.slice Ao5 l0.length co5] rfl (by (try simp only [List.map_toArray, List.map_cons, List.map_nil]); first | done | rfl | (simp only [List.length_drop, List.length_take]; rfl)) ?_; (with_reducible refine (impl_isWeights.calls k _ _ l0 false _ ?side1 ?side2 A2.out).mono ?_); (case side1 => repeat (first | exact (Kd.R_reads' HO0.out).2.2 | (with_reducible refine Kd.C_alloc ?_ _) | (with_reducible refine Kd.C_drewN ?_ _) | (with_reducible refine Kd.C_drew ?_))); (case side2 => exact (Kd.R_reads' HO0.out).2.1); rintro e w' ⟨rfl, ⟨nd, rfl⟩⟩; refine ⟨_, rfl, ?_⟩))
    go_ret2
    exact ⟨_, by first | rfl | (simp [errW_none, errW_some] <;> rfl) | (simp [*, errW_none, errW_some] <;> rfl), by first | exact Kd.R_nil _ _ _ _ _ | exact Kd.N_nil _ _ _ _ _ | exact Kd.V_nil _ _ _ _ _ | exact Kd.Q_nil _ _ _ _ _ | exact Kd.S_nil _ _ _ _ _, by repeat (first | (with_reducible first | exact HB.out | apply below_alloc | apply pw_below_drewN | apply below_drew1) | exact HB.out), by repeat (first | (with_reducible first | exact HK.out | apply Kept.alloc | apply Kept.drewN | apply Kept.drew) | exact HK.out)⟩

/-! ### impl_answer: function 79 -/
mutual
def impl_answer.l0 : Nat → List Int → List Int → List Int → Int → Int → Option (List Int)
  | 0, _, _, _, _, _ => none
  | k + 1, x1, x5, x21, x22, x23 => if x23 < x22 then (if 0 ≤ x23 then (if x23 < (x21.length : Int) then (impl_answer.l1 k x1 x5 x23 (rd x21 x23) x21 x22 x23 x1 (x1.length : Int) 0) else (none)) else (none)) else (some x5)
def impl_answer.l1 : Nat → List Int → List Int → Int → Int → List Int → Int → Int → List Int → Int → Int → Option (List Int)
  | 0, _, _, _, _, _, _, _, _, _, _ => none
  | k + 1, x1, x5, x6, x7, x21, x22, x23, x28, x29, x30 => if x30 < x29 then (if 0 ≤ x30 then (if x30 < (x28.length : Int) then (if 0 ≤ (wrap64 (x30 + x6)) then (if (wrap64 (x30 + x6)) < (x5.length : Int) then (impl_answer.l1 k x1 (x5.set ((wrap64 (x30 + x6)) : Int).toNat (wrap64 ((rd x5 (wrap64 (x30 + x6))) + (wrap64 (x7 * (rd x28 x30)))))) x6 x7 x21 x22 x23 x28 x29 (wrap64 (x30 + 1))) else (none)) else (none)) else (none)) else (none)) else (impl_answer.l0 k x1 x5 x21 x22 (wrap64 (x23 + 1)))
end
def impl_answer.f (k : Nat) (l0 : List Int) (l1 : List Int) : Option (List Int) := if (l1.length : Int) = 0 then (some (([] : List Int))) else (if 0 ≤ (wrap64 ((wrap64 ((l0.length : Int) + (l1.length : Int))) - 1)) then (if (wrap64 ((wrap64 ((l0.length : Int) + (l1.length : Int))) - 1) : Int).toNat ≤ 35184372088832 then (impl_answer.l0 k l1 (List.replicate (wrap64 ((wrap64 ((l0.length : Int) + (l1.length : Int))) - 1) : Int).toNat 0) l0 (l0.length : Int) 0) else (none)) else (none))
theorem impl_answer.mono_l : ∀ k, (∀ y0 y1 y2 y3 y4, LeO (impl_answer.l0 k y0 y1 y2 y3 y4) (impl_answer.l0 (k + 1) y0 y1 y2 y3 y4)) ∧ (∀ y0 y1 y2 y3 y4 y5 y6 y7 y8 y9, LeO (impl_answer.l1 k y0 y1 y2 y3 y4 y5 y6 y7 y8 y9) (impl_answer.l1 (k + 1) y0 y1 y2 y3 y4 y5 y6 y7 y8 y9))
  | 0 => ⟨fun _ _ _ _ _ r h => by simp [impl_answer.l0] at h, fun _ _ _ _ _ _ _ _ _ _ r h => by simp [impl_answer.l1] at h⟩
  | k + 1 => by
    obtain ⟨ih0, ih1⟩ := impl_answer.mono_l k
    refine ⟨?_, ?_⟩
    · intro y0 y1 y2 y3 y4
      unfold impl_answer.l0
      repeat' first
      | (with_reducible exact ih0 _ _ _ _ _)
      | (with_reducible exact ih1 _ _ _ _ _ _ _ _ _ _)
      | (with_reducible exact LeO.refl _)
      | (with_reducible exact LeO.none _)
      | (with_reducible refine LeO.ite ?_ ?_)
      | (with_reducible refine LeO.bind ?_ (fun _ => ?_))
      | exact ih0 _ _ _ _ _
      | exact ih1 _ _ _ _ _ _ _ _ _ _
      | exact LeO.none _
      | refine LeO.ite ?_ ?_
      | refine LeO.bind ?_ (fun _ => ?_)
    · intro y0 y1 y2 y3 y4 y5 y6 y7 y8 y9
      unfold impl_answer.l1
      repeat' first
      | (with_reducible exact ih0 _ _ _ _ _)
      | (with_reducible exact ih1 _ _ _ _ _ _ _ _ _ _)
      | (with_reducible exact LeO.refl _)
      | (with_reducible exact LeO.none _)
      | (with_reducible refine LeO.ite ?_ ?_)
      | (with_reducible refine LeO.bind ?_ (fun _ => ?_))
      | exact ih0 _ _ _ _ _
      | exact ih1 _ _ _ _ _ _ _ _ _ _
      | exact LeO.none _
      | refine LeO.ite ?_ ?_
      | refine LeO.bind ?_ (fun _ => ?_)
theorem impl_answer.mono : ∀ a0 a1 k, LeO (impl_answer.f k a0 a1) (impl_answer.f (k + 1) a0 a1) := by
  intro a0 a1 k
  obtain ⟨ih0, ih1⟩ := impl_answer.mono_l k
  unfold impl_answer.f
  repeat' first
      | (with_reducible exact ih0 _ _ _ _ _)
      | (with_reducible exact ih1 _ _ _ _ _ _ _ _ _ _)
      | (with_reducible exact LeO.refl _)
      | (with_reducible exact LeO.none _)
      | (with_reducible refine LeO.ite ?_ ?_)
      | (with_reducible refine LeO.bind ?_ (fun _ => ?_))
      | exact ih0 _ _ _ _ _
      | exact ih1 _ _ _ _ _ _ _ _ _ _
      | exact LeO.none _
      | refine LeO.ite ?_ ?_
      | refine LeO.bind ?_ (fun _ => ?_)
set_option maxHeartbeats 8000000 in
set_option maxRecDepth 100000 in
theorem impl_answer.calls (k : Nat) (A0 : Option Addr) (c0 : Nat) (l0 : List Int) (A1 : Option Addr) (c1 : Nat) (l1 : List Int) (r : List Int) (w : World) (hr0 : Kd.C (Kd.int .i64) w A0 l0.length l0) (hc0 : l0.length ≤ c0) (hr1 : Kd.C (Kd.int .i64) w A1 l1.length l1) (hc1 : l1.length ≤ c1) (h : impl_answer.f k l0 l1 = some r) :
    Calls Try.prog 79 #[.slice A0 l0.length c0, .slice A1 l1.length c1] w fun e w' => ∃ v0_ : Value, e = .returned (v0_) ∧ Kd.R (Kd.int .i64) 3 w' w.heap.size (fun _ => True) v0_ r ∧ Below w.heap.size w w' := by
  have HR0 := Aside0.mk hr0
  have HC0 := Aside0.mk hc0
  clear hr0 hc0
  have HR1 := Aside0.mk hr1
  have HC1 := Aside0.mk hc1
  clear hr1 hc1
  have HB := Aside0.mk (Below.refl w.heap.size w)
  have H : (if (l1.length : Int) = 0 then (some (([] : List Int))) else (if 0 ≤ (wrap64 ((wrap64 ((l0.length : Int) + (l1.length : Int))) - 1)) then (if (wrap64 ((wrap64 ((l0.length : Int) + (l1.length : Int))) - 1) : Int).toNat ≤ 35184372088832 then (impl_answer.l0 k l1 (List.replicate (wrap64 ((wrap64 ((l0.length : Int) + (l1.length : Int))) - 1) : Int).toNat 0) l0 (l0.length : Int) 0) else (none)) else (none))) = some r := h
  clear h
  by_cases c3 : (l1.length : Int) = 0
  · rw [if_pos c3] at H
    have c3b0 : ((l1.length : Int) == 0) = true := beq_iff_eq.mpr c3
    have c3b1 : ((l1.length : Int) != 0) = false := bne_eq_false_iff_eq.mpr c3
    clear c3
    obtain ⟨y274, hy274⟩ : ∃ y_ : List Int, y_ = (([] : List Int)) := ⟨_, rfl⟩
    replace H : (some y274) = some r := by first | (rw [hy274]; with_reducible exact H) | (have H2_ := (Option.bind_some _ _).symm.trans H; rw [hy274]; with_reducible exact H2_) | (have H2_ := (Option.bind_some _ _).symm.trans H; with_reducible exact H2_) | with_reducible exact H | (rw [hy274]; exact H) | exact H
    have Ny274 := Aside0.mk hy274
    clear hy274
    obtain rfl := Option.some.inj H
    go_enter Try.func79, Try.ntmps79
    go_wp2_with (first | ((with_reducible refine gate_dst (N := 13) rfl ?_); refine Kd.R_lit (Kd.int .i64) _ 3 ?hg (N := 13) ?hd (xs := ([] : List Int)) (inner := []) (ok := fun _ => True) (okp := fun _ => True) ?hr ?hp (fun _ hk => hk) trivial (Below.refl _ _) (Nat.le_refl _) (by simp) ?_; (case hd => rfl); (case hg => rfl); (case hr => first | (go_simp; done) | (go_simp; rfl)); (case hp => exact (Reps.none _ _)); intro v275 w4 ho5 hb hg_ hnew_; clear hg_ hnew_; (first | rw [← Ny274.out] at ho5 | (simp only [Int.reduceToNat] at ho5; rw [← Ny274.out] at ho5)); have n0_ := Aside0.mk (Kd.R_lower ho5 (below_size (by repeat (first | (with_reducible first | exact HB.out | apply below_alloc | apply pw_below_drewN | apply below_drew1) | exact HB.out)))); have n1_ := Aside0.mk (below_step (by repeat (first | (with_reducible first | exact HB.out | apply below_alloc | apply pw_below_drewN | apply below_drew1) | exact HB.out)) hb); clear HB; have HO276 := n0_; have HB := n1_; clear n0_ n1_; clear hb ho5))
    go_ret
    exact ⟨_, by first | rfl | (simp [errW_none, errW_some] <;> rfl) | (simp [*, errW_none, errW_some] <;> rfl), by (with_reducible repeat (first | apply Kd.R_alloc | apply Kd.R_drewN | apply Kd.R_drew)); exact HO276.out, by repeat (first | (with_reducible first | exact HB.out | apply below_alloc | apply pw_below_drewN | apply below_drew1) | exact HB.out)⟩
  · rw [if_neg c3] at H
    have c3b0 : ((l1.length : Int) == 0) = false := beq_eq_false_iff_ne.mpr c3
    have c3b1 : ((l1.length : Int) != 0) = true := bne_iff_ne.mpr c3
    have c3b2 : ¬ (l1 = []) := fun h_ => c3 (by rw [h_]; rfl)
    obtain ⟨ji6, hji6⟩ : ∃ j_ : Int, (wrap64 ((wrap64 ((l0.length : Int) + (l1.length : Int))) - 1)) = j_ := ⟨_, rfl⟩
    replace H : (if 0 ≤ (ji6) then (if (ji6 : Int).toNat ≤ 35184372088832 then (impl_answer.l0 k l1 (List.replicate (ji6 : Int).toNat 0) l0 (l0.length : Int) 0) else (none)) else (none)) = some r := by first | (rw [hji6] at H; exact H) | (simp only [hji6] at H ⊢; exact H)
    have hji6w : (IntKind.i64.wrap ((wrap64 ((l0.length : Int) + (l1.length : Int))) - 1)) = ji6 := (i64_w _).trans hji6
    by_cases c7 : 0 ≤ (ji6)
    · rw [if_pos c7] at H
      have c7b0 := eq_true c7
      have c7b1 : decide (0 ≤ (ji6)) = true := decide_eq_true c7
      clear c7
      by_cases c8 : (ji6 : Int).toNat ≤ 35184372088832
      · rw [if_pos c8] at H
        have c8b0 := eq_true c8
        have c8b1 : decide ((ji6 : Int).toNat ≤ 35184372088832) = true := decide_eq_true c8
        clear c8
        obtain ⟨y277, hy277⟩ : ∃ y_ : List Int, y_ = (List.replicate (ji6 : Int).toNat 0) := ⟨_, rfl⟩
        replace H : (impl_answer.l0 k l1 y277 l0 (l0.length : Int) 0) = some r := by first | (rw [hy277]; with_reducible exact H) | (have H2_ := (Option.bind_some _ _).symm.trans H; rw [hy277]; with_reducible exact H2_) | (have H2_ := (Option.bind_some _ _).symm.trans H; with_reducible exact H2_) | with_reducible exact H | (rw [hy277]; exact H) | exact H
        have Ny277 := Aside0.mk hy277
        clear hy277
        have H' := Aside0.mk H
        clear H
        go_enter Try.func79, Try.ntmps79
        go_wp2_with (first | ((with_reducible refine gate_dst (N := 20) rfl ?_); refine Kd.R_make (Kd.int .i64) _ 3 rfl (N := 20) rfl 22 _ _ rfl ji6 rfl rfl Try.underlying22 (.int .i64 0) 8 info3 rfl (by decide) (by omega) 0 (ok := fun _ => True) (okp := fun _ => True) rfl (fun _ hk => hk) trivial (of_decide_eq_true (by first | (with_reducible assumption) | assumption)) (Nat.le_trans (Nat.mul_le_mul_right _ (of_decide_eq_true (by first | (with_reducible assumption) | assumption) : ji6.toNat ≤ 35184372088832)) (by omega)) (Below.refl _ _) (Nat.le_refl _) ?_; intro v278 w9 ho10 hb hg_ hnew_; clear hg_ hnew_; (first | rw [← Ny277.out] at ho10 | (simp only [Int.reduceToNat] at ho10; rw [← Ny277.out] at ho10)); have n0_ := Aside0.mk (Kd.R_lower ho10 (below_size (by repeat (first | (with_reducible first | exact HB.out | apply below_alloc | apply pw_below_drewN | apply below_drew1) | exact HB.out)))); have n1_ := Aside0.mk (below_step (by repeat (first | (with_reducible first | exact HB.out | apply below_alloc | apply pw_below_drewN | apply below_drew1) | exact HB.out)) hb); clear HB; have HO279 := n0_; have HB := n1_; clear n0_ n1_; clear hb ho10))
        go_loopg [23] k (fun kq v23 w' => ∃ (x5_1 : List Int) (x23_1 : Int), v23 = .int .i64 x23_1 ∧ Aside0 (impl_answer.l0 kq l1 x5_1 l0 (l0.length : Int) x23_1 = some r) ∧ Aside0 (kq ≤ k) ∧ Aside0 (Kd.R (Kd.int .i64) 3 w' w.heap.size (fun _ => True) v278 x5_1) ∧ Aside0 (Below w.heap.size w w'))
        case atStart => exact ⟨(y277), (0), (by first | rfl | (simp; done) | (simp [*]; done)), H', ⟨Nat.le_refl _⟩, ⟨by (with_reducible repeat (first | apply Kd.R_alloc | apply Kd.R_drewN | apply Kd.R_drew)); exact HO279.out⟩, ⟨by repeat (first | (with_reducible first | exact HB.out | apply below_alloc | apply pw_below_drewN | apply below_drew1) | exact HB.out)⟩⟩
        case round =>
          clear H'
          try clear c1
          try clear p2
          try clear c3
          try clear c3b0
          try clear c3b1
          try clear c3b2
          try clear p6
          try clear c7
          try clear c7b0
          try clear c7b1
          try clear c8
          try clear c8b0
          try clear c8b1
          obtain ⟨x5_1, x23_1, rfl, HA, HK1, HO_5, HB⟩ := hrel
          cases gk with
          | zero => exact absurd HA.out (by simp [impl_answer.l0])
          | succ k1 =>
            have H := HA.out
            clear HA
            simp only [impl_answer.l0] at H
            by_cases c11 : x23_1 < (l0.length : Int)
            · rw [if_pos c11] at H
              have c11b0 : decide (x23_1 < (l0.length : Int)) = true := decide_eq_true c11
              clear c11
              by_cases c12 : 0 ≤ x23_1
              · rw [if_pos c12] at H
                have c12b0 : decide (0 ≤ x23_1) = true := decide_eq_true c12
                clear c12
                by_cases c13 : x23_1 < (l0.length : Int)
                · rw [if_pos c13] at H
                  have c13b0 : decide (x23_1 < (l0.length : Int)) = true := decide_eq_true c13
                  clear c13
                  have H' := Aside0.mk H
                  clear H
                  have p280 : 0 ≤ (x23_1 : Int) := of_decide_eq_true (by first | (with_reducible assumption) | assumption)
                  have q280 : x23_1 < (l0.length : Int) := of_decide_eq_true (by first | (with_reducible assumption) | assumption)
                  obtain ⟨ad280, e280, hx280_0⟩ := Kd.at_int HR0.out x23_1 p280 q280
                  cases e280
                  replace hx280_0 := (HB.out.cell (World.block_lt_of_cell? w _ hx280_0)).trans hx280_0
                  replace p280 := eq_true p280
                  replace q280 := eq_true q280
                  go_wp2
                  go_loopg [30] k1 (fun kq v30 w' => ∃ (x5_2 : List Int) (x30_2 : Int), v30 = .int .i64 x30_2 ∧ Aside0 (impl_answer.l1 kq l1 x5_2 x23_1 (rd l0 x23_1) l0 (l0.length : Int) x23_1 l1 (l1.length : Int) x30_2 = some r) ∧ Aside0 (kq ≤ k1) ∧ Aside0 (Kd.R (Kd.int .i64) 3 w' w.heap.size (fun _ => True) v278 x5_2) ∧ Aside0 (Below w.heap.size w w'))
                  case atStart => exact ⟨(x5_1), (0), (by first | rfl | (simp; done) | (simp [*]; done)), H', ⟨Nat.le_refl _⟩, ⟨by (with_reducible repeat (first | apply Kd.R_alloc | apply Kd.R_drewN | apply Kd.R_drew)); exact HO_5.out⟩, ⟨by repeat (first | (with_reducible first | exact HB.out | apply below_alloc | apply pw_below_drewN | apply below_drew1) | exact HB.out)⟩⟩
                  case round =>
                    clear H'
                    try clear c1
                    try clear p2
                    try clear q2
                    try clear hx2
                    try clear c3
                    try clear c3b0
                    try clear c3b1
                    try clear c3b2
                    try clear p6
                    try clear c7
                    try clear c7b0
                    try clear c7b1
                    try clear c8
                    try clear c8b0
                    try clear c8b1
                    try clear c11
                    try clear c11b0
                    try clear c12
                    try clear c12b0
                    try clear c13
                    try clear c13b0
                    try clear hx280_0
                    try clear p2
                    try clear p280
                    try clear p6
                    try clear q280
                    obtain ⟨x5_2, x30_2, rfl, HA, HK2, HO_5, HB⟩ := hrel
                    cases gk with
                    | zero => exact absurd HA.out (by simp [impl_answer.l1])
                    | succ k2 =>
                      have H := HA.out
                      clear HA
                      simp only [impl_answer.l1] at H
                      by_cases c14 : x30_2 < (l1.length : Int)
                      · rw [if_pos c14] at H
                        have c14b0 : decide (x30_2 < (l1.length : Int)) = true := decide_eq_true c14
                        clear c14
                        by_cases c15 : 0 ≤ x30_2
                        · rw [if_pos c15] at H
                          have c15b0 : decide (0 ≤ x30_2) = true := decide_eq_true c15
                          clear c15
                          by_cases c16 : x30_2 < (l1.length : Int)
                          · rw [if_pos c16] at H
                            have c16b0 : decide (x30_2 < (l1.length : Int)) = true := decide_eq_true c16
                            clear c16
                            obtain ⟨ji17, hji17⟩ : ∃ j_ : Int, (wrap64 (x30_2 + x23_1)) = j_ := ⟨_, rfl⟩
                            replace H : (if 0 ≤ (ji17) then (if (ji17) < (x5_2.length : Int) then (impl_answer.l1 k2 l1 (x5_2.set ((ji17) : Int).toNat (wrap64 ((rd x5_2 (ji17)) + (wrap64 ((rd l0 x23_1) * (rd l1 x30_2)))))) x23_1 (rd l0 x23_1) l0 (l0.length : Int) x23_1 l1 (l1.length : Int) (wrap64 (x30_2 + 1))) else (none)) else (none)) = some r := by first | (rw [hji17] at H; exact H) | (simp only [hji17] at H ⊢; exact H)
                            have hji17w : (IntKind.i64.wrap (x30_2 + x23_1)) = ji17 := (i64_w _).trans hji17
                            by_cases c18 : 0 ≤ (ji17)
                            · rw [if_pos c18] at H
                              have c18b0 : decide (0 ≤ (ji17)) = true := decide_eq_true c18
                              clear c18
                              by_cases c19 : (ji17) < (x5_2.length : Int)
                              · rw [if_pos c19] at H
                                have c19b0 : decide ((ji17) < (x5_2.length : Int)) = true := decide_eq_true c19
                                clear c19
                                obtain ⟨y283, hy283⟩ : ∃ y_ : List Int, y_ = (x5_2.set ((ji17) : Int).toNat (wrap64 ((rd x5_2 (ji17)) + (wrap64 ((rd l0 x23_1) * (rd l1 x30_2)))))) := ⟨_, rfl⟩
                                replace H : (impl_answer.l1 k2 l1 y283 x23_1 (rd l0 x23_1) l0 (l0.length : Int) x23_1 l1 (l1.length : Int) (wrap64 (x30_2 + 1))) = some r := by first | (rw [hy283]; with_reducible exact H) | (have H2_ := (Option.bind_some _ _).symm.trans H; rw [hy283]; with_reducible exact H2_) | (have H2_ := (Option.bind_some _ _).symm.trans H; with_reducible exact H2_) | with_reducible exact H | (rw [hy283]; exact H) | exact H
                                have Ny283 := Aside0.mk hy283
                                clear hy283
                                have H' := Aside0.mk H
                                clear H
                                have p281 : 0 ≤ (x30_2 : Int) := of_decide_eq_true (by first | (with_reducible assumption) | assumption)
                                have q281 : x30_2 < (l1.length : Int) := of_decide_eq_true (by first | (with_reducible assumption) | assumption)
                                obtain ⟨ad281, e281, hx281_0⟩ := Kd.at_int HR1.out x30_2 p281 q281
                                cases e281
                                replace hx281_0 := (HB.out.cell (World.block_lt_of_cell? w _ hx281_0)).trans hx281_0
                                replace p281 := eq_true p281
                                replace q281 := eq_true q281
                                obtain ⟨Ao21, co21, eo21⟩ := Kd.R_slice HO_5.out
                                subst eo21
                                have p282 : 0 ≤ ((ji17) : Int) := of_decide_eq_true (by first | (with_reducible assumption) | assumption)
                                have q282 : (ji17) < (x5_2.length : Int) := of_decide_eq_true (by first | (with_reducible assumption) | assumption)
                                obtain ⟨ad282, e282, hx282_0⟩ := Kd.at_int (Kd.R_reads' HO_5.out).2.2 (ji17) p282 q282
                                cases e282
                                replace p282 := eq_true p282
                                replace q282 := eq_true q282
                                have p20 : 0 ≤ ((ji17) : Int) := of_decide_eq_true (by first | (with_reducible assumption) | assumption)
                                have q20 : ((ji17) : Int) < ((x5_2.length : Int) : Int) := of_decide_eq_true (by first | (with_reducible assumption) | assumption)
                                obtain ⟨go20, co20, eo20, gb20, gl20, cl20, HG20⟩ := Kd.R_form HO_5.out (by omega)
                                (first | cases eo20 | (injection eo20 with ea_ en_ ec_; (first | subst ea_ | (injection ea_ with ea_; subst ea_)); subst ec_; clear en_))
                                have GB20 := Aside0.mk gb20
                                have GG20 := Aside0.mk HG20
                                clear gb20 gl20 HG20
                                (first | simp only [add_plain] at hx282_0 | skip)
                                obtain ⟨hx20_0, hf20_0⟩ := Kd.R_celln 0 HO_5.out ((ji17) : Int) p20 q20
                                replace p20 := eq_true p20
                                replace q20 := eq_true q20
                                have HP22 := Kd.R_putg HO_5.out ((ji17) : Int) (wrap64 ((rd x5_2 (ji17)) + (wrap64 ((rd l0 x23_1) * (rd l1 x30_2)))))
                                go_wp2_with (first | ((with_reducible refine gate_store (t := 3) (p := 45) rfl ?_); refine store_event (t := 3) (p := 45) (v := ?vo_w23) (w1 := (wr.setCell ⟨go20, ((ji17) : Int).toNat, none⟩ (.int .i64 (wrap64 ((rd x5_2 (ji17)) + (wrap64 ((rd l0 x23_1) * (rd l1 x30_2)))))))) ?hg ?ho ?hn ?hr ?_; (case ho => rfl); (case hg => rfl); (case hn => rfl); (case hr => first | (go_simp; done) | (go_simp; rfl)); intro w23 hw; have hg : wr.grownBy w23 (some go20) := (by rw [hw]; exact HP22.2); have hp_ : Kd.R (Kd.int .i64) 3 w23 w.heap.size (fun _ => True) (.slice (some ⟨go20, 0, none⟩) x5_2.length co21) y283 := (by rw [hw, Ny283.out]; exact HP22.1); clear HP22; have n0_ := Aside0.mk (hp_); have n1_ := Aside0.mk ((by rw [hw]; exact below_set (HB.out) GB20.out : Below w.heap.size w w23)); clear HO_5; clear HB; have HO_5 := n0_; have HB := n1_; clear n0_ n1_; clear hg hw hp_))
                                go_roundg k2
                                case measure => have := HK1.out; have := HK2.out; omega
                                case rel => exact ⟨(y283), (wrap64 (x30_2 + 1)), (by first | rfl | (simp; done) | (simp [*]; done)), H', ⟨by have := HK1.out; have := HK2.out; omega⟩, ⟨by (with_reducible repeat (first | apply Kd.R_alloc | apply Kd.R_drewN | apply Kd.R_drew)); exact HO_5.out⟩, ⟨by repeat (first | (with_reducible first | exact HB.out | apply below_alloc | apply pw_below_drewN | apply below_drew1) | exact HB.out)⟩⟩
                              · rw [if_neg c19] at H
                                exact absurd H (by simp)
                            · rw [if_neg c18] at H
                              exact absurd H (by simp)
                          · rw [if_neg c16] at H
                            exact absurd H (by simp)
                        · rw [if_neg c15] at H
                          exact absurd H (by simp)
                      · rw [if_neg c14] at H
                        have c14b0 : decide (x30_2 < (l1.length : Int)) = false := decide_eq_false c14
                        clear c14
                        have H' := Aside0.mk H
                        clear H
                        go_wp2
                        go_roundg k2
                        case measure => have := HK1.out; have := HK2.out; omega
                        case rel => exact ⟨(x5_2), (wrap64 (x23_1 + 1)), (by first | rfl | (simp; done) | (simp [*]; done)), H', ⟨by have := HK1.out; have := HK2.out; omega⟩, ⟨by (with_reducible repeat (first | apply Kd.R_alloc | apply Kd.R_drewN | apply Kd.R_drew)); exact HO_5.out⟩, ⟨by repeat (first | (with_reducible first | exact HB.out | apply below_alloc | apply pw_below_drewN | apply below_drew1) | exact HB.out)⟩⟩
                · rw [if_neg c13] at H
                  exact absurd H (by simp)
              · rw [if_neg c12] at H
                exact absurd H (by simp)
            · rw [if_neg c11] at H
              have c11b0 : decide (x23_1 < (l0.length : Int)) = false := decide_eq_false c11
              clear c11
              obtain rfl := Option.some.inj H
              go_wp2
              go_ret
              exact ⟨_, by first | rfl | (simp [errW_none, errW_some] <;> rfl) | (simp only [← hji6]; first | rfl | (simp [errW_none, errW_some] <;> rfl)) | (simp [*, errW_none, errW_some] <;> rfl), by (with_reducible repeat (first | apply Kd.R_alloc | apply Kd.R_drewN | apply Kd.R_drew)); exact HO_5.out, by repeat (first | (with_reducible first | exact HB.out | apply below_alloc | apply pw_below_drewN | apply below_drew1) | exact HB.out)⟩
      · rw [if_neg c8] at H
        exact absurd H (by simp)
    · rw [if_neg c7] at H
      exact absurd H (by simp)

/-! ### impl_TimesWeights: function 38 -/
def impl_TimesWeights.j0 : Nat → List Int → List Int → Bool → Option (List Int × Bool)
  | 0, _, _, _ => none
  | k + 1, x0, x1, x13 => if x13 = true then (some (([] : List Int), false)) else ((impl_answer.f k x0 x1).bind fun t286 => ((impl_weighed.f k t286).bind fun bt289 => (some (bt289.1, bt289.2))))
def impl_TimesWeights.f (k : Nat) (l0 : List Int) (l1 : List Int) : Option (List Int × Bool) := (impl_isWeights.f k l0).bind fun t284 => (if t284 = true then ((impl_isWeights.f k l1).bind fun t285 => (impl_TimesWeights.j0 k l0 l1 (!t285))) else (impl_TimesWeights.j0 k l0 l1 true))
theorem impl_TimesWeights.mono_l : ∀ k, (∀ y0 y1 y2, LeO (impl_TimesWeights.j0 k y0 y1 y2) (impl_TimesWeights.j0 (k + 1) y0 y1 y2))
  | 0 => fun _ _ _ r h => by simp [impl_TimesWeights.j0] at h
  | k + 1 => by
    have ih0 := impl_TimesWeights.mono_l k
    · intro y0 y1 y2
      unfold impl_TimesWeights.j0
      repeat' first
      | (with_reducible exact ih0 _ _ _)
      | (with_reducible exact impl_answer.mono _ _ _)
      | (with_reducible exact impl_isWeights.mono _ _)
      | (with_reducible exact impl_weighed.mono _ _)
      | (with_reducible exact LeO.refl _)
      | (with_reducible exact LeO.none _)
      | (with_reducible refine LeO.ite ?_ ?_)
      | (with_reducible refine LeO.bind ?_ (fun _ => ?_))
      | exact ih0 _ _ _
      | exact impl_answer.mono _ _ _
      | exact impl_isWeights.mono _ _
      | exact impl_weighed.mono _ _
      | exact LeO.none _
      | refine LeO.ite ?_ ?_
      | refine LeO.bind ?_ (fun _ => ?_)
theorem impl_TimesWeights.mono : ∀ a0 a1 k, LeO (impl_TimesWeights.f k a0 a1) (impl_TimesWeights.f (k + 1) a0 a1) := by
  intro a0 a1 k
  have ih0 := impl_TimesWeights.mono_l k
  unfold impl_TimesWeights.f
  repeat' first
      | (with_reducible exact ih0 _ _ _)
      | (with_reducible exact impl_answer.mono _ _ _)
      | (with_reducible exact impl_isWeights.mono _ _)
      | (with_reducible exact impl_weighed.mono _ _)
      | (with_reducible exact LeO.refl _)
      | (with_reducible exact LeO.none _)
      | (with_reducible refine LeO.ite ?_ ?_)
      | (with_reducible refine LeO.bind ?_ (fun _ => ?_))
      | exact ih0 _ _ _
      | exact impl_answer.mono _ _ _
      | exact impl_isWeights.mono _ _
      | exact impl_weighed.mono _ _
      | exact LeO.none _
      | refine LeO.ite ?_ ?_
      | refine LeO.bind ?_ (fun _ => ?_)
set_option maxHeartbeats 8000000 in
set_option maxRecDepth 100000 in
theorem impl_TimesWeights.calls (k : Nat) (A0 : Option Addr) (c0 : Nat) (l0 : List Int) (A1 : Option Addr) (c1 : Nat) (l1 : List Int) (r1 : List Int) (r2 : Bool) (w : World) (hr0 : Kd.C (Kd.int .i64) w A0 l0.length l0) (hc0 : l0.length ≤ c0) (hr1 : Kd.C (Kd.int .i64) w A1 l1.length l1) (hc1 : l1.length ≤ c1) (h : impl_TimesWeights.f k l0 l1 = some (r1, r2)) :
    Calls Try.prog 38 #[.slice A0 l0.length c0, .slice A1 l1.length c1] w fun e w' => ∃ v0_ : Value, e = .returned (.tuple #[v0_, .bool r2]) ∧ Kd.R (Kd.int .i64) 3 w' w.heap.size (fun _ => True) v0_ r1 ∧ Below w.heap.size w w' := by
  have HR0 := Aside0.mk hr0
  have HC0 := Aside0.mk hc0
  clear hr0 hc0
  have HR1 := Aside0.mk hr1
  have HC1 := Aside0.mk hc1
  clear hr1 hc1
  have HB := Aside0.mk (Below.refl w.heap.size w)
  have H : ((impl_isWeights.f k l0).bind fun t284 => (if t284 = true then ((impl_isWeights.f k l1).bind fun t285 => (impl_TimesWeights.j0 k l0 l1 (!t285))) else (impl_TimesWeights.j0 k l0 l1 true))) = some (r1, r2) := h
  clear h
  have HC3 := Aside0.mk H
  clear H
  go_enter Try.func38, Try.ntmps38
  go_upto_region 1 with (fail)
  go_cut [13] (fun v13 wc => ∃ (kq : Nat) (x13_2 : Bool), v13 = .bool x13_2 ∧ Aside0 (impl_TimesWeights.j0 kq l0 l1 x13_2 = some (r1, r2)) ∧ Aside0 (kq ≤ k) ∧ Aside0 (Below w.heap.size w wc))
  case first =>
    have H := HC3.out
    clear HC3
    replace H := Option.bind_eq_some_iff.mp H
    obtain ⟨t284, A40, H⟩ := H
    replace H : (if t284 = true then ((impl_isWeights.f k l1).bind fun t285 => (impl_TimesWeights.j0 k l0 l1 (!t285))) else (impl_TimesWeights.j0 k l0 l1 true)) = some (r1, r2) := H
    have A4 := Aside0.mk A40
    clear A40
    by_cases c5 : t284 = true
    · subst c5
      have H1 : ((impl_isWeights.f k l1).bind fun t285 => (impl_TimesWeights.j0 k l0 l1 (!t285))) = some (r1, r2) := by rw [if_pos rfl] at H; exact H
      clear H
      have H := H1
      clear H1
      replace H := Option.bind_eq_some_iff.mp H
      obtain ⟨t285, A60, H⟩ := H
      replace H : (impl_TimesWeights.j0 k l0 l1 (!t285)) = some (r1, r2) := H
      have A6 := Aside0.mk A60
      clear A60
      have H' := Aside0.mk H
      clear H
      go_wp2_with (first | ((with_reducible refine gate_callee (f := 62) rfl ?_); refine goesL_ (some 7) rfl rfl Try.func62 (by kernel_rfl) rfl #[.slice A0 l0.length c0] rfl (by (try simp only [List.map_toArray, List.map_cons, List.map_nil]); first | done | rfl | (simp only [List.length_drop, List.length_take]; rfl)) ?_; (with_reducible refine (impl_isWeights.calls k _ _ l0 true _ ?side1 ?side2 A4.out).mono ?_); (case side1 => repeat (first | exact (Kd.C_below HR0.out HB.out) | (with_reducible refine Kd.C_alloc ?_ _) | (with_reducible refine Kd.C_drewN ?_ _) | (with_reducible refine Kd.C_drew ?_))); (case side2 => exact HC0.out); rintro e w' ⟨rfl, ⟨nd, rfl⟩⟩; refine ⟨_, rfl, ?_⟩) | (go_at_call 62; (with_reducible refine (impl_isWeights.calls k _ _ l1 t285 _ ?side1 ?side2 A6.out).mono ?_); (case side1 => repeat (first | exact (Kd.C_below HR1.out (by repeat (first | (with_reducible first | exact HB.out | apply below_alloc | apply pw_below_drewN | apply below_drew1) | exact HB.out))) | (with_reducible refine Kd.C_alloc ?_ _) | (with_reducible refine Kd.C_drewN ?_ _) | (with_reducible refine Kd.C_drew ?_))); (case side2 => exact HC1.out); rintro e w' ⟨rfl, ⟨nd, rfl⟩⟩))
      go_meet
      case rel => exact ⟨_, (!t285), (by first | rfl | (simp; done) | (simp [*]; done)), H', ⟨by first | omega | exact Nat.le_refl _⟩, ⟨by repeat (first | (with_reducible first | exact HB.out | apply below_alloc | apply pw_below_drewN | apply below_drew1) | exact HB.out)⟩⟩
    · replace c5 := Bool.eq_false_iff.mpr c5
      subst c5
      have H1 : (impl_TimesWeights.j0 k l0 l1 true) = some (r1, r2) := by rw [if_neg (show ¬ (false = true) by decide)] at H; exact H
      clear H
      have H := H1
      clear H1
      have H' := Aside0.mk H
      clear H
      go_wp2_with (first | ((with_reducible refine gate_callee (f := 62) rfl ?_); refine goesL_ (some 7) rfl rfl Try.func62 (by kernel_rfl) rfl #[.slice A0 l0.length c0] rfl (by (try simp only [List.map_toArray, List.map_cons, List.map_nil]); first | done | rfl | (simp only [List.length_drop, List.length_take]; rfl)) ?_; (with_reducible refine (impl_isWeights.calls k _ _ l0 false _ ?side1 ?side2 A4.out).mono ?_); (case side1 => repeat (first | exact (Kd.C_below HR0.out HB.out) | (with_reducible refine Kd.C_alloc ?_ _) | (with_reducible refine Kd.C_drewN ?_ _) | (with_reducible refine Kd.C_drew ?_))); (case side2 => exact HC0.out); rintro e w' ⟨rfl, ⟨nd, rfl⟩⟩; refine ⟨_, rfl, ?_⟩))
      go_meet
      case rel => exact ⟨_, (true), (by first | rfl | (simp; done) | (simp [*]; done)), H', ⟨by first | omega | exact Nat.le_refl _⟩, ⟨by repeat (first | (with_reducible first | exact HB.out | apply below_alloc | apply pw_below_drewN | apply below_drew1) | exact HB.out)⟩⟩
  case rest =>
    clear HC3
    try clear c1
    try clear p2
    try clear c3
    try clear c5
    try clear c6
    obtain ⟨kq, x13_2, rfl, HA, HJ2, HB⟩ := hcut
    cases kq with
    | zero => exact absurd HA.out (by simp [impl_TimesWeights.j0])
    | succ kj2 =>
      have H := HA.out
      clear HA
      simp only [impl_TimesWeights.j0] at H
      by_cases c7 : x13_2 = true
      · subst c7
        have H1 : (some (([] : List Int), false)) = some (r1, r2) := by rw [if_pos rfl] at H; exact H
        clear H
        have H := H1
        clear H1
        simp only [Option.some.injEq, Prod.mk.injEq] at H
        obtain ⟨rfl, rfl⟩ := H
        go_wp2
        go_ret2
        exact ⟨_, by first | rfl | (simp [errW_none, errW_some] <;> rfl) | (simp [*, errW_none, errW_some] <;> rfl), by first | exact Kd.R_nil _ _ _ _ _ | exact Kd.N_nil _ _ _ _ _ | exact Kd.V_nil _ _ _ _ _ | exact Kd.Q_nil _ _ _ _ _ | exact Kd.S_nil _ _ _ _ _, by repeat (first | (with_reducible first | exact HB.out | apply below_alloc | apply pw_below_drewN | apply below_drew1) | exact HB.out)⟩
      · replace c7 := Bool.eq_false_iff.mpr c7
        subst c7
        have H1 : ((impl_answer.f kj2 l0 l1).bind fun t286 => ((impl_weighed.f kj2 t286).bind fun bt289 => (some (bt289.1, bt289.2)))) = some (r1, r2) := by rw [if_neg (show ¬ (false = true) by decide)] at H; exact H
        clear H
        have H := H1
        clear H1
        replace H := Option.bind_eq_some_iff.mp H
        obtain ⟨t286, A80, H⟩ := H
        replace H : ((impl_weighed.f kj2 t286).bind fun bt289 => (some (bt289.1, bt289.2))) = some (r1, r2) := H
        have A8 := Aside0.mk A80
        clear A80
        replace H := Option.bind_eq_some_iff.mp H
        obtain ⟨⟨t289, t292⟩, A90, H⟩ := H
        replace H : (some (t289, t292)) = some (r1, r2) := H
        have A9 := Aside0.mk A90
        clear A90
        simp only [Option.some.injEq, Prod.mk.injEq] at H
        obtain ⟨rfl, rfl⟩ := H
        go_wp2_with (first | ((with_reducible refine gate_callee (f := 79) rfl ?_); refine goesL_ (some 16) rfl rfl Try.func79 (by kernel_rfl) rfl #[.slice A0 l0.length c0, .slice A1 l1.length c1] rfl (by (try simp only [List.map_toArray, List.map_cons, List.map_nil]); first | done | rfl | (simp only [List.length_drop, List.length_take]; rfl)) ?_; (with_reducible refine (impl_answer.calls kj2 _ _ l0 _ _ l1 t286 _ ?side1 ?side2 ?side3 ?side4 A8.out).mono ?_); (case side1 => repeat (first | exact (Kd.C_below HR0.out HB.out) | (with_reducible refine Kd.C_alloc ?_ _) | (with_reducible refine Kd.C_drewN ?_ _) | (with_reducible refine Kd.C_drew ?_))); (case side2 => exact HC0.out); (case side3 => repeat (first | exact (Kd.C_below HR1.out HB.out) | (with_reducible refine Kd.C_alloc ?_ _) | (with_reducible refine Kd.C_drewN ?_ _) | (with_reducible refine Kd.C_drew ?_))); (case side4 => exact HC1.out); rintro e w10 ⟨v287, rfl, ho0, hb⟩; refine ⟨_, rfl, ?_⟩; have n0_ := Aside0.mk (Kd.R_lower ho0 (below_size (by repeat (first | (with_reducible first | exact HB.out | apply below_alloc | apply pw_below_drewN | apply below_drew1) | exact HB.out)))); have n1_ := Aside0.mk (below_step (by repeat (first | (with_reducible first | exact HB.out | apply below_alloc | apply pw_below_drewN | apply below_drew1) | exact HB.out)) hb); clear HB; have HO288 := n0_; have HB := n1_; clear n0_ n1_; (try clear hb); (try clear hb2); (try clear hk); (try clear hi); (try clear ho0); obtain ⟨Ao11, co11, eo11⟩ := Kd.R_slice HO288.out; subst eo11) | ((with_reducible refine gate_callee (f := 78) rfl ?_); refine goesL_ (some 17) rfl rfl Try.func78 (by kernel_rfl) rfl #[.slice Ao11 t286.length co11] rfl (by (try simp only [List.map_toArray, List.map_cons, List.map_nil]); first | done | rfl | (simp only [List.length_drop, List.length_take]; rfl)) ?_; (with_reducible refine (impl_weighed.calls kj2 (fun k_ => some k_ = (.slice Ao11 t286.length co11 : Value).ownBlock) (.slice Ao11 t286.length co11) t286 t289 t292 w _ ?side1 ?side2 A9.out).mono ?_); (case side1 => repeat (first | (with_reducible first | exact HB.out | apply below_alloc | apply pw_below_drewN | apply below_drew1) | exact HB.out)); (case side2 => exact Kd.R_tight rfl HO288.out); rintro e w12 ⟨v290, rfl, ho0, hb, hkp⟩; refine ⟨_, rfl, ?_⟩; have n0_ := Aside0.mk (Kd.R_mono (ok' := fun k_ => True) ho0 (fun k_ hk_ => trivial)); have n1_ := Aside0.mk (hb); clear HB; clear HO288; have HO291 := n0_; have HB := n1_; clear n0_ n1_; (try clear hb); (try clear hkp); (try clear ho0)))
        go_ret2
        exact ⟨_, by first | rfl | (simp [errW_none, errW_some] <;> rfl) | (simp [*, errW_none, errW_some] <;> rfl), by (with_reducible repeat (first | apply Kd.R_alloc | apply Kd.R_drewN | apply Kd.R_drew)); exact HO291.out, by repeat (first | (with_reducible first | exact HB.out | apply below_alloc | apply pw_below_drewN | apply below_drew1) | exact HB.out)⟩

/-! ### spec_DrawInverseAnswer: function 39 -/
def spec_DrawInverseAnswer.g (l0 h : List Int) (s1 s2 : Int) : Option (List Int × Int) := (spec_l1Cur_one.f l0 s1 s2 8).bind fun b => if b.1 = true then ((spec_l1Cur_among.f l0 b.2.1 b.2.2 [(-1), 0, 64, 65]).bind fun c => some (h, c.1)) else ((spec_l1Cur_pick.f l0 b.2.1 b.2.2 10).bind fun c => some (h, c.1))
def spec_DrawInverseAnswer.f (k : Nat) (l0 : List Int) : Option (List Int × Int) := (spec_l1Cur_weights.f k l0 0 0).bind fun bt => if 0 < bt.1.length then ((spec_l1Cur_one.f l0 bt.2.1 bt.2.2 6).bind fun b => if b.1 = true then spec_DrawInverseAnswer.g l0 bt.1 b.2.1 b.2.2 else ((spec_l1Cur_pick.f l0 b.2.1 b.2.2 2).bind fun p => spec_DrawInverseAnswer.g l0 (bt.1.set 0 (wrap64 (1 - wrap64 (2 * p.1)))) p.2.1 p.2.2)) else spec_DrawInverseAnswer.g l0 bt.1 bt.2.1 bt.2.2
theorem spec_DrawInverseAnswer.mono : ∀ a0 k, LeO (spec_DrawInverseAnswer.f k a0) (spec_DrawInverseAnswer.f (k + 1) a0) := by
  intro a0 k
  unfold spec_DrawInverseAnswer.f
  repeat' first
      | (with_reducible exact spec_l1Cur_weights.mono _ _ _ _)
      | (with_reducible exact LeO.refl _)
      | (with_reducible exact LeO.none _)
      | (with_reducible refine LeO.ite ?_ ?_)
      | (with_reducible refine LeO.bind ?_ (fun _ => ?_))
      | exact spec_l1Cur_weights.mono _ _ _ _
      | exact LeO.none _
      | refine LeO.ite ?_ ?_
      | refine LeO.bind ?_ (fun _ => ?_)
set_option maxHeartbeats 8000000 in
set_option maxRecDepth 100000 in
theorem spec_DrawInverseAnswer.w0a (k : Nat) (A0 : Option Addr) (c0 : Nat) (l0 : List Int) (r1 : List Int) (r2 : Int) (w : World) (hr0 : Kd.C (Kd.int .u8) w A0 l0.length l0) (hc0 : l0.length ≤ c0) (t0 : List Int) (t1 t2 : Int) (q0 : spec_l1Cur_weights.f k l0 0 0 = some (t0, t1, t2)) (c1 : ¬ 0 < t0.length) (z1 z2 : Int) (q8 : spec_l1Cur_one.f l0 t1 t2 8 = some (true, z1, z2)) (x1 x2 : Int) (q9 : spec_l1Cur_among.f l0 z1 z2 [(-1), 0, 64, 65] = some (r2, x1, x2)) (hr : t0 = r1) :
    Calls Try.prog 39 #[.slice A0 l0.length c0] w fun e w' => ∃ v0_ : Value, e = .returned (.tuple #[v0_, .int .i64 r2]) ∧ Kd.R (Kd.int .i64) 3 w' w.heap.size (fun _ => True) v0_ r1 ∧ Below w.heap.size w w' := by
  have hu64 := Try.underlying64
  have HR0 := Aside0.mk hr0
  have HC0 := Aside0.mk hc0
  have HB := Aside0.mk (Below.refl w.heap.size w)
  clear hr0 hc0
  have Q0 := Aside0.mk q0
  have C1 := Aside0.mk c1
  have Q8 := Aside0.mk q8
  have d1 : decide ((t0.length : Int) > 0) = false := decide_eq_false (by omega)
  have d2 : decide (0 < t0.length) = false := decide_eq_false (by omega)
  have d3 : ((t0.length : Int) > 0) = False := eq_false (by omega)
  have d4 : (0 < t0.length) = False := eq_false (by omega)
  obtain ⟨y, hy⟩ : ∃ y_ : List Int, y_ = ([(-1), 0, 64, 65] : List Int) := ⟨_, rfl⟩
  rw [← hy] at q9
  have NY := Aside0.mk hy
  clear hy
  have Q9 := Aside0.mk q9
  subst hr
  clear q0 c1 q8 q9
  go_enter Try.func39, Try.ntmps39
  go_wp2_with (first | ((with_reducible refine gate_dst (N := 8) rfl ?_); refine box_event ?hg (N := 8) ?hd (cs := #[.slice A0 l0.length c0, .int .i64 0, .int .u64 0]) (t := 64) ?hr ?_; (case hd => rfl); (case hg => rfl); (case hr => first | (go_simp; done) | (go_simp; rfl)); intro g hg w4 hbox hb; have GW := Aside0.mk ((by rw [hg]; exact HB.out.size) : w.heap.size ≤ g); have n0_ := Aside0.mk (below_step HB.out hb); clear HB; have HB := n0_; clear n0_; have HI := Aside0.mk (show IsS64 w w4 g l0 0 0 from ⟨A0, c0, hbox, GW.out, HR0.out⟩); clear hbox hb hg) | (go_at_call 80; (with_reducible refine (spec_l1Cur_weights.calls k g l0 0 0 t0 t1 t2 w _ (by repeat (first | (with_reducible exact HI.out) | refine IsS64.drewN ?_ _ | refine IsS64.drew ?_ | refine IsS64.alloc ?_ _)) (by repeat (first | (with_reducible exact HB.out) | apply below_alloc | apply pw_below_drewN | apply below_drew1 | exact HB.out)) Q0.out).mono ?_); rintro e w5 ⟨v0_, rfl, ho, hi, hb2, hk⟩; obtain ⟨A_, c_, hq_, _, _⟩ := HI.out; have n0_ := Aside0.mk (Kd.R_lower (Kd.R_newB ho hq_) HB.out.size); have n1_ := Aside0.mk hi; have n2_ := Aside0.mk hb2; clear HI HB ho hi hb2 hk hq_; have HO := n0_; have HI := n1_; have HB := n2_; clear n0_ n1_ n2_; obtain ⟨Ao, co, eo⟩ := Kd.R_slice HO.out; subst eo) | (go_at_call 81; (with_reducible refine (spec_l1Cur_one.calls g l0 t1 t2 8 true _ _ w _ (by repeat (first | (with_reducible exact HI.out) | refine IsS64.drewN ?_ _ | refine IsS64.drew ?_ | refine IsS64.alloc ?_ _)) (by repeat (first | (with_reducible exact HB.out) | apply below_alloc | apply pw_below_drewN | apply below_drew1 | exact HB.out)) Q8.out).mono ?_); rintro e wo ⟨rfl, hi, hb2, hk⟩; have n0_ := Aside0.mk (Kd.R_keep (ok := fun k_ => True ∧ k_ ≠ g) (by (with_reducible repeat (first | apply Kd.R_alloc | apply Kd.R_drewN | apply Kd.R_drew)); exact HO.out) hk (fun k_ hk_ => hk_.2)); have n1_ := Aside0.mk hi; have n2_ := Aside0.mk hb2; clear HI HB HO hi hb2 hk; have HO := n0_; have HI := n1_; have HB := n2_; clear n0_ n1_ n2_) | ((with_reducible refine gate_dst (N := 29) rfl ?_); refine Kd.R_lit (Kd.int .i64) _ 3 ?hg (N := 29) ?hd (xs := ([(-1), 0, 64, 65] : List Int)) (inner := [.int .i64 (-1), .int .i64 0, .int .i64 64, .int .i64 65]) (ok := fun _ => True) (okp := fun _ => True) ?hr ?hp (fun _ hk => hk) trivial (Below.refl _ _) (Nat.le_refl _) (by simp) ?_; (case hd => rfl); (case hg => rfl); (case hr => first | (go_simp; done) | (go_simp; rfl)); (case hp => exact (Reps.one (show Kd.M (Kd.int .i64) _ _ _ (-1) [.int .i64 (-1)] from rfl) (Reps.one (show Kd.M (Kd.int .i64) _ _ _ 0 [.int .i64 0] from rfl) (Reps.one (show Kd.M (Kd.int .i64) _ _ _ 64 [.int .i64 64] from rfl) (Reps.one (show Kd.M (Kd.int .i64) _ _ _ 65 [.int .i64 65] from rfl) (Reps.none _ _)))))); intro vl wl hol hb hg_ hnew_; clear hg_ hnew_; rw [← NY.out] at hol; have n0_ := Aside0.mk (Kd.R_elder' (by (with_reducible repeat (first | apply Kd.R_alloc | apply Kd.R_drewN | apply Kd.R_drew)); exact HO.out) (Kd.R_base hol) hb); have n1_ := Aside0.mk (Kd.R_lower hol (below_size (by repeat (first | (with_reducible exact HB.out) | apply below_alloc | apply pw_below_drewN | apply below_drew1 | exact HB.out)))); have n2_ := Aside0.mk (IsS64.below (by repeat (first | (with_reducible exact HI.out) | refine IsS64.drewN ?_ _ | refine IsS64.drew ?_ | refine IsS64.alloc ?_ _)) hb); have n3_ := Aside0.mk (below_step (by repeat (first | (with_reducible exact HB.out) | apply below_alloc | apply pw_below_drewN | apply below_drew1 | exact HB.out)) hb); clear HO HI HB; have HO := n0_; have HL := n1_; have HI := n2_; have HB := n3_; clear n0_ n1_ n2_ n3_ hb hol; obtain ⟨Al, cl_, el⟩ := Kd.R_slice HL.out; subst el) | (go_at_call 83; (with_reducible refine (spec_l1Cur_among.calls g l0 z1 z2 _ _ y r2 _ _ w _ (by repeat (first | (with_reducible exact HI.out) | refine IsS64.drewN ?_ _ | refine IsS64.drew ?_ | refine IsS64.alloc ?_ _)) (by repeat (first | (with_reducible exact HB.out) | apply below_alloc | apply pw_below_drewN | apply below_drew1 | exact HB.out)) ?side3 ?side4 ?side5 Q9.out).mono ?_); (case side3 => repeat (first | exact (Kd.R_reads' HL.out).2.2 | (with_reducible refine Kd.C_alloc ?_ _) | (with_reducible refine Kd.C_drewN ?_ _) | (with_reducible refine Kd.C_drew ?_))); (case side4 => exact (Kd.R_reads' HL.out).2.1); (case side5 => exact far_slice (IsS64.own_ne HI.out HL.out (by decide))); rintro e w9 ⟨rfl, hi, hb2, hk⟩; have n0_ := Aside0.mk (Kd.R_mono (Kd.R_keep (IsS64.apart (show IsS64 w _ g l0 z1 z2 from (by repeat (first | (with_reducible exact HI.out) | refine IsS64.drewN ?_ _ | refine IsS64.drew ?_ | refine IsS64.alloc ?_ _))) (by (with_reducible repeat (first | apply Kd.R_alloc | apply Kd.R_drewN | apply Kd.R_drew)); exact HO.out) (by decide)) hk (fun _ h => h.2)) (fun _ h => h.1)); have n2_ := Aside0.mk hb2; clear HI HB HO hi hb2 hk; have HO := n0_; have HB := n2_; clear n0_ n2_))
  go_ret2
  exact ⟨_, rfl, Kd.R_mono HO.out (fun _ _ => trivial), HB.out⟩
set_option maxHeartbeats 8000000 in
set_option maxRecDepth 100000 in
theorem spec_DrawInverseAnswer.w0p (k : Nat) (A0 : Option Addr) (c0 : Nat) (l0 : List Int) (r1 : List Int) (r2 : Int) (w : World) (hr0 : Kd.C (Kd.int .u8) w A0 l0.length l0) (hc0 : l0.length ≤ c0) (t0 : List Int) (t1 t2 : Int) (q0 : spec_l1Cur_weights.f k l0 0 0 = some (t0, t1, t2)) (c1 : ¬ 0 < t0.length) (z1 z2 : Int) (q8 : spec_l1Cur_one.f l0 t1 t2 8 = some (false, z1, z2)) (x1 x2 : Int) (q9 : spec_l1Cur_pick.f l0 z1 z2 10 = some (r2, x1, x2)) (hr : t0 = r1) :
    Calls Try.prog 39 #[.slice A0 l0.length c0] w fun e w' => ∃ v0_ : Value, e = .returned (.tuple #[v0_, .int .i64 r2]) ∧ Kd.R (Kd.int .i64) 3 w' w.heap.size (fun _ => True) v0_ r1 ∧ Below w.heap.size w w' := by
  have hu64 := Try.underlying64
  have HR0 := Aside0.mk hr0
  have HC0 := Aside0.mk hc0
  have HB := Aside0.mk (Below.refl w.heap.size w)
  clear hr0 hc0
  have Q0 := Aside0.mk q0
  have C1 := Aside0.mk c1
  have Q8 := Aside0.mk q8
  have d1 : decide ((t0.length : Int) > 0) = false := decide_eq_false (by omega)
  have d2 : decide (0 < t0.length) = false := decide_eq_false (by omega)
  have d3 : ((t0.length : Int) > 0) = False := eq_false (by omega)
  have d4 : (0 < t0.length) = False := eq_false (by omega)
  have Q9 := Aside0.mk q9
  subst hr
  clear q0 c1 q8 q9
  go_enter Try.func39, Try.ntmps39
  go_wp2_with (first | ((with_reducible refine gate_dst (N := 8) rfl ?_); refine box_event ?hg (N := 8) ?hd (cs := #[.slice A0 l0.length c0, .int .i64 0, .int .u64 0]) (t := 64) ?hr ?_; (case hd => rfl); (case hg => rfl); (case hr => first | (go_simp; done) | (go_simp; rfl)); intro g hg w4 hbox hb; have GW := Aside0.mk ((by rw [hg]; exact HB.out.size) : w.heap.size ≤ g); have n0_ := Aside0.mk (below_step HB.out hb); clear HB; have HB := n0_; clear n0_; have HI := Aside0.mk (show IsS64 w w4 g l0 0 0 from ⟨A0, c0, hbox, GW.out, HR0.out⟩); clear hbox hb hg) | (go_at_call 80; (with_reducible refine (spec_l1Cur_weights.calls k g l0 0 0 t0 t1 t2 w _ (by repeat (first | (with_reducible exact HI.out) | refine IsS64.drewN ?_ _ | refine IsS64.drew ?_ | refine IsS64.alloc ?_ _)) (by repeat (first | (with_reducible exact HB.out) | apply below_alloc | apply pw_below_drewN | apply below_drew1 | exact HB.out)) Q0.out).mono ?_); rintro e w5 ⟨v0_, rfl, ho, hi, hb2, hk⟩; obtain ⟨A_, c_, hq_, _, _⟩ := HI.out; have n0_ := Aside0.mk (Kd.R_lower (Kd.R_newB ho hq_) HB.out.size); have n1_ := Aside0.mk hi; have n2_ := Aside0.mk hb2; clear HI HB ho hi hb2 hk hq_; have HO := n0_; have HI := n1_; have HB := n2_; clear n0_ n1_ n2_; obtain ⟨Ao, co, eo⟩ := Kd.R_slice HO.out; subst eo) | (go_at_call 81; (with_reducible refine (spec_l1Cur_one.calls g l0 t1 t2 8 false _ _ w _ (by repeat (first | (with_reducible exact HI.out) | refine IsS64.drewN ?_ _ | refine IsS64.drew ?_ | refine IsS64.alloc ?_ _)) (by repeat (first | (with_reducible exact HB.out) | apply below_alloc | apply pw_below_drewN | apply below_drew1 | exact HB.out)) Q8.out).mono ?_); rintro e wo ⟨rfl, hi, hb2, hk⟩; have n0_ := Aside0.mk (Kd.R_keep (ok := fun k_ => True ∧ k_ ≠ g) (by (with_reducible repeat (first | apply Kd.R_alloc | apply Kd.R_drewN | apply Kd.R_drew)); exact HO.out) hk (fun k_ hk_ => hk_.2)); have n1_ := Aside0.mk hi; have n2_ := Aside0.mk hb2; clear HI HB HO hi hb2 hk; have HO := n0_; have HI := n1_; have HB := n2_; clear n0_ n1_ n2_) | (go_at_call 82; (with_reducible refine (spec_l1Cur_pick.calls g l0 z1 z2 10 r2 _ _ w _ (by repeat (first | (with_reducible exact HI.out) | refine IsS64.drewN ?_ _ | refine IsS64.drew ?_ | refine IsS64.alloc ?_ _)) (by repeat (first | (with_reducible exact HB.out) | apply below_alloc | apply pw_below_drewN | apply below_drew1 | exact HB.out)) Q9.out).mono ?_); rintro e wp ⟨rfl, hi, hb2, hk⟩; have n0_ := Aside0.mk (Kd.R_keep (ok := fun k_ => True ∧ k_ ≠ g) (by (with_reducible repeat (first | apply Kd.R_alloc | apply Kd.R_drewN | apply Kd.R_drew)); exact HO.out) hk (fun k_ hk_ => hk_.2)); have n1_ := Aside0.mk hi; have n2_ := Aside0.mk hb2; clear HI HB HO hi hb2 hk; have HO := n0_; have HI := n1_; have HB := n2_; clear n0_ n1_ n2_))
  go_ret2
  exact ⟨_, rfl, Kd.R_mono HO.out (fun _ _ => trivial), HB.out⟩
set_option maxHeartbeats 8000000 in
set_option maxRecDepth 100000 in
theorem spec_DrawInverseAnswer.w1a (k : Nat) (A0 : Option Addr) (c0 : Nat) (l0 : List Int) (r1 : List Int) (r2 : Int) (w : World) (hr0 : Kd.C (Kd.int .u8) w A0 l0.length l0) (hc0 : l0.length ≤ c0) (t0 : List Int) (t1 t2 : Int) (q0 : spec_l1Cur_weights.f k l0 0 0 = some (t0, t1, t2)) (c1 : 0 < t0.length) (b1 b2 : Int) (q1 : spec_l1Cur_one.f l0 t1 t2 6 = some (true, b1, b2)) (z1 z2 : Int) (q8 : spec_l1Cur_one.f l0 b1 b2 8 = some (true, z1, z2)) (x1 x2 : Int) (q9 : spec_l1Cur_among.f l0 z1 z2 [(-1), 0, 64, 65] = some (r2, x1, x2)) (hr : t0 = r1) :
    Calls Try.prog 39 #[.slice A0 l0.length c0] w fun e w' => ∃ v0_ : Value, e = .returned (.tuple #[v0_, .int .i64 r2]) ∧ Kd.R (Kd.int .i64) 3 w' w.heap.size (fun _ => True) v0_ r1 ∧ Below w.heap.size w w' := by
  have hu64 := Try.underlying64
  have HR0 := Aside0.mk hr0
  have HC0 := Aside0.mk hc0
  have HB := Aside0.mk (Below.refl w.heap.size w)
  clear hr0 hc0
  have Q0 := Aside0.mk q0
  have C1 := Aside0.mk c1
  have Q8 := Aside0.mk q8
  have Q1 := Aside0.mk q1
  have d1 : decide ((t0.length : Int) > 0) = true := decide_eq_true (by omega)
  have d2 : decide (0 < t0.length) = true := decide_eq_true (by omega)
  have d3 := eq_true (show (t0.length : Int) > 0 by omega)
  have d4 := eq_true c1
  obtain ⟨y, hy⟩ : ∃ y_ : List Int, y_ = ([(-1), 0, 64, 65] : List Int) := ⟨_, rfl⟩
  rw [← hy] at q9
  have NY := Aside0.mk hy
  clear hy
  have Q9 := Aside0.mk q9
  subst hr
  clear q0 c1 q8 q9 q1
  go_enter Try.func39, Try.ntmps39
  go_wp2_with (first | ((with_reducible refine gate_dst (N := 8) rfl ?_); refine box_event ?hg (N := 8) ?hd (cs := #[.slice A0 l0.length c0, .int .i64 0, .int .u64 0]) (t := 64) ?hr ?_; (case hd => rfl); (case hg => rfl); (case hr => first | (go_simp; done) | (go_simp; rfl)); intro g hg w4 hbox hb; have GW := Aside0.mk ((by rw [hg]; exact HB.out.size) : w.heap.size ≤ g); have n0_ := Aside0.mk (below_step HB.out hb); clear HB; have HB := n0_; clear n0_; have HI := Aside0.mk (show IsS64 w w4 g l0 0 0 from ⟨A0, c0, hbox, GW.out, HR0.out⟩); clear hbox hb hg) | (go_at_call 80; (with_reducible refine (spec_l1Cur_weights.calls k g l0 0 0 t0 t1 t2 w _ (by repeat (first | (with_reducible exact HI.out) | refine IsS64.drewN ?_ _ | refine IsS64.drew ?_ | refine IsS64.alloc ?_ _)) (by repeat (first | (with_reducible exact HB.out) | apply below_alloc | apply pw_below_drewN | apply below_drew1 | exact HB.out)) Q0.out).mono ?_); rintro e w5 ⟨v0_, rfl, ho, hi, hb2, hk⟩; obtain ⟨A_, c_, hq_, _, _⟩ := HI.out; have n0_ := Aside0.mk (Kd.R_lower (Kd.R_newB ho hq_) HB.out.size); have n1_ := Aside0.mk hi; have n2_ := Aside0.mk hb2; clear HI HB ho hi hb2 hk hq_; have HO := n0_; have HI := n1_; have HB := n2_; clear n0_ n1_ n2_; obtain ⟨Ao, co, eo⟩ := Kd.R_slice HO.out; subst eo) | (go_at_call 81; (with_reducible refine (spec_l1Cur_one.calls g l0 t1 t2 6 true _ _ w _ (by repeat (first | (with_reducible exact HI.out) | refine IsS64.drewN ?_ _ | refine IsS64.drew ?_ | refine IsS64.alloc ?_ _)) (by repeat (first | (with_reducible exact HB.out) | apply below_alloc | apply pw_below_drewN | apply below_drew1 | exact HB.out)) Q1.out).mono ?_); rintro e w6 ⟨rfl, hi, hb2, hk⟩; have n0_ := Aside0.mk (Kd.R_keep (ok := fun k_ => True ∧ k_ ≠ g) (by (with_reducible repeat (first | apply Kd.R_alloc | apply Kd.R_drewN | apply Kd.R_drew)); exact HO.out) hk (fun k_ hk_ => hk_.2)); have n1_ := Aside0.mk hi; have n2_ := Aside0.mk hb2; clear HI HB HO hi hb2 hk; have HO := n0_; have HI := n1_; have HB := n2_; clear n0_ n1_ n2_) | (go_at_call 81; (with_reducible refine (spec_l1Cur_one.calls g l0 b1 b2 8 true _ _ w _ (by repeat (first | (with_reducible exact HI.out) | refine IsS64.drewN ?_ _ | refine IsS64.drew ?_ | refine IsS64.alloc ?_ _)) (by repeat (first | (with_reducible exact HB.out) | apply below_alloc | apply pw_below_drewN | apply below_drew1 | exact HB.out)) Q8.out).mono ?_); rintro e wo ⟨rfl, hi, hb2, hk⟩; have n0_ := Aside0.mk (Kd.R_keep (ok := fun k_ => True ∧ k_ ≠ g) (by (with_reducible repeat (first | apply Kd.R_alloc | apply Kd.R_drewN | apply Kd.R_drew)); exact HO.out) hk (fun k_ hk_ => hk_.2)); have n1_ := Aside0.mk hi; have n2_ := Aside0.mk hb2; clear HI HB HO hi hb2 hk; have HO := n0_; have HI := n1_; have HB := n2_; clear n0_ n1_ n2_) | ((with_reducible refine gate_dst (N := 29) rfl ?_); refine Kd.R_lit (Kd.int .i64) _ 3 ?hg (N := 29) ?hd (xs := ([(-1), 0, 64, 65] : List Int)) (inner := [.int .i64 (-1), .int .i64 0, .int .i64 64, .int .i64 65]) (ok := fun _ => True) (okp := fun _ => True) ?hr ?hp (fun _ hk => hk) trivial (Below.refl _ _) (Nat.le_refl _) (by simp) ?_; (case hd => rfl); (case hg => rfl); (case hr => first | (go_simp; done) | (go_simp; rfl)); (case hp => exact (Reps.one (show Kd.M (Kd.int .i64) _ _ _ (-1) [.int .i64 (-1)] from rfl) (Reps.one (show Kd.M (Kd.int .i64) _ _ _ 0 [.int .i64 0] from rfl) (Reps.one (show Kd.M (Kd.int .i64) _ _ _ 64 [.int .i64 64] from rfl) (Reps.one (show Kd.M (Kd.int .i64) _ _ _ 65 [.int .i64 65] from rfl) (Reps.none _ _)))))); intro vl wl hol hb hg_ hnew_; clear hg_ hnew_; rw [← NY.out] at hol; have n0_ := Aside0.mk (Kd.R_elder' (by (with_reducible repeat (first | apply Kd.R_alloc | apply Kd.R_drewN | apply Kd.R_drew)); exact HO.out) (Kd.R_base hol) hb); have n1_ := Aside0.mk (Kd.R_lower hol (below_size (by repeat (first | (with_reducible exact HB.out) | apply below_alloc | apply pw_below_drewN | apply below_drew1 | exact HB.out)))); have n2_ := Aside0.mk (IsS64.below (by repeat (first | (with_reducible exact HI.out) | refine IsS64.drewN ?_ _ | refine IsS64.drew ?_ | refine IsS64.alloc ?_ _)) hb); have n3_ := Aside0.mk (below_step (by repeat (first | (with_reducible exact HB.out) | apply below_alloc | apply pw_below_drewN | apply below_drew1 | exact HB.out)) hb); clear HO HI HB; have HO := n0_; have HL := n1_; have HI := n2_; have HB := n3_; clear n0_ n1_ n2_ n3_ hb hol; obtain ⟨Al, cl_, el⟩ := Kd.R_slice HL.out; subst el) | (go_at_call 83; (with_reducible refine (spec_l1Cur_among.calls g l0 z1 z2 _ _ y r2 _ _ w _ (by repeat (first | (with_reducible exact HI.out) | refine IsS64.drewN ?_ _ | refine IsS64.drew ?_ | refine IsS64.alloc ?_ _)) (by repeat (first | (with_reducible exact HB.out) | apply below_alloc | apply pw_below_drewN | apply below_drew1 | exact HB.out)) ?side3 ?side4 ?side5 Q9.out).mono ?_); (case side3 => repeat (first | exact (Kd.R_reads' HL.out).2.2 | (with_reducible refine Kd.C_alloc ?_ _) | (with_reducible refine Kd.C_drewN ?_ _) | (with_reducible refine Kd.C_drew ?_))); (case side4 => exact (Kd.R_reads' HL.out).2.1); (case side5 => exact far_slice (IsS64.own_ne HI.out HL.out (by decide))); rintro e w9 ⟨rfl, hi, hb2, hk⟩; have n0_ := Aside0.mk (Kd.R_mono (Kd.R_keep (IsS64.apart (show IsS64 w _ g l0 z1 z2 from (by repeat (first | (with_reducible exact HI.out) | refine IsS64.drewN ?_ _ | refine IsS64.drew ?_ | refine IsS64.alloc ?_ _))) (by (with_reducible repeat (first | apply Kd.R_alloc | apply Kd.R_drewN | apply Kd.R_drew)); exact HO.out) (by decide)) hk (fun _ h => h.2)) (fun _ h => h.1)); have n2_ := Aside0.mk hb2; clear HI HB HO hi hb2 hk; have HO := n0_; have HB := n2_; clear n0_ n2_))
  go_ret2
  exact ⟨_, rfl, Kd.R_mono HO.out (fun _ _ => trivial), HB.out⟩
set_option maxHeartbeats 8000000 in
set_option maxRecDepth 100000 in
theorem spec_DrawInverseAnswer.w1p (k : Nat) (A0 : Option Addr) (c0 : Nat) (l0 : List Int) (r1 : List Int) (r2 : Int) (w : World) (hr0 : Kd.C (Kd.int .u8) w A0 l0.length l0) (hc0 : l0.length ≤ c0) (t0 : List Int) (t1 t2 : Int) (q0 : spec_l1Cur_weights.f k l0 0 0 = some (t0, t1, t2)) (c1 : 0 < t0.length) (b1 b2 : Int) (q1 : spec_l1Cur_one.f l0 t1 t2 6 = some (true, b1, b2)) (z1 z2 : Int) (q8 : spec_l1Cur_one.f l0 b1 b2 8 = some (false, z1, z2)) (x1 x2 : Int) (q9 : spec_l1Cur_pick.f l0 z1 z2 10 = some (r2, x1, x2)) (hr : t0 = r1) :
    Calls Try.prog 39 #[.slice A0 l0.length c0] w fun e w' => ∃ v0_ : Value, e = .returned (.tuple #[v0_, .int .i64 r2]) ∧ Kd.R (Kd.int .i64) 3 w' w.heap.size (fun _ => True) v0_ r1 ∧ Below w.heap.size w w' := by
  have hu64 := Try.underlying64
  have HR0 := Aside0.mk hr0
  have HC0 := Aside0.mk hc0
  have HB := Aside0.mk (Below.refl w.heap.size w)
  clear hr0 hc0
  have Q0 := Aside0.mk q0
  have C1 := Aside0.mk c1
  have Q8 := Aside0.mk q8
  have Q1 := Aside0.mk q1
  have d1 : decide ((t0.length : Int) > 0) = true := decide_eq_true (by omega)
  have d2 : decide (0 < t0.length) = true := decide_eq_true (by omega)
  have d3 := eq_true (show (t0.length : Int) > 0 by omega)
  have d4 := eq_true c1
  have Q9 := Aside0.mk q9
  subst hr
  clear q0 c1 q8 q9 q1
  go_enter Try.func39, Try.ntmps39
  go_wp2_with (first | ((with_reducible refine gate_dst (N := 8) rfl ?_); refine box_event ?hg (N := 8) ?hd (cs := #[.slice A0 l0.length c0, .int .i64 0, .int .u64 0]) (t := 64) ?hr ?_; (case hd => rfl); (case hg => rfl); (case hr => first | (go_simp; done) | (go_simp; rfl)); intro g hg w4 hbox hb; have GW := Aside0.mk ((by rw [hg]; exact HB.out.size) : w.heap.size ≤ g); have n0_ := Aside0.mk (below_step HB.out hb); clear HB; have HB := n0_; clear n0_; have HI := Aside0.mk (show IsS64 w w4 g l0 0 0 from ⟨A0, c0, hbox, GW.out, HR0.out⟩); clear hbox hb hg) | (go_at_call 80; (with_reducible refine (spec_l1Cur_weights.calls k g l0 0 0 t0 t1 t2 w _ (by repeat (first | (with_reducible exact HI.out) | refine IsS64.drewN ?_ _ | refine IsS64.drew ?_ | refine IsS64.alloc ?_ _)) (by repeat (first | (with_reducible exact HB.out) | apply below_alloc | apply pw_below_drewN | apply below_drew1 | exact HB.out)) Q0.out).mono ?_); rintro e w5 ⟨v0_, rfl, ho, hi, hb2, hk⟩; obtain ⟨A_, c_, hq_, _, _⟩ := HI.out; have n0_ := Aside0.mk (Kd.R_lower (Kd.R_newB ho hq_) HB.out.size); have n1_ := Aside0.mk hi; have n2_ := Aside0.mk hb2; clear HI HB ho hi hb2 hk hq_; have HO := n0_; have HI := n1_; have HB := n2_; clear n0_ n1_ n2_; obtain ⟨Ao, co, eo⟩ := Kd.R_slice HO.out; subst eo) | (go_at_call 81; (with_reducible refine (spec_l1Cur_one.calls g l0 t1 t2 6 true _ _ w _ (by repeat (first | (with_reducible exact HI.out) | refine IsS64.drewN ?_ _ | refine IsS64.drew ?_ | refine IsS64.alloc ?_ _)) (by repeat (first | (with_reducible exact HB.out) | apply below_alloc | apply pw_below_drewN | apply below_drew1 | exact HB.out)) Q1.out).mono ?_); rintro e w6 ⟨rfl, hi, hb2, hk⟩; have n0_ := Aside0.mk (Kd.R_keep (ok := fun k_ => True ∧ k_ ≠ g) (by (with_reducible repeat (first | apply Kd.R_alloc | apply Kd.R_drewN | apply Kd.R_drew)); exact HO.out) hk (fun k_ hk_ => hk_.2)); have n1_ := Aside0.mk hi; have n2_ := Aside0.mk hb2; clear HI HB HO hi hb2 hk; have HO := n0_; have HI := n1_; have HB := n2_; clear n0_ n1_ n2_) | (go_at_call 81; (with_reducible refine (spec_l1Cur_one.calls g l0 b1 b2 8 false _ _ w _ (by repeat (first | (with_reducible exact HI.out) | refine IsS64.drewN ?_ _ | refine IsS64.drew ?_ | refine IsS64.alloc ?_ _)) (by repeat (first | (with_reducible exact HB.out) | apply below_alloc | apply pw_below_drewN | apply below_drew1 | exact HB.out)) Q8.out).mono ?_); rintro e wo ⟨rfl, hi, hb2, hk⟩; have n0_ := Aside0.mk (Kd.R_keep (ok := fun k_ => True ∧ k_ ≠ g) (by (with_reducible repeat (first | apply Kd.R_alloc | apply Kd.R_drewN | apply Kd.R_drew)); exact HO.out) hk (fun k_ hk_ => hk_.2)); have n1_ := Aside0.mk hi; have n2_ := Aside0.mk hb2; clear HI HB HO hi hb2 hk; have HO := n0_; have HI := n1_; have HB := n2_; clear n0_ n1_ n2_) | (go_at_call 82; (with_reducible refine (spec_l1Cur_pick.calls g l0 z1 z2 10 r2 _ _ w _ (by repeat (first | (with_reducible exact HI.out) | refine IsS64.drewN ?_ _ | refine IsS64.drew ?_ | refine IsS64.alloc ?_ _)) (by repeat (first | (with_reducible exact HB.out) | apply below_alloc | apply pw_below_drewN | apply below_drew1 | exact HB.out)) Q9.out).mono ?_); rintro e wp ⟨rfl, hi, hb2, hk⟩; have n0_ := Aside0.mk (Kd.R_keep (ok := fun k_ => True ∧ k_ ≠ g) (by (with_reducible repeat (first | apply Kd.R_alloc | apply Kd.R_drewN | apply Kd.R_drew)); exact HO.out) hk (fun k_ hk_ => hk_.2)); have n1_ := Aside0.mk hi; have n2_ := Aside0.mk hb2; clear HI HB HO hi hb2 hk; have HO := n0_; have HI := n1_; have HB := n2_; clear n0_ n1_ n2_))
  go_ret2
  exact ⟨_, rfl, Kd.R_mono HO.out (fun _ _ => trivial), HB.out⟩
set_option maxHeartbeats 8000000 in
set_option maxRecDepth 100000 in
theorem spec_DrawInverseAnswer.w2a (k : Nat) (A0 : Option Addr) (c0 : Nat) (l0 : List Int) (r1 : List Int) (r2 : Int) (w : World) (hr0 : Kd.C (Kd.int .u8) w A0 l0.length l0) (hc0 : l0.length ≤ c0) (t0 : List Int) (t1 t2 : Int) (q0 : spec_l1Cur_weights.f k l0 0 0 = some (t0, t1, t2)) (c1 : 0 < t0.length) (b1 b2 : Int) (q1 : spec_l1Cur_one.f l0 t1 t2 6 = some (false, b1, b2)) (p0 p1 p2 : Int) (q2 : spec_l1Cur_pick.f l0 b1 b2 2 = some (p0, p1, p2)) (z1 z2 : Int) (q8 : spec_l1Cur_one.f l0 p1 p2 8 = some (true, z1, z2)) (x1 x2 : Int) (q9 : spec_l1Cur_among.f l0 z1 z2 [(-1), 0, 64, 65] = some (r2, x1, x2)) (hr : (t0.set 0 (wrap64 (1 - wrap64 (2 * p0)))) = r1) :
    Calls Try.prog 39 #[.slice A0 l0.length c0] w fun e w' => ∃ v0_ : Value, e = .returned (.tuple #[v0_, .int .i64 r2]) ∧ Kd.R (Kd.int .i64) 3 w' w.heap.size (fun _ => True) v0_ r1 ∧ Below w.heap.size w w' := by
  have hu64 := Try.underlying64
  have HR0 := Aside0.mk hr0
  have HC0 := Aside0.mk hc0
  have HB := Aside0.mk (Below.refl w.heap.size w)
  clear hr0 hc0
  have Q0 := Aside0.mk q0
  have C1 := Aside0.mk c1
  have Q8 := Aside0.mk q8
  have Q1 := Aside0.mk q1
  have d1 : decide ((t0.length : Int) > 0) = true := decide_eq_true (by omega)
  have d2 : decide (0 < t0.length) = true := decide_eq_true (by omega)
  have d3 := eq_true (show (t0.length : Int) > 0 by omega)
  have d4 := eq_true c1
  have Q2 := Aside0.mk q2
  obtain ⟨j0, hj0⟩ : ∃ j_ : Int, wrap64 (2 * p0) = j_ := ⟨_, rfl⟩
  rw [hj0] at hr
  obtain ⟨j1, hj1⟩ : ∃ j_ : Int, wrap64 (1 - j0) = j_ := ⟨_, rfl⟩
  rw [hj1] at hr
  have hj0w : IntKind.i64.wrap (2 * p0) = j0 := (i64_w _).trans hj0
  have hj1w : IntKind.i64.wrap (1 - j0) = j1 := (i64_w _).trans hj1
  obtain ⟨y, hy⟩ : ∃ y_ : List Int, y_ = ([(-1), 0, 64, 65] : List Int) := ⟨_, rfl⟩
  rw [← hy] at q9
  have NY := Aside0.mk hy
  clear hy
  have Q9 := Aside0.mk q9
  subst hr
  clear q0 c1 q8 q9 q1 q2
  go_enter Try.func39, Try.ntmps39
  go_wp2_with (first | ((with_reducible refine gate_dst (N := 8) rfl ?_); refine box_event ?hg (N := 8) ?hd (cs := #[.slice A0 l0.length c0, .int .i64 0, .int .u64 0]) (t := 64) ?hr ?_; (case hd => rfl); (case hg => rfl); (case hr => first | (go_simp; done) | (go_simp; rfl)); intro g hg w4 hbox hb; have GW := Aside0.mk ((by rw [hg]; exact HB.out.size) : w.heap.size ≤ g); have n0_ := Aside0.mk (below_step HB.out hb); clear HB; have HB := n0_; clear n0_; have HI := Aside0.mk (show IsS64 w w4 g l0 0 0 from ⟨A0, c0, hbox, GW.out, HR0.out⟩); clear hbox hb hg) | (go_at_call 80; (with_reducible refine (spec_l1Cur_weights.calls k g l0 0 0 t0 t1 t2 w _ (by repeat (first | (with_reducible exact HI.out) | refine IsS64.drewN ?_ _ | refine IsS64.drew ?_ | refine IsS64.alloc ?_ _)) (by repeat (first | (with_reducible exact HB.out) | apply below_alloc | apply pw_below_drewN | apply below_drew1 | exact HB.out)) Q0.out).mono ?_); rintro e w5 ⟨v0_, rfl, ho, hi, hb2, hk⟩; obtain ⟨A_, c_, hq_, _, _⟩ := HI.out; have n0_ := Aside0.mk (Kd.R_lower (Kd.R_newB ho hq_) HB.out.size); have n1_ := Aside0.mk hi; have n2_ := Aside0.mk hb2; clear HI HB ho hi hb2 hk hq_; have HO := n0_; have HI := n1_; have HB := n2_; clear n0_ n1_ n2_; obtain ⟨go, co, eo, gb, gl, cl, HG⟩ := Kd.R_form HO.out (by have := C1.out; omega); subst eo; have GB := Aside0.mk gb; clear gb gl HG) | (go_at_call 81; (with_reducible refine (spec_l1Cur_one.calls g l0 t1 t2 6 false _ _ w _ (by repeat (first | (with_reducible exact HI.out) | refine IsS64.drewN ?_ _ | refine IsS64.drew ?_ | refine IsS64.alloc ?_ _)) (by repeat (first | (with_reducible exact HB.out) | apply below_alloc | apply pw_below_drewN | apply below_drew1 | exact HB.out)) Q1.out).mono ?_); rintro e w6 ⟨rfl, hi, hb2, hk⟩; have n0_ := Aside0.mk (Kd.R_keep (ok := fun k_ => True ∧ k_ ≠ g) (by (with_reducible repeat (first | apply Kd.R_alloc | apply Kd.R_drewN | apply Kd.R_drew)); exact HO.out) hk (fun k_ hk_ => hk_.2)); have n1_ := Aside0.mk hi; have n2_ := Aside0.mk hb2; clear HI HB HO hi hb2 hk; have HO := n0_; have HI := n1_; have HB := n2_; clear n0_ n1_ n2_) | (go_at_call 82; (with_reducible refine (spec_l1Cur_pick.calls g l0 b1 b2 2 p0 _ _ w _ (by repeat (first | (with_reducible exact HI.out) | refine IsS64.drewN ?_ _ | refine IsS64.drew ?_ | refine IsS64.alloc ?_ _)) (by repeat (first | (with_reducible exact HB.out) | apply below_alloc | apply pw_below_drewN | apply below_drew1 | exact HB.out)) Q2.out).mono ?_); rintro e w7 ⟨rfl, hi, hb2, hk⟩; have n0_ := Aside0.mk (Kd.R_keep (ok := fun k_ => True ∧ k_ ≠ g) (by (with_reducible repeat (first | apply Kd.R_alloc | apply Kd.R_drewN | apply Kd.R_drew)); exact HO.out) hk (fun k_ hk_ => hk_.2)); have n1_ := Aside0.mk hi; have n2_ := Aside0.mk hb2; clear HI HB HO hi hb2 hk; have HO := n0_; have HI := n1_; have HB := n2_; clear n0_ n1_ n2_; have hlt_ := C1.out; obtain ⟨hx0_, hf0_⟩ := Kd.R_celln 0 HO.out (0 : Int) (by decide) (by omega); have hx_ : w7.cell? ⟨go, 0, none⟩ = some (.int .i64 (rdOf 0 t0 0)) := hx0_; have hf_ : w7.frozen? ⟨go, 0, none⟩ = false := hf0_; clear hx0_ hf0_; have HP := Kd.R_putg HO.out (0 : Int) j1; clear hlt_) | ((with_reducible refine gate_store (t := 3) (p := 24) rfl ?_); refine store_event (t := 3) (p := 24) (v := ?vo_) (w1 := (w7.setCell ⟨go, 0, none⟩ (.int .i64 j1))) ?hg ?ho ?hn ?hr ?_; (case ho => rfl); (case hg => rfl); (case hn => rfl); (case hr => first | (go_simp; done) | (go_simp; rfl)); intro w8 hw; have hg : w7.grownBy w8 (some go) := (by rw [hw]; exact HP.2); have hp_ : Kd.R (Kd.int .i64) 3 w8 w.heap.size (fun k_ => True ∧ k_ ≠ g) (.slice (some ⟨go, 0, none⟩) t0.length co) (t0.set 0 j1) := (by rw [hw]; exact HP.1); have n0_ := Aside0.mk hp_; have n1_ := Aside0.mk ((by rw [hw]; exact below_set HB.out GB.out : Below w.heap.size w w8)); have n2_ := Aside0.mk (IsS64.grown HI.out hg (fun e_ => (HO.out.1 go (by rfl)).2 (Option.some.inj e_).symm)); clear HO HB HI HP hx_ hf_; have HO := n0_; have HB := n1_; have HI := n2_; clear n0_ n1_ n2_ hg hw hp_) | (go_at_call 81; (with_reducible refine (spec_l1Cur_one.calls g l0 p1 p2 8 true _ _ w _ (by repeat (first | (with_reducible exact HI.out) | refine IsS64.drewN ?_ _ | refine IsS64.drew ?_ | refine IsS64.alloc ?_ _)) (by repeat (first | (with_reducible exact HB.out) | apply below_alloc | apply pw_below_drewN | apply below_drew1 | exact HB.out)) Q8.out).mono ?_); rintro e wo ⟨rfl, hi, hb2, hk⟩; have n0_ := Aside0.mk (Kd.R_keep (ok := fun k_ => True ∧ k_ ≠ g) (by (with_reducible repeat (first | apply Kd.R_alloc | apply Kd.R_drewN | apply Kd.R_drew)); exact HO.out) hk (fun k_ hk_ => hk_.2)); have n1_ := Aside0.mk hi; have n2_ := Aside0.mk hb2; clear HI HB HO hi hb2 hk; have HO := n0_; have HI := n1_; have HB := n2_; clear n0_ n1_ n2_) | ((with_reducible refine gate_dst (N := 29) rfl ?_); refine Kd.R_lit (Kd.int .i64) _ 3 ?hg (N := 29) ?hd (xs := ([(-1), 0, 64, 65] : List Int)) (inner := [.int .i64 (-1), .int .i64 0, .int .i64 64, .int .i64 65]) (ok := fun _ => True) (okp := fun _ => True) ?hr ?hp (fun _ hk => hk) trivial (Below.refl _ _) (Nat.le_refl _) (by simp) ?_; (case hd => rfl); (case hg => rfl); (case hr => first | (go_simp; done) | (go_simp; rfl)); (case hp => exact (Reps.one (show Kd.M (Kd.int .i64) _ _ _ (-1) [.int .i64 (-1)] from rfl) (Reps.one (show Kd.M (Kd.int .i64) _ _ _ 0 [.int .i64 0] from rfl) (Reps.one (show Kd.M (Kd.int .i64) _ _ _ 64 [.int .i64 64] from rfl) (Reps.one (show Kd.M (Kd.int .i64) _ _ _ 65 [.int .i64 65] from rfl) (Reps.none _ _)))))); intro vl wl hol hb hg_ hnew_; clear hg_ hnew_; rw [← NY.out] at hol; have n0_ := Aside0.mk (Kd.R_elder' (by (with_reducible repeat (first | apply Kd.R_alloc | apply Kd.R_drewN | apply Kd.R_drew)); exact HO.out) (Kd.R_base hol) hb); have n1_ := Aside0.mk (Kd.R_lower hol (below_size (by repeat (first | (with_reducible exact HB.out) | apply below_alloc | apply pw_below_drewN | apply below_drew1 | exact HB.out)))); have n2_ := Aside0.mk (IsS64.below (by repeat (first | (with_reducible exact HI.out) | refine IsS64.drewN ?_ _ | refine IsS64.drew ?_ | refine IsS64.alloc ?_ _)) hb); have n3_ := Aside0.mk (below_step (by repeat (first | (with_reducible exact HB.out) | apply below_alloc | apply pw_below_drewN | apply below_drew1 | exact HB.out)) hb); clear HO HI HB; have HO := n0_; have HL := n1_; have HI := n2_; have HB := n3_; clear n0_ n1_ n2_ n3_ hb hol; obtain ⟨Al, cl_, el⟩ := Kd.R_slice HL.out; subst el) | (go_at_call 83; (with_reducible refine (spec_l1Cur_among.calls g l0 z1 z2 _ _ y r2 _ _ w _ (by repeat (first | (with_reducible exact HI.out) | refine IsS64.drewN ?_ _ | refine IsS64.drew ?_ | refine IsS64.alloc ?_ _)) (by repeat (first | (with_reducible exact HB.out) | apply below_alloc | apply pw_below_drewN | apply below_drew1 | exact HB.out)) ?side3 ?side4 ?side5 Q9.out).mono ?_); (case side3 => repeat (first | exact (Kd.R_reads' HL.out).2.2 | (with_reducible refine Kd.C_alloc ?_ _) | (with_reducible refine Kd.C_drewN ?_ _) | (with_reducible refine Kd.C_drew ?_))); (case side4 => exact (Kd.R_reads' HL.out).2.1); (case side5 => exact far_slice (IsS64.own_ne HI.out HL.out (by decide))); rintro e w9 ⟨rfl, hi, hb2, hk⟩; have n0_ := Aside0.mk (Kd.R_mono (Kd.R_keep (IsS64.apart (show IsS64 w _ g l0 z1 z2 from (by repeat (first | (with_reducible exact HI.out) | refine IsS64.drewN ?_ _ | refine IsS64.drew ?_ | refine IsS64.alloc ?_ _))) (by (with_reducible repeat (first | apply Kd.R_alloc | apply Kd.R_drewN | apply Kd.R_drew)); exact HO.out) (by decide)) hk (fun _ h => h.2)) (fun _ h => h.1)); have n2_ := Aside0.mk hb2; clear HI HB HO hi hb2 hk; have HO := n0_; have HB := n2_; clear n0_ n2_))
  go_ret2
  exact ⟨_, rfl, Kd.R_mono HO.out (fun _ _ => trivial), HB.out⟩
set_option maxHeartbeats 8000000 in
set_option maxRecDepth 100000 in
theorem spec_DrawInverseAnswer.w2p (k : Nat) (A0 : Option Addr) (c0 : Nat) (l0 : List Int) (r1 : List Int) (r2 : Int) (w : World) (hr0 : Kd.C (Kd.int .u8) w A0 l0.length l0) (hc0 : l0.length ≤ c0) (t0 : List Int) (t1 t2 : Int) (q0 : spec_l1Cur_weights.f k l0 0 0 = some (t0, t1, t2)) (c1 : 0 < t0.length) (b1 b2 : Int) (q1 : spec_l1Cur_one.f l0 t1 t2 6 = some (false, b1, b2)) (p0 p1 p2 : Int) (q2 : spec_l1Cur_pick.f l0 b1 b2 2 = some (p0, p1, p2)) (z1 z2 : Int) (q8 : spec_l1Cur_one.f l0 p1 p2 8 = some (false, z1, z2)) (x1 x2 : Int) (q9 : spec_l1Cur_pick.f l0 z1 z2 10 = some (r2, x1, x2)) (hr : (t0.set 0 (wrap64 (1 - wrap64 (2 * p0)))) = r1) :
    Calls Try.prog 39 #[.slice A0 l0.length c0] w fun e w' => ∃ v0_ : Value, e = .returned (.tuple #[v0_, .int .i64 r2]) ∧ Kd.R (Kd.int .i64) 3 w' w.heap.size (fun _ => True) v0_ r1 ∧ Below w.heap.size w w' := by
  have hu64 := Try.underlying64
  have HR0 := Aside0.mk hr0
  have HC0 := Aside0.mk hc0
  have HB := Aside0.mk (Below.refl w.heap.size w)
  clear hr0 hc0
  have Q0 := Aside0.mk q0
  have C1 := Aside0.mk c1
  have Q8 := Aside0.mk q8
  have Q1 := Aside0.mk q1
  have d1 : decide ((t0.length : Int) > 0) = true := decide_eq_true (by omega)
  have d2 : decide (0 < t0.length) = true := decide_eq_true (by omega)
  have d3 := eq_true (show (t0.length : Int) > 0 by omega)
  have d4 := eq_true c1
  have Q2 := Aside0.mk q2
  obtain ⟨j0, hj0⟩ : ∃ j_ : Int, wrap64 (2 * p0) = j_ := ⟨_, rfl⟩
  rw [hj0] at hr
  obtain ⟨j1, hj1⟩ : ∃ j_ : Int, wrap64 (1 - j0) = j_ := ⟨_, rfl⟩
  rw [hj1] at hr
  have hj0w : IntKind.i64.wrap (2 * p0) = j0 := (i64_w _).trans hj0
  have hj1w : IntKind.i64.wrap (1 - j0) = j1 := (i64_w _).trans hj1
  have Q9 := Aside0.mk q9
  subst hr
  clear q0 c1 q8 q9 q1 q2
  go_enter Try.func39, Try.ntmps39
  go_wp2_with (first | ((with_reducible refine gate_dst (N := 8) rfl ?_); refine box_event ?hg (N := 8) ?hd (cs := #[.slice A0 l0.length c0, .int .i64 0, .int .u64 0]) (t := 64) ?hr ?_; (case hd => rfl); (case hg => rfl); (case hr => first | (go_simp; done) | (go_simp; rfl)); intro g hg w4 hbox hb; have GW := Aside0.mk ((by rw [hg]; exact HB.out.size) : w.heap.size ≤ g); have n0_ := Aside0.mk (below_step HB.out hb); clear HB; have HB := n0_; clear n0_; have HI := Aside0.mk (show IsS64 w w4 g l0 0 0 from ⟨A0, c0, hbox, GW.out, HR0.out⟩); clear hbox hb hg) | (go_at_call 80; (with_reducible refine (spec_l1Cur_weights.calls k g l0 0 0 t0 t1 t2 w _ (by repeat (first | (with_reducible exact HI.out) | refine IsS64.drewN ?_ _ | refine IsS64.drew ?_ | refine IsS64.alloc ?_ _)) (by repeat (first | (with_reducible exact HB.out) | apply below_alloc | apply pw_below_drewN | apply below_drew1 | exact HB.out)) Q0.out).mono ?_); rintro e w5 ⟨v0_, rfl, ho, hi, hb2, hk⟩; obtain ⟨A_, c_, hq_, _, _⟩ := HI.out; have n0_ := Aside0.mk (Kd.R_lower (Kd.R_newB ho hq_) HB.out.size); have n1_ := Aside0.mk hi; have n2_ := Aside0.mk hb2; clear HI HB ho hi hb2 hk hq_; have HO := n0_; have HI := n1_; have HB := n2_; clear n0_ n1_ n2_; obtain ⟨go, co, eo, gb, gl, cl, HG⟩ := Kd.R_form HO.out (by have := C1.out; omega); subst eo; have GB := Aside0.mk gb; clear gb gl HG) | (go_at_call 81; (with_reducible refine (spec_l1Cur_one.calls g l0 t1 t2 6 false _ _ w _ (by repeat (first | (with_reducible exact HI.out) | refine IsS64.drewN ?_ _ | refine IsS64.drew ?_ | refine IsS64.alloc ?_ _)) (by repeat (first | (with_reducible exact HB.out) | apply below_alloc | apply pw_below_drewN | apply below_drew1 | exact HB.out)) Q1.out).mono ?_); rintro e w6 ⟨rfl, hi, hb2, hk⟩; have n0_ := Aside0.mk (Kd.R_keep (ok := fun k_ => True ∧ k_ ≠ g) (by (with_reducible repeat (first | apply Kd.R_alloc | apply Kd.R_drewN | apply Kd.R_drew)); exact HO.out) hk (fun k_ hk_ => hk_.2)); have n1_ := Aside0.mk hi; have n2_ := Aside0.mk hb2; clear HI HB HO hi hb2 hk; have HO := n0_; have HI := n1_; have HB := n2_; clear n0_ n1_ n2_) | (go_at_call 82; (with_reducible refine (spec_l1Cur_pick.calls g l0 b1 b2 2 p0 _ _ w _ (by repeat (first | (with_reducible exact HI.out) | refine IsS64.drewN ?_ _ | refine IsS64.drew ?_ | refine IsS64.alloc ?_ _)) (by repeat (first | (with_reducible exact HB.out) | apply below_alloc | apply pw_below_drewN | apply below_drew1 | exact HB.out)) Q2.out).mono ?_); rintro e w7 ⟨rfl, hi, hb2, hk⟩; have n0_ := Aside0.mk (Kd.R_keep (ok := fun k_ => True ∧ k_ ≠ g) (by (with_reducible repeat (first | apply Kd.R_alloc | apply Kd.R_drewN | apply Kd.R_drew)); exact HO.out) hk (fun k_ hk_ => hk_.2)); have n1_ := Aside0.mk hi; have n2_ := Aside0.mk hb2; clear HI HB HO hi hb2 hk; have HO := n0_; have HI := n1_; have HB := n2_; clear n0_ n1_ n2_; have hlt_ := C1.out; obtain ⟨hx0_, hf0_⟩ := Kd.R_celln 0 HO.out (0 : Int) (by decide) (by omega); have hx_ : w7.cell? ⟨go, 0, none⟩ = some (.int .i64 (rdOf 0 t0 0)) := hx0_; have hf_ : w7.frozen? ⟨go, 0, none⟩ = false := hf0_; clear hx0_ hf0_; have HP := Kd.R_putg HO.out (0 : Int) j1; clear hlt_) | ((with_reducible refine gate_store (t := 3) (p := 24) rfl ?_); refine store_event (t := 3) (p := 24) (v := ?vo_) (w1 := (w7.setCell ⟨go, 0, none⟩ (.int .i64 j1))) ?hg ?ho ?hn ?hr ?_; (case ho => rfl); (case hg => rfl); (case hn => rfl); (case hr => first | (go_simp; done) | (go_simp; rfl)); intro w8 hw; have hg : w7.grownBy w8 (some go) := (by rw [hw]; exact HP.2); have hp_ : Kd.R (Kd.int .i64) 3 w8 w.heap.size (fun k_ => True ∧ k_ ≠ g) (.slice (some ⟨go, 0, none⟩) t0.length co) (t0.set 0 j1) := (by rw [hw]; exact HP.1); have n0_ := Aside0.mk hp_; have n1_ := Aside0.mk ((by rw [hw]; exact below_set HB.out GB.out : Below w.heap.size w w8)); have n2_ := Aside0.mk (IsS64.grown HI.out hg (fun e_ => (HO.out.1 go (by rfl)).2 (Option.some.inj e_).symm)); clear HO HB HI HP hx_ hf_; have HO := n0_; have HB := n1_; have HI := n2_; clear n0_ n1_ n2_ hg hw hp_) | (go_at_call 81; (with_reducible refine (spec_l1Cur_one.calls g l0 p1 p2 8 false _ _ w _ (by repeat (first | (with_reducible exact HI.out) | refine IsS64.drewN ?_ _ | refine IsS64.drew ?_ | refine IsS64.alloc ?_ _)) (by repeat (first | (with_reducible exact HB.out) | apply below_alloc | apply pw_below_drewN | apply below_drew1 | exact HB.out)) Q8.out).mono ?_); rintro e wo ⟨rfl, hi, hb2, hk⟩; have n0_ := Aside0.mk (Kd.R_keep (ok := fun k_ => True ∧ k_ ≠ g) (by (with_reducible repeat (first | apply Kd.R_alloc | apply Kd.R_drewN | apply Kd.R_drew)); exact HO.out) hk (fun k_ hk_ => hk_.2)); have n1_ := Aside0.mk hi; have n2_ := Aside0.mk hb2; clear HI HB HO hi hb2 hk; have HO := n0_; have HI := n1_; have HB := n2_; clear n0_ n1_ n2_) | (go_at_call 82; (with_reducible refine (spec_l1Cur_pick.calls g l0 z1 z2 10 r2 _ _ w _ (by repeat (first | (with_reducible exact HI.out) | refine IsS64.drewN ?_ _ | refine IsS64.drew ?_ | refine IsS64.alloc ?_ _)) (by repeat (first | (with_reducible exact HB.out) | apply below_alloc | apply pw_below_drewN | apply below_drew1 | exact HB.out)) Q9.out).mono ?_); rintro e wp ⟨rfl, hi, hb2, hk⟩; have n0_ := Aside0.mk (Kd.R_keep (ok := fun k_ => True ∧ k_ ≠ g) (by (with_reducible repeat (first | apply Kd.R_alloc | apply Kd.R_drewN | apply Kd.R_drew)); exact HO.out) hk (fun k_ hk_ => hk_.2)); have n1_ := Aside0.mk hi; have n2_ := Aside0.mk hb2; clear HI HB HO hi hb2 hk; have HO := n0_; have HI := n1_; have HB := n2_; clear n0_ n1_ n2_))
  go_ret2
  exact ⟨_, rfl, Kd.R_mono HO.out (fun _ _ => trivial), HB.out⟩
theorem spec_DrawInverseAnswer.calls (k : Nat) (A0 : Option Addr) (c0 : Nat) (l0 : List Int) (r1 : List Int) (r2 : Int) (w : World) (hr0 : Kd.C (Kd.int .u8) w A0 l0.length l0) (hc0 : l0.length ≤ c0) (h : spec_DrawInverseAnswer.f k l0 = some (r1, r2)) :
    Calls Try.prog 39 #[.slice A0 l0.length c0] w fun e w' => ∃ v0_ : Value, e = .returned (.tuple #[v0_, .int .i64 r2]) ∧ Kd.R (Kd.int .i64) 3 w' w.heap.size (fun _ => True) v0_ r1 ∧ Below w.heap.size w w' := by
  unfold spec_DrawInverseAnswer.f at h
  obtain ⟨⟨t0, t1, t2⟩, q0, h⟩ := Option.bind_eq_some_iff.mp h
  by_cases c1 : 0 < t0.length
  · replace h := (if_pos c1).symm.trans h
    obtain ⟨⟨b, b1, b2⟩, q1, h⟩ := Option.bind_eq_some_iff.mp h
    cases b with
    | true =>
      replace h := (if_pos rfl).symm.trans h
      unfold spec_DrawInverseAnswer.g at h
      obtain ⟨⟨b, z1, z2⟩, q8, h⟩ := Option.bind_eq_some_iff.mp h
      cases b with
      | true =>
        replace h := (if_pos rfl).symm.trans h
        obtain ⟨⟨x0, x1, x2⟩, q9, h⟩ := Option.bind_eq_some_iff.mp h
        obtain ⟨hr, rfl⟩ : _ = r1 ∧ x0 = r2 := by simpa using h
        exact spec_DrawInverseAnswer.w1a k A0 c0 l0 r1 x0 w hr0 hc0 t0 t1 t2 q0 c1 b1 b2 q1 z1 z2 q8 x1 x2 q9 hr
      | false =>
        replace h := (if_neg (show ¬ false = true by decide)).symm.trans h
        obtain ⟨⟨x0, x1, x2⟩, q9, h⟩ := Option.bind_eq_some_iff.mp h
        obtain ⟨hr, rfl⟩ : _ = r1 ∧ x0 = r2 := by simpa using h
        exact spec_DrawInverseAnswer.w1p k A0 c0 l0 r1 x0 w hr0 hc0 t0 t1 t2 q0 c1 b1 b2 q1 z1 z2 q8 x1 x2 q9 hr
    | false =>
      replace h := (if_neg (show ¬ false = true by decide)).symm.trans h
      obtain ⟨⟨p0, p1, p2⟩, q2, h⟩ := Option.bind_eq_some_iff.mp h
      unfold spec_DrawInverseAnswer.g at h
      obtain ⟨⟨b, z1, z2⟩, q8, h⟩ := Option.bind_eq_some_iff.mp h
      cases b with
      | true =>
        replace h := (if_pos rfl).symm.trans h
        obtain ⟨⟨x0, x1, x2⟩, q9, h⟩ := Option.bind_eq_some_iff.mp h
        obtain ⟨hr, rfl⟩ : _ = r1 ∧ x0 = r2 := by simpa using h
        exact spec_DrawInverseAnswer.w2a k A0 c0 l0 r1 x0 w hr0 hc0 t0 t1 t2 q0 c1 b1 b2 q1 p0 p1 p2 q2 z1 z2 q8 x1 x2 q9 hr
      | false =>
        replace h := (if_neg (show ¬ false = true by decide)).symm.trans h
        obtain ⟨⟨x0, x1, x2⟩, q9, h⟩ := Option.bind_eq_some_iff.mp h
        obtain ⟨hr, rfl⟩ : _ = r1 ∧ x0 = r2 := by simpa using h
        exact spec_DrawInverseAnswer.w2p k A0 c0 l0 r1 x0 w hr0 hc0 t0 t1 t2 q0 c1 b1 b2 q1 p0 p1 p2 q2 z1 z2 q8 x1 x2 q9 hr
  · replace h := (if_neg c1).symm.trans h
    unfold spec_DrawInverseAnswer.g at h
    obtain ⟨⟨b, z1, z2⟩, q8, h⟩ := Option.bind_eq_some_iff.mp h
    cases b with
    | true =>
      replace h := (if_pos rfl).symm.trans h
      obtain ⟨⟨x0, x1, x2⟩, q9, h⟩ := Option.bind_eq_some_iff.mp h
      obtain ⟨hr, rfl⟩ : _ = r1 ∧ x0 = r2 := by simpa using h
      exact spec_DrawInverseAnswer.w0a k A0 c0 l0 r1 x0 w hr0 hc0 t0 t1 t2 q0 c1  z1 z2 q8 x1 x2 q9 hr
    | false =>
      replace h := (if_neg (show ¬ false = true by decide)).symm.trans h
      obtain ⟨⟨x0, x1, x2⟩, q9, h⟩ := Option.bind_eq_some_iff.mp h
      obtain ⟨hr, rfl⟩ : _ = r1 ∧ x0 = r2 := by simpa using h
      exact spec_DrawInverseAnswer.w0p k A0 c0 l0 r1 x0 w hr0 hc0 t0 t1 t2 q0 c1  z1 z2 q8 x1 x2 q9 hr

/-! ### impl_isSignal_1: function 105 -/
def impl_isSignal_1.f (a0 : Int) : Option (Bool) := (impl_in.f a0 (-100000) 100000).bind fun t293 => (some (!t293))
set_option maxHeartbeats 8000000 in
set_option maxRecDepth 100000 in
theorem impl_isSignal_1.calls (a0 : Int) (r : Bool) (w : World) (h : impl_isSignal_1.f a0 = some r) :
    Calls Try.prog 105 #[.int .i64 a0] w fun e w' => e = .returned (.bool r) ∧ Drawn0 w w' := by
  have H : ((impl_in.f a0 (-100000) 100000).bind fun t293 => (some (!t293))) = some r := h
  clear h
  replace H := Option.bind_eq_some_iff.mp H
  obtain ⟨t293, A20, H⟩ := H
  replace H : (some (!t293)) = some r := H
  have A2 := Aside0.mk A20
  clear A20
  obtain rfl := Option.some.inj H
  go_enter Try.func105, Try.ntmps105
  go_wp2_with (first | ((with_reducible refine gate_callee (f := 84) rfl ?_); refine goesL_ (some 4) rfl rfl Try.func84 (by kernel_rfl) rfl #[.int .i64 a0, .int .i64 (-100000), .int .i64 100000] rfl (by (try simp only [List.map_toArray, List.map_cons, List.map_nil]); first | done | rfl | (simp only [List.length_drop, List.length_take]; rfl)) ?_; (with_reducible refine (impl_in.calls a0 (-100000) 100000 t293 _ A2.out).mono ?_); rintro e w' ⟨rfl, ⟨nd, rfl⟩⟩; refine ⟨_, rfl, ?_⟩))
  go_ret
  exact ⟨by first | rfl | (simp; done) | (simp [*]; done), by repeat (first | exact Drawn0.refl _ | apply Drawn0.step)⟩

/-! ### slices_IndexFunc_int_int_impl_isSignal_1: function 119 -/
def slices_IndexFunc_int_int_impl_isSignal_1.l0 : Nat → List Int → Int → Int → Option (Int)
  | 0, _, _, _ => none
  | k + 1, x0, x7, x8 => if x8 < x7 then (if 0 ≤ x8 then (if x8 < (x0.length : Int) then ((impl_isSignal_1.f (rd x0 x8)).bind fun t295 => (if t295 = true then (some x8) else (slices_IndexFunc_int_int_impl_isSignal_1.l0 k x0 x7 (wrap64 (x8 + 1))))) else (none)) else (none)) else (some (-1))
def slices_IndexFunc_int_int_impl_isSignal_1.f (k : Nat) (l0 : List Int)  : Option (Int) := slices_IndexFunc_int_int_impl_isSignal_1.l0 k l0 (l0.length : Int) 0
theorem slices_IndexFunc_int_int_impl_isSignal_1.mono_l : ∀ k, (∀ y0 y1 y2, LeO (slices_IndexFunc_int_int_impl_isSignal_1.l0 k y0 y1 y2) (slices_IndexFunc_int_int_impl_isSignal_1.l0 (k + 1) y0 y1 y2))
  | 0 => fun _ _ _ r h => by simp [slices_IndexFunc_int_int_impl_isSignal_1.l0] at h
  | k + 1 => by
    have ih0 := slices_IndexFunc_int_int_impl_isSignal_1.mono_l k
    · intro y0 y1 y2
      unfold slices_IndexFunc_int_int_impl_isSignal_1.l0
      repeat' first
      | (with_reducible exact ih0 _ _ _)
      | (with_reducible exact LeO.refl _)
      | (with_reducible exact LeO.none _)
      | (with_reducible refine LeO.ite ?_ ?_)
      | (with_reducible refine LeO.bind ?_ (fun _ => ?_))
      | exact ih0 _ _ _
      | exact LeO.none _
      | refine LeO.ite ?_ ?_
      | refine LeO.bind ?_ (fun _ => ?_)
theorem slices_IndexFunc_int_int_impl_isSignal_1.mono : ∀ a0 k, LeO (slices_IndexFunc_int_int_impl_isSignal_1.f k a0) (slices_IndexFunc_int_int_impl_isSignal_1.f (k + 1) a0) := by
  intro a0 k
  have ih0 := slices_IndexFunc_int_int_impl_isSignal_1.mono_l k
  unfold slices_IndexFunc_int_int_impl_isSignal_1.f
  repeat' first
      | (with_reducible exact ih0 _ _ _)
      | (with_reducible exact LeO.refl _)
      | (with_reducible exact LeO.none _)
      | (with_reducible refine LeO.ite ?_ ?_)
      | (with_reducible refine LeO.bind ?_ (fun _ => ?_))
      | exact ih0 _ _ _
      | exact LeO.none _
      | refine LeO.ite ?_ ?_
      | refine LeO.bind ?_ (fun _ => ?_)
set_option maxHeartbeats 8000000 in
set_option maxRecDepth 100000 in
theorem slices_IndexFunc_int_int_impl_isSignal_1.calls (k : Nat) (A0 : Option Addr) (c0 : Nat) (l0 : List Int)  (r : Int) (w : World) (hr0 : Kd.C (Kd.int .i64) w A0 l0.length l0) (hc0 : l0.length ≤ c0) (h : slices_IndexFunc_int_int_impl_isSignal_1.f k l0 = some r) :
    Calls Try.prog 119 #[.slice A0 l0.length c0, .func (.func 105) #[] #[]] w fun e w' => e = .returned (.int .i64 r) ∧ Drawn0 w w' := by
  have HR0 := Aside0.mk hr0
  have HC0 := Aside0.mk hc0
  clear hr0 hc0
  have H : (slices_IndexFunc_int_int_impl_isSignal_1.l0 k l0 (l0.length : Int) 0) = some r := h
  clear h
  have H' := Aside0.mk H
  clear H
  go_enter Try.func119, Try.ntmps119
  go_wp2
  go_loopg [8] k (fun kq v8 w' => ∃ (x8_1 : Int), v8 = .int .i64 x8_1 ∧ Aside0 (slices_IndexFunc_int_int_impl_isSignal_1.l0 kq l0 (l0.length : Int) x8_1 = some r) ∧ Aside0 (kq ≤ k) ∧ Drawn0 w w')
  case atStart => exact ⟨(0), (by first | rfl | (simp; done) | (simp [*]; done)), H', ⟨Nat.le_refl _⟩, by repeat (first | exact Drawn0.refl _ | apply Drawn0.step)⟩
  case round =>
    clear H'
    try clear p2
    obtain ⟨x8_1, rfl, HA, HK1, ⟨m1, rfl⟩⟩ := hrel
    cases gk with
    | zero => exact absurd HA.out (by simp [slices_IndexFunc_int_int_impl_isSignal_1.l0])
    | succ k1 =>
      have H := HA.out
      clear HA
      simp only [slices_IndexFunc_int_int_impl_isSignal_1.l0] at H
      by_cases c3 : x8_1 < (l0.length : Int)
      · rw [if_pos c3] at H
        have c3b0 : decide (x8_1 < (l0.length : Int)) = true := decide_eq_true c3
        clear c3
        by_cases c4 : 0 ≤ x8_1
        · rw [if_pos c4] at H
          have c4b0 : decide (0 ≤ x8_1) = true := decide_eq_true c4
          clear c4
          by_cases c5 : x8_1 < (l0.length : Int)
          · rw [if_pos c5] at H
            have c5b0 : decide (x8_1 < (l0.length : Int)) = true := decide_eq_true c5
            clear c5
            replace H := Option.bind_eq_some_iff.mp H
            obtain ⟨t295, A60, H⟩ := H
            replace H : (if t295 = true then (some x8_1) else (slices_IndexFunc_int_int_impl_isSignal_1.l0 k1 l0 (l0.length : Int) (wrap64 (x8_1 + 1)))) = some r := H
            have A6 := Aside0.mk A60
            clear A60
            by_cases c7 : t295 = true
            · subst c7
              have H1 : (some x8_1) = some r := by rw [if_pos rfl] at H; exact H
              clear H
              have H := H1
              clear H1
              obtain rfl := Option.some.inj H
              have p294 : 0 ≤ (x8_1 : Int) := of_decide_eq_true (by first | (with_reducible assumption) | assumption)
              have q294 : x8_1 < (l0.length : Int) := of_decide_eq_true (by first | (with_reducible assumption) | assumption)
              obtain ⟨ad294, e294, hx294_0⟩ := Kd.at_int HR0.out x8_1 p294 q294
              cases e294
              replace p294 := eq_true p294
              replace q294 := eq_true q294
              go_wp2_with (first | (go_at_call 105; (with_reducible refine (impl_isSignal_1.calls (rd l0 x8_1) true _ A6.out).mono ?_); rintro e w' ⟨rfl, ⟨nd, rfl⟩⟩))
              go_ret
              exact ⟨by first | rfl | (simp; done) | (simp [*]; done), by repeat (first | exact Drawn0.refl _ | apply Drawn0.step)⟩
            · replace c7 := Bool.eq_false_iff.mpr c7
              subst c7
              have H1 : (slices_IndexFunc_int_int_impl_isSignal_1.l0 k1 l0 (l0.length : Int) (wrap64 (x8_1 + 1))) = some r := by rw [if_neg (show ¬ (false = true) by decide)] at H; exact H
              clear H
              have H := H1
              clear H1
              have H' := Aside0.mk H
              clear H
              have p294 : 0 ≤ (x8_1 : Int) := of_decide_eq_true (by first | (with_reducible assumption) | assumption)
              have q294 : x8_1 < (l0.length : Int) := of_decide_eq_true (by first | (with_reducible assumption) | assumption)
              obtain ⟨ad294, e294, hx294_0⟩ := Kd.at_int HR0.out x8_1 p294 q294
              cases e294
              replace p294 := eq_true p294
              replace q294 := eq_true q294
              go_wp2_with (first | (go_at_call 105; (with_reducible refine (impl_isSignal_1.calls (rd l0 x8_1) false _ A6.out).mono ?_); rintro e w' ⟨rfl, ⟨nd, rfl⟩⟩))
              go_roundg k1
              case measure => have := HK1.out; omega
              case rel => exact ⟨(wrap64 (x8_1 + 1)), (by first | rfl | (simp; done) | (simp [*]; done)), H', ⟨by have := HK1.out; omega⟩, by repeat (first | exact Drawn0.refl _ | apply Drawn0.step)⟩
          · rw [if_neg c5] at H
            exact absurd H (by simp)
        · rw [if_neg c4] at H
          exact absurd H (by simp)
      · rw [if_neg c3] at H
        have c3b0 : decide (x8_1 < (l0.length : Int)) = false := decide_eq_false c3
        clear c3
        obtain rfl := Option.some.inj H
        go_wp2
        go_ret
        exact ⟨by first | rfl | (simp; done) | (simp [*]; done), by repeat (first | exact Drawn0.refl _ | apply Drawn0.step)⟩

end Go.Proofs.Ytgancmcbldmjaaa.QFnWeightsMirrored
