-- Written by wprint.py (this session's program over the kit's print) out of the translation.
import Derived.Test.YtepfkahbfnahmaaQFnExactFilterAtEndx0
import Derived.Test.YtepfkahbfnahmaaQFnExactFilterAtEndx6
namespace Go.Proofs.Ytepfkahbfnahmaa.QFnExactFilterAtEnd
open Go.RowKit Go.Proofs.YtepfkahbfnahmaaW.PrintWords Go.Proofs.YtepfkahbfnahmaaW.PrintLast Go.Proofs.YtepfkahbfnahmaaW.PrintMore
attribute [local go_sem] max2_int min2_int max_two min_two max_three min_three max_four min_four   -- for this text's walks alone
set_option linter.unusedVariables false
set_option linter.unusedSimpArgs false

/-! ### impl_inWord: function 85 -/
def impl_inWord.i0 : Nat → Int → Bool → List Int → Int → Int → Option Int
  | 0, _, _, _, _, _ => none
  | k + 1, b, p, x0, x7, x8 => if x8 < x7 then (if 0 ≤ x8 then (if x8 < (x0.length : Int) then ((impl_Word_has.f b p (rd x0 x8)).bind fun t => (if t = true then (impl_inWord.i0 k b p x0 x7 (wrap64 (x8 + 1))) else (some x8))) else (none)) else (none)) else (some (-1))
def impl_inWord.f (k : Nat) (a0_0 : Int) (a0_1 : Bool) (l1 l2 : List Int) (a3 a4 : Int) : Option Bool := (impl_isWord.f a0_0 a0_1).bind fun t0 => if t0 = true then ((impl_isWeights.f k l1).bind fun t1 => if t1 = true then ((impl_isSignal.f k l2).bind fun t2 => if t2 = true then ((impl_isShift.f a3 a4).bind fun t3 => if t3 = true then ((impl_inWord.i0 k a0_0 a0_1 l1 (l1.length : Int) 0).bind fun r1 => if r1 ≥ 0 then some false else ((impl_inWord.i0 k a0_0 a0_1 l2 (l2.length : Int) 0).bind fun r2 => some (!(decide (r2 ≥ 0))))) else some false) else some false) else some false) else some false
theorem impl_inWord.mono_l : ∀ k, (∀ b p x0 x7 x8, LeO (impl_inWord.i0 k b p x0 x7 x8) (impl_inWord.i0 (k + 1) b p x0 x7 x8))
  | 0 => fun _ _ _ _ _ r h => by simp [impl_inWord.i0] at h
  | k + 1 => by
    have ih0 := impl_inWord.mono_l k
    · intro b p x0 x7 x8
      unfold impl_inWord.i0
      repeat' first
      | (with_reducible exact ih0 _ _ _ _ _)
      | (with_reducible exact LeO.refl _)
      | (with_reducible exact LeO.none _)
      | (with_reducible refine LeO.ite ?_ ?_)
      | (with_reducible refine LeO.bind ?_ (fun _ => ?_))
      | exact ih0 _ _ _ _ _
      | exact LeO.none _
      | refine LeO.ite ?_ ?_
      | refine LeO.bind ?_ (fun _ => ?_)
theorem impl_inWord.mono : ∀ a0 a1 a2 a3 a4 a5 k, LeO (impl_inWord.f k a0 a1 a2 a3 a4 a5) (impl_inWord.f (k + 1) a0 a1 a2 a3 a4 a5) := by
  intro a0 a1 a2 a3 a4 a5 k
  have ih0 := impl_inWord.mono_l k
  unfold impl_inWord.f
  repeat' first
      | (with_reducible exact ih0 _ _ _ _ _)
      | (with_reducible exact impl_isWeights.mono _ _)
      | (with_reducible exact impl_isSignal.mono _ _)
      | (with_reducible exact LeO.refl _)
      | (with_reducible exact LeO.none _)
      | (with_reducible refine LeO.ite ?_ ?_)
      | (with_reducible refine LeO.bind ?_ (fun _ => ?_))
      | exact ih0 _ _ _ _ _
      | exact LeO.none _
      | refine LeO.ite ?_ ?_
      | refine LeO.bind ?_ (fun _ => ?_)
set_option maxHeartbeats 8000000 in
set_option maxRecDepth 100000 in
theorem impl_inWord.lacks (W : World) (g : Nat) (b : Int) (p : Bool) (x : Int) (t : Bool) (h : W.heap[g]? = some (.cells #[.int .i64 b, .bool p] 28 (0, 0))) (hs : impl_Word_has.f b p x = some t) :
    Calls Try.prog 111 #[.int .i64 x, .pointer (some ⟨g, 0, none⟩)] W fun e W1 => e = .returned (.bool (!t)) ∧ Below W.heap.size W W1 := by
  have hu28 := Try.underlying28
  have A1 := Aside0.mk hs
  have HK := Aside0.mk h
  have HB := Aside0.mk (Below.refl W.heap.size W)
  clear hs
  have f0 : W.cell? ⟨g, 0, none⟩ = some (.int .i64 b) := (blk_cell h 0).trans rfl
  have f1 : W.cell? ⟨g, 1, none⟩ = some (.bool p) := (blk_cell h 1).trans rfl
  clear h
  go_enter Try.func111, Try.ntmps111
  go_wp2_with (first | (go_at_call 80; (with_reducible refine (impl_Word_has.calls b p x t _ A1.out).mono ?_); rintro e w2 ⟨rfl, hb⟩; have n0_ := Aside0.mk (below_step HB.out hb); clear HB; have HB := n0_; clear n0_ hb f0 f1))
  go_ret
  exact ⟨rfl, HB.out⟩
set_option maxHeartbeats 8000000 in
set_option maxRecDepth 100000 in
theorem impl_inWord.index (k : Nat) (g : Nat) (A0 : Option Addr) (c0 : Nat) (l0 : List Int) (b : Int) (p : Bool) (r : Int) (W : World) (hw : W.heap[g]? = some (.cells #[.int .i64 b, .bool p] 28 (0, 0))) (hr0 : Kd.C (Kd.int .i64) W A0 l0.length l0) (hc0 : l0.length ≤ c0) (h : impl_inWord.i0 k b p l0 (l0.length : Int) 0 = some r) :
    Calls Try.prog 117 #[.slice A0 l0.length c0, .func (.func 111) #[] #[.pointer (some ⟨g, 0, none⟩)]] W fun e w' => e = .returned (.int .i64 r) ∧ Below W.heap.size W w' := by
  have HR0 := Aside0.mk hr0
  have HC0 := Aside0.mk hc0
  have HW := Aside0.mk hw
  have H' := Aside0.mk h
  clear hr0 hc0 h hw
  go_enter Try.func117, Try.ntmps117
  go_wp2
  go_loopg [8] k (fun kq v8 w' => ∃ (x8_1 : Int), v8 = .int .i64 x8_1 ∧ Aside0 (impl_inWord.i0 kq b p l0 (l0.length : Int) x8_1 = some r) ∧ Aside0 (kq ≤ k) ∧ Aside0 (Below W.heap.size W w'))
  case atStart => exact ⟨0, rfl, H', ⟨Nat.le_refl _⟩, ⟨by repeat (first | (with_reducible exact Below.refl _ _) | apply below_alloc | apply pw_below_drewN | apply below_drew1 | exact Below.refl _ _)⟩⟩
  case round =>
    clear H'
    obtain ⟨x8_1, rfl, HA, HK1, HB⟩ := hrel
    cases gk with
    | zero => exact absurd HA.out (by simp [impl_inWord.i0])
    | succ k1 =>
      have H := HA.out
      clear HA
      simp only [impl_inWord.i0] at H
      by_cases c3 : x8_1 < (l0.length : Int)
      · rw [if_pos c3] at H
        have c3b0 : decide (x8_1 < (l0.length : Int)) = true := decide_eq_true c3
        by_cases c4 : 0 ≤ x8_1
        · rw [if_pos c4, if_pos c3] at H
          clear c3
          have c4b0 : decide (0 ≤ x8_1) = true := decide_eq_true c4
          clear c4
          replace H := Option.bind_eq_some_iff.mp H
          obtain ⟨t149, A60, H⟩ := H
          have A6 := Aside0.mk A60
          clear A60
          have HRB := Aside0.mk (Kd.C_below HR0.out HB.out)
          have HWB := Aside0.mk (blk_below HW.out HB.out)
          have p148 : 0 ≤ (x8_1 : Int) := of_decide_eq_true (by first | (with_reducible assumption) | assumption)
          have q148 : x8_1 < (l0.length : Int) := of_decide_eq_true (by first | (with_reducible assumption) | assumption)
          obtain ⟨ad148, e148, hx148_0⟩ := Kd.at_int HRB.out x8_1 p148 q148
          cases e148
          replace p148 := eq_true p148
          replace q148 := eq_true q148
          by_cases c7 : t149 = true
          · subst c7
            have H' := Aside0.mk ((if_pos rfl).symm.trans H)
            clear H
            go_wp2_with (first | (go_at_call 111; (with_reducible refine (impl_inWord.lacks _ g b p (rd l0 x8_1) true (by (with_reducible repeat (first | refine blk_drewN ?_ _ | refine blk_drew ?_ | refine blk_alloc ?_ _)); exact HWB.out) A6.out).mono ?_); rintro e w2 ⟨rfl, hb⟩; have n0_ := Aside0.mk (below_step (by repeat (first | (with_reducible exact HB.out) | apply below_alloc | apply pw_below_drewN | apply below_drew1 | exact HB.out)) hb); clear HB HRB HWB hx148_0; have HB := n0_; clear n0_ hb))
            go_roundg k1
            case measure => have := HK1.out; omega
            case rel => exact ⟨(wrap64 (x8_1 + 1)), rfl, H', ⟨by have := HK1.out; omega⟩, ⟨by repeat (first | (with_reducible exact HB.out) | apply below_alloc | apply pw_below_drewN | apply below_drew1 | exact HB.out)⟩⟩
          · replace c7 := Bool.eq_false_iff.mpr c7
            subst c7
            have H1 := (if_neg (show ¬ (false = true) by decide)).symm.trans H
            clear H
            obtain rfl := Option.some.inj H1
            clear H1
            go_wp2_with (first | (go_at_call 111; (with_reducible refine (impl_inWord.lacks _ g b p (rd l0 x8_1) false (by (with_reducible repeat (first | refine blk_drewN ?_ _ | refine blk_drew ?_ | refine blk_alloc ?_ _)); exact HWB.out) A6.out).mono ?_); rintro e w2 ⟨rfl, hb⟩; have n0_ := Aside0.mk (below_step (by repeat (first | (with_reducible exact HB.out) | apply below_alloc | apply pw_below_drewN | apply below_drew1 | exact HB.out)) hb); clear HB HRB HWB hx148_0; have HB := n0_; clear n0_ hb))
            go_ret
            exact ⟨rfl, by repeat (first | (with_reducible exact HB.out) | apply below_alloc | apply pw_below_drewN | apply below_drew1 | exact HB.out)⟩
        · rw [if_neg c4] at H
          exact absurd H (by simp)
      · rw [if_neg c3] at H
        have c3b0 : decide (x8_1 < (l0.length : Int)) = false := decide_eq_false c3
        clear c3
        obtain rfl := Option.some.inj H
        go_wp2
        go_ret
        exact ⟨rfl, by repeat (first | (with_reducible exact HB.out) | apply below_alloc | apply pw_below_drewN | apply below_drew1 | exact HB.out)⟩
set_option maxHeartbeats 8000000 in
set_option maxRecDepth 100000 in
theorem impl_inWord.contains (k : Nat) (g : Nat) (A0 : Option Addr) (c0 : Nat) (l0 : List Int) (b : Int) (p : Bool) (r : Int) (W : World) (hw : W.heap[g]? = some (.cells #[.int .i64 b, .bool p] 28 (0, 0))) (hr0 : Kd.C (Kd.int .i64) W A0 l0.length l0) (hc0 : l0.length ≤ c0) (h : impl_inWord.i0 k b p l0 (l0.length : Int) 0 = some r) :
    Calls Try.prog 95 #[.slice A0 l0.length c0, .func (.func 111) #[] #[.pointer (some ⟨g, 0, none⟩)]] W fun e w' => e = .returned (.bool (decide (r ≥ 0))) ∧ Below W.heap.size W w' := by
  have HR0 := Aside0.mk hr0
  have HC0 := Aside0.mk hc0
  have HW := Aside0.mk hw
  have H' := Aside0.mk h
  have HB := Aside0.mk (Below.refl W.heap.size W)
  clear hr0 hc0 h hw
  go_enter Try.func95, Try.ntmps95
  go_wp2_with (first | (go_at_call 117; (with_reducible refine (impl_inWord.index k g A0 c0 l0 b p r _ (by (with_reducible repeat (first | refine blk_drewN ?_ _ | refine blk_drew ?_ | refine blk_alloc ?_ _)); exact HW.out) (by (with_reducible repeat (first | refine Kd.C_alloc ?_ _ | refine Kd.C_drewN ?_ _ | refine Kd.C_drew ?_)); exact HR0.out) HC0.out H'.out).mono ?_); rintro e w2 ⟨rfl, hb⟩; have n0_ := Aside0.mk (below_step (by repeat (first | (with_reducible exact HB.out) | apply below_alloc | apply pw_below_drewN | apply below_drew1 | exact HB.out)) hb); clear HB; have HB := n0_; clear n0_ hb))
  go_ret
  exact ⟨rfl, by repeat (first | (with_reducible exact HB.out) | apply below_alloc | apply pw_below_drewN | apply below_drew1 | exact HB.out)⟩
set_option maxHeartbeats 8000000 in
set_option maxRecDepth 100000 in
theorem impl_inWord.calls (k : Nat) (a0_0 : Int) (a0_1 : Bool) (A1 : Option Addr) (c1 : Nat) (l1 : List Int) (A2 : Option Addr) (c2 : Nat) (l2 : List Int) (a3 : Int) (a4 : Int) (r : Bool) (w : World) (hr1 : Kd.C (Kd.int .i64) w A1 l1.length l1) (hc1 : l1.length ≤ c1) (hr2 : Kd.C (Kd.int .i64) w A2 l2.length l2) (hc2 : l2.length ≤ c2) (h : impl_inWord.f k a0_0 a0_1 l1 l2 a3 a4 = some r) :
    Calls Try.prog 85 #[.agg #[.int .i64 a0_0, .bool a0_1], .slice A1 l1.length c1, .slice A2 l2.length c2, .int .i64 a3, .int .i64 a4] w fun e w' => e = .returned (.bool r) ∧ Below w.heap.size w w' := by
  have hu28 := Try.underlying28
  have HR1 := Aside0.mk hr1
  have HC1 := Aside0.mk hc1
  have HR2 := Aside0.mk hr2
  have HC2 := Aside0.mk hc2
  have HB := Aside0.mk (Below.refl w.heap.size w)
  clear hr1 hc1 hr2 hc2
  unfold impl_inWord.f at h
  obtain ⟨t0, q0_, h⟩ := Option.bind_eq_some_iff.mp h
  have Q0 := Aside0.mk q0_
  clear q0_
  cases t0 with
  | false =>
    replace h := (if_neg (by decide)).symm.trans h
    obtain rfl := Option.some.inj h
    clear h
    go_enter Try.func85, Try.ntmps85
    go_wp2_with (first | ((with_reducible refine gate_dst (N := 5) rfl ?_); refine box_event ?hg (N := 5) ?hd (cs := #[.int .i64 a0_0, .bool a0_1]) (t := 28) ?hr ?_; (case hd => rfl); (case hg => rfl); (case hr => first | (go_simp; done) | (go_simp; rfl)); intro g hg vb hbox hb; have KW0 := Aside0.mk hbox; have m1_ := Aside0.mk (Kd.C_below HR1.out hb); have m2_ := Aside0.mk (Kd.C_below HR2.out hb); have mB_ := Aside0.mk (below_step HB.out hb); clear HR1 HR2 HB; have KW := KW0; have HR1 := m1_; have HR2 := m2_; have HB := mB_; clear KW0 m1_ m2_ mB_ hb hbox hg; have y0 : vb.cell? ⟨g, 0, none⟩ = some (.int .i64 a0_0) := (blk_cell KW.out 0).trans rfl; have y1 : vb.cell? ⟨g, 1, none⟩ = some (.bool a0_1) := (blk_cell KW.out 1).trans rfl) | (go_at_call 112; (with_reducible refine (impl_isWord.calls a0_0 a0_1 _ _ Q0.out).mono ?_); rintro e u0 ⟨rfl, hb⟩; have mW_ := Aside0.mk (blk_below KW.out hb); have m1_ := Aside0.mk (Kd.C_below HR1.out hb); have m2_ := Aside0.mk (Kd.C_below HR2.out hb); have mB_ := Aside0.mk (below_step HB.out hb); clear KW HR1 HR2 HB; have KW := mW_; have HR1 := m1_; have HR2 := m2_; have HB := mB_; clear mW_ m1_ m2_ mB_ hb; clear y0 y1) | (go_at_call 57; (with_reducible refine (impl_isWeights.calls k A1 c1 l1 _ _ HR1.out HC1.out Q1.out).mono ?_); rintro e u1 ⟨rfl, hb_⟩; have hb := hb_.below; clear hb_; have mW_ := Aside0.mk (blk_below KW.out hb); have m1_ := Aside0.mk (Kd.C_below HR1.out hb); have m2_ := Aside0.mk (Kd.C_below HR2.out hb); have mB_ := Aside0.mk (below_step HB.out hb); clear KW HR1 HR2 HB; have KW := mW_; have HR1 := m1_; have HR2 := m2_; have HB := mB_; clear mW_ m1_ m2_ mB_ hb) | (go_at_call 48; (with_reducible refine (impl_isSignal.calls k A2 c2 l2 _ _ HR2.out HC2.out Q2.out).mono ?_); rintro e u2 ⟨rfl, hb_⟩; have hb := hb_.below; clear hb_; have mW_ := Aside0.mk (blk_below KW.out hb); have m1_ := Aside0.mk (Kd.C_below HR1.out hb); have m2_ := Aside0.mk (Kd.C_below HR2.out hb); have mB_ := Aside0.mk (below_step HB.out hb); clear KW HR1 HR2 HB; have KW := mW_; have HR1 := m1_; have HR2 := m2_; have HB := mB_; clear mW_ m1_ m2_ mB_ hb) | (go_at_call 113; (with_reducible refine (impl_isShift.calls a3 a4 _ _ Q3.out).mono ?_); rintro e u3 ⟨rfl, hb_⟩; have hb := hb_.below; clear hb_; have mW_ := Aside0.mk (blk_below KW.out hb); have m1_ := Aside0.mk (Kd.C_below HR1.out hb); have m2_ := Aside0.mk (Kd.C_below HR2.out hb); have mB_ := Aside0.mk (below_step HB.out hb); clear KW HR1 HR2 HB; have KW := mW_; have HR1 := m1_; have HR2 := m2_; have HB := mB_; clear mW_ m1_ m2_ mB_ hb) | (go_at_call 95; (with_reducible refine (impl_inWord.contains k g A1 c1 l1 a0_0 a0_1 _ _ KW.out HR1.out HC1.out Q4.out).mono ?_); rintro e u4 ⟨rfl, hb⟩; have mW_ := Aside0.mk (blk_below KW.out hb); have m1_ := Aside0.mk (Kd.C_below HR1.out hb); have m2_ := Aside0.mk (Kd.C_below HR2.out hb); have mB_ := Aside0.mk (below_step HB.out hb); clear KW HR1 HR2 HB; have KW := mW_; have HR1 := m1_; have HR2 := m2_; have HB := mB_; clear mW_ m1_ m2_ mB_ hb) | (go_at_call 95; (with_reducible refine (impl_inWord.contains k g A2 c2 l2 a0_0 a0_1 _ _ KW.out HR2.out HC2.out Q5.out).mono ?_); rintro e u5 ⟨rfl, hb⟩; have mW_ := Aside0.mk (blk_below KW.out hb); have m1_ := Aside0.mk (Kd.C_below HR1.out hb); have m2_ := Aside0.mk (Kd.C_below HR2.out hb); have mB_ := Aside0.mk (below_step HB.out hb); clear KW HR1 HR2 HB; have KW := mW_; have HR1 := m1_; have HR2 := m2_; have HB := mB_; clear mW_ m1_ m2_ mB_ hb))
    go_ret
    exact ⟨rfl, HB.out⟩
  | true =>
    replace h := (if_pos rfl).symm.trans h
    obtain ⟨t1, q1_, h⟩ := Option.bind_eq_some_iff.mp h
    have Q1 := Aside0.mk q1_
    clear q1_
    cases t1 with
    | false =>
      replace h := (if_neg (by decide)).symm.trans h
      obtain rfl := Option.some.inj h
      clear h
      go_enter Try.func85, Try.ntmps85
      go_wp2_with (first | ((with_reducible refine gate_dst (N := 5) rfl ?_); refine box_event ?hg (N := 5) ?hd (cs := #[.int .i64 a0_0, .bool a0_1]) (t := 28) ?hr ?_; (case hd => rfl); (case hg => rfl); (case hr => first | (go_simp; done) | (go_simp; rfl)); intro g hg vb hbox hb; have KW0 := Aside0.mk hbox; have m1_ := Aside0.mk (Kd.C_below HR1.out hb); have m2_ := Aside0.mk (Kd.C_below HR2.out hb); have mB_ := Aside0.mk (below_step HB.out hb); clear HR1 HR2 HB; have KW := KW0; have HR1 := m1_; have HR2 := m2_; have HB := mB_; clear KW0 m1_ m2_ mB_ hb hbox hg; have y0 : vb.cell? ⟨g, 0, none⟩ = some (.int .i64 a0_0) := (blk_cell KW.out 0).trans rfl; have y1 : vb.cell? ⟨g, 1, none⟩ = some (.bool a0_1) := (blk_cell KW.out 1).trans rfl) | (go_at_call 112; (with_reducible refine (impl_isWord.calls a0_0 a0_1 _ _ Q0.out).mono ?_); rintro e u0 ⟨rfl, hb⟩; have mW_ := Aside0.mk (blk_below KW.out hb); have m1_ := Aside0.mk (Kd.C_below HR1.out hb); have m2_ := Aside0.mk (Kd.C_below HR2.out hb); have mB_ := Aside0.mk (below_step HB.out hb); clear KW HR1 HR2 HB; have KW := mW_; have HR1 := m1_; have HR2 := m2_; have HB := mB_; clear mW_ m1_ m2_ mB_ hb; clear y0 y1) | (go_at_call 57; (with_reducible refine (impl_isWeights.calls k A1 c1 l1 _ _ HR1.out HC1.out Q1.out).mono ?_); rintro e u1 ⟨rfl, hb_⟩; have hb := hb_.below; clear hb_; have mW_ := Aside0.mk (blk_below KW.out hb); have m1_ := Aside0.mk (Kd.C_below HR1.out hb); have m2_ := Aside0.mk (Kd.C_below HR2.out hb); have mB_ := Aside0.mk (below_step HB.out hb); clear KW HR1 HR2 HB; have KW := mW_; have HR1 := m1_; have HR2 := m2_; have HB := mB_; clear mW_ m1_ m2_ mB_ hb) | (go_at_call 48; (with_reducible refine (impl_isSignal.calls k A2 c2 l2 _ _ HR2.out HC2.out Q2.out).mono ?_); rintro e u2 ⟨rfl, hb_⟩; have hb := hb_.below; clear hb_; have mW_ := Aside0.mk (blk_below KW.out hb); have m1_ := Aside0.mk (Kd.C_below HR1.out hb); have m2_ := Aside0.mk (Kd.C_below HR2.out hb); have mB_ := Aside0.mk (below_step HB.out hb); clear KW HR1 HR2 HB; have KW := mW_; have HR1 := m1_; have HR2 := m2_; have HB := mB_; clear mW_ m1_ m2_ mB_ hb) | (go_at_call 113; (with_reducible refine (impl_isShift.calls a3 a4 _ _ Q3.out).mono ?_); rintro e u3 ⟨rfl, hb_⟩; have hb := hb_.below; clear hb_; have mW_ := Aside0.mk (blk_below KW.out hb); have m1_ := Aside0.mk (Kd.C_below HR1.out hb); have m2_ := Aside0.mk (Kd.C_below HR2.out hb); have mB_ := Aside0.mk (below_step HB.out hb); clear KW HR1 HR2 HB; have KW := mW_; have HR1 := m1_; have HR2 := m2_; have HB := mB_; clear mW_ m1_ m2_ mB_ hb) | (go_at_call 95; (with_reducible refine (impl_inWord.contains k g A1 c1 l1 a0_0 a0_1 _ _ KW.out HR1.out HC1.out Q4.out).mono ?_); rintro e u4 ⟨rfl, hb⟩; have mW_ := Aside0.mk (blk_below KW.out hb); have m1_ := Aside0.mk (Kd.C_below HR1.out hb); have m2_ := Aside0.mk (Kd.C_below HR2.out hb); have mB_ := Aside0.mk (below_step HB.out hb); clear KW HR1 HR2 HB; have KW := mW_; have HR1 := m1_; have HR2 := m2_; have HB := mB_; clear mW_ m1_ m2_ mB_ hb) | (go_at_call 95; (with_reducible refine (impl_inWord.contains k g A2 c2 l2 a0_0 a0_1 _ _ KW.out HR2.out HC2.out Q5.out).mono ?_); rintro e u5 ⟨rfl, hb⟩; have mW_ := Aside0.mk (blk_below KW.out hb); have m1_ := Aside0.mk (Kd.C_below HR1.out hb); have m2_ := Aside0.mk (Kd.C_below HR2.out hb); have mB_ := Aside0.mk (below_step HB.out hb); clear KW HR1 HR2 HB; have KW := mW_; have HR1 := m1_; have HR2 := m2_; have HB := mB_; clear mW_ m1_ m2_ mB_ hb))
      go_ret
      exact ⟨rfl, HB.out⟩
    | true =>
      replace h := (if_pos rfl).symm.trans h
      obtain ⟨t2, q2_, h⟩ := Option.bind_eq_some_iff.mp h
      have Q2 := Aside0.mk q2_
      clear q2_
      cases t2 with
      | false =>
        replace h := (if_neg (by decide)).symm.trans h
        obtain rfl := Option.some.inj h
        clear h
        go_enter Try.func85, Try.ntmps85
        go_wp2_with (first | ((with_reducible refine gate_dst (N := 5) rfl ?_); refine box_event ?hg (N := 5) ?hd (cs := #[.int .i64 a0_0, .bool a0_1]) (t := 28) ?hr ?_; (case hd => rfl); (case hg => rfl); (case hr => first | (go_simp; done) | (go_simp; rfl)); intro g hg vb hbox hb; have KW0 := Aside0.mk hbox; have m1_ := Aside0.mk (Kd.C_below HR1.out hb); have m2_ := Aside0.mk (Kd.C_below HR2.out hb); have mB_ := Aside0.mk (below_step HB.out hb); clear HR1 HR2 HB; have KW := KW0; have HR1 := m1_; have HR2 := m2_; have HB := mB_; clear KW0 m1_ m2_ mB_ hb hbox hg; have y0 : vb.cell? ⟨g, 0, none⟩ = some (.int .i64 a0_0) := (blk_cell KW.out 0).trans rfl; have y1 : vb.cell? ⟨g, 1, none⟩ = some (.bool a0_1) := (blk_cell KW.out 1).trans rfl) | (go_at_call 112; (with_reducible refine (impl_isWord.calls a0_0 a0_1 _ _ Q0.out).mono ?_); rintro e u0 ⟨rfl, hb⟩; have mW_ := Aside0.mk (blk_below KW.out hb); have m1_ := Aside0.mk (Kd.C_below HR1.out hb); have m2_ := Aside0.mk (Kd.C_below HR2.out hb); have mB_ := Aside0.mk (below_step HB.out hb); clear KW HR1 HR2 HB; have KW := mW_; have HR1 := m1_; have HR2 := m2_; have HB := mB_; clear mW_ m1_ m2_ mB_ hb; clear y0 y1) | (go_at_call 57; (with_reducible refine (impl_isWeights.calls k A1 c1 l1 _ _ HR1.out HC1.out Q1.out).mono ?_); rintro e u1 ⟨rfl, hb_⟩; have hb := hb_.below; clear hb_; have mW_ := Aside0.mk (blk_below KW.out hb); have m1_ := Aside0.mk (Kd.C_below HR1.out hb); have m2_ := Aside0.mk (Kd.C_below HR2.out hb); have mB_ := Aside0.mk (below_step HB.out hb); clear KW HR1 HR2 HB; have KW := mW_; have HR1 := m1_; have HR2 := m2_; have HB := mB_; clear mW_ m1_ m2_ mB_ hb) | (go_at_call 48; (with_reducible refine (impl_isSignal.calls k A2 c2 l2 _ _ HR2.out HC2.out Q2.out).mono ?_); rintro e u2 ⟨rfl, hb_⟩; have hb := hb_.below; clear hb_; have mW_ := Aside0.mk (blk_below KW.out hb); have m1_ := Aside0.mk (Kd.C_below HR1.out hb); have m2_ := Aside0.mk (Kd.C_below HR2.out hb); have mB_ := Aside0.mk (below_step HB.out hb); clear KW HR1 HR2 HB; have KW := mW_; have HR1 := m1_; have HR2 := m2_; have HB := mB_; clear mW_ m1_ m2_ mB_ hb) | (go_at_call 113; (with_reducible refine (impl_isShift.calls a3 a4 _ _ Q3.out).mono ?_); rintro e u3 ⟨rfl, hb_⟩; have hb := hb_.below; clear hb_; have mW_ := Aside0.mk (blk_below KW.out hb); have m1_ := Aside0.mk (Kd.C_below HR1.out hb); have m2_ := Aside0.mk (Kd.C_below HR2.out hb); have mB_ := Aside0.mk (below_step HB.out hb); clear KW HR1 HR2 HB; have KW := mW_; have HR1 := m1_; have HR2 := m2_; have HB := mB_; clear mW_ m1_ m2_ mB_ hb) | (go_at_call 95; (with_reducible refine (impl_inWord.contains k g A1 c1 l1 a0_0 a0_1 _ _ KW.out HR1.out HC1.out Q4.out).mono ?_); rintro e u4 ⟨rfl, hb⟩; have mW_ := Aside0.mk (blk_below KW.out hb); have m1_ := Aside0.mk (Kd.C_below HR1.out hb); have m2_ := Aside0.mk (Kd.C_below HR2.out hb); have mB_ := Aside0.mk (below_step HB.out hb); clear KW HR1 HR2 HB; have KW := mW_; have HR1 := m1_; have HR2 := m2_; have HB := mB_; clear mW_ m1_ m2_ mB_ hb) | (go_at_call 95; (with_reducible refine (impl_inWord.contains k g A2 c2 l2 a0_0 a0_1 _ _ KW.out HR2.out HC2.out Q5.out).mono ?_); rintro e u5 ⟨rfl, hb⟩; have mW_ := Aside0.mk (blk_below KW.out hb); have m1_ := Aside0.mk (Kd.C_below HR1.out hb); have m2_ := Aside0.mk (Kd.C_below HR2.out hb); have mB_ := Aside0.mk (below_step HB.out hb); clear KW HR1 HR2 HB; have KW := mW_; have HR1 := m1_; have HR2 := m2_; have HB := mB_; clear mW_ m1_ m2_ mB_ hb))
        go_ret
        exact ⟨rfl, HB.out⟩
      | true =>
        replace h := (if_pos rfl).symm.trans h
        obtain ⟨t3, q3_, h⟩ := Option.bind_eq_some_iff.mp h
        have Q3 := Aside0.mk q3_
        clear q3_
        cases t3 with
        | false =>
          replace h := (if_neg (by decide)).symm.trans h
          obtain rfl := Option.some.inj h
          clear h
          go_enter Try.func85, Try.ntmps85
          go_wp2_with (first | ((with_reducible refine gate_dst (N := 5) rfl ?_); refine box_event ?hg (N := 5) ?hd (cs := #[.int .i64 a0_0, .bool a0_1]) (t := 28) ?hr ?_; (case hd => rfl); (case hg => rfl); (case hr => first | (go_simp; done) | (go_simp; rfl)); intro g hg vb hbox hb; have KW0 := Aside0.mk hbox; have m1_ := Aside0.mk (Kd.C_below HR1.out hb); have m2_ := Aside0.mk (Kd.C_below HR2.out hb); have mB_ := Aside0.mk (below_step HB.out hb); clear HR1 HR2 HB; have KW := KW0; have HR1 := m1_; have HR2 := m2_; have HB := mB_; clear KW0 m1_ m2_ mB_ hb hbox hg; have y0 : vb.cell? ⟨g, 0, none⟩ = some (.int .i64 a0_0) := (blk_cell KW.out 0).trans rfl; have y1 : vb.cell? ⟨g, 1, none⟩ = some (.bool a0_1) := (blk_cell KW.out 1).trans rfl) | (go_at_call 112; (with_reducible refine (impl_isWord.calls a0_0 a0_1 _ _ Q0.out).mono ?_); rintro e u0 ⟨rfl, hb⟩; have mW_ := Aside0.mk (blk_below KW.out hb); have m1_ := Aside0.mk (Kd.C_below HR1.out hb); have m2_ := Aside0.mk (Kd.C_below HR2.out hb); have mB_ := Aside0.mk (below_step HB.out hb); clear KW HR1 HR2 HB; have KW := mW_; have HR1 := m1_; have HR2 := m2_; have HB := mB_; clear mW_ m1_ m2_ mB_ hb; clear y0 y1) | (go_at_call 57; (with_reducible refine (impl_isWeights.calls k A1 c1 l1 _ _ HR1.out HC1.out Q1.out).mono ?_); rintro e u1 ⟨rfl, hb_⟩; have hb := hb_.below; clear hb_; have mW_ := Aside0.mk (blk_below KW.out hb); have m1_ := Aside0.mk (Kd.C_below HR1.out hb); have m2_ := Aside0.mk (Kd.C_below HR2.out hb); have mB_ := Aside0.mk (below_step HB.out hb); clear KW HR1 HR2 HB; have KW := mW_; have HR1 := m1_; have HR2 := m2_; have HB := mB_; clear mW_ m1_ m2_ mB_ hb) | (go_at_call 48; (with_reducible refine (impl_isSignal.calls k A2 c2 l2 _ _ HR2.out HC2.out Q2.out).mono ?_); rintro e u2 ⟨rfl, hb_⟩; have hb := hb_.below; clear hb_; have mW_ := Aside0.mk (blk_below KW.out hb); have m1_ := Aside0.mk (Kd.C_below HR1.out hb); have m2_ := Aside0.mk (Kd.C_below HR2.out hb); have mB_ := Aside0.mk (below_step HB.out hb); clear KW HR1 HR2 HB; have KW := mW_; have HR1 := m1_; have HR2 := m2_; have HB := mB_; clear mW_ m1_ m2_ mB_ hb) | (go_at_call 113; (with_reducible refine (impl_isShift.calls a3 a4 _ _ Q3.out).mono ?_); rintro e u3 ⟨rfl, hb_⟩; have hb := hb_.below; clear hb_; have mW_ := Aside0.mk (blk_below KW.out hb); have m1_ := Aside0.mk (Kd.C_below HR1.out hb); have m2_ := Aside0.mk (Kd.C_below HR2.out hb); have mB_ := Aside0.mk (below_step HB.out hb); clear KW HR1 HR2 HB; have KW := mW_; have HR1 := m1_; have HR2 := m2_; have HB := mB_; clear mW_ m1_ m2_ mB_ hb) | (go_at_call 95; (with_reducible refine (impl_inWord.contains k g A1 c1 l1 a0_0 a0_1 _ _ KW.out HR1.out HC1.out Q4.out).mono ?_); rintro e u4 ⟨rfl, hb⟩; have mW_ := Aside0.mk (blk_below KW.out hb); have m1_ := Aside0.mk (Kd.C_below HR1.out hb); have m2_ := Aside0.mk (Kd.C_below HR2.out hb); have mB_ := Aside0.mk (below_step HB.out hb); clear KW HR1 HR2 HB; have KW := mW_; have HR1 := m1_; have HR2 := m2_; have HB := mB_; clear mW_ m1_ m2_ mB_ hb) | (go_at_call 95; (with_reducible refine (impl_inWord.contains k g A2 c2 l2 a0_0 a0_1 _ _ KW.out HR2.out HC2.out Q5.out).mono ?_); rintro e u5 ⟨rfl, hb⟩; have mW_ := Aside0.mk (blk_below KW.out hb); have m1_ := Aside0.mk (Kd.C_below HR1.out hb); have m2_ := Aside0.mk (Kd.C_below HR2.out hb); have mB_ := Aside0.mk (below_step HB.out hb); clear KW HR1 HR2 HB; have KW := mW_; have HR1 := m1_; have HR2 := m2_; have HB := mB_; clear mW_ m1_ m2_ mB_ hb))
          go_ret
          exact ⟨rfl, HB.out⟩
        | true =>
          replace h := (if_pos rfl).symm.trans h
          obtain ⟨r1, q4_, h⟩ := Option.bind_eq_some_iff.mp h
          have Q4 := Aside0.mk q4_
          clear q4_
          by_cases c1_ : r1 ≥ 0
          · replace h := (if_pos c1_).symm.trans h
            have d1_ := decide_eq_true c1_
            clear c1_
            obtain rfl := Option.some.inj h
            clear h
            go_enter Try.func85, Try.ntmps85
            go_wp2_with (first | ((with_reducible refine gate_dst (N := 5) rfl ?_); refine box_event ?hg (N := 5) ?hd (cs := #[.int .i64 a0_0, .bool a0_1]) (t := 28) ?hr ?_; (case hd => rfl); (case hg => rfl); (case hr => first | (go_simp; done) | (go_simp; rfl)); intro g hg vb hbox hb; have KW0 := Aside0.mk hbox; have m1_ := Aside0.mk (Kd.C_below HR1.out hb); have m2_ := Aside0.mk (Kd.C_below HR2.out hb); have mB_ := Aside0.mk (below_step HB.out hb); clear HR1 HR2 HB; have KW := KW0; have HR1 := m1_; have HR2 := m2_; have HB := mB_; clear KW0 m1_ m2_ mB_ hb hbox hg; have y0 : vb.cell? ⟨g, 0, none⟩ = some (.int .i64 a0_0) := (blk_cell KW.out 0).trans rfl; have y1 : vb.cell? ⟨g, 1, none⟩ = some (.bool a0_1) := (blk_cell KW.out 1).trans rfl) | (go_at_call 112; (with_reducible refine (impl_isWord.calls a0_0 a0_1 _ _ Q0.out).mono ?_); rintro e u0 ⟨rfl, hb⟩; have mW_ := Aside0.mk (blk_below KW.out hb); have m1_ := Aside0.mk (Kd.C_below HR1.out hb); have m2_ := Aside0.mk (Kd.C_below HR2.out hb); have mB_ := Aside0.mk (below_step HB.out hb); clear KW HR1 HR2 HB; have KW := mW_; have HR1 := m1_; have HR2 := m2_; have HB := mB_; clear mW_ m1_ m2_ mB_ hb; clear y0 y1) | (go_at_call 57; (with_reducible refine (impl_isWeights.calls k A1 c1 l1 _ _ HR1.out HC1.out Q1.out).mono ?_); rintro e u1 ⟨rfl, hb_⟩; have hb := hb_.below; clear hb_; have mW_ := Aside0.mk (blk_below KW.out hb); have m1_ := Aside0.mk (Kd.C_below HR1.out hb); have m2_ := Aside0.mk (Kd.C_below HR2.out hb); have mB_ := Aside0.mk (below_step HB.out hb); clear KW HR1 HR2 HB; have KW := mW_; have HR1 := m1_; have HR2 := m2_; have HB := mB_; clear mW_ m1_ m2_ mB_ hb) | (go_at_call 48; (with_reducible refine (impl_isSignal.calls k A2 c2 l2 _ _ HR2.out HC2.out Q2.out).mono ?_); rintro e u2 ⟨rfl, hb_⟩; have hb := hb_.below; clear hb_; have mW_ := Aside0.mk (blk_below KW.out hb); have m1_ := Aside0.mk (Kd.C_below HR1.out hb); have m2_ := Aside0.mk (Kd.C_below HR2.out hb); have mB_ := Aside0.mk (below_step HB.out hb); clear KW HR1 HR2 HB; have KW := mW_; have HR1 := m1_; have HR2 := m2_; have HB := mB_; clear mW_ m1_ m2_ mB_ hb) | (go_at_call 113; (with_reducible refine (impl_isShift.calls a3 a4 _ _ Q3.out).mono ?_); rintro e u3 ⟨rfl, hb_⟩; have hb := hb_.below; clear hb_; have mW_ := Aside0.mk (blk_below KW.out hb); have m1_ := Aside0.mk (Kd.C_below HR1.out hb); have m2_ := Aside0.mk (Kd.C_below HR2.out hb); have mB_ := Aside0.mk (below_step HB.out hb); clear KW HR1 HR2 HB; have KW := mW_; have HR1 := m1_; have HR2 := m2_; have HB := mB_; clear mW_ m1_ m2_ mB_ hb) | (go_at_call 95; (with_reducible refine (impl_inWord.contains k g A1 c1 l1 a0_0 a0_1 _ _ KW.out HR1.out HC1.out Q4.out).mono ?_); rintro e u4 ⟨rfl, hb⟩; have mW_ := Aside0.mk (blk_below KW.out hb); have m1_ := Aside0.mk (Kd.C_below HR1.out hb); have m2_ := Aside0.mk (Kd.C_below HR2.out hb); have mB_ := Aside0.mk (below_step HB.out hb); clear KW HR1 HR2 HB; have KW := mW_; have HR1 := m1_; have HR2 := m2_; have HB := mB_; clear mW_ m1_ m2_ mB_ hb) | (go_at_call 95; (with_reducible refine (impl_inWord.contains k g A2 c2 l2 a0_0 a0_1 _ _ KW.out HR2.out HC2.out Q5.out).mono ?_); rintro e u5 ⟨rfl, hb⟩; have mW_ := Aside0.mk (blk_below KW.out hb); have m1_ := Aside0.mk (Kd.C_below HR1.out hb); have m2_ := Aside0.mk (Kd.C_below HR2.out hb); have mB_ := Aside0.mk (below_step HB.out hb); clear KW HR1 HR2 HB; have KW := mW_; have HR1 := m1_; have HR2 := m2_; have HB := mB_; clear mW_ m1_ m2_ mB_ hb))
            go_ret
            exact ⟨rfl, HB.out⟩
          · replace h := (if_neg c1_).symm.trans h
            have d1_ := decide_eq_false c1_
            clear c1_
            obtain ⟨r2, q5_, h⟩ := Option.bind_eq_some_iff.mp h
            have Q5 := Aside0.mk q5_
            clear q5_
            obtain rfl := Option.some.inj h
            clear h
            go_enter Try.func85, Try.ntmps85
            go_wp2_with (first | ((with_reducible refine gate_dst (N := 5) rfl ?_); refine box_event ?hg (N := 5) ?hd (cs := #[.int .i64 a0_0, .bool a0_1]) (t := 28) ?hr ?_; (case hd => rfl); (case hg => rfl); (case hr => first | (go_simp; done) | (go_simp; rfl)); intro g hg vb hbox hb; have KW0 := Aside0.mk hbox; have m1_ := Aside0.mk (Kd.C_below HR1.out hb); have m2_ := Aside0.mk (Kd.C_below HR2.out hb); have mB_ := Aside0.mk (below_step HB.out hb); clear HR1 HR2 HB; have KW := KW0; have HR1 := m1_; have HR2 := m2_; have HB := mB_; clear KW0 m1_ m2_ mB_ hb hbox hg; have y0 : vb.cell? ⟨g, 0, none⟩ = some (.int .i64 a0_0) := (blk_cell KW.out 0).trans rfl; have y1 : vb.cell? ⟨g, 1, none⟩ = some (.bool a0_1) := (blk_cell KW.out 1).trans rfl) | (go_at_call 112; (with_reducible refine (impl_isWord.calls a0_0 a0_1 _ _ Q0.out).mono ?_); rintro e u0 ⟨rfl, hb⟩; have mW_ := Aside0.mk (blk_below KW.out hb); have m1_ := Aside0.mk (Kd.C_below HR1.out hb); have m2_ := Aside0.mk (Kd.C_below HR2.out hb); have mB_ := Aside0.mk (below_step HB.out hb); clear KW HR1 HR2 HB; have KW := mW_; have HR1 := m1_; have HR2 := m2_; have HB := mB_; clear mW_ m1_ m2_ mB_ hb; clear y0 y1) | (go_at_call 57; (with_reducible refine (impl_isWeights.calls k A1 c1 l1 _ _ HR1.out HC1.out Q1.out).mono ?_); rintro e u1 ⟨rfl, hb_⟩; have hb := hb_.below; clear hb_; have mW_ := Aside0.mk (blk_below KW.out hb); have m1_ := Aside0.mk (Kd.C_below HR1.out hb); have m2_ := Aside0.mk (Kd.C_below HR2.out hb); have mB_ := Aside0.mk (below_step HB.out hb); clear KW HR1 HR2 HB; have KW := mW_; have HR1 := m1_; have HR2 := m2_; have HB := mB_; clear mW_ m1_ m2_ mB_ hb) | (go_at_call 48; (with_reducible refine (impl_isSignal.calls k A2 c2 l2 _ _ HR2.out HC2.out Q2.out).mono ?_); rintro e u2 ⟨rfl, hb_⟩; have hb := hb_.below; clear hb_; have mW_ := Aside0.mk (blk_below KW.out hb); have m1_ := Aside0.mk (Kd.C_below HR1.out hb); have m2_ := Aside0.mk (Kd.C_below HR2.out hb); have mB_ := Aside0.mk (below_step HB.out hb); clear KW HR1 HR2 HB; have KW := mW_; have HR1 := m1_; have HR2 := m2_; have HB := mB_; clear mW_ m1_ m2_ mB_ hb) | (go_at_call 113; (with_reducible refine (impl_isShift.calls a3 a4 _ _ Q3.out).mono ?_); rintro e u3 ⟨rfl, hb_⟩; have hb := hb_.below; clear hb_; have mW_ := Aside0.mk (blk_below KW.out hb); have m1_ := Aside0.mk (Kd.C_below HR1.out hb); have m2_ := Aside0.mk (Kd.C_below HR2.out hb); have mB_ := Aside0.mk (below_step HB.out hb); clear KW HR1 HR2 HB; have KW := mW_; have HR1 := m1_; have HR2 := m2_; have HB := mB_; clear mW_ m1_ m2_ mB_ hb) | (go_at_call 95; (with_reducible refine (impl_inWord.contains k g A1 c1 l1 a0_0 a0_1 _ _ KW.out HR1.out HC1.out Q4.out).mono ?_); rintro e u4 ⟨rfl, hb⟩; have mW_ := Aside0.mk (blk_below KW.out hb); have m1_ := Aside0.mk (Kd.C_below HR1.out hb); have m2_ := Aside0.mk (Kd.C_below HR2.out hb); have mB_ := Aside0.mk (below_step HB.out hb); clear KW HR1 HR2 HB; have KW := mW_; have HR1 := m1_; have HR2 := m2_; have HB := mB_; clear mW_ m1_ m2_ mB_ hb) | (go_at_call 95; (with_reducible refine (impl_inWord.contains k g A2 c2 l2 a0_0 a0_1 _ _ KW.out HR2.out HC2.out Q5.out).mono ?_); rintro e u5 ⟨rfl, hb⟩; have mW_ := Aside0.mk (blk_below KW.out hb); have m1_ := Aside0.mk (Kd.C_below HR1.out hb); have m2_ := Aside0.mk (Kd.C_below HR2.out hb); have mB_ := Aside0.mk (below_step HB.out hb); clear KW HR1 HR2 HB; have KW := mW_; have HR1 := m1_; have HR2 := m2_; have HB := mB_; clear mW_ m1_ m2_ mB_ hb))
            go_ret
            exact ⟨rfl, HB.out⟩

/-! ### impl_mod: function 114 -/
def impl_mod.f (a0 : Int) (a1 : Int) : Option (Int) := if a1 = 0 then (none) else (some (Int.tmod (wrap64 ((Int.tmod a0 a1) + a1)) a1))
set_option maxHeartbeats 8000000 in
set_option maxRecDepth 100000 in
theorem impl_mod.calls (a0 : Int) (a1 : Int) (r : Int) (w : World) (h : impl_mod.f a0 a1 = some r) :
    Calls Try.prog 114 #[.int .i64 a0, .int .i64 a1] w fun e w' => e = .returned (.int .i64 r) ∧ Drawn0 w w' := by
  have H : (if a1 = 0 then (none) else (some (Int.tmod (wrap64 ((Int.tmod a0 a1) + a1)) a1))) = some r := h
  clear h
  by_cases c3 : a1 = 0
  · rw [if_pos c3] at H
    exact absurd H (by simp)
  · rw [if_neg c3] at H
    have c3b0 : (a1 == 0) = false := beq_eq_false_iff_ne.mpr c3
    have c3b1 : (a1 != 0) = true := bne_iff_ne.mpr c3
    obtain rfl := Option.some.inj H
    go_enter Try.func114, Try.ntmps114
    go_wp2
    go_ret
    exact ⟨by first | rfl | (simp; done) | (simp [*]; done), by repeat (first | exact Drawn0.refl _ | apply Drawn0.step)⟩

/-! ### impl_Word_fit: function 86 -/
def impl_Word_fit.f (a0_0 : Int) (a0_1 : Bool) (a1 : Int) : Option (Int) := (impl_Word_ends.f a0_0 a0_1).bind fun bt187 => (if a0_1 = true then ((impl_mod.f (wrap64 (a1 - bt187.1)) (wrap64 ((wrap64 (bt187.2 - bt187.1)) + 1))).bind fun t189 => (some (wrap64 (t189 + bt187.1)))) else (some (mn (mx a1 bt187.1) bt187.2)))
set_option maxHeartbeats 8000000 in
set_option maxRecDepth 100000 in
theorem impl_Word_fit.calls (a0_0 : Int) (a0_1 : Bool) (a1 : Int) (r : Int) (w : World) (h : impl_Word_fit.f a0_0 a0_1 a1 = some r) :
    Calls Try.prog 86 #[.agg #[.int .i64 a0_0, .bool a0_1], .int .i64 a1] w fun e w' => e = .returned (.int .i64 r) ∧ Below w.heap.size w w' := by
  have hu28 := Try.underlying28
  have HB := Aside0.mk (Below.refl w.heap.size w)
  have H : ((impl_Word_ends.f a0_0 a0_1).bind fun bt187 => (if a0_1 = true then ((impl_mod.f (wrap64 (a1 - bt187.1)) (wrap64 ((wrap64 (bt187.2 - bt187.1)) + 1))).bind fun t189 => (some (wrap64 (t189 + bt187.1)))) else (some (mn (mx a1 bt187.1) bt187.2)))) = some r := h
  clear h
  replace H := Option.bind_eq_some_iff.mp H
  obtain ⟨⟨t187, t188⟩, A30, H⟩ := H
  replace H : (if a0_1 = true then ((impl_mod.f (wrap64 (a1 - t187)) (wrap64 ((wrap64 (t188 - t187)) + 1))).bind fun t189 => (some (wrap64 (t189 + t187)))) else (some (mn (mx a1 t187) t188))) = some r := H
  have A3 := Aside0.mk A30
  clear A30
  by_cases c4 : a0_1 = true
  · subst c4
    have H1 : ((impl_mod.f (wrap64 (a1 - t187)) (wrap64 ((wrap64 (t188 - t187)) + 1))).bind fun t189 => (some (wrap64 (t189 + t187)))) = some r := by rw [if_pos rfl] at H; exact H
    clear H
    have H := H1
    clear H1
    replace H := Option.bind_eq_some_iff.mp H
    obtain ⟨t189, A50, H⟩ := H
    replace H : (some (wrap64 (t189 + t187))) = some r := H
    have A5 := Aside0.mk A50
    clear A50
    obtain rfl := Option.some.inj H
    go_enter Try.func86, Try.ntmps86
    go_wp2_with (first | ((with_reducible refine gate_dst (N := 2) rfl ?_); refine box_event ?hg (N := 2) ?hd (cs := #[.int .i64 a0_0, .bool true]) (t := 28) ?hr ?_; (case hd => rfl); (case hg => rfl); (case hr => first | (go_simp; done) | (go_simp; rfl)); intro gb186 hg w6 hbox hb; have n0_ := Aside0.mk (below_step (by repeat (first | (with_reducible first | exact HB.out | apply below_alloc | apply pw_below_drewN | apply below_drew1) | exact HB.out)) hb); have n1_ := Aside0.mk (hbox); have n2_ := Aside0.mk ((by rw [hg]; exact (below_size (by repeat (first | (with_reducible first | exact HB.out | apply below_alloc | apply pw_below_drewN | apply below_drew1) | exact HB.out))) : w.heap.size ≤ gb186)); have n3_ := Aside0.mk ((by rw [hg]; exact (below_size (by repeat (first | (with_reducible first | exact HB.out | apply below_alloc | apply pw_below_drewN | apply below_drew1) | exact HB.out))) : w.heap.size ≤ gb186)); clear HB; have HB := n0_; have BK186 := n1_; have GW186 := n2_; have GE186 := n3_; clear n0_ n1_ n2_ n3_; clear hb hbox hg; have hcz7_0 : w6.cell? ⟨gb186, 0, none⟩ = some (.int .i64 a0_0) := (blk_cell BK186.out 0).trans rfl; have hcz7_1 : w6.cell? ⟨gb186, 1, none⟩ = some (.bool true) := (blk_cell BK186.out 1).trans rfl; have hfz7_0 := blk_frozen BK186.out 0; have hfz7_1 := blk_frozen BK186.out 1) | ((with_reducible refine gate_callee (f := 104) rfl ?_); refine goesL_ (some 9) rfl rfl Try.func104 (by kernel_rfl) rfl #[.agg #[.int .i64 a0_0, .bool true]] rfl (by (try simp only [List.map_toArray, List.map_cons, List.map_nil]); first | done | rfl | (simp only [List.length_drop, List.length_take]; rfl)) ?_; (with_reducible refine (impl_Word_ends.calls a0_0 true t187 t188 _ A3.out).mono ?_); rintro e w8 ⟨rfl, hb⟩; refine ⟨_, rfl, ?_⟩; have n0_ := Aside0.mk (blk_below (g := gb186) (o := .cells #[.int .i64 a0_0, .bool true] 28 (0, 0)) (by (with_reducible repeat (first | refine blk_drewN ?_ _ | refine blk_drew ?_ | refine blk_alloc ?_ _)); exact BK186.out) hb); have n1_ := Aside0.mk (below_step (by repeat (first | (with_reducible first | exact HB.out | apply below_alloc | apply pw_below_drewN | apply below_drew1 | refine below_set ?_ GE186.out) | exact HB.out)) hb); clear BK186; clear HB; have BK186 := n0_; have HB := n1_; clear n0_ n1_; (try clear hb); (try clear hb2); (try clear hk); (try clear hi); have hcz9_0 : w8.cell? ⟨gb186, 0, none⟩ = some (.int .i64 a0_0) := (blk_cell BK186.out 0).trans rfl; have hcz9_1 : w8.cell? ⟨gb186, 1, none⟩ = some (.bool true) := (blk_cell BK186.out 1).trans rfl; have hfz9_0 := blk_frozen BK186.out 0; have hfz9_1 := blk_frozen BK186.out 1) | ((with_reducible refine gate_callee (f := 114) rfl ?_); refine goesL_ (some 21) rfl rfl Try.func114 (by kernel_rfl) rfl #[.int .i64 (wrap64 (a1 - t187)), .int .i64 (wrap64 ((wrap64 (t188 - t187)) + 1))] rfl (by (try simp only [List.map_toArray, List.map_cons, List.map_nil]); first | done | rfl | (simp only [List.length_drop, List.length_take]; rfl)) ?_; (with_reducible refine (impl_mod.calls (wrap64 (a1 - t187)) (wrap64 ((wrap64 (t188 - t187)) + 1)) t189 _ A5.out).mono ?_); rintro e w' ⟨rfl, ⟨nd, rfl⟩⟩; refine ⟨_, rfl, ?_⟩))
    go_ret
    exact ⟨by first | rfl | (simp [errW_none, errW_some] <;> rfl) | (simp [*, errW_none, errW_some] <;> rfl), by repeat (first | (with_reducible first | exact HB.out | apply below_alloc | apply pw_below_drewN | apply below_drew1 | refine below_set ?_ GE186.out) | exact HB.out)⟩
  · replace c4 := Bool.eq_false_iff.mpr c4
    subst c4
    have H1 : (some (mn (mx a1 t187) t188)) = some r := by rw [if_neg (show ¬ (false = true) by decide)] at H; exact H
    clear H
    have H := H1
    clear H1
    obtain ⟨ji10, hji10⟩ : ∃ j_ : Int, (mx a1 t187) = j_ := ⟨_, rfl⟩
    replace H : (some (mn (ji10) t188)) = some r := by first | (rw [hji10] at H; exact H) | (simp only [hji10] at H ⊢; exact H)
    (try rw [hji10] at A3)
    have hji10_ : (if a1 < t187 then t187 else a1) = ji10 := hji10
    obtain ⟨ji11, hji11⟩ : ∃ j_ : Int, (mn (ji10) t188) = j_ := ⟨_, rfl⟩
    replace H : (some ji11) = some r := by first | (rw [hji11] at H; exact H) | (simp only [hji11] at H ⊢; exact H)
    (try rw [hji11] at A3)
    have hji11_ : (if t188 < (ji10) then t188 else (ji10)) = ji11 := hji11
    obtain rfl := Option.some.inj H
    go_enter Try.func86, Try.ntmps86
    go_wp2_with (first | ((with_reducible refine gate_dst (N := 2) rfl ?_); refine box_event ?hg (N := 2) ?hd (cs := #[.int .i64 a0_0, .bool false]) (t := 28) ?hr ?_; (case hd => rfl); (case hg => rfl); (case hr => first | (go_simp; done) | (go_simp; rfl)); intro gb186 hg w12 hbox hb; have n0_ := Aside0.mk (below_step (by repeat (first | (with_reducible first | exact HB.out | apply below_alloc | apply pw_below_drewN | apply below_drew1) | exact HB.out)) hb); have n1_ := Aside0.mk (hbox); have n2_ := Aside0.mk ((by rw [hg]; exact (below_size (by repeat (first | (with_reducible first | exact HB.out | apply below_alloc | apply pw_below_drewN | apply below_drew1) | exact HB.out))) : w.heap.size ≤ gb186)); have n3_ := Aside0.mk ((by rw [hg]; exact (below_size (by repeat (first | (with_reducible first | exact HB.out | apply below_alloc | apply pw_below_drewN | apply below_drew1) | exact HB.out))) : w.heap.size ≤ gb186)); clear HB; have HB := n0_; have BK186 := n1_; have GW186 := n2_; have GE186 := n3_; clear n0_ n1_ n2_ n3_; clear hb hbox hg; have hcz13_0 : w12.cell? ⟨gb186, 0, none⟩ = some (.int .i64 a0_0) := (blk_cell BK186.out 0).trans rfl; have hcz13_1 : w12.cell? ⟨gb186, 1, none⟩ = some (.bool false) := (blk_cell BK186.out 1).trans rfl; have hfz13_0 := blk_frozen BK186.out 0; have hfz13_1 := blk_frozen BK186.out 1) | ((with_reducible refine gate_callee (f := 104) rfl ?_); refine goesL_ (some 9) rfl rfl Try.func104 (by kernel_rfl) rfl #[.agg #[.int .i64 a0_0, .bool false]] rfl (by (try simp only [List.map_toArray, List.map_cons, List.map_nil]); first | done | rfl | (simp only [List.length_drop, List.length_take]; rfl)) ?_; (with_reducible refine (impl_Word_ends.calls a0_0 false t187 t188 _ A3.out).mono ?_); rintro e w14 ⟨rfl, hb⟩; refine ⟨_, rfl, ?_⟩; have n0_ := Aside0.mk (blk_below (g := gb186) (o := .cells #[.int .i64 a0_0, .bool false] 28 (0, 0)) (by (with_reducible repeat (first | refine blk_drewN ?_ _ | refine blk_drew ?_ | refine blk_alloc ?_ _)); exact BK186.out) hb); have n1_ := Aside0.mk (below_step (by repeat (first | (with_reducible first | exact HB.out | apply below_alloc | apply pw_below_drewN | apply below_drew1 | refine below_set ?_ GE186.out) | exact HB.out)) hb); clear BK186; clear HB; have BK186 := n0_; have HB := n1_; clear n0_ n1_; (try clear hb); (try clear hb2); (try clear hk); (try clear hi); have hcz15_0 : w14.cell? ⟨gb186, 0, none⟩ = some (.int .i64 a0_0) := (blk_cell BK186.out 0).trans rfl; have hcz15_1 : w14.cell? ⟨gb186, 1, none⟩ = some (.bool false) := (blk_cell BK186.out 1).trans rfl; have hfz15_0 := blk_frozen BK186.out 0; have hfz15_1 := blk_frozen BK186.out 1))
    go_ret
    exact ⟨by first | rfl | (simp [errW_none, errW_some] <;> rfl) | (simp only [← hji10, ← hji11]; first | rfl | (simp [errW_none, errW_some] <;> rfl)) | (simp [*, errW_none, errW_some] <;> rfl), by repeat (first | (with_reducible first | exact HB.out | apply below_alloc | apply pw_below_drewN | apply below_drew1 | refine below_set ?_ GE186.out) | exact HB.out)⟩

/-! ### impl_shifted: function 87 -/
def impl_shifted.j0 : Nat → Int → Int → Int → Bool → Option (Int)
  | 0, _, _, _, _ => none
  | k + 1, x0, x1, x2, x7 => if x7 = true then (if 0 ≤ (wrap64 (x1 - 1)) then (if 0 ≤ x1 then (some (shr .i64 (wrap64 (x0 + (shl .i64 1 (wrap64 (x1 - 1))))) x1)) else (none)) else (none)) else (if x2 = 2 then (if x0 < 0 then (if 0 ≤ x1 then (some (wrap64 (-(shr .i64 (wrap64 (-x0)) x1)))) else (none)) else (if 0 ≤ x1 then (some (shr .i64 x0 x1)) else (none))) else (if 0 ≤ x1 then (some (shr .i64 x0 x1)) else (none)))
def impl_shifted.f (k : Nat) (a0 : Int) (a1 : Int) (a2 : Int) : Option (Int) := if a2 = 1 then (impl_shifted.j0 k a0 a1 a2 (decide (a1 > 0))) else (impl_shifted.j0 k a0 a1 a2 false)
theorem impl_shifted.mono_l : ∀ k, (∀ y0 y1 y2 y3, LeO (impl_shifted.j0 k y0 y1 y2 y3) (impl_shifted.j0 (k + 1) y0 y1 y2 y3))
  | 0 => fun _ _ _ _ r h => by simp [impl_shifted.j0] at h
  | k + 1 => by
    have ih0 := impl_shifted.mono_l k
    · intro y0 y1 y2 y3
      unfold impl_shifted.j0
      repeat' first
      | (with_reducible exact ih0 _ _ _ _)
      | (with_reducible exact LeO.refl _)
      | (with_reducible exact LeO.none _)
      | (with_reducible refine LeO.ite ?_ ?_)
      | (with_reducible refine LeO.bind ?_ (fun _ => ?_))
      | exact ih0 _ _ _ _
      | exact LeO.none _
      | refine LeO.ite ?_ ?_
      | refine LeO.bind ?_ (fun _ => ?_)
theorem impl_shifted.mono : ∀ a0 a1 a2 k, LeO (impl_shifted.f k a0 a1 a2) (impl_shifted.f (k + 1) a0 a1 a2) := by
  intro a0 a1 a2 k
  have ih0 := impl_shifted.mono_l k
  unfold impl_shifted.f
  repeat' first
      | (with_reducible exact ih0 _ _ _ _)
      | (with_reducible exact LeO.refl _)
      | (with_reducible exact LeO.none _)
      | (with_reducible refine LeO.ite ?_ ?_)
      | (with_reducible refine LeO.bind ?_ (fun _ => ?_))
      | exact ih0 _ _ _ _
      | exact LeO.none _
      | refine LeO.ite ?_ ?_
      | refine LeO.bind ?_ (fun _ => ?_)
set_option maxHeartbeats 8000000 in
set_option maxRecDepth 100000 in
theorem impl_shifted.calls (k : Nat) (a0 : Int) (a1 : Int) (a2 : Int) (r : Int) (w : World) (h : impl_shifted.f k a0 a1 a2 = some r) :
    Calls Try.prog 87 #[.int .i64 a0, .int .i64 a1, .int .i64 a2] w fun e w' => e = .returned (.int .i64 r) ∧ Drawn0 w w' := by
  have H : (if a2 = 1 then (impl_shifted.j0 k a0 a1 a2 (decide (a1 > 0))) else (impl_shifted.j0 k a0 a1 a2 false)) = some r := h
  clear h
  have HC4 := Aside0.mk H
  clear H
  go_enter Try.func87, Try.ntmps87
  go_upto_region 1 with (fail)
  go_cut [7] (fun v7 wc => ∃ (kq : Nat) (x7_3 : Bool), v7 = .bool x7_3 ∧ Aside0 (impl_shifted.j0 kq a0 a1 a2 x7_3 = some r) ∧ Aside0 (kq ≤ k) ∧ Drawn0 w wc)
  case first =>
    have H := HC4.out
    clear HC4
    by_cases c5 : a2 = 1
    · rw [if_pos c5] at H
      have c5b0 : (a2 == 1) = true := beq_iff_eq.mpr c5
      have c5b1 : (a2 != 1) = false := bne_eq_false_iff_eq.mpr c5
      clear c5
      (first | rw [c5b0] | (simp only [i64_w, i32_w]; rw [c5b0]) | skip)
      have H' := Aside0.mk H
      clear H
      go_wp2
      go_meet
      case rel => exact ⟨_, (decide (a1 > 0)), (by first | rfl | (simp; done) | (simp [*]; done)), H', ⟨by first | omega | exact Nat.le_refl _⟩, by repeat (first | exact Drawn0.refl _ | apply Drawn0.step)⟩
    · rw [if_neg c5] at H
      have c5b0 : (a2 == 1) = false := beq_eq_false_iff_ne.mpr c5
      have c5b1 : (a2 != 1) = true := bne_iff_ne.mpr c5
      (first | rw [c5b0] | (simp only [i64_w, i32_w]; rw [c5b0]) | skip)
      have H' := Aside0.mk H
      clear H
      go_wp2
      go_meet
      case rel => exact ⟨_, (false), (by first | rfl | (simp; done) | (simp [*]; done)), H', ⟨by first | omega | exact Nat.le_refl _⟩, by repeat (first | exact Drawn0.refl _ | apply Drawn0.step)⟩
  case rest =>
    clear HC4
    try clear p2
    try clear c5
    try clear c5b0
    try clear c5b1
    obtain ⟨kq, x7_3, rfl, HA, HJ3, ⟨mc3, rfl⟩⟩ := hcut
    cases kq with
    | zero => exact absurd HA.out (by simp [impl_shifted.j0])
    | succ kj3 =>
      have H := HA.out
      clear HA
      simp only [impl_shifted.j0] at H
      by_cases c6 : x7_3 = true
      · subst c6
        have H1 : (if 0 ≤ (wrap64 (a1 - 1)) then (if 0 ≤ a1 then (some (shr .i64 (wrap64 (a0 + (shl .i64 1 (wrap64 (a1 - 1))))) a1)) else (none)) else (none)) = some r := by rw [if_pos rfl] at H; exact H
        clear H
        have H := H1
        clear H1
        obtain ⟨ji7, hji7⟩ : ∃ j_ : Int, (wrap64 (a1 - 1)) = j_ := ⟨_, rfl⟩
        replace H : (if 0 ≤ (ji7) then (if 0 ≤ a1 then (some (shr .i64 (wrap64 (a0 + (shl .i64 1 (ji7)))) a1)) else (none)) else (none)) = some r := by first | (rw [hji7] at H; exact H) | (simp only [hji7] at H ⊢; exact H)
        have hji7w : (IntKind.i64.wrap (a1 - 1)) = ji7 := (i64_w _).trans hji7
        by_cases c8 : 0 ≤ (ji7)
        · rw [if_pos c8] at H
          have c8b0 := eq_true c8
          have c8b1 : decide (0 ≤ (ji7)) = true := decide_eq_true c8
          clear c8
          obtain ⟨ji9, hji9⟩ : ∃ j_ : Int, (shl .i64 1 (ji7)) = j_ := ⟨_, rfl⟩
          replace H : (if 0 ≤ a1 then (some (shr .i64 (wrap64 (a0 + (ji9))) a1)) else (none)) = some r := by first | (rw [hji9] at H; exact H) | (simp only [hji9] at H ⊢; exact H)
          have hji9_ : (IntKind.i64.wrap (1 * 2 ^ min (ji7).toNat 64)) = ji9 := hji9
          have hji9z : (ji7) ≤ 64 → (IntKind.i64.wrap (1 * 2 ^ (ji7).toNat)) = ji9 := shl_small hji9
          have hji9u : (IntKind.i64.wrap (2 ^ min (ji7).toNat 64)) = ji9 := by have h_ := hji9_; rw [Int.one_mul] at h_; exact h_
          have hji9v : (ji7) ≤ 64 → (IntKind.i64.wrap (2 ^ (ji7).toNat)) = ji9 := fun hle_ => by have h_ := hji9z hle_; rw [Int.one_mul] at h_; exact h_
          have hji9y : (wrap64 (1 * 2 ^ min (ji7).toNat 64)) = ji9 := (i64_w _).symm.trans hji9_
          have hji9x : (ji7) ≤ 64 → (wrap64 (1 * 2 ^ (ji7).toNat)) = ji9 := fun h_ => (i64_w _).symm.trans (hji9z h_)
          by_cases c10 : 0 ≤ a1
          · rw [if_pos c10] at H
            have c10b0 := eq_true c10
            have c10b1 : decide (0 ≤ a1) = true := decide_eq_true c10
            clear c10
            obtain ⟨ji11, hji11⟩ : ∃ j_ : Int, (shr .i64 (wrap64 (a0 + (ji9))) a1) = j_ := ⟨_, rfl⟩
            replace H : (some ji11) = some r := by first | (rw [hji11] at H; exact H) | (simp only [hji11] at H ⊢; exact H)
            have hji11_ : ((wrap64 (a0 + (ji9))) / 2 ^ min a1.toNat 64) = ji11 := hji11
            have hji11z : a1 ≤ 64 → ((wrap64 (a0 + (ji9))) / 2 ^ a1.toNat) = ji11 := shr_small hji11
            obtain rfl := Option.some.inj H
            go_wp2
            go_ret
            exact ⟨by first | rfl | (simp; done) | (simp only [← hji7, ← hji9, ← hji11] <;> (first | rfl | simp)) | (simp [*]; done), by repeat (first | exact Drawn0.refl _ | apply Drawn0.step)⟩
          · rw [if_neg c10] at H
            exact absurd H (by simp)
        · rw [if_neg c8] at H
          exact absurd H (by simp)
      · replace c6 := Bool.eq_false_iff.mpr c6
        subst c6
        have H1 : (if a2 = 2 then (if a0 < 0 then (if 0 ≤ a1 then (some (wrap64 (-(shr .i64 (wrap64 (-a0)) a1)))) else (none)) else (if 0 ≤ a1 then (some (shr .i64 a0 a1)) else (none))) else (if 0 ≤ a1 then (some (shr .i64 a0 a1)) else (none))) = some r := by rw [if_neg (show ¬ (false = true) by decide)] at H; exact H
        clear H
        have H := H1
        clear H1
        by_cases c12 : a2 = 2
        · rw [if_pos c12] at H
          have c12b0 : (a2 == 2) = true := beq_iff_eq.mpr c12
          have c12b1 : (a2 != 2) = false := bne_eq_false_iff_eq.mpr c12
          clear c12
          by_cases c13 : a0 < 0
          · rw [if_pos c13] at H
            have c13b0 : decide (a0 < 0) = true := decide_eq_true c13
            clear c13
            by_cases c14 : 0 ≤ a1
            · rw [if_pos c14] at H
              have c14b0 := eq_true c14
              have c14b1 : decide (0 ≤ a1) = true := decide_eq_true c14
              clear c14
              obtain ⟨ji15, hji15⟩ : ∃ j_ : Int, (shr .i64 (wrap64 (-a0)) a1) = j_ := ⟨_, rfl⟩
              replace H : (some (wrap64 (-(ji15)))) = some r := by first | (rw [hji15] at H; exact H) | (simp only [hji15] at H ⊢; exact H)
              have hji15_ : ((wrap64 (-a0)) / 2 ^ min a1.toNat 64) = ji15 := hji15
              have hji15z : a1 ≤ 64 → ((wrap64 (-a0)) / 2 ^ a1.toNat) = ji15 := shr_small hji15
              obtain rfl := Option.some.inj H
              go_wp2
              go_ret
              exact ⟨by first | rfl | (simp; done) | (simp only [← hji15] <;> (first | rfl | simp)) | (simp [*]; done), by repeat (first | exact Drawn0.refl _ | apply Drawn0.step)⟩
            · rw [if_neg c14] at H
              exact absurd H (by simp)
          · rw [if_neg c13] at H
            have c13b0 : decide (a0 < 0) = false := decide_eq_false c13
            clear c13
            by_cases c16 : 0 ≤ a1
            · rw [if_pos c16] at H
              have c16b0 := eq_true c16
              have c16b1 : decide (0 ≤ a1) = true := decide_eq_true c16
              clear c16
              obtain ⟨ji17, hji17⟩ : ∃ j_ : Int, (shr .i64 a0 a1) = j_ := ⟨_, rfl⟩
              replace H : (some ji17) = some r := by first | (rw [hji17] at H; exact H) | (simp only [hji17] at H ⊢; exact H)
              have hji17_ : (a0 / 2 ^ min a1.toNat 64) = ji17 := hji17
              have hji17z : a1 ≤ 64 → (a0 / 2 ^ a1.toNat) = ji17 := shr_small hji17
              obtain rfl := Option.some.inj H
              go_wp2
              go_ret
              exact ⟨by first | rfl | (simp; done) | (simp only [← hji17] <;> (first | rfl | simp)) | (simp [*]; done), by repeat (first | exact Drawn0.refl _ | apply Drawn0.step)⟩
            · rw [if_neg c16] at H
              exact absurd H (by simp)
        · rw [if_neg c12] at H
          have c12b0 : (a2 == 2) = false := beq_eq_false_iff_ne.mpr c12
          have c12b1 : (a2 != 2) = true := bne_iff_ne.mpr c12
          by_cases c18 : 0 ≤ a1
          · rw [if_pos c18] at H
            have c18b0 := eq_true c18
            have c18b1 : decide (0 ≤ a1) = true := decide_eq_true c18
            clear c18
            obtain ⟨ji19, hji19⟩ : ∃ j_ : Int, (shr .i64 a0 a1) = j_ := ⟨_, rfl⟩
            replace H : (some ji19) = some r := by first | (rw [hji19] at H; exact H) | (simp only [hji19] at H ⊢; exact H)
            have hji19_ : (a0 / 2 ^ min a1.toNat 64) = ji19 := hji19
            have hji19z : a1 ≤ 64 → (a0 / 2 ^ a1.toNat) = ji19 := shr_small hji19
            obtain rfl := Option.some.inj H
            go_wp2
            go_ret
            exact ⟨by first | rfl | (simp; done) | (simp only [← hji19] <;> (first | rfl | simp)) | (simp [*]; done), by repeat (first | exact Drawn0.refl _ | apply Drawn0.step)⟩
          · rw [if_neg c18] at H
            exact absurd H (by simp)

/-! ### impl_told: function 88 -/
def impl_told.f (k : Nat) (l0 : List Int) : Option (List Int × Bool) := (impl_isSignal.f k l0).bind fun t190 => (if t190 = true then (some (l0, true)) else (some (([] : List Int), false)))
theorem impl_told.mono : ∀ a0 k, LeO (impl_told.f k a0) (impl_told.f (k + 1) a0) := by
  intro a0 k
  unfold impl_told.f
  repeat' first
      | (with_reducible exact impl_isSignal.mono _ _)
      | (with_reducible exact LeO.refl _)
      | (with_reducible exact LeO.none _)
      | (with_reducible refine LeO.ite ?_ ?_)
      | (with_reducible refine LeO.bind ?_ (fun _ => ?_))
      | exact impl_isSignal.mono _ _
      | exact LeO.none _
      | refine LeO.ite ?_ ?_
      | refine LeO.bind ?_ (fun _ => ?_)
set_option maxHeartbeats 8000000 in
set_option maxRecDepth 100000 in
theorem impl_told.calls (k : Nat) (P0_ : Nat → Prop) (u9000_ : Value) (l0 : List Int) (r1 : List Int) (r2 : Bool) (w0 w : World) (hB : Below w0.heap.size w0 w) (ho0 : Kd.R (Kd.int .i64) 3 w w0.heap.size P0_ u9000_ l0) (h : impl_told.f k l0 = some (r1, r2)) :
    Calls Try.prog 88 #[u9000_] w fun e w' => ∃ v0_ : Value, e = .returned (.tuple #[v0_, .bool r2]) ∧ Kd.R (Kd.int .i64) 3 w' w0.heap.size (fun k_ => (P0_ k_ ∨ w.heap.size ≤ k_)) v0_ r1 ∧ Below w0.heap.size w0 w' ∧ Kept w w' (fun k_ => P0_ k_) := by
  have HO0 := Aside0.mk (show Kd.R (Kd.int .i64) 3 w w0.heap.size (fun k_ => (P0_ k_ ∨ w.heap.size ≤ k_)) u9000_ l0 from Kd.R_mono ho0 (fun k_ hk => (.inl hk)))
  have HK := Aside0.mk (Kept.refl w (fun k_ => P0_ k_))
  have HW0 := Aside0.mk hB.size
  have HB := Aside0.mk hB
  clear hB
  have H : ((impl_isSignal.f k l0).bind fun t190 => (if t190 = true then (some (l0, true)) else (some (([] : List Int), false)))) = some (r1, r2) := h
  clear h
  replace H := Option.bind_eq_some_iff.mp H
  obtain ⟨t190, A20, H⟩ := H
  replace H : (if t190 = true then (some (l0, true)) else (some (([] : List Int), false))) = some (r1, r2) := H
  have A2 := Aside0.mk A20
  clear A20
  by_cases c3 : t190 = true
  · subst c3
    have H1 : (some (l0, true)) = some (r1, r2) := by rw [if_pos rfl] at H; exact H
    clear H
    have H := H1
    clear H1
    simp only [Option.some.injEq, Prod.mk.injEq] at H
    obtain ⟨rfl, rfl⟩ := H
    obtain ⟨Ao4, co4, eo4⟩ := Kd.R_slice HO0.out
    subst eo4
    go_enter Try.func88, Try.ntmps88
    go_wp2_with (first | ((with_reducible refine gate_callee (f := 48) rfl ?_); refine goesL_ (some 5) rfl rfl Try.func48 (by kernel_rfl) rfl #[.slice Ao4 l0.length co4] rfl (by (try simp only [List.map_toArray, List.map_cons, List.map_nil]); first | done | rfl | (simp only [List.length_drop, List.length_take]; rfl)) ?_; (with_reducible refine (impl_isSignal.calls k _ _ l0 true _ ?side1 ?side2 A2.out).mono ?_); (case side1 => repeat (first | exact (Kd.R_reads' HO0.out).2.2 | (with_reducible refine Kd.C_alloc ?_ _) | (with_reducible refine Kd.C_drewN ?_ _) | (with_reducible refine Kd.C_drew ?_))); (case side2 => exact (Kd.R_reads' HO0.out).2.1); rintro e w' ⟨rfl, ⟨nd, rfl⟩⟩; refine ⟨_, rfl, ?_⟩))
    go_ret2
    exact ⟨_, by first | rfl | (simp [errW_none, errW_some] <;> rfl) | (simp [*, errW_none, errW_some] <;> rfl), by (with_reducible repeat (first | apply Kd.R_alloc | apply Kd.R_drewN | apply Kd.R_drew)); exact HO0.out, by repeat (first | (with_reducible first | exact HB.out | apply below_alloc | apply pw_below_drewN | apply below_drew1) | exact HB.out), by repeat (first | (with_reducible first | exact HK.out | apply Kept.alloc | apply Kept.drewN | apply Kept.drew) | exact HK.out)⟩
  · replace c3 := Bool.eq_false_iff.mpr c3
    subst c3
    have H1 : (some (([] : List Int), false)) = some (r1, r2) := by rw [if_neg (show ¬ (false = true) by decide)] at H; exact H
    clear H
    have H := H1
    clear H1
    simp only [Option.some.injEq, Prod.mk.injEq] at H
    obtain ⟨rfl, rfl⟩ := H
    obtain ⟨Ao5, co5, eo5⟩ := Kd.R_slice HO0.out
    subst eo5
    go_enter Try.func88, Try.ntmps88
    go_wp2_with (first | ((with_reducible refine gate_callee (f := 48) rfl ?_); refine goesL_ (some 5) rfl rfl Try.func48 (by kernel_rfl) rfl #[.slice Ao5 l0.length co5] rfl (by (try simp only [List.map_toArray, List.map_cons, List.map_nil]); first | done | rfl | (simp only [List.length_drop, List.length_take]; rfl)) ?_; (with_reducible refine (impl_isSignal.calls k _ _ l0 false _ ?side1 ?side2 A2.out).mono ?_); (case side1 => repeat (first | exact (Kd.R_reads' HO0.out).2.2 | (with_reducible refine Kd.C_alloc ?_ _) | (with_reducible refine Kd.C_drewN ?_ _) | (with_reducible refine Kd.C_drew ?_))); (case side2 => exact (Kd.R_reads' HO0.out).2.1); rintro e w' ⟨rfl, ⟨nd, rfl⟩⟩; refine ⟨_, rfl, ?_⟩))
    go_ret2
    exact ⟨_, by first | rfl | (simp [errW_none, errW_some] <;> rfl) | (simp [*, errW_none, errW_some] <;> rfl), by first | exact Kd.R_nil _ _ _ _ _ | exact Kd.N_nil _ _ _ _ _ | exact Kd.V_nil _ _ _ _ _ | exact Kd.Q_nil _ _ _ _ _ | exact Kd.S_nil _ _ _ _ _, by repeat (first | (with_reducible first | exact HB.out | apply below_alloc | apply pw_below_drewN | apply below_drew1) | exact HB.out), by repeat (first | (with_reducible first | exact HK.out | apply Kept.alloc | apply Kept.drewN | apply Kept.drew) | exact HK.out)⟩

/-! ### impl_FilterAtEnd: function 39 -/
def impl_FilterAtEnd.l0 : Nat → Int → Int → List Int → Int → Int → Int → Bool → Option (List Int × Bool)
  | 0, _, _, _, _, _, _, _ => none
  | k + 1, x3, x4, x12, x29, x30, x192000, x192001 => if x30 < x29 then (if 0 ≤ x30 then (if x30 < (x12.length : Int) then ((impl_shifted.f k (rd x12 x30) x3 x4).bind fun t200 => ((impl_Word_fit.f x192000 x192001 t200).bind fun t201 => (impl_FilterAtEnd.l0 k x3 x4 (x12.set (x30 : Int).toNat t201) x29 (wrap64 (x30 + 1)) x192000 x192001))) else (none)) else (none)) else ((impl_told.f k x12).bind fun bt203 => (some (bt203.1, bt203.2)))
def impl_FilterAtEnd.f (k : Nat) (a0_0 : Int) (a0_1 : Bool) (l1 : List Int) (l2 : List Int) (a3 : Int) (a4 : Int) : Option (List Int × Bool) := (impl_inWord.f k a0_0 a0_1 l1 l2 a3 a4).bind fun t192 => (if t192 = true then ((impl_answer.f k l1 l2).bind fun t193 => (if 0 ≤ (l2.length : Int) then (if (l2.length : Int) ≤ (t193.length : Int) then ((some (t193.take ((l2.length : Int) : Int).toNat : List Int)).bind fun y196 => (impl_FilterAtEnd.l0 k a3 a4 y196 (y196.length : Int) 0 a0_0 a0_1)) else (none)) else (none))) else (some (([] : List Int), false)))
theorem impl_FilterAtEnd.mono_l : ∀ k, (∀ y0 y1 y2 y3 y4 y5 y6, LeO (impl_FilterAtEnd.l0 k y0 y1 y2 y3 y4 y5 y6) (impl_FilterAtEnd.l0 (k + 1) y0 y1 y2 y3 y4 y5 y6))
  | 0 => fun _ _ _ _ _ _ _ r h => by simp [impl_FilterAtEnd.l0] at h
  | k + 1 => by
    have ih0 := impl_FilterAtEnd.mono_l k
    · intro y0 y1 y2 y3 y4 y5 y6
      unfold impl_FilterAtEnd.l0
      repeat' first
      | (with_reducible exact ih0 _ _ _ _ _ _ _)
      | (with_reducible exact impl_answer.mono _ _ _)
      | (with_reducible exact impl_inWord.mono _ _ _ _ _ _ _)
      | (with_reducible exact impl_shifted.mono _ _ _ _)
      | (with_reducible exact impl_told.mono _ _)
      | (with_reducible exact LeO.refl _)
      | (with_reducible exact LeO.none _)
      | (with_reducible refine LeO.ite ?_ ?_)
      | (with_reducible refine LeO.bind ?_ (fun _ => ?_))
      | exact ih0 _ _ _ _ _ _ _
      | exact impl_answer.mono _ _ _
      | exact impl_inWord.mono _ _ _ _ _ _ _
      | exact impl_shifted.mono _ _ _ _
      | exact impl_told.mono _ _
      | exact LeO.none _
      | refine LeO.ite ?_ ?_
      | refine LeO.bind ?_ (fun _ => ?_)
theorem impl_FilterAtEnd.mono : ∀ a0 a1 a2 a3 a4 a5 k, LeO (impl_FilterAtEnd.f k a0 a1 a2 a3 a4 a5) (impl_FilterAtEnd.f (k + 1) a0 a1 a2 a3 a4 a5) := by
  intro a0 a1 a2 a3 a4 a5 k
  have ih0 := impl_FilterAtEnd.mono_l k
  unfold impl_FilterAtEnd.f
  repeat' first
      | (with_reducible exact ih0 _ _ _ _ _ _ _)
      | (with_reducible exact impl_answer.mono _ _ _)
      | (with_reducible exact impl_inWord.mono _ _ _ _ _ _ _)
      | (with_reducible exact impl_shifted.mono _ _ _ _)
      | (with_reducible exact impl_told.mono _ _)
      | (with_reducible exact LeO.refl _)
      | (with_reducible exact LeO.none _)
      | (with_reducible refine LeO.ite ?_ ?_)
      | (with_reducible refine LeO.bind ?_ (fun _ => ?_))
      | exact ih0 _ _ _ _ _ _ _
      | exact impl_answer.mono _ _ _
      | exact impl_inWord.mono _ _ _ _ _ _ _
      | exact impl_shifted.mono _ _ _ _
      | exact impl_told.mono _ _
      | exact LeO.none _
      | refine LeO.ite ?_ ?_
      | refine LeO.bind ?_ (fun _ => ?_)
def impl_FilterAtEnd.T7 : Bool × List (List Nat × List Nat) := (true, [([], []), ([], []), ([], []), ([], []), ([], []), ([], []), ([3, 4, 5], [3, 4, 5]), ([2, 6, 6], [2, 6]), ([0, 1, 0, 1, 2, 3, 4, 5, 6, 7], [0, 1]), ([8, 7, 7, 0, 1, 2, 3, 4, 5, 6, 7], [7, 8])])
def impl_FilterAtEnd.B7 : List Nat := [0, 0, 0, 0, 0, 0, 56, 124, 255, 511]
theorem impl_FilterAtEnd.tab7 : rtab .any (opsOf Try.f39 7) = impl_FilterAtEnd.T7 := by kernel_rfl
theorem impl_FilterAtEnd.bits7 : waitsOk impl_FilterAtEnd.T7.2 impl_FilterAtEnd.B7 = true := by kernel_rfl
set_option maxHeartbeats 8000000 in
set_option maxRecDepth 100000 in
theorem impl_FilterAtEnd.calls (k : Nat) (a0_0 : Int) (a0_1 : Bool) (A1 : Option Addr) (c1 : Nat) (l1 : List Int) (A2 : Option Addr) (c2 : Nat) (l2 : List Int) (a3 : Int) (a4 : Int) (r1 : List Int) (r2 : Bool) (w : World) (hr1 : Kd.C (Kd.int .i64) w A1 l1.length l1) (hc1 : l1.length ≤ c1) (hr2 : Kd.C (Kd.int .i64) w A2 l2.length l2) (hc2 : l2.length ≤ c2) (h : impl_FilterAtEnd.f k a0_0 a0_1 l1 l2 a3 a4 = some (r1, r2)) :
    Calls Try.prog 39 #[.agg #[.int .i64 a0_0, .bool a0_1], .slice A1 l1.length c1, .slice A2 l2.length c2, .int .i64 a3, .int .i64 a4] w fun e w' => ∃ v0_ : Value, e = .returned (.tuple #[v0_, .bool r2]) ∧ Kd.R (Kd.int .i64) 3 w' w.heap.size (fun _ => True) v0_ r1 ∧ Below w.heap.size w w' := by
  have hu28 := Try.underlying28
  have HR1 := Aside0.mk hr1
  have HC1 := Aside0.mk hc1
  clear hr1 hc1
  have HR2 := Aside0.mk hr2
  have HC2 := Aside0.mk hc2
  clear hr2 hc2
  have HB := Aside0.mk (Below.refl w.heap.size w)
  have H : ((impl_inWord.f k a0_0 a0_1 l1 l2 a3 a4).bind fun t192 => (if t192 = true then ((impl_answer.f k l1 l2).bind fun t193 => (if 0 ≤ (l2.length : Int) then (if (l2.length : Int) ≤ (t193.length : Int) then ((some (t193.take ((l2.length : Int) : Int).toNat : List Int)).bind fun y196 => (impl_FilterAtEnd.l0 k a3 a4 y196 (y196.length : Int) 0 a0_0 a0_1)) else (none)) else (none))) else (some (([] : List Int), false)))) = some (r1, r2) := h
  clear h
  replace H := Option.bind_eq_some_iff.mp H
  obtain ⟨t192, A60, H⟩ := H
  replace H : (if t192 = true then ((impl_answer.f k l1 l2).bind fun t193 => (if 0 ≤ (l2.length : Int) then (if (l2.length : Int) ≤ (t193.length : Int) then ((some (t193.take ((l2.length : Int) : Int).toNat : List Int)).bind fun y196 => (impl_FilterAtEnd.l0 k a3 a4 y196 (y196.length : Int) 0 a0_0 a0_1)) else (none)) else (none))) else (some (([] : List Int), false))) = some (r1, r2) := H
  have A6 := Aside0.mk A60
  clear A60
  by_cases c7 : t192 = true
  · subst c7
    have H1 : ((impl_answer.f k l1 l2).bind fun t193 => (if 0 ≤ (l2.length : Int) then (if (l2.length : Int) ≤ (t193.length : Int) then ((some (t193.take ((l2.length : Int) : Int).toNat : List Int)).bind fun y196 => (impl_FilterAtEnd.l0 k a3 a4 y196 (y196.length : Int) 0 a0_0 a0_1)) else (none)) else (none))) = some (r1, r2) := by rw [if_pos rfl] at H; exact H
    clear H
    have H := H1
    clear H1
    replace H := Option.bind_eq_some_iff.mp H
    obtain ⟨t193, A80, H⟩ := H
    replace H : (if 0 ≤ (l2.length : Int) then (if (l2.length : Int) ≤ (t193.length : Int) then ((some (t193.take ((l2.length : Int) : Int).toNat : List Int)).bind fun y196 => (impl_FilterAtEnd.l0 k a3 a4 y196 (y196.length : Int) 0 a0_0 a0_1)) else (none)) else (none)) = some (r1, r2) := H
    have A8 := Aside0.mk A80
    clear A80
    by_cases c9 : 0 ≤ (l2.length : Int)
    · rw [if_pos c9] at H
      have c9b0 := eq_true c9
      have c9b1 : decide (0 ≤ (l2.length : Int)) = true := decide_eq_true c9
      clear c9
      by_cases c10 : (l2.length : Int) ≤ (t193.length : Int)
      · rw [if_pos c10] at H
        have c10b0 := eq_true c10
        have c10b1 : decide ((l2.length : Int) ≤ (t193.length : Int)) = true := decide_eq_true c10
        clear c10
        obtain ⟨y196, hy196⟩ : ∃ y_ : List Int, y_ = (t193.take ((l2.length : Int) : Int).toNat) := ⟨_, rfl⟩
        replace H : (impl_FilterAtEnd.l0 k a3 a4 y196 (y196.length : Int) 0 a0_0 a0_1) = some (r1, r2) := by first | (rw [hy196]; with_reducible exact H) | (have H2_ := (Option.bind_some _ _).symm.trans H; rw [hy196]; with_reducible exact H2_) | (have H2_ := (Option.bind_some _ _).symm.trans H; with_reducible exact H2_) | with_reducible exact H | (rw [hy196]; exact H) | exact H
        have Ny196 := Aside0.mk hy196
        clear hy196
        have H' := Aside0.mk H
        clear H
        go_enter Try.func39, Try.ntmps39
        go_wp2_with (first | ((with_reducible refine gate_dst (N := 5) rfl ?_); refine box_event ?hg (N := 5) ?hd (cs := #[.int .i64 a0_0, .bool a0_1]) (t := 28) ?hr ?_; (case hd => rfl); (case hg => rfl); (case hr => first | (go_simp; done) | (go_simp; rfl)); intro gb191 hg w11 hbox hb; have n0_ := Aside0.mk (below_step (by repeat (first | (with_reducible first | exact HB.out | apply below_alloc | apply pw_below_drewN | apply below_drew1) | exact HB.out)) hb); have n1_ := Aside0.mk (hbox); have n2_ := Aside0.mk ((by rw [hg]; exact (below_size (by repeat (first | (with_reducible first | exact HB.out | apply below_alloc | apply pw_below_drewN | apply below_drew1) | exact HB.out))) : w.heap.size ≤ gb191)); have n3_ := Aside0.mk ((by rw [hg]; exact (below_size (by repeat (first | (with_reducible first | exact HB.out | apply below_alloc | apply pw_below_drewN | apply below_drew1) | exact HB.out))) : w.heap.size ≤ gb191)); clear HB; have HB := n0_; have BK191 := n1_; have GW191 := n2_; have GE191 := n3_; clear n0_ n1_ n2_ n3_; clear hb hbox hg; have hcz12_0 : w11.cell? ⟨gb191, 0, none⟩ = some (.int .i64 a0_0) := (blk_cell BK191.out 0).trans rfl; have hcz12_1 : w11.cell? ⟨gb191, 1, none⟩ = some (.bool a0_1) := (blk_cell BK191.out 1).trans rfl; have hfz12_0 := blk_frozen BK191.out 0; have hfz12_1 := blk_frozen BK191.out 1) | ((with_reducible refine gate_callee (f := 85) rfl ?_); refine goesL_ (some 20) rfl rfl Try.func85 (by kernel_rfl) rfl #[.agg #[.int .i64 a0_0, .bool a0_1], .slice A1 l1.length c1, .slice A2 l2.length c2, .int .i64 a3, .int .i64 a4] rfl (by (try simp only [List.map_toArray, List.map_cons, List.map_nil]); first | done | rfl | (simp only [List.length_drop, List.length_take]; rfl)) ?_; (with_reducible refine (impl_inWord.calls k a0_0 a0_1 _ _ l1 _ _ l2 a3 a4 true _ ?side1 ?side2 ?side3 ?side4 A6.out).mono ?_); (case side1 => repeat (first | exact (Kd.C_below HR1.out HB.out) | (with_reducible refine Kd.C_alloc ?_ _) | (with_reducible refine Kd.C_drewN ?_ _) | (with_reducible refine Kd.C_drew ?_))); (case side2 => exact HC1.out); (case side3 => repeat (first | exact (Kd.C_below HR2.out HB.out) | (with_reducible refine Kd.C_alloc ?_ _) | (with_reducible refine Kd.C_drewN ?_ _) | (with_reducible refine Kd.C_drew ?_))); (case side4 => exact HC2.out); rintro e w13 ⟨rfl, hb⟩; refine ⟨_, rfl, ?_⟩; have n0_ := Aside0.mk (blk_below (g := gb191) (o := .cells #[.int .i64 a0_0, .bool a0_1] 28 (0, 0)) (by (with_reducible repeat (first | refine blk_drewN ?_ _ | refine blk_drew ?_ | refine blk_alloc ?_ _)); exact BK191.out) hb); have n1_ := Aside0.mk (below_step (by repeat (first | (with_reducible first | exact HB.out | apply below_alloc | apply pw_below_drewN | apply below_drew1 | refine below_set ?_ GE191.out) | exact HB.out)) hb); clear BK191; clear HB; have BK191 := n0_; have HB := n1_; clear n0_ n1_; (try clear hb); (try clear hb2); (try clear hk); (try clear hi)) | ((with_reducible refine gate_callee (f := 61) rfl ?_); refine goesL_ (some 24) rfl rfl Try.func61 (by kernel_rfl) rfl #[.slice A1 l1.length c1, .slice A2 l2.length c2] rfl (by (try simp only [List.map_toArray, List.map_cons, List.map_nil]); first | done | rfl | (simp only [List.length_drop, List.length_take]; rfl)) ?_; (with_reducible refine (impl_answer.calls k _ _ l1 _ _ l2 t193 _ ?side1 ?side2 ?side3 ?side4 A8.out).mono ?_); (case side1 => repeat (first | exact (Kd.C_below HR1.out HB.out) | (with_reducible refine Kd.C_alloc ?_ _) | (with_reducible refine Kd.C_drewN ?_ _) | (with_reducible refine Kd.C_drew ?_))); (case side2 => exact HC1.out); (case side3 => repeat (first | exact (Kd.C_below HR2.out HB.out) | (with_reducible refine Kd.C_alloc ?_ _) | (with_reducible refine Kd.C_drewN ?_ _) | (with_reducible refine Kd.C_drew ?_))); (case side4 => exact HC2.out); rintro e w14 ⟨v194, rfl, ho0, hb⟩; refine ⟨_, rfl, ?_⟩; have n0_ := Aside0.mk (Kd.R_lower ho0 (below_size (by repeat (first | (with_reducible first | exact HB.out | apply below_alloc | apply pw_below_drewN | apply below_drew1 | refine below_set ?_ GE191.out) | exact HB.out)))); have n1_ := Aside0.mk (blk_below (g := gb191) (o := .cells #[.int .i64 a0_0, .bool a0_1] 28 (0, 0)) (by (with_reducible repeat (first | refine blk_drewN ?_ _ | refine blk_drew ?_ | refine blk_alloc ?_ _)); exact BK191.out) hb); have n2_ := Aside0.mk (below_step (by repeat (first | (with_reducible first | exact HB.out | apply below_alloc | apply pw_below_drewN | apply below_drew1 | refine below_set ?_ GE191.out) | exact HB.out)) hb); clear BK191; clear HB; have HO195 := n0_; have BK191 := n1_; have HB := n2_; clear n0_ n1_ n2_; (try clear hb); (try clear hb2); (try clear hk); (try clear hi); (try clear ho0); obtain ⟨Ao15, co15, eo15⟩ := Kd.R_slice HO195.out; subst eo15; have q16 : ((l2.length : Int) : Int) ≤ ((t193.length : Int) : Int) := of_decide_eq_true (by first | (with_reducible assumption) | assumption); obtain ⟨i016, hi016, _, hsz16, _⟩ := info_parts info3; have hcut16 := cut_to (P := Try.prog) 33 3 .i64 Try.underlying33 hi016 Ao15 t193.length co15 (l2.length : Int) (of_decide_eq_true (by first | (with_reducible assumption) | assumption)) q16 (Kd.R_reads' HO195.out).2.1; have hr16 := Kd.R_take (m := ((l2.length : Int) : Int).toNat) HO195.out (by omega); have hy16 : y196.length = ((l2.length : Int) : Int).toNat := (by rw [Ny196.out, List.length_take]; omega); rw [← Ny196.out] at hr16; rw [← hy16] at hr16 hcut16; clear hy16 hi016 hsz16 HO195; have HO198 := Aside0.mk hr16; clear hr16; replace q16 := eq_true q16))
        go_loopg [30] k (fun kq v30 w' => ∃ (x12_1 : List Int) (x30_1 : Int), v30 = .int .i64 x30_1 ∧ Aside0 (impl_FilterAtEnd.l0 kq a3 a4 x12_1 (y196.length : Int) x30_1 a0_0 a0_1 = some (r1, r2)) ∧ Aside0 (kq ≤ k) ∧ Aside0 (Kd.R (Kd.int .i64) 3 w' w.heap.size (fun _ => True) (.slice Ao15 y196.length co15) x12_1) ∧ Aside0 (w'.heap[gb191]? = some (.cells #[.int .i64 a0_0, .bool a0_1] 28 (0, 0))) ∧ Aside0 (Below w.heap.size w w'))
        case atStart => exact ⟨(y196), (0), (by first | rfl | (simp; done) | (simp [*]; done)), H', ⟨Nat.le_refl _⟩, ⟨by (with_reducible repeat (first | apply Kd.R_alloc | apply Kd.R_drewN | apply Kd.R_drew)); exact HO198.out⟩, ⟨by (with_reducible repeat (first | refine blk_drewN ?_ _ | refine blk_drew ?_ | refine blk_alloc ?_ _)); exact BK191.out⟩, ⟨by repeat (first | (with_reducible first | exact HB.out | apply below_alloc | apply pw_below_drewN | apply below_drew1 | refine below_set ?_ GE191.out) | exact HB.out)⟩⟩
        case round =>
          clear H'
          try clear c1
          try clear q1
          try clear c2
          try clear p2
          try clear c3
          try clear c6
          try clear c7
          try clear c8
          try clear c9
          try clear c9b0
          try clear c9b1
          try clear c10
          try clear c10b0
          try clear c10b1
          try clear q16
          try clear hcz12_0
          try clear hcz12_1
          try clear hfz12_0
          try clear hfz12_1
          try clear q16
          obtain ⟨x12_1, x30_1, rfl, HA, HK1, HO_12, BK191, HB⟩ := hrel
          have hl12_1 := (Kd.R_reads' HO_12.out).1
          rw [hl12_1] at HO_12
          (try simp only [hl12_1])
          (try simp only [hl12_1] at BK191)
          cases gk with
          | zero => exact absurd HA.out (by simp [impl_FilterAtEnd.l0])
          | succ k1 =>
            have H := HA.out
            clear HA
            simp only [impl_FilterAtEnd.l0] at H
            by_cases c17 : x30_1 < (y196.length : Int)
            · rw [if_pos c17] at H
              have c17b0 : decide (x30_1 < (y196.length : Int)) = true := decide_eq_true c17
              clear c17
              by_cases c18 : 0 ≤ x30_1
              · rw [if_pos c18] at H
                have c18b0 : decide (0 ≤ x30_1) = true := decide_eq_true c18
                clear c18
                by_cases c19 : x30_1 < (x12_1.length : Int)
                · rw [if_pos c19] at H
                  have c19b0 : decide (x30_1 < (x12_1.length : Int)) = true := decide_eq_true c19
                  clear c19
                  replace H := Option.bind_eq_some_iff.mp H
                  obtain ⟨t200, A200, H⟩ := H
                  replace H : ((impl_Word_fit.f a0_0 a0_1 t200).bind fun t201 => (impl_FilterAtEnd.l0 k1 a3 a4 (x12_1.set (x30_1 : Int).toNat t201) (y196.length : Int) (wrap64 (x30_1 + 1)) a0_0 a0_1)) = some (r1, r2) := H
                  have A20 := Aside0.mk A200
                  clear A200
                  replace H := Option.bind_eq_some_iff.mp H
                  obtain ⟨t201, A210, H⟩ := H
                  replace H : (impl_FilterAtEnd.l0 k1 a3 a4 (x12_1.set (x30_1 : Int).toNat t201) (y196.length : Int) (wrap64 (x30_1 + 1)) a0_0 a0_1) = some (r1, r2) := H
                  have A21 := Aside0.mk A210
                  clear A210
                  obtain ⟨y202, hy202⟩ : ∃ y_ : List Int, y_ = (x12_1.set (x30_1 : Int).toNat t201) := ⟨_, rfl⟩
                  replace H : (impl_FilterAtEnd.l0 k1 a3 a4 y202 (y196.length : Int) (wrap64 (x30_1 + 1)) a0_0 a0_1) = some (r1, r2) := by first | (rw [hy202]; with_reducible exact H) | (have H2_ := (Option.bind_some _ _).symm.trans H; rw [hy202]; with_reducible exact H2_) | (have H2_ := (Option.bind_some _ _).symm.trans H; with_reducible exact H2_) | with_reducible exact H | (rw [hy202]; exact H) | exact H
                  have Ny202 := Aside0.mk hy202
                  clear hy202
                  have H' := Aside0.mk H
                  clear H
                  have p199 : 0 ≤ (x30_1 : Int) := of_decide_eq_true (by first | (with_reducible assumption) | assumption)
                  have q199 : x30_1 < (x12_1.length : Int) := of_decide_eq_true (by first | (with_reducible assumption) | assumption)
                  obtain ⟨ad199, e199, hx199_0⟩ := Kd.at_int (Kd.R_reads' HO_12.out).2.2 x30_1 p199 q199
                  cases e199
                  replace p199 := eq_true p199
                  replace q199 := eq_true q199
                  try go_wp2
                  have n0_ := Aside0.mk (Kd.R_drew HO_12.out)
                  have n1_ := Aside0.mk (blk_drew BK191.out)
                  have n2_ := Aside0.mk (below_drew1 HB.out)
                  clear HO_12
                  clear BK191
                  clear HB
                  have HO_12 := n0_
                  have BK191 := n1_
                  have HB := n2_
                  clear n0_ n1_ n2_
                  refine start_ (n := 10) (S := fun w' => w'.cell? ⟨gb191, 0, none⟩ = some (.int .i64 a0_0) ∧ w'.cell? ⟨gb191, 1, none⟩ = some (.bool a0_1)) (ds := [9]) #[false, false, false, false, false, false, false, false, false, false] (by kernel_rfl) rfl rfl ⟨(blk_cell BK191.out 0).trans rfl, (blk_cell BK191.out 1).trans rfl⟩ (fun hHeld => ?_); refine with_tabW impl_FilterAtEnd.tab7 impl_FilterAtEnd.bits7 (fun HT_ HW_ => ?_)
                  generalize wr.drew = w23 at HO_12 BK191 HB hHeld ⊢
                  refine pure_ (i := 0) (N := some 35) (v := ?_) (a' := ?_) #[true, false, false, false, false, false, false, false, false, false] rfl rfl (any_of HT_.out (by kernel_rfl)) (fun _ _ _ h => h) (Or.inl ⟨by rfl, ?_⟩) ?_ ?_
                  rotate_left
                  · intro w'
                    go_simp
                    with_reducible rfl
                  rotate_left
                  · simp only [Act.put, List.setIfInBounds_toArray, List.set_cons_zero, List.set_cons_succ, i64_w, i32_w]
                    rfl
                  refine pure_ (i := 1) (N := some 36) (v := ?_) (a' := ?_) #[true, true, false, false, false, false, false, false, false, false] rfl rfl (any_of HT_.out (by kernel_rfl)) (fun _ _ _ h => h) (Or.inl ⟨by rfl, ?_⟩) ?_ ?_
                  rotate_left
                  · intro w'
                    go_simp
                    with_reducible rfl
                  rotate_left
                  · simp only [Act.put, List.setIfInBounds_toArray, List.set_cons_zero, List.set_cons_succ, i64_w, i32_w]
                    rfl
                  refine pure_ (i := 3) (N := some 38) (v := ?_) (a' := ?_) #[true, true, false, true, false, false, false, false, false, false] rfl rfl (any_of HT_.out (by kernel_rfl)) (fun _ _ _ h => h) (Or.inl ⟨by rfl, ?_⟩) ?_ ?_
                  rotate_left
                  · intro w'
                    go_simp
                    with_reducible rfl
                  rotate_left
                  · simp only [Act.put, List.setIfInBounds_toArray, List.set_cons_zero, List.set_cons_succ, i64_w, i32_w]
                    rfl
                  refine pure_ (i := 4) (N := some 39) (v := ?_) (a' := ?_) #[true, true, false, true, true, false, false, false, false, false] rfl rfl (any_of HT_.out (by kernel_rfl)) (fun _ _ _ h => h) (Or.inl ⟨by rfl, ?_⟩) ?_ ?_
                  rotate_left
                  · intro w'
                    go_simp
                    with_reducible rfl
                  rotate_left
                  · simp only [Act.put, List.setIfInBounds_toArray, List.set_cons_zero, List.set_cons_succ, i64_w, i32_w]
                    rfl
                  refine pure_ (i := 5) (N := some 40) (v := ?_) (a' := ?_) #[true, true, false, true, true, true, false, false, false, false] rfl rfl (any_of HT_.out (by kernel_rfl)) (fun _ _ _ h => h) (Or.inl ⟨by rfl, ?_⟩) ?_ ?_
                  rotate_left
                  · intro w'
                    go_simp
                    with_reducible rfl
                  rotate_left
                  · simp only [Act.put, List.setIfInBounds_toArray, List.set_cons_zero, List.set_cons_succ, i64_w, i32_w]
                    rfl
                  refine take_ (i := 2) (N := some 37) (v := ?_) (a' := ?_) #[true, true, true, true, true, true, false, false, false, false] rfl rfl (take_ofW HT_.out HW_.out (by kernel_rfl)) (fun _ _ _ h => h) (Or.inl ⟨by rfl, ?_⟩) hHeld ?_ ?_
                  rotate_left
                  · rintro w' ⟨s0, s1⟩
                    go_simp
                    with_reducible rfl
                  rotate_left
                  · simp only [Act.put, List.setIfInBounds_toArray, List.set_cons_zero, List.set_cons_succ, i64_w, i32_w]
                    rfl
                  refine one_ (i := 6) (N := some 41) #[true, true, true, true, true, true, true, false, false, false] rfl rfl (one_of HT_.out (by kernel_rfl)) (by decide) (fun K hK => ?_)
                  refine goes_ Try.func87 (by kernel_rfl) rfl #[.int .i64 (rd x12_1 x30_1), .int .i64 a3, .int .i64 a4] (by rfl) rfl rfl (by (try simp only [List.map_toArray, List.map_cons, List.map_nil]); first | done | rfl | (simp only [List.length_drop, List.length_take]; rfl)) ?_
                  with_reducible refine (impl_shifted.calls k1 (rd x12_1 x30_1) a3 a4 t200 _ A20.out).mono ?_
                  rintro e w' ⟨rfl, ⟨nd, rfl⟩⟩
                  refine ⟨_, rfl, ?_⟩
                  refine hK.out _ _ ⟨(blk_cell BK191.out 0).trans rfl, (blk_cell BK191.out 1).trans rfl⟩ (fun hHeld => ?_)
                  clear hK K
                  refine norm_ (a' := ?_) ?_ ?_
                  rotate_left
                  · show Act.put _ (some 41) _ = _
                    simp only [Act.put, List.setIfInBounds_toArray, List.set_cons_zero, List.set_cons_succ, i64_w, i32_w]
                    rfl
                  refine one_ (i := 7) (N := some 42) #[true, true, true, true, true, true, true, true, false, false] rfl rfl (one_of HT_.out (by kernel_rfl)) (by decide) (fun K hK => ?_)
                  refine goes_ Try.func86 (by kernel_rfl) rfl #[.agg #[.int .i64 a0_0, .bool a0_1], .int .i64 t200] (by rfl) rfl rfl (by (try simp only [List.map_toArray, List.map_cons, List.map_nil]); first | done | rfl | (simp only [List.length_drop, List.length_take]; rfl)) ?_
                  with_reducible refine (impl_Word_fit.calls a0_0 a0_1 t200 t201 _ A21.out).mono ?_
                  rintro e w24 ⟨rfl, hb⟩
                  refine ⟨_, rfl, ?_⟩
                  have n0_ := Aside0.mk (Kd.R_below (by (with_reducible repeat (first | apply Kd.R_alloc | apply Kd.R_drewN | apply Kd.R_drew)); exact HO_12.out) hb)
                  have n1_ := Aside0.mk (blk_below (g := gb191) (o := .cells #[.int .i64 a0_0, .bool a0_1] 28 (0, 0)) (by (with_reducible repeat (first | refine blk_drewN ?_ _ | refine blk_drew ?_ | refine blk_alloc ?_ _)); exact BK191.out) hb)
                  have n2_ := Aside0.mk (below_step (by repeat (first | (with_reducible first | exact HB.out | apply below_alloc | apply pw_below_drewN | apply below_drew1 | refine below_set ?_ GE191.out) | exact HB.out)) hb)
                  clear HO_12
                  clear BK191
                  clear HB
                  have HO_12 := n0_
                  have BK191 := n1_
                  have HB := n2_
                  clear n0_ n1_ n2_
                  (try clear hb)
                  (try clear hb2)
                  (try clear hk)
                  (try clear hi)
                  have p22 : 0 ≤ (x30_1 : Int) := of_decide_eq_true (by first | (with_reducible assumption) | assumption)
                  have q22 : (x30_1 : Int) < ((x12_1.length : Int) : Int) := of_decide_eq_true (by first | (with_reducible assumption) | assumption)
                  obtain ⟨go22, co22, eo22, gb22, gl22, cl22, HG22⟩ := Kd.R_form HO_12.out (by omega)
                  (first | cases eo22 | (injection eo22 with ea_ en_ ec_; (first | subst ea_ | (injection ea_ with ea_; subst ea_)); subst ec_; clear en_))
                  have GB22 := Aside0.mk gb22
                  have GG22 := Aside0.mk HG22
                  clear gb22 gl22 HG22
                  (first | simp only [add_plain] at hx199_0 | skip)
                  obtain ⟨hx22_0, hf22_0⟩ := Kd.R_celln 0 HO_12.out (x30_1 : Int) p22 q22
                  replace p22 := eq_true p22
                  replace q22 := eq_true q22
                  have HP25 := Kd.R_putn HO_12.out (x30_1 : Int) t201
                  rw [← Ny202.out] at HP25
                  have HQ25 := Aside0.mk HP25
                  clear HP25
                  refine hK.out _ _ ⟨(blk_cell BK191.out 0).trans rfl, (blk_cell BK191.out 1).trans rfl⟩ (fun hHeld => ?_)
                  clear hK K
                  refine norm_ (a' := ?_) ?_ ?_
                  rotate_left
                  · show Act.put _ (some 42) _ = _
                    simp only [Act.put, List.setIfInBounds_toArray, List.set_cons_zero, List.set_cons_succ, i64_w, i32_w]
                    rfl
                  refine pure_ (i := 8) (N := some 43) (v := ?_) (a' := ?_) #[true, true, true, true, true, true, true, true, true, false] rfl rfl (any_of HT_.out (by kernel_rfl)) (fun _ _ _ h => h) (Or.inl ⟨by rfl, ?_⟩) ?_ ?_
                  rotate_left
                  · intro w'
                    go_simp
                    with_reducible rfl
                  rotate_left
                  · simp only [Act.put, List.setIfInBounds_toArray, List.set_cons_zero, List.set_cons_succ, i64_w, i32_w]
                    rfl
                  refine last_ (i := 9) (N := none) #[true, true, true, true, true, true, true, true, true, true] rfl rfl (one_of HT_.out (by kernel_rfl)) (by decide) (fun K hK => ?_)
                  refine skip_ (w1 := ?_) (by rfl) rfl ?_ ?_
                  rotate_left
                  · go_simp
                    rfl
                  refine hK.out _ _ ?_
                  clear hK K
                  refine done_ (done_of HT_.out (by kernel_rfl)) ?_
                  try go_wp2
                  (try simp only [← hl12_1])
                  go_roundg k1
                  case measure => have := HK1.out; omega
                  case rel => exact ⟨(y202), (wrap64 (x30_1 + 1)), (by first | rfl | (simp; done) | (simp [*]; done)), H', ⟨by have := HK1.out; omega⟩, ⟨by (try simp only [hl12_1]); (with_reducible repeat (first | apply Kd.R_alloc | apply Kd.R_drewN | apply Kd.R_drew)); exact HQ25.out⟩, ⟨by (try simp only [hl12_1]); (with_reducible repeat (first | refine blk_drewN ?_ _ | refine blk_drew ?_ | refine blk_alloc ?_ _)); refine blk_far ?_ (by have h_ := Kd.R_ne HO_12.out BK191.out (by decide); intro e_; exact h_ (by rw [e_]; rfl)) _; (with_reducible repeat (first | refine blk_drewN ?_ _ | refine blk_drew ?_ | refine blk_alloc ?_ _)); exact BK191.out⟩, ⟨by repeat (first | (with_reducible first | exact HB.out | apply below_alloc | apply pw_below_drewN | apply below_drew1 | refine below_set ?_ GB22.out | refine below_set ?_ GE191.out) | exact HB.out)⟩⟩
                · rw [if_neg c19] at H
                  exact absurd H (by simp)
              · rw [if_neg c18] at H
                exact absurd H (by simp)
            · rw [if_neg c17] at H
              have c17b0 : decide (x30_1 < (y196.length : Int)) = false := decide_eq_false c17
              (try (have c17b0z := c17b0; simp only [hl12_1] at c17b0z))
              clear c17
              replace H := Option.bind_eq_some_iff.mp H
              obtain ⟨⟨t203, t206⟩, A260, H⟩ := H
              replace H : (some (t203, t206)) = some (r1, r2) := H
              have A26 := Aside0.mk A260
              clear A260
              simp only [Option.some.injEq, Prod.mk.injEq] at H
              obtain ⟨rfl, rfl⟩ := H
              go_wp2_with (first | ((with_reducible refine gate_callee (f := 88) rfl ?_); refine goesL_ (some 46) rfl rfl Try.func88 (by kernel_rfl) rfl #[.slice Ao15 x12_1.length co15] rfl (by (try simp only [List.map_toArray, List.map_cons, List.map_nil]); first | done | rfl | (simp only [List.length_drop, List.length_take]; rfl)) ?_; (with_reducible refine (impl_told.calls k1 (fun k_ => some k_ = (.slice Ao15 x12_1.length co15 : Value).ownBlock) (.slice Ao15 x12_1.length co15) x12_1 t203 t206 w _ ?side1 ?side2 A26.out).mono ?_); (case side1 => repeat (first | (with_reducible first | exact HB.out | apply below_alloc | apply pw_below_drewN | apply below_drew1 | refine below_set ?_ GE191.out) | exact HB.out)); (case side2 => exact Kd.R_tight rfl HO_12.out); rintro e w27 ⟨v204, rfl, ho0, hb, hkp⟩; refine ⟨_, rfl, ?_⟩; have n0_ := Aside0.mk (blk_kept (by (with_reducible repeat (first | refine blk_drewN ?_ _ | refine blk_drew ?_ | refine blk_alloc ?_ _)); exact BK191.out) hkp (fun hs_ => (fun e_ => (Kd.R_ne HO_12.out BK191.out (by decide)) e_) hs_)); have n1_ := Aside0.mk (Kd.R_mono (ok' := fun k_ => True) ho0 (fun k_ hk_ => trivial)); have n2_ := Aside0.mk (hb); clear BK191; clear HB; clear HO_12; have BK191 := n0_; have HO205 := n1_; have HB := n2_; clear n0_ n1_ n2_; (try clear hb); (try clear hkp); (try clear ho0)))
              go_ret2
              exact ⟨_, by first | rfl | (simp [errW_none, errW_some] <;> rfl) | (simp [*, errW_none, errW_some] <;> rfl), by (with_reducible repeat (first | apply Kd.R_alloc | apply Kd.R_drewN | apply Kd.R_drew)); exact HO205.out, by repeat (first | (with_reducible first | exact HB.out | apply below_alloc | apply pw_below_drewN | apply below_drew1 | refine below_set ?_ GE191.out) | exact HB.out)⟩
      · rw [if_neg c10] at H
        exact absurd H (by simp)
    · rw [if_neg c9] at H
      exact absurd H (by simp)
  · replace c7 := Bool.eq_false_iff.mpr c7
    subst c7
    have H1 : (some (([] : List Int), false)) = some (r1, r2) := by rw [if_neg (show ¬ (false = true) by decide)] at H; exact H
    clear H
    have H := H1
    clear H1
    simp only [Option.some.injEq, Prod.mk.injEq] at H
    obtain ⟨rfl, rfl⟩ := H
    go_enter Try.func39, Try.ntmps39
    go_wp2_with (first | ((with_reducible refine gate_dst (N := 5) rfl ?_); refine box_event ?hg (N := 5) ?hd (cs := #[.int .i64 a0_0, .bool a0_1]) (t := 28) ?hr ?_; (case hd => rfl); (case hg => rfl); (case hr => first | (go_simp; done) | (go_simp; rfl)); intro gb191 hg w28 hbox hb; have n0_ := Aside0.mk (below_step (by repeat (first | (with_reducible first | exact HB.out | apply below_alloc | apply pw_below_drewN | apply below_drew1) | exact HB.out)) hb); have n1_ := Aside0.mk (hbox); have n2_ := Aside0.mk ((by rw [hg]; exact (below_size (by repeat (first | (with_reducible first | exact HB.out | apply below_alloc | apply pw_below_drewN | apply below_drew1) | exact HB.out))) : w.heap.size ≤ gb191)); have n3_ := Aside0.mk ((by rw [hg]; exact (below_size (by repeat (first | (with_reducible first | exact HB.out | apply below_alloc | apply pw_below_drewN | apply below_drew1) | exact HB.out))) : w.heap.size ≤ gb191)); clear HB; have HB := n0_; have BK191 := n1_; have GW191 := n2_; have GE191 := n3_; clear n0_ n1_ n2_ n3_; clear hb hbox hg; have hcz29_0 : w28.cell? ⟨gb191, 0, none⟩ = some (.int .i64 a0_0) := (blk_cell BK191.out 0).trans rfl; have hcz29_1 : w28.cell? ⟨gb191, 1, none⟩ = some (.bool a0_1) := (blk_cell BK191.out 1).trans rfl; have hfz29_0 := blk_frozen BK191.out 0; have hfz29_1 := blk_frozen BK191.out 1) | ((with_reducible refine gate_callee (f := 85) rfl ?_); refine goesL_ (some 20) rfl rfl Try.func85 (by kernel_rfl) rfl #[.agg #[.int .i64 a0_0, .bool a0_1], .slice A1 l1.length c1, .slice A2 l2.length c2, .int .i64 a3, .int .i64 a4] rfl (by (try simp only [List.map_toArray, List.map_cons, List.map_nil]); first | done | rfl | (simp only [List.length_drop, List.length_take]; rfl)) ?_; (with_reducible refine (impl_inWord.calls k a0_0 a0_1 _ _ l1 _ _ l2 a3 a4 false _ ?side1 ?side2 ?side3 ?side4 A6.out).mono ?_); (case side1 => repeat (first | exact (Kd.C_below HR1.out HB.out) | (with_reducible refine Kd.C_alloc ?_ _) | (with_reducible refine Kd.C_drewN ?_ _) | (with_reducible refine Kd.C_drew ?_))); (case side2 => exact HC1.out); (case side3 => repeat (first | exact (Kd.C_below HR2.out HB.out) | (with_reducible refine Kd.C_alloc ?_ _) | (with_reducible refine Kd.C_drewN ?_ _) | (with_reducible refine Kd.C_drew ?_))); (case side4 => exact HC2.out); rintro e w30 ⟨rfl, hb⟩; refine ⟨_, rfl, ?_⟩; have n0_ := Aside0.mk (blk_below (g := gb191) (o := .cells #[.int .i64 a0_0, .bool a0_1] 28 (0, 0)) (by (with_reducible repeat (first | refine blk_drewN ?_ _ | refine blk_drew ?_ | refine blk_alloc ?_ _)); exact BK191.out) hb); have n1_ := Aside0.mk (below_step (by repeat (first | (with_reducible first | exact HB.out | apply below_alloc | apply pw_below_drewN | apply below_drew1 | refine below_set ?_ GE191.out) | exact HB.out)) hb); clear BK191; clear HB; have BK191 := n0_; have HB := n1_; clear n0_ n1_; (try clear hb); (try clear hb2); (try clear hk); (try clear hi)))
    go_ret2
    exact ⟨_, by first | rfl | (simp [errW_none, errW_some] <;> rfl) | (simp [*, errW_none, errW_some] <;> rfl), by first | exact Kd.R_nil _ _ _ _ _ | exact Kd.N_nil _ _ _ _ _ | exact Kd.V_nil _ _ _ _ _ | exact Kd.Q_nil _ _ _ _ _ | exact Kd.S_nil _ _ _ _ _, by repeat (first | (with_reducible first | exact HB.out | apply below_alloc | apply pw_below_drewN | apply below_drew1 | refine below_set ?_ GE191.out) | exact HB.out)⟩

end Go.Proofs.Ytepfkahbfnahmaa.QFnExactFilterAtEnd
