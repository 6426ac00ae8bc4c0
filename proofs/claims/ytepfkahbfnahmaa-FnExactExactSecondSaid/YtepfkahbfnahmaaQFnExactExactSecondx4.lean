-- Written by wprint.py (this session's program over the kit's print) out of the translation.
import Derived.Test.YtepfkahbfnahmaaQFnExactExactSecondx0
import Derived.Test.YtepfkahbfnahmaaQFnExactExactSecondx3
namespace Go.Proofs.Ytepfkahbfnahmaa.QFnExactExactSecond
open Go.RowKit Go.Proofs.YtepfkahbfnahmaaW.PrintWords Go.Proofs.YtepfkahbfnahmaaW.PrintLast Go.Proofs.YtepfkahbfnahmaaW.PrintMore
attribute [local go_sem] max2_int min2_int max_two min_two max_three min_three max_four min_four   -- for this text's walks alone
set_option linter.unusedVariables false
set_option linter.unusedSimpArgs false

/-! ### impl_isFactor: function 115 -/
def impl_isFactor.f (a0 : Int) : Option (Bool) := (impl_in.f a0 (-1024) 1024).bind fun t169 => (some t169)
set_option maxHeartbeats 8000000 in
set_option maxRecDepth 100000 in
theorem impl_isFactor.calls (a0 : Int) (r : Bool) (w : World) (h : impl_isFactor.f a0 = some r) :
    Calls Try.prog 115 #[.int .i64 a0] w fun e w' => e = .returned (.bool r) ∧ Drawn0 w w' := by
  have H : ((impl_in.f a0 (-1024) 1024).bind fun t169 => (some t169)) = some r := h
  clear h
  replace H := Option.bind_eq_some_iff.mp H
  obtain ⟨t169, A20, H⟩ := H
  replace H : (some t169) = some r := H
  have A2 := Aside0.mk A20
  clear A20
  obtain rfl := Option.some.inj H
  go_enter Try.func115, Try.ntmps115
  go_wp2_with (first | ((with_reducible refine gate_callee (f := 92) rfl ?_); refine goesL_ (some 4) rfl rfl Try.func92 (by kernel_rfl) rfl #[.int .i64 a0, .int .i64 (-1024), .int .i64 1024] rfl (by (try simp only [List.map_toArray, List.map_cons, List.map_nil]); first | done | rfl | (simp only [List.length_drop, List.length_take]; rfl)) ?_; (with_reducible refine (impl_in.calls a0 (-1024) 1024 t169 _ A2.out).mono ?_); rintro e w' ⟨rfl, ⟨nd, rfl⟩⟩; refine ⟨_, rfl, ?_⟩))
  go_ret
  exact ⟨by first | rfl | (simp; done) | (simp [*]; done), by repeat (first | exact Drawn0.refl _ | apply Drawn0.step)⟩

/-! ### impl_isScale: function 116 -/
def impl_isScale.f (a0 : Int) (a1 : Int) : Option (Bool) := (impl_in.f a0 0 10).bind fun t170 => (if t170 = true then ((impl_in.f a1 0 2).bind fun t171 => (some t171)) else (some false))
set_option maxHeartbeats 8000000 in
set_option maxRecDepth 100000 in
theorem impl_isScale.calls (a0 : Int) (a1 : Int) (r : Bool) (w : World) (h : impl_isScale.f a0 a1 = some r) :
    Calls Try.prog 116 #[.int .i64 a0, .int .i64 a1] w fun e w' => e = .returned (.bool r) ∧ Drawn0 w w' := by
  have H : ((impl_in.f a0 0 10).bind fun t170 => (if t170 = true then ((impl_in.f a1 0 2).bind fun t171 => (some t171)) else (some false))) = some r := h
  clear h
  replace H := Option.bind_eq_some_iff.mp H
  obtain ⟨t170, A30, H⟩ := H
  replace H : (if t170 = true then ((impl_in.f a1 0 2).bind fun t171 => (some t171)) else (some false)) = some r := H
  have A3 := Aside0.mk A30
  clear A30
  by_cases c4 : t170 = true
  · subst c4
    have H1 : ((impl_in.f a1 0 2).bind fun t171 => (some t171)) = some r := by rw [if_pos rfl] at H; exact H
    clear H
    have H := H1
    clear H1
    replace H := Option.bind_eq_some_iff.mp H
    obtain ⟨t171, A50, H⟩ := H
    replace H : (some t171) = some r := H
    have A5 := Aside0.mk A50
    clear A50
    obtain rfl := Option.some.inj H
    go_enter Try.func116, Try.ntmps116
    go_wp2_with (first | ((with_reducible refine gate_callee (f := 92) rfl ?_); refine goesL_ (some 6) rfl rfl Try.func92 (by kernel_rfl) rfl #[.int .i64 a0, .int .i64 0, .int .i64 10] rfl (by (try simp only [List.map_toArray, List.map_cons, List.map_nil]); first | done | rfl | (simp only [List.length_drop, List.length_take]; rfl)) ?_; (with_reducible refine (impl_in.calls a0 0 10 true _ A3.out).mono ?_); rintro e w' ⟨rfl, ⟨nd, rfl⟩⟩; refine ⟨_, rfl, ?_⟩) | (go_at_call 92; (with_reducible refine (impl_in.calls a1 0 2 t171 _ A5.out).mono ?_); rintro e w' ⟨rfl, ⟨nd, rfl⟩⟩))
    go_ret
    exact ⟨by first | rfl | (simp; done) | (simp [*]; done), by repeat (first | exact Drawn0.refl _ | apply Drawn0.step)⟩
  · replace c4 := Bool.eq_false_iff.mpr c4
    subst c4
    have H1 : (some false) = some r := by rw [if_neg (show ¬ (false = true) by decide)] at H; exact H
    clear H
    have H := H1
    clear H1
    obtain rfl := Option.some.inj H
    go_enter Try.func116, Try.ntmps116
    go_wp2_with (first | ((with_reducible refine gate_callee (f := 92) rfl ?_); refine goesL_ (some 6) rfl rfl Try.func92 (by kernel_rfl) rfl #[.int .i64 a0, .int .i64 0, .int .i64 10] rfl (by (try simp only [List.map_toArray, List.map_cons, List.map_nil]); first | done | rfl | (simp only [List.length_drop, List.length_take]; rfl)) ?_; (with_reducible refine (impl_in.calls a0 0 10 false _ A3.out).mono ?_); rintro e w' ⟨rfl, ⟨nd, rfl⟩⟩; refine ⟨_, rfl, ?_⟩))
    go_ret
    exact ⟨by first | rfl | (simp; done) | (simp [*]; done), by repeat (first | exact Drawn0.refl _ | apply Drawn0.step)⟩

/-! ### impl_isSecond: function 102 -/
def impl_isSecond.f (a0_0 : Int) (a0_1 : Int) (a0_2 : Int) (a0_3 : Int) (a0_4 : Int) (a0_5 : Bool) : Option (Bool) := (impl_isFactor.f a0_0).bind fun t173 => (if t173 = true then ((impl_isFactor.f a0_1).bind fun t174 => (if t174 = true then ((impl_isScale.f a0_2 a0_3).bind fun t175 => (if t175 = true then ((impl_isWord.f a0_4 a0_5).bind fun t176 => (some t176)) else (some false))) else (some false))) else (some false))
set_option maxHeartbeats 8000000 in
set_option maxRecDepth 100000 in
theorem impl_isSecond.calls (a0_0 : Int) (a0_1 : Int) (a0_2 : Int) (a0_3 : Int) (a0_4 : Int) (a0_5 : Bool) (r : Bool) (w : World) (h : impl_isSecond.f a0_0 a0_1 a0_2 a0_3 a0_4 a0_5 = some r) :
    Calls Try.prog 102 #[.agg #[.int .i64 a0_0, .int .i64 a0_1, .int .i64 a0_2, .int .i64 a0_3, .int .i64 a0_4, .bool a0_5]] w fun e w' => e = .returned (.bool r) ∧ Below w.heap.size w w' := by
  have hu45 := Try.underlying45
  have hu28 := Try.underlying28
  have HB := Aside0.mk (Below.refl w.heap.size w)
  have H : ((impl_isFactor.f a0_0).bind fun t173 => (if t173 = true then ((impl_isFactor.f a0_1).bind fun t174 => (if t174 = true then ((impl_isScale.f a0_2 a0_3).bind fun t175 => (if t175 = true then ((impl_isWord.f a0_4 a0_5).bind fun t176 => (some t176)) else (some false))) else (some false))) else (some false))) = some r := h
  clear h
  replace H := Option.bind_eq_some_iff.mp H
  obtain ⟨t173, A20, H⟩ := H
  replace H : (if t173 = true then ((impl_isFactor.f a0_1).bind fun t174 => (if t174 = true then ((impl_isScale.f a0_2 a0_3).bind fun t175 => (if t175 = true then ((impl_isWord.f a0_4 a0_5).bind fun t176 => (some t176)) else (some false))) else (some false))) else (some false)) = some r := H
  have A2 := Aside0.mk A20
  clear A20
  by_cases c3 : t173 = true
  · subst c3
    have H1 : ((impl_isFactor.f a0_1).bind fun t174 => (if t174 = true then ((impl_isScale.f a0_2 a0_3).bind fun t175 => (if t175 = true then ((impl_isWord.f a0_4 a0_5).bind fun t176 => (some t176)) else (some false))) else (some false))) = some r := by rw [if_pos rfl] at H; exact H
    clear H
    have H := H1
    clear H1
    replace H := Option.bind_eq_some_iff.mp H
    obtain ⟨t174, A40, H⟩ := H
    replace H : (if t174 = true then ((impl_isScale.f a0_2 a0_3).bind fun t175 => (if t175 = true then ((impl_isWord.f a0_4 a0_5).bind fun t176 => (some t176)) else (some false))) else (some false)) = some r := H
    have A4 := Aside0.mk A40
    clear A40
    by_cases c5 : t174 = true
    · subst c5
      have H1 : ((impl_isScale.f a0_2 a0_3).bind fun t175 => (if t175 = true then ((impl_isWord.f a0_4 a0_5).bind fun t176 => (some t176)) else (some false))) = some r := by rw [if_pos rfl] at H; exact H
      clear H
      have H := H1
      clear H1
      replace H := Option.bind_eq_some_iff.mp H
      obtain ⟨t175, A60, H⟩ := H
      replace H : (if t175 = true then ((impl_isWord.f a0_4 a0_5).bind fun t176 => (some t176)) else (some false)) = some r := H
      have A6 := Aside0.mk A60
      clear A60
      by_cases c7 : t175 = true
      · subst c7
        have H1 : ((impl_isWord.f a0_4 a0_5).bind fun t176 => (some t176)) = some r := by rw [if_pos rfl] at H; exact H
        clear H
        have H := H1
        clear H1
        replace H := Option.bind_eq_some_iff.mp H
        obtain ⟨t176, A80, H⟩ := H
        replace H : (some t176) = some r := H
        have A8 := Aside0.mk A80
        clear A80
        obtain rfl := Option.some.inj H
        go_enter Try.func102, Try.ntmps102
        go_wp2_with (first | ((with_reducible refine gate_dst (N := 1) rfl ?_); refine box_event ?hg (N := 1) ?hd (cs := #[.int .i64 a0_0, .int .i64 a0_1, .int .i64 a0_2, .int .i64 a0_3, .int .i64 a0_4, .bool a0_5]) (t := 45) ?hr ?_; (case hd => rfl); (case hg => rfl); (case hr => first | (go_simp; done) | (go_simp; rfl)); intro gb172 hg w9 hbox hb; have n0_ := Aside0.mk (below_step (by repeat (first | (with_reducible first | exact HB.out | apply below_alloc | apply pw_below_drewN | apply below_drew1) | exact HB.out)) hb); have n1_ := Aside0.mk (hbox); have n2_ := Aside0.mk ((by rw [hg]; exact (below_size (by repeat (first | (with_reducible first | exact HB.out | apply below_alloc | apply pw_below_drewN | apply below_drew1) | exact HB.out))) : w.heap.size ≤ gb172)); have n3_ := Aside0.mk ((by rw [hg]; exact (below_size (by repeat (first | (with_reducible first | exact HB.out | apply below_alloc | apply pw_below_drewN | apply below_drew1) | exact HB.out))) : w.heap.size ≤ gb172)); clear HB; have HB := n0_; have BK172 := n1_; have GW172 := n2_; have GE172 := n3_; clear n0_ n1_ n2_ n3_; clear hb hbox hg; have hcz10_0 : w9.cell? ⟨gb172, 0, none⟩ = some (.int .i64 a0_0) := (blk_cell BK172.out 0).trans rfl; have hcz10_1 : w9.cell? ⟨gb172, 1, none⟩ = some (.int .i64 a0_1) := (blk_cell BK172.out 1).trans rfl; have hcz10_2 : w9.cell? ⟨gb172, 2, none⟩ = some (.int .i64 a0_2) := (blk_cell BK172.out 2).trans rfl; have hcz10_3 : w9.cell? ⟨gb172, 3, none⟩ = some (.int .i64 a0_3) := (blk_cell BK172.out 3).trans rfl; have hcz10_4 : w9.cell? ⟨gb172, 4, none⟩ = some (.int .i64 a0_4) := (blk_cell BK172.out 4).trans rfl; have hcz10_5 : w9.cell? ⟨gb172, 5, none⟩ = some (.bool a0_5) := (blk_cell BK172.out 5).trans rfl; have hfz10_0 := blk_frozen BK172.out 0; have hfz10_1 := blk_frozen BK172.out 1; have hfz10_2 := blk_frozen BK172.out 2; have hfz10_3 := blk_frozen BK172.out 3; have hfz10_4 := blk_frozen BK172.out 4; have hfz10_5 := blk_frozen BK172.out 5) | ((with_reducible refine gate_callee (f := 115) rfl ?_); refine goesL_ (some 5) rfl rfl Try.func115 (by kernel_rfl) rfl #[.int .i64 a0_0] rfl (by (try simp only [List.map_toArray, List.map_cons, List.map_nil]); first | done | rfl | (simp only [List.length_drop, List.length_take]; rfl)) ?_; (with_reducible refine (impl_isFactor.calls a0_0 true _ A2.out).mono ?_); rintro e w' ⟨rfl, ⟨nd, rfl⟩⟩; refine ⟨_, rfl, ?_⟩) | (go_at_call 115; (with_reducible refine (impl_isFactor.calls a0_1 true _ A4.out).mono ?_); rintro e w' ⟨rfl, ⟨nd, rfl⟩⟩) | (go_at_call 116; (with_reducible refine (impl_isScale.calls a0_2 a0_3 true _ A6.out).mono ?_); rintro e w' ⟨rfl, ⟨nd, rfl⟩⟩) | (go_at_call 112; (with_reducible refine (impl_isWord.calls a0_4 a0_5 t176 _ A8.out).mono ?_); rintro e w11 ⟨rfl, hb⟩; have n0_ := Aside0.mk (blk_below (g := gb172) (o := .cells #[.int .i64 a0_0, .int .i64 a0_1, .int .i64 a0_2, .int .i64 a0_3, .int .i64 a0_4, .bool a0_5] 45 (0, 0)) (by (with_reducible repeat (first | refine blk_drewN ?_ _ | refine blk_drew ?_ | refine blk_alloc ?_ _)); exact BK172.out) hb); have n1_ := Aside0.mk (below_step (by repeat (first | (with_reducible first | exact HB.out | apply below_alloc | apply pw_below_drewN | apply below_drew1 | refine below_set ?_ GE172.out) | exact HB.out)) hb); clear BK172; clear HB; have BK172 := n0_; have HB := n1_; clear n0_ n1_; (try clear hb); (try clear hb2); (try clear hk); (try clear hi)))
        go_ret
        exact ⟨by first | rfl | (simp [errW_none, errW_some] <;> rfl) | (simp [*, errW_none, errW_some] <;> rfl), by repeat (first | (with_reducible first | exact HB.out | apply below_alloc | apply pw_below_drewN | apply below_drew1 | refine below_set ?_ GE172.out) | exact HB.out)⟩
      · replace c7 := Bool.eq_false_iff.mpr c7
        subst c7
        have H1 : (some false) = some r := by rw [if_neg (show ¬ (false = true) by decide)] at H; exact H
        clear H
        have H := H1
        clear H1
        obtain rfl := Option.some.inj H
        go_enter Try.func102, Try.ntmps102
        go_wp2_with (first | ((with_reducible refine gate_dst (N := 1) rfl ?_); refine box_event ?hg (N := 1) ?hd (cs := #[.int .i64 a0_0, .int .i64 a0_1, .int .i64 a0_2, .int .i64 a0_3, .int .i64 a0_4, .bool a0_5]) (t := 45) ?hr ?_; (case hd => rfl); (case hg => rfl); (case hr => first | (go_simp; done) | (go_simp; rfl)); intro gb172 hg w12 hbox hb; have n0_ := Aside0.mk (below_step (by repeat (first | (with_reducible first | exact HB.out | apply below_alloc | apply pw_below_drewN | apply below_drew1) | exact HB.out)) hb); have n1_ := Aside0.mk (hbox); have n2_ := Aside0.mk ((by rw [hg]; exact (below_size (by repeat (first | (with_reducible first | exact HB.out | apply below_alloc | apply pw_below_drewN | apply below_drew1) | exact HB.out))) : w.heap.size ≤ gb172)); have n3_ := Aside0.mk ((by rw [hg]; exact (below_size (by repeat (first | (with_reducible first | exact HB.out | apply below_alloc | apply pw_below_drewN | apply below_drew1) | exact HB.out))) : w.heap.size ≤ gb172)); clear HB; have HB := n0_; have BK172 := n1_; have GW172 := n2_; have GE172 := n3_; clear n0_ n1_ n2_ n3_; clear hb hbox hg; have hcz13_0 : w12.cell? ⟨gb172, 0, none⟩ = some (.int .i64 a0_0) := (blk_cell BK172.out 0).trans rfl; have hcz13_1 : w12.cell? ⟨gb172, 1, none⟩ = some (.int .i64 a0_1) := (blk_cell BK172.out 1).trans rfl; have hcz13_2 : w12.cell? ⟨gb172, 2, none⟩ = some (.int .i64 a0_2) := (blk_cell BK172.out 2).trans rfl; have hcz13_3 : w12.cell? ⟨gb172, 3, none⟩ = some (.int .i64 a0_3) := (blk_cell BK172.out 3).trans rfl; have hcz13_4 : w12.cell? ⟨gb172, 4, none⟩ = some (.int .i64 a0_4) := (blk_cell BK172.out 4).trans rfl; have hcz13_5 : w12.cell? ⟨gb172, 5, none⟩ = some (.bool a0_5) := (blk_cell BK172.out 5).trans rfl; have hfz13_0 := blk_frozen BK172.out 0; have hfz13_1 := blk_frozen BK172.out 1; have hfz13_2 := blk_frozen BK172.out 2; have hfz13_3 := blk_frozen BK172.out 3; have hfz13_4 := blk_frozen BK172.out 4; have hfz13_5 := blk_frozen BK172.out 5) | ((with_reducible refine gate_callee (f := 115) rfl ?_); refine goesL_ (some 5) rfl rfl Try.func115 (by kernel_rfl) rfl #[.int .i64 a0_0] rfl (by (try simp only [List.map_toArray, List.map_cons, List.map_nil]); first | done | rfl | (simp only [List.length_drop, List.length_take]; rfl)) ?_; (with_reducible refine (impl_isFactor.calls a0_0 true _ A2.out).mono ?_); rintro e w' ⟨rfl, ⟨nd, rfl⟩⟩; refine ⟨_, rfl, ?_⟩) | (go_at_call 115; (with_reducible refine (impl_isFactor.calls a0_1 true _ A4.out).mono ?_); rintro e w' ⟨rfl, ⟨nd, rfl⟩⟩) | (go_at_call 116; (with_reducible refine (impl_isScale.calls a0_2 a0_3 false _ A6.out).mono ?_); rintro e w' ⟨rfl, ⟨nd, rfl⟩⟩))
        go_ret
        exact ⟨by first | rfl | (simp [errW_none, errW_some] <;> rfl) | (simp [*, errW_none, errW_some] <;> rfl), by repeat (first | (with_reducible first | exact HB.out | apply below_alloc | apply pw_below_drewN | apply below_drew1 | refine below_set ?_ GE172.out) | exact HB.out)⟩
    · replace c5 := Bool.eq_false_iff.mpr c5
      subst c5
      have H1 : (some false) = some r := by rw [if_neg (show ¬ (false = true) by decide)] at H; exact H
      clear H
      have H := H1
      clear H1
      obtain rfl := Option.some.inj H
      go_enter Try.func102, Try.ntmps102
      go_wp2_with (first | ((with_reducible refine gate_dst (N := 1) rfl ?_); refine box_event ?hg (N := 1) ?hd (cs := #[.int .i64 a0_0, .int .i64 a0_1, .int .i64 a0_2, .int .i64 a0_3, .int .i64 a0_4, .bool a0_5]) (t := 45) ?hr ?_; (case hd => rfl); (case hg => rfl); (case hr => first | (go_simp; done) | (go_simp; rfl)); intro gb172 hg w14 hbox hb; have n0_ := Aside0.mk (below_step (by repeat (first | (with_reducible first | exact HB.out | apply below_alloc | apply pw_below_drewN | apply below_drew1) | exact HB.out)) hb); have n1_ := Aside0.mk (hbox); have n2_ := Aside0.mk ((by rw [hg]; exact (below_size (by repeat (first | (with_reducible first | exact HB.out | apply below_alloc | apply pw_below_drewN | apply below_drew1) | exact HB.out))) : w.heap.size ≤ gb172)); have n3_ := Aside0.mk ((by rw [hg]; exact (below_size (by repeat (first | (with_reducible first | exact HB.out | apply below_alloc | apply pw_below_drewN | apply below_drew1) | exact HB.out))) : w.heap.size ≤ gb172)); clear HB; have HB := n0_; have BK172 := n1_; have GW172 := n2_; have GE172 := n3_; clear n0_ n1_ n2_ n3_; clear hb hbox hg; have hcz15_0 : w14.cell? ⟨gb172, 0, none⟩ = some (.int .i64 a0_0) := (blk_cell BK172.out 0).trans rfl; have hcz15_1 : w14.cell? ⟨gb172, 1, none⟩ = some (.int .i64 a0_1) := (blk_cell BK172.out 1).trans rfl; have hcz15_2 : w14.cell? ⟨gb172, 2, none⟩ = some (.int .i64 a0_2) := (blk_cell BK172.out 2).trans rfl; have hcz15_3 : w14.cell? ⟨gb172, 3, none⟩ = some (.int .i64 a0_3) := (blk_cell BK172.out 3).trans rfl; have hcz15_4 : w14.cell? ⟨gb172, 4, none⟩ = some (.int .i64 a0_4) := (blk_cell BK172.out 4).trans rfl; have hcz15_5 : w14.cell? ⟨gb172, 5, none⟩ = some (.bool a0_5) := (blk_cell BK172.out 5).trans rfl; have hfz15_0 := blk_frozen BK172.out 0; have hfz15_1 := blk_frozen BK172.out 1; have hfz15_2 := blk_frozen BK172.out 2; have hfz15_3 := blk_frozen BK172.out 3; have hfz15_4 := blk_frozen BK172.out 4; have hfz15_5 := blk_frozen BK172.out 5) | ((with_reducible refine gate_callee (f := 115) rfl ?_); refine goesL_ (some 5) rfl rfl Try.func115 (by kernel_rfl) rfl #[.int .i64 a0_0] rfl (by (try simp only [List.map_toArray, List.map_cons, List.map_nil]); first | done | rfl | (simp only [List.length_drop, List.length_take]; rfl)) ?_; (with_reducible refine (impl_isFactor.calls a0_0 true _ A2.out).mono ?_); rintro e w' ⟨rfl, ⟨nd, rfl⟩⟩; refine ⟨_, rfl, ?_⟩) | (go_at_call 115; (with_reducible refine (impl_isFactor.calls a0_1 false _ A4.out).mono ?_); rintro e w' ⟨rfl, ⟨nd, rfl⟩⟩))
      go_ret
      exact ⟨by first | rfl | (simp [errW_none, errW_some] <;> rfl) | (simp [*, errW_none, errW_some] <;> rfl), by repeat (first | (with_reducible first | exact HB.out | apply below_alloc | apply pw_below_drewN | apply below_drew1 | refine below_set ?_ GE172.out) | exact HB.out)⟩
  · replace c3 := Bool.eq_false_iff.mpr c3
    subst c3
    have H1 : (some false) = some r := by rw [if_neg (show ¬ (false = true) by decide)] at H; exact H
    clear H
    have H := H1
    clear H1
    obtain rfl := Option.some.inj H
    go_enter Try.func102, Try.ntmps102
    go_wp2_with (first | ((with_reducible refine gate_dst (N := 1) rfl ?_); refine box_event ?hg (N := 1) ?hd (cs := #[.int .i64 a0_0, .int .i64 a0_1, .int .i64 a0_2, .int .i64 a0_3, .int .i64 a0_4, .bool a0_5]) (t := 45) ?hr ?_; (case hd => rfl); (case hg => rfl); (case hr => first | (go_simp; done) | (go_simp; rfl)); intro gb172 hg w16 hbox hb; have n0_ := Aside0.mk (below_step (by repeat (first | (with_reducible first | exact HB.out | apply below_alloc | apply pw_below_drewN | apply below_drew1) | exact HB.out)) hb); have n1_ := Aside0.mk (hbox); have n2_ := Aside0.mk ((by rw [hg]; exact (below_size (by repeat (first | (with_reducible first | exact HB.out | apply below_alloc | apply pw_below_drewN | apply below_drew1) | exact HB.out))) : w.heap.size ≤ gb172)); have n3_ := Aside0.mk ((by rw [hg]; exact (below_size (by repeat (first | (with_reducible first | exact HB.out | apply below_alloc | apply pw_below_drewN | apply below_drew1) | exact HB.out))) : w.heap.size ≤ gb172)); clear HB; have HB := n0_; have BK172 := n1_; have GW172 := n2_; have GE172 := n3_; clear n0_ n1_ n2_ n3_; clear hb hbox hg; have hcz17_0 : w16.cell? ⟨gb172, 0, none⟩ = some (.int .i64 a0_0) := (blk_cell BK172.out 0).trans rfl; have hcz17_1 : w16.cell? ⟨gb172, 1, none⟩ = some (.int .i64 a0_1) := (blk_cell BK172.out 1).trans rfl; have hcz17_2 : w16.cell? ⟨gb172, 2, none⟩ = some (.int .i64 a0_2) := (blk_cell BK172.out 2).trans rfl; have hcz17_3 : w16.cell? ⟨gb172, 3, none⟩ = some (.int .i64 a0_3) := (blk_cell BK172.out 3).trans rfl; have hcz17_4 : w16.cell? ⟨gb172, 4, none⟩ = some (.int .i64 a0_4) := (blk_cell BK172.out 4).trans rfl; have hcz17_5 : w16.cell? ⟨gb172, 5, none⟩ = some (.bool a0_5) := (blk_cell BK172.out 5).trans rfl; have hfz17_0 := blk_frozen BK172.out 0; have hfz17_1 := blk_frozen BK172.out 1; have hfz17_2 := blk_frozen BK172.out 2; have hfz17_3 := blk_frozen BK172.out 3; have hfz17_4 := blk_frozen BK172.out 4; have hfz17_5 := blk_frozen BK172.out 5) | ((with_reducible refine gate_callee (f := 115) rfl ?_); refine goesL_ (some 5) rfl rfl Try.func115 (by kernel_rfl) rfl #[.int .i64 a0_0] rfl (by (try simp only [List.map_toArray, List.map_cons, List.map_nil]); first | done | rfl | (simp only [List.length_drop, List.length_take]; rfl)) ?_; (with_reducible refine (impl_isFactor.calls a0_0 false _ A2.out).mono ?_); rintro e w' ⟨rfl, ⟨nd, rfl⟩⟩; refine ⟨_, rfl, ?_⟩))
    go_ret
    exact ⟨by first | rfl | (simp [errW_none, errW_some] <;> rfl) | (simp [*, errW_none, errW_some] <;> rfl), by repeat (first | (with_reducible first | exact HB.out | apply below_alloc | apply pw_below_drewN | apply below_drew1 | refine below_set ?_ GE172.out) | exact HB.out)⟩

/-! ### impl_Second_isAt: function 65 -/
def impl_Second_isAt.f (a0_0 : Int) (a0_1 : Int) (a0_2 : Int) (a0_3 : Int) (a0_4 : Int) (a0_5 : Bool) (a1 : Int) (a2 : Int) : Option (Bool) := (impl_isSecond.f a0_0 a0_1 a0_2 a0_3 a0_4 a0_5).bind fun t178 => (if t178 = true then ((impl_Word_has.f a0_4 a0_5 a1).bind fun t179 => (if t179 = true then ((impl_Word_has.f a0_4 a0_5 a2).bind fun t180 => (some t180)) else (some false))) else (some false))
set_option maxHeartbeats 8000000 in
set_option maxRecDepth 100000 in
theorem impl_Second_isAt.calls (a0_0 : Int) (a0_1 : Int) (a0_2 : Int) (a0_3 : Int) (a0_4 : Int) (a0_5 : Bool) (a1 : Int) (a2 : Int) (r : Bool) (w : World) (h : impl_Second_isAt.f a0_0 a0_1 a0_2 a0_3 a0_4 a0_5 a1 a2 = some r) :
    Calls Try.prog 65 #[.agg #[.int .i64 a0_0, .int .i64 a0_1, .int .i64 a0_2, .int .i64 a0_3, .int .i64 a0_4, .bool a0_5], .int .i64 a1, .int .i64 a2] w fun e w' => e = .returned (.bool r) ∧ Below w.heap.size w w' := by
  have hu45 := Try.underlying45
  have hu28 := Try.underlying28
  have HB := Aside0.mk (Below.refl w.heap.size w)
  have H : ((impl_isSecond.f a0_0 a0_1 a0_2 a0_3 a0_4 a0_5).bind fun t178 => (if t178 = true then ((impl_Word_has.f a0_4 a0_5 a1).bind fun t179 => (if t179 = true then ((impl_Word_has.f a0_4 a0_5 a2).bind fun t180 => (some t180)) else (some false))) else (some false))) = some r := h
  clear h
  replace H := Option.bind_eq_some_iff.mp H
  obtain ⟨t178, A40, H⟩ := H
  replace H : (if t178 = true then ((impl_Word_has.f a0_4 a0_5 a1).bind fun t179 => (if t179 = true then ((impl_Word_has.f a0_4 a0_5 a2).bind fun t180 => (some t180)) else (some false))) else (some false)) = some r := H
  have A4 := Aside0.mk A40
  clear A40
  by_cases c5 : t178 = true
  · subst c5
    have H1 : ((impl_Word_has.f a0_4 a0_5 a1).bind fun t179 => (if t179 = true then ((impl_Word_has.f a0_4 a0_5 a2).bind fun t180 => (some t180)) else (some false))) = some r := by rw [if_pos rfl] at H; exact H
    clear H
    have H := H1
    clear H1
    replace H := Option.bind_eq_some_iff.mp H
    obtain ⟨t179, A60, H⟩ := H
    replace H : (if t179 = true then ((impl_Word_has.f a0_4 a0_5 a2).bind fun t180 => (some t180)) else (some false)) = some r := H
    have A6 := Aside0.mk A60
    clear A60
    by_cases c7 : t179 = true
    · subst c7
      have H1 : ((impl_Word_has.f a0_4 a0_5 a2).bind fun t180 => (some t180)) = some r := by rw [if_pos rfl] at H; exact H
      clear H
      have H := H1
      clear H1
      replace H := Option.bind_eq_some_iff.mp H
      obtain ⟨t180, A80, H⟩ := H
      replace H : (some t180) = some r := H
      have A8 := Aside0.mk A80
      clear A80
      obtain rfl := Option.some.inj H
      go_enter Try.func65, Try.ntmps65
      go_wp2_with (first | ((with_reducible refine gate_dst (N := 3) rfl ?_); refine box_event ?hg (N := 3) ?hd (cs := #[.int .i64 a0_0, .int .i64 a0_1, .int .i64 a0_2, .int .i64 a0_3, .int .i64 a0_4, .bool a0_5]) (t := 45) ?hr ?_; (case hd => rfl); (case hg => rfl); (case hr => first | (go_simp; done) | (go_simp; rfl)); intro gb177 hg w9 hbox hb; have n0_ := Aside0.mk (below_step (by repeat (first | (with_reducible first | exact HB.out | apply below_alloc | apply pw_below_drewN | apply below_drew1) | exact HB.out)) hb); have n1_ := Aside0.mk (hbox); have n2_ := Aside0.mk ((by rw [hg]; exact (below_size (by repeat (first | (with_reducible first | exact HB.out | apply below_alloc | apply pw_below_drewN | apply below_drew1) | exact HB.out))) : w.heap.size ≤ gb177)); have n3_ := Aside0.mk ((by rw [hg]; exact (below_size (by repeat (first | (with_reducible first | exact HB.out | apply below_alloc | apply pw_below_drewN | apply below_drew1) | exact HB.out))) : w.heap.size ≤ gb177)); clear HB; have HB := n0_; have BK177 := n1_; have GW177 := n2_; have GE177 := n3_; clear n0_ n1_ n2_ n3_; clear hb hbox hg; have hcz10_0 : w9.cell? ⟨gb177, 0, none⟩ = some (.int .i64 a0_0) := (blk_cell BK177.out 0).trans rfl; have hcz10_1 : w9.cell? ⟨gb177, 1, none⟩ = some (.int .i64 a0_1) := (blk_cell BK177.out 1).trans rfl; have hcz10_2 : w9.cell? ⟨gb177, 2, none⟩ = some (.int .i64 a0_2) := (blk_cell BK177.out 2).trans rfl; have hcz10_3 : w9.cell? ⟨gb177, 3, none⟩ = some (.int .i64 a0_3) := (blk_cell BK177.out 3).trans rfl; have hcz10_4 : w9.cell? ⟨gb177, 4, none⟩ = some (.int .i64 a0_4) := (blk_cell BK177.out 4).trans rfl; have hcz10_5 : w9.cell? ⟨gb177, 5, none⟩ = some (.bool a0_5) := (blk_cell BK177.out 5).trans rfl; have hfz10_0 := blk_frozen BK177.out 0; have hfz10_1 := blk_frozen BK177.out 1; have hfz10_2 := blk_frozen BK177.out 2; have hfz10_3 := blk_frozen BK177.out 3; have hfz10_4 := blk_frozen BK177.out 4; have hfz10_5 := blk_frozen BK177.out 5) | ((with_reducible refine gate_callee (f := 102) rfl ?_); refine goesL_ (some 8) rfl rfl Try.func102 (by kernel_rfl) rfl #[.agg #[.int .i64 a0_0, .int .i64 a0_1, .int .i64 a0_2, .int .i64 a0_3, .int .i64 a0_4, .bool a0_5]] rfl (by (try simp only [List.map_toArray, List.map_cons, List.map_nil]); first | done | rfl | (simp only [List.length_drop, List.length_take]; rfl)) ?_; (with_reducible refine (impl_isSecond.calls a0_0 a0_1 a0_2 a0_3 a0_4 a0_5 true _ A4.out).mono ?_); rintro e w11 ⟨rfl, hb⟩; refine ⟨_, rfl, ?_⟩; have n0_ := Aside0.mk (blk_below (g := gb177) (o := .cells #[.int .i64 a0_0, .int .i64 a0_1, .int .i64 a0_2, .int .i64 a0_3, .int .i64 a0_4, .bool a0_5] 45 (0, 0)) (by (with_reducible repeat (first | refine blk_drewN ?_ _ | refine blk_drew ?_ | refine blk_alloc ?_ _)); exact BK177.out) hb); have n1_ := Aside0.mk (below_step (by repeat (first | (with_reducible first | exact HB.out | apply below_alloc | apply pw_below_drewN | apply below_drew1 | refine below_set ?_ GE177.out) | exact HB.out)) hb); clear BK177; clear HB; have BK177 := n0_; have HB := n1_; clear n0_ n1_; (try clear hb); (try clear hb2); (try clear hk); (try clear hi); have hcz12_0 : w11.cell? ⟨gb177, 0, none⟩ = some (.int .i64 a0_0) := (blk_cell BK177.out 0).trans rfl; have hcz12_1 : w11.cell? ⟨gb177, 1, none⟩ = some (.int .i64 a0_1) := (blk_cell BK177.out 1).trans rfl; have hcz12_2 : w11.cell? ⟨gb177, 2, none⟩ = some (.int .i64 a0_2) := (blk_cell BK177.out 2).trans rfl; have hcz12_3 : w11.cell? ⟨gb177, 3, none⟩ = some (.int .i64 a0_3) := (blk_cell BK177.out 3).trans rfl; have hcz12_4 : w11.cell? ⟨gb177, 4, none⟩ = some (.int .i64 a0_4) := (blk_cell BK177.out 4).trans rfl; have hcz12_5 : w11.cell? ⟨gb177, 5, none⟩ = some (.bool a0_5) := (blk_cell BK177.out 5).trans rfl; have hfz12_0 := blk_frozen BK177.out 0; have hfz12_1 := blk_frozen BK177.out 1; have hfz12_2 := blk_frozen BK177.out 2; have hfz12_3 := blk_frozen BK177.out 3; have hfz12_4 := blk_frozen BK177.out 4; have hfz12_5 := blk_frozen BK177.out 5) | (go_at_call 80; (with_reducible refine (impl_Word_has.calls a0_4 a0_5 a1 true _ A6.out).mono ?_); rintro e w13 ⟨rfl, hb⟩; have n0_ := Aside0.mk (blk_below (g := gb177) (o := .cells #[.int .i64 a0_0, .int .i64 a0_1, .int .i64 a0_2, .int .i64 a0_3, .int .i64 a0_4, .bool a0_5] 45 (0, 0)) (by (with_reducible repeat (first | refine blk_drewN ?_ _ | refine blk_drew ?_ | refine blk_alloc ?_ _)); exact BK177.out) hb); have n1_ := Aside0.mk (below_step (by repeat (first | (with_reducible first | exact HB.out | apply below_alloc | apply pw_below_drewN | apply below_drew1 | refine below_set ?_ GE177.out) | exact HB.out)) hb); clear BK177; clear HB; have BK177 := n0_; have HB := n1_; clear n0_ n1_; (try clear hb); (try clear hb2); (try clear hk); (try clear hi); have hcz14_0 : w13.cell? ⟨gb177, 0, none⟩ = some (.int .i64 a0_0) := (blk_cell BK177.out 0).trans rfl; have hcz14_1 : w13.cell? ⟨gb177, 1, none⟩ = some (.int .i64 a0_1) := (blk_cell BK177.out 1).trans rfl; have hcz14_2 : w13.cell? ⟨gb177, 2, none⟩ = some (.int .i64 a0_2) := (blk_cell BK177.out 2).trans rfl; have hcz14_3 : w13.cell? ⟨gb177, 3, none⟩ = some (.int .i64 a0_3) := (blk_cell BK177.out 3).trans rfl; have hcz14_4 : w13.cell? ⟨gb177, 4, none⟩ = some (.int .i64 a0_4) := (blk_cell BK177.out 4).trans rfl; have hcz14_5 : w13.cell? ⟨gb177, 5, none⟩ = some (.bool a0_5) := (blk_cell BK177.out 5).trans rfl; have hfz14_0 := blk_frozen BK177.out 0; have hfz14_1 := blk_frozen BK177.out 1; have hfz14_2 := blk_frozen BK177.out 2; have hfz14_3 := blk_frozen BK177.out 3; have hfz14_4 := blk_frozen BK177.out 4; have hfz14_5 := blk_frozen BK177.out 5) | (go_at_call 80; (with_reducible refine (impl_Word_has.calls a0_4 a0_5 a2 t180 _ A8.out).mono ?_); rintro e w15 ⟨rfl, hb⟩; have n0_ := Aside0.mk (blk_below (g := gb177) (o := .cells #[.int .i64 a0_0, .int .i64 a0_1, .int .i64 a0_2, .int .i64 a0_3, .int .i64 a0_4, .bool a0_5] 45 (0, 0)) (by (with_reducible repeat (first | refine blk_drewN ?_ _ | refine blk_drew ?_ | refine blk_alloc ?_ _)); exact BK177.out) hb); have n1_ := Aside0.mk (below_step (by repeat (first | (with_reducible first | exact HB.out | apply below_alloc | apply pw_below_drewN | apply below_drew1 | refine below_set ?_ GE177.out) | exact HB.out)) hb); clear BK177; clear HB; have BK177 := n0_; have HB := n1_; clear n0_ n1_; (try clear hb); (try clear hb2); (try clear hk); (try clear hi)))
      go_ret
      exact ⟨by first | rfl | (simp [errW_none, errW_some] <;> rfl) | (simp [*, errW_none, errW_some] <;> rfl), by repeat (first | (with_reducible first | exact HB.out | apply below_alloc | apply pw_below_drewN | apply below_drew1 | refine below_set ?_ GE177.out) | exact HB.out)⟩
    · replace c7 := Bool.eq_false_iff.mpr c7
      subst c7
      have H1 : (some false) = some r := by rw [if_neg (show ¬ (false = true) by decide)] at H; exact H
      clear H
      have H := H1
      clear H1
      obtain rfl := Option.some.inj H
      go_enter Try.func65, Try.ntmps65
      go_wp2_with (first | ((with_reducible refine gate_dst (N := 3) rfl ?_); refine box_event ?hg (N := 3) ?hd (cs := #[.int .i64 a0_0, .int .i64 a0_1, .int .i64 a0_2, .int .i64 a0_3, .int .i64 a0_4, .bool a0_5]) (t := 45) ?hr ?_; (case hd => rfl); (case hg => rfl); (case hr => first | (go_simp; done) | (go_simp; rfl)); intro gb177 hg w16 hbox hb; have n0_ := Aside0.mk (below_step (by repeat (first | (with_reducible first | exact HB.out | apply below_alloc | apply pw_below_drewN | apply below_drew1) | exact HB.out)) hb); have n1_ := Aside0.mk (hbox); have n2_ := Aside0.mk ((by rw [hg]; exact (below_size (by repeat (first | (with_reducible first | exact HB.out | apply below_alloc | apply pw_below_drewN | apply below_drew1) | exact HB.out))) : w.heap.size ≤ gb177)); have n3_ := Aside0.mk ((by rw [hg]; exact (below_size (by repeat (first | (with_reducible first | exact HB.out | apply below_alloc | apply pw_below_drewN | apply below_drew1) | exact HB.out))) : w.heap.size ≤ gb177)); clear HB; have HB := n0_; have BK177 := n1_; have GW177 := n2_; have GE177 := n3_; clear n0_ n1_ n2_ n3_; clear hb hbox hg; have hcz17_0 : w16.cell? ⟨gb177, 0, none⟩ = some (.int .i64 a0_0) := (blk_cell BK177.out 0).trans rfl; have hcz17_1 : w16.cell? ⟨gb177, 1, none⟩ = some (.int .i64 a0_1) := (blk_cell BK177.out 1).trans rfl; have hcz17_2 : w16.cell? ⟨gb177, 2, none⟩ = some (.int .i64 a0_2) := (blk_cell BK177.out 2).trans rfl; have hcz17_3 : w16.cell? ⟨gb177, 3, none⟩ = some (.int .i64 a0_3) := (blk_cell BK177.out 3).trans rfl; have hcz17_4 : w16.cell? ⟨gb177, 4, none⟩ = some (.int .i64 a0_4) := (blk_cell BK177.out 4).trans rfl; have hcz17_5 : w16.cell? ⟨gb177, 5, none⟩ = some (.bool a0_5) := (blk_cell BK177.out 5).trans rfl; have hfz17_0 := blk_frozen BK177.out 0; have hfz17_1 := blk_frozen BK177.out 1; have hfz17_2 := blk_frozen BK177.out 2; have hfz17_3 := blk_frozen BK177.out 3; have hfz17_4 := blk_frozen BK177.out 4; have hfz17_5 := blk_frozen BK177.out 5) | ((with_reducible refine gate_callee (f := 102) rfl ?_); refine goesL_ (some 8) rfl rfl Try.func102 (by kernel_rfl) rfl #[.agg #[.int .i64 a0_0, .int .i64 a0_1, .int .i64 a0_2, .int .i64 a0_3, .int .i64 a0_4, .bool a0_5]] rfl (by (try simp only [List.map_toArray, List.map_cons, List.map_nil]); first | done | rfl | (simp only [List.length_drop, List.length_take]; rfl)) ?_; (with_reducible refine (impl_isSecond.calls a0_0 a0_1 a0_2 a0_3 a0_4 a0_5 true _ A4.out).mono ?_); rintro e w18 ⟨rfl, hb⟩; refine ⟨_, rfl, ?_⟩; have n0_ := Aside0.mk (blk_below (g := gb177) (o := .cells #[.int .i64 a0_0, .int .i64 a0_1, .int .i64 a0_2, .int .i64 a0_3, .int .i64 a0_4, .bool a0_5] 45 (0, 0)) (by (with_reducible repeat (first | refine blk_drewN ?_ _ | refine blk_drew ?_ | refine blk_alloc ?_ _)); exact BK177.out) hb); have n1_ := Aside0.mk (below_step (by repeat (first | (with_reducible first | exact HB.out | apply below_alloc | apply pw_below_drewN | apply below_drew1 | refine below_set ?_ GE177.out) | exact HB.out)) hb); clear BK177; clear HB; have BK177 := n0_; have HB := n1_; clear n0_ n1_; (try clear hb); (try clear hb2); (try clear hk); (try clear hi); have hcz19_0 : w18.cell? ⟨gb177, 0, none⟩ = some (.int .i64 a0_0) := (blk_cell BK177.out 0).trans rfl; have hcz19_1 : w18.cell? ⟨gb177, 1, none⟩ = some (.int .i64 a0_1) := (blk_cell BK177.out 1).trans rfl; have hcz19_2 : w18.cell? ⟨gb177, 2, none⟩ = some (.int .i64 a0_2) := (blk_cell BK177.out 2).trans rfl; have hcz19_3 : w18.cell? ⟨gb177, 3, none⟩ = some (.int .i64 a0_3) := (blk_cell BK177.out 3).trans rfl; have hcz19_4 : w18.cell? ⟨gb177, 4, none⟩ = some (.int .i64 a0_4) := (blk_cell BK177.out 4).trans rfl; have hcz19_5 : w18.cell? ⟨gb177, 5, none⟩ = some (.bool a0_5) := (blk_cell BK177.out 5).trans rfl; have hfz19_0 := blk_frozen BK177.out 0; have hfz19_1 := blk_frozen BK177.out 1; have hfz19_2 := blk_frozen BK177.out 2; have hfz19_3 := blk_frozen BK177.out 3; have hfz19_4 := blk_frozen BK177.out 4; have hfz19_5 := blk_frozen BK177.out 5) | (go_at_call 80; (with_reducible refine (impl_Word_has.calls a0_4 a0_5 a1 false _ A6.out).mono ?_); rintro e w20 ⟨rfl, hb⟩; have n0_ := Aside0.mk (blk_below (g := gb177) (o := .cells #[.int .i64 a0_0, .int .i64 a0_1, .int .i64 a0_2, .int .i64 a0_3, .int .i64 a0_4, .bool a0_5] 45 (0, 0)) (by (with_reducible repeat (first | refine blk_drewN ?_ _ | refine blk_drew ?_ | refine blk_alloc ?_ _)); exact BK177.out) hb); have n1_ := Aside0.mk (below_step (by repeat (first | (with_reducible first | exact HB.out | apply below_alloc | apply pw_below_drewN | apply below_drew1 | refine below_set ?_ GE177.out) | exact HB.out)) hb); clear BK177; clear HB; have BK177 := n0_; have HB := n1_; clear n0_ n1_; (try clear hb); (try clear hb2); (try clear hk); (try clear hi)))
      go_ret
      exact ⟨by first | rfl | (simp [errW_none, errW_some] <;> rfl) | (simp [*, errW_none, errW_some] <;> rfl), by repeat (first | (with_reducible first | exact HB.out | apply below_alloc | apply pw_below_drewN | apply below_drew1 | refine below_set ?_ GE177.out) | exact HB.out)⟩
  · replace c5 := Bool.eq_false_iff.mpr c5
    subst c5
    have H1 : (some false) = some r := by rw [if_neg (show ¬ (false = true) by decide)] at H; exact H
    clear H
    have H := H1
    clear H1
    obtain rfl := Option.some.inj H
    go_enter Try.func65, Try.ntmps65
    go_wp2_with (first | ((with_reducible refine gate_dst (N := 3) rfl ?_); refine box_event ?hg (N := 3) ?hd (cs := #[.int .i64 a0_0, .int .i64 a0_1, .int .i64 a0_2, .int .i64 a0_3, .int .i64 a0_4, .bool a0_5]) (t := 45) ?hr ?_; (case hd => rfl); (case hg => rfl); (case hr => first | (go_simp; done) | (go_simp; rfl)); intro gb177 hg w21 hbox hb; have n0_ := Aside0.mk (below_step (by repeat (first | (with_reducible first | exact HB.out | apply below_alloc | apply pw_below_drewN | apply below_drew1) | exact HB.out)) hb); have n1_ := Aside0.mk (hbox); have n2_ := Aside0.mk ((by rw [hg]; exact (below_size (by repeat (first | (with_reducible first | exact HB.out | apply below_alloc | apply pw_below_drewN | apply below_drew1) | exact HB.out))) : w.heap.size ≤ gb177)); have n3_ := Aside0.mk ((by rw [hg]; exact (below_size (by repeat (first | (with_reducible first | exact HB.out | apply below_alloc | apply pw_below_drewN | apply below_drew1) | exact HB.out))) : w.heap.size ≤ gb177)); clear HB; have HB := n0_; have BK177 := n1_; have GW177 := n2_; have GE177 := n3_; clear n0_ n1_ n2_ n3_; clear hb hbox hg; have hcz22_0 : w21.cell? ⟨gb177, 0, none⟩ = some (.int .i64 a0_0) := (blk_cell BK177.out 0).trans rfl; have hcz22_1 : w21.cell? ⟨gb177, 1, none⟩ = some (.int .i64 a0_1) := (blk_cell BK177.out 1).trans rfl; have hcz22_2 : w21.cell? ⟨gb177, 2, none⟩ = some (.int .i64 a0_2) := (blk_cell BK177.out 2).trans rfl; have hcz22_3 : w21.cell? ⟨gb177, 3, none⟩ = some (.int .i64 a0_3) := (blk_cell BK177.out 3).trans rfl; have hcz22_4 : w21.cell? ⟨gb177, 4, none⟩ = some (.int .i64 a0_4) := (blk_cell BK177.out 4).trans rfl; have hcz22_5 : w21.cell? ⟨gb177, 5, none⟩ = some (.bool a0_5) := (blk_cell BK177.out 5).trans rfl; have hfz22_0 := blk_frozen BK177.out 0; have hfz22_1 := blk_frozen BK177.out 1; have hfz22_2 := blk_frozen BK177.out 2; have hfz22_3 := blk_frozen BK177.out 3; have hfz22_4 := blk_frozen BK177.out 4; have hfz22_5 := blk_frozen BK177.out 5) | ((with_reducible refine gate_callee (f := 102) rfl ?_); refine goesL_ (some 8) rfl rfl Try.func102 (by kernel_rfl) rfl #[.agg #[.int .i64 a0_0, .int .i64 a0_1, .int .i64 a0_2, .int .i64 a0_3, .int .i64 a0_4, .bool a0_5]] rfl (by (try simp only [List.map_toArray, List.map_cons, List.map_nil]); first | done | rfl | (simp only [List.length_drop, List.length_take]; rfl)) ?_; (with_reducible refine (impl_isSecond.calls a0_0 a0_1 a0_2 a0_3 a0_4 a0_5 false _ A4.out).mono ?_); rintro e w23 ⟨rfl, hb⟩; refine ⟨_, rfl, ?_⟩; have n0_ := Aside0.mk (blk_below (g := gb177) (o := .cells #[.int .i64 a0_0, .int .i64 a0_1, .int .i64 a0_2, .int .i64 a0_3, .int .i64 a0_4, .bool a0_5] 45 (0, 0)) (by (with_reducible repeat (first | refine blk_drewN ?_ _ | refine blk_drew ?_ | refine blk_alloc ?_ _)); exact BK177.out) hb); have n1_ := Aside0.mk (below_step (by repeat (first | (with_reducible first | exact HB.out | apply below_alloc | apply pw_below_drewN | apply below_drew1 | refine below_set ?_ GE177.out) | exact HB.out)) hb); clear BK177; clear HB; have BK177 := n0_; have HB := n1_; clear n0_ n1_; (try clear hb); (try clear hb2); (try clear hk); (try clear hi)))
    go_ret
    exact ⟨by first | rfl | (simp [errW_none, errW_some] <;> rfl) | (simp [*, errW_none, errW_some] <;> rfl), by repeat (first | (with_reducible first | exact HB.out | apply below_alloc | apply pw_below_drewN | apply below_drew1 | refine below_set ?_ GE177.out) | exact HB.out)⟩

/-! ### impl_ExactSecond: function 26 -/
def impl_ExactSecond.next (a c s m b : Int) (p : Bool) (i : Int) (y l : Int) : Int := if i = 0 then wrap64 (wrap64 (a * y) + wrap64 (c * l)) else wrap64 (wrap64 (a * y) + wrap64 (shl .i64 c s * l))
def impl_ExactSecond.l0 : Nat → Int → Int → Int → Int → Int → Bool → List Int → List Int → Int → Int → Int → Int → Option (List Int × Bool)
  | 0, _, _, _, _, _, _, _, _, _, _, _, _ => none
  | k + 1, a, c, s, m, b, p, S, out, sc, y, l, i => if i < (S.length : Int) then (if 0 ≤ i then (if 0 ≤ s then ((impl_isNumber.f (shl .i64 sc s)).bind fun t1 => if t1 = true then ((impl_isNumber.f (wrap64 (impl_ExactSecond.next a c s m b p i y l + wrap64 (rd S i * shl .i64 sc s)))).bind fun t2 => if t2 = true then (if out.length < 17592186044416 then (impl_ExactSecond.l0 k a c s m b p S (out ++ [wrap64 (impl_ExactSecond.next a c s m b p i y l + wrap64 (rd S i * shl .i64 sc s))]) (shl .i64 sc s) (wrap64 (impl_ExactSecond.next a c s m b p i y l + wrap64 (rd S i * shl .i64 sc s))) y (wrap64 (i + 1))) else (none)) else (some (([] : List Int), false))) else (some (([] : List Int), false))) else (none)) else (none)) else (some (out, true))
theorem impl_ExactSecond.mono_l : ∀ k, (∀ a c s m b p S out sc y l i, LeO (impl_ExactSecond.l0 k a c s m b p S out sc y l i) (impl_ExactSecond.l0 (k + 1) a c s m b p S out sc y l i))
  | 0 => fun _ _ _ _ _ _ _ _ _ _ _ _ r h => by simp [impl_ExactSecond.l0] at h
  | k + 1 => by
    have ih0 := impl_ExactSecond.mono_l k
    · intro a c s m b p S out sc y l i
      unfold impl_ExactSecond.l0
      repeat' first
      | (with_reducible exact ih0 _ _ _ _ _ _ _ _ _ _ _ _)
      | (with_reducible exact LeO.refl _)
      | (with_reducible exact LeO.none _)
      | (with_reducible refine LeO.ite ?_ ?_)
      | (with_reducible refine LeO.bind ?_ (fun _ => ?_))
      | exact ih0 _ _ _ _ _ _ _ _ _ _ _ _
      | exact LeO.none _
      | refine LeO.ite ?_ ?_
      | refine LeO.bind ?_ (fun _ => ?_)
/-- What the captured variables hold, the row that grows beside them. -/
def impl_ExactSecond.St (w0 W : World) (Bf By Bl : Nat) (a c s m b : Int) (p : Bool) (y l : Int) (v : Value) (out : List Int) : Prop :=
  W.heap[Bf]? = some (.cells #[.int .i64 a, .int .i64 c, .int .i64 s, .int .i64 m, .int .i64 b, .bool p] 45 (0, 0)) ∧ W.heap[By]? = some (.cells #[.int .i64 y] 3 (0, 0)) ∧ W.heap[Bl]? = some (.cells #[.int .i64 l] 3 (0, 0)) ∧
    Kd.R (Kd.int .i64) 3 W w0.heap.size (fun k_ => k_ ≠ By ∧ k_ ≠ Bl ∧ k_ ≠ Bf) v out ∧ Below w0.heap.size w0 W
theorem impl_ExactSecond.St.mk {w0 W : World} {Bf By Bl : Nat} {a c s m b : Int} {p : Bool} {y l : Int} {v : Value} {out : List Int} (h : W.heap[Bf]? = some (.cells #[.int .i64 a, .int .i64 c, .int .i64 s, .int .i64 m, .int .i64 b, .bool p] 45 (0, 0)) ∧ W.heap[By]? = some (.cells #[.int .i64 y] 3 (0, 0)) ∧ W.heap[Bl]? = some (.cells #[.int .i64 l] 3 (0, 0)) ∧
    Kd.R (Kd.int .i64) 3 W w0.heap.size (fun k_ => k_ ≠ By ∧ k_ ≠ Bl ∧ k_ ≠ Bf) v out ∧ Below w0.heap.size w0 W) : impl_ExactSecond.St w0 W Bf By Bl a c s m b p y l v out := h
theorem impl_ExactSecond.St.below {w0 W W1 : World} {Bf By Bl : Nat} {a c s m b : Int} {p : Bool} {y l : Int} {v : Value} {out : List Int} (h : impl_ExactSecond.St w0 W Bf By Bl a c s m b p y l v out) (hb : Below W.heap.size W W1) : impl_ExactSecond.St w0 W1 Bf By Bl a c s m b p y l v out :=
  ⟨blk_below h.1 hb, blk_below h.2.1 hb, blk_below h.2.2.1 hb, Kd.R_below h.2.2.2.1 hb, below_step h.2.2.2.2 hb⟩
def impl_ExactSecond.T0 : Bool × List (List Nat × List Nat) := (true, [([], []), ([0], [0]), ([], []), ([1, 2], [1, 2]), ([], []), ([4], [4]), ([], []), ([6], [6]), ([5, 7], [5, 7]), ([], []), ([8, 9], [8, 9]), ([3, 10], [3, 10]), ([11, 0, 1, 2, 3, 4, 5, 6, 7, 8, 9, 10, 11], [11])])
def impl_ExactSecond.B0 : List Nat := [0, 1, 0, 7, 0, 16, 0, 64, 240, 0, 1008, 2047, 4095]
theorem impl_ExactSecond.tab0 : rtab .any (opsOf Try.f66 3) = impl_ExactSecond.T0 := by kernel_rfl
theorem impl_ExactSecond.bits0 : waitsOk impl_ExactSecond.T0.2 impl_ExactSecond.B0 = true := by kernel_rfl
set_option maxHeartbeats 8000000 in
set_option maxRecDepth 100000 in
theorem impl_ExactSecond.nextC (w0 W : World) (Bf By Bl : Nat) (a c s m b : Int) (p : Bool) (i y l : Int) (v : Value) (out : List Int) (hs : 0 ≤ s) (h : impl_ExactSecond.St w0 W Bf By Bl a c s m b p y l v out) :
    Calls Try.prog 66 #[.int .i64 i, .pointer (some ⟨Bf, 0, none⟩), .pointer (some ⟨By, 0, none⟩), .pointer (some ⟨Bl, 0, none⟩)] W fun e W1 => e = .returned (.int .i64 (impl_ExactSecond.next a c s m b p i y l)) ∧ impl_ExactSecond.St w0 W1 Bf By Bl a c s m b p y l v out := by
  have hu45 := Try.underlying45
  have HS := Aside0.mk h
  have f0 : W.cell? ⟨Bf, 0, none⟩ = some (.int .i64 a) := (blk_cell h.1 0).trans rfl
  have f1 : W.cell? ⟨Bf, 1, none⟩ = some (.int .i64 c) := (blk_cell h.1 1).trans rfl
  have f2 : W.cell? ⟨Bf, 2, none⟩ = some (.int .i64 s) := (blk_cell h.1 2).trans rfl
  have f3 : W.cell? ⟨Bf, 3, none⟩ = some (.int .i64 m) := (blk_cell h.1 3).trans rfl
  have f4 : W.cell? ⟨Bf, 4, none⟩ = some (.int .i64 b) := (blk_cell h.1 4).trans rfl
  have f5 : W.cell? ⟨Bf, 5, none⟩ = some (.bool p) := (blk_cell h.1 5).trans rfl
  have xy : W.cell? ⟨By, 0, none⟩ = some (.int .i64 y) := (blk_cell h.2.1 0).trans rfl
  have xl : W.cell? ⟨Bl, 0, none⟩ = some (.int .i64 l) := (blk_cell h.2.2.1 0).trans rfl
  clear h
  have hsb := eq_true hs
  have hsc : decide (0 ≤ s) = true := decide_eq_true hs
  obtain ⟨ji, hji⟩ : ∃ j_ : Int, (shl .i64 c s) = j_ := ⟨_, rfl⟩
  have hji_ : (IntKind.i64.wrap (c * 2 ^ min s.toNat 64)) = ji := hji
  have hjiz : s ≤ 64 → (IntKind.i64.wrap (c * 2 ^ s.toNat)) = ji := shl_small hji
  have hjiy : (wrap64 (c * 2 ^ min s.toNat 64)) = ji := (i64_w _).symm.trans hji_
  have hjix : s ≤ 64 → (wrap64 (c * 2 ^ s.toNat)) = ji := fun h_ => (i64_w _).symm.trans (hjiz h_)
  unfold impl_ExactSecond.next
  rw [hji]
  by_cases c0 : i = 0
  · have c0b : (i == 0) = true := beq_iff_eq.mpr c0
    rw [if_pos c0]
    clear c0
    go_enter Try.func66, Try.ntmps66
    go_wp2
    go_ret
    exact ⟨rfl, impl_ExactSecond.St.below HS.out (by repeat (first | (with_reducible exact Below.refl _ _) | apply below_alloc | apply pw_below_drewN | apply below_drew1 | exact Below.refl _ _))⟩
  · have c0b : (i == 0) = false := beq_eq_false_iff_ne.mpr c0
    rw [if_neg c0]
    clear c0
    go_enter Try.func66, Try.ntmps66
    try go_wp2
    refine start_ (n := 13) (S := fun w' => w'.cell? ⟨Bf, 0, none⟩ = some (.int .i64 a) ∧ w'.cell? ⟨Bf, 1, none⟩ = some (.int .i64 c) ∧ w'.cell? ⟨Bf, 2, none⟩ = some (.int .i64 s) ∧ w'.cell? ⟨Bf, 3, none⟩ = some (.int .i64 m) ∧ w'.cell? ⟨Bf, 4, none⟩ = some (.int .i64 b) ∧ w'.cell? ⟨Bf, 5, none⟩ = some (.bool p) ∧ w'.cell? ⟨By, 0, none⟩ = some (.int .i64 y) ∧ w'.cell? ⟨Bl, 0, none⟩ = some (.int .i64 l)) (ds := []) #[false, false, false, false, false, false, false, false, false, false, false, false, false] (by kernel_rfl) rfl rfl ⟨(blk_cell (by (with_reducible repeat (first | refine blk_drewN ?_ _ | refine blk_drew ?_)); exact HS.out.1) 0).trans rfl, (blk_cell (by (with_reducible repeat (first | refine blk_drewN ?_ _ | refine blk_drew ?_)); exact HS.out.1) 1).trans rfl, (blk_cell (by (with_reducible repeat (first | refine blk_drewN ?_ _ | refine blk_drew ?_)); exact HS.out.1) 2).trans rfl, (blk_cell (by (with_reducible repeat (first | refine blk_drewN ?_ _ | refine blk_drew ?_)); exact HS.out.1) 3).trans rfl, (blk_cell (by (with_reducible repeat (first | refine blk_drewN ?_ _ | refine blk_drew ?_)); exact HS.out.1) 4).trans rfl, (blk_cell (by (with_reducible repeat (first | refine blk_drewN ?_ _ | refine blk_drew ?_)); exact HS.out.1) 5).trans rfl, (blk_cell (by (with_reducible repeat (first | refine blk_drewN ?_ _ | refine blk_drew ?_)); exact HS.out.2.1) 0).trans rfl, (blk_cell (by (with_reducible repeat (first | refine blk_drewN ?_ _ | refine blk_drew ?_)); exact HS.out.2.2.1) 0).trans rfl⟩ (fun hHeld => ?_)
    refine with_tabW impl_ExactSecond.tab0 impl_ExactSecond.bits0 (fun HT_ HW_ => ?_)
    refine pure_ (i := 0) (N := some 17) (v := ?_) (a' := ?_) #[true, false, false, false, false, false, false, false, false, false, false, false, false] rfl rfl (any_of HT_.out (by kernel_rfl)) (fun _ _ _ h => h) (Or.inl ⟨by rfl, ?_⟩) ?_ ?_
    rotate_left
    · intro w'
      go_simp
      with_reducible rfl
    rotate_left
    · simp only [Act.put, List.setIfInBounds_toArray, List.set_cons_zero, List.set_cons_succ, i64_w, i32_w]
      rfl
    refine pure_ (i := 4) (N := some 21) (v := ?_) (a' := ?_) #[true, false, false, false, true, false, false, false, false, false, false, false, false] rfl rfl (any_of HT_.out (by kernel_rfl)) (fun _ _ _ h => h) (Or.inl ⟨by rfl, ?_⟩) ?_ ?_
    rotate_left
    · intro w'
      go_simp
      with_reducible rfl
    rotate_left
    · simp only [Act.put, List.setIfInBounds_toArray, List.set_cons_zero, List.set_cons_succ, i64_w, i32_w]
      rfl
    refine pure_ (i := 6) (N := some 23) (v := ?_) (a' := ?_) #[true, false, false, false, true, false, true, false, false, false, false, false, false] rfl rfl (any_of HT_.out (by kernel_rfl)) (fun _ _ _ h => h) (Or.inl ⟨by rfl, ?_⟩) ?_ ?_
    rotate_left
    · intro w'
      go_simp
      with_reducible rfl
    rotate_left
    · simp only [Act.put, List.setIfInBounds_toArray, List.set_cons_zero, List.set_cons_succ, i64_w, i32_w]
      rfl
    refine take_ (i := 1) (N := some 18) (v := ?_) (a' := ?_) #[true, true, false, false, true, false, true, false, false, false, false, false, false] rfl rfl (take_ofW HT_.out HW_.out (by kernel_rfl)) (fun _ _ _ h => h) (Or.inl ⟨by rfl, ?_⟩) hHeld ?_ ?_
    rotate_left
    · rintro w' ⟨s0, s1, s2, s3, s4, s5, s6, s7⟩
      go_simp
      with_reducible rfl
    rotate_left
    · simp only [Act.put, List.setIfInBounds_toArray, List.set_cons_zero, List.set_cons_succ, i64_w, i32_w]
      rfl
    refine take_ (i := 2) (N := some 19) (v := ?_) (a' := ?_) #[true, true, true, false, true, false, true, false, false, false, false, false, false] rfl rfl (take_ofW HT_.out HW_.out (by kernel_rfl)) (fun _ _ _ h => h) (Or.inl ⟨by rfl, ?_⟩) hHeld ?_ ?_
    rotate_left
    · rintro w' ⟨s0, s1, s2, s3, s4, s5, s6, s7⟩
      go_simp
      with_reducible rfl
    rotate_left
    · simp only [Act.put, List.setIfInBounds_toArray, List.set_cons_zero, List.set_cons_succ, i64_w, i32_w]
      rfl
    refine take_ (i := 5) (N := some 22) (v := ?_) (a' := ?_) #[true, true, true, false, true, true, true, false, false, false, false, false, false] rfl rfl (take_ofW HT_.out HW_.out (by kernel_rfl)) (fun _ _ _ h => h) (Or.inl ⟨by rfl, ?_⟩) hHeld ?_ ?_
    rotate_left
    · rintro w' ⟨s0, s1, s2, s3, s4, s5, s6, s7⟩
      go_simp
      with_reducible rfl
    rotate_left
    · simp only [Act.put, List.setIfInBounds_toArray, List.set_cons_zero, List.set_cons_succ, i64_w, i32_w]
      rfl
    refine take_ (i := 7) (N := some 24) (v := ?_) (a' := ?_) #[true, true, true, false, true, true, true, true, false, false, false, false, false] rfl rfl (take_ofW HT_.out HW_.out (by kernel_rfl)) (fun _ _ _ h => h) (Or.inl ⟨by rfl, ?_⟩) hHeld ?_ ?_
    rotate_left
    · rintro w' ⟨s0, s1, s2, s3, s4, s5, s6, s7⟩
      go_simp
      with_reducible rfl
    rotate_left
    · simp only [Act.put, List.setIfInBounds_toArray, List.set_cons_zero, List.set_cons_succ, i64_w, i32_w]
      rfl
    refine take_ (i := 9) (N := some 26) (v := ?_) (a' := ?_) #[true, true, true, false, true, true, true, true, false, true, false, false, false] rfl rfl (take_ofW HT_.out HW_.out (by kernel_rfl)) (fun _ _ _ h => h) (Or.inl ⟨by rfl, ?_⟩) hHeld ?_ ?_
    rotate_left
    · rintro w' ⟨s0, s1, s2, s3, s4, s5, s6, s7⟩
      go_simp
      with_reducible rfl
    rotate_left
    · simp only [Act.put, List.setIfInBounds_toArray, List.set_cons_zero, List.set_cons_succ, i64_w, i32_w]
      rfl
    refine pure_ (i := 3) (N := some 20) (v := ?_) (a' := ?_) #[true, true, true, true, true, true, true, true, false, true, false, false, false] rfl rfl (any_of HT_.out (by kernel_rfl)) (fun _ _ _ h => h) (Or.inl ⟨by rfl, ?_⟩) ?_ ?_
    rotate_left
    · intro w'
      go_simp
      with_reducible rfl
    rotate_left
    · simp only [Act.put, List.setIfInBounds_toArray, List.set_cons_zero, List.set_cons_succ, i64_w, i32_w]
      rfl
    refine pure_ (i := 8) (N := some 25) (v := ?_) (a' := ?_) #[true, true, true, true, true, true, true, true, true, true, false, false, false] rfl rfl (any_of HT_.out (by kernel_rfl)) (fun _ _ _ h => h) (Or.inl ⟨by rfl, ?_⟩) ?_ ?_
    rotate_left
    · intro w'
      go_simp
      with_reducible rfl
    rotate_left
    · simp only [Act.put, List.setIfInBounds_toArray, List.set_cons_zero, List.set_cons_succ, i64_w, i32_w]
      rfl
    refine pure_ (i := 10) (N := some 27) (v := ?_) (a' := ?_) #[true, true, true, true, true, true, true, true, true, true, true, false, false] rfl rfl (any_of HT_.out (by kernel_rfl)) (fun _ _ _ h => h) (Or.inl ⟨by rfl, ?_⟩) ?_ ?_
    rotate_left
    · intro w'
      go_simp
      with_reducible rfl
    rotate_left
    · simp only [Act.put, List.setIfInBounds_toArray, List.set_cons_zero, List.set_cons_succ, i64_w, i32_w]
      rfl
    refine pure_ (i := 11) (N := some 28) (v := ?_) (a' := ?_) #[true, true, true, true, true, true, true, true, true, true, true, true, false] rfl rfl (any_of HT_.out (by kernel_rfl)) (fun _ _ _ h => h) (Or.inl ⟨by rfl, ?_⟩) ?_ ?_
    rotate_left
    · intro w'
      go_simp
      with_reducible rfl
    rotate_left
    · simp only [Act.put, List.setIfInBounds_toArray, List.set_cons_zero, List.set_cons_succ, i64_w, i32_w]
      rfl
    refine pure_ (i := 12) (N := some 5) (v := ?_) (a' := ?_) #[true, true, true, true, true, true, true, true, true, true, true, true, true] rfl rfl (any_of HT_.out (by kernel_rfl)) (fun _ _ _ h => h) (Or.inl ⟨by rfl, ?_⟩) ?_ ?_
    rotate_left
    · intro w'
      go_simp
      with_reducible rfl
    rotate_left
    · simp only [Act.put, List.setIfInBounds_toArray, List.set_cons_zero, List.set_cons_succ, i64_w, i32_w]
      rfl
    refine done_ (done_of HT_.out (by kernel_rfl)) ?_
    try go_wp2
    go_ret
    exact ⟨rfl, impl_ExactSecond.St.below HS.out (by repeat (first | (with_reducible exact Below.refl _ _) | apply below_alloc | apply pw_below_drewN | apply below_drew1 | exact Below.refl _ _))⟩
set_option maxHeartbeats 8000000 in
set_option maxRecDepth 100000 in
theorem impl_ExactSecond.takeC (w0 W : World) (Bf By Bl : Nat) (a c s m b : Int) (p : Bool) (now y l : Int) (v : Value) (out : List Int) (hBy : w0.heap.size ≤ By) (hBl : w0.heap.size ≤ Bl) (nBfBy : Bf ≠ By) (nBfBl : Bf ≠ Bl) (nByBl : By ≠ Bl) (h : impl_ExactSecond.St w0 W Bf By Bl a c s m b p y l v out) :
    Calls Try.prog 67 #[.int .i64 now, .pointer (some ⟨By, 0, none⟩), .pointer (some ⟨Bl, 0, none⟩)] W fun e W1 => e = .returned (.tuple #[]) ∧ impl_ExactSecond.St w0 W1 Bf By Bl a c s m b p now y v out := by
  have HS := Aside0.mk h
  have GBy := Aside0.mk hBy
  have GBl := Aside0.mk hBl
  have NBfBy := Aside0.mk nBfBy
  have NBfBl := Aside0.mk nBfBl
  have NByBl := Aside0.mk nByBl
  clear hBy hBl nBfBy nBfBl nByBl
  have xy : W.cell? ⟨By, 0, none⟩ = some (.int .i64 y) := (blk_cell h.2.1 0).trans rfl
  have zy := blk_frozen h.2.1 0
  have xl : W.cell? ⟨Bl, 0, none⟩ = some (.int .i64 l) := (blk_cell h.2.2.1 0).trans rfl
  have zl := blk_frozen h.2.2.1 0
  have q1_ := NByBl.out
  have q2_ := q1_.symm
  clear h
  go_enter Try.func67, Try.ntmps67
  go_wp2
  go_end0
  exact ⟨rfl, blk_far (blk_far HS.out.1 NBfBy.out _) NBfBl.out _, blk_far (blk_put HS.out.2.1 0 _ rfl) NByBl.out _, blk_put (blk_far HS.out.2.2.1 NByBl.out.symm _) 0 _ rfl, Kd.R_far (Kd.R_far HS.out.2.2.2.1 (p := ⟨By, 0, none⟩) (fun k_ hk_ => hk_.1) _) (p := ⟨Bl, 0, none⟩) (fun k_ hk_ => hk_.2.1) _, below_set (below_set HS.out.2.2.2.2 GBy.out) GBl.out⟩
set_option maxHeartbeats 8000000 in
set_option maxRecDepth 100000 in
theorem impl_ExactSecond.exact (k : Nat) (w0 W : World) (Bf By Bl : Nat) (a c s m b : Int) (p : Bool) (y l : Int) (A : Option Addr) (cq : Nat) (S r1 : List Int) (r2 : Bool) (h : impl_ExactSecond.St w0 W Bf By Bl a c s m b p y l (.slice none 0 0) []) (hBy : w0.heap.size ≤ By) (hBl : w0.heap.size ≤ Bl) (nBfBy : Bf ≠ By) (nBfBl : Bf ≠ Bl) (nByBl : By ≠ Bl)
    (hr : Kd.C (Kd.int .i64) w0 A S.length S) (hc : S.length ≤ cq) (hl : impl_ExactSecond.l0 k a c s m b p S [] 1 y l 0 = some (r1, r2)) :
    Calls Try.prog 49 #[.slice A S.length cq, .int .i64 s, .func (.func 66) #[] #[.pointer (some ⟨Bf, 0, none⟩), .pointer (some ⟨By, 0, none⟩), .pointer (some ⟨Bl, 0, none⟩)], .func (.func 67) #[] #[.pointer (some ⟨By, 0, none⟩), .pointer (some ⟨Bl, 0, none⟩)]] W fun e W1 => ∃ v0_ : Value, e = .returned (.tuple #[v0_, .bool r2]) ∧ Kd.R (Kd.int .i64) 3 W1 w0.heap.size (fun _ => True) v0_ r1 ∧ Below w0.heap.size w0 W1 := by
  have hu33 := Try.underlying33
  have AL := Aside0.mk hl
  have HS := Aside0.mk h
  have HR := Aside0.mk hr
  have HC := Aside0.mk hc
  clear h hl hr hc
  have GBy := Aside0.mk hBy
  have GBl := Aside0.mk hBl
  have NBfBy := Aside0.mk nBfBy
  have NBfBl := Aside0.mk nBfBl
  have NByBl := Aside0.mk nByBl
  clear hBy hBl nBfBy nBfBl nByBl
  go_enter Try.func49, Try.ntmps49
  go_wp2_with (first | ((with_reducible refine gate_dst (N := 15) rfl ?_); refine Kd.R_lit (Kd.int .i64) (w0 := w0) w0.heap.size 3 ?hg (N := 15) ?hd (xs := ([] : List Int)) (inner := []) (ok := fun k_ => k_ ≠ By ∧ k_ ≠ Bl ∧ k_ ≠ Bf) (okp := fun k_ => k_ ≠ By ∧ k_ ≠ Bl ∧ k_ ≠ Bf) ?hr ?hp (fun _ hk => hk) ?hf HS.out.2.2.2.2 HS.out.2.2.2.2.size (by simp) ?_; (case hd => rfl); (case hg => rfl); (case hr => first | (go_simp; done) | (go_simp; rfl)); (case hp => exact (Reps.none _ _)); (case hf => exact ⟨Nat.ne_of_gt (blk_lt HS.out.2.1), Nat.ne_of_gt (blk_lt HS.out.2.2.1), Nat.ne_of_gt (blk_lt HS.out.1)⟩); intro vl ul hol hb2 hgr hnew_; clear hnew_; have n0_ := Aside0.mk (impl_ExactSecond.St.mk ⟨blk_grown HS.out.1 hgr (by simp), blk_grown HS.out.2.1 hgr (by simp), blk_grown HS.out.2.2.1 hgr (by simp), hol, hb2⟩); clear HS hol hb2 hgr; have HS := n0_; clear n0_))
  go_loopg [10, 11, 18] k (fun kq v10 v11 v18 w' => ∃ (y1 l1 : Int) (out1 : List Int) (sc i : Int), v11 = .int .i64 sc ∧ v18 = .int .i64 i ∧ Aside0 (impl_ExactSecond.l0 kq a c s m b p S out1 sc y1 l1 i = some (r1, r2)) ∧ Aside0 (kq ≤ k) ∧ Aside0 (impl_ExactSecond.St w0 w' Bf By Bl a c s m b p y1 l1 v10 out1))
  case atStart => exact ⟨y, l, [], 1, 0, rfl, rfl, AL, ⟨Nat.le_refl _⟩, HS⟩
  case round =>
    clear HS AL
    obtain ⟨y1, l1, out1, sc, i, rfl, rfl, HA, HK, HS⟩ := hrel
    cases gk with
    | zero => exact absurd HA.out (by simp [impl_ExactSecond.l0])
    | succ k1 =>
      have H := HA.out
      clear HA
      simp only [impl_ExactSecond.l0] at H
      by_cases c1 : i < (S.length : Int)
      · rw [if_pos c1] at H
        have c1b : decide (i < (S.length : Int)) = true := decide_eq_true c1
        by_cases c2 : 0 ≤ i
        · rw [if_pos c2] at H
          have c2b : decide (0 ≤ i) = true := decide_eq_true c2
          by_cases c3 : 0 ≤ s
          · rw [if_pos c3] at H
            have c3b := eq_true c3
            have c3c : decide (0 ≤ s) = true := decide_eq_true c3
            have C3 := Aside0.mk c3
            obtain ⟨adS, eS, hxS⟩ := Kd.at_int HR.out i c2 c1
            cases eS
            replace hxS := (HS.out.2.2.2.2.cell (World.block_lt_of_cell? w0 _ hxS)).trans hxS
            have p0_ := eq_true c2
            have q0_ := eq_true c1
            clear c1 c2 c3
            obtain ⟨ji, hji⟩ : ∃ j_ : Int, (shl .i64 sc s) = j_ := ⟨_, rfl⟩
            rw [hji] at H
            have hji_ : (IntKind.i64.wrap (sc * 2 ^ min s.toNat 64)) = ji := hji
            have hjiz : s ≤ 64 → (IntKind.i64.wrap (sc * 2 ^ s.toNat)) = ji := shl_small hji
            have hjiy : (wrap64 (sc * 2 ^ min s.toNat 64)) = ji := (i64_w _).symm.trans hji_
            have hjix : s ≤ 64 → (wrap64 (sc * 2 ^ s.toNat)) = ji := fun h_ => (i64_w _).symm.trans (hjiz h_)
            replace H := Option.bind_eq_some_iff.mp H
            obtain ⟨t1, A1_, H⟩ := H
            have A1 := Aside0.mk A1_
            clear A1_
            cases t1 with
            | false =>
              replace H := (if_neg (by decide)).symm.trans H
              obtain ⟨rfl, rfl⟩ : ([] : List Int) = r1 ∧ false = r2 := by simpa using H
              clear H
              go_wp2_with (first | (go_at_call 66; (with_reducible refine (impl_ExactSecond.nextC w0 _ Bf By Bl a c s m b p i y1 l1 _ out1 C3.out (impl_ExactSecond.St.below HS.out (by repeat (first | (with_reducible exact Below.refl _ _) | apply below_alloc | apply pw_below_drewN | apply below_drew1 | exact Below.refl _ _)))).mono ?_); rintro e u1 ⟨rfl, hs2⟩; have n0_ := Aside0.mk hs2; clear HS hs2 hxS; have HS := n0_; clear n0_) | (go_at_call 97; (with_reducible refine (impl_isNumber.calls ji _ _ A1.out).mono ?_); rintro e u2 ⟨rfl, hd_⟩; have n0_ := Aside0.mk (HS.out.below hd_.below); clear HS hd_; have HS := n0_; clear n0_))
              go_ret2
              exact ⟨_, rfl, Kd.R_nil _ _ _ _ _, HS.out.2.2.2.2⟩
            | true =>
              replace H := (if_pos rfl).symm.trans H
              replace H := Option.bind_eq_some_iff.mp H
              obtain ⟨t2, A2_, H⟩ := H
              have A2 := Aside0.mk A2_
              clear A2_
              cases t2 with
              | false =>
                replace H := (if_neg (by decide)).symm.trans H
                obtain ⟨rfl, rfl⟩ : ([] : List Int) = r1 ∧ false = r2 := by simpa using H
                clear H
                go_wp2_with (first | (go_at_call 66; (with_reducible refine (impl_ExactSecond.nextC w0 _ Bf By Bl a c s m b p i y1 l1 _ out1 C3.out (impl_ExactSecond.St.below HS.out (by repeat (first | (with_reducible exact Below.refl _ _) | apply below_alloc | apply pw_below_drewN | apply below_drew1 | exact Below.refl _ _)))).mono ?_); rintro e u1 ⟨rfl, hs2⟩; have n0_ := Aside0.mk hs2; clear HS hs2 hxS; have HS := n0_; clear n0_) | (go_at_call 97; (with_reducible refine (impl_isNumber.calls ji _ _ A1.out).mono ?_); rintro e u2 ⟨rfl, hd_⟩; have n0_ := Aside0.mk (HS.out.below hd_.below); clear HS hd_; have HS := n0_; clear n0_) | (go_at_call 97; (with_reducible refine (impl_isNumber.calls (wrap64 (impl_ExactSecond.next a c s m b p i y1 l1 + wrap64 (rd S i * ji))) _ _ A2.out).mono ?_); rintro e u3 ⟨rfl, hd_⟩; have n0_ := Aside0.mk (HS.out.below hd_.below); clear HS hd_; have HS := n0_; clear n0_))
                go_ret2
                exact ⟨_, rfl, Kd.R_nil _ _ _ _ _, HS.out.2.2.2.2⟩
              | true =>
                replace H := (if_pos rfl).symm.trans H
                by_cases c4 : out1.length < 17592186044416
                · rw [if_pos c4] at H
                  have H' := Aside0.mk H
                  have C4 := Aside0.mk c4
                  clear H c4
                  go_wp2_with (first | (go_at_call 66; (with_reducible refine (impl_ExactSecond.nextC w0 _ Bf By Bl a c s m b p i y1 l1 _ out1 C3.out (impl_ExactSecond.St.below HS.out (by repeat (first | (with_reducible exact Below.refl _ _) | apply below_alloc | apply pw_below_drewN | apply below_drew1 | exact Below.refl _ _)))).mono ?_); rintro e u1 ⟨rfl, hs2⟩; have n0_ := Aside0.mk hs2; clear HS hs2 hxS; have HS := n0_; clear n0_) | (go_at_call 97; (with_reducible refine (impl_isNumber.calls ji _ _ A1.out).mono ?_); rintro e u2 ⟨rfl, hd_⟩; have n0_ := Aside0.mk (HS.out.below hd_.below); clear HS hd_; have HS := n0_; clear n0_) | (go_at_call 97; (with_reducible refine (impl_isNumber.calls (wrap64 (impl_ExactSecond.next a c s m b p i y1 l1 + wrap64 (rd S i * ji))) _ _ A2.out).mono ?_); rintro e u3 ⟨rfl, hd_⟩; have n0_ := Aside0.mk (HS.out.below hd_.below); clear HS hd_; have HS := n0_; clear n0_) | ((with_reducible refine gate_builtin (b := .append) (xs := #[.tmp 41, .tmp 43]) rfl ?_); at_builtin; refine Kd.R_append (Kd.int .i64) (w0 := w0) w0.heap.size rfl (.tmp 41) (.tmp 43) 33 3 (.int .i64 0) 8 rfl Try.underlying33 info3 rfl (by decide) (by omega) _ out1 (wrap64 (impl_ExactSecond.next a c s m b p i y1 l1 + wrap64 (rd S i * ji))) [.int .i64 (wrap64 (impl_ExactSecond.next a c s m b p i y1 l1 + wrap64 (rd S i * ji)))] (fun k_ => k_ ≠ By ∧ k_ ≠ Bl ∧ k_ ≠ Bf) (fun _ => False) rfl rfl ?aP (fun _ hk => hk.elim) ?aF ?aO ?aB ?aS ?aL ?_; (case aP => exact rfl); (case aB => exact HS.out.2.2.2.2); (case aF => exact (fun k_ hk_ => ⟨fun e_ => Nat.not_le.2 (blk_lt HS.out.2.1) (e_ ▸ hk_), fun e_ => Nat.not_le.2 (blk_lt HS.out.2.2.1) (e_ ▸ hk_), fun e_ => Nat.not_le.2 (blk_lt HS.out.1) (e_ ▸ hk_)⟩)); (case aO => exact HS.out.2.2.2.1); (case aS => exact HS.out.2.2.2.2.size); (case aL => have := C4.out; omega); intro v116 w7 ho hb hg hat; have n0_ := Aside0.mk (impl_ExactSecond.St.mk ⟨blk_grown HS.out.1 hg (fun e_ => (HS.out.2.2.2.1.1 Bf e_.symm).2.2 rfl), blk_grown HS.out.2.1 hg (fun e_ => (HS.out.2.2.2.1.1 By e_.symm).1 rfl), blk_grown HS.out.2.2.1 hg (fun e_ => (HS.out.2.2.2.1.1 Bl e_.symm).2.1 rfl), ho, hb⟩); clear ho hb hg hat HS; have HS := n0_; clear n0_) | (go_at_call 67; (with_reducible refine (impl_ExactSecond.takeC w0 _ Bf By Bl a c s m b p (wrap64 (impl_ExactSecond.next a c s m b p i y1 l1 + wrap64 (rd S i * ji))) y1 l1 _ _ GBy.out GBl.out NBfBy.out NBfBl.out NByBl.out HS.out).mono ?_); rintro e u4 ⟨rfl, hs2⟩; have n0_ := Aside0.mk hs2; clear HS hs2; have HS := n0_; clear n0_))
                  go_roundg k1
                  case measure => have := HK.out; omega
                  case rel => exact ⟨_, _, _, _, _, rfl, rfl, H', ⟨by have := HK.out; omega⟩, HS⟩
                · rw [if_neg c4] at H
                  exact absurd H (by simp)
          · rw [if_neg c3] at H
            exact absurd H (by simp)
        · rw [if_neg c2] at H
          exact absurd H (by simp)
      · rw [if_neg c1] at H
        have c1b : decide (i < (S.length : Int)) = false := decide_eq_false c1
        clear c1
        obtain ⟨rfl, rfl⟩ : out1 = r1 ∧ true = r2 := by simpa using H
        clear H
        go_wp2
        go_ret2
        exact ⟨_, rfl, Kd.R_mono HS.out.2.2.2.1 (fun _ _ => trivial), HS.out.2.2.2.2⟩
def impl_ExactSecond.f (k : Nat) (a c s m b : Int) (p : Bool) (y z : Int) (lz : List Int) : Option (List Int × Bool) := (impl_Second_isAt.f a c s m b p y z).bind fun t0 => if t0 = true then ((impl_isSignal.f k lz).bind fun t1 => if t1 = true then (impl_ExactSecond.l0 k a c s m b p lz [] 1 y z 0) else some (([] : List Int), false)) else some (([] : List Int), false)
theorem impl_ExactSecond.mono : ∀ a c s m b p y z lz k, LeO (impl_ExactSecond.f k a c s m b p y z lz) (impl_ExactSecond.f (k + 1) a c s m b p y z lz) := by
  intro a c s m b p y z lz k
  have ih0 := impl_ExactSecond.mono_l k
  unfold impl_ExactSecond.f
  repeat' first
      | (with_reducible exact ih0 _ _ _ _ _ _ _ _ _ _ _ _)
      | (with_reducible exact impl_isSignal.mono _ _)
      | (with_reducible exact LeO.refl _)
      | (with_reducible exact LeO.none _)
      | (with_reducible refine LeO.ite ?_ ?_)
      | (with_reducible refine LeO.bind ?_ (fun _ => ?_))
      | exact ih0 _ _ _ _ _ _ _ _ _ _ _ _
      | exact LeO.none _
      | refine LeO.ite ?_ ?_
      | refine LeO.bind ?_ (fun _ => ?_)
set_option maxHeartbeats 8000000 in
set_option maxRecDepth 100000 in
theorem impl_ExactSecond.calls (k : Nat) (a c s m b : Int) (p : Bool) (y z : Int) (A3 : Option Addr) (c3 : Nat) (lz : List Int) (r1 : List Int) (r2 : Bool) (w : World) (hr0 : Kd.C (Kd.int .i64) w A3 lz.length lz) (hc0 : lz.length ≤ c3) (h : impl_ExactSecond.f k a c s m b p y z lz = some (r1, r2)) :
    Calls Try.prog 26 #[.agg #[.int .i64 a, .int .i64 c, .int .i64 s, .int .i64 m, .int .i64 b, .bool p], .int .i64 y, .int .i64 z, .slice A3 lz.length c3] w fun e w' => ∃ v0_ : Value, e = .returned (.tuple #[v0_, .bool r2]) ∧ Kd.R (Kd.int .i64) 3 w' w.heap.size (fun _ => True) v0_ r1 ∧ Below w.heap.size w w' := by
  have hu45 := Try.underlying45
  have hu28 := Try.underlying28
  have hu33 := Try.underlying33
  have HR := Aside0.mk hr0
  have HC := Aside0.mk hc0
  clear hr0 hc0
  have HB := Aside0.mk (Below.refl w.heap.size w)
  unfold impl_ExactSecond.f at h
  obtain ⟨t0, q0_, h⟩ := Option.bind_eq_some_iff.mp h
  have Q0 := Aside0.mk q0_
  clear q0_
  cases t0 with
  | false =>
    replace h := (if_neg (by decide)).symm.trans h
    obtain ⟨rfl, rfl⟩ : ([] : List Int) = r1 ∧ false = r2 := by simpa using h
    clear h
    go_enter Try.func26, Try.ntmps26
    go_wp2_with (first | ((with_reducible refine gate_dst (N := 4) rfl ?_); refine box_event ?hg (N := 4) ?hd (cs := #[.int .i64 a, .int .i64 c, .int .i64 s, .int .i64 m, .int .i64 b, .bool p]) (t := 45) ?hr ?_; (case hd => rfl); (case hg => rfl); (case hr => first | (go_simp; done) | (go_simp; rfl)); intro gf hg vf hbox hb; have Gf := Aside0.mk ((by rw [hg]; exact HB.out.size) : w.heap.size ≤ gf); have mB_ := Aside0.mk (below_step HB.out hb); clear HB; have HB := mB_; clear mB_; have Kf := Aside0.mk hbox; clear hbox hb hg) | ((with_reducible refine gate_dst (N := 5) rfl ?_); refine box_event ?hg (N := 5) ?hd (cs := #[.int .i64 y]) (t := 3) ?hr ?_; (case hd => rfl); (case hg => rfl); (case hr => first | (go_simp; done) | (go_simp; rfl)); intro gy hg vy hbox hb; have Gy := Aside0.mk ((by rw [hg]; exact HB.out.size) : w.heap.size ≤ gy); have Nfy := Aside0.mk ((by rw [hg]; exact Nat.ne_of_lt (blk_lt Kf.out)) : gf ≠ gy); have mf_ := Aside0.mk (blk_below Kf.out hb); have mB_ := Aside0.mk (below_step HB.out hb); clear Kf HB; have Kf := mf_; have HB := mB_; clear mf_ mB_; have Ky := Aside0.mk hbox; clear hbox hb hg; have yf0 : vy.cell? ⟨gf, 0, none⟩ = some (.int .i64 a) := (blk_cell Kf.out 0).trans rfl; have yf1 : vy.cell? ⟨gf, 1, none⟩ = some (.int .i64 c) := (blk_cell Kf.out 1).trans rfl; have yf2 : vy.cell? ⟨gf, 2, none⟩ = some (.int .i64 s) := (blk_cell Kf.out 2).trans rfl; have yf3 : vy.cell? ⟨gf, 3, none⟩ = some (.int .i64 m) := (blk_cell Kf.out 3).trans rfl; have yf4 : vy.cell? ⟨gf, 4, none⟩ = some (.int .i64 b) := (blk_cell Kf.out 4).trans rfl; have yf5 : vy.cell? ⟨gf, 5, none⟩ = some (.bool p) := (blk_cell Kf.out 5).trans rfl; have yy0 : vy.cell? ⟨gy, 0, none⟩ = some (.int .i64 y) := (blk_cell Ky.out 0).trans rfl) | (go_at_call 65; (with_reducible refine (impl_Second_isAt.calls a c s m b p y z _ _ Q0.out).mono ?_); rintro e ua ⟨rfl, hb⟩; have mf_ := Aside0.mk (blk_below Kf.out hb); have my_ := Aside0.mk (blk_below Ky.out hb); have mB_ := Aside0.mk (below_step HB.out hb); clear Kf Ky HB; have Kf := mf_; have Ky := my_; have HB := mB_; clear mf_ my_ mB_; clear hb; clear yf0 yf1 yf2 yf3 yf4 yf5 yy0; have yf0 : ua.cell? ⟨gf, 0, none⟩ = some (.int .i64 a) := (blk_cell Kf.out 0).trans rfl; have yf1 : ua.cell? ⟨gf, 1, none⟩ = some (.int .i64 c) := (blk_cell Kf.out 1).trans rfl; have yf2 : ua.cell? ⟨gf, 2, none⟩ = some (.int .i64 s) := (blk_cell Kf.out 2).trans rfl; have yf3 : ua.cell? ⟨gf, 3, none⟩ = some (.int .i64 m) := (blk_cell Kf.out 3).trans rfl; have yf4 : ua.cell? ⟨gf, 4, none⟩ = some (.int .i64 b) := (blk_cell Kf.out 4).trans rfl; have yf5 : ua.cell? ⟨gf, 5, none⟩ = some (.bool p) := (blk_cell Kf.out 5).trans rfl; have yy0 : ua.cell? ⟨gy, 0, none⟩ = some (.int .i64 y) := (blk_cell Ky.out 0).trans rfl) | (go_at_call 48; (with_reducible refine (impl_isSignal.calls k A3 c3 lz _ _ (Kd.C_below HR.out HB.out) HC.out Q1.out).mono ?_); rintro e ub ⟨rfl, hb_⟩; have hb := hb_.below; clear hb_; have mf_ := Aside0.mk (blk_below Kf.out hb); have my_ := Aside0.mk (blk_below Ky.out hb); have mB_ := Aside0.mk (below_step HB.out hb); clear Kf Ky HB; have Kf := mf_; have Ky := my_; have HB := mB_; clear mf_ my_ mB_; clear hb; clear yf0 yf1 yf2 yf3 yf4 yf5 yy0; have yf0 : ub.cell? ⟨gf, 0, none⟩ = some (.int .i64 a) := (blk_cell Kf.out 0).trans rfl; have yf1 : ub.cell? ⟨gf, 1, none⟩ = some (.int .i64 c) := (blk_cell Kf.out 1).trans rfl; have yf2 : ub.cell? ⟨gf, 2, none⟩ = some (.int .i64 s) := (blk_cell Kf.out 2).trans rfl; have yf3 : ub.cell? ⟨gf, 3, none⟩ = some (.int .i64 m) := (blk_cell Kf.out 3).trans rfl; have yf4 : ub.cell? ⟨gf, 4, none⟩ = some (.int .i64 b) := (blk_cell Kf.out 4).trans rfl; have yf5 : ub.cell? ⟨gf, 5, none⟩ = some (.bool p) := (blk_cell Kf.out 5).trans rfl; have yy0 : ub.cell? ⟨gy, 0, none⟩ = some (.int .i64 y) := (blk_cell Ky.out 0).trans rfl) | ((with_reducible refine gate_dst (N := 10) rfl ?_); refine box_event ?hg (N := 10) ?hd (cs := #[.int .i64 0]) (t := 3) ?hr ?_; (case hd => rfl); (case hg => rfl); (case hr => first | (go_simp; done) | (go_simp; rfl)); intro gl hg vl hbox hb; have Gl := Aside0.mk ((by rw [hg]; exact HB.out.size) : w.heap.size ≤ gl); have Nfl := Aside0.mk ((by rw [hg]; exact Nat.ne_of_lt (blk_lt Kf.out)) : gf ≠ gl); have qfl := Nfl.out; have rrfl := qfl.symm; have Nyl := Aside0.mk ((by rw [hg]; exact Nat.ne_of_lt (blk_lt Ky.out)) : gy ≠ gl); have qyl := Nyl.out; have rryl := qyl.symm; have mf_ := Aside0.mk (blk_below Kf.out hb); have my_ := Aside0.mk (blk_below Ky.out hb); have mB_ := Aside0.mk (below_step HB.out hb); clear Kf Ky HB; have Kf := mf_; have Ky := my_; have HB := mB_; clear mf_ my_ mB_; have Kl := Aside0.mk hbox; clear hbox hb hg; clear yf0 yf1 yf2 yf3 yf4 yf5 yy0; have yf0 : vl.cell? ⟨gf, 0, none⟩ = some (.int .i64 a) := (blk_cell Kf.out 0).trans rfl; have yf1 : vl.cell? ⟨gf, 1, none⟩ = some (.int .i64 c) := (blk_cell Kf.out 1).trans rfl; have yf2 : vl.cell? ⟨gf, 2, none⟩ = some (.int .i64 s) := (blk_cell Kf.out 2).trans rfl; have yf3 : vl.cell? ⟨gf, 3, none⟩ = some (.int .i64 m) := (blk_cell Kf.out 3).trans rfl; have yf4 : vl.cell? ⟨gf, 4, none⟩ = some (.int .i64 b) := (blk_cell Kf.out 4).trans rfl; have yf5 : vl.cell? ⟨gf, 5, none⟩ = some (.bool p) := (blk_cell Kf.out 5).trans rfl; have yy0 : vl.cell? ⟨gy, 0, none⟩ = some (.int .i64 y) := (blk_cell Ky.out 0).trans rfl; have yl0 : vl.cell? ⟨gl, 0, none⟩ = some (.int .i64 0) := (blk_cell Kl.out 0).trans rfl; have zl0 := blk_frozen Kl.out 0) | (go_at_call 49; (with_reducible refine (impl_ExactSecond.exact k w _ gf gy gl a c s m b p y z A3 c3 lz _ _ (impl_ExactSecond.St.mk ⟨blk_far Kf.out Nfl.out _, blk_far Ky.out Nyl.out _, blk_put Kl.out 0 _ rfl, Kd.R_nil _ _ _ _ _, below_set HB.out Gl.out⟩) Gy.out Gl.out Nfy.out Nfl.out Nyl.out HR.out HC.out QL.out).mono ?_); rintro e uc ⟨v0_, rfl, ho2, hb2⟩; have HO := Aside0.mk ho2; have HB2 := Aside0.mk hb2; clear ho2 hb2))
    go_ret2
    exact ⟨_, rfl, Kd.R_nil _ _ _ _ _, HB.out⟩
  | true =>
    replace h := (if_pos rfl).symm.trans h
    obtain ⟨t1, q1_, h⟩ := Option.bind_eq_some_iff.mp h
    have Q1 := Aside0.mk q1_
    clear q1_
    cases t1 with
    | false =>
      replace h := (if_neg (by decide)).symm.trans h
      obtain ⟨rfl, rfl⟩ : ([] : List Int) = r1 ∧ false = r2 := by simpa using h
      clear h
      go_enter Try.func26, Try.ntmps26
      go_wp2_with (first | ((with_reducible refine gate_dst (N := 4) rfl ?_); refine box_event ?hg (N := 4) ?hd (cs := #[.int .i64 a, .int .i64 c, .int .i64 s, .int .i64 m, .int .i64 b, .bool p]) (t := 45) ?hr ?_; (case hd => rfl); (case hg => rfl); (case hr => first | (go_simp; done) | (go_simp; rfl)); intro gf hg vf hbox hb; have Gf := Aside0.mk ((by rw [hg]; exact HB.out.size) : w.heap.size ≤ gf); have mB_ := Aside0.mk (below_step HB.out hb); clear HB; have HB := mB_; clear mB_; have Kf := Aside0.mk hbox; clear hbox hb hg) | ((with_reducible refine gate_dst (N := 5) rfl ?_); refine box_event ?hg (N := 5) ?hd (cs := #[.int .i64 y]) (t := 3) ?hr ?_; (case hd => rfl); (case hg => rfl); (case hr => first | (go_simp; done) | (go_simp; rfl)); intro gy hg vy hbox hb; have Gy := Aside0.mk ((by rw [hg]; exact HB.out.size) : w.heap.size ≤ gy); have Nfy := Aside0.mk ((by rw [hg]; exact Nat.ne_of_lt (blk_lt Kf.out)) : gf ≠ gy); have mf_ := Aside0.mk (blk_below Kf.out hb); have mB_ := Aside0.mk (below_step HB.out hb); clear Kf HB; have Kf := mf_; have HB := mB_; clear mf_ mB_; have Ky := Aside0.mk hbox; clear hbox hb hg; have yf0 : vy.cell? ⟨gf, 0, none⟩ = some (.int .i64 a) := (blk_cell Kf.out 0).trans rfl; have yf1 : vy.cell? ⟨gf, 1, none⟩ = some (.int .i64 c) := (blk_cell Kf.out 1).trans rfl; have yf2 : vy.cell? ⟨gf, 2, none⟩ = some (.int .i64 s) := (blk_cell Kf.out 2).trans rfl; have yf3 : vy.cell? ⟨gf, 3, none⟩ = some (.int .i64 m) := (blk_cell Kf.out 3).trans rfl; have yf4 : vy.cell? ⟨gf, 4, none⟩ = some (.int .i64 b) := (blk_cell Kf.out 4).trans rfl; have yf5 : vy.cell? ⟨gf, 5, none⟩ = some (.bool p) := (blk_cell Kf.out 5).trans rfl; have yy0 : vy.cell? ⟨gy, 0, none⟩ = some (.int .i64 y) := (blk_cell Ky.out 0).trans rfl) | (go_at_call 65; (with_reducible refine (impl_Second_isAt.calls a c s m b p y z _ _ Q0.out).mono ?_); rintro e ua ⟨rfl, hb⟩; have mf_ := Aside0.mk (blk_below Kf.out hb); have my_ := Aside0.mk (blk_below Ky.out hb); have mB_ := Aside0.mk (below_step HB.out hb); clear Kf Ky HB; have Kf := mf_; have Ky := my_; have HB := mB_; clear mf_ my_ mB_; clear hb; clear yf0 yf1 yf2 yf3 yf4 yf5 yy0; have yf0 : ua.cell? ⟨gf, 0, none⟩ = some (.int .i64 a) := (blk_cell Kf.out 0).trans rfl; have yf1 : ua.cell? ⟨gf, 1, none⟩ = some (.int .i64 c) := (blk_cell Kf.out 1).trans rfl; have yf2 : ua.cell? ⟨gf, 2, none⟩ = some (.int .i64 s) := (blk_cell Kf.out 2).trans rfl; have yf3 : ua.cell? ⟨gf, 3, none⟩ = some (.int .i64 m) := (blk_cell Kf.out 3).trans rfl; have yf4 : ua.cell? ⟨gf, 4, none⟩ = some (.int .i64 b) := (blk_cell Kf.out 4).trans rfl; have yf5 : ua.cell? ⟨gf, 5, none⟩ = some (.bool p) := (blk_cell Kf.out 5).trans rfl; have yy0 : ua.cell? ⟨gy, 0, none⟩ = some (.int .i64 y) := (blk_cell Ky.out 0).trans rfl) | (go_at_call 48; (with_reducible refine (impl_isSignal.calls k A3 c3 lz _ _ (Kd.C_below HR.out HB.out) HC.out Q1.out).mono ?_); rintro e ub ⟨rfl, hb_⟩; have hb := hb_.below; clear hb_; have mf_ := Aside0.mk (blk_below Kf.out hb); have my_ := Aside0.mk (blk_below Ky.out hb); have mB_ := Aside0.mk (below_step HB.out hb); clear Kf Ky HB; have Kf := mf_; have Ky := my_; have HB := mB_; clear mf_ my_ mB_; clear hb; clear yf0 yf1 yf2 yf3 yf4 yf5 yy0; have yf0 : ub.cell? ⟨gf, 0, none⟩ = some (.int .i64 a) := (blk_cell Kf.out 0).trans rfl; have yf1 : ub.cell? ⟨gf, 1, none⟩ = some (.int .i64 c) := (blk_cell Kf.out 1).trans rfl; have yf2 : ub.cell? ⟨gf, 2, none⟩ = some (.int .i64 s) := (blk_cell Kf.out 2).trans rfl; have yf3 : ub.cell? ⟨gf, 3, none⟩ = some (.int .i64 m) := (blk_cell Kf.out 3).trans rfl; have yf4 : ub.cell? ⟨gf, 4, none⟩ = some (.int .i64 b) := (blk_cell Kf.out 4).trans rfl; have yf5 : ub.cell? ⟨gf, 5, none⟩ = some (.bool p) := (blk_cell Kf.out 5).trans rfl; have yy0 : ub.cell? ⟨gy, 0, none⟩ = some (.int .i64 y) := (blk_cell Ky.out 0).trans rfl) | ((with_reducible refine gate_dst (N := 10) rfl ?_); refine box_event ?hg (N := 10) ?hd (cs := #[.int .i64 0]) (t := 3) ?hr ?_; (case hd => rfl); (case hg => rfl); (case hr => first | (go_simp; done) | (go_simp; rfl)); intro gl hg vl hbox hb; have Gl := Aside0.mk ((by rw [hg]; exact HB.out.size) : w.heap.size ≤ gl); have Nfl := Aside0.mk ((by rw [hg]; exact Nat.ne_of_lt (blk_lt Kf.out)) : gf ≠ gl); have qfl := Nfl.out; have rrfl := qfl.symm; have Nyl := Aside0.mk ((by rw [hg]; exact Nat.ne_of_lt (blk_lt Ky.out)) : gy ≠ gl); have qyl := Nyl.out; have rryl := qyl.symm; have mf_ := Aside0.mk (blk_below Kf.out hb); have my_ := Aside0.mk (blk_below Ky.out hb); have mB_ := Aside0.mk (below_step HB.out hb); clear Kf Ky HB; have Kf := mf_; have Ky := my_; have HB := mB_; clear mf_ my_ mB_; have Kl := Aside0.mk hbox; clear hbox hb hg; clear yf0 yf1 yf2 yf3 yf4 yf5 yy0; have yf0 : vl.cell? ⟨gf, 0, none⟩ = some (.int .i64 a) := (blk_cell Kf.out 0).trans rfl; have yf1 : vl.cell? ⟨gf, 1, none⟩ = some (.int .i64 c) := (blk_cell Kf.out 1).trans rfl; have yf2 : vl.cell? ⟨gf, 2, none⟩ = some (.int .i64 s) := (blk_cell Kf.out 2).trans rfl; have yf3 : vl.cell? ⟨gf, 3, none⟩ = some (.int .i64 m) := (blk_cell Kf.out 3).trans rfl; have yf4 : vl.cell? ⟨gf, 4, none⟩ = some (.int .i64 b) := (blk_cell Kf.out 4).trans rfl; have yf5 : vl.cell? ⟨gf, 5, none⟩ = some (.bool p) := (blk_cell Kf.out 5).trans rfl; have yy0 : vl.cell? ⟨gy, 0, none⟩ = some (.int .i64 y) := (blk_cell Ky.out 0).trans rfl; have yl0 : vl.cell? ⟨gl, 0, none⟩ = some (.int .i64 0) := (blk_cell Kl.out 0).trans rfl; have zl0 := blk_frozen Kl.out 0) | (go_at_call 49; (with_reducible refine (impl_ExactSecond.exact k w _ gf gy gl a c s m b p y z A3 c3 lz _ _ (impl_ExactSecond.St.mk ⟨blk_far Kf.out Nfl.out _, blk_far Ky.out Nyl.out _, blk_put Kl.out 0 _ rfl, Kd.R_nil _ _ _ _ _, below_set HB.out Gl.out⟩) Gy.out Gl.out Nfy.out Nfl.out Nyl.out HR.out HC.out QL.out).mono ?_); rintro e uc ⟨v0_, rfl, ho2, hb2⟩; have HO := Aside0.mk ho2; have HB2 := Aside0.mk hb2; clear ho2 hb2))
      go_ret2
      exact ⟨_, rfl, Kd.R_nil _ _ _ _ _, HB.out⟩
    | true =>
      replace h := (if_pos rfl).symm.trans h
      have QL := Aside0.mk h
      clear h
      go_enter Try.func26, Try.ntmps26
      go_wp2_with (first | ((with_reducible refine gate_dst (N := 4) rfl ?_); refine box_event ?hg (N := 4) ?hd (cs := #[.int .i64 a, .int .i64 c, .int .i64 s, .int .i64 m, .int .i64 b, .bool p]) (t := 45) ?hr ?_; (case hd => rfl); (case hg => rfl); (case hr => first | (go_simp; done) | (go_simp; rfl)); intro gf hg vf hbox hb; have Gf := Aside0.mk ((by rw [hg]; exact HB.out.size) : w.heap.size ≤ gf); have mB_ := Aside0.mk (below_step HB.out hb); clear HB; have HB := mB_; clear mB_; have Kf := Aside0.mk hbox; clear hbox hb hg) | ((with_reducible refine gate_dst (N := 5) rfl ?_); refine box_event ?hg (N := 5) ?hd (cs := #[.int .i64 y]) (t := 3) ?hr ?_; (case hd => rfl); (case hg => rfl); (case hr => first | (go_simp; done) | (go_simp; rfl)); intro gy hg vy hbox hb; have Gy := Aside0.mk ((by rw [hg]; exact HB.out.size) : w.heap.size ≤ gy); have Nfy := Aside0.mk ((by rw [hg]; exact Nat.ne_of_lt (blk_lt Kf.out)) : gf ≠ gy); have mf_ := Aside0.mk (blk_below Kf.out hb); have mB_ := Aside0.mk (below_step HB.out hb); clear Kf HB; have Kf := mf_; have HB := mB_; clear mf_ mB_; have Ky := Aside0.mk hbox; clear hbox hb hg; have yf0 : vy.cell? ⟨gf, 0, none⟩ = some (.int .i64 a) := (blk_cell Kf.out 0).trans rfl; have yf1 : vy.cell? ⟨gf, 1, none⟩ = some (.int .i64 c) := (blk_cell Kf.out 1).trans rfl; have yf2 : vy.cell? ⟨gf, 2, none⟩ = some (.int .i64 s) := (blk_cell Kf.out 2).trans rfl; have yf3 : vy.cell? ⟨gf, 3, none⟩ = some (.int .i64 m) := (blk_cell Kf.out 3).trans rfl; have yf4 : vy.cell? ⟨gf, 4, none⟩ = some (.int .i64 b) := (blk_cell Kf.out 4).trans rfl; have yf5 : vy.cell? ⟨gf, 5, none⟩ = some (.bool p) := (blk_cell Kf.out 5).trans rfl; have yy0 : vy.cell? ⟨gy, 0, none⟩ = some (.int .i64 y) := (blk_cell Ky.out 0).trans rfl) | (go_at_call 65; (with_reducible refine (impl_Second_isAt.calls a c s m b p y z _ _ Q0.out).mono ?_); rintro e ua ⟨rfl, hb⟩; have mf_ := Aside0.mk (blk_below Kf.out hb); have my_ := Aside0.mk (blk_below Ky.out hb); have mB_ := Aside0.mk (below_step HB.out hb); clear Kf Ky HB; have Kf := mf_; have Ky := my_; have HB := mB_; clear mf_ my_ mB_; clear hb; clear yf0 yf1 yf2 yf3 yf4 yf5 yy0; have yf0 : ua.cell? ⟨gf, 0, none⟩ = some (.int .i64 a) := (blk_cell Kf.out 0).trans rfl; have yf1 : ua.cell? ⟨gf, 1, none⟩ = some (.int .i64 c) := (blk_cell Kf.out 1).trans rfl; have yf2 : ua.cell? ⟨gf, 2, none⟩ = some (.int .i64 s) := (blk_cell Kf.out 2).trans rfl; have yf3 : ua.cell? ⟨gf, 3, none⟩ = some (.int .i64 m) := (blk_cell Kf.out 3).trans rfl; have yf4 : ua.cell? ⟨gf, 4, none⟩ = some (.int .i64 b) := (blk_cell Kf.out 4).trans rfl; have yf5 : ua.cell? ⟨gf, 5, none⟩ = some (.bool p) := (blk_cell Kf.out 5).trans rfl; have yy0 : ua.cell? ⟨gy, 0, none⟩ = some (.int .i64 y) := (blk_cell Ky.out 0).trans rfl) | (go_at_call 48; (with_reducible refine (impl_isSignal.calls k A3 c3 lz _ _ (Kd.C_below HR.out HB.out) HC.out Q1.out).mono ?_); rintro e ub ⟨rfl, hb_⟩; have hb := hb_.below; clear hb_; have mf_ := Aside0.mk (blk_below Kf.out hb); have my_ := Aside0.mk (blk_below Ky.out hb); have mB_ := Aside0.mk (below_step HB.out hb); clear Kf Ky HB; have Kf := mf_; have Ky := my_; have HB := mB_; clear mf_ my_ mB_; clear hb; clear yf0 yf1 yf2 yf3 yf4 yf5 yy0; have yf0 : ub.cell? ⟨gf, 0, none⟩ = some (.int .i64 a) := (blk_cell Kf.out 0).trans rfl; have yf1 : ub.cell? ⟨gf, 1, none⟩ = some (.int .i64 c) := (blk_cell Kf.out 1).trans rfl; have yf2 : ub.cell? ⟨gf, 2, none⟩ = some (.int .i64 s) := (blk_cell Kf.out 2).trans rfl; have yf3 : ub.cell? ⟨gf, 3, none⟩ = some (.int .i64 m) := (blk_cell Kf.out 3).trans rfl; have yf4 : ub.cell? ⟨gf, 4, none⟩ = some (.int .i64 b) := (blk_cell Kf.out 4).trans rfl; have yf5 : ub.cell? ⟨gf, 5, none⟩ = some (.bool p) := (blk_cell Kf.out 5).trans rfl; have yy0 : ub.cell? ⟨gy, 0, none⟩ = some (.int .i64 y) := (blk_cell Ky.out 0).trans rfl) | ((with_reducible refine gate_dst (N := 10) rfl ?_); refine box_event ?hg (N := 10) ?hd (cs := #[.int .i64 0]) (t := 3) ?hr ?_; (case hd => rfl); (case hg => rfl); (case hr => first | (go_simp; done) | (go_simp; rfl)); intro gl hg vl hbox hb; have Gl := Aside0.mk ((by rw [hg]; exact HB.out.size) : w.heap.size ≤ gl); have Nfl := Aside0.mk ((by rw [hg]; exact Nat.ne_of_lt (blk_lt Kf.out)) : gf ≠ gl); have qfl := Nfl.out; have rrfl := qfl.symm; have Nyl := Aside0.mk ((by rw [hg]; exact Nat.ne_of_lt (blk_lt Ky.out)) : gy ≠ gl); have qyl := Nyl.out; have rryl := qyl.symm; have mf_ := Aside0.mk (blk_below Kf.out hb); have my_ := Aside0.mk (blk_below Ky.out hb); have mB_ := Aside0.mk (below_step HB.out hb); clear Kf Ky HB; have Kf := mf_; have Ky := my_; have HB := mB_; clear mf_ my_ mB_; have Kl := Aside0.mk hbox; clear hbox hb hg; clear yf0 yf1 yf2 yf3 yf4 yf5 yy0; have yf0 : vl.cell? ⟨gf, 0, none⟩ = some (.int .i64 a) := (blk_cell Kf.out 0).trans rfl; have yf1 : vl.cell? ⟨gf, 1, none⟩ = some (.int .i64 c) := (blk_cell Kf.out 1).trans rfl; have yf2 : vl.cell? ⟨gf, 2, none⟩ = some (.int .i64 s) := (blk_cell Kf.out 2).trans rfl; have yf3 : vl.cell? ⟨gf, 3, none⟩ = some (.int .i64 m) := (blk_cell Kf.out 3).trans rfl; have yf4 : vl.cell? ⟨gf, 4, none⟩ = some (.int .i64 b) := (blk_cell Kf.out 4).trans rfl; have yf5 : vl.cell? ⟨gf, 5, none⟩ = some (.bool p) := (blk_cell Kf.out 5).trans rfl; have yy0 : vl.cell? ⟨gy, 0, none⟩ = some (.int .i64 y) := (blk_cell Ky.out 0).trans rfl; have yl0 : vl.cell? ⟨gl, 0, none⟩ = some (.int .i64 0) := (blk_cell Kl.out 0).trans rfl; have zl0 := blk_frozen Kl.out 0) | (go_at_call 49; (with_reducible refine (impl_ExactSecond.exact k w _ gf gy gl a c s m b p y z A3 c3 lz _ _ (impl_ExactSecond.St.mk ⟨blk_far Kf.out Nfl.out _, blk_far Ky.out Nyl.out _, blk_put Kl.out 0 _ rfl, Kd.R_nil _ _ _ _ _, below_set HB.out Gl.out⟩) Gy.out Gl.out Nfy.out Nfl.out Nyl.out HR.out HC.out QL.out).mono ?_); rintro e uc ⟨v0_, rfl, ho2, hb2⟩; have HO := Aside0.mk ho2; have HB2 := Aside0.mk hb2; clear ho2 hb2))
      go_ret2
      exact ⟨_, rfl, HO.out, HB2.out⟩

end Go.Proofs.Ytepfkahbfnahmaa.QFnExactExactSecond
