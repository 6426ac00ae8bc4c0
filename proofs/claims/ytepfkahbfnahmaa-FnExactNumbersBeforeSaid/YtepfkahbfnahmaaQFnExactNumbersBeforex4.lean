-- Written by wprint.py (this session's program over the kit's print) out of the translation.
import Derived.Test.YtepfkahbfnahmaaQFnExactNumbersBeforex0
import Derived.Test.YtepfkahbfnahmaaQFnExactNumbersBeforex3
namespace Go.Proofs.Ytepfkahbfnahmaa.QFnExactNumbersBefore
open Go.RowKit Go.Proofs.YtepfkahbfnahmaaW.PrintWords Go.Proofs.YtepfkahbfnahmaaW.PrintLast Go.Proofs.YtepfkahbfnahmaaW.PrintMore
attribute [local go_sem] max2_int min2_int max_two min_two max_three min_three max_four min_four   -- for this text's walks alone
set_option linter.unusedVariables false
set_option linter.unusedSimpArgs false

/-! ### impl_isScale: function 116 -/
def impl_isScale.f (a0 : Int) (a1 : Int) : Option (Bool) := (impl_in.f a0 0 10).bind fun t177 => (if t177 = true then ((impl_in.f a1 0 2).bind fun t178 => (some t178)) else (some false))
set_option maxHeartbeats 8000000 in
set_option maxRecDepth 100000 in
theorem impl_isScale.calls (a0 : Int) (a1 : Int) (r : Bool) (w : World) (h : impl_isScale.f a0 a1 = some r) :
    Calls Try.prog 116 #[.int .i64 a0, .int .i64 a1] w fun e w' => e = .returned (.bool r) ∧ Drawn0 w w' := by
  have H : ((impl_in.f a0 0 10).bind fun t177 => (if t177 = true then ((impl_in.f a1 0 2).bind fun t178 => (some t178)) else (some false))) = some r := h
  clear h
  replace H := Option.bind_eq_some_iff.mp H
  obtain ⟨t177, A30, H⟩ := H
  replace H : (if t177 = true then ((impl_in.f a1 0 2).bind fun t178 => (some t178)) else (some false)) = some r := H
  have A3 := Aside0.mk A30
  clear A30
  by_cases c4 : t177 = true
  · subst c4
    have H1 : ((impl_in.f a1 0 2).bind fun t178 => (some t178)) = some r := by rw [if_pos rfl] at H; exact H
    clear H
    have H := H1
    clear H1
    replace H := Option.bind_eq_some_iff.mp H
    obtain ⟨t178, A50, H⟩ := H
    replace H : (some t178) = some r := H
    have A5 := Aside0.mk A50
    clear A50
    obtain rfl := Option.some.inj H
    go_enter Try.func116, Try.ntmps116
    go_wp2_with (first | ((with_reducible refine gate_callee (f := 92) rfl ?_); refine goesL_ (some 6) rfl rfl Try.func92 (by kernel_rfl) rfl #[.int .i64 a0, .int .i64 0, .int .i64 10] rfl (by (try simp only [List.map_toArray, List.map_cons, List.map_nil]); first | done | rfl | (simp only [List.length_drop, List.length_take]; rfl)) ?_; (with_reducible refine (impl_in.calls a0 0 10 true _ A3.out).mono ?_); rintro e w' ⟨rfl, ⟨nd, rfl⟩⟩; refine ⟨_, rfl, ?_⟩) | (go_at_call 92; (with_reducible refine (impl_in.calls a1 0 2 t178 _ A5.out).mono ?_); rintro e w' ⟨rfl, ⟨nd, rfl⟩⟩))
    go_ret
    exact ⟨by first | rfl | (simp; done) | (simp [*]; done), by repeat (first | exact Drawn0.refl _ | apply Drawn0.step)⟩
  · replace c4 := Bool.eq_false_iff.mpr c4
    subst c4
    have H1 : (some false) = some r := by rw [if_neg (show ¬ (false = true) by decide)] at H; exact H
    clear H
    have H := H1
    clear H1
    obtain rfl := Option.some.inj H
    go_enter Try.func116, Try.ntmps116
    go_wp2_with (first | ((with_reducible refine gate_callee (f := 92) rfl ?_); refine goesL_ (some 6) rfl rfl Try.func92 (by kernel_rfl) rfl #[.int .i64 a0, .int .i64 0, .int .i64 10] rfl (by (try simp only [List.map_toArray, List.map_cons, List.map_nil]); first | done | rfl | (simp only [List.length_drop, List.length_take]; rfl)) ?_; (with_reducible refine (impl_in.calls a0 0 10 false _ A3.out).mono ?_); rintro e w' ⟨rfl, ⟨nd, rfl⟩⟩; refine ⟨_, rfl, ?_⟩))
    go_ret
    exact ⟨by first | rfl | (simp; done) | (simp [*]; done), by repeat (first | exact Drawn0.refl _ | apply Drawn0.step)⟩

/-! ### impl_isFirst: function 91 -/
def impl_isFirst.f (a0_0 : Int) (a0_1 : Int) (a0_2 : Int) (a0_3 : Int) (a0_4 : Bool) : Option (Bool) := (impl_isFactor.f a0_0).bind fun t180 => (if t180 = true then ((impl_isScale.f a0_1 a0_2).bind fun t181 => (if t181 = true then ((impl_isWord.f a0_3 a0_4).bind fun t182 => (some t182)) else (some false))) else (some false))
set_option maxHeartbeats 8000000 in
set_option maxRecDepth 100000 in
theorem impl_isFirst.calls (a0_0 : Int) (a0_1 : Int) (a0_2 : Int) (a0_3 : Int) (a0_4 : Bool) (r : Bool) (w : World) (h : impl_isFirst.f a0_0 a0_1 a0_2 a0_3 a0_4 = some r) :
    Calls Try.prog 91 #[.agg #[.int .i64 a0_0, .int .i64 a0_1, .int .i64 a0_2, .int .i64 a0_3, .bool a0_4]] w fun e w' => e = .returned (.bool r) ∧ Below w.heap.size w w' := by
  have hu30 := Try.underlying30
  have hu28 := Try.underlying28
  have HB := Aside0.mk (Below.refl w.heap.size w)
  have H : ((impl_isFactor.f a0_0).bind fun t180 => (if t180 = true then ((impl_isScale.f a0_1 a0_2).bind fun t181 => (if t181 = true then ((impl_isWord.f a0_3 a0_4).bind fun t182 => (some t182)) else (some false))) else (some false))) = some r := h
  clear h
  replace H := Option.bind_eq_some_iff.mp H
  obtain ⟨t180, A20, H⟩ := H
  replace H : (if t180 = true then ((impl_isScale.f a0_1 a0_2).bind fun t181 => (if t181 = true then ((impl_isWord.f a0_3 a0_4).bind fun t182 => (some t182)) else (some false))) else (some false)) = some r := H
  have A2 := Aside0.mk A20
  clear A20
  by_cases c3 : t180 = true
  · subst c3
    have H1 : ((impl_isScale.f a0_1 a0_2).bind fun t181 => (if t181 = true then ((impl_isWord.f a0_3 a0_4).bind fun t182 => (some t182)) else (some false))) = some r := by rw [if_pos rfl] at H; exact H
    clear H
    have H := H1
    clear H1
    replace H := Option.bind_eq_some_iff.mp H
    obtain ⟨t181, A40, H⟩ := H
    replace H : (if t181 = true then ((impl_isWord.f a0_3 a0_4).bind fun t182 => (some t182)) else (some false)) = some r := H
    have A4 := Aside0.mk A40
    clear A40
    by_cases c5 : t181 = true
    · subst c5
      have H1 : ((impl_isWord.f a0_3 a0_4).bind fun t182 => (some t182)) = some r := by rw [if_pos rfl] at H; exact H
      clear H
      have H := H1
      clear H1
      replace H := Option.bind_eq_some_iff.mp H
      obtain ⟨t182, A60, H⟩ := H
      replace H : (some t182) = some r := H
      have A6 := Aside0.mk A60
      clear A60
      obtain rfl := Option.some.inj H
      go_enter Try.func91, Try.ntmps91
      go_wp2_with (first | ((with_reducible refine gate_dst (N := 1) rfl ?_); refine box_event ?hg (N := 1) ?hd (cs := #[.int .i64 a0_0, .int .i64 a0_1, .int .i64 a0_2, .int .i64 a0_3, .bool a0_4]) (t := 30) ?hr ?_; (case hd => rfl); (case hg => rfl); (case hr => first | (go_simp; done) | (go_simp; rfl)); intro gb179 hg w7 hbox hb; have n0_ := Aside0.mk (below_step (by repeat (first | (with_reducible first | exact HB.out | apply below_alloc | apply pw_below_drewN | apply below_drew1) | exact HB.out)) hb); have n1_ := Aside0.mk (hbox); have n2_ := Aside0.mk ((by rw [hg]; exact (below_size (by repeat (first | (with_reducible first | exact HB.out | apply below_alloc | apply pw_below_drewN | apply below_drew1) | exact HB.out))) : w.heap.size ≤ gb179)); have n3_ := Aside0.mk ((by rw [hg]; exact (below_size (by repeat (first | (with_reducible first | exact HB.out | apply below_alloc | apply pw_below_drewN | apply below_drew1) | exact HB.out))) : w.heap.size ≤ gb179)); clear HB; have HB := n0_; have BK179 := n1_; have GW179 := n2_; have GE179 := n3_; clear n0_ n1_ n2_ n3_; clear hb hbox hg; have hcz8_0 : w7.cell? ⟨gb179, 0, none⟩ = some (.int .i64 a0_0) := (blk_cell BK179.out 0).trans rfl; have hcz8_1 : w7.cell? ⟨gb179, 1, none⟩ = some (.int .i64 a0_1) := (blk_cell BK179.out 1).trans rfl; have hcz8_2 : w7.cell? ⟨gb179, 2, none⟩ = some (.int .i64 a0_2) := (blk_cell BK179.out 2).trans rfl; have hcz8_3 : w7.cell? ⟨gb179, 3, none⟩ = some (.int .i64 a0_3) := (blk_cell BK179.out 3).trans rfl; have hcz8_4 : w7.cell? ⟨gb179, 4, none⟩ = some (.bool a0_4) := (blk_cell BK179.out 4).trans rfl; have hfz8_0 := blk_frozen BK179.out 0; have hfz8_1 := blk_frozen BK179.out 1; have hfz8_2 := blk_frozen BK179.out 2; have hfz8_3 := blk_frozen BK179.out 3; have hfz8_4 := blk_frozen BK179.out 4) | ((with_reducible refine gate_callee (f := 115) rfl ?_); refine goesL_ (some 5) rfl rfl Try.func115 (by kernel_rfl) rfl #[.int .i64 a0_0] rfl (by (try simp only [List.map_toArray, List.map_cons, List.map_nil]); first | done | rfl | (simp only [List.length_drop, List.length_take]; rfl)) ?_; (with_reducible refine (impl_isFactor.calls a0_0 true _ A2.out).mono ?_); rintro e w' ⟨rfl, ⟨nd, rfl⟩⟩; refine ⟨_, rfl, ?_⟩) | (go_at_call 116; (with_reducible refine (impl_isScale.calls a0_1 a0_2 true _ A4.out).mono ?_); rintro e w' ⟨rfl, ⟨nd, rfl⟩⟩) | (go_at_call 112; (with_reducible refine (impl_isWord.calls a0_3 a0_4 t182 _ A6.out).mono ?_); rintro e w9 ⟨rfl, hb⟩; have n0_ := Aside0.mk (blk_below (g := gb179) (o := .cells #[.int .i64 a0_0, .int .i64 a0_1, .int .i64 a0_2, .int .i64 a0_3, .bool a0_4] 30 (0, 0)) (by (with_reducible repeat (first | refine blk_drewN ?_ _ | refine blk_drew ?_ | refine blk_alloc ?_ _)); exact BK179.out) hb); have n1_ := Aside0.mk (below_step (by repeat (first | (with_reducible first | exact HB.out | apply below_alloc | apply pw_below_drewN | apply below_drew1 | refine below_set ?_ GE179.out) | exact HB.out)) hb); clear BK179; clear HB; have BK179 := n0_; have HB := n1_; clear n0_ n1_; (try clear hb); (try clear hb2); (try clear hk); (try clear hi)))
      go_ret
      exact ⟨by first | rfl | (simp [errW_none, errW_some] <;> rfl) | (simp [*, errW_none, errW_some] <;> rfl), by repeat (first | (with_reducible first | exact HB.out | apply below_alloc | apply pw_below_drewN | apply below_drew1 | refine below_set ?_ GE179.out) | exact HB.out)⟩
    · replace c5 := Bool.eq_false_iff.mpr c5
      subst c5
      have H1 : (some false) = some r := by rw [if_neg (show ¬ (false = true) by decide)] at H; exact H
      clear H
      have H := H1
      clear H1
      obtain rfl := Option.some.inj H
      go_enter Try.func91, Try.ntmps91
      go_wp2_with (first | ((with_reducible refine gate_dst (N := 1) rfl ?_); refine box_event ?hg (N := 1) ?hd (cs := #[.int .i64 a0_0, .int .i64 a0_1, .int .i64 a0_2, .int .i64 a0_3, .bool a0_4]) (t := 30) ?hr ?_; (case hd => rfl); (case hg => rfl); (case hr => first | (go_simp; done) | (go_simp; rfl)); intro gb179 hg w10 hbox hb; have n0_ := Aside0.mk (below_step (by repeat (first | (with_reducible first | exact HB.out | apply below_alloc | apply pw_below_drewN | apply below_drew1) | exact HB.out)) hb); have n1_ := Aside0.mk (hbox); have n2_ := Aside0.mk ((by rw [hg]; exact (below_size (by repeat (first | (with_reducible first | exact HB.out | apply below_alloc | apply pw_below_drewN | apply below_drew1) | exact HB.out))) : w.heap.size ≤ gb179)); have n3_ := Aside0.mk ((by rw [hg]; exact (below_size (by repeat (first | (with_reducible first | exact HB.out | apply below_alloc | apply pw_below_drewN | apply below_drew1) | exact HB.out))) : w.heap.size ≤ gb179)); clear HB; have HB := n0_; have BK179 := n1_; have GW179 := n2_; have GE179 := n3_; clear n0_ n1_ n2_ n3_; clear hb hbox hg; have hcz11_0 : w10.cell? ⟨gb179, 0, none⟩ = some (.int .i64 a0_0) := (blk_cell BK179.out 0).trans rfl; have hcz11_1 : w10.cell? ⟨gb179, 1, none⟩ = some (.int .i64 a0_1) := (blk_cell BK179.out 1).trans rfl; have hcz11_2 : w10.cell? ⟨gb179, 2, none⟩ = some (.int .i64 a0_2) := (blk_cell BK179.out 2).trans rfl; have hcz11_3 : w10.cell? ⟨gb179, 3, none⟩ = some (.int .i64 a0_3) := (blk_cell BK179.out 3).trans rfl; have hcz11_4 : w10.cell? ⟨gb179, 4, none⟩ = some (.bool a0_4) := (blk_cell BK179.out 4).trans rfl; have hfz11_0 := blk_frozen BK179.out 0; have hfz11_1 := blk_frozen BK179.out 1; have hfz11_2 := blk_frozen BK179.out 2; have hfz11_3 := blk_frozen BK179.out 3; have hfz11_4 := blk_frozen BK179.out 4) | ((with_reducible refine gate_callee (f := 115) rfl ?_); refine goesL_ (some 5) rfl rfl Try.func115 (by kernel_rfl) rfl #[.int .i64 a0_0] rfl (by (try simp only [List.map_toArray, List.map_cons, List.map_nil]); first | done | rfl | (simp only [List.length_drop, List.length_take]; rfl)) ?_; (with_reducible refine (impl_isFactor.calls a0_0 true _ A2.out).mono ?_); rintro e w' ⟨rfl, ⟨nd, rfl⟩⟩; refine ⟨_, rfl, ?_⟩) | (go_at_call 116; (with_reducible refine (impl_isScale.calls a0_1 a0_2 false _ A4.out).mono ?_); rintro e w' ⟨rfl, ⟨nd, rfl⟩⟩))
      go_ret
      exact ⟨by first | rfl | (simp [errW_none, errW_some] <;> rfl) | (simp [*, errW_none, errW_some] <;> rfl), by repeat (first | (with_reducible first | exact HB.out | apply below_alloc | apply pw_below_drewN | apply below_drew1 | refine below_set ?_ GE179.out) | exact HB.out)⟩
  · replace c3 := Bool.eq_false_iff.mpr c3
    subst c3
    have H1 : (some false) = some r := by rw [if_neg (show ¬ (false = true) by decide)] at H; exact H
    clear H
    have H := H1
    clear H1
    obtain rfl := Option.some.inj H
    go_enter Try.func91, Try.ntmps91
    go_wp2_with (first | ((with_reducible refine gate_dst (N := 1) rfl ?_); refine box_event ?hg (N := 1) ?hd (cs := #[.int .i64 a0_0, .int .i64 a0_1, .int .i64 a0_2, .int .i64 a0_3, .bool a0_4]) (t := 30) ?hr ?_; (case hd => rfl); (case hg => rfl); (case hr => first | (go_simp; done) | (go_simp; rfl)); intro gb179 hg w12 hbox hb; have n0_ := Aside0.mk (below_step (by repeat (first | (with_reducible first | exact HB.out | apply below_alloc | apply pw_below_drewN | apply below_drew1) | exact HB.out)) hb); have n1_ := Aside0.mk (hbox); have n2_ := Aside0.mk ((by rw [hg]; exact (below_size (by repeat (first | (with_reducible first | exact HB.out | apply below_alloc | apply pw_below_drewN | apply below_drew1) | exact HB.out))) : w.heap.size ≤ gb179)); have n3_ := Aside0.mk ((by rw [hg]; exact (below_size (by repeat (first | (with_reducible first | exact HB.out | apply below_alloc | apply pw_below_drewN | apply below_drew1) | exact HB.out))) : w.heap.size ≤ gb179)); clear HB; have HB := n0_; have BK179 := n1_; have GW179 := n2_; have GE179 := n3_; clear n0_ n1_ n2_ n3_; clear hb hbox hg; have hcz13_0 : w12.cell? ⟨gb179, 0, none⟩ = some (.int .i64 a0_0) := (blk_cell BK179.out 0).trans rfl; have hcz13_1 : w12.cell? ⟨gb179, 1, none⟩ = some (.int .i64 a0_1) := (blk_cell BK179.out 1).trans rfl; have hcz13_2 : w12.cell? ⟨gb179, 2, none⟩ = some (.int .i64 a0_2) := (blk_cell BK179.out 2).trans rfl; have hcz13_3 : w12.cell? ⟨gb179, 3, none⟩ = some (.int .i64 a0_3) := (blk_cell BK179.out 3).trans rfl; have hcz13_4 : w12.cell? ⟨gb179, 4, none⟩ = some (.bool a0_4) := (blk_cell BK179.out 4).trans rfl; have hfz13_0 := blk_frozen BK179.out 0; have hfz13_1 := blk_frozen BK179.out 1; have hfz13_2 := blk_frozen BK179.out 2; have hfz13_3 := blk_frozen BK179.out 3; have hfz13_4 := blk_frozen BK179.out 4) | ((with_reducible refine gate_callee (f := 115) rfl ?_); refine goesL_ (some 5) rfl rfl Try.func115 (by kernel_rfl) rfl #[.int .i64 a0_0] rfl (by (try simp only [List.map_toArray, List.map_cons, List.map_nil]); first | done | rfl | (simp only [List.length_drop, List.length_take]; rfl)) ?_; (with_reducible refine (impl_isFactor.calls a0_0 false _ A2.out).mono ?_); rintro e w' ⟨rfl, ⟨nd, rfl⟩⟩; refine ⟨_, rfl, ?_⟩))
    go_ret
    exact ⟨by first | rfl | (simp [errW_none, errW_some] <;> rfl) | (simp [*, errW_none, errW_some] <;> rfl), by repeat (first | (with_reducible first | exact HB.out | apply below_alloc | apply pw_below_drewN | apply below_drew1 | refine below_set ?_ GE179.out) | exact HB.out)⟩

/-! ### impl_First_isScanned: function 75 -/
def impl_First_isScanned.f (a0_0 : Int) (a0_1 : Int) (a0_2 : Int) (a0_3 : Int) (a0_4 : Bool) (a1 : Int) : Option (Bool) := (impl_isFirst.f a0_0 a0_1 a0_2 a0_3 a0_4).bind fun t184 => (if t184 = true then (if a0_3 ≤ 10 then ((impl_isSample.f a1).bind fun t185 => (some t185)) else (some false)) else (some false))
set_option maxHeartbeats 8000000 in
set_option maxRecDepth 100000 in
theorem impl_First_isScanned.calls (a0_0 : Int) (a0_1 : Int) (a0_2 : Int) (a0_3 : Int) (a0_4 : Bool) (a1 : Int) (r : Bool) (w : World) (h : impl_First_isScanned.f a0_0 a0_1 a0_2 a0_3 a0_4 a1 = some r) :
    Calls Try.prog 75 #[.agg #[.int .i64 a0_0, .int .i64 a0_1, .int .i64 a0_2, .int .i64 a0_3, .bool a0_4], .int .i64 a1] w fun e w' => e = .returned (.bool r) ∧ Below w.heap.size w w' := by
  have hu30 := Try.underlying30
  have HB := Aside0.mk (Below.refl w.heap.size w)
  have H : ((impl_isFirst.f a0_0 a0_1 a0_2 a0_3 a0_4).bind fun t184 => (if t184 = true then (if a0_3 ≤ 10 then ((impl_isSample.f a1).bind fun t185 => (some t185)) else (some false)) else (some false))) = some r := h
  clear h
  replace H := Option.bind_eq_some_iff.mp H
  obtain ⟨t184, A30, H⟩ := H
  replace H : (if t184 = true then (if a0_3 ≤ 10 then ((impl_isSample.f a1).bind fun t185 => (some t185)) else (some false)) else (some false)) = some r := H
  have A3 := Aside0.mk A30
  clear A30
  by_cases c4 : t184 = true
  · subst c4
    have H1 : (if a0_3 ≤ 10 then ((impl_isSample.f a1).bind fun t185 => (some t185)) else (some false)) = some r := by rw [if_pos rfl] at H; exact H
    clear H
    have H := H1
    clear H1
    by_cases c5 : a0_3 ≤ 10
    · rw [if_pos c5] at H
      have c5b0 : decide (a0_3 ≤ 10) = true := decide_eq_true c5
      clear c5
      replace H := Option.bind_eq_some_iff.mp H
      obtain ⟨t185, A60, H⟩ := H
      replace H : (some t185) = some r := H
      have A6 := Aside0.mk A60
      clear A60
      obtain rfl := Option.some.inj H
      go_enter Try.func75, Try.ntmps75
      go_wp2_with (first | ((with_reducible refine gate_dst (N := 2) rfl ?_); refine box_event ?hg (N := 2) ?hd (cs := #[.int .i64 a0_0, .int .i64 a0_1, .int .i64 a0_2, .int .i64 a0_3, .bool a0_4]) (t := 30) ?hr ?_; (case hd => rfl); (case hg => rfl); (case hr => first | (go_simp; done) | (go_simp; rfl)); intro gb183 hg w7 hbox hb; have n0_ := Aside0.mk (below_step (by repeat (first | (with_reducible first | exact HB.out | apply below_alloc | apply pw_below_drewN | apply below_drew1) | exact HB.out)) hb); have n1_ := Aside0.mk (hbox); have n2_ := Aside0.mk ((by rw [hg]; exact (below_size (by repeat (first | (with_reducible first | exact HB.out | apply below_alloc | apply pw_below_drewN | apply below_drew1) | exact HB.out))) : w.heap.size ≤ gb183)); have n3_ := Aside0.mk ((by rw [hg]; exact (below_size (by repeat (first | (with_reducible first | exact HB.out | apply below_alloc | apply pw_below_drewN | apply below_drew1) | exact HB.out))) : w.heap.size ≤ gb183)); clear HB; have HB := n0_; have BK183 := n1_; have GW183 := n2_; have GE183 := n3_; clear n0_ n1_ n2_ n3_; clear hb hbox hg; have hcz8_0 : w7.cell? ⟨gb183, 0, none⟩ = some (.int .i64 a0_0) := (blk_cell BK183.out 0).trans rfl; have hcz8_1 : w7.cell? ⟨gb183, 1, none⟩ = some (.int .i64 a0_1) := (blk_cell BK183.out 1).trans rfl; have hcz8_2 : w7.cell? ⟨gb183, 2, none⟩ = some (.int .i64 a0_2) := (blk_cell BK183.out 2).trans rfl; have hcz8_3 : w7.cell? ⟨gb183, 3, none⟩ = some (.int .i64 a0_3) := (blk_cell BK183.out 3).trans rfl; have hcz8_4 : w7.cell? ⟨gb183, 4, none⟩ = some (.bool a0_4) := (blk_cell BK183.out 4).trans rfl; have hfz8_0 := blk_frozen BK183.out 0; have hfz8_1 := blk_frozen BK183.out 1; have hfz8_2 := blk_frozen BK183.out 2; have hfz8_3 := blk_frozen BK183.out 3; have hfz8_4 := blk_frozen BK183.out 4) | ((with_reducible refine gate_callee (f := 91) rfl ?_); refine goesL_ (some 6) rfl rfl Try.func91 (by kernel_rfl) rfl #[.agg #[.int .i64 a0_0, .int .i64 a0_1, .int .i64 a0_2, .int .i64 a0_3, .bool a0_4]] rfl (by (try simp only [List.map_toArray, List.map_cons, List.map_nil]); first | done | rfl | (simp only [List.length_drop, List.length_take]; rfl)) ?_; (with_reducible refine (impl_isFirst.calls a0_0 a0_1 a0_2 a0_3 a0_4 true _ A3.out).mono ?_); rintro e w9 ⟨rfl, hb⟩; refine ⟨_, rfl, ?_⟩; have n0_ := Aside0.mk (blk_below (g := gb183) (o := .cells #[.int .i64 a0_0, .int .i64 a0_1, .int .i64 a0_2, .int .i64 a0_3, .bool a0_4] 30 (0, 0)) (by (with_reducible repeat (first | refine blk_drewN ?_ _ | refine blk_drew ?_ | refine blk_alloc ?_ _)); exact BK183.out) hb); have n1_ := Aside0.mk (below_step (by repeat (first | (with_reducible first | exact HB.out | apply below_alloc | apply pw_below_drewN | apply below_drew1 | refine below_set ?_ GE183.out) | exact HB.out)) hb); clear BK183; clear HB; have BK183 := n0_; have HB := n1_; clear n0_ n1_; (try clear hb); (try clear hb2); (try clear hk); (try clear hi); have hcz10_0 : w9.cell? ⟨gb183, 0, none⟩ = some (.int .i64 a0_0) := (blk_cell BK183.out 0).trans rfl; have hcz10_1 : w9.cell? ⟨gb183, 1, none⟩ = some (.int .i64 a0_1) := (blk_cell BK183.out 1).trans rfl; have hcz10_2 : w9.cell? ⟨gb183, 2, none⟩ = some (.int .i64 a0_2) := (blk_cell BK183.out 2).trans rfl; have hcz10_3 : w9.cell? ⟨gb183, 3, none⟩ = some (.int .i64 a0_3) := (blk_cell BK183.out 3).trans rfl; have hcz10_4 : w9.cell? ⟨gb183, 4, none⟩ = some (.bool a0_4) := (blk_cell BK183.out 4).trans rfl; have hfz10_0 := blk_frozen BK183.out 0; have hfz10_1 := blk_frozen BK183.out 1; have hfz10_2 := blk_frozen BK183.out 2; have hfz10_3 := blk_frozen BK183.out 3; have hfz10_4 := blk_frozen BK183.out 4) | (go_at_call 44; (with_reducible refine (impl_isSample.calls a1 t185 _ A6.out).mono ?_); rintro e w' ⟨rfl, ⟨nd, rfl⟩⟩))
      go_ret
      exact ⟨by first | rfl | (simp [errW_none, errW_some] <;> rfl) | (simp [*, errW_none, errW_some] <;> rfl), by repeat (first | (with_reducible first | exact HB.out | apply below_alloc | apply pw_below_drewN | apply below_drew1 | refine below_set ?_ GE183.out) | exact HB.out)⟩
    · rw [if_neg c5] at H
      have c5b0 : decide (a0_3 ≤ 10) = false := decide_eq_false c5
      clear c5
      obtain rfl := Option.some.inj H
      go_enter Try.func75, Try.ntmps75
      go_wp2_with (first | ((with_reducible refine gate_dst (N := 2) rfl ?_); refine box_event ?hg (N := 2) ?hd (cs := #[.int .i64 a0_0, .int .i64 a0_1, .int .i64 a0_2, .int .i64 a0_3, .bool a0_4]) (t := 30) ?hr ?_; (case hd => rfl); (case hg => rfl); (case hr => first | (go_simp; done) | (go_simp; rfl)); intro gb183 hg w11 hbox hb; have n0_ := Aside0.mk (below_step (by repeat (first | (with_reducible first | exact HB.out | apply below_alloc | apply pw_below_drewN | apply below_drew1) | exact HB.out)) hb); have n1_ := Aside0.mk (hbox); have n2_ := Aside0.mk ((by rw [hg]; exact (below_size (by repeat (first | (with_reducible first | exact HB.out | apply below_alloc | apply pw_below_drewN | apply below_drew1) | exact HB.out))) : w.heap.size ≤ gb183)); have n3_ := Aside0.mk ((by rw [hg]; exact (below_size (by repeat (first | (with_reducible first | exact HB.out | apply below_alloc | apply pw_below_drewN | apply below_drew1) | exact HB.out))) : w.heap.size ≤ gb183)); clear HB; have HB := n0_; have BK183 := n1_; have GW183 := n2_; have GE183 := n3_; clear n0_ n1_ n2_ n3_; clear hb hbox hg; have hcz12_0 : w11.cell? ⟨gb183, 0, none⟩ = some (.int .i64 a0_0) := (blk_cell BK183.out 0).trans rfl; have hcz12_1 : w11.cell? ⟨gb183, 1, none⟩ = some (.int .i64 a0_1) := (blk_cell BK183.out 1).trans rfl; have hcz12_2 : w11.cell? ⟨gb183, 2, none⟩ = some (.int .i64 a0_2) := (blk_cell BK183.out 2).trans rfl; have hcz12_3 : w11.cell? ⟨gb183, 3, none⟩ = some (.int .i64 a0_3) := (blk_cell BK183.out 3).trans rfl; have hcz12_4 : w11.cell? ⟨gb183, 4, none⟩ = some (.bool a0_4) := (blk_cell BK183.out 4).trans rfl; have hfz12_0 := blk_frozen BK183.out 0; have hfz12_1 := blk_frozen BK183.out 1; have hfz12_2 := blk_frozen BK183.out 2; have hfz12_3 := blk_frozen BK183.out 3; have hfz12_4 := blk_frozen BK183.out 4) | ((with_reducible refine gate_callee (f := 91) rfl ?_); refine goesL_ (some 6) rfl rfl Try.func91 (by kernel_rfl) rfl #[.agg #[.int .i64 a0_0, .int .i64 a0_1, .int .i64 a0_2, .int .i64 a0_3, .bool a0_4]] rfl (by (try simp only [List.map_toArray, List.map_cons, List.map_nil]); first | done | rfl | (simp only [List.length_drop, List.length_take]; rfl)) ?_; (with_reducible refine (impl_isFirst.calls a0_0 a0_1 a0_2 a0_3 a0_4 true _ A3.out).mono ?_); rintro e w13 ⟨rfl, hb⟩; refine ⟨_, rfl, ?_⟩; have n0_ := Aside0.mk (blk_below (g := gb183) (o := .cells #[.int .i64 a0_0, .int .i64 a0_1, .int .i64 a0_2, .int .i64 a0_3, .bool a0_4] 30 (0, 0)) (by (with_reducible repeat (first | refine blk_drewN ?_ _ | refine blk_drew ?_ | refine blk_alloc ?_ _)); exact BK183.out) hb); have n1_ := Aside0.mk (below_step (by repeat (first | (with_reducible first | exact HB.out | apply below_alloc | apply pw_below_drewN | apply below_drew1 | refine below_set ?_ GE183.out) | exact HB.out)) hb); clear BK183; clear HB; have BK183 := n0_; have HB := n1_; clear n0_ n1_; (try clear hb); (try clear hb2); (try clear hk); (try clear hi); have hcz14_0 : w13.cell? ⟨gb183, 0, none⟩ = some (.int .i64 a0_0) := (blk_cell BK183.out 0).trans rfl; have hcz14_1 : w13.cell? ⟨gb183, 1, none⟩ = some (.int .i64 a0_1) := (blk_cell BK183.out 1).trans rfl; have hcz14_2 : w13.cell? ⟨gb183, 2, none⟩ = some (.int .i64 a0_2) := (blk_cell BK183.out 2).trans rfl; have hcz14_3 : w13.cell? ⟨gb183, 3, none⟩ = some (.int .i64 a0_3) := (blk_cell BK183.out 3).trans rfl; have hcz14_4 : w13.cell? ⟨gb183, 4, none⟩ = some (.bool a0_4) := (blk_cell BK183.out 4).trans rfl; have hfz14_0 := blk_frozen BK183.out 0; have hfz14_1 := blk_frozen BK183.out 1; have hfz14_2 := blk_frozen BK183.out 2; have hfz14_3 := blk_frozen BK183.out 3; have hfz14_4 := blk_frozen BK183.out 4))
      go_ret
      exact ⟨by first | rfl | (simp [errW_none, errW_some] <;> rfl) | (simp [*, errW_none, errW_some] <;> rfl), by repeat (first | (with_reducible first | exact HB.out | apply below_alloc | apply pw_below_drewN | apply below_drew1 | refine below_set ?_ GE183.out) | exact HB.out)⟩
  · replace c4 := Bool.eq_false_iff.mpr c4
    subst c4
    have H1 : (some false) = some r := by rw [if_neg (show ¬ (false = true) by decide)] at H; exact H
    clear H
    have H := H1
    clear H1
    obtain rfl := Option.some.inj H
    go_enter Try.func75, Try.ntmps75
    go_wp2_with (first | ((with_reducible refine gate_dst (N := 2) rfl ?_); refine box_event ?hg (N := 2) ?hd (cs := #[.int .i64 a0_0, .int .i64 a0_1, .int .i64 a0_2, .int .i64 a0_3, .bool a0_4]) (t := 30) ?hr ?_; (case hd => rfl); (case hg => rfl); (case hr => first | (go_simp; done) | (go_simp; rfl)); intro gb183 hg w15 hbox hb; have n0_ := Aside0.mk (below_step (by repeat (first | (with_reducible first | exact HB.out | apply below_alloc | apply pw_below_drewN | apply below_drew1) | exact HB.out)) hb); have n1_ := Aside0.mk (hbox); have n2_ := Aside0.mk ((by rw [hg]; exact (below_size (by repeat (first | (with_reducible first | exact HB.out | apply below_alloc | apply pw_below_drewN | apply below_drew1) | exact HB.out))) : w.heap.size ≤ gb183)); have n3_ := Aside0.mk ((by rw [hg]; exact (below_size (by repeat (first | (with_reducible first | exact HB.out | apply below_alloc | apply pw_below_drewN | apply below_drew1) | exact HB.out))) : w.heap.size ≤ gb183)); clear HB; have HB := n0_; have BK183 := n1_; have GW183 := n2_; have GE183 := n3_; clear n0_ n1_ n2_ n3_; clear hb hbox hg; have hcz16_0 : w15.cell? ⟨gb183, 0, none⟩ = some (.int .i64 a0_0) := (blk_cell BK183.out 0).trans rfl; have hcz16_1 : w15.cell? ⟨gb183, 1, none⟩ = some (.int .i64 a0_1) := (blk_cell BK183.out 1).trans rfl; have hcz16_2 : w15.cell? ⟨gb183, 2, none⟩ = some (.int .i64 a0_2) := (blk_cell BK183.out 2).trans rfl; have hcz16_3 : w15.cell? ⟨gb183, 3, none⟩ = some (.int .i64 a0_3) := (blk_cell BK183.out 3).trans rfl; have hcz16_4 : w15.cell? ⟨gb183, 4, none⟩ = some (.bool a0_4) := (blk_cell BK183.out 4).trans rfl; have hfz16_0 := blk_frozen BK183.out 0; have hfz16_1 := blk_frozen BK183.out 1; have hfz16_2 := blk_frozen BK183.out 2; have hfz16_3 := blk_frozen BK183.out 3; have hfz16_4 := blk_frozen BK183.out 4) | ((with_reducible refine gate_callee (f := 91) rfl ?_); refine goesL_ (some 6) rfl rfl Try.func91 (by kernel_rfl) rfl #[.agg #[.int .i64 a0_0, .int .i64 a0_1, .int .i64 a0_2, .int .i64 a0_3, .bool a0_4]] rfl (by (try simp only [List.map_toArray, List.map_cons, List.map_nil]); first | done | rfl | (simp only [List.length_drop, List.length_take]; rfl)) ?_; (with_reducible refine (impl_isFirst.calls a0_0 a0_1 a0_2 a0_3 a0_4 false _ A3.out).mono ?_); rintro e w17 ⟨rfl, hb⟩; refine ⟨_, rfl, ?_⟩; have n0_ := Aside0.mk (blk_below (g := gb183) (o := .cells #[.int .i64 a0_0, .int .i64 a0_1, .int .i64 a0_2, .int .i64 a0_3, .bool a0_4] 30 (0, 0)) (by (with_reducible repeat (first | refine blk_drewN ?_ _ | refine blk_drew ?_ | refine blk_alloc ?_ _)); exact BK183.out) hb); have n1_ := Aside0.mk (below_step (by repeat (first | (with_reducible first | exact HB.out | apply below_alloc | apply pw_below_drewN | apply below_drew1 | refine below_set ?_ GE183.out) | exact HB.out)) hb); clear BK183; clear HB; have BK183 := n0_; have HB := n1_; clear n0_ n1_; (try clear hb); (try clear hb2); (try clear hk); (try clear hi)))
    go_ret
    exact ⟨by first | rfl | (simp [errW_none, errW_some] <;> rfl) | (simp [*, errW_none, errW_some] <;> rfl), by repeat (first | (with_reducible first | exact HB.out | apply below_alloc | apply pw_below_drewN | apply below_drew1 | refine below_set ?_ GE183.out) | exact HB.out)⟩

/-! ### impl_Word_has: function 80 -/
def impl_Word_has.f (a0_0 : Int) (a0_1 : Bool) (a1 : Int) : Option (Bool) := (impl_Word_ends.f a0_0 a0_1).bind fun bt187 => ((impl_in.f a1 bt187.1 bt187.2).bind fun t189 => (some t189))
set_option maxHeartbeats 8000000 in
set_option maxRecDepth 100000 in
theorem impl_Word_has.calls (a0_0 : Int) (a0_1 : Bool) (a1 : Int) (r : Bool) (w : World) (h : impl_Word_has.f a0_0 a0_1 a1 = some r) :
    Calls Try.prog 80 #[.agg #[.int .i64 a0_0, .bool a0_1], .int .i64 a1] w fun e w' => e = .returned (.bool r) ∧ Below w.heap.size w w' := by
  have hu28 := Try.underlying28
  have HB := Aside0.mk (Below.refl w.heap.size w)
  have H : ((impl_Word_ends.f a0_0 a0_1).bind fun bt187 => ((impl_in.f a1 bt187.1 bt187.2).bind fun t189 => (some t189))) = some r := h
  clear h
  replace H := Option.bind_eq_some_iff.mp H
  obtain ⟨⟨t187, t188⟩, A30, H⟩ := H
  replace H : ((impl_in.f a1 t187 t188).bind fun t189 => (some t189)) = some r := H
  have A3 := Aside0.mk A30
  clear A30
  replace H := Option.bind_eq_some_iff.mp H
  obtain ⟨t189, A40, H⟩ := H
  replace H : (some t189) = some r := H
  have A4 := Aside0.mk A40
  clear A40
  obtain rfl := Option.some.inj H
  go_enter Try.func80, Try.ntmps80
  go_wp2_with (first | ((with_reducible refine gate_dst (N := 2) rfl ?_); refine box_event ?hg (N := 2) ?hd (cs := #[.int .i64 a0_0, .bool a0_1]) (t := 28) ?hr ?_; (case hd => rfl); (case hg => rfl); (case hr => first | (go_simp; done) | (go_simp; rfl)); intro gb186 hg w5 hbox hb; have n0_ := Aside0.mk (below_step (by repeat (first | (with_reducible first | exact HB.out | apply below_alloc | apply pw_below_drewN | apply below_drew1) | exact HB.out)) hb); have n1_ := Aside0.mk (hbox); have n2_ := Aside0.mk ((by rw [hg]; exact (below_size (by repeat (first | (with_reducible first | exact HB.out | apply below_alloc | apply pw_below_drewN | apply below_drew1) | exact HB.out))) : w.heap.size ≤ gb186)); have n3_ := Aside0.mk ((by rw [hg]; exact (below_size (by repeat (first | (with_reducible first | exact HB.out | apply below_alloc | apply pw_below_drewN | apply below_drew1) | exact HB.out))) : w.heap.size ≤ gb186)); clear HB; have HB := n0_; have BK186 := n1_; have GW186 := n2_; have GE186 := n3_; clear n0_ n1_ n2_ n3_; clear hb hbox hg; have hcz6_0 : w5.cell? ⟨gb186, 0, none⟩ = some (.int .i64 a0_0) := (blk_cell BK186.out 0).trans rfl; have hcz6_1 : w5.cell? ⟨gb186, 1, none⟩ = some (.bool a0_1) := (blk_cell BK186.out 1).trans rfl; have hfz6_0 := blk_frozen BK186.out 0; have hfz6_1 := blk_frozen BK186.out 1) | ((with_reducible refine gate_callee (f := 104) rfl ?_); refine goesL_ (some 9) rfl rfl Try.func104 (by kernel_rfl) rfl #[.agg #[.int .i64 a0_0, .bool a0_1]] rfl (by (try simp only [List.map_toArray, List.map_cons, List.map_nil]); first | done | rfl | (simp only [List.length_drop, List.length_take]; rfl)) ?_; (with_reducible refine (impl_Word_ends.calls a0_0 a0_1 t187 t188 _ A3.out).mono ?_); rintro e w7 ⟨rfl, hb⟩; refine ⟨_, rfl, ?_⟩; have n0_ := Aside0.mk (blk_below (g := gb186) (o := .cells #[.int .i64 a0_0, .bool a0_1] 28 (0, 0)) (by (with_reducible repeat (first | refine blk_drewN ?_ _ | refine blk_drew ?_ | refine blk_alloc ?_ _)); exact BK186.out) hb); have n1_ := Aside0.mk (below_step (by repeat (first | (with_reducible first | exact HB.out | apply below_alloc | apply pw_below_drewN | apply below_drew1 | refine below_set ?_ GE186.out) | exact HB.out)) hb); clear BK186; clear HB; have BK186 := n0_; have HB := n1_; clear n0_ n1_; (try clear hb); (try clear hb2); (try clear hk); (try clear hi)) | ((with_reducible refine gate_callee (f := 92) rfl ?_); refine goesL_ (some 15) rfl rfl Try.func92 (by kernel_rfl) rfl #[.int .i64 a1, .int .i64 t187, .int .i64 t188] rfl (by (try simp only [List.map_toArray, List.map_cons, List.map_nil]); first | done | rfl | (simp only [List.length_drop, List.length_take]; rfl)) ?_; (with_reducible refine (impl_in.calls a1 t187 t188 t189 _ A4.out).mono ?_); rintro e w' ⟨rfl, ⟨nd, rfl⟩⟩; refine ⟨_, rfl, ?_⟩))
  go_ret
  exact ⟨by first | rfl | (simp [errW_none, errW_some] <;> rfl) | (simp [*, errW_none, errW_some] <;> rfl), by repeat (first | (with_reducible first | exact HB.out | apply below_alloc | apply pw_below_drewN | apply below_drew1 | refine below_set ?_ GE186.out) | exact HB.out)⟩

/-! ### impl_NumbersBefore: function 34 -/
/-- What the captured variables hold, the row that grows among them. -/
def impl_NumbersBefore.St (w0 W : World) (Bf Bx By0 Bo : Nat) (a s m b : Int) (p : Bool) (x y0 : Int) (v : Value) (out : List Int) : Prop :=
  W.heap[Bf]? = some (.cells #[.int .i64 a, .int .i64 s, .int .i64 m, .int .i64 b, .bool p] 30 (0, 0)) ∧ W.heap[Bx]? = some (.cells #[.int .i64 x] 3 (0, 0)) ∧ W.heap[By0]? = some (.cells #[.int .i64 y0] 3 (0, 0)) ∧ W.heap[Bo]? = some (.cells #[v] 33 (0, 0)) ∧
    Kd.R (Kd.int .i64) 3 W w0.heap.size (fun k_ => k_ ≠ Bx ∧ k_ ≠ By0 ∧ k_ ≠ Bf ∧ k_ ≠ Bo) v out ∧ Below w0.heap.size w0 W
theorem impl_NumbersBefore.St.below {w0 W W1 : World} {Bf Bx By0 Bo : Nat} {a s m b : Int} {p : Bool} {x y0 : Int} {v : Value} {out : List Int} (h : impl_NumbersBefore.St w0 W Bf Bx By0 Bo a s m b p x y0 v out) (hb : Below W.heap.size W W1) : impl_NumbersBefore.St w0 W1 Bf Bx By0 Bo a s m b p x y0 v out :=
  ⟨blk_below h.1 hb, blk_below h.2.1 hb, blk_below h.2.2.1 hb, blk_below h.2.2.2.1 hb, Kd.R_below h.2.2.2.2.1 hb, below_step h.2.2.2.2.2 hb⟩
theorem impl_NumbersBefore.St.mk {w0 W : World} {Bf Bx By0 Bo : Nat} {a s m b : Int} {p : Bool} {x y0 : Int} {v : Value} {out : List Int} (h : W.heap[Bf]? = some (.cells #[.int .i64 a, .int .i64 s, .int .i64 m, .int .i64 b, .bool p] 30 (0, 0)) ∧ W.heap[Bx]? = some (.cells #[.int .i64 x] 3 (0, 0)) ∧ W.heap[By0]? = some (.cells #[.int .i64 y0] 3 (0, 0)) ∧ W.heap[Bo]? = some (.cells #[v] 33 (0, 0)) ∧
    Kd.R (Kd.int .i64) 3 W w0.heap.size (fun k_ => k_ ≠ Bx ∧ k_ ≠ By0 ∧ k_ ≠ Bf ∧ k_ ≠ Bo) v out ∧ Below w0.heap.size w0 W) : impl_NumbersBefore.St w0 W Bf Bx By0 Bo a s m b p x y0 v out := h
def impl_NumbersBefore.T0 : Bool × List (List Nat × List Nat) := (true, [([], []), ([], []), ([], []), ([0, 1, 2], [0, 1, 2]), ([], []), ([3, 4], [3, 4])])
def impl_NumbersBefore.B0 : List Nat := [0, 0, 0, 7, 0, 31]
theorem impl_NumbersBefore.tab0 : rtab .any (opsOf Try.f81 0) = impl_NumbersBefore.T0 := by kernel_rfl
theorem impl_NumbersBefore.bits0 : waitsOk impl_NumbersBefore.T0.2 impl_NumbersBefore.B0 = true := by kernel_rfl
set_option maxHeartbeats 8000000 in
set_option maxRecDepth 100000 in
theorem impl_NumbersBefore.yes (k : Nat) (w0 W : World) (Bf Bx By0 Bo : Nat) (a s m b : Int) (p : Bool) (x y0 y : Int) (t : Int) (v : Value) (out : List Int) (h : impl_NumbersBefore.St w0 W Bf Bx By0 Bo a s m b p x y0 v out) (hB : w0.heap.size ≤ Bo) (h1 : Bf ≠ Bo) (gx : Bx ≠ Bo) (gy0 : By0 ≠ Bo)
    (heq : t = y0) (hl : out.length < 17592186044416) (hs : impl_First_step.f k a s m b p y x = some t) :
    Calls Try.prog 81 #[.int .i64 y, .pointer (some ⟨Bf, 0, none⟩), .pointer (some ⟨Bx, 0, none⟩), .pointer (some ⟨By0, 0, none⟩), .pointer (some ⟨Bo, 0, none⟩)] W fun e W1 => e = .returned (.tuple #[]) ∧ ∃ v1 : Value, impl_NumbersBefore.St w0 W1 Bf Bx By0 Bo a s m b p x y0 v1 (out ++ [y]) := by
  have hu30 := Try.underlying30
  have A1 := Aside0.mk hs
  have HL := Aside0.mk hl
  have HS := Aside0.mk h
  have c0 : (t == y0) = true := beq_iff_eq.mpr heq
  clear hs hl heq
  have G1 := Aside0.mk h1
  have GB := Aside0.mk hB
  have Gx := Aside0.mk gx
  have Gy0 := Aside0.mk gy0
  clear h1 hB gx gy0
  clear h
  go_enter Try.func81, Try.ntmps81
  try go_wp2
  have n0_ := Aside0.mk (HS.out.below (below_drew1 (Below.refl _ _)))
  clear HS
  have HS := n0_
  clear n0_
  refine start_ (n := 6) (S := fun w' => w'.cell? ⟨Bf, 0, none⟩ = some (.int .i64 a) ∧ w'.cell? ⟨Bf, 1, none⟩ = some (.int .i64 s) ∧ w'.cell? ⟨Bf, 2, none⟩ = some (.int .i64 m) ∧ w'.cell? ⟨Bf, 3, none⟩ = some (.int .i64 b) ∧ w'.cell? ⟨Bf, 4, none⟩ = some (.bool p) ∧ w'.cell? ⟨Bx, 0, none⟩ = some (.int .i64 x) ∧ w'.cell? ⟨By0, 0, none⟩ = some (.int .i64 y0)) (ds := []) #[false, false, false, false, false, false] (by kernel_rfl) rfl rfl ⟨(blk_cell HS.out.1 0).trans rfl, (blk_cell HS.out.1 1).trans rfl, (blk_cell HS.out.1 2).trans rfl, (blk_cell HS.out.1 3).trans rfl, (blk_cell HS.out.1 4).trans rfl, (blk_cell HS.out.2.1 0).trans rfl, (blk_cell HS.out.2.2.1 0).trans rfl⟩ (fun hHeld => ?_)
  refine with_tabW impl_NumbersBefore.tab0 impl_NumbersBefore.bits0 (fun HT_ HW_ => ?_)
  generalize W.drew = w6 at HS hHeld ⊢
  refine pure_ (i := 1) (N := some 7) (v := ?_) (a' := ?_) #[false, true, false, false, false, false] rfl rfl (any_of HT_.out (by kernel_rfl)) (fun _ _ _ h => h) (Or.inl ⟨by rfl, ?_⟩) ?_ ?_
  rotate_left
  · intro w'
    go_simp
    with_reducible rfl
  rotate_left
  · simp only [Act.put, List.setIfInBounds_toArray, List.set_cons_zero, List.set_cons_succ, i64_w, i32_w]
    rfl
  refine take_ (i := 0) (N := some 6) (v := ?_) (a' := ?_) #[true, true, false, false, false, false] rfl rfl (take_ofW HT_.out HW_.out (by kernel_rfl)) (fun _ _ _ h => h) (Or.inl ⟨by rfl, ?_⟩) hHeld ?_ ?_
  rotate_left
  · rintro w' ⟨s0, s1, s2, s3, s4, s5, s6⟩
    go_simp
    with_reducible rfl
  rotate_left
  · simp only [Act.put, List.setIfInBounds_toArray, List.set_cons_zero, List.set_cons_succ, i64_w, i32_w]
    rfl
  refine take_ (i := 2) (N := some 8) (v := ?_) (a' := ?_) #[true, true, true, false, false, false] rfl rfl (take_ofW HT_.out HW_.out (by kernel_rfl)) (fun _ _ _ h => h) (Or.inl ⟨by rfl, ?_⟩) hHeld ?_ ?_
  rotate_left
  · rintro w' ⟨s0, s1, s2, s3, s4, s5, s6⟩
    go_simp
    with_reducible rfl
  rotate_left
  · simp only [Act.put, List.setIfInBounds_toArray, List.set_cons_zero, List.set_cons_succ, i64_w, i32_w]
    rfl
  refine take_ (i := 4) (N := some 10) (v := ?_) (a' := ?_) #[true, true, true, false, true, false] rfl rfl (take_ofW HT_.out HW_.out (by kernel_rfl)) (fun _ _ _ h => h) (Or.inl ⟨by rfl, ?_⟩) hHeld ?_ ?_
  rotate_left
  · rintro w' ⟨s0, s1, s2, s3, s4, s5, s6⟩
    go_simp
    with_reducible rfl
  rotate_left
  · simp only [Act.put, List.setIfInBounds_toArray, List.set_cons_zero, List.set_cons_succ, i64_w, i32_w]
    rfl
  refine one_ (i := 3) (N := some 9) #[true, true, true, true, true, false] rfl rfl (one_of HT_.out (by kernel_rfl)) (by decide) (fun K hK => ?_)
  refine goes_ Try.func45 (by kernel_rfl) rfl #[.agg #[.int .i64 a, .int .i64 s, .int .i64 m, .int .i64 b, .bool p], .int .i64 y, .int .i64 x] (by rfl) rfl rfl (by (try simp only [List.map_toArray, List.map_cons, List.map_nil]); first | done | rfl | (simp only [List.length_drop, List.length_take]; rfl)) ?_
  with_reducible refine (impl_First_step.calls k a s m b p y x t _ A1.out).mono ?_
  rintro e w8 ⟨rfl, hb⟩
  refine ⟨_, rfl, ?_⟩
  have n0_ := Aside0.mk (HS.out.below hb)
  clear HS
  have HS := n0_
  clear n0_ hb
  refine hK.out _ _ ⟨(blk_cell HS.out.1 0).trans rfl, (blk_cell HS.out.1 1).trans rfl, (blk_cell HS.out.1 2).trans rfl, (blk_cell HS.out.1 3).trans rfl, (blk_cell HS.out.1 4).trans rfl, (blk_cell HS.out.2.1 0).trans rfl, (blk_cell HS.out.2.2.1 0).trans rfl⟩ (fun hHeld => ?_)
  clear hK K
  refine norm_ (a' := ?_) ?_ ?_
  rotate_left
  · show Act.put _ (some 9) _ = _
    simp only [Act.put, List.setIfInBounds_toArray, List.set_cons_zero, List.set_cons_succ, i64_w, i32_w]
    rfl
  refine pure_ (i := 5) (N := some 11) (v := ?_) (a' := ?_) #[true, true, true, true, true, true] rfl rfl (any_of HT_.out (by kernel_rfl)) (fun _ _ _ h => h) (Or.inl ⟨by rfl, ?_⟩) ?_ ?_
  rotate_left
  · intro w'
    go_simp
    with_reducible rfl
  rotate_left
  · simp only [Act.put, List.setIfInBounds_toArray, List.set_cons_zero, List.set_cons_succ, i64_w, i32_w]
    rfl
  refine done_ (done_of HT_.out (by kernel_rfl)) ?_
  have o0 : w8.cell? ⟨Bo, 0, none⟩ = some v := (blk_cell HS.out.2.2.2.1 0).trans rfl
  go_wp2_with (first | ((with_reducible refine gate_builtin (b := .append) (xs := #[.tmp 12, .tmp 14]) rfl ?_); at_builtin; refine Kd.R_append (Kd.int .i64) (w0 := w0) w0.heap.size rfl (.tmp 12) (.tmp 14) 33 3 (.int .i64 0) 8 rfl Try.underlying33 info3 rfl (by decide) (by omega) v out y [.int .i64 y] (fun k_ => k_ ≠ Bx ∧ k_ ≠ By0 ∧ k_ ≠ Bf ∧ k_ ≠ Bo) (fun _ => False) rfl rfl ?aP (fun _ hk => hk.elim) ?aF ?aO ?aB ?aS ?aL ?_; (case aP => exact rfl); (case aB => exact HS.out.2.2.2.2.2); (case aF => exact (fun k_ hk_ => ⟨fun e_ => Nat.not_le.2 (blk_lt HS.out.2.1) (e_ ▸ hk_), fun e_ => Nat.not_le.2 (blk_lt HS.out.2.2.1) (e_ ▸ hk_), fun e_ => Nat.not_le.2 (blk_lt HS.out.1) (e_ ▸ hk_), fun e_ => Nat.not_le.2 (blk_lt HS.out.2.2.2.1) (e_ ▸ hk_)⟩)); (case aO => exact HS.out.2.2.2.2.1); (case aS => exact HS.out.2.2.2.2.2.size); (case aL => have := HL.out; omega); intro v116 w7 ho hb hg hat; obtain ⟨A_, c_, rfl⟩ := Kd.R_slice ho; have F7 := Aside0.mk (blk_grown HS.out.1 hg (fun e_ => (HS.out.2.2.2.2.1.1 Bf e_.symm).2.2.1 rfl)); have Xx := Aside0.mk (blk_grown HS.out.2.1 hg (fun e_ => (HS.out.2.2.2.2.1.1 Bx e_.symm).1 rfl)); have Xy0 := Aside0.mk (blk_grown HS.out.2.2.1 hg (fun e_ => (HS.out.2.2.2.2.1.1 By0 e_.symm).2.1 rfl)); have O7 := Aside0.mk (blk_grown HS.out.2.2.2.1 hg (fun e_ => (HS.out.2.2.2.2.1.1 Bo e_.symm).2.2.2 rfl)); have HO := Aside0.mk ho; have HB := Aside0.mk hb; clear ho hb hg hat HS o0; have o1 : w7.cell? ⟨Bo, 0, none⟩ = some v := (blk_cell O7.out 0).trans rfl; have z1 := blk_frozen O7.out 0))
  go_end0
  exact ⟨rfl, _, blk_far F7.out G1.out _, blk_far Xx.out Gx.out _, blk_far Xy0.out Gy0.out _, blk_put O7.out 0 _ rfl, by have h_ := Kd.R_far HO.out (p := ⟨Bo, 0, none⟩) (fun k_ hk_ => hk_.2.2.2) (Value.slice A_ (out ++ [y]).length c_); simp only [List.length_append, List.length_singleton] at h_; exact h_, below_set HB.out GB.out⟩
set_option maxHeartbeats 8000000 in
set_option maxRecDepth 100000 in
theorem impl_NumbersBefore.no (k : Nat) (w0 W : World) (Bf Bx By0 Bo : Nat) (a s m b : Int) (p : Bool) (x y0 y : Int) (t : Int) (v : Value) (out : List Int) (h : impl_NumbersBefore.St w0 W Bf Bx By0 Bo a s m b p x y0 v out) (hne : ¬ t = y0) (hs : impl_First_step.f k a s m b p y x = some t) :
    Calls Try.prog 81 #[.int .i64 y, .pointer (some ⟨Bf, 0, none⟩), .pointer (some ⟨Bx, 0, none⟩), .pointer (some ⟨By0, 0, none⟩), .pointer (some ⟨Bo, 0, none⟩)] W fun e W1 => e = .returned (.tuple #[]) ∧ impl_NumbersBefore.St w0 W1 Bf Bx By0 Bo a s m b p x y0 v out := by
  have hu30 := Try.underlying30
  have A1 := Aside0.mk hs
  have HS := Aside0.mk h
  have c0 : (t == y0) = false := beq_eq_false_iff_ne.mpr hne
  clear hs hne
  clear h
  go_enter Try.func81, Try.ntmps81
  try go_wp2
  have n0_ := Aside0.mk (HS.out.below (below_drew1 (Below.refl _ _)))
  clear HS
  have HS := n0_
  clear n0_
  refine start_ (n := 6) (S := fun w' => w'.cell? ⟨Bf, 0, none⟩ = some (.int .i64 a) ∧ w'.cell? ⟨Bf, 1, none⟩ = some (.int .i64 s) ∧ w'.cell? ⟨Bf, 2, none⟩ = some (.int .i64 m) ∧ w'.cell? ⟨Bf, 3, none⟩ = some (.int .i64 b) ∧ w'.cell? ⟨Bf, 4, none⟩ = some (.bool p) ∧ w'.cell? ⟨Bx, 0, none⟩ = some (.int .i64 x) ∧ w'.cell? ⟨By0, 0, none⟩ = some (.int .i64 y0)) (ds := []) #[false, false, false, false, false, false] (by kernel_rfl) rfl rfl ⟨(blk_cell HS.out.1 0).trans rfl, (blk_cell HS.out.1 1).trans rfl, (blk_cell HS.out.1 2).trans rfl, (blk_cell HS.out.1 3).trans rfl, (blk_cell HS.out.1 4).trans rfl, (blk_cell HS.out.2.1 0).trans rfl, (blk_cell HS.out.2.2.1 0).trans rfl⟩ (fun hHeld => ?_)
  refine with_tabW impl_NumbersBefore.tab0 impl_NumbersBefore.bits0 (fun HT_ HW_ => ?_)
  generalize W.drew = w6 at HS hHeld ⊢
  refine pure_ (i := 1) (N := some 7) (v := ?_) (a' := ?_) #[false, true, false, false, false, false] rfl rfl (any_of HT_.out (by kernel_rfl)) (fun _ _ _ h => h) (Or.inl ⟨by rfl, ?_⟩) ?_ ?_
  rotate_left
  · intro w'
    go_simp
    with_reducible rfl
  rotate_left
  · simp only [Act.put, List.setIfInBounds_toArray, List.set_cons_zero, List.set_cons_succ, i64_w, i32_w]
    rfl
  refine take_ (i := 0) (N := some 6) (v := ?_) (a' := ?_) #[true, true, false, false, false, false] rfl rfl (take_ofW HT_.out HW_.out (by kernel_rfl)) (fun _ _ _ h => h) (Or.inl ⟨by rfl, ?_⟩) hHeld ?_ ?_
  rotate_left
  · rintro w' ⟨s0, s1, s2, s3, s4, s5, s6⟩
    go_simp
    with_reducible rfl
  rotate_left
  · simp only [Act.put, List.setIfInBounds_toArray, List.set_cons_zero, List.set_cons_succ, i64_w, i32_w]
    rfl
  refine take_ (i := 2) (N := some 8) (v := ?_) (a' := ?_) #[true, true, true, false, false, false] rfl rfl (take_ofW HT_.out HW_.out (by kernel_rfl)) (fun _ _ _ h => h) (Or.inl ⟨by rfl, ?_⟩) hHeld ?_ ?_
  rotate_left
  · rintro w' ⟨s0, s1, s2, s3, s4, s5, s6⟩
    go_simp
    with_reducible rfl
  rotate_left
  · simp only [Act.put, List.setIfInBounds_toArray, List.set_cons_zero, List.set_cons_succ, i64_w, i32_w]
    rfl
  refine take_ (i := 4) (N := some 10) (v := ?_) (a' := ?_) #[true, true, true, false, true, false] rfl rfl (take_ofW HT_.out HW_.out (by kernel_rfl)) (fun _ _ _ h => h) (Or.inl ⟨by rfl, ?_⟩) hHeld ?_ ?_
  rotate_left
  · rintro w' ⟨s0, s1, s2, s3, s4, s5, s6⟩
    go_simp
    with_reducible rfl
  rotate_left
  · simp only [Act.put, List.setIfInBounds_toArray, List.set_cons_zero, List.set_cons_succ, i64_w, i32_w]
    rfl
  refine one_ (i := 3) (N := some 9) #[true, true, true, true, true, false] rfl rfl (one_of HT_.out (by kernel_rfl)) (by decide) (fun K hK => ?_)
  refine goes_ Try.func45 (by kernel_rfl) rfl #[.agg #[.int .i64 a, .int .i64 s, .int .i64 m, .int .i64 b, .bool p], .int .i64 y, .int .i64 x] (by rfl) rfl rfl (by (try simp only [List.map_toArray, List.map_cons, List.map_nil]); first | done | rfl | (simp only [List.length_drop, List.length_take]; rfl)) ?_
  with_reducible refine (impl_First_step.calls k a s m b p y x t _ A1.out).mono ?_
  rintro e w8 ⟨rfl, hb⟩
  refine ⟨_, rfl, ?_⟩
  have n0_ := Aside0.mk (HS.out.below hb)
  clear HS
  have HS := n0_
  clear n0_ hb
  refine hK.out _ _ ⟨(blk_cell HS.out.1 0).trans rfl, (blk_cell HS.out.1 1).trans rfl, (blk_cell HS.out.1 2).trans rfl, (blk_cell HS.out.1 3).trans rfl, (blk_cell HS.out.1 4).trans rfl, (blk_cell HS.out.2.1 0).trans rfl, (blk_cell HS.out.2.2.1 0).trans rfl⟩ (fun hHeld => ?_)
  clear hK K
  refine norm_ (a' := ?_) ?_ ?_
  rotate_left
  · show Act.put _ (some 9) _ = _
    simp only [Act.put, List.setIfInBounds_toArray, List.set_cons_zero, List.set_cons_succ, i64_w, i32_w]
    rfl
  refine pure_ (i := 5) (N := some 11) (v := ?_) (a' := ?_) #[true, true, true, true, true, true] rfl rfl (any_of HT_.out (by kernel_rfl)) (fun _ _ _ h => h) (Or.inl ⟨by rfl, ?_⟩) ?_ ?_
  rotate_left
  · intro w'
    go_simp
    with_reducible rfl
  rotate_left
  · simp only [Act.put, List.setIfInBounds_toArray, List.set_cons_zero, List.set_cons_succ, i64_w, i32_w]
    rfl
  refine done_ (done_of HT_.out (by kernel_rfl)) ?_
  go_wp2
  go_end0
  exact ⟨rfl, HS.out⟩
def impl_NumbersBefore.l0 : Nat → Int → Int → Int → Int → Bool → Int → Int → List Int → Int → Int → Option (List Int)
  | 0, _, _, _, _, _, _, _, _, _, _ => none
  | k + 1, a, s, m, b, p, x, y0, out, y, hi => if y ≤ hi then ((impl_First_step.f k a s m b p y x).bind fun t => if t = y0 then (if out.length < 17592186044416 then (impl_NumbersBefore.l0 k a s m b p x y0 (out ++ [y]) (wrap64 (y + 1)) hi) else (none)) else (impl_NumbersBefore.l0 k a s m b p x y0 out (wrap64 (y + 1)) hi)) else (some out)
theorem impl_NumbersBefore.mono_l : ∀ k, (∀ a s m b p x y0 out y hi, LeO (impl_NumbersBefore.l0 k a s m b p x y0 out y hi) (impl_NumbersBefore.l0 (k + 1) a s m b p x y0 out y hi))
  | 0 => fun _ _ _ _ _ _ _ _ _ _ r h => by simp [impl_NumbersBefore.l0] at h
  | k + 1 => by
    have ih0 := impl_NumbersBefore.mono_l k
    · intro a s m b p x y0 out y hi
      unfold impl_NumbersBefore.l0
      repeat' first
      | (with_reducible exact ih0 _ _ _ _ _ _ _ _ _ _)
      | (with_reducible exact LeO.refl _)
      | (with_reducible exact LeO.none _)
      | (with_reducible refine LeO.ite ?_ ?_)
      | (with_reducible refine LeO.bind ?_ (fun _ => ?_))
      | exact impl_First_step.mono _ _ _ _ _ _ _ _
      | exact LeO.none _
      | refine LeO.ite ?_ ?_
      | refine LeO.bind ?_ (fun _ => ?_)
set_option maxHeartbeats 8000000 in
set_option maxRecDepth 100000 in
theorem impl_NumbersBefore.all (k : Nat) (w0 W : World) (Bf Bx By0 Bo : Nat) (a s m b : Int) (p : Bool) (x y0 lo hi : Int) (v : Value) (out r : List Int) (h : impl_NumbersBefore.St w0 W Bf Bx By0 Bo a s m b p x y0 v out) (hB : w0.heap.size ≤ Bo) (h1 : Bf ≠ Bo) (gx : Bx ≠ Bo) (gy0 : By0 ≠ Bo)
    (he : impl_Word_ends.f b p = some (lo, hi)) (hl : impl_NumbersBefore.l0 k a s m b p x y0 out lo hi = some r) :
    Calls Try.prog 70 #[.agg #[.int .i64 b, .bool p], .func (.func 81) #[] #[.pointer (some ⟨Bf, 0, none⟩), .pointer (some ⟨Bx, 0, none⟩), .pointer (some ⟨By0, 0, none⟩), .pointer (some ⟨Bo, 0, none⟩)]] W fun e W1 => e = .returned (.tuple #[]) ∧ ∃ v1 : Value, impl_NumbersBefore.St w0 W1 Bf Bx By0 Bo a s m b p x y0 v1 r := by
  have hu28 := Try.underlying28
  have AE := Aside0.mk he
  have AL := Aside0.mk hl
  have HS := Aside0.mk h
  clear h he hl
  have G1 := Aside0.mk h1
  have GB := Aside0.mk hB
  have Gx := Aside0.mk gx
  have Gy0 := Aside0.mk gy0
  clear h1 hB gx gy0
  go_enter Try.func70, Try.ntmps70
  go_wp2_with (first | ((with_reducible refine gate_dst (N := 2) rfl ?_); refine box_event ?hg (N := 2) ?hd (cs := #[.int .i64 b, .bool p]) (t := 28) ?hr ?_; (case hd => rfl); (case hg => rfl); (case hr => first | (go_simp; done) | (go_simp; rfl)); intro gb hgb w4 hbox hb; have n0_ := Aside0.mk (HS.out.below hb); clear HS; have HS := n0_; clear n0_ hb hgb; have z0 : w4.cell? ⟨gb, 0, none⟩ = some (.int .i64 b) := (blk_cell hbox 0).trans rfl; have z1 : w4.cell? ⟨gb, 1, none⟩ = some (.bool p) := (blk_cell hbox 1).trans rfl; clear hbox) | (go_at_call 104; (with_reducible refine (impl_Word_ends.calls b p lo hi _ AE.out).mono ?_); rintro e w2 ⟨rfl, hb⟩; have n0_ := Aside0.mk (HS.out.below hb); clear HS; have HS := n0_; clear n0_ hb z0 z1))
  go_loopg [6] k (fun kq v6 w' => ∃ (y : Int) (v1 : Value) (out1 : List Int), v6 = .int .i64 y ∧ Aside0 (impl_NumbersBefore.l0 kq a s m b p x y0 out1 y hi = some r) ∧ Aside0 (kq ≤ k) ∧ Aside0 (impl_NumbersBefore.St w0 w' Bf Bx By0 Bo a s m b p x y0 v1 out1))
  case atStart => exact ⟨lo, v, out, rfl, AL, ⟨Nat.le_refl _⟩, HS⟩
  case round =>
    clear HS AL
    obtain ⟨y, v1, out1, rfl, HA, HK, HS⟩ := hrel
    cases gk with
    | zero => exact absurd HA.out (by simp [impl_NumbersBefore.l0])
    | succ k1 =>
      have H := HA.out
      clear HA
      simp only [impl_NumbersBefore.l0] at H
      by_cases c1 : y ≤ hi
      · rw [if_pos c1] at H
        have c1b : decide (y ≤ hi) = true := decide_eq_true c1
        clear c1
        replace H := Option.bind_eq_some_iff.mp H
        obtain ⟨t, A1, H⟩ := H
        have AS := Aside0.mk A1
        clear A1
        by_cases c2 : t = y0
        · replace H := (if_pos c2).symm.trans H
          by_cases c3 : out1.length < 17592186044416
          · rw [if_pos c3] at H
            have H' := Aside0.mk H
            have C2 := Aside0.mk c2
            have C3 := Aside0.mk c3
            clear H c3 c2
            go_wp2_with (first | (go_at_call 81; (with_reducible refine (impl_NumbersBefore.yes k1 w0 _ Bf Bx By0 Bo a s m b p x y0 y t v1 out1 HS.out GB.out G1.out Gx.out Gy0.out C2.out C3.out AS.out).mono ?_); rintro e w2 ⟨rfl, ⟨v2, hs2⟩⟩; have n0_ := Aside0.mk hs2; clear HS hs2; have HS := n0_; clear n0_))
            go_roundg k1
            case measure => have := HK.out; omega
            case rel => exact ⟨_, v2, _, rfl, H', ⟨by have := HK.out; omega⟩, HS⟩
          · rw [if_neg c3] at H
            exact absurd H (by simp)
        · replace H := (if_neg c2).symm.trans H
          have H' := Aside0.mk H
          have C2 := Aside0.mk c2
          clear H c2
          go_wp2_with (first | (go_at_call 81; (with_reducible refine (impl_NumbersBefore.no k1 w0 _ Bf Bx By0 Bo a s m b p x y0 y t v1 out1 HS.out C2.out AS.out).mono ?_); rintro e w2 ⟨rfl, hs2⟩; have n0_ := Aside0.mk hs2; clear HS hs2; have HS := n0_; clear n0_))
          go_roundg k1
          case measure => have := HK.out; omega
          case rel => exact ⟨_, v1, _, rfl, H', ⟨by have := HK.out; omega⟩, HS⟩
      · rw [if_neg c1] at H
        have c1b : decide (y ≤ hi) = false := decide_eq_false c1
        clear c1
        obtain rfl := Option.some.inj H
        go_wp2
        go_end0
        exact ⟨rfl, v1, HS.out⟩
def impl_NumbersBefore.f (k : Nat) (a s m b : Int) (p : Bool) (y0 x : Int) : Option (List Int × Bool) := ((impl_First_isScanned.f a s m b p x).bind fun t0 => if t0 = true then ((impl_Word_has.f b p y0).bind fun t1 => if t1 = true then ((impl_Word_ends.f b p).bind fun e => ((impl_NumbersBefore.l0 k a s m b p x y0 ([] : List Int) e.1 e.2).bind fun r => some (r, true))) else some (([] : List Int), false)) else some (([] : List Int), false))
theorem impl_NumbersBefore.mono : ∀ a s m b p y0 x k, LeO (impl_NumbersBefore.f k a s m b p y0 x) (impl_NumbersBefore.f (k + 1) a s m b p y0 x) := by
  intro a s m b p y0 x k
  have ih0 := impl_NumbersBefore.mono_l k
  unfold impl_NumbersBefore.f
  repeat' first
      | (with_reducible exact ih0 _ _ _ _ _ _ _ _ _ _)
      | (with_reducible exact LeO.refl _)
      | (with_reducible exact LeO.none _)
      | (with_reducible refine LeO.ite ?_ ?_)
      | (with_reducible refine LeO.bind ?_ (fun _ => ?_))
      | exact ih0 _ _ _ _ _ _ _ _ _ _
      | exact LeO.none _
      | refine LeO.ite ?_ ?_
      | refine LeO.bind ?_ (fun _ => ?_)
set_option maxHeartbeats 8000000 in
set_option maxRecDepth 100000 in
theorem impl_NumbersBefore.calls (k : Nat) (a s m b : Int) (p : Bool) (y0 x : Int) (r1 : List Int) (r2 : Bool) (w : World) (h : impl_NumbersBefore.f k a s m b p y0 x = some (r1, r2)) :
    Calls Try.prog 34 #[.agg #[.int .i64 a, .int .i64 s, .int .i64 m, .int .i64 b, .bool p], .int .i64 y0, .int .i64 x] w fun e w' => ∃ v0_ : Value, e = .returned (.tuple #[v0_, .bool r2]) ∧ Kd.R (Kd.int .i64) 3 w' w.heap.size (fun _ => True) v0_ r1 ∧ Below w.heap.size w w' := by
  have hu30 := Try.underlying30
  have hu28 := Try.underlying28
  have hu33 := Try.underlying33
  have HB := Aside0.mk (Below.refl w.heap.size w)
  unfold impl_NumbersBefore.f at h
  obtain ⟨t0, q0_, h⟩ := Option.bind_eq_some_iff.mp h
  have Q0 := Aside0.mk q0_
  clear q0_
  cases t0 with
  | false =>
    replace h := (if_neg (by decide)).symm.trans h
    obtain ⟨rfl, rfl⟩ : ([] : List Int) = r1 ∧ false = r2 := by simpa using h
    clear h
    go_enter Try.func34, Try.ntmps34
    go_wp2_with (first | ((with_reducible refine gate_dst (N := 3) rfl ?_); refine box_event ?hg (N := 3) ?hd (cs := #[.int .i64 a, .int .i64 s, .int .i64 m, .int .i64 b, .bool p]) (t := 30) ?hr ?_; (case hd => rfl); (case hg => rfl); (case hr => first | (go_simp; done) | (go_simp; rfl)); intro gf hg vf hbox hb; have Nf := Aside0.mk ((by rw [hg]; exact HB.out.size) : w.heap.size ≤ gf); have mB_ := Aside0.mk (below_step HB.out hb); clear HB; have HB := mB_; clear mB_; have Kf := Aside0.mk hbox; clear hbox hb hg) | ((with_reducible refine gate_dst (N := 4) rfl ?_); refine box_event ?hg (N := 4) ?hd (cs := #[.int .i64 y0]) (t := 3) ?hr ?_; (case hd => rfl); (case hg => rfl); (case hr => first | (go_simp; done) | (go_simp; rfl)); intro gy0 hg vy0 hbox hb; have Ny0 := Aside0.mk ((by rw [hg]; exact HB.out.size) : w.heap.size ≤ gy0); have Nfy0 := Aside0.mk ((by rw [hg]; exact Nat.ne_of_lt (blk_lt Kf.out)) : gf ≠ gy0); have mf_ := Aside0.mk (blk_below Kf.out hb); have mB_ := Aside0.mk (below_step HB.out hb); clear Kf HB; have Kf := mf_; have HB := mB_; clear mf_ mB_; have Ky0 := Aside0.mk hbox; clear hbox hb hg) | ((with_reducible refine gate_dst (N := 5) rfl ?_); refine box_event ?hg (N := 5) ?hd (cs := #[.int .i64 x]) (t := 3) ?hr ?_; (case hd => rfl); (case hg => rfl); (case hr => first | (go_simp; done) | (go_simp; rfl)); intro gx hg vx hbox hb; have Nx := Aside0.mk ((by rw [hg]; exact HB.out.size) : w.heap.size ≤ gx); have Nfx := Aside0.mk ((by rw [hg]; exact Nat.ne_of_lt (blk_lt Kf.out)) : gf ≠ gx); have Ny0x := Aside0.mk ((by rw [hg]; exact Nat.ne_of_lt (blk_lt Ky0.out)) : gy0 ≠ gx); have mf_ := Aside0.mk (blk_below Kf.out hb); have my0_ := Aside0.mk (blk_below Ky0.out hb); have mB_ := Aside0.mk (below_step HB.out hb); clear Kf Ky0 HB; have Kf := mf_; have Ky0 := my0_; have HB := mB_; clear mf_ my0_ mB_; have Kx := Aside0.mk hbox; clear hbox hb hg; have yf0 : vx.cell? ⟨gf, 0, none⟩ = some (.int .i64 a) := (blk_cell Kf.out 0).trans rfl; have yf1 : vx.cell? ⟨gf, 1, none⟩ = some (.int .i64 s) := (blk_cell Kf.out 1).trans rfl; have yf2 : vx.cell? ⟨gf, 2, none⟩ = some (.int .i64 m) := (blk_cell Kf.out 2).trans rfl; have yf3 : vx.cell? ⟨gf, 3, none⟩ = some (.int .i64 b) := (blk_cell Kf.out 3).trans rfl; have yf4 : vx.cell? ⟨gf, 4, none⟩ = some (.bool p) := (blk_cell Kf.out 4).trans rfl; have yy00 : vx.cell? ⟨gy0, 0, none⟩ = some (.int .i64 y0) := (blk_cell Ky0.out 0).trans rfl; have yx0 : vx.cell? ⟨gx, 0, none⟩ = some (.int .i64 x) := (blk_cell Kx.out 0).trans rfl) | (go_at_call 75; (with_reducible refine (impl_First_isScanned.calls a s m b p x _ _ Q0.out).mono ?_); rintro e u0 ⟨rfl, hb⟩; have mf_ := Aside0.mk (blk_below Kf.out hb); have my0_ := Aside0.mk (blk_below Ky0.out hb); have mx_ := Aside0.mk (blk_below Kx.out hb); have mB_ := Aside0.mk (below_step HB.out hb); clear Kf Ky0 Kx HB; have Kf := mf_; have Ky0 := my0_; have Kx := mx_; have HB := mB_; clear mf_ my0_ mx_ mB_; clear yf0 yf1 yf2 yf3 yf4 yy00 yx0; clear hb; have yf0 : u0.cell? ⟨gf, 0, none⟩ = some (.int .i64 a) := (blk_cell Kf.out 0).trans rfl; have yf1 : u0.cell? ⟨gf, 1, none⟩ = some (.int .i64 s) := (blk_cell Kf.out 1).trans rfl; have yf2 : u0.cell? ⟨gf, 2, none⟩ = some (.int .i64 m) := (blk_cell Kf.out 2).trans rfl; have yf3 : u0.cell? ⟨gf, 3, none⟩ = some (.int .i64 b) := (blk_cell Kf.out 3).trans rfl; have yf4 : u0.cell? ⟨gf, 4, none⟩ = some (.bool p) := (blk_cell Kf.out 4).trans rfl; have yy00 : u0.cell? ⟨gy0, 0, none⟩ = some (.int .i64 y0) := (blk_cell Ky0.out 0).trans rfl; have yx0 : u0.cell? ⟨gx, 0, none⟩ = some (.int .i64 x) := (blk_cell Kx.out 0).trans rfl) | (go_at_call 80; (with_reducible refine (impl_Word_has.calls b p y0 _ _ Q1.out).mono ?_); rintro e u1 ⟨rfl, hb⟩; have mf_ := Aside0.mk (blk_below Kf.out hb); have my0_ := Aside0.mk (blk_below Ky0.out hb); have mx_ := Aside0.mk (blk_below Kx.out hb); have mB_ := Aside0.mk (below_step HB.out hb); clear Kf Ky0 Kx HB; have Kf := mf_; have Ky0 := my0_; have Kx := mx_; have HB := mB_; clear mf_ my0_ mx_ mB_; clear yf0 yf1 yf2 yf3 yf4 yy00 yx0; clear hb; have yf0 : u1.cell? ⟨gf, 0, none⟩ = some (.int .i64 a) := (blk_cell Kf.out 0).trans rfl; have yf1 : u1.cell? ⟨gf, 1, none⟩ = some (.int .i64 s) := (blk_cell Kf.out 1).trans rfl; have yf2 : u1.cell? ⟨gf, 2, none⟩ = some (.int .i64 m) := (blk_cell Kf.out 2).trans rfl; have yf3 : u1.cell? ⟨gf, 3, none⟩ = some (.int .i64 b) := (blk_cell Kf.out 3).trans rfl; have yf4 : u1.cell? ⟨gf, 4, none⟩ = some (.bool p) := (blk_cell Kf.out 4).trans rfl; have yy00 : u1.cell? ⟨gy0, 0, none⟩ = some (.int .i64 y0) := (blk_cell Ky0.out 0).trans rfl; have yx0 : u1.cell? ⟨gx, 0, none⟩ = some (.int .i64 x) := (blk_cell Kx.out 0).trans rfl))
    go_ret2
    exact ⟨_, rfl, Kd.R_nil _ _ _ _ _, HB.out⟩
  | true =>
    replace h := (if_pos rfl).symm.trans h
    obtain ⟨t1, q1_, h⟩ := Option.bind_eq_some_iff.mp h
    have Q1 := Aside0.mk q1_
    clear q1_
    cases t1 with
    | false =>
      replace h := (if_neg (by decide)).symm.trans h
      obtain ⟨rfl, rfl⟩ : ([] : List Int) = r1 ∧ false = r2 := by simpa using h
      clear h
      go_enter Try.func34, Try.ntmps34
      go_wp2_with (first | ((with_reducible refine gate_dst (N := 3) rfl ?_); refine box_event ?hg (N := 3) ?hd (cs := #[.int .i64 a, .int .i64 s, .int .i64 m, .int .i64 b, .bool p]) (t := 30) ?hr ?_; (case hd => rfl); (case hg => rfl); (case hr => first | (go_simp; done) | (go_simp; rfl)); intro gf hg vf hbox hb; have Nf := Aside0.mk ((by rw [hg]; exact HB.out.size) : w.heap.size ≤ gf); have mB_ := Aside0.mk (below_step HB.out hb); clear HB; have HB := mB_; clear mB_; have Kf := Aside0.mk hbox; clear hbox hb hg) | ((with_reducible refine gate_dst (N := 4) rfl ?_); refine box_event ?hg (N := 4) ?hd (cs := #[.int .i64 y0]) (t := 3) ?hr ?_; (case hd => rfl); (case hg => rfl); (case hr => first | (go_simp; done) | (go_simp; rfl)); intro gy0 hg vy0 hbox hb; have Ny0 := Aside0.mk ((by rw [hg]; exact HB.out.size) : w.heap.size ≤ gy0); have Nfy0 := Aside0.mk ((by rw [hg]; exact Nat.ne_of_lt (blk_lt Kf.out)) : gf ≠ gy0); have mf_ := Aside0.mk (blk_below Kf.out hb); have mB_ := Aside0.mk (below_step HB.out hb); clear Kf HB; have Kf := mf_; have HB := mB_; clear mf_ mB_; have Ky0 := Aside0.mk hbox; clear hbox hb hg) | ((with_reducible refine gate_dst (N := 5) rfl ?_); refine box_event ?hg (N := 5) ?hd (cs := #[.int .i64 x]) (t := 3) ?hr ?_; (case hd => rfl); (case hg => rfl); (case hr => first | (go_simp; done) | (go_simp; rfl)); intro gx hg vx hbox hb; have Nx := Aside0.mk ((by rw [hg]; exact HB.out.size) : w.heap.size ≤ gx); have Nfx := Aside0.mk ((by rw [hg]; exact Nat.ne_of_lt (blk_lt Kf.out)) : gf ≠ gx); have Ny0x := Aside0.mk ((by rw [hg]; exact Nat.ne_of_lt (blk_lt Ky0.out)) : gy0 ≠ gx); have mf_ := Aside0.mk (blk_below Kf.out hb); have my0_ := Aside0.mk (blk_below Ky0.out hb); have mB_ := Aside0.mk (below_step HB.out hb); clear Kf Ky0 HB; have Kf := mf_; have Ky0 := my0_; have HB := mB_; clear mf_ my0_ mB_; have Kx := Aside0.mk hbox; clear hbox hb hg; have yf0 : vx.cell? ⟨gf, 0, none⟩ = some (.int .i64 a) := (blk_cell Kf.out 0).trans rfl; have yf1 : vx.cell? ⟨gf, 1, none⟩ = some (.int .i64 s) := (blk_cell Kf.out 1).trans rfl; have yf2 : vx.cell? ⟨gf, 2, none⟩ = some (.int .i64 m) := (blk_cell Kf.out 2).trans rfl; have yf3 : vx.cell? ⟨gf, 3, none⟩ = some (.int .i64 b) := (blk_cell Kf.out 3).trans rfl; have yf4 : vx.cell? ⟨gf, 4, none⟩ = some (.bool p) := (blk_cell Kf.out 4).trans rfl; have yy00 : vx.cell? ⟨gy0, 0, none⟩ = some (.int .i64 y0) := (blk_cell Ky0.out 0).trans rfl; have yx0 : vx.cell? ⟨gx, 0, none⟩ = some (.int .i64 x) := (blk_cell Kx.out 0).trans rfl) | (go_at_call 75; (with_reducible refine (impl_First_isScanned.calls a s m b p x _ _ Q0.out).mono ?_); rintro e u0 ⟨rfl, hb⟩; have mf_ := Aside0.mk (blk_below Kf.out hb); have my0_ := Aside0.mk (blk_below Ky0.out hb); have mx_ := Aside0.mk (blk_below Kx.out hb); have mB_ := Aside0.mk (below_step HB.out hb); clear Kf Ky0 Kx HB; have Kf := mf_; have Ky0 := my0_; have Kx := mx_; have HB := mB_; clear mf_ my0_ mx_ mB_; clear yf0 yf1 yf2 yf3 yf4 yy00 yx0; clear hb; have yf0 : u0.cell? ⟨gf, 0, none⟩ = some (.int .i64 a) := (blk_cell Kf.out 0).trans rfl; have yf1 : u0.cell? ⟨gf, 1, none⟩ = some (.int .i64 s) := (blk_cell Kf.out 1).trans rfl; have yf2 : u0.cell? ⟨gf, 2, none⟩ = some (.int .i64 m) := (blk_cell Kf.out 2).trans rfl; have yf3 : u0.cell? ⟨gf, 3, none⟩ = some (.int .i64 b) := (blk_cell Kf.out 3).trans rfl; have yf4 : u0.cell? ⟨gf, 4, none⟩ = some (.bool p) := (blk_cell Kf.out 4).trans rfl; have yy00 : u0.cell? ⟨gy0, 0, none⟩ = some (.int .i64 y0) := (blk_cell Ky0.out 0).trans rfl; have yx0 : u0.cell? ⟨gx, 0, none⟩ = some (.int .i64 x) := (blk_cell Kx.out 0).trans rfl) | (go_at_call 80; (with_reducible refine (impl_Word_has.calls b p y0 _ _ Q1.out).mono ?_); rintro e u1 ⟨rfl, hb⟩; have mf_ := Aside0.mk (blk_below Kf.out hb); have my0_ := Aside0.mk (blk_below Ky0.out hb); have mx_ := Aside0.mk (blk_below Kx.out hb); have mB_ := Aside0.mk (below_step HB.out hb); clear Kf Ky0 Kx HB; have Kf := mf_; have Ky0 := my0_; have Kx := mx_; have HB := mB_; clear mf_ my0_ mx_ mB_; clear yf0 yf1 yf2 yf3 yf4 yy00 yx0; clear hb; have yf0 : u1.cell? ⟨gf, 0, none⟩ = some (.int .i64 a) := (blk_cell Kf.out 0).trans rfl; have yf1 : u1.cell? ⟨gf, 1, none⟩ = some (.int .i64 s) := (blk_cell Kf.out 1).trans rfl; have yf2 : u1.cell? ⟨gf, 2, none⟩ = some (.int .i64 m) := (blk_cell Kf.out 2).trans rfl; have yf3 : u1.cell? ⟨gf, 3, none⟩ = some (.int .i64 b) := (blk_cell Kf.out 3).trans rfl; have yf4 : u1.cell? ⟨gf, 4, none⟩ = some (.bool p) := (blk_cell Kf.out 4).trans rfl; have yy00 : u1.cell? ⟨gy0, 0, none⟩ = some (.int .i64 y0) := (blk_cell Ky0.out 0).trans rfl; have yx0 : u1.cell? ⟨gx, 0, none⟩ = some (.int .i64 x) := (blk_cell Kx.out 0).trans rfl))
      go_ret2
      exact ⟨_, rfl, Kd.R_nil _ _ _ _ _, HB.out⟩
    | true =>
      replace h := (if_pos rfl).symm.trans h
      obtain ⟨QE, qa_, h⟩ := Option.bind_eq_some_iff.mp h
      obtain ⟨rr, ql_, h⟩ := Option.bind_eq_some_iff.mp h
      obtain ⟨rfl, rfl⟩ : rr = r1 ∧ true = r2 := by simpa using h
      have QA := Aside0.mk qa_
      have QL := Aside0.mk ql_
      clear qa_ ql_ h
      go_enter Try.func34, Try.ntmps34
      go_wp2_with (first | ((with_reducible refine gate_dst (N := 3) rfl ?_); refine box_event ?hg (N := 3) ?hd (cs := #[.int .i64 a, .int .i64 s, .int .i64 m, .int .i64 b, .bool p]) (t := 30) ?hr ?_; (case hd => rfl); (case hg => rfl); (case hr => first | (go_simp; done) | (go_simp; rfl)); intro gf hg vf hbox hb; have Nf := Aside0.mk ((by rw [hg]; exact HB.out.size) : w.heap.size ≤ gf); have mB_ := Aside0.mk (below_step HB.out hb); clear HB; have HB := mB_; clear mB_; have Kf := Aside0.mk hbox; clear hbox hb hg) | ((with_reducible refine gate_dst (N := 4) rfl ?_); refine box_event ?hg (N := 4) ?hd (cs := #[.int .i64 y0]) (t := 3) ?hr ?_; (case hd => rfl); (case hg => rfl); (case hr => first | (go_simp; done) | (go_simp; rfl)); intro gy0 hg vy0 hbox hb; have Ny0 := Aside0.mk ((by rw [hg]; exact HB.out.size) : w.heap.size ≤ gy0); have Nfy0 := Aside0.mk ((by rw [hg]; exact Nat.ne_of_lt (blk_lt Kf.out)) : gf ≠ gy0); have mf_ := Aside0.mk (blk_below Kf.out hb); have mB_ := Aside0.mk (below_step HB.out hb); clear Kf HB; have Kf := mf_; have HB := mB_; clear mf_ mB_; have Ky0 := Aside0.mk hbox; clear hbox hb hg) | ((with_reducible refine gate_dst (N := 5) rfl ?_); refine box_event ?hg (N := 5) ?hd (cs := #[.int .i64 x]) (t := 3) ?hr ?_; (case hd => rfl); (case hg => rfl); (case hr => first | (go_simp; done) | (go_simp; rfl)); intro gx hg vx hbox hb; have Nx := Aside0.mk ((by rw [hg]; exact HB.out.size) : w.heap.size ≤ gx); have Nfx := Aside0.mk ((by rw [hg]; exact Nat.ne_of_lt (blk_lt Kf.out)) : gf ≠ gx); have Ny0x := Aside0.mk ((by rw [hg]; exact Nat.ne_of_lt (blk_lt Ky0.out)) : gy0 ≠ gx); have mf_ := Aside0.mk (blk_below Kf.out hb); have my0_ := Aside0.mk (blk_below Ky0.out hb); have mB_ := Aside0.mk (below_step HB.out hb); clear Kf Ky0 HB; have Kf := mf_; have Ky0 := my0_; have HB := mB_; clear mf_ my0_ mB_; have Kx := Aside0.mk hbox; clear hbox hb hg; have yf0 : vx.cell? ⟨gf, 0, none⟩ = some (.int .i64 a) := (blk_cell Kf.out 0).trans rfl; have yf1 : vx.cell? ⟨gf, 1, none⟩ = some (.int .i64 s) := (blk_cell Kf.out 1).trans rfl; have yf2 : vx.cell? ⟨gf, 2, none⟩ = some (.int .i64 m) := (blk_cell Kf.out 2).trans rfl; have yf3 : vx.cell? ⟨gf, 3, none⟩ = some (.int .i64 b) := (blk_cell Kf.out 3).trans rfl; have yf4 : vx.cell? ⟨gf, 4, none⟩ = some (.bool p) := (blk_cell Kf.out 4).trans rfl; have yy00 : vx.cell? ⟨gy0, 0, none⟩ = some (.int .i64 y0) := (blk_cell Ky0.out 0).trans rfl; have yx0 : vx.cell? ⟨gx, 0, none⟩ = some (.int .i64 x) := (blk_cell Kx.out 0).trans rfl) | (go_at_call 75; (with_reducible refine (impl_First_isScanned.calls a s m b p x _ _ Q0.out).mono ?_); rintro e u0 ⟨rfl, hb⟩; have mf_ := Aside0.mk (blk_below Kf.out hb); have my0_ := Aside0.mk (blk_below Ky0.out hb); have mx_ := Aside0.mk (blk_below Kx.out hb); have mB_ := Aside0.mk (below_step HB.out hb); clear Kf Ky0 Kx HB; have Kf := mf_; have Ky0 := my0_; have Kx := mx_; have HB := mB_; clear mf_ my0_ mx_ mB_; clear yf0 yf1 yf2 yf3 yf4 yy00 yx0; clear hb; have yf0 : u0.cell? ⟨gf, 0, none⟩ = some (.int .i64 a) := (blk_cell Kf.out 0).trans rfl; have yf1 : u0.cell? ⟨gf, 1, none⟩ = some (.int .i64 s) := (blk_cell Kf.out 1).trans rfl; have yf2 : u0.cell? ⟨gf, 2, none⟩ = some (.int .i64 m) := (blk_cell Kf.out 2).trans rfl; have yf3 : u0.cell? ⟨gf, 3, none⟩ = some (.int .i64 b) := (blk_cell Kf.out 3).trans rfl; have yf4 : u0.cell? ⟨gf, 4, none⟩ = some (.bool p) := (blk_cell Kf.out 4).trans rfl; have yy00 : u0.cell? ⟨gy0, 0, none⟩ = some (.int .i64 y0) := (blk_cell Ky0.out 0).trans rfl; have yx0 : u0.cell? ⟨gx, 0, none⟩ = some (.int .i64 x) := (blk_cell Kx.out 0).trans rfl) | (go_at_call 80; (with_reducible refine (impl_Word_has.calls b p y0 _ _ Q1.out).mono ?_); rintro e u1 ⟨rfl, hb⟩; have mf_ := Aside0.mk (blk_below Kf.out hb); have my0_ := Aside0.mk (blk_below Ky0.out hb); have mx_ := Aside0.mk (blk_below Kx.out hb); have mB_ := Aside0.mk (below_step HB.out hb); clear Kf Ky0 Kx HB; have Kf := mf_; have Ky0 := my0_; have Kx := mx_; have HB := mB_; clear mf_ my0_ mx_ mB_; clear yf0 yf1 yf2 yf3 yf4 yy00 yx0; clear hb; have yf0 : u1.cell? ⟨gf, 0, none⟩ = some (.int .i64 a) := (blk_cell Kf.out 0).trans rfl; have yf1 : u1.cell? ⟨gf, 1, none⟩ = some (.int .i64 s) := (blk_cell Kf.out 1).trans rfl; have yf2 : u1.cell? ⟨gf, 2, none⟩ = some (.int .i64 m) := (blk_cell Kf.out 2).trans rfl; have yf3 : u1.cell? ⟨gf, 3, none⟩ = some (.int .i64 b) := (blk_cell Kf.out 3).trans rfl; have yf4 : u1.cell? ⟨gf, 4, none⟩ = some (.bool p) := (blk_cell Kf.out 4).trans rfl; have yy00 : u1.cell? ⟨gy0, 0, none⟩ = some (.int .i64 y0) := (blk_cell Ky0.out 0).trans rfl; have yx0 : u1.cell? ⟨gx, 0, none⟩ = some (.int .i64 x) := (blk_cell Kx.out 0).trans rfl) | ((with_reducible refine gate_dst (N := 20) rfl ?_); refine Kd.R_lit (Kd.int .i64) (w0 := w) w.heap.size 3 ?hg (N := 20) ?hd (xs := ([] : List Int)) (inner := []) (ok := fun k_ => k_ ≠ gx ∧ k_ ≠ gy0 ∧ k_ ≠ gf) (okp := fun k_ => k_ ≠ gx ∧ k_ ≠ gy0 ∧ k_ ≠ gf) ?hr ?hp (fun _ hk => hk) ?hf HB.out HB.out.size (by simp) ?_; (case hd => rfl); (case hg => rfl); (case hr => first | (go_simp; done) | (go_simp; rfl)); (case hp => exact (Reps.none _ _)); (case hf => exact ⟨Nat.ne_of_gt (blk_lt Kx.out), Nat.ne_of_gt (blk_lt Ky0.out), Nat.ne_of_gt (blk_lt Kf.out)⟩); intro vl ul hol hb2 hgr hnew_; clear hnew_; have mf_ := Aside0.mk (blk_grown Kf.out hgr (by simp)); have my0_ := Aside0.mk (blk_grown Ky0.out hgr (by simp)); have mx_ := Aside0.mk (blk_grown Kx.out hgr (by simp)); clear HB Kf Ky0 Kx; have HB := Aside0.mk hb2; have Kf := mf_; have Ky0 := my0_; have Kx := mx_; clear mf_ my0_ mx_ yf0 yf1 yf2 yf3 yf4 yy00 yx0; have HO := Aside0.mk hol; clear hol hb2 hgr) | ((with_reducible refine gate_dst (N := 8) rfl ?_); refine box_event ?hg (N := 8) ?hd (cs := #[.slice none 0 0]) (t := 33) ?hr ?_; (case hd => rfl); (case hg => rfl); (case hr => first | (go_simp; done) | (go_simp; rfl)); intro go hg vo hbox hb; have No := Aside0.mk ((by rw [hg]; exact HB.out.size) : w.heap.size ≤ go); have Nfo := Aside0.mk ((by rw [hg]; exact Nat.ne_of_lt (blk_lt Kf.out)) : gf ≠ go); have qfo := Nfo.out; have rfo := qfo.symm; have Ny0o := Aside0.mk ((by rw [hg]; exact Nat.ne_of_lt (blk_lt Ky0.out)) : gy0 ≠ go); have qy0o := Ny0o.out; have ry0o := qy0o.symm; have Nxo := Aside0.mk ((by rw [hg]; exact Nat.ne_of_lt (blk_lt Kx.out)) : gx ≠ go); have qxo := Nxo.out; have rxo := qxo.symm; have mO_ := Aside0.mk (Kd.R_below (Kd.R_mono (Kd.R_bound HO.out) (ok' := fun k_ => k_ ≠ gx ∧ k_ ≠ gy0 ∧ k_ ≠ gf ∧ k_ ≠ go) (fun k_ hk_ => ⟨hk_.1.1, hk_.1.2.1, hk_.1.2.2, by rw [hg]; exact Nat.ne_of_lt hk_.2.2.1⟩)) hb); clear HO; obtain ⟨A_, c_, rfl⟩ := Kd.R_slice mO_.out; have HO := mO_; clear mO_; have mf_ := Aside0.mk (blk_below Kf.out hb); have my0_ := Aside0.mk (blk_below Ky0.out hb); have mx_ := Aside0.mk (blk_below Kx.out hb); have mB_ := Aside0.mk (below_step HB.out hb); clear Kf Ky0 Kx HB; have Kf := mf_; have Ky0 := my0_; have Kx := mx_; have HB := mB_; clear mf_ my0_ mx_ mB_; have Ko := Aside0.mk hbox; clear hbox hb hg; have yf0 : vo.cell? ⟨gf, 0, none⟩ = some (.int .i64 a) := (blk_cell Kf.out 0).trans rfl; have yf1 : vo.cell? ⟨gf, 1, none⟩ = some (.int .i64 s) := (blk_cell Kf.out 1).trans rfl; have yf2 : vo.cell? ⟨gf, 2, none⟩ = some (.int .i64 m) := (blk_cell Kf.out 2).trans rfl; have yf3 : vo.cell? ⟨gf, 3, none⟩ = some (.int .i64 b) := (blk_cell Kf.out 3).trans rfl; have yf4 : vo.cell? ⟨gf, 4, none⟩ = some (.bool p) := (blk_cell Kf.out 4).trans rfl; have yy00 : vo.cell? ⟨gy0, 0, none⟩ = some (.int .i64 y0) := (blk_cell Ky0.out 0).trans rfl; have yx0 : vo.cell? ⟨gx, 0, none⟩ = some (.int .i64 x) := (blk_cell Kx.out 0).trans rfl; have yo0 : vo.cell? ⟨go, 0, none⟩ = some (.slice none 0 0) := (blk_cell Ko.out 0).trans rfl; have zo0 := blk_frozen Ko.out 0) | (go_at_call 70; (with_reducible refine (impl_NumbersBefore.all k w _ gf gx gy0 go a s m b p x y0 QE.1 QE.2 _ [] rr (impl_NumbersBefore.St.mk ⟨blk_far Kf.out Nfo.out _, blk_far Kx.out Nxo.out _, blk_far Ky0.out Ny0o.out _, blk_put Ko.out 0 _ rfl, Kd.R_far HO.out (p := ⟨go, 0, none⟩) (fun k_ hk_ => hk_.2.2.2) _, below_set HB.out No.out⟩) No.out Nfo.out Nxo.out Ny0o.out QA.out QL.out).mono ?_); rintro e ua ⟨rfl, ⟨v1, hs2⟩⟩; have HS := Aside0.mk hs2; clear hs2; clear yf0 yf1 yf2 yf3 yf4 yy00 yx0 yo0 zo0; have yo1 : ua.cell? ⟨go, 0, none⟩ = some v1 := (blk_cell HS.out.2.2.2.1 0).trans rfl))
      go_ret2
      exact ⟨_, rfl, Kd.R_mono HS.out.2.2.2.2.1 (fun _ _ => trivial), HS.out.2.2.2.2.2⟩

end Go.Proofs.Ytepfkahbfnahmaa.QFnExactNumbersBefore
