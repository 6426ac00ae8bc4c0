-- Written by wprint.py (this session's program over the kit's print) out of the translation.
import Derived.Test.YtljehmhiclccgaaQFnExactPairPeriodx0
import Derived.Test.YtljehmhiclccgaaQFnExactPairPeriodx1
import Derived.Test.YtljehmhiclccgaaQFnExactPairPeriodx3
namespace Go.Proofs.Ytljehmhiclccgaa.QFnExactPairPeriod
open Go.RowKit Go.Proofs.YtljehmhiclccgaaW.PrintWords Go.Proofs.YtljehmhiclccgaaW.PrintLast Go.Proofs.YtljehmhiclccgaaW.PrintMore
attribute [local go_sem] max2_int min2_int max_two min_two max_three min_three max_four min_four   -- for this text's walks alone
set_option linter.unusedVariables false
set_option linter.unusedSimpArgs false

attribute [local go_sem high] eqA35
/-! ### spec_sdMeet: function 8 -/
mutual
def spec_sdMeet.l0 : Nat → Int → Int → Int → Int → Int → Int → Int → Bool → Int → Int → Int → Int → Int → Int → Option (Int × Int × Int × Int)
  | 0, _, _, _, _, _, _, _, _, _, _, _, _, _, _ => none
  | k + 1, x2, x11, x139000, x139001, x139002, x139003, x139004, x139005, x140000, x140001, x148000, x148001, x149000, x149001 => if (!(x148000 == x149000) || (!(x148001 == x149001))) = true then (if x11 > 40000 then (some (0, x140000, x140001, 0)) else ((spec_sdNext.f k x139000 x139001 x139002 x139003 x139004 x139005 x148000 x148001 x2).bind fun bt149 => ((spec_sdNext.f k x139000 x139001 x139002 x139003 x139004 x139005 x149000 x149001 x2).bind fun bt151 => ((spec_sdNext.f k x139000 x139001 x139002 x139003 x139004 x139005 bt151.1 bt151.2 x2).bind fun bt153 => (spec_sdMeet.l0 k x2 (wrap64 (x11 + 1)) x139000 x139001 x139002 x139003 x139004 x139005 x140000 x140001 bt149.1 bt149.2 bt153.1 bt153.2))))) else (spec_sdMeet.l1 k x2 0 x139000 x139001 x139002 x139003 x139004 x139005 x140000 x140001 x140000 x140001 x149000 x149001)
def spec_sdMeet.l1 : Nat → Int → Int → Int → Int → Int → Int → Int → Bool → Int → Int → Int → Int → Int → Int → Option (Int × Int × Int × Int)
  | 0, _, _, _, _, _, _, _, _, _, _, _, _, _, _ => none
  | k + 1, x2, x12, x139000, x139001, x139002, x139003, x139004, x139005, x140000, x140001, x148000, x148001, x149000, x149001 => if (!(x148000 == x149000) || (!(x148001 == x149001))) = true then ((spec_sdNext.f k x139000 x139001 x139002 x139003 x139004 x139005 x148000 x148001 x2).bind fun bt155 => ((spec_sdNext.f k x139000 x139001 x139002 x139003 x139004 x139005 x149000 x149001 x2).bind fun bt157 => (spec_sdMeet.l1 k x2 (wrap64 (x12 + 1)) x139000 x139001 x139002 x139003 x139004 x139005 x140000 x140001 bt155.1 bt155.2 bt157.1 bt157.2))) else ((spec_sdNext.f k x139000 x139001 x139002 x139003 x139004 x139005 x148000 x148001 x2).bind fun bt159 => (spec_sdMeet.l2 k x2 x12 1 x139000 x139001 x139002 x139003 x139004 x139005 x140000 x140001 x148000 x148001 bt159.1 bt159.2))
def spec_sdMeet.l2 : Nat → Int → Int → Int → Int → Int → Int → Int → Int → Bool → Int → Int → Int → Int → Int → Int → Option (Int × Int × Int × Int)
  | 0, _, _, _, _, _, _, _, _, _, _, _, _, _, _, _ => none
  | k + 1, x2, x12, x13, x139000, x139001, x139002, x139003, x139004, x139005, x140000, x140001, x148000, x148001, x149000, x149001 => if (!(x149000 == x148000) || (!(x149001 == x148001))) = true then (if (wrap64 (x13 + 1)) > 20000 then (some (0, x140000, x140001, 0)) else ((spec_sdNext.f k x139000 x139001 x139002 x139003 x139004 x139005 x149000 x149001 x2).bind fun bt161 => (spec_sdMeet.l2 k x2 x12 (wrap64 (x13 + 1)) x139000 x139001 x139002 x139003 x139004 x139005 x140000 x140001 x148000 x148001 bt161.1 bt161.2))) else (if (wrap64 (x12 + x13)) > 20000 then (some (0, x140000, x140001, 0)) else (some (x12, x148000, x148001, x13)))
end
def spec_sdMeet.f (k : Nat) (a0_0 : Int) (a0_1 : Int) (a0_2 : Int) (a0_3 : Int) (a0_4 : Int) (a0_5 : Bool) (a1_0 : Int) (a1_1 : Int) (a2 : Int) : Option (Int × Int × Int × Int) := (spec_sdNext.f k a0_0 a0_1 a0_2 a0_3 a0_4 a0_5 a1_0 a1_1 a2).bind fun bt141 => ((spec_sdNext.f k a0_0 a0_1 a0_2 a0_3 a0_4 a0_5 a1_0 a1_1 a2).bind fun bt143 => ((spec_sdNext.f k a0_0 a0_1 a0_2 a0_3 a0_4 a0_5 bt143.1 bt143.2 a2).bind fun bt145 => (spec_sdMeet.l0 k a2 1 a0_0 a0_1 a0_2 a0_3 a0_4 a0_5 a1_0 a1_1 bt141.1 bt141.2 bt145.1 bt145.2)))
theorem spec_sdMeet.mono_l : ∀ k, (∀ y0 y1 y2 y3 y4 y5 y6 y7 y8 y9 y10 y11 y12 y13, LeO (spec_sdMeet.l0 k y0 y1 y2 y3 y4 y5 y6 y7 y8 y9 y10 y11 y12 y13) (spec_sdMeet.l0 (k + 1) y0 y1 y2 y3 y4 y5 y6 y7 y8 y9 y10 y11 y12 y13)) ∧ (∀ y0 y1 y2 y3 y4 y5 y6 y7 y8 y9 y10 y11 y12 y13, LeO (spec_sdMeet.l1 k y0 y1 y2 y3 y4 y5 y6 y7 y8 y9 y10 y11 y12 y13) (spec_sdMeet.l1 (k + 1) y0 y1 y2 y3 y4 y5 y6 y7 y8 y9 y10 y11 y12 y13)) ∧ (∀ y0 y1 y2 y3 y4 y5 y6 y7 y8 y9 y10 y11 y12 y13 y14, LeO (spec_sdMeet.l2 k y0 y1 y2 y3 y4 y5 y6 y7 y8 y9 y10 y11 y12 y13 y14) (spec_sdMeet.l2 (k + 1) y0 y1 y2 y3 y4 y5 y6 y7 y8 y9 y10 y11 y12 y13 y14))
  | 0 => ⟨fun _ _ _ _ _ _ _ _ _ _ _ _ _ _ r h => by simp [spec_sdMeet.l0] at h, fun _ _ _ _ _ _ _ _ _ _ _ _ _ _ r h => by simp [spec_sdMeet.l1] at h, fun _ _ _ _ _ _ _ _ _ _ _ _ _ _ _ r h => by simp [spec_sdMeet.l2] at h⟩
  | k + 1 => by
    obtain ⟨ih0, ih1, ih2⟩ := spec_sdMeet.mono_l k
    refine ⟨?_, ?_, ?_⟩
    · intro y0 y1 y2 y3 y4 y5 y6 y7 y8 y9 y10 y11 y12 y13
      unfold spec_sdMeet.l0
      repeat' first
      | (with_reducible exact ih0 _ _ _ _ _ _ _ _ _ _ _ _ _ _)
      | (with_reducible exact ih1 _ _ _ _ _ _ _ _ _ _ _ _ _ _)
      | (with_reducible exact ih2 _ _ _ _ _ _ _ _ _ _ _ _ _ _ _)
      | (with_reducible exact spec_sdNext.mono _ _ _ _ _ _ _ _ _ _)
      | (with_reducible exact LeO.refl _)
      | (with_reducible exact LeO.none _)
      | (with_reducible refine LeO.ite ?_ ?_)
      | (with_reducible refine LeO.bind ?_ (fun _ => ?_))
      | exact ih0 _ _ _ _ _ _ _ _ _ _ _ _ _ _
      | exact ih1 _ _ _ _ _ _ _ _ _ _ _ _ _ _
      | exact ih2 _ _ _ _ _ _ _ _ _ _ _ _ _ _ _
      | exact spec_sdNext.mono _ _ _ _ _ _ _ _ _ _
      | exact LeO.none _
      | refine LeO.ite ?_ ?_
      | refine LeO.bind ?_ (fun _ => ?_)
    · intro y0 y1 y2 y3 y4 y5 y6 y7 y8 y9 y10 y11 y12 y13
      unfold spec_sdMeet.l1
      repeat' first
      | (with_reducible exact ih0 _ _ _ _ _ _ _ _ _ _ _ _ _ _)
      | (with_reducible exact ih1 _ _ _ _ _ _ _ _ _ _ _ _ _ _)
      | (with_reducible exact ih2 _ _ _ _ _ _ _ _ _ _ _ _ _ _ _)
      | (with_reducible exact spec_sdNext.mono _ _ _ _ _ _ _ _ _ _)
      | (with_reducible exact LeO.refl _)
      | (with_reducible exact LeO.none _)
      | (with_reducible refine LeO.ite ?_ ?_)
      | (with_reducible refine LeO.bind ?_ (fun _ => ?_))
      | exact ih0 _ _ _ _ _ _ _ _ _ _ _ _ _ _
      | exact ih1 _ _ _ _ _ _ _ _ _ _ _ _ _ _
      | exact ih2 _ _ _ _ _ _ _ _ _ _ _ _ _ _ _
      | exact spec_sdNext.mono _ _ _ _ _ _ _ _ _ _
      | exact LeO.none _
      | refine LeO.ite ?_ ?_
      | refine LeO.bind ?_ (fun _ => ?_)
    · intro y0 y1 y2 y3 y4 y5 y6 y7 y8 y9 y10 y11 y12 y13 y14
      unfold spec_sdMeet.l2
      repeat' first
      | (with_reducible exact ih0 _ _ _ _ _ _ _ _ _ _ _ _ _ _)
      | (with_reducible exact ih1 _ _ _ _ _ _ _ _ _ _ _ _ _ _)
      | (with_reducible exact ih2 _ _ _ _ _ _ _ _ _ _ _ _ _ _ _)
      | (with_reducible exact spec_sdNext.mono _ _ _ _ _ _ _ _ _ _)
      | (with_reducible exact LeO.refl _)
      | (with_reducible exact LeO.none _)
      | (with_reducible refine LeO.ite ?_ ?_)
      | (with_reducible refine LeO.bind ?_ (fun _ => ?_))
      | exact ih0 _ _ _ _ _ _ _ _ _ _ _ _ _ _
      | exact ih1 _ _ _ _ _ _ _ _ _ _ _ _ _ _
      | exact ih2 _ _ _ _ _ _ _ _ _ _ _ _ _ _ _
      | exact spec_sdNext.mono _ _ _ _ _ _ _ _ _ _
      | exact LeO.none _
      | refine LeO.ite ?_ ?_
      | refine LeO.bind ?_ (fun _ => ?_)
theorem spec_sdMeet.mono : ∀ a0 a1 a2 a3 a4 a5 a6 a7 a8 k, LeO (spec_sdMeet.f k a0 a1 a2 a3 a4 a5 a6 a7 a8) (spec_sdMeet.f (k + 1) a0 a1 a2 a3 a4 a5 a6 a7 a8) := by
  intro a0 a1 a2 a3 a4 a5 a6 a7 a8 k
  obtain ⟨ih0, ih1, ih2⟩ := spec_sdMeet.mono_l k
  unfold spec_sdMeet.f
  repeat' first
      | (with_reducible exact ih0 _ _ _ _ _ _ _ _ _ _ _ _ _ _)
      | (with_reducible exact ih1 _ _ _ _ _ _ _ _ _ _ _ _ _ _)
      | (with_reducible exact ih2 _ _ _ _ _ _ _ _ _ _ _ _ _ _ _)
      | (with_reducible exact spec_sdNext.mono _ _ _ _ _ _ _ _ _ _)
      | (with_reducible exact LeO.refl _)
      | (with_reducible exact LeO.none _)
      | (with_reducible refine LeO.ite ?_ ?_)
      | (with_reducible refine LeO.bind ?_ (fun _ => ?_))
      | exact ih0 _ _ _ _ _ _ _ _ _ _ _ _ _ _
      | exact ih1 _ _ _ _ _ _ _ _ _ _ _ _ _ _
      | exact ih2 _ _ _ _ _ _ _ _ _ _ _ _ _ _ _
      | exact spec_sdNext.mono _ _ _ _ _ _ _ _ _ _
      | exact LeO.none _
      | refine LeO.ite ?_ ?_
      | refine LeO.bind ?_ (fun _ => ?_)
def spec_sdMeet.T1 : Bool × List (List Nat × List Nat) := (true, [([], []), ([], []), ([], []), ([0, 1, 2], [0, 1, 2]), ([], []), ([], []), ([], []), ([], []), ([5, 6, 7, 3], [5, 6, 7]), ([], []), ([4, 8, 9, 8], [4, 8, 9]), ([], []), ([], []), ([11, 3, 10, 0, 1, 2, 3, 11, 12], [3, 11]), ([12, 10, 13, 0, 1, 2, 3, 4, 5, 6, 7, 8, 9, 10, 11, 12, 13], [10, 12])])
def spec_sdMeet.B1 : List Nat := [0, 0, 0, 7, 0, 0, 0, 0, 239, 0, 1023, 0, 0, 8191, 16383]
theorem spec_sdMeet.tab1 : rtab .any (opsOf Try.f8 1) = spec_sdMeet.T1 := by kernel_rfl
theorem spec_sdMeet.bits1 : waitsOk spec_sdMeet.T1.2 spec_sdMeet.B1 = true := by kernel_rfl
def spec_sdMeet.T8 : Bool × List (List Nat × List Nat) := (true, [([], []), ([], []), ([], []), ([], []), ([1, 2, 3], [1, 2, 3]), ([], []), ([0, 4, 5, 4], [0, 4, 5]), ([6, 6, 0, 1, 2, 3, 4, 5, 6], [6])])
def spec_sdMeet.B8 : List Nat := [0, 0, 0, 0, 14, 0, 63, 127]
theorem spec_sdMeet.tab8 : rtab .any (opsOf Try.f8 8) = spec_sdMeet.T8 := by kernel_rfl
theorem spec_sdMeet.bits8 : waitsOk spec_sdMeet.T8.2 spec_sdMeet.B8 = true := by kernel_rfl
theorem A0 {p : Prop} (h : p) : Aside0 p := ⟨h⟩
theorem bN {w : World} {g : Nat} {o : Obj} (h : w.heap[g]? = some o) (n : Nat) : (w.drewN n).heap[g]? = some o := blk_drewN h n
theorem bD {w : World} {g : Nat} {o : Obj} (h : w.heap[g]? = some o) : w.drew.heap[g]? = some o := blk_drew h
theorem bA {w : World} {g : Nat} {o : Obj} (h : w.heap[g]? = some o) (o' : Obj) : (w.alloc o').heap[g]? = some o := blk_alloc h o'
theorem lN {B : Nat} {w W : World} (h : Below B w W) (n : Nat) : Below B w (W.drewN n) := pw_below_drewN h n
theorem lA {w W : World} (h : Below w.heap.size w W) (o : Obj) : Below w.heap.size w (W.alloc o) := below_alloc h o
theorem lD {B : Nat} {w W : World} (h : Below B w W) : Below B w W.drew := below_drew1 h
theorem lS {w W : World} {g j : Nat} {v : Value} (h : Below w.heap.size w W) (hg : w.heap.size ≤ g) : Below w.heap.size w (W.setCell ⟨g, j, none⟩ v) := below_set h hg
set_option maxHeartbeats 8000000 in
set_option maxRecDepth 100000 in
theorem spec_sdMeet.calls (k : Nat) (a0_0 : Int) (a0_1 : Int) (a0_2 : Int) (a0_3 : Int) (a0_4 : Int) (a0_5 : Bool) (a1_0 : Int) (a1_1 : Int) (a2 : Int) (r1 : Int) (r2 : Int) (r3 : Int) (r4 : Int) (w : World) (h : spec_sdMeet.f k a0_0 a0_1 a0_2 a0_3 a0_4 a0_5 a1_0 a1_1 a2 = some (r1, r2, r3, r4)) :
  Calls Try.prog 8 #[.agg #[.int .i64 a0_0, .int .i64 a0_1, .int .i64 a0_2, .int .i64 a0_3, .int .i64 a0_4, .bool a0_5], .agg #[.int .i64 a1_0, .int .i64 a1_1], .int .i64 a2] w fun e w' => e = .returned (.tuple #[.int .i64 r1, .agg #[.int .i64 r2, .int .i64 r3], .int .i64 r4]) ∧ Below w.heap.size w w' := by
 have hu30 := Try.underlying30
 have hu35 := Try.underlying35
 have HB := A0 (Below.refl w.heap.size w)
 have H : ((spec_sdNext.f k a0_0 a0_1 a0_2 a0_3 a0_4 a0_5 a1_0 a1_1 a2).bind fun bt141 => ((spec_sdNext.f k a0_0 a0_1 a0_2 a0_3 a0_4 a0_5 a1_0 a1_1 a2).bind fun bt143 => ((spec_sdNext.f k a0_0 a0_1 a0_2 a0_3 a0_4 a0_5 bt143.1 bt143.2 a2).bind fun bt145 => (spec_sdMeet.l0 k a2 1 a0_0 a0_1 a0_2 a0_3 a0_4 a0_5 a1_0 a1_1 bt141.1 bt141.2 bt145.1 bt145.2)))) = some (r1, r2, r3, r4) := h
 clear h
 replace H := Option.bind_eq_some_iff.mp H
 obtain ⟨⟨t141, t142⟩, A40, H⟩ := H
 replace H : ((spec_sdNext.f k a0_0 a0_1 a0_2 a0_3 a0_4 a0_5 a1_0 a1_1 a2).bind fun bt143 => ((spec_sdNext.f k a0_0 a0_1 a0_2 a0_3 a0_4 a0_5 bt143.1 bt143.2 a2).bind fun bt145 => (spec_sdMeet.l0 k a2 1 a0_0 a0_1 a0_2 a0_3 a0_4 a0_5 a1_0 a1_1 t141 t142 bt145.1 bt145.2))) = some (r1, r2, r3, r4) := H
 have A4 := A0 A40
 clear A40
 replace H := Option.bind_eq_some_iff.mp H
 obtain ⟨⟨t143, t144⟩, A50, H⟩ := H
 replace H : ((spec_sdNext.f k a0_0 a0_1 a0_2 a0_3 a0_4 a0_5 t143 t144 a2).bind fun bt145 => (spec_sdMeet.l0 k a2 1 a0_0 a0_1 a0_2 a0_3 a0_4 a0_5 a1_0 a1_1 t141 t142 bt145.1 bt145.2)) = some (r1, r2, r3, r4) := H
 have A5 := A0 A50
 clear A50
 replace H := Option.bind_eq_some_iff.mp H
 obtain ⟨⟨t145, t146⟩, A60, H⟩ := H
 replace H : (spec_sdMeet.l0 k a2 1 a0_0 a0_1 a0_2 a0_3 a0_4 a0_5 a1_0 a1_1 t141 t142 t145 t146) = some (r1, r2, r3, r4) := H
 have A6 := A0 A60
 clear A60
 have H' := A0 H
 clear H
 go_enter Try.func8, Try.ntmps8
 try go_wp2_with (first | ((with_reducible refine gate_dst (N := 3) rfl ?_); refine box_event ?hg (N := 3) ?hd (cs := #[.int .i64 a0_0, .int .i64 a0_1, .int .i64 a0_2, .int .i64 a0_3, .int .i64 a0_4, .bool a0_5]) (t := 30) ?hr ?_; (case hd => rfl); (case hg => rfl); (case hr => first | (go_simp; done) | (go_simp; rfl)); intro gb138 hg w7 hbox hb; have n0_ := A0 (below_step (by repeat (first | (with_reducible first | exact HB.out | apply lA | apply lN | apply lD) | exact HB.out)) hb); have n1_ := A0 (hbox); have n2_ := A0 ((by rw [hg]; exact (below_size (by repeat (first | (with_reducible first | exact HB.out | apply lA | apply lN | apply lD) | exact HB.out))) : w.heap.size ≤ gb138)); have n3_ := n2_; clear HB; have HB := n0_; have BK138 := n1_; have GW138 := n2_; have GE138 := n3_; clear n0_ n1_ n2_ n3_; clear hb hbox hg) | ((with_reducible refine gate_dst (N := 4) rfl ?_); refine box_event ?hg (N := 4) ?hd (cs := #[.int .i64 a1_0, .int .i64 a1_1]) (t := 35) ?hr ?_; (case hd => rfl); (case hg => rfl); (case hr => first | (go_simp; done) | (go_simp; rfl)); intro gb139 hg w8 hbox hb; have n0_ := A0 (blk_below (g := gb138) (o := .cells #[.int .i64 a0_0, .int .i64 a0_1, .int .i64 a0_2, .int .i64 a0_3, .int .i64 a0_4, .bool a0_5] 30 (0, 0)) (by (with_reducible repeat (first | apply bN | apply bD | apply bA)); exact BK138.out) hb); have n1_ := A0 (below_step (by repeat (first | (with_reducible first | exact HB.out | apply lA | apply lN | apply lD | refine lS ?_ GE138.out) | exact HB.out)) hb); have n2_ := A0 (hbox); have n3_ := A0 ((by rw [hg]; exact (below_size (by repeat (first | (with_reducible first | exact HB.out | apply lA | apply lN | apply lD | refine lS ?_ GE138.out) | exact HB.out))) : w.heap.size ≤ gb139)); have n4_ := n3_; have n5_ := A0 ((by rw [hg]; exact Nat.ne_of_lt (blk_lt (by (with_reducible repeat (first | apply bN | apply bD | apply bA)); exact BK138.out)) : gb138 ≠ gb139)); have n6_ := A0 n5_.out.symm; clear BK138; clear HB; have BK138 := n0_; have HB := n1_; have BK139 := n2_; have GW139 := n3_; have GE139 := n4_; have NB138_139 := n5_; have NB139_138 := n6_; clear n0_ n1_ n2_ n3_ n4_ n5_ n6_; clear hb hbox hg) | ((with_reducible refine gate_dst (N := 7) rfl ?_); refine box_event ?hg (N := 7) ?hd (cs := #[.int .i64 0, .int .i64 0]) (t := 35) ?hr ?_; (case hd => rfl); (case hg => rfl); (case hr => first | (go_simp; done) | (go_simp; rfl)); intro gb140 hg w9 hbox hb; have n0_ := A0 (blk_below (g := gb138) (o := .cells #[.int .i64 a0_0, .int .i64 a0_1, .int .i64 a0_2, .int .i64 a0_3, .int .i64 a0_4, .bool a0_5] 30 (0, 0)) (by (with_reducible repeat (first | apply bN | apply bD | apply bA)); exact BK138.out) hb); have n1_ := A0 (blk_below (g := gb139) (o := .cells #[.int .i64 a1_0, .int .i64 a1_1] 35 (0, 0)) (by (with_reducible repeat (first | apply bN | apply bD | apply bA)); exact BK139.out) hb); have n2_ := A0 (below_step (by repeat (first | (with_reducible first | exact HB.out | apply lA | apply lN | apply lD | refine lS ?_ GE138.out | refine lS ?_ GE139.out) | exact HB.out)) hb); have n3_ := A0 (hbox); have n4_ := A0 ((by rw [hg]; exact (below_size (by repeat (first | (with_reducible first | exact HB.out | apply lA | apply lN | apply lD | refine lS ?_ GE138.out | refine lS ?_ GE139.out) | exact HB.out))) : w.heap.size ≤ gb140)); have n5_ := n4_; have n6_ := A0 ((by rw [hg]; exact Nat.ne_of_lt (blk_lt (by (with_reducible repeat (first | apply bN | apply bD | apply bA)); exact BK138.out)) : gb138 ≠ gb140)); have n7_ := A0 n6_.out.symm; have n8_ := A0 ((by rw [hg]; exact Nat.ne_of_lt (blk_lt (by (with_reducible repeat (first | apply bN | apply bD | apply bA)); exact BK139.out)) : gb139 ≠ gb140)); have n9_ := A0 n8_.out.symm; clear BK138; clear BK139; clear HB; have BK138 := n0_; have BK139 := n1_; have HB := n2_; have BK140 := n3_; have GW140 := n4_; have GE140 := n5_; have NB138_140 := n6_; have NB140_138 := n7_; have NB139_140 := n8_; have NB140_139 := n9_; clear n0_ n1_ n2_ n3_ n4_ n5_ n6_ n7_ n8_ n9_; clear hb hbox hg))
 have n0_ := A0 (bD BK138.out)
 have n1_ := A0 (bD BK139.out)
 have n2_ := A0 (bD BK140.out)
 have n3_ := A0 (lD HB.out)
 clear BK138
 clear BK139
 clear BK140
 clear HB
 have BK138 := n0_
 have BK139 := n1_
 have BK140 := n2_
 have HB := n3_
 clear n0_ n1_ n2_ n3_
 refine start_ (n := 15) (S := fun w' => w'.cell? ⟨gb138, 0, none⟩ = some (.int .i64 a0_0) ∧ w'.cell? ⟨gb138, 1, none⟩ = some (.int .i64 a0_1) ∧ w'.cell? ⟨gb138, 2, none⟩ = some (.int .i64 a0_2) ∧ w'.cell? ⟨gb138, 3, none⟩ = some (.int .i64 a0_3) ∧ w'.cell? ⟨gb138, 4, none⟩ = some (.int .i64 a0_4) ∧ w'.cell? ⟨gb138, 5, none⟩ = some (.bool a0_5) ∧ w'.cell? ⟨gb139, 0, none⟩ = some (.int .i64 a1_0) ∧ w'.cell? ⟨gb139, 1, none⟩ = some (.int .i64 a1_1)) (ds := []) #[false, false, false, false, false, false, false, false, false, false, false, false, false, false, false] (by kernel_rfl) rfl rfl ⟨(blk_cell BK138.out 0).trans rfl, (blk_cell BK138.out 1).trans rfl, (blk_cell BK138.out 2).trans rfl, (blk_cell BK138.out 3).trans rfl, (blk_cell BK138.out 4).trans rfl, (blk_cell BK138.out 5).trans rfl, (blk_cell BK139.out 0).trans rfl, (blk_cell BK139.out 1).trans rfl⟩ (fun hHeld => ?_); refine with_tabW spec_sdMeet.tab1 spec_sdMeet.bits1 (fun HT_ HW_ => ?_)
 generalize w9.drew = w10 at BK138 BK139 BK140 HB hHeld ⊢
 refine pure_ (i := 2) (N := some 16) (v := ?_) (a' := ?_) #[false, false, true, false, false, false, false, false, false, false, false, false, false, false, false] rfl rfl (any_of HT_.out (by kernel_rfl)) (fun _ _ _ h => h) (Or.inl ⟨by rfl, ?_⟩) ?_ ?_
 rotate_left
 ·intro w'
  go_simp
  with_reducible rfl
 rotate_left
 ·simp only [Act.put, List.setIfInBounds_toArray, List.set_cons_zero, List.set_cons_succ, i64_w, i32_w]
  rfl
 refine pure_ (i := 7) (N := some 21) (v := ?_) (a' := ?_) #[false, false, true, false, false, false, false, true, false, false, false, false, false, false, false] rfl rfl (any_of HT_.out (by kernel_rfl)) (fun _ _ _ h => h) (Or.inl ⟨by rfl, ?_⟩) ?_ ?_
 rotate_left
 ·intro w'
  go_simp
  with_reducible rfl
 rotate_left
 ·simp only [Act.put, List.setIfInBounds_toArray, List.set_cons_zero, List.set_cons_succ, i64_w, i32_w]
  rfl
 refine pure_ (i := 9) (N := some 23) (v := ?_) (a' := ?_) #[false, false, true, false, false, false, false, true, false, true, false, false, false, false, false] rfl rfl (any_of HT_.out (by kernel_rfl)) (fun _ _ _ h => h) (Or.inl ⟨by rfl, ?_⟩) ?_ ?_
 rotate_left
 ·intro w'
  go_simp
  with_reducible rfl
 rotate_left
 ·simp only [Act.put, List.setIfInBounds_toArray, List.set_cons_zero, List.set_cons_succ, i64_w, i32_w]
  rfl
 refine take_ (i := 0) (N := some 14) (v := ?_) (a' := ?_) #[true, false, true, false, false, false, false, true, false, true, false, false, false, false, false] rfl rfl (take_ofW HT_.out HW_.out (by kernel_rfl)) (fun _ _ _ h => h) (Or.inl ⟨by rfl, ?_⟩) hHeld ?_ ?_
 rotate_left
 ·rintro w' ⟨s0, s1, s2, s3, s4, s5, s6, s7⟩
  go_simp
  with_reducible rfl
 rotate_left
 ·simp only [Act.put, List.setIfInBounds_toArray, List.set_cons_zero, List.set_cons_succ, i64_w, i32_w]
  rfl
 refine take_ (i := 1) (N := some 15) (v := ?_) (a' := ?_) #[true, true, true, false, false, false, false, true, false, true, false, false, false, false, false] rfl rfl (take_ofW HT_.out HW_.out (by kernel_rfl)) (fun _ _ _ h => h) (Or.inl ⟨by rfl, ?_⟩) hHeld ?_ ?_
 rotate_left
 ·rintro w' ⟨s0, s1, s2, s3, s4, s5, s6, s7⟩
  go_simp
  with_reducible rfl
 rotate_left
 ·simp only [Act.put, List.setIfInBounds_toArray, List.set_cons_zero, List.set_cons_succ, i64_w, i32_w]
  rfl
 refine take_ (i := 4) (N := some 18) (v := ?_) (a' := ?_) #[true, true, true, false, true, false, false, true, false, true, false, false, false, false, false] rfl rfl (take_ofW HT_.out HW_.out (by kernel_rfl)) (fun _ _ _ h => h) (Or.inl ⟨by rfl, ?_⟩) hHeld ?_ ?_
 rotate_left
 ·rintro w' ⟨s0, s1, s2, s3, s4, s5, s6, s7⟩
  go_simp
  with_reducible rfl
 rotate_left
 ·simp only [Act.put, List.setIfInBounds_toArray, List.set_cons_zero, List.set_cons_succ, i64_w, i32_w]
  rfl
 refine take_ (i := 5) (N := some 19) (v := ?_) (a' := ?_) #[true, true, true, false, true, true, false, true, false, true, false, false, false, false, false] rfl rfl (take_ofW HT_.out HW_.out (by kernel_rfl)) (fun _ _ _ h => h) (Or.inl ⟨by rfl, ?_⟩) hHeld ?_ ?_
 rotate_left
 ·rintro w' ⟨s0, s1, s2, s3, s4, s5, s6, s7⟩
  go_simp
  with_reducible rfl
 rotate_left
 ·simp only [Act.put, List.setIfInBounds_toArray, List.set_cons_zero, List.set_cons_succ, i64_w, i32_w]
  rfl
 refine take_ (i := 6) (N := some 20) (v := ?_) (a' := ?_) #[true, true, true, false, true, true, true, true, false, true, false, false, false, false, false] rfl rfl (take_ofW HT_.out HW_.out (by kernel_rfl)) (fun _ _ _ h => h) (Or.inl ⟨by rfl, ?_⟩) hHeld ?_ ?_
 rotate_left
 ·rintro w' ⟨s0, s1, s2, s3, s4, s5, s6, s7⟩
  go_simp
  with_reducible rfl
 rotate_left
 ·simp only [Act.put, List.setIfInBounds_toArray, List.set_cons_zero, List.set_cons_succ, i64_w, i32_w]
  rfl
 refine join_ (σ := Nat × Nat) 2 #[true, true, true, true, true, true, true, true, true, true, true, true, true, false, false] (fun s_ => [(17, .agg #[.int .i64 t141, .int .i64 t142]), (22, .agg #[.int .i64 t143, .int .i64 t144]), (24, .agg #[.int .i64 t145, .int .i64 t146]), (9, .pointer (some ⟨s_.1, 0, none⟩)), (10, .pointer (some ⟨s_.2, 0, none⟩))]) (fun s_ w' => (w'.cell? ⟨gb138, 0, none⟩ = some (.int .i64 a0_0) ∧ w'.cell? ⟨gb138, 1, none⟩ = some (.int .i64 a0_1) ∧ w'.cell? ⟨gb138, 2, none⟩ = some (.int .i64 a0_2) ∧ w'.cell? ⟨gb138, 3, none⟩ = some (.int .i64 a0_3) ∧ w'.cell? ⟨gb138, 4, none⟩ = some (.int .i64 a0_4) ∧ w'.cell? ⟨gb138, 5, none⟩ = some (.bool a0_5) ∧ w'.cell? ⟨gb139, 0, none⟩ = some (.int .i64 a1_0) ∧ w'.cell? ⟨gb139, 1, none⟩ = some (.int .i64 a1_1)) ∧ (w'.heap[gb138]? = some (.cells #[.int .i64 a0_0, .int .i64 a0_1, .int .i64 a0_2, .int .i64 a0_3, .int .i64 a0_4, .bool a0_5] 30 (0, 0))) ∧ (w'.heap[gb139]? = some (.cells #[.int .i64 a1_0, .int .i64 a1_1] 35 (0, 0))) ∧ (w'.heap[gb140]? = some (.cells #[.int .i64 0, .int .i64 0] 35 (0, 0))) ∧ (w'.heap[s_.1]? = some (.cells #[.int .i64 0, .int .i64 0] 35 (0, 0))) ∧ (w'.heap[s_.2]? = some (.cells #[.int .i64 0, .int .i64 0] 35 (0, 0))) ∧ (w.heap.size ≤ s_.1) ∧ (w.heap.size ≤ s_.1) ∧ (gb138 ≠ s_.1) ∧ (s_.1 ≠ gb138) ∧ (gb139 ≠ s_.1) ∧ (s_.1 ≠ gb139) ∧ (gb140 ≠ s_.1) ∧ (s_.1 ≠ gb140) ∧ (s_.2 ≠ s_.1) ∧ (s_.1 ≠ s_.2) ∧ (w.heap.size ≤ s_.2) ∧ (w.heap.size ≤ s_.2) ∧ (gb138 ≠ s_.2) ∧ (s_.2 ≠ gb138) ∧ (gb139 ≠ s_.2) ∧ (s_.2 ≠ gb139) ∧ (gb140 ≠ s_.2) ∧ (s_.2 ≠ gb140) ∧ (Below w.heap.size w w')) ?_ ?_
 rotate_left
 ·intro hJ3_8_10_11_12
  refine join_ (σ := Nat) 3 #[true, true, true, true, true, true, true, true, true, true, true, true, false, false, false] (fun s_ => [(17, .agg #[.int .i64 t141, .int .i64 t142]), (22, .agg #[.int .i64 t143, .int .i64 t144]), (24, .agg #[.int .i64 t145, .int .i64 t146]), (9, .pointer (some ⟨s_, 0, none⟩))]) (fun s_ w' => (w'.cell? ⟨gb138, 0, none⟩ = some (.int .i64 a0_0) ∧ w'.cell? ⟨gb138, 1, none⟩ = some (.int .i64 a0_1) ∧ w'.cell? ⟨gb138, 2, none⟩ = some (.int .i64 a0_2) ∧ w'.cell? ⟨gb138, 3, none⟩ = some (.int .i64 a0_3) ∧ w'.cell? ⟨gb138, 4, none⟩ = some (.int .i64 a0_4) ∧ w'.cell? ⟨gb138, 5, none⟩ = some (.bool a0_5) ∧ w'.cell? ⟨gb139, 0, none⟩ = some (.int .i64 a1_0) ∧ w'.cell? ⟨gb139, 1, none⟩ = some (.int .i64 a1_1)) ∧ (w'.heap[gb138]? = some (.cells #[.int .i64 a0_0, .int .i64 a0_1, .int .i64 a0_2, .int .i64 a0_3, .int .i64 a0_4, .bool a0_5] 30 (0, 0))) ∧ (w'.heap[gb139]? = some (.cells #[.int .i64 a1_0, .int .i64 a1_1] 35 (0, 0))) ∧ (w'.heap[gb140]? = some (.cells #[.int .i64 0, .int .i64 0] 35 (0, 0))) ∧ (w'.heap[s_]? = some (.cells #[.int .i64 0, .int .i64 0] 35 (0, 0))) ∧ (w.heap.size ≤ s_) ∧ (w.heap.size ≤ s_) ∧ (gb138 ≠ s_) ∧ (s_ ≠ gb138) ∧ (gb139 ≠ s_) ∧ (s_ ≠ gb139) ∧ (gb140 ≠ s_) ∧ (s_ ≠ gb140) ∧ (Below w.heap.size w w')) ?_ ?_
  rotate_left
  ·intro hJ3_8_10_11
   refine join_ (σ := Nat) 3 #[true, true, true, true, true, true, true, true, true, true, true, false, true, false, false] (fun s_ => [(17, .agg #[.int .i64 t141, .int .i64 t142]), (22, .agg #[.int .i64 t143, .int .i64 t144]), (24, .agg #[.int .i64 t145, .int .i64 t146]), (10, .pointer (some ⟨s_, 0, none⟩))]) (fun s_ w' => (w'.cell? ⟨gb138, 0, none⟩ = some (.int .i64 a0_0) ∧ w'.cell? ⟨gb138, 1, none⟩ = some (.int .i64 a0_1) ∧ w'.cell? ⟨gb138, 2, none⟩ = some (.int .i64 a0_2) ∧ w'.cell? ⟨gb138, 3, none⟩ = some (.int .i64 a0_3) ∧ w'.cell? ⟨gb138, 4, none⟩ = some (.int .i64 a0_4) ∧ w'.cell? ⟨gb138, 5, none⟩ = some (.bool a0_5) ∧ w'.cell? ⟨gb139, 0, none⟩ = some (.int .i64 a1_0) ∧ w'.cell? ⟨gb139, 1, none⟩ = some (.int .i64 a1_1)) ∧ (w'.heap[gb138]? = some (.cells #[.int .i64 a0_0, .int .i64 a0_1, .int .i64 a0_2, .int .i64 a0_3, .int .i64 a0_4, .bool a0_5] 30 (0, 0))) ∧ (w'.heap[gb139]? = some (.cells #[.int .i64 a1_0, .int .i64 a1_1] 35 (0, 0))) ∧ (w'.heap[gb140]? = some (.cells #[.int .i64 0, .int .i64 0] 35 (0, 0))) ∧ (w'.heap[s_]? = some (.cells #[.int .i64 0, .int .i64 0] 35 (0, 0))) ∧ (w.heap.size ≤ s_) ∧ (w.heap.size ≤ s_) ∧ (gb138 ≠ s_) ∧ (s_ ≠ gb138) ∧ (gb139 ≠ s_) ∧ (s_ ≠ gb139) ∧ (gb140 ≠ s_) ∧ (s_ ≠ gb140) ∧ (Below w.heap.size w w')) ?_ ?_
   rotate_left
   ·intro hJ3_8_10_12
    refine join_ (σ := Nat × Nat) 3 #[true, true, true, true, true, true, true, true, true, true, false, true, true, false, false] (fun s_ => [(17, .agg #[.int .i64 t141, .int .i64 t142]), (22, .agg #[.int .i64 t143, .int .i64 t144]), (9, .pointer (some ⟨s_.1, 0, none⟩)), (10, .pointer (some ⟨s_.2, 0, none⟩))]) (fun s_ w' => (w'.cell? ⟨gb138, 0, none⟩ = some (.int .i64 a0_0) ∧ w'.cell? ⟨gb138, 1, none⟩ = some (.int .i64 a0_1) ∧ w'.cell? ⟨gb138, 2, none⟩ = some (.int .i64 a0_2) ∧ w'.cell? ⟨gb138, 3, none⟩ = some (.int .i64 a0_3) ∧ w'.cell? ⟨gb138, 4, none⟩ = some (.int .i64 a0_4) ∧ w'.cell? ⟨gb138, 5, none⟩ = some (.bool a0_5) ∧ w'.cell? ⟨gb139, 0, none⟩ = some (.int .i64 a1_0) ∧ w'.cell? ⟨gb139, 1, none⟩ = some (.int .i64 a1_1)) ∧ (w'.heap[gb138]? = some (.cells #[.int .i64 a0_0, .int .i64 a0_1, .int .i64 a0_2, .int .i64 a0_3, .int .i64 a0_4, .bool a0_5] 30 (0, 0))) ∧ (w'.heap[gb139]? = some (.cells #[.int .i64 a1_0, .int .i64 a1_1] 35 (0, 0))) ∧ (w'.heap[gb140]? = some (.cells #[.int .i64 0, .int .i64 0] 35 (0, 0))) ∧ (w'.heap[s_.1]? = some (.cells #[.int .i64 0, .int .i64 0] 35 (0, 0))) ∧ (w'.heap[s_.2]? = some (.cells #[.int .i64 0, .int .i64 0] 35 (0, 0))) ∧ (w.heap.size ≤ s_.1) ∧ (w.heap.size ≤ s_.1) ∧ (gb138 ≠ s_.1) ∧ (s_.1 ≠ gb138) ∧ (gb139 ≠ s_.1) ∧ (s_.1 ≠ gb139) ∧ (gb140 ≠ s_.1) ∧ (s_.1 ≠ gb140) ∧ (s_.2 ≠ s_.1) ∧ (s_.1 ≠ s_.2) ∧ (w.heap.size ≤ s_.2) ∧ (w.heap.size ≤ s_.2) ∧ (gb138 ≠ s_.2) ∧ (s_.2 ≠ gb138) ∧ (gb139 ≠ s_.2) ∧ (s_.2 ≠ gb139) ∧ (gb140 ≠ s_.2) ∧ (s_.2 ≠ gb140) ∧ (Below w.heap.size w w')) ?_ ?_
    rotate_left
    ·intro hJ3_8_11_12
     refine join_ (σ := Unit) 4 #[true, true, true, true, true, true, true, true, true, true, true, false, false, false, false] (fun s_ => [(17, .agg #[.int .i64 t141, .int .i64 t142]), (22, .agg #[.int .i64 t143, .int .i64 t144]), (24, .agg #[.int .i64 t145, .int .i64 t146])]) (fun s_ w' => (w'.cell? ⟨gb138, 0, none⟩ = some (.int .i64 a0_0) ∧ w'.cell? ⟨gb138, 1, none⟩ = some (.int .i64 a0_1) ∧ w'.cell? ⟨gb138, 2, none⟩ = some (.int .i64 a0_2) ∧ w'.cell? ⟨gb138, 3, none⟩ = some (.int .i64 a0_3) ∧ w'.cell? ⟨gb138, 4, none⟩ = some (.int .i64 a0_4) ∧ w'.cell? ⟨gb138, 5, none⟩ = some (.bool a0_5) ∧ w'.cell? ⟨gb139, 0, none⟩ = some (.int .i64 a1_0) ∧ w'.cell? ⟨gb139, 1, none⟩ = some (.int .i64 a1_1)) ∧ (w'.heap[gb138]? = some (.cells #[.int .i64 a0_0, .int .i64 a0_1, .int .i64 a0_2, .int .i64 a0_3, .int .i64 a0_4, .bool a0_5] 30 (0, 0))) ∧ (w'.heap[gb139]? = some (.cells #[.int .i64 a1_0, .int .i64 a1_1] 35 (0, 0))) ∧ (w'.heap[gb140]? = some (.cells #[.int .i64 0, .int .i64 0] 35 (0, 0))) ∧ (Below w.heap.size w w')) ?_ ?_
     rotate_left
     ·intro hJ3_8_10
      refine join_ (σ := Nat) 4 #[true, true, true, true, true, true, true, true, true, true, false, true, false, false, false] (fun s_ => [(17, .agg #[.int .i64 t141, .int .i64 t142]), (22, .agg #[.int .i64 t143, .int .i64 t144]), (9, .pointer (some ⟨s_, 0, none⟩))]) (fun s_ w' => (w'.cell? ⟨gb138, 0, none⟩ = some (.int .i64 a0_0) ∧ w'.cell? ⟨gb138, 1, none⟩ = some (.int .i64 a0_1) ∧ w'.cell? ⟨gb138, 2, none⟩ = some (.int .i64 a0_2) ∧ w'.cell? ⟨gb138, 3, none⟩ = some (.int .i64 a0_3) ∧ w'.cell? ⟨gb138, 4, none⟩ = some (.int .i64 a0_4) ∧ w'.cell? ⟨gb138, 5, none⟩ = some (.bool a0_5) ∧ w'.cell? ⟨gb139, 0, none⟩ = some (.int .i64 a1_0) ∧ w'.cell? ⟨gb139, 1, none⟩ = some (.int .i64 a1_1)) ∧ (w'.heap[gb138]? = some (.cells #[.int .i64 a0_0, .int .i64 a0_1, .int .i64 a0_2, .int .i64 a0_3, .int .i64 a0_4, .bool a0_5] 30 (0, 0))) ∧ (w'.heap[gb139]? = some (.cells #[.int .i64 a1_0, .int .i64 a1_1] 35 (0, 0))) ∧ (w'.heap[gb140]? = some (.cells #[.int .i64 0, .int .i64 0] 35 (0, 0))) ∧ (w'.heap[s_]? = some (.cells #[.int .i64 0, .int .i64 0] 35 (0, 0))) ∧ (w.heap.size ≤ s_) ∧ (w.heap.size ≤ s_) ∧ (gb138 ≠ s_) ∧ (s_ ≠ gb138) ∧ (gb139 ≠ s_) ∧ (s_ ≠ gb139) ∧ (gb140 ≠ s_) ∧ (s_ ≠ gb140) ∧ (Below w.heap.size w w')) ?_ ?_
      rotate_left
      ·intro hJ3_8_11
       refine join_ (σ := Nat) 4 #[true, true, true, true, true, true, true, true, true, true, false, false, true, false, false] (fun s_ => [(17, .agg #[.int .i64 t141, .int .i64 t142]), (22, .agg #[.int .i64 t143, .int .i64 t144]), (10, .pointer (some ⟨s_, 0, none⟩))]) (fun s_ w' => (w'.cell? ⟨gb138, 0, none⟩ = some (.int .i64 a0_0) ∧ w'.cell? ⟨gb138, 1, none⟩ = some (.int .i64 a0_1) ∧ w'.cell? ⟨gb138, 2, none⟩ = some (.int .i64 a0_2) ∧ w'.cell? ⟨gb138, 3, none⟩ = some (.int .i64 a0_3) ∧ w'.cell? ⟨gb138, 4, none⟩ = some (.int .i64 a0_4) ∧ w'.cell? ⟨gb138, 5, none⟩ = some (.bool a0_5) ∧ w'.cell? ⟨gb139, 0, none⟩ = some (.int .i64 a1_0) ∧ w'.cell? ⟨gb139, 1, none⟩ = some (.int .i64 a1_1)) ∧ (w'.heap[gb138]? = some (.cells #[.int .i64 a0_0, .int .i64 a0_1, .int .i64 a0_2, .int .i64 a0_3, .int .i64 a0_4, .bool a0_5] 30 (0, 0))) ∧ (w'.heap[gb139]? = some (.cells #[.int .i64 a1_0, .int .i64 a1_1] 35 (0, 0))) ∧ (w'.heap[gb140]? = some (.cells #[.int .i64 0, .int .i64 0] 35 (0, 0))) ∧ (w'.heap[s_]? = some (.cells #[.int .i64 0, .int .i64 0] 35 (0, 0))) ∧ (w.heap.size ≤ s_) ∧ (w.heap.size ≤ s_) ∧ (gb138 ≠ s_) ∧ (s_ ≠ gb138) ∧ (gb139 ≠ s_) ∧ (s_ ≠ gb139) ∧ (gb140 ≠ s_) ∧ (s_ ≠ gb140) ∧ (Below w.heap.size w w')) ?_ ?_
       rotate_left
       ·intro hJ3_8_12
        refine join_ (σ := Nat × Nat) 4 #[true, true, true, true, true, true, true, true, false, true, false, true, true, false, false] (fun s_ => [(17, .agg #[.int .i64 t141, .int .i64 t142]), (9, .pointer (some ⟨s_.1, 0, none⟩)), (10, .pointer (some ⟨s_.2, 0, none⟩))]) (fun s_ w' => (w'.cell? ⟨gb138, 0, none⟩ = some (.int .i64 a0_0) ∧ w'.cell? ⟨gb138, 1, none⟩ = some (.int .i64 a0_1) ∧ w'.cell? ⟨gb138, 2, none⟩ = some (.int .i64 a0_2) ∧ w'.cell? ⟨gb138, 3, none⟩ = some (.int .i64 a0_3) ∧ w'.cell? ⟨gb138, 4, none⟩ = some (.int .i64 a0_4) ∧ w'.cell? ⟨gb138, 5, none⟩ = some (.bool a0_5) ∧ w'.cell? ⟨gb139, 0, none⟩ = some (.int .i64 a1_0) ∧ w'.cell? ⟨gb139, 1, none⟩ = some (.int .i64 a1_1)) ∧ (w'.heap[gb138]? = some (.cells #[.int .i64 a0_0, .int .i64 a0_1, .int .i64 a0_2, .int .i64 a0_3, .int .i64 a0_4, .bool a0_5] 30 (0, 0))) ∧ (w'.heap[gb139]? = some (.cells #[.int .i64 a1_0, .int .i64 a1_1] 35 (0, 0))) ∧ (w'.heap[gb140]? = some (.cells #[.int .i64 0, .int .i64 0] 35 (0, 0))) ∧ (w'.heap[s_.1]? = some (.cells #[.int .i64 0, .int .i64 0] 35 (0, 0))) ∧ (w'.heap[s_.2]? = some (.cells #[.int .i64 0, .int .i64 0] 35 (0, 0))) ∧ (w.heap.size ≤ s_.1) ∧ (w.heap.size ≤ s_.1) ∧ (gb138 ≠ s_.1) ∧ (s_.1 ≠ gb138) ∧ (gb139 ≠ s_.1) ∧ (s_.1 ≠ gb139) ∧ (gb140 ≠ s_.1) ∧ (s_.1 ≠ gb140) ∧ (s_.2 ≠ s_.1) ∧ (s_.1 ≠ s_.2) ∧ (w.heap.size ≤ s_.2) ∧ (w.heap.size ≤ s_.2) ∧ (gb138 ≠ s_.2) ∧ (s_.2 ≠ gb138) ∧ (gb139 ≠ s_.2) ∧ (s_.2 ≠ gb139) ∧ (gb140 ≠ s_.2) ∧ (s_.2 ≠ gb140) ∧ (Below w.heap.size w w')) ?_ ?_
        rotate_left
        ·intro hJ3_11_12
         refine join_ (σ := Unit) 5 #[true, true, true, true, true, true, true, true, true, true, false, false, false, false, false] (fun s_ => [(17, .agg #[.int .i64 t141, .int .i64 t142]), (22, .agg #[.int .i64 t143, .int .i64 t144])]) (fun s_ w' => (w'.cell? ⟨gb138, 0, none⟩ = some (.int .i64 a0_0) ∧ w'.cell? ⟨gb138, 1, none⟩ = some (.int .i64 a0_1) ∧ w'.cell? ⟨gb138, 2, none⟩ = some (.int .i64 a0_2) ∧ w'.cell? ⟨gb138, 3, none⟩ = some (.int .i64 a0_3) ∧ w'.cell? ⟨gb138, 4, none⟩ = some (.int .i64 a0_4) ∧ w'.cell? ⟨gb138, 5, none⟩ = some (.bool a0_5) ∧ w'.cell? ⟨gb139, 0, none⟩ = some (.int .i64 a1_0) ∧ w'.cell? ⟨gb139, 1, none⟩ = some (.int .i64 a1_1)) ∧ (w'.heap[gb138]? = some (.cells #[.int .i64 a0_0, .int .i64 a0_1, .int .i64 a0_2, .int .i64 a0_3, .int .i64 a0_4, .bool a0_5] 30 (0, 0))) ∧ (w'.heap[gb139]? = some (.cells #[.int .i64 a1_0, .int .i64 a1_1] 35 (0, 0))) ∧ (w'.heap[gb140]? = some (.cells #[.int .i64 0, .int .i64 0] 35 (0, 0))) ∧ (Below w.heap.size w w')) ?_ ?_
         rotate_left
         ·intro hJ3_8
          refine join_ (σ := Nat) 5 #[true, true, true, true, true, true, true, true, false, true, false, true, false, false, false] (fun s_ => [(17, .agg #[.int .i64 t141, .int .i64 t142]), (9, .pointer (some ⟨s_, 0, none⟩))]) (fun s_ w' => (w'.cell? ⟨gb138, 0, none⟩ = some (.int .i64 a0_0) ∧ w'.cell? ⟨gb138, 1, none⟩ = some (.int .i64 a0_1) ∧ w'.cell? ⟨gb138, 2, none⟩ = some (.int .i64 a0_2) ∧ w'.cell? ⟨gb138, 3, none⟩ = some (.int .i64 a0_3) ∧ w'.cell? ⟨gb138, 4, none⟩ = some (.int .i64 a0_4) ∧ w'.cell? ⟨gb138, 5, none⟩ = some (.bool a0_5) ∧ w'.cell? ⟨gb139, 0, none⟩ = some (.int .i64 a1_0) ∧ w'.cell? ⟨gb139, 1, none⟩ = some (.int .i64 a1_1)) ∧ (w'.heap[gb138]? = some (.cells #[.int .i64 a0_0, .int .i64 a0_1, .int .i64 a0_2, .int .i64 a0_3, .int .i64 a0_4, .bool a0_5] 30 (0, 0))) ∧ (w'.heap[gb139]? = some (.cells #[.int .i64 a1_0, .int .i64 a1_1] 35 (0, 0))) ∧ (w'.heap[gb140]? = some (.cells #[.int .i64 0, .int .i64 0] 35 (0, 0))) ∧ (w'.heap[s_]? = some (.cells #[.int .i64 0, .int .i64 0] 35 (0, 0))) ∧ (w.heap.size ≤ s_) ∧ (w.heap.size ≤ s_) ∧ (gb138 ≠ s_) ∧ (s_ ≠ gb138) ∧ (gb139 ≠ s_) ∧ (s_ ≠ gb139) ∧ (gb140 ≠ s_) ∧ (s_ ≠ gb140) ∧ (Below w.heap.size w w')) ?_ ?_
          rotate_left
          ·intro hJ3_11
           refine join_ (σ := Nat) 5 #[true, true, true, true, true, true, true, true, false, true, false, false, true, false, false] (fun s_ => [(17, .agg #[.int .i64 t141, .int .i64 t142]), (10, .pointer (some ⟨s_, 0, none⟩))]) (fun s_ w' => (w'.cell? ⟨gb138, 0, none⟩ = some (.int .i64 a0_0) ∧ w'.cell? ⟨gb138, 1, none⟩ = some (.int .i64 a0_1) ∧ w'.cell? ⟨gb138, 2, none⟩ = some (.int .i64 a0_2) ∧ w'.cell? ⟨gb138, 3, none⟩ = some (.int .i64 a0_3) ∧ w'.cell? ⟨gb138, 4, none⟩ = some (.int .i64 a0_4) ∧ w'.cell? ⟨gb138, 5, none⟩ = some (.bool a0_5) ∧ w'.cell? ⟨gb139, 0, none⟩ = some (.int .i64 a1_0) ∧ w'.cell? ⟨gb139, 1, none⟩ = some (.int .i64 a1_1)) ∧ (w'.heap[gb138]? = some (.cells #[.int .i64 a0_0, .int .i64 a0_1, .int .i64 a0_2, .int .i64 a0_3, .int .i64 a0_4, .bool a0_5] 30 (0, 0))) ∧ (w'.heap[gb139]? = some (.cells #[.int .i64 a1_0, .int .i64 a1_1] 35 (0, 0))) ∧ (w'.heap[gb140]? = some (.cells #[.int .i64 0, .int .i64 0] 35 (0, 0))) ∧ (w'.heap[s_]? = some (.cells #[.int .i64 0, .int .i64 0] 35 (0, 0))) ∧ (w.heap.size ≤ s_) ∧ (w.heap.size ≤ s_) ∧ (gb138 ≠ s_) ∧ (s_ ≠ gb138) ∧ (gb139 ≠ s_) ∧ (s_ ≠ gb139) ∧ (gb140 ≠ s_) ∧ (s_ ≠ gb140) ∧ (Below w.heap.size w w')) ?_ ?_
           rotate_left
           ·intro hJ3_12
            refine join_ (σ := Nat × Nat) 5 #[true, true, true, false, true, true, true, true, false, true, false, true, true, false, false] (fun s_ => [(9, .pointer (some ⟨s_.1, 0, none⟩)), (10, .pointer (some ⟨s_.2, 0, none⟩))]) (fun s_ w' => (w'.cell? ⟨gb138, 0, none⟩ = some (.int .i64 a0_0) ∧ w'.cell? ⟨gb138, 1, none⟩ = some (.int .i64 a0_1) ∧ w'.cell? ⟨gb138, 2, none⟩ = some (.int .i64 a0_2) ∧ w'.cell? ⟨gb138, 3, none⟩ = some (.int .i64 a0_3) ∧ w'.cell? ⟨gb138, 4, none⟩ = some (.int .i64 a0_4) ∧ w'.cell? ⟨gb138, 5, none⟩ = some (.bool a0_5) ∧ w'.cell? ⟨gb139, 0, none⟩ = some (.int .i64 a1_0) ∧ w'.cell? ⟨gb139, 1, none⟩ = some (.int .i64 a1_1)) ∧ (w'.heap[gb138]? = some (.cells #[.int .i64 a0_0, .int .i64 a0_1, .int .i64 a0_2, .int .i64 a0_3, .int .i64 a0_4, .bool a0_5] 30 (0, 0))) ∧ (w'.heap[gb139]? = some (.cells #[.int .i64 a1_0, .int .i64 a1_1] 35 (0, 0))) ∧ (w'.heap[gb140]? = some (.cells #[.int .i64 0, .int .i64 0] 35 (0, 0))) ∧ (w'.heap[s_.1]? = some (.cells #[.int .i64 0, .int .i64 0] 35 (0, 0))) ∧ (w'.heap[s_.2]? = some (.cells #[.int .i64 0, .int .i64 0] 35 (0, 0))) ∧ (w.heap.size ≤ s_.1) ∧ (w.heap.size ≤ s_.1) ∧ (gb138 ≠ s_.1) ∧ (s_.1 ≠ gb138) ∧ (gb139 ≠ s_.1) ∧ (s_.1 ≠ gb139) ∧ (gb140 ≠ s_.1) ∧ (s_.1 ≠ gb140) ∧ (s_.2 ≠ s_.1) ∧ (s_.1 ≠ s_.2) ∧ (w.heap.size ≤ s_.2) ∧ (w.heap.size ≤ s_.2) ∧ (gb138 ≠ s_.2) ∧ (s_.2 ≠ gb138) ∧ (gb139 ≠ s_.2) ∧ (s_.2 ≠ gb139) ∧ (gb140 ≠ s_.2) ∧ (s_.2 ≠ gb140) ∧ (Below w.heap.size w w')) ?_ ?_
            rotate_left
            ·intro hJ11_12
             refine join_ (σ := Unit) 6 #[true, true, true, true, true, true, true, true, false, true, false, false, false, false, false] (fun s_ => [(17, .agg #[.int .i64 t141, .int .i64 t142])]) (fun s_ w' => (w'.cell? ⟨gb138, 0, none⟩ = some (.int .i64 a0_0) ∧ w'.cell? ⟨gb138, 1, none⟩ = some (.int .i64 a0_1) ∧ w'.cell? ⟨gb138, 2, none⟩ = some (.int .i64 a0_2) ∧ w'.cell? ⟨gb138, 3, none⟩ = some (.int .i64 a0_3) ∧ w'.cell? ⟨gb138, 4, none⟩ = some (.int .i64 a0_4) ∧ w'.cell? ⟨gb138, 5, none⟩ = some (.bool a0_5) ∧ w'.cell? ⟨gb139, 0, none⟩ = some (.int .i64 a1_0) ∧ w'.cell? ⟨gb139, 1, none⟩ = some (.int .i64 a1_1)) ∧ (w'.heap[gb138]? = some (.cells #[.int .i64 a0_0, .int .i64 a0_1, .int .i64 a0_2, .int .i64 a0_3, .int .i64 a0_4, .bool a0_5] 30 (0, 0))) ∧ (w'.heap[gb139]? = some (.cells #[.int .i64 a1_0, .int .i64 a1_1] 35 (0, 0))) ∧ (w'.heap[gb140]? = some (.cells #[.int .i64 0, .int .i64 0] 35 (0, 0))) ∧ (Below w.heap.size w w')) ?_ ?_
             rotate_left
             ·intro hJ3
              refine join_ (σ := Nat) 6 #[true, true, true, false, true, true, true, true, false, true, false, true, false, false, false] (fun s_ => [(9, .pointer (some ⟨s_, 0, none⟩))]) (fun s_ w' => (w'.cell? ⟨gb138, 0, none⟩ = some (.int .i64 a0_0) ∧ w'.cell? ⟨gb138, 1, none⟩ = some (.int .i64 a0_1) ∧ w'.cell? ⟨gb138, 2, none⟩ = some (.int .i64 a0_2) ∧ w'.cell? ⟨gb138, 3, none⟩ = some (.int .i64 a0_3) ∧ w'.cell? ⟨gb138, 4, none⟩ = some (.int .i64 a0_4) ∧ w'.cell? ⟨gb138, 5, none⟩ = some (.bool a0_5) ∧ w'.cell? ⟨gb139, 0, none⟩ = some (.int .i64 a1_0) ∧ w'.cell? ⟨gb139, 1, none⟩ = some (.int .i64 a1_1)) ∧ (w'.heap[gb138]? = some (.cells #[.int .i64 a0_0, .int .i64 a0_1, .int .i64 a0_2, .int .i64 a0_3, .int .i64 a0_4, .bool a0_5] 30 (0, 0))) ∧ (w'.heap[gb139]? = some (.cells #[.int .i64 a1_0, .int .i64 a1_1] 35 (0, 0))) ∧ (w'.heap[gb140]? = some (.cells #[.int .i64 0, .int .i64 0] 35 (0, 0))) ∧ (w'.heap[s_]? = some (.cells #[.int .i64 0, .int .i64 0] 35 (0, 0))) ∧ (w.heap.size ≤ s_) ∧ (w.heap.size ≤ s_) ∧ (gb138 ≠ s_) ∧ (s_ ≠ gb138) ∧ (gb139 ≠ s_) ∧ (s_ ≠ gb139) ∧ (gb140 ≠ s_) ∧ (s_ ≠ gb140) ∧ (Below w.heap.size w w')) ?_ ?_
              rotate_left
              ·intro hJ11
               refine join_ (σ := Nat) 6 #[true, true, true, false, true, true, true, true, false, true, false, false, true, false, false] (fun s_ => [(10, .pointer (some ⟨s_, 0, none⟩))]) (fun s_ w' => (w'.cell? ⟨gb138, 0, none⟩ = some (.int .i64 a0_0) ∧ w'.cell? ⟨gb138, 1, none⟩ = some (.int .i64 a0_1) ∧ w'.cell? ⟨gb138, 2, none⟩ = some (.int .i64 a0_2) ∧ w'.cell? ⟨gb138, 3, none⟩ = some (.int .i64 a0_3) ∧ w'.cell? ⟨gb138, 4, none⟩ = some (.int .i64 a0_4) ∧ w'.cell? ⟨gb138, 5, none⟩ = some (.bool a0_5) ∧ w'.cell? ⟨gb139, 0, none⟩ = some (.int .i64 a1_0) ∧ w'.cell? ⟨gb139, 1, none⟩ = some (.int .i64 a1_1)) ∧ (w'.heap[gb138]? = some (.cells #[.int .i64 a0_0, .int .i64 a0_1, .int .i64 a0_2, .int .i64 a0_3, .int .i64 a0_4, .bool a0_5] 30 (0, 0))) ∧ (w'.heap[gb139]? = some (.cells #[.int .i64 a1_0, .int .i64 a1_1] 35 (0, 0))) ∧ (w'.heap[gb140]? = some (.cells #[.int .i64 0, .int .i64 0] 35 (0, 0))) ∧ (w'.heap[s_]? = some (.cells #[.int .i64 0, .int .i64 0] 35 (0, 0))) ∧ (w.heap.size ≤ s_) ∧ (w.heap.size ≤ s_) ∧ (gb138 ≠ s_) ∧ (s_ ≠ gb138) ∧ (gb139 ≠ s_) ∧ (s_ ≠ gb139) ∧ (gb140 ≠ s_) ∧ (s_ ≠ gb140) ∧ (Below w.heap.size w w')) ?_ ?_
               rotate_left
               ·intro hJ12
                refine three_ (i := 3) (j := 11) (k := 12) (Ni := some 17) (Nj := some 9) (Nk := some 10) #[true, true, true, true, true, true, true, true, false, true, false, false, false, false, false] #[true, true, true, false, true, true, true, true, false, true, false, true, false, false, false] #[true, true, true, false, true, true, true, true, false, true, false, false, true, false, false] rfl rfl rfl rfl rfl rfl (three_of HT_.out (by kernel_rfl)) (by decide) (by decide) (by decide) (fun K hK => ?_) (fun K hK => ?_) (fun K hK => ?_)
                ·skip
                 refine goes_ Try.func16 (by kernel_rfl) rfl #[.agg #[.int .i64 a0_0, .int .i64 a0_1, .int .i64 a0_2, .int .i64 a0_3, .int .i64 a0_4, .bool a0_5], .agg #[.int .i64 a1_0, .int .i64 a1_1], .int .i64 a2] (by rfl) rfl rfl (by (try simp only [List.map_toArray, List.map_cons, List.map_nil]); first | done | rfl | (simp only [List.length_drop, List.length_take]; rfl)) ?_
                 with_reducible refine (spec_sdNext.calls k a0_0 a0_1 a0_2 a0_3 a0_4 a0_5 a1_0 a1_1 a2 t141 t142 _ A4.out).mono ?_
                 rintro e w11 ⟨rfl, hb⟩
                 refine ⟨_, rfl, ?_⟩
                 have n0_ := A0 (blk_below (g := gb138) (o := .cells #[.int .i64 a0_0, .int .i64 a0_1, .int .i64 a0_2, .int .i64 a0_3, .int .i64 a0_4, .bool a0_5] 30 (0, 0)) (by (with_reducible repeat (first | apply bN | apply bD | apply bA)); exact BK138.out) hb)
                 have n1_ := A0 (blk_below (g := gb139) (o := .cells #[.int .i64 a1_0, .int .i64 a1_1] 35 (0, 0)) (by (with_reducible repeat (first | apply bN | apply bD | apply bA)); exact BK139.out) hb)
                 have n2_ := A0 (blk_below (g := gb140) (o := .cells #[.int .i64 0, .int .i64 0] 35 (0, 0)) (by (with_reducible repeat (first | apply bN | apply bD | apply bA)); exact BK140.out) hb)
                 have n3_ := A0 (below_step (by repeat (first | (with_reducible first | exact HB.out | apply lA | apply lN | apply lD | refine lS ?_ GE138.out | refine lS ?_ GE139.out | refine lS ?_ GE140.out) | exact HB.out)) hb)
                 clear BK138
                 clear BK139
                 clear BK140
                 clear HB
                 have BK138 := n0_
                 have BK139 := n1_
                 have BK140 := n2_
                 have HB := n3_
                 clear n0_ n1_ n2_ n3_
                 (try clear hb)
                 (try clear hb2)
                 (try clear hk)
                 (try clear hi)
                 refine hK.out _ _ ⟨(blk_cell BK138.out 0).trans rfl, (blk_cell BK138.out 1).trans rfl, (blk_cell BK138.out 2).trans rfl, (blk_cell BK138.out 3).trans rfl, (blk_cell BK138.out 4).trans rfl, (blk_cell BK138.out 5).trans rfl, (blk_cell BK139.out 0).trans rfl, (blk_cell BK139.out 1).trans rfl⟩ (fun hHeld => ?_)
                 clear hK K
                 refine norm_ (a' := ?_) ?_ ?_
                 rotate_left
                 ·show Act.put _ (some 17) _ = _
                  simp only [Act.put, List.setIfInBounds_toArray, List.set_cons_zero, List.set_cons_succ, i64_w, i32_w]
                  rfl
                 exact norm_ (by simp only [putAll, Act.put, List.setIfInBounds_toArray, List.set_cons_zero, List.set_cons_succ]; try rfl) (hJ3 () _ ⟨hHeld, (by (with_reducible repeat (first | apply bN | apply bD | apply bA)); exact BK138.out), (by (with_reducible repeat (first | apply bN | apply bD | apply bA)); exact BK139.out), (by (with_reducible repeat (first | apply bN | apply bD | apply bA)); exact BK140.out), (by repeat (first | (with_reducible first | exact HB.out | apply lA | apply lN | apply lD | refine lS ?_ GE138.out | refine lS ?_ GE139.out | refine lS ?_ GE140.out) | exact HB.out))⟩)
                ·skip
                 refine box_step ?hg (N := 9) ?hd (cs := #[.int .i64 0, .int .i64 0]) (t := 35) ?hr ?_; (case hd => rfl); (case hg => rfl); (case hr => first | (go_simp; done) | (go_simp; rfl))
                 intro gb147 hg w11 hbox hb
                 have n0_ := A0 (blk_below (g := gb138) (o := .cells #[.int .i64 a0_0, .int .i64 a0_1, .int .i64 a0_2, .int .i64 a0_3, .int .i64 a0_4, .bool a0_5] 30 (0, 0)) (by (with_reducible repeat (first | apply bN | apply bD | apply bA)); exact BK138.out) hb)
                 have n1_ := A0 (blk_below (g := gb139) (o := .cells #[.int .i64 a1_0, .int .i64 a1_1] 35 (0, 0)) (by (with_reducible repeat (first | apply bN | apply bD | apply bA)); exact BK139.out) hb)
                 have n2_ := A0 (blk_below (g := gb140) (o := .cells #[.int .i64 0, .int .i64 0] 35 (0, 0)) (by (with_reducible repeat (first | apply bN | apply bD | apply bA)); exact BK140.out) hb)
                 have n3_ := A0 (below_step (by repeat (first | (with_reducible first | exact HB.out | apply lA | apply lN | apply lD | refine lS ?_ GE138.out | refine lS ?_ GE139.out | refine lS ?_ GE140.out) | exact HB.out)) hb)
                 have n4_ := A0 (hbox)
                 have n5_ := A0 ((by rw [hg]; exact (below_size (by repeat (first | (with_reducible first | exact HB.out | apply lA | apply lN | apply lD | refine lS ?_ GE138.out | refine lS ?_ GE139.out | refine lS ?_ GE140.out) | exact HB.out))) : w.heap.size ≤ gb147))
                 have n6_ := n5_
                 have n7_ := A0 ((by rw [hg]; exact Nat.ne_of_lt (blk_lt (by (with_reducible repeat (first | apply bN | apply bD | apply bA)); exact BK138.out)) : gb138 ≠ gb147))
                 have n8_ := A0 n7_.out.symm
                 have n9_ := A0 ((by rw [hg]; exact Nat.ne_of_lt (blk_lt (by (with_reducible repeat (first | apply bN | apply bD | apply bA)); exact BK139.out)) : gb139 ≠ gb147))
                 have n10_ := A0 n9_.out.symm
                 have n11_ := A0 ((by rw [hg]; exact Nat.ne_of_lt (blk_lt (by (with_reducible repeat (first | apply bN | apply bD | apply bA)); exact BK140.out)) : gb140 ≠ gb147))
                 have n12_ := A0 n11_.out.symm
                 clear BK138
                 clear BK139
                 clear BK140
                 clear HB
                 have BK138 := n0_
                 have BK139 := n1_
                 have BK140 := n2_
                 have HB := n3_
                 have BK147 := n4_
                 have GW147 := n5_
                 have GE147 := n6_
                 have NB138_147 := n7_
                 have NB147_138 := n8_
                 have NB139_147 := n9_
                 have NB147_139 := n10_
                 have NB140_147 := n11_
                 have NB147_140 := n12_
                 clear n0_ n1_ n2_ n3_ n4_ n5_ n6_ n7_ n8_ n9_ n10_ n11_ n12_
                 clear hb hbox hg
                 refine hK.out _ _ ⟨(blk_cell BK138.out 0).trans rfl, (blk_cell BK138.out 1).trans rfl, (blk_cell BK138.out 2).trans rfl, (blk_cell BK138.out 3).trans rfl, (blk_cell BK138.out 4).trans rfl, (blk_cell BK138.out 5).trans rfl, (blk_cell BK139.out 0).trans rfl, (blk_cell BK139.out 1).trans rfl⟩ (fun hHeld => ?_)
                 clear hK K
                 refine norm_ (a' := ?_) ?_ ?_
                 rotate_left
                 ·show Act.put _ (some 9) _ = _
                  simp only [Act.put, List.setIfInBounds_toArray, List.set_cons_zero, List.set_cons_succ, i64_w, i32_w]
                  rfl
                 exact norm_ (by simp only [putAll, Act.put, List.setIfInBounds_toArray, List.set_cons_zero, List.set_cons_succ]; try rfl) (hJ11 (gb147) _ ⟨hHeld, (by (with_reducible repeat (first | apply bN | apply bD | apply bA)); exact BK138.out), (by (with_reducible repeat (first | apply bN | apply bD | apply bA)); exact BK139.out), (by (with_reducible repeat (first | apply bN | apply bD | apply bA)); exact BK140.out), (by (with_reducible repeat (first | apply bN | apply bD | apply bA)); exact BK147.out), GW147.out, GE147.out, NB138_147.out, NB147_138.out, NB139_147.out, NB147_139.out, NB140_147.out, NB147_140.out, (by repeat (first | (with_reducible first | exact HB.out | apply lA | apply lN | apply lD | refine lS ?_ GE138.out | refine lS ?_ GE139.out | refine lS ?_ GE140.out | refine lS ?_ GE147.out) | exact HB.out))⟩)
                ·skip
                 refine box_step ?hg (N := 10) ?hd (cs := #[.int .i64 0, .int .i64 0]) (t := 35) ?hr ?_; (case hd => rfl); (case hg => rfl); (case hr => first | (go_simp; done) | (go_simp; rfl))
                 intro gb148 hg w11 hbox hb
                 have n0_ := A0 (blk_below (g := gb138) (o := .cells #[.int .i64 a0_0, .int .i64 a0_1, .int .i64 a0_2, .int .i64 a0_3, .int .i64 a0_4, .bool a0_5] 30 (0, 0)) (by (with_reducible repeat (first | apply bN | apply bD | apply bA)); exact BK138.out) hb)
                 have n1_ := A0 (blk_below (g := gb139) (o := .cells #[.int .i64 a1_0, .int .i64 a1_1] 35 (0, 0)) (by (with_reducible repeat (first | apply bN | apply bD | apply bA)); exact BK139.out) hb)
                 have n2_ := A0 (blk_below (g := gb140) (o := .cells #[.int .i64 0, .int .i64 0] 35 (0, 0)) (by (with_reducible repeat (first | apply bN | apply bD | apply bA)); exact BK140.out) hb)
                 have n3_ := A0 (below_step (by repeat (first | (with_reducible first | exact HB.out | apply lA | apply lN | apply lD | refine lS ?_ GE138.out | refine lS ?_ GE139.out | refine lS ?_ GE140.out) | exact HB.out)) hb)
                 have n4_ := A0 (hbox)
                 have n5_ := A0 ((by rw [hg]; exact (below_size (by repeat (first | (with_reducible first | exact HB.out | apply lA | apply lN | apply lD | refine lS ?_ GE138.out | refine lS ?_ GE139.out | refine lS ?_ GE140.out) | exact HB.out))) : w.heap.size ≤ gb148))
                 have n6_ := n5_
                 have n7_ := A0 ((by rw [hg]; exact Nat.ne_of_lt (blk_lt (by (with_reducible repeat (first | apply bN | apply bD | apply bA)); exact BK138.out)) : gb138 ≠ gb148))
                 have n8_ := A0 n7_.out.symm
                 have n9_ := A0 ((by rw [hg]; exact Nat.ne_of_lt (blk_lt (by (with_reducible repeat (first | apply bN | apply bD | apply bA)); exact BK139.out)) : gb139 ≠ gb148))
                 have n10_ := A0 n9_.out.symm
                 have n11_ := A0 ((by rw [hg]; exact Nat.ne_of_lt (blk_lt (by (with_reducible repeat (first | apply bN | apply bD | apply bA)); exact BK140.out)) : gb140 ≠ gb148))
                 have n12_ := A0 n11_.out.symm
                 clear BK138
                 clear BK139
                 clear BK140
                 clear HB
                 have BK138 := n0_
                 have BK139 := n1_
                 have BK140 := n2_
                 have HB := n3_
                 have BK148 := n4_
                 have GW148 := n5_
                 have GE148 := n6_
                 have NB138_148 := n7_
                 have NB148_138 := n8_
                 have NB139_148 := n9_
                 have NB148_139 := n10_
                 have NB140_148 := n11_
                 have NB148_140 := n12_
                 clear n0_ n1_ n2_ n3_ n4_ n5_ n6_ n7_ n8_ n9_ n10_ n11_ n12_
                 clear hb hbox hg
                 refine hK.out _ _ ⟨(blk_cell BK138.out 0).trans rfl, (blk_cell BK138.out 1).trans rfl, (blk_cell BK138.out 2).trans rfl, (blk_cell BK138.out 3).trans rfl, (blk_cell BK138.out 4).trans rfl, (blk_cell BK138.out 5).trans rfl, (blk_cell BK139.out 0).trans rfl, (blk_cell BK139.out 1).trans rfl⟩ (fun hHeld => ?_)
                 clear hK K
                 refine norm_ (a' := ?_) ?_ ?_
                 rotate_left
                 ·show Act.put _ (some 10) _ = _
                  simp only [Act.put, List.setIfInBounds_toArray, List.set_cons_zero, List.set_cons_succ, i64_w, i32_w]
                  rfl
                 exact norm_ (by simp only [putAll, Act.put, List.setIfInBounds_toArray, List.set_cons_zero, List.set_cons_succ]; try rfl) (hJ12 (gb148) _ ⟨hHeld, (by (with_reducible repeat (first | apply bN | apply bD | apply bA)); exact BK138.out), (by (with_reducible repeat (first | apply bN | apply bD | apply bA)); exact BK139.out), (by (with_reducible repeat (first | apply bN | apply bD | apply bA)); exact BK140.out), (by (with_reducible repeat (first | apply bN | apply bD | apply bA)); exact BK148.out), GW148.out, GE148.out, NB138_148.out, NB148_138.out, NB139_148.out, NB148_139.out, NB140_148.out, NB148_140.out, (by repeat (first | (with_reducible first | exact HB.out | apply lA | apply lN | apply lD | refine lS ?_ GE138.out | refine lS ?_ GE139.out | refine lS ?_ GE140.out | refine lS ?_ GE148.out) | exact HB.out))⟩)
               ·skip
                rintro gb148 w12 ⟨hS_, h0_, h1_, h2_, h3_, h4_, h5_, h6_, h7_, h8_, h9_, h10_, h11_, h12_⟩
                have n0_ : Aside0 (w12.heap[gb138]? = some (.cells #[.int .i64 a0_0, .int .i64 a0_1, .int .i64 a0_2, .int .i64 a0_3, .int .i64 a0_4, .bool a0_5] 30 (0, 0))) := ⟨h0_⟩
                have n1_ : Aside0 (w12.heap[gb139]? = some (.cells #[.int .i64 a1_0, .int .i64 a1_1] 35 (0, 0))) := ⟨h1_⟩
                have n2_ : Aside0 (w12.heap[gb140]? = some (.cells #[.int .i64 0, .int .i64 0] 35 (0, 0))) := ⟨h2_⟩
                have n3_ : Aside0 (w12.heap[gb148]? = some (.cells #[.int .i64 0, .int .i64 0] 35 (0, 0))) := ⟨h3_⟩
                have n4_ : Aside0 (w.heap.size ≤ gb148) := ⟨h4_⟩
                have n5_ : Aside0 (w.heap.size ≤ gb148) := ⟨h5_⟩
                have n6_ : Aside0 (gb138 ≠ gb148) := ⟨h6_⟩
                have n7_ : Aside0 (gb148 ≠ gb138) := ⟨h7_⟩
                have n8_ : Aside0 (gb139 ≠ gb148) := ⟨h8_⟩
                have n9_ : Aside0 (gb148 ≠ gb139) := ⟨h9_⟩
                have n10_ : Aside0 (gb140 ≠ gb148) := ⟨h10_⟩
                have n11_ : Aside0 (gb148 ≠ gb140) := ⟨h11_⟩
                have n12_ : Aside0 (Below w.heap.size w w12) := ⟨h12_⟩
                clear BK138
                clear BK139
                clear BK140
                clear HB
                clear h0_ h1_ h2_ h3_ h4_ h5_ h6_ h7_ h8_ h9_ h10_ h11_ h12_
                have BK138 := n0_
                have BK139 := n1_
                have BK140 := n2_
                have BK148 := n3_
                have GW148 := n4_
                have GE148 := n5_
                have NB138_148 := n6_
                have NB148_138 := n7_
                have NB139_148 := n8_
                have NB148_139 := n9_
                have NB140_148 := n10_
                have NB148_140 := n11_
                have HB := n12_
                clear n0_ n1_ n2_ n3_ n4_ n5_ n6_ n7_ n8_ n9_ n10_ n11_ n12_
                have hHeld : w12.cell? ⟨gb138, 0, none⟩ = some (.int .i64 a0_0) ∧ w12.cell? ⟨gb138, 1, none⟩ = some (.int .i64 a0_1) ∧ w12.cell? ⟨gb138, 2, none⟩ = some (.int .i64 a0_2) ∧ w12.cell? ⟨gb138, 3, none⟩ = some (.int .i64 a0_3) ∧ w12.cell? ⟨gb138, 4, none⟩ = some (.int .i64 a0_4) ∧ w12.cell? ⟨gb138, 5, none⟩ = some (.bool a0_5) ∧ w12.cell? ⟨gb139, 0, none⟩ = some (.int .i64 a1_0) ∧ w12.cell? ⟨gb139, 1, none⟩ = some (.int .i64 a1_1) := hS_
                refine norm_ (a' := ?_) ?_ ?_
                rotate_left
                ·simp only [putAll, Act.put, List.setIfInBounds_toArray, List.set_cons_zero, List.set_cons_succ]
                 rfl
                refine two_ (i := 3) (j := 11) (Ni := some 17) (Nj := some 9) #[true, true, true, true, true, true, true, true, false, true, false, false, true, false, false] #[true, true, true, false, true, true, true, true, false, true, false, true, true, false, false] rfl rfl rfl rfl (two_of HT_.out (by kernel_rfl)) (by decide) (by decide) (fun K hK => ?_) (fun K hK => ?_)
                ·skip
                 refine goes_ Try.func16 (by kernel_rfl) rfl #[.agg #[.int .i64 a0_0, .int .i64 a0_1, .int .i64 a0_2, .int .i64 a0_3, .int .i64 a0_4, .bool a0_5], .agg #[.int .i64 a1_0, .int .i64 a1_1], .int .i64 a2] (by rfl) rfl rfl (by (try simp only [List.map_toArray, List.map_cons, List.map_nil]); first | done | rfl | (simp only [List.length_drop, List.length_take]; rfl)) ?_
                 with_reducible refine (spec_sdNext.calls k a0_0 a0_1 a0_2 a0_3 a0_4 a0_5 a1_0 a1_1 a2 t141 t142 _ A4.out).mono ?_
                 rintro e w13 ⟨rfl, hb⟩
                 refine ⟨_, rfl, ?_⟩
                 have n0_ := A0 (blk_below (g := gb138) (o := .cells #[.int .i64 a0_0, .int .i64 a0_1, .int .i64 a0_2, .int .i64 a0_3, .int .i64 a0_4, .bool a0_5] 30 (0, 0)) (by (with_reducible repeat (first | apply bN | apply bD | apply bA)); exact BK138.out) hb)
                 have n1_ := A0 (blk_below (g := gb139) (o := .cells #[.int .i64 a1_0, .int .i64 a1_1] 35 (0, 0)) (by (with_reducible repeat (first | apply bN | apply bD | apply bA)); exact BK139.out) hb)
                 have n2_ := A0 (blk_below (g := gb140) (o := .cells #[.int .i64 0, .int .i64 0] 35 (0, 0)) (by (with_reducible repeat (first | apply bN | apply bD | apply bA)); exact BK140.out) hb)
                 have n3_ := A0 (blk_below (g := gb148) (o := .cells #[.int .i64 0, .int .i64 0] 35 (0, 0)) (by (with_reducible repeat (first | apply bN | apply bD | apply bA)); exact BK148.out) hb)
                 have n4_ := A0 (below_step (by repeat (first | (with_reducible first | exact HB.out | apply lA | apply lN | apply lD | refine lS ?_ GE138.out | refine lS ?_ GE139.out | refine lS ?_ GE140.out | refine lS ?_ GE148.out) | exact HB.out)) hb)
                 clear BK138
                 clear BK139
                 clear BK140
                 clear BK148
                 clear HB
                 have BK138 := n0_
                 have BK139 := n1_
                 have BK140 := n2_
                 have BK148 := n3_
                 have HB := n4_
                 clear n0_ n1_ n2_ n3_ n4_
                 (try clear hb)
                 (try clear hb2)
                 (try clear hk)
                 (try clear hi)
                 refine hK.out _ _ ⟨(blk_cell BK138.out 0).trans rfl, (blk_cell BK138.out 1).trans rfl, (blk_cell BK138.out 2).trans rfl, (blk_cell BK138.out 3).trans rfl, (blk_cell BK138.out 4).trans rfl, (blk_cell BK138.out 5).trans rfl, (blk_cell BK139.out 0).trans rfl, (blk_cell BK139.out 1).trans rfl⟩ (fun hHeld => ?_)
                 clear hK K
                 refine norm_ (a' := ?_) ?_ ?_
                 rotate_left
                 ·show Act.put _ (some 17) _ = _
                  simp only [Act.put, List.setIfInBounds_toArray, List.set_cons_zero, List.set_cons_succ, i64_w, i32_w]
                  rfl
                 exact norm_ (by simp only [putAll, Act.put, List.setIfInBounds_toArray, List.set_cons_zero, List.set_cons_succ]; try rfl) (hJ3_12 (gb148) _ ⟨hHeld, (by (with_reducible repeat (first | apply bN | apply bD | apply bA)); exact BK138.out), (by (with_reducible repeat (first | apply bN | apply bD | apply bA)); exact BK139.out), (by (with_reducible repeat (first | apply bN | apply bD | apply bA)); exact BK140.out), (by (with_reducible repeat (first | apply bN | apply bD | apply bA)); exact BK148.out), GW148.out, GE148.out, NB138_148.out, NB148_138.out, NB139_148.out, NB148_139.out, NB140_148.out, NB148_140.out, (by repeat (first | (with_reducible first | exact HB.out | apply lA | apply lN | apply lD | refine lS ?_ GE138.out | refine lS ?_ GE139.out | refine lS ?_ GE140.out | refine lS ?_ GE148.out) | exact HB.out))⟩)
                ·skip
                 refine box_step ?hg (N := 9) ?hd (cs := #[.int .i64 0, .int .i64 0]) (t := 35) ?hr ?_; (case hd => rfl); (case hg => rfl); (case hr => first | (go_simp; done) | (go_simp; rfl))
                 intro gb147 hg w13 hbox hb
                 have n0_ := A0 (blk_below (g := gb138) (o := .cells #[.int .i64 a0_0, .int .i64 a0_1, .int .i64 a0_2, .int .i64 a0_3, .int .i64 a0_4, .bool a0_5] 30 (0, 0)) (by (with_reducible repeat (first | apply bN | apply bD | apply bA)); exact BK138.out) hb)
                 have n1_ := A0 (blk_below (g := gb139) (o := .cells #[.int .i64 a1_0, .int .i64 a1_1] 35 (0, 0)) (by (with_reducible repeat (first | apply bN | apply bD | apply bA)); exact BK139.out) hb)
                 have n2_ := A0 (blk_below (g := gb140) (o := .cells #[.int .i64 0, .int .i64 0] 35 (0, 0)) (by (with_reducible repeat (first | apply bN | apply bD | apply bA)); exact BK140.out) hb)
                 have n3_ := A0 (blk_below (g := gb148) (o := .cells #[.int .i64 0, .int .i64 0] 35 (0, 0)) (by (with_reducible repeat (first | apply bN | apply bD | apply bA)); exact BK148.out) hb)
                 have n4_ := A0 (below_step (by repeat (first | (with_reducible first | exact HB.out | apply lA | apply lN | apply lD | refine lS ?_ GE138.out | refine lS ?_ GE139.out | refine lS ?_ GE140.out | refine lS ?_ GE148.out) | exact HB.out)) hb)
                 have n5_ := A0 (hbox)
                 have n6_ := A0 ((by rw [hg]; exact (below_size (by repeat (first | (with_reducible first | exact HB.out | apply lA | apply lN | apply lD | refine lS ?_ GE138.out | refine lS ?_ GE139.out | refine lS ?_ GE140.out | refine lS ?_ GE148.out) | exact HB.out))) : w.heap.size ≤ gb147))
                 have n7_ := n6_
                 have n8_ := A0 ((by rw [hg]; exact Nat.ne_of_lt (blk_lt (by (with_reducible repeat (first | apply bN | apply bD | apply bA)); exact BK138.out)) : gb138 ≠ gb147))
                 have n9_ := A0 n8_.out.symm
                 have n10_ := A0 ((by rw [hg]; exact Nat.ne_of_lt (blk_lt (by (with_reducible repeat (first | apply bN | apply bD | apply bA)); exact BK139.out)) : gb139 ≠ gb147))
                 have n11_ := A0 n10_.out.symm
                 have n12_ := A0 ((by rw [hg]; exact Nat.ne_of_lt (blk_lt (by (with_reducible repeat (first | apply bN | apply bD | apply bA)); exact BK140.out)) : gb140 ≠ gb147))
                 have n13_ := A0 n12_.out.symm
                 have n14_ := A0 ((by rw [hg]; exact Nat.ne_of_lt (blk_lt (by (with_reducible repeat (first | apply bN | apply bD | apply bA)); exact BK148.out)) : gb148 ≠ gb147))
                 have n15_ := A0 n14_.out.symm
                 clear BK138
                 clear BK139
                 clear BK140
                 clear BK148
                 clear HB
                 have BK138 := n0_
                 have BK139 := n1_
                 have BK140 := n2_
                 have BK148 := n3_
                 have HB := n4_
                 have BK147 := n5_
                 have GW147 := n6_
                 have GE147 := n7_
                 have NB138_147 := n8_
                 have NB147_138 := n9_
                 have NB139_147 := n10_
                 have NB147_139 := n11_
                 have NB140_147 := n12_
                 have NB147_140 := n13_
                 have NB148_147 := n14_
                 have NB147_148 := n15_
                 clear n0_ n1_ n2_ n3_ n4_ n5_ n6_ n7_ n8_ n9_ n10_ n11_ n12_ n13_ n14_ n15_
                 clear hb hbox hg
                 refine hK.out _ _ ⟨(blk_cell BK138.out 0).trans rfl, (blk_cell BK138.out 1).trans rfl, (blk_cell BK138.out 2).trans rfl, (blk_cell BK138.out 3).trans rfl, (blk_cell BK138.out 4).trans rfl, (blk_cell BK138.out 5).trans rfl, (blk_cell BK139.out 0).trans rfl, (blk_cell BK139.out 1).trans rfl⟩ (fun hHeld => ?_)
                 clear hK K
                 refine norm_ (a' := ?_) ?_ ?_
                 rotate_left
                 ·show Act.put _ (some 9) _ = _
                  simp only [Act.put, List.setIfInBounds_toArray, List.set_cons_zero, List.set_cons_succ, i64_w, i32_w]
                  rfl
                 exact norm_ (by simp only [putAll, Act.put, List.setIfInBounds_toArray, List.set_cons_zero, List.set_cons_succ]; try rfl) (hJ11_12 (gb147, gb148) _ ⟨hHeld, (by (with_reducible repeat (first | apply bN | apply bD | apply bA)); exact BK138.out), (by (with_reducible repeat (first | apply bN | apply bD | apply bA)); exact BK139.out), (by (with_reducible repeat (first | apply bN | apply bD | apply bA)); exact BK140.out), (by (with_reducible repeat (first | apply bN | apply bD | apply bA)); exact BK147.out), (by (with_reducible repeat (first | apply bN | apply bD | apply bA)); exact BK148.out), GW147.out, GE147.out, NB138_147.out, NB147_138.out, NB139_147.out, NB147_139.out, NB140_147.out, NB147_140.out, NB148_147.out, NB147_148.out, GW148.out, GE148.out, NB138_148.out, NB148_138.out, NB139_148.out, NB148_139.out, NB140_148.out, NB148_140.out, (by repeat (first | (with_reducible first | exact HB.out | apply lA | apply lN | apply lD | refine lS ?_ GE138.out | refine lS ?_ GE139.out | refine lS ?_ GE140.out | refine lS ?_ GE148.out | refine lS ?_ GE147.out) | exact HB.out))⟩)
              ·skip
               rintro gb147 w12 ⟨hS_, h0_, h1_, h2_, h3_, h4_, h5_, h6_, h7_, h8_, h9_, h10_, h11_, h12_⟩
               have n0_ : Aside0 (w12.heap[gb138]? = some (.cells #[.int .i64 a0_0, .int .i64 a0_1, .int .i64 a0_2, .int .i64 a0_3, .int .i64 a0_4, .bool a0_5] 30 (0, 0))) := ⟨h0_⟩
               have n1_ : Aside0 (w12.heap[gb139]? = some (.cells #[.int .i64 a1_0, .int .i64 a1_1] 35 (0, 0))) := ⟨h1_⟩
               have n2_ : Aside0 (w12.heap[gb140]? = some (.cells #[.int .i64 0, .int .i64 0] 35 (0, 0))) := ⟨h2_⟩
               have n3_ : Aside0 (w12.heap[gb147]? = some (.cells #[.int .i64 0, .int .i64 0] 35 (0, 0))) := ⟨h3_⟩
               have n4_ : Aside0 (w.heap.size ≤ gb147) := ⟨h4_⟩
               have n5_ : Aside0 (w.heap.size ≤ gb147) := ⟨h5_⟩
               have n6_ : Aside0 (gb138 ≠ gb147) := ⟨h6_⟩
               have n7_ : Aside0 (gb147 ≠ gb138) := ⟨h7_⟩
               have n8_ : Aside0 (gb139 ≠ gb147) := ⟨h8_⟩
               have n9_ : Aside0 (gb147 ≠ gb139) := ⟨h9_⟩
               have n10_ : Aside0 (gb140 ≠ gb147) := ⟨h10_⟩
               have n11_ : Aside0 (gb147 ≠ gb140) := ⟨h11_⟩
               have n12_ : Aside0 (Below w.heap.size w w12) := ⟨h12_⟩
               clear BK138
               clear BK139
               clear BK140
               clear HB
               clear h0_ h1_ h2_ h3_ h4_ h5_ h6_ h7_ h8_ h9_ h10_ h11_ h12_
               have BK138 := n0_
               have BK139 := n1_
               have BK140 := n2_
               have BK147 := n3_
               have GW147 := n4_
               have GE147 := n5_
               have NB138_147 := n6_
               have NB147_138 := n7_
               have NB139_147 := n8_
               have NB147_139 := n9_
               have NB140_147 := n10_
               have NB147_140 := n11_
               have HB := n12_
               clear n0_ n1_ n2_ n3_ n4_ n5_ n6_ n7_ n8_ n9_ n10_ n11_ n12_
               have hHeld : w12.cell? ⟨gb138, 0, none⟩ = some (.int .i64 a0_0) ∧ w12.cell? ⟨gb138, 1, none⟩ = some (.int .i64 a0_1) ∧ w12.cell? ⟨gb138, 2, none⟩ = some (.int .i64 a0_2) ∧ w12.cell? ⟨gb138, 3, none⟩ = some (.int .i64 a0_3) ∧ w12.cell? ⟨gb138, 4, none⟩ = some (.int .i64 a0_4) ∧ w12.cell? ⟨gb138, 5, none⟩ = some (.bool a0_5) ∧ w12.cell? ⟨gb139, 0, none⟩ = some (.int .i64 a1_0) ∧ w12.cell? ⟨gb139, 1, none⟩ = some (.int .i64 a1_1) := hS_
               refine norm_ (a' := ?_) ?_ ?_
               rotate_left
               ·simp only [putAll, Act.put, List.setIfInBounds_toArray, List.set_cons_zero, List.set_cons_succ]
                rfl
               refine two_ (i := 3) (j := 12) (Ni := some 17) (Nj := some 10) #[true, true, true, true, true, true, true, true, false, true, false, true, false, false, false] #[true, true, true, false, true, true, true, true, false, true, false, true, true, false, false] rfl rfl rfl rfl (two_of HT_.out (by kernel_rfl)) (by decide) (by decide) (fun K hK => ?_) (fun K hK => ?_)
               ·skip
                refine goes_ Try.func16 (by kernel_rfl) rfl #[.agg #[.int .i64 a0_0, .int .i64 a0_1, .int .i64 a0_2, .int .i64 a0_3, .int .i64 a0_4, .bool a0_5], .agg #[.int .i64 a1_0, .int .i64 a1_1], .int .i64 a2] (by rfl) rfl rfl (by (try simp only [List.map_toArray, List.map_cons, List.map_nil]); first | done | rfl | (simp only [List.length_drop, List.length_take]; rfl)) ?_
                with_reducible refine (spec_sdNext.calls k a0_0 a0_1 a0_2 a0_3 a0_4 a0_5 a1_0 a1_1 a2 t141 t142 _ A4.out).mono ?_
                rintro e w13 ⟨rfl, hb⟩
                refine ⟨_, rfl, ?_⟩
                have n0_ := A0 (blk_below (g := gb138) (o := .cells #[.int .i64 a0_0, .int .i64 a0_1, .int .i64 a0_2, .int .i64 a0_3, .int .i64 a0_4, .bool a0_5] 30 (0, 0)) (by (with_reducible repeat (first | apply bN | apply bD | apply bA)); exact BK138.out) hb)
                have n1_ := A0 (blk_below (g := gb139) (o := .cells #[.int .i64 a1_0, .int .i64 a1_1] 35 (0, 0)) (by (with_reducible repeat (first | apply bN | apply bD | apply bA)); exact BK139.out) hb)
                have n2_ := A0 (blk_below (g := gb140) (o := .cells #[.int .i64 0, .int .i64 0] 35 (0, 0)) (by (with_reducible repeat (first | apply bN | apply bD | apply bA)); exact BK140.out) hb)
                have n3_ := A0 (blk_below (g := gb147) (o := .cells #[.int .i64 0, .int .i64 0] 35 (0, 0)) (by (with_reducible repeat (first | apply bN | apply bD | apply bA)); exact BK147.out) hb)
                have n4_ := A0 (below_step (by repeat (first | (with_reducible first | exact HB.out | apply lA | apply lN | apply lD | refine lS ?_ GE138.out | refine lS ?_ GE139.out | refine lS ?_ GE140.out | refine lS ?_ GE147.out) | exact HB.out)) hb)
                clear BK138
                clear BK139
                clear BK140
                clear BK147
                clear HB
                have BK138 := n0_
                have BK139 := n1_
                have BK140 := n2_
                have BK147 := n3_
                have HB := n4_
                clear n0_ n1_ n2_ n3_ n4_
                (try clear hb)
                (try clear hb2)
                (try clear hk)
                (try clear hi)
                refine hK.out _ _ ⟨(blk_cell BK138.out 0).trans rfl, (blk_cell BK138.out 1).trans rfl, (blk_cell BK138.out 2).trans rfl, (blk_cell BK138.out 3).trans rfl, (blk_cell BK138.out 4).trans rfl, (blk_cell BK138.out 5).trans rfl, (blk_cell BK139.out 0).trans rfl, (blk_cell BK139.out 1).trans rfl⟩ (fun hHeld => ?_)
                clear hK K
                refine norm_ (a' := ?_) ?_ ?_
                rotate_left
                ·show Act.put _ (some 17) _ = _
                 simp only [Act.put, List.setIfInBounds_toArray, List.set_cons_zero, List.set_cons_succ, i64_w, i32_w]
                 rfl
                exact norm_ (by simp only [putAll, Act.put, List.setIfInBounds_toArray, List.set_cons_zero, List.set_cons_succ]; try rfl) (hJ3_11 (gb147) _ ⟨hHeld, (by (with_reducible repeat (first | apply bN | apply bD | apply bA)); exact BK138.out), (by (with_reducible repeat (first | apply bN | apply bD | apply bA)); exact BK139.out), (by (with_reducible repeat (first | apply bN | apply bD | apply bA)); exact BK140.out), (by (with_reducible repeat (first | apply bN | apply bD | apply bA)); exact BK147.out), GW147.out, GE147.out, NB138_147.out, NB147_138.out, NB139_147.out, NB147_139.out, NB140_147.out, NB147_140.out, (by repeat (first | (with_reducible first | exact HB.out | apply lA | apply lN | apply lD | refine lS ?_ GE138.out | refine lS ?_ GE139.out | refine lS ?_ GE140.out | refine lS ?_ GE147.out) | exact HB.out))⟩)
               ·skip
                refine box_step ?hg (N := 10) ?hd (cs := #[.int .i64 0, .int .i64 0]) (t := 35) ?hr ?_; (case hd => rfl); (case hg => rfl); (case hr => first | (go_simp; done) | (go_simp; rfl))
                intro gb148 hg w13 hbox hb
                have n0_ := A0 (blk_below (g := gb138) (o := .cells #[.int .i64 a0_0, .int .i64 a0_1, .int .i64 a0_2, .int .i64 a0_3, .int .i64 a0_4, .bool a0_5] 30 (0, 0)) (by (with_reducible repeat (first | apply bN | apply bD | apply bA)); exact BK138.out) hb)
                have n1_ := A0 (blk_below (g := gb139) (o := .cells #[.int .i64 a1_0, .int .i64 a1_1] 35 (0, 0)) (by (with_reducible repeat (first | apply bN | apply bD | apply bA)); exact BK139.out) hb)
                have n2_ := A0 (blk_below (g := gb140) (o := .cells #[.int .i64 0, .int .i64 0] 35 (0, 0)) (by (with_reducible repeat (first | apply bN | apply bD | apply bA)); exact BK140.out) hb)
                have n3_ := A0 (blk_below (g := gb147) (o := .cells #[.int .i64 0, .int .i64 0] 35 (0, 0)) (by (with_reducible repeat (first | apply bN | apply bD | apply bA)); exact BK147.out) hb)
                have n4_ := A0 (below_step (by repeat (first | (with_reducible first | exact HB.out | apply lA | apply lN | apply lD | refine lS ?_ GE138.out | refine lS ?_ GE139.out | refine lS ?_ GE140.out | refine lS ?_ GE147.out) | exact HB.out)) hb)
                have n5_ := A0 (hbox)
                have n6_ := A0 ((by rw [hg]; exact (below_size (by repeat (first | (with_reducible first | exact HB.out | apply lA | apply lN | apply lD | refine lS ?_ GE138.out | refine lS ?_ GE139.out | refine lS ?_ GE140.out | refine lS ?_ GE147.out) | exact HB.out))) : w.heap.size ≤ gb148))
                have n7_ := n6_
                have n8_ := A0 ((by rw [hg]; exact Nat.ne_of_lt (blk_lt (by (with_reducible repeat (first | apply bN | apply bD | apply bA)); exact BK138.out)) : gb138 ≠ gb148))
                have n9_ := A0 n8_.out.symm
                have n10_ := A0 ((by rw [hg]; exact Nat.ne_of_lt (blk_lt (by (with_reducible repeat (first | apply bN | apply bD | apply bA)); exact BK139.out)) : gb139 ≠ gb148))
                have n11_ := A0 n10_.out.symm
                have n12_ := A0 ((by rw [hg]; exact Nat.ne_of_lt (blk_lt (by (with_reducible repeat (first | apply bN | apply bD | apply bA)); exact BK140.out)) : gb140 ≠ gb148))
                have n13_ := A0 n12_.out.symm
                have n14_ := A0 ((by rw [hg]; exact Nat.ne_of_lt (blk_lt (by (with_reducible repeat (first | apply bN | apply bD | apply bA)); exact BK147.out)) : gb147 ≠ gb148))
                have n15_ := A0 n14_.out.symm
                clear BK138
                clear BK139
                clear BK140
                clear BK147
                clear HB
                have BK138 := n0_
                have BK139 := n1_
                have BK140 := n2_
                have BK147 := n3_
                have HB := n4_
                have BK148 := n5_
                have GW148 := n6_
                have GE148 := n7_
                have NB138_148 := n8_
                have NB148_138 := n9_
                have NB139_148 := n10_
                have NB148_139 := n11_
                have NB140_148 := n12_
                have NB148_140 := n13_
                have NB147_148 := n14_
                have NB148_147 := n15_
                clear n0_ n1_ n2_ n3_ n4_ n5_ n6_ n7_ n8_ n9_ n10_ n11_ n12_ n13_ n14_ n15_
                clear hb hbox hg
                refine hK.out _ _ ⟨(blk_cell BK138.out 0).trans rfl, (blk_cell BK138.out 1).trans rfl, (blk_cell BK138.out 2).trans rfl, (blk_cell BK138.out 3).trans rfl, (blk_cell BK138.out 4).trans rfl, (blk_cell BK138.out 5).trans rfl, (blk_cell BK139.out 0).trans rfl, (blk_cell BK139.out 1).trans rfl⟩ (fun hHeld => ?_)
                clear hK K
                refine norm_ (a' := ?_) ?_ ?_
                rotate_left
                ·show Act.put _ (some 10) _ = _
                 simp only [Act.put, List.setIfInBounds_toArray, List.set_cons_zero, List.set_cons_succ, i64_w, i32_w]
                 rfl
                exact norm_ (by simp only [putAll, Act.put, List.setIfInBounds_toArray, List.set_cons_zero, List.set_cons_succ]; try rfl) (hJ11_12 (gb147, gb148) _ ⟨hHeld, (by (with_reducible repeat (first | apply bN | apply bD | apply bA)); exact BK138.out), (by (with_reducible repeat (first | apply bN | apply bD | apply bA)); exact BK139.out), (by (with_reducible repeat (first | apply bN | apply bD | apply bA)); exact BK140.out), (by (with_reducible repeat (first | apply bN | apply bD | apply bA)); exact BK147.out), (by (with_reducible repeat (first | apply bN | apply bD | apply bA)); exact BK148.out), GW147.out, GE147.out, NB138_147.out, NB147_138.out, NB139_147.out, NB147_139.out, NB140_147.out, NB147_140.out, NB148_147.out, NB147_148.out, GW148.out, GE148.out, NB138_148.out, NB148_138.out, NB139_148.out, NB148_139.out, NB140_148.out, NB148_140.out, (by repeat (first | (with_reducible first | exact HB.out | apply lA | apply lN | apply lD | refine lS ?_ GE138.out | refine lS ?_ GE139.out | refine lS ?_ GE140.out | refine lS ?_ GE147.out | refine lS ?_ GE148.out) | exact HB.out))⟩)
             ·skip
              rintro _ w12 ⟨hS_, h0_, h1_, h2_, h3_⟩
              have n0_ : Aside0 (w12.heap[gb138]? = some (.cells #[.int .i64 a0_0, .int .i64 a0_1, .int .i64 a0_2, .int .i64 a0_3, .int .i64 a0_4, .bool a0_5] 30 (0, 0))) := ⟨h0_⟩
              have n1_ : Aside0 (w12.heap[gb139]? = some (.cells #[.int .i64 a1_0, .int .i64 a1_1] 35 (0, 0))) := ⟨h1_⟩
              have n2_ : Aside0 (w12.heap[gb140]? = some (.cells #[.int .i64 0, .int .i64 0] 35 (0, 0))) := ⟨h2_⟩
              have n3_ : Aside0 (Below w.heap.size w w12) := ⟨h3_⟩
              clear BK138
              clear BK139
              clear BK140
              clear HB
              clear h0_ h1_ h2_ h3_
              have BK138 := n0_
              have BK139 := n1_
              have BK140 := n2_
              have HB := n3_
              clear n0_ n1_ n2_ n3_
              have hHeld : w12.cell? ⟨gb138, 0, none⟩ = some (.int .i64 a0_0) ∧ w12.cell? ⟨gb138, 1, none⟩ = some (.int .i64 a0_1) ∧ w12.cell? ⟨gb138, 2, none⟩ = some (.int .i64 a0_2) ∧ w12.cell? ⟨gb138, 3, none⟩ = some (.int .i64 a0_3) ∧ w12.cell? ⟨gb138, 4, none⟩ = some (.int .i64 a0_4) ∧ w12.cell? ⟨gb138, 5, none⟩ = some (.bool a0_5) ∧ w12.cell? ⟨gb139, 0, none⟩ = some (.int .i64 a1_0) ∧ w12.cell? ⟨gb139, 1, none⟩ = some (.int .i64 a1_1) := hS_
              refine norm_ (a' := ?_) ?_ ?_
              rotate_left
              ·simp only [putAll, Act.put, List.setIfInBounds_toArray, List.set_cons_zero, List.set_cons_succ]
               rfl
              refine three_ (i := 8) (j := 11) (k := 12) (Ni := some 22) (Nj := some 9) (Nk := some 10) #[true, true, true, true, true, true, true, true, true, true, false, false, false, false, false] #[true, true, true, true, true, true, true, true, false, true, false, true, false, false, false] #[true, true, true, true, true, true, true, true, false, true, false, false, true, false, false] rfl rfl rfl rfl rfl rfl (three_of HT_.out (by kernel_rfl)) (by decide) (by decide) (by decide) (fun K hK => ?_) (fun K hK => ?_) (fun K hK => ?_)
              ·skip
               refine goes_ Try.func16 (by kernel_rfl) rfl #[.agg #[.int .i64 a0_0, .int .i64 a0_1, .int .i64 a0_2, .int .i64 a0_3, .int .i64 a0_4, .bool a0_5], .agg #[.int .i64 a1_0, .int .i64 a1_1], .int .i64 a2] (by rfl) rfl rfl (by (try simp only [List.map_toArray, List.map_cons, List.map_nil]); first | done | rfl | (simp only [List.length_drop, List.length_take]; rfl)) ?_
               with_reducible refine (spec_sdNext.calls k a0_0 a0_1 a0_2 a0_3 a0_4 a0_5 a1_0 a1_1 a2 t143 t144 _ A5.out).mono ?_
               rintro e w13 ⟨rfl, hb⟩
               refine ⟨_, rfl, ?_⟩
               have n0_ := A0 (blk_below (g := gb138) (o := .cells #[.int .i64 a0_0, .int .i64 a0_1, .int .i64 a0_2, .int .i64 a0_3, .int .i64 a0_4, .bool a0_5] 30 (0, 0)) (by (with_reducible repeat (first | apply bN | apply bD | apply bA)); exact BK138.out) hb)
               have n1_ := A0 (blk_below (g := gb139) (o := .cells #[.int .i64 a1_0, .int .i64 a1_1] 35 (0, 0)) (by (with_reducible repeat (first | apply bN | apply bD | apply bA)); exact BK139.out) hb)
               have n2_ := A0 (blk_below (g := gb140) (o := .cells #[.int .i64 0, .int .i64 0] 35 (0, 0)) (by (with_reducible repeat (first | apply bN | apply bD | apply bA)); exact BK140.out) hb)
               have n3_ := A0 (below_step (by repeat (first | (with_reducible first | exact HB.out | apply lA | apply lN | apply lD | refine lS ?_ GE138.out | refine lS ?_ GE139.out | refine lS ?_ GE140.out) | exact HB.out)) hb)
               clear BK138
               clear BK139
               clear BK140
               clear HB
               have BK138 := n0_
               have BK139 := n1_
               have BK140 := n2_
               have HB := n3_
               clear n0_ n1_ n2_ n3_
               (try clear hb)
               (try clear hb2)
               (try clear hk)
               (try clear hi)
               refine hK.out _ _ ⟨(blk_cell BK138.out 0).trans rfl, (blk_cell BK138.out 1).trans rfl, (blk_cell BK138.out 2).trans rfl, (blk_cell BK138.out 3).trans rfl, (blk_cell BK138.out 4).trans rfl, (blk_cell BK138.out 5).trans rfl, (blk_cell BK139.out 0).trans rfl, (blk_cell BK139.out 1).trans rfl⟩ (fun hHeld => ?_)
               clear hK K
               refine norm_ (a' := ?_) ?_ ?_
               rotate_left
               ·show Act.put _ (some 22) _ = _
                simp only [Act.put, List.setIfInBounds_toArray, List.set_cons_zero, List.set_cons_succ, i64_w, i32_w]
                rfl
               exact norm_ (by simp only [putAll, Act.put, List.setIfInBounds_toArray, List.set_cons_zero, List.set_cons_succ]; try rfl) (hJ3_8 () _ ⟨hHeld, (by (with_reducible repeat (first | apply bN | apply bD | apply bA)); exact BK138.out), (by (with_reducible repeat (first | apply bN | apply bD | apply bA)); exact BK139.out), (by (with_reducible repeat (first | apply bN | apply bD | apply bA)); exact BK140.out), (by repeat (first | (with_reducible first | exact HB.out | apply lA | apply lN | apply lD | refine lS ?_ GE138.out | refine lS ?_ GE139.out | refine lS ?_ GE140.out) | exact HB.out))⟩)
              ·skip
               refine box_step ?hg (N := 9) ?hd (cs := #[.int .i64 0, .int .i64 0]) (t := 35) ?hr ?_; (case hd => rfl); (case hg => rfl); (case hr => first | (go_simp; done) | (go_simp; rfl))
               intro gb147 hg w13 hbox hb
               have n0_ := A0 (blk_below (g := gb138) (o := .cells #[.int .i64 a0_0, .int .i64 a0_1, .int .i64 a0_2, .int .i64 a0_3, .int .i64 a0_4, .bool a0_5] 30 (0, 0)) (by (with_reducible repeat (first | apply bN | apply bD | apply bA)); exact BK138.out) hb)
               have n1_ := A0 (blk_below (g := gb139) (o := .cells #[.int .i64 a1_0, .int .i64 a1_1] 35 (0, 0)) (by (with_reducible repeat (first | apply bN | apply bD | apply bA)); exact BK139.out) hb)
               have n2_ := A0 (blk_below (g := gb140) (o := .cells #[.int .i64 0, .int .i64 0] 35 (0, 0)) (by (with_reducible repeat (first | apply bN | apply bD | apply bA)); exact BK140.out) hb)
               have n3_ := A0 (below_step (by repeat (first | (with_reducible first | exact HB.out | apply lA | apply lN | apply lD | refine lS ?_ GE138.out | refine lS ?_ GE139.out | refine lS ?_ GE140.out) | exact HB.out)) hb)
               have n4_ := A0 (hbox)
               have n5_ := A0 ((by rw [hg]; exact (below_size (by repeat (first | (with_reducible first | exact HB.out | apply lA | apply lN | apply lD | refine lS ?_ GE138.out | refine lS ?_ GE139.out | refine lS ?_ GE140.out) | exact HB.out))) : w.heap.size ≤ gb147))
               have n6_ := n5_
               have n7_ := A0 ((by rw [hg]; exact Nat.ne_of_lt (blk_lt (by (with_reducible repeat (first | apply bN | apply bD | apply bA)); exact BK138.out)) : gb138 ≠ gb147))
               have n8_ := A0 n7_.out.symm
               have n9_ := A0 ((by rw [hg]; exact Nat.ne_of_lt (blk_lt (by (with_reducible repeat (first | apply bN | apply bD | apply bA)); exact BK139.out)) : gb139 ≠ gb147))
               have n10_ := A0 n9_.out.symm
               have n11_ := A0 ((by rw [hg]; exact Nat.ne_of_lt (blk_lt (by (with_reducible repeat (first | apply bN | apply bD | apply bA)); exact BK140.out)) : gb140 ≠ gb147))
               have n12_ := A0 n11_.out.symm
               clear BK138
               clear BK139
               clear BK140
               clear HB
               have BK138 := n0_
               have BK139 := n1_
               have BK140 := n2_
               have HB := n3_
               have BK147 := n4_
               have GW147 := n5_
               have GE147 := n6_
               have NB138_147 := n7_
               have NB147_138 := n8_
               have NB139_147 := n9_
               have NB147_139 := n10_
               have NB140_147 := n11_
               have NB147_140 := n12_
               clear n0_ n1_ n2_ n3_ n4_ n5_ n6_ n7_ n8_ n9_ n10_ n11_ n12_
               clear hb hbox hg
               refine hK.out _ _ ⟨(blk_cell BK138.out 0).trans rfl, (blk_cell BK138.out 1).trans rfl, (blk_cell BK138.out 2).trans rfl, (blk_cell BK138.out 3).trans rfl, (blk_cell BK138.out 4).trans rfl, (blk_cell BK138.out 5).trans rfl, (blk_cell BK139.out 0).trans rfl, (blk_cell BK139.out 1).trans rfl⟩ (fun hHeld => ?_)
               clear hK K
               refine norm_ (a' := ?_) ?_ ?_
               rotate_left
               ·show Act.put _ (some 9) _ = _
                simp only [Act.put, List.setIfInBounds_toArray, List.set_cons_zero, List.set_cons_succ, i64_w, i32_w]
                rfl
               exact norm_ (by simp only [putAll, Act.put, List.setIfInBounds_toArray, List.set_cons_zero, List.set_cons_succ]; try rfl) (hJ3_11 (gb147) _ ⟨hHeld, (by (with_reducible repeat (first | apply bN | apply bD | apply bA)); exact BK138.out), (by (with_reducible repeat (first | apply bN | apply bD | apply bA)); exact BK139.out), (by (with_reducible repeat (first | apply bN | apply bD | apply bA)); exact BK140.out), (by (with_reducible repeat (first | apply bN | apply bD | apply bA)); exact BK147.out), GW147.out, GE147.out, NB138_147.out, NB147_138.out, NB139_147.out, NB147_139.out, NB140_147.out, NB147_140.out, (by repeat (first | (with_reducible first | exact HB.out | apply lA | apply lN | apply lD | refine lS ?_ GE138.out | refine lS ?_ GE139.out | refine lS ?_ GE140.out | refine lS ?_ GE147.out) | exact HB.out))⟩)
              ·skip
               refine box_step ?hg (N := 10) ?hd (cs := #[.int .i64 0, .int .i64 0]) (t := 35) ?hr ?_; (case hd => rfl); (case hg => rfl); (case hr => first | (go_simp; done) | (go_simp; rfl))
               intro gb148 hg w13 hbox hb
               have n0_ := A0 (blk_below (g := gb138) (o := .cells #[.int .i64 a0_0, .int .i64 a0_1, .int .i64 a0_2, .int .i64 a0_3, .int .i64 a0_4, .bool a0_5] 30 (0, 0)) (by (with_reducible repeat (first | apply bN | apply bD | apply bA)); exact BK138.out) hb)
               have n1_ := A0 (blk_below (g := gb139) (o := .cells #[.int .i64 a1_0, .int .i64 a1_1] 35 (0, 0)) (by (with_reducible repeat (first | apply bN | apply bD | apply bA)); exact BK139.out) hb)
               have n2_ := A0 (blk_below (g := gb140) (o := .cells #[.int .i64 0, .int .i64 0] 35 (0, 0)) (by (with_reducible repeat (first | apply bN | apply bD | apply bA)); exact BK140.out) hb)
               have n3_ := A0 (below_step (by repeat (first | (with_reducible first | exact HB.out | apply lA | apply lN | apply lD | refine lS ?_ GE138.out | refine lS ?_ GE139.out | refine lS ?_ GE140.out) | exact HB.out)) hb)
               have n4_ := A0 (hbox)
               have n5_ := A0 ((by rw [hg]; exact (below_size (by repeat (first | (with_reducible first | exact HB.out | apply lA | apply lN | apply lD | refine lS ?_ GE138.out | refine lS ?_ GE139.out | refine lS ?_ GE140.out) | exact HB.out))) : w.heap.size ≤ gb148))
               have n6_ := n5_
               have n7_ := A0 ((by rw [hg]; exact Nat.ne_of_lt (blk_lt (by (with_reducible repeat (first | apply bN | apply bD | apply bA)); exact BK138.out)) : gb138 ≠ gb148))
               have n8_ := A0 n7_.out.symm
               have n9_ := A0 ((by rw [hg]; exact Nat.ne_of_lt (blk_lt (by (with_reducible repeat (first | apply bN | apply bD | apply bA)); exact BK139.out)) : gb139 ≠ gb148))
               have n10_ := A0 n9_.out.symm
               have n11_ := A0 ((by rw [hg]; exact Nat.ne_of_lt (blk_lt (by (with_reducible repeat (first | apply bN | apply bD | apply bA)); exact BK140.out)) : gb140 ≠ gb148))
               have n12_ := A0 n11_.out.symm
               clear BK138
               clear BK139
               clear BK140
               clear HB
               have BK138 := n0_
               have BK139 := n1_
               have BK140 := n2_
               have HB := n3_
               have BK148 := n4_
               have GW148 := n5_
               have GE148 := n6_
               have NB138_148 := n7_
               have NB148_138 := n8_
               have NB139_148 := n9_
               have NB148_139 := n10_
               have NB140_148 := n11_
               have NB148_140 := n12_
               clear n0_ n1_ n2_ n3_ n4_ n5_ n6_ n7_ n8_ n9_ n10_ n11_ n12_
               clear hb hbox hg
               refine hK.out _ _ ⟨(blk_cell BK138.out 0).trans rfl, (blk_cell BK138.out 1).trans rfl, (blk_cell BK138.out 2).trans rfl, (blk_cell BK138.out 3).trans rfl, (blk_cell BK138.out 4).trans rfl, (blk_cell BK138.out 5).trans rfl, (blk_cell BK139.out 0).trans rfl, (blk_cell BK139.out 1).trans rfl⟩ (fun hHeld => ?_)
               clear hK K
               refine norm_ (a' := ?_) ?_ ?_
               rotate_left
               ·show Act.put _ (some 10) _ = _
                simp only [Act.put, List.setIfInBounds_toArray, List.set_cons_zero, List.set_cons_succ, i64_w, i32_w]
                rfl
               exact norm_ (by simp only [putAll, Act.put, List.setIfInBounds_toArray, List.set_cons_zero, List.set_cons_succ]; try rfl) (hJ3_12 (gb148) _ ⟨hHeld, (by (with_reducible repeat (first | apply bN | apply bD | apply bA)); exact BK138.out), (by (with_reducible repeat (first | apply bN | apply bD | apply bA)); exact BK139.out), (by (with_reducible repeat (first | apply bN | apply bD | apply bA)); exact BK140.out), (by (with_reducible repeat (first | apply bN | apply bD | apply bA)); exact BK148.out), GW148.out, GE148.out, NB138_148.out, NB148_138.out, NB139_148.out, NB148_139.out, NB140_148.out, NB148_140.out, (by repeat (first | (with_reducible first | exact HB.out | apply lA | apply lN | apply lD | refine lS ?_ GE138.out | refine lS ?_ GE139.out | refine lS ?_ GE140.out | refine lS ?_ GE148.out) | exact HB.out))⟩)
            ·skip
             rintro ⟨gb147, gb148⟩ w13 ⟨hS_, h0_, h1_, h2_, h3_, h4_, h5_, h6_, h7_, h8_, h9_, h10_, h11_, h12_, h13_, h14_, h15_, h16_, h17_, h18_, h19_, h20_, h21_, h22_, h23_⟩
             have n0_ : Aside0 (w13.heap[gb138]? = some (.cells #[.int .i64 a0_0, .int .i64 a0_1, .int .i64 a0_2, .int .i64 a0_3, .int .i64 a0_4, .bool a0_5] 30 (0, 0))) := ⟨h0_⟩
             have n1_ : Aside0 (w13.heap[gb139]? = some (.cells #[.int .i64 a1_0, .int .i64 a1_1] 35 (0, 0))) := ⟨h1_⟩
             have n2_ : Aside0 (w13.heap[gb140]? = some (.cells #[.int .i64 0, .int .i64 0] 35 (0, 0))) := ⟨h2_⟩
             have n3_ : Aside0 (w13.heap[gb147]? = some (.cells #[.int .i64 0, .int .i64 0] 35 (0, 0))) := ⟨h3_⟩
             have n4_ : Aside0 (w13.heap[gb148]? = some (.cells #[.int .i64 0, .int .i64 0] 35 (0, 0))) := ⟨h4_⟩
             have n5_ : Aside0 (w.heap.size ≤ gb147) := ⟨h5_⟩
             have n6_ : Aside0 (w.heap.size ≤ gb147) := ⟨h6_⟩
             have n7_ : Aside0 (gb138 ≠ gb147) := ⟨h7_⟩
             have n8_ : Aside0 (gb147 ≠ gb138) := ⟨h8_⟩
             have n9_ : Aside0 (gb139 ≠ gb147) := ⟨h9_⟩
             have n10_ : Aside0 (gb147 ≠ gb139) := ⟨h10_⟩
             have n11_ : Aside0 (gb140 ≠ gb147) := ⟨h11_⟩
             have n12_ : Aside0 (gb147 ≠ gb140) := ⟨h12_⟩
             have n13_ : Aside0 (gb148 ≠ gb147) := ⟨h13_⟩
             have n14_ : Aside0 (gb147 ≠ gb148) := ⟨h14_⟩
             have n15_ : Aside0 (w.heap.size ≤ gb148) := ⟨h15_⟩
             have n16_ : Aside0 (w.heap.size ≤ gb148) := ⟨h16_⟩
             have n17_ : Aside0 (gb138 ≠ gb148) := ⟨h17_⟩
             have n18_ : Aside0 (gb148 ≠ gb138) := ⟨h18_⟩
             have n19_ : Aside0 (gb139 ≠ gb148) := ⟨h19_⟩
             have n20_ : Aside0 (gb148 ≠ gb139) := ⟨h20_⟩
             have n21_ : Aside0 (gb140 ≠ gb148) := ⟨h21_⟩
             have n22_ : Aside0 (gb148 ≠ gb140) := ⟨h22_⟩
             have n23_ : Aside0 (Below w.heap.size w w13) := ⟨h23_⟩
             clear BK138
             clear BK139
             clear BK140
             clear HB
             clear h0_ h1_ h2_ h3_ h4_ h5_ h6_ h7_ h8_ h9_ h10_ h11_ h12_ h13_ h14_ h15_ h16_ h17_ h18_ h19_ h20_ h21_ h22_ h23_
             have BK138 := n0_
             have BK139 := n1_
             have BK140 := n2_
             have BK147 := n3_
             have BK148 := n4_
             have GW147 := n5_
             have GE147 := n6_
             have NB138_147 := n7_
             have NB147_138 := n8_
             have NB139_147 := n9_
             have NB147_139 := n10_
             have NB140_147 := n11_
             have NB147_140 := n12_
             have NB148_147 := n13_
             have NB147_148 := n14_
             have GW148 := n15_
             have GE148 := n16_
             have NB138_148 := n17_
             have NB148_138 := n18_
             have NB139_148 := n19_
             have NB148_139 := n20_
             have NB140_148 := n21_
             have NB148_140 := n22_
             have HB := n23_
             clear n0_ n1_ n2_ n3_ n4_ n5_ n6_ n7_ n8_ n9_ n10_ n11_ n12_ n13_ n14_ n15_ n16_ n17_ n18_ n19_ n20_ n21_ n22_ n23_
             have hHeld : w13.cell? ⟨gb138, 0, none⟩ = some (.int .i64 a0_0) ∧ w13.cell? ⟨gb138, 1, none⟩ = some (.int .i64 a0_1) ∧ w13.cell? ⟨gb138, 2, none⟩ = some (.int .i64 a0_2) ∧ w13.cell? ⟨gb138, 3, none⟩ = some (.int .i64 a0_3) ∧ w13.cell? ⟨gb138, 4, none⟩ = some (.int .i64 a0_4) ∧ w13.cell? ⟨gb138, 5, none⟩ = some (.bool a0_5) ∧ w13.cell? ⟨gb139, 0, none⟩ = some (.int .i64 a1_0) ∧ w13.cell? ⟨gb139, 1, none⟩ = some (.int .i64 a1_1) := hS_
             refine norm_ (a' := ?_) ?_ ?_
             rotate_left
             ·simp only [putAll, Act.put, List.setIfInBounds_toArray, List.set_cons_zero, List.set_cons_succ]
              rfl
             refine one_ (i := 3) (N := some 17) #[true, true, true, true, true, true, true, true, false, true, false, true, true, false, false] rfl rfl (one_of HT_.out (by kernel_rfl)) (by decide) (fun K hK => ?_)
             refine goes_ Try.func16 (by kernel_rfl) rfl #[.agg #[.int .i64 a0_0, .int .i64 a0_1, .int .i64 a0_2, .int .i64 a0_3, .int .i64 a0_4, .bool a0_5], .agg #[.int .i64 a1_0, .int .i64 a1_1], .int .i64 a2] (by rfl) rfl rfl (by (try simp only [List.map_toArray, List.map_cons, List.map_nil]); first | done | rfl | (simp only [List.length_drop, List.length_take]; rfl)) ?_
             with_reducible refine (spec_sdNext.calls k a0_0 a0_1 a0_2 a0_3 a0_4 a0_5 a1_0 a1_1 a2 t141 t142 _ A4.out).mono ?_
             rintro e w14 ⟨rfl, hb⟩
             refine ⟨_, rfl, ?_⟩
             have n0_ := A0 (blk_below (g := gb138) (o := .cells #[.int .i64 a0_0, .int .i64 a0_1, .int .i64 a0_2, .int .i64 a0_3, .int .i64 a0_4, .bool a0_5] 30 (0, 0)) (by (with_reducible repeat (first | apply bN | apply bD | apply bA)); exact BK138.out) hb)
             have n1_ := A0 (blk_below (g := gb139) (o := .cells #[.int .i64 a1_0, .int .i64 a1_1] 35 (0, 0)) (by (with_reducible repeat (first | apply bN | apply bD | apply bA)); exact BK139.out) hb)
             have n2_ := A0 (blk_below (g := gb140) (o := .cells #[.int .i64 0, .int .i64 0] 35 (0, 0)) (by (with_reducible repeat (first | apply bN | apply bD | apply bA)); exact BK140.out) hb)
             have n3_ := A0 (blk_below (g := gb147) (o := .cells #[.int .i64 0, .int .i64 0] 35 (0, 0)) (by (with_reducible repeat (first | apply bN | apply bD | apply bA)); exact BK147.out) hb)
             have n4_ := A0 (blk_below (g := gb148) (o := .cells #[.int .i64 0, .int .i64 0] 35 (0, 0)) (by (with_reducible repeat (first | apply bN | apply bD | apply bA)); exact BK148.out) hb)
             have n5_ := A0 (below_step (by repeat (first | (with_reducible first | exact HB.out | apply lA | apply lN | apply lD | refine lS ?_ GE138.out | refine lS ?_ GE139.out | refine lS ?_ GE140.out | refine lS ?_ GE147.out | refine lS ?_ GE148.out) | exact HB.out)) hb)
             clear BK138
             clear BK139
             clear BK140
             clear BK147
             clear BK148
             clear HB
             have BK138 := n0_
             have BK139 := n1_
             have BK140 := n2_
             have BK147 := n3_
             have BK148 := n4_
             have HB := n5_
             clear n0_ n1_ n2_ n3_ n4_ n5_
             (try clear hb)
             (try clear hb2)
             (try clear hk)
             (try clear hi)
             refine hK.out _ _ ⟨(blk_cell BK138.out 0).trans rfl, (blk_cell BK138.out 1).trans rfl, (blk_cell BK138.out 2).trans rfl, (blk_cell BK138.out 3).trans rfl, (blk_cell BK138.out 4).trans rfl, (blk_cell BK138.out 5).trans rfl, (blk_cell BK139.out 0).trans rfl, (blk_cell BK139.out 1).trans rfl⟩ (fun hHeld => ?_)
             clear hK K
             refine norm_ (a' := ?_) ?_ ?_
             rotate_left
             ·show Act.put _ (some 17) _ = _
              simp only [Act.put, List.setIfInBounds_toArray, List.set_cons_zero, List.set_cons_succ, i64_w, i32_w]
              rfl
             exact norm_ (by simp only [putAll, Act.put, List.setIfInBounds_toArray, List.set_cons_zero, List.set_cons_succ]; try rfl) (hJ3_11_12 (gb147, gb148) _ ⟨hHeld, (by (with_reducible repeat (first | apply bN | apply bD | apply bA)); exact BK138.out), (by (with_reducible repeat (first | apply bN | apply bD | apply bA)); exact BK139.out), (by (with_reducible repeat (first | apply bN | apply bD | apply bA)); exact BK140.out), (by (with_reducible repeat (first | apply bN | apply bD | apply bA)); exact BK147.out), (by (with_reducible repeat (first | apply bN | apply bD | apply bA)); exact BK148.out), GW147.out, GE147.out, NB138_147.out, NB147_138.out, NB139_147.out, NB147_139.out, NB140_147.out, NB147_140.out, NB148_147.out, NB147_148.out, GW148.out, GE148.out, NB138_148.out, NB148_138.out, NB139_148.out, NB148_139.out, NB140_148.out, NB148_140.out, (by repeat (first | (with_reducible first | exact HB.out | apply lA | apply lN | apply lD | refine lS ?_ GE138.out | refine lS ?_ GE139.out | refine lS ?_ GE140.out | refine lS ?_ GE147.out | refine lS ?_ GE148.out) | exact HB.out))⟩)
           ·skip
            rintro gb148 w13 ⟨hS_, h0_, h1_, h2_, h3_, h4_, h5_, h6_, h7_, h8_, h9_, h10_, h11_, h12_⟩
            have n0_ : Aside0 (w13.heap[gb138]? = some (.cells #[.int .i64 a0_0, .int .i64 a0_1, .int .i64 a0_2, .int .i64 a0_3, .int .i64 a0_4, .bool a0_5] 30 (0, 0))) := ⟨h0_⟩
            have n1_ : Aside0 (w13.heap[gb139]? = some (.cells #[.int .i64 a1_0, .int .i64 a1_1] 35 (0, 0))) := ⟨h1_⟩
            have n2_ : Aside0 (w13.heap[gb140]? = some (.cells #[.int .i64 0, .int .i64 0] 35 (0, 0))) := ⟨h2_⟩
            have n3_ : Aside0 (w13.heap[gb148]? = some (.cells #[.int .i64 0, .int .i64 0] 35 (0, 0))) := ⟨h3_⟩
            have n4_ : Aside0 (w.heap.size ≤ gb148) := ⟨h4_⟩
            have n5_ : Aside0 (w.heap.size ≤ gb148) := ⟨h5_⟩
            have n6_ : Aside0 (gb138 ≠ gb148) := ⟨h6_⟩
            have n7_ : Aside0 (gb148 ≠ gb138) := ⟨h7_⟩
            have n8_ : Aside0 (gb139 ≠ gb148) := ⟨h8_⟩
            have n9_ : Aside0 (gb148 ≠ gb139) := ⟨h9_⟩
            have n10_ : Aside0 (gb140 ≠ gb148) := ⟨h10_⟩
            have n11_ : Aside0 (gb148 ≠ gb140) := ⟨h11_⟩
            have n12_ : Aside0 (Below w.heap.size w w13) := ⟨h12_⟩
            clear BK138
            clear BK139
            clear BK140
            clear HB
            clear h0_ h1_ h2_ h3_ h4_ h5_ h6_ h7_ h8_ h9_ h10_ h11_ h12_
            have BK138 := n0_
            have BK139 := n1_
            have BK140 := n2_
            have BK148 := n3_
            have GW148 := n4_
            have GE148 := n5_
            have NB138_148 := n6_
            have NB148_138 := n7_
            have NB139_148 := n8_
            have NB148_139 := n9_
            have NB140_148 := n10_
            have NB148_140 := n11_
            have HB := n12_
            clear n0_ n1_ n2_ n3_ n4_ n5_ n6_ n7_ n8_ n9_ n10_ n11_ n12_
            have hHeld : w13.cell? ⟨gb138, 0, none⟩ = some (.int .i64 a0_0) ∧ w13.cell? ⟨gb138, 1, none⟩ = some (.int .i64 a0_1) ∧ w13.cell? ⟨gb138, 2, none⟩ = some (.int .i64 a0_2) ∧ w13.cell? ⟨gb138, 3, none⟩ = some (.int .i64 a0_3) ∧ w13.cell? ⟨gb138, 4, none⟩ = some (.int .i64 a0_4) ∧ w13.cell? ⟨gb138, 5, none⟩ = some (.bool a0_5) ∧ w13.cell? ⟨gb139, 0, none⟩ = some (.int .i64 a1_0) ∧ w13.cell? ⟨gb139, 1, none⟩ = some (.int .i64 a1_1) := hS_
            refine norm_ (a' := ?_) ?_ ?_
            rotate_left
            ·simp only [putAll, Act.put, List.setIfInBounds_toArray, List.set_cons_zero, List.set_cons_succ]
             rfl
            refine two_ (i := 8) (j := 11) (Ni := some 22) (Nj := some 9) #[true, true, true, true, true, true, true, true, true, true, false, false, true, false, false] #[true, true, true, true, true, true, true, true, false, true, false, true, true, false, false] rfl rfl rfl rfl (two_of HT_.out (by kernel_rfl)) (by decide) (by decide) (fun K hK => ?_) (fun K hK => ?_)
            ·skip
             refine goes_ Try.func16 (by kernel_rfl) rfl #[.agg #[.int .i64 a0_0, .int .i64 a0_1, .int .i64 a0_2, .int .i64 a0_3, .int .i64 a0_4, .bool a0_5], .agg #[.int .i64 a1_0, .int .i64 a1_1], .int .i64 a2] (by rfl) rfl rfl (by (try simp only [List.map_toArray, List.map_cons, List.map_nil]); first | done | rfl | (simp only [List.length_drop, List.length_take]; rfl)) ?_
             with_reducible refine (spec_sdNext.calls k a0_0 a0_1 a0_2 a0_3 a0_4 a0_5 a1_0 a1_1 a2 t143 t144 _ A5.out).mono ?_
             rintro e w14 ⟨rfl, hb⟩
             refine ⟨_, rfl, ?_⟩
             have n0_ := A0 (blk_below (g := gb138) (o := .cells #[.int .i64 a0_0, .int .i64 a0_1, .int .i64 a0_2, .int .i64 a0_3, .int .i64 a0_4, .bool a0_5] 30 (0, 0)) (by (with_reducible repeat (first | apply bN | apply bD | apply bA)); exact BK138.out) hb)
             have n1_ := A0 (blk_below (g := gb139) (o := .cells #[.int .i64 a1_0, .int .i64 a1_1] 35 (0, 0)) (by (with_reducible repeat (first | apply bN | apply bD | apply bA)); exact BK139.out) hb)
             have n2_ := A0 (blk_below (g := gb140) (o := .cells #[.int .i64 0, .int .i64 0] 35 (0, 0)) (by (with_reducible repeat (first | apply bN | apply bD | apply bA)); exact BK140.out) hb)
             have n3_ := A0 (blk_below (g := gb148) (o := .cells #[.int .i64 0, .int .i64 0] 35 (0, 0)) (by (with_reducible repeat (first | apply bN | apply bD | apply bA)); exact BK148.out) hb)
             have n4_ := A0 (below_step (by repeat (first | (with_reducible first | exact HB.out | apply lA | apply lN | apply lD | refine lS ?_ GE138.out | refine lS ?_ GE139.out | refine lS ?_ GE140.out | refine lS ?_ GE148.out) | exact HB.out)) hb)
             clear BK138
             clear BK139
             clear BK140
             clear BK148
             clear HB
             have BK138 := n0_
             have BK139 := n1_
             have BK140 := n2_
             have BK148 := n3_
             have HB := n4_
             clear n0_ n1_ n2_ n3_ n4_
             (try clear hb)
             (try clear hb2)
             (try clear hk)
             (try clear hi)
             refine hK.out _ _ ⟨(blk_cell BK138.out 0).trans rfl, (blk_cell BK138.out 1).trans rfl, (blk_cell BK138.out 2).trans rfl, (blk_cell BK138.out 3).trans rfl, (blk_cell BK138.out 4).trans rfl, (blk_cell BK138.out 5).trans rfl, (blk_cell BK139.out 0).trans rfl, (blk_cell BK139.out 1).trans rfl⟩ (fun hHeld => ?_)
             clear hK K
             refine norm_ (a' := ?_) ?_ ?_
             rotate_left
             ·show Act.put _ (some 22) _ = _
              simp only [Act.put, List.setIfInBounds_toArray, List.set_cons_zero, List.set_cons_succ, i64_w, i32_w]
              rfl
             exact norm_ (by simp only [putAll, Act.put, List.setIfInBounds_toArray, List.set_cons_zero, List.set_cons_succ]; try rfl) (hJ3_8_12 (gb148) _ ⟨hHeld, (by (with_reducible repeat (first | apply bN | apply bD | apply bA)); exact BK138.out), (by (with_reducible repeat (first | apply bN | apply bD | apply bA)); exact BK139.out), (by (with_reducible repeat (first | apply bN | apply bD | apply bA)); exact BK140.out), (by (with_reducible repeat (first | apply bN | apply bD | apply bA)); exact BK148.out), GW148.out, GE148.out, NB138_148.out, NB148_138.out, NB139_148.out, NB148_139.out, NB140_148.out, NB148_140.out, (by repeat (first | (with_reducible first | exact HB.out | apply lA | apply lN | apply lD | refine lS ?_ GE138.out | refine lS ?_ GE139.out | refine lS ?_ GE140.out | refine lS ?_ GE148.out) | exact HB.out))⟩)
            ·skip
             refine box_step ?hg (N := 9) ?hd (cs := #[.int .i64 0, .int .i64 0]) (t := 35) ?hr ?_; (case hd => rfl); (case hg => rfl); (case hr => first | (go_simp; done) | (go_simp; rfl))
             intro gb147 hg w14 hbox hb
             have n0_ := A0 (blk_below (g := gb138) (o := .cells #[.int .i64 a0_0, .int .i64 a0_1, .int .i64 a0_2, .int .i64 a0_3, .int .i64 a0_4, .bool a0_5] 30 (0, 0)) (by (with_reducible repeat (first | apply bN | apply bD | apply bA)); exact BK138.out) hb)
             have n1_ := A0 (blk_below (g := gb139) (o := .cells #[.int .i64 a1_0, .int .i64 a1_1] 35 (0, 0)) (by (with_reducible repeat (first | apply bN | apply bD | apply bA)); exact BK139.out) hb)
             have n2_ := A0 (blk_below (g := gb140) (o := .cells #[.int .i64 0, .int .i64 0] 35 (0, 0)) (by (with_reducible repeat (first | apply bN | apply bD | apply bA)); exact BK140.out) hb)
             have n3_ := A0 (blk_below (g := gb148) (o := .cells #[.int .i64 0, .int .i64 0] 35 (0, 0)) (by (with_reducible repeat (first | apply bN | apply bD | apply bA)); exact BK148.out) hb)
             have n4_ := A0 (below_step (by repeat (first | (with_reducible first | exact HB.out | apply lA | apply lN | apply lD | refine lS ?_ GE138.out | refine lS ?_ GE139.out | refine lS ?_ GE140.out | refine lS ?_ GE148.out) | exact HB.out)) hb)
             have n5_ := A0 (hbox)
             have n6_ := A0 ((by rw [hg]; exact (below_size (by repeat (first | (with_reducible first | exact HB.out | apply lA | apply lN | apply lD | refine lS ?_ GE138.out | refine lS ?_ GE139.out | refine lS ?_ GE140.out | refine lS ?_ GE148.out) | exact HB.out))) : w.heap.size ≤ gb147))
             have n7_ := n6_
             have n8_ := A0 ((by rw [hg]; exact Nat.ne_of_lt (blk_lt (by (with_reducible repeat (first | apply bN | apply bD | apply bA)); exact BK138.out)) : gb138 ≠ gb147))
             have n9_ := A0 n8_.out.symm
             have n10_ := A0 ((by rw [hg]; exact Nat.ne_of_lt (blk_lt (by (with_reducible repeat (first | apply bN | apply bD | apply bA)); exact BK139.out)) : gb139 ≠ gb147))
             have n11_ := A0 n10_.out.symm
             have n12_ := A0 ((by rw [hg]; exact Nat.ne_of_lt (blk_lt (by (with_reducible repeat (first | apply bN | apply bD | apply bA)); exact BK140.out)) : gb140 ≠ gb147))
             have n13_ := A0 n12_.out.symm
             have n14_ := A0 ((by rw [hg]; exact Nat.ne_of_lt (blk_lt (by (with_reducible repeat (first | apply bN | apply bD | apply bA)); exact BK148.out)) : gb148 ≠ gb147))
             have n15_ := A0 n14_.out.symm
             clear BK138
             clear BK139
             clear BK140
             clear BK148
             clear HB
             have BK138 := n0_
             have BK139 := n1_
             have BK140 := n2_
             have BK148 := n3_
             have HB := n4_
             have BK147 := n5_
             have GW147 := n6_
             have GE147 := n7_
             have NB138_147 := n8_
             have NB147_138 := n9_
             have NB139_147 := n10_
             have NB147_139 := n11_
             have NB140_147 := n12_
             have NB147_140 := n13_
             have NB148_147 := n14_
             have NB147_148 := n15_
             clear n0_ n1_ n2_ n3_ n4_ n5_ n6_ n7_ n8_ n9_ n10_ n11_ n12_ n13_ n14_ n15_
             clear hb hbox hg
             refine hK.out _ _ ⟨(blk_cell BK138.out 0).trans rfl, (blk_cell BK138.out 1).trans rfl, (blk_cell BK138.out 2).trans rfl, (blk_cell BK138.out 3).trans rfl, (blk_cell BK138.out 4).trans rfl, (blk_cell BK138.out 5).trans rfl, (blk_cell BK139.out 0).trans rfl, (blk_cell BK139.out 1).trans rfl⟩ (fun hHeld => ?_)
             clear hK K
             refine norm_ (a' := ?_) ?_ ?_
             rotate_left
             ·show Act.put _ (some 9) _ = _
              simp only [Act.put, List.setIfInBounds_toArray, List.set_cons_zero, List.set_cons_succ, i64_w, i32_w]
              rfl
             exact norm_ (by simp only [putAll, Act.put, List.setIfInBounds_toArray, List.set_cons_zero, List.set_cons_succ]; try rfl) (hJ3_11_12 (gb147, gb148) _ ⟨hHeld, (by (with_reducible repeat (first | apply bN | apply bD | apply bA)); exact BK138.out), (by (with_reducible repeat (first | apply bN | apply bD | apply bA)); exact BK139.out), (by (with_reducible repeat (first | apply bN | apply bD | apply bA)); exact BK140.out), (by (with_reducible repeat (first | apply bN | apply bD | apply bA)); exact BK147.out), (by (with_reducible repeat (first | apply bN | apply bD | apply bA)); exact BK148.out), GW147.out, GE147.out, NB138_147.out, NB147_138.out, NB139_147.out, NB147_139.out, NB140_147.out, NB147_140.out, NB148_147.out, NB147_148.out, GW148.out, GE148.out, NB138_148.out, NB148_138.out, NB139_148.out, NB148_139.out, NB140_148.out, NB148_140.out, (by repeat (first | (with_reducible first | exact HB.out | apply lA | apply lN | apply lD | refine lS ?_ GE138.out | refine lS ?_ GE139.out | refine lS ?_ GE140.out | refine lS ?_ GE148.out | refine lS ?_ GE147.out) | exact HB.out))⟩)
          ·skip
           rintro gb147 w13 ⟨hS_, h0_, h1_, h2_, h3_, h4_, h5_, h6_, h7_, h8_, h9_, h10_, h11_, h12_⟩
           have n0_ : Aside0 (w13.heap[gb138]? = some (.cells #[.int .i64 a0_0, .int .i64 a0_1, .int .i64 a0_2, .int .i64 a0_3, .int .i64 a0_4, .bool a0_5] 30 (0, 0))) := ⟨h0_⟩
           have n1_ : Aside0 (w13.heap[gb139]? = some (.cells #[.int .i64 a1_0, .int .i64 a1_1] 35 (0, 0))) := ⟨h1_⟩
           have n2_ : Aside0 (w13.heap[gb140]? = some (.cells #[.int .i64 0, .int .i64 0] 35 (0, 0))) := ⟨h2_⟩
           have n3_ : Aside0 (w13.heap[gb147]? = some (.cells #[.int .i64 0, .int .i64 0] 35 (0, 0))) := ⟨h3_⟩
           have n4_ : Aside0 (w.heap.size ≤ gb147) := ⟨h4_⟩
           have n5_ : Aside0 (w.heap.size ≤ gb147) := ⟨h5_⟩
           have n6_ : Aside0 (gb138 ≠ gb147) := ⟨h6_⟩
           have n7_ : Aside0 (gb147 ≠ gb138) := ⟨h7_⟩
           have n8_ : Aside0 (gb139 ≠ gb147) := ⟨h8_⟩
           have n9_ : Aside0 (gb147 ≠ gb139) := ⟨h9_⟩
           have n10_ : Aside0 (gb140 ≠ gb147) := ⟨h10_⟩
           have n11_ : Aside0 (gb147 ≠ gb140) := ⟨h11_⟩
           have n12_ : Aside0 (Below w.heap.size w w13) := ⟨h12_⟩
           clear BK138
           clear BK139
           clear BK140
           clear HB
           clear h0_ h1_ h2_ h3_ h4_ h5_ h6_ h7_ h8_ h9_ h10_ h11_ h12_
           have BK138 := n0_
           have BK139 := n1_
           have BK140 := n2_
           have BK147 := n3_
           have GW147 := n4_
           have GE147 := n5_
           have NB138_147 := n6_
           have NB147_138 := n7_
           have NB139_147 := n8_
           have NB147_139 := n9_
           have NB140_147 := n10_
           have NB147_140 := n11_
           have HB := n12_
           clear n0_ n1_ n2_ n3_ n4_ n5_ n6_ n7_ n8_ n9_ n10_ n11_ n12_
           have hHeld : w13.cell? ⟨gb138, 0, none⟩ = some (.int .i64 a0_0) ∧ w13.cell? ⟨gb138, 1, none⟩ = some (.int .i64 a0_1) ∧ w13.cell? ⟨gb138, 2, none⟩ = some (.int .i64 a0_2) ∧ w13.cell? ⟨gb138, 3, none⟩ = some (.int .i64 a0_3) ∧ w13.cell? ⟨gb138, 4, none⟩ = some (.int .i64 a0_4) ∧ w13.cell? ⟨gb138, 5, none⟩ = some (.bool a0_5) ∧ w13.cell? ⟨gb139, 0, none⟩ = some (.int .i64 a1_0) ∧ w13.cell? ⟨gb139, 1, none⟩ = some (.int .i64 a1_1) := hS_
           refine norm_ (a' := ?_) ?_ ?_
           rotate_left
           ·simp only [putAll, Act.put, List.setIfInBounds_toArray, List.set_cons_zero, List.set_cons_succ]
            rfl
           refine two_ (i := 8) (j := 12) (Ni := some 22) (Nj := some 10) #[true, true, true, true, true, true, true, true, true, true, false, true, false, false, false] #[true, true, true, true, true, true, true, true, false, true, false, true, true, false, false] rfl rfl rfl rfl (two_of HT_.out (by kernel_rfl)) (by decide) (by decide) (fun K hK => ?_) (fun K hK => ?_)
           ·skip
            refine goes_ Try.func16 (by kernel_rfl) rfl #[.agg #[.int .i64 a0_0, .int .i64 a0_1, .int .i64 a0_2, .int .i64 a0_3, .int .i64 a0_4, .bool a0_5], .agg #[.int .i64 a1_0, .int .i64 a1_1], .int .i64 a2] (by rfl) rfl rfl (by (try simp only [List.map_toArray, List.map_cons, List.map_nil]); first | done | rfl | (simp only [List.length_drop, List.length_take]; rfl)) ?_
            with_reducible refine (spec_sdNext.calls k a0_0 a0_1 a0_2 a0_3 a0_4 a0_5 a1_0 a1_1 a2 t143 t144 _ A5.out).mono ?_
            rintro e w14 ⟨rfl, hb⟩
            refine ⟨_, rfl, ?_⟩
            have n0_ := A0 (blk_below (g := gb138) (o := .cells #[.int .i64 a0_0, .int .i64 a0_1, .int .i64 a0_2, .int .i64 a0_3, .int .i64 a0_4, .bool a0_5] 30 (0, 0)) (by (with_reducible repeat (first | apply bN | apply bD | apply bA)); exact BK138.out) hb)
            have n1_ := A0 (blk_below (g := gb139) (o := .cells #[.int .i64 a1_0, .int .i64 a1_1] 35 (0, 0)) (by (with_reducible repeat (first | apply bN | apply bD | apply bA)); exact BK139.out) hb)
            have n2_ := A0 (blk_below (g := gb140) (o := .cells #[.int .i64 0, .int .i64 0] 35 (0, 0)) (by (with_reducible repeat (first | apply bN | apply bD | apply bA)); exact BK140.out) hb)
            have n3_ := A0 (blk_below (g := gb147) (o := .cells #[.int .i64 0, .int .i64 0] 35 (0, 0)) (by (with_reducible repeat (first | apply bN | apply bD | apply bA)); exact BK147.out) hb)
            have n4_ := A0 (below_step (by repeat (first | (with_reducible first | exact HB.out | apply lA | apply lN | apply lD | refine lS ?_ GE138.out | refine lS ?_ GE139.out | refine lS ?_ GE140.out | refine lS ?_ GE147.out) | exact HB.out)) hb)
            clear BK138
            clear BK139
            clear BK140
            clear BK147
            clear HB
            have BK138 := n0_
            have BK139 := n1_
            have BK140 := n2_
            have BK147 := n3_
            have HB := n4_
            clear n0_ n1_ n2_ n3_ n4_
            (try clear hb)
            (try clear hb2)
            (try clear hk)
            (try clear hi)
            refine hK.out _ _ ⟨(blk_cell BK138.out 0).trans rfl, (blk_cell BK138.out 1).trans rfl, (blk_cell BK138.out 2).trans rfl, (blk_cell BK138.out 3).trans rfl, (blk_cell BK138.out 4).trans rfl, (blk_cell BK138.out 5).trans rfl, (blk_cell BK139.out 0).trans rfl, (blk_cell BK139.out 1).trans rfl⟩ (fun hHeld => ?_)
            clear hK K
            refine norm_ (a' := ?_) ?_ ?_
            rotate_left
            ·show Act.put _ (some 22) _ = _
             simp only [Act.put, List.setIfInBounds_toArray, List.set_cons_zero, List.set_cons_succ, i64_w, i32_w]
             rfl
            exact norm_ (by simp only [putAll, Act.put, List.setIfInBounds_toArray, List.set_cons_zero, List.set_cons_succ]; try rfl) (hJ3_8_11 (gb147) _ ⟨hHeld, (by (with_reducible repeat (first | apply bN | apply bD | apply bA)); exact BK138.out), (by (with_reducible repeat (first | apply bN | apply bD | apply bA)); exact BK139.out), (by (with_reducible repeat (first | apply bN | apply bD | apply bA)); exact BK140.out), (by (with_reducible repeat (first | apply bN | apply bD | apply bA)); exact BK147.out), GW147.out, GE147.out, NB138_147.out, NB147_138.out, NB139_147.out, NB147_139.out, NB140_147.out, NB147_140.out, (by repeat (first | (with_reducible first | exact HB.out | apply lA | apply lN | apply lD | refine lS ?_ GE138.out | refine lS ?_ GE139.out | refine lS ?_ GE140.out | refine lS ?_ GE147.out) | exact HB.out))⟩)
           ·skip
            refine box_step ?hg (N := 10) ?hd (cs := #[.int .i64 0, .int .i64 0]) (t := 35) ?hr ?_; (case hd => rfl); (case hg => rfl); (case hr => first | (go_simp; done) | (go_simp; rfl))
            intro gb148 hg w14 hbox hb
            have n0_ := A0 (blk_below (g := gb138) (o := .cells #[.int .i64 a0_0, .int .i64 a0_1, .int .i64 a0_2, .int .i64 a0_3, .int .i64 a0_4, .bool a0_5] 30 (0, 0)) (by (with_reducible repeat (first | apply bN | apply bD | apply bA)); exact BK138.out) hb)
            have n1_ := A0 (blk_below (g := gb139) (o := .cells #[.int .i64 a1_0, .int .i64 a1_1] 35 (0, 0)) (by (with_reducible repeat (first | apply bN | apply bD | apply bA)); exact BK139.out) hb)
            have n2_ := A0 (blk_below (g := gb140) (o := .cells #[.int .i64 0, .int .i64 0] 35 (0, 0)) (by (with_reducible repeat (first | apply bN | apply bD | apply bA)); exact BK140.out) hb)
            have n3_ := A0 (blk_below (g := gb147) (o := .cells #[.int .i64 0, .int .i64 0] 35 (0, 0)) (by (with_reducible repeat (first | apply bN | apply bD | apply bA)); exact BK147.out) hb)
            have n4_ := A0 (below_step (by repeat (first | (with_reducible first | exact HB.out | apply lA | apply lN | apply lD | refine lS ?_ GE138.out | refine lS ?_ GE139.out | refine lS ?_ GE140.out | refine lS ?_ GE147.out) | exact HB.out)) hb)
            have n5_ := A0 (hbox)
            have n6_ := A0 ((by rw [hg]; exact (below_size (by repeat (first | (with_reducible first | exact HB.out | apply lA | apply lN | apply lD | refine lS ?_ GE138.out | refine lS ?_ GE139.out | refine lS ?_ GE140.out | refine lS ?_ GE147.out) | exact HB.out))) : w.heap.size ≤ gb148))
            have n7_ := n6_
            have n8_ := A0 ((by rw [hg]; exact Nat.ne_of_lt (blk_lt (by (with_reducible repeat (first | apply bN | apply bD | apply bA)); exact BK138.out)) : gb138 ≠ gb148))
            have n9_ := A0 n8_.out.symm
            have n10_ := A0 ((by rw [hg]; exact Nat.ne_of_lt (blk_lt (by (with_reducible repeat (first | apply bN | apply bD | apply bA)); exact BK139.out)) : gb139 ≠ gb148))
            have n11_ := A0 n10_.out.symm
            have n12_ := A0 ((by rw [hg]; exact Nat.ne_of_lt (blk_lt (by (with_reducible repeat (first | apply bN | apply bD | apply bA)); exact BK140.out)) : gb140 ≠ gb148))
            have n13_ := A0 n12_.out.symm
            have n14_ := A0 ((by rw [hg]; exact Nat.ne_of_lt (blk_lt (by (with_reducible repeat (first | apply bN | apply bD | apply bA)); exact BK147.out)) : gb147 ≠ gb148))
            have n15_ := A0 n14_.out.symm
            clear BK138
            clear BK139
            clear BK140
            clear BK147
            clear HB
            have BK138 := n0_
            have BK139 := n1_
            have BK140 := n2_
            have BK147 := n3_
            have HB := n4_
            have BK148 := n5_
            have GW148 := n6_
            have GE148 := n7_
            have NB138_148 := n8_
            have NB148_138 := n9_
            have NB139_148 := n10_
            have NB148_139 := n11_
            have NB140_148 := n12_
            have NB148_140 := n13_
            have NB147_148 := n14_
            have NB148_147 := n15_
            clear n0_ n1_ n2_ n3_ n4_ n5_ n6_ n7_ n8_ n9_ n10_ n11_ n12_ n13_ n14_ n15_
            clear hb hbox hg
            refine hK.out _ _ ⟨(blk_cell BK138.out 0).trans rfl, (blk_cell BK138.out 1).trans rfl, (blk_cell BK138.out 2).trans rfl, (blk_cell BK138.out 3).trans rfl, (blk_cell BK138.out 4).trans rfl, (blk_cell BK138.out 5).trans rfl, (blk_cell BK139.out 0).trans rfl, (blk_cell BK139.out 1).trans rfl⟩ (fun hHeld => ?_)
            clear hK K
            refine norm_ (a' := ?_) ?_ ?_
            rotate_left
            ·show Act.put _ (some 10) _ = _
             simp only [Act.put, List.setIfInBounds_toArray, List.set_cons_zero, List.set_cons_succ, i64_w, i32_w]
             rfl
            exact norm_ (by simp only [putAll, Act.put, List.setIfInBounds_toArray, List.set_cons_zero, List.set_cons_succ]; try rfl) (hJ3_11_12 (gb147, gb148) _ ⟨hHeld, (by (with_reducible repeat (first | apply bN | apply bD | apply bA)); exact BK138.out), (by (with_reducible repeat (first | apply bN | apply bD | apply bA)); exact BK139.out), (by (with_reducible repeat (first | apply bN | apply bD | apply bA)); exact BK140.out), (by (with_reducible repeat (first | apply bN | apply bD | apply bA)); exact BK147.out), (by (with_reducible repeat (first | apply bN | apply bD | apply bA)); exact BK148.out), GW147.out, GE147.out, NB138_147.out, NB147_138.out, NB139_147.out, NB147_139.out, NB140_147.out, NB147_140.out, NB148_147.out, NB147_148.out, GW148.out, GE148.out, NB138_148.out, NB148_138.out, NB139_148.out, NB148_139.out, NB140_148.out, NB148_140.out, (by repeat (first | (with_reducible first | exact HB.out | apply lA | apply lN | apply lD | refine lS ?_ GE138.out | refine lS ?_ GE139.out | refine lS ?_ GE140.out | refine lS ?_ GE147.out | refine lS ?_ GE148.out) | exact HB.out))⟩)
         ·skip
          rintro _ w13 ⟨hS_, h0_, h1_, h2_, h3_⟩
          have n0_ : Aside0 (w13.heap[gb138]? = some (.cells #[.int .i64 a0_0, .int .i64 a0_1, .int .i64 a0_2, .int .i64 a0_3, .int .i64 a0_4, .bool a0_5] 30 (0, 0))) := ⟨h0_⟩
          have n1_ : Aside0 (w13.heap[gb139]? = some (.cells #[.int .i64 a1_0, .int .i64 a1_1] 35 (0, 0))) := ⟨h1_⟩
          have n2_ : Aside0 (w13.heap[gb140]? = some (.cells #[.int .i64 0, .int .i64 0] 35 (0, 0))) := ⟨h2_⟩
          have n3_ : Aside0 (Below w.heap.size w w13) := ⟨h3_⟩
          clear BK138
          clear BK139
          clear BK140
          clear HB
          clear h0_ h1_ h2_ h3_
          have BK138 := n0_
          have BK139 := n1_
          have BK140 := n2_
          have HB := n3_
          clear n0_ n1_ n2_ n3_
          have hHeld : w13.cell? ⟨gb138, 0, none⟩ = some (.int .i64 a0_0) ∧ w13.cell? ⟨gb138, 1, none⟩ = some (.int .i64 a0_1) ∧ w13.cell? ⟨gb138, 2, none⟩ = some (.int .i64 a0_2) ∧ w13.cell? ⟨gb138, 3, none⟩ = some (.int .i64 a0_3) ∧ w13.cell? ⟨gb138, 4, none⟩ = some (.int .i64 a0_4) ∧ w13.cell? ⟨gb138, 5, none⟩ = some (.bool a0_5) ∧ w13.cell? ⟨gb139, 0, none⟩ = some (.int .i64 a1_0) ∧ w13.cell? ⟨gb139, 1, none⟩ = some (.int .i64 a1_1) := hS_
          refine norm_ (a' := ?_) ?_ ?_
          rotate_left
          ·simp only [putAll, Act.put, List.setIfInBounds_toArray, List.set_cons_zero, List.set_cons_succ]
           rfl
          refine three_ (i := 10) (j := 11) (k := 12) (Ni := some 24) (Nj := some 9) (Nk := some 10) #[true, true, true, true, true, true, true, true, true, true, true, false, false, false, false] #[true, true, true, true, true, true, true, true, true, true, false, true, false, false, false] #[true, true, true, true, true, true, true, true, true, true, false, false, true, false, false] rfl rfl rfl rfl rfl rfl (three_of HT_.out (by kernel_rfl)) (by decide) (by decide) (by decide) (fun K hK => ?_) (fun K hK => ?_) (fun K hK => ?_)
          ·skip
           refine goes_ Try.func16 (by kernel_rfl) rfl #[.agg #[.int .i64 a0_0, .int .i64 a0_1, .int .i64 a0_2, .int .i64 a0_3, .int .i64 a0_4, .bool a0_5], .agg #[.int .i64 t143, .int .i64 t144], .int .i64 a2] (by rfl) rfl rfl (by (try simp only [List.map_toArray, List.map_cons, List.map_nil]); first | done | rfl | (simp only [List.length_drop, List.length_take]; rfl)) ?_
           with_reducible refine (spec_sdNext.calls k a0_0 a0_1 a0_2 a0_3 a0_4 a0_5 t143 t144 a2 t145 t146 _ A6.out).mono ?_
           rintro e w14 ⟨rfl, hb⟩
           refine ⟨_, rfl, ?_⟩
           have n0_ := A0 (blk_below (g := gb138) (o := .cells #[.int .i64 a0_0, .int .i64 a0_1, .int .i64 a0_2, .int .i64 a0_3, .int .i64 a0_4, .bool a0_5] 30 (0, 0)) (by (with_reducible repeat (first | apply bN | apply bD | apply bA)); exact BK138.out) hb)
           have n1_ := A0 (blk_below (g := gb139) (o := .cells #[.int .i64 a1_0, .int .i64 a1_1] 35 (0, 0)) (by (with_reducible repeat (first | apply bN | apply bD | apply bA)); exact BK139.out) hb)
           have n2_ := A0 (blk_below (g := gb140) (o := .cells #[.int .i64 0, .int .i64 0] 35 (0, 0)) (by (with_reducible repeat (first | apply bN | apply bD | apply bA)); exact BK140.out) hb)
           have n3_ := A0 (below_step (by repeat (first | (with_reducible first | exact HB.out | apply lA | apply lN | apply lD | refine lS ?_ GE138.out | refine lS ?_ GE139.out | refine lS ?_ GE140.out) | exact HB.out)) hb)
           clear BK138
           clear BK139
           clear BK140
           clear HB
           have BK138 := n0_
           have BK139 := n1_
           have BK140 := n2_
           have HB := n3_
           clear n0_ n1_ n2_ n3_
           (try clear hb)
           (try clear hb2)
           (try clear hk)
           (try clear hi)
           refine hK.out _ _ ⟨(blk_cell BK138.out 0).trans rfl, (blk_cell BK138.out 1).trans rfl, (blk_cell BK138.out 2).trans rfl, (blk_cell BK138.out 3).trans rfl, (blk_cell BK138.out 4).trans rfl, (blk_cell BK138.out 5).trans rfl, (blk_cell BK139.out 0).trans rfl, (blk_cell BK139.out 1).trans rfl⟩ (fun hHeld => ?_)
           clear hK K
           refine norm_ (a' := ?_) ?_ ?_
           rotate_left
           ·show Act.put _ (some 24) _ = _
            simp only [Act.put, List.setIfInBounds_toArray, List.set_cons_zero, List.set_cons_succ, i64_w, i32_w]
            rfl
           exact norm_ (by simp only [putAll, Act.put, List.setIfInBounds_toArray, List.set_cons_zero, List.set_cons_succ]; try rfl) (hJ3_8_10 () _ ⟨hHeld, (by (with_reducible repeat (first | apply bN | apply bD | apply bA)); exact BK138.out), (by (with_reducible repeat (first | apply bN | apply bD | apply bA)); exact BK139.out), (by (with_reducible repeat (first | apply bN | apply bD | apply bA)); exact BK140.out), (by repeat (first | (with_reducible first | exact HB.out | apply lA | apply lN | apply lD | refine lS ?_ GE138.out | refine lS ?_ GE139.out | refine lS ?_ GE140.out) | exact HB.out))⟩)
          ·skip
           refine box_step ?hg (N := 9) ?hd (cs := #[.int .i64 0, .int .i64 0]) (t := 35) ?hr ?_; (case hd => rfl); (case hg => rfl); (case hr => first | (go_simp; done) | (go_simp; rfl))
           intro gb147 hg w14 hbox hb
           have n0_ := A0 (blk_below (g := gb138) (o := .cells #[.int .i64 a0_0, .int .i64 a0_1, .int .i64 a0_2, .int .i64 a0_3, .int .i64 a0_4, .bool a0_5] 30 (0, 0)) (by (with_reducible repeat (first | apply bN | apply bD | apply bA)); exact BK138.out) hb)
           have n1_ := A0 (blk_below (g := gb139) (o := .cells #[.int .i64 a1_0, .int .i64 a1_1] 35 (0, 0)) (by (with_reducible repeat (first | apply bN | apply bD | apply bA)); exact BK139.out) hb)
           have n2_ := A0 (blk_below (g := gb140) (o := .cells #[.int .i64 0, .int .i64 0] 35 (0, 0)) (by (with_reducible repeat (first | apply bN | apply bD | apply bA)); exact BK140.out) hb)
           have n3_ := A0 (below_step (by repeat (first | (with_reducible first | exact HB.out | apply lA | apply lN | apply lD | refine lS ?_ GE138.out | refine lS ?_ GE139.out | refine lS ?_ GE140.out) | exact HB.out)) hb)
           have n4_ := A0 (hbox)
           have n5_ := A0 ((by rw [hg]; exact (below_size (by repeat (first | (with_reducible first | exact HB.out | apply lA | apply lN | apply lD | refine lS ?_ GE138.out | refine lS ?_ GE139.out | refine lS ?_ GE140.out) | exact HB.out))) : w.heap.size ≤ gb147))
           have n6_ := n5_
           have n7_ := A0 ((by rw [hg]; exact Nat.ne_of_lt (blk_lt (by (with_reducible repeat (first | apply bN | apply bD | apply bA)); exact BK138.out)) : gb138 ≠ gb147))
           have n8_ := A0 n7_.out.symm
           have n9_ := A0 ((by rw [hg]; exact Nat.ne_of_lt (blk_lt (by (with_reducible repeat (first | apply bN | apply bD | apply bA)); exact BK139.out)) : gb139 ≠ gb147))
           have n10_ := A0 n9_.out.symm
           have n11_ := A0 ((by rw [hg]; exact Nat.ne_of_lt (blk_lt (by (with_reducible repeat (first | apply bN | apply bD | apply bA)); exact BK140.out)) : gb140 ≠ gb147))
           have n12_ := A0 n11_.out.symm
           clear BK138
           clear BK139
           clear BK140
           clear HB
           have BK138 := n0_
           have BK139 := n1_
           have BK140 := n2_
           have HB := n3_
           have BK147 := n4_
           have GW147 := n5_
           have GE147 := n6_
           have NB138_147 := n7_
           have NB147_138 := n8_
           have NB139_147 := n9_
           have NB147_139 := n10_
           have NB140_147 := n11_
           have NB147_140 := n12_
           clear n0_ n1_ n2_ n3_ n4_ n5_ n6_ n7_ n8_ n9_ n10_ n11_ n12_
           clear hb hbox hg
           refine hK.out _ _ ⟨(blk_cell BK138.out 0).trans rfl, (blk_cell BK138.out 1).trans rfl, (blk_cell BK138.out 2).trans rfl, (blk_cell BK138.out 3).trans rfl, (blk_cell BK138.out 4).trans rfl, (blk_cell BK138.out 5).trans rfl, (blk_cell BK139.out 0).trans rfl, (blk_cell BK139.out 1).trans rfl⟩ (fun hHeld => ?_)
           clear hK K
           refine norm_ (a' := ?_) ?_ ?_
           rotate_left
           ·show Act.put _ (some 9) _ = _
            simp only [Act.put, List.setIfInBounds_toArray, List.set_cons_zero, List.set_cons_succ, i64_w, i32_w]
            rfl
           exact norm_ (by simp only [putAll, Act.put, List.setIfInBounds_toArray, List.set_cons_zero, List.set_cons_succ]; try rfl) (hJ3_8_11 (gb147) _ ⟨hHeld, (by (with_reducible repeat (first | apply bN | apply bD | apply bA)); exact BK138.out), (by (with_reducible repeat (first | apply bN | apply bD | apply bA)); exact BK139.out), (by (with_reducible repeat (first | apply bN | apply bD | apply bA)); exact BK140.out), (by (with_reducible repeat (first | apply bN | apply bD | apply bA)); exact BK147.out), GW147.out, GE147.out, NB138_147.out, NB147_138.out, NB139_147.out, NB147_139.out, NB140_147.out, NB147_140.out, (by repeat (first | (with_reducible first | exact HB.out | apply lA | apply lN | apply lD | refine lS ?_ GE138.out | refine lS ?_ GE139.out | refine lS ?_ GE140.out | refine lS ?_ GE147.out) | exact HB.out))⟩)
          ·skip
           refine box_step ?hg (N := 10) ?hd (cs := #[.int .i64 0, .int .i64 0]) (t := 35) ?hr ?_; (case hd => rfl); (case hg => rfl); (case hr => first | (go_simp; done) | (go_simp; rfl))
           intro gb148 hg w14 hbox hb
           have n0_ := A0 (blk_below (g := gb138) (o := .cells #[.int .i64 a0_0, .int .i64 a0_1, .int .i64 a0_2, .int .i64 a0_3, .int .i64 a0_4, .bool a0_5] 30 (0, 0)) (by (with_reducible repeat (first | apply bN | apply bD | apply bA)); exact BK138.out) hb)
           have n1_ := A0 (blk_below (g := gb139) (o := .cells #[.int .i64 a1_0, .int .i64 a1_1] 35 (0, 0)) (by (with_reducible repeat (first | apply bN | apply bD | apply bA)); exact BK139.out) hb)
           have n2_ := A0 (blk_below (g := gb140) (o := .cells #[.int .i64 0, .int .i64 0] 35 (0, 0)) (by (with_reducible repeat (first | apply bN | apply bD | apply bA)); exact BK140.out) hb)
           have n3_ := A0 (below_step (by repeat (first | (with_reducible first | exact HB.out | apply lA | apply lN | apply lD | refine lS ?_ GE138.out | refine lS ?_ GE139.out | refine lS ?_ GE140.out) | exact HB.out)) hb)
           have n4_ := A0 (hbox)
           have n5_ := A0 ((by rw [hg]; exact (below_size (by repeat (first | (with_reducible first | exact HB.out | apply lA | apply lN | apply lD | refine lS ?_ GE138.out | refine lS ?_ GE139.out | refine lS ?_ GE140.out) | exact HB.out))) : w.heap.size ≤ gb148))
           have n6_ := n5_
           have n7_ := A0 ((by rw [hg]; exact Nat.ne_of_lt (blk_lt (by (with_reducible repeat (first | apply bN | apply bD | apply bA)); exact BK138.out)) : gb138 ≠ gb148))
           have n8_ := A0 n7_.out.symm
           have n9_ := A0 ((by rw [hg]; exact Nat.ne_of_lt (blk_lt (by (with_reducible repeat (first | apply bN | apply bD | apply bA)); exact BK139.out)) : gb139 ≠ gb148))
           have n10_ := A0 n9_.out.symm
           have n11_ := A0 ((by rw [hg]; exact Nat.ne_of_lt (blk_lt (by (with_reducible repeat (first | apply bN | apply bD | apply bA)); exact BK140.out)) : gb140 ≠ gb148))
           have n12_ := A0 n11_.out.symm
           clear BK138
           clear BK139
           clear BK140
           clear HB
           have BK138 := n0_
           have BK139 := n1_
           have BK140 := n2_
           have HB := n3_
           have BK148 := n4_
           have GW148 := n5_
           have GE148 := n6_
           have NB138_148 := n7_
           have NB148_138 := n8_
           have NB139_148 := n9_
           have NB148_139 := n10_
           have NB140_148 := n11_
           have NB148_140 := n12_
           clear n0_ n1_ n2_ n3_ n4_ n5_ n6_ n7_ n8_ n9_ n10_ n11_ n12_
           clear hb hbox hg
           refine hK.out _ _ ⟨(blk_cell BK138.out 0).trans rfl, (blk_cell BK138.out 1).trans rfl, (blk_cell BK138.out 2).trans rfl, (blk_cell BK138.out 3).trans rfl, (blk_cell BK138.out 4).trans rfl, (blk_cell BK138.out 5).trans rfl, (blk_cell BK139.out 0).trans rfl, (blk_cell BK139.out 1).trans rfl⟩ (fun hHeld => ?_)
           clear hK K
           refine norm_ (a' := ?_) ?_ ?_
           rotate_left
           ·show Act.put _ (some 10) _ = _
            simp only [Act.put, List.setIfInBounds_toArray, List.set_cons_zero, List.set_cons_succ, i64_w, i32_w]
            rfl
           exact norm_ (by simp only [putAll, Act.put, List.setIfInBounds_toArray, List.set_cons_zero, List.set_cons_succ]; try rfl) (hJ3_8_12 (gb148) _ ⟨hHeld, (by (with_reducible repeat (first | apply bN | apply bD | apply bA)); exact BK138.out), (by (with_reducible repeat (first | apply bN | apply bD | apply bA)); exact BK139.out), (by (with_reducible repeat (first | apply bN | apply bD | apply bA)); exact BK140.out), (by (with_reducible repeat (first | apply bN | apply bD | apply bA)); exact BK148.out), GW148.out, GE148.out, NB138_148.out, NB148_138.out, NB139_148.out, NB148_139.out, NB140_148.out, NB148_140.out, (by repeat (first | (with_reducible first | exact HB.out | apply lA | apply lN | apply lD | refine lS ?_ GE138.out | refine lS ?_ GE139.out | refine lS ?_ GE140.out | refine lS ?_ GE148.out) | exact HB.out))⟩)
        ·skip
         rintro ⟨gb147, gb148⟩ w14 ⟨hS_, h0_, h1_, h2_, h3_, h4_, h5_, h6_, h7_, h8_, h9_, h10_, h11_, h12_, h13_, h14_, h15_, h16_, h17_, h18_, h19_, h20_, h21_, h22_, h23_⟩
         have n0_ : Aside0 (w14.heap[gb138]? = some (.cells #[.int .i64 a0_0, .int .i64 a0_1, .int .i64 a0_2, .int .i64 a0_3, .int .i64 a0_4, .bool a0_5] 30 (0, 0))) := ⟨h0_⟩
         have n1_ : Aside0 (w14.heap[gb139]? = some (.cells #[.int .i64 a1_0, .int .i64 a1_1] 35 (0, 0))) := ⟨h1_⟩
         have n2_ : Aside0 (w14.heap[gb140]? = some (.cells #[.int .i64 0, .int .i64 0] 35 (0, 0))) := ⟨h2_⟩
         have n3_ : Aside0 (w14.heap[gb147]? = some (.cells #[.int .i64 0, .int .i64 0] 35 (0, 0))) := ⟨h3_⟩
         have n4_ : Aside0 (w14.heap[gb148]? = some (.cells #[.int .i64 0, .int .i64 0] 35 (0, 0))) := ⟨h4_⟩
         have n5_ : Aside0 (w.heap.size ≤ gb147) := ⟨h5_⟩
         have n6_ : Aside0 (w.heap.size ≤ gb147) := ⟨h6_⟩
         have n7_ : Aside0 (gb138 ≠ gb147) := ⟨h7_⟩
         have n8_ : Aside0 (gb147 ≠ gb138) := ⟨h8_⟩
         have n9_ : Aside0 (gb139 ≠ gb147) := ⟨h9_⟩
         have n10_ : Aside0 (gb147 ≠ gb139) := ⟨h10_⟩
         have n11_ : Aside0 (gb140 ≠ gb147) := ⟨h11_⟩
         have n12_ : Aside0 (gb147 ≠ gb140) := ⟨h12_⟩
         have n13_ : Aside0 (gb148 ≠ gb147) := ⟨h13_⟩
         have n14_ : Aside0 (gb147 ≠ gb148) := ⟨h14_⟩
         have n15_ : Aside0 (w.heap.size ≤ gb148) := ⟨h15_⟩
         have n16_ : Aside0 (w.heap.size ≤ gb148) := ⟨h16_⟩
         have n17_ : Aside0 (gb138 ≠ gb148) := ⟨h17_⟩
         have n18_ : Aside0 (gb148 ≠ gb138) := ⟨h18_⟩
         have n19_ : Aside0 (gb139 ≠ gb148) := ⟨h19_⟩
         have n20_ : Aside0 (gb148 ≠ gb139) := ⟨h20_⟩
         have n21_ : Aside0 (gb140 ≠ gb148) := ⟨h21_⟩
         have n22_ : Aside0 (gb148 ≠ gb140) := ⟨h22_⟩
         have n23_ : Aside0 (Below w.heap.size w w14) := ⟨h23_⟩
         clear BK138
         clear BK139
         clear BK140
         clear HB
         clear h0_ h1_ h2_ h3_ h4_ h5_ h6_ h7_ h8_ h9_ h10_ h11_ h12_ h13_ h14_ h15_ h16_ h17_ h18_ h19_ h20_ h21_ h22_ h23_
         have BK138 := n0_
         have BK139 := n1_
         have BK140 := n2_
         have BK147 := n3_
         have BK148 := n4_
         have GW147 := n5_
         have GE147 := n6_
         have NB138_147 := n7_
         have NB147_138 := n8_
         have NB139_147 := n9_
         have NB147_139 := n10_
         have NB140_147 := n11_
         have NB147_140 := n12_
         have NB148_147 := n13_
         have NB147_148 := n14_
         have GW148 := n15_
         have GE148 := n16_
         have NB138_148 := n17_
         have NB148_138 := n18_
         have NB139_148 := n19_
         have NB148_139 := n20_
         have NB140_148 := n21_
         have NB148_140 := n22_
         have HB := n23_
         clear n0_ n1_ n2_ n3_ n4_ n5_ n6_ n7_ n8_ n9_ n10_ n11_ n12_ n13_ n14_ n15_ n16_ n17_ n18_ n19_ n20_ n21_ n22_ n23_
         have hHeld : w14.cell? ⟨gb138, 0, none⟩ = some (.int .i64 a0_0) ∧ w14.cell? ⟨gb138, 1, none⟩ = some (.int .i64 a0_1) ∧ w14.cell? ⟨gb138, 2, none⟩ = some (.int .i64 a0_2) ∧ w14.cell? ⟨gb138, 3, none⟩ = some (.int .i64 a0_3) ∧ w14.cell? ⟨gb138, 4, none⟩ = some (.int .i64 a0_4) ∧ w14.cell? ⟨gb138, 5, none⟩ = some (.bool a0_5) ∧ w14.cell? ⟨gb139, 0, none⟩ = some (.int .i64 a1_0) ∧ w14.cell? ⟨gb139, 1, none⟩ = some (.int .i64 a1_1) := hS_
         refine norm_ (a' := ?_) ?_ ?_
         rotate_left
         ·simp only [putAll, Act.put, List.setIfInBounds_toArray, List.set_cons_zero, List.set_cons_succ]
          rfl
         refine one_ (i := 8) (N := some 22) #[true, true, true, true, true, true, true, true, true, true, false, true, true, false, false] rfl rfl (one_of HT_.out (by kernel_rfl)) (by decide) (fun K hK => ?_)
         refine goes_ Try.func16 (by kernel_rfl) rfl #[.agg #[.int .i64 a0_0, .int .i64 a0_1, .int .i64 a0_2, .int .i64 a0_3, .int .i64 a0_4, .bool a0_5], .agg #[.int .i64 a1_0, .int .i64 a1_1], .int .i64 a2] (by rfl) rfl rfl (by (try simp only [List.map_toArray, List.map_cons, List.map_nil]); first | done | rfl | (simp only [List.length_drop, List.length_take]; rfl)) ?_
         with_reducible refine (spec_sdNext.calls k a0_0 a0_1 a0_2 a0_3 a0_4 a0_5 a1_0 a1_1 a2 t143 t144 _ A5.out).mono ?_
         rintro e w15 ⟨rfl, hb⟩
         refine ⟨_, rfl, ?_⟩
         have n0_ := A0 (blk_below (g := gb138) (o := .cells #[.int .i64 a0_0, .int .i64 a0_1, .int .i64 a0_2, .int .i64 a0_3, .int .i64 a0_4, .bool a0_5] 30 (0, 0)) (by (with_reducible repeat (first | apply bN | apply bD | apply bA)); exact BK138.out) hb)
         have n1_ := A0 (blk_below (g := gb139) (o := .cells #[.int .i64 a1_0, .int .i64 a1_1] 35 (0, 0)) (by (with_reducible repeat (first | apply bN | apply bD | apply bA)); exact BK139.out) hb)
         have n2_ := A0 (blk_below (g := gb140) (o := .cells #[.int .i64 0, .int .i64 0] 35 (0, 0)) (by (with_reducible repeat (first | apply bN | apply bD | apply bA)); exact BK140.out) hb)
         have n3_ := A0 (blk_below (g := gb147) (o := .cells #[.int .i64 0, .int .i64 0] 35 (0, 0)) (by (with_reducible repeat (first | apply bN | apply bD | apply bA)); exact BK147.out) hb)
         have n4_ := A0 (blk_below (g := gb148) (o := .cells #[.int .i64 0, .int .i64 0] 35 (0, 0)) (by (with_reducible repeat (first | apply bN | apply bD | apply bA)); exact BK148.out) hb)
         have n5_ := A0 (below_step (by repeat (first | (with_reducible first | exact HB.out | apply lA | apply lN | apply lD | refine lS ?_ GE138.out | refine lS ?_ GE139.out | refine lS ?_ GE140.out | refine lS ?_ GE147.out | refine lS ?_ GE148.out) | exact HB.out)) hb)
         clear BK138
         clear BK139
         clear BK140
         clear BK147
         clear BK148
         clear HB
         have BK138 := n0_
         have BK139 := n1_
         have BK140 := n2_
         have BK147 := n3_
         have BK148 := n4_
         have HB := n5_
         clear n0_ n1_ n2_ n3_ n4_ n5_
         (try clear hb)
         (try clear hb2)
         (try clear hk)
         (try clear hi)
         refine hK.out _ _ ⟨(blk_cell BK138.out 0).trans rfl, (blk_cell BK138.out 1).trans rfl, (blk_cell BK138.out 2).trans rfl, (blk_cell BK138.out 3).trans rfl, (blk_cell BK138.out 4).trans rfl, (blk_cell BK138.out 5).trans rfl, (blk_cell BK139.out 0).trans rfl, (blk_cell BK139.out 1).trans rfl⟩ (fun hHeld => ?_)
         clear hK K
         refine norm_ (a' := ?_) ?_ ?_
         rotate_left
         ·show Act.put _ (some 22) _ = _
          simp only [Act.put, List.setIfInBounds_toArray, List.set_cons_zero, List.set_cons_succ, i64_w, i32_w]
          rfl
         exact norm_ (by simp only [putAll, Act.put, List.setIfInBounds_toArray, List.set_cons_zero, List.set_cons_succ]; try rfl) (hJ3_8_11_12 (gb147, gb148) _ ⟨hHeld, (by (with_reducible repeat (first | apply bN | apply bD | apply bA)); exact BK138.out), (by (with_reducible repeat (first | apply bN | apply bD | apply bA)); exact BK139.out), (by (with_reducible repeat (first | apply bN | apply bD | apply bA)); exact BK140.out), (by (with_reducible repeat (first | apply bN | apply bD | apply bA)); exact BK147.out), (by (with_reducible repeat (first | apply bN | apply bD | apply bA)); exact BK148.out), GW147.out, GE147.out, NB138_147.out, NB147_138.out, NB139_147.out, NB147_139.out, NB140_147.out, NB147_140.out, NB148_147.out, NB147_148.out, GW148.out, GE148.out, NB138_148.out, NB148_138.out, NB139_148.out, NB148_139.out, NB140_148.out, NB148_140.out, (by repeat (first | (with_reducible first | exact HB.out | apply lA | apply lN | apply lD | refine lS ?_ GE138.out | refine lS ?_ GE139.out | refine lS ?_ GE140.out | refine lS ?_ GE147.out | refine lS ?_ GE148.out) | exact HB.out))⟩)
       ·skip
        rintro gb148 w14 ⟨hS_, h0_, h1_, h2_, h3_, h4_, h5_, h6_, h7_, h8_, h9_, h10_, h11_, h12_⟩
        have n0_ : Aside0 (w14.heap[gb138]? = some (.cells #[.int .i64 a0_0, .int .i64 a0_1, .int .i64 a0_2, .int .i64 a0_3, .int .i64 a0_4, .bool a0_5] 30 (0, 0))) := ⟨h0_⟩
        have n1_ : Aside0 (w14.heap[gb139]? = some (.cells #[.int .i64 a1_0, .int .i64 a1_1] 35 (0, 0))) := ⟨h1_⟩
        have n2_ : Aside0 (w14.heap[gb140]? = some (.cells #[.int .i64 0, .int .i64 0] 35 (0, 0))) := ⟨h2_⟩
        have n3_ : Aside0 (w14.heap[gb148]? = some (.cells #[.int .i64 0, .int .i64 0] 35 (0, 0))) := ⟨h3_⟩
        have n4_ : Aside0 (w.heap.size ≤ gb148) := ⟨h4_⟩
        have n5_ : Aside0 (w.heap.size ≤ gb148) := ⟨h5_⟩
        have n6_ : Aside0 (gb138 ≠ gb148) := ⟨h6_⟩
        have n7_ : Aside0 (gb148 ≠ gb138) := ⟨h7_⟩
        have n8_ : Aside0 (gb139 ≠ gb148) := ⟨h8_⟩
        have n9_ : Aside0 (gb148 ≠ gb139) := ⟨h9_⟩
        have n10_ : Aside0 (gb140 ≠ gb148) := ⟨h10_⟩
        have n11_ : Aside0 (gb148 ≠ gb140) := ⟨h11_⟩
        have n12_ : Aside0 (Below w.heap.size w w14) := ⟨h12_⟩
        clear BK138
        clear BK139
        clear BK140
        clear HB
        clear h0_ h1_ h2_ h3_ h4_ h5_ h6_ h7_ h8_ h9_ h10_ h11_ h12_
        have BK138 := n0_
        have BK139 := n1_
        have BK140 := n2_
        have BK148 := n3_
        have GW148 := n4_
        have GE148 := n5_
        have NB138_148 := n6_
        have NB148_138 := n7_
        have NB139_148 := n8_
        have NB148_139 := n9_
        have NB140_148 := n10_
        have NB148_140 := n11_
        have HB := n12_
        clear n0_ n1_ n2_ n3_ n4_ n5_ n6_ n7_ n8_ n9_ n10_ n11_ n12_
        have hHeld : w14.cell? ⟨gb138, 0, none⟩ = some (.int .i64 a0_0) ∧ w14.cell? ⟨gb138, 1, none⟩ = some (.int .i64 a0_1) ∧ w14.cell? ⟨gb138, 2, none⟩ = some (.int .i64 a0_2) ∧ w14.cell? ⟨gb138, 3, none⟩ = some (.int .i64 a0_3) ∧ w14.cell? ⟨gb138, 4, none⟩ = some (.int .i64 a0_4) ∧ w14.cell? ⟨gb138, 5, none⟩ = some (.bool a0_5) ∧ w14.cell? ⟨gb139, 0, none⟩ = some (.int .i64 a1_0) ∧ w14.cell? ⟨gb139, 1, none⟩ = some (.int .i64 a1_1) := hS_
        refine norm_ (a' := ?_) ?_ ?_
        rotate_left
        ·simp only [putAll, Act.put, List.setIfInBounds_toArray, List.set_cons_zero, List.set_cons_succ]
         rfl
        refine two_ (i := 10) (j := 11) (Ni := some 24) (Nj := some 9) #[true, true, true, true, true, true, true, true, true, true, true, false, true, false, false] #[true, true, true, true, true, true, true, true, true, true, false, true, true, false, false] rfl rfl rfl rfl (two_of HT_.out (by kernel_rfl)) (by decide) (by decide) (fun K hK => ?_) (fun K hK => ?_)
        ·skip
         refine goes_ Try.func16 (by kernel_rfl) rfl #[.agg #[.int .i64 a0_0, .int .i64 a0_1, .int .i64 a0_2, .int .i64 a0_3, .int .i64 a0_4, .bool a0_5], .agg #[.int .i64 t143, .int .i64 t144], .int .i64 a2] (by rfl) rfl rfl (by (try simp only [List.map_toArray, List.map_cons, List.map_nil]); first | done | rfl | (simp only [List.length_drop, List.length_take]; rfl)) ?_
         with_reducible refine (spec_sdNext.calls k a0_0 a0_1 a0_2 a0_3 a0_4 a0_5 t143 t144 a2 t145 t146 _ A6.out).mono ?_
         rintro e w15 ⟨rfl, hb⟩
         refine ⟨_, rfl, ?_⟩
         have n0_ := A0 (blk_below (g := gb138) (o := .cells #[.int .i64 a0_0, .int .i64 a0_1, .int .i64 a0_2, .int .i64 a0_3, .int .i64 a0_4, .bool a0_5] 30 (0, 0)) (by (with_reducible repeat (first | apply bN | apply bD | apply bA)); exact BK138.out) hb)
         have n1_ := A0 (blk_below (g := gb139) (o := .cells #[.int .i64 a1_0, .int .i64 a1_1] 35 (0, 0)) (by (with_reducible repeat (first | apply bN | apply bD | apply bA)); exact BK139.out) hb)
         have n2_ := A0 (blk_below (g := gb140) (o := .cells #[.int .i64 0, .int .i64 0] 35 (0, 0)) (by (with_reducible repeat (first | apply bN | apply bD | apply bA)); exact BK140.out) hb)
         have n3_ := A0 (blk_below (g := gb148) (o := .cells #[.int .i64 0, .int .i64 0] 35 (0, 0)) (by (with_reducible repeat (first | apply bN | apply bD | apply bA)); exact BK148.out) hb)
         have n4_ := A0 (below_step (by repeat (first | (with_reducible first | exact HB.out | apply lA | apply lN | apply lD | refine lS ?_ GE138.out | refine lS ?_ GE139.out | refine lS ?_ GE140.out | refine lS ?_ GE148.out) | exact HB.out)) hb)
         clear BK138
         clear BK139
         clear BK140
         clear BK148
         clear HB
         have BK138 := n0_
         have BK139 := n1_
         have BK140 := n2_
         have BK148 := n3_
         have HB := n4_
         clear n0_ n1_ n2_ n3_ n4_
         (try clear hb)
         (try clear hb2)
         (try clear hk)
         (try clear hi)
         refine hK.out _ _ ⟨(blk_cell BK138.out 0).trans rfl, (blk_cell BK138.out 1).trans rfl, (blk_cell BK138.out 2).trans rfl, (blk_cell BK138.out 3).trans rfl, (blk_cell BK138.out 4).trans rfl, (blk_cell BK138.out 5).trans rfl, (blk_cell BK139.out 0).trans rfl, (blk_cell BK139.out 1).trans rfl⟩ (fun hHeld => ?_)
         clear hK K
         refine norm_ (a' := ?_) ?_ ?_
         rotate_left
         ·show Act.put _ (some 24) _ = _
          simp only [Act.put, List.setIfInBounds_toArray, List.set_cons_zero, List.set_cons_succ, i64_w, i32_w]
          rfl
         exact norm_ (by simp only [putAll, Act.put, List.setIfInBounds_toArray, List.set_cons_zero, List.set_cons_succ]; try rfl) (hJ3_8_10_12 (gb148) _ ⟨hHeld, (by (with_reducible repeat (first | apply bN | apply bD | apply bA)); exact BK138.out), (by (with_reducible repeat (first | apply bN | apply bD | apply bA)); exact BK139.out), (by (with_reducible repeat (first | apply bN | apply bD | apply bA)); exact BK140.out), (by (with_reducible repeat (first | apply bN | apply bD | apply bA)); exact BK148.out), GW148.out, GE148.out, NB138_148.out, NB148_138.out, NB139_148.out, NB148_139.out, NB140_148.out, NB148_140.out, (by repeat (first | (with_reducible first | exact HB.out | apply lA | apply lN | apply lD | refine lS ?_ GE138.out | refine lS ?_ GE139.out | refine lS ?_ GE140.out | refine lS ?_ GE148.out) | exact HB.out))⟩)
        ·skip
         refine box_step ?hg (N := 9) ?hd (cs := #[.int .i64 0, .int .i64 0]) (t := 35) ?hr ?_; (case hd => rfl); (case hg => rfl); (case hr => first | (go_simp; done) | (go_simp; rfl))
         intro gb147 hg w15 hbox hb
         have n0_ := A0 (blk_below (g := gb138) (o := .cells #[.int .i64 a0_0, .int .i64 a0_1, .int .i64 a0_2, .int .i64 a0_3, .int .i64 a0_4, .bool a0_5] 30 (0, 0)) (by (with_reducible repeat (first | apply bN | apply bD | apply bA)); exact BK138.out) hb)
         have n1_ := A0 (blk_below (g := gb139) (o := .cells #[.int .i64 a1_0, .int .i64 a1_1] 35 (0, 0)) (by (with_reducible repeat (first | apply bN | apply bD | apply bA)); exact BK139.out) hb)
         have n2_ := A0 (blk_below (g := gb140) (o := .cells #[.int .i64 0, .int .i64 0] 35 (0, 0)) (by (with_reducible repeat (first | apply bN | apply bD | apply bA)); exact BK140.out) hb)
         have n3_ := A0 (blk_below (g := gb148) (o := .cells #[.int .i64 0, .int .i64 0] 35 (0, 0)) (by (with_reducible repeat (first | apply bN | apply bD | apply bA)); exact BK148.out) hb)
         have n4_ := A0 (below_step (by repeat (first | (with_reducible first | exact HB.out | apply lA | apply lN | apply lD | refine lS ?_ GE138.out | refine lS ?_ GE139.out | refine lS ?_ GE140.out | refine lS ?_ GE148.out) | exact HB.out)) hb)
         have n5_ := A0 (hbox)
         have n6_ := A0 ((by rw [hg]; exact (below_size (by repeat (first | (with_reducible first | exact HB.out | apply lA | apply lN | apply lD | refine lS ?_ GE138.out | refine lS ?_ GE139.out | refine lS ?_ GE140.out | refine lS ?_ GE148.out) | exact HB.out))) : w.heap.size ≤ gb147))
         have n7_ := n6_
         have n8_ := A0 ((by rw [hg]; exact Nat.ne_of_lt (blk_lt (by (with_reducible repeat (first | apply bN | apply bD | apply bA)); exact BK138.out)) : gb138 ≠ gb147))
         have n9_ := A0 n8_.out.symm
         have n10_ := A0 ((by rw [hg]; exact Nat.ne_of_lt (blk_lt (by (with_reducible repeat (first | apply bN | apply bD | apply bA)); exact BK139.out)) : gb139 ≠ gb147))
         have n11_ := A0 n10_.out.symm
         have n12_ := A0 ((by rw [hg]; exact Nat.ne_of_lt (blk_lt (by (with_reducible repeat (first | apply bN | apply bD | apply bA)); exact BK140.out)) : gb140 ≠ gb147))
         have n13_ := A0 n12_.out.symm
         have n14_ := A0 ((by rw [hg]; exact Nat.ne_of_lt (blk_lt (by (with_reducible repeat (first | apply bN | apply bD | apply bA)); exact BK148.out)) : gb148 ≠ gb147))
         have n15_ := A0 n14_.out.symm
         clear BK138
         clear BK139
         clear BK140
         clear BK148
         clear HB
         have BK138 := n0_
         have BK139 := n1_
         have BK140 := n2_
         have BK148 := n3_
         have HB := n4_
         have BK147 := n5_
         have GW147 := n6_
         have GE147 := n7_
         have NB138_147 := n8_
         have NB147_138 := n9_
         have NB139_147 := n10_
         have NB147_139 := n11_
         have NB140_147 := n12_
         have NB147_140 := n13_
         have NB148_147 := n14_
         have NB147_148 := n15_
         clear n0_ n1_ n2_ n3_ n4_ n5_ n6_ n7_ n8_ n9_ n10_ n11_ n12_ n13_ n14_ n15_
         clear hb hbox hg
         refine hK.out _ _ ⟨(blk_cell BK138.out 0).trans rfl, (blk_cell BK138.out 1).trans rfl, (blk_cell BK138.out 2).trans rfl, (blk_cell BK138.out 3).trans rfl, (blk_cell BK138.out 4).trans rfl, (blk_cell BK138.out 5).trans rfl, (blk_cell BK139.out 0).trans rfl, (blk_cell BK139.out 1).trans rfl⟩ (fun hHeld => ?_)
         clear hK K
         refine norm_ (a' := ?_) ?_ ?_
         rotate_left
         ·show Act.put _ (some 9) _ = _
          simp only [Act.put, List.setIfInBounds_toArray, List.set_cons_zero, List.set_cons_succ, i64_w, i32_w]
          rfl
         exact norm_ (by simp only [putAll, Act.put, List.setIfInBounds_toArray, List.set_cons_zero, List.set_cons_succ]; try rfl) (hJ3_8_11_12 (gb147, gb148) _ ⟨hHeld, (by (with_reducible repeat (first | apply bN | apply bD | apply bA)); exact BK138.out), (by (with_reducible repeat (first | apply bN | apply bD | apply bA)); exact BK139.out), (by (with_reducible repeat (first | apply bN | apply bD | apply bA)); exact BK140.out), (by (with_reducible repeat (first | apply bN | apply bD | apply bA)); exact BK147.out), (by (with_reducible repeat (first | apply bN | apply bD | apply bA)); exact BK148.out), GW147.out, GE147.out, NB138_147.out, NB147_138.out, NB139_147.out, NB147_139.out, NB140_147.out, NB147_140.out, NB148_147.out, NB147_148.out, GW148.out, GE148.out, NB138_148.out, NB148_138.out, NB139_148.out, NB148_139.out, NB140_148.out, NB148_140.out, (by repeat (first | (with_reducible first | exact HB.out | apply lA | apply lN | apply lD | refine lS ?_ GE138.out | refine lS ?_ GE139.out | refine lS ?_ GE140.out | refine lS ?_ GE148.out | refine lS ?_ GE147.out) | exact HB.out))⟩)
      ·skip
       rintro gb147 w14 ⟨hS_, h0_, h1_, h2_, h3_, h4_, h5_, h6_, h7_, h8_, h9_, h10_, h11_, h12_⟩
       have n0_ : Aside0 (w14.heap[gb138]? = some (.cells #[.int .i64 a0_0, .int .i64 a0_1, .int .i64 a0_2, .int .i64 a0_3, .int .i64 a0_4, .bool a0_5] 30 (0, 0))) := ⟨h0_⟩
       have n1_ : Aside0 (w14.heap[gb139]? = some (.cells #[.int .i64 a1_0, .int .i64 a1_1] 35 (0, 0))) := ⟨h1_⟩
       have n2_ : Aside0 (w14.heap[gb140]? = some (.cells #[.int .i64 0, .int .i64 0] 35 (0, 0))) := ⟨h2_⟩
       have n3_ : Aside0 (w14.heap[gb147]? = some (.cells #[.int .i64 0, .int .i64 0] 35 (0, 0))) := ⟨h3_⟩
       have n4_ : Aside0 (w.heap.size ≤ gb147) := ⟨h4_⟩
       have n5_ : Aside0 (w.heap.size ≤ gb147) := ⟨h5_⟩
       have n6_ : Aside0 (gb138 ≠ gb147) := ⟨h6_⟩
       have n7_ : Aside0 (gb147 ≠ gb138) := ⟨h7_⟩
       have n8_ : Aside0 (gb139 ≠ gb147) := ⟨h8_⟩
       have n9_ : Aside0 (gb147 ≠ gb139) := ⟨h9_⟩
       have n10_ : Aside0 (gb140 ≠ gb147) := ⟨h10_⟩
       have n11_ : Aside0 (gb147 ≠ gb140) := ⟨h11_⟩
       have n12_ : Aside0 (Below w.heap.size w w14) := ⟨h12_⟩
       clear BK138
       clear BK139
       clear BK140
       clear HB
       clear h0_ h1_ h2_ h3_ h4_ h5_ h6_ h7_ h8_ h9_ h10_ h11_ h12_
       have BK138 := n0_
       have BK139 := n1_
       have BK140 := n2_
       have BK147 := n3_
       have GW147 := n4_
       have GE147 := n5_
       have NB138_147 := n6_
       have NB147_138 := n7_
       have NB139_147 := n8_
       have NB147_139 := n9_
       have NB140_147 := n10_
       have NB147_140 := n11_
       have HB := n12_
       clear n0_ n1_ n2_ n3_ n4_ n5_ n6_ n7_ n8_ n9_ n10_ n11_ n12_
       have hHeld : w14.cell? ⟨gb138, 0, none⟩ = some (.int .i64 a0_0) ∧ w14.cell? ⟨gb138, 1, none⟩ = some (.int .i64 a0_1) ∧ w14.cell? ⟨gb138, 2, none⟩ = some (.int .i64 a0_2) ∧ w14.cell? ⟨gb138, 3, none⟩ = some (.int .i64 a0_3) ∧ w14.cell? ⟨gb138, 4, none⟩ = some (.int .i64 a0_4) ∧ w14.cell? ⟨gb138, 5, none⟩ = some (.bool a0_5) ∧ w14.cell? ⟨gb139, 0, none⟩ = some (.int .i64 a1_0) ∧ w14.cell? ⟨gb139, 1, none⟩ = some (.int .i64 a1_1) := hS_
       refine norm_ (a' := ?_) ?_ ?_
       rotate_left
       ·simp only [putAll, Act.put, List.setIfInBounds_toArray, List.set_cons_zero, List.set_cons_succ]
        rfl
       refine two_ (i := 10) (j := 12) (Ni := some 24) (Nj := some 10) #[true, true, true, true, true, true, true, true, true, true, true, true, false, false, false] #[true, true, true, true, true, true, true, true, true, true, false, true, true, false, false] rfl rfl rfl rfl (two_of HT_.out (by kernel_rfl)) (by decide) (by decide) (fun K hK => ?_) (fun K hK => ?_)
       ·skip
        refine goes_ Try.func16 (by kernel_rfl) rfl #[.agg #[.int .i64 a0_0, .int .i64 a0_1, .int .i64 a0_2, .int .i64 a0_3, .int .i64 a0_4, .bool a0_5], .agg #[.int .i64 t143, .int .i64 t144], .int .i64 a2] (by rfl) rfl rfl (by (try simp only [List.map_toArray, List.map_cons, List.map_nil]); first | done | rfl | (simp only [List.length_drop, List.length_take]; rfl)) ?_
        with_reducible refine (spec_sdNext.calls k a0_0 a0_1 a0_2 a0_3 a0_4 a0_5 t143 t144 a2 t145 t146 _ A6.out).mono ?_
        rintro e w15 ⟨rfl, hb⟩
        refine ⟨_, rfl, ?_⟩
        have n0_ := A0 (blk_below (g := gb138) (o := .cells #[.int .i64 a0_0, .int .i64 a0_1, .int .i64 a0_2, .int .i64 a0_3, .int .i64 a0_4, .bool a0_5] 30 (0, 0)) (by (with_reducible repeat (first | apply bN | apply bD | apply bA)); exact BK138.out) hb)
        have n1_ := A0 (blk_below (g := gb139) (o := .cells #[.int .i64 a1_0, .int .i64 a1_1] 35 (0, 0)) (by (with_reducible repeat (first | apply bN | apply bD | apply bA)); exact BK139.out) hb)
        have n2_ := A0 (blk_below (g := gb140) (o := .cells #[.int .i64 0, .int .i64 0] 35 (0, 0)) (by (with_reducible repeat (first | apply bN | apply bD | apply bA)); exact BK140.out) hb)
        have n3_ := A0 (blk_below (g := gb147) (o := .cells #[.int .i64 0, .int .i64 0] 35 (0, 0)) (by (with_reducible repeat (first | apply bN | apply bD | apply bA)); exact BK147.out) hb)
        have n4_ := A0 (below_step (by repeat (first | (with_reducible first | exact HB.out | apply lA | apply lN | apply lD | refine lS ?_ GE138.out | refine lS ?_ GE139.out | refine lS ?_ GE140.out | refine lS ?_ GE147.out) | exact HB.out)) hb)
        clear BK138
        clear BK139
        clear BK140
        clear BK147
        clear HB
        have BK138 := n0_
        have BK139 := n1_
        have BK140 := n2_
        have BK147 := n3_
        have HB := n4_
        clear n0_ n1_ n2_ n3_ n4_
        (try clear hb)
        (try clear hb2)
        (try clear hk)
        (try clear hi)
        refine hK.out _ _ ⟨(blk_cell BK138.out 0).trans rfl, (blk_cell BK138.out 1).trans rfl, (blk_cell BK138.out 2).trans rfl, (blk_cell BK138.out 3).trans rfl, (blk_cell BK138.out 4).trans rfl, (blk_cell BK138.out 5).trans rfl, (blk_cell BK139.out 0).trans rfl, (blk_cell BK139.out 1).trans rfl⟩ (fun hHeld => ?_)
        clear hK K
        refine norm_ (a' := ?_) ?_ ?_
        rotate_left
        ·show Act.put _ (some 24) _ = _
         simp only [Act.put, List.setIfInBounds_toArray, List.set_cons_zero, List.set_cons_succ, i64_w, i32_w]
         rfl
        exact norm_ (by simp only [putAll, Act.put, List.setIfInBounds_toArray, List.set_cons_zero, List.set_cons_succ]; try rfl) (hJ3_8_10_11 (gb147) _ ⟨hHeld, (by (with_reducible repeat (first | apply bN | apply bD | apply bA)); exact BK138.out), (by (with_reducible repeat (first | apply bN | apply bD | apply bA)); exact BK139.out), (by (with_reducible repeat (first | apply bN | apply bD | apply bA)); exact BK140.out), (by (with_reducible repeat (first | apply bN | apply bD | apply bA)); exact BK147.out), GW147.out, GE147.out, NB138_147.out, NB147_138.out, NB139_147.out, NB147_139.out, NB140_147.out, NB147_140.out, (by repeat (first | (with_reducible first | exact HB.out | apply lA | apply lN | apply lD | refine lS ?_ GE138.out | refine lS ?_ GE139.out | refine lS ?_ GE140.out | refine lS ?_ GE147.out) | exact HB.out))⟩)
       ·skip
        refine box_step ?hg (N := 10) ?hd (cs := #[.int .i64 0, .int .i64 0]) (t := 35) ?hr ?_; (case hd => rfl); (case hg => rfl); (case hr => first | (go_simp; done) | (go_simp; rfl))
        intro gb148 hg w15 hbox hb
        have n0_ := A0 (blk_below (g := gb138) (o := .cells #[.int .i64 a0_0, .int .i64 a0_1, .int .i64 a0_2, .int .i64 a0_3, .int .i64 a0_4, .bool a0_5] 30 (0, 0)) (by (with_reducible repeat (first | apply bN | apply bD | apply bA)); exact BK138.out) hb)
        have n1_ := A0 (blk_below (g := gb139) (o := .cells #[.int .i64 a1_0, .int .i64 a1_1] 35 (0, 0)) (by (with_reducible repeat (first | apply bN | apply bD | apply bA)); exact BK139.out) hb)
        have n2_ := A0 (blk_below (g := gb140) (o := .cells #[.int .i64 0, .int .i64 0] 35 (0, 0)) (by (with_reducible repeat (first | apply bN | apply bD | apply bA)); exact BK140.out) hb)
        have n3_ := A0 (blk_below (g := gb147) (o := .cells #[.int .i64 0, .int .i64 0] 35 (0, 0)) (by (with_reducible repeat (first | apply bN | apply bD | apply bA)); exact BK147.out) hb)
        have n4_ := A0 (below_step (by repeat (first | (with_reducible first | exact HB.out | apply lA | apply lN | apply lD | refine lS ?_ GE138.out | refine lS ?_ GE139.out | refine lS ?_ GE140.out | refine lS ?_ GE147.out) | exact HB.out)) hb)
        have n5_ := A0 (hbox)
        have n6_ := A0 ((by rw [hg]; exact (below_size (by repeat (first | (with_reducible first | exact HB.out | apply lA | apply lN | apply lD | refine lS ?_ GE138.out | refine lS ?_ GE139.out | refine lS ?_ GE140.out | refine lS ?_ GE147.out) | exact HB.out))) : w.heap.size ≤ gb148))
        have n7_ := n6_
        have n8_ := A0 ((by rw [hg]; exact Nat.ne_of_lt (blk_lt (by (with_reducible repeat (first | apply bN | apply bD | apply bA)); exact BK138.out)) : gb138 ≠ gb148))
        have n9_ := A0 n8_.out.symm
        have n10_ := A0 ((by rw [hg]; exact Nat.ne_of_lt (blk_lt (by (with_reducible repeat (first | apply bN | apply bD | apply bA)); exact BK139.out)) : gb139 ≠ gb148))
        have n11_ := A0 n10_.out.symm
        have n12_ := A0 ((by rw [hg]; exact Nat.ne_of_lt (blk_lt (by (with_reducible repeat (first | apply bN | apply bD | apply bA)); exact BK140.out)) : gb140 ≠ gb148))
        have n13_ := A0 n12_.out.symm
        have n14_ := A0 ((by rw [hg]; exact Nat.ne_of_lt (blk_lt (by (with_reducible repeat (first | apply bN | apply bD | apply bA)); exact BK147.out)) : gb147 ≠ gb148))
        have n15_ := A0 n14_.out.symm
        clear BK138
        clear BK139
        clear BK140
        clear BK147
        clear HB
        have BK138 := n0_
        have BK139 := n1_
        have BK140 := n2_
        have BK147 := n3_
        have HB := n4_
        have BK148 := n5_
        have GW148 := n6_
        have GE148 := n7_
        have NB138_148 := n8_
        have NB148_138 := n9_
        have NB139_148 := n10_
        have NB148_139 := n11_
        have NB140_148 := n12_
        have NB148_140 := n13_
        have NB147_148 := n14_
        have NB148_147 := n15_
        clear n0_ n1_ n2_ n3_ n4_ n5_ n6_ n7_ n8_ n9_ n10_ n11_ n12_ n13_ n14_ n15_
        clear hb hbox hg
        refine hK.out _ _ ⟨(blk_cell BK138.out 0).trans rfl, (blk_cell BK138.out 1).trans rfl, (blk_cell BK138.out 2).trans rfl, (blk_cell BK138.out 3).trans rfl, (blk_cell BK138.out 4).trans rfl, (blk_cell BK138.out 5).trans rfl, (blk_cell BK139.out 0).trans rfl, (blk_cell BK139.out 1).trans rfl⟩ (fun hHeld => ?_)
        clear hK K
        refine norm_ (a' := ?_) ?_ ?_
        rotate_left
        ·show Act.put _ (some 10) _ = _
         simp only [Act.put, List.setIfInBounds_toArray, List.set_cons_zero, List.set_cons_succ, i64_w, i32_w]
         rfl
        exact norm_ (by simp only [putAll, Act.put, List.setIfInBounds_toArray, List.set_cons_zero, List.set_cons_succ]; try rfl) (hJ3_8_11_12 (gb147, gb148) _ ⟨hHeld, (by (with_reducible repeat (first | apply bN | apply bD | apply bA)); exact BK138.out), (by (with_reducible repeat (first | apply bN | apply bD | apply bA)); exact BK139.out), (by (with_reducible repeat (first | apply bN | apply bD | apply bA)); exact BK140.out), (by (with_reducible repeat (first | apply bN | apply bD | apply bA)); exact BK147.out), (by (with_reducible repeat (first | apply bN | apply bD | apply bA)); exact BK148.out), GW147.out, GE147.out, NB138_147.out, NB147_138.out, NB139_147.out, NB147_139.out, NB140_147.out, NB147_140.out, NB148_147.out, NB147_148.out, GW148.out, GE148.out, NB138_148.out, NB148_138.out, NB139_148.out, NB148_139.out, NB140_148.out, NB148_140.out, (by repeat (first | (with_reducible first | exact HB.out | apply lA | apply lN | apply lD | refine lS ?_ GE138.out | refine lS ?_ GE139.out | refine lS ?_ GE140.out | refine lS ?_ GE147.out | refine lS ?_ GE148.out) | exact HB.out))⟩)
     ·skip
      rintro _ w14 ⟨hS_, h0_, h1_, h2_, h3_⟩
      have n0_ : Aside0 (w14.heap[gb138]? = some (.cells #[.int .i64 a0_0, .int .i64 a0_1, .int .i64 a0_2, .int .i64 a0_3, .int .i64 a0_4, .bool a0_5] 30 (0, 0))) := ⟨h0_⟩
      have n1_ : Aside0 (w14.heap[gb139]? = some (.cells #[.int .i64 a1_0, .int .i64 a1_1] 35 (0, 0))) := ⟨h1_⟩
      have n2_ : Aside0 (w14.heap[gb140]? = some (.cells #[.int .i64 0, .int .i64 0] 35 (0, 0))) := ⟨h2_⟩
      have n3_ : Aside0 (Below w.heap.size w w14) := ⟨h3_⟩
      clear BK138
      clear BK139
      clear BK140
      clear HB
      clear h0_ h1_ h2_ h3_
      have BK138 := n0_
      have BK139 := n1_
      have BK140 := n2_
      have HB := n3_
      clear n0_ n1_ n2_ n3_
      have hHeld : w14.cell? ⟨gb138, 0, none⟩ = some (.int .i64 a0_0) ∧ w14.cell? ⟨gb138, 1, none⟩ = some (.int .i64 a0_1) ∧ w14.cell? ⟨gb138, 2, none⟩ = some (.int .i64 a0_2) ∧ w14.cell? ⟨gb138, 3, none⟩ = some (.int .i64 a0_3) ∧ w14.cell? ⟨gb138, 4, none⟩ = some (.int .i64 a0_4) ∧ w14.cell? ⟨gb138, 5, none⟩ = some (.bool a0_5) ∧ w14.cell? ⟨gb139, 0, none⟩ = some (.int .i64 a1_0) ∧ w14.cell? ⟨gb139, 1, none⟩ = some (.int .i64 a1_1) := hS_
      refine norm_ (a' := ?_) ?_ ?_
      rotate_left
      ·simp only [putAll, Act.put, List.setIfInBounds_toArray, List.set_cons_zero, List.set_cons_succ]
       rfl
      refine two_ (i := 11) (j := 12) (Ni := some 9) (Nj := some 10) #[true, true, true, true, true, true, true, true, true, true, true, true, false, false, false] #[true, true, true, true, true, true, true, true, true, true, true, false, true, false, false] rfl rfl rfl rfl (two_of HT_.out (by kernel_rfl)) (by decide) (by decide) (fun K hK => ?_) (fun K hK => ?_)
      ·skip
       refine box_step ?hg (N := 9) ?hd (cs := #[.int .i64 0, .int .i64 0]) (t := 35) ?hr ?_; (case hd => rfl); (case hg => rfl); (case hr => first | (go_simp; done) | (go_simp; rfl))
       intro gb147 hg w15 hbox hb
       have n0_ := A0 (blk_below (g := gb138) (o := .cells #[.int .i64 a0_0, .int .i64 a0_1, .int .i64 a0_2, .int .i64 a0_3, .int .i64 a0_4, .bool a0_5] 30 (0, 0)) (by (with_reducible repeat (first | apply bN | apply bD | apply bA)); exact BK138.out) hb)
       have n1_ := A0 (blk_below (g := gb139) (o := .cells #[.int .i64 a1_0, .int .i64 a1_1] 35 (0, 0)) (by (with_reducible repeat (first | apply bN | apply bD | apply bA)); exact BK139.out) hb)
       have n2_ := A0 (blk_below (g := gb140) (o := .cells #[.int .i64 0, .int .i64 0] 35 (0, 0)) (by (with_reducible repeat (first | apply bN | apply bD | apply bA)); exact BK140.out) hb)
       have n3_ := A0 (below_step (by repeat (first | (with_reducible first | exact HB.out | apply lA | apply lN | apply lD | refine lS ?_ GE138.out | refine lS ?_ GE139.out | refine lS ?_ GE140.out) | exact HB.out)) hb)
       have n4_ := A0 (hbox)
       have n5_ := A0 ((by rw [hg]; exact (below_size (by repeat (first | (with_reducible first | exact HB.out | apply lA | apply lN | apply lD | refine lS ?_ GE138.out | refine lS ?_ GE139.out | refine lS ?_ GE140.out) | exact HB.out))) : w.heap.size ≤ gb147))
       have n6_ := n5_
       have n7_ := A0 ((by rw [hg]; exact Nat.ne_of_lt (blk_lt (by (with_reducible repeat (first | apply bN | apply bD | apply bA)); exact BK138.out)) : gb138 ≠ gb147))
       have n8_ := A0 n7_.out.symm
       have n9_ := A0 ((by rw [hg]; exact Nat.ne_of_lt (blk_lt (by (with_reducible repeat (first | apply bN | apply bD | apply bA)); exact BK139.out)) : gb139 ≠ gb147))
       have n10_ := A0 n9_.out.symm
       have n11_ := A0 ((by rw [hg]; exact Nat.ne_of_lt (blk_lt (by (with_reducible repeat (first | apply bN | apply bD | apply bA)); exact BK140.out)) : gb140 ≠ gb147))
       have n12_ := A0 n11_.out.symm
       clear BK138
       clear BK139
       clear BK140
       clear HB
       have BK138 := n0_
       have BK139 := n1_
       have BK140 := n2_
       have HB := n3_
       have BK147 := n4_
       have GW147 := n5_
       have GE147 := n6_
       have NB138_147 := n7_
       have NB147_138 := n8_
       have NB139_147 := n9_
       have NB147_139 := n10_
       have NB140_147 := n11_
       have NB147_140 := n12_
       clear n0_ n1_ n2_ n3_ n4_ n5_ n6_ n7_ n8_ n9_ n10_ n11_ n12_
       clear hb hbox hg
       refine hK.out _ _ ⟨(blk_cell BK138.out 0).trans rfl, (blk_cell BK138.out 1).trans rfl, (blk_cell BK138.out 2).trans rfl, (blk_cell BK138.out 3).trans rfl, (blk_cell BK138.out 4).trans rfl, (blk_cell BK138.out 5).trans rfl, (blk_cell BK139.out 0).trans rfl, (blk_cell BK139.out 1).trans rfl⟩ (fun hHeld => ?_)
       clear hK K
       refine norm_ (a' := ?_) ?_ ?_
       rotate_left
       ·show Act.put _ (some 9) _ = _
        simp only [Act.put, List.setIfInBounds_toArray, List.set_cons_zero, List.set_cons_succ, i64_w, i32_w]
        rfl
       exact norm_ (by simp only [putAll, Act.put, List.setIfInBounds_toArray, List.set_cons_zero, List.set_cons_succ]; try rfl) (hJ3_8_10_11 (gb147) _ ⟨hHeld, (by (with_reducible repeat (first | apply bN | apply bD | apply bA)); exact BK138.out), (by (with_reducible repeat (first | apply bN | apply bD | apply bA)); exact BK139.out), (by (with_reducible repeat (first | apply bN | apply bD | apply bA)); exact BK140.out), (by (with_reducible repeat (first | apply bN | apply bD | apply bA)); exact BK147.out), GW147.out, GE147.out, NB138_147.out, NB147_138.out, NB139_147.out, NB147_139.out, NB140_147.out, NB147_140.out, (by repeat (first | (with_reducible first | exact HB.out | apply lA | apply lN | apply lD | refine lS ?_ GE138.out | refine lS ?_ GE139.out | refine lS ?_ GE140.out | refine lS ?_ GE147.out) | exact HB.out))⟩)
      ·skip
       refine box_step ?hg (N := 10) ?hd (cs := #[.int .i64 0, .int .i64 0]) (t := 35) ?hr ?_; (case hd => rfl); (case hg => rfl); (case hr => first | (go_simp; done) | (go_simp; rfl))
       intro gb148 hg w15 hbox hb
       have n0_ := A0 (blk_below (g := gb138) (o := .cells #[.int .i64 a0_0, .int .i64 a0_1, .int .i64 a0_2, .int .i64 a0_3, .int .i64 a0_4, .bool a0_5] 30 (0, 0)) (by (with_reducible repeat (first | apply bN | apply bD | apply bA)); exact BK138.out) hb)
       have n1_ := A0 (blk_below (g := gb139) (o := .cells #[.int .i64 a1_0, .int .i64 a1_1] 35 (0, 0)) (by (with_reducible repeat (first | apply bN | apply bD | apply bA)); exact BK139.out) hb)
       have n2_ := A0 (blk_below (g := gb140) (o := .cells #[.int .i64 0, .int .i64 0] 35 (0, 0)) (by (with_reducible repeat (first | apply bN | apply bD | apply bA)); exact BK140.out) hb)
       have n3_ := A0 (below_step (by repeat (first | (with_reducible first | exact HB.out | apply lA | apply lN | apply lD | refine lS ?_ GE138.out | refine lS ?_ GE139.out | refine lS ?_ GE140.out) | exact HB.out)) hb)
       have n4_ := A0 (hbox)
       have n5_ := A0 ((by rw [hg]; exact (below_size (by repeat (first | (with_reducible first | exact HB.out | apply lA | apply lN | apply lD | refine lS ?_ GE138.out | refine lS ?_ GE139.out | refine lS ?_ GE140.out) | exact HB.out))) : w.heap.size ≤ gb148))
       have n6_ := n5_
       have n7_ := A0 ((by rw [hg]; exact Nat.ne_of_lt (blk_lt (by (with_reducible repeat (first | apply bN | apply bD | apply bA)); exact BK138.out)) : gb138 ≠ gb148))
       have n8_ := A0 n7_.out.symm
       have n9_ := A0 ((by rw [hg]; exact Nat.ne_of_lt (blk_lt (by (with_reducible repeat (first | apply bN | apply bD | apply bA)); exact BK139.out)) : gb139 ≠ gb148))
       have n10_ := A0 n9_.out.symm
       have n11_ := A0 ((by rw [hg]; exact Nat.ne_of_lt (blk_lt (by (with_reducible repeat (first | apply bN | apply bD | apply bA)); exact BK140.out)) : gb140 ≠ gb148))
       have n12_ := A0 n11_.out.symm
       clear BK138
       clear BK139
       clear BK140
       clear HB
       have BK138 := n0_
       have BK139 := n1_
       have BK140 := n2_
       have HB := n3_
       have BK148 := n4_
       have GW148 := n5_
       have GE148 := n6_
       have NB138_148 := n7_
       have NB148_138 := n8_
       have NB139_148 := n9_
       have NB148_139 := n10_
       have NB140_148 := n11_
       have NB148_140 := n12_
       clear n0_ n1_ n2_ n3_ n4_ n5_ n6_ n7_ n8_ n9_ n10_ n11_ n12_
       clear hb hbox hg
       refine hK.out _ _ ⟨(blk_cell BK138.out 0).trans rfl, (blk_cell BK138.out 1).trans rfl, (blk_cell BK138.out 2).trans rfl, (blk_cell BK138.out 3).trans rfl, (blk_cell BK138.out 4).trans rfl, (blk_cell BK138.out 5).trans rfl, (blk_cell BK139.out 0).trans rfl, (blk_cell BK139.out 1).trans rfl⟩ (fun hHeld => ?_)
       clear hK K
       refine norm_ (a' := ?_) ?_ ?_
       rotate_left
       ·show Act.put _ (some 10) _ = _
        simp only [Act.put, List.setIfInBounds_toArray, List.set_cons_zero, List.set_cons_succ, i64_w, i32_w]
        rfl
       exact norm_ (by simp only [putAll, Act.put, List.setIfInBounds_toArray, List.set_cons_zero, List.set_cons_succ]; try rfl) (hJ3_8_10_12 (gb148) _ ⟨hHeld, (by (with_reducible repeat (first | apply bN | apply bD | apply bA)); exact BK138.out), (by (with_reducible repeat (first | apply bN | apply bD | apply bA)); exact BK139.out), (by (with_reducible repeat (first | apply bN | apply bD | apply bA)); exact BK140.out), (by (with_reducible repeat (first | apply bN | apply bD | apply bA)); exact BK148.out), GW148.out, GE148.out, NB138_148.out, NB148_138.out, NB139_148.out, NB148_139.out, NB140_148.out, NB148_140.out, (by repeat (first | (with_reducible first | exact HB.out | apply lA | apply lN | apply lD | refine lS ?_ GE138.out | refine lS ?_ GE139.out | refine lS ?_ GE140.out | refine lS ?_ GE148.out) | exact HB.out))⟩)
    ·skip
     rintro ⟨gb147, gb148⟩ w15 ⟨hS_, h0_, h1_, h2_, h3_, h4_, h5_, h6_, h7_, h8_, h9_, h10_, h11_, h12_, h13_, h14_, h15_, h16_, h17_, h18_, h19_, h20_, h21_, h22_, h23_⟩
     have n0_ : Aside0 (w15.heap[gb138]? = some (.cells #[.int .i64 a0_0, .int .i64 a0_1, .int .i64 a0_2, .int .i64 a0_3, .int .i64 a0_4, .bool a0_5] 30 (0, 0))) := ⟨h0_⟩
     have n1_ : Aside0 (w15.heap[gb139]? = some (.cells #[.int .i64 a1_0, .int .i64 a1_1] 35 (0, 0))) := ⟨h1_⟩
     have n2_ : Aside0 (w15.heap[gb140]? = some (.cells #[.int .i64 0, .int .i64 0] 35 (0, 0))) := ⟨h2_⟩
     have n3_ : Aside0 (w15.heap[gb147]? = some (.cells #[.int .i64 0, .int .i64 0] 35 (0, 0))) := ⟨h3_⟩
     have n4_ : Aside0 (w15.heap[gb148]? = some (.cells #[.int .i64 0, .int .i64 0] 35 (0, 0))) := ⟨h4_⟩
     have n5_ : Aside0 (w.heap.size ≤ gb147) := ⟨h5_⟩
     have n6_ : Aside0 (w.heap.size ≤ gb147) := ⟨h6_⟩
     have n7_ : Aside0 (gb138 ≠ gb147) := ⟨h7_⟩
     have n8_ : Aside0 (gb147 ≠ gb138) := ⟨h8_⟩
     have n9_ : Aside0 (gb139 ≠ gb147) := ⟨h9_⟩
     have n10_ : Aside0 (gb147 ≠ gb139) := ⟨h10_⟩
     have n11_ : Aside0 (gb140 ≠ gb147) := ⟨h11_⟩
     have n12_ : Aside0 (gb147 ≠ gb140) := ⟨h12_⟩
     have n13_ : Aside0 (gb148 ≠ gb147) := ⟨h13_⟩
     have n14_ : Aside0 (gb147 ≠ gb148) := ⟨h14_⟩
     have n15_ : Aside0 (w.heap.size ≤ gb148) := ⟨h15_⟩
     have n16_ : Aside0 (w.heap.size ≤ gb148) := ⟨h16_⟩
     have n17_ : Aside0 (gb138 ≠ gb148) := ⟨h17_⟩
     have n18_ : Aside0 (gb148 ≠ gb138) := ⟨h18_⟩
     have n19_ : Aside0 (gb139 ≠ gb148) := ⟨h19_⟩
     have n20_ : Aside0 (gb148 ≠ gb139) := ⟨h20_⟩
     have n21_ : Aside0 (gb140 ≠ gb148) := ⟨h21_⟩
     have n22_ : Aside0 (gb148 ≠ gb140) := ⟨h22_⟩
     have n23_ : Aside0 (Below w.heap.size w w15) := ⟨h23_⟩
     clear BK138
     clear BK139
     clear BK140
     clear HB
     clear h0_ h1_ h2_ h3_ h4_ h5_ h6_ h7_ h8_ h9_ h10_ h11_ h12_ h13_ h14_ h15_ h16_ h17_ h18_ h19_ h20_ h21_ h22_ h23_
     have BK138 := n0_
     have BK139 := n1_
     have BK140 := n2_
     have BK147 := n3_
     have BK148 := n4_
     have GW147 := n5_
     have GE147 := n6_
     have NB138_147 := n7_
     have NB147_138 := n8_
     have NB139_147 := n9_
     have NB147_139 := n10_
     have NB140_147 := n11_
     have NB147_140 := n12_
     have NB148_147 := n13_
     have NB147_148 := n14_
     have GW148 := n15_
     have GE148 := n16_
     have NB138_148 := n17_
     have NB148_138 := n18_
     have NB139_148 := n19_
     have NB148_139 := n20_
     have NB140_148 := n21_
     have NB148_140 := n22_
     have HB := n23_
     clear n0_ n1_ n2_ n3_ n4_ n5_ n6_ n7_ n8_ n9_ n10_ n11_ n12_ n13_ n14_ n15_ n16_ n17_ n18_ n19_ n20_ n21_ n22_ n23_
     have hHeld : w15.cell? ⟨gb138, 0, none⟩ = some (.int .i64 a0_0) ∧ w15.cell? ⟨gb138, 1, none⟩ = some (.int .i64 a0_1) ∧ w15.cell? ⟨gb138, 2, none⟩ = some (.int .i64 a0_2) ∧ w15.cell? ⟨gb138, 3, none⟩ = some (.int .i64 a0_3) ∧ w15.cell? ⟨gb138, 4, none⟩ = some (.int .i64 a0_4) ∧ w15.cell? ⟨gb138, 5, none⟩ = some (.bool a0_5) ∧ w15.cell? ⟨gb139, 0, none⟩ = some (.int .i64 a1_0) ∧ w15.cell? ⟨gb139, 1, none⟩ = some (.int .i64 a1_1) := hS_
     refine norm_ (a' := ?_) ?_ ?_
     rotate_left
     ·simp only [putAll, Act.put, List.setIfInBounds_toArray, List.set_cons_zero, List.set_cons_succ]
      rfl
     refine one_ (i := 10) (N := some 24) #[true, true, true, true, true, true, true, true, true, true, true, true, true, false, false] rfl rfl (one_of HT_.out (by kernel_rfl)) (by decide) (fun K hK => ?_)
     refine goes_ Try.func16 (by kernel_rfl) rfl #[.agg #[.int .i64 a0_0, .int .i64 a0_1, .int .i64 a0_2, .int .i64 a0_3, .int .i64 a0_4, .bool a0_5], .agg #[.int .i64 t143, .int .i64 t144], .int .i64 a2] (by rfl) rfl rfl (by (try simp only [List.map_toArray, List.map_cons, List.map_nil]); first | done | rfl | (simp only [List.length_drop, List.length_take]; rfl)) ?_
     with_reducible refine (spec_sdNext.calls k a0_0 a0_1 a0_2 a0_3 a0_4 a0_5 t143 t144 a2 t145 t146 _ A6.out).mono ?_
     rintro e w16 ⟨rfl, hb⟩
     refine ⟨_, rfl, ?_⟩
     have n0_ := A0 (blk_below (g := gb138) (o := .cells #[.int .i64 a0_0, .int .i64 a0_1, .int .i64 a0_2, .int .i64 a0_3, .int .i64 a0_4, .bool a0_5] 30 (0, 0)) (by (with_reducible repeat (first | apply bN | apply bD | apply bA)); exact BK138.out) hb)
     have n1_ := A0 (blk_below (g := gb139) (o := .cells #[.int .i64 a1_0, .int .i64 a1_1] 35 (0, 0)) (by (with_reducible repeat (first | apply bN | apply bD | apply bA)); exact BK139.out) hb)
     have n2_ := A0 (blk_below (g := gb140) (o := .cells #[.int .i64 0, .int .i64 0] 35 (0, 0)) (by (with_reducible repeat (first | apply bN | apply bD | apply bA)); exact BK140.out) hb)
     have n3_ := A0 (blk_below (g := gb147) (o := .cells #[.int .i64 0, .int .i64 0] 35 (0, 0)) (by (with_reducible repeat (first | apply bN | apply bD | apply bA)); exact BK147.out) hb)
     have n4_ := A0 (blk_below (g := gb148) (o := .cells #[.int .i64 0, .int .i64 0] 35 (0, 0)) (by (with_reducible repeat (first | apply bN | apply bD | apply bA)); exact BK148.out) hb)
     have n5_ := A0 (below_step (by repeat (first | (with_reducible first | exact HB.out | apply lA | apply lN | apply lD | refine lS ?_ GE138.out | refine lS ?_ GE139.out | refine lS ?_ GE140.out | refine lS ?_ GE147.out | refine lS ?_ GE148.out) | exact HB.out)) hb)
     clear BK138
     clear BK139
     clear BK140
     clear BK147
     clear BK148
     clear HB
     have BK138 := n0_
     have BK139 := n1_
     have BK140 := n2_
     have BK147 := n3_
     have BK148 := n4_
     have HB := n5_
     clear n0_ n1_ n2_ n3_ n4_ n5_
     (try clear hb)
     (try clear hb2)
     (try clear hk)
     (try clear hi)
     refine hK.out _ _ ⟨(blk_cell BK138.out 0).trans rfl, (blk_cell BK138.out 1).trans rfl, (blk_cell BK138.out 2).trans rfl, (blk_cell BK138.out 3).trans rfl, (blk_cell BK138.out 4).trans rfl, (blk_cell BK138.out 5).trans rfl, (blk_cell BK139.out 0).trans rfl, (blk_cell BK139.out 1).trans rfl⟩ (fun hHeld => ?_)
     clear hK K
     refine norm_ (a' := ?_) ?_ ?_
     rotate_left
     ·show Act.put _ (some 24) _ = _
      simp only [Act.put, List.setIfInBounds_toArray, List.set_cons_zero, List.set_cons_succ, i64_w, i32_w]
      rfl
     exact norm_ (by simp only [putAll, Act.put, List.setIfInBounds_toArray, List.set_cons_zero, List.set_cons_succ]; try rfl) (hJ3_8_10_11_12 (gb147, gb148) _ ⟨hHeld, (by (with_reducible repeat (first | apply bN | apply bD | apply bA)); exact BK138.out), (by (with_reducible repeat (first | apply bN | apply bD | apply bA)); exact BK139.out), (by (with_reducible repeat (first | apply bN | apply bD | apply bA)); exact BK140.out), (by (with_reducible repeat (first | apply bN | apply bD | apply bA)); exact BK147.out), (by (with_reducible repeat (first | apply bN | apply bD | apply bA)); exact BK148.out), GW147.out, GE147.out, NB138_147.out, NB147_138.out, NB139_147.out, NB147_139.out, NB140_147.out, NB147_140.out, NB148_147.out, NB147_148.out, GW148.out, GE148.out, NB138_148.out, NB148_138.out, NB139_148.out, NB148_139.out, NB140_148.out, NB148_140.out, (by repeat (first | (with_reducible first | exact HB.out | apply lA | apply lN | apply lD | refine lS ?_ GE138.out | refine lS ?_ GE139.out | refine lS ?_ GE140.out | refine lS ?_ GE147.out | refine lS ?_ GE148.out) | exact HB.out))⟩)
   ·skip
    rintro gb148 w15 ⟨hS_, h0_, h1_, h2_, h3_, h4_, h5_, h6_, h7_, h8_, h9_, h10_, h11_, h12_⟩
    have n0_ : Aside0 (w15.heap[gb138]? = some (.cells #[.int .i64 a0_0, .int .i64 a0_1, .int .i64 a0_2, .int .i64 a0_3, .int .i64 a0_4, .bool a0_5] 30 (0, 0))) := ⟨h0_⟩
    have n1_ : Aside0 (w15.heap[gb139]? = some (.cells #[.int .i64 a1_0, .int .i64 a1_1] 35 (0, 0))) := ⟨h1_⟩
    have n2_ : Aside0 (w15.heap[gb140]? = some (.cells #[.int .i64 0, .int .i64 0] 35 (0, 0))) := ⟨h2_⟩
    have n3_ : Aside0 (w15.heap[gb148]? = some (.cells #[.int .i64 0, .int .i64 0] 35 (0, 0))) := ⟨h3_⟩
    have n4_ : Aside0 (w.heap.size ≤ gb148) := ⟨h4_⟩
    have n5_ : Aside0 (w.heap.size ≤ gb148) := ⟨h5_⟩
    have n6_ : Aside0 (gb138 ≠ gb148) := ⟨h6_⟩
    have n7_ : Aside0 (gb148 ≠ gb138) := ⟨h7_⟩
    have n8_ : Aside0 (gb139 ≠ gb148) := ⟨h8_⟩
    have n9_ : Aside0 (gb148 ≠ gb139) := ⟨h9_⟩
    have n10_ : Aside0 (gb140 ≠ gb148) := ⟨h10_⟩
    have n11_ : Aside0 (gb148 ≠ gb140) := ⟨h11_⟩
    have n12_ : Aside0 (Below w.heap.size w w15) := ⟨h12_⟩
    clear BK138
    clear BK139
    clear BK140
    clear HB
    clear h0_ h1_ h2_ h3_ h4_ h5_ h6_ h7_ h8_ h9_ h10_ h11_ h12_
    have BK138 := n0_
    have BK139 := n1_
    have BK140 := n2_
    have BK148 := n3_
    have GW148 := n4_
    have GE148 := n5_
    have NB138_148 := n6_
    have NB148_138 := n7_
    have NB139_148 := n8_
    have NB148_139 := n9_
    have NB140_148 := n10_
    have NB148_140 := n11_
    have HB := n12_
    clear n0_ n1_ n2_ n3_ n4_ n5_ n6_ n7_ n8_ n9_ n10_ n11_ n12_
    have hHeld : w15.cell? ⟨gb138, 0, none⟩ = some (.int .i64 a0_0) ∧ w15.cell? ⟨gb138, 1, none⟩ = some (.int .i64 a0_1) ∧ w15.cell? ⟨gb138, 2, none⟩ = some (.int .i64 a0_2) ∧ w15.cell? ⟨gb138, 3, none⟩ = some (.int .i64 a0_3) ∧ w15.cell? ⟨gb138, 4, none⟩ = some (.int .i64 a0_4) ∧ w15.cell? ⟨gb138, 5, none⟩ = some (.bool a0_5) ∧ w15.cell? ⟨gb139, 0, none⟩ = some (.int .i64 a1_0) ∧ w15.cell? ⟨gb139, 1, none⟩ = some (.int .i64 a1_1) := hS_
    refine norm_ (a' := ?_) ?_ ?_
    rotate_left
    ·simp only [putAll, Act.put, List.setIfInBounds_toArray, List.set_cons_zero, List.set_cons_succ]
     rfl
    refine one_ (i := 11) (N := some 9) #[true, true, true, true, true, true, true, true, true, true, true, true, true, false, false] rfl rfl (one_of HT_.out (by kernel_rfl)) (by decide) (fun K hK => ?_)
    refine box_step ?hg (N := 9) ?hd (cs := #[.int .i64 0, .int .i64 0]) (t := 35) ?hr ?_; (case hd => rfl); (case hg => rfl); (case hr => first | (go_simp; done) | (go_simp; rfl))
    intro gb147 hg w16 hbox hb
    have n0_ := A0 (blk_below (g := gb138) (o := .cells #[.int .i64 a0_0, .int .i64 a0_1, .int .i64 a0_2, .int .i64 a0_3, .int .i64 a0_4, .bool a0_5] 30 (0, 0)) (by (with_reducible repeat (first | apply bN | apply bD | apply bA)); exact BK138.out) hb)
    have n1_ := A0 (blk_below (g := gb139) (o := .cells #[.int .i64 a1_0, .int .i64 a1_1] 35 (0, 0)) (by (with_reducible repeat (first | apply bN | apply bD | apply bA)); exact BK139.out) hb)
    have n2_ := A0 (blk_below (g := gb140) (o := .cells #[.int .i64 0, .int .i64 0] 35 (0, 0)) (by (with_reducible repeat (first | apply bN | apply bD | apply bA)); exact BK140.out) hb)
    have n3_ := A0 (blk_below (g := gb148) (o := .cells #[.int .i64 0, .int .i64 0] 35 (0, 0)) (by (with_reducible repeat (first | apply bN | apply bD | apply bA)); exact BK148.out) hb)
    have n4_ := A0 (below_step (by repeat (first | (with_reducible first | exact HB.out | apply lA | apply lN | apply lD | refine lS ?_ GE138.out | refine lS ?_ GE139.out | refine lS ?_ GE140.out | refine lS ?_ GE148.out) | exact HB.out)) hb)
    have n5_ := A0 (hbox)
    have n6_ := A0 ((by rw [hg]; exact (below_size (by repeat (first | (with_reducible first | exact HB.out | apply lA | apply lN | apply lD | refine lS ?_ GE138.out | refine lS ?_ GE139.out | refine lS ?_ GE140.out | refine lS ?_ GE148.out) | exact HB.out))) : w.heap.size ≤ gb147))
    have n7_ := n6_
    have n8_ := A0 ((by rw [hg]; exact Nat.ne_of_lt (blk_lt (by (with_reducible repeat (first | apply bN | apply bD | apply bA)); exact BK138.out)) : gb138 ≠ gb147))
    have n9_ := A0 n8_.out.symm
    have n10_ := A0 ((by rw [hg]; exact Nat.ne_of_lt (blk_lt (by (with_reducible repeat (first | apply bN | apply bD | apply bA)); exact BK139.out)) : gb139 ≠ gb147))
    have n11_ := A0 n10_.out.symm
    have n12_ := A0 ((by rw [hg]; exact Nat.ne_of_lt (blk_lt (by (with_reducible repeat (first | apply bN | apply bD | apply bA)); exact BK140.out)) : gb140 ≠ gb147))
    have n13_ := A0 n12_.out.symm
    have n14_ := A0 ((by rw [hg]; exact Nat.ne_of_lt (blk_lt (by (with_reducible repeat (first | apply bN | apply bD | apply bA)); exact BK148.out)) : gb148 ≠ gb147))
    have n15_ := A0 n14_.out.symm
    clear BK138
    clear BK139
    clear BK140
    clear BK148
    clear HB
    have BK138 := n0_
    have BK139 := n1_
    have BK140 := n2_
    have BK148 := n3_
    have HB := n4_
    have BK147 := n5_
    have GW147 := n6_
    have GE147 := n7_
    have NB138_147 := n8_
    have NB147_138 := n9_
    have NB139_147 := n10_
    have NB147_139 := n11_
    have NB140_147 := n12_
    have NB147_140 := n13_
    have NB148_147 := n14_
    have NB147_148 := n15_
    clear n0_ n1_ n2_ n3_ n4_ n5_ n6_ n7_ n8_ n9_ n10_ n11_ n12_ n13_ n14_ n15_
    clear hb hbox hg
    refine hK.out _ _ ⟨(blk_cell BK138.out 0).trans rfl, (blk_cell BK138.out 1).trans rfl, (blk_cell BK138.out 2).trans rfl, (blk_cell BK138.out 3).trans rfl, (blk_cell BK138.out 4).trans rfl, (blk_cell BK138.out 5).trans rfl, (blk_cell BK139.out 0).trans rfl, (blk_cell BK139.out 1).trans rfl⟩ (fun hHeld => ?_)
    clear hK K
    refine norm_ (a' := ?_) ?_ ?_
    rotate_left
    ·show Act.put _ (some 9) _ = _
     simp only [Act.put, List.setIfInBounds_toArray, List.set_cons_zero, List.set_cons_succ, i64_w, i32_w]
     rfl
    exact norm_ (by simp only [putAll, Act.put, List.setIfInBounds_toArray, List.set_cons_zero, List.set_cons_succ]; try rfl) (hJ3_8_10_11_12 (gb147, gb148) _ ⟨hHeld, (by (with_reducible repeat (first | apply bN | apply bD | apply bA)); exact BK138.out), (by (with_reducible repeat (first | apply bN | apply bD | apply bA)); exact BK139.out), (by (with_reducible repeat (first | apply bN | apply bD | apply bA)); exact BK140.out), (by (with_reducible repeat (first | apply bN | apply bD | apply bA)); exact BK147.out), (by (with_reducible repeat (first | apply bN | apply bD | apply bA)); exact BK148.out), GW147.out, GE147.out, NB138_147.out, NB147_138.out, NB139_147.out, NB147_139.out, NB140_147.out, NB147_140.out, NB148_147.out, NB147_148.out, GW148.out, GE148.out, NB138_148.out, NB148_138.out, NB139_148.out, NB148_139.out, NB140_148.out, NB148_140.out, (by repeat (first | (with_reducible first | exact HB.out | apply lA | apply lN | apply lD | refine lS ?_ GE138.out | refine lS ?_ GE139.out | refine lS ?_ GE140.out | refine lS ?_ GE148.out | refine lS ?_ GE147.out) | exact HB.out))⟩)
  ·skip
   rintro gb147 w15 ⟨hS_, h0_, h1_, h2_, h3_, h4_, h5_, h6_, h7_, h8_, h9_, h10_, h11_, h12_⟩
   have n0_ : Aside0 (w15.heap[gb138]? = some (.cells #[.int .i64 a0_0, .int .i64 a0_1, .int .i64 a0_2, .int .i64 a0_3, .int .i64 a0_4, .bool a0_5] 30 (0, 0))) := ⟨h0_⟩
   have n1_ : Aside0 (w15.heap[gb139]? = some (.cells #[.int .i64 a1_0, .int .i64 a1_1] 35 (0, 0))) := ⟨h1_⟩
   have n2_ : Aside0 (w15.heap[gb140]? = some (.cells #[.int .i64 0, .int .i64 0] 35 (0, 0))) := ⟨h2_⟩
   have n3_ : Aside0 (w15.heap[gb147]? = some (.cells #[.int .i64 0, .int .i64 0] 35 (0, 0))) := ⟨h3_⟩
   have n4_ : Aside0 (w.heap.size ≤ gb147) := ⟨h4_⟩
   have n5_ : Aside0 (w.heap.size ≤ gb147) := ⟨h5_⟩
   have n6_ : Aside0 (gb138 ≠ gb147) := ⟨h6_⟩
   have n7_ : Aside0 (gb147 ≠ gb138) := ⟨h7_⟩
   have n8_ : Aside0 (gb139 ≠ gb147) := ⟨h8_⟩
   have n9_ : Aside0 (gb147 ≠ gb139) := ⟨h9_⟩
   have n10_ : Aside0 (gb140 ≠ gb147) := ⟨h10_⟩
   have n11_ : Aside0 (gb147 ≠ gb140) := ⟨h11_⟩
   have n12_ : Aside0 (Below w.heap.size w w15) := ⟨h12_⟩
   clear BK138
   clear BK139
   clear BK140
   clear HB
   clear h0_ h1_ h2_ h3_ h4_ h5_ h6_ h7_ h8_ h9_ h10_ h11_ h12_
   have BK138 := n0_
   have BK139 := n1_
   have BK140 := n2_
   have BK147 := n3_
   have GW147 := n4_
   have GE147 := n5_
   have NB138_147 := n6_
   have NB147_138 := n7_
   have NB139_147 := n8_
   have NB147_139 := n9_
   have NB140_147 := n10_
   have NB147_140 := n11_
   have HB := n12_
   clear n0_ n1_ n2_ n3_ n4_ n5_ n6_ n7_ n8_ n9_ n10_ n11_ n12_
   have hHeld : w15.cell? ⟨gb138, 0, none⟩ = some (.int .i64 a0_0) ∧ w15.cell? ⟨gb138, 1, none⟩ = some (.int .i64 a0_1) ∧ w15.cell? ⟨gb138, 2, none⟩ = some (.int .i64 a0_2) ∧ w15.cell? ⟨gb138, 3, none⟩ = some (.int .i64 a0_3) ∧ w15.cell? ⟨gb138, 4, none⟩ = some (.int .i64 a0_4) ∧ w15.cell? ⟨gb138, 5, none⟩ = some (.bool a0_5) ∧ w15.cell? ⟨gb139, 0, none⟩ = some (.int .i64 a1_0) ∧ w15.cell? ⟨gb139, 1, none⟩ = some (.int .i64 a1_1) := hS_
   refine norm_ (a' := ?_) ?_ ?_
   rotate_left
   ·simp only [putAll, Act.put, List.setIfInBounds_toArray, List.set_cons_zero, List.set_cons_succ]
    rfl
   refine one_ (i := 12) (N := some 10) #[true, true, true, true, true, true, true, true, true, true, true, true, true, false, false] rfl rfl (one_of HT_.out (by kernel_rfl)) (by decide) (fun K hK => ?_)
   refine box_step ?hg (N := 10) ?hd (cs := #[.int .i64 0, .int .i64 0]) (t := 35) ?hr ?_; (case hd => rfl); (case hg => rfl); (case hr => first | (go_simp; done) | (go_simp; rfl))
   intro gb148 hg w16 hbox hb
   have n0_ := A0 (blk_below (g := gb138) (o := .cells #[.int .i64 a0_0, .int .i64 a0_1, .int .i64 a0_2, .int .i64 a0_3, .int .i64 a0_4, .bool a0_5] 30 (0, 0)) (by (with_reducible repeat (first | apply bN | apply bD | apply bA)); exact BK138.out) hb)
   have n1_ := A0 (blk_below (g := gb139) (o := .cells #[.int .i64 a1_0, .int .i64 a1_1] 35 (0, 0)) (by (with_reducible repeat (first | apply bN | apply bD | apply bA)); exact BK139.out) hb)
   have n2_ := A0 (blk_below (g := gb140) (o := .cells #[.int .i64 0, .int .i64 0] 35 (0, 0)) (by (with_reducible repeat (first | apply bN | apply bD | apply bA)); exact BK140.out) hb)
   have n3_ := A0 (blk_below (g := gb147) (o := .cells #[.int .i64 0, .int .i64 0] 35 (0, 0)) (by (with_reducible repeat (first | apply bN | apply bD | apply bA)); exact BK147.out) hb)
   have n4_ := A0 (below_step (by repeat (first | (with_reducible first | exact HB.out | apply lA | apply lN | apply lD | refine lS ?_ GE138.out | refine lS ?_ GE139.out | refine lS ?_ GE140.out | refine lS ?_ GE147.out) | exact HB.out)) hb)
   have n5_ := A0 (hbox)
   have n6_ := A0 ((by rw [hg]; exact (below_size (by repeat (first | (with_reducible first | exact HB.out | apply lA | apply lN | apply lD | refine lS ?_ GE138.out | refine lS ?_ GE139.out | refine lS ?_ GE140.out | refine lS ?_ GE147.out) | exact HB.out))) : w.heap.size ≤ gb148))
   have n7_ := n6_
   have n8_ := A0 ((by rw [hg]; exact Nat.ne_of_lt (blk_lt (by (with_reducible repeat (first | apply bN | apply bD | apply bA)); exact BK138.out)) : gb138 ≠ gb148))
   have n9_ := A0 n8_.out.symm
   have n10_ := A0 ((by rw [hg]; exact Nat.ne_of_lt (blk_lt (by (with_reducible repeat (first | apply bN | apply bD | apply bA)); exact BK139.out)) : gb139 ≠ gb148))
   have n11_ := A0 n10_.out.symm
   have n12_ := A0 ((by rw [hg]; exact Nat.ne_of_lt (blk_lt (by (with_reducible repeat (first | apply bN | apply bD | apply bA)); exact BK140.out)) : gb140 ≠ gb148))
   have n13_ := A0 n12_.out.symm
   have n14_ := A0 ((by rw [hg]; exact Nat.ne_of_lt (blk_lt (by (with_reducible repeat (first | apply bN | apply bD | apply bA)); exact BK147.out)) : gb147 ≠ gb148))
   have n15_ := A0 n14_.out.symm
   clear BK138
   clear BK139
   clear BK140
   clear BK147
   clear HB
   have BK138 := n0_
   have BK139 := n1_
   have BK140 := n2_
   have BK147 := n3_
   have HB := n4_
   have BK148 := n5_
   have GW148 := n6_
   have GE148 := n7_
   have NB138_148 := n8_
   have NB148_138 := n9_
   have NB139_148 := n10_
   have NB148_139 := n11_
   have NB140_148 := n12_
   have NB148_140 := n13_
   have NB147_148 := n14_
   have NB148_147 := n15_
   clear n0_ n1_ n2_ n3_ n4_ n5_ n6_ n7_ n8_ n9_ n10_ n11_ n12_ n13_ n14_ n15_
   clear hb hbox hg
   refine hK.out _ _ ⟨(blk_cell BK138.out 0).trans rfl, (blk_cell BK138.out 1).trans rfl, (blk_cell BK138.out 2).trans rfl, (blk_cell BK138.out 3).trans rfl, (blk_cell BK138.out 4).trans rfl, (blk_cell BK138.out 5).trans rfl, (blk_cell BK139.out 0).trans rfl, (blk_cell BK139.out 1).trans rfl⟩ (fun hHeld => ?_)
   clear hK K
   refine norm_ (a' := ?_) ?_ ?_
   rotate_left
   ·show Act.put _ (some 10) _ = _
    simp only [Act.put, List.setIfInBounds_toArray, List.set_cons_zero, List.set_cons_succ, i64_w, i32_w]
    rfl
   exact norm_ (by simp only [putAll, Act.put, List.setIfInBounds_toArray, List.set_cons_zero, List.set_cons_succ]; try rfl) (hJ3_8_10_11_12 (gb147, gb148) _ ⟨hHeld, (by (with_reducible repeat (first | apply bN | apply bD | apply bA)); exact BK138.out), (by (with_reducible repeat (first | apply bN | apply bD | apply bA)); exact BK139.out), (by (with_reducible repeat (first | apply bN | apply bD | apply bA)); exact BK140.out), (by (with_reducible repeat (first | apply bN | apply bD | apply bA)); exact BK147.out), (by (with_reducible repeat (first | apply bN | apply bD | apply bA)); exact BK148.out), GW147.out, GE147.out, NB138_147.out, NB147_138.out, NB139_147.out, NB147_139.out, NB140_147.out, NB147_140.out, NB148_147.out, NB147_148.out, GW148.out, GE148.out, NB138_148.out, NB148_138.out, NB139_148.out, NB148_139.out, NB140_148.out, NB148_140.out, (by repeat (first | (with_reducible first | exact HB.out | apply lA | apply lN | apply lD | refine lS ?_ GE138.out | refine lS ?_ GE139.out | refine lS ?_ GE140.out | refine lS ?_ GE147.out | refine lS ?_ GE148.out) | exact HB.out))⟩)
 rintro ⟨gb147, gb148⟩ w16 ⟨hS_, h0_, h1_, h2_, h3_, h4_, h5_, h6_, h7_, h8_, h9_, h10_, h11_, h12_, h13_, h14_, h15_, h16_, h17_, h18_, h19_, h20_, h21_, h22_, h23_⟩
 have n0_ : Aside0 (w16.heap[gb138]? = some (.cells #[.int .i64 a0_0, .int .i64 a0_1, .int .i64 a0_2, .int .i64 a0_3, .int .i64 a0_4, .bool a0_5] 30 (0, 0))) := ⟨h0_⟩
 have n1_ : Aside0 (w16.heap[gb139]? = some (.cells #[.int .i64 a1_0, .int .i64 a1_1] 35 (0, 0))) := ⟨h1_⟩
 have n2_ : Aside0 (w16.heap[gb140]? = some (.cells #[.int .i64 0, .int .i64 0] 35 (0, 0))) := ⟨h2_⟩
 have n3_ : Aside0 (w16.heap[gb147]? = some (.cells #[.int .i64 0, .int .i64 0] 35 (0, 0))) := ⟨h3_⟩
 have n4_ : Aside0 (w16.heap[gb148]? = some (.cells #[.int .i64 0, .int .i64 0] 35 (0, 0))) := ⟨h4_⟩
 have n5_ : Aside0 (w.heap.size ≤ gb147) := ⟨h5_⟩
 have n6_ : Aside0 (w.heap.size ≤ gb147) := ⟨h6_⟩
 have n7_ : Aside0 (gb138 ≠ gb147) := ⟨h7_⟩
 have n8_ : Aside0 (gb147 ≠ gb138) := ⟨h8_⟩
 have n9_ : Aside0 (gb139 ≠ gb147) := ⟨h9_⟩
 have n10_ : Aside0 (gb147 ≠ gb139) := ⟨h10_⟩
 have n11_ : Aside0 (gb140 ≠ gb147) := ⟨h11_⟩
 have n12_ : Aside0 (gb147 ≠ gb140) := ⟨h12_⟩
 have n13_ : Aside0 (gb148 ≠ gb147) := ⟨h13_⟩
 have n14_ : Aside0 (gb147 ≠ gb148) := ⟨h14_⟩
 have n15_ : Aside0 (w.heap.size ≤ gb148) := ⟨h15_⟩
 have n16_ : Aside0 (w.heap.size ≤ gb148) := ⟨h16_⟩
 have n17_ : Aside0 (gb138 ≠ gb148) := ⟨h17_⟩
 have n18_ : Aside0 (gb148 ≠ gb138) := ⟨h18_⟩
 have n19_ : Aside0 (gb139 ≠ gb148) := ⟨h19_⟩
 have n20_ : Aside0 (gb148 ≠ gb139) := ⟨h20_⟩
 have n21_ : Aside0 (gb140 ≠ gb148) := ⟨h21_⟩
 have n22_ : Aside0 (gb148 ≠ gb140) := ⟨h22_⟩
 have n23_ : Aside0 (Below w.heap.size w w16) := ⟨h23_⟩
 clear BK138
 clear BK139
 clear BK140
 clear HB
 clear h0_ h1_ h2_ h3_ h4_ h5_ h6_ h7_ h8_ h9_ h10_ h11_ h12_ h13_ h14_ h15_ h16_ h17_ h18_ h19_ h20_ h21_ h22_ h23_
 have BK138 := n0_
 have BK139 := n1_
 have BK140 := n2_
 have BK147 := n3_
 have BK148 := n4_
 have GW147 := n5_
 have GE147 := n6_
 have NB138_147 := n7_
 have NB147_138 := n8_
 have NB139_147 := n9_
 have NB147_139 := n10_
 have NB140_147 := n11_
 have NB147_140 := n12_
 have NB148_147 := n13_
 have NB147_148 := n14_
 have GW148 := n15_
 have GE148 := n16_
 have NB138_148 := n17_
 have NB148_138 := n18_
 have NB139_148 := n19_
 have NB148_139 := n20_
 have NB140_148 := n21_
 have NB148_140 := n22_
 have HB := n23_
 clear n0_ n1_ n2_ n3_ n4_ n5_ n6_ n7_ n8_ n9_ n10_ n11_ n12_ n13_ n14_ n15_ n16_ n17_ n18_ n19_ n20_ n21_ n22_ n23_
 have hHeld : w16.cell? ⟨gb138, 0, none⟩ = some (.int .i64 a0_0) ∧ w16.cell? ⟨gb138, 1, none⟩ = some (.int .i64 a0_1) ∧ w16.cell? ⟨gb138, 2, none⟩ = some (.int .i64 a0_2) ∧ w16.cell? ⟨gb138, 3, none⟩ = some (.int .i64 a0_3) ∧ w16.cell? ⟨gb138, 4, none⟩ = some (.int .i64 a0_4) ∧ w16.cell? ⟨gb138, 5, none⟩ = some (.bool a0_5) ∧ w16.cell? ⟨gb139, 0, none⟩ = some (.int .i64 a1_0) ∧ w16.cell? ⟨gb139, 1, none⟩ = some (.int .i64 a1_1) := hS_
 refine norm_ (a' := ?_) ?_ ?_
 rotate_left
 ·simp only [putAll, Act.put, List.setIfInBounds_toArray, List.set_cons_zero, List.set_cons_succ]
  rfl
 refine one_ (i := 13) (N := none) #[true, true, true, true, true, true, true, true, true, true, true, true, true, true, false] rfl rfl (one_of HT_.out (by kernel_rfl)) (by decide) (fun K hK => ?_)
 have hs17 : w16.cell? ⟨gb147, 0, none⟩ = some (.int .i64 0) := (blk_cell BK147.out 0).trans rfl
 have hfs17 := blk_frozen BK147.out 0
 have hns17_0 := NB138_147.out
 have hns17_1 := NB139_147.out
 have hns17_2 := NB140_147.out
 have hns17_4 := NB148_147.out
 have hms17_0 := NB147_138.out
 have hms17_1 := NB147_139.out
 have hms17_2 := NB147_140.out
 have hms17_4 := NB147_148.out
 have hs18 : w16.cell? ⟨gb147, 1, none⟩ = some (.int .i64 0) := (blk_cell BK147.out 1).trans rfl
 have hfs18 := blk_frozen BK147.out 1
 have hns18_0 := NB138_147.out
 have hns18_1 := NB139_147.out
 have hns18_2 := NB140_147.out
 have hns18_4 := NB148_147.out
 have hms18_0 := NB147_138.out
 have hms18_1 := NB147_139.out
 have hms18_2 := NB147_140.out
 have hms18_4 := NB147_148.out
 refine skip_ (w1 := ?_) (by rfl) rfl ?_ ?_
 rotate_left
 ·go_simp
  rfl
 refine hK.out _ _ ⟨((cell_far (p := ⟨gb147, _, none⟩) NB138_147.out _).trans (((cell_far (p := ⟨gb147, _, none⟩) NB138_147.out _).trans (hHeld.1)))), ((cell_far (p := ⟨gb147, _, none⟩) NB138_147.out _).trans (((cell_far (p := ⟨gb147, _, none⟩) NB138_147.out _).trans (hHeld.2.1)))), ((cell_far (p := ⟨gb147, _, none⟩) NB138_147.out _).trans (((cell_far (p := ⟨gb147, _, none⟩) NB138_147.out _).trans (hHeld.2.2.1)))), ((cell_far (p := ⟨gb147, _, none⟩) NB138_147.out _).trans (((cell_far (p := ⟨gb147, _, none⟩) NB138_147.out _).trans (hHeld.2.2.2.1)))), ((cell_far (p := ⟨gb147, _, none⟩) NB138_147.out _).trans (((cell_far (p := ⟨gb147, _, none⟩) NB138_147.out _).trans (hHeld.2.2.2.2.1)))), ((cell_far (p := ⟨gb147, _, none⟩) NB138_147.out _).trans (((cell_far (p := ⟨gb147, _, none⟩) NB138_147.out _).trans (hHeld.2.2.2.2.2.1)))), ((cell_far (p := ⟨gb147, _, none⟩) NB139_147.out _).trans (((cell_far (p := ⟨gb147, _, none⟩) NB139_147.out _).trans (hHeld.2.2.2.2.2.2.1)))), ((cell_far (p := ⟨gb147, _, none⟩) NB139_147.out _).trans (((cell_far (p := ⟨gb147, _, none⟩) NB139_147.out _).trans (hHeld.2.2.2.2.2.2.2))))⟩ (fun hHeld => ?_)
 clear hK K
 refine one_ (i := 14) (N := none) #[true, true, true, true, true, true, true, true, true, true, true, true, true, true, true] rfl rfl (one_of HT_.out (by kernel_rfl)) (by decide) (fun K hK => ?_)
 have hs19 : w16.cell? ⟨gb148, 0, none⟩ = some (.int .i64 0) := (blk_cell BK148.out 0).trans rfl
 have hfs19 := blk_frozen BK148.out 0
 have hns19_0 := NB138_148.out
 have hns19_1 := NB139_148.out
 have hns19_2 := NB140_148.out
 have hns19_3 := NB147_148.out
 have hms19_0 := NB148_138.out
 have hms19_1 := NB148_139.out
 have hms19_2 := NB148_140.out
 have hms19_3 := NB148_147.out
 have hs20 : w16.cell? ⟨gb148, 1, none⟩ = some (.int .i64 0) := (blk_cell BK148.out 1).trans rfl
 have hfs20 := blk_frozen BK148.out 1
 have hns20_0 := NB138_148.out
 have hns20_1 := NB139_148.out
 have hns20_2 := NB140_148.out
 have hns20_3 := NB147_148.out
 have hms20_0 := NB148_138.out
 have hms20_1 := NB148_139.out
 have hms20_2 := NB148_140.out
 have hms20_3 := NB148_147.out
 refine skip_ (w1 := ?_) (by rfl) rfl ?_ ?_
 rotate_left
 ·go_simp
  rfl
 refine hK.out _ _ ⟨((cell_far (p := ⟨gb148, _, none⟩) NB138_148.out _).trans (((cell_far (p := ⟨gb148, _, none⟩) NB138_148.out _).trans (hHeld.1)))), ((cell_far (p := ⟨gb148, _, none⟩) NB138_148.out _).trans (((cell_far (p := ⟨gb148, _, none⟩) NB138_148.out _).trans (hHeld.2.1)))), ((cell_far (p := ⟨gb148, _, none⟩) NB138_148.out _).trans (((cell_far (p := ⟨gb148, _, none⟩) NB138_148.out _).trans (hHeld.2.2.1)))), ((cell_far (p := ⟨gb148, _, none⟩) NB138_148.out _).trans (((cell_far (p := ⟨gb148, _, none⟩) NB138_148.out _).trans (hHeld.2.2.2.1)))), ((cell_far (p := ⟨gb148, _, none⟩) NB138_148.out _).trans (((cell_far (p := ⟨gb148, _, none⟩) NB138_148.out _).trans (hHeld.2.2.2.2.1)))), ((cell_far (p := ⟨gb148, _, none⟩) NB138_148.out _).trans (((cell_far (p := ⟨gb148, _, none⟩) NB138_148.out _).trans (hHeld.2.2.2.2.2.1)))), ((cell_far (p := ⟨gb148, _, none⟩) NB139_148.out _).trans (((cell_far (p := ⟨gb148, _, none⟩) NB139_148.out _).trans (hHeld.2.2.2.2.2.2.1)))), ((cell_far (p := ⟨gb148, _, none⟩) NB139_148.out _).trans (((cell_far (p := ⟨gb148, _, none⟩) NB139_148.out _).trans (hHeld.2.2.2.2.2.2.2))))⟩ (fun hHeld => ?_)
 clear hK K
 refine done_ (done_of HT_.out (by kernel_rfl)) ?_
 try go_wp2
 go_loopg [11] k (fun kq v11 w' => ∃ (x11_1 : Int) (x141000_1 : Int) (x141001_1 : Int) (x148000_1 : Int) (x148001_1 : Int) (x149000_1 : Int) (x149001_1 : Int), v11 = .int .i64 x11_1 ∧ Aside0 (spec_sdMeet.l0 kq a2 x11_1 a0_0 a0_1 a0_2 a0_3 a0_4 a0_5 a1_0 a1_1 x148000_1 x148001_1 x149000_1 x149001_1 = some (r1, r2, r3, r4)) ∧ Aside0 (kq ≤ k) ∧ Aside0 (w'.heap[gb138]? = some (.cells #[.int .i64 a0_0, .int .i64 a0_1, .int .i64 a0_2, .int .i64 a0_3, .int .i64 a0_4, .bool a0_5] 30 (0, 0))) ∧ Aside0 (w'.heap[gb139]? = some (.cells #[.int .i64 a1_0, .int .i64 a1_1] 35 (0, 0))) ∧ Aside0 (w'.heap[gb140]? = some (.cells #[.int .i64 x141000_1, .int .i64 x141001_1] 35 (0, 0))) ∧ Aside0 (w'.heap[gb147]? = some (.cells #[.int .i64 x148000_1, .int .i64 x148001_1] 35 (0, 0))) ∧ Aside0 (w'.heap[gb148]? = some (.cells #[.int .i64 x149000_1, .int .i64 x149001_1] 35 (0, 0))) ∧ Aside0 (Below w.heap.size w w'))
 case atStart => exact ⟨(1), (0), (0), (t141), (t142), (t145), (t146), (by first | rfl | (simp; done) | (simp [*]; done)), H', ⟨Nat.le_refl _⟩, ⟨by (with_reducible repeat (first | apply bN | apply bD | apply bA)); refine blk_far ?_ NB138_148.out _; (with_reducible repeat (first | apply bN | apply bD | apply bA)); refine blk_far ?_ NB138_148.out _; (with_reducible repeat (first | apply bN | apply bD | apply bA)); refine blk_far ?_ NB138_147.out _; (with_reducible repeat (first | apply bN | apply bD | apply bA)); refine blk_far ?_ NB138_147.out _; (with_reducible repeat (first | apply bN | apply bD | apply bA)); exact BK138.out⟩, ⟨by (with_reducible repeat (first | apply bN | apply bD | apply bA)); refine blk_far ?_ NB139_148.out _; (with_reducible repeat (first | apply bN | apply bD | apply bA)); refine blk_far ?_ NB139_148.out _; (with_reducible repeat (first | apply bN | apply bD | apply bA)); refine blk_far ?_ NB139_147.out _; (with_reducible repeat (first | apply bN | apply bD | apply bA)); refine blk_far ?_ NB139_147.out _; (with_reducible repeat (first | apply bN | apply bD | apply bA)); exact BK139.out⟩, ⟨by (with_reducible repeat (first | apply bN | apply bD | apply bA)); refine blk_far ?_ NB140_148.out _; (with_reducible repeat (first | apply bN | apply bD | apply bA)); refine blk_far ?_ NB140_148.out _; (with_reducible repeat (first | apply bN | apply bD | apply bA)); refine blk_far ?_ NB140_147.out _; (with_reducible repeat (first | apply bN | apply bD | apply bA)); refine blk_far ?_ NB140_147.out _; (with_reducible repeat (first | apply bN | apply bD | apply bA)); exact BK140.out⟩, ⟨by (with_reducible repeat (first | apply bN | apply bD | apply bA)); refine blk_far ?_ NB147_148.out _; (with_reducible repeat (first | apply bN | apply bD | apply bA)); refine blk_far ?_ NB147_148.out _; (with_reducible repeat (first | apply bN | apply bD | apply bA)); refine blk_put (cs := #[.int .i64 t141, .int .i64 0]) ?_ 1 _ rfl; (with_reducible repeat (first | apply bN | apply bD | apply bA)); refine blk_put (cs := #[.int .i64 0, .int .i64 0]) ?_ 0 _ rfl; (with_reducible repeat (first | apply bN | apply bD | apply bA)); exact BK147.out⟩, ⟨by (with_reducible repeat (first | apply bN | apply bD | apply bA)); refine blk_put (cs := #[.int .i64 t145, .int .i64 0]) ?_ 1 _ rfl; (with_reducible repeat (first | apply bN | apply bD | apply bA)); refine blk_put (cs := #[.int .i64 0, .int .i64 0]) ?_ 0 _ rfl; (with_reducible repeat (first | apply bN | apply bD | apply bA)); refine blk_far ?_ NB148_147.out _; (with_reducible repeat (first | apply bN | apply bD | apply bA)); refine blk_far ?_ NB148_147.out _; (with_reducible repeat (first | apply bN | apply bD | apply bA)); exact BK148.out⟩, ⟨by repeat (first | (with_reducible first | exact HB.out | apply lA | apply lN | apply lD | refine lS ?_ GE138.out | refine lS ?_ GE139.out | refine lS ?_ GE140.out | refine lS ?_ GE147.out | refine lS ?_ GE148.out) | exact HB.out)⟩⟩
 case round =>
  clear H'
  try clear c1; try clear p2; try clear c16
  obtain ⟨x11_1, x141000_1, x141001_1, x148000_1, x148001_1, x149000_1, x149001_1, rfl, HA, HK1, BK138, BK139, BK140, BK147, BK148, HB⟩ := hrel
  cases gk with
  | zero => exact absurd HA.out (by simp [spec_sdMeet.l0])
  | succ k1 =>
   have H := HA.out
   clear HA
   simp only [spec_sdMeet.l0] at H
   by_cases c21 : (!(x148000_1 == x149000_1) || (!(x148001_1 == x149001_1))) = true
   ·rw [if_pos c21] at H
    have c21b0 : (!(x148000_1 == x149000_1) || (!(x148001_1 == x149001_1))) = true := c21
    clear c21
    by_cases c22 : x11_1 > 40000
    ·rw [if_pos c22] at H
     have c22b0 : decide (40000 < x11_1) = true := decide_eq_true c22
     clear c22
     simp only [Option.some.injEq, Prod.mk.injEq] at H
     obtain ⟨rfl, rfl, rfl, rfl⟩ := H
     have hnb23 := NB147_138.out
     have hnc23 := NB138_147.out
     have hnb24 := NB147_139.out
     have hnc24 := NB139_147.out
     have hnb25 := NB147_140.out
     have hnc25 := NB140_147.out
     have hnb26 := NB147_148.out
     have hnc26 := NB148_147.out
     have hcz27_0 : wr.cell? ⟨gb147, 0, none⟩ = some (.int .i64 x148000_1) := (blk_cell BK147.out 0).trans rfl
     have hcz27_1 : wr.cell? ⟨gb147, 1, none⟩ = some (.int .i64 x148001_1) := (blk_cell BK147.out 1).trans rfl
     have hfz27_0 := blk_frozen BK147.out 0
     have hfz27_1 := blk_frozen BK147.out 1
     have hnb28 := NB148_138.out
     have hnc28 := NB138_148.out
     have hnb29 := NB148_139.out
     have hnc29 := NB139_148.out
     have hnb30 := NB148_140.out
     have hnc30 := NB140_148.out
     have hcz31_0 : wr.cell? ⟨gb148, 0, none⟩ = some (.int .i64 x149000_1) := (blk_cell BK148.out 0).trans rfl
     have hcz31_1 : wr.cell? ⟨gb148, 1, none⟩ = some (.int .i64 x149001_1) := (blk_cell BK148.out 1).trans rfl
     have hfz31_0 := blk_frozen BK148.out 0
     have hfz31_1 := blk_frozen BK148.out 1
     try go_wp2
     have n0_ := A0 (bD BK138.out)
     have n1_ := A0 (bD BK139.out)
     have n2_ := A0 (bD BK140.out)
     have n3_ := A0 (bD BK147.out)
     have n4_ := A0 (bD BK148.out)
     have n5_ := A0 (lD HB.out)
     clear BK138
     clear BK139
     clear BK140
     clear BK147
     clear BK148
     clear HB
     have BK138 := n0_
     have BK139 := n1_
     have BK140 := n2_
     have BK147 := n3_
     have BK148 := n4_
     have HB := n5_
     clear n0_ n1_ n2_ n3_ n4_ n5_
     refine start_ (n := 4) (S := fun w' => w'.cell? ⟨gb139, 0, none⟩ = some (.int .i64 a1_0) ∧ w'.cell? ⟨gb139, 1, none⟩ = some (.int .i64 a1_1)) (ds := []) #[false, false, false, false] (by kernel_rfl) rfl rfl ⟨(blk_cell BK139.out 0).trans rfl, (blk_cell BK139.out 1).trans rfl⟩ (fun hHeld => ?_)
     generalize wr.drew = w32 at BK138 BK139 BK140 BK147 BK148 HB hHeld ⊢
     refine pure_ (i := 1) (N := some 6) (v := ?_) (a' := ?_) #[false, true, false, false] rfl rfl (by kernel_rfl) (fun _ _ _ h => h) (Or.inl ⟨by rfl, ?_⟩) ?_ ?_
     rotate_left
     ·intro w'
      go_simp
      with_reducible rfl
     rotate_left
     ·simp only [Act.put, List.setIfInBounds_toArray, List.set_cons_zero, List.set_cons_succ, i64_w, i32_w]
      rfl
     refine take_ (i := 0) (N := some 32) (v := ?_) (a' := ?_) #[true, true, false, false] rfl rfl (by kernel_rfl) (fun _ _ _ h => h) (Or.inl ⟨by rfl, ?_⟩) hHeld ?_ ?_
     rotate_left
     ·rintro w' ⟨s0, s1⟩
      go_simp
      with_reducible rfl
     rotate_left
     ·simp only [Act.put, List.setIfInBounds_toArray, List.set_cons_zero, List.set_cons_succ, i64_w, i32_w]
      rfl
     refine one_ (i := 2) (N := none) #[true, true, true, false] rfl rfl (by kernel_rfl) (by decide) (fun K hK => ?_)
     have hs33 : w32.cell? ⟨gb140, 0, none⟩ = some (.int .i64 x141000_1) := (blk_cell BK140.out 0).trans rfl
     have hfs33 := blk_frozen BK140.out 0
     have hns33_0 := NB138_140.out
     have hns33_1 := NB139_140.out
     have hns33_3 := NB147_140.out
     have hns33_4 := NB148_140.out
     have hms33_0 := NB140_138.out
     have hms33_1 := NB140_139.out
     have hms33_3 := NB140_147.out
     have hms33_4 := NB140_148.out
     have hs34 : w32.cell? ⟨gb140, 1, none⟩ = some (.int .i64 x141001_1) := (blk_cell BK140.out 1).trans rfl
     have hfs34 := blk_frozen BK140.out 1
     have hns34_0 := NB138_140.out
     have hns34_1 := NB139_140.out
     have hns34_3 := NB147_140.out
     have hns34_4 := NB148_140.out
     have hms34_0 := NB140_138.out
     have hms34_1 := NB140_139.out
     have hms34_3 := NB140_147.out
     have hms34_4 := NB140_148.out
     refine skip_ (w1 := ?_) (by rfl) rfl ?_ ?_
     rotate_left
     ·go_simp
      rfl
     refine hK.out _ _ ⟨((cell_far (p := ⟨gb140, _, none⟩) NB139_140.out _).trans (((cell_far (p := ⟨gb140, _, none⟩) NB139_140.out _).trans (hHeld.1)))), ((cell_far (p := ⟨gb140, _, none⟩) NB139_140.out _).trans (((cell_far (p := ⟨gb140, _, none⟩) NB139_140.out _).trans (hHeld.2))))⟩ (fun hHeld => ?_)
     clear hK K
     refine pure_ (i := 3) (N := some 8) (v := ?_) (a' := ?_) #[true, true, true, true] rfl rfl (by kernel_rfl) (fun _ _ _ h => h) (Or.inl ⟨by rfl, ?_⟩) ?_ ?_
     rotate_left
     ·intro w'
      go_simp
      with_reducible rfl
     rotate_left
     ·simp only [Act.put, List.setIfInBounds_toArray, List.set_cons_zero, List.set_cons_succ, i64_w, i32_w]
      rfl
     refine done_ (by kernel_rfl) ?_
     try go_wp2
     refine bodyPost_ret (results_list (rs := [.tmp 6, .cell 7 35, .tmp 8]) rfl (by simp) (.tmp (.cell gb140 35 #[.int .i64 a1_0, .int .i64 a1_1] (0, 0) _ rfl (by (with_reducible repeat (first | apply bN | apply bD | apply bA)); refine blk_put (cs := #[.int .i64 a1_0, .int .i64 x141001_1]) ?_ 1 _ rfl; (with_reducible repeat (first | apply bN | apply bD | apply bA)); refine blk_put (cs := #[.int .i64 x141000_1, .int .i64 x141001_1]) ?_ 0 _ rfl; (with_reducible repeat (first | apply bN | apply bD | apply bA)); exact BK140.out) Try.underlying35 rfl (by kernel_rfl) (.tmp .nil)))) rfl ?_
     exact ⟨by first | rfl | (simp [errW_none, errW_some] <;> rfl) | (simp [*, errW_none, errW_some] <;> rfl), by repeat (first | (with_reducible first | exact HB.out | apply lA | apply lN | apply lD | refine lS ?_ GE138.out | refine lS ?_ GE139.out | refine lS ?_ GE140.out | refine lS ?_ GE147.out | refine lS ?_ GE148.out) | exact HB.out)⟩
    ·rw [if_neg c22] at H
     have c22b0 : decide (40000 < x11_1) = false := decide_eq_false c22
     clear c22
     replace H := Option.bind_eq_some_iff.mp H
     obtain ⟨⟨t149, t150⟩, A350, H⟩ := H
     replace H : ((spec_sdNext.f k1 a0_0 a0_1 a0_2 a0_3 a0_4 a0_5 x149000_1 x149001_1 a2).bind fun bt151 => ((spec_sdNext.f k1 a0_0 a0_1 a0_2 a0_3 a0_4 a0_5 bt151.1 bt151.2 a2).bind fun bt153 => (spec_sdMeet.l0 k1 a2 (wrap64 (x11_1 + 1)) a0_0 a0_1 a0_2 a0_3 a0_4 a0_5 a1_0 a1_1 t149 t150 bt153.1 bt153.2))) = some (r1, r2, r3, r4) := H
     have A35 := A0 A350
     clear A350
     replace H := Option.bind_eq_some_iff.mp H
     obtain ⟨⟨t151, t152⟩, A360, H⟩ := H
     replace H : ((spec_sdNext.f k1 a0_0 a0_1 a0_2 a0_3 a0_4 a0_5 t151 t152 a2).bind fun bt153 => (spec_sdMeet.l0 k1 a2 (wrap64 (x11_1 + 1)) a0_0 a0_1 a0_2 a0_3 a0_4 a0_5 a1_0 a1_1 t149 t150 bt153.1 bt153.2)) = some (r1, r2, r3, r4) := H
     have A36 := A0 A360
     clear A360
     replace H := Option.bind_eq_some_iff.mp H
     obtain ⟨⟨t153, t154⟩, A370, H⟩ := H
     replace H : (spec_sdMeet.l0 k1 a2 (wrap64 (x11_1 + 1)) a0_0 a0_1 a0_2 a0_3 a0_4 a0_5 a1_0 a1_1 t149 t150 t153 t154) = some (r1, r2, r3, r4) := H
     have A37 := A0 A370
     clear A370
     have H' := A0 H
     clear H
     have hnb38 := NB147_138.out
     have hnc38 := NB138_147.out
     have hnb39 := NB147_139.out
     have hnc39 := NB139_147.out
     have hnb40 := NB147_140.out
     have hnc40 := NB140_147.out
     have hnb41 := NB147_148.out
     have hnc41 := NB148_147.out
     have hcz42_0 : wr.cell? ⟨gb147, 0, none⟩ = some (.int .i64 x148000_1) := (blk_cell BK147.out 0).trans rfl
     have hcz42_1 : wr.cell? ⟨gb147, 1, none⟩ = some (.int .i64 x148001_1) := (blk_cell BK147.out 1).trans rfl
     have hfz42_0 := blk_frozen BK147.out 0
     have hfz42_1 := blk_frozen BK147.out 1
     have hnb43 := NB148_138.out
     have hnc43 := NB138_148.out
     have hnb44 := NB148_139.out
     have hnc44 := NB139_148.out
     have hnb45 := NB148_140.out
     have hnc45 := NB140_148.out
     have hcz46_0 : wr.cell? ⟨gb148, 0, none⟩ = some (.int .i64 x149000_1) := (blk_cell BK148.out 0).trans rfl
     have hcz46_1 : wr.cell? ⟨gb148, 1, none⟩ = some (.int .i64 x149001_1) := (blk_cell BK148.out 1).trans rfl
     have hfz46_0 := blk_frozen BK148.out 0
     have hfz46_1 := blk_frozen BK148.out 1
     have hnb47 := NB138_139.out
     have hnc47 := NB139_138.out
     have hnb48 := NB138_140.out
     have hnc48 := NB140_138.out
     have hcz49_0 : wr.cell? ⟨gb138, 0, none⟩ = some (.int .i64 a0_0) := (blk_cell BK138.out 0).trans rfl
     have hcz49_1 : wr.cell? ⟨gb138, 1, none⟩ = some (.int .i64 a0_1) := (blk_cell BK138.out 1).trans rfl
     have hcz49_2 : wr.cell? ⟨gb138, 2, none⟩ = some (.int .i64 a0_2) := (blk_cell BK138.out 2).trans rfl
     have hcz49_3 : wr.cell? ⟨gb138, 3, none⟩ = some (.int .i64 a0_3) := (blk_cell BK138.out 3).trans rfl
     have hcz49_4 : wr.cell? ⟨gb138, 4, none⟩ = some (.int .i64 a0_4) := (blk_cell BK138.out 4).trans rfl
     have hcz49_5 : wr.cell? ⟨gb138, 5, none⟩ = some (.bool a0_5) := (blk_cell BK138.out 5).trans rfl
     have hfz49_0 := blk_frozen BK138.out 0
     have hfz49_1 := blk_frozen BK138.out 1
     have hfz49_2 := blk_frozen BK138.out 2
     have hfz49_3 := blk_frozen BK138.out 3
     have hfz49_4 := blk_frozen BK138.out 4
     have hfz49_5 := blk_frozen BK138.out 5
     try go_wp2_with (first | ((with_reducible refine gate_callee (f := 16) rfl ?_); refine goesL_ (some 36) rfl rfl Try.func16 (by kernel_rfl) rfl #[.agg #[.int .i64 a0_0, .int .i64 a0_1, .int .i64 a0_2, .int .i64 a0_3, .int .i64 a0_4, .bool a0_5], .agg #[.int .i64 x148000_1, .int .i64 x148001_1], .int .i64 a2] rfl (by (try simp only [List.map_toArray, List.map_cons, List.map_nil]); first | done | rfl | (simp only [List.length_drop, List.length_take]; rfl)) ?_; (with_reducible refine (spec_sdNext.calls k1 a0_0 a0_1 a0_2 a0_3 a0_4 a0_5 x148000_1 x148001_1 a2 t149 t150 _ A35.out).mono ?_); rintro e w50 ⟨rfl, hb⟩; refine ⟨_, rfl, ?_⟩; have n0_ := A0 (blk_below (g := gb138) (o := .cells #[.int .i64 a0_0, .int .i64 a0_1, .int .i64 a0_2, .int .i64 a0_3, .int .i64 a0_4, .bool a0_5] 30 (0, 0)) (by (with_reducible repeat (first | apply bN | apply bD | apply bA)); exact BK138.out) hb); have n1_ := A0 (blk_below (g := gb139) (o := .cells #[.int .i64 a1_0, .int .i64 a1_1] 35 (0, 0)) (by (with_reducible repeat (first | apply bN | apply bD | apply bA)); exact BK139.out) hb); have n2_ := A0 (blk_below (g := gb140) (o := .cells #[.int .i64 x141000_1, .int .i64 x141001_1] 35 (0, 0)) (by (with_reducible repeat (first | apply bN | apply bD | apply bA)); exact BK140.out) hb); have n3_ := A0 (blk_below (g := gb147) (o := .cells #[.int .i64 x148000_1, .int .i64 x148001_1] 35 (0, 0)) (by (with_reducible repeat (first | apply bN | apply bD | apply bA)); exact BK147.out) hb); have n4_ := A0 (blk_below (g := gb148) (o := .cells #[.int .i64 x149000_1, .int .i64 x149001_1] 35 (0, 0)) (by (with_reducible repeat (first | apply bN | apply bD | apply bA)); exact BK148.out) hb); have n5_ := A0 (below_step (by repeat (first | (with_reducible first | exact HB.out | apply lA | apply lN | apply lD | refine lS ?_ GE138.out | refine lS ?_ GE139.out | refine lS ?_ GE140.out | refine lS ?_ GE147.out | refine lS ?_ GE148.out) | exact HB.out)) hb); clear BK138; clear BK139; clear BK140; clear BK147; clear BK148; clear HB; have BK138 := n0_; have BK139 := n1_; have BK140 := n2_; have BK147 := n3_; have BK148 := n4_; have HB := n5_; clear n0_ n1_ n2_ n3_ n4_ n5_; (try clear hb); (try clear hb2); (try clear hk); (try clear hi); have hcz51_0 : w50.cell? ⟨gb147, 0, none⟩ = some (.int .i64 x148000_1) := (blk_cell BK147.out 0).trans rfl; have hcz51_1 : w50.cell? ⟨gb147, 1, none⟩ = some (.int .i64 x148001_1) := (blk_cell BK147.out 1).trans rfl; have hfz51_0 := blk_frozen BK147.out 0; have hfz51_1 := blk_frozen BK147.out 1))
     have n0_ : Aside0 (((w50.setCell ⟨gb147, 0, none⟩ (.int .i64 t149)).setCell ⟨gb147, 1, none⟩ (.int .i64 t150)).heap[gb138]? = some (.cells #[.int .i64 a0_0, .int .i64 a0_1, .int .i64 a0_2, .int .i64 a0_3, .int .i64 a0_4, .bool a0_5] 30 (0, 0))) := ⟨by (with_reducible repeat (first | apply bN | apply bD | apply bA)); refine blk_far ?_ NB138_147.out _; (with_reducible repeat (first | apply bN | apply bD | apply bA)); refine blk_far ?_ NB138_147.out _; (with_reducible repeat (first | apply bN | apply bD | apply bA)); exact BK138.out⟩
     have n1_ : Aside0 (((w50.setCell ⟨gb147, 0, none⟩ (.int .i64 t149)).setCell ⟨gb147, 1, none⟩ (.int .i64 t150)).heap[gb139]? = some (.cells #[.int .i64 a1_0, .int .i64 a1_1] 35 (0, 0))) := ⟨by (with_reducible repeat (first | apply bN | apply bD | apply bA)); refine blk_far ?_ NB139_147.out _; (with_reducible repeat (first | apply bN | apply bD | apply bA)); refine blk_far ?_ NB139_147.out _; (with_reducible repeat (first | apply bN | apply bD | apply bA)); exact BK139.out⟩
     have n2_ : Aside0 (((w50.setCell ⟨gb147, 0, none⟩ (.int .i64 t149)).setCell ⟨gb147, 1, none⟩ (.int .i64 t150)).heap[gb140]? = some (.cells #[.int .i64 x141000_1, .int .i64 x141001_1] 35 (0, 0))) := ⟨by (with_reducible repeat (first | apply bN | apply bD | apply bA)); refine blk_far ?_ NB140_147.out _; (with_reducible repeat (first | apply bN | apply bD | apply bA)); refine blk_far ?_ NB140_147.out _; (with_reducible repeat (first | apply bN | apply bD | apply bA)); exact BK140.out⟩
     have n3_ : Aside0 (((w50.setCell ⟨gb147, 0, none⟩ (.int .i64 t149)).setCell ⟨gb147, 1, none⟩ (.int .i64 t150)).heap[gb147]? = some (.cells #[.int .i64 t149, .int .i64 t150] 35 (0, 0))) := ⟨by (with_reducible repeat (first | apply bN | apply bD | apply bA)); refine blk_put (cs := #[.int .i64 t149, .int .i64 x148001_1]) ?_ 1 _ rfl; (with_reducible repeat (first | apply bN | apply bD | apply bA)); refine blk_put (cs := #[.int .i64 x148000_1, .int .i64 x148001_1]) ?_ 0 _ rfl; (with_reducible repeat (first | apply bN | apply bD | apply bA)); exact BK147.out⟩
     have n4_ : Aside0 (((w50.setCell ⟨gb147, 0, none⟩ (.int .i64 t149)).setCell ⟨gb147, 1, none⟩ (.int .i64 t150)).heap[gb148]? = some (.cells #[.int .i64 x149000_1, .int .i64 x149001_1] 35 (0, 0))) := ⟨by (with_reducible repeat (first | apply bN | apply bD | apply bA)); refine blk_far ?_ NB148_147.out _; (with_reducible repeat (first | apply bN | apply bD | apply bA)); refine blk_far ?_ NB148_147.out _; (with_reducible repeat (first | apply bN | apply bD | apply bA)); exact BK148.out⟩
     have n5_ : Aside0 (Below w.heap.size w ((w50.setCell ⟨gb147, 0, none⟩ (.int .i64 t149)).setCell ⟨gb147, 1, none⟩ (.int .i64 t150))) := ⟨by repeat (first | (with_reducible first | exact HB.out | apply lA | apply lN | apply lD | refine lS ?_ GE138.out | refine lS ?_ GE139.out | refine lS ?_ GE140.out | refine lS ?_ GE147.out | refine lS ?_ GE148.out) | exact HB.out)⟩
     (try clear BK138)
     (try clear BK139)
     (try clear BK140)
     (try clear BK147)
     (try clear BK148)
     (try clear HB)
     generalize ((w50.setCell ⟨gb147, 0, none⟩ (.int .i64 t149)).setCell ⟨gb147, 1, none⟩ (.int .i64 t150)) = w52 at n0_ n1_ n2_ n3_ n4_ n5_ ⊢
     have BK138 := n0_
     have BK139 := n1_
     have BK140 := n2_
     have BK147 := n3_
     have BK148 := n4_
     have HB := n5_
     clear n0_ n1_ n2_ n3_ n4_ n5_
     have n0_ := A0 (bD BK138.out)
     have n1_ := A0 (bD BK139.out)
     have n2_ := A0 (bD BK140.out)
     have n3_ := A0 (bD BK147.out)
     have n4_ := A0 (bD BK148.out)
     have n5_ := A0 (lD HB.out)
     clear BK138
     clear BK139
     clear BK140
     clear BK147
     clear BK148
     clear HB
     have BK138 := n0_
     have BK139 := n1_
     have BK140 := n2_
     have BK147 := n3_
     have BK148 := n4_
     have HB := n5_
     clear n0_ n1_ n2_ n3_ n4_ n5_
     refine start_ (n := 8) (S := fun w' => w'.cell? ⟨gb138, 0, none⟩ = some (.int .i64 a0_0) ∧ w'.cell? ⟨gb138, 1, none⟩ = some (.int .i64 a0_1) ∧ w'.cell? ⟨gb138, 2, none⟩ = some (.int .i64 a0_2) ∧ w'.cell? ⟨gb138, 3, none⟩ = some (.int .i64 a0_3) ∧ w'.cell? ⟨gb138, 4, none⟩ = some (.int .i64 a0_4) ∧ w'.cell? ⟨gb138, 5, none⟩ = some (.bool a0_5) ∧ w'.cell? ⟨gb148, 0, none⟩ = some (.int .i64 x149000_1) ∧ w'.cell? ⟨gb148, 1, none⟩ = some (.int .i64 x149001_1)) (ds := [7]) #[false, false, false, false, false, false, false, false] (by kernel_rfl) rfl rfl ⟨(blk_cell BK138.out 0).trans rfl, (blk_cell BK138.out 1).trans rfl, (blk_cell BK138.out 2).trans rfl, (blk_cell BK138.out 3).trans rfl, (blk_cell BK138.out 4).trans rfl, (blk_cell BK138.out 5).trans rfl, (blk_cell BK148.out 0).trans rfl, (blk_cell BK148.out 1).trans rfl⟩ (fun hHeld => ?_); refine with_tabW spec_sdMeet.tab8 spec_sdMeet.bits8 (fun HT_ HW_ => ?_)
     generalize w52.drew = w53 at BK138 BK139 BK140 BK147 BK148 HB hHeld ⊢
     refine pure_ (i := 3) (N := some 40) (v := ?_) (a' := ?_) #[false, false, false, true, false, false, false, false] rfl rfl (any_of HT_.out (by kernel_rfl)) (fun _ _ _ h => h) (Or.inl ⟨by rfl, ?_⟩) ?_ ?_
     rotate_left
     ·intro w'
      go_simp
      with_reducible rfl
     rotate_left
     ·simp only [Act.put, List.setIfInBounds_toArray, List.set_cons_zero, List.set_cons_succ, i64_w, i32_w]
      rfl
     refine pure_ (i := 5) (N := some 42) (v := ?_) (a' := ?_) #[false, false, false, true, false, true, false, false] rfl rfl (any_of HT_.out (by kernel_rfl)) (fun _ _ _ h => h) (Or.inl ⟨by rfl, ?_⟩) ?_ ?_
     rotate_left
     ·intro w'
      go_simp
      with_reducible rfl
     rotate_left
     ·simp only [Act.put, List.setIfInBounds_toArray, List.set_cons_zero, List.set_cons_succ, i64_w, i32_w]
      rfl
     refine take_ (i := 0) (N := some 37) (v := ?_) (a' := ?_) #[true, false, false, true, false, true, false, false] rfl rfl (take_ofW HT_.out HW_.out (by kernel_rfl)) (fun _ _ _ h => h) (Or.inl ⟨by rfl, ?_⟩) hHeld ?_ ?_
     rotate_left
     ·rintro w' ⟨s0, s1, s2, s3, s4, s5, s6, s7⟩
      go_simp
      with_reducible rfl
     rotate_left
     ·simp only [Act.put, List.setIfInBounds_toArray, List.set_cons_zero, List.set_cons_succ, i64_w, i32_w]
      rfl
     refine take_ (i := 1) (N := some 38) (v := ?_) (a' := ?_) #[true, true, false, true, false, true, false, false] rfl rfl (take_ofW HT_.out HW_.out (by kernel_rfl)) (fun _ _ _ h => h) (Or.inl ⟨by rfl, ?_⟩) hHeld ?_ ?_
     rotate_left
     ·rintro w' ⟨s0, s1, s2, s3, s4, s5, s6, s7⟩
      go_simp
      with_reducible rfl
     rotate_left
     ·simp only [Act.put, List.setIfInBounds_toArray, List.set_cons_zero, List.set_cons_succ, i64_w, i32_w]
      rfl
     refine take_ (i := 2) (N := some 39) (v := ?_) (a' := ?_) #[true, true, true, true, false, true, false, false] rfl rfl (take_ofW HT_.out HW_.out (by kernel_rfl)) (fun _ _ _ h => h) (Or.inl ⟨by rfl, ?_⟩) hHeld ?_ ?_
     rotate_left
     ·rintro w' ⟨s0, s1, s2, s3, s4, s5, s6, s7⟩
      go_simp
      with_reducible rfl
     rotate_left
     ·simp only [Act.put, List.setIfInBounds_toArray, List.set_cons_zero, List.set_cons_succ, i64_w, i32_w]
      rfl
     refine one_ (i := 4) (N := some 41) #[true, true, true, true, true, true, false, false] rfl rfl (one_of HT_.out (by kernel_rfl)) (by decide) (fun K hK => ?_)
     refine goes_ Try.func16 (by kernel_rfl) rfl #[.agg #[.int .i64 a0_0, .int .i64 a0_1, .int .i64 a0_2, .int .i64 a0_3, .int .i64 a0_4, .bool a0_5], .agg #[.int .i64 x149000_1, .int .i64 x149001_1], .int .i64 a2] (by rfl) rfl rfl (by (try simp only [List.map_toArray, List.map_cons, List.map_nil]); first | done | rfl | (simp only [List.length_drop, List.length_take]; rfl)) ?_
     with_reducible refine (spec_sdNext.calls k1 a0_0 a0_1 a0_2 a0_3 a0_4 a0_5 x149000_1 x149001_1 a2 t151 t152 _ A36.out).mono ?_
     rintro e w54 ⟨rfl, hb⟩
     refine ⟨_, rfl, ?_⟩
     have n0_ := A0 (blk_below (g := gb138) (o := .cells #[.int .i64 a0_0, .int .i64 a0_1, .int .i64 a0_2, .int .i64 a0_3, .int .i64 a0_4, .bool a0_5] 30 (0, 0)) (by (with_reducible repeat (first | apply bN | apply bD | apply bA)); exact BK138.out) hb)
     have n1_ := A0 (blk_below (g := gb139) (o := .cells #[.int .i64 a1_0, .int .i64 a1_1] 35 (0, 0)) (by (with_reducible repeat (first | apply bN | apply bD | apply bA)); exact BK139.out) hb)
     have n2_ := A0 (blk_below (g := gb140) (o := .cells #[.int .i64 x141000_1, .int .i64 x141001_1] 35 (0, 0)) (by (with_reducible repeat (first | apply bN | apply bD | apply bA)); exact BK140.out) hb)
     have n3_ := A0 (blk_below (g := gb147) (o := .cells #[.int .i64 t149, .int .i64 t150] 35 (0, 0)) (by (with_reducible repeat (first | apply bN | apply bD | apply bA)); exact BK147.out) hb)
     have n4_ := A0 (blk_below (g := gb148) (o := .cells #[.int .i64 x149000_1, .int .i64 x149001_1] 35 (0, 0)) (by (with_reducible repeat (first | apply bN | apply bD | apply bA)); exact BK148.out) hb)
     have n5_ := A0 (below_step (by repeat (first | (with_reducible first | exact HB.out | apply lA | apply lN | apply lD | refine lS ?_ GE138.out | refine lS ?_ GE139.out | refine lS ?_ GE140.out | refine lS ?_ GE147.out | refine lS ?_ GE148.out) | exact HB.out)) hb)
     clear BK138
     clear BK139
     clear BK140
     clear BK147
     clear BK148
     clear HB
     have BK138 := n0_
     have BK139 := n1_
     have BK140 := n2_
     have BK147 := n3_
     have BK148 := n4_
     have HB := n5_
     clear n0_ n1_ n2_ n3_ n4_ n5_
     (try clear hb)
     (try clear hb2)
     (try clear hk)
     (try clear hi)
     refine hK.out _ _ ⟨(blk_cell BK138.out 0).trans rfl, (blk_cell BK138.out 1).trans rfl, (blk_cell BK138.out 2).trans rfl, (blk_cell BK138.out 3).trans rfl, (blk_cell BK138.out 4).trans rfl, (blk_cell BK138.out 5).trans rfl, (blk_cell BK148.out 0).trans rfl, (blk_cell BK148.out 1).trans rfl⟩ (fun hHeld => ?_)
     clear hK K
     refine norm_ (a' := ?_) ?_ ?_
     rotate_left
     ·show Act.put _ (some 41) _ = _
      simp only [Act.put, List.setIfInBounds_toArray, List.set_cons_zero, List.set_cons_succ, i64_w, i32_w]
      rfl
     refine one_ (i := 6) (N := some 43) #[true, true, true, true, true, true, true, false] rfl rfl (one_of HT_.out (by kernel_rfl)) (by decide) (fun K hK => ?_)
     refine goes_ Try.func16 (by kernel_rfl) rfl #[.agg #[.int .i64 a0_0, .int .i64 a0_1, .int .i64 a0_2, .int .i64 a0_3, .int .i64 a0_4, .bool a0_5], .agg #[.int .i64 t151, .int .i64 t152], .int .i64 a2] (by rfl) rfl rfl (by (try simp only [List.map_toArray, List.map_cons, List.map_nil]); first | done | rfl | (simp only [List.length_drop, List.length_take]; rfl)) ?_
     with_reducible refine (spec_sdNext.calls k1 a0_0 a0_1 a0_2 a0_3 a0_4 a0_5 t151 t152 a2 t153 t154 _ A37.out).mono ?_
     rintro e w55 ⟨rfl, hb⟩
     refine ⟨_, rfl, ?_⟩
     have n0_ := A0 (blk_below (g := gb138) (o := .cells #[.int .i64 a0_0, .int .i64 a0_1, .int .i64 a0_2, .int .i64 a0_3, .int .i64 a0_4, .bool a0_5] 30 (0, 0)) (by (with_reducible repeat (first | apply bN | apply bD | apply bA)); exact BK138.out) hb)
     have n1_ := A0 (blk_below (g := gb139) (o := .cells #[.int .i64 a1_0, .int .i64 a1_1] 35 (0, 0)) (by (with_reducible repeat (first | apply bN | apply bD | apply bA)); exact BK139.out) hb)
     have n2_ := A0 (blk_below (g := gb140) (o := .cells #[.int .i64 x141000_1, .int .i64 x141001_1] 35 (0, 0)) (by (with_reducible repeat (first | apply bN | apply bD | apply bA)); exact BK140.out) hb)
     have n3_ := A0 (blk_below (g := gb147) (o := .cells #[.int .i64 t149, .int .i64 t150] 35 (0, 0)) (by (with_reducible repeat (first | apply bN | apply bD | apply bA)); exact BK147.out) hb)
     have n4_ := A0 (blk_below (g := gb148) (o := .cells #[.int .i64 x149000_1, .int .i64 x149001_1] 35 (0, 0)) (by (with_reducible repeat (first | apply bN | apply bD | apply bA)); exact BK148.out) hb)
     have n5_ := A0 (below_step (by repeat (first | (with_reducible first | exact HB.out | apply lA | apply lN | apply lD | refine lS ?_ GE138.out | refine lS ?_ GE139.out | refine lS ?_ GE140.out | refine lS ?_ GE147.out | refine lS ?_ GE148.out) | exact HB.out)) hb)
     clear BK138
     clear BK139
     clear BK140
     clear BK147
     clear BK148
     clear HB
     have BK138 := n0_
     have BK139 := n1_
     have BK140 := n2_
     have BK147 := n3_
     have BK148 := n4_
     have HB := n5_
     clear n0_ n1_ n2_ n3_ n4_ n5_
     (try clear hb)
     (try clear hb2)
     (try clear hk)
     (try clear hi)
     refine hK.out _ _ ⟨(blk_cell BK138.out 0).trans rfl, (blk_cell BK138.out 1).trans rfl, (blk_cell BK138.out 2).trans rfl, (blk_cell BK138.out 3).trans rfl, (blk_cell BK138.out 4).trans rfl, (blk_cell BK138.out 5).trans rfl, (blk_cell BK148.out 0).trans rfl, (blk_cell BK148.out 1).trans rfl⟩ (fun hHeld => ?_)
     clear hK K
     refine norm_ (a' := ?_) ?_ ?_
     rotate_left
     ·show Act.put _ (some 43) _ = _
      simp only [Act.put, List.setIfInBounds_toArray, List.set_cons_zero, List.set_cons_succ, i64_w, i32_w]
      rfl
     refine last_ (i := 7) (N := none) #[true, true, true, true, true, true, true, true] rfl rfl (one_of HT_.out (by kernel_rfl)) (by decide) (fun K hK => ?_)
     have hs56 : w55.cell? ⟨gb148, 0, none⟩ = some (.int .i64 x149000_1) := (blk_cell BK148.out 0).trans rfl
     have hfs56 := blk_frozen BK148.out 0
     have hns56_0 := NB138_148.out
     have hns56_1 := NB139_148.out
     have hns56_2 := NB140_148.out
     have hns56_3 := NB147_148.out
     have hms56_0 := NB148_138.out
     have hms56_1 := NB148_139.out
     have hms56_2 := NB148_140.out
     have hms56_3 := NB148_147.out
     have hs57 : w55.cell? ⟨gb148, 1, none⟩ = some (.int .i64 x149001_1) := (blk_cell BK148.out 1).trans rfl
     have hfs57 := blk_frozen BK148.out 1
     have hns57_0 := NB138_148.out
     have hns57_1 := NB139_148.out
     have hns57_2 := NB140_148.out
     have hns57_3 := NB147_148.out
     have hms57_0 := NB148_138.out
     have hms57_1 := NB148_139.out
     have hms57_2 := NB148_140.out
     have hms57_3 := NB148_147.out
     refine skip_ (w1 := ?_) (by rfl) rfl ?_ ?_
     rotate_left
     ·go_simp
      rfl
     refine hK.out _ _ ?_
     clear hK K
     refine done_ (done_of HT_.out (by kernel_rfl)) ?_
     try go_wp2
     go_roundg k1
     case measure => have := HK1.out; omega
     case rel => exact ⟨(wrap64 (x11_1 + 1)), (x141000_1), (x141001_1), (t149), (t150), (t153), (t154), (by first | rfl | (simp; done) | (simp [*]; done)), H', ⟨by have := HK1.out; omega⟩, ⟨by (with_reducible repeat (first | apply bN | apply bD | apply bA)); refine blk_far ?_ NB138_148.out _; (with_reducible repeat (first | apply bN | apply bD | apply bA)); refine blk_far ?_ NB138_148.out _; (with_reducible repeat (first | apply bN | apply bD | apply bA)); exact BK138.out⟩, ⟨by (with_reducible repeat (first | apply bN | apply bD | apply bA)); refine blk_far ?_ NB139_148.out _; (with_reducible repeat (first | apply bN | apply bD | apply bA)); refine blk_far ?_ NB139_148.out _; (with_reducible repeat (first | apply bN | apply bD | apply bA)); exact BK139.out⟩, ⟨by (with_reducible repeat (first | apply bN | apply bD | apply bA)); refine blk_far ?_ NB140_148.out _; (with_reducible repeat (first | apply bN | apply bD | apply bA)); refine blk_far ?_ NB140_148.out _; (with_reducible repeat (first | apply bN | apply bD | apply bA)); exact BK140.out⟩, ⟨by (with_reducible repeat (first | apply bN | apply bD | apply bA)); refine blk_far ?_ NB147_148.out _; (with_reducible repeat (first | apply bN | apply bD | apply bA)); refine blk_far ?_ NB147_148.out _; (with_reducible repeat (first | apply bN | apply bD | apply bA)); exact BK147.out⟩, ⟨by (with_reducible repeat (first | apply bN | apply bD | apply bA)); refine blk_put (cs := #[.int .i64 t153, .int .i64 x149001_1]) ?_ 1 _ rfl; (with_reducible repeat (first | apply bN | apply bD | apply bA)); refine blk_put (cs := #[.int .i64 x149000_1, .int .i64 x149001_1]) ?_ 0 _ rfl; (with_reducible repeat (first | apply bN | apply bD | apply bA)); exact BK148.out⟩, ⟨by repeat (first | (with_reducible first | exact HB.out | apply lA | apply lN | apply lD | refine lS ?_ GE138.out | refine lS ?_ GE139.out | refine lS ?_ GE140.out | refine lS ?_ GE147.out | refine lS ?_ GE148.out) | exact HB.out)⟩⟩
   ·rw [if_neg c21] at H
    have c21b0 : (!(x148000_1 == x149000_1) || (!(x148001_1 == x149001_1))) = false := by simpa using c21
    clear c21
    have H' := A0 H
    clear H
    have hnb58 := NB147_138.out
    have hnc58 := NB138_147.out
    have hnb59 := NB147_139.out
    have hnc59 := NB139_147.out
    have hnb60 := NB147_140.out
    have hnc60 := NB140_147.out
    have hnb61 := NB147_148.out
    have hnc61 := NB148_147.out
    have hcz62_0 : wr.cell? ⟨gb147, 0, none⟩ = some (.int .i64 x148000_1) := (blk_cell BK147.out 0).trans rfl
    have hcz62_1 : wr.cell? ⟨gb147, 1, none⟩ = some (.int .i64 x148001_1) := (blk_cell BK147.out 1).trans rfl
    have hfz62_0 := blk_frozen BK147.out 0
    have hfz62_1 := blk_frozen BK147.out 1
    have hnb63 := NB148_138.out
    have hnc63 := NB138_148.out
    have hnb64 := NB148_139.out
    have hnc64 := NB139_148.out
    have hnb65 := NB148_140.out
    have hnc65 := NB140_148.out
    have hcz66_0 : wr.cell? ⟨gb148, 0, none⟩ = some (.int .i64 x149000_1) := (blk_cell BK148.out 0).trans rfl
    have hcz66_1 : wr.cell? ⟨gb148, 1, none⟩ = some (.int .i64 x149001_1) := (blk_cell BK148.out 1).trans rfl
    have hfz66_0 := blk_frozen BK148.out 0
    have hfz66_1 := blk_frozen BK148.out 1
    have hnb67 := NB139_138.out
    have hnc67 := NB138_139.out
    have hnb68 := NB139_140.out
    have hnc68 := NB140_139.out
    have hcz69_0 : wr.cell? ⟨gb139, 0, none⟩ = some (.int .i64 a1_0) := (blk_cell BK139.out 0).trans rfl
    have hcz69_1 : wr.cell? ⟨gb139, 1, none⟩ = some (.int .i64 a1_1) := (blk_cell BK139.out 1).trans rfl
    have hfz69_0 := blk_frozen BK139.out 0
    have hfz69_1 := blk_frozen BK139.out 1
    go_wp2
    go_loopg [12] k1 (fun kq v12 w' => ∃ (x12_2 : Int) (x148000_2 : Int) (x148001_2 : Int) (x149000_2 : Int) (x149001_2 : Int), v12 = .int .i64 x12_2 ∧ Aside0 (spec_sdMeet.l1 kq a2 x12_2 a0_0 a0_1 a0_2 a0_3 a0_4 a0_5 a1_0 a1_1 x148000_2 x148001_2 x149000_2 x149001_2 = some (r1, r2, r3, r4)) ∧ Aside0 (kq ≤ k1) ∧ Aside0 (w'.heap[gb138]? = some (.cells #[.int .i64 a0_0, .int .i64 a0_1, .int .i64 a0_2, .int .i64 a0_3, .int .i64 a0_4, .bool a0_5] 30 (0, 0))) ∧ Aside0 (w'.heap[gb139]? = some (.cells #[.int .i64 a1_0, .int .i64 a1_1] 35 (0, 0))) ∧ Aside0 (w'.heap[gb140]? = some (.cells #[.int .i64 x141000_1, .int .i64 x141001_1] 35 (0, 0))) ∧ Aside0 (w'.heap[gb147]? = some (.cells #[.int .i64 x148000_2, .int .i64 x148001_2] 35 (0, 0))) ∧ Aside0 (w'.heap[gb148]? = some (.cells #[.int .i64 x149000_2, .int .i64 x149001_2] 35 (0, 0))) ∧ Aside0 (Below w.heap.size w w'))
    case atStart => exact ⟨(0), (a1_0), (a1_1), (x149000_1), (x149001_1), (by first | rfl | (simp; done) | (simp [*]; done)), H', ⟨Nat.le_refl _⟩, ⟨by (with_reducible repeat (first | apply bN | apply bD | apply bA)); refine blk_far ?_ NB138_147.out _; (with_reducible repeat (first | apply bN | apply bD | apply bA)); refine blk_far ?_ NB138_147.out _; (with_reducible repeat (first | apply bN | apply bD | apply bA)); exact BK138.out⟩, ⟨by (with_reducible repeat (first | apply bN | apply bD | apply bA)); refine blk_far ?_ NB139_147.out _; (with_reducible repeat (first | apply bN | apply bD | apply bA)); refine blk_far ?_ NB139_147.out _; (with_reducible repeat (first | apply bN | apply bD | apply bA)); exact BK139.out⟩, ⟨by (with_reducible repeat (first | apply bN | apply bD | apply bA)); refine blk_far ?_ NB140_147.out _; (with_reducible repeat (first | apply bN | apply bD | apply bA)); refine blk_far ?_ NB140_147.out _; (with_reducible repeat (first | apply bN | apply bD | apply bA)); exact BK140.out⟩, ⟨by (with_reducible repeat (first | apply bN | apply bD | apply bA)); refine blk_put (cs := #[.int .i64 a1_0, .int .i64 x148001_1]) ?_ 1 _ rfl; (with_reducible repeat (first | apply bN | apply bD | apply bA)); refine blk_put (cs := #[.int .i64 x148000_1, .int .i64 x148001_1]) ?_ 0 _ rfl; (with_reducible repeat (first | apply bN | apply bD | apply bA)); exact BK147.out⟩, ⟨by (with_reducible repeat (first | apply bN | apply bD | apply bA)); refine blk_far ?_ NB148_147.out _; (with_reducible repeat (first | apply bN | apply bD | apply bA)); refine blk_far ?_ NB148_147.out _; (with_reducible repeat (first | apply bN | apply bD | apply bA)); exact BK148.out⟩, ⟨by repeat (first | (with_reducible first | exact HB.out | apply lA | apply lN | apply lD | refine lS ?_ GE138.out | refine lS ?_ GE139.out | refine lS ?_ GE140.out | refine lS ?_ GE147.out | refine lS ?_ GE148.out) | exact HB.out)⟩⟩
    case round =>
     clear H'
     try clear c1; try clear c2; try clear p2; try clear c3; try clear c4; try clear c5; try clear c6; try clear p6; try clear c16; try clear c21; try clear c21b0; try clear c22; try clear c22b0; try clear c23; try clear c24; try clear c25; try clear c26; try clear c28; try clear c29; try clear c30; try clear c38; try clear c39; try clear c40; try clear c41; try clear c43; try clear c44; try clear c45; try clear c47; try clear c48; try clear c58; try clear c59; try clear c60; try clear c61; try clear c63; try clear c64; try clear p64; try clear c65; try clear c67; try clear c68; try clear hcz27_0; try clear hcz27_1; try clear hcz31_0; try clear hcz31_1; try clear hcz42_0; try clear hcz42_1; try clear hcz46_0; try clear hcz46_1; try clear hcz49_0; try clear hcz49_1; try clear hcz49_2; try clear hcz49_3; try clear hcz49_4; try clear hcz49_5; try clear hcz51_0; try clear hcz51_1; try clear hcz62_0; try clear hcz62_1; try clear hcz66_0; try clear hcz66_1; try clear hcz69_0; try clear hcz69_1; try clear hfz27_0; try clear hfz27_1; try clear hfz31_0; try clear hfz31_1; try clear hfz42_0; try clear hfz42_1; try clear hfz46_0; try clear hfz46_1; try clear hfz49_0; try clear hfz49_1; try clear hfz49_2; try clear hfz49_3; try clear hfz49_4; try clear hfz49_5; try clear hfz51_0; try clear hfz51_1; try clear hfz62_0; try clear hfz62_1; try clear hfz66_0; try clear hfz66_1; try clear hfz69_0; try clear hfz69_1; try clear p2
     obtain ⟨x12_2, x148000_2, x148001_2, x149000_2, x149001_2, rfl, HA, HK2, BK138, BK139, BK140, BK147, BK148, HB⟩ := hrel
     cases gk with
     | zero => exact absurd HA.out (by simp [spec_sdMeet.l1])
     | succ k2 =>
      have H := HA.out
      clear HA
      simp only [spec_sdMeet.l1] at H
      by_cases c70 : (!(x148000_2 == x149000_2) || (!(x148001_2 == x149001_2))) = true
      ·rw [if_pos c70] at H
       have c70b0 : (!(x148000_2 == x149000_2) || (!(x148001_2 == x149001_2))) = true := c70
       clear c70
       replace H := Option.bind_eq_some_iff.mp H
       obtain ⟨⟨t155, t156⟩, A710, H⟩ := H
       replace H : ((spec_sdNext.f k2 a0_0 a0_1 a0_2 a0_3 a0_4 a0_5 x149000_2 x149001_2 a2).bind fun bt157 => (spec_sdMeet.l1 k2 a2 (wrap64 (x12_2 + 1)) a0_0 a0_1 a0_2 a0_3 a0_4 a0_5 a1_0 a1_1 t155 t156 bt157.1 bt157.2)) = some (r1, r2, r3, r4) := H
       have A71 := A0 A710
       clear A710
       replace H := Option.bind_eq_some_iff.mp H
       obtain ⟨⟨t157, t158⟩, A720, H⟩ := H
       replace H : (spec_sdMeet.l1 k2 a2 (wrap64 (x12_2 + 1)) a0_0 a0_1 a0_2 a0_3 a0_4 a0_5 a1_0 a1_1 t155 t156 t157 t158) = some (r1, r2, r3, r4) := H
       have A72 := A0 A720
       clear A720
       have H' := A0 H
       clear H
       have hnb73 := NB147_138.out
       have hnc73 := NB138_147.out
       have hnb74 := NB147_139.out
       have hnc74 := NB139_147.out
       have hnb75 := NB147_140.out
       have hnc75 := NB140_147.out
       have hnb76 := NB147_148.out
       have hnc76 := NB148_147.out
       have hcz77_0 : wr.cell? ⟨gb147, 0, none⟩ = some (.int .i64 x148000_2) := (blk_cell BK147.out 0).trans rfl
       have hcz77_1 : wr.cell? ⟨gb147, 1, none⟩ = some (.int .i64 x148001_2) := (blk_cell BK147.out 1).trans rfl
       have hfz77_0 := blk_frozen BK147.out 0
       have hfz77_1 := blk_frozen BK147.out 1
       have hnb78 := NB148_138.out
       have hnc78 := NB138_148.out
       have hnb79 := NB148_139.out
       have hnc79 := NB139_148.out
       have hnb80 := NB148_140.out
       have hnc80 := NB140_148.out
       have hcz81_0 : wr.cell? ⟨gb148, 0, none⟩ = some (.int .i64 x149000_2) := (blk_cell BK148.out 0).trans rfl
       have hcz81_1 : wr.cell? ⟨gb148, 1, none⟩ = some (.int .i64 x149001_2) := (blk_cell BK148.out 1).trans rfl
       have hfz81_0 := blk_frozen BK148.out 0
       have hfz81_1 := blk_frozen BK148.out 1
       have hnb82 := NB138_139.out
       have hnc82 := NB139_138.out
       have hnb83 := NB138_140.out
       have hnc83 := NB140_138.out
       have hcz84_0 : wr.cell? ⟨gb138, 0, none⟩ = some (.int .i64 a0_0) := (blk_cell BK138.out 0).trans rfl
       have hcz84_1 : wr.cell? ⟨gb138, 1, none⟩ = some (.int .i64 a0_1) := (blk_cell BK138.out 1).trans rfl
       have hcz84_2 : wr.cell? ⟨gb138, 2, none⟩ = some (.int .i64 a0_2) := (blk_cell BK138.out 2).trans rfl
       have hcz84_3 : wr.cell? ⟨gb138, 3, none⟩ = some (.int .i64 a0_3) := (blk_cell BK138.out 3).trans rfl
       have hcz84_4 : wr.cell? ⟨gb138, 4, none⟩ = some (.int .i64 a0_4) := (blk_cell BK138.out 4).trans rfl
       have hcz84_5 : wr.cell? ⟨gb138, 5, none⟩ = some (.bool a0_5) := (blk_cell BK138.out 5).trans rfl
       have hfz84_0 := blk_frozen BK138.out 0
       have hfz84_1 := blk_frozen BK138.out 1
       have hfz84_2 := blk_frozen BK138.out 2
       have hfz84_3 := blk_frozen BK138.out 3
       have hfz84_4 := blk_frozen BK138.out 4
       have hfz84_5 := blk_frozen BK138.out 5
       go_wp2_with (first | ((with_reducible refine gate_callee (f := 16) rfl ?_); refine goesL_ (some 51) rfl rfl Try.func16 (by kernel_rfl) rfl #[.agg #[.int .i64 a0_0, .int .i64 a0_1, .int .i64 a0_2, .int .i64 a0_3, .int .i64 a0_4, .bool a0_5], .agg #[.int .i64 x148000_2, .int .i64 x148001_2], .int .i64 a2] rfl (by (try simp only [List.map_toArray, List.map_cons, List.map_nil]); first | done | rfl | (simp only [List.length_drop, List.length_take]; rfl)) ?_; (with_reducible refine (spec_sdNext.calls k2 a0_0 a0_1 a0_2 a0_3 a0_4 a0_5 x148000_2 x148001_2 a2 t155 t156 _ A71.out).mono ?_); rintro e w85 ⟨rfl, hb⟩; refine ⟨_, rfl, ?_⟩; have n0_ := A0 (blk_below (g := gb138) (o := .cells #[.int .i64 a0_0, .int .i64 a0_1, .int .i64 a0_2, .int .i64 a0_3, .int .i64 a0_4, .bool a0_5] 30 (0, 0)) (by (with_reducible repeat (first | apply bN | apply bD | apply bA)); exact BK138.out) hb); have n1_ := A0 (blk_below (g := gb139) (o := .cells #[.int .i64 a1_0, .int .i64 a1_1] 35 (0, 0)) (by (with_reducible repeat (first | apply bN | apply bD | apply bA)); exact BK139.out) hb); have n2_ := A0 (blk_below (g := gb140) (o := .cells #[.int .i64 x141000_1, .int .i64 x141001_1] 35 (0, 0)) (by (with_reducible repeat (first | apply bN | apply bD | apply bA)); exact BK140.out) hb); have n3_ := A0 (blk_below (g := gb147) (o := .cells #[.int .i64 x148000_2, .int .i64 x148001_2] 35 (0, 0)) (by (with_reducible repeat (first | apply bN | apply bD | apply bA)); exact BK147.out) hb); have n4_ := A0 (blk_below (g := gb148) (o := .cells #[.int .i64 x149000_2, .int .i64 x149001_2] 35 (0, 0)) (by (with_reducible repeat (first | apply bN | apply bD | apply bA)); exact BK148.out) hb); have n5_ := A0 (below_step (by repeat (first | (with_reducible first | exact HB.out | apply lA | apply lN | apply lD | refine lS ?_ GE138.out | refine lS ?_ GE139.out | refine lS ?_ GE140.out | refine lS ?_ GE147.out | refine lS ?_ GE148.out) | exact HB.out)) hb); clear BK138; clear BK139; clear BK140; clear BK147; clear BK148; clear HB; have BK138 := n0_; have BK139 := n1_; have BK140 := n2_; have BK147 := n3_; have BK148 := n4_; have HB := n5_; clear n0_ n1_ n2_ n3_ n4_ n5_; (try clear hb); (try clear hb2); (try clear hk); (try clear hi); have hcz86_0 : w85.cell? ⟨gb147, 0, none⟩ = some (.int .i64 x148000_2) := (blk_cell BK147.out 0).trans rfl; have hcz86_1 : w85.cell? ⟨gb147, 1, none⟩ = some (.int .i64 x148001_2) := (blk_cell BK147.out 1).trans rfl; have hfz86_0 := blk_frozen BK147.out 0; have hfz86_1 := blk_frozen BK147.out 1; have hcz87_0 : w85.cell? ⟨gb138, 0, none⟩ = some (.int .i64 a0_0) := (blk_cell BK138.out 0).trans rfl; have hcz87_1 : w85.cell? ⟨gb138, 1, none⟩ = some (.int .i64 a0_1) := (blk_cell BK138.out 1).trans rfl; have hcz87_2 : w85.cell? ⟨gb138, 2, none⟩ = some (.int .i64 a0_2) := (blk_cell BK138.out 2).trans rfl; have hcz87_3 : w85.cell? ⟨gb138, 3, none⟩ = some (.int .i64 a0_3) := (blk_cell BK138.out 3).trans rfl; have hcz87_4 : w85.cell? ⟨gb138, 4, none⟩ = some (.int .i64 a0_4) := (blk_cell BK138.out 4).trans rfl; have hcz87_5 : w85.cell? ⟨gb138, 5, none⟩ = some (.bool a0_5) := (blk_cell BK138.out 5).trans rfl; have hfz87_0 := blk_frozen BK138.out 0; have hfz87_1 := blk_frozen BK138.out 1; have hfz87_2 := blk_frozen BK138.out 2; have hfz87_3 := blk_frozen BK138.out 3; have hfz87_4 := blk_frozen BK138.out 4; have hfz87_5 := blk_frozen BK138.out 5; have hcz88_0 : w85.cell? ⟨gb148, 0, none⟩ = some (.int .i64 x149000_2) := (blk_cell BK148.out 0).trans rfl; have hcz88_1 : w85.cell? ⟨gb148, 1, none⟩ = some (.int .i64 x149001_2) := (blk_cell BK148.out 1).trans rfl; have hfz88_0 := blk_frozen BK148.out 0; have hfz88_1 := blk_frozen BK148.out 1) | ((with_reducible refine gate_callee (f := 16) rfl ?_); refine goesL_ (some 55) rfl rfl Try.func16 (by kernel_rfl) rfl #[.agg #[.int .i64 a0_0, .int .i64 a0_1, .int .i64 a0_2, .int .i64 a0_3, .int .i64 a0_4, .bool a0_5], .agg #[.int .i64 x149000_2, .int .i64 x149001_2], .int .i64 a2] rfl (by (try simp only [List.map_toArray, List.map_cons, List.map_nil]); first | done | rfl | (simp only [List.length_drop, List.length_take]; rfl)) ?_; (with_reducible refine (spec_sdNext.calls k2 a0_0 a0_1 a0_2 a0_3 a0_4 a0_5 x149000_2 x149001_2 a2 t157 t158 _ A72.out).mono ?_); rintro e w89 ⟨rfl, hb⟩; refine ⟨_, rfl, ?_⟩; have n0_ := A0 (blk_below (g := gb138) (o := .cells #[.int .i64 a0_0, .int .i64 a0_1, .int .i64 a0_2, .int .i64 a0_3, .int .i64 a0_4, .bool a0_5] 30 (0, 0)) (by (with_reducible repeat (first | apply bN | apply bD | apply bA)); refine blk_far ?_ NB138_147.out _; (with_reducible repeat (first | apply bN | apply bD | apply bA)); refine blk_far ?_ NB138_147.out _; (with_reducible repeat (first | apply bN | apply bD | apply bA)); exact BK138.out) hb); have n1_ := A0 (blk_below (g := gb139) (o := .cells #[.int .i64 a1_0, .int .i64 a1_1] 35 (0, 0)) (by (with_reducible repeat (first | apply bN | apply bD | apply bA)); refine blk_far ?_ NB139_147.out _; (with_reducible repeat (first | apply bN | apply bD | apply bA)); refine blk_far ?_ NB139_147.out _; (with_reducible repeat (first | apply bN | apply bD | apply bA)); exact BK139.out) hb); have n2_ := A0 (blk_below (g := gb140) (o := .cells #[.int .i64 x141000_1, .int .i64 x141001_1] 35 (0, 0)) (by (with_reducible repeat (first | apply bN | apply bD | apply bA)); refine blk_far ?_ NB140_147.out _; (with_reducible repeat (first | apply bN | apply bD | apply bA)); refine blk_far ?_ NB140_147.out _; (with_reducible repeat (first | apply bN | apply bD | apply bA)); exact BK140.out) hb); have n3_ := A0 (blk_below (g := gb147) (o := .cells #[.int .i64 t155, .int .i64 t156] 35 (0, 0)) (by (with_reducible repeat (first | apply bN | apply bD | apply bA)); refine blk_put (cs := #[.int .i64 t155, .int .i64 x148001_2]) ?_ 1 _ rfl; (with_reducible repeat (first | apply bN | apply bD | apply bA)); refine blk_put (cs := #[.int .i64 x148000_2, .int .i64 x148001_2]) ?_ 0 _ rfl; (with_reducible repeat (first | apply bN | apply bD | apply bA)); exact BK147.out) hb); have n4_ := A0 (blk_below (g := gb148) (o := .cells #[.int .i64 x149000_2, .int .i64 x149001_2] 35 (0, 0)) (by (with_reducible repeat (first | apply bN | apply bD | apply bA)); refine blk_far ?_ NB148_147.out _; (with_reducible repeat (first | apply bN | apply bD | apply bA)); refine blk_far ?_ NB148_147.out _; (with_reducible repeat (first | apply bN | apply bD | apply bA)); exact BK148.out) hb); have n5_ := A0 (below_step (by repeat (first | (with_reducible first | exact HB.out | apply lA | apply lN | apply lD | refine lS ?_ GE138.out | refine lS ?_ GE139.out | refine lS ?_ GE140.out | refine lS ?_ GE147.out | refine lS ?_ GE148.out) | exact HB.out)) hb); clear BK138; clear BK139; clear BK140; clear BK147; clear BK148; clear HB; have BK138 := n0_; have BK139 := n1_; have BK140 := n2_; have BK147 := n3_; have BK148 := n4_; have HB := n5_; clear n0_ n1_ n2_ n3_ n4_ n5_; (try clear hb); (try clear hb2); (try clear hk); (try clear hi); have hcz90_0 : w89.cell? ⟨gb148, 0, none⟩ = some (.int .i64 x149000_2) := (blk_cell BK148.out 0).trans rfl; have hcz90_1 : w89.cell? ⟨gb148, 1, none⟩ = some (.int .i64 x149001_2) := (blk_cell BK148.out 1).trans rfl; have hfz90_0 := blk_frozen BK148.out 0; have hfz90_1 := blk_frozen BK148.out 1))
       go_roundg k2
       case measure => have := HK1.out; have := HK2.out; omega
       case rel => exact ⟨(wrap64 (x12_2 + 1)), (t155), (t156), (t157), (t158), (by first | rfl | (simp; done) | (simp [*]; done)), H', ⟨by have := HK1.out; have := HK2.out; omega⟩, ⟨by (with_reducible repeat (first | apply bN | apply bD | apply bA)); refine blk_far ?_ NB138_148.out _; (with_reducible repeat (first | apply bN | apply bD | apply bA)); refine blk_far ?_ NB138_148.out _; (with_reducible repeat (first | apply bN | apply bD | apply bA)); exact BK138.out⟩, ⟨by (with_reducible repeat (first | apply bN | apply bD | apply bA)); refine blk_far ?_ NB139_148.out _; (with_reducible repeat (first | apply bN | apply bD | apply bA)); refine blk_far ?_ NB139_148.out _; (with_reducible repeat (first | apply bN | apply bD | apply bA)); exact BK139.out⟩, ⟨by (with_reducible repeat (first | apply bN | apply bD | apply bA)); refine blk_far ?_ NB140_148.out _; (with_reducible repeat (first | apply bN | apply bD | apply bA)); refine blk_far ?_ NB140_148.out _; (with_reducible repeat (first | apply bN | apply bD | apply bA)); exact BK140.out⟩, ⟨by (with_reducible repeat (first | apply bN | apply bD | apply bA)); refine blk_far ?_ NB147_148.out _; (with_reducible repeat (first | apply bN | apply bD | apply bA)); refine blk_far ?_ NB147_148.out _; (with_reducible repeat (first | apply bN | apply bD | apply bA)); exact BK147.out⟩, ⟨by (with_reducible repeat (first | apply bN | apply bD | apply bA)); refine blk_put (cs := #[.int .i64 t157, .int .i64 x149001_2]) ?_ 1 _ rfl; (with_reducible repeat (first | apply bN | apply bD | apply bA)); refine blk_put (cs := #[.int .i64 x149000_2, .int .i64 x149001_2]) ?_ 0 _ rfl; (with_reducible repeat (first | apply bN | apply bD | apply bA)); exact BK148.out⟩, ⟨by repeat (first | (with_reducible first | exact HB.out | apply lA | apply lN | apply lD | refine lS ?_ GE138.out | refine lS ?_ GE139.out | refine lS ?_ GE140.out | refine lS ?_ GE147.out | refine lS ?_ GE148.out) | exact HB.out)⟩⟩
      ·rw [if_neg c70] at H
       have c70b0 : (!(x148000_2 == x149000_2) || (!(x148001_2 == x149001_2))) = false := by simpa using c70
       clear c70
       replace H := Option.bind_eq_some_iff.mp H
       obtain ⟨⟨t159, t160⟩, A910, H⟩ := H
       replace H : (spec_sdMeet.l2 k2 a2 x12_2 1 a0_0 a0_1 a0_2 a0_3 a0_4 a0_5 a1_0 a1_1 x148000_2 x148001_2 t159 t160) = some (r1, r2, r3, r4) := H
       have A91 := A0 A910
       clear A910
       have H' := A0 H
       clear H
       have hnb92 := NB147_138.out
       have hnc92 := NB138_147.out
       have hnb93 := NB147_139.out
       have hnc93 := NB139_147.out
       have hnb94 := NB147_140.out
       have hnc94 := NB140_147.out
       have hnb95 := NB147_148.out
       have hnc95 := NB148_147.out
       have hcz96_0 : wr.cell? ⟨gb147, 0, none⟩ = some (.int .i64 x148000_2) := (blk_cell BK147.out 0).trans rfl
       have hcz96_1 : wr.cell? ⟨gb147, 1, none⟩ = some (.int .i64 x148001_2) := (blk_cell BK147.out 1).trans rfl
       have hfz96_0 := blk_frozen BK147.out 0
       have hfz96_1 := blk_frozen BK147.out 1
       have hnb97 := NB148_138.out
       have hnc97 := NB138_148.out
       have hnb98 := NB148_139.out
       have hnc98 := NB139_148.out
       have hnb99 := NB148_140.out
       have hnc99 := NB140_148.out
       have hcz100_0 : wr.cell? ⟨gb148, 0, none⟩ = some (.int .i64 x149000_2) := (blk_cell BK148.out 0).trans rfl
       have hcz100_1 : wr.cell? ⟨gb148, 1, none⟩ = some (.int .i64 x149001_2) := (blk_cell BK148.out 1).trans rfl
       have hfz100_0 := blk_frozen BK148.out 0
       have hfz100_1 := blk_frozen BK148.out 1
       have hnb101 := NB138_139.out
       have hnc101 := NB139_138.out
       have hnb102 := NB138_140.out
       have hnc102 := NB140_138.out
       have hcz103_0 : wr.cell? ⟨gb138, 0, none⟩ = some (.int .i64 a0_0) := (blk_cell BK138.out 0).trans rfl
       have hcz103_1 : wr.cell? ⟨gb138, 1, none⟩ = some (.int .i64 a0_1) := (blk_cell BK138.out 1).trans rfl
       have hcz103_2 : wr.cell? ⟨gb138, 2, none⟩ = some (.int .i64 a0_2) := (blk_cell BK138.out 2).trans rfl
       have hcz103_3 : wr.cell? ⟨gb138, 3, none⟩ = some (.int .i64 a0_3) := (blk_cell BK138.out 3).trans rfl
       have hcz103_4 : wr.cell? ⟨gb138, 4, none⟩ = some (.int .i64 a0_4) := (blk_cell BK138.out 4).trans rfl
       have hcz103_5 : wr.cell? ⟨gb138, 5, none⟩ = some (.bool a0_5) := (blk_cell BK138.out 5).trans rfl
       have hfz103_0 := blk_frozen BK138.out 0
       have hfz103_1 := blk_frozen BK138.out 1
       have hfz103_2 := blk_frozen BK138.out 2
       have hfz103_3 := blk_frozen BK138.out 3
       have hfz103_4 := blk_frozen BK138.out 4
       have hfz103_5 := blk_frozen BK138.out 5
       go_wp2_with (first | ((with_reducible refine gate_callee (f := 16) rfl ?_); refine goesL_ (some 61) rfl rfl Try.func16 (by kernel_rfl) rfl #[.agg #[.int .i64 a0_0, .int .i64 a0_1, .int .i64 a0_2, .int .i64 a0_3, .int .i64 a0_4, .bool a0_5], .agg #[.int .i64 x148000_2, .int .i64 x148001_2], .int .i64 a2] rfl (by (try simp only [List.map_toArray, List.map_cons, List.map_nil]); first | done | rfl | (simp only [List.length_drop, List.length_take]; rfl)) ?_; (with_reducible refine (spec_sdNext.calls k2 a0_0 a0_1 a0_2 a0_3 a0_4 a0_5 x148000_2 x148001_2 a2 t159 t160 _ A91.out).mono ?_); rintro e w104 ⟨rfl, hb⟩; refine ⟨_, rfl, ?_⟩; have n0_ := A0 (blk_below (g := gb138) (o := .cells #[.int .i64 a0_0, .int .i64 a0_1, .int .i64 a0_2, .int .i64 a0_3, .int .i64 a0_4, .bool a0_5] 30 (0, 0)) (by (with_reducible repeat (first | apply bN | apply bD | apply bA)); exact BK138.out) hb); have n1_ := A0 (blk_below (g := gb139) (o := .cells #[.int .i64 a1_0, .int .i64 a1_1] 35 (0, 0)) (by (with_reducible repeat (first | apply bN | apply bD | apply bA)); exact BK139.out) hb); have n2_ := A0 (blk_below (g := gb140) (o := .cells #[.int .i64 x141000_1, .int .i64 x141001_1] 35 (0, 0)) (by (with_reducible repeat (first | apply bN | apply bD | apply bA)); exact BK140.out) hb); have n3_ := A0 (blk_below (g := gb147) (o := .cells #[.int .i64 x148000_2, .int .i64 x148001_2] 35 (0, 0)) (by (with_reducible repeat (first | apply bN | apply bD | apply bA)); exact BK147.out) hb); have n4_ := A0 (blk_below (g := gb148) (o := .cells #[.int .i64 x149000_2, .int .i64 x149001_2] 35 (0, 0)) (by (with_reducible repeat (first | apply bN | apply bD | apply bA)); exact BK148.out) hb); have n5_ := A0 (below_step (by repeat (first | (with_reducible first | exact HB.out | apply lA | apply lN | apply lD | refine lS ?_ GE138.out | refine lS ?_ GE139.out | refine lS ?_ GE140.out | refine lS ?_ GE147.out | refine lS ?_ GE148.out) | exact HB.out)) hb); clear BK138; clear BK139; clear BK140; clear BK147; clear BK148; clear HB; have BK138 := n0_; have BK139 := n1_; have BK140 := n2_; have BK147 := n3_; have BK148 := n4_; have HB := n5_; clear n0_ n1_ n2_ n3_ n4_ n5_; (try clear hb); (try clear hb2); (try clear hk); (try clear hi); have hcz105_0 : w104.cell? ⟨gb148, 0, none⟩ = some (.int .i64 x149000_2) := (blk_cell BK148.out 0).trans rfl; have hcz105_1 : w104.cell? ⟨gb148, 1, none⟩ = some (.int .i64 x149001_2) := (blk_cell BK148.out 1).trans rfl; have hfz105_0 := blk_frozen BK148.out 0; have hfz105_1 := blk_frozen BK148.out 1))
       go_loopg [13] k2 (fun kq v13 w' => ∃ (x13_3 : Int) (x141000_3 : Int) (x141001_3 : Int) (x149000_3 : Int) (x149001_3 : Int), v13 = .int .i64 x13_3 ∧ Aside0 (spec_sdMeet.l2 kq a2 x12_2 x13_3 a0_0 a0_1 a0_2 a0_3 a0_4 a0_5 a1_0 a1_1 x148000_2 x148001_2 x149000_3 x149001_3 = some (r1, r2, r3, r4)) ∧ Aside0 (kq ≤ k2) ∧ Aside0 (w'.heap[gb138]? = some (.cells #[.int .i64 a0_0, .int .i64 a0_1, .int .i64 a0_2, .int .i64 a0_3, .int .i64 a0_4, .bool a0_5] 30 (0, 0))) ∧ Aside0 (w'.heap[gb139]? = some (.cells #[.int .i64 a1_0, .int .i64 a1_1] 35 (0, 0))) ∧ Aside0 (w'.heap[gb140]? = some (.cells #[.int .i64 x141000_3, .int .i64 x141001_3] 35 (0, 0))) ∧ Aside0 (w'.heap[gb147]? = some (.cells #[.int .i64 x148000_2, .int .i64 x148001_2] 35 (0, 0))) ∧ Aside0 (w'.heap[gb148]? = some (.cells #[.int .i64 x149000_3, .int .i64 x149001_3] 35 (0, 0))) ∧ Aside0 (Below w.heap.size w w'))
       case atStart => exact ⟨(1), (x141000_1), (x141001_1), (t159), (t160), (by first | rfl | (simp; done) | (simp [*]; done)), H', ⟨Nat.le_refl _⟩, ⟨by (with_reducible repeat (first | apply bN | apply bD | apply bA)); refine blk_far ?_ NB138_148.out _; (with_reducible repeat (first | apply bN | apply bD | apply bA)); refine blk_far ?_ NB138_148.out _; (with_reducible repeat (first | apply bN | apply bD | apply bA)); exact BK138.out⟩, ⟨by (with_reducible repeat (first | apply bN | apply bD | apply bA)); refine blk_far ?_ NB139_148.out _; (with_reducible repeat (first | apply bN | apply bD | apply bA)); refine blk_far ?_ NB139_148.out _; (with_reducible repeat (first | apply bN | apply bD | apply bA)); exact BK139.out⟩, ⟨by (with_reducible repeat (first | apply bN | apply bD | apply bA)); refine blk_far ?_ NB140_148.out _; (with_reducible repeat (first | apply bN | apply bD | apply bA)); refine blk_far ?_ NB140_148.out _; (with_reducible repeat (first | apply bN | apply bD | apply bA)); exact BK140.out⟩, ⟨by (with_reducible repeat (first | apply bN | apply bD | apply bA)); refine blk_far ?_ NB147_148.out _; (with_reducible repeat (first | apply bN | apply bD | apply bA)); refine blk_far ?_ NB147_148.out _; (with_reducible repeat (first | apply bN | apply bD | apply bA)); exact BK147.out⟩, ⟨by (with_reducible repeat (first | apply bN | apply bD | apply bA)); refine blk_put (cs := #[.int .i64 t159, .int .i64 x149001_2]) ?_ 1 _ rfl; (with_reducible repeat (first | apply bN | apply bD | apply bA)); refine blk_put (cs := #[.int .i64 x149000_2, .int .i64 x149001_2]) ?_ 0 _ rfl; (with_reducible repeat (first | apply bN | apply bD | apply bA)); exact BK148.out⟩, ⟨by repeat (first | (with_reducible first | exact HB.out | apply lA | apply lN | apply lD | refine lS ?_ GE138.out | refine lS ?_ GE139.out | refine lS ?_ GE140.out | refine lS ?_ GE147.out | refine lS ?_ GE148.out) | exact HB.out)⟩⟩
       case round =>
        clear H'
        try clear c1; try clear c2; try clear p2; try clear c3; try clear c4; try clear c5; try clear c6; try clear p6; try clear c7; try clear c8; try clear c9; try clear c10; try clear c16; try clear c21; try clear c21b0; try clear c22; try clear c22b0; try clear c23; try clear c24; try clear c25; try clear c26; try clear c28; try clear c29; try clear c30; try clear c38; try clear c39; try clear c40; try clear c41; try clear c43; try clear c44; try clear c45; try clear c47; try clear c48; try clear c58; try clear c59; try clear c60; try clear c61; try clear c63; try clear c64; try clear p64; try clear c65; try clear c67; try clear c68; try clear c70; try clear c70b0; try clear c73; try clear c74; try clear c75; try clear c76; try clear c78; try clear c79; try clear c80; try clear c82; try clear c83; try clear c92; try clear c93; try clear c94; try clear c95; try clear c97; try clear c98; try clear c99; try clear c101; try clear c102; try clear hcz100_0; try clear hcz100_1; try clear hcz103_0; try clear hcz103_1; try clear hcz103_2; try clear hcz103_3; try clear hcz103_4; try clear hcz103_5; try clear hcz105_0; try clear hcz105_1; try clear hcz27_0; try clear hcz27_1; try clear hcz31_0; try clear hcz31_1; try clear hcz42_0; try clear hcz42_1; try clear hcz46_0; try clear hcz46_1; try clear hcz49_0; try clear hcz49_1; try clear hcz49_2; try clear hcz49_3; try clear hcz49_4; try clear hcz49_5; try clear hcz51_0; try clear hcz51_1; try clear hcz62_0; try clear hcz62_1; try clear hcz66_0; try clear hcz66_1; try clear hcz69_0; try clear hcz69_1; try clear hcz77_0; try clear hcz77_1; try clear hcz81_0; try clear hcz81_1; try clear hcz84_0; try clear hcz84_1; try clear hcz84_2; try clear hcz84_3; try clear hcz84_4; try clear hcz84_5; try clear hcz86_0; try clear hcz86_1; try clear hcz87_0; try clear hcz87_1; try clear hcz87_2; try clear hcz87_3; try clear hcz87_4; try clear hcz87_5; try clear hcz88_0; try clear hcz88_1; try clear hcz90_0; try clear hcz90_1; try clear hcz96_0; try clear hcz96_1; try clear hfz100_0; try clear hfz100_1; try clear hfz103_0; try clear hfz103_1; try clear hfz103_2; try clear hfz103_3; try clear hfz103_4; try clear hfz103_5; try clear hfz105_0; try clear hfz105_1; try clear hfz27_0; try clear hfz27_1; try clear hfz31_0; try clear hfz31_1; try clear hfz42_0; try clear hfz42_1; try clear hfz46_0; try clear hfz46_1; try clear hfz49_0; try clear hfz49_1; try clear hfz49_2; try clear hfz49_3; try clear hfz49_4; try clear hfz49_5; try clear hfz51_0; try clear hfz51_1; try clear hfz62_0; try clear hfz62_1; try clear hfz66_0; try clear hfz66_1; try clear hfz69_0; try clear hfz69_1; try clear hfz77_0; try clear hfz77_1; try clear hfz81_0; try clear hfz81_1; try clear hfz84_0; try clear hfz84_1; try clear hfz84_2; try clear hfz84_3; try clear hfz84_4; try clear hfz84_5; try clear hfz86_0; try clear hfz86_1; try clear hfz87_0; try clear hfz87_1; try clear hfz87_2; try clear hfz87_3; try clear hfz87_4; try clear hfz87_5; try clear hfz88_0; try clear hfz88_1; try clear hfz90_0; try clear hfz90_1; try clear hfz96_0; try clear hfz96_1; try clear p2; try clear p6; try clear p64
        obtain ⟨x13_3, x141000_3, x141001_3, x149000_3, x149001_3, rfl, HA, HK3, BK138, BK139, BK140, BK147, BK148, HB⟩ := hrel
        cases gk with
        | zero => exact absurd HA.out (by simp [spec_sdMeet.l2])
        | succ k3 =>
         have H := HA.out
         clear HA
         simp only [spec_sdMeet.l2] at H
         by_cases c106 : (!(x149000_3 == x148000_2) || (!(x149001_3 == x148001_2))) = true
         ·rw [if_pos c106] at H
          have c106b0 : (!(x149000_3 == x148000_2) || (!(x149001_3 == x148001_2))) = true := c106
          clear c106
          by_cases c107 : (wrap64 (x13_3 + 1)) > 20000
          ·rw [if_pos c107] at H
           have c107b0 : decide (20000 < (wrap64 (x13_3 + 1))) = true := decide_eq_true c107
           clear c107
           simp only [Option.some.injEq, Prod.mk.injEq] at H
           obtain ⟨rfl, rfl, rfl, rfl⟩ := H
           have hnb108 := NB148_138.out
           have hnc108 := NB138_148.out
           have hnb109 := NB148_139.out
           have hnc109 := NB139_148.out
           have hnb110 := NB148_140.out
           have hnc110 := NB140_148.out
           have hnb111 := NB148_147.out
           have hnc111 := NB147_148.out
           have hcz112_0 : wr.cell? ⟨gb148, 0, none⟩ = some (.int .i64 x149000_3) := (blk_cell BK148.out 0).trans rfl
           have hcz112_1 : wr.cell? ⟨gb148, 1, none⟩ = some (.int .i64 x149001_3) := (blk_cell BK148.out 1).trans rfl
           have hfz112_0 := blk_frozen BK148.out 0
           have hfz112_1 := blk_frozen BK148.out 1
           have hnb113 := NB147_138.out
           have hnc113 := NB138_147.out
           have hnb114 := NB147_139.out
           have hnc114 := NB139_147.out
           have hnb115 := NB147_140.out
           have hnc115 := NB140_147.out
           have hcz116_0 : wr.cell? ⟨gb147, 0, none⟩ = some (.int .i64 x148000_2) := (blk_cell BK147.out 0).trans rfl
           have hcz116_1 : wr.cell? ⟨gb147, 1, none⟩ = some (.int .i64 x148001_2) := (blk_cell BK147.out 1).trans rfl
           have hfz116_0 := blk_frozen BK147.out 0
           have hfz116_1 := blk_frozen BK147.out 1
           try go_wp2
           have n0_ := A0 (bD BK138.out)
           have n1_ := A0 (bD BK139.out)
           have n2_ := A0 (bD BK140.out)
           have n3_ := A0 (bD BK147.out)
           have n4_ := A0 (bD BK148.out)
           have n5_ := A0 (lD HB.out)
           clear BK138
           clear BK139
           clear BK140
           clear BK147
           clear BK148
           clear HB
           have BK138 := n0_
           have BK139 := n1_
           have BK140 := n2_
           have BK147 := n3_
           have BK148 := n4_
           have HB := n5_
           clear n0_ n1_ n2_ n3_ n4_ n5_
           refine start_ (n := 4) (S := fun w' => w'.cell? ⟨gb139, 0, none⟩ = some (.int .i64 a1_0) ∧ w'.cell? ⟨gb139, 1, none⟩ = some (.int .i64 a1_1)) (ds := []) #[false, false, false, false] (by kernel_rfl) rfl rfl ⟨(blk_cell BK139.out 0).trans rfl, (blk_cell BK139.out 1).trans rfl⟩ (fun hHeld => ?_)
           generalize wr.drew = w117 at BK138 BK139 BK140 BK147 BK148 HB hHeld ⊢
           refine pure_ (i := 1) (N := some 6) (v := ?_) (a' := ?_) #[false, true, false, false] rfl rfl (by kernel_rfl) (fun _ _ _ h => h) (Or.inl ⟨by rfl, ?_⟩) ?_ ?_
           rotate_left
           ·intro w'
            go_simp
            with_reducible rfl
           rotate_left
           ·simp only [Act.put, List.setIfInBounds_toArray, List.set_cons_zero, List.set_cons_succ, i64_w, i32_w]
            rfl
           refine take_ (i := 0) (N := some 73) (v := ?_) (a' := ?_) #[true, true, false, false] rfl rfl (by kernel_rfl) (fun _ _ _ h => h) (Or.inl ⟨by rfl, ?_⟩) hHeld ?_ ?_
           rotate_left
           ·rintro w' ⟨s0, s1⟩
            go_simp
            with_reducible rfl
           rotate_left
           ·simp only [Act.put, List.setIfInBounds_toArray, List.set_cons_zero, List.set_cons_succ, i64_w, i32_w]
            rfl
           refine one_ (i := 2) (N := none) #[true, true, true, false] rfl rfl (by kernel_rfl) (by decide) (fun K hK => ?_)
           have hs118 : w117.cell? ⟨gb140, 0, none⟩ = some (.int .i64 x141000_3) := (blk_cell BK140.out 0).trans rfl
           have hfs118 := blk_frozen BK140.out 0
           have hns118_0 := NB138_140.out
           have hns118_1 := NB139_140.out
           have hns118_3 := NB147_140.out
           have hns118_4 := NB148_140.out
           have hms118_0 := NB140_138.out
           have hms118_1 := NB140_139.out
           have hms118_3 := NB140_147.out
           have hms118_4 := NB140_148.out
           have hs119 : w117.cell? ⟨gb140, 1, none⟩ = some (.int .i64 x141001_3) := (blk_cell BK140.out 1).trans rfl
           have hfs119 := blk_frozen BK140.out 1
           have hns119_0 := NB138_140.out
           have hns119_1 := NB139_140.out
           have hns119_3 := NB147_140.out
           have hns119_4 := NB148_140.out
           have hms119_0 := NB140_138.out
           have hms119_1 := NB140_139.out
           have hms119_3 := NB140_147.out
           have hms119_4 := NB140_148.out
           refine skip_ (w1 := ?_) (by rfl) rfl ?_ ?_
           rotate_left
           ·go_simp
            rfl
           refine hK.out _ _ ⟨((cell_far (p := ⟨gb140, _, none⟩) NB139_140.out _).trans (((cell_far (p := ⟨gb140, _, none⟩) NB139_140.out _).trans (hHeld.1)))), ((cell_far (p := ⟨gb140, _, none⟩) NB139_140.out _).trans (((cell_far (p := ⟨gb140, _, none⟩) NB139_140.out _).trans (hHeld.2))))⟩ (fun hHeld => ?_)
           clear hK K
           refine pure_ (i := 3) (N := some 8) (v := ?_) (a' := ?_) #[true, true, true, true] rfl rfl (by kernel_rfl) (fun _ _ _ h => h) (Or.inl ⟨by rfl, ?_⟩) ?_ ?_
           rotate_left
           ·intro w'
            go_simp
            with_reducible rfl
           rotate_left
           ·simp only [Act.put, List.setIfInBounds_toArray, List.set_cons_zero, List.set_cons_succ, i64_w, i32_w]
            rfl
           refine done_ (by kernel_rfl) ?_
           try go_wp2
           refine bodyPost_ret (results_list (rs := [.tmp 6, .cell 7 35, .tmp 8]) rfl (by simp) (.tmp (.cell gb140 35 #[.int .i64 a1_0, .int .i64 a1_1] (0, 0) _ rfl (by (with_reducible repeat (first | apply bN | apply bD | apply bA)); refine blk_put (cs := #[.int .i64 a1_0, .int .i64 x141001_3]) ?_ 1 _ rfl; (with_reducible repeat (first | apply bN | apply bD | apply bA)); refine blk_put (cs := #[.int .i64 x141000_3, .int .i64 x141001_3]) ?_ 0 _ rfl; (with_reducible repeat (first | apply bN | apply bD | apply bA)); exact BK140.out) Try.underlying35 rfl (by kernel_rfl) (.tmp .nil)))) rfl ?_
           exact ⟨by first | rfl | (simp [errW_none, errW_some] <;> rfl) | (simp [*, errW_none, errW_some] <;> rfl), by repeat (first | (with_reducible first | exact HB.out | apply lA | apply lN | apply lD | refine lS ?_ GE138.out | refine lS ?_ GE139.out | refine lS ?_ GE140.out | refine lS ?_ GE147.out | refine lS ?_ GE148.out) | exact HB.out)⟩
          ·rw [if_neg c107] at H
           have c107b0 : decide (20000 < (wrap64 (x13_3 + 1))) = false := decide_eq_false c107
           clear c107
           replace H := Option.bind_eq_some_iff.mp H
           obtain ⟨⟨t161, t162⟩, A1200, H⟩ := H
           replace H : (spec_sdMeet.l2 k3 a2 x12_2 (wrap64 (x13_3 + 1)) a0_0 a0_1 a0_2 a0_3 a0_4 a0_5 a1_0 a1_1 x148000_2 x148001_2 t161 t162) = some (r1, r2, r3, r4) := H
           have A120 := A0 A1200
           clear A1200
           have H' := A0 H
           clear H
           have hnb121 := NB148_138.out
           have hnc121 := NB138_148.out
           have hnb122 := NB148_139.out
           have hnc122 := NB139_148.out
           have hnb123 := NB148_140.out
           have hnc123 := NB140_148.out
           have hnb124 := NB148_147.out
           have hnc124 := NB147_148.out
           have hcz125_0 : wr.cell? ⟨gb148, 0, none⟩ = some (.int .i64 x149000_3) := (blk_cell BK148.out 0).trans rfl
           have hcz125_1 : wr.cell? ⟨gb148, 1, none⟩ = some (.int .i64 x149001_3) := (blk_cell BK148.out 1).trans rfl
           have hfz125_0 := blk_frozen BK148.out 0
           have hfz125_1 := blk_frozen BK148.out 1
           have hnb126 := NB147_138.out
           have hnc126 := NB138_147.out
           have hnb127 := NB147_139.out
           have hnc127 := NB139_147.out
           have hnb128 := NB147_140.out
           have hnc128 := NB140_147.out
           have hcz129_0 : wr.cell? ⟨gb147, 0, none⟩ = some (.int .i64 x148000_2) := (blk_cell BK147.out 0).trans rfl
           have hcz129_1 : wr.cell? ⟨gb147, 1, none⟩ = some (.int .i64 x148001_2) := (blk_cell BK147.out 1).trans rfl
           have hfz129_0 := blk_frozen BK147.out 0
           have hfz129_1 := blk_frozen BK147.out 1
           have hnb130 := NB138_139.out
           have hnc130 := NB139_138.out
           have hnb131 := NB138_140.out
           have hnc131 := NB140_138.out
           have hcz132_0 : wr.cell? ⟨gb138, 0, none⟩ = some (.int .i64 a0_0) := (blk_cell BK138.out 0).trans rfl
           have hcz132_1 : wr.cell? ⟨gb138, 1, none⟩ = some (.int .i64 a0_1) := (blk_cell BK138.out 1).trans rfl
           have hcz132_2 : wr.cell? ⟨gb138, 2, none⟩ = some (.int .i64 a0_2) := (blk_cell BK138.out 2).trans rfl
           have hcz132_3 : wr.cell? ⟨gb138, 3, none⟩ = some (.int .i64 a0_3) := (blk_cell BK138.out 3).trans rfl
           have hcz132_4 : wr.cell? ⟨gb138, 4, none⟩ = some (.int .i64 a0_4) := (blk_cell BK138.out 4).trans rfl
           have hcz132_5 : wr.cell? ⟨gb138, 5, none⟩ = some (.bool a0_5) := (blk_cell BK138.out 5).trans rfl
           have hfz132_0 := blk_frozen BK138.out 0
           have hfz132_1 := blk_frozen BK138.out 1
           have hfz132_2 := blk_frozen BK138.out 2
           have hfz132_3 := blk_frozen BK138.out 3
           have hfz132_4 := blk_frozen BK138.out 4
           have hfz132_5 := blk_frozen BK138.out 5
           go_wp2_with (first | ((with_reducible refine gate_callee (f := 16) rfl ?_); refine goesL_ (some 68) rfl rfl Try.func16 (by kernel_rfl) rfl #[.agg #[.int .i64 a0_0, .int .i64 a0_1, .int .i64 a0_2, .int .i64 a0_3, .int .i64 a0_4, .bool a0_5], .agg #[.int .i64 x149000_3, .int .i64 x149001_3], .int .i64 a2] rfl (by (try simp only [List.map_toArray, List.map_cons, List.map_nil]); first | done | rfl | (simp only [List.length_drop, List.length_take]; rfl)) ?_; (with_reducible refine (spec_sdNext.calls k3 a0_0 a0_1 a0_2 a0_3 a0_4 a0_5 x149000_3 x149001_3 a2 t161 t162 _ A120.out).mono ?_); rintro e w133 ⟨rfl, hb⟩; refine ⟨_, rfl, ?_⟩; have n0_ := A0 (blk_below (g := gb138) (o := .cells #[.int .i64 a0_0, .int .i64 a0_1, .int .i64 a0_2, .int .i64 a0_3, .int .i64 a0_4, .bool a0_5] 30 (0, 0)) (by (with_reducible repeat (first | apply bN | apply bD | apply bA)); exact BK138.out) hb); have n1_ := A0 (blk_below (g := gb139) (o := .cells #[.int .i64 a1_0, .int .i64 a1_1] 35 (0, 0)) (by (with_reducible repeat (first | apply bN | apply bD | apply bA)); exact BK139.out) hb); have n2_ := A0 (blk_below (g := gb140) (o := .cells #[.int .i64 x141000_3, .int .i64 x141001_3] 35 (0, 0)) (by (with_reducible repeat (first | apply bN | apply bD | apply bA)); exact BK140.out) hb); have n3_ := A0 (blk_below (g := gb147) (o := .cells #[.int .i64 x148000_2, .int .i64 x148001_2] 35 (0, 0)) (by (with_reducible repeat (first | apply bN | apply bD | apply bA)); exact BK147.out) hb); have n4_ := A0 (blk_below (g := gb148) (o := .cells #[.int .i64 x149000_3, .int .i64 x149001_3] 35 (0, 0)) (by (with_reducible repeat (first | apply bN | apply bD | apply bA)); exact BK148.out) hb); have n5_ := A0 (below_step (by repeat (first | (with_reducible first | exact HB.out | apply lA | apply lN | apply lD | refine lS ?_ GE138.out | refine lS ?_ GE139.out | refine lS ?_ GE140.out | refine lS ?_ GE147.out | refine lS ?_ GE148.out) | exact HB.out)) hb); clear BK138; clear BK139; clear BK140; clear BK147; clear BK148; clear HB; have BK138 := n0_; have BK139 := n1_; have BK140 := n2_; have BK147 := n3_; have BK148 := n4_; have HB := n5_; clear n0_ n1_ n2_ n3_ n4_ n5_; (try clear hb); (try clear hb2); (try clear hk); (try clear hi); have hcz134_0 : w133.cell? ⟨gb148, 0, none⟩ = some (.int .i64 x149000_3) := (blk_cell BK148.out 0).trans rfl; have hcz134_1 : w133.cell? ⟨gb148, 1, none⟩ = some (.int .i64 x149001_3) := (blk_cell BK148.out 1).trans rfl; have hfz134_0 := blk_frozen BK148.out 0; have hfz134_1 := blk_frozen BK148.out 1))
           go_roundg k3
           case measure => have := HK1.out; have := HK2.out; have := HK3.out; omega
           case rel => exact ⟨(wrap64 (x13_3 + 1)), (x141000_3), (x141001_3), (t161), (t162), (by first | rfl | (simp; done) | (simp [*]; done)), H', ⟨by have := HK1.out; have := HK2.out; have := HK3.out; omega⟩, ⟨by (with_reducible repeat (first | apply bN | apply bD | apply bA)); refine blk_far ?_ NB138_148.out _; (with_reducible repeat (first | apply bN | apply bD | apply bA)); refine blk_far ?_ NB138_148.out _; (with_reducible repeat (first | apply bN | apply bD | apply bA)); exact BK138.out⟩, ⟨by (with_reducible repeat (first | apply bN | apply bD | apply bA)); refine blk_far ?_ NB139_148.out _; (with_reducible repeat (first | apply bN | apply bD | apply bA)); refine blk_far ?_ NB139_148.out _; (with_reducible repeat (first | apply bN | apply bD | apply bA)); exact BK139.out⟩, ⟨by (with_reducible repeat (first | apply bN | apply bD | apply bA)); refine blk_far ?_ NB140_148.out _; (with_reducible repeat (first | apply bN | apply bD | apply bA)); refine blk_far ?_ NB140_148.out _; (with_reducible repeat (first | apply bN | apply bD | apply bA)); exact BK140.out⟩, ⟨by (with_reducible repeat (first | apply bN | apply bD | apply bA)); refine blk_far ?_ NB147_148.out _; (with_reducible repeat (first | apply bN | apply bD | apply bA)); refine blk_far ?_ NB147_148.out _; (with_reducible repeat (first | apply bN | apply bD | apply bA)); exact BK147.out⟩, ⟨by (with_reducible repeat (first | apply bN | apply bD | apply bA)); refine blk_put (cs := #[.int .i64 t161, .int .i64 x149001_3]) ?_ 1 _ rfl; (with_reducible repeat (first | apply bN | apply bD | apply bA)); refine blk_put (cs := #[.int .i64 x149000_3, .int .i64 x149001_3]) ?_ 0 _ rfl; (with_reducible repeat (first | apply bN | apply bD | apply bA)); exact BK148.out⟩, ⟨by repeat (first | (with_reducible first | exact HB.out | apply lA | apply lN | apply lD | refine lS ?_ GE138.out | refine lS ?_ GE139.out | refine lS ?_ GE140.out | refine lS ?_ GE147.out | refine lS ?_ GE148.out) | exact HB.out)⟩⟩
         ·rw [if_neg c106] at H
          have c106b0 : (!(x149000_3 == x148000_2) || (!(x149001_3 == x148001_2))) = false := by simpa using c106
          clear c106
          by_cases c135 : (wrap64 (x12_2 + x13_3)) > 20000
          ·rw [if_pos c135] at H
           have c135b0 : decide (20000 < (wrap64 (x12_2 + x13_3))) = true := decide_eq_true c135
           clear c135
           simp only [Option.some.injEq, Prod.mk.injEq] at H
           obtain ⟨rfl, rfl, rfl, rfl⟩ := H
           have hnb136 := NB148_138.out
           have hnc136 := NB138_148.out
           have hnb137 := NB148_139.out
           have hnc137 := NB139_148.out
           have hnb138 := NB148_140.out
           have hnc138 := NB140_148.out
           have hnb139 := NB148_147.out
           have hnc139 := NB147_148.out
           have hcz140_0 : wr.cell? ⟨gb148, 0, none⟩ = some (.int .i64 x149000_3) := (blk_cell BK148.out 0).trans rfl
           have hcz140_1 : wr.cell? ⟨gb148, 1, none⟩ = some (.int .i64 x149001_3) := (blk_cell BK148.out 1).trans rfl
           have hfz140_0 := blk_frozen BK148.out 0
           have hfz140_1 := blk_frozen BK148.out 1
           have hnb141 := NB147_138.out
           have hnc141 := NB138_147.out
           have hnb142 := NB147_139.out
           have hnc142 := NB139_147.out
           have hnb143 := NB147_140.out
           have hnc143 := NB140_147.out
           have hcz144_0 : wr.cell? ⟨gb147, 0, none⟩ = some (.int .i64 x148000_2) := (blk_cell BK147.out 0).trans rfl
           have hcz144_1 : wr.cell? ⟨gb147, 1, none⟩ = some (.int .i64 x148001_2) := (blk_cell BK147.out 1).trans rfl
           have hfz144_0 := blk_frozen BK147.out 0
           have hfz144_1 := blk_frozen BK147.out 1
           try go_wp2
           have n0_ := A0 (bD BK138.out)
           have n1_ := A0 (bD BK139.out)
           have n2_ := A0 (bD BK140.out)
           have n3_ := A0 (bD BK147.out)
           have n4_ := A0 (bD BK148.out)
           have n5_ := A0 (lD HB.out)
           clear BK138
           clear BK139
           clear BK140
           clear BK147
           clear BK148
           clear HB
           have BK138 := n0_
           have BK139 := n1_
           have BK140 := n2_
           have BK147 := n3_
           have BK148 := n4_
           have HB := n5_
           clear n0_ n1_ n2_ n3_ n4_ n5_
           refine start_ (n := 4) (S := fun w' => w'.cell? ⟨gb139, 0, none⟩ = some (.int .i64 a1_0) ∧ w'.cell? ⟨gb139, 1, none⟩ = some (.int .i64 a1_1)) (ds := []) #[false, false, false, false] (by kernel_rfl) rfl rfl ⟨(blk_cell BK139.out 0).trans rfl, (blk_cell BK139.out 1).trans rfl⟩ (fun hHeld => ?_)
           generalize wr.drew = w145 at BK138 BK139 BK140 BK147 BK148 HB hHeld ⊢
           refine pure_ (i := 1) (N := some 6) (v := ?_) (a' := ?_) #[false, true, false, false] rfl rfl (by kernel_rfl) (fun _ _ _ h => h) (Or.inl ⟨by rfl, ?_⟩) ?_ ?_
           rotate_left
           ·intro w'
            go_simp
            with_reducible rfl
           rotate_left
           ·simp only [Act.put, List.setIfInBounds_toArray, List.set_cons_zero, List.set_cons_succ, i64_w, i32_w]
            rfl
           refine take_ (i := 0) (N := some 78) (v := ?_) (a' := ?_) #[true, true, false, false] rfl rfl (by kernel_rfl) (fun _ _ _ h => h) (Or.inl ⟨by rfl, ?_⟩) hHeld ?_ ?_
           rotate_left
           ·rintro w' ⟨s0, s1⟩
            go_simp
            with_reducible rfl
           rotate_left
           ·simp only [Act.put, List.setIfInBounds_toArray, List.set_cons_zero, List.set_cons_succ, i64_w, i32_w]
            rfl
           refine one_ (i := 2) (N := none) #[true, true, true, false] rfl rfl (by kernel_rfl) (by decide) (fun K hK => ?_)
           have hs146 : w145.cell? ⟨gb140, 0, none⟩ = some (.int .i64 x141000_3) := (blk_cell BK140.out 0).trans rfl
           have hfs146 := blk_frozen BK140.out 0
           have hns146_0 := NB138_140.out
           have hns146_1 := NB139_140.out
           have hns146_3 := NB147_140.out
           have hns146_4 := NB148_140.out
           have hms146_0 := NB140_138.out
           have hms146_1 := NB140_139.out
           have hms146_3 := NB140_147.out
           have hms146_4 := NB140_148.out
           have hs147 : w145.cell? ⟨gb140, 1, none⟩ = some (.int .i64 x141001_3) := (blk_cell BK140.out 1).trans rfl
           have hfs147 := blk_frozen BK140.out 1
           have hns147_0 := NB138_140.out
           have hns147_1 := NB139_140.out
           have hns147_3 := NB147_140.out
           have hns147_4 := NB148_140.out
           have hms147_0 := NB140_138.out
           have hms147_1 := NB140_139.out
           have hms147_3 := NB140_147.out
           have hms147_4 := NB140_148.out
           refine skip_ (w1 := ?_) (by rfl) rfl ?_ ?_
           rotate_left
           ·go_simp
            rfl
           refine hK.out _ _ ⟨((cell_far (p := ⟨gb140, _, none⟩) NB139_140.out _).trans (((cell_far (p := ⟨gb140, _, none⟩) NB139_140.out _).trans (hHeld.1)))), ((cell_far (p := ⟨gb140, _, none⟩) NB139_140.out _).trans (((cell_far (p := ⟨gb140, _, none⟩) NB139_140.out _).trans (hHeld.2))))⟩ (fun hHeld => ?_)
           clear hK K
           refine pure_ (i := 3) (N := some 8) (v := ?_) (a' := ?_) #[true, true, true, true] rfl rfl (by kernel_rfl) (fun _ _ _ h => h) (Or.inl ⟨by rfl, ?_⟩) ?_ ?_
           rotate_left
           ·intro w'
            go_simp
            with_reducible rfl
           rotate_left
           ·simp only [Act.put, List.setIfInBounds_toArray, List.set_cons_zero, List.set_cons_succ, i64_w, i32_w]
            rfl
           refine done_ (by kernel_rfl) ?_
           try go_wp2
           refine bodyPost_ret (results_list (rs := [.tmp 6, .cell 7 35, .tmp 8]) rfl (by simp) (.tmp (.cell gb140 35 #[.int .i64 a1_0, .int .i64 a1_1] (0, 0) _ rfl (by (with_reducible repeat (first | apply bN | apply bD | apply bA)); refine blk_put (cs := #[.int .i64 a1_0, .int .i64 x141001_3]) ?_ 1 _ rfl; (with_reducible repeat (first | apply bN | apply bD | apply bA)); refine blk_put (cs := #[.int .i64 x141000_3, .int .i64 x141001_3]) ?_ 0 _ rfl; (with_reducible repeat (first | apply bN | apply bD | apply bA)); exact BK140.out) Try.underlying35 rfl (by kernel_rfl) (.tmp .nil)))) rfl ?_
           exact ⟨by first | rfl | (simp [errW_none, errW_some] <;> rfl) | (simp [*, errW_none, errW_some] <;> rfl), by repeat (first | (with_reducible first | exact HB.out | apply lA | apply lN | apply lD | refine lS ?_ GE138.out | refine lS ?_ GE139.out | refine lS ?_ GE140.out | refine lS ?_ GE147.out | refine lS ?_ GE148.out) | exact HB.out)⟩
          ·rw [if_neg c135] at H
           have c135b0 : decide (20000 < (wrap64 (x12_2 + x13_3))) = false := decide_eq_false c135
           clear c135
           simp only [Option.some.injEq, Prod.mk.injEq] at H
           obtain ⟨rfl, rfl, rfl, rfl⟩ := H
           have hnb148 := NB148_138.out
           have hnc148 := NB138_148.out
           have hnb149 := NB148_139.out
           have hnc149 := NB139_148.out
           have hnb150 := NB148_140.out
           have hnc150 := NB140_148.out
           have hnb151 := NB148_147.out
           have hnc151 := NB147_148.out
           have hcz152_0 : wr.cell? ⟨gb148, 0, none⟩ = some (.int .i64 x149000_3) := (blk_cell BK148.out 0).trans rfl
           have hcz152_1 : wr.cell? ⟨gb148, 1, none⟩ = some (.int .i64 x149001_3) := (blk_cell BK148.out 1).trans rfl
           have hfz152_0 := blk_frozen BK148.out 0
           have hfz152_1 := blk_frozen BK148.out 1
           have hnb153 := NB147_138.out
           have hnc153 := NB138_147.out
           have hnb154 := NB147_139.out
           have hnc154 := NB139_147.out
           have hnb155 := NB147_140.out
           have hnc155 := NB140_147.out
           have hcz156_0 : wr.cell? ⟨gb147, 0, none⟩ = some (.int .i64 x148000_2) := (blk_cell BK147.out 0).trans rfl
           have hcz156_1 : wr.cell? ⟨gb147, 1, none⟩ = some (.int .i64 x148001_2) := (blk_cell BK147.out 1).trans rfl
           have hfz156_0 := blk_frozen BK147.out 0
           have hfz156_1 := blk_frozen BK147.out 1
           try go_wp2
           have n0_ := A0 (bD BK138.out)
           have n1_ := A0 (bD BK139.out)
           have n2_ := A0 (bD BK140.out)
           have n3_ := A0 (bD BK147.out)
           have n4_ := A0 (bD BK148.out)
           have n5_ := A0 (lD HB.out)
           clear BK138
           clear BK139
           clear BK140
           clear BK147
           clear BK148
           clear HB
           have BK138 := n0_
           have BK139 := n1_
           have BK140 := n2_
           have BK147 := n3_
           have BK148 := n4_
           have HB := n5_
           clear n0_ n1_ n2_ n3_ n4_ n5_
           refine start_ (n := 6) (S := fun w' => w'.cell? ⟨gb147, 0, none⟩ = some (.int .i64 x148000_2) ∧ w'.cell? ⟨gb147, 1, none⟩ = some (.int .i64 x148001_2)) (ds := []) #[false, false, false, false, false, false] (by kernel_rfl) rfl rfl ⟨(blk_cell BK147.out 0).trans rfl, (blk_cell BK147.out 1).trans rfl⟩ (fun hHeld => ?_)
           generalize wr.drew = w157 at BK138 BK139 BK140 BK147 BK148 HB hHeld ⊢
           refine pure_ (i := 0) (N := some 79) (v := ?_) (a' := ?_) #[true, false, false, false, false, false] rfl rfl (by kernel_rfl) (fun _ _ _ h => h) (Or.inl ⟨by rfl, ?_⟩) ?_ ?_
           rotate_left
           ·intro w'
            go_simp
            with_reducible rfl
           rotate_left
           ·simp only [Act.put, List.setIfInBounds_toArray, List.set_cons_zero, List.set_cons_succ, i64_w, i32_w]
            rfl
           refine pure_ (i := 2) (N := some 81) (v := ?_) (a' := ?_) #[true, false, true, false, false, false] rfl rfl (by kernel_rfl) (fun _ _ _ h => h) (Or.inl ⟨by rfl, ?_⟩) ?_ ?_
           rotate_left
           ·intro w'
            go_simp
            with_reducible rfl
           rotate_left
           ·simp only [Act.put, List.setIfInBounds_toArray, List.set_cons_zero, List.set_cons_succ, i64_w, i32_w]
            rfl
           refine pure_ (i := 3) (N := some 6) (v := ?_) (a' := ?_) #[true, false, true, true, false, false] rfl rfl (by kernel_rfl) (fun _ _ _ h => h) (Or.inl ⟨by rfl, ?_⟩) ?_ ?_
           rotate_left
           ·intro w'
            go_simp
            with_reducible rfl
           rotate_left
           ·simp only [Act.put, List.setIfInBounds_toArray, List.set_cons_zero, List.set_cons_succ, i64_w, i32_w]
            rfl
           refine take_ (i := 1) (N := some 80) (v := ?_) (a' := ?_) #[true, true, true, true, false, false] rfl rfl (by kernel_rfl) (fun _ _ _ h => h) (Or.inl ⟨by rfl, ?_⟩) hHeld ?_ ?_
           rotate_left
           ·rintro w' ⟨s0, s1⟩
            go_simp
            with_reducible rfl
           rotate_left
           ·simp only [Act.put, List.setIfInBounds_toArray, List.set_cons_zero, List.set_cons_succ, i64_w, i32_w]
            rfl
           refine one_ (i := 4) (N := none) #[true, true, true, true, true, false] rfl rfl (by kernel_rfl) (by decide) (fun K hK => ?_)
           have hs158 : w157.cell? ⟨gb140, 0, none⟩ = some (.int .i64 x141000_3) := (blk_cell BK140.out 0).trans rfl
           have hfs158 := blk_frozen BK140.out 0
           have hns158_0 := NB138_140.out
           have hns158_1 := NB139_140.out
           have hns158_3 := NB147_140.out
           have hns158_4 := NB148_140.out
           have hms158_0 := NB140_138.out
           have hms158_1 := NB140_139.out
           have hms158_3 := NB140_147.out
           have hms158_4 := NB140_148.out
           have hs159 : w157.cell? ⟨gb140, 1, none⟩ = some (.int .i64 x141001_3) := (blk_cell BK140.out 1).trans rfl
           have hfs159 := blk_frozen BK140.out 1
           have hns159_0 := NB138_140.out
           have hns159_1 := NB139_140.out
           have hns159_3 := NB147_140.out
           have hns159_4 := NB148_140.out
           have hms159_0 := NB140_138.out
           have hms159_1 := NB140_139.out
           have hms159_3 := NB140_147.out
           have hms159_4 := NB140_148.out
           refine skip_ (w1 := ?_) (by rfl) rfl ?_ ?_
           rotate_left
           ·go_simp
            rfl
           refine hK.out _ _ ⟨((cell_far (p := ⟨gb140, _, none⟩) NB147_140.out _).trans (((cell_far (p := ⟨gb140, _, none⟩) NB147_140.out _).trans (hHeld.1)))), ((cell_far (p := ⟨gb140, _, none⟩) NB147_140.out _).trans (((cell_far (p := ⟨gb140, _, none⟩) NB147_140.out _).trans (hHeld.2))))⟩ (fun hHeld => ?_)
           clear hK K
           refine pure_ (i := 5) (N := some 8) (v := ?_) (a' := ?_) #[true, true, true, true, true, true] rfl rfl (by kernel_rfl) (fun _ _ _ h => h) (Or.inl ⟨by rfl, ?_⟩) ?_ ?_
           rotate_left
           ·intro w'
            go_simp
            with_reducible rfl
           rotate_left
           ·simp only [Act.put, List.setIfInBounds_toArray, List.set_cons_zero, List.set_cons_succ, i64_w, i32_w]
            rfl
           refine done_ (by kernel_rfl) ?_
           try go_wp2
           refine bodyPost_ret (results_list (rs := [.tmp 6, .cell 7 35, .tmp 8]) rfl (by simp) (.tmp (.cell gb140 35 #[.int .i64 x148000_2, .int .i64 x148001_2] (0, 0) _ rfl (by (with_reducible repeat (first | apply bN | apply bD | apply bA)); refine blk_put (cs := #[.int .i64 x148000_2, .int .i64 x141001_3]) ?_ 1 _ rfl; (with_reducible repeat (first | apply bN | apply bD | apply bA)); refine blk_put (cs := #[.int .i64 x141000_3, .int .i64 x141001_3]) ?_ 0 _ rfl; (with_reducible repeat (first | apply bN | apply bD | apply bA)); exact BK140.out) Try.underlying35 rfl (by kernel_rfl) (.tmp .nil)))) rfl ?_
           exact ⟨by first | rfl | (simp [errW_none, errW_some] <;> rfl) | (simp [*, errW_none, errW_some] <;> rfl), by repeat (first | (with_reducible first | exact HB.out | apply lA | apply lN | apply lD | refine lS ?_ GE138.out | refine lS ?_ GE139.out | refine lS ?_ GE140.out | refine lS ?_ GE147.out | refine lS ?_ GE148.out) | exact HB.out)⟩

end Go.Proofs.Ytljehmhiclccgaa.QFnExactPairPeriod
