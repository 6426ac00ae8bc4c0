-- Written by wprint.py (this session's program over the kit's print) out of the translation.
import Derived.Test.YtepfkahbfnahmaaQFnExactFilterInWordx0
import Derived.Test.YtepfkahbfnahmaaQFnExactFilterInWordx5
namespace Go.Proofs.Ytepfkahbfnahmaa.QFnExactFilterInWord
open Go.RowKit Go.Proofs.YtepfkahbfnahmaaW.PrintWords Go.Proofs.YtepfkahbfnahmaaW.PrintLast Go.Proofs.YtepfkahbfnahmaaW.PrintMore
attribute [local go_sem] max2_int min2_int max_two min_two max_three min_three max_four min_four   -- for this text's walks alone
set_option linter.unusedVariables false
set_option linter.unusedSimpArgs false

/-! ### slices_IndexFunc_int_int_impl_isWeights_1: function 117 -/
def slices_IndexFunc_int_int_impl_isWeights_1.l0 : Nat → List Int → Int → Int → Option (Int)
  | 0, _, _, _ => none
  | k + 1, x0, x7, x8 => if x8 < x7 then (if 0 ≤ x8 then (if x8 < (x0.length : Int) then ((impl_isWeights_1.f (rd x0 x8)).bind fun t159 => (if t159 = true then (some x8) else (slices_IndexFunc_int_int_impl_isWeights_1.l0 k x0 x7 (wrap64 (x8 + 1))))) else (none)) else (none)) else (some (-1))
def slices_IndexFunc_int_int_impl_isWeights_1.f (k : Nat) (l0 : List Int)  : Option (Int) := slices_IndexFunc_int_int_impl_isWeights_1.l0 k l0 (l0.length : Int) 0
theorem slices_IndexFunc_int_int_impl_isWeights_1.mono_l : ∀ k, (∀ y0 y1 y2, LeO (slices_IndexFunc_int_int_impl_isWeights_1.l0 k y0 y1 y2) (slices_IndexFunc_int_int_impl_isWeights_1.l0 (k + 1) y0 y1 y2))
  | 0 => fun _ _ _ r h => by simp [slices_IndexFunc_int_int_impl_isWeights_1.l0] at h
  | k + 1 => by
    have ih0 := slices_IndexFunc_int_int_impl_isWeights_1.mono_l k
    · intro y0 y1 y2
      unfold slices_IndexFunc_int_int_impl_isWeights_1.l0
      repeat' first
      | (with_reducible exact ih0 _ _ _)
      | (with_reducible exact LeO.refl _)
      | (with_reducible exact LeO.none _)
      | (with_reducible refine LeO.ite ?_ ?_)
      | (with_reducible refine LeO.bind ?_ (fun _ => ?_))
      | exact ih0 _ _ _
      | exact LeO.none _
      | refine LeO.ite ?_ ?_
      | refine LeO.bind ?_ (fun _ => ?_)
theorem slices_IndexFunc_int_int_impl_isWeights_1.mono : ∀ a0 k, LeO (slices_IndexFunc_int_int_impl_isWeights_1.f k a0) (slices_IndexFunc_int_int_impl_isWeights_1.f (k + 1) a0) := by
  intro a0 k
  have ih0 := slices_IndexFunc_int_int_impl_isWeights_1.mono_l k
  unfold slices_IndexFunc_int_int_impl_isWeights_1.f
  repeat' first
      | (with_reducible exact ih0 _ _ _)
      | (with_reducible exact LeO.refl _)
      | (with_reducible exact LeO.none _)
      | (with_reducible refine LeO.ite ?_ ?_)
      | (with_reducible refine LeO.bind ?_ (fun _ => ?_))
      | exact ih0 _ _ _
      | exact LeO.none _
      | refine LeO.ite ?_ ?_
      | refine LeO.bind ?_ (fun _ => ?_)
set_option maxHeartbeats 8000000 in
set_option maxRecDepth 100000 in
theorem slices_IndexFunc_int_int_impl_isWeights_1.calls (k : Nat) (A0 : Option Addr) (c0 : Nat) (l0 : List Int)  (r : Int) (w : World) (hr0 : Kd.C (Kd.int .i64) w A0 l0.length l0) (hc0 : l0.length ≤ c0) (h : slices_IndexFunc_int_int_impl_isWeights_1.f k l0 = some r) :
    Calls Try.prog 117 #[.slice A0 l0.length c0, .func (.func 100) #[] #[]] w fun e w' => e = .returned (.int .i64 r) ∧ Drawn0 w w' := by
  have HR0 := Aside0.mk hr0
  have HC0 := Aside0.mk hc0
  clear hr0 hc0
  have H : (slices_IndexFunc_int_int_impl_isWeights_1.l0 k l0 (l0.length : Int) 0) = some r := h
  clear h
  have H' := Aside0.mk H
  clear H
  go_enter Try.func117, Try.ntmps117
  go_wp2
  go_loopg [8] k (fun kq v8 w' => ∃ (x8_1 : Int), v8 = .int .i64 x8_1 ∧ Aside0 (slices_IndexFunc_int_int_impl_isWeights_1.l0 kq l0 (l0.length : Int) x8_1 = some r) ∧ Aside0 (kq ≤ k) ∧ Drawn0 w w')
  case atStart => exact ⟨(0), (by first | rfl | (simp; done) | (simp [*]; done)), H', ⟨Nat.le_refl _⟩, by repeat (first | exact Drawn0.refl _ | apply Drawn0.step)⟩
  case round =>
    clear H'
    try clear p2
    obtain ⟨x8_1, rfl, HA, HK1, ⟨m1, rfl⟩⟩ := hrel
    cases gk with
    | zero => exact absurd HA.out (by simp [slices_IndexFunc_int_int_impl_isWeights_1.l0])
    | succ k1 =>
      have H := HA.out
      clear HA
      simp only [slices_IndexFunc_int_int_impl_isWeights_1.l0] at H
      by_cases c3 : x8_1 < (l0.length : Int)
      · rw [if_pos c3] at H
        have c3b0 : decide (x8_1 < (l0.length : Int)) = true := decide_eq_true c3
        clear c3
        by_cases c4 : 0 ≤ x8_1
        · rw [if_pos c4] at H
          have c4b0 : decide (0 ≤ x8_1) = true := decide_eq_true c4
          clear c4
          by_cases c5 : x8_1 < (l0.length : Int)
          · rw [if_pos c5] at H
            have c5b0 : decide (x8_1 < (l0.length : Int)) = true := decide_eq_true c5
            clear c5
            replace H := Option.bind_eq_some_iff.mp H
            obtain ⟨t159, A60, H⟩ := H
            replace H : (if t159 = true then (some x8_1) else (slices_IndexFunc_int_int_impl_isWeights_1.l0 k1 l0 (l0.length : Int) (wrap64 (x8_1 + 1)))) = some r := H
            have A6 := Aside0.mk A60
            clear A60
            by_cases c7 : t159 = true
            · subst c7
              have H1 : (some x8_1) = some r := by rw [if_pos rfl] at H; exact H
              clear H
              have H := H1
              clear H1
              obtain rfl := Option.some.inj H
              have p158 : 0 ≤ (x8_1 : Int) := of_decide_eq_true (by first | (with_reducible assumption) | assumption)
              have q158 : x8_1 < (l0.length : Int) := of_decide_eq_true (by first | (with_reducible assumption) | assumption)
              obtain ⟨ad158, e158, hx158_0⟩ := Kd.at_int HR0.out x8_1 p158 q158
              cases e158
              replace p158 := eq_true p158
              replace q158 := eq_true q158
              go_wp2_with (first | (go_at_call 100; (with_reducible refine (impl_isWeights_1.calls (rd l0 x8_1) true _ A6.out).mono ?_); rintro e w' ⟨rfl, ⟨nd, rfl⟩⟩))
              go_ret
              exact ⟨by first | rfl | (simp; done) | (simp [*]; done), by repeat (first | exact Drawn0.refl _ | apply Drawn0.step)⟩
            · replace c7 := Bool.eq_false_iff.mpr c7
              subst c7
              have H1 : (slices_IndexFunc_int_int_impl_isWeights_1.l0 k1 l0 (l0.length : Int) (wrap64 (x8_1 + 1))) = some r := by rw [if_neg (show ¬ (false = true) by decide)] at H; exact H
              clear H
              have H := H1
              clear H1
              have H' := Aside0.mk H
              clear H
              have p158 : 0 ≤ (x8_1 : Int) := of_decide_eq_true (by first | (with_reducible assumption) | assumption)
              have q158 : x8_1 < (l0.length : Int) := of_decide_eq_true (by first | (with_reducible assumption) | assumption)
              obtain ⟨ad158, e158, hx158_0⟩ := Kd.at_int HR0.out x8_1 p158 q158
              cases e158
              replace p158 := eq_true p158
              replace q158 := eq_true q158
              go_wp2_with (first | (go_at_call 100; (with_reducible refine (impl_isWeights_1.calls (rd l0 x8_1) false _ A6.out).mono ?_); rintro e w' ⟨rfl, ⟨nd, rfl⟩⟩))
              go_roundg k1
              case measure => have := HK1.out; omega
              case rel => exact ⟨(wrap64 (x8_1 + 1)), (by first | rfl | (simp; done) | (simp [*]; done)), H', ⟨by have := HK1.out; omega⟩, by repeat (first | exact Drawn0.refl _ | apply Drawn0.step)⟩
          · rw [if_neg c5] at H
            exact absurd H (by simp)
        · rw [if_neg c4] at H
          exact absurd H (by simp)
      · rw [if_neg c3] at H
        have c3b0 : decide (x8_1 < (l0.length : Int)) = false := decide_eq_false c3
        clear c3
        obtain rfl := Option.some.inj H
        go_wp2
        go_ret
        exact ⟨by first | rfl | (simp; done) | (simp [*]; done), by repeat (first | exact Drawn0.refl _ | apply Drawn0.step)⟩

/-! ### slices_ContainsFunc_int_int_impl_isWeights_1: function 95 -/
def slices_ContainsFunc_int_int_impl_isWeights_1.f (k : Nat) (l0 : List Int)  : Option (Bool) := (slices_IndexFunc_int_int_impl_isWeights_1.f k l0).bind fun t160 => (some (decide (t160 ≥ 0)))
theorem slices_ContainsFunc_int_int_impl_isWeights_1.mono : ∀ a0 k, LeO (slices_ContainsFunc_int_int_impl_isWeights_1.f k a0) (slices_ContainsFunc_int_int_impl_isWeights_1.f (k + 1) a0) := by
  intro a0 k
  unfold slices_ContainsFunc_int_int_impl_isWeights_1.f
  repeat' first
      | (with_reducible exact slices_IndexFunc_int_int_impl_isWeights_1.mono _ _)
      | (with_reducible exact LeO.refl _)
      | (with_reducible exact LeO.none _)
      | (with_reducible refine LeO.ite ?_ ?_)
      | (with_reducible refine LeO.bind ?_ (fun _ => ?_))
      | exact slices_IndexFunc_int_int_impl_isWeights_1.mono _ _
      | exact LeO.none _
      | refine LeO.ite ?_ ?_
      | refine LeO.bind ?_ (fun _ => ?_)
set_option maxHeartbeats 8000000 in
set_option maxRecDepth 100000 in
theorem slices_ContainsFunc_int_int_impl_isWeights_1.calls (k : Nat) (A0 : Option Addr) (c0 : Nat) (l0 : List Int)  (r : Bool) (w : World) (hr0 : Kd.C (Kd.int .i64) w A0 l0.length l0) (hc0 : l0.length ≤ c0) (h : slices_ContainsFunc_int_int_impl_isWeights_1.f k l0 = some r) :
    Calls Try.prog 95 #[.slice A0 l0.length c0, .func (.func 100) #[] #[]] w fun e w' => e = .returned (.bool r) ∧ Drawn0 w w' := by
  have HR0 := Aside0.mk hr0
  have HC0 := Aside0.mk hc0
  clear hr0 hc0
  have H : ((slices_IndexFunc_int_int_impl_isWeights_1.f k l0).bind fun t160 => (some (decide (t160 ≥ 0)))) = some r := h
  clear h
  replace H := Option.bind_eq_some_iff.mp H
  obtain ⟨t160, A30, H⟩ := H
  replace H : (some (decide (t160 ≥ 0))) = some r := H
  have A3 := Aside0.mk A30
  clear A30
  obtain rfl := Option.some.inj H
  go_enter Try.func95, Try.ntmps95
  go_wp2_with (first | ((with_reducible refine gate_callee (f := 117) rfl ?_); refine goesL_ (some 7) rfl rfl Try.func117 (by kernel_rfl) rfl #[.slice A0 l0.length c0, .func (.func 100) #[] #[]] rfl (by (try simp only [List.map_toArray, List.map_cons, List.map_nil]); first | done | rfl | (simp only [List.length_drop, List.length_take]; rfl)) ?_; (with_reducible refine (slices_IndexFunc_int_int_impl_isWeights_1.calls k _ _ l0  t160 _ ?side1 ?side2 A3.out).mono ?_); (case side1 => repeat (first | exact HR0.out | (with_reducible refine Kd.C_alloc ?_ _) | (with_reducible refine Kd.C_drewN ?_ _) | (with_reducible refine Kd.C_drew ?_))); (case side2 => exact HC0.out); rintro e w' ⟨rfl, ⟨nd, rfl⟩⟩; refine ⟨_, rfl, ?_⟩))
  go_ret
  exact ⟨by first | rfl | (simp; done) | (simp [*]; done), by repeat (first | exact Drawn0.refl _ | apply Drawn0.step)⟩

/-! ### impl_isWeights: function 57 -/
def impl_isWeights.f (k : Nat) (l0 : List Int) : Option (Bool) := (impl_in.f (l0.length : Int) 1 9).bind fun t161 => (if t161 = true then ((slices_ContainsFunc_int_int_impl_isWeights_1.f k l0).bind fun t162 => (some (!t162))) else (some false))
theorem impl_isWeights.mono : ∀ a0 k, LeO (impl_isWeights.f k a0) (impl_isWeights.f (k + 1) a0) := by
  intro a0 k
  unfold impl_isWeights.f
  repeat' first
      | (with_reducible exact slices_ContainsFunc_int_int_impl_isWeights_1.mono _ _)
      | (with_reducible exact LeO.refl _)
      | (with_reducible exact LeO.none _)
      | (with_reducible refine LeO.ite ?_ ?_)
      | (with_reducible refine LeO.bind ?_ (fun _ => ?_))
      | exact slices_ContainsFunc_int_int_impl_isWeights_1.mono _ _
      | exact LeO.none _
      | refine LeO.ite ?_ ?_
      | refine LeO.bind ?_ (fun _ => ?_)
set_option maxHeartbeats 8000000 in
set_option maxRecDepth 100000 in
theorem impl_isWeights.calls (k : Nat) (A0 : Option Addr) (c0 : Nat) (l0 : List Int) (r : Bool) (w : World) (hr0 : Kd.C (Kd.int .i64) w A0 l0.length l0) (hc0 : l0.length ≤ c0) (h : impl_isWeights.f k l0 = some r) :
    Calls Try.prog 57 #[.slice A0 l0.length c0] w fun e w' => e = .returned (.bool r) ∧ Drawn0 w w' := by
  have HR0 := Aside0.mk hr0
  have HC0 := Aside0.mk hc0
  clear hr0 hc0
  have H : ((impl_in.f (l0.length : Int) 1 9).bind fun t161 => (if t161 = true then ((slices_ContainsFunc_int_int_impl_isWeights_1.f k l0).bind fun t162 => (some (!t162))) else (some false))) = some r := h
  clear h
  replace H := Option.bind_eq_some_iff.mp H
  obtain ⟨t161, A20, H⟩ := H
  replace H : (if t161 = true then ((slices_ContainsFunc_int_int_impl_isWeights_1.f k l0).bind fun t162 => (some (!t162))) else (some false)) = some r := H
  have A2 := Aside0.mk A20
  clear A20
  by_cases c3 : t161 = true
  · subst c3
    have H1 : ((slices_ContainsFunc_int_int_impl_isWeights_1.f k l0).bind fun t162 => (some (!t162))) = some r := by rw [if_pos rfl] at H; exact H
    clear H
    have H := H1
    clear H1
    replace H := Option.bind_eq_some_iff.mp H
    obtain ⟨t162, A40, H⟩ := H
    replace H : (some (!t162)) = some r := H
    have A4 := Aside0.mk A40
    clear A40
    obtain rfl := Option.some.inj H
    go_enter Try.func57, Try.ntmps57
    go_wp2_with (first | ((with_reducible refine gate_callee (f := 92) rfl ?_); refine goesL_ (some 5) rfl rfl Try.func92 (by kernel_rfl) rfl #[.int .i64 (l0.length : Int), .int .i64 1, .int .i64 9] rfl (by (try simp only [List.map_toArray, List.map_cons, List.map_nil]); first | done | rfl | (simp only [List.length_drop, List.length_take]; rfl)) ?_; (with_reducible refine (impl_in.calls (l0.length : Int) 1 9 true _ A2.out).mono ?_); rintro e w' ⟨rfl, ⟨nd, rfl⟩⟩; refine ⟨_, rfl, ?_⟩) | (go_at_call 95; (with_reducible refine (slices_ContainsFunc_int_int_impl_isWeights_1.calls k _ _ l0  t162 _ ?side1 ?side2 A4.out).mono ?_); (case side1 => repeat (first | exact HR0.out | (with_reducible refine Kd.C_alloc ?_ _) | (with_reducible refine Kd.C_drewN ?_ _) | (with_reducible refine Kd.C_drew ?_))); (case side2 => exact HC0.out); rintro e w' ⟨rfl, ⟨nd, rfl⟩⟩))
    go_ret
    exact ⟨by first | rfl | (simp; done) | (simp [*]; done), by repeat (first | exact Drawn0.refl _ | apply Drawn0.step)⟩
  · replace c3 := Bool.eq_false_iff.mpr c3
    subst c3
    have H1 : (some false) = some r := by rw [if_neg (show ¬ (false = true) by decide)] at H; exact H
    clear H
    have H := H1
    clear H1
    obtain rfl := Option.some.inj H
    go_enter Try.func57, Try.ntmps57
    go_wp2_with (first | ((with_reducible refine gate_callee (f := 92) rfl ?_); refine goesL_ (some 5) rfl rfl Try.func92 (by kernel_rfl) rfl #[.int .i64 (l0.length : Int), .int .i64 1, .int .i64 9] rfl (by (try simp only [List.map_toArray, List.map_cons, List.map_nil]); first | done | rfl | (simp only [List.length_drop, List.length_take]; rfl)) ?_; (with_reducible refine (impl_in.calls (l0.length : Int) 1 9 false _ A2.out).mono ?_); rintro e w' ⟨rfl, ⟨nd, rfl⟩⟩; refine ⟨_, rfl, ?_⟩))
    go_ret
    exact ⟨by first | rfl | (simp; done) | (simp [*]; done), by repeat (first | exact Drawn0.refl _ | apply Drawn0.step)⟩

/-! ### impl_Word_ends: function 104 -/
def impl_Word_ends.f (a0_0 : Int) (a0_1 : Bool) : Option (Int × Int) := if 0 ≤ (wrap64 (a0_0 - 1)) then (some (wrap64 (-(shl .i64 1 (wrap64 (a0_0 - 1)))), wrap64 ((shl .i64 1 (wrap64 (a0_0 - 1))) - 1))) else (none)
set_option maxHeartbeats 8000000 in
set_option maxRecDepth 100000 in
theorem impl_Word_ends.calls (a0_0 : Int) (a0_1 : Bool) (r1 : Int) (r2 : Int) (w : World) (h : impl_Word_ends.f a0_0 a0_1 = some (r1, r2)) :
    Calls Try.prog 104 #[.agg #[.int .i64 a0_0, .bool a0_1]] w fun e w' => e = .returned (.tuple #[.int .i64 r1, .int .i64 r2]) ∧ Below w.heap.size w w' := by
  have hu28 := Try.underlying28
  have HB := Aside0.mk (Below.refl w.heap.size w)
  have H : (if 0 ≤ (wrap64 (a0_0 - 1)) then (some (wrap64 (-(shl .i64 1 (wrap64 (a0_0 - 1)))), wrap64 ((shl .i64 1 (wrap64 (a0_0 - 1))) - 1))) else (none)) = some (r1, r2) := h
  clear h
  obtain ⟨ji2, hji2⟩ : ∃ j_ : Int, (wrap64 (a0_0 - 1)) = j_ := ⟨_, rfl⟩
  replace H : (if 0 ≤ (ji2) then (some (wrap64 (-(shl .i64 1 (ji2))), wrap64 ((shl .i64 1 (ji2)) - 1))) else (none)) = some (r1, r2) := by first | (rw [hji2] at H; exact H) | (simp only [hji2] at H ⊢; exact H)
  have hji2w : (IntKind.i64.wrap (a0_0 - 1)) = ji2 := (i64_w _).trans hji2
  by_cases c3 : 0 ≤ (ji2)
  · rw [if_pos c3] at H
    have c3b0 := eq_true c3
    have c3b1 : decide (0 ≤ (ji2)) = true := decide_eq_true c3
    clear c3
    obtain ⟨ji4, hji4⟩ : ∃ j_ : Int, (shl .i64 1 (ji2)) = j_ := ⟨_, rfl⟩
    replace H : (some (wrap64 (-(ji4)), wrap64 ((ji4) - 1))) = some (r1, r2) := by first | (rw [hji4] at H; exact H) | (simp only [hji4] at H ⊢; exact H)
    have hji4_ : (IntKind.i64.wrap (1 * 2 ^ min (ji2).toNat 64)) = ji4 := hji4
    have hji4z : (ji2) ≤ 64 → (IntKind.i64.wrap (1 * 2 ^ (ji2).toNat)) = ji4 := shl_small hji4
    have hji4u : (IntKind.i64.wrap (2 ^ min (ji2).toNat 64)) = ji4 := by have h_ := hji4_; rw [Int.one_mul] at h_; exact h_
    have hji4v : (ji2) ≤ 64 → (IntKind.i64.wrap (2 ^ (ji2).toNat)) = ji4 := fun hle_ => by have h_ := hji4z hle_; rw [Int.one_mul] at h_; exact h_
    have hji4y : (wrap64 (1 * 2 ^ min (ji2).toNat 64)) = ji4 := (i64_w _).symm.trans hji4_
    have hji4x : (ji2) ≤ 64 → (wrap64 (1 * 2 ^ (ji2).toNat)) = ji4 := fun h_ => (i64_w _).symm.trans (hji4z h_)
    simp only [Option.some.injEq, Prod.mk.injEq] at H
    obtain ⟨rfl, rfl⟩ := H
    go_enter Try.func104, Try.ntmps104
    go_wp2_with (first | ((with_reducible refine gate_dst (N := 1) rfl ?_); refine box_event ?hg (N := 1) ?hd (cs := #[.int .i64 a0_0, .bool a0_1]) (t := 28) ?hr ?_; (case hd => rfl); (case hg => rfl); (case hr => first | (go_simp; done) | (go_simp; rfl)); intro gb163 hg w5 hbox hb; have n0_ := Aside0.mk (below_step (by repeat (first | (with_reducible first | exact HB.out | apply below_alloc | apply pw_below_drewN | apply below_drew1) | exact HB.out)) hb); have n1_ := Aside0.mk (hbox); have n2_ := Aside0.mk ((by rw [hg]; exact (below_size (by repeat (first | (with_reducible first | exact HB.out | apply below_alloc | apply pw_below_drewN | apply below_drew1) | exact HB.out))) : w.heap.size ≤ gb163)); have n3_ := Aside0.mk ((by rw [hg]; exact (below_size (by repeat (first | (with_reducible first | exact HB.out | apply below_alloc | apply pw_below_drewN | apply below_drew1) | exact HB.out))) : w.heap.size ≤ gb163)); clear HB; have HB := n0_; have BK163 := n1_; have GW163 := n2_; have GE163 := n3_; clear n0_ n1_ n2_ n3_; clear hb hbox hg; have hcz6_0 : w5.cell? ⟨gb163, 0, none⟩ = some (.int .i64 a0_0) := (blk_cell BK163.out 0).trans rfl; have hcz6_1 : w5.cell? ⟨gb163, 1, none⟩ = some (.bool a0_1) := (blk_cell BK163.out 1).trans rfl; have hfz6_0 := blk_frozen BK163.out 0; have hfz6_1 := blk_frozen BK163.out 1))
    go_ret2
    exact ⟨by first | rfl | (simp [errW_none, errW_some] <;> rfl) | (simp only [← hji2, ← hji4]; first | rfl | (simp [errW_none, errW_some] <;> rfl)) | (simp [*, errW_none, errW_some] <;> rfl), by repeat (first | (with_reducible first | exact HB.out | apply below_alloc | apply pw_below_drewN | apply below_drew1 | refine below_set ?_ GE163.out) | exact HB.out)⟩
  · rw [if_neg c3] at H
    exact absurd H (by simp)

/-! ### impl_Word_has: function 80 -/
def impl_Word_has.f (a0_0 : Int) (a0_1 : Bool) (a1 : Int) : Option (Bool) := (impl_Word_ends.f a0_0 a0_1).bind fun bt165 => ((impl_in.f a1 bt165.1 bt165.2).bind fun t167 => (some t167))
set_option maxHeartbeats 8000000 in
set_option maxRecDepth 100000 in
theorem impl_Word_has.calls (a0_0 : Int) (a0_1 : Bool) (a1 : Int) (r : Bool) (w : World) (h : impl_Word_has.f a0_0 a0_1 a1 = some r) :
    Calls Try.prog 80 #[.agg #[.int .i64 a0_0, .bool a0_1], .int .i64 a1] w fun e w' => e = .returned (.bool r) ∧ Below w.heap.size w w' := by
  have hu28 := Try.underlying28
  have HB := Aside0.mk (Below.refl w.heap.size w)
  have H : ((impl_Word_ends.f a0_0 a0_1).bind fun bt165 => ((impl_in.f a1 bt165.1 bt165.2).bind fun t167 => (some t167))) = some r := h
  clear h
  replace H := Option.bind_eq_some_iff.mp H
  obtain ⟨⟨t165, t166⟩, A30, H⟩ := H
  replace H : ((impl_in.f a1 t165 t166).bind fun t167 => (some t167)) = some r := H
  have A3 := Aside0.mk A30
  clear A30
  replace H := Option.bind_eq_some_iff.mp H
  obtain ⟨t167, A40, H⟩ := H
  replace H : (some t167) = some r := H
  have A4 := Aside0.mk A40
  clear A40
  obtain rfl := Option.some.inj H
  go_enter Try.func80, Try.ntmps80
  go_wp2_with (first | ((with_reducible refine gate_dst (N := 2) rfl ?_); refine box_event ?hg (N := 2) ?hd (cs := #[.int .i64 a0_0, .bool a0_1]) (t := 28) ?hr ?_; (case hd => rfl); (case hg => rfl); (case hr => first | (go_simp; done) | (go_simp; rfl)); intro gb164 hg w5 hbox hb; have n0_ := Aside0.mk (below_step (by repeat (first | (with_reducible first | exact HB.out | apply below_alloc | apply pw_below_drewN | apply below_drew1) | exact HB.out)) hb); have n1_ := Aside0.mk (hbox); have n2_ := Aside0.mk ((by rw [hg]; exact (below_size (by repeat (first | (with_reducible first | exact HB.out | apply below_alloc | apply pw_below_drewN | apply below_drew1) | exact HB.out))) : w.heap.size ≤ gb164)); have n3_ := Aside0.mk ((by rw [hg]; exact (below_size (by repeat (first | (with_reducible first | exact HB.out | apply below_alloc | apply pw_below_drewN | apply below_drew1) | exact HB.out))) : w.heap.size ≤ gb164)); clear HB; have HB := n0_; have BK164 := n1_; have GW164 := n2_; have GE164 := n3_; clear n0_ n1_ n2_ n3_; clear hb hbox hg; have hcz6_0 : w5.cell? ⟨gb164, 0, none⟩ = some (.int .i64 a0_0) := (blk_cell BK164.out 0).trans rfl; have hcz6_1 : w5.cell? ⟨gb164, 1, none⟩ = some (.bool a0_1) := (blk_cell BK164.out 1).trans rfl; have hfz6_0 := blk_frozen BK164.out 0; have hfz6_1 := blk_frozen BK164.out 1) | ((with_reducible refine gate_callee (f := 104) rfl ?_); refine goesL_ (some 9) rfl rfl Try.func104 (by kernel_rfl) rfl #[.agg #[.int .i64 a0_0, .bool a0_1]] rfl (by (try simp only [List.map_toArray, List.map_cons, List.map_nil]); first | done | rfl | (simp only [List.length_drop, List.length_take]; rfl)) ?_; (with_reducible refine (impl_Word_ends.calls a0_0 a0_1 t165 t166 _ A3.out).mono ?_); rintro e w7 ⟨rfl, hb⟩; refine ⟨_, rfl, ?_⟩; have n0_ := Aside0.mk (blk_below (g := gb164) (o := .cells #[.int .i64 a0_0, .bool a0_1] 28 (0, 0)) (by (with_reducible repeat (first | refine blk_drewN ?_ _ | refine blk_drew ?_ | refine blk_alloc ?_ _)); exact BK164.out) hb); have n1_ := Aside0.mk (below_step (by repeat (first | (with_reducible first | exact HB.out | apply below_alloc | apply pw_below_drewN | apply below_drew1 | refine below_set ?_ GE164.out) | exact HB.out)) hb); clear BK164; clear HB; have BK164 := n0_; have HB := n1_; clear n0_ n1_; (try clear hb); (try clear hb2); (try clear hk); (try clear hi)) | ((with_reducible refine gate_callee (f := 92) rfl ?_); refine goesL_ (some 15) rfl rfl Try.func92 (by kernel_rfl) rfl #[.int .i64 a1, .int .i64 t165, .int .i64 t166] rfl (by (try simp only [List.map_toArray, List.map_cons, List.map_nil]); first | done | rfl | (simp only [List.length_drop, List.length_take]; rfl)) ?_; (with_reducible refine (impl_in.calls a1 t165 t166 t167 _ A4.out).mono ?_); rintro e w' ⟨rfl, ⟨nd, rfl⟩⟩; refine ⟨_, rfl, ?_⟩))
  go_ret
  exact ⟨by first | rfl | (simp [errW_none, errW_some] <;> rfl) | (simp [*, errW_none, errW_some] <;> rfl), by repeat (first | (with_reducible first | exact HB.out | apply below_alloc | apply pw_below_drewN | apply below_drew1 | refine below_set ?_ GE164.out) | exact HB.out)⟩

/-! ### impl_isWord: function 112 -/
def impl_isWord.f (a0_0 : Int) (a0_1 : Bool) : Option (Bool) := (impl_in.f a0_0 2 16).bind fun t169 => (some t169)
set_option maxHeartbeats 8000000 in
set_option maxRecDepth 100000 in
theorem impl_isWord.calls (a0_0 : Int) (a0_1 : Bool) (r : Bool) (w : World) (h : impl_isWord.f a0_0 a0_1 = some r) :
    Calls Try.prog 112 #[.agg #[.int .i64 a0_0, .bool a0_1]] w fun e w' => e = .returned (.bool r) ∧ Below w.heap.size w w' := by
  have hu28 := Try.underlying28
  have HB := Aside0.mk (Below.refl w.heap.size w)
  have H : ((impl_in.f a0_0 2 16).bind fun t169 => (some t169)) = some r := h
  clear h
  replace H := Option.bind_eq_some_iff.mp H
  obtain ⟨t169, A20, H⟩ := H
  replace H : (some t169) = some r := H
  have A2 := Aside0.mk A20
  clear A20
  obtain rfl := Option.some.inj H
  go_enter Try.func112, Try.ntmps112
  go_wp2_with (first | ((with_reducible refine gate_dst (N := 1) rfl ?_); refine box_event ?hg (N := 1) ?hd (cs := #[.int .i64 a0_0, .bool a0_1]) (t := 28) ?hr ?_; (case hd => rfl); (case hg => rfl); (case hr => first | (go_simp; done) | (go_simp; rfl)); intro gb168 hg w3 hbox hb; have n0_ := Aside0.mk (below_step (by repeat (first | (with_reducible first | exact HB.out | apply below_alloc | apply pw_below_drewN | apply below_drew1) | exact HB.out)) hb); have n1_ := Aside0.mk (hbox); have n2_ := Aside0.mk ((by rw [hg]; exact (below_size (by repeat (first | (with_reducible first | exact HB.out | apply below_alloc | apply pw_below_drewN | apply below_drew1) | exact HB.out))) : w.heap.size ≤ gb168)); have n3_ := Aside0.mk ((by rw [hg]; exact (below_size (by repeat (first | (with_reducible first | exact HB.out | apply below_alloc | apply pw_below_drewN | apply below_drew1) | exact HB.out))) : w.heap.size ≤ gb168)); clear HB; have HB := n0_; have BK168 := n1_; have GW168 := n2_; have GE168 := n3_; clear n0_ n1_ n2_ n3_; clear hb hbox hg; have hcz4_0 : w3.cell? ⟨gb168, 0, none⟩ = some (.int .i64 a0_0) := (blk_cell BK168.out 0).trans rfl; have hcz4_1 : w3.cell? ⟨gb168, 1, none⟩ = some (.bool a0_1) := (blk_cell BK168.out 1).trans rfl; have hfz4_0 := blk_frozen BK168.out 0; have hfz4_1 := blk_frozen BK168.out 1) | ((with_reducible refine gate_callee (f := 92) rfl ?_); refine goesL_ (some 5) rfl rfl Try.func92 (by kernel_rfl) rfl #[.int .i64 a0_0, .int .i64 2, .int .i64 16] rfl (by (try simp only [List.map_toArray, List.map_cons, List.map_nil]); first | done | rfl | (simp only [List.length_drop, List.length_take]; rfl)) ?_; (with_reducible refine (impl_in.calls a0_0 2 16 t169 _ A2.out).mono ?_); rintro e w' ⟨rfl, ⟨nd, rfl⟩⟩; refine ⟨_, rfl, ?_⟩))
  go_ret
  exact ⟨by first | rfl | (simp [errW_none, errW_some] <;> rfl) | (simp [*, errW_none, errW_some] <;> rfl), by repeat (first | (with_reducible first | exact HB.out | apply below_alloc | apply pw_below_drewN | apply below_drew1 | refine below_set ?_ GE168.out) | exact HB.out)⟩

/-! ### impl_isShift: function 113 -/
def impl_isShift.f (a0 : Int) (a1 : Int) : Option (Bool) := (impl_in.f a0 0 20).bind fun t170 => (if t170 = true then ((impl_in.f a1 0 2).bind fun t171 => (some t171)) else (some false))
set_option maxHeartbeats 8000000 in
set_option maxRecDepth 100000 in
theorem impl_isShift.calls (a0 : Int) (a1 : Int) (r : Bool) (w : World) (h : impl_isShift.f a0 a1 = some r) :
    Calls Try.prog 113 #[.int .i64 a0, .int .i64 a1] w fun e w' => e = .returned (.bool r) ∧ Drawn0 w w' := by
  have H : ((impl_in.f a0 0 20).bind fun t170 => (if t170 = true then ((impl_in.f a1 0 2).bind fun t171 => (some t171)) else (some false))) = some r := h
  clear h
  replace H := Option.bind_eq_some_iff.mp H
  obtain ⟨t170, A30, H⟩ := H
  replace H : (if t170 = true then ((impl_in.f a1 0 2).bind fun t171 => (some t171)) else (some false)) = some r := H
  have A3 := Aside0.mk A30
  clear A30
  by_cases c4 : t170 = true
  · subst c4
    have H1 : ((impl_in.f a1 0 2).bind fun t171 => (some t171)) = some r := by rw [if_pos rfl] at H; exact H
    clear H
    have H := H1
    clear H1
    replace H := Option.bind_eq_some_iff.mp H
    obtain ⟨t171, A50, H⟩ := H
    replace H : (some t171) = some r := H
    have A5 := Aside0.mk A50
    clear A50
    obtain rfl := Option.some.inj H
    go_enter Try.func113, Try.ntmps113
    go_wp2_with (first | ((with_reducible refine gate_callee (f := 92) rfl ?_); refine goesL_ (some 6) rfl rfl Try.func92 (by kernel_rfl) rfl #[.int .i64 a0, .int .i64 0, .int .i64 20] rfl (by (try simp only [List.map_toArray, List.map_cons, List.map_nil]); first | done | rfl | (simp only [List.length_drop, List.length_take]; rfl)) ?_; (with_reducible refine (impl_in.calls a0 0 20 true _ A3.out).mono ?_); rintro e w' ⟨rfl, ⟨nd, rfl⟩⟩; refine ⟨_, rfl, ?_⟩) | (go_at_call 92; (with_reducible refine (impl_in.calls a1 0 2 t171 _ A5.out).mono ?_); rintro e w' ⟨rfl, ⟨nd, rfl⟩⟩))
    go_ret
    exact ⟨by first | rfl | (simp; done) | (simp [*]; done), by repeat (first | exact Drawn0.refl _ | apply Drawn0.step)⟩
  · replace c4 := Bool.eq_false_iff.mpr c4
    subst c4
    have H1 : (some false) = some r := by rw [if_neg (show ¬ (false = true) by decide)] at H; exact H
    clear H
    have H := H1
    clear H1
    obtain rfl := Option.some.inj H
    go_enter Try.func113, Try.ntmps113
    go_wp2_with (first | ((with_reducible refine gate_callee (f := 92) rfl ?_); refine goesL_ (some 6) rfl rfl Try.func92 (by kernel_rfl) rfl #[.int .i64 a0, .int .i64 0, .int .i64 20] rfl (by (try simp only [List.map_toArray, List.map_cons, List.map_nil]); first | done | rfl | (simp only [List.length_drop, List.length_take]; rfl)) ?_; (with_reducible refine (impl_in.calls a0 0 20 false _ A3.out).mono ?_); rintro e w' ⟨rfl, ⟨nd, rfl⟩⟩; refine ⟨_, rfl, ?_⟩))
    go_ret
    exact ⟨by first | rfl | (simp; done) | (simp [*]; done), by repeat (first | exact Drawn0.refl _ | apply Drawn0.step)⟩

/-! ### impl_inWord: function 85 -/
def impl_inWord.i0 : Nat → Int → Bool → List Int → Int → Int → Option Int
  | 0, _, _, _, _, _ => none
  | k + 1, b, p, x0, x7, x8 => if x8 < x7 then (if 0 ≤ x8 then (if x8 < (x0.length : Int) then ((impl_Word_has.f b p (rd x0 x8)).bind fun t => (if t = true then (impl_inWord.i0 k b p x0 x7 (wrap64 (x8 + 1))) else (some x8))) else (none)) else (none)) else (some (-1))
def impl_inWord.f (k : Nat) (a0_0 : Int) (a0_1 : Bool) (l1 l2 : List Int) (a3 a4 : Int) : Option Bool := (impl_isWord.f a0_0 a0_1).bind fun t0 => if t0 = true then ((impl_isWeights.f k l1).bind fun t1 => if t1 = true then ((impl_isSignal.f k l2).bind fun t2 => if t2 = true then ((impl_isShift.f a3 a4).bind fun t3 => if t3 = true then ((impl_inWord.i0 k a0_0 a0_1 l1 (l1.length : Int) 0).bind fun r1 => if r1 ≥ 0 then some false else ((impl_inWord.i0 k a0_0 a0_1 l2 (l2.length : Int) 0).bind fun r2 => some (!(decide (r2 ≥ 0))))) else some false) else some false) else some false) else some false
theorem impl_inWord.mono_l : ∀ k, (∀ b p x0 x7 x8, LeO (impl_inWord.i0 k b p x0 x7 x8) (impl_inWord.i0 (k + 1) b p x0 x7 x8))
  | 0 => fun _ _ _ _ _ r h => by simp [impl_inWord.i0] at h
  | k + 1 => by
    have ih0 := impl_inWord.mono_l k
    · intro b p x0 x7 x8
      unfold impl_inWord.i0
      repeat' first
      | (with_reducible exact ih0 _ _ _ _ _)
      | (with_reducible exact LeO.refl _)
      | (with_reducible exact LeO.none _)
      | (with_reducible refine LeO.ite ?_ ?_)
      | (with_reducible refine LeO.bind ?_ (fun _ => ?_))
      | exact ih0 _ _ _ _ _
      | exact LeO.none _
      | refine LeO.ite ?_ ?_
      | refine LeO.bind ?_ (fun _ => ?_)
theorem impl_inWord.mono : ∀ a0 a1 a2 a3 a4 a5 k, LeO (impl_inWord.f k a0 a1 a2 a3 a4 a5) (impl_inWord.f (k + 1) a0 a1 a2 a3 a4 a5) := by
  intro a0 a1 a2 a3 a4 a5 k
  have ih0 := impl_inWord.mono_l k
  unfold impl_inWord.f
  repeat' first
      | (with_reducible exact ih0 _ _ _ _ _)
      | (with_reducible exact impl_isWeights.mono _ _)
      | (with_reducible exact impl_isSignal.mono _ _)
      | (with_reducible exact LeO.refl _)
      | (with_reducible exact LeO.none _)
      | (with_reducible refine LeO.ite ?_ ?_)
      | (with_reducible refine LeO.bind ?_ (fun _ => ?_))
      | exact ih0 _ _ _ _ _
      | exact LeO.none _
      | refine LeO.ite ?_ ?_
      | refine LeO.bind ?_ (fun _ => ?_)
set_option maxHeartbeats 8000000 in
set_option maxRecDepth 100000 in
theorem impl_inWord.lacks (W : World) (g : Nat) (b : Int) (p : Bool) (x : Int) (t : Bool) (h : W.heap[g]? = some (.cells #[.int .i64 b, .bool p] 28 (0, 0))) (hs : impl_Word_has.f b p x = some t) :
    Calls Try.prog 111 #[.int .i64 x, .pointer (some ⟨g, 0, none⟩)] W fun e W1 => e = .returned (.bool (!t)) ∧ Below W.heap.size W W1 := by
  have hu28 := Try.underlying28
  have A1 := Aside0.mk hs
  have HK := Aside0.mk h
  have HB := Aside0.mk (Below.refl W.heap.size W)
  clear hs
  have f0 : W.cell? ⟨g, 0, none⟩ = some (.int .i64 b) := (blk_cell h 0).trans rfl
  have f1 : W.cell? ⟨g, 1, none⟩ = some (.bool p) := (blk_cell h 1).trans rfl
  clear h
  go_enter Try.func111, Try.ntmps111
  go_wp2_with (first | (go_at_call 80; (with_reducible refine (impl_Word_has.calls b p x t _ A1.out).mono ?_); rintro e w2 ⟨rfl, hb⟩; have n0_ := Aside0.mk (below_step HB.out hb); clear HB; have HB := n0_; clear n0_ hb f0 f1))
  go_ret
  exact ⟨rfl, HB.out⟩
set_option maxHeartbeats 8000000 in
set_option maxRecDepth 100000 in
theorem impl_inWord.index (k : Nat) (g : Nat) (A0 : Option Addr) (c0 : Nat) (l0 : List Int) (b : Int) (p : Bool) (r : Int) (W : World) (hw : W.heap[g]? = some (.cells #[.int .i64 b, .bool p] 28 (0, 0))) (hr0 : Kd.C (Kd.int .i64) W A0 l0.length l0) (hc0 : l0.length ≤ c0) (h : impl_inWord.i0 k b p l0 (l0.length : Int) 0 = some r) :
    Calls Try.prog 117 #[.slice A0 l0.length c0, .func (.func 111) #[] #[.pointer (some ⟨g, 0, none⟩)]] W fun e w' => e = .returned (.int .i64 r) ∧ Below W.heap.size W w' := by
  have HR0 := Aside0.mk hr0
  have HC0 := Aside0.mk hc0
  have HW := Aside0.mk hw
  have H' := Aside0.mk h
  clear hr0 hc0 h hw
  go_enter Try.func117, Try.ntmps117
  go_wp2
  go_loopg [8] k (fun kq v8 w' => ∃ (x8_1 : Int), v8 = .int .i64 x8_1 ∧ Aside0 (impl_inWord.i0 kq b p l0 (l0.length : Int) x8_1 = some r) ∧ Aside0 (kq ≤ k) ∧ Aside0 (Below W.heap.size W w'))
  case atStart => exact ⟨0, rfl, H', ⟨Nat.le_refl _⟩, ⟨by repeat (first | (with_reducible exact Below.refl _ _) | apply below_alloc | apply pw_below_drewN | apply below_drew1 | exact Below.refl _ _)⟩⟩
  case round =>
    clear H'
    obtain ⟨x8_1, rfl, HA, HK1, HB⟩ := hrel
    cases gk with
    | zero => exact absurd HA.out (by simp [impl_inWord.i0])
    | succ k1 =>
      have H := HA.out
      clear HA
      simp only [impl_inWord.i0] at H
      by_cases c3 : x8_1 < (l0.length : Int)
      · rw [if_pos c3] at H
        have c3b0 : decide (x8_1 < (l0.length : Int)) = true := decide_eq_true c3
        by_cases c4 : 0 ≤ x8_1
        · rw [if_pos c4, if_pos c3] at H
          clear c3
          have c4b0 : decide (0 ≤ x8_1) = true := decide_eq_true c4
          clear c4
          replace H := Option.bind_eq_some_iff.mp H
          obtain ⟨t149, A60, H⟩ := H
          have A6 := Aside0.mk A60
          clear A60
          have HRB := Aside0.mk (Kd.C_below HR0.out HB.out)
          have HWB := Aside0.mk (blk_below HW.out HB.out)
          have p148 : 0 ≤ (x8_1 : Int) := of_decide_eq_true (by first | (with_reducible assumption) | assumption)
          have q148 : x8_1 < (l0.length : Int) := of_decide_eq_true (by first | (with_reducible assumption) | assumption)
          obtain ⟨ad148, e148, hx148_0⟩ := Kd.at_int HRB.out x8_1 p148 q148
          cases e148
          replace p148 := eq_true p148
          replace q148 := eq_true q148
          by_cases c7 : t149 = true
          · subst c7
            have H' := Aside0.mk ((if_pos rfl).symm.trans H)
            clear H
            go_wp2_with (first | (go_at_call 111; (with_reducible refine (impl_inWord.lacks _ g b p (rd l0 x8_1) true (by (with_reducible repeat (first | refine blk_drewN ?_ _ | refine blk_drew ?_ | refine blk_alloc ?_ _)); exact HWB.out) A6.out).mono ?_); rintro e w2 ⟨rfl, hb⟩; have n0_ := Aside0.mk (below_step (by repeat (first | (with_reducible exact HB.out) | apply below_alloc | apply pw_below_drewN | apply below_drew1 | exact HB.out)) hb); clear HB HRB HWB hx148_0; have HB := n0_; clear n0_ hb))
            go_roundg k1
            case measure => have := HK1.out; omega
            case rel => exact ⟨(wrap64 (x8_1 + 1)), rfl, H', ⟨by have := HK1.out; omega⟩, ⟨by repeat (first | (with_reducible exact HB.out) | apply below_alloc | apply pw_below_drewN | apply below_drew1 | exact HB.out)⟩⟩
          · replace c7 := Bool.eq_false_iff.mpr c7
            subst c7
            have H1 := (if_neg (show ¬ (false = true) by decide)).symm.trans H
            clear H
            obtain rfl := Option.some.inj H1
            clear H1
            go_wp2_with (first | (go_at_call 111; (with_reducible refine (impl_inWord.lacks _ g b p (rd l0 x8_1) false (by (with_reducible repeat (first | refine blk_drewN ?_ _ | refine blk_drew ?_ | refine blk_alloc ?_ _)); exact HWB.out) A6.out).mono ?_); rintro e w2 ⟨rfl, hb⟩; have n0_ := Aside0.mk (below_step (by repeat (first | (with_reducible exact HB.out) | apply below_alloc | apply pw_below_drewN | apply below_drew1 | exact HB.out)) hb); clear HB HRB HWB hx148_0; have HB := n0_; clear n0_ hb))
            go_ret
            exact ⟨rfl, by repeat (first | (with_reducible exact HB.out) | apply below_alloc | apply pw_below_drewN | apply below_drew1 | exact HB.out)⟩
        · rw [if_neg c4] at H
          exact absurd H (by simp)
      · rw [if_neg c3] at H
        have c3b0 : decide (x8_1 < (l0.length : Int)) = false := decide_eq_false c3
        clear c3
        obtain rfl := Option.some.inj H
        go_wp2
        go_ret
        exact ⟨rfl, by repeat (first | (with_reducible exact HB.out) | apply below_alloc | apply pw_below_drewN | apply below_drew1 | exact HB.out)⟩
set_option maxHeartbeats 8000000 in
set_option maxRecDepth 100000 in
theorem impl_inWord.contains (k : Nat) (g : Nat) (A0 : Option Addr) (c0 : Nat) (l0 : List Int) (b : Int) (p : Bool) (r : Int) (W : World) (hw : W.heap[g]? = some (.cells #[.int .i64 b, .bool p] 28 (0, 0))) (hr0 : Kd.C (Kd.int .i64) W A0 l0.length l0) (hc0 : l0.length ≤ c0) (h : impl_inWord.i0 k b p l0 (l0.length : Int) 0 = some r) :
    Calls Try.prog 95 #[.slice A0 l0.length c0, .func (.func 111) #[] #[.pointer (some ⟨g, 0, none⟩)]] W fun e w' => e = .returned (.bool (decide (r ≥ 0))) ∧ Below W.heap.size W w' := by
  have HR0 := Aside0.mk hr0
  have HC0 := Aside0.mk hc0
  have HW := Aside0.mk hw
  have H' := Aside0.mk h
  have HB := Aside0.mk (Below.refl W.heap.size W)
  clear hr0 hc0 h hw
  go_enter Try.func95, Try.ntmps95
  go_wp2_with (first | (go_at_call 117; (with_reducible refine (impl_inWord.index k g A0 c0 l0 b p r _ (by (with_reducible repeat (first | refine blk_drewN ?_ _ | refine blk_drew ?_ | refine blk_alloc ?_ _)); exact HW.out) (by (with_reducible repeat (first | refine Kd.C_alloc ?_ _ | refine Kd.C_drewN ?_ _ | refine Kd.C_drew ?_)); exact HR0.out) HC0.out H'.out).mono ?_); rintro e w2 ⟨rfl, hb⟩; have n0_ := Aside0.mk (below_step (by repeat (first | (with_reducible exact HB.out) | apply below_alloc | apply pw_below_drewN | apply below_drew1 | exact HB.out)) hb); clear HB; have HB := n0_; clear n0_ hb))
  go_ret
  exact ⟨rfl, by repeat (first | (with_reducible exact HB.out) | apply below_alloc | apply pw_below_drewN | apply below_drew1 | exact HB.out)⟩
set_option maxHeartbeats 8000000 in
set_option maxRecDepth 100000 in
theorem impl_inWord.calls (k : Nat) (a0_0 : Int) (a0_1 : Bool) (A1 : Option Addr) (c1 : Nat) (l1 : List Int) (A2 : Option Addr) (c2 : Nat) (l2 : List Int) (a3 : Int) (a4 : Int) (r : Bool) (w : World) (hr1 : Kd.C (Kd.int .i64) w A1 l1.length l1) (hc1 : l1.length ≤ c1) (hr2 : Kd.C (Kd.int .i64) w A2 l2.length l2) (hc2 : l2.length ≤ c2) (h : impl_inWord.f k a0_0 a0_1 l1 l2 a3 a4 = some r) :
    Calls Try.prog 85 #[.agg #[.int .i64 a0_0, .bool a0_1], .slice A1 l1.length c1, .slice A2 l2.length c2, .int .i64 a3, .int .i64 a4] w fun e w' => e = .returned (.bool r) ∧ Below w.heap.size w w' := by
  have hu28 := Try.underlying28
  have HR1 := Aside0.mk hr1
  have HC1 := Aside0.mk hc1
  have HR2 := Aside0.mk hr2
  have HC2 := Aside0.mk hc2
  have HB := Aside0.mk (Below.refl w.heap.size w)
  clear hr1 hc1 hr2 hc2
  unfold impl_inWord.f at h
  obtain ⟨t0, q0_, h⟩ := Option.bind_eq_some_iff.mp h
  have Q0 := Aside0.mk q0_
  clear q0_
  cases t0 with
  | false =>
    replace h := (if_neg (by decide)).symm.trans h
    obtain rfl := Option.some.inj h
    clear h
    go_enter Try.func85, Try.ntmps85
    go_wp2_with (first | ((with_reducible refine gate_dst (N := 5) rfl ?_); refine box_event ?hg (N := 5) ?hd (cs := #[.int .i64 a0_0, .bool a0_1]) (t := 28) ?hr ?_; (case hd => rfl); (case hg => rfl); (case hr => first | (go_simp; done) | (go_simp; rfl)); intro g hg vb hbox hb; have KW0 := Aside0.mk hbox; have m1_ := Aside0.mk (Kd.C_below HR1.out hb); have m2_ := Aside0.mk (Kd.C_below HR2.out hb); have mB_ := Aside0.mk (below_step HB.out hb); clear HR1 HR2 HB; have KW := KW0; have HR1 := m1_; have HR2 := m2_; have HB := mB_; clear KW0 m1_ m2_ mB_ hb hbox hg; have y0 : vb.cell? ⟨g, 0, none⟩ = some (.int .i64 a0_0) := (blk_cell KW.out 0).trans rfl; have y1 : vb.cell? ⟨g, 1, none⟩ = some (.bool a0_1) := (blk_cell KW.out 1).trans rfl) | (go_at_call 112; (with_reducible refine (impl_isWord.calls a0_0 a0_1 _ _ Q0.out).mono ?_); rintro e u0 ⟨rfl, hb⟩; have mW_ := Aside0.mk (blk_below KW.out hb); have m1_ := Aside0.mk (Kd.C_below HR1.out hb); have m2_ := Aside0.mk (Kd.C_below HR2.out hb); have mB_ := Aside0.mk (below_step HB.out hb); clear KW HR1 HR2 HB; have KW := mW_; have HR1 := m1_; have HR2 := m2_; have HB := mB_; clear mW_ m1_ m2_ mB_ hb; clear y0 y1) | (go_at_call 57; (with_reducible refine (impl_isWeights.calls k A1 c1 l1 _ _ HR1.out HC1.out Q1.out).mono ?_); rintro e u1 ⟨rfl, hb_⟩; have hb := hb_.below; clear hb_; have mW_ := Aside0.mk (blk_below KW.out hb); have m1_ := Aside0.mk (Kd.C_below HR1.out hb); have m2_ := Aside0.mk (Kd.C_below HR2.out hb); have mB_ := Aside0.mk (below_step HB.out hb); clear KW HR1 HR2 HB; have KW := mW_; have HR1 := m1_; have HR2 := m2_; have HB := mB_; clear mW_ m1_ m2_ mB_ hb) | (go_at_call 48; (with_reducible refine (impl_isSignal.calls k A2 c2 l2 _ _ HR2.out HC2.out Q2.out).mono ?_); rintro e u2 ⟨rfl, hb_⟩; have hb := hb_.below; clear hb_; have mW_ := Aside0.mk (blk_below KW.out hb); have m1_ := Aside0.mk (Kd.C_below HR1.out hb); have m2_ := Aside0.mk (Kd.C_below HR2.out hb); have mB_ := Aside0.mk (below_step HB.out hb); clear KW HR1 HR2 HB; have KW := mW_; have HR1 := m1_; have HR2 := m2_; have HB := mB_; clear mW_ m1_ m2_ mB_ hb) | (go_at_call 113; (with_reducible refine (impl_isShift.calls a3 a4 _ _ Q3.out).mono ?_); rintro e u3 ⟨rfl, hb_⟩; have hb := hb_.below; clear hb_; have mW_ := Aside0.mk (blk_below KW.out hb); have m1_ := Aside0.mk (Kd.C_below HR1.out hb); have m2_ := Aside0.mk (Kd.C_below HR2.out hb); have mB_ := Aside0.mk (below_step HB.out hb); clear KW HR1 HR2 HB; have KW := mW_; have HR1 := m1_; have HR2 := m2_; have HB := mB_; clear mW_ m1_ m2_ mB_ hb) | (go_at_call 95; (with_reducible refine (impl_inWord.contains k g A1 c1 l1 a0_0 a0_1 _ _ KW.out HR1.out HC1.out Q4.out).mono ?_); rintro e u4 ⟨rfl, hb⟩; have mW_ := Aside0.mk (blk_below KW.out hb); have m1_ := Aside0.mk (Kd.C_below HR1.out hb); have m2_ := Aside0.mk (Kd.C_below HR2.out hb); have mB_ := Aside0.mk (below_step HB.out hb); clear KW HR1 HR2 HB; have KW := mW_; have HR1 := m1_; have HR2 := m2_; have HB := mB_; clear mW_ m1_ m2_ mB_ hb) | (go_at_call 95; (with_reducible refine (impl_inWord.contains k g A2 c2 l2 a0_0 a0_1 _ _ KW.out HR2.out HC2.out Q5.out).mono ?_); rintro e u5 ⟨rfl, hb⟩; have mW_ := Aside0.mk (blk_below KW.out hb); have m1_ := Aside0.mk (Kd.C_below HR1.out hb); have m2_ := Aside0.mk (Kd.C_below HR2.out hb); have mB_ := Aside0.mk (below_step HB.out hb); clear KW HR1 HR2 HB; have KW := mW_; have HR1 := m1_; have HR2 := m2_; have HB := mB_; clear mW_ m1_ m2_ mB_ hb))
    go_ret
    exact ⟨rfl, HB.out⟩
  | true =>
    replace h := (if_pos rfl).symm.trans h
    obtain ⟨t1, q1_, h⟩ := Option.bind_eq_some_iff.mp h
    have Q1 := Aside0.mk q1_
    clear q1_
    cases t1 with
    | false =>
      replace h := (if_neg (by decide)).symm.trans h
      obtain rfl := Option.some.inj h
      clear h
      go_enter Try.func85, Try.ntmps85
      go_wp2_with (first | ((with_reducible refine gate_dst (N := 5) rfl ?_); refine box_event ?hg (N := 5) ?hd (cs := #[.int .i64 a0_0, .bool a0_1]) (t := 28) ?hr ?_; (case hd => rfl); (case hg => rfl); (case hr => first | (go_simp; done) | (go_simp; rfl)); intro g hg vb hbox hb; have KW0 := Aside0.mk hbox; have m1_ := Aside0.mk (Kd.C_below HR1.out hb); have m2_ := Aside0.mk (Kd.C_below HR2.out hb); have mB_ := Aside0.mk (below_step HB.out hb); clear HR1 HR2 HB; have KW := KW0; have HR1 := m1_; have HR2 := m2_; have HB := mB_; clear KW0 m1_ m2_ mB_ hb hbox hg; have y0 : vb.cell? ⟨g, 0, none⟩ = some (.int .i64 a0_0) := (blk_cell KW.out 0).trans rfl; have y1 : vb.cell? ⟨g, 1, none⟩ = some (.bool a0_1) := (blk_cell KW.out 1).trans rfl) | (go_at_call 112; (with_reducible refine (impl_isWord.calls a0_0 a0_1 _ _ Q0.out).mono ?_); rintro e u0 ⟨rfl, hb⟩; have mW_ := Aside0.mk (blk_below KW.out hb); have m1_ := Aside0.mk (Kd.C_below HR1.out hb); have m2_ := Aside0.mk (Kd.C_below HR2.out hb); have mB_ := Aside0.mk (below_step HB.out hb); clear KW HR1 HR2 HB; have KW := mW_; have HR1 := m1_; have HR2 := m2_; have HB := mB_; clear mW_ m1_ m2_ mB_ hb; clear y0 y1) | (go_at_call 57; (with_reducible refine (impl_isWeights.calls k A1 c1 l1 _ _ HR1.out HC1.out Q1.out).mono ?_); rintro e u1 ⟨rfl, hb_⟩; have hb := hb_.below; clear hb_; have mW_ := Aside0.mk (blk_below KW.out hb); have m1_ := Aside0.mk (Kd.C_below HR1.out hb); have m2_ := Aside0.mk (Kd.C_below HR2.out hb); have mB_ := Aside0.mk (below_step HB.out hb); clear KW HR1 HR2 HB; have KW := mW_; have HR1 := m1_; have HR2 := m2_; have HB := mB_; clear mW_ m1_ m2_ mB_ hb) | (go_at_call 48; (with_reducible refine (impl_isSignal.calls k A2 c2 l2 _ _ HR2.out HC2.out Q2.out).mono ?_); rintro e u2 ⟨rfl, hb_⟩; have hb := hb_.below; clear hb_; have mW_ := Aside0.mk (blk_below KW.out hb); have m1_ := Aside0.mk (Kd.C_below HR1.out hb); have m2_ := Aside0.mk (Kd.C_below HR2.out hb); have mB_ := Aside0.mk (below_step HB.out hb); clear KW HR1 HR2 HB; have KW := mW_; have HR1 := m1_; have HR2 := m2_; have HB := mB_; clear mW_ m1_ m2_ mB_ hb) | (go_at_call 113; (with_reducible refine (impl_isShift.calls a3 a4 _ _ Q3.out).mono ?_); rintro e u3 ⟨rfl, hb_⟩; have hb := hb_.below; clear hb_; have mW_ := Aside0.mk (blk_below KW.out hb); have m1_ := Aside0.mk (Kd.C_below HR1.out hb); have m2_ := Aside0.mk (Kd.C_below HR2.out hb); have mB_ := Aside0.mk (below_step HB.out hb); clear KW HR1 HR2 HB; have KW := mW_; have HR1 := m1_; have HR2 := m2_; have HB := mB_; clear mW_ m1_ m2_ mB_ hb) | (go_at_call 95; (with_reducible refine (impl_inWord.contains k g A1 c1 l1 a0_0 a0_1 _ _ KW.out HR1.out HC1.out Q4.out).mono ?_); rintro e u4 ⟨rfl, hb⟩; have mW_ := Aside0.mk (blk_below KW.out hb); have m1_ := Aside0.mk (Kd.C_below HR1.out hb); have m2_ := Aside0.mk (Kd.C_below HR2.out hb); have mB_ := Aside0.mk (below_step HB.out hb); clear KW HR1 HR2 HB; have KW := mW_; have HR1 := m1_; have HR2 := m2_; have HB := mB_; clear mW_ m1_ m2_ mB_ hb) | (go_at_call 95; (with_reducible refine (impl_inWord.contains k g A2 c2 l2 a0_0 a0_1 _ _ KW.out HR2.out HC2.out Q5.out).mono ?_); rintro e u5 ⟨rfl, hb⟩; have mW_ := Aside0.mk (blk_below KW.out hb); have m1_ := Aside0.mk (Kd.C_below HR1.out hb); have m2_ := Aside0.mk (Kd.C_below HR2.out hb); have mB_ := Aside0.mk (below_step HB.out hb); clear KW HR1 HR2 HB; have KW := mW_; have HR1 := m1_; have HR2 := m2_; have HB := mB_; clear mW_ m1_ m2_ mB_ hb))
      go_ret
      exact ⟨rfl, HB.out⟩
    | true =>
      replace h := (if_pos rfl).symm.trans h
      obtain ⟨t2, q2_, h⟩ := Option.bind_eq_some_iff.mp h
      have Q2 := Aside0.mk q2_
      clear q2_
      cases t2 with
      | false =>
        replace h := (if_neg (by decide)).symm.trans h
        obtain rfl := Option.some.inj h
        clear h
        go_enter Try.func85, Try.ntmps85
        go_wp2_with (first | ((with_reducible refine gate_dst (N := 5) rfl ?_); refine box_event ?hg (N := 5) ?hd (cs := #[.int .i64 a0_0, .bool a0_1]) (t := 28) ?hr ?_; (case hd => rfl); (case hg => rfl); (case hr => first | (go_simp; done) | (go_simp; rfl)); intro g hg vb hbox hb; have KW0 := Aside0.mk hbox; have m1_ := Aside0.mk (Kd.C_below HR1.out hb); have m2_ := Aside0.mk (Kd.C_below HR2.out hb); have mB_ := Aside0.mk (below_step HB.out hb); clear HR1 HR2 HB; have KW := KW0; have HR1 := m1_; have HR2 := m2_; have HB := mB_; clear KW0 m1_ m2_ mB_ hb hbox hg; have y0 : vb.cell? ⟨g, 0, none⟩ = some (.int .i64 a0_0) := (blk_cell KW.out 0).trans rfl; have y1 : vb.cell? ⟨g, 1, none⟩ = some (.bool a0_1) := (blk_cell KW.out 1).trans rfl) | (go_at_call 112; (with_reducible refine (impl_isWord.calls a0_0 a0_1 _ _ Q0.out).mono ?_); rintro e u0 ⟨rfl, hb⟩; have mW_ := Aside0.mk (blk_below KW.out hb); have m1_ := Aside0.mk (Kd.C_below HR1.out hb); have m2_ := Aside0.mk (Kd.C_below HR2.out hb); have mB_ := Aside0.mk (below_step HB.out hb); clear KW HR1 HR2 HB; have KW := mW_; have HR1 := m1_; have HR2 := m2_; have HB := mB_; clear mW_ m1_ m2_ mB_ hb; clear y0 y1) | (go_at_call 57; (with_reducible refine (impl_isWeights.calls k A1 c1 l1 _ _ HR1.out HC1.out Q1.out).mono ?_); rintro e u1 ⟨rfl, hb_⟩; have hb := hb_.below; clear hb_; have mW_ := Aside0.mk (blk_below KW.out hb); have m1_ := Aside0.mk (Kd.C_below HR1.out hb); have m2_ := Aside0.mk (Kd.C_below HR2.out hb); have mB_ := Aside0.mk (below_step HB.out hb); clear KW HR1 HR2 HB; have KW := mW_; have HR1 := m1_; have HR2 := m2_; have HB := mB_; clear mW_ m1_ m2_ mB_ hb) | (go_at_call 48; (with_reducible refine (impl_isSignal.calls k A2 c2 l2 _ _ HR2.out HC2.out Q2.out).mono ?_); rintro e u2 ⟨rfl, hb_⟩; have hb := hb_.below; clear hb_; have mW_ := Aside0.mk (blk_below KW.out hb); have m1_ := Aside0.mk (Kd.C_below HR1.out hb); have m2_ := Aside0.mk (Kd.C_below HR2.out hb); have mB_ := Aside0.mk (below_step HB.out hb); clear KW HR1 HR2 HB; have KW := mW_; have HR1 := m1_; have HR2 := m2_; have HB := mB_; clear mW_ m1_ m2_ mB_ hb) | (go_at_call 113; (with_reducible refine (impl_isShift.calls a3 a4 _ _ Q3.out).mono ?_); rintro e u3 ⟨rfl, hb_⟩; have hb := hb_.below; clear hb_; have mW_ := Aside0.mk (blk_below KW.out hb); have m1_ := Aside0.mk (Kd.C_below HR1.out hb); have m2_ := Aside0.mk (Kd.C_below HR2.out hb); have mB_ := Aside0.mk (below_step HB.out hb); clear KW HR1 HR2 HB; have KW := mW_; have HR1 := m1_; have HR2 := m2_; have HB := mB_; clear mW_ m1_ m2_ mB_ hb) | (go_at_call 95; (with_reducible refine (impl_inWord.contains k g A1 c1 l1 a0_0 a0_1 _ _ KW.out HR1.out HC1.out Q4.out).mono ?_); rintro e u4 ⟨rfl, hb⟩; have mW_ := Aside0.mk (blk_below KW.out hb); have m1_ := Aside0.mk (Kd.C_below HR1.out hb); have m2_ := Aside0.mk (Kd.C_below HR2.out hb); have mB_ := Aside0.mk (below_step HB.out hb); clear KW HR1 HR2 HB; have KW := mW_; have HR1 := m1_; have HR2 := m2_; have HB := mB_; clear mW_ m1_ m2_ mB_ hb) | (go_at_call 95; (with_reducible refine (impl_inWord.contains k g A2 c2 l2 a0_0 a0_1 _ _ KW.out HR2.out HC2.out Q5.out).mono ?_); rintro e u5 ⟨rfl, hb⟩; have mW_ := Aside0.mk (blk_below KW.out hb); have m1_ := Aside0.mk (Kd.C_below HR1.out hb); have m2_ := Aside0.mk (Kd.C_below HR2.out hb); have mB_ := Aside0.mk (below_step HB.out hb); clear KW HR1 HR2 HB; have KW := mW_; have HR1 := m1_; have HR2 := m2_; have HB := mB_; clear mW_ m1_ m2_ mB_ hb))
        go_ret
        exact ⟨rfl, HB.out⟩
      | true =>
        replace h := (if_pos rfl).symm.trans h
        obtain ⟨t3, q3_, h⟩ := Option.bind_eq_some_iff.mp h
        have Q3 := Aside0.mk q3_
        clear q3_
        cases t3 with
        | false =>
          replace h := (if_neg (by decide)).symm.trans h
          obtain rfl := Option.some.inj h
          clear h
          go_enter Try.func85, Try.ntmps85
          go_wp2_with (first | ((with_reducible refine gate_dst (N := 5) rfl ?_); refine box_event ?hg (N := 5) ?hd (cs := #[.int .i64 a0_0, .bool a0_1]) (t := 28) ?hr ?_; (case hd => rfl); (case hg => rfl); (case hr => first | (go_simp; done) | (go_simp; rfl)); intro g hg vb hbox hb; have KW0 := Aside0.mk hbox; have m1_ := Aside0.mk (Kd.C_below HR1.out hb); have m2_ := Aside0.mk (Kd.C_below HR2.out hb); have mB_ := Aside0.mk (below_step HB.out hb); clear HR1 HR2 HB; have KW := KW0; have HR1 := m1_; have HR2 := m2_; have HB := mB_; clear KW0 m1_ m2_ mB_ hb hbox hg; have y0 : vb.cell? ⟨g, 0, none⟩ = some (.int .i64 a0_0) := (blk_cell KW.out 0).trans rfl; have y1 : vb.cell? ⟨g, 1, none⟩ = some (.bool a0_1) := (blk_cell KW.out 1).trans rfl) | (go_at_call 112; (with_reducible refine (impl_isWord.calls a0_0 a0_1 _ _ Q0.out).mono ?_); rintro e u0 ⟨rfl, hb⟩; have mW_ := Aside0.mk (blk_below KW.out hb); have m1_ := Aside0.mk (Kd.C_below HR1.out hb); have m2_ := Aside0.mk (Kd.C_below HR2.out hb); have mB_ := Aside0.mk (below_step HB.out hb); clear KW HR1 HR2 HB; have KW := mW_; have HR1 := m1_; have HR2 := m2_; have HB := mB_; clear mW_ m1_ m2_ mB_ hb; clear y0 y1) | (go_at_call 57; (with_reducible refine (impl_isWeights.calls k A1 c1 l1 _ _ HR1.out HC1.out Q1.out).mono ?_); rintro e u1 ⟨rfl, hb_⟩; have hb := hb_.below; clear hb_; have mW_ := Aside0.mk (blk_below KW.out hb); have m1_ := Aside0.mk (Kd.C_below HR1.out hb); have m2_ := Aside0.mk (Kd.C_below HR2.out hb); have mB_ := Aside0.mk (below_step HB.out hb); clear KW HR1 HR2 HB; have KW := mW_; have HR1 := m1_; have HR2 := m2_; have HB := mB_; clear mW_ m1_ m2_ mB_ hb) | (go_at_call 48; (with_reducible refine (impl_isSignal.calls k A2 c2 l2 _ _ HR2.out HC2.out Q2.out).mono ?_); rintro e u2 ⟨rfl, hb_⟩; have hb := hb_.below; clear hb_; have mW_ := Aside0.mk (blk_below KW.out hb); have m1_ := Aside0.mk (Kd.C_below HR1.out hb); have m2_ := Aside0.mk (Kd.C_below HR2.out hb); have mB_ := Aside0.mk (below_step HB.out hb); clear KW HR1 HR2 HB; have KW := mW_; have HR1 := m1_; have HR2 := m2_; have HB := mB_; clear mW_ m1_ m2_ mB_ hb) | (go_at_call 113; (with_reducible refine (impl_isShift.calls a3 a4 _ _ Q3.out).mono ?_); rintro e u3 ⟨rfl, hb_⟩; have hb := hb_.below; clear hb_; have mW_ := Aside0.mk (blk_below KW.out hb); have m1_ := Aside0.mk (Kd.C_below HR1.out hb); have m2_ := Aside0.mk (Kd.C_below HR2.out hb); have mB_ := Aside0.mk (below_step HB.out hb); clear KW HR1 HR2 HB; have KW := mW_; have HR1 := m1_; have HR2 := m2_; have HB := mB_; clear mW_ m1_ m2_ mB_ hb) | (go_at_call 95; (with_reducible refine (impl_inWord.contains k g A1 c1 l1 a0_0 a0_1 _ _ KW.out HR1.out HC1.out Q4.out).mono ?_); rintro e u4 ⟨rfl, hb⟩; have mW_ := Aside0.mk (blk_below KW.out hb); have m1_ := Aside0.mk (Kd.C_below HR1.out hb); have m2_ := Aside0.mk (Kd.C_below HR2.out hb); have mB_ := Aside0.mk (below_step HB.out hb); clear KW HR1 HR2 HB; have KW := mW_; have HR1 := m1_; have HR2 := m2_; have HB := mB_; clear mW_ m1_ m2_ mB_ hb) | (go_at_call 95; (with_reducible refine (impl_inWord.contains k g A2 c2 l2 a0_0 a0_1 _ _ KW.out HR2.out HC2.out Q5.out).mono ?_); rintro e u5 ⟨rfl, hb⟩; have mW_ := Aside0.mk (blk_below KW.out hb); have m1_ := Aside0.mk (Kd.C_below HR1.out hb); have m2_ := Aside0.mk (Kd.C_below HR2.out hb); have mB_ := Aside0.mk (below_step HB.out hb); clear KW HR1 HR2 HB; have KW := mW_; have HR1 := m1_; have HR2 := m2_; have HB := mB_; clear mW_ m1_ m2_ mB_ hb))
          go_ret
          exact ⟨rfl, HB.out⟩
        | true =>
          replace h := (if_pos rfl).symm.trans h
          obtain ⟨r1, q4_, h⟩ := Option.bind_eq_some_iff.mp h
          have Q4 := Aside0.mk q4_
          clear q4_
          by_cases c1_ : r1 ≥ 0
          · replace h := (if_pos c1_).symm.trans h
            have d1_ := decide_eq_true c1_
            clear c1_
            obtain rfl := Option.some.inj h
            clear h
            go_enter Try.func85, Try.ntmps85
            go_wp2_with (first | ((with_reducible refine gate_dst (N := 5) rfl ?_); refine box_event ?hg (N := 5) ?hd (cs := #[.int .i64 a0_0, .bool a0_1]) (t := 28) ?hr ?_; (case hd => rfl); (case hg => rfl); (case hr => first | (go_simp; done) | (go_simp; rfl)); intro g hg vb hbox hb; have KW0 := Aside0.mk hbox; have m1_ := Aside0.mk (Kd.C_below HR1.out hb); have m2_ := Aside0.mk (Kd.C_below HR2.out hb); have mB_ := Aside0.mk (below_step HB.out hb); clear HR1 HR2 HB; have KW := KW0; have HR1 := m1_; have HR2 := m2_; have HB := mB_; clear KW0 m1_ m2_ mB_ hb hbox hg; have y0 : vb.cell? ⟨g, 0, none⟩ = some (.int .i64 a0_0) := (blk_cell KW.out 0).trans rfl; have y1 : vb.cell? ⟨g, 1, none⟩ = some (.bool a0_1) := (blk_cell KW.out 1).trans rfl) | (go_at_call 112; (with_reducible refine (impl_isWord.calls a0_0 a0_1 _ _ Q0.out).mono ?_); rintro e u0 ⟨rfl, hb⟩; have mW_ := Aside0.mk (blk_below KW.out hb); have m1_ := Aside0.mk (Kd.C_below HR1.out hb); have m2_ := Aside0.mk (Kd.C_below HR2.out hb); have mB_ := Aside0.mk (below_step HB.out hb); clear KW HR1 HR2 HB; have KW := mW_; have HR1 := m1_; have HR2 := m2_; have HB := mB_; clear mW_ m1_ m2_ mB_ hb; clear y0 y1) | (go_at_call 57; (with_reducible refine (impl_isWeights.calls k A1 c1 l1 _ _ HR1.out HC1.out Q1.out).mono ?_); rintro e u1 ⟨rfl, hb_⟩; have hb := hb_.below; clear hb_; have mW_ := Aside0.mk (blk_below KW.out hb); have m1_ := Aside0.mk (Kd.C_below HR1.out hb); have m2_ := Aside0.mk (Kd.C_below HR2.out hb); have mB_ := Aside0.mk (below_step HB.out hb); clear KW HR1 HR2 HB; have KW := mW_; have HR1 := m1_; have HR2 := m2_; have HB := mB_; clear mW_ m1_ m2_ mB_ hb) | (go_at_call 48; (with_reducible refine (impl_isSignal.calls k A2 c2 l2 _ _ HR2.out HC2.out Q2.out).mono ?_); rintro e u2 ⟨rfl, hb_⟩; have hb := hb_.below; clear hb_; have mW_ := Aside0.mk (blk_below KW.out hb); have m1_ := Aside0.mk (Kd.C_below HR1.out hb); have m2_ := Aside0.mk (Kd.C_below HR2.out hb); have mB_ := Aside0.mk (below_step HB.out hb); clear KW HR1 HR2 HB; have KW := mW_; have HR1 := m1_; have HR2 := m2_; have HB := mB_; clear mW_ m1_ m2_ mB_ hb) | (go_at_call 113; (with_reducible refine (impl_isShift.calls a3 a4 _ _ Q3.out).mono ?_); rintro e u3 ⟨rfl, hb_⟩; have hb := hb_.below; clear hb_; have mW_ := Aside0.mk (blk_below KW.out hb); have m1_ := Aside0.mk (Kd.C_below HR1.out hb); have m2_ := Aside0.mk (Kd.C_below HR2.out hb); have mB_ := Aside0.mk (below_step HB.out hb); clear KW HR1 HR2 HB; have KW := mW_; have HR1 := m1_; have HR2 := m2_; have HB := mB_; clear mW_ m1_ m2_ mB_ hb) | (go_at_call 95; (with_reducible refine (impl_inWord.contains k g A1 c1 l1 a0_0 a0_1 _ _ KW.out HR1.out HC1.out Q4.out).mono ?_); rintro e u4 ⟨rfl, hb⟩; have mW_ := Aside0.mk (blk_below KW.out hb); have m1_ := Aside0.mk (Kd.C_below HR1.out hb); have m2_ := Aside0.mk (Kd.C_below HR2.out hb); have mB_ := Aside0.mk (below_step HB.out hb); clear KW HR1 HR2 HB; have KW := mW_; have HR1 := m1_; have HR2 := m2_; have HB := mB_; clear mW_ m1_ m2_ mB_ hb) | (go_at_call 95; (with_reducible refine (impl_inWord.contains k g A2 c2 l2 a0_0 a0_1 _ _ KW.out HR2.out HC2.out Q5.out).mono ?_); rintro e u5 ⟨rfl, hb⟩; have mW_ := Aside0.mk (blk_below KW.out hb); have m1_ := Aside0.mk (Kd.C_below HR1.out hb); have m2_ := Aside0.mk (Kd.C_below HR2.out hb); have mB_ := Aside0.mk (below_step HB.out hb); clear KW HR1 HR2 HB; have KW := mW_; have HR1 := m1_; have HR2 := m2_; have HB := mB_; clear mW_ m1_ m2_ mB_ hb))
            go_ret
            exact ⟨rfl, HB.out⟩
          · replace h := (if_neg c1_).symm.trans h
            have d1_ := decide_eq_false c1_
            clear c1_
            obtain ⟨r2, q5_, h⟩ := Option.bind_eq_some_iff.mp h
            have Q5 := Aside0.mk q5_
            clear q5_
            obtain rfl := Option.some.inj h
            clear h
            go_enter Try.func85, Try.ntmps85
            go_wp2_with (first | ((with_reducible refine gate_dst (N := 5) rfl ?_); refine box_event ?hg (N := 5) ?hd (cs := #[.int .i64 a0_0, .bool a0_1]) (t := 28) ?hr ?_; (case hd => rfl); (case hg => rfl); (case hr => first | (go_simp; done) | (go_simp; rfl)); intro g hg vb hbox hb; have KW0 := Aside0.mk hbox; have m1_ := Aside0.mk (Kd.C_below HR1.out hb); have m2_ := Aside0.mk (Kd.C_below HR2.out hb); have mB_ := Aside0.mk (below_step HB.out hb); clear HR1 HR2 HB; have KW := KW0; have HR1 := m1_; have HR2 := m2_; have HB := mB_; clear KW0 m1_ m2_ mB_ hb hbox hg; have y0 : vb.cell? ⟨g, 0, none⟩ = some (.int .i64 a0_0) := (blk_cell KW.out 0).trans rfl; have y1 : vb.cell? ⟨g, 1, none⟩ = some (.bool a0_1) := (blk_cell KW.out 1).trans rfl) | (go_at_call 112; (with_reducible refine (impl_isWord.calls a0_0 a0_1 _ _ Q0.out).mono ?_); rintro e u0 ⟨rfl, hb⟩; have mW_ := Aside0.mk (blk_below KW.out hb); have m1_ := Aside0.mk (Kd.C_below HR1.out hb); have m2_ := Aside0.mk (Kd.C_below HR2.out hb); have mB_ := Aside0.mk (below_step HB.out hb); clear KW HR1 HR2 HB; have KW := mW_; have HR1 := m1_; have HR2 := m2_; have HB := mB_; clear mW_ m1_ m2_ mB_ hb; clear y0 y1) | (go_at_call 57; (with_reducible refine (impl_isWeights.calls k A1 c1 l1 _ _ HR1.out HC1.out Q1.out).mono ?_); rintro e u1 ⟨rfl, hb_⟩; have hb := hb_.below; clear hb_; have mW_ := Aside0.mk (blk_below KW.out hb); have m1_ := Aside0.mk (Kd.C_below HR1.out hb); have m2_ := Aside0.mk (Kd.C_below HR2.out hb); have mB_ := Aside0.mk (below_step HB.out hb); clear KW HR1 HR2 HB; have KW := mW_; have HR1 := m1_; have HR2 := m2_; have HB := mB_; clear mW_ m1_ m2_ mB_ hb) | (go_at_call 48; (with_reducible refine (impl_isSignal.calls k A2 c2 l2 _ _ HR2.out HC2.out Q2.out).mono ?_); rintro e u2 ⟨rfl, hb_⟩; have hb := hb_.below; clear hb_; have mW_ := Aside0.mk (blk_below KW.out hb); have m1_ := Aside0.mk (Kd.C_below HR1.out hb); have m2_ := Aside0.mk (Kd.C_below HR2.out hb); have mB_ := Aside0.mk (below_step HB.out hb); clear KW HR1 HR2 HB; have KW := mW_; have HR1 := m1_; have HR2 := m2_; have HB := mB_; clear mW_ m1_ m2_ mB_ hb) | (go_at_call 113; (with_reducible refine (impl_isShift.calls a3 a4 _ _ Q3.out).mono ?_); rintro e u3 ⟨rfl, hb_⟩; have hb := hb_.below; clear hb_; have mW_ := Aside0.mk (blk_below KW.out hb); have m1_ := Aside0.mk (Kd.C_below HR1.out hb); have m2_ := Aside0.mk (Kd.C_below HR2.out hb); have mB_ := Aside0.mk (below_step HB.out hb); clear KW HR1 HR2 HB; have KW := mW_; have HR1 := m1_; have HR2 := m2_; have HB := mB_; clear mW_ m1_ m2_ mB_ hb) | (go_at_call 95; (with_reducible refine (impl_inWord.contains k g A1 c1 l1 a0_0 a0_1 _ _ KW.out HR1.out HC1.out Q4.out).mono ?_); rintro e u4 ⟨rfl, hb⟩; have mW_ := Aside0.mk (blk_below KW.out hb); have m1_ := Aside0.mk (Kd.C_below HR1.out hb); have m2_ := Aside0.mk (Kd.C_below HR2.out hb); have mB_ := Aside0.mk (below_step HB.out hb); clear KW HR1 HR2 HB; have KW := mW_; have HR1 := m1_; have HR2 := m2_; have HB := mB_; clear mW_ m1_ m2_ mB_ hb) | (go_at_call 95; (with_reducible refine (impl_inWord.contains k g A2 c2 l2 a0_0 a0_1 _ _ KW.out HR2.out HC2.out Q5.out).mono ?_); rintro e u5 ⟨rfl, hb⟩; have mW_ := Aside0.mk (blk_below KW.out hb); have m1_ := Aside0.mk (Kd.C_below HR1.out hb); have m2_ := Aside0.mk (Kd.C_below HR2.out hb); have mB_ := Aside0.mk (below_step HB.out hb); clear KW HR1 HR2 HB; have KW := mW_; have HR1 := m1_; have HR2 := m2_; have HB := mB_; clear mW_ m1_ m2_ mB_ hb))
            go_ret
            exact ⟨rfl, HB.out⟩

/-! ### impl_mod: function 114 -/
def impl_mod.f (a0 : Int) (a1 : Int) : Option (Int) := if a1 = 0 then (none) else (some (Int.tmod (wrap64 ((Int.tmod a0 a1) + a1)) a1))
set_option maxHeartbeats 8000000 in
set_option maxRecDepth 100000 in
theorem impl_mod.calls (a0 : Int) (a1 : Int) (r : Int) (w : World) (h : impl_mod.f a0 a1 = some r) :
    Calls Try.prog 114 #[.int .i64 a0, .int .i64 a1] w fun e w' => e = .returned (.int .i64 r) ∧ Drawn0 w w' := by
  have H : (if a1 = 0 then (none) else (some (Int.tmod (wrap64 ((Int.tmod a0 a1) + a1)) a1))) = some r := h
  clear h
  by_cases c3 : a1 = 0
  · rw [if_pos c3] at H
    exact absurd H (by simp)
  · rw [if_neg c3] at H
    have c3b0 : (a1 == 0) = false := beq_eq_false_iff_ne.mpr c3
    have c3b1 : (a1 != 0) = true := bne_iff_ne.mpr c3
    obtain rfl := Option.some.inj H
    go_enter Try.func114, Try.ntmps114
    go_wp2
    go_ret
    exact ⟨by first | rfl | (simp; done) | (simp [*]; done), by repeat (first | exact Drawn0.refl _ | apply Drawn0.step)⟩

/-! ### impl_Word_fit: function 86 -/
def impl_Word_fit.f (a0_0 : Int) (a0_1 : Bool) (a1 : Int) : Option (Int) := (impl_Word_ends.f a0_0 a0_1).bind fun bt173 => (if a0_1 = true then ((impl_mod.f (wrap64 (a1 - bt173.1)) (wrap64 ((wrap64 (bt173.2 - bt173.1)) + 1))).bind fun t175 => (some (wrap64 (t175 + bt173.1)))) else (some (mn (mx a1 bt173.1) bt173.2)))
set_option maxHeartbeats 8000000 in
set_option maxRecDepth 100000 in
theorem impl_Word_fit.calls (a0_0 : Int) (a0_1 : Bool) (a1 : Int) (r : Int) (w : World) (h : impl_Word_fit.f a0_0 a0_1 a1 = some r) :
    Calls Try.prog 86 #[.agg #[.int .i64 a0_0, .bool a0_1], .int .i64 a1] w fun e w' => e = .returned (.int .i64 r) ∧ Below w.heap.size w w' := by
  have hu28 := Try.underlying28
  have HB := Aside0.mk (Below.refl w.heap.size w)
  have H : ((impl_Word_ends.f a0_0 a0_1).bind fun bt173 => (if a0_1 = true then ((impl_mod.f (wrap64 (a1 - bt173.1)) (wrap64 ((wrap64 (bt173.2 - bt173.1)) + 1))).bind fun t175 => (some (wrap64 (t175 + bt173.1)))) else (some (mn (mx a1 bt173.1) bt173.2)))) = some r := h
  clear h
  replace H := Option.bind_eq_some_iff.mp H
  obtain ⟨⟨t173, t174⟩, A30, H⟩ := H
  replace H : (if a0_1 = true then ((impl_mod.f (wrap64 (a1 - t173)) (wrap64 ((wrap64 (t174 - t173)) + 1))).bind fun t175 => (some (wrap64 (t175 + t173)))) else (some (mn (mx a1 t173) t174))) = some r := H
  have A3 := Aside0.mk A30
  clear A30
  by_cases c4 : a0_1 = true
  · subst c4
    have H1 : ((impl_mod.f (wrap64 (a1 - t173)) (wrap64 ((wrap64 (t174 - t173)) + 1))).bind fun t175 => (some (wrap64 (t175 + t173)))) = some r := by rw [if_pos rfl] at H; exact H
    clear H
    have H := H1
    clear H1
    replace H := Option.bind_eq_some_iff.mp H
    obtain ⟨t175, A50, H⟩ := H
    replace H : (some (wrap64 (t175 + t173))) = some r := H
    have A5 := Aside0.mk A50
    clear A50
    obtain rfl := Option.some.inj H
    go_enter Try.func86, Try.ntmps86
    go_wp2_with (first | ((with_reducible refine gate_dst (N := 2) rfl ?_); refine box_event ?hg (N := 2) ?hd (cs := #[.int .i64 a0_0, .bool true]) (t := 28) ?hr ?_; (case hd => rfl); (case hg => rfl); (case hr => first | (go_simp; done) | (go_simp; rfl)); intro gb172 hg w6 hbox hb; have n0_ := Aside0.mk (below_step (by repeat (first | (with_reducible first | exact HB.out | apply below_alloc | apply pw_below_drewN | apply below_drew1) | exact HB.out)) hb); have n1_ := Aside0.mk (hbox); have n2_ := Aside0.mk ((by rw [hg]; exact (below_size (by repeat (first | (with_reducible first | exact HB.out | apply below_alloc | apply pw_below_drewN | apply below_drew1) | exact HB.out))) : w.heap.size ≤ gb172)); have n3_ := Aside0.mk ((by rw [hg]; exact (below_size (by repeat (first | (with_reducible first | exact HB.out | apply below_alloc | apply pw_below_drewN | apply below_drew1) | exact HB.out))) : w.heap.size ≤ gb172)); clear HB; have HB := n0_; have BK172 := n1_; have GW172 := n2_; have GE172 := n3_; clear n0_ n1_ n2_ n3_; clear hb hbox hg; have hcz7_0 : w6.cell? ⟨gb172, 0, none⟩ = some (.int .i64 a0_0) := (blk_cell BK172.out 0).trans rfl; have hcz7_1 : w6.cell? ⟨gb172, 1, none⟩ = some (.bool true) := (blk_cell BK172.out 1).trans rfl; have hfz7_0 := blk_frozen BK172.out 0; have hfz7_1 := blk_frozen BK172.out 1) | ((with_reducible refine gate_callee (f := 104) rfl ?_); refine goesL_ (some 9) rfl rfl Try.func104 (by kernel_rfl) rfl #[.agg #[.int .i64 a0_0, .bool true]] rfl (by (try simp only [List.map_toArray, List.map_cons, List.map_nil]); first | done | rfl | (simp only [List.length_drop, List.length_take]; rfl)) ?_; (with_reducible refine (impl_Word_ends.calls a0_0 true t173 t174 _ A3.out).mono ?_); rintro e w8 ⟨rfl, hb⟩; refine ⟨_, rfl, ?_⟩; have n0_ := Aside0.mk (blk_below (g := gb172) (o := .cells #[.int .i64 a0_0, .bool true] 28 (0, 0)) (by (with_reducible repeat (first | refine blk_drewN ?_ _ | refine blk_drew ?_ | refine blk_alloc ?_ _)); exact BK172.out) hb); have n1_ := Aside0.mk (below_step (by repeat (first | (with_reducible first | exact HB.out | apply below_alloc | apply pw_below_drewN | apply below_drew1 | refine below_set ?_ GE172.out) | exact HB.out)) hb); clear BK172; clear HB; have BK172 := n0_; have HB := n1_; clear n0_ n1_; (try clear hb); (try clear hb2); (try clear hk); (try clear hi); have hcz9_0 : w8.cell? ⟨gb172, 0, none⟩ = some (.int .i64 a0_0) := (blk_cell BK172.out 0).trans rfl; have hcz9_1 : w8.cell? ⟨gb172, 1, none⟩ = some (.bool true) := (blk_cell BK172.out 1).trans rfl; have hfz9_0 := blk_frozen BK172.out 0; have hfz9_1 := blk_frozen BK172.out 1) | ((with_reducible refine gate_callee (f := 114) rfl ?_); refine goesL_ (some 21) rfl rfl Try.func114 (by kernel_rfl) rfl #[.int .i64 (wrap64 (a1 - t173)), .int .i64 (wrap64 ((wrap64 (t174 - t173)) + 1))] rfl (by (try simp only [List.map_toArray, List.map_cons, List.map_nil]); first | done | rfl | (simp only [List.length_drop, List.length_take]; rfl)) ?_; (with_reducible refine (impl_mod.calls (wrap64 (a1 - t173)) (wrap64 ((wrap64 (t174 - t173)) + 1)) t175 _ A5.out).mono ?_); rintro e w' ⟨rfl, ⟨nd, rfl⟩⟩; refine ⟨_, rfl, ?_⟩))
    go_ret
    exact ⟨by first | rfl | (simp [errW_none, errW_some] <;> rfl) | (simp [*, errW_none, errW_some] <;> rfl), by repeat (first | (with_reducible first | exact HB.out | apply below_alloc | apply pw_below_drewN | apply below_drew1 | refine below_set ?_ GE172.out) | exact HB.out)⟩
  · replace c4 := Bool.eq_false_iff.mpr c4
    subst c4
    have H1 : (some (mn (mx a1 t173) t174)) = some r := by rw [if_neg (show ¬ (false = true) by decide)] at H; exact H
    clear H
    have H := H1
    clear H1
    obtain ⟨ji10, hji10⟩ : ∃ j_ : Int, (mx a1 t173) = j_ := ⟨_, rfl⟩
    replace H : (some (mn (ji10) t174)) = some r := by first | (rw [hji10] at H; exact H) | (simp only [hji10] at H ⊢; exact H)
    (try rw [hji10] at A3)
    have hji10_ : (if a1 < t173 then t173 else a1) = ji10 := hji10
    obtain ⟨ji11, hji11⟩ : ∃ j_ : Int, (mn (ji10) t174) = j_ := ⟨_, rfl⟩
    replace H : (some ji11) = some r := by first | (rw [hji11] at H; exact H) | (simp only [hji11] at H ⊢; exact H)
    (try rw [hji11] at A3)
    have hji11_ : (if t174 < (ji10) then t174 else (ji10)) = ji11 := hji11
    obtain rfl := Option.some.inj H
    go_enter Try.func86, Try.ntmps86
    go_wp2_with (first | ((with_reducible refine gate_dst (N := 2) rfl ?_); refine box_event ?hg (N := 2) ?hd (cs := #[.int .i64 a0_0, .bool false]) (t := 28) ?hr ?_; (case hd => rfl); (case hg => rfl); (case hr => first | (go_simp; done) | (go_simp; rfl)); intro gb172 hg w12 hbox hb; have n0_ := Aside0.mk (below_step (by repeat (first | (with_reducible first | exact HB.out | apply below_alloc | apply pw_below_drewN | apply below_drew1) | exact HB.out)) hb); have n1_ := Aside0.mk (hbox); have n2_ := Aside0.mk ((by rw [hg]; exact (below_size (by repeat (first | (with_reducible first | exact HB.out | apply below_alloc | apply pw_below_drewN | apply below_drew1) | exact HB.out))) : w.heap.size ≤ gb172)); have n3_ := Aside0.mk ((by rw [hg]; exact (below_size (by repeat (first | (with_reducible first | exact HB.out | apply below_alloc | apply pw_below_drewN | apply below_drew1) | exact HB.out))) : w.heap.size ≤ gb172)); clear HB; have HB := n0_; have BK172 := n1_; have GW172 := n2_; have GE172 := n3_; clear n0_ n1_ n2_ n3_; clear hb hbox hg; have hcz13_0 : w12.cell? ⟨gb172, 0, none⟩ = some (.int .i64 a0_0) := (blk_cell BK172.out 0).trans rfl; have hcz13_1 : w12.cell? ⟨gb172, 1, none⟩ = some (.bool false) := (blk_cell BK172.out 1).trans rfl; have hfz13_0 := blk_frozen BK172.out 0; have hfz13_1 := blk_frozen BK172.out 1) | ((with_reducible refine gate_callee (f := 104) rfl ?_); refine goesL_ (some 9) rfl rfl Try.func104 (by kernel_rfl) rfl #[.agg #[.int .i64 a0_0, .bool false]] rfl (by (try simp only [List.map_toArray, List.map_cons, List.map_nil]); first | done | rfl | (simp only [List.length_drop, List.length_take]; rfl)) ?_; (with_reducible refine (impl_Word_ends.calls a0_0 false t173 t174 _ A3.out).mono ?_); rintro e w14 ⟨rfl, hb⟩; refine ⟨_, rfl, ?_⟩; have n0_ := Aside0.mk (blk_below (g := gb172) (o := .cells #[.int .i64 a0_0, .bool false] 28 (0, 0)) (by (with_reducible repeat (first | refine blk_drewN ?_ _ | refine blk_drew ?_ | refine blk_alloc ?_ _)); exact BK172.out) hb); have n1_ := Aside0.mk (below_step (by repeat (first | (with_reducible first | exact HB.out | apply below_alloc | apply pw_below_drewN | apply below_drew1 | refine below_set ?_ GE172.out) | exact HB.out)) hb); clear BK172; clear HB; have BK172 := n0_; have HB := n1_; clear n0_ n1_; (try clear hb); (try clear hb2); (try clear hk); (try clear hi); have hcz15_0 : w14.cell? ⟨gb172, 0, none⟩ = some (.int .i64 a0_0) := (blk_cell BK172.out 0).trans rfl; have hcz15_1 : w14.cell? ⟨gb172, 1, none⟩ = some (.bool false) := (blk_cell BK172.out 1).trans rfl; have hfz15_0 := blk_frozen BK172.out 0; have hfz15_1 := blk_frozen BK172.out 1))
    go_ret
    exact ⟨by first | rfl | (simp [errW_none, errW_some] <;> rfl) | (simp only [← hji10, ← hji11]; first | rfl | (simp [errW_none, errW_some] <;> rfl)) | (simp [*, errW_none, errW_some] <;> rfl), by repeat (first | (with_reducible first | exact HB.out | apply below_alloc | apply pw_below_drewN | apply below_drew1 | refine below_set ?_ GE172.out) | exact HB.out)⟩

/-! ### impl_shifted: function 87 -/
def impl_shifted.j0 : Nat → Int → Int → Int → Bool → Option (Int)
  | 0, _, _, _, _ => none
  | k + 1, x0, x1, x2, x7 => if x7 = true then (if 0 ≤ (wrap64 (x1 - 1)) then (if 0 ≤ x1 then (some (shr .i64 (wrap64 (x0 + (shl .i64 1 (wrap64 (x1 - 1))))) x1)) else (none)) else (none)) else (if x2 = 2 then (if x0 < 0 then (if 0 ≤ x1 then (some (wrap64 (-(shr .i64 (wrap64 (-x0)) x1)))) else (none)) else (if 0 ≤ x1 then (some (shr .i64 x0 x1)) else (none))) else (if 0 ≤ x1 then (some (shr .i64 x0 x1)) else (none)))
def impl_shifted.f (k : Nat) (a0 : Int) (a1 : Int) (a2 : Int) : Option (Int) := if a2 = 1 then (impl_shifted.j0 k a0 a1 a2 (decide (a1 > 0))) else (impl_shifted.j0 k a0 a1 a2 false)
theorem impl_shifted.mono_l : ∀ k, (∀ y0 y1 y2 y3, LeO (impl_shifted.j0 k y0 y1 y2 y3) (impl_shifted.j0 (k + 1) y0 y1 y2 y3))
  | 0 => fun _ _ _ _ r h => by simp [impl_shifted.j0] at h
  | k + 1 => by
    have ih0 := impl_shifted.mono_l k
    · intro y0 y1 y2 y3
      unfold impl_shifted.j0
      repeat' first
      | (with_reducible exact ih0 _ _ _ _)
      | (with_reducible exact LeO.refl _)
      | (with_reducible exact LeO.none _)
      | (with_reducible refine LeO.ite ?_ ?_)
      | (with_reducible refine LeO.bind ?_ (fun _ => ?_))
      | exact ih0 _ _ _ _
      | exact LeO.none _
      | refine LeO.ite ?_ ?_
      | refine LeO.bind ?_ (fun _ => ?_)
theorem impl_shifted.mono : ∀ a0 a1 a2 k, LeO (impl_shifted.f k a0 a1 a2) (impl_shifted.f (k + 1) a0 a1 a2) := by
  intro a0 a1 a2 k
  have ih0 := impl_shifted.mono_l k
  unfold impl_shifted.f
  repeat' first
      | (with_reducible exact ih0 _ _ _ _)
      | (with_reducible exact LeO.refl _)
      | (with_reducible exact LeO.none _)
      | (with_reducible refine LeO.ite ?_ ?_)
      | (with_reducible refine LeO.bind ?_ (fun _ => ?_))
      | exact ih0 _ _ _ _
      | exact LeO.none _
      | refine LeO.ite ?_ ?_
      | refine LeO.bind ?_ (fun _ => ?_)
set_option maxHeartbeats 8000000 in
set_option maxRecDepth 100000 in
theorem impl_shifted.calls (k : Nat) (a0 : Int) (a1 : Int) (a2 : Int) (r : Int) (w : World) (h : impl_shifted.f k a0 a1 a2 = some r) :
    Calls Try.prog 87 #[.int .i64 a0, .int .i64 a1, .int .i64 a2] w fun e w' => e = .returned (.int .i64 r) ∧ Drawn0 w w' := by
  have H : (if a2 = 1 then (impl_shifted.j0 k a0 a1 a2 (decide (a1 > 0))) else (impl_shifted.j0 k a0 a1 a2 false)) = some r := h
  clear h
  have HC4 := Aside0.mk H
  clear H
  go_enter Try.func87, Try.ntmps87
  go_upto_region 1 with (fail)
  go_cut [7] (fun v7 wc => ∃ (kq : Nat) (x7_3 : Bool), v7 = .bool x7_3 ∧ Aside0 (impl_shifted.j0 kq a0 a1 a2 x7_3 = some r) ∧ Aside0 (kq ≤ k) ∧ Drawn0 w wc)
  case first =>
    have H := HC4.out
    clear HC4
    by_cases c5 : a2 = 1
    · rw [if_pos c5] at H
      have c5b0 : (a2 == 1) = true := beq_iff_eq.mpr c5
      have c5b1 : (a2 != 1) = false := bne_eq_false_iff_eq.mpr c5
      clear c5
      (first | rw [c5b0] | (simp only [i64_w, i32_w]; rw [c5b0]) | skip)
      have H' := Aside0.mk H
      clear H
      go_wp2
      go_meet
      case rel => exact ⟨_, (decide (a1 > 0)), (by first | rfl | (simp; done) | (simp [*]; done)), H', ⟨by first | omega | exact Nat.le_refl _⟩, by repeat (first | exact Drawn0.refl _ | apply Drawn0.step)⟩
    · rw [if_neg c5] at H
      have c5b0 : (a2 == 1) = false := beq_eq_false_iff_ne.mpr c5
      have c5b1 : (a2 != 1) = true := bne_iff_ne.mpr c5
      (first | rw [c5b0] | (simp only [i64_w, i32_w]; rw [c5b0]) | skip)
      have H' := Aside0.mk H
      clear H
      go_wp2
      go_meet
      case rel => exact ⟨_, (false), (by first | rfl | (simp; done) | (simp [*]; done)), H', ⟨by first | omega | exact Nat.le_refl _⟩, by repeat (first | exact Drawn0.refl _ | apply Drawn0.step)⟩
  case rest =>
    clear HC4
    try clear p2
    try clear c5
    try clear c5b0
    try clear c5b1
    obtain ⟨kq, x7_3, rfl, HA, HJ3, ⟨mc3, rfl⟩⟩ := hcut
    cases kq with
    | zero => exact absurd HA.out (by simp [impl_shifted.j0])
    | succ kj3 =>
      have H := HA.out
      clear HA
      simp only [impl_shifted.j0] at H
      by_cases c6 : x7_3 = true
      · subst c6
        have H1 : (if 0 ≤ (wrap64 (a1 - 1)) then (if 0 ≤ a1 then (some (shr .i64 (wrap64 (a0 + (shl .i64 1 (wrap64 (a1 - 1))))) a1)) else (none)) else (none)) = some r := by rw [if_pos rfl] at H; exact H
        clear H
        have H := H1
        clear H1
        obtain ⟨ji7, hji7⟩ : ∃ j_ : Int, (wrap64 (a1 - 1)) = j_ := ⟨_, rfl⟩
        replace H : (if 0 ≤ (ji7) then (if 0 ≤ a1 then (some (shr .i64 (wrap64 (a0 + (shl .i64 1 (ji7)))) a1)) else (none)) else (none)) = some r := by first | (rw [hji7] at H; exact H) | (simp only [hji7] at H ⊢; exact H)
        have hji7w : (IntKind.i64.wrap (a1 - 1)) = ji7 := (i64_w _).trans hji7
        by_cases c8 : 0 ≤ (ji7)
        · rw [if_pos c8] at H
          have c8b0 := eq_true c8
          have c8b1 : decide (0 ≤ (ji7)) = true := decide_eq_true c8
          clear c8
          obtain ⟨ji9, hji9⟩ : ∃ j_ : Int, (shl .i64 1 (ji7)) = j_ := ⟨_, rfl⟩
          replace H : (if 0 ≤ a1 then (some (shr .i64 (wrap64 (a0 + (ji9))) a1)) else (none)) = some r := by first | (rw [hji9] at H; exact H) | (simp only [hji9] at H ⊢; exact H)
          have hji9_ : (IntKind.i64.wrap (1 * 2 ^ min (ji7).toNat 64)) = ji9 := hji9
          have hji9z : (ji7) ≤ 64 → (IntKind.i64.wrap (1 * 2 ^ (ji7).toNat)) = ji9 := shl_small hji9
          have hji9u : (IntKind.i64.wrap (2 ^ min (ji7).toNat 64)) = ji9 := by have h_ := hji9_; rw [Int.one_mul] at h_; exact h_
          have hji9v : (ji7) ≤ 64 → (IntKind.i64.wrap (2 ^ (ji7).toNat)) = ji9 := fun hle_ => by have h_ := hji9z hle_; rw [Int.one_mul] at h_; exact h_
          have hji9y : (wrap64 (1 * 2 ^ min (ji7).toNat 64)) = ji9 := (i64_w _).symm.trans hji9_
          have hji9x : (ji7) ≤ 64 → (wrap64 (1 * 2 ^ (ji7).toNat)) = ji9 := fun h_ => (i64_w _).symm.trans (hji9z h_)
          by_cases c10 : 0 ≤ a1
          · rw [if_pos c10] at H
            have c10b0 := eq_true c10
            have c10b1 : decide (0 ≤ a1) = true := decide_eq_true c10
            clear c10
            obtain ⟨ji11, hji11⟩ : ∃ j_ : Int, (shr .i64 (wrap64 (a0 + (ji9))) a1) = j_ := ⟨_, rfl⟩
            replace H : (some ji11) = some r := by first | (rw [hji11] at H; exact H) | (simp only [hji11] at H ⊢; exact H)
            have hji11_ : ((wrap64 (a0 + (ji9))) / 2 ^ min a1.toNat 64) = ji11 := hji11
            have hji11z : a1 ≤ 64 → ((wrap64 (a0 + (ji9))) / 2 ^ a1.toNat) = ji11 := shr_small hji11
            obtain rfl := Option.some.inj H
            go_wp2
            go_ret
            exact ⟨by first | rfl | (simp; done) | (simp only [← hji7, ← hji9, ← hji11] <;> (first | rfl | simp)) | (simp [*]; done), by repeat (first | exact Drawn0.refl _ | apply Drawn0.step)⟩
          · rw [if_neg c10] at H
            exact absurd H (by simp)
        · rw [if_neg c8] at H
          exact absurd H (by simp)
      · replace c6 := Bool.eq_false_iff.mpr c6
        subst c6
        have H1 : (if a2 = 2 then (if a0 < 0 then (if 0 ≤ a1 then (some (wrap64 (-(shr .i64 (wrap64 (-a0)) a1)))) else (none)) else (if 0 ≤ a1 then (some (shr .i64 a0 a1)) else (none))) else (if 0 ≤ a1 then (some (shr .i64 a0 a1)) else (none))) = some r := by rw [if_neg (show ¬ (false = true) by decide)] at H; exact H
        clear H
        have H := H1
        clear H1
        by_cases c12 : a2 = 2
        · rw [if_pos c12] at H
          have c12b0 : (a2 == 2) = true := beq_iff_eq.mpr c12
          have c12b1 : (a2 != 2) = false := bne_eq_false_iff_eq.mpr c12
          clear c12
          by_cases c13 : a0 < 0
          · rw [if_pos c13] at H
            have c13b0 : decide (a0 < 0) = true := decide_eq_true c13
            clear c13
            by_cases c14 : 0 ≤ a1
            · rw [if_pos c14] at H
              have c14b0 := eq_true c14
              have c14b1 : decide (0 ≤ a1) = true := decide_eq_true c14
              clear c14
              obtain ⟨ji15, hji15⟩ : ∃ j_ : Int, (shr .i64 (wrap64 (-a0)) a1) = j_ := ⟨_, rfl⟩
              replace H : (some (wrap64 (-(ji15)))) = some r := by first | (rw [hji15] at H; exact H) | (simp only [hji15] at H ⊢; exact H)
              have hji15_ : ((wrap64 (-a0)) / 2 ^ min a1.toNat 64) = ji15 := hji15
              have hji15z : a1 ≤ 64 → ((wrap64 (-a0)) / 2 ^ a1.toNat) = ji15 := shr_small hji15
              obtain rfl := Option.some.inj H
              go_wp2
              go_ret
              exact ⟨by first | rfl | (simp; done) | (simp only [← hji15] <;> (first | rfl | simp)) | (simp [*]; done), by repeat (first | exact Drawn0.refl _ | apply Drawn0.step)⟩
            · rw [if_neg c14] at H
              exact absurd H (by simp)
          · rw [if_neg c13] at H
            have c13b0 : decide (a0 < 0) = false := decide_eq_false c13
            clear c13
            by_cases c16 : 0 ≤ a1
            · rw [if_pos c16] at H
              have c16b0 := eq_true c16
              have c16b1 : decide (0 ≤ a1) = true := decide_eq_true c16
              clear c16
              obtain ⟨ji17, hji17⟩ : ∃ j_ : Int, (shr .i64 a0 a1) = j_ := ⟨_, rfl⟩
              replace H : (some ji17) = some r := by first | (rw [hji17] at H; exact H) | (simp only [hji17] at H ⊢; exact H)
              have hji17_ : (a0 / 2 ^ min a1.toNat 64) = ji17 := hji17
              have hji17z : a1 ≤ 64 → (a0 / 2 ^ a1.toNat) = ji17 := shr_small hji17
              obtain rfl := Option.some.inj H
              go_wp2
              go_ret
              exact ⟨by first | rfl | (simp; done) | (simp only [← hji17] <;> (first | rfl | simp)) | (simp [*]; done), by repeat (first | exact Drawn0.refl _ | apply Drawn0.step)⟩
            · rw [if_neg c16] at H
              exact absurd H (by simp)
        · rw [if_neg c12] at H
          have c12b0 : (a2 == 2) = false := beq_eq_false_iff_ne.mpr c12
          have c12b1 : (a2 != 2) = true := bne_iff_ne.mpr c12
          by_cases c18 : 0 ≤ a1
          · rw [if_pos c18] at H
            have c18b0 := eq_true c18
            have c18b1 : decide (0 ≤ a1) = true := decide_eq_true c18
            clear c18
            obtain ⟨ji19, hji19⟩ : ∃ j_ : Int, (shr .i64 a0 a1) = j_ := ⟨_, rfl⟩
            replace H : (some ji19) = some r := by first | (rw [hji19] at H; exact H) | (simp only [hji19] at H ⊢; exact H)
            have hji19_ : (a0 / 2 ^ min a1.toNat 64) = ji19 := hji19
            have hji19z : a1 ≤ 64 → (a0 / 2 ^ a1.toNat) = ji19 := shr_small hji19
            obtain rfl := Option.some.inj H
            go_wp2
            go_ret
            exact ⟨by first | rfl | (simp; done) | (simp only [← hji19] <;> (first | rfl | simp)) | (simp [*]; done), by repeat (first | exact Drawn0.refl _ | apply Drawn0.step)⟩
          · rw [if_neg c18] at H
            exact absurd H (by simp)

/-! ### impl_told: function 88 -/
def impl_told.f (k : Nat) (l0 : List Int) : Option (List Int × Bool) := (impl_isSignal.f k l0).bind fun t176 => (if t176 = true then (some (l0, true)) else (some (([] : List Int), false)))
theorem impl_told.mono : ∀ a0 k, LeO (impl_told.f k a0) (impl_told.f (k + 1) a0) := by
  intro a0 k
  unfold impl_told.f
  repeat' first
      | (with_reducible exact impl_isSignal.mono _ _)
      | (with_reducible exact LeO.refl _)
      | (with_reducible exact LeO.none _)
      | (with_reducible refine LeO.ite ?_ ?_)
      | (with_reducible refine LeO.bind ?_ (fun _ => ?_))
      | exact impl_isSignal.mono _ _
      | exact LeO.none _
      | refine LeO.ite ?_ ?_
      | refine LeO.bind ?_ (fun _ => ?_)
set_option maxHeartbeats 8000000 in
set_option maxRecDepth 100000 in
theorem impl_told.calls (k : Nat) (P0_ : Nat → Prop) (u9000_ : Value) (l0 : List Int) (r1 : List Int) (r2 : Bool) (w0 w : World) (hB : Below w0.heap.size w0 w) (ho0 : Kd.R (Kd.int .i64) 3 w w0.heap.size P0_ u9000_ l0) (h : impl_told.f k l0 = some (r1, r2)) :
    Calls Try.prog 88 #[u9000_] w fun e w' => ∃ v0_ : Value, e = .returned (.tuple #[v0_, .bool r2]) ∧ Kd.R (Kd.int .i64) 3 w' w0.heap.size (fun k_ => (P0_ k_ ∨ w.heap.size ≤ k_)) v0_ r1 ∧ Below w0.heap.size w0 w' ∧ Kept w w' (fun k_ => P0_ k_) := by
  have HO0 := Aside0.mk (show Kd.R (Kd.int .i64) 3 w w0.heap.size (fun k_ => (P0_ k_ ∨ w.heap.size ≤ k_)) u9000_ l0 from Kd.R_mono ho0 (fun k_ hk => (.inl hk)))
  have HK := Aside0.mk (Kept.refl w (fun k_ => P0_ k_))
  have HW0 := Aside0.mk hB.size
  have HB := Aside0.mk hB
  clear hB
  have H : ((impl_isSignal.f k l0).bind fun t176 => (if t176 = true then (some (l0, true)) else (some (([] : List Int), false)))) = some (r1, r2) := h
  clear h
  replace H := Option.bind_eq_some_iff.mp H
  obtain ⟨t176, A20, H⟩ := H
  replace H : (if t176 = true then (some (l0, true)) else (some (([] : List Int), false))) = some (r1, r2) := H
  have A2 := Aside0.mk A20
  clear A20
  by_cases c3 : t176 = true
  · subst c3
    have H1 : (some (l0, true)) = some (r1, r2) := by rw [if_pos rfl] at H; exact H
    clear H
    have H := H1
    clear H1
    simp only [Option.some.injEq, Prod.mk.injEq] at H
    obtain ⟨rfl, rfl⟩ := H
    obtain ⟨Ao4, co4, eo4⟩ := Kd.R_slice HO0.out
    subst eo4
    go_enter Try.func88, Try.ntmps88
    go_wp2_with (first | ((with_reducible refine gate_callee (f := 48) rfl ?_); refine goesL_ (some 5) rfl rfl Try.func48 (by kernel_rfl) rfl #[.slice Ao4 l0.length co4] rfl (by (try simp only [List.map_toArray, List.map_cons, List.map_nil]); first | done | rfl | (simp only [List.length_drop, List.length_take]; rfl)) ?_; (with_reducible refine (impl_isSignal.calls k _ _ l0 true _ ?side1 ?side2 A2.out).mono ?_); (case side1 => repeat (first | exact (Kd.R_reads' HO0.out).2.2 | (with_reducible refine Kd.C_alloc ?_ _) | (with_reducible refine Kd.C_drewN ?_ _) | (with_reducible refine Kd.C_drew ?_))); (case side2 => exact (Kd.R_reads' HO0.out).2.1); rintro e w' ⟨rfl, ⟨nd, rfl⟩⟩; refine ⟨_, rfl, ?_⟩))
    go_ret2
    exact ⟨_, by first | rfl | (simp [errW_none, errW_some] <;> rfl) | (simp [*, errW_none, errW_some] <;> rfl), by (with_reducible repeat (first | apply Kd.R_alloc | apply Kd.R_drewN | apply Kd.R_drew)); exact HO0.out, by repeat (first | (with_reducible first | exact HB.out | apply below_alloc | apply pw_below_drewN | apply below_drew1) | exact HB.out), by repeat (first | (with_reducible first | exact HK.out | apply Kept.alloc | apply Kept.drewN | apply Kept.drew) | exact HK.out)⟩
  · replace c3 := Bool.eq_false_iff.mpr c3
    subst c3
    have H1 : (some (([] : List Int), false)) = some (r1, r2) := by rw [if_neg (show ¬ (false = true) by decide)] at H; exact H
    clear H
    have H := H1
    clear H1
    simp only [Option.some.injEq, Prod.mk.injEq] at H
    obtain ⟨rfl, rfl⟩ := H
    obtain ⟨Ao5, co5, eo5⟩ := Kd.R_slice HO0.out
    subst eo5
    go_enter Try.func88, Try.ntmps88
    go_wp2_with (first | ((with_reducible refine gate_callee (f := 48) rfl ?_); refine goesL_ (some 5) rfl rfl Try.func48 (by kernel_rfl) rfl #[.slice Ao5 l0.length co5] rfl (by (try simp only [List.map_toArray, List.map_cons, List.map_nil]); first | done | rfl | (simp only [List.length_drop, List.length_take]; rfl)) ?_; (with_reducible refine (impl_isSignal.calls k _ _ l0 false _ ?side1 ?side2 A2.out).mono ?_); (case side1 => repeat (first | exact (Kd.R_reads' HO0.out).2.2 | (with_reducible refine Kd.C_alloc ?_ _) | (with_reducible refine Kd.C_drewN ?_ _) | (with_reducible refine Kd.C_drew ?_))); (case side2 => exact (Kd.R_reads' HO0.out).2.1); rintro e w' ⟨rfl, ⟨nd, rfl⟩⟩; refine ⟨_, rfl, ?_⟩))
    go_ret2
    exact ⟨_, by first | rfl | (simp [errW_none, errW_some] <;> rfl) | (simp [*, errW_none, errW_some] <;> rfl), by first | exact Kd.R_nil _ _ _ _ _ | exact Kd.N_nil _ _ _ _ _ | exact Kd.V_nil _ _ _ _ _ | exact Kd.Q_nil _ _ _ _ _ | exact Kd.S_nil _ _ _ _ _, by repeat (first | (with_reducible first | exact HB.out | apply below_alloc | apply pw_below_drewN | apply below_drew1) | exact HB.out), by repeat (first | (with_reducible first | exact HK.out | apply Kept.alloc | apply Kept.drewN | apply Kept.drew) | exact HK.out)⟩

end Go.Proofs.Ytepfkahbfnahmaa.QFnExactFilterInWord
