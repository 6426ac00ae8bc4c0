-- Written by wprint.py (this session's program over the kit's print) out of the translation.
import Derived.Test.YtepfkahbfnahmaaQFnExactExactFirstx0
import Derived.Test.YtepfkahbfnahmaaQFnExactExactFirstx2
namespace Go.Proofs.Ytepfkahbfnahmaa.QFnExactExactFirst
open Go.RowKit Go.Proofs.YtepfkahbfnahmaaW.PrintWords Go.Proofs.YtepfkahbfnahmaaW.PrintLast Go.Proofs.YtepfkahbfnahmaaW.PrintMore
attribute [local go_sem] max2_int min2_int max_two min_two max_three min_three max_four min_four   -- for this text's walks alone
set_option linter.unusedVariables false
set_option linter.unusedSimpArgs false

/-! ### impl_isSignal: function 48 -/
def impl_isSignal.f (k : Nat) (l0 : List Int) : Option (Bool) := if (l0.length : Int) ≤ 64 then ((slices_ContainsFunc_int_int_impl_isSignal_1.f k l0).bind fun t172 => (some (!t172))) else (some false)
theorem impl_isSignal.mono : ∀ a0 k, LeO (impl_isSignal.f k a0) (impl_isSignal.f (k + 1) a0) := by
  intro a0 k
  unfold impl_isSignal.f
  repeat' first
      | (with_reducible exact slices_ContainsFunc_int_int_impl_isSignal_1.mono _ _)
      | (with_reducible exact LeO.refl _)
      | (with_reducible exact LeO.none _)
      | (with_reducible refine LeO.ite ?_ ?_)
      | (with_reducible refine LeO.bind ?_ (fun _ => ?_))
      | exact slices_ContainsFunc_int_int_impl_isSignal_1.mono _ _
      | exact LeO.none _
      | refine LeO.ite ?_ ?_
      | refine LeO.bind ?_ (fun _ => ?_)
set_option maxHeartbeats 8000000 in
set_option maxRecDepth 100000 in
theorem impl_isSignal.calls (k : Nat) (A0 : Option Addr) (c0 : Nat) (l0 : List Int) (r : Bool) (w : World) (hr0 : Kd.C (Kd.int .i64) w A0 l0.length l0) (hc0 : l0.length ≤ c0) (h : impl_isSignal.f k l0 = some r) :
    Calls Try.prog 48 #[.slice A0 l0.length c0] w fun e w' => e = .returned (.bool r) ∧ Drawn0 w w' := by
  have HR0 := Aside0.mk hr0
  have HC0 := Aside0.mk hc0
  clear hr0 hc0
  have H : (if (l0.length : Int) ≤ 64 then ((slices_ContainsFunc_int_int_impl_isSignal_1.f k l0).bind fun t172 => (some (!t172))) else (some false)) = some r := h
  clear h
  by_cases c2 : (l0.length : Int) ≤ 64
  · rw [if_pos c2] at H
    have c2b0 : decide ((l0.length : Int) ≤ 64) = true := decide_eq_true c2
    have c2b1 : decide (l0.length ≤ 64) = true := decide_eq_true (by omega)
    clear c2
    replace H := Option.bind_eq_some_iff.mp H
    obtain ⟨t172, A30, H⟩ := H
    replace H : (some (!t172)) = some r := H
    have A3 := Aside0.mk A30
    clear A30
    obtain rfl := Option.some.inj H
    go_enter Try.func48, Try.ntmps48
    go_wp2_with (first | (go_at_call 95; (with_reducible refine (slices_ContainsFunc_int_int_impl_isSignal_1.calls k _ _ l0  t172 _ ?side1 ?side2 A3.out).mono ?_); (case side1 => repeat (first | exact HR0.out | (with_reducible refine Kd.C_alloc ?_ _) | (with_reducible refine Kd.C_drewN ?_ _) | (with_reducible refine Kd.C_drew ?_))); (case side2 => exact HC0.out); rintro e w' ⟨rfl, ⟨nd, rfl⟩⟩))
    go_ret
    exact ⟨by first | rfl | (simp; done) | (simp [*]; done), by repeat (first | exact Drawn0.refl _ | apply Drawn0.step)⟩
  · rw [if_neg c2] at H
    have c2b0 : decide ((l0.length : Int) ≤ 64) = false := decide_eq_false c2
    have c2b1 : decide (l0.length ≤ 64) = false := decide_eq_false (by omega)
    clear c2
    obtain rfl := Option.some.inj H
    go_enter Try.func48, Try.ntmps48
    go_wp2
    go_ret
    exact ⟨by first | rfl | (simp; done) | (simp [*]; done), by repeat (first | exact Drawn0.refl _ | apply Drawn0.step)⟩

/-! ### impl_isNumber: function 97 -/
def impl_isNumber.f (a0 : Int) : Option (Bool) := (impl_in.f a0 (-1000000000000) 1000000000000).bind fun t173 => (some t173)
set_option maxHeartbeats 8000000 in
set_option maxRecDepth 100000 in
theorem impl_isNumber.calls (a0 : Int) (r : Bool) (w : World) (h : impl_isNumber.f a0 = some r) :
    Calls Try.prog 97 #[.int .i64 a0] w fun e w' => e = .returned (.bool r) ∧ Drawn0 w w' := by
  have H : ((impl_in.f a0 (-1000000000000) 1000000000000).bind fun t173 => (some t173)) = some r := h
  clear h
  replace H := Option.bind_eq_some_iff.mp H
  obtain ⟨t173, A20, H⟩ := H
  replace H : (some t173) = some r := H
  have A2 := Aside0.mk A20
  clear A20
  obtain rfl := Option.some.inj H
  go_enter Try.func97, Try.ntmps97
  go_wp2_with (first | ((with_reducible refine gate_callee (f := 92) rfl ?_); refine goesL_ (some 4) rfl rfl Try.func92 (by kernel_rfl) rfl #[.int .i64 a0, .int .i64 (-1000000000000), .int .i64 1000000000000] rfl (by (try simp only [List.map_toArray, List.map_cons, List.map_nil]); first | done | rfl | (simp only [List.length_drop, List.length_take]; rfl)) ?_; (with_reducible refine (impl_in.calls a0 (-1000000000000) 1000000000000 t173 _ A2.out).mono ?_); rintro e w' ⟨rfl, ⟨nd, rfl⟩⟩; refine ⟨_, rfl, ?_⟩))
  go_ret
  exact ⟨by first | rfl | (simp; done) | (simp [*]; done), by repeat (first | exact Drawn0.refl _ | apply Drawn0.step)⟩

-- NOT PRINTED: function 49 (impl_exact)

/-! ### impl_ExactFirst: function 18 -/
def impl_ExactFirst.next (a s m b : Int) (p : Bool) (i : Int) (y : Int) : Int := wrap64 (a * y)
def impl_ExactFirst.l0 : Nat → Int → Int → Int → Int → Bool → List Int → List Int → Int → Int → Int → Option (List Int × Bool)
  | 0, _, _, _, _, _, _, _, _, _, _ => none
  | k + 1, a, s, m, b, p, S, out, sc, y, i => if i < (S.length : Int) then (if 0 ≤ i then (if 0 ≤ s then ((impl_isNumber.f (shl .i64 sc s)).bind fun t1 => if t1 = true then ((impl_isNumber.f (wrap64 (impl_ExactFirst.next a s m b p i y + wrap64 (rd S i * shl .i64 sc s)))).bind fun t2 => if t2 = true then (if out.length < 17592186044416 then (impl_ExactFirst.l0 k a s m b p S (out ++ [wrap64 (impl_ExactFirst.next a s m b p i y + wrap64 (rd S i * shl .i64 sc s))]) (shl .i64 sc s) (wrap64 (impl_ExactFirst.next a s m b p i y + wrap64 (rd S i * shl .i64 sc s))) (wrap64 (i + 1))) else (none)) else (some (([] : List Int), false))) else (some (([] : List Int), false))) else (none)) else (none)) else (some (out, true))
theorem impl_ExactFirst.mono_l : ∀ k, (∀ a s m b p S out sc y i, LeO (impl_ExactFirst.l0 k a s m b p S out sc y i) (impl_ExactFirst.l0 (k + 1) a s m b p S out sc y i))
  | 0 => fun _ _ _ _ _ _ _ _ _ _ r h => by simp [impl_ExactFirst.l0] at h
  | k + 1 => by
    have ih0 := impl_ExactFirst.mono_l k
    · intro a s m b p S out sc y i
      unfold impl_ExactFirst.l0
      repeat' first
      | (with_reducible exact ih0 _ _ _ _ _ _ _ _ _ _)
      | (with_reducible exact LeO.refl _)
      | (with_reducible exact LeO.none _)
      | (with_reducible refine LeO.ite ?_ ?_)
      | (with_reducible refine LeO.bind ?_ (fun _ => ?_))
      | exact ih0 _ _ _ _ _ _ _ _ _ _
      | exact LeO.none _
      | refine LeO.ite ?_ ?_
      | refine LeO.bind ?_ (fun _ => ?_)
/-- What the captured variables hold, the row that grows beside them. -/
def impl_ExactFirst.St (w0 W : World) (Bf By : Nat) (a s m b : Int) (p : Bool) (y : Int) (v : Value) (out : List Int) : Prop :=
  W.heap[Bf]? = some (.cells #[.int .i64 a, .int .i64 s, .int .i64 m, .int .i64 b, .bool p] 30 (0, 0)) ∧ W.heap[By]? = some (.cells #[.int .i64 y] 3 (0, 0)) ∧
    Kd.R (Kd.int .i64) 3 W w0.heap.size (fun k_ => k_ ≠ By ∧ k_ ≠ Bf) v out ∧ Below w0.heap.size w0 W
theorem impl_ExactFirst.St.mk {w0 W : World} {Bf By : Nat} {a s m b : Int} {p : Bool} {y : Int} {v : Value} {out : List Int} (h : W.heap[Bf]? = some (.cells #[.int .i64 a, .int .i64 s, .int .i64 m, .int .i64 b, .bool p] 30 (0, 0)) ∧ W.heap[By]? = some (.cells #[.int .i64 y] 3 (0, 0)) ∧
    Kd.R (Kd.int .i64) 3 W w0.heap.size (fun k_ => k_ ≠ By ∧ k_ ≠ Bf) v out ∧ Below w0.heap.size w0 W) : impl_ExactFirst.St w0 W Bf By a s m b p y v out := h
theorem impl_ExactFirst.St.below {w0 W W1 : World} {Bf By : Nat} {a s m b : Int} {p : Bool} {y : Int} {v : Value} {out : List Int} (h : impl_ExactFirst.St w0 W Bf By a s m b p y v out) (hb : Below W.heap.size W W1) : impl_ExactFirst.St w0 W1 Bf By a s m b p y v out :=
  ⟨blk_below h.1 hb, blk_below h.2.1 hb, Kd.R_below h.2.2.1 hb, below_step h.2.2.2 hb⟩
set_option maxHeartbeats 8000000 in
set_option maxRecDepth 100000 in
theorem impl_ExactFirst.nextC (w0 W : World) (Bf By : Nat) (a s m b : Int) (p : Bool) (i y : Int) (v : Value) (out : List Int) (hs : 0 ≤ s) (h : impl_ExactFirst.St w0 W Bf By a s m b p y v out) :
    Calls Try.prog 50 #[.int .i64 i, .pointer (some ⟨Bf, 0, none⟩), .pointer (some ⟨By, 0, none⟩)] W fun e W1 => e = .returned (.int .i64 (impl_ExactFirst.next a s m b p i y)) ∧ impl_ExactFirst.St w0 W1 Bf By a s m b p y v out := by
  have hu30 := Try.underlying30
  have HS := Aside0.mk h
  have f0 : W.cell? ⟨Bf, 0, none⟩ = some (.int .i64 a) := (blk_cell h.1 0).trans rfl
  have f1 : W.cell? ⟨Bf, 1, none⟩ = some (.int .i64 s) := (blk_cell h.1 1).trans rfl
  have f2 : W.cell? ⟨Bf, 2, none⟩ = some (.int .i64 m) := (blk_cell h.1 2).trans rfl
  have f3 : W.cell? ⟨Bf, 3, none⟩ = some (.int .i64 b) := (blk_cell h.1 3).trans rfl
  have f4 : W.cell? ⟨Bf, 4, none⟩ = some (.bool p) := (blk_cell h.1 4).trans rfl
  have xy : W.cell? ⟨By, 0, none⟩ = some (.int .i64 y) := (blk_cell h.2.1 0).trans rfl
  clear h
  go_enter Try.func50, Try.ntmps50
  go_wp2
  go_ret
  exact ⟨rfl, impl_ExactFirst.St.below HS.out (by repeat (first | (with_reducible exact Below.refl _ _) | apply below_alloc | apply pw_below_drewN | apply below_drew1 | exact Below.refl _ _))⟩
set_option maxHeartbeats 8000000 in
set_option maxRecDepth 100000 in
theorem impl_ExactFirst.takeC (w0 W : World) (Bf By : Nat) (a s m b : Int) (p : Bool) (now y : Int) (v : Value) (out : List Int) (hBy : w0.heap.size ≤ By) (nBfBy : Bf ≠ By) (h : impl_ExactFirst.St w0 W Bf By a s m b p y v out) :
    Calls Try.prog 51 #[.int .i64 now, .pointer (some ⟨By, 0, none⟩)] W fun e W1 => e = .returned (.tuple #[]) ∧ impl_ExactFirst.St w0 W1 Bf By a s m b p now v out := by
  have HS := Aside0.mk h
  have GBy := Aside0.mk hBy
  have NBfBy := Aside0.mk nBfBy
  clear hBy nBfBy
  have xy : W.cell? ⟨By, 0, none⟩ = some (.int .i64 y) := (blk_cell h.2.1 0).trans rfl
  have zy := blk_frozen h.2.1 0
  clear h
  go_enter Try.func51, Try.ntmps51
  go_wp2
  go_end0
  exact ⟨rfl, blk_far HS.out.1 NBfBy.out _, blk_put HS.out.2.1 0 _ rfl, Kd.R_far HS.out.2.2.1 (p := ⟨By, 0, none⟩) (fun k_ hk_ => hk_.1) _, below_set HS.out.2.2.2 GBy.out⟩
set_option maxHeartbeats 8000000 in
set_option maxRecDepth 100000 in
theorem impl_ExactFirst.exact (k : Nat) (w0 W : World) (Bf By : Nat) (a s m b : Int) (p : Bool) (y : Int) (A : Option Addr) (c : Nat) (S r1 : List Int) (r2 : Bool) (h : impl_ExactFirst.St w0 W Bf By a s m b p y (.slice none 0 0) []) (hBy : w0.heap.size ≤ By) (nBfBy : Bf ≠ By)
    (hr : Kd.C (Kd.int .i64) w0 A S.length S) (hc : S.length ≤ c) (hl : impl_ExactFirst.l0 k a s m b p S [] 1 y 0 = some (r1, r2)) :
    Calls Try.prog 49 #[.slice A S.length c, .int .i64 s, .func (.func 50) #[] #[.pointer (some ⟨Bf, 0, none⟩), .pointer (some ⟨By, 0, none⟩)], .func (.func 51) #[] #[.pointer (some ⟨By, 0, none⟩)]] W fun e W1 => ∃ v0_ : Value, e = .returned (.tuple #[v0_, .bool r2]) ∧ Kd.R (Kd.int .i64) 3 W1 w0.heap.size (fun _ => True) v0_ r1 ∧ Below w0.heap.size w0 W1 := by
  have hu33 := Try.underlying33
  have AL := Aside0.mk hl
  have HS := Aside0.mk h
  have HR := Aside0.mk hr
  have HC := Aside0.mk hc
  clear h hl hr hc
  have GBy := Aside0.mk hBy
  have NBfBy := Aside0.mk nBfBy
  clear hBy nBfBy
  go_enter Try.func49, Try.ntmps49
  go_wp2_with (first | ((with_reducible refine gate_dst (N := 15) rfl ?_); refine Kd.R_lit (Kd.int .i64) (w0 := w0) w0.heap.size 3 ?hg (N := 15) ?hd (xs := ([] : List Int)) (inner := []) (ok := fun k_ => k_ ≠ By ∧ k_ ≠ Bf) (okp := fun k_ => k_ ≠ By ∧ k_ ≠ Bf) ?hr ?hp (fun _ hk => hk) ?hf HS.out.2.2.2 HS.out.2.2.2.size (by simp) ?_; (case hd => rfl); (case hg => rfl); (case hr => first | (go_simp; done) | (go_simp; rfl)); (case hp => exact (Reps.none _ _)); (case hf => exact ⟨Nat.ne_of_gt (blk_lt HS.out.2.1), Nat.ne_of_gt (blk_lt HS.out.1)⟩); intro vl ul hol hb2 hgr hnew_; clear hnew_; have n0_ := Aside0.mk (impl_ExactFirst.St.mk ⟨blk_grown HS.out.1 hgr (by simp), blk_grown HS.out.2.1 hgr (by simp), hol, hb2⟩); clear HS hol hb2 hgr; have HS := n0_; clear n0_))
  go_loopg [10, 11, 18] k (fun kq v10 v11 v18 w' => ∃ (y1 : Int) (out1 : List Int) (sc i : Int), v11 = .int .i64 sc ∧ v18 = .int .i64 i ∧ Aside0 (impl_ExactFirst.l0 kq a s m b p S out1 sc y1 i = some (r1, r2)) ∧ Aside0 (kq ≤ k) ∧ Aside0 (impl_ExactFirst.St w0 w' Bf By a s m b p y1 v10 out1))
  case atStart => exact ⟨y, [], 1, 0, rfl, rfl, AL, ⟨Nat.le_refl _⟩, HS⟩
  case round =>
    clear HS AL
    obtain ⟨y1, out1, sc, i, rfl, rfl, HA, HK, HS⟩ := hrel
    cases gk with
    | zero => exact absurd HA.out (by simp [impl_ExactFirst.l0])
    | succ k1 =>
      have H := HA.out
      clear HA
      simp only [impl_ExactFirst.l0] at H
      by_cases c1 : i < (S.length : Int)
      · rw [if_pos c1] at H
        have c1b : decide (i < (S.length : Int)) = true := decide_eq_true c1
        by_cases c2 : 0 ≤ i
        · rw [if_pos c2] at H
          have c2b : decide (0 ≤ i) = true := decide_eq_true c2
          by_cases c3 : 0 ≤ s
          · rw [if_pos c3] at H
            have c3b := eq_true c3
            have c3c : decide (0 ≤ s) = true := decide_eq_true c3
            have C3 := Aside0.mk c3
            obtain ⟨adS, eS, hxS⟩ := Kd.at_int HR.out i c2 c1
            cases eS
            replace hxS := (HS.out.2.2.2.cell (World.block_lt_of_cell? w0 _ hxS)).trans hxS
            have p0_ := eq_true c2
            have q0_ := eq_true c1
            clear c1 c2 c3
            obtain ⟨ji, hji⟩ : ∃ j_ : Int, (shl .i64 sc s) = j_ := ⟨_, rfl⟩
            rw [hji] at H
            have hji_ : (IntKind.i64.wrap (sc * 2 ^ min s.toNat 64)) = ji := hji
            have hjiz : s ≤ 64 → (IntKind.i64.wrap (sc * 2 ^ s.toNat)) = ji := shl_small hji
            have hjiy : (wrap64 (sc * 2 ^ min s.toNat 64)) = ji := (i64_w _).symm.trans hji_
            have hjix : s ≤ 64 → (wrap64 (sc * 2 ^ s.toNat)) = ji := fun h_ => (i64_w _).symm.trans (hjiz h_)
            replace H := Option.bind_eq_some_iff.mp H
            obtain ⟨t1, A1_, H⟩ := H
            have A1 := Aside0.mk A1_
            clear A1_
            cases t1 with
            | false =>
              replace H := (if_neg (by decide)).symm.trans H
              obtain ⟨rfl, rfl⟩ : ([] : List Int) = r1 ∧ false = r2 := by simpa using H
              clear H
              go_wp2_with (first | (go_at_call 50; (with_reducible refine (impl_ExactFirst.nextC w0 _ Bf By a s m b p i y1 _ out1 C3.out (impl_ExactFirst.St.below HS.out (by repeat (first | (with_reducible exact Below.refl _ _) | apply below_alloc | apply pw_below_drewN | apply below_drew1 | exact Below.refl _ _)))).mono ?_); rintro e u1 ⟨rfl, hs2⟩; have n0_ := Aside0.mk hs2; clear HS hs2 hxS; have HS := n0_; clear n0_) | (go_at_call 97; (with_reducible refine (impl_isNumber.calls ji _ _ A1.out).mono ?_); rintro e u2 ⟨rfl, hd_⟩; have n0_ := Aside0.mk (HS.out.below hd_.below); clear HS hd_; have HS := n0_; clear n0_))
              go_ret2
              exact ⟨_, rfl, Kd.R_nil _ _ _ _ _, HS.out.2.2.2⟩
            | true =>
              replace H := (if_pos rfl).symm.trans H
              replace H := Option.bind_eq_some_iff.mp H
              obtain ⟨t2, A2_, H⟩ := H
              have A2 := Aside0.mk A2_
              clear A2_
              cases t2 with
              | false =>
                replace H := (if_neg (by decide)).symm.trans H
                obtain ⟨rfl, rfl⟩ : ([] : List Int) = r1 ∧ false = r2 := by simpa using H
                clear H
                go_wp2_with (first | (go_at_call 50; (with_reducible refine (impl_ExactFirst.nextC w0 _ Bf By a s m b p i y1 _ out1 C3.out (impl_ExactFirst.St.below HS.out (by repeat (first | (with_reducible exact Below.refl _ _) | apply below_alloc | apply pw_below_drewN | apply below_drew1 | exact Below.refl _ _)))).mono ?_); rintro e u1 ⟨rfl, hs2⟩; have n0_ := Aside0.mk hs2; clear HS hs2 hxS; have HS := n0_; clear n0_) | (go_at_call 97; (with_reducible refine (impl_isNumber.calls ji _ _ A1.out).mono ?_); rintro e u2 ⟨rfl, hd_⟩; have n0_ := Aside0.mk (HS.out.below hd_.below); clear HS hd_; have HS := n0_; clear n0_) | (go_at_call 97; (with_reducible refine (impl_isNumber.calls (wrap64 (impl_ExactFirst.next a s m b p i y1 + wrap64 (rd S i * ji))) _ _ A2.out).mono ?_); rintro e u3 ⟨rfl, hd_⟩; have n0_ := Aside0.mk (HS.out.below hd_.below); clear HS hd_; have HS := n0_; clear n0_))
                go_ret2
                exact ⟨_, rfl, Kd.R_nil _ _ _ _ _, HS.out.2.2.2⟩
              | true =>
                replace H := (if_pos rfl).symm.trans H
                by_cases c4 : out1.length < 17592186044416
                · rw [if_pos c4] at H
                  have H' := Aside0.mk H
                  have C4 := Aside0.mk c4
                  clear H c4
                  go_wp2_with (first | (go_at_call 50; (with_reducible refine (impl_ExactFirst.nextC w0 _ Bf By a s m b p i y1 _ out1 C3.out (impl_ExactFirst.St.below HS.out (by repeat (first | (with_reducible exact Below.refl _ _) | apply below_alloc | apply pw_below_drewN | apply below_drew1 | exact Below.refl _ _)))).mono ?_); rintro e u1 ⟨rfl, hs2⟩; have n0_ := Aside0.mk hs2; clear HS hs2 hxS; have HS := n0_; clear n0_) | (go_at_call 97; (with_reducible refine (impl_isNumber.calls ji _ _ A1.out).mono ?_); rintro e u2 ⟨rfl, hd_⟩; have n0_ := Aside0.mk (HS.out.below hd_.below); clear HS hd_; have HS := n0_; clear n0_) | (go_at_call 97; (with_reducible refine (impl_isNumber.calls (wrap64 (impl_ExactFirst.next a s m b p i y1 + wrap64 (rd S i * ji))) _ _ A2.out).mono ?_); rintro e u3 ⟨rfl, hd_⟩; have n0_ := Aside0.mk (HS.out.below hd_.below); clear HS hd_; have HS := n0_; clear n0_) | ((with_reducible refine gate_builtin (b := .append) (xs := #[.tmp 41, .tmp 43]) rfl ?_); at_builtin; refine Kd.R_append (Kd.int .i64) (w0 := w0) w0.heap.size rfl (.tmp 41) (.tmp 43) 33 3 (.int .i64 0) 8 rfl Try.underlying33 info3 rfl (by decide) (by omega) _ out1 (wrap64 (impl_ExactFirst.next a s m b p i y1 + wrap64 (rd S i * ji))) [.int .i64 (wrap64 (impl_ExactFirst.next a s m b p i y1 + wrap64 (rd S i * ji)))] (fun k_ => k_ ≠ By ∧ k_ ≠ Bf) (fun _ => False) rfl rfl ?aP (fun _ hk => hk.elim) ?aF ?aO ?aB ?aS ?aL ?_; (case aP => exact rfl); (case aB => exact HS.out.2.2.2); (case aF => exact (fun k_ hk_ => ⟨fun e_ => Nat.not_le.2 (blk_lt HS.out.2.1) (e_ ▸ hk_), fun e_ => Nat.not_le.2 (blk_lt HS.out.1) (e_ ▸ hk_)⟩)); (case aO => exact HS.out.2.2.1); (case aS => exact HS.out.2.2.2.size); (case aL => have := C4.out; omega); intro v116 w7 ho hb hg hat; have n0_ := Aside0.mk (impl_ExactFirst.St.mk ⟨blk_grown HS.out.1 hg (fun e_ => (HS.out.2.2.1.1 Bf e_.symm).2 rfl), blk_grown HS.out.2.1 hg (fun e_ => (HS.out.2.2.1.1 By e_.symm).1 rfl), ho, hb⟩); clear ho hb hg hat HS; have HS := n0_; clear n0_) | (go_at_call 51; (with_reducible refine (impl_ExactFirst.takeC w0 _ Bf By a s m b p (wrap64 (impl_ExactFirst.next a s m b p i y1 + wrap64 (rd S i * ji))) y1 _ _ GBy.out NBfBy.out HS.out).mono ?_); rintro e u4 ⟨rfl, hs2⟩; have n0_ := Aside0.mk hs2; clear HS hs2; have HS := n0_; clear n0_))
                  go_roundg k1
                  case measure => have := HK.out; omega
                  case rel => exact ⟨_, _, _, _, rfl, rfl, H', ⟨by have := HK.out; omega⟩, HS⟩
                · rw [if_neg c4] at H
                  exact absurd H (by simp)
          · rw [if_neg c3] at H
            exact absurd H (by simp)
        · rw [if_neg c2] at H
          exact absurd H (by simp)
      · rw [if_neg c1] at H
        have c1b : decide (i < (S.length : Int)) = false := decide_eq_false c1
        clear c1
        obtain ⟨rfl, rfl⟩ : out1 = r1 ∧ true = r2 := by simpa using H
        clear H
        go_wp2
        go_ret2
        exact ⟨_, rfl, Kd.R_mono HS.out.2.2.1 (fun _ _ => trivial), HS.out.2.2.2⟩
def impl_ExactFirst.f (k : Nat) (a s m b : Int) (p : Bool) (y : Int) (lz : List Int) : Option (List Int × Bool) := (impl_First_isAt.f a s m b p y).bind fun t0 => if t0 = true then ((impl_isSignal.f k lz).bind fun t1 => if t1 = true then (impl_ExactFirst.l0 k a s m b p lz [] 1 y 0) else some (([] : List Int), false)) else some (([] : List Int), false)
theorem impl_ExactFirst.mono : ∀ a s m b p y lz k, LeO (impl_ExactFirst.f k a s m b p y lz) (impl_ExactFirst.f (k + 1) a s m b p y lz) := by
  intro a s m b p y lz k
  have ih0 := impl_ExactFirst.mono_l k
  unfold impl_ExactFirst.f
  repeat' first
      | (with_reducible exact ih0 _ _ _ _ _ _ _ _ _ _)
      | (with_reducible exact impl_isSignal.mono _ _)
      | (with_reducible exact LeO.refl _)
      | (with_reducible exact LeO.none _)
      | (with_reducible refine LeO.ite ?_ ?_)
      | (with_reducible refine LeO.bind ?_ (fun _ => ?_))
      | exact ih0 _ _ _ _ _ _ _ _ _ _
      | exact LeO.none _
      | refine LeO.ite ?_ ?_
      | refine LeO.bind ?_ (fun _ => ?_)
set_option maxHeartbeats 8000000 in
set_option maxRecDepth 100000 in
theorem impl_ExactFirst.calls (k : Nat) (a s m b : Int) (p : Bool) (y : Int) (A2 : Option Addr) (c2 : Nat) (lz : List Int) (r1 : List Int) (r2 : Bool) (w : World) (hr0 : Kd.C (Kd.int .i64) w A2 lz.length lz) (hc0 : lz.length ≤ c2) (h : impl_ExactFirst.f k a s m b p y lz = some (r1, r2)) :
    Calls Try.prog 18 #[.agg #[.int .i64 a, .int .i64 s, .int .i64 m, .int .i64 b, .bool p], .int .i64 y, .slice A2 lz.length c2] w fun e w' => ∃ v0_ : Value, e = .returned (.tuple #[v0_, .bool r2]) ∧ Kd.R (Kd.int .i64) 3 w' w.heap.size (fun _ => True) v0_ r1 ∧ Below w.heap.size w w' := by
  have hu30 := Try.underlying30
  have hu28 := Try.underlying28
  have hu33 := Try.underlying33
  have HR := Aside0.mk hr0
  have HC := Aside0.mk hc0
  clear hr0 hc0
  have HB := Aside0.mk (Below.refl w.heap.size w)
  unfold impl_ExactFirst.f at h
  obtain ⟨t0, q0_, h⟩ := Option.bind_eq_some_iff.mp h
  have Q0 := Aside0.mk q0_
  clear q0_
  cases t0 with
  | false =>
    replace h := (if_neg (by decide)).symm.trans h
    obtain ⟨rfl, rfl⟩ : ([] : List Int) = r1 ∧ false = r2 := by simpa using h
    clear h
    go_enter Try.func18, Try.ntmps18
    go_wp2_with (first | ((with_reducible refine gate_dst (N := 3) rfl ?_); refine box_event ?hg (N := 3) ?hd (cs := #[.int .i64 a, .int .i64 s, .int .i64 m, .int .i64 b, .bool p]) (t := 30) ?hr ?_; (case hd => rfl); (case hg => rfl); (case hr => first | (go_simp; done) | (go_simp; rfl)); intro gf hg vf hbox hb; have Gf := Aside0.mk ((by rw [hg]; exact HB.out.size) : w.heap.size ≤ gf); have mB_ := Aside0.mk (below_step HB.out hb); clear HB; have HB := mB_; clear mB_; have Kf := Aside0.mk hbox; clear hbox hb hg) | ((with_reducible refine gate_dst (N := 4) rfl ?_); refine box_event ?hg (N := 4) ?hd (cs := #[.int .i64 y]) (t := 3) ?hr ?_; (case hd => rfl); (case hg => rfl); (case hr => first | (go_simp; done) | (go_simp; rfl)); intro gy hg vy hbox hb; have Gy := Aside0.mk ((by rw [hg]; exact HB.out.size) : w.heap.size ≤ gy); have Nfy := Aside0.mk ((by rw [hg]; exact Nat.ne_of_lt (blk_lt Kf.out)) : gf ≠ gy); have mf_ := Aside0.mk (blk_below Kf.out hb); have mB_ := Aside0.mk (below_step HB.out hb); clear Kf HB; have Kf := mf_; have HB := mB_; clear mf_ mB_; have Ky := Aside0.mk hbox; clear hbox hb hg; have yf0 : vy.cell? ⟨gf, 0, none⟩ = some (.int .i64 a) := (blk_cell Kf.out 0).trans rfl; have yf1 : vy.cell? ⟨gf, 1, none⟩ = some (.int .i64 s) := (blk_cell Kf.out 1).trans rfl; have yf2 : vy.cell? ⟨gf, 2, none⟩ = some (.int .i64 m) := (blk_cell Kf.out 2).trans rfl; have yf3 : vy.cell? ⟨gf, 3, none⟩ = some (.int .i64 b) := (blk_cell Kf.out 3).trans rfl; have yf4 : vy.cell? ⟨gf, 4, none⟩ = some (.bool p) := (blk_cell Kf.out 4).trans rfl; have yy0 : vy.cell? ⟨gy, 0, none⟩ = some (.int .i64 y) := (blk_cell Ky.out 0).trans rfl) | (go_at_call 43; (with_reducible refine (impl_First_isAt.calls a s m b p y _ _ Q0.out).mono ?_); rintro e ua ⟨rfl, hb⟩; have mf_ := Aside0.mk (blk_below Kf.out hb); have my_ := Aside0.mk (blk_below Ky.out hb); have mB_ := Aside0.mk (below_step HB.out hb); clear Kf Ky HB; have Kf := mf_; have Ky := my_; have HB := mB_; clear mf_ my_ mB_; clear hb; clear yf0 yf1 yf2 yf3 yf4 yy0; have yf0 : ua.cell? ⟨gf, 0, none⟩ = some (.int .i64 a) := (blk_cell Kf.out 0).trans rfl; have yf1 : ua.cell? ⟨gf, 1, none⟩ = some (.int .i64 s) := (blk_cell Kf.out 1).trans rfl; have yf2 : ua.cell? ⟨gf, 2, none⟩ = some (.int .i64 m) := (blk_cell Kf.out 2).trans rfl; have yf3 : ua.cell? ⟨gf, 3, none⟩ = some (.int .i64 b) := (blk_cell Kf.out 3).trans rfl; have yf4 : ua.cell? ⟨gf, 4, none⟩ = some (.bool p) := (blk_cell Kf.out 4).trans rfl; have yy0 : ua.cell? ⟨gy, 0, none⟩ = some (.int .i64 y) := (blk_cell Ky.out 0).trans rfl) | (go_at_call 48; (with_reducible refine (impl_isSignal.calls k A2 c2 lz _ _ (Kd.C_below HR.out HB.out) HC.out Q1.out).mono ?_); rintro e ub ⟨rfl, hb_⟩; have hb := hb_.below; clear hb_; have mf_ := Aside0.mk (blk_below Kf.out hb); have my_ := Aside0.mk (blk_below Ky.out hb); have mB_ := Aside0.mk (below_step HB.out hb); clear Kf Ky HB; have Kf := mf_; have Ky := my_; have HB := mB_; clear mf_ my_ mB_; clear hb; clear yf0 yf1 yf2 yf3 yf4 yy0; have yf0 : ub.cell? ⟨gf, 0, none⟩ = some (.int .i64 a) := (blk_cell Kf.out 0).trans rfl; have yf1 : ub.cell? ⟨gf, 1, none⟩ = some (.int .i64 s) := (blk_cell Kf.out 1).trans rfl; have yf2 : ub.cell? ⟨gf, 2, none⟩ = some (.int .i64 m) := (blk_cell Kf.out 2).trans rfl; have yf3 : ub.cell? ⟨gf, 3, none⟩ = some (.int .i64 b) := (blk_cell Kf.out 3).trans rfl; have yf4 : ub.cell? ⟨gf, 4, none⟩ = some (.bool p) := (blk_cell Kf.out 4).trans rfl; have yy0 : ub.cell? ⟨gy, 0, none⟩ = some (.int .i64 y) := (blk_cell Ky.out 0).trans rfl) | (go_at_call 49; (with_reducible refine (impl_ExactFirst.exact k w _ gf gy a s m b p y A2 c2 lz _ _ (impl_ExactFirst.St.mk ⟨Kf.out, Ky.out, Kd.R_nil _ _ _ _ _, HB.out⟩) Gy.out Nfy.out HR.out HC.out QL.out).mono ?_); rintro e uc ⟨v0_, rfl, ho2, hb2⟩; have HO := Aside0.mk ho2; have HB2 := Aside0.mk hb2; clear ho2 hb2))
    go_ret2
    exact ⟨_, rfl, Kd.R_nil _ _ _ _ _, HB.out⟩
  | true =>
    replace h := (if_pos rfl).symm.trans h
    obtain ⟨t1, q1_, h⟩ := Option.bind_eq_some_iff.mp h
    have Q1 := Aside0.mk q1_
    clear q1_
    cases t1 with
    | false =>
      replace h := (if_neg (by decide)).symm.trans h
      obtain ⟨rfl, rfl⟩ : ([] : List Int) = r1 ∧ false = r2 := by simpa using h
      clear h
      go_enter Try.func18, Try.ntmps18
      go_wp2_with (first | ((with_reducible refine gate_dst (N := 3) rfl ?_); refine box_event ?hg (N := 3) ?hd (cs := #[.int .i64 a, .int .i64 s, .int .i64 m, .int .i64 b, .bool p]) (t := 30) ?hr ?_; (case hd => rfl); (case hg => rfl); (case hr => first | (go_simp; done) | (go_simp; rfl)); intro gf hg vf hbox hb; have Gf := Aside0.mk ((by rw [hg]; exact HB.out.size) : w.heap.size ≤ gf); have mB_ := Aside0.mk (below_step HB.out hb); clear HB; have HB := mB_; clear mB_; have Kf := Aside0.mk hbox; clear hbox hb hg) | ((with_reducible refine gate_dst (N := 4) rfl ?_); refine box_event ?hg (N := 4) ?hd (cs := #[.int .i64 y]) (t := 3) ?hr ?_; (case hd => rfl); (case hg => rfl); (case hr => first | (go_simp; done) | (go_simp; rfl)); intro gy hg vy hbox hb; have Gy := Aside0.mk ((by rw [hg]; exact HB.out.size) : w.heap.size ≤ gy); have Nfy := Aside0.mk ((by rw [hg]; exact Nat.ne_of_lt (blk_lt Kf.out)) : gf ≠ gy); have mf_ := Aside0.mk (blk_below Kf.out hb); have mB_ := Aside0.mk (below_step HB.out hb); clear Kf HB; have Kf := mf_; have HB := mB_; clear mf_ mB_; have Ky := Aside0.mk hbox; clear hbox hb hg; have yf0 : vy.cell? ⟨gf, 0, none⟩ = some (.int .i64 a) := (blk_cell Kf.out 0).trans rfl; have yf1 : vy.cell? ⟨gf, 1, none⟩ = some (.int .i64 s) := (blk_cell Kf.out 1).trans rfl; have yf2 : vy.cell? ⟨gf, 2, none⟩ = some (.int .i64 m) := (blk_cell Kf.out 2).trans rfl; have yf3 : vy.cell? ⟨gf, 3, none⟩ = some (.int .i64 b) := (blk_cell Kf.out 3).trans rfl; have yf4 : vy.cell? ⟨gf, 4, none⟩ = some (.bool p) := (blk_cell Kf.out 4).trans rfl; have yy0 : vy.cell? ⟨gy, 0, none⟩ = some (.int .i64 y) := (blk_cell Ky.out 0).trans rfl) | (go_at_call 43; (with_reducible refine (impl_First_isAt.calls a s m b p y _ _ Q0.out).mono ?_); rintro e ua ⟨rfl, hb⟩; have mf_ := Aside0.mk (blk_below Kf.out hb); have my_ := Aside0.mk (blk_below Ky.out hb); have mB_ := Aside0.mk (below_step HB.out hb); clear Kf Ky HB; have Kf := mf_; have Ky := my_; have HB := mB_; clear mf_ my_ mB_; clear hb; clear yf0 yf1 yf2 yf3 yf4 yy0; have yf0 : ua.cell? ⟨gf, 0, none⟩ = some (.int .i64 a) := (blk_cell Kf.out 0).trans rfl; have yf1 : ua.cell? ⟨gf, 1, none⟩ = some (.int .i64 s) := (blk_cell Kf.out 1).trans rfl; have yf2 : ua.cell? ⟨gf, 2, none⟩ = some (.int .i64 m) := (blk_cell Kf.out 2).trans rfl; have yf3 : ua.cell? ⟨gf, 3, none⟩ = some (.int .i64 b) := (blk_cell Kf.out 3).trans rfl; have yf4 : ua.cell? ⟨gf, 4, none⟩ = some (.bool p) := (blk_cell Kf.out 4).trans rfl; have yy0 : ua.cell? ⟨gy, 0, none⟩ = some (.int .i64 y) := (blk_cell Ky.out 0).trans rfl) | (go_at_call 48; (with_reducible refine (impl_isSignal.calls k A2 c2 lz _ _ (Kd.C_below HR.out HB.out) HC.out Q1.out).mono ?_); rintro e ub ⟨rfl, hb_⟩; have hb := hb_.below; clear hb_; have mf_ := Aside0.mk (blk_below Kf.out hb); have my_ := Aside0.mk (blk_below Ky.out hb); have mB_ := Aside0.mk (below_step HB.out hb); clear Kf Ky HB; have Kf := mf_; have Ky := my_; have HB := mB_; clear mf_ my_ mB_; clear hb; clear yf0 yf1 yf2 yf3 yf4 yy0; have yf0 : ub.cell? ⟨gf, 0, none⟩ = some (.int .i64 a) := (blk_cell Kf.out 0).trans rfl; have yf1 : ub.cell? ⟨gf, 1, none⟩ = some (.int .i64 s) := (blk_cell Kf.out 1).trans rfl; have yf2 : ub.cell? ⟨gf, 2, none⟩ = some (.int .i64 m) := (blk_cell Kf.out 2).trans rfl; have yf3 : ub.cell? ⟨gf, 3, none⟩ = some (.int .i64 b) := (blk_cell Kf.out 3).trans rfl; have yf4 : ub.cell? ⟨gf, 4, none⟩ = some (.bool p) := (blk_cell Kf.out 4).trans rfl; have yy0 : ub.cell? ⟨gy, 0, none⟩ = some (.int .i64 y) := (blk_cell Ky.out 0).trans rfl) | (go_at_call 49; (with_reducible refine (impl_ExactFirst.exact k w _ gf gy a s m b p y A2 c2 lz _ _ (impl_ExactFirst.St.mk ⟨Kf.out, Ky.out, Kd.R_nil _ _ _ _ _, HB.out⟩) Gy.out Nfy.out HR.out HC.out QL.out).mono ?_); rintro e uc ⟨v0_, rfl, ho2, hb2⟩; have HO := Aside0.mk ho2; have HB2 := Aside0.mk hb2; clear ho2 hb2))
      go_ret2
      exact ⟨_, rfl, Kd.R_nil _ _ _ _ _, HB.out⟩
    | true =>
      replace h := (if_pos rfl).symm.trans h
      have QL := Aside0.mk h
      clear h
      go_enter Try.func18, Try.ntmps18
      go_wp2_with (first | ((with_reducible refine gate_dst (N := 3) rfl ?_); refine box_event ?hg (N := 3) ?hd (cs := #[.int .i64 a, .int .i64 s, .int .i64 m, .int .i64 b, .bool p]) (t := 30) ?hr ?_; (case hd => rfl); (case hg => rfl); (case hr => first | (go_simp; done) | (go_simp; rfl)); intro gf hg vf hbox hb; have Gf := Aside0.mk ((by rw [hg]; exact HB.out.size) : w.heap.size ≤ gf); have mB_ := Aside0.mk (below_step HB.out hb); clear HB; have HB := mB_; clear mB_; have Kf := Aside0.mk hbox; clear hbox hb hg) | ((with_reducible refine gate_dst (N := 4) rfl ?_); refine box_event ?hg (N := 4) ?hd (cs := #[.int .i64 y]) (t := 3) ?hr ?_; (case hd => rfl); (case hg => rfl); (case hr => first | (go_simp; done) | (go_simp; rfl)); intro gy hg vy hbox hb; have Gy := Aside0.mk ((by rw [hg]; exact HB.out.size) : w.heap.size ≤ gy); have Nfy := Aside0.mk ((by rw [hg]; exact Nat.ne_of_lt (blk_lt Kf.out)) : gf ≠ gy); have mf_ := Aside0.mk (blk_below Kf.out hb); have mB_ := Aside0.mk (below_step HB.out hb); clear Kf HB; have Kf := mf_; have HB := mB_; clear mf_ mB_; have Ky := Aside0.mk hbox; clear hbox hb hg; have yf0 : vy.cell? ⟨gf, 0, none⟩ = some (.int .i64 a) := (blk_cell Kf.out 0).trans rfl; have yf1 : vy.cell? ⟨gf, 1, none⟩ = some (.int .i64 s) := (blk_cell Kf.out 1).trans rfl; have yf2 : vy.cell? ⟨gf, 2, none⟩ = some (.int .i64 m) := (blk_cell Kf.out 2).trans rfl; have yf3 : vy.cell? ⟨gf, 3, none⟩ = some (.int .i64 b) := (blk_cell Kf.out 3).trans rfl; have yf4 : vy.cell? ⟨gf, 4, none⟩ = some (.bool p) := (blk_cell Kf.out 4).trans rfl; have yy0 : vy.cell? ⟨gy, 0, none⟩ = some (.int .i64 y) := (blk_cell Ky.out 0).trans rfl) | (go_at_call 43; (with_reducible refine (impl_First_isAt.calls a s m b p y _ _ Q0.out).mono ?_); rintro e ua ⟨rfl, hb⟩; have mf_ := Aside0.mk (blk_below Kf.out hb); have my_ := Aside0.mk (blk_below Ky.out hb); have mB_ := Aside0.mk (below_step HB.out hb); clear Kf Ky HB; have Kf := mf_; have Ky := my_; have HB := mB_; clear mf_ my_ mB_; clear hb; clear yf0 yf1 yf2 yf3 yf4 yy0; have yf0 : ua.cell? ⟨gf, 0, none⟩ = some (.int .i64 a) := (blk_cell Kf.out 0).trans rfl; have yf1 : ua.cell? ⟨gf, 1, none⟩ = some (.int .i64 s) := (blk_cell Kf.out 1).trans rfl; have yf2 : ua.cell? ⟨gf, 2, none⟩ = some (.int .i64 m) := (blk_cell Kf.out 2).trans rfl; have yf3 : ua.cell? ⟨gf, 3, none⟩ = some (.int .i64 b) := (blk_cell Kf.out 3).trans rfl; have yf4 : ua.cell? ⟨gf, 4, none⟩ = some (.bool p) := (blk_cell Kf.out 4).trans rfl; have yy0 : ua.cell? ⟨gy, 0, none⟩ = some (.int .i64 y) := (blk_cell Ky.out 0).trans rfl) | (go_at_call 48; (with_reducible refine (impl_isSignal.calls k A2 c2 lz _ _ (Kd.C_below HR.out HB.out) HC.out Q1.out).mono ?_); rintro e ub ⟨rfl, hb_⟩; have hb := hb_.below; clear hb_; have mf_ := Aside0.mk (blk_below Kf.out hb); have my_ := Aside0.mk (blk_below Ky.out hb); have mB_ := Aside0.mk (below_step HB.out hb); clear Kf Ky HB; have Kf := mf_; have Ky := my_; have HB := mB_; clear mf_ my_ mB_; clear hb; clear yf0 yf1 yf2 yf3 yf4 yy0; have yf0 : ub.cell? ⟨gf, 0, none⟩ = some (.int .i64 a) := (blk_cell Kf.out 0).trans rfl; have yf1 : ub.cell? ⟨gf, 1, none⟩ = some (.int .i64 s) := (blk_cell Kf.out 1).trans rfl; have yf2 : ub.cell? ⟨gf, 2, none⟩ = some (.int .i64 m) := (blk_cell Kf.out 2).trans rfl; have yf3 : ub.cell? ⟨gf, 3, none⟩ = some (.int .i64 b) := (blk_cell Kf.out 3).trans rfl; have yf4 : ub.cell? ⟨gf, 4, none⟩ = some (.bool p) := (blk_cell Kf.out 4).trans rfl; have yy0 : ub.cell? ⟨gy, 0, none⟩ = some (.int .i64 y) := (blk_cell Ky.out 0).trans rfl) | (go_at_call 49; (with_reducible refine (impl_ExactFirst.exact k w _ gf gy a s m b p y A2 c2 lz _ _ (impl_ExactFirst.St.mk ⟨Kf.out, Ky.out, Kd.R_nil _ _ _ _ _, HB.out⟩) Gy.out Nfy.out HR.out HC.out QL.out).mono ?_); rintro e uc ⟨v0_, rfl, ho2, hb2⟩; have HO := Aside0.mk ho2; have HB2 := Aside0.mk hb2; clear ho2 hb2))
      go_ret2
      exact ⟨_, rfl, HO.out, HB2.out⟩

/-! ### laws_eqIntS: function 19 -/
def laws_eqIntS.l0 : Nat → List Int → List Int → Int → Option (Bool)
  | 0, _, _, _ => none
  | k + 1, x0, x1, x5 => if x5 < (x0.length : Int) then (if 0 ≤ x5 then (if x5 < (x1.length : Int) then (if (rd x0 x5) = (rd x1 x5) then (laws_eqIntS.l0 k x0 x1 (wrap64 (x5 + 1))) else (some false)) else (none)) else (none)) else (some true)
def laws_eqIntS.f (k : Nat) (l0 : List Int) (l1 : List Int) : Option (Bool) := if (l0.length : Int) = (l1.length : Int) then (laws_eqIntS.l0 k l0 l1 0) else (some false)
theorem laws_eqIntS.mono_l : ∀ k, (∀ y0 y1 y2, LeO (laws_eqIntS.l0 k y0 y1 y2) (laws_eqIntS.l0 (k + 1) y0 y1 y2))
  | 0 => fun _ _ _ r h => by simp [laws_eqIntS.l0] at h
  | k + 1 => by
    have ih0 := laws_eqIntS.mono_l k
    · intro y0 y1 y2
      unfold laws_eqIntS.l0
      repeat' first
      | (with_reducible exact ih0 _ _ _)
      | (with_reducible exact LeO.refl _)
      | (with_reducible exact LeO.none _)
      | (with_reducible refine LeO.ite ?_ ?_)
      | (with_reducible refine LeO.bind ?_ (fun _ => ?_))
      | exact ih0 _ _ _
      | exact LeO.none _
      | refine LeO.ite ?_ ?_
      | refine LeO.bind ?_ (fun _ => ?_)
theorem laws_eqIntS.mono : ∀ a0 a1 k, LeO (laws_eqIntS.f k a0 a1) (laws_eqIntS.f (k + 1) a0 a1) := by
  intro a0 a1 k
  have ih0 := laws_eqIntS.mono_l k
  unfold laws_eqIntS.f
  repeat' first
      | (with_reducible exact ih0 _ _ _)
      | (with_reducible exact LeO.refl _)
      | (with_reducible exact LeO.none _)
      | (with_reducible refine LeO.ite ?_ ?_)
      | (with_reducible refine LeO.bind ?_ (fun _ => ?_))
      | exact ih0 _ _ _
      | exact LeO.none _
      | refine LeO.ite ?_ ?_
      | refine LeO.bind ?_ (fun _ => ?_)
set_option maxHeartbeats 8000000 in
set_option maxRecDepth 100000 in
theorem laws_eqIntS.calls (k : Nat) (A0 : Option Addr) (c0 : Nat) (l0 : List Int) (A1 : Option Addr) (c1 : Nat) (l1 : List Int) (r : Bool) (w : World) (hr0 : Kd.C (Kd.int .i64) w A0 l0.length l0) (hc0 : l0.length ≤ c0) (hr1 : Kd.C (Kd.int .i64) w A1 l1.length l1) (hc1 : l1.length ≤ c1) (h : laws_eqIntS.f k l0 l1 = some r) :
    Calls Try.prog 19 #[.slice A0 l0.length c0, .slice A1 l1.length c1] w fun e w' => e = .returned (.bool r) ∧ Drawn0 w w' := by
  have HR0 := Aside0.mk hr0
  have HC0 := Aside0.mk hc0
  clear hr0 hc0
  have HR1 := Aside0.mk hr1
  have HC1 := Aside0.mk hc1
  clear hr1 hc1
  have H : (if (l0.length : Int) = (l1.length : Int) then (laws_eqIntS.l0 k l0 l1 0) else (some false)) = some r := h
  clear h
  by_cases c3 : (l0.length : Int) = (l1.length : Int)
  · rw [if_pos c3] at H
    have c3b0 : ((l0.length : Int) == (l1.length : Int)) = true := beq_iff_eq.mpr c3
    have c3b1 : ((l0.length : Int) != (l1.length : Int)) = false := bne_eq_false_iff_eq.mpr c3
    have c3b2 : (l0.length == l1.length) = true := by first | simpa using c3 | (simp at c3 ⊢; omega)
    clear c3
    have H' := Aside0.mk H
    clear H
    go_enter Try.func19, Try.ntmps19
    go_wp2
    repeat (go_quiet (fail); try go_wp2)
    go_loopg [5] k (fun kq v5 w' => ∃ (x5_1 : Int), v5 = .int .i64 x5_1 ∧ Aside0 (laws_eqIntS.l0 kq l0 l1 x5_1 = some r) ∧ Aside0 (kq ≤ k) ∧ Drawn0 w w')
    case atStart => exact ⟨(0), (by first | rfl | (simp; done) | (simp [*]; done)), H', ⟨Nat.le_refl _⟩, by repeat (first | exact Drawn0.refl _ | apply Drawn0.step)⟩
    case round =>
      clear H'
      try clear c1
      try clear p2
      try clear c3
      try clear c3b0
      try clear c3b1
      try clear c3b2
      obtain ⟨x5_1, rfl, HA, HK1, ⟨m1, rfl⟩⟩ := hrel
      cases gk with
      | zero => exact absurd HA.out (by simp [laws_eqIntS.l0])
      | succ k1 =>
        have H := HA.out
        clear HA
        simp only [laws_eqIntS.l0] at H
        by_cases c4 : x5_1 < (l0.length : Int)
        · rw [if_pos c4] at H
          have c4b0 : decide (x5_1 < (l0.length : Int)) = true := decide_eq_true c4
          clear c4
          by_cases c5 : 0 ≤ x5_1
          · rw [if_pos c5] at H
            have c5b0 : decide (0 ≤ x5_1) = true := decide_eq_true c5
            clear c5
            by_cases c6 : x5_1 < (l1.length : Int)
            · rw [if_pos c6] at H
              have c6b0 : decide (x5_1 < (l1.length : Int)) = true := decide_eq_true c6
              clear c6
              by_cases c7 : (rd l0 x5_1) = (rd l1 x5_1)
              · rw [if_pos c7] at H
                have c7b0 : ((rd l0 x5_1) == (rd l1 x5_1)) = true := beq_iff_eq.mpr c7
                have c7b1 : ((rd l0 x5_1) != (rd l1 x5_1)) = false := bne_eq_false_iff_eq.mpr c7
                clear c7
                have H' := Aside0.mk H
                clear H
                have p174 : 0 ≤ (x5_1 : Int) := of_decide_eq_true (by first | (with_reducible assumption) | assumption)
                have q174 : x5_1 < (l0.length : Int) := of_decide_eq_true (by first | (with_reducible assumption) | assumption)
                obtain ⟨ad174, e174, hx174_0⟩ := Kd.at_int HR0.out x5_1 p174 q174
                cases e174
                replace p174 := eq_true p174
                replace q174 := eq_true q174
                have p175 : 0 ≤ (x5_1 : Int) := of_decide_eq_true (by first | (with_reducible assumption) | assumption)
                have q175 : x5_1 < (l1.length : Int) := of_decide_eq_true (by first | (with_reducible assumption) | assumption)
                obtain ⟨ad175, e175, hx175_0⟩ := Kd.at_int HR1.out x5_1 p175 q175
                cases e175
                replace p175 := eq_true p175
                replace q175 := eq_true q175
                go_wp2
                repeat (go_quiet (fail); try go_wp2)
                go_roundg k1
                case measure => have := HK1.out; omega
                case rel => exact ⟨(wrap64 (x5_1 + 1)), (by first | rfl | (simp; done) | (simp [*]; done)), H', ⟨by have := HK1.out; omega⟩, by repeat (first | exact Drawn0.refl _ | apply Drawn0.step)⟩
              · rw [if_neg c7] at H
                have c7b0 : ((rd l0 x5_1) == (rd l1 x5_1)) = false := beq_eq_false_iff_ne.mpr c7
                have c7b1 : ((rd l0 x5_1) != (rd l1 x5_1)) = true := bne_iff_ne.mpr c7
                obtain rfl := Option.some.inj H
                have p174 : 0 ≤ (x5_1 : Int) := of_decide_eq_true (by first | (with_reducible assumption) | assumption)
                have q174 : x5_1 < (l0.length : Int) := of_decide_eq_true (by first | (with_reducible assumption) | assumption)
                obtain ⟨ad174, e174, hx174_0⟩ := Kd.at_int HR0.out x5_1 p174 q174
                cases e174
                replace p174 := eq_true p174
                replace q174 := eq_true q174
                have p175 : 0 ≤ (x5_1 : Int) := of_decide_eq_true (by first | (with_reducible assumption) | assumption)
                have q175 : x5_1 < (l1.length : Int) := of_decide_eq_true (by first | (with_reducible assumption) | assumption)
                obtain ⟨ad175, e175, hx175_0⟩ := Kd.at_int HR1.out x5_1 p175 q175
                cases e175
                replace p175 := eq_true p175
                replace q175 := eq_true q175
                go_wp2
                repeat (go_quiet (fail); try go_wp2)
                go_ret
                exact ⟨by first | rfl | (simp; done) | (simp [*]; done), by repeat (first | exact Drawn0.refl _ | apply Drawn0.step)⟩
            · rw [if_neg c6] at H
              exact absurd H (by simp)
          · rw [if_neg c5] at H
            exact absurd H (by simp)
        · rw [if_neg c4] at H
          have c4b0 : decide (x5_1 < (l0.length : Int)) = false := decide_eq_false c4
          clear c4
          obtain rfl := Option.some.inj H
          go_wp2
          repeat (go_quiet (fail); try go_wp2)
          go_ret
          exact ⟨by first | rfl | (simp; done) | (simp [*]; done), by repeat (first | exact Drawn0.refl _ | apply Drawn0.step)⟩
  · rw [if_neg c3] at H
    have c3b0 : ((l0.length : Int) == (l1.length : Int)) = false := beq_eq_false_iff_ne.mpr c3
    have c3b1 : ((l0.length : Int) != (l1.length : Int)) = true := bne_iff_ne.mpr c3
    have c3b2 : (l0.length == l1.length) = false := by first | simpa using c3 | (simp at c3 ⊢; omega)
    obtain rfl := Option.some.inj H
    go_enter Try.func19, Try.ntmps19
    go_wp2
    repeat (go_quiet (fail); try go_wp2)
    go_ret
    exact ⟨by first | rfl | (simp; done) | (simp [*]; done), by repeat (first | exact Drawn0.refl _ | apply Drawn0.step)⟩

/-! ### laws_markIntS: function 20 -/
def laws_markIntS.l0 : Nat → List Int → Int → Int → Option (Int × List Int)
  | 0, _, _, _ => none
  | k + 1, x0, x1, x5 => if x5 < (x0.length : Int) then (if 0 ≤ x5 then (laws_markIntS.l0 k (x0.set (x5 : Int).toNat x1) (wrap64 (x1 + 1)) (wrap64 (x5 + 1))) else (none)) else (some (x1, x0))
def laws_markIntS.f (k : Nat) (l0 : List Int) (a1 : Int) : Option (Int × List Int) := laws_markIntS.l0 k l0 a1 0
theorem laws_markIntS.mono_l : ∀ k, (∀ y0 y1 y2, LeO (laws_markIntS.l0 k y0 y1 y2) (laws_markIntS.l0 (k + 1) y0 y1 y2))
  | 0 => fun _ _ _ r h => by simp [laws_markIntS.l0] at h
  | k + 1 => by
    have ih0 := laws_markIntS.mono_l k
    · intro y0 y1 y2
      unfold laws_markIntS.l0
      repeat' first
      | (with_reducible exact ih0 _ _ _)
      | (with_reducible exact LeO.refl _)
      | (with_reducible exact LeO.none _)
      | (with_reducible refine LeO.ite ?_ ?_)
      | (with_reducible refine LeO.bind ?_ (fun _ => ?_))
      | exact ih0 _ _ _
      | exact LeO.none _
      | refine LeO.ite ?_ ?_
      | refine LeO.bind ?_ (fun _ => ?_)
theorem laws_markIntS.mono : ∀ a0 a1 k, LeO (laws_markIntS.f k a0 a1) (laws_markIntS.f (k + 1) a0 a1) := by
  intro a0 a1 k
  have ih0 := laws_markIntS.mono_l k
  unfold laws_markIntS.f
  repeat' first
      | (with_reducible exact ih0 _ _ _)
      | (with_reducible exact LeO.refl _)
      | (with_reducible exact LeO.none _)
      | (with_reducible refine LeO.ite ?_ ?_)
      | (with_reducible refine LeO.bind ?_ (fun _ => ?_))
      | exact ih0 _ _ _
      | exact LeO.none _
      | refine LeO.ite ?_ ?_
      | refine LeO.bind ?_ (fun _ => ?_)
set_option maxHeartbeats 8000000 in
set_option maxRecDepth 100000 in
theorem laws_markIntS.calls (k : Nat) (P0_ : Nat → Prop) (u9000_ : Value) (l0 : List Int) (a1 : Int) (r1 : Int) (r2 : List Int) (w0 w : World) (hB : Below w0.heap.size w0 w) (ho0 : Kd.R (Kd.int .i64) 3 w w0.heap.size P0_ u9000_ l0) (h : laws_markIntS.f k l0 a1 = some (r1, r2)) :
    Calls Try.prog 20 #[u9000_, .int .i64 a1] w fun e w' => e = .returned (.int .i64 r1) ∧ Kd.R (Kd.int .i64) 3 w' w0.heap.size (fun k_ => (P0_ k_ ∨ w.heap.size ≤ k_)) u9000_ r2 ∧ Below w0.heap.size w0 w' ∧ Kept w w' (fun k_ => P0_ k_) := by
  have HO0 := Aside0.mk (show Kd.R (Kd.int .i64) 3 w w0.heap.size (fun k_ => (P0_ k_ ∨ w.heap.size ≤ k_)) u9000_ l0 from Kd.R_mono ho0 (fun k_ hk => (.inl hk)))
  have HK := Aside0.mk (Kept.refl w (fun k_ => P0_ k_))
  have HW0 := Aside0.mk hB.size
  have HB := Aside0.mk hB
  clear hB
  have H : (laws_markIntS.l0 k l0 a1 0) = some (r1, r2) := h
  clear h
  have H' := Aside0.mk H
  clear H
  go_enter Try.func20, Try.ntmps20
  go_wp2
  go_loopg [1, 5] k (fun kq v1 v5 w' => ∃ (x0_1 : List Int) (x1_1 : Int) (x5_1 : Int), v1 = .int .i64 x1_1 ∧ v5 = .int .i64 x5_1 ∧ Aside0 (laws_markIntS.l0 kq x0_1 x1_1 x5_1 = some (r1, r2)) ∧ Aside0 (kq ≤ k) ∧ Aside0 (Kd.R (Kd.int .i64) 3 w' w0.heap.size (fun k_ => (P0_ k_ ∨ w.heap.size ≤ k_)) u9000_ x0_1) ∧ Aside0 (Kept w w' (fun k_ => P0_ k_)) ∧ Aside0 (Below w0.heap.size w0 w'))
  case atStart => exact ⟨(l0), (a1), (0), (by first | rfl | (simp; done) | (simp [*]; done)), (by first | rfl | (simp; done) | (simp [*]; done)), H', ⟨Nat.le_refl _⟩, ⟨by (with_reducible repeat (first | apply Kd.R_alloc | apply Kd.R_drewN | apply Kd.R_drew)); exact HO0.out⟩, ⟨by repeat (first | (with_reducible first | exact HK.out | apply Kept.alloc | apply Kept.drewN | apply Kept.drew) | exact HK.out)⟩, ⟨by repeat (first | (with_reducible first | exact HB.out | apply below_alloc | apply pw_below_drewN | apply below_drew1) | exact HB.out)⟩⟩
  case round =>
    clear H'
    try clear c2
    try clear p2
    obtain ⟨x0_1, x1_1, x5_1, rfl, rfl, HA, HK1, HO_0, HK, HB⟩ := hrel
    cases gk with
    | zero => exact absurd HA.out (by simp [laws_markIntS.l0])
    | succ k1 =>
      have H := HA.out
      clear HA
      simp only [laws_markIntS.l0] at H
      by_cases c3 : x5_1 < (x0_1.length : Int)
      · rw [if_pos c3] at H
        have c3b0 : decide (x5_1 < (x0_1.length : Int)) = true := decide_eq_true c3
        clear c3
        by_cases c4 : 0 ≤ x5_1
        · rw [if_pos c4] at H
          have c4b0 : decide (0 ≤ x5_1) = true := decide_eq_true c4
          clear c4
          obtain ⟨y176, hy176⟩ : ∃ y_ : List Int, y_ = (x0_1.set (x5_1 : Int).toNat x1_1) := ⟨_, rfl⟩
          replace H : (laws_markIntS.l0 k1 y176 (wrap64 (x1_1 + 1)) (wrap64 (x5_1 + 1))) = some (r1, r2) := by first | (rw [hy176]; with_reducible exact H) | (have H2_ := (Option.bind_some _ _).symm.trans H; rw [hy176]; with_reducible exact H2_) | (have H2_ := (Option.bind_some _ _).symm.trans H; with_reducible exact H2_) | with_reducible exact H | (rw [hy176]; exact H) | exact H
          have Ny176 := Aside0.mk hy176
          clear hy176
          have H' := Aside0.mk H
          clear H
          obtain ⟨Ao6, co6, eo6⟩ := Kd.R_slice HO_0.out
          subst eo6
          have p5 : 0 ≤ (x5_1 : Int) := of_decide_eq_true (by first | (with_reducible assumption) | assumption)
          have q5 : (x5_1 : Int) < ((x0_1.length : Int) : Int) := of_decide_eq_true (by first | (with_reducible assumption) | assumption)
          obtain ⟨go5, co5, eo5, gb5, gl5, cl5, HG5⟩ := Kd.R_form HO_0.out (by omega)
          (first | cases eo5 | (injection eo5 with ea_ en_ ec_; (first | subst ea_ | (injection ea_ with ea_; subst ea_)); subst ec_; clear en_))
          have GB5 := Aside0.mk gb5
          have GG5 := Aside0.mk HG5
          clear gb5 gl5 HG5
          have HMgo5 := Aside0.mk (show (P0_ go5 ∨ w.heap.size ≤ go5) from (HO_0.out.1 _ rfl))
          obtain ⟨hx5_0, hf5_0⟩ := Kd.R_celln 0 HO_0.out (x5_1 : Int) p5 q5
          replace p5 := eq_true p5
          replace q5 := eq_true q5
          have HP7 := Kd.R_putg HO_0.out (x5_1 : Int) x1_1
          go_wp2_with (first | ((with_reducible refine gate_store (t := 3) (p := 15) rfl ?_); refine store_event (t := 3) (p := 15) (v := ?vo_w8) (w1 := (wr.setCell ⟨go5, (x5_1 : Int).toNat, none⟩ (.int .i64 x1_1))) ?hg ?ho ?hn ?hr ?_; (case ho => rfl); (case hg => rfl); (case hn => rfl); (case hr => first | (go_simp; done) | (go_simp; rfl)); intro w8 hw; have hg : wr.grownBy w8 (some go5) := (by rw [hw]; exact HP7.2); have hp_ : Kd.R (Kd.int .i64) 3 w8 w0.heap.size (fun k_ => (P0_ k_ ∨ w.heap.size ≤ k_)) (.slice (some ⟨go5, 0, none⟩) x0_1.length co6) y176 := (by rw [hw, Ny176.out]; exact HP7.1); clear HP7; have n0_ := Aside0.mk (hp_); have n1_ := Aside0.mk ((by rw [hw]; exact below_set (HB.out) GB5.out : Below w0.heap.size w0 w8)); have n2_ := Aside0.mk (Kept.of_grown (S := (fun k_ => P0_ k_)) hg (by repeat (first | (with_reducible first | exact HK.out | apply Kept.alloc | apply Kept.drewN | apply Kept.drew) | exact HK.out)) (fun k_ e_ => (HO_0.out.1 k_ e_))); clear HO_0; clear HB; clear HK; have HO_0 := n0_; have HB := n1_; have HK := n2_; clear n0_ n1_ n2_; clear hg hw hp_))
          go_roundg k1
          case measure => have := HK1.out; omega
          case rel => exact ⟨(y176), (wrap64 (x1_1 + 1)), (wrap64 (x5_1 + 1)), (by first | rfl | (simp; done) | (simp [*]; done)), (by first | rfl | (simp; done) | (simp [*]; done)), H', ⟨by have := HK1.out; omega⟩, ⟨by (with_reducible repeat (first | apply Kd.R_alloc | apply Kd.R_drewN | apply Kd.R_drew)); exact HO_0.out⟩, ⟨by repeat (first | (with_reducible first | exact HK.out | apply Kept.alloc | apply Kept.drewN | apply Kept.drew) | exact HK.out)⟩, ⟨by repeat (first | (with_reducible first | exact HB.out | apply below_alloc | apply pw_below_drewN | apply below_drew1) | exact HB.out)⟩⟩
        · rw [if_neg c4] at H
          exact absurd H (by simp)
      · rw [if_neg c3] at H
        have c3b0 : decide (x5_1 < (x0_1.length : Int)) = false := decide_eq_false c3
        clear c3
        simp only [Option.some.injEq, Prod.mk.injEq] at H
        obtain ⟨rfl, rfl⟩ := H
        obtain ⟨Ao9, co9, eo9⟩ := Kd.R_slice HO_0.out
        subst eo9
        go_wp2
        go_ret
        exact ⟨by first | rfl | (simp [errW_none, errW_some] <;> rfl) | (simp [*, errW_none, errW_some] <;> rfl), by (with_reducible repeat (first | apply Kd.R_alloc | apply Kd.R_drewN | apply Kd.R_drew)); exact HO_0.out, by repeat (first | (with_reducible first | exact HB.out | apply below_alloc | apply pw_below_drewN | apply below_drew1) | exact HB.out), by repeat (first | (with_reducible first | exact HK.out | apply Kept.alloc | apply Kept.drewN | apply Kept.drew) | exact HK.out)⟩

/-! ### laws_heldIntS: function 21 -/
def laws_heldIntS.l0 : Nat → List Int → Int → Int → Option (Int)
  | 0, _, _, _ => none
  | k + 1, x0, x1, x5 => if x5 < (x0.length : Int) then (if 0 ≤ x5 then (if (rd x0 x5) = x1 then (laws_heldIntS.l0 k x0 (wrap64 (x1 + 1)) (wrap64 (x5 + 1))) else (some (-1))) else (none)) else (some x1)
def laws_heldIntS.f (k : Nat) (l0 : List Int) (a1 : Int) : Option (Int) := laws_heldIntS.l0 k l0 a1 0
theorem laws_heldIntS.mono_l : ∀ k, (∀ y0 y1 y2, LeO (laws_heldIntS.l0 k y0 y1 y2) (laws_heldIntS.l0 (k + 1) y0 y1 y2))
  | 0 => fun _ _ _ r h => by simp [laws_heldIntS.l0] at h
  | k + 1 => by
    have ih0 := laws_heldIntS.mono_l k
    · intro y0 y1 y2
      unfold laws_heldIntS.l0
      repeat' first
      | (with_reducible exact ih0 _ _ _)
      | (with_reducible exact LeO.refl _)
      | (with_reducible exact LeO.none _)
      | (with_reducible refine LeO.ite ?_ ?_)
      | (with_reducible refine LeO.bind ?_ (fun _ => ?_))
      | exact ih0 _ _ _
      | exact LeO.none _
      | refine LeO.ite ?_ ?_
      | refine LeO.bind ?_ (fun _ => ?_)
theorem laws_heldIntS.mono : ∀ a0 a1 k, LeO (laws_heldIntS.f k a0 a1) (laws_heldIntS.f (k + 1) a0 a1) := by
  intro a0 a1 k
  have ih0 := laws_heldIntS.mono_l k
  unfold laws_heldIntS.f
  repeat' first
      | (with_reducible exact ih0 _ _ _)
      | (with_reducible exact LeO.refl _)
      | (with_reducible exact LeO.none _)
      | (with_reducible refine LeO.ite ?_ ?_)
      | (with_reducible refine LeO.bind ?_ (fun _ => ?_))
      | exact ih0 _ _ _
      | exact LeO.none _
      | refine LeO.ite ?_ ?_
      | refine LeO.bind ?_ (fun _ => ?_)
set_option maxHeartbeats 8000000 in
set_option maxRecDepth 100000 in
theorem laws_heldIntS.calls (k : Nat) (A0 : Option Addr) (c0 : Nat) (l0 : List Int) (a1 : Int) (r : Int) (w : World) (hr0 : Kd.C (Kd.int .i64) w A0 l0.length l0) (hc0 : l0.length ≤ c0) (h : laws_heldIntS.f k l0 a1 = some r) :
    Calls Try.prog 21 #[.slice A0 l0.length c0, .int .i64 a1] w fun e w' => e = .returned (.int .i64 r) ∧ Drawn0 w w' := by
  have HR0 := Aside0.mk hr0
  have HC0 := Aside0.mk hc0
  clear hr0 hc0
  have H : (laws_heldIntS.l0 k l0 a1 0) = some r := h
  clear h
  have H' := Aside0.mk H
  clear H
  go_enter Try.func21, Try.ntmps21
  go_wp2
  go_loopg [1, 5] k (fun kq v1 v5 w' => ∃ (x1_1 : Int) (x5_1 : Int), v1 = .int .i64 x1_1 ∧ v5 = .int .i64 x5_1 ∧ Aside0 (laws_heldIntS.l0 kq l0 x1_1 x5_1 = some r) ∧ Aside0 (kq ≤ k) ∧ Drawn0 w w')
  case atStart => exact ⟨(a1), (0), (by first | rfl | (simp; done) | (simp [*]; done)), (by first | rfl | (simp; done) | (simp [*]; done)), H', ⟨Nat.le_refl _⟩, by repeat (first | exact Drawn0.refl _ | apply Drawn0.step)⟩
  case round =>
    clear H'
    try clear c2
    try clear p2
    obtain ⟨x1_1, x5_1, rfl, rfl, HA, HK1, ⟨m1, rfl⟩⟩ := hrel
    cases gk with
    | zero => exact absurd HA.out (by simp [laws_heldIntS.l0])
    | succ k1 =>
      have H := HA.out
      clear HA
      simp only [laws_heldIntS.l0] at H
      by_cases c3 : x5_1 < (l0.length : Int)
      · rw [if_pos c3] at H
        have c3b0 : decide (x5_1 < (l0.length : Int)) = true := decide_eq_true c3
        clear c3
        by_cases c4 : 0 ≤ x5_1
        · rw [if_pos c4] at H
          have c4b0 : decide (0 ≤ x5_1) = true := decide_eq_true c4
          clear c4
          by_cases c5 : (rd l0 x5_1) = x1_1
          · rw [if_pos c5] at H
            have c5b0 : ((rd l0 x5_1) == x1_1) = true := beq_iff_eq.mpr c5
            have c5b1 : ((rd l0 x5_1) != x1_1) = false := bne_eq_false_iff_eq.mpr c5
            clear c5
            have H' := Aside0.mk H
            clear H
            have p177 : 0 ≤ (x5_1 : Int) := of_decide_eq_true (by first | (with_reducible assumption) | assumption)
            have q177 : x5_1 < (l0.length : Int) := of_decide_eq_true (by first | (with_reducible assumption) | assumption)
            obtain ⟨ad177, e177, hx177_0⟩ := Kd.at_int HR0.out x5_1 p177 q177
            cases e177
            replace p177 := eq_true p177
            replace q177 := eq_true q177
            go_wp2
            go_roundg k1
            case measure => have := HK1.out; omega
            case rel => exact ⟨(wrap64 (x1_1 + 1)), (wrap64 (x5_1 + 1)), (by first | rfl | (simp; done) | (simp [*]; done)), (by first | rfl | (simp; done) | (simp [*]; done)), H', ⟨by have := HK1.out; omega⟩, by repeat (first | exact Drawn0.refl _ | apply Drawn0.step)⟩
          · rw [if_neg c5] at H
            have c5b0 : ((rd l0 x5_1) == x1_1) = false := beq_eq_false_iff_ne.mpr c5
            have c5b1 : ((rd l0 x5_1) != x1_1) = true := bne_iff_ne.mpr c5
            obtain rfl := Option.some.inj H
            have p177 : 0 ≤ (x5_1 : Int) := of_decide_eq_true (by first | (with_reducible assumption) | assumption)
            have q177 : x5_1 < (l0.length : Int) := of_decide_eq_true (by first | (with_reducible assumption) | assumption)
            obtain ⟨ad177, e177, hx177_0⟩ := Kd.at_int HR0.out x5_1 p177 q177
            cases e177
            replace p177 := eq_true p177
            replace q177 := eq_true q177
            go_wp2
            go_ret
            exact ⟨by first | rfl | (simp; done) | (simp [*]; done), by repeat (first | exact Drawn0.refl _ | apply Drawn0.step)⟩
        · rw [if_neg c4] at H
          exact absurd H (by simp)
      · rw [if_neg c3] at H
        have c3b0 : decide (x5_1 < (l0.length : Int)) = false := decide_eq_false c3
        clear c3
        obtain rfl := Option.some.inj H
        go_wp2
        go_ret
        exact ⟨by first | rfl | (simp; done) | (simp [*]; done), by repeat (first | exact Drawn0.refl _ | apply Drawn0.step)⟩

end Go.Proofs.Ytepfkahbfnahmaa.QFnExactExactFirst
