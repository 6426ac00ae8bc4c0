/- The plain statement behind the law FnExactPairPeriod: its walk's numbers answer true. Conditions: the given statement's own (each number is an int; each slice within the reach). -/
import Derived.Test.YtljehmhiclccgaaQFnExactPairPeriodx0
import Derived.Test.YtljehmhiclccgaaQFnExactPairPeriodx1
import Derived.Test.YtljehmhiclccgaaQFnExactPairPeriodx2
import Derived.Test.YtljehmhiclccgaaQFnExactPairPeriodx3
import Derived.Test.YtljehmhiclccgaaQFnExactPairPeriodx4
import Derived.Test.YtljehmhiclccgaaQFnExactPairPeriodx5
import Derived.Test.YtljehmhiclccgaaQFnExactPairPeriodx6
import Derived.Test.YtljehmhiclccgaaBase
import Derived.Test.YtljehmhiclccgaaWalk
namespace Go.Proofs.Ytljehmhiclccgaa.Pure
open Go.RowKit Go.Proofs.Ytljehmhiclccgaa.QFnExactPairPeriod Go.Proofs.YtljehmhiclccgaaW.PrintWords Go.Proofs.YtljehmhiclccgaaW.PrintLast Go.Proofs.YtljehmhiclccgaaW.PrintMore Go.Proofs.Ytljehmhiclccgaa.Base
set_option linter.unusedVariables false
set_option linter.unusedSimpArgs false

theorem spec_l1In_v (a b c : Int) : spec_l1In.f a b c = some (inR a b c) := inR_ge a b c

theorem spec_wdMode_v (s m : Int) : spec_wdMode.f s m = some (inR s 0 20 && inR m 0 2) := by
  simp only [spec_wdMode.f, spec_l1In_v, Option.bind_some, bind_and]

theorem spec_wdGood_v (a : Int) (b : Bool) : spec_wdGood.f a b = some (inR a 2 16) := by simp [spec_wdGood.f, spec_l1In_v]

theorem spec_sdGood_v (a c s m b : Int) (w : Bool) : spec_sdGood.f a c s m b w = some (sdB a c s m b) := by
  simp only [spec_sdGood.f, spec_l1In_v, spec_wdMode_v, spec_wdGood_v, Option.bind_some, bind_and]
  rw [sdB_spec]

theorem spec_wdLow_v (b : Int) (w : Bool) (h1 : 2 ≤ b) (h2 : b ≤ 16) : spec_wdLow.f b w = some (-pw (b - 1)) := by
  have := pw_pos (b - 1)
  have := pw_le (n := b - 1) (by omega)
  unfold spec_wdLow.f
  rw [wrap_id (x := b - 1) (by omega) (by omega), if_pos (by omega), shl_one (by omega), wrap_id (by omega) (by omega)]

theorem spec_wdHigh_v (b : Int) (w : Bool) (h1 : 2 ≤ b) (h2 : b ≤ 16) : spec_wdHigh.f b w = some (pw (b - 1) - 1) := by
  have := pw_pos (b - 1)
  have := pw_le (n := b - 1) (by omega)
  unfold spec_wdHigh.f
  rw [wrap_id (x := b - 1) (by omega) (by omega), if_pos (by omega), shl_one (by omega), wrap_id (by omega) (by omega)]

theorem spec_wdIn_v (b : Int) (w : Bool) (x : Int) : spec_wdIn.f b w x = some (inR b 2 16 && inR x (-pw (b - 1)) (pw (b - 1) - 1)) := by
  unfold spec_wdIn.f
  simp only [spec_wdGood_v, Option.bind_some]
  cases h : inR b 2 16
  · simp
  · obtain ⟨h1, h2⟩ := inR_true.mp h
    simp [spec_wdLow_v b w h1 h2, spec_wdHigh_v b w h1 h2, spec_l1In_v]

theorem spec_sdAsked_v (a c s m b : Int) (w : Bool) (y z x : Int) : spec_sdAsked.f a c s m b w y z x = some (sdB a c s m b && (inR y (-pw (b - 1)) (pw (b - 1) - 1) && (inR z (-pw (b - 1)) (pw (b - 1) - 1) && inR x (-100000) 100000))) := by
  unfold spec_sdAsked.f
  simp only [spec_sdGood_v, spec_wdIn_v, spec_l1In_v, Option.bind_some, bind_and]
  cases h : sdB a c s m b
  · simp
  · have := (sdB_true.mp h).2.2.2.2
    simp [inR_true.mpr this]

theorem spec_l1Least_v (a b : Int) : spec_l1Least.f a b = some (min a b) := by
  unfold spec_l1Least.f
  split <;> (congr 1; omega)

theorem spec_l1Most_v (a b : Int) : spec_l1Most.f a b = some (max a b) := by
  unfold spec_l1Most.f
  split <;> (congr 1; omega)

theorem spec_wdFit_v (b : Int) (w : Bool) (x : Int) (h1 : 2 ≤ b) (h2 : b ≤ 16) (h3 : -1152921504606846976 ≤ x) (h4 : x ≤ 1152921504606846976) : spec_wdFit.f b w x = some (fitM b w x) := by
  have hp := pw_pos (b - 1)
  have hp2 := pw_le (n := b) (by omega)
  have hp3 := pw_pred (n := b) (by omega)
  have ht := tmod_bd x (pw b) (by omega)
  have hr := Int.emod_nonneg x (show pw b ≠ 0 by omega)
  have hr2 := Int.emod_lt_of_pos x (show 0 < pw b by omega)
  unfold spec_wdFit.f fitM
  rw [← hp3]
  cases w
  · simp only [spec_wdHigh_v b false h1 h2, spec_wdLow_v b false h1 h2, spec_l1Most_v, spec_l1Least_v, Option.bind_some, if_false, Bool.false_eq_true]
    congr 1; omega
  · simp only [if_true, shl_one (n := b) (by omega), if_pos (show 0 ≤ b by omega), if_neg (show ¬ pw b = 0 by omega), spec_wdHigh_v b true h1 h2, Option.bind_some, wrap_id (x := Int.tmod x (pw b) + pw b) (by omega) (by omega), tmod2 x (pw b) (by omega), wrap_id (x := x % pw b - pw b) (by omega) (by omega)]
    split <;> rfl

theorem spec_wdShift_v (x s m : Int) (k : Nat) (h1 : -1152921504606846976 ≤ x) (h2 : x ≤ 1152921504606846976) (h3 : 0 ≤ s) (h4 : s ≤ 20) (h5 : 0 ≤ m) (h6 : m ≤ 2) (hk : 2 ≤ k) : spec_wdShift.f k x s m = some (shf x s m) := by
  obtain ⟨k, rfl⟩ : ∃ j, k = j + 2 := ⟨k - 2, by omega⟩
  have hp := pw_pos s
  have hp2 := pw20 h4
  have hd := Int.mul_ediv_add_emod x (pw s)
  have hr := Int.emod_nonneg x (show pw s ≠ 0 by omega)
  have hr2 := Int.emod_lt_of_pos x (show 0 < pw s by omega)
  have hb := floor_bd x (pw s) hp h1 h2
  unfold spec_wdShift.f
  rw [if_pos h3, shl_one (by omega), if_neg (by omega)]
  have key : ∀ d : Int, d = x / pw s → spec_wdShift.j0 (k + 2) x m (pw s) d = some (shf x s m) := by
    rintro d rfl
    simp only [spec_wdShift.j0, spec_wdShift.j1]
    have e1 : wrap64 (x / pw s * pw s) = x / pw s * pw s := wrap_id (by rw [Int.mul_comm]; omega) (by rw [Int.mul_comm]; omega)
    have e2 : x - x / pw s * pw s = x % pw s := by rw [Int.mul_comm]; omega
    rw [e1, e2, wrap_id (x := x % pw s) (by omega) (by omega), wrap_id (x := 2 * (x % pw s)) (by omega) (by omega), wrap_id (x := x / pw s + 1) (by omega) (by omega)]
    rw [shf_eq x s m h3 h4]
    by_cases m1 : m = 1
    · subst m1
      by_cases c1 : 2 * (x % pw s) ≥ pw s
      · by_cases c2 : x % pw s > 0
        · simp [c1, c2]
        · exfalso; omega
      · simp [c1]
    · by_cases m2 : m = 2
      · subst m2
        by_cases c1 : x < 0
        · by_cases c2 : x % pw s > 0 <;> simp [c1, c2]
        · simp [c1]
      · simp [m1, m2]
  have hb2 := td_bd x (pw s) hp h1 h2
  by_cases h : x < 0 ∧ x % pw s ≠ 0
  · rw [if_pos (by rw [tm_neg x (pw s) hp]; exact h)]
    exact key _ (by rw [wrap_id (x := Int.tdiv x (pw s)) (by omega) (by omega), td_low x (pw s) hp h, wrap_id (by omega) (by omega)])
  · rw [if_neg (by rw [tm_neg x (pw s) hp]; exact h)]
    exact key _ (by rw [wrap_id (x := Int.tdiv x (pw s)) (by omega) (by omega), td_high x (pw s) hp h])

theorem spec_sdStep_v (a c s m b : Int) (w : Bool) (y z x : Int) (k : Nat) (h : sdB a c s m b = true) (hy : -100000 ≤ y ∧ y ≤ 100000) (hz : -100000 ≤ z ∧ z ≤ 100000) (hx : -100000 ≤ x ∧ x ≤ 100000) (hk : 2 ≤ k) : spec_sdStep.f k a c s m b w y z x = some (sdStepM a c s m b w y z x) := by
  obtain ⟨ha, hc, hs, hm, hb⟩ := sdB_true.mp h
  have h1 := mul_bd (a := a) (c := y) (by omega) hy
  have h1' := mul_bd (a := c) (c := z) (by omega) hz
  have h2 := shf_bd2 (x := a * y + c * z) (s := s) (m := m) (by omega) (by omega) (by omega) (by omega)
  unfold spec_sdStep.f spec_sdRaw.f sdStepM
  rw [wrap_id (x := a * y) (by omega) (by omega), wrap_id (x := c * z) (by omega) (by omega), wrap_id (x := a * y + c * z) (by omega) (by omega), spec_wdShift_v (a * y + c * z) s m k (by omega) (by omega) (by omega) (by omega) (by omega) (by omega) (by omega)]
  simp only [Option.bind_some]
  rw [wrap_id (x := shf (a * y + c * z) s m + x) (by omega) (by omega), spec_wdFit_v b w _ (by omega) (by omega) (by omega) (by omega)]
  simp only [Option.bind_some]

theorem spec_sdNext_v (a c s m b : Int) (w : Bool) (y z x : Int) (k : Nat) (h : sdB a c s m b = true) (hy : -100000 ≤ y ∧ y ≤ 100000) (hz : -100000 ≤ z ∧ z ≤ 100000) (hx : -100000 ≤ x ∧ x ≤ 100000) (hk : 2 ≤ k) : spec_sdNext.f k a c s m b w y z x = some (sdStepM a c s m b w y z x, y) := by
  unfold spec_sdNext.f
  rw [spec_sdStep_v a c s m b w y z x k h hy hz hx hk]
  rfl

theorem laws_toWord_v (a : Int) (b : Bool) : laws_toWord.f a b = some (a, b) := rfl

theorem laws_toSecond_v (a c s m b : Int) (w : Bool) : laws_toSecond.f a c s m b w = some (a, c, s, m, b, w) := rfl

theorem impl_in_v (a b c : Int) : impl_in.f a b c = some (inR a b c) := inR_le a b c

theorem impl_isFactor_v (a : Int) : impl_isFactor.f a = some (inR a (-1024) 1024) := by
  simp only [impl_isFactor.f, impl_in_v, Option.bind_some]

theorem impl_isScale_v (s m : Int) : impl_isScale.f s m = some (inR s 0 10 && inR m 0 2) := by
  simp only [impl_isScale.f, impl_in_v, Option.bind_some, bind_and]

theorem impl_isWord_v (a : Int) (b : Bool) : impl_isWord.f a b = some (inR a 2 16) := by simp [impl_isWord.f, impl_in_v]

theorem impl_isSecond_v (a c s m b : Int) (w : Bool) : impl_isSecond.f a c s m b w = some (sdB a c s m b) := by
  simp only [impl_isSecond.f, impl_isFactor_v, impl_isScale_v, impl_isWord_v, Option.bind_some, bind_and]
  rw [sdB_impl]

theorem impl_Word_ends_v (b : Int) (w : Bool) (h1 : 2 ≤ b) (h2 : b ≤ 16) : impl_Word_ends.f b w = some (-pw (b - 1), pw (b - 1) - 1) := by
  have := pw_pos (b - 1)
  have := pw_le (n := b - 1) (by omega)
  unfold impl_Word_ends.f
  rw [wrap_id (x := b - 1) (by omega) (by omega), if_pos (by omega), shl_one (by omega), wrap_id (x := -pw (b - 1)) (by omega) (by omega), wrap_id (x := pw (b - 1) - 1) (by omega) (by omega)]

theorem impl_Word_has_v (b : Int) (w : Bool) (x : Int) (h1 : 2 ≤ b) (h2 : b ≤ 16) : impl_Word_has.f b w x = some (inR x (-pw (b - 1)) (pw (b - 1) - 1)) := by
  unfold impl_Word_has.f
  simp only [impl_Word_ends_v b w h1 h2, impl_in_v, Option.bind_some]

theorem impl_Second_isAt_v (a c s m b : Int) (w : Bool) (y z : Int) : impl_Second_isAt.f a c s m b w y z = some (sdB a c s m b && (inR y (-pw (b - 1)) (pw (b - 1) - 1) && inR z (-pw (b - 1)) (pw (b - 1) - 1))) := by
  unfold impl_Second_isAt.f
  simp only [impl_isSecond_v, Option.bind_some]
  cases h : sdB a c s m b
  · simp
  · have := (sdB_true.mp h).2.2.2.2
    simp only [impl_Word_has_v b w _ this.1 this.2, Option.bind_some, bind_and, if_true, Bool.true_and]

theorem impl_isSample_v (x : Int) : impl_isSample.f x = some (inR x (-100000) 100000) := by simp only [impl_isSample.f, impl_in_v, Option.bind_some]

theorem impl_mod_v (x p : Int) (h1 : 1 ≤ p) (h2 : p ≤ 4611686018427387904) : impl_mod.f x p = some (x % p) := by
  have ht := tmod_bd x p h1
  unfold impl_mod.f
  rw [if_neg (by omega), wrap_id (by omega) (by omega), tmod2 x p h1]

theorem impl_Word_fit_v (b : Int) (w : Bool) (x : Int) (h1 : 2 ≤ b) (h2 : b ≤ 16) (h3 : -1152921504606846976 ≤ x) (h4 : x ≤ 1152921504606846976) : impl_Word_fit.f b w x = some (fitM b w x) := by
  have hp := pw_pos (b - 1)
  have hp2 : pw (b - 1) ≤ 1048576 := pw20 (by omega)
  unfold impl_Word_fit.f fitM
  simp only [impl_Word_ends_v b w h1 h2, Option.bind_some]
  cases w
  · simp only [Bool.false_eq_true, if_false, mn_min, mx_max]
  · have hr := Int.emod_nonneg (x + pw (b - 1)) (show 2 * pw (b - 1) ≠ 0 by omega)
    have hr2 := Int.emod_lt_of_pos (x + pw (b - 1)) (show 0 < 2 * pw (b - 1) by omega)
    simp only [if_true]
    rw [show x - -pw (b - 1) = x + pw (b - 1) by omega, wrap_id (x := x + pw (b - 1)) (by omega) (by omega), show pw (b - 1) - 1 - -pw (b - 1) = 2 * pw (b - 1) - 1 by omega, wrap_id (x := 2 * pw (b - 1) - 1) (by omega) (by omega), show 2 * pw (b - 1) - 1 + 1 = 2 * pw (b - 1) by omega, wrap_id (x := 2 * pw (b - 1)) (by omega) (by omega), impl_mod_v _ _ (by omega) (by omega)]
    simp only [Option.bind_some]
    rw [show (x + pw (b - 1)) % (2 * pw (b - 1)) + -pw (b - 1) = (x + pw (b - 1)) % (2 * pw (b - 1)) - pw (b - 1) by omega, wrap_id (by omega) (by omega), wrap_mid x _ hp]

theorem impl_shifted_v (x s m : Int) (k : Nat) (h1 : -1152921504606846976 ≤ x) (h2 : x ≤ 1152921504606846976) (h3 : 0 ≤ s) (h4 : s ≤ 20) (h5 : 0 ≤ m) (h6 : m ≤ 2) (hk : 1 ≤ k) : impl_shifted.f k x s m = some (shf x s m) := by
  obtain ⟨k, rfl⟩ : ∃ j, k = j + 1 := ⟨k - 1, by omega⟩
  have hp := pw_pos (s - 1)
  have hp2 := pw20 (s := s - 1) (by omega)
  unfold impl_shifted.f shf
  by_cases m1 : m = 1
  · subst m1
    simp only [impl_shifted.j0, if_true]
    by_cases c : s > 0
    · simp only [c, decide_true, if_true]
      rw [wrap_id (x := s - 1) (by omega) (by omega), if_pos (by omega), if_pos h3, shl_one (by omega), wrap_id (by omega) (by omega), shr_eq (by omega)] <;> simp
    · have : s = 0 := by omega
      subst this
      simp [shr_eq, pw_zero]
  · simp only [if_neg m1, impl_shifted.j0]
    by_cases m2 : m = 2
    · subst m2
      by_cases c : x < 0
      · have hb := floor_bd (-x) (pw s) (pw_pos s) (by omega) (by omega)
        simp only [c, h3, if_true, wrap_id (x := -x) (by omega) (by omega), shr_eq (x := -x) (n := s) (by omega)]
        rw [wrap_id (x := -(-x / pw s)) (by omega) (by omega)] <;> simp
      · simp [c, h3, shr_eq (x := x) (n := s) (by omega)]
    · simp [m2, h3, shr_eq (x := x) (n := s) (by omega)]

theorem impl_Second_step_v (a c s m b : Int) (w : Bool) (y z x : Int) (k : Nat) (h : sdB a c s m b = true) (hy : -100000 ≤ y ∧ y ≤ 100000) (hz : -100000 ≤ z ∧ z ≤ 100000) (hx : -100000 ≤ x ∧ x ≤ 100000) (hk : 2 ≤ k) : impl_Second_step.f k a c s m b w y z x = some (sdStepM a c s m b w y z x, y) := by
  obtain ⟨ha, hc, hs, hm, hb⟩ := sdB_true.mp h
  have h1 := mul_bd (a := a) (c := y) (by omega) hy
  have h1' := mul_bd (a := c) (c := z) (by omega) hz
  have h2 := shf_bd2 (x := a * y + c * z) (s := s) (m := m) (by omega) (by omega) (by omega) (by omega)
  unfold impl_Second_step.f impl_Second_raw.f sdStepM
  rw [wrap_id (x := a * y) (by omega) (by omega), wrap_id (x := c * z) (by omega) (by omega), wrap_id (x := a * y + c * z) (by omega) (by omega), impl_shifted_v (a * y + c * z) s m k (by omega) (by omega) (by omega) (by omega) (by omega) (by omega) (by omega)]
  simp only [Option.bind_some]
  rw [wrap_id (x := shf (a * y + c * z) s m + x) (by omega) (by omega), impl_Word_fit_v b w _ (by omega) (by omega) (by omega) (by omega)]
  simp only [Option.bind_some]

-- import Walk
/-- The pairs of a filter's run. -/
def stM (a c s m b : Int) (w : Bool) (x : Int) (p : Int × Int) : Int × Int := (sdStepM a c s m b w p.1 p.2 x, p.1)
def PR (b : Int) (p : Int × Int) : Prop := (-pw (b - 1) ≤ p.1 ∧ p.1 ≤ pw (b - 1) - 1) ∧ (-pw (b - 1) ≤ p.2 ∧ p.2 ≤ pw (b - 1) - 1)
theorem PR.it {a c s m b : Int} {w : Bool} {x : Int} {p : Int × Int} (h : PR b p) : ∀ n, PR b (itM (stM a c s m b w x) p n)
  | 0 => h
  | n + 1 => ⟨sdStepM_bd _ _ _ _ _ _ _ _ _, (PR.it h n).1⟩
theorem PR.bd {b : Int} {p : Int × Int} (h : PR b p) (hb : b ≤ 16) : (-100000 ≤ p.1 ∧ p.1 ≤ 100000) ∧ (-100000 ≤ p.2 ∧ p.2 ≤ 100000) := by
  have hp15 : pw (b - 1) ≤ 32768 := Int.le_trans (pw_mono (show b - 1 ≤ 15 by omega)) (by decide)
  obtain ⟨h1, h2⟩ := h
  omega
theorem wf_mid {y : Int} (h : -100000 ≤ y ∧ y ≤ 100000) : (Lit.int .i64 y).wf = true := by
  simp [Lit.wf, IntKind.min, IntKind.max, IntKind.signed, IntKind.bits]
  omega
/-! ### the program's walk -/
def seenM (it : Nat → Int × Int) (n : Nat) : List (Int × Int) := (List.range n).map it
theorem seenM_succ (it : Nat → Int × Int) (n : Nat) : seenM it (n + 1) = seenM it n ++ [((it n).1, (it n).2)] := by simp [seenM, List.range_succ]
theorem seenM_length (it : Nat → Int × Int) (n : Nat) : (seenM it n).length = n := by simp [seenM]
theorem hist_isMap (it : Nat → Int × Int) : ∀ n, Maps.IsMap (impl_Second_history.D (seenM it n))
  | 0 => Maps.isMap_empty
  | n + 1 => by rw [seenM_succ, impl_Second_history.D_snoc]; exact (hist_isMap it n).put _ _
theorem hist_inv (it : Nat → Int × Int) (hw : ∀ n, (Lit.int .i64 (it n).1).wf = true ∧ (Lit.int .i64 (it n).2).wf = true) : ∀ n, (∀ i j, i < j → j < n → it i ≠ it j) → ∀ p : Int × Int, (Lit.int .i64 p.1).wf = true → (Lit.int .i64 p.2).wf = true →
    (∀ i, i < n → it i = p → Maps.has (impl_Second_history.D (seenM it n)) (impl_Second_history.key p.1 p.2) = true ∧ impl_Second_history.at_ (seenM it n) p.1 p.2 = (i : Int)) ∧ ((∀ i, i < n → it i ≠ p) → Maps.has (impl_Second_history.D (seenM it n)) (impl_Second_history.key p.1 p.2) = false)
  | 0, _, p, _, _ => ⟨fun i hi => by omega, fun _ => rfl⟩
  | n + 1, hd, p, hp1, hp2 => by
    obtain ⟨ih1, ih2⟩ := hist_inv it hw n (fun i j h1 h2 => hd i j h1 (by omega)) p hp1 hp2
    unfold impl_Second_history.at_
    rw [seenM_succ, impl_Second_history.D_snoc, seenM_length]
    have hl : WideAt.IsKeyLit (impl_Second_history.key p.1 p.2) := trivial
    by_cases e : it n = p
    · subst e
      rw [Maps.has_put_same (hist_isMap it n) hl, Maps.atKey_put_same (hist_isMap it n) hl]
      refine ⟨fun i hi hi2 => ⟨rfl, ?_⟩, fun h => absurd rfl (h n (by omega))⟩
      by_cases c : i = n
      · subst c; rfl
      · exact absurd hi2 (hd i n (by omega) (by omega))
    · have hne : impl_Second_history.key p.1 p.2 ≠ impl_Second_history.key (it n).1 (it n).2 := by
        intro h
        obtain ⟨h1, h2⟩ := impl_Second_history.key_inj hp1 hp2 (hw n).1 (hw n).2 h
        exact e (Prod.ext h1.symm h2.symm)
      rw [Maps.has_put_other hne, Maps.atKey_put_other hne]
      refine ⟨fun i hi hi2 => ?_, fun h => ih2 (fun i hi => h i (by omega))⟩
      have : i ≠ n := fun e2 => e (e2 ▸ hi2)
      exact ih1 i (by omega) hi2
theorem hist_ev (a c s m b : Int) (w : Bool) (x : Int) (p : Int × Int) (h : sdB a c s m b = true) (hp : PR b p) (hx : -100000 ≤ x ∧ x ≤ 100000) : ∀ (d n : Nat), n + d = 20001 → (∀ i j, i < j → j < n → itM (stM a c s m b w x) p i ≠ itM (stM a c s m b w x) p j) →
    (∃ l j, l ≤ 20000 ∧ Rep (itM (stM a c s m b w x) p) l j ∧ ∃ xs, xs.length = l ∧ Ev (fun k => impl_Second_history.l0 k a c s m b w x (itM (stM a c s m b w x) p n).1 (itM (stM a c s m b w x) p n).2 (seenM (itM (stM a c s m b w x) p) n)) (xs, (j : Int), true)) ∨
    ((∀ i j, i < j → j ≤ 20000 → itM (stM a c s m b w x) p i ≠ itM (stM a c s m b w x) p j) ∧ Ev (fun k => impl_Second_history.l0 k a c s m b w x (itM (stM a c s m b w x) p n).1 (itM (stM a c s m b w x) p n).2 (seenM (itM (stM a c s m b w x) p) n)) ([], 0, false))
  | 0, n, hn, hd => by
    refine .inr ⟨fun i j h1 h2 => hd i j h1 (by omega), ⟨1, fun k hk => ?_⟩⟩
    obtain ⟨k, rfl⟩ := pred (show 0 < k by omega)
    show impl_Second_history.l0 (k + 1) a c s m b w x _ _ _ = _
    simp only [impl_Second_history.l0]
    rw [if_neg (by rw [seenM_length]; omega)]
  | d + 1, n, hn, hd => by
    obtain ⟨_, _, _, _, hb⟩ := sdB_true.mp h
    have hbd : ∀ n, (-100000 ≤ (itM (stM a c s m b w x) p n).1 ∧ (itM (stM a c s m b w x) p n).1 ≤ 100000) ∧ (-100000 ≤ (itM (stM a c s m b w x) p n).2 ∧ (itM (stM a c s m b w x) p n).2 ≤ 100000) := fun n => (hp.it n).bd hb.2
    have hw : ∀ n, (Lit.int .i64 (itM (stM a c s m b w x) p n).1).wf = true ∧ (Lit.int .i64 (itM (stM a c s m b w x) p n).2).wf = true := fun n => ⟨wf_mid (hbd n).1, wf_mid (hbd n).2⟩
    obtain ⟨i1, i2⟩ := hist_inv _ hw n hd (itM (stM a c s m b w x) p n) (hw n).1 (hw n).2
    by_cases e : ∃ j, j < n ∧ itM (stM a c s m b w x) p j = itM (stM a c s m b w x) p n
    · obtain ⟨j, hj, ej⟩ := e
      obtain ⟨g1, g2⟩ := i1 j hj ej
      refine .inl ⟨n, j, by omega, ⟨hj, ej, hd⟩, seenM (itM (stM a c s m b w x) p) n, seenM_length _ _, ⟨1, fun k hk => ?_⟩⟩
      obtain ⟨k, rfl⟩ := pred (show 0 < k by omega)
      show impl_Second_history.l0 (k + 1) a c s m b w x _ _ _ = _
      simp only [impl_Second_history.l0]
      rw [if_pos (by rw [seenM_length]; omega), if_pos (hw n), if_pos g1, g2]
    · have hne : ∀ j, j < n → itM (stM a c s m b w x) p j ≠ itM (stM a c s m b w x) p n := fun j hj ej => e ⟨j, hj, ej⟩
      have g1 := i2 hne
      have key : ∀ (r : List (Int × Int) × Int × Bool), Ev (fun k => impl_Second_history.l0 k a c s m b w x (itM (stM a c s m b w x) p (n + 1)).1 (itM (stM a c s m b w x) p (n + 1)).2 (seenM (itM (stM a c s m b w x) p) (n + 1))) r → Ev (fun k => impl_Second_history.l0 k a c s m b w x (itM (stM a c s m b w x) p n).1 (itM (stM a c s m b w x) p n).2 (seenM (itM (stM a c s m b w x) p) n)) r := by
        intro r hr
        obtain ⟨K, hK⟩ := hr
        refine ⟨K + 3, fun k hk => ?_⟩
        obtain ⟨k, rfl⟩ := pred (show K + 2 < k by omega)
        have := hK k (by omega)
        show impl_Second_history.l0 (k + 1) a c s m b w x _ _ _ = _
        simp only [impl_Second_history.l0]
        rw [if_pos (by rw [seenM_length]; omega), if_pos (hw n), if_neg (by rw [g1]; decide), impl_Second_step_v a c s m b w _ _ x k h (hbd n).1 (hbd n).2 hx (by omega)]
        rw [seenM_succ] at this
        exact this
      have hd' : ∀ i j, i < j → j < n + 1 → itM (stM a c s m b w x) p i ≠ itM (stM a c s m b w x) p j := by
        intro i j h1 h2
        by_cases c : j < n
        · exact hd i j h1 c
        · have : j = n := by omega
          subst this
          exact hne i h1
      rcases hist_ev a c s m b w x p h hp hx d (n + 1) (by omega) hd' with ⟨l, j, q1, q2, xs, q3, q4⟩ | ⟨q1, q2⟩
      · exact .inl ⟨l, j, q1, q2, xs, q3, key _ q4⟩
      · exact .inr ⟨q1, key _ q2⟩
/-! ### the reference's two walkers -/
section Two
variable (a c s m b : Int) (w : Bool) (x : Int) (p : Int × Int) (h : sdB a c s m b = true) (hp : PR b p) (hx : -100000 ≤ x ∧ x ≤ 100000)
include h hp hx
theorem next_v (n k : Nat) (hk : 2 ≤ k) : spec_sdNext.f k a c s m b w (itM (stM a c s m b w x) p n).1 (itM (stM a c s m b w x) p n).2 x = some ((itM (stM a c s m b w x) p (n + 1)).1, (itM (stM a c s m b w x) p (n + 1)).2) := by
  obtain ⟨_, _, _, _, hb⟩ := sdB_true.mp h
  have hbd := (hp.it (a := a) (c := c) (s := s) (m := m) (w := w) (x := x) n).bd hb.2
  exact spec_sdNext_v a c s m b w _ _ x k h hbd.1 hbd.2 hx hk
/-- The third walk where the place st comes again: not before 20000 is past. -/
theorem ph3_no (st : Nat) (hst : st ≤ 100000) (hd : ∀ i j, i < j → j ≤ 20000 → itM (stM a c s m b w x) p i ≠ itM (stM a c s m b w x) p j) : ∀ (d t : Nat), 1 ≤ t → t + d = 20000 →
    Ev (fun k => spec_sdMeet.l2 k x st t a c s m b w p.1 p.2 (itM (stM a c s m b w x) p st).1 (itM (stM a c s m b w x) p st).2 (itM (stM a c s m b w x) p (st + t)).1 (itM (stM a c s m b w x) p (st + t)).2) (0, p.1, p.2, 0) := by
  intro d
  induction d with
  | zero =>
    intro t ht hd2
    refine ⟨1, fun k hk => ?_⟩
    obtain ⟨k, rfl⟩ := pred (show 0 < k by omega)
    show spec_sdMeet.l2 (k + 1) x st t a c s m b w p.1 p.2 _ _ _ _ = _
    simp only [spec_sdMeet.l2]
    by_cases e : itM (stM a c s m b w x) p (st + t) = itM (stM a c s m b w x) p st
    · have h20 : 20000 < st + t := by
        apply Nat.lt_of_not_le
        intro hc
        exact hd st (st + t) (by omega) hc e.symm
      rw [if_neg (fun hn => (ne_pair _ _).mp hn e), wrap_id (x := (st : Int) + (t : Int)) (by omega) (by omega), if_pos (by omega)]
    · rw [if_pos ((ne_pair _ _).mpr e), wrap_id (x := (t : Int) + 1) (by omega) (by omega), if_pos (by omega)]
  | succ d ih =>
    intro t ht hd2
    obtain ⟨K, hK⟩ := ih (t + 1) (by omega) (by omega)
    refine ⟨K + 3, fun k hk => ?_⟩
    obtain ⟨k, rfl⟩ := pred (show K + 2 < k by omega)
    show spec_sdMeet.l2 (k + 1) x st t a c s m b w p.1 p.2 _ _ _ _ = _
    simp only [spec_sdMeet.l2]
    by_cases e : itM (stM a c s m b w x) p (st + t) = itM (stM a c s m b w x) p st
    · have h20 : 20000 < st + t := by
        apply Nat.lt_of_not_le
        intro hc
        exact hd st (st + t) (by omega) hc e.symm
      rw [if_neg (fun hn => (ne_pair _ _).mp hn e), wrap_id (x := (st : Int) + (t : Int)) (by omega) (by omega), if_pos (by omega)]
    · rw [if_pos ((ne_pair _ _).mpr e), wrap_id (x := (t : Int) + 1) (by omega) (by omega), if_neg (by omega), next_v a c s m b w x p h hp hx (st + t) k (by omega)]
      have := hK k (by omega)
      rw [show ((t + 1 : Nat) : Int) = (t : Int) + 1 by omega] at this
      exact this
/-- The third walk where it comes back in time. -/
theorem ph3_yes (st P : Nat) (hP : st + P ≤ 20000) (he : itM (stM a c s m b w x) p (st + P) = itM (stM a c s m b w x) p st) (hl : ∀ t, 1 ≤ t → t < P → itM (stM a c s m b w x) p (st + t) ≠ itM (stM a c s m b w x) p st) : ∀ (d t : Nat), 1 ≤ t → t + d = P →
    Ev (fun k => spec_sdMeet.l2 k x st t a c s m b w p.1 p.2 (itM (stM a c s m b w x) p st).1 (itM (stM a c s m b w x) p st).2 (itM (stM a c s m b w x) p (st + t)).1 (itM (stM a c s m b w x) p (st + t)).2) ((st : Int), (itM (stM a c s m b w x) p st).1, (itM (stM a c s m b w x) p st).2, (P : Int)) := by
  intro d
  induction d with
  | zero =>
    intro t ht hd2
    refine ⟨1, fun k hk => ?_⟩
    obtain ⟨k, rfl⟩ := pred (show 0 < k by omega)
    have e2 : t = P := by omega
    subst e2
    show spec_sdMeet.l2 (k + 1) x st t a c s m b w p.1 p.2 _ _ _ _ = _
    simp only [spec_sdMeet.l2]
    rw [if_neg (fun hn => (ne_pair _ _).mp hn he), wrap_id (x := (st : Int) + (t : Int)) (by omega) (by omega), if_neg (by omega)]
  | succ d ih =>
    intro t ht hd2
    obtain ⟨K, hK⟩ := ih (t + 1) (by omega) (by omega)
    refine ⟨K + 3, fun k hk => ?_⟩
    obtain ⟨k, rfl⟩ := pred (show K + 2 < k by omega)
    have e := hl t ht (by omega)
    show spec_sdMeet.l2 (k + 1) x st t a c s m b w p.1 p.2 _ _ _ _ = _
    simp only [spec_sdMeet.l2]
    rw [if_pos ((ne_pair _ _).mpr e), wrap_id (x := (t : Int) + 1) (by omega) (by omega), if_neg (by omega), next_v a c s m b w x p h hp hx (st + t) k (by omega)]
    have := hK k (by omega)
    rw [show ((t + 1 : Nat) : Int) = (t : Int) + 1 by omega] at this
    exact this
/-- The second walk: to the least place at which both are one. -/
theorem ph2 (M S : Nat) (hS : S ≤ 100000) (he : itM (stM a c s m b w x) p S = itM (stM a c s m b w x) p (M + S)) (hl : ∀ t, 0 ≤ t → t < S → ¬ itM (stM a c s m b w x) p t = itM (stM a c s m b w x) p (M + t)) (R : Int × Int × Int × Int)
    (hR : Ev (fun k => spec_sdMeet.l2 k x S 1 a c s m b w p.1 p.2 (itM (stM a c s m b w x) p S).1 (itM (stM a c s m b w x) p S).2 (itM (stM a c s m b w x) p (S + 1)).1 (itM (stM a c s m b w x) p (S + 1)).2) R) : ∀ (d t : Nat), t + d = S →
    Ev (fun k => spec_sdMeet.l1 k x t a c s m b w p.1 p.2 (itM (stM a c s m b w x) p t).1 (itM (stM a c s m b w x) p t).2 (itM (stM a c s m b w x) p (M + t)).1 (itM (stM a c s m b w x) p (M + t)).2) R := by
  intro d
  induction d with
  | zero =>
    intro t hd2
    have e2 : t = S := by omega
    subst e2
    obtain ⟨K, hK⟩ := hR
    refine ⟨K + 3, fun k hk => ?_⟩
    obtain ⟨k, rfl⟩ := pred (show K + 2 < k by omega)
    show spec_sdMeet.l1 (k + 1) x t a c s m b w p.1 p.2 _ _ _ _ = _
    simp only [spec_sdMeet.l1]
    rw [if_neg (fun hn => (ne_pair _ _).mp hn he), next_v a c s m b w x p h hp hx t k (by omega)]
    exact hK k (by omega)
  | succ d ih =>
    intro t hd2
    obtain ⟨K, hK⟩ := ih (t + 1) (by omega)
    refine ⟨K + 3, fun k hk => ?_⟩
    obtain ⟨k, rfl⟩ := pred (show K + 2 < k by omega)
    have e := hl t (by omega) (by omega)
    show spec_sdMeet.l1 (k + 1) x t a c s m b w p.1 p.2 _ _ _ _ = _
    simp only [spec_sdMeet.l1]
    rw [if_pos ((ne_pair _ _).mpr e), next_v a c s m b w x p h hp hx t k (by omega)]
    simp only [Option.bind_some]
    rw [next_v a c s m b w x p h hp hx (M + t) k (by omega)]
    simp only [Option.bind_some]
    rw [wrap_id (x := (t : Int) + 1) (by omega) (by omega)]
    have := hK k (by omega)
    rw [show ((t + 1 : Nat) : Int) = (t : Int) + 1 by omega] at this
    exact this
/-- The first walk: to the least place at which the fast one is caught. -/
theorem ph1 (M : Nat) (hM1 : 1 ≤ M) (hM : M ≤ 40001) (he : itM (stM a c s m b w x) p M = itM (stM a c s m b w x) p (2 * M)) (hl : ∀ t, 1 ≤ t → t < M → ¬ itM (stM a c s m b w x) p t = itM (stM a c s m b w x) p (2 * t)) (R : Int × Int × Int × Int)
    (hR : Ev (fun k => spec_sdMeet.l1 k x 0 a c s m b w p.1 p.2 p.1 p.2 (itM (stM a c s m b w x) p M).1 (itM (stM a c s m b w x) p M).2) R) : ∀ (d t : Nat), 1 ≤ t → t + d = M →
    Ev (fun k => spec_sdMeet.l0 k x t a c s m b w p.1 p.2 (itM (stM a c s m b w x) p t).1 (itM (stM a c s m b w x) p t).2 (itM (stM a c s m b w x) p (2 * t)).1 (itM (stM a c s m b w x) p (2 * t)).2) R := by
  intro d
  induction d with
  | zero =>
    intro t ht hd2
    have e2 : t = M := by omega
    subst e2
    obtain ⟨K, hK⟩ := hR
    refine ⟨K + 3, fun k hk => ?_⟩
    obtain ⟨k, rfl⟩ := pred (show K + 2 < k by omega)
    show spec_sdMeet.l0 (k + 1) x t a c s m b w p.1 p.2 _ _ _ _ = _
    simp only [spec_sdMeet.l0]
    rw [if_neg (fun hn => (ne_pair _ _).mp hn he), ← he]
    exact hK k (by omega)
  | succ d ih =>
    intro t ht hd2
    obtain ⟨K, hK⟩ := ih (t + 1) (by omega) (by omega)
    refine ⟨K + 3, fun k hk => ?_⟩
    obtain ⟨k, rfl⟩ := pred (show K + 2 < k by omega)
    have e := hl t ht (by omega)
    show spec_sdMeet.l0 (k + 1) x t a c s m b w p.1 p.2 _ _ _ _ = _
    simp only [spec_sdMeet.l0]
    rw [if_pos ((ne_pair _ _).mpr e), if_neg (by omega), next_v a c s m b w x p h hp hx t k (by omega)]
    simp only [Option.bind_some]
    rw [next_v a c s m b w x p h hp hx (2 * t) k (by omega)]
    simp only [Option.bind_some]
    rw [next_v a c s m b w x p h hp hx (2 * t + 1) k (by omega)]
    simp only [Option.bind_some]
    rw [wrap_id (x := (t : Int) + 1) (by omega) (by omega)]
    have := hK k (by omega)
    rw [show ((t + 1 : Nat) : Int) = (t : Int) + 1 by omega, show 2 * (t + 1) = 2 * t + 1 + 1 by omega] at this
    exact this
/-- The first walk where it isn't caught in time. -/
theorem ph1_no (hl : ∀ t, 1 ≤ t → t ≤ 40001 → ¬ itM (stM a c s m b w x) p t = itM (stM a c s m b w x) p (2 * t)) : ∀ (d t : Nat), 1 ≤ t → t + d = 40001 →
    Ev (fun k => spec_sdMeet.l0 k x t a c s m b w p.1 p.2 (itM (stM a c s m b w x) p t).1 (itM (stM a c s m b w x) p t).2 (itM (stM a c s m b w x) p (2 * t)).1 (itM (stM a c s m b w x) p (2 * t)).2) (0, p.1, p.2, 0) := by
  intro d
  induction d with
  | zero =>
    intro t ht hd2
    refine ⟨1, fun k hk => ?_⟩
    obtain ⟨k, rfl⟩ := pred (show 0 < k by omega)
    have e := hl t ht (by omega)
    show spec_sdMeet.l0 (k + 1) x t a c s m b w p.1 p.2 _ _ _ _ = _
    simp only [spec_sdMeet.l0]
    rw [if_pos ((ne_pair _ _).mpr e), if_pos (by omega)]
  | succ d ih =>
    intro t ht hd2
    obtain ⟨K, hK⟩ := ih (t + 1) (by omega) (by omega)
    refine ⟨K + 3, fun k hk => ?_⟩
    obtain ⟨k, rfl⟩ := pred (show K + 2 < k by omega)
    have e := hl t ht (by omega)
    show spec_sdMeet.l0 (k + 1) x t a c s m b w p.1 p.2 _ _ _ _ = _
    simp only [spec_sdMeet.l0]
    rw [if_pos ((ne_pair _ _).mpr e), if_neg (by omega), next_v a c s m b w x p h hp hx t k (by omega)]
    simp only [Option.bind_some]
    rw [next_v a c s m b w x p h hp hx (2 * t) k (by omega)]
    simp only [Option.bind_some]
    rw [next_v a c s m b w x p h hp hx (2 * t + 1) k (by omega)]
    simp only [Option.bind_some]
    rw [wrap_id (x := (t : Int) + 1) (by omega) (by omega)]
    have := hK k (by omega)
    rw [show ((t + 1 : Nat) : Int) = (t : Int) + 1 by omega, show 2 * (t + 1) = 2 * t + 1 + 1 by omega] at this
    exact this
theorem meet_of (R : Int × Int × Int × Int) (hR : Ev (fun k => spec_sdMeet.l0 k x (1 : Nat) a c s m b w p.1 p.2 (itM (stM a c s m b w x) p 1).1 (itM (stM a c s m b w x) p 1).2 (itM (stM a c s m b w x) p (2 * 1)).1 (itM (stM a c s m b w x) p (2 * 1)).2) R) : Ev (fun k => spec_sdMeet.f k a c s m b w p.1 p.2 x) R := by
  obtain ⟨K, hK⟩ := hR
  refine ⟨K + 3, fun k hk => ?_⟩
  have h0 := next_v a c s m b w x p h hp hx 0 k (by omega)
  have h1 := next_v a c s m b w x p h hp hx 1 k (by omega)
  have h0' : spec_sdNext.f k a c s m b w p.1 p.2 x = some ((itM (stM a c s m b w x) p (0 + 1)).1, (itM (stM a c s m b w x) p (0 + 1)).2) := h0
  show spec_sdMeet.f k a c s m b w p.1 p.2 x = _
  unfold spec_sdMeet.f
  rw [h0']
  simp only [Option.bind_some]
  rw [h1]
  simp only [Option.bind_some]
  exact hK k (by omega)
theorem meet_yes {l j : Nat} (hl : l ≤ 20000) (hr : Rep (itM (stM a c s m b w x) p) l j) : Ev (fun k => spec_sdMeet.f k a c s m b w p.1 p.2 x) ((j : Int), (itM (stM a c s m b w x) p j).1, (itM (stM a c s m b w x) p j).2, ((l - j : Nat) : Int)) := by
  have hg : ∀ n, itM (stM a c s m b w x) p (n + 1) = stM a c s m b w x (itM (stM a c s m b w x) p n) := fun n => rfl
  obtain ⟨n, n1, n2, n3⟩ := hr.meets hg
  obtain ⟨M, m1, m2, m3, m4⟩ := least (Q := fun t => itM (stM a c s m b w x) p t = itM (stM a c s m b w x) p (2 * t)) n1 n3
  obtain ⟨S, s1, s2, s3, s4⟩ := least (Q := fun t => itM (stM a c s m b w x) p t = itM (stM a c s m b w x) p (M + t)) (Nat.zero_le M) (by show _ = _; rw [← Nat.two_mul]; exact m3)
  have hS : S = j := hr.start hg m1 m3 s3 (fun t ht => s4 t (by omega) ht)
  subst hS
  have hj := hr.1
  refine meet_of a c s m b w x p h hp hx _ (ph1 a c s m b w x p h hp hx M m1 (by omega) m3 m4 _ (ph2 a c s m b w x p h hp hx M S (by omega) s3 s4 _ (ph3_yes a c s m b w x p h hp hx S (l - S) (by omega) (by rw [show S + (l - S) = l by omega]; exact hr.2.1.symm) (fun t t1 t2 e => hr.2.2 S (S + t) (by omega) (by omega) e.symm) (l - S - 1) 1 (by omega) (by omega)) S 0 (by omega)) (M - 1) 1 (by omega) (by omega))
theorem meet_no (hd : ∀ i j, i < j → j ≤ 20000 → itM (stM a c s m b w x) p i ≠ itM (stM a c s m b w x) p j) : Ev (fun k => spec_sdMeet.f k a c s m b w p.1 p.2 x) (0, p.1, p.2, 0) := by
  by_cases e : ∃ t, 1 ≤ t ∧ t ≤ 40001 ∧ itM (stM a c s m b w x) p t = itM (stM a c s m b w x) p (2 * t)
  · obtain ⟨n, n1, n2, n3⟩ := e
    obtain ⟨M, m1, m2, m3, m4⟩ := least (Q := fun t => itM (stM a c s m b w x) p t = itM (stM a c s m b w x) p (2 * t)) n1 n3
    obtain ⟨S, s1, s2, s3, s4⟩ := least (Q := fun t => itM (stM a c s m b w x) p t = itM (stM a c s m b w x) p (M + t)) (Nat.zero_le M) (by show _ = _; rw [← Nat.two_mul]; exact m3)
    exact meet_of a c s m b w x p h hp hx _ (ph1 a c s m b w x p h hp hx M m1 (by omega) m3 m4 _ (ph2 a c s m b w x p h hp hx M S (by omega) s3 s4 _ (ph3_no a c s m b w x p h hp hx S (by omega) hd 19999 1 (by omega) (by omega)) S 0 (by omega)) (M - 1) 1 (by omega) (by omega))
  · exact meet_of a c s m b w x p h hp hx _ (ph1_no a c s m b w x p h hp hx (fun t t1 t2 q => e ⟨t, t1, t2, q⟩) 40000 1 (by omega) (by omega))
end Two
theorem pair_e (a c s m b : Int) (w : Bool) (y z x : Int) : ∃ v, Ev (fun k => spec_PairPeriod.f k a c s m b w y z x) v ∧ Ev (fun k => impl_PairPeriod.f k a c s m b w y z x) v := by
  cases cc : (sdB a c s m b && (inR y (-pw (b - 1)) (pw (b - 1) - 1) && (inR z (-pw (b - 1)) (pw (b - 1) - 1) && inR x (-100000) 100000)))
  · refine ⟨(0, 0, false), ⟨0, fun k hk => ?_⟩, ⟨1, fun k hk => ?_⟩⟩
    · show spec_PairPeriod.f k a c s m b w y z x = _
      unfold spec_PairPeriod.f
      simp only [spec_sdAsked_v, Option.bind_some, cc]
      rfl
    · obtain ⟨k, rfl⟩ := pred (show 0 < k by omega)
      show impl_PairPeriod.f (k + 1) a c s m b w y z x = _
      unfold impl_PairPeriod.f
      simp only [impl_Second_isAt_v, impl_isSample_v, Option.bind_some]
      cases c1 : (sdB a c s m b && (inR y (-pw (b - 1)) (pw (b - 1) - 1) && inR z (-pw (b - 1)) (pw (b - 1) - 1)))
      · simp [impl_PairPeriod.j0]
      · have c2 : inR x (-100000) 100000 = false := by
          simp only [Bool.and_eq_true] at c1
          rw [c1.1, c1.2.1, c1.2.2] at cc
          simpa using cc
        simp [c2, impl_PairPeriod.j0]
  · have cc' := cc
    simp only [Bool.and_eq_true, inR_true] at cc
    obtain ⟨h, hy, hz, hx⟩ := cc
    have hp : PR b (y, z) := ⟨hy, hz⟩
    have hx1 := inR_true.mpr hx
    have c1 : (sdB a c s m b && (inR y (-pw (b - 1)) (pw (b - 1) - 1) && inR z (-pw (b - 1)) (pw (b - 1) - 1))) = true := by
      rw [h, inR_true.mpr hy, inR_true.mpr hz]; rfl
    rcases hist_ev a c s m b w x (y, z) h hp hx 20001 0 (by omega) (fun i j _ hj => by omega) with ⟨l, j, q1, q2, xs, q3, ⟨K2, e2⟩⟩ | ⟨q1, ⟨K2, e2⟩⟩
    · obtain ⟨K1, e1⟩ := meet_yes a c s m b w x (y, z) h hp hx q1 q2
      have hj := q2.1
      refine ⟨((j : Int), ((l - j : Nat) : Int), true), ⟨K1, fun k hk => ?_⟩, ⟨K2 + 1, fun k hk => ?_⟩⟩
      · have f1 : spec_sdMeet.f k a c s m b w y z x = _ := e1 k hk
        show spec_PairPeriod.f k a c s m b w y z x = _
        unfold spec_PairPeriod.f
        simp only [spec_sdAsked_v, Option.bind_some, cc', if_true, f1]
        rw [if_neg (by omega)]
      · obtain ⟨k, rfl⟩ := pred (show K2 < k by omega)
        have f2 : impl_Second_history.f k a c s m b w y z x = _ := e2 k (by omega)
        show impl_PairPeriod.f (k + 1) a c s m b w y z x = _
        unfold impl_PairPeriod.f
        simp only [impl_Second_isAt_v, impl_isSample_v, Option.bind_some, c1, hx1, if_true, Bool.not_true, impl_PairPeriod.j0, Bool.false_eq_true, if_false, f2]
        rw [q3, wrap_id (x := (l : Int) - (j : Int)) (by omega) (by omega), show (l : Int) - (j : Int) = ((l - j : Nat) : Int) by omega]
    · obtain ⟨K1, e1⟩ := meet_no a c s m b w x (y, z) h hp hx q1
      refine ⟨(0, 0, false), ⟨K1, fun k hk => ?_⟩, ⟨K2 + 1, fun k hk => ?_⟩⟩
      · have f1 : spec_sdMeet.f k a c s m b w y z x = _ := e1 k hk
        show spec_PairPeriod.f k a c s m b w y z x = _
        unfold spec_PairPeriod.f
        simp only [spec_sdAsked_v, Option.bind_some, cc', if_true, f1]
      · obtain ⟨k, rfl⟩ := pred (show K2 < k by omega)
        have f2 : impl_Second_history.f k a c s m b w y z x = _ := e2 k (by omega)
        show impl_PairPeriod.f (k + 1) a c s m b w y z x = _
        unfold impl_PairPeriod.f
        simp only [impl_Second_isAt_v, impl_isSample_v, Option.bind_some, c1, hx1, if_true, Bool.not_true, impl_PairPeriod.j0, Bool.false_eq_true, if_false, f2]
theorem FnExactPairPeriod : laws_FnExactPairPeriod.Pure := by
  intro a c s m b w y z x _ _ _ _ _ _ _ _
  obtain ⟨v, ⟨K1, e1⟩, ⟨K2, e2⟩⟩ := pair_e a c s m b w y z x
  have f1 : spec_PairPeriod.f (K1 + K2) a c s m b w y z x = some v := e1 _ (by omega)
  have f2 : impl_PairPeriod.f (K1 + K2) a c s m b w y z x = some v := e2 _ (by omega)
  refine ⟨K1 + K2, ?_⟩
  simp [laws_FnExactPairPeriod.f, laws_toSecond_v, f1, f2]

end Go.Proofs.Ytljehmhiclccgaa.Pure
