/- The plain statement behind the law FnExactSecondStep: its walk's numbers answer true. Conditions: the given statement's own (each number is an int; each slice within the reach). -/
import Derived.Test.YtepjolkmmnnobaaQFnExactSecondStepx0
import Derived.Test.YtepjolkmmnnobaaQFnExactSecondStepx1
import Derived.Test.YtepjolkmmnnobaaQFnExactSecondStepx2
import Derived.Test.YtepjolkmmnnobaaQFnExactSecondStepx3
import Derived.Test.YtepjolkmmnnobaaBase
namespace Go.Proofs.Ytepjolkmmnnobaa.Pure
open Go.RowKit Go.Proofs.Ytepjolkmmnnobaa.QFnExactSecondStep Go.Proofs.YtepjolkmmnnobaaW.PrintWords Go.Proofs.YtepjolkmmnnobaaW.PrintLast Go.Proofs.YtepjolkmmnnobaaW.PrintMore Go.Proofs.Ytepjolkmmnnobaa.Base
set_option linter.unusedVariables false
set_option linter.unusedSimpArgs false

theorem spec_l1In_v (a b c : Int) : spec_l1In.f a b c = some (inR a b c) := inR_ge a b c

theorem spec_wdGood_v (a : Int) (b : Bool) : spec_wdGood.f a b = some (inR a 2 16) := by simp [spec_wdGood.f, spec_l1In_v]

theorem spec_wdLow_v (b : Int) (w : Bool) (h1 : 2 ≤ b) (h2 : b ≤ 16) : spec_wdLow.f b w = some (-pw (b - 1)) := by
  have := pw_pos (b - 1)
  have := pw_le (n := b - 1) (by omega)
  unfold spec_wdLow.f
  rw [wrap_id (x := b - 1) (by omega) (by omega), if_pos (by omega), shl_one (by omega), wrap_id (by omega) (by omega)]

theorem spec_wdHigh_v (b : Int) (w : Bool) (h1 : 2 ≤ b) (h2 : b ≤ 16) : spec_wdHigh.f b w = some (pw (b - 1) - 1) := by
  have := pw_pos (b - 1)
  have := pw_le (n := b - 1) (by omega)
  unfold spec_wdHigh.f
  rw [wrap_id (x := b - 1) (by omega) (by omega), if_pos (by omega), shl_one (by omega), wrap_id (by omega) (by omega)]

theorem spec_wdIn_v (b : Int) (w : Bool) (x : Int) : spec_wdIn.f b w x = some (inR b 2 16 && inR x (-pw (b - 1)) (pw (b - 1) - 1)) := by
  unfold spec_wdIn.f
  simp only [spec_wdGood_v, Option.bind_some]
  cases h : inR b 2 16
  · simp
  · obtain ⟨h1, h2⟩ := inR_true.mp h
    simp [spec_wdLow_v b w h1 h2, spec_wdHigh_v b w h1 h2, spec_l1In_v]

theorem spec_wdMode_v (s m : Int) : spec_wdMode.f s m = some (inR s 0 20 && inR m 0 2) := by
  simp only [spec_wdMode.f, spec_l1In_v, Option.bind_some, bind_and]

theorem spec_sdGood_v (a c s m b : Int) (w : Bool) : spec_sdGood.f a c s m b w = some (sdB a c s m b) := by
  simp only [spec_sdGood.f, spec_l1In_v, spec_wdMode_v, spec_wdGood_v, Option.bind_some, bind_and]
  rw [sdB_spec]

theorem spec_sdAsked_v (a c s m b : Int) (w : Bool) (y z x : Int) : spec_sdAsked.f a c s m b w y z x = some (sdB a c s m b && (inR y (-pw (b - 1)) (pw (b - 1) - 1) && (inR z (-pw (b - 1)) (pw (b - 1) - 1) && inR x (-100000) 100000))) := by
  unfold spec_sdAsked.f
  simp only [spec_sdGood_v, spec_wdIn_v, spec_l1In_v, Option.bind_some, bind_and]
  cases h : sdB a c s m b
  · simp
  · have := (sdB_true.mp h).2.2.2.2
    simp [inR_true.mpr this]

theorem spec_l1Least_v (a b : Int) : spec_l1Least.f a b = some (min a b) := by
  unfold spec_l1Least.f
  split <;> (congr 1; omega)

theorem spec_l1Most_v (a b : Int) : spec_l1Most.f a b = some (max a b) := by
  unfold spec_l1Most.f
  split <;> (congr 1; omega)

theorem spec_wdFit_v (b : Int) (w : Bool) (x : Int) (h1 : 2 ≤ b) (h2 : b ≤ 16) (h3 : -1152921504606846976 ≤ x) (h4 : x ≤ 1152921504606846976) : spec_wdFit.f b w x = some (fitM b w x) := by
  have hp := pw_pos (b - 1)
  have hp2 := pw_le (n := b) (by omega)
  have hp3 := pw_pred (n := b) (by omega)
  have ht := tmod_bd x (pw b) (by omega)
  have hr := Int.emod_nonneg x (show pw b ≠ 0 by omega)
  have hr2 := Int.emod_lt_of_pos x (show 0 < pw b by omega)
  unfold spec_wdFit.f fitM
  rw [← hp3]
  cases w
  · simp only [spec_wdHigh_v b false h1 h2, spec_wdLow_v b false h1 h2, spec_l1Most_v, spec_l1Least_v, Option.bind_some, if_false, Bool.false_eq_true]
    congr 1; omega
  · simp only [if_true, shl_one (n := b) (by omega), if_pos (show 0 ≤ b by omega), if_neg (show ¬ pw b = 0 by omega), spec_wdHigh_v b true h1 h2, Option.bind_some, wrap_id (x := Int.tmod x (pw b) + pw b) (by omega) (by omega), tmod2 x (pw b) (by omega), wrap_id (x := x % pw b - pw b) (by omega) (by omega)]
    split <;> rfl

theorem spec_wdShift_v (x s m : Int) (k : Nat) (h1 : -1152921504606846976 ≤ x) (h2 : x ≤ 1152921504606846976) (h3 : 0 ≤ s) (h4 : s ≤ 20) (h5 : 0 ≤ m) (h6 : m ≤ 2) (hk : 2 ≤ k) : spec_wdShift.f k x s m = some (shf x s m) := by
  obtain ⟨k, rfl⟩ : ∃ j, k = j + 2 := ⟨k - 2, by omega⟩
  have hp := pw_pos s
  have hp2 := pw20 h4
  have hd := Int.mul_ediv_add_emod x (pw s)
  have hr := Int.emod_nonneg x (show pw s ≠ 0 by omega)
  have hr2 := Int.emod_lt_of_pos x (show 0 < pw s by omega)
  have hb := floor_bd x (pw s) hp h1 h2
  unfold spec_wdShift.f
  rw [if_pos h3, shl_one (by omega), if_neg (by omega)]
  have key : ∀ d : Int, d = x / pw s → spec_wdShift.j0 (k + 2) x m (pw s) d = some (shf x s m) := by
    rintro d rfl
    simp only [spec_wdShift.j0, spec_wdShift.j1]
    have e1 : wrap64 (x / pw s * pw s) = x / pw s * pw s := wrap_id (by rw [Int.mul_comm]; omega) (by rw [Int.mul_comm]; omega)
    have e2 : x - x / pw s * pw s = x % pw s := by rw [Int.mul_comm]; omega
    rw [e1, e2, wrap_id (x := x % pw s) (by omega) (by omega), wrap_id (x := 2 * (x % pw s)) (by omega) (by omega), wrap_id (x := x / pw s + 1) (by omega) (by omega)]
    rw [shf_eq x s m h3 h4]
    by_cases m1 : m = 1
    · subst m1
      by_cases c1 : 2 * (x % pw s) ≥ pw s
      · by_cases c2 : x % pw s > 0
        · simp [c1, c2]
        · exfalso; omega
      · simp [c1]
    · by_cases m2 : m = 2
      · subst m2
        by_cases c1 : x < 0
        · by_cases c2 : x % pw s > 0 <;> simp [c1, c2]
        · simp [c1]
      · simp [m1, m2]
  have hb2 := td_bd x (pw s) hp h1 h2
  by_cases h : x < 0 ∧ x % pw s ≠ 0
  · rw [if_pos (by rw [tm_neg x (pw s) hp]; exact h)]
    exact key _ (by rw [wrap_id (x := Int.tdiv x (pw s)) (by omega) (by omega), td_low x (pw s) hp h, wrap_id (by omega) (by omega)])
  · rw [if_neg (by rw [tm_neg x (pw s) hp]; exact h)]
    exact key _ (by rw [wrap_id (x := Int.tdiv x (pw s)) (by omega) (by omega), td_high x (pw s) hp h])

theorem spec_sdStep_v (a c s m b : Int) (w : Bool) (y z x : Int) (k : Nat) (h : sdB a c s m b = true) (hy : -100000 ≤ y ∧ y ≤ 100000) (hz : -100000 ≤ z ∧ z ≤ 100000) (hx : -100000 ≤ x ∧ x ≤ 100000) (hk : 2 ≤ k) : spec_sdStep.f k a c s m b w y z x = some (sdStepM a c s m b w y z x) := by
  obtain ⟨ha, hc, hs, hm, hb⟩ := sdB_true.mp h
  have h1 := mul_bd (a := a) (c := y) (by omega) hy
  have h1' := mul_bd (a := c) (c := z) (by omega) hz
  have h2 := shf_bd2 (x := a * y + c * z) (s := s) (m := m) (by omega) (by omega) (by omega) (by omega)
  unfold spec_sdStep.f spec_sdRaw.f sdStepM
  rw [wrap_id (x := a * y) (by omega) (by omega), wrap_id (x := c * z) (by omega) (by omega), wrap_id (x := a * y + c * z) (by omega) (by omega), spec_wdShift_v (a * y + c * z) s m k (by omega) (by omega) (by omega) (by omega) (by omega) (by omega) (by omega)]
  simp only [Option.bind_some]
  rw [wrap_id (x := shf (a * y + c * z) s m + x) (by omega) (by omega), spec_wdFit_v b w _ (by omega) (by omega) (by omega) (by omega)]
  simp only [Option.bind_some]

theorem laws_toWord_v (a : Int) (b : Bool) : laws_toWord.f a b = some (a, b) := rfl

theorem laws_toSecond_v (a c s m b : Int) (w : Bool) : laws_toSecond.f a c s m b w = some (a, c, s, m, b, w) := rfl

theorem impl_in_v (a b c : Int) : impl_in.f a b c = some (inR a b c) := inR_le a b c

theorem impl_isSample_v (x : Int) : impl_isSample.f x = some (inR x (-100000) 100000) := by simp only [impl_isSample.f, impl_in_v, Option.bind_some]

theorem impl_Word_ends_v (b : Int) (w : Bool) (h1 : 2 ≤ b) (h2 : b ≤ 16) : impl_Word_ends.f b w = some (-pw (b - 1), pw (b - 1) - 1) := by
  have := pw_pos (b - 1)
  have := pw_le (n := b - 1) (by omega)
  unfold impl_Word_ends.f
  rw [wrap_id (x := b - 1) (by omega) (by omega), if_pos (by omega), shl_one (by omega), wrap_id (x := -pw (b - 1)) (by omega) (by omega), wrap_id (x := pw (b - 1) - 1) (by omega) (by omega)]

theorem impl_Word_has_v (b : Int) (w : Bool) (x : Int) (h1 : 2 ≤ b) (h2 : b ≤ 16) : impl_Word_has.f b w x = some (inR x (-pw (b - 1)) (pw (b - 1) - 1)) := by
  unfold impl_Word_has.f
  simp only [impl_Word_ends_v b w h1 h2, impl_in_v, Option.bind_some]

theorem impl_isWord_v (a : Int) (b : Bool) : impl_isWord.f a b = some (inR a 2 16) := by simp [impl_isWord.f, impl_in_v]

theorem impl_isFactor_v (a : Int) : impl_isFactor.f a = some (inR a (-1024) 1024) := by
  simp only [impl_isFactor.f, impl_in_v, Option.bind_some]

theorem impl_isScale_v (s m : Int) : impl_isScale.f s m = some (inR s 0 10 && inR m 0 2) := by
  simp only [impl_isScale.f, impl_in_v, Option.bind_some, bind_and]

theorem impl_isSecond_v (a c s m b : Int) (w : Bool) : impl_isSecond.f a c s m b w = some (sdB a c s m b) := by
  simp only [impl_isSecond.f, impl_isFactor_v, impl_isScale_v, impl_isWord_v, Option.bind_some, bind_and]
  rw [sdB_impl]

theorem impl_Second_isAt_v (a c s m b : Int) (w : Bool) (y z : Int) : impl_Second_isAt.f a c s m b w y z = some (sdB a c s m b && (inR y (-pw (b - 1)) (pw (b - 1) - 1) && inR z (-pw (b - 1)) (pw (b - 1) - 1))) := by
  unfold impl_Second_isAt.f
  simp only [impl_isSecond_v, Option.bind_some]
  cases h : sdB a c s m b
  · simp
  · have := (sdB_true.mp h).2.2.2.2
    simp only [impl_Word_has_v b w _ this.1 this.2, Option.bind_some, bind_and, if_true, Bool.true_and]

theorem impl_mod_v (x p : Int) (h1 : 1 ≤ p) (h2 : p ≤ 4611686018427387904) : impl_mod.f x p = some (x % p) := by
  have ht := tmod_bd x p h1
  unfold impl_mod.f
  rw [if_neg (by omega), wrap_id (by omega) (by omega), tmod2 x p h1]

theorem impl_Word_fit_v (b : Int) (w : Bool) (x : Int) (h1 : 2 ≤ b) (h2 : b ≤ 16) (h3 : -1152921504606846976 ≤ x) (h4 : x ≤ 1152921504606846976) : impl_Word_fit.f b w x = some (fitM b w x) := by
  have hp := pw_pos (b - 1)
  have hp2 : pw (b - 1) ≤ 1048576 := pw20 (by omega)
  unfold impl_Word_fit.f fitM
  simp only [impl_Word_ends_v b w h1 h2, Option.bind_some]
  cases w
  · simp only [Bool.false_eq_true, if_false, mn_min, mx_max]
  · have hr := Int.emod_nonneg (x + pw (b - 1)) (show 2 * pw (b - 1) ≠ 0 by omega)
    have hr2 := Int.emod_lt_of_pos (x + pw (b - 1)) (show 0 < 2 * pw (b - 1) by omega)
    simp only [if_true]
    rw [show x - -pw (b - 1) = x + pw (b - 1) by omega, wrap_id (x := x + pw (b - 1)) (by omega) (by omega), show pw (b - 1) - 1 - -pw (b - 1) = 2 * pw (b - 1) - 1 by omega, wrap_id (x := 2 * pw (b - 1) - 1) (by omega) (by omega), show 2 * pw (b - 1) - 1 + 1 = 2 * pw (b - 1) by omega, wrap_id (x := 2 * pw (b - 1)) (by omega) (by omega), impl_mod_v _ _ (by omega) (by omega)]
    simp only [Option.bind_some]
    rw [show (x + pw (b - 1)) % (2 * pw (b - 1)) + -pw (b - 1) = (x + pw (b - 1)) % (2 * pw (b - 1)) - pw (b - 1) by omega, wrap_id (by omega) (by omega), wrap_mid x _ hp]

theorem impl_shifted_v (x s m : Int) (k : Nat) (h1 : -1152921504606846976 ≤ x) (h2 : x ≤ 1152921504606846976) (h3 : 0 ≤ s) (h4 : s ≤ 20) (h5 : 0 ≤ m) (h6 : m ≤ 2) (hk : 1 ≤ k) : impl_shifted.f k x s m = some (shf x s m) := by
  obtain ⟨k, rfl⟩ : ∃ j, k = j + 1 := ⟨k - 1, by omega⟩
  have hp := pw_pos (s - 1)
  have hp2 := pw20 (s := s - 1) (by omega)
  unfold impl_shifted.f shf
  by_cases m1 : m = 1
  · subst m1
    simp only [impl_shifted.j0, if_true]
    by_cases c : s > 0
    · simp only [c, decide_true, if_true]
      rw [wrap_id (x := s - 1) (by omega) (by omega), if_pos (by omega), if_pos h3, shl_one (by omega), wrap_id (by omega) (by omega), shr_eq (by omega)] <;> simp
    · have : s = 0 := by omega
      subst this
      simp [shr_eq, pw_zero]
  · simp only [if_neg m1, impl_shifted.j0]
    by_cases m2 : m = 2
    · subst m2
      by_cases c : x < 0
      · have hb := floor_bd (-x) (pw s) (pw_pos s) (by omega) (by omega)
        simp only [c, h3, if_true, wrap_id (x := -x) (by omega) (by omega), shr_eq (x := -x) (n := s) (by omega)]
        rw [wrap_id (x := -(-x / pw s)) (by omega) (by omega)] <;> simp
      · simp [c, h3, shr_eq (x := x) (n := s) (by omega)]
    · simp [m2, h3, shr_eq (x := x) (n := s) (by omega)]

theorem impl_Second_step_v (a c s m b : Int) (w : Bool) (y z x : Int) (k : Nat) (h : sdB a c s m b = true) (hy : -100000 ≤ y ∧ y ≤ 100000) (hz : -100000 ≤ z ∧ z ≤ 100000) (hx : -100000 ≤ x ∧ x ≤ 100000) (hk : 2 ≤ k) : impl_Second_step.f k a c s m b w y z x = some (sdStepM a c s m b w y z x, y) := by
  obtain ⟨ha, hc, hs, hm, hb⟩ := sdB_true.mp h
  have h1 := mul_bd (a := a) (c := y) (by omega) hy
  have h1' := mul_bd (a := c) (c := z) (by omega) hz
  have h2 := shf_bd2 (x := a * y + c * z) (s := s) (m := m) (by omega) (by omega) (by omega) (by omega)
  unfold impl_Second_step.f impl_Second_raw.f sdStepM
  rw [wrap_id (x := a * y) (by omega) (by omega), wrap_id (x := c * z) (by omega) (by omega), wrap_id (x := a * y + c * z) (by omega) (by omega), impl_shifted_v (a * y + c * z) s m k (by omega) (by omega) (by omega) (by omega) (by omega) (by omega) (by omega)]
  simp only [Option.bind_some]
  rw [wrap_id (x := shf (a * y + c * z) s m + x) (by omega) (by omega), impl_Word_fit_v b w _ (by omega) (by omega) (by omega) (by omega)]
  simp only [Option.bind_some]

theorem FnExactSecondStep : laws_FnExactSecondStep.Pure := by
  intro a c s m b w y z x _ _ _ _ _ _ _ _
  refine ⟨2, ?_⟩
  simp only [laws_FnExactSecondStep.f, laws_toSecond_v, spec_SecondStep.f, impl_SecondStep.f, spec_sdAsked_v, impl_Second_isAt_v, impl_isSample_v, Option.bind_some]
  cases h : sdB a c s m b
  · simp
  cases hy : inR y (-pw (b - 1)) (pw (b - 1) - 1)
  · simp
  cases hz : inR z (-pw (b - 1)) (pw (b - 1) - 1)
  · simp
  cases hx : inR x (-100000) 100000
  · simp
  have hy := inR_true.mp hy
  have hz := inR_true.mp hz
  have hx := inR_true.mp hx
  have hp : pw (b - 1) ≤ 32768 := pw15 (by have := (sdB_true.mp h).2.2.2.2; omega)
  simp [spec_sdStep_v a c s m b w y z x 2 h (by omega) (by omega) hx (by omega), impl_Second_step_v a c s m b w y z x 2 h (by omega) (by omega) hx (by omega)]

end Go.Proofs.Ytepjolkmmnnobaa.Pure
