/- The plain statement behind the law FnExactLessIn: its walk's numbers answer true. Conditions: the given statement's own (each number is an int; each slice within the reach). -/
import Derived.Test.YtgancmcbldmjaaaQFnExactLessInx0
import Derived.Test.YtgancmcbldmjaaaQFnExactLessInx1
import Derived.Test.YtgancmcbldmjaaaQFnExactLessInx2
import Derived.Test.YtgancmcbldmjaaaBase
namespace Go.Proofs.Ytgancmcbldmjaaa.Pure
open Go.RowKit Go.Proofs.Ytgancmcbldmjaaa.QFnExactLessIn Go.Proofs.YtgancmcbldmjaaaW.PrintWords Go.Proofs.YtgancmcbldmjaaaW.PrintLast Go.Proofs.YtgancmcbldmjaaaW.PrintMore Go.Proofs.Ytgancmcbldmjaaa.Base
set_option linter.unusedVariables false
set_option linter.unusedSimpArgs false

theorem laws_toWord_v (a : Int) (b : Bool) : laws_toWord.f a b = some (a, b) := rfl

theorem spec_l1Most_v (a b : Int) : spec_l1Most.f a b = some (max a b) := by
  unfold spec_l1Most.f
  split <;> (congr 1; omega)

theorem spec_l1Least_v (a b : Int) : spec_l1Least.f a b = some (min a b) := by
  unfold spec_l1Least.f
  split <;> (congr 1; omega)

theorem spec_wdHigh_v (b : Int) (w : Bool) (h1 : 2 ≤ b) (h2 : b ≤ 16) : spec_wdHigh.f b w = some (pw (b - 1) - 1) := by
  have := pw_pos (b - 1)
  have := pw_le (n := b - 1) (by omega)
  unfold spec_wdHigh.f
  rw [wrap_id (x := b - 1) (by omega) (by omega), if_pos (by omega), shl_one (by omega), wrap_id (by omega) (by omega)]

theorem spec_wdLow_v (b : Int) (w : Bool) (h1 : 2 ≤ b) (h2 : b ≤ 16) : spec_wdLow.f b w = some (-pw (b - 1)) := by
  have := pw_pos (b - 1)
  have := pw_le (n := b - 1) (by omega)
  unfold spec_wdLow.f
  rw [wrap_id (x := b - 1) (by omega) (by omega), if_pos (by omega), shl_one (by omega), wrap_id (by omega) (by omega)]

theorem spec_wdFit_v (b : Int) (w : Bool) (x : Int) (h1 : 2 ≤ b) (h2 : b ≤ 16) (h3 : -1152921504606846976 ≤ x) (h4 : x ≤ 1152921504606846976) : spec_wdFit.f b w x = some (fitM b w x) := by
  have hp := pw_pos (b - 1)
  have hp2 := pw_le (n := b) (by omega)
  have hp3 := pw_pred (n := b) (by omega)
  have ht := tmod_bd x (pw b) (by omega)
  have hr := Int.emod_nonneg x (show pw b ≠ 0 by omega)
  have hr2 := Int.emod_lt_of_pos x (show 0 < pw b by omega)
  unfold spec_wdFit.f fitM
  rw [← hp3]
  cases w
  · simp only [spec_wdHigh_v b false h1 h2, spec_wdLow_v b false h1 h2, spec_l1Most_v, spec_l1Least_v, Option.bind_some, if_false, Bool.false_eq_true]
    congr 1; omega
  · simp only [if_true, shl_one (n := b) (by omega), if_pos (show 0 ≤ b by omega), if_neg (show ¬ pw b = 0 by omega), spec_wdHigh_v b true h1 h2, Option.bind_some, wrap_id (x := Int.tmod x (pw b) + pw b) (by omega) (by omega), tmod2 x (pw b) (by omega), wrap_id (x := x % pw b - pw b) (by omega) (by omega)]
    split <;> rfl

theorem spec_l1In_v (a b c : Int) : spec_l1In.f a b c = some (inR a b c) := inR_ge a b c

theorem spec_wdGood_v (a : Int) (b : Bool) : spec_wdGood.f a b = some (inR a 2 16) := by simp [spec_wdGood.f, spec_l1In_v]

theorem spec_wdIn_v (b : Int) (w : Bool) (x : Int) : spec_wdIn.f b w x = some (inR b 2 16 && inR x (-pw (b - 1)) (pw (b - 1) - 1)) := by
  unfold spec_wdIn.f
  simp only [spec_wdGood_v, Option.bind_some]
  cases h : inR b 2 16
  · simp
  · obtain ⟨h1, h2⟩ := inR_true.mp h
    simp [spec_wdLow_v b w h1 h2, spec_wdHigh_v b w h1 h2, spec_l1In_v]

theorem impl_in_v (a b c : Int) : impl_in.f a b c = some (inR a b c) := inR_le a b c

theorem impl_isWord_v (a : Int) (b : Bool) : impl_isWord.f a b = some (inR a 2 16) := by simp [impl_isWord.f, impl_in_v]

theorem impl_Word_ends_v (b : Int) (w : Bool) (h1 : 2 ≤ b) (h2 : b ≤ 16) : impl_Word_ends.f b w = some (-pw (b - 1), pw (b - 1) - 1) := by
  have := pw_pos (b - 1)
  have := pw_le (n := b - 1) (by omega)
  unfold impl_Word_ends.f
  rw [wrap_id (x := b - 1) (by omega) (by omega), if_pos (by omega), shl_one (by omega), wrap_id (x := -pw (b - 1)) (by omega) (by omega), wrap_id (x := pw (b - 1) - 1) (by omega) (by omega)]

theorem impl_mod_v (x p : Int) (h1 : 1 ≤ p) (h2 : p ≤ 4611686018427387904) : impl_mod.f x p = some (x % p) := by
  have ht := tmod_bd x p h1
  unfold impl_mod.f
  rw [if_neg (by omega), wrap_id (by omega) (by omega), tmod2 x p h1]

theorem impl_Word_fit_v (b : Int) (w : Bool) (x : Int) (h1 : 2 ≤ b) (h2 : b ≤ 16) (h3 : -1152921504606846976 ≤ x) (h4 : x ≤ 1152921504606846976) : impl_Word_fit.f b w x = some (fitM b w x) := by
  have hp := pw_pos (b - 1)
  have hp2 : pw (b - 1) ≤ 1048576 := pw20 (by omega)
  unfold impl_Word_fit.f fitM
  simp only [impl_Word_ends_v b w h1 h2, Option.bind_some]
  cases w
  · simp only [Bool.false_eq_true, if_false, mn_min, mx_max]
  · have hr := Int.emod_nonneg (x + pw (b - 1)) (show 2 * pw (b - 1) ≠ 0 by omega)
    have hr2 := Int.emod_lt_of_pos (x + pw (b - 1)) (show 0 < 2 * pw (b - 1) by omega)
    simp only [if_true]
    rw [show x - -pw (b - 1) = x + pw (b - 1) by omega, wrap_id (x := x + pw (b - 1)) (by omega) (by omega), show pw (b - 1) - 1 - -pw (b - 1) = 2 * pw (b - 1) - 1 by omega, wrap_id (x := 2 * pw (b - 1) - 1) (by omega) (by omega), show 2 * pw (b - 1) - 1 + 1 = 2 * pw (b - 1) by omega, wrap_id (x := 2 * pw (b - 1)) (by omega) (by omega), impl_mod_v _ _ (by omega) (by omega)]
    simp only [Option.bind_some]
    rw [show (x + pw (b - 1)) % (2 * pw (b - 1)) + -pw (b - 1) = (x + pw (b - 1)) % (2 * pw (b - 1)) - pw (b - 1) by omega, wrap_id (by omega) (by omega), wrap_mid x _ hp]

theorem impl_Word_has_v (b : Int) (w : Bool) (x : Int) (h1 : 2 ≤ b) (h2 : b ≤ 16) : impl_Word_has.f b w x = some (inR x (-pw (b - 1)) (pw (b - 1) - 1)) := by
  unfold impl_Word_has.f
  simp only [impl_Word_ends_v b w h1 h2, impl_in_v, Option.bind_some]

theorem FnExactLessIn : laws_FnExactLessIn.Pure := by
  intro b w x y _ _ _
  simp only [laws_FnExactLessIn.f, laws_toWord_v, spec_LessIn.f, impl_LessIn.f, spec_wdIn_v, impl_isWord_v, Option.bind_some]
  cases h : inR b 2 16
  · simp
  · obtain ⟨h1, h2⟩ := inR_true.mp h
    have hp := pw_pos (b - 1)
    have hp2 : pw (b - 1) ≤ 1048576 := pw20 (by omega)
    simp only [impl_Word_has_v b w _ h1 h2, Option.bind_some, Bool.true_and, if_true]
    cases hx : inR x (-pw (b - 1)) (pw (b - 1) - 1)
    · simp
    cases hy : inR y (-pw (b - 1)) (pw (b - 1) - 1)
    · simp
    have hx := inR_true.mp hx
    have hy := inR_true.mp hy
    rw [wrap_id (x := x - y) (by omega) (by omega)]
    simp [spec_wdFit_v b w (x - y) h1 h2 (by omega) (by omega), impl_Word_fit_v b w (x - y) h1 h2 (by omega) (by omega)]

end Go.Proofs.Ytgancmcbldmjaaa.Pure
