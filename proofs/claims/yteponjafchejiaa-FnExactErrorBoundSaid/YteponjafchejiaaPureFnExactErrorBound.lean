/- The plain statement behind the law FnExactErrorBound: its walk's numbers answer true. Conditions: the given statement's own (each number is an int; each slice within the reach). -/
import Derived.Test.YteponjafchejiaaQFnExactErrorBoundx0
import Derived.Test.YteponjafchejiaaQFnExactErrorBoundx1
import Derived.Test.YteponjafchejiaaQFnExactErrorBoundx2
import Derived.Test.YteponjafchejiaaQFnExactErrorBoundx3
import Derived.Test.YteponjafchejiaaBase
namespace Go.Proofs.Yteponjafchejiaa.Pure
open Go.RowKit Go.Proofs.Yteponjafchejiaa.QFnExactErrorBound Go.Proofs.YteponjafchejiaaW.PrintWords Go.Proofs.YteponjafchejiaaW.PrintLast Go.Proofs.YteponjafchejiaaW.PrintMore Go.Proofs.Yteponjafchejiaa.Base
set_option linter.unusedVariables false
set_option linter.unusedSimpArgs false

theorem laws_toWord_v (a : Int) (b : Bool) : laws_toWord.f a b = some (a, b) := rfl

theorem laws_toFirst_v (a s m b : Int) (w : Bool) : laws_toFirst.f a s m b w = some (a, s, m, b, w) := rfl

theorem spec_l1In_v (a b c : Int) : spec_l1In.f a b c = some (inR a b c) := inR_ge a b c

theorem spec_wdGood_v (a : Int) (b : Bool) : spec_wdGood.f a b = some (inR a 2 16) := by simp [spec_wdGood.f, spec_l1In_v]

theorem spec_wdMode_v (s m : Int) : spec_wdMode.f s m = some (inR s 0 20 && inR m 0 2) := by
  simp only [spec_wdMode.f, spec_l1In_v, Option.bind_some, bind_and]

theorem spec_foGood_v (a s m b : Int) (w : Bool) : spec_foGood.f a s m b w = some (foB a s m b) := by
  simp only [spec_foGood.f, spec_l1In_v, spec_wdMode_v, spec_wdGood_v, Option.bind_some, bind_and]
  rw [foB_spec]

theorem spec_l1Most_v (a b : Int) : spec_l1Most.f a b = some (max a b) := by
  unfold spec_l1Most.f
  split <;> (congr 1; omega)

theorem spec_l1Abs_v (a : Int) (h : -9223372036854775807 ≤ a) (h2 : a ≤ 9223372036854775807) : spec_l1Abs.f a = some (absM a) := by
  simp only [spec_l1Abs.f, spec_l1Most_v, Option.bind_some]
  rw [wrap_id (by omega) (by omega)]; rfl

theorem spec_foRatio_l (x0 x1 : Int) : ∀ (k : Nat) (a b : Int), 0 ≤ a → 0 ≤ b → 0 < a + b → b.toNat < k → spec_foRatio.l0 k x0 x1 a b = some (wrap64 (Int.tdiv x0 (Int.gcd a b)), wrap64 (Int.tdiv x1 (Int.gcd a b)))
  | 0, a, b, ha, hb, hp, hk => by omega
  | k + 1, a, b, ha, hb, hp, hk => by
    simp only [spec_foRatio.l0]
    by_cases h : b > 0
    · have hr := Int.emod_nonneg a (show b ≠ 0 by omega)
      have hr2 := Int.emod_lt_of_pos a h
      have hg := gcd_step ha h
      rw [Int.tmod_eq_emod_of_nonneg ha] at hg
      rw [if_pos h, if_neg (by omega), Int.tmod_eq_emod_of_nonneg ha, spec_foRatio_l x0 x1 k b (a % b) hb hr (by omega) (by omega), hg]
    · obtain rfl : b = 0 := by omega
      rw [if_neg h, if_neg (by omega), gcd_zero ha]
theorem spec_foRatio_e (num den : Int) (h1 : 0 < num) (h2 : num ≤ 1152921504606846976) (h3 : den ≠ 0) (h4 : -1000000 ≤ den) (h5 : den ≤ 1000000) : Ev (fun k => spec_foRatio.f k num den) (ratM num den) := by
  refine ⟨2000000, fun k hk => ?_⟩
  obtain ⟨k, rfl⟩ := pred (show 1999999 < k by omega)
  show spec_foRatio.f (k + 1) num den = _
  have hg := gcd_pos1 (b := den) h1
  have b1 := td_bd num _ hg (by omega) h2
  have b2 := td_bd den _ hg (by omega) (by omega)
  have b3 := td_bd (-num) _ hg (by omega) (by omega)
  have b4 := td_bd (-den) _ hg (by omega) (by omega)
  unfold spec_foRatio.f ratM
  split
  · next h =>
    rw [wrap_id (x := -num) (by omega) (by omega), wrap_id (x := -den) (by omega) (by omega)]
    simp only [spec_foRatio.j0, spec_l1Abs_v (-num) (by omega) (by omega), Option.bind_some]
    rw [spec_foRatio_l _ _ _ _ _ (by unfold absM; omega) (by omega) (by unfold absM; omega) (by omega)]
    have e : Int.gcd (absM (-num)) (-den) = Int.gcd num den := by
      rw [← gcd_abs num den]; unfold absM; congr 1 <;> omega
    rw [e, wrap_id (by omega) (by omega), wrap_id (by omega) (by omega)]
  · next h =>
    simp only [spec_foRatio.j0, spec_l1Abs_v num (by omega) (by omega), Option.bind_some]
    rw [spec_foRatio_l _ _ _ _ _ (by unfold absM; omega) (by omega) (by unfold absM; omega) (by omega)]
    have e : Int.gcd (absM num) den = Int.gcd num den := by
      rw [← gcd_abs num den]; unfold absM; congr 1 <;> omega
    rw [e, wrap_id (by omega) (by omega), wrap_id (by omega) (by omega)]

theorem spec_ErrorBound_e (a s m b : Int) (w : Bool) : Ev (fun k => spec_ErrorBound.f k a s m b w) (if (foB a s m b && decide (absM a < pw s)) = true then ((ratM (pw s) (if m = 1 then (pw s - absM a) * 2 else pw s - absM a)).1, (ratM (pw s) (if m = 1 then (pw s - absM a) * 2 else pw s - absM a)).2, true) else (0, 0, false)) := by
  cases h : foB a s m b
  · refine ⟨1, fun k hk => ?_⟩
    obtain ⟨k, rfl⟩ := pred (show 0 < k by omega)
    show spec_ErrorBound.f (k + 1) a s m b w = _
    unfold spec_ErrorBound.f
    simp [spec_foGood_v, h, spec_ErrorBound.j0]
  · obtain ⟨⟨h1, h2⟩, ⟨h3, h4⟩, _⟩ := foB_true.mp h
    have hp := pw_pos s
    have hp2 := pw10 h4
    have hb : 0 ≤ absM a := by unfold absM; omega
    by_cases ha : absM a < pw s
    · obtain ⟨K, e⟩ := spec_foRatio_e (pw s) (if m = 1 then (pw s - absM a) * 2 else pw s - absM a) (by omega) (by omega) (by split <;> omega) (by split <;> omega) (by split <;> omega)
      refine ⟨K + 1, fun k hk => ?_⟩
      obtain ⟨k, rfl⟩ := pred (show K < k by omega)
      have e := e k (by omega)
      show spec_ErrorBound.f (k + 1) a s m b w = _
      unfold spec_ErrorBound.f
      simp only [spec_foGood_v, h, shl_one (n := s) (by omega), spec_l1Abs_v a (by omega) (by omega), Option.bind_some, if_true, if_pos h3, spec_ErrorBound.j0, decide_eq_true_eq, if_neg (show ¬ absM a ≥ pw s by omega), wrap_id (x := pw s - absM a) (by omega) (by omega), wrap_id (x := (pw s - absM a) * 2) (by omega) (by omega), ha, decide_true, Bool.and_self]
      split at e <;> next hm => simp only [hm, if_true, if_false, e, Option.bind_some]
    · refine ⟨1, fun k hk => ?_⟩
      obtain ⟨k, rfl⟩ := pred (show 0 < k by omega)
      show spec_ErrorBound.f (k + 1) a s m b w = _
      unfold spec_ErrorBound.f
      simp [spec_foGood_v, h, h3, shl_one (n := s) (by omega), spec_l1Abs_v a (by omega) (by omega), spec_ErrorBound.j0, show absM a ≥ pw s by omega, ha]

theorem impl_in_v (a b c : Int) : impl_in.f a b c = some (inR a b c) := inR_le a b c

theorem impl_isWord_v (a : Int) (b : Bool) : impl_isWord.f a b = some (inR a 2 16) := by simp [impl_isWord.f, impl_in_v]

theorem impl_isFactor_v (a : Int) : impl_isFactor.f a = some (inR a (-1024) 1024) := by
  simp only [impl_isFactor.f, impl_in_v, Option.bind_some]

theorem impl_isScale_v (s m : Int) : impl_isScale.f s m = some (inR s 0 10 && inR m 0 2) := by
  simp only [impl_isScale.f, impl_in_v, Option.bind_some, bind_and]

theorem impl_isFirst_v (a s m b : Int) (w : Bool) : impl_isFirst.f a s m b w = some (foB a s m b) := by
  simp only [impl_isFirst.f, impl_isFactor_v, impl_isScale_v, impl_isWord_v, Option.bind_some, bind_and]
  rw [foB_impl]

theorem impl_size_v (a : Int) (h : -9223372036854775807 ≤ a) (h2 : a ≤ 9223372036854775807) : impl_size.f a = some (absM a) := by
  simp only [impl_size.f]
  rw [wrap_id (by omega) (by omega), mx_max]; rfl

theorem impl_gcd_l : ∀ (k : Nat) (a b : Int), 0 ≤ a → 0 ≤ b → b.toNat < k → impl_gcd.l0 k a b = some ((Int.gcd a b : Nat) : Int)
  | 0, a, b, ha, hb, hk => by omega
  | k + 1, a, b, ha, hb, hk => by
    simp only [impl_gcd.l0]
    by_cases h : b > 0
    · have hr := Int.emod_nonneg a (show b ≠ 0 by omega)
      have hr2 := Int.emod_lt_of_pos a h
      have hg := gcd_step ha h
      rw [Int.tmod_eq_emod_of_nonneg ha] at hg
      rw [if_neg (by omega), Int.tmod_eq_emod_of_nonneg ha, impl_gcd_l k b (a % b) hb hr (by omega), hg]
    · obtain rfl : b = 0 := by omega
      rw [if_pos rfl, gcd_zero ha]

theorem impl_lowest_e (num den : Int) (h1 : 0 < num) (h2 : num ≤ 1152921504606846976) (h3 : den ≠ 0) (h4 : -1000000 ≤ den) (h5 : den ≤ 1000000) : Ev (fun k => impl_lowest.f k num den) (ratM num den) := by
  refine ⟨2000000, fun k hk => ?_⟩
  show impl_lowest.f k num den = _
  have hg := gcd_pos1 (b := den) h1
  have hg2 := gcd_le1 (b := den) h1
  have b1 := td_bd num _ hg (by omega) h2
  have b2 := td_bd den _ hg (by omega) (by omega)
  have eg : impl_gcd.f k num den = some ((Int.gcd num den : Nat) : Int) := by
    unfold impl_gcd.f
    simp only [impl_size_v num (by omega) (by omega), impl_size_v den (by omega) (by omega), Option.bind_some]
    rw [impl_gcd_l k _ _ (by unfold absM; omega) (by unfold absM; omega) (by unfold absM; omega), gcd_abs]
  unfold impl_lowest.f ratM
  simp only [eg, Option.bind_some]
  split
  · next h =>
    rw [wrap_id (x := -((Int.gcd num den : Nat) : Int)) (by omega) (by omega), if_neg (by omega), Int.tdiv_neg, Int.tdiv_neg, Int.neg_tdiv, Int.neg_tdiv, wrap_id (by omega) (by omega), wrap_id (by omega) (by omega)]
  · next h =>
    rw [if_neg (by omega), wrap_id (by omega) (by omega), wrap_id (by omega) (by omega)]

theorem impl_First_isShrinking_v (a s m b : Int) (w : Bool) (h1 : -1024 ≤ a) (h2 : a ≤ 1024) (h3 : 0 ≤ s) (h4 : s ≤ 10) : impl_First_isShrinking.f a s m b w = some (decide (absM a < pw s)) := by
  unfold impl_First_isShrinking.f
  simp only [impl_size_v a (by omega) (by omega), Option.bind_some, if_pos h3, shl_one (n := s) (by omega)]

theorem impl_ErrorBound_e (a s m b : Int) (w : Bool) : Ev (fun k => impl_ErrorBound.f k a s m b w) (if (foB a s m b && decide (absM a < pw s)) = true then ((ratM (pw s) (if m = 1 then (pw s - absM a) * 2 else pw s - absM a)).1, (ratM (pw s) (if m = 1 then (pw s - absM a) * 2 else pw s - absM a)).2, true) else (0, 0, false)) := by
  cases h : foB a s m b
  · refine ⟨1, fun k hk => ?_⟩
    obtain ⟨k, rfl⟩ := pred (show 0 < k by omega)
    show impl_ErrorBound.f (k + 1) a s m b w = _
    unfold impl_ErrorBound.f
    simp [impl_isFirst_v, h, impl_ErrorBound.j0]
  · obtain ⟨⟨h1, h2⟩, ⟨h3, h4⟩, _⟩ := foB_true.mp h
    have hp := pw_pos s
    have hp2 := pw10 h4
    have hb : 0 ≤ absM a := by unfold absM; omega
    by_cases ha : absM a < pw s
    · obtain ⟨K, e⟩ := impl_lowest_e (pw s) (if m = 1 then (pw s - absM a) * 2 else pw s - absM a) (by omega) (by omega) (by split <;> omega) (by split <;> omega) (by split <;> omega)
      refine ⟨K + 1, fun k hk => ?_⟩
      obtain ⟨k, rfl⟩ := pred (show K < k by omega)
      have e := e k (by omega)
      show impl_ErrorBound.f (k + 1) a s m b w = _
      unfold impl_ErrorBound.f
      simp only [impl_isFirst_v, h, impl_First_isShrinking_v a s m b w h1 h2 h3 h4, shl_one (n := s) (by omega), impl_size_v a (by omega) (by omega), Option.bind_some, if_true, if_pos h3, impl_ErrorBound.j0, ha, decide_true, Bool.not_true, Bool.false_eq_true, if_false, wrap_id (x := pw s - absM a) (by omega) (by omega), wrap_id (x := (pw s - absM a) * 2) (by omega) (by omega), Bool.and_self]
      split at e <;> next hm => simp only [hm, if_true, if_false, e, Option.bind_some]
    · refine ⟨1, fun k hk => ?_⟩
      obtain ⟨k, rfl⟩ := pred (show 0 < k by omega)
      show impl_ErrorBound.f (k + 1) a s m b w = _
      unfold impl_ErrorBound.f
      simp [impl_isFirst_v, h, impl_First_isShrinking_v a s m b w h1 h2 h3 h4, impl_ErrorBound.j0, ha]

theorem FnExactErrorBound : laws_FnExactErrorBound.Pure := by
  intro a s m b w _ _ _ _
  obtain ⟨K1, e1⟩ := spec_ErrorBound_e a s m b w
  obtain ⟨K2, e2⟩ := impl_ErrorBound_e a s m b w
  refine ⟨K1 + K2, ?_⟩
  simp [laws_FnExactErrorBound.f, laws_toFirst_v, e1 _ (show K1 ≤ K1 + K2 by omega), e2 _ (show K2 ≤ K1 + K2 by omega)]

end Go.Proofs.Yteponjafchejiaa.Pure
