/- The plain statement behind the law FnExactRootsOf: its walk's numbers answer true. Conditions: the given statement's own (each number is an int; each slice within the reach). -/
import Derived.Test.YtgancmcbldmjaaaQFnExactRootsOfx0
import Derived.Test.YtgancmcbldmjaaaQFnExactRootsOfx1
import Derived.Test.YtgancmcbldmjaaaBase
namespace Go.Proofs.Ytgancmcbldmjaaa.Pure
open Go.RowKit Go.Proofs.Ytgancmcbldmjaaa.QFnExactRootsOf Go.Proofs.YtgancmcbldmjaaaW.PrintWords Go.Proofs.YtgancmcbldmjaaaW.PrintLast Go.Proofs.YtgancmcbldmjaaaW.PrintMore Go.Proofs.Ytgancmcbldmjaaa.Base
set_option linter.unusedVariables false
set_option linter.unusedSimpArgs false

theorem spec_l1In_v (a b c : Int) : spec_l1In.f a b c = some (inR a b c) := inR_ge a b c

theorem spec_wdGood_v (a : Int) (b : Bool) : spec_wdGood.f a b = some (inR a 2 16) := by simp [spec_wdGood.f, spec_l1In_v]

theorem spec_wdMode_v (s m : Int) : spec_wdMode.f s m = some (inR s 0 20 && inR m 0 2) := by
  simp only [spec_wdMode.f, spec_l1In_v, Option.bind_some, bind_and]

theorem spec_sdGood_v (a c s m b : Int) (w : Bool) : spec_sdGood.f a c s m b w = some (sdB a c s m b) := by
  simp only [spec_sdGood.f, spec_l1In_v, spec_wdMode_v, spec_wdGood_v, Option.bind_some, bind_and]
  rw [sdB_spec]

theorem spec_l1Sign_v (x : Int) : spec_l1Sign.f x = some (if x > 0 then 1 else if x < 0 then -1 else 0) := by
  unfold spec_l1Sign.f
  split
  · rfl
  · split <;> rfl

theorem laws_toWord_v (a : Int) (b : Bool) : laws_toWord.f a b = some (a, b) := rfl

theorem laws_toSecond_v (a c s m b : Int) (w : Bool) : laws_toSecond.f a c s m b w = some (a, c, s, m, b, w) := rfl

theorem impl_in_v (a b c : Int) : impl_in.f a b c = some (inR a b c) := inR_le a b c

theorem impl_isWord_v (a : Int) (b : Bool) : impl_isWord.f a b = some (inR a 2 16) := by simp [impl_isWord.f, impl_in_v]

theorem impl_isFactor_v (a : Int) : impl_isFactor.f a = some (inR a (-1024) 1024) := by
  simp only [impl_isFactor.f, impl_in_v, Option.bind_some]

theorem impl_isScale_v (s m : Int) : impl_isScale.f s m = some (inR s 0 10 && inR m 0 2) := by
  simp only [impl_isScale.f, impl_in_v, Option.bind_some, bind_and]

theorem impl_isSecond_v (a c s m b : Int) (w : Bool) : impl_isSecond.f a c s m b w = some (sdB a c s m b) := by
  simp only [impl_isSecond.f, impl_isFactor_v, impl_isScale_v, impl_isWord_v, Option.bind_some, bind_and]
  rw [sdB_impl]

theorem FnExactRootsOf : laws_FnExactRootsOf.Pure := by
  intro a c s m b w _ _ _ _ _
  simp only [laws_FnExactRootsOf.f, laws_toSecond_v, spec_RootsOf.f, impl_RootsOf.f, spec_sdGood_v, impl_isSecond_v, Option.bind_some]
  cases h : sdB a c s m b
  · simp
  · obtain ⟨_, _, ⟨h5, h6⟩, _⟩ := sdB_true.mp h
    simp only [if_true, if_pos h5, spec_l1Sign_v, Option.bind_some]
    by_cases c1 : wrap64 (wrap64 (a * a) + shl .i64 (wrap64 (4 * c)) s) > 0
    · simp [c1]
    · by_cases c2 : wrap64 (wrap64 (a * a) + shl .i64 (wrap64 (4 * c)) s) < 0
      · simp [c1, c2]
      · simp [c1, c2]

end Go.Proofs.Ytgancmcbldmjaaa.Pure
