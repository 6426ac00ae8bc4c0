/- The plain statement behind the law FnExactSecondOfFirsts: its walk's numbers answer true. Conditions: the given statement's own (each number is an int; each slice within the reach). -/
import Derived.Test.YteponjafchejiaaQFnExactSecondOfFirstsx0
import Derived.Test.YteponjafchejiaaQFnExactSecondOfFirstsx1
import Derived.Test.YteponjafchejiaaQFnExactSecondOfFirstsx2
import Derived.Test.YteponjafchejiaaQFnExactSecondOfFirstsx3
import Derived.Test.YteponjafchejiaaQFnExactSecondOfFirstsx4
import Derived.Test.YteponjafchejiaaQFnExactSecondOfFirstsx5
import Derived.Test.YteponjafchejiaaQFnExactSecondOfFirstsx6
import Derived.Test.YteponjafchejiaaBase
namespace Go.Proofs.Yteponjafchejiaa.Pure
open Go.RowKit Go.Proofs.Yteponjafchejiaa.QFnExactSecondOfFirsts Go.Proofs.YteponjafchejiaaW.PrintWords Go.Proofs.YteponjafchejiaaW.PrintLast Go.Proofs.YteponjafchejiaaW.PrintMore Go.Proofs.Yteponjafchejiaa.Base
set_option linter.unusedVariables false
set_option linter.unusedSimpArgs false

theorem laws_toWord_v (a : Int) (b : Bool) : laws_toWord.f a b = some (a, b) := rfl

theorem laws_toFirst_v (a s m b : Int) (w : Bool) : laws_toFirst.f a s m b w = some (a, s, m, b, w) := rfl

theorem spec_l1In_v (a b c : Int) : spec_l1In.f a b c = some (inR a b c) := inR_ge a b c

theorem spec_wdGood_v (a : Int) (b : Bool) : spec_wdGood.f a b = some (inR a 2 16) := by simp [spec_wdGood.f, spec_l1In_v]

theorem spec_wdMode_v (s m : Int) : spec_wdMode.f s m = some (inR s 0 20 && inR m 0 2) := by
  simp only [spec_wdMode.f, spec_l1In_v, Option.bind_some, bind_and]

theorem spec_foGood_v (a s m b : Int) (w : Bool) : spec_foGood.f a s m b w = some (foB a s m b) := by
  simp only [spec_foGood.f, spec_l1In_v, spec_wdMode_v, spec_wdGood_v, Option.bind_some, bind_and]
  rw [foB_spec]

theorem spec_sdGood_v (a c s m b : Int) (w : Bool) : spec_sdGood.f a c s m b w = some (sdB a c s m b) := by
  simp only [spec_sdGood.f, spec_l1In_v, spec_wdMode_v, spec_wdGood_v, Option.bind_some, bind_and]
  rw [sdB_spec]

theorem impl_in_v (a b c : Int) : impl_in.f a b c = some (inR a b c) := inR_le a b c

theorem impl_isWord_v (a : Int) (b : Bool) : impl_isWord.f a b = some (inR a 2 16) := by simp [impl_isWord.f, impl_in_v]

theorem impl_isFactor_v (a : Int) : impl_isFactor.f a = some (inR a (-1024) 1024) := by
  simp only [impl_isFactor.f, impl_in_v, Option.bind_some]

theorem impl_isScale_v (s m : Int) : impl_isScale.f s m = some (inR s 0 10 && inR m 0 2) := by
  simp only [impl_isScale.f, impl_in_v, Option.bind_some, bind_and]

theorem impl_isFirst_v (a s m b : Int) (w : Bool) : impl_isFirst.f a s m b w = some (foB a s m b) := by
  simp only [impl_isFirst.f, impl_isFactor_v, impl_isScale_v, impl_isWord_v, Option.bind_some, bind_and]
  rw [foB_impl]

theorem impl_isSecond_v (a c s m b : Int) (w : Bool) : impl_isSecond.f a c s m b w = some (sdB a c s m b) := by
  simp only [impl_isSecond.f, impl_isFactor_v, impl_isScale_v, impl_isWord_v, Option.bind_some, bind_and]
  rw [sdB_impl]

theorem eqSecond_same (a c s m b : Int) (w : Bool) : laws_eqSecond.f a c s m b w a c s m b w = some true := by simp [laws_eqSecond.f, laws_eqWord.f]
theorem FnExactSecondOfFirsts : laws_FnExactSecondOfFirsts.Pure := by
  intro a s m b w a' s' m' b' w' _ _ _ _ _ _ _ _
  refine ⟨1, ?_⟩
  simp only [laws_FnExactSecondOfFirsts.f, laws_toFirst_v, spec_SecondOfFirsts.f, impl_SecondOfFirsts.f, spec_foGood_v, impl_isFirst_v, Option.bind_some, spec_SecondOfFirsts.j0, impl_SecondOfFirsts.j0, spec_sdGood_v, impl_isSecond_v]
  cases h : foB a s m b
  · simp [eqSecond_same]
  cases h' : foB a' s' m' b'
  · simp [eqSecond_same]
  obtain ⟨_, ⟨h1, _⟩, _⟩ := foB_true.mp h
  obtain ⟨_, ⟨h2, _⟩, _⟩ := foB_true.mp h'
  simp only [Bool.not_true, Bool.false_eq_true, if_true, if_false, if_pos h1, if_pos h2]
  generalize wrap64 (shl .i64 a s' + shl .i64 a' s) = A
  generalize wrap64 (wrap64 (-a) * a') = C
  generalize wrap64 (s + s') = S
  cases sdB A C S m b <;> simp [eqSecond_same]

end Go.Proofs.Yteponjafchejiaa.Pure
