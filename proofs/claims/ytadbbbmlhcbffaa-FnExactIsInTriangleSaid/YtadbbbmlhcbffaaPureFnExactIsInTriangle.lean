/- The plain statement behind the law FnExactIsInTriangle: its walk's numbers answer true. Conditions: the given statement's own (each number is an int; each slice within the reach). -/
import Derived.Test.YtadbbbmlhcbffaaQFnExactIsInTrianglex0
import Derived.Test.YtadbbbmlhcbffaaQFnExactIsInTrianglex1
import Derived.Test.YtadbbbmlhcbffaaQFnExactIsInTrianglex2
import Derived.Test.YtadbbbmlhcbffaaBase
namespace Go.Proofs.Ytadbbbmlhcbffaa.Pure
open Go.RowKit Go.Proofs.Ytadbbbmlhcbffaa.QFnExactIsInTriangle Go.Proofs.YtadbbbmlhcbffaaW.PrintWords Go.Proofs.YtadbbbmlhcbffaaW.PrintLast Go.Proofs.YtadbbbmlhcbffaaW.PrintMore Go.Proofs.Ytadbbbmlhcbffaa.Base
set_option linter.unusedVariables false
set_option linter.unusedSimpArgs false

theorem laws_toWord_v (a : Int) (b : Bool) : laws_toWord.f a b = some (a, b) := rfl

theorem laws_toSecond_v (a c s m b : Int) (w : Bool) : laws_toSecond.f a c s m b w = some (a, c, s, m, b, w) := rfl

theorem spec_l1In_v (a b c : Int) : spec_l1In.f a b c = some (inR a b c) := inR_ge a b c

theorem spec_wdGood_v (a : Int) (b : Bool) : spec_wdGood.f a b = some (inR a 2 16) := by simp [spec_wdGood.f, spec_l1In_v]

theorem spec_wdMode_v (s m : Int) : spec_wdMode.f s m = some (inR s 0 20 && inR m 0 2) := by
  simp only [spec_wdMode.f, spec_l1In_v, Option.bind_some, bind_and]

theorem spec_sdGood_v (a c s m b : Int) (w : Bool) : spec_sdGood.f a c s m b w = some (sdB a c s m b) := by
  simp only [spec_sdGood.f, spec_l1In_v, spec_wdMode_v, spec_wdGood_v, Option.bind_some, bind_and]
  rw [sdB_spec]

theorem spec_l1Most_v (a b : Int) : spec_l1Most.f a b = some (max a b) := by
  unfold spec_l1Most.f
  split <;> (congr 1; omega)

theorem spec_l1Abs_v (a : Int) (h : -9223372036854775807 ≤ a) (h2 : a ≤ 9223372036854775807) : spec_l1Abs.f a = some (absM a) := by
  simp only [spec_l1Abs.f, spec_l1Most_v, Option.bind_some]
  rw [wrap_id (by omega) (by omega)]; rfl

theorem impl_in_v (a b c : Int) : impl_in.f a b c = some (inR a b c) := inR_le a b c

theorem impl_isWord_v (a : Int) (b : Bool) : impl_isWord.f a b = some (inR a 2 16) := by simp [impl_isWord.f, impl_in_v]

theorem impl_isFactor_v (a : Int) : impl_isFactor.f a = some (inR a (-1024) 1024) := by
  simp only [impl_isFactor.f, impl_in_v, Option.bind_some]

theorem impl_isScale_v (s m : Int) : impl_isScale.f s m = some (inR s 0 10 && inR m 0 2) := by
  simp only [impl_isScale.f, impl_in_v, Option.bind_some, bind_and]

theorem impl_isSecond_v (a c s m b : Int) (w : Bool) : impl_isSecond.f a c s m b w = some (sdB a c s m b) := by
  simp only [impl_isSecond.f, impl_isFactor_v, impl_isScale_v, impl_isWord_v, Option.bind_some, bind_and]
  rw [sdB_impl]

theorem impl_size_v (a : Int) (h : -9223372036854775807 ≤ a) (h2 : a ≤ 9223372036854775807) : impl_size.f a = some (absM a) := by
  simp only [impl_size.f]
  rw [wrap_id (by omega) (by omega), mx_max]; rfl

theorem FnExactIsInTriangle : laws_FnExactIsInTriangle.Pure := by
  intro a c s m b w _ _ _ _ _
  simp only [laws_FnExactIsInTriangle.f, laws_toSecond_v, spec_IsInTriangle.f, impl_IsInTriangle.f, spec_sdGood_v, impl_isSecond_v, Option.bind_some]
  cases h : sdB a c s m b
  · simp
  · obtain ⟨⟨h1, h2⟩, ⟨h3, h4⟩, ⟨h5, h6⟩, _⟩ := sdB_true.mp h
    simp only [if_true, if_pos h5, spec_l1Abs_v a (by omega) (by omega), impl_size_v a (by omega) (by omega), spec_l1Abs_v c (by omega) (by omega), impl_size_v c (by omega) (by omega), Option.bind_some]
    split <;> simp

end Go.Proofs.Ytadbbbmlhcbffaa.Pure
