/- The plain statement behind the law FnExactIsShrinking: its walk's numbers answer true. Conditions: the given statement's own (each number is an int; each slice within the reach). -/
import Derived.Test.YtadbbbmlhcbffaaQFnExactIsShrinkingx0
import Derived.Test.YtadbbbmlhcbffaaQFnExactIsShrinkingx1
import Derived.Test.YtadbbbmlhcbffaaBase
namespace Go.Proofs.Ytadbbbmlhcbffaa.Pure
open Go.RowKit Go.Proofs.Ytadbbbmlhcbffaa.QFnExactIsShrinking Go.Proofs.YtadbbbmlhcbffaaW.PrintWords Go.Proofs.YtadbbbmlhcbffaaW.PrintLast Go.Proofs.YtadbbbmlhcbffaaW.PrintMore Go.Proofs.Ytadbbbmlhcbffaa.Base
set_option linter.unusedVariables false
set_option linter.unusedSimpArgs false

theorem laws_toWord_v (a : Int) (b : Bool) : laws_toWord.f a b = some (a, b) := rfl

theorem laws_toFirst_v (a s m b : Int) (w : Bool) : laws_toFirst.f a s m b w = some (a, s, m, b, w) := rfl

theorem spec_l1In_v (a b c : Int) : spec_l1In.f a b c = some (inR a b c) := inR_ge a b c

theorem spec_wdGood_v (a : Int) (b : Bool) : spec_wdGood.f a b = some (inR a 2 16) := by simp [spec_wdGood.f, spec_l1In_v]

theorem spec_wdMode_v (s m : Int) : spec_wdMode.f s m = some (inR s 0 20 && inR m 0 2) := by
  simp only [spec_wdMode.f, spec_l1In_v, Option.bind_some, bind_and]

theorem spec_foGood_v (a s m b : Int) (w : Bool) : spec_foGood.f a s m b w = some (foB a s m b) := by
  simp only [spec_foGood.f, spec_l1In_v, spec_wdMode_v, spec_wdGood_v, Option.bind_some, bind_and]
  rw [foB_spec]

theorem spec_l1Most_v (a b : Int) : spec_l1Most.f a b = some (max a b) := by
  unfold spec_l1Most.f
  split <;> (congr 1; omega)

theorem spec_l1Abs_v (a : Int) (h : -9223372036854775807 ≤ a) (h2 : a ≤ 9223372036854775807) : spec_l1Abs.f a = some (absM a) := by
  simp only [spec_l1Abs.f, spec_l1Most_v, Option.bind_some]
  rw [wrap_id (by omega) (by omega)]; rfl

theorem impl_in_v (a b c : Int) : impl_in.f a b c = some (inR a b c) := inR_le a b c

theorem impl_isWord_v (a : Int) (b : Bool) : impl_isWord.f a b = some (inR a 2 16) := by simp [impl_isWord.f, impl_in_v]

theorem impl_isFactor_v (a : Int) : impl_isFactor.f a = some (inR a (-1024) 1024) := by
  simp only [impl_isFactor.f, impl_in_v, Option.bind_some]

theorem impl_isScale_v (s m : Int) : impl_isScale.f s m = some (inR s 0 10 && inR m 0 2) := by
  simp only [impl_isScale.f, impl_in_v, Option.bind_some, bind_and]

theorem impl_isFirst_v (a s m b : Int) (w : Bool) : impl_isFirst.f a s m b w = some (foB a s m b) := by
  simp only [impl_isFirst.f, impl_isFactor_v, impl_isScale_v, impl_isWord_v, Option.bind_some, bind_and]
  rw [foB_impl]

theorem impl_size_v (a : Int) (h : -9223372036854775807 ≤ a) (h2 : a ≤ 9223372036854775807) : impl_size.f a = some (absM a) := by
  simp only [impl_size.f]
  rw [wrap_id (by omega) (by omega), mx_max]; rfl

theorem FnExactIsShrinking : laws_FnExactIsShrinking.Pure := by
  intro a s m b w _ _ _ _
  simp only [laws_FnExactIsShrinking.f, laws_toFirst_v, spec_IsShrinking.f, impl_IsShrinking.f, impl_First_isShrinking.f, spec_foGood_v, impl_isFirst_v, Option.bind_some]
  cases h : foB a s m b
  · simp
  · obtain ⟨⟨h1, h2⟩, ⟨h3, h4⟩, _⟩ := foB_true.mp h
    simp [spec_l1Abs_v a (by omega) (by omega), impl_size_v a (by omega) (by omega), h3]

end Go.Proofs.Ytadbbbmlhcbffaa.Pure
