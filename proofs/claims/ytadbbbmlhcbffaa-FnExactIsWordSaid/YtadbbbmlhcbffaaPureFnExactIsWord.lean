/- The plain statement behind the law FnExactIsWord: its walk's numbers answer true. Conditions: the given statement's own (each number is an int; each slice within the reach). -/
import Derived.Test.YtadbbbmlhcbffaaQFnExactIsWordx0
import Derived.Test.YtadbbbmlhcbffaaQFnExactIsWordx1
import Derived.Test.YtadbbbmlhcbffaaBase
namespace Go.Proofs.Ytadbbbmlhcbffaa.Pure
open Go.RowKit Go.Proofs.Ytadbbbmlhcbffaa.QFnExactIsWord Go.Proofs.YtadbbbmlhcbffaaW.PrintWords Go.Proofs.YtadbbbmlhcbffaaW.PrintLast Go.Proofs.YtadbbbmlhcbffaaW.PrintMore Go.Proofs.Ytadbbbmlhcbffaa.Base
set_option linter.unusedVariables false
set_option linter.unusedSimpArgs false

theorem spec_l1In_v (a b c : Int) : spec_l1In.f a b c = some (inR a b c) := inR_ge a b c

theorem spec_wdGood_v (a : Int) (b : Bool) : spec_wdGood.f a b = some (inR a 2 16) := by simp [spec_wdGood.f, spec_l1In_v]

theorem spec_IsWord_v (a : Int) (b : Bool) : spec_IsWord.f a b = some (inR a 2 16) := by simp [spec_IsWord.f, spec_wdGood_v]

theorem laws_toWord_v (a : Int) (b : Bool) : laws_toWord.f a b = some (a, b) := rfl

theorem impl_in_v (a b c : Int) : impl_in.f a b c = some (inR a b c) := inR_le a b c

theorem impl_isWord_v (a : Int) (b : Bool) : impl_isWord.f a b = some (inR a 2 16) := by simp [impl_isWord.f, impl_in_v]

theorem impl_IsWord_v (a : Int) (b : Bool) : impl_IsWord.f a b = some (inR a 2 16) := by simp [impl_IsWord.f, impl_isWord_v]

theorem FnExactIsWord : laws_FnExactIsWord.Pure := by
  intro a b _
  simp only [laws_FnExactIsWord.f, laws_toWord_v, spec_IsWord_v, impl_IsWord_v, Option.bind_some, told_same]

end Go.Proofs.Ytadbbbmlhcbffaa.Pure
