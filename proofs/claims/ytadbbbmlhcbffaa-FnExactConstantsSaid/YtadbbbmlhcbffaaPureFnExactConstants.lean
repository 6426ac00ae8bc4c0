/- The plain statement behind the law FnExactConstants: its walk's numbers answer true. Conditions: the given statement's own (each number is an int; each slice within the reach). -/
import Derived.Test.YtadbbbmlhcbffaaQFnExactConstantsx0
import Derived.Test.YtadbbbmlhcbffaaQFnExactConstantsx1
import Derived.Test.YtadbbbmlhcbffaaBase
namespace Go.Proofs.Ytadbbbmlhcbffaa.Pure
open Go.RowKit Go.Proofs.Ytadbbbmlhcbffaa.QFnExactConstants Go.Proofs.YtadbbbmlhcbffaaW.PrintWords Go.Proofs.YtadbbbmlhcbffaaW.PrintLast Go.Proofs.YtadbbbmlhcbffaaW.PrintMore Go.Proofs.Ytadbbbmlhcbffaa.Base
set_option linter.unusedVariables false
set_option linter.unusedSimpArgs false

theorem FnExactConstants : laws_FnExactConstants.Pure := rfl

end Go.Proofs.Ytadbbbmlhcbffaa.Pure
