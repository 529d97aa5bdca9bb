/- The pure statement of the law FnExactConstants, for no arguments: every exported constant has the value of the document. No conditions. -/
import Derived.Test.YtokmfgcnjjfljaaPFnExactConstantsx1
namespace Go.Proofs.Ytokmfgcnjjfljaa.Pure
open Go.RowKit Go.Proofs.Ytokmfgcnjjfljaa.PFnExactConstants Go.Proofs.YtokmfgcnjjfljaaW.PrintWords Go.Proofs.YtokmfgcnjjfljaaW.PrintLast

theorem FnExactConstants : laws_FnExactConstants.Pure := rfl

end Go.Proofs.Ytokmfgcnjjfljaa.Pure
