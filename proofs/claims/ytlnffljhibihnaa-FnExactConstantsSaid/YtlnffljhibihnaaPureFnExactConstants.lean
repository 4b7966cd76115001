/- The law FnExactConstants answers true: each constant is the one that it is held against. -/
import Derived.Test.YtlnffljhibihnaaPFnExactConstantsx1
namespace Go.Proofs.Ytlnffljhibihnaa.Pure
open Go.RowKit Go.Proofs.Ytlnffljhibihnaa.PFnExactConstants Go.Proofs.YtlnffljhibihnaaW.PrintWords Go.Proofs.YtlnffljhibihnaaW.PrintLast

theorem FnExactConstants : laws_FnExactConstants.Pure := rfl

end Go.Proofs.Ytlnffljhibihnaa.Pure
