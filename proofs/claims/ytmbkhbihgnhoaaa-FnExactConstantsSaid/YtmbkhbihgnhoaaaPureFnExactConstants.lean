/- The law FnExactConstants over plain data: every constant is the number that the reference names; no condition. -/
import Derived.Test.YtmbkhbihgnhoaaaPFnExactConstantsx1
namespace Go.Proofs.Ytmbkhbihgnhoaaa.Pure
open Go.RowKit Go.Proofs.Ytmbkhbihgnhoaaa.PFnExactConstants Go.Proofs.YtmbkhbihgnhoaaaW.PrintWords Go.Proofs.YtmbkhbihgnhoaaaW.PrintLast

theorem FnExactConstants : laws_FnExactConstants.Pure := rfl

end Go.Proofs.Ytmbkhbihgnhoaaa.Pure
