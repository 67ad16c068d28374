/- The plain law of LeaseExamples. -/
import Derived.Test.YtccehechhdndmaaPLease
import Derived.Test.YtccehechhdndmaaL3
namespace Go.Proofs.Ytccehechhdndmaa.Pure
open Go.RowKit Go.Proofs.Ytccehechhdndmaa Go.Proofs.Ytccehechhdndmaa.Ext Go.Proofs.Ytccehechhdndmaa.L Go.Proofs.YtccehechhdndmaaW.PrintWords Go.Proofs.YtccehechhdndmaaW.PrintLast Go.Proofs.YtccehechhdndmaaW.PrintMore
set_option linter.unusedVariables false
set_option linter.unusedSimpArgs false

theorem LeaseExamples : sacristanlaw15_LeaseExamples.Pure := ⟨600, by decide +kernel⟩
end Go.Proofs.Ytccehechhdndmaa.Pure
