/- The plain statement of the law FnExactConstants, lemmas on the functions that it reaches, and its plain proof. -/
import Derived.Test.YtdolciclfpdcfaaG8e3317ad8d
import Derived.Test.YtdolciclfpdcfaaBase
section
namespace Go.Proofs.Ytdolciclfpdcfaa.Pure
open Go.RowKit Go.Proofs.Ytdolciclfpdcfaa.P Go.Proofs.YtdolciclfpdcfaaW.PrintWords Go.Proofs.YtdolciclfpdcfaaW.PrintLast Go.Proofs.YtdolciclfpdcfaaW.PrintMore
def StatFnExactConstants : Prop := laws_FnExactConstants.f  = some true
end Go.Proofs.Ytdolciclfpdcfaa.Pure
end
section
set_option linter.unusedVariables false
set_option linter.unusedSimpArgs false
namespace Go.Proofs.Ytdolciclfpdcfaa.Pure
open Go.RowKit Go.Proofs.Ytdolciclfpdcfaa.P Go.Proofs.YtdolciclfpdcfaaW.PrintWords Go.Proofs.YtdolciclfpdcfaaW.PrintLast Go.Proofs.YtdolciclfpdcfaaW.PrintMore Go.Proofs.Ytdolciclfpdcfaa.Base

theorem FnExactConstants : StatFnExactConstants := by
  unfold StatFnExactConstants laws_FnExactConstants.f
  rfl

end Go.Proofs.Ytdolciclfpdcfaa.Pure
end
