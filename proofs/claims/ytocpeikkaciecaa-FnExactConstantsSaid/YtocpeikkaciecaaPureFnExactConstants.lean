/- The exported constants have the values of the document. No condition. -/
import Derived.Test.YtocpeikkaciecaaPx1
namespace Go.Proofs.Ytocpeikkaciecaa.Pure
open Go.RowKit Go.Proofs.Ytocpeikkaciecaa.P
theorem FnExactConstants : laws_FnExactConstants.f = some true := rfl
end Go.Proofs.Ytocpeikkaciecaa.Pure
