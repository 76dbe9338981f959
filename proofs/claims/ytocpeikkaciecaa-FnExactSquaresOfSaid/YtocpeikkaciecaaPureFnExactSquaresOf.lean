/- SquaresOf of the program answers as the reference's, for all numbers. -/
import Derived.Test.YtocpeikkaciecaaAPure1
import Derived.Test.YtocpeikkaciecaaPx16
namespace Go.Proofs.Ytocpeikkaciecaa.Pure
open Go.RowKit Go.Proofs.Ytocpeikkaciecaa.P
theorem FnExactSquaresOf (a0_0 : Int) (a0_1 : Int) (_ : (Lit.int .i64 a0_0).wf = true) (_ : (Lit.int .i64 a0_1).wf = true) : laws_FnExactSquaresOf.f a0_0 a0_1 = some true := by
  unfold laws_FnExactSquaresOf.f spec_SquaresOf.f impl_SquaresOf.f impl_Bar_squares.f
  simp only [toBar_some, brGood_some, isBar_some, Option.bind_some]
  cases goodB a0_0 a0_1 <;> simp
end Go.Proofs.Ytocpeikkaciecaa.Pure
