/- TurnBar of the program answers as the reference's, for all numbers. -/
import Derived.Test.YtocpeikkaciecaaAPure1
import Derived.Test.YtocpeikkaciecaaPx20
namespace Go.Proofs.Ytocpeikkaciecaa.Pure
open Go.RowKit Go.Proofs.Ytocpeikkaciecaa.P
theorem FnExactTurnBar (a0_0 : Int) (a0_1 : Int) (_ : (Lit.int .i64 a0_0).wf = true) (_ : (Lit.int .i64 a0_1).wf = true) : laws_FnExactTurnBar.f a0_0 a0_1 = some true := by
  unfold laws_FnExactTurnBar.f spec_TurnBar.f impl_TurnBar.f
  simp only [toBar_some, brGood_some, isBar_some, Option.bind_some]
  cases goodB a0_0 a0_1 <;> simp [laws_eqBar.f]
end Go.Proofs.Ytocpeikkaciecaa.Pure
