/- FnExactIsSession, in plain Lean: for every session the law's function comes to true. Conditions: none. -/
import Derived.Test.YtcneohelnfcbbaaPx1
import Derived.Test.YtcneohelnfcbbaaPIn
namespace Go.Proofs.Ytcneohelnfcbbaa.Pure
open Go.RowKit Go.Proofs.Ytcneohelnfcbbaa.P Go.Proofs.YtcneohelnfcbbaaW.PrintWords Go.Proofs.YtcneohelnfcbbaaW.PrintLast Go.Proofs.Ytcneohelnfcbbaa.PB Go.Proofs.Ytcneohelnfcbbaa.PIn
theorem FnExactIsSession : ∀ (z0_0 : Int) (z0_1 : Int), ((Lit.int .i64 z0_0).wf = true) → ((Lit.int .i64 z0_1).wf = true) → laws_FnExactIsSession.f z0_0 z0_1 = some true := by
  intro a b _ _
  unfold laws_FnExactIsSession.f laws_toSession.f spec_IsSession.f impl_IsSession.f
  simp only [spec_in, impl_in, Option.bind_some]
  cases inr a 0 1000 <;> cases inr b 0 1000 <;> rfl
end Go.Proofs.Ytcneohelnfcbbaa.Pure
