/- Out of YtjglknoebaojgaaWInv: what the claim needs of it. Conditions: each declaration's own. -/
import Derived.Test.YtjglknoebaojgaaZAppWTab
namespace Go.Proofs.YtjglknoebaojgaaW.PrintLast
/-- Number i is listed too. -/
def up (b : Nat → Bool) (i : Nat) : Nat → Bool := fun j => if j = i then true else b j
section
end
end Go.Proofs.YtjglknoebaojgaaW.PrintLast

