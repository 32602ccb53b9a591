import Derived.Test.YtoadabodhdgdjaaDoorQSB
namespace Go.Proofs.YtoadabodhdgdjaaDoorW.PrintWords
open Go.RowKit
def Kd.map : Kd (Option Nat) := Kd.scalar Value.map (fun _ => rfl)
end Go.Proofs.YtoadabodhdgdjaaDoorW.PrintWords
