-- words of the kit's print (print.sh, OWN=1), without the rows that this claim does not name (wip/myclaim.py)
import Derived.Test.YtpphkeijklffgaaDoorVFnChainsAndAntichainsN
namespace Go.Proofs.YtpphkeijklffgaaDoorW.PrintWords
open Go.RowKit
namespace Kd
section
variable {α : Type} {d : Kd α} {W : World} {g n : Nat} {S ok : Nat → Prop} {A : Option Addr} {ad : Addr} {xs : List α}
end
end Kd
end Go.Proofs.YtpphkeijklffgaaDoorW.PrintWords
