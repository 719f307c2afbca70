/-
  The engine, part X: many blocks of one's own under one name (slices of slices of one's own). Plain definitions and laws; no conditions.
-/
import Derived.Test.YtflmombnmnblnaaEngW
namespace Go.Proofs.Ytflmombnmnblnaa
open Go.RowKit
section
variable {P : Program} {o : Oper} {X : Nat → Nat → Prop} {φ : Nat → FSlot} {w : World} {r : AV}
end
section
variable {P : Program} {X : Nat → Nat → Prop} {φ0 φ : Nat → FSlot} {w0 w : World} {s : AS}
end
section
variable {X : Nat → Nat → Prop} {φ0 : Nat → FSlot} {w0 : World} {s : AS}
end
section
variable {P : Program} {o : Oper}
end
end Go.Proofs.Ytflmombnmnblnaa
