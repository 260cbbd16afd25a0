/-
  WORDS for this claim's walks: printed by the kit's print.sh; the theorems that no text of the seat uses are struck by a program of this session (wprune.py).
-/
-- PRINTED BY print.sh 35421559b90ae4d0a3588c463048766b98c2df88dd9212a6774a882060cdf62d: not written by this session
import Derived.Test.YtmendieiikmbhaaDoorWInv
import Derived.Test.YtmendieiikmbhaaDoorWFootNe
namespace Go.Proofs.YtmendieiikmbhaaDoorW.PrintWords
open Go.RowKit
end Go.Proofs.YtmendieiikmbhaaDoorW.PrintWords
namespace Go.Proofs.YtmendieiikmbhaaDoorW.PrintLast
section
variable {ops : Array Oper} {a : Act} {o og : Oper} {g : Nat} {t : Tmp} {u : Bool}
end
end Go.Proofs.YtmendieiikmbhaaDoorW.PrintLast
