/-
  WORDS for this claim's walks: printed by the kit's print.sh; the theorems that no text of the seat uses are struck by a program of this session (wprune.py).
-/
-- PRINTED BY print.sh 35421559b90ae4d0a3588c463048766b98c2df88dd9212a6774a882060cdf62d: not written by this session
import Derived.Test.YtmendieiikmbhaaDoorWTab
namespace Go.Proofs.YtmendieiikmbhaaDoorW.PrintLast
section
variable {P : Program} {ops : Array Oper} {Q : Exit → Act → World → Prop} {md : Region.Mode} {S : World → Prop} {ds : List Nat} {T : Bool × List (List Nat × List Nat)}
end
end Go.Proofs.YtmendieiikmbhaaDoorW.PrintLast
