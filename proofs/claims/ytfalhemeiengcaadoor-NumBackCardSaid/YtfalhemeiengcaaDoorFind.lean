/-
  A region of a function's code, by its number.
-/
import Derived.Test.YtfalhemeiengcaaDoorLib
namespace Go.Proofs.YtfalhemeiengcaaDoor
open Go.RowKit

def findRegion (n : Nat) : Code → Option Code
  | .region k ops any => if k = n then some (.region k ops any) else none
  | .seq a b => match findRegion n a with
    | some c => some c
    | none => findRegion n b
  | .block _ c => findRegion n c
  | .scope c => findRegion n c
  | .loop c => findRegion n c
  | .cond _ a b => match findRegion n a with
    | some c => some c
    | none => findRegion n b
  | _ => none

end Go.Proofs.YtfalhemeiengcaaDoor
