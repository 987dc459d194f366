/-
  No cell of these rows narrows 'for every input' (looked for: loops, veiled, ifaces, maps, wideKeys, modest, calm, conditions, laid).
  DERIVED. THE GIVEN ROWS OF THIS SEAT. 3 by the template 'for every input the law returns true; each argument reads behind the call as it read before'; 0 by the template 'total and deterministic' (their statements: YtnknpgfconfgjaaTotals.lean).
  GIVEN WITH THE SEED: the statements are not yours to turn. If you find one false, say at which input.
  Laid BY PROGRAM, IN A SANDBOX (cutbox-rows.mjs): the forced cells as the released guide's own fill.sh prints them over the translation cc8b228995436969… (all of the seat's roots in one cut). By AI agents, Wed Nov 11 2026. No macro, syntax, notation, axiom, sorry.
-/
import Derived.Test.YtnknpgfconfgjaaChecked
import GoSem.Claim
import GoSem.ClaimJoined
import GoSem.ClaimMapViews
import Derived.JoinedTies
import Derived.KernelRfl
namespace Go.Proofs.Ytnknpgfconfgjaa
/- THE CELL 'sum', in the pinned program and in every row, IS THE sha256 OF THE DUMP (.gsa) THAT YtnknpgfconfgjaaProg.lean LOADS. Nothing in Lean hashes anything: it is a label: what it is worth is what the hold of that sum in a sandbox is worth. -/
noncomputable def Try.pinned : Pinned := { name := "ytnknpgfconfgjaa", sum := "cc8b228995436969d3ed4dc4b9dd0269310a9dc0e5db5e6587ab5755d9d8f8c3", checked := Try.checked }
namespace Rows
def none {H : Type} : Left H := { results := [], args := [] }

/-- 'quillonlaw21.ActionSums': WHATEVER THE INPUT: true; the input reads as it did. -/
def actionSumsSpec : ChangeSpec := { name := "actionSums", fn := fun _ => fun
  | [d1, d2, d3, d4] => { results := [.lit (.bool true)], args := [d1, d2, d3, d4] }
  | _ => none }
def actionSumsRow : OpenClaim := { program := "ytnknpgfconfgjaa", sum := "cc8b228995436969d3ed4dc4b9dd0269310a9dc0e5db5e6587ab5755d9d8f8c3", func := "quillon/quillonlaw21.ActionSums", spec := "actionSums", inPlace := ["math/bits.Sub64", "math/bits.Add64"], unfollowed := true, recurses := true, apart := false }
def ActionSumsSaid : Prop := actionSumsRow.holds Try.pinned (OpenSpec.ofChange actionSumsSpec)

/-- ITS FALSE NEIGHBOUR: 'it returns false'. Refute it at one input. -/
def actionSumsWrong : ChangeSpec := { name := "actionSums", fn := fun _ => fun
  | [d1, d2, d3, d4] => { results := [.lit (.bool false)], args := [d1, d2, d3, d4] }
  | _ => none }
def ActionSumsWrongFalsely : Prop := actionSumsRow.holds Try.pinned (OpenSpec.ofChange actionSumsWrong)

/-- 'quillonlaw20.TableLooks': WHATEVER THE INPUT: true; the input reads as it did. -/
def tableLooksSpec : ChangeSpec := { name := "tableLooks", fn := fun _ => fun
  | [d1, d2, d3, d4] => { results := [.lit (.bool true)], args := [d1, d2, d3, d4] }
  | _ => none }
def tableLooksRow : OpenClaim := { program := "ytnknpgfconfgjaa", sum := "cc8b228995436969d3ed4dc4b9dd0269310a9dc0e5db5e6587ab5755d9d8f8c3", func := "quillon/quillonlaw20.TableLooks", spec := "tableLooks", unfollowed := true, recurses := true, apart := false }
def TableLooksSaid : Prop := tableLooksRow.holds Try.pinned (OpenSpec.ofChange tableLooksSpec)

/-- ITS FALSE NEIGHBOUR: 'it returns false'. Refute it at one input. -/
def tableLooksWrong : ChangeSpec := { name := "tableLooks", fn := fun _ => fun
  | [d1, d2, d3, d4] => { results := [.lit (.bool false)], args := [d1, d2, d3, d4] }
  | _ => none }
def TableLooksWrongFalsely : Prop := tableLooksRow.holds Try.pinned (OpenSpec.ofChange tableLooksWrong)

/-- 'quillonlaw20.TableFirst': WHATEVER THE INPUT: true; the input reads as it did. -/
def tableFirstSpec : ChangeSpec := { name := "tableFirst", fn := fun _ => fun
  | [d1, d2, d3] => { results := [.lit (.bool true)], args := [d1, d2, d3] }
  | _ => none }
def tableFirstRow : OpenClaim := { program := "ytnknpgfconfgjaa", sum := "cc8b228995436969d3ed4dc4b9dd0269310a9dc0e5db5e6587ab5755d9d8f8c3", func := "quillon/quillonlaw20.TableFirst", spec := "tableFirst", unfollowed := true, recurses := true, apart := false }
def TableFirstSaid : Prop := tableFirstRow.holds Try.pinned (OpenSpec.ofChange tableFirstSpec)

/-- ITS FALSE NEIGHBOUR: 'it returns false'. Refute it at one input. -/
def tableFirstWrong : ChangeSpec := { name := "tableFirst", fn := fun _ => fun
  | [d1, d2, d3] => { results := [.lit (.bool false)], args := [d1, d2, d3] }
  | _ => none }
def TableFirstWrongFalsely : Prop := tableFirstRow.holds Try.pinned (OpenSpec.ofChange tableFirstWrong)

/- THE SECOND FORM. 'bulk': how many values and letters a reading holds, each counted each time it is reached (what is shared counts as often as it is met; a slice's spare places count too). A statement '..UptoSaid' is the law's where the arguments, and the package variables that the reading takes, are together of bulk at most 1048576: NARROWER than '..Said'. Prove '..Said' where nothing that the law and all that it calls make is longer than what came in: it says more and counts as full. Else prove '..UptoSaid'. A law counts once. -/
mutual
def uptoBulk {H : Type} : DataW H → Nat
  | .lit (.string bytes) => bytes.length + 1
  | .lit _ => 1
  | .nil => 1
  | .ptr d => uptoBulk d + 1
  | .slice elems spare => uptoBulkAll elems + uptoBulkAll spare + 1
  | .agg parts => uptoBulkAll parts + 1
  | .iface _ d => uptoBulk d + 1
  | .map entries => uptoBulkEntries entries + 1
  | .held _ => 1
def uptoBulkAll {H : Type} : List (DataW H) → Nat
  | [] => 0
  | d :: r => uptoBulk d + uptoBulkAll r
def uptoBulkEntries {H : Type} : List (Lit × DataW H) → Nat
  | [] => 0
  | x :: r => uptoBulkEntry x + uptoBulkEntries r
def uptoBulkEntry {H : Type} : Lit × DataW H → Nat
  | (.string bytes, d) => bytes.length + uptoBulk d + 1
  | (_, d) => uptoBulk d + 1
 end
def uptoSmall : (H : Type) → List (DataW H) → Bool := fun _ ds => decide (uptoBulkAll ds ≤ 1048576)
def OpenSpec.upto (s : _root_.Go.ChangeSpec) : _root_.Go.OpenSpec := { _root_.Go.OpenSpec.ofChange s with cond := some uptoSmall }

/-- 'quillonlaw21.ActionSums', WHERE WHAT IT READS IS OF BULK AT MOST 1048576: true; the input reads as it did. -/
def actionSumsUptoRow : OpenClaim := { program := "ytnknpgfconfgjaa", sum := "cc8b228995436969d3ed4dc4b9dd0269310a9dc0e5db5e6587ab5755d9d8f8c3", func := "quillon/quillonlaw21.ActionSums", spec := "actionSums", inPlace := ["math/bits.Sub64", "math/bits.Add64"], unfollowed := true, recurses := true, apart := false, narrowed := true }
def ActionSumsUptoSaid : Prop := actionSumsUptoRow.holds Try.pinned (OpenSpec.upto actionSumsSpec)

/-- 'quillonlaw20.TableLooks', WHERE WHAT IT READS IS OF BULK AT MOST 1048576: true; the input reads as it did. -/
def tableLooksUptoRow : OpenClaim := { program := "ytnknpgfconfgjaa", sum := "cc8b228995436969d3ed4dc4b9dd0269310a9dc0e5db5e6587ab5755d9d8f8c3", func := "quillon/quillonlaw20.TableLooks", spec := "tableLooks", unfollowed := true, recurses := true, apart := false, narrowed := true }
def TableLooksUptoSaid : Prop := tableLooksUptoRow.holds Try.pinned (OpenSpec.upto tableLooksSpec)

/-- 'quillonlaw20.TableFirst', WHERE WHAT IT READS IS OF BULK AT MOST 1048576: true; the input reads as it did. -/
def tableFirstUptoRow : OpenClaim := { program := "ytnknpgfconfgjaa", sum := "cc8b228995436969d3ed4dc4b9dd0269310a9dc0e5db5e6587ab5755d9d8f8c3", func := "quillon/quillonlaw20.TableFirst", spec := "tableFirst", unfollowed := true, recurses := true, apart := false, narrowed := true }
def TableFirstUptoSaid : Prop := tableFirstUptoRow.holds Try.pinned (OpenSpec.upto tableFirstSpec)

end Rows
end Go.Proofs.Ytnknpgfconfgjaa
