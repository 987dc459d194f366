/-
  No cell of these rows narrows 'for every input' (looked for: loops, veiled, ifaces, maps, wideKeys, modest, calm, conditions, laid).
  DERIVED. THE GIVEN ROWS OF THIS SEAT. 3 by the template 'for every input the law returns true; each argument reads behind the call as it read before'; 0 by the template 'total and deterministic' (their statements: YtikilcbpogfgkaaGreatTotals.lean).
  GIVEN WITH THE SEED: the statements are not yours to turn. If you find one false, say at which input.
  Laid BY PROGRAM, IN A SANDBOX (cutbox-rows.mjs): the forced cells as the released guide's own fill.sh prints them over the translation ce8946b6dd27370e… (all of the seat's roots in one cut). By AI agents, Wed Nov 11 2026. No macro, syntax, notation, axiom, sorry.
-/
import Derived.Test.YtikilcbpogfgkaaGreatChecked
import GoSem.Claim
import GoSem.ClaimJoined
import GoSem.ClaimMapViews
import Derived.JoinedTies
import Derived.KernelRfl
namespace Go.Proofs.YtikilcbpogfgkaaGreat
/- THE CELL 'sum', in the pinned program and in every row, IS THE sha256 OF THE DUMP (.gsa) THAT YtikilcbpogfgkaaGreatProg.lean LOADS. Nothing in Lean hashes anything: it is a label: what it is worth is what the hold of that sum in a sandbox is worth. -/
noncomputable def Tryz.pinned : Pinned := { name := "ytikilcbpogfgkaagreat", sum := "ce8946b6dd27370e64e9121dd06fd5d44e4bf22a11f52f8a1a4949ad58cd69df", checked := Tryz.checked }
namespace Rows
def none {H : Type} : Left H := { results := [], args := [] }

/-- 'quillonlaw22.DeviceAgain': WHATEVER THE INPUT: true; the input reads as it did. -/
def deviceAgainSpec : ChangeSpec := { name := "deviceAgain", fn := fun _ => fun
  | [d1, d2, d3, d4] => { results := [.lit (.bool true)], args := [d1, d2, d3, d4] }
  | _ => none }
def deviceAgainRow : OpenClaim := { program := "ytikilcbpogfgkaagreat", sum := "ce8946b6dd27370e64e9121dd06fd5d44e4bf22a11f52f8a1a4949ad58cd69df", func := "quillon/quillonlaw22.DeviceAgain", spec := "deviceAgain", inPlace := ["math/bits.Sub64", "math/bits.Add64"], unfollowed := true, recurses := true, apart := false }
def DeviceAgainSaid : Prop := deviceAgainRow.holds Tryz.pinned (OpenSpec.ofChange deviceAgainSpec)

/-- ITS FALSE NEIGHBOUR: 'it returns false'. Refute it at one input. -/
def deviceAgainWrong : ChangeSpec := { name := "deviceAgain", fn := fun _ => fun
  | [d1, d2, d3, d4] => { results := [.lit (.bool false)], args := [d1, d2, d3, d4] }
  | _ => none }
def DeviceAgainWrongFalsely : Prop := deviceAgainRow.holds Tryz.pinned (OpenSpec.ofChange deviceAgainWrong)

/-- 'quillonlaw23.JourneyMore': WHATEVER THE INPUT: true; the input reads as it did. -/
def journeyMoreSpec : ChangeSpec := { name := "journeyMore", fn := fun _ => fun
  | [d1, d2, d3, d4, d5, d6] => { results := [.lit (.bool true)], args := [d1, d2, d3, d4, d5, d6] }
  | _ => none }
def journeyMoreRow : OpenClaim := { program := "ytikilcbpogfgkaagreat", sum := "ce8946b6dd27370e64e9121dd06fd5d44e4bf22a11f52f8a1a4949ad58cd69df", func := "quillon/quillonlaw23.JourneyMore", spec := "journeyMore", inPlace := ["math/bits.Sub64", "math/bits.Add64"], unfollowed := true, recurses := true, apart := false }
def JourneyMoreSaid : Prop := journeyMoreRow.holds Tryz.pinned (OpenSpec.ofChange journeyMoreSpec)

/-- ITS FALSE NEIGHBOUR: 'it returns false'. Refute it at one input. -/
def journeyMoreWrong : ChangeSpec := { name := "journeyMore", fn := fun _ => fun
  | [d1, d2, d3, d4, d5, d6] => { results := [.lit (.bool false)], args := [d1, d2, d3, d4, d5, d6] }
  | _ => none }
def JourneyMoreWrongFalsely : Prop := journeyMoreRow.holds Tryz.pinned (OpenSpec.ofChange journeyMoreWrong)

/-- 'quillonlaw23.JourneyOne': WHATEVER THE INPUT: true; the input reads as it did. -/
def journeyOneSpec : ChangeSpec := { name := "journeyOne", fn := fun _ => fun
  | [d1, d2] => { results := [.lit (.bool true)], args := [d1, d2] }
  | _ => none }
def journeyOneRow : OpenClaim := { program := "ytikilcbpogfgkaagreat", sum := "ce8946b6dd27370e64e9121dd06fd5d44e4bf22a11f52f8a1a4949ad58cd69df", func := "quillon/quillonlaw23.JourneyOne", spec := "journeyOne", inPlace := ["math/bits.Sub64", "math/bits.Add64"], unfollowed := true, recurses := true, apart := false }
def JourneyOneSaid : Prop := journeyOneRow.holds Tryz.pinned (OpenSpec.ofChange journeyOneSpec)

/-- ITS FALSE NEIGHBOUR: 'it returns false'. Refute it at one input. -/
def journeyOneWrong : ChangeSpec := { name := "journeyOne", fn := fun _ => fun
  | [d1, d2] => { results := [.lit (.bool false)], args := [d1, d2] }
  | _ => none }
def JourneyOneWrongFalsely : Prop := journeyOneRow.holds Tryz.pinned (OpenSpec.ofChange journeyOneWrong)

/- THE SECOND FORM. 'bulk': how many values and letters a reading holds, each counted each time it is reached (what is shared counts as often as it is met; a slice's spare places count too). A statement '..UptoSaid' is the law's where the arguments, and the package variables that the reading takes, are together of bulk at most 1048576: NARROWER than '..Said'. Prove '..Said' where nothing that the law and all that it calls make is longer than what came in: it says more and counts as full. Else prove '..UptoSaid'. A law counts once. -/
mutual
def uptoBulk {H : Type} : DataW H → Nat
  | .lit (.string bytes) => bytes.length + 1
  | .lit _ => 1
  | .nil => 1
  | .ptr d => uptoBulk d + 1
  | .slice elems spare => uptoBulkAll elems + uptoBulkAll spare + 1
  | .agg parts => uptoBulkAll parts + 1
  | .iface _ d => uptoBulk d + 1
  | .map entries => uptoBulkEntries entries + 1
  | .held _ => 1
def uptoBulkAll {H : Type} : List (DataW H) → Nat
  | [] => 0
  | d :: r => uptoBulk d + uptoBulkAll r
def uptoBulkEntries {H : Type} : List (Lit × DataW H) → Nat
  | [] => 0
  | x :: r => uptoBulkEntry x + uptoBulkEntries r
def uptoBulkEntry {H : Type} : Lit × DataW H → Nat
  | (.string bytes, d) => bytes.length + uptoBulk d + 1
  | (_, d) => uptoBulk d + 1
 end
def uptoSmall : (H : Type) → List (DataW H) → Bool := fun _ ds => decide (uptoBulkAll ds ≤ 1048576)
def OpenSpec.upto (s : _root_.Go.ChangeSpec) : _root_.Go.OpenSpec := { _root_.Go.OpenSpec.ofChange s with cond := some uptoSmall }

/-- 'quillonlaw22.DeviceAgain', WHERE WHAT IT READS IS OF BULK AT MOST 1048576: true; the input reads as it did. -/
def deviceAgainUptoRow : OpenClaim := { program := "ytikilcbpogfgkaagreat", sum := "ce8946b6dd27370e64e9121dd06fd5d44e4bf22a11f52f8a1a4949ad58cd69df", func := "quillon/quillonlaw22.DeviceAgain", spec := "deviceAgain", inPlace := ["math/bits.Sub64", "math/bits.Add64"], unfollowed := true, recurses := true, apart := false, narrowed := true }
def DeviceAgainUptoSaid : Prop := deviceAgainUptoRow.holds Tryz.pinned (OpenSpec.upto deviceAgainSpec)

/-- 'quillonlaw23.JourneyMore', WHERE WHAT IT READS IS OF BULK AT MOST 1048576: true; the input reads as it did. -/
def journeyMoreUptoRow : OpenClaim := { program := "ytikilcbpogfgkaagreat", sum := "ce8946b6dd27370e64e9121dd06fd5d44e4bf22a11f52f8a1a4949ad58cd69df", func := "quillon/quillonlaw23.JourneyMore", spec := "journeyMore", inPlace := ["math/bits.Sub64", "math/bits.Add64"], unfollowed := true, recurses := true, apart := false, narrowed := true }
def JourneyMoreUptoSaid : Prop := journeyMoreUptoRow.holds Tryz.pinned (OpenSpec.upto journeyMoreSpec)

/-- 'quillonlaw23.JourneyOne', WHERE WHAT IT READS IS OF BULK AT MOST 1048576: true; the input reads as it did. -/
def journeyOneUptoRow : OpenClaim := { program := "ytikilcbpogfgkaagreat", sum := "ce8946b6dd27370e64e9121dd06fd5d44e4bf22a11f52f8a1a4949ad58cd69df", func := "quillon/quillonlaw23.JourneyOne", spec := "journeyOne", inPlace := ["math/bits.Sub64", "math/bits.Add64"], unfollowed := true, recurses := true, apart := false, narrowed := true }
def JourneyOneUptoSaid : Prop := journeyOneUptoRow.holds Tryz.pinned (OpenSpec.upto journeyOneSpec)

end Rows
end Go.Proofs.YtikilcbpogfgkaaGreat
