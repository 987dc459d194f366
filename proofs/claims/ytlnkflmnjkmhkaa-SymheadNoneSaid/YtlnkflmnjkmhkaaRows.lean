/-
  No cell of these rows narrows 'for every input' (looked for: loops, veiled, ifaces, maps, wideKeys, modest, calm, conditions, laid).
  DERIVED. THE GIVEN ROWS OF THIS SEAT. 5 by the template 'for every input the law returns true; each argument reads behind the call as it read before'; 0 by the template 'total and deterministic' (their statements: YtlnkflmnjkmhkaaTotals.lean).
  GIVEN WITH THE SEED: the statements are not yours to turn. If you find one false, say at which input.
  Laid BY PROGRAM, IN A SANDBOX (cutbox-rows.mjs): the forced cells as the released guide's own fill.sh prints them over the translation 935ab965445c9057… (all of the seat's roots in one cut). By AI agents, Wed Nov 11 2026. No macro, syntax, notation, axiom, sorry.
-/
import Derived.Test.YtlnkflmnjkmhkaaChecked
import GoSem.Claim
import GoSem.ClaimJoined
import GoSem.ClaimMapViews
import Derived.JoinedTies
import Derived.KernelRfl
namespace Go.Proofs.Ytlnkflmnjkmhkaa
/- THE CELL 'sum', in the pinned program and in every row, IS THE sha256 OF THE DUMP (.gsa) THAT YtlnkflmnjkmhkaaProg.lean LOADS. Nothing in Lean hashes anything: it is a label: what it is worth is what the hold of that sum in a sandbox is worth. -/
noncomputable def Try.pinned : Pinned := { name := "ytlnkflmnjkmhkaa", sum := "935ab965445c90578f3c2ea9f176f4ae65f2f251c35a35b83ec3aef28c400d78", checked := Try.checked }
namespace Rows
def none {H : Type} : Left H := { results := [], args := [] }

/-- 'quillonlaw18.SymopPlays': WHATEVER THE INPUT: true; the input reads as it did. -/
def symopPlaysSpec : ChangeSpec := { name := "symopPlays", fn := fun _ => fun
  | [d1, d2] => { results := [.lit (.bool true)], args := [d1, d2] }
  | _ => none }
def symopPlaysRow : OpenClaim := { program := "ytlnkflmnjkmhkaa", sum := "935ab965445c90578f3c2ea9f176f4ae65f2f251c35a35b83ec3aef28c400d78", func := "quillon/quillonlaw18.SymopPlays", spec := "symopPlays", unfollowed := true, recurses := true, plainKeys := false, apart := false }
def SymopPlaysSaid : Prop := symopPlaysRow.holds Try.pinned (OpenSpec.ofChange symopPlaysSpec)

/-- ITS FALSE NEIGHBOUR: 'it returns false'. Refute it at one input. -/
def symopPlaysWrong : ChangeSpec := { name := "symopPlays", fn := fun _ => fun
  | [d1, d2] => { results := [.lit (.bool false)], args := [d1, d2] }
  | _ => none }
def SymopPlaysWrongFalsely : Prop := symopPlaysRow.holds Try.pinned (OpenSpec.ofChange symopPlaysWrong)

/-- 'quillonlaw17.SymbvMeans': WHATEVER THE INPUT: true; the input reads as it did. -/
def symbvMeansSpec : ChangeSpec := { name := "symbvMeans", fn := fun _ => fun
  | [d1, d2, d3, d4] => { results := [.lit (.bool true)], args := [d1, d2, d3, d4] }
  | _ => none }
def symbvMeansRow : OpenClaim := { program := "ytlnkflmnjkmhkaa", sum := "935ab965445c90578f3c2ea9f176f4ae65f2f251c35a35b83ec3aef28c400d78", func := "quillon/quillonlaw17.SymbvMeans", spec := "symbvMeans", unfollowed := true, recurses := true, plainKeys := false, apart := false }
def SymbvMeansSaid : Prop := symbvMeansRow.holds Try.pinned (OpenSpec.ofChange symbvMeansSpec)

/-- ITS FALSE NEIGHBOUR: 'it returns false'. Refute it at one input. -/
def symbvMeansWrong : ChangeSpec := { name := "symbvMeans", fn := fun _ => fun
  | [d1, d2, d3, d4] => { results := [.lit (.bool false)], args := [d1, d2, d3, d4] }
  | _ => none }
def SymbvMeansWrongFalsely : Prop := symbvMeansRow.holds Try.pinned (OpenSpec.ofChange symbvMeansWrong)

/-- 'quillonlaw17.SymbvPlays': WHATEVER THE INPUT: true; the input reads as it did. -/
def symbvPlaysSpec : ChangeSpec := { name := "symbvPlays", fn := fun _ => fun
  | [d1, d2, d3] => { results := [.lit (.bool true)], args := [d1, d2, d3] }
  | _ => none }
def symbvPlaysRow : OpenClaim := { program := "ytlnkflmnjkmhkaa", sum := "935ab965445c90578f3c2ea9f176f4ae65f2f251c35a35b83ec3aef28c400d78", func := "quillon/quillonlaw17.SymbvPlays", spec := "symbvPlays", unfollowed := true, recurses := true, plainKeys := false, apart := false }
def SymbvPlaysSaid : Prop := symbvPlaysRow.holds Try.pinned (OpenSpec.ofChange symbvPlaysSpec)

/-- ITS FALSE NEIGHBOUR: 'it returns false'. Refute it at one input. -/
def symbvPlaysWrong : ChangeSpec := { name := "symbvPlays", fn := fun _ => fun
  | [d1, d2, d3] => { results := [.lit (.bool false)], args := [d1, d2, d3] }
  | _ => none }
def SymbvPlaysWrongFalsely : Prop := symbvPlaysRow.holds Try.pinned (OpenSpec.ofChange symbvPlaysWrong)

/-- 'quillonlaw18.SymopMeans': WHATEVER THE INPUT: true; the input reads as it did. -/
def symopMeansSpec : ChangeSpec := { name := "symopMeans", fn := fun _ => fun
  | [d1, d2, d3] => { results := [.lit (.bool true)], args := [d1, d2, d3] }
  | _ => none }
def symopMeansRow : OpenClaim := { program := "ytlnkflmnjkmhkaa", sum := "935ab965445c90578f3c2ea9f176f4ae65f2f251c35a35b83ec3aef28c400d78", func := "quillon/quillonlaw18.SymopMeans", spec := "symopMeans", unfollowed := true, recurses := true, plainKeys := false, apart := false }
def SymopMeansSaid : Prop := symopMeansRow.holds Try.pinned (OpenSpec.ofChange symopMeansSpec)

/-- ITS FALSE NEIGHBOUR: 'it returns false'. Refute it at one input. -/
def symopMeansWrong : ChangeSpec := { name := "symopMeans", fn := fun _ => fun
  | [d1, d2, d3] => { results := [.lit (.bool false)], args := [d1, d2, d3] }
  | _ => none }
def SymopMeansWrongFalsely : Prop := symopMeansRow.holds Try.pinned (OpenSpec.ofChange symopMeansWrong)

/-- 'quillonlaw24.SymheadNone': WHATEVER THE INPUT: true; the input reads as it did. -/
def symheadNoneSpec : ChangeSpec := { name := "symheadNone", fn := fun _ => fun
  | [d1, d2, d3] => { results := [.lit (.bool true)], args := [d1, d2, d3] }
  | _ => none }
def symheadNoneRow : OpenClaim := { program := "ytlnkflmnjkmhkaa", sum := "935ab965445c90578f3c2ea9f176f4ae65f2f251c35a35b83ec3aef28c400d78", func := "quillon/quillonlaw24.SymheadNone", spec := "symheadNone", unfollowed := true, recurses := true, plainKeys := false, apart := false }
def SymheadNoneSaid : Prop := symheadNoneRow.holds Try.pinned (OpenSpec.ofChange symheadNoneSpec)

/-- ITS FALSE NEIGHBOUR: 'it returns false'. Refute it at one input. -/
def symheadNoneWrong : ChangeSpec := { name := "symheadNone", fn := fun _ => fun
  | [d1, d2, d3] => { results := [.lit (.bool false)], args := [d1, d2, d3] }
  | _ => none }
def SymheadNoneWrongFalsely : Prop := symheadNoneRow.holds Try.pinned (OpenSpec.ofChange symheadNoneWrong)

/- THE SECOND FORM. 'bulk': how many values and letters a reading holds, each counted each time it is reached (what is shared counts as often as it is met; a slice's spare places count too). A statement '..UptoSaid' is the law's where the arguments, and the package variables that the reading takes, are together of bulk at most 1048576: NARROWER than '..Said'. Prove '..Said' where nothing that the law and all that it calls make is longer than what came in: it says more and counts as full. Else prove '..UptoSaid'. A law counts once. -/
mutual
def uptoBulk {H : Type} : DataW H → Nat
  | .lit (.string bytes) => bytes.length + 1
  | .lit _ => 1
  | .nil => 1
  | .ptr d => uptoBulk d + 1
  | .slice elems spare => uptoBulkAll elems + uptoBulkAll spare + 1
  | .agg parts => uptoBulkAll parts + 1
  | .iface _ d => uptoBulk d + 1
  | .map entries => uptoBulkEntries entries + 1
  | .held _ => 1
def uptoBulkAll {H : Type} : List (DataW H) → Nat
  | [] => 0
  | d :: r => uptoBulk d + uptoBulkAll r
def uptoBulkEntries {H : Type} : List (Lit × DataW H) → Nat
  | [] => 0
  | x :: r => uptoBulkEntry x + uptoBulkEntries r
def uptoBulkEntry {H : Type} : Lit × DataW H → Nat
  | (.string bytes, d) => bytes.length + uptoBulk d + 1
  | (_, d) => uptoBulk d + 1
 end
def uptoSmall : (H : Type) → List (DataW H) → Bool := fun _ ds => decide (uptoBulkAll ds ≤ 1048576)
def OpenSpec.upto (s : _root_.Go.ChangeSpec) : _root_.Go.OpenSpec := { _root_.Go.OpenSpec.ofChange s with cond := some uptoSmall }

/-- 'quillonlaw18.SymopPlays', WHERE WHAT IT READS IS OF BULK AT MOST 1048576: true; the input reads as it did. -/
def symopPlaysUptoRow : OpenClaim := { program := "ytlnkflmnjkmhkaa", sum := "935ab965445c90578f3c2ea9f176f4ae65f2f251c35a35b83ec3aef28c400d78", func := "quillon/quillonlaw18.SymopPlays", spec := "symopPlays", unfollowed := true, recurses := true, plainKeys := false, apart := false, narrowed := true }
def SymopPlaysUptoSaid : Prop := symopPlaysUptoRow.holds Try.pinned (OpenSpec.upto symopPlaysSpec)

/-- 'quillonlaw17.SymbvMeans', WHERE WHAT IT READS IS OF BULK AT MOST 1048576: true; the input reads as it did. -/
def symbvMeansUptoRow : OpenClaim := { program := "ytlnkflmnjkmhkaa", sum := "935ab965445c90578f3c2ea9f176f4ae65f2f251c35a35b83ec3aef28c400d78", func := "quillon/quillonlaw17.SymbvMeans", spec := "symbvMeans", unfollowed := true, recurses := true, plainKeys := false, apart := false, narrowed := true }
def SymbvMeansUptoSaid : Prop := symbvMeansUptoRow.holds Try.pinned (OpenSpec.upto symbvMeansSpec)

/-- 'quillonlaw17.SymbvPlays', WHERE WHAT IT READS IS OF BULK AT MOST 1048576: true; the input reads as it did. -/
def symbvPlaysUptoRow : OpenClaim := { program := "ytlnkflmnjkmhkaa", sum := "935ab965445c90578f3c2ea9f176f4ae65f2f251c35a35b83ec3aef28c400d78", func := "quillon/quillonlaw17.SymbvPlays", spec := "symbvPlays", unfollowed := true, recurses := true, plainKeys := false, apart := false, narrowed := true }
def SymbvPlaysUptoSaid : Prop := symbvPlaysUptoRow.holds Try.pinned (OpenSpec.upto symbvPlaysSpec)

/-- 'quillonlaw18.SymopMeans', WHERE WHAT IT READS IS OF BULK AT MOST 1048576: true; the input reads as it did. -/
def symopMeansUptoRow : OpenClaim := { program := "ytlnkflmnjkmhkaa", sum := "935ab965445c90578f3c2ea9f176f4ae65f2f251c35a35b83ec3aef28c400d78", func := "quillon/quillonlaw18.SymopMeans", spec := "symopMeans", unfollowed := true, recurses := true, plainKeys := false, apart := false, narrowed := true }
def SymopMeansUptoSaid : Prop := symopMeansUptoRow.holds Try.pinned (OpenSpec.upto symopMeansSpec)

/-- 'quillonlaw24.SymheadNone', WHERE WHAT IT READS IS OF BULK AT MOST 1048576: true; the input reads as it did. -/
def symheadNoneUptoRow : OpenClaim := { program := "ytlnkflmnjkmhkaa", sum := "935ab965445c90578f3c2ea9f176f4ae65f2f251c35a35b83ec3aef28c400d78", func := "quillon/quillonlaw24.SymheadNone", spec := "symheadNone", unfollowed := true, recurses := true, plainKeys := false, apart := false, narrowed := true }
def SymheadNoneUptoSaid : Prop := symheadNoneUptoRow.holds Try.pinned (OpenSpec.upto symheadNoneSpec)

end Rows
end Go.Proofs.Ytlnkflmnjkmhkaa
