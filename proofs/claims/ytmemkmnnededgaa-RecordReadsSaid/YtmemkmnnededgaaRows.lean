/-
  No cell of these rows narrows 'for every input' (looked for: loops, veiled, ifaces, maps, wideKeys, modest, calm, conditions, laid).
  DERIVED. THE GIVEN ROWS OF THIS SEAT. 5 by the template 'for every input the law returns true; each argument reads behind the call as it read before'; 0 by the template 'total and deterministic' (their statements: YtmemkmnnededgaaTotals.lean).
  GIVEN WITH THE SEED: the statements are not yours to turn. If you find one false, say at which input.
  Laid BY PROGRAM, IN A SANDBOX (cutbox-rows.mjs): the forced cells as the released guide's own fill.sh prints them over the translation 22cb7fd41f125027… (all of the seat's roots in one cut). By AI agents, Wed Nov 11 2026. No macro, syntax, notation, axiom, sorry.
-/
import Derived.Test.YtmemkmnnededgaaChecked
import GoSem.Claim
import GoSem.ClaimJoined
import GoSem.ClaimMapViews
import Derived.JoinedTies
import Derived.KernelRfl
namespace Go.Proofs.Ytmemkmnnededgaa
/- THE CELL 'sum', in the pinned program and in every row, IS THE sha256 OF THE DUMP (.gsa) THAT YtmemkmnnededgaaProg.lean LOADS. Nothing in Lean hashes anything: it is a label: what it is worth is what the hold of that sum in a sandbox is worth. -/
noncomputable def Try.pinned : Pinned := { name := "ytmemkmnnededgaa", sum := "22cb7fd41f1250279557177366bd4fd95f14fe757153809f9930301d0c991c15", checked := Try.checked }
namespace Rows
def none {H : Type} : Left H := { results := [], args := [] }

/-- 'varvelaw06.RecordCommits': WHATEVER THE INPUT: true; the input reads as it did. -/
def recordCommitsSpec : ChangeSpec := { name := "recordCommits", fn := fun _ => fun
  | [d] => { results := [.lit (.bool true)], args := [d] }
  | _ => none }
def recordCommitsRow : OpenClaim := { program := "ytmemkmnnededgaa", sum := "22cb7fd41f1250279557177366bd4fd95f14fe757153809f9930301d0c991c15", func := "varve/varvelaw06.RecordCommits", spec := "recordCommits", unfollowed := true, recurses := true, apart := false }
def RecordCommitsSaid : Prop := recordCommitsRow.holds Try.pinned (OpenSpec.ofChange recordCommitsSpec)

/-- ITS FALSE NEIGHBOUR: 'it returns false'. Refute it at one input. -/
def recordCommitsWrong : ChangeSpec := { name := "recordCommits", fn := fun _ => fun
  | [d] => { results := [.lit (.bool false)], args := [d] }
  | _ => none }
def RecordCommitsWrongFalsely : Prop := recordCommitsRow.holds Try.pinned (OpenSpec.ofChange recordCommitsWrong)

/-- 'varvelaw06.RecordReads': WHATEVER THE INPUT: true; the input reads as it did. -/
def recordReadsSpec : ChangeSpec := { name := "recordReads", fn := fun _ => fun
  | [d] => { results := [.lit (.bool true)], args := [d] }
  | _ => none }
def recordReadsRow : OpenClaim := { program := "ytmemkmnnededgaa", sum := "22cb7fd41f1250279557177366bd4fd95f14fe757153809f9930301d0c991c15", func := "varve/varvelaw06.RecordReads", spec := "recordReads", unfollowed := true, recurses := true, apart := false }
def RecordReadsSaid : Prop := recordReadsRow.holds Try.pinned (OpenSpec.ofChange recordReadsSpec)

/-- ITS FALSE NEIGHBOUR: 'it returns false'. Refute it at one input. -/
def recordReadsWrong : ChangeSpec := { name := "recordReads", fn := fun _ => fun
  | [d] => { results := [.lit (.bool false)], args := [d] }
  | _ => none }
def RecordReadsWrongFalsely : Prop := recordReadsRow.holds Try.pinned (OpenSpec.ofChange recordReadsWrong)

/-- 'varvelaw06.RecordManifests': WHATEVER THE INPUT: true; the input reads as it did. -/
def recordManifestsSpec : ChangeSpec := { name := "recordManifests", fn := fun _ => fun
  | [d] => { results := [.lit (.bool true)], args := [d] }
  | _ => none }
def recordManifestsRow : OpenClaim := { program := "ytmemkmnnededgaa", sum := "22cb7fd41f1250279557177366bd4fd95f14fe757153809f9930301d0c991c15", func := "varve/varvelaw06.RecordManifests", spec := "recordManifests", unfollowed := true, recurses := true, apart := false }
def RecordManifestsSaid : Prop := recordManifestsRow.holds Try.pinned (OpenSpec.ofChange recordManifestsSpec)

/-- ITS FALSE NEIGHBOUR: 'it returns false'. Refute it at one input. -/
def recordManifestsWrong : ChangeSpec := { name := "recordManifests", fn := fun _ => fun
  | [d] => { results := [.lit (.bool false)], args := [d] }
  | _ => none }
def RecordManifestsWrongFalsely : Prop := recordManifestsRow.holds Try.pinned (OpenSpec.ofChange recordManifestsWrong)

/-- 'varvelaw06.RecordBack': WHATEVER THE INPUT: true; the input reads as it did. -/
def recordBackSpec : ChangeSpec := { name := "recordBack", fn := fun _ => fun
  | [d1, d2, d3, d4] => { results := [.lit (.bool true)], args := [d1, d2, d3, d4] }
  | _ => none }
def recordBackRow : OpenClaim := { program := "ytmemkmnnededgaa", sum := "22cb7fd41f1250279557177366bd4fd95f14fe757153809f9930301d0c991c15", func := "varve/varvelaw06.RecordBack", spec := "recordBack", unfollowed := true, recurses := true, apart := false }
def RecordBackSaid : Prop := recordBackRow.holds Try.pinned (OpenSpec.ofChange recordBackSpec)

/-- ITS FALSE NEIGHBOUR: 'it returns false'. Refute it at one input. -/
def recordBackWrong : ChangeSpec := { name := "recordBack", fn := fun _ => fun
  | [d1, d2, d3, d4] => { results := [.lit (.bool false)], args := [d1, d2, d3, d4] }
  | _ => none }
def RecordBackWrongFalsely : Prop := recordBackRow.holds Try.pinned (OpenSpec.ofChange recordBackWrong)

/-- 'varvelaw06.RecordOne': WHATEVER THE INPUT: true; the input reads as it did. -/
def recordOneSpec : ChangeSpec := { name := "recordOne", fn := fun _ => fun
  | [d] => { results := [.lit (.bool true)], args := [d] }
  | _ => none }
def recordOneRow : OpenClaim := { program := "ytmemkmnnededgaa", sum := "22cb7fd41f1250279557177366bd4fd95f14fe757153809f9930301d0c991c15", func := "varve/varvelaw06.RecordOne", spec := "recordOne", unfollowed := true, recurses := true, apart := false }
def RecordOneSaid : Prop := recordOneRow.holds Try.pinned (OpenSpec.ofChange recordOneSpec)

/-- ITS FALSE NEIGHBOUR: 'it returns false'. Refute it at one input. -/
def recordOneWrong : ChangeSpec := { name := "recordOne", fn := fun _ => fun
  | [d] => { results := [.lit (.bool false)], args := [d] }
  | _ => none }
def RecordOneWrongFalsely : Prop := recordOneRow.holds Try.pinned (OpenSpec.ofChange recordOneWrong)

/- THE SECOND FORM. 'bulk': how many values and letters a reading holds, each counted each time it is reached (what is shared counts as often as it is met; a slice's spare places count too). A statement '..UptoSaid' is the law's where the arguments, and the package variables that the reading takes, are together of bulk at most 1048576: NARROWER than '..Said'. Prove '..Said' where nothing that the law and all that it calls make is longer than what came in: it says more and counts as full. Else prove '..UptoSaid'. A law counts once. -/
mutual
def uptoBulk {H : Type} : DataW H → Nat
  | .lit (.string bytes) => bytes.length + 1
  | .lit _ => 1
  | .nil => 1
  | .ptr d => uptoBulk d + 1
  | .slice elems spare => uptoBulkAll elems + uptoBulkAll spare + 1
  | .agg parts => uptoBulkAll parts + 1
  | .iface _ d => uptoBulk d + 1
  | .map entries => uptoBulkEntries entries + 1
  | .held _ => 1
def uptoBulkAll {H : Type} : List (DataW H) → Nat
  | [] => 0
  | d :: r => uptoBulk d + uptoBulkAll r
def uptoBulkEntries {H : Type} : List (Lit × DataW H) → Nat
  | [] => 0
  | x :: r => uptoBulkEntry x + uptoBulkEntries r
def uptoBulkEntry {H : Type} : Lit × DataW H → Nat
  | (.string bytes, d) => bytes.length + uptoBulk d + 1
  | (_, d) => uptoBulk d + 1
 end
def uptoSmall : (H : Type) → List (DataW H) → Bool := fun _ ds => decide (uptoBulkAll ds ≤ 1048576)
def OpenSpec.upto (s : _root_.Go.ChangeSpec) : _root_.Go.OpenSpec := { _root_.Go.OpenSpec.ofChange s with cond := some uptoSmall }

/-- 'varvelaw06.RecordCommits', WHERE WHAT IT READS IS OF BULK AT MOST 1048576: true; the input reads as it did. -/
def recordCommitsUptoRow : OpenClaim := { program := "ytmemkmnnededgaa", sum := "22cb7fd41f1250279557177366bd4fd95f14fe757153809f9930301d0c991c15", func := "varve/varvelaw06.RecordCommits", spec := "recordCommits", unfollowed := true, recurses := true, apart := false, narrowed := true }
def RecordCommitsUptoSaid : Prop := recordCommitsUptoRow.holds Try.pinned (OpenSpec.upto recordCommitsSpec)

/-- 'varvelaw06.RecordReads', WHERE WHAT IT READS IS OF BULK AT MOST 1048576: true; the input reads as it did. -/
def recordReadsUptoRow : OpenClaim := { program := "ytmemkmnnededgaa", sum := "22cb7fd41f1250279557177366bd4fd95f14fe757153809f9930301d0c991c15", func := "varve/varvelaw06.RecordReads", spec := "recordReads", unfollowed := true, recurses := true, apart := false, narrowed := true }
def RecordReadsUptoSaid : Prop := recordReadsUptoRow.holds Try.pinned (OpenSpec.upto recordReadsSpec)

/-- 'varvelaw06.RecordManifests', WHERE WHAT IT READS IS OF BULK AT MOST 1048576: true; the input reads as it did. -/
def recordManifestsUptoRow : OpenClaim := { program := "ytmemkmnnededgaa", sum := "22cb7fd41f1250279557177366bd4fd95f14fe757153809f9930301d0c991c15", func := "varve/varvelaw06.RecordManifests", spec := "recordManifests", unfollowed := true, recurses := true, apart := false, narrowed := true }
def RecordManifestsUptoSaid : Prop := recordManifestsUptoRow.holds Try.pinned (OpenSpec.upto recordManifestsSpec)

/-- 'varvelaw06.RecordBack', WHERE WHAT IT READS IS OF BULK AT MOST 1048576: true; the input reads as it did. -/
def recordBackUptoRow : OpenClaim := { program := "ytmemkmnnededgaa", sum := "22cb7fd41f1250279557177366bd4fd95f14fe757153809f9930301d0c991c15", func := "varve/varvelaw06.RecordBack", spec := "recordBack", unfollowed := true, recurses := true, apart := false, narrowed := true }
def RecordBackUptoSaid : Prop := recordBackUptoRow.holds Try.pinned (OpenSpec.upto recordBackSpec)

/-- 'varvelaw06.RecordOne', WHERE WHAT IT READS IS OF BULK AT MOST 1048576: true; the input reads as it did. -/
def recordOneUptoRow : OpenClaim := { program := "ytmemkmnnededgaa", sum := "22cb7fd41f1250279557177366bd4fd95f14fe757153809f9930301d0c991c15", func := "varve/varvelaw06.RecordOne", spec := "recordOne", unfollowed := true, recurses := true, apart := false, narrowed := true }
def RecordOneUptoSaid : Prop := recordOneUptoRow.holds Try.pinned (OpenSpec.upto recordOneSpec)

end Rows
end Go.Proofs.Ytmemkmnnededgaa
