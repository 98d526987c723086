/-
  No cell of these rows narrows 'for every input' (looked for: loops, veiled, ifaces, maps, wideKeys, modest, calm, conditions, laid).
  DERIVED. THE GIVEN ROWS OF THIS SEAT. 8 by the template 'for every input the law returns true; each argument reads behind the call as it read before'; 0 by the template 'total and deterministic' (their statements: YtmnpfkdiknfkoaaTotals.lean).
  GIVEN WITH THE SEED: the statements are not yours to turn. If you find one false, say at which input.
  Laid BY PROGRAM, IN A SANDBOX (cutbox-rows.mjs): the forced cells as the released guide's own fill.sh prints them over the translation a1588bb737cbb1e7… (all of the seat's roots in one cut). By AI agents, Wed Nov 11 2026. No macro, syntax, notation, axiom, sorry.
-/
import Derived.Test.YtmnpfkdiknfkoaaChecked
import GoSem.Claim
import GoSem.ClaimJoined
import GoSem.ClaimMapViews
import Derived.JoinedTies
import Derived.KernelRfl
namespace Go.Proofs.Ytmnpfkdiknfkoaa
/- THE CELL 'sum', in the pinned program and in every row, IS THE sha256 OF THE DUMP (.gsa) THAT YtmnpfkdiknfkoaaProg.lean LOADS. Nothing in Lean hashes anything: it is a label: what it is worth is what the hold of that sum in a sandbox is worth. -/
noncomputable def Try.pinned : Pinned := { name := "ytmnpfkdiknfkoaa", sum := "a1588bb737cbb1e71082d1b7c5ac014be58f64d3e1d1c86ea4f230dda376f773", checked := Try.checked }
namespace Rows
def none {H : Type} : Left H := { results := [], args := [] }

/-- 'mewstop.TopBuckets': WHATEVER THE INPUT: true; the input reads as it did. -/
def topBucketsSpec : ChangeSpec := { name := "topBuckets", fn := fun _ => fun
  | [d1, d2, d3, d4] => { results := [.lit (.bool true)], args := [d1, d2, d3, d4] }
  | _ => none }
def topBucketsRow : OpenClaim := { program := "ytmnpfkdiknfkoaa", sum := "a1588bb737cbb1e71082d1b7c5ac014be58f64d3e1d1c86ea4f230dda376f773", func := "mews/mewstop.TopBuckets", spec := "topBuckets", apart := false }
def TopBucketsSaid : Prop := topBucketsRow.holds Try.pinned (OpenSpec.ofChange topBucketsSpec)

/-- ITS FALSE NEIGHBOUR: 'it returns false'. Refute it at one input. -/
def topBucketsWrong : ChangeSpec := { name := "topBuckets", fn := fun _ => fun
  | [d1, d2, d3, d4] => { results := [.lit (.bool false)], args := [d1, d2, d3, d4] }
  | _ => none }
def TopBucketsWrongFalsely : Prop := topBucketsRow.holds Try.pinned (OpenSpec.ofChange topBucketsWrong)

/-- 'mewstop.TopGlobs': WHATEVER THE INPUT: true; the input reads as it did. -/
def topGlobsSpec : ChangeSpec := { name := "topGlobs", fn := fun _ => fun
  | [d1, d2] => { results := [.lit (.bool true)], args := [d1, d2] }
  | _ => none }
def topGlobsRow : OpenClaim := { program := "ytmnpfkdiknfkoaa", sum := "a1588bb737cbb1e71082d1b7c5ac014be58f64d3e1d1c86ea4f230dda376f773", func := "mews/mewstop.TopGlobs", spec := "topGlobs", inPlace := ["internal/bytealg.IndexByteString", "internal/bytealg.IndexString"], named := ["internal/bytealg.MaxLen"], apart := false }
def TopGlobsSaid : Prop := topGlobsRow.holds Try.pinned (OpenSpec.ofChange topGlobsSpec)

/-- ITS FALSE NEIGHBOUR: 'it returns false'. Refute it at one input. -/
def topGlobsWrong : ChangeSpec := { name := "topGlobs", fn := fun _ => fun
  | [d1, d2] => { results := [.lit (.bool false)], args := [d1, d2] }
  | _ => none }
def TopGlobsWrongFalsely : Prop := topGlobsRow.holds Try.pinned (OpenSpec.ofChange topGlobsWrong)

/-- 'mewstop.TopJobs': WHATEVER THE INPUT: true; the input reads as it did. -/
def topJobsSpec : ChangeSpec := { name := "topJobs", fn := fun _ => fun
  | [d] => { results := [.lit (.bool true)], args := [d] }
  | _ => none }
def topJobsRow : OpenClaim := { program := "ytmnpfkdiknfkoaa", sum := "a1588bb737cbb1e71082d1b7c5ac014be58f64d3e1d1c86ea4f230dda376f773", func := "mews/mewstop.TopJobs", spec := "topJobs", unfollowed := true, recurses := true, apart := false }
def TopJobsSaid : Prop := topJobsRow.holds Try.pinned (OpenSpec.ofChange topJobsSpec)

/-- ITS FALSE NEIGHBOUR: 'it returns false'. Refute it at one input. -/
def topJobsWrong : ChangeSpec := { name := "topJobs", fn := fun _ => fun
  | [d] => { results := [.lit (.bool false)], args := [d] }
  | _ => none }
def TopJobsWrongFalsely : Prop := topJobsRow.holds Try.pinned (OpenSpec.ofChange topJobsWrong)

/-- 'mewstop.TopCharges': WHATEVER THE INPUT: true; the input reads as it did. -/
def topChargesSpec : ChangeSpec := { name := "topCharges", fn := fun _ => fun
  | [d1, d2, d3] => { results := [.lit (.bool true)], args := [d1, d2, d3] }
  | _ => none }
def topChargesRow : OpenClaim := { program := "ytmnpfkdiknfkoaa", sum := "a1588bb737cbb1e71082d1b7c5ac014be58f64d3e1d1c86ea4f230dda376f773", func := "mews/mewstop.TopCharges", spec := "topCharges", inPlace := ["internal/bytealg.abigen_runtime_cmpstring"], unfollowed := true, recurses := true, apart := false }
def TopChargesSaid : Prop := topChargesRow.holds Try.pinned (OpenSpec.ofChange topChargesSpec)

/-- ITS FALSE NEIGHBOUR: 'it returns false'. Refute it at one input. -/
def topChargesWrong : ChangeSpec := { name := "topCharges", fn := fun _ => fun
  | [d1, d2, d3] => { results := [.lit (.bool false)], args := [d1, d2, d3] }
  | _ => none }
def TopChargesWrongFalsely : Prop := topChargesRow.holds Try.pinned (OpenSpec.ofChange topChargesWrong)

/-- 'mewstop.TopDisks': WHATEVER THE INPUT: true; the input reads as it did. -/
def topDisksSpec : ChangeSpec := { name := "topDisks", fn := fun _ => fun
  | [d1, d2, d3] => { results := [.lit (.bool true)], args := [d1, d2, d3] }
  | _ => none }
def topDisksRow : OpenClaim := { program := "ytmnpfkdiknfkoaa", sum := "a1588bb737cbb1e71082d1b7c5ac014be58f64d3e1d1c86ea4f230dda376f773", func := "mews/mewstop.TopDisks", spec := "topDisks", inPlace := ["internal/abi.NoEscape", "internal/bytealg.MakeNoZero", "internal/bytealg.abigen_runtime_cmpstring"], unfollowed := true, recurses := true, apart := false }
def TopDisksSaid : Prop := topDisksRow.holds Try.pinned (OpenSpec.ofChange topDisksSpec)

/-- ITS FALSE NEIGHBOUR: 'it returns false'. Refute it at one input. -/
def topDisksWrong : ChangeSpec := { name := "topDisks", fn := fun _ => fun
  | [d1, d2, d3] => { results := [.lit (.bool false)], args := [d1, d2, d3] }
  | _ => none }
def TopDisksWrongFalsely : Prop := topDisksRow.holds Try.pinned (OpenSpec.ofChange topDisksWrong)

/-- 'mewstop.TopScores': WHATEVER THE INPUT: true; the input reads as it did. -/
def topScoresSpec : ChangeSpec := { name := "topScores", fn := fun _ => fun
  | [d1, d2] => { results := [.lit (.bool true)], args := [d1, d2] }
  | _ => none }
def topScoresRow : OpenClaim := { program := "ytmnpfkdiknfkoaa", sum := "a1588bb737cbb1e71082d1b7c5ac014be58f64d3e1d1c86ea4f230dda376f773", func := "mews/mewstop.TopScores", spec := "topScores", inPlace := ["slices.overlaps[mews/api.Scored]"], unfollowed := true, recurses := true, apart := false }
def TopScoresSaid : Prop := topScoresRow.holds Try.pinned (OpenSpec.ofChange topScoresSpec)

/-- ITS FALSE NEIGHBOUR: 'it returns false'. Refute it at one input. -/
def topScoresWrong : ChangeSpec := { name := "topScores", fn := fun _ => fun
  | [d1, d2] => { results := [.lit (.bool false)], args := [d1, d2] }
  | _ => none }
def TopScoresWrongFalsely : Prop := topScoresRow.holds Try.pinned (OpenSpec.ofChange topScoresWrong)

/-- 'mewstop.TopEndsOfLists': WHATEVER THE INPUT: true; the input reads as it did. -/
def topEndsOfListsSpec : ChangeSpec := { name := "topEndsOfLists", fn := fun _ => fun
  | [d1, d2] => { results := [.lit (.bool true)], args := [d1, d2] }
  | _ => none }
def topEndsOfListsRow : OpenClaim := { program := "ytmnpfkdiknfkoaa", sum := "a1588bb737cbb1e71082d1b7c5ac014be58f64d3e1d1c86ea4f230dda376f773", func := "mews/mewstop.TopEndsOfLists", spec := "topEndsOfLists", inPlace := ["slices.overlaps[int16]"], apart := false }
def TopEndsOfListsSaid : Prop := topEndsOfListsRow.holds Try.pinned (OpenSpec.ofChange topEndsOfListsSpec)

/-- ITS FALSE NEIGHBOUR: 'it returns false'. Refute it at one input. -/
def topEndsOfListsWrong : ChangeSpec := { name := "topEndsOfLists", fn := fun _ => fun
  | [d1, d2] => { results := [.lit (.bool false)], args := [d1, d2] }
  | _ => none }
def TopEndsOfListsWrongFalsely : Prop := topEndsOfListsRow.holds Try.pinned (OpenSpec.ofChange topEndsOfListsWrong)

/-- 'mewstop.TopUsed': WHATEVER THE INPUT: true; the input reads as it did. -/
def topUsedSpec : ChangeSpec := { name := "topUsed", fn := fun _ => fun
  | [d] => { results := [.lit (.bool true)], args := [d] }
  | _ => none }
def topUsedRow : OpenClaim := { program := "ytmnpfkdiknfkoaa", sum := "a1588bb737cbb1e71082d1b7c5ac014be58f64d3e1d1c86ea4f230dda376f773", func := "mews/mewstop.TopUsed", spec := "topUsed", unfollowed := true, recurses := true, apart := false }
def TopUsedSaid : Prop := topUsedRow.holds Try.pinned (OpenSpec.ofChange topUsedSpec)

/-- ITS FALSE NEIGHBOUR: 'it returns false'. Refute it at one input. -/
def topUsedWrong : ChangeSpec := { name := "topUsed", fn := fun _ => fun
  | [d] => { results := [.lit (.bool false)], args := [d] }
  | _ => none }
def TopUsedWrongFalsely : Prop := topUsedRow.holds Try.pinned (OpenSpec.ofChange topUsedWrong)

/- THE SECOND FORM. 'bulk': how many values and letters a reading holds, each counted each time it is reached (what is shared counts as often as it is met; a slice's spare places count too). A statement '..UptoSaid' is the law's where the arguments, and the package variables that the reading takes, are together of bulk at most 1048576: NARROWER than '..Said'. Prove '..Said' where nothing that the law and all that it calls make is longer than what came in: it says more and counts as full. Else prove '..UptoSaid'. A law counts once. -/
mutual
def uptoBulk {H : Type} : DataW H → Nat
  | .lit (.string bytes) => bytes.length + 1
  | .lit _ => 1
  | .nil => 1
  | .ptr d => uptoBulk d + 1
  | .slice elems spare => uptoBulkAll elems + uptoBulkAll spare + 1
  | .agg parts => uptoBulkAll parts + 1
  | .iface _ d => uptoBulk d + 1
  | .map entries => uptoBulkEntries entries + 1
  | .held _ => 1
def uptoBulkAll {H : Type} : List (DataW H) → Nat
  | [] => 0
  | d :: r => uptoBulk d + uptoBulkAll r
def uptoBulkEntries {H : Type} : List (Lit × DataW H) → Nat
  | [] => 0
  | x :: r => uptoBulkEntry x + uptoBulkEntries r
def uptoBulkEntry {H : Type} : Lit × DataW H → Nat
  | (.string bytes, d) => bytes.length + uptoBulk d + 1
  | (_, d) => uptoBulk d + 1
 end
def uptoSmall : (H : Type) → List (DataW H) → Bool := fun _ ds => decide (uptoBulkAll ds ≤ 1048576)
def OpenSpec.upto (s : _root_.Go.ChangeSpec) : _root_.Go.OpenSpec := { _root_.Go.OpenSpec.ofChange s with cond := some uptoSmall }

/-- 'mewstop.TopBuckets', WHERE WHAT IT READS IS OF BULK AT MOST 1048576: true; the input reads as it did. -/
def topBucketsUptoRow : OpenClaim := { program := "ytmnpfkdiknfkoaa", sum := "a1588bb737cbb1e71082d1b7c5ac014be58f64d3e1d1c86ea4f230dda376f773", func := "mews/mewstop.TopBuckets", spec := "topBuckets", apart := false, narrowed := true }
def TopBucketsUptoSaid : Prop := topBucketsUptoRow.holds Try.pinned (OpenSpec.upto topBucketsSpec)

/-- 'mewstop.TopGlobs', WHERE WHAT IT READS IS OF BULK AT MOST 1048576: true; the input reads as it did. -/
def topGlobsUptoRow : OpenClaim := { program := "ytmnpfkdiknfkoaa", sum := "a1588bb737cbb1e71082d1b7c5ac014be58f64d3e1d1c86ea4f230dda376f773", func := "mews/mewstop.TopGlobs", spec := "topGlobs", inPlace := ["internal/bytealg.IndexByteString", "internal/bytealg.IndexString"], named := ["internal/bytealg.MaxLen"], apart := false, narrowed := true }
def TopGlobsUptoSaid : Prop := topGlobsUptoRow.holds Try.pinned (OpenSpec.upto topGlobsSpec)

/-- 'mewstop.TopJobs', WHERE WHAT IT READS IS OF BULK AT MOST 1048576: true; the input reads as it did. -/
def topJobsUptoRow : OpenClaim := { program := "ytmnpfkdiknfkoaa", sum := "a1588bb737cbb1e71082d1b7c5ac014be58f64d3e1d1c86ea4f230dda376f773", func := "mews/mewstop.TopJobs", spec := "topJobs", unfollowed := true, recurses := true, apart := false, narrowed := true }
def TopJobsUptoSaid : Prop := topJobsUptoRow.holds Try.pinned (OpenSpec.upto topJobsSpec)

/-- 'mewstop.TopCharges', WHERE WHAT IT READS IS OF BULK AT MOST 1048576: true; the input reads as it did. -/
def topChargesUptoRow : OpenClaim := { program := "ytmnpfkdiknfkoaa", sum := "a1588bb737cbb1e71082d1b7c5ac014be58f64d3e1d1c86ea4f230dda376f773", func := "mews/mewstop.TopCharges", spec := "topCharges", inPlace := ["internal/bytealg.abigen_runtime_cmpstring"], unfollowed := true, recurses := true, apart := false, narrowed := true }
def TopChargesUptoSaid : Prop := topChargesUptoRow.holds Try.pinned (OpenSpec.upto topChargesSpec)

/-- 'mewstop.TopDisks', WHERE WHAT IT READS IS OF BULK AT MOST 1048576: true; the input reads as it did. -/
def topDisksUptoRow : OpenClaim := { program := "ytmnpfkdiknfkoaa", sum := "a1588bb737cbb1e71082d1b7c5ac014be58f64d3e1d1c86ea4f230dda376f773", func := "mews/mewstop.TopDisks", spec := "topDisks", inPlace := ["internal/abi.NoEscape", "internal/bytealg.MakeNoZero", "internal/bytealg.abigen_runtime_cmpstring"], unfollowed := true, recurses := true, apart := false, narrowed := true }
def TopDisksUptoSaid : Prop := topDisksUptoRow.holds Try.pinned (OpenSpec.upto topDisksSpec)

/-- 'mewstop.TopScores', WHERE WHAT IT READS IS OF BULK AT MOST 1048576: true; the input reads as it did. -/
def topScoresUptoRow : OpenClaim := { program := "ytmnpfkdiknfkoaa", sum := "a1588bb737cbb1e71082d1b7c5ac014be58f64d3e1d1c86ea4f230dda376f773", func := "mews/mewstop.TopScores", spec := "topScores", inPlace := ["slices.overlaps[mews/api.Scored]"], unfollowed := true, recurses := true, apart := false, narrowed := true }
def TopScoresUptoSaid : Prop := topScoresUptoRow.holds Try.pinned (OpenSpec.upto topScoresSpec)

/-- 'mewstop.TopEndsOfLists', WHERE WHAT IT READS IS OF BULK AT MOST 1048576: true; the input reads as it did. -/
def topEndsOfListsUptoRow : OpenClaim := { program := "ytmnpfkdiknfkoaa", sum := "a1588bb737cbb1e71082d1b7c5ac014be58f64d3e1d1c86ea4f230dda376f773", func := "mews/mewstop.TopEndsOfLists", spec := "topEndsOfLists", inPlace := ["slices.overlaps[int16]"], apart := false, narrowed := true }
def TopEndsOfListsUptoSaid : Prop := topEndsOfListsUptoRow.holds Try.pinned (OpenSpec.upto topEndsOfListsSpec)

/-- 'mewstop.TopUsed', WHERE WHAT IT READS IS OF BULK AT MOST 1048576: true; the input reads as it did. -/
def topUsedUptoRow : OpenClaim := { program := "ytmnpfkdiknfkoaa", sum := "a1588bb737cbb1e71082d1b7c5ac014be58f64d3e1d1c86ea4f230dda376f773", func := "mews/mewstop.TopUsed", spec := "topUsed", unfollowed := true, recurses := true, apart := false, narrowed := true }
def TopUsedUptoSaid : Prop := topUsedUptoRow.holds Try.pinned (OpenSpec.upto topUsedSpec)

end Rows
end Go.Proofs.Ytmnpfkdiknfkoaa
