/-
  No cell of these rows narrows 'for every input' (looked for: loops, veiled, ifaces, maps, wideKeys, modest, calm, conditions, laid).
  DERIVED. THE GIVEN ROWS OF THIS SEAT. 9 by the template 'for every input the law returns true; each argument reads behind the call as it read before'; 0 by the template 'total and deterministic' (their statements: YtbhnbhhlmfdepaaTotals.lean).
  GIVEN WITH THE SEED: the statements are not yours to turn. If you find one false, say at which input.
  Laid BY PROGRAM, IN A SANDBOX (cutbox-rows.mjs): the forced cells as the released guide's own fill.sh prints them over the translation 7c25f67c5e540a07… (all of the seat's roots in one cut). By AI agents, Wed Nov 11 2026. No macro, syntax, notation, axiom, sorry.
-/
import Derived.Test.YtbhnbhhlmfdepaaChecked
import GoSem.Claim
import GoSem.ClaimJoined
import GoSem.ClaimMapViews
import Derived.JoinedTies
import Derived.KernelRfl
namespace Go.Proofs.Ytbhnbhhlmfdepaa
/- THE CELL 'sum', in the pinned program and in every row, IS THE sha256 OF THE DUMP (.gsa) THAT YtbhnbhhlmfdepaaProg.lean LOADS. Nothing in Lean hashes anything: it is a label: what it is worth is what the hold of that sum in a sandbox is worth. -/
noncomputable def Try.pinned : Pinned := { name := "ytbhnbhhlmfdepaa", sum := "7c25f67c5e540a078e02368e6b11ebbe6b5a4ce62672d77f9a6733a3273af673", checked := Try.checked }
namespace Rows
def none {H : Type} : Left H := { results := [], args := [] }

/-- 'solderlaw17.EntryPuts': WHATEVER THE INPUT: true; the input reads as it did. -/
def entryPutsSpec : ChangeSpec := { name := "entryPuts", fn := fun _ => fun
  | [d] => { results := [.lit (.bool true)], args := [d] }
  | _ => none }
def entryPutsRow : OpenClaim := { program := "ytbhnbhhlmfdepaa", sum := "7c25f67c5e540a078e02368e6b11ebbe6b5a4ce62672d77f9a6733a3273af673", func := "solder/solderlaw17.EntryPuts", spec := "entryPuts", inPlace := ["internal/abi.NoEscape", "internal/bytealg.MakeNoZero"], apart := false }
def EntryPutsSaid : Prop := entryPutsRow.holds Try.pinned (OpenSpec.ofChange entryPutsSpec)

/-- ITS FALSE NEIGHBOUR: 'it returns false'. Refute it at one input. -/
def entryPutsWrong : ChangeSpec := { name := "entryPuts", fn := fun _ => fun
  | [d] => { results := [.lit (.bool false)], args := [d] }
  | _ => none }
def EntryPutsWrongFalsely : Prop := entryPutsRow.holds Try.pinned (OpenSpec.ofChange entryPutsWrong)

/-- 'solderlaw17.EntryGets': WHATEVER THE INPUT: true; the input reads as it did. -/
def entryGetsSpec : ChangeSpec := { name := "entryGets", fn := fun _ => fun
  | [d] => { results := [.lit (.bool true)], args := [d] }
  | _ => none }
def entryGetsRow : OpenClaim := { program := "ytbhnbhhlmfdepaa", sum := "7c25f67c5e540a078e02368e6b11ebbe6b5a4ce62672d77f9a6733a3273af673", func := "solder/solderlaw17.EntryGets", spec := "entryGets", inPlace := ["internal/abi.NoEscape", "internal/bytealg.MakeNoZero"], apart := false }
def EntryGetsSaid : Prop := entryGetsRow.holds Try.pinned (OpenSpec.ofChange entryGetsSpec)

/-- ITS FALSE NEIGHBOUR: 'it returns false'. Refute it at one input. -/
def entryGetsWrong : ChangeSpec := { name := "entryGets", fn := fun _ => fun
  | [d] => { results := [.lit (.bool false)], args := [d] }
  | _ => none }
def EntryGetsWrongFalsely : Prop := entryGetsRow.holds Try.pinned (OpenSpec.ofChange entryGetsWrong)

/-- 'solderlaw17.EntryBack': WHATEVER THE INPUT: true; the input reads as it did. -/
def entryBackSpec : ChangeSpec := { name := "entryBack", fn := fun _ => fun
  | [d1, d2, d3, d4] => { results := [.lit (.bool true)], args := [d1, d2, d3, d4] }
  | _ => none }
def entryBackRow : OpenClaim := { program := "ytbhnbhhlmfdepaa", sum := "7c25f67c5e540a078e02368e6b11ebbe6b5a4ce62672d77f9a6733a3273af673", func := "solder/solderlaw17.EntryBack", spec := "entryBack", inPlace := ["internal/abi.NoEscape", "internal/bytealg.MakeNoZero"], apart := false }
def EntryBackSaid : Prop := entryBackRow.holds Try.pinned (OpenSpec.ofChange entryBackSpec)

/-- ITS FALSE NEIGHBOUR: 'it returns false'. Refute it at one input. -/
def entryBackWrong : ChangeSpec := { name := "entryBack", fn := fun _ => fun
  | [d1, d2, d3, d4] => { results := [.lit (.bool false)], args := [d1, d2, d3, d4] }
  | _ => none }
def EntryBackWrongFalsely : Prop := entryBackRow.holds Try.pinned (OpenSpec.ofChange entryBackWrong)

/-- 'solderlaw10.LogheadPuts': WHATEVER THE INPUT: true; the input reads as it did. -/
def logheadPutsSpec : ChangeSpec := { name := "logheadPuts", fn := fun _ => fun
  | [d] => { results := [.lit (.bool true)], args := [d] }
  | _ => none }
def logheadPutsRow : OpenClaim := { program := "ytbhnbhhlmfdepaa", sum := "7c25f67c5e540a078e02368e6b11ebbe6b5a4ce62672d77f9a6733a3273af673", func := "solder/solderlaw10.LogheadPuts", spec := "logheadPuts", inPlace := ["internal/abi.NoEscape", "internal/bytealg.MakeNoZero"], apart := false }
def LogheadPutsSaid : Prop := logheadPutsRow.holds Try.pinned (OpenSpec.ofChange logheadPutsSpec)

/-- ITS FALSE NEIGHBOUR: 'it returns false'. Refute it at one input. -/
def logheadPutsWrong : ChangeSpec := { name := "logheadPuts", fn := fun _ => fun
  | [d] => { results := [.lit (.bool false)], args := [d] }
  | _ => none }
def LogheadPutsWrongFalsely : Prop := logheadPutsRow.holds Try.pinned (OpenSpec.ofChange logheadPutsWrong)

/-- 'solderlaw10.LogheadGets': WHATEVER THE INPUT: true; the input reads as it did. -/
def logheadGetsSpec : ChangeSpec := { name := "logheadGets", fn := fun _ => fun
  | [d1, d2] => { results := [.lit (.bool true)], args := [d1, d2] }
  | _ => none }
def logheadGetsRow : OpenClaim := { program := "ytbhnbhhlmfdepaa", sum := "7c25f67c5e540a078e02368e6b11ebbe6b5a4ce62672d77f9a6733a3273af673", func := "solder/solderlaw10.LogheadGets", spec := "logheadGets", inPlace := ["internal/abi.NoEscape", "internal/bytealg.MakeNoZero"], apart := false }
def LogheadGetsSaid : Prop := logheadGetsRow.holds Try.pinned (OpenSpec.ofChange logheadGetsSpec)

/-- ITS FALSE NEIGHBOUR: 'it returns false'. Refute it at one input. -/
def logheadGetsWrong : ChangeSpec := { name := "logheadGets", fn := fun _ => fun
  | [d1, d2] => { results := [.lit (.bool false)], args := [d1, d2] }
  | _ => none }
def LogheadGetsWrongFalsely : Prop := logheadGetsRow.holds Try.pinned (OpenSpec.ofChange logheadGetsWrong)

/-- 'solderlaw10.LogheadBack': WHATEVER THE INPUT: true; the input reads as it did. -/
def logheadBackSpec : ChangeSpec := { name := "logheadBack", fn := fun _ => fun
  | [d1, d2, d3, d4] => { results := [.lit (.bool true)], args := [d1, d2, d3, d4] }
  | _ => none }
def logheadBackRow : OpenClaim := { program := "ytbhnbhhlmfdepaa", sum := "7c25f67c5e540a078e02368e6b11ebbe6b5a4ce62672d77f9a6733a3273af673", func := "solder/solderlaw10.LogheadBack", spec := "logheadBack", inPlace := ["internal/abi.NoEscape", "internal/bytealg.MakeNoZero"], apart := false }
def LogheadBackSaid : Prop := logheadBackRow.holds Try.pinned (OpenSpec.ofChange logheadBackSpec)

/-- ITS FALSE NEIGHBOUR: 'it returns false'. Refute it at one input. -/
def logheadBackWrong : ChangeSpec := { name := "logheadBack", fn := fun _ => fun
  | [d1, d2, d3, d4] => { results := [.lit (.bool false)], args := [d1, d2, d3, d4] }
  | _ => none }
def LogheadBackWrongFalsely : Prop := logheadBackRow.holds Try.pinned (OpenSpec.ofChange logheadBackWrong)

/-- 'solderlaw11.LogrecPuts': WHATEVER THE INPUT: true; the input reads as it did. -/
def logrecPutsSpec : ChangeSpec := { name := "logrecPuts", fn := fun _ => fun
  | [d1, d2] => { results := [.lit (.bool true)], args := [d1, d2] }
  | _ => none }
def logrecPutsRow : OpenClaim := { program := "ytbhnbhhlmfdepaa", sum := "7c25f67c5e540a078e02368e6b11ebbe6b5a4ce62672d77f9a6733a3273af673", func := "solder/solderlaw11.LogrecPuts", spec := "logrecPuts", inPlace := ["internal/abi.NoEscape", "internal/bytealg.MakeNoZero"], unfollowed := true, recurses := true, apart := false }
def LogrecPutsSaid : Prop := logrecPutsRow.holds Try.pinned (OpenSpec.ofChange logrecPutsSpec)

/-- ITS FALSE NEIGHBOUR: 'it returns false'. Refute it at one input. -/
def logrecPutsWrong : ChangeSpec := { name := "logrecPuts", fn := fun _ => fun
  | [d1, d2] => { results := [.lit (.bool false)], args := [d1, d2] }
  | _ => none }
def LogrecPutsWrongFalsely : Prop := logrecPutsRow.holds Try.pinned (OpenSpec.ofChange logrecPutsWrong)

/-- 'solderlaw11.LogrecGets': WHATEVER THE INPUT: true; the input reads as it did. -/
def logrecGetsSpec : ChangeSpec := { name := "logrecGets", fn := fun _ => fun
  | [d1, d2] => { results := [.lit (.bool true)], args := [d1, d2] }
  | _ => none }
def logrecGetsRow : OpenClaim := { program := "ytbhnbhhlmfdepaa", sum := "7c25f67c5e540a078e02368e6b11ebbe6b5a4ce62672d77f9a6733a3273af673", func := "solder/solderlaw11.LogrecGets", spec := "logrecGets", inPlace := ["internal/abi.NoEscape", "internal/bytealg.MakeNoZero"], unfollowed := true, recurses := true, apart := false }
def LogrecGetsSaid : Prop := logrecGetsRow.holds Try.pinned (OpenSpec.ofChange logrecGetsSpec)

/-- ITS FALSE NEIGHBOUR: 'it returns false'. Refute it at one input. -/
def logrecGetsWrong : ChangeSpec := { name := "logrecGets", fn := fun _ => fun
  | [d1, d2] => { results := [.lit (.bool false)], args := [d1, d2] }
  | _ => none }
def LogrecGetsWrongFalsely : Prop := logrecGetsRow.holds Try.pinned (OpenSpec.ofChange logrecGetsWrong)

/-- 'solderlaw11.LogrecBack': WHATEVER THE INPUT: true; the input reads as it did. -/
def logrecBackSpec : ChangeSpec := { name := "logrecBack", fn := fun _ => fun
  | [d1, d2, d3, d4] => { results := [.lit (.bool true)], args := [d1, d2, d3, d4] }
  | _ => none }
def logrecBackRow : OpenClaim := { program := "ytbhnbhhlmfdepaa", sum := "7c25f67c5e540a078e02368e6b11ebbe6b5a4ce62672d77f9a6733a3273af673", func := "solder/solderlaw11.LogrecBack", spec := "logrecBack", inPlace := ["internal/abi.NoEscape", "internal/bytealg.MakeNoZero"], unfollowed := true, recurses := true, apart := false }
def LogrecBackSaid : Prop := logrecBackRow.holds Try.pinned (OpenSpec.ofChange logrecBackSpec)

/-- ITS FALSE NEIGHBOUR: 'it returns false'. Refute it at one input. -/
def logrecBackWrong : ChangeSpec := { name := "logrecBack", fn := fun _ => fun
  | [d1, d2, d3, d4] => { results := [.lit (.bool false)], args := [d1, d2, d3, d4] }
  | _ => none }
def LogrecBackWrongFalsely : Prop := logrecBackRow.holds Try.pinned (OpenSpec.ofChange logrecBackWrong)

/- THE SECOND FORM. 'bulk': how many values and letters a reading holds, each counted each time it is reached (what is shared counts as often as it is met; a slice's spare places count too). A statement '..UptoSaid' is the law's where the arguments, and the package variables that the reading takes, are together of bulk at most 1048576: NARROWER than '..Said'. Prove '..Said' where nothing that the law and all that it calls make is longer than what came in: it says more and counts as full. Else prove '..UptoSaid'. A law counts once. -/
mutual
def uptoBulk {H : Type} : DataW H → Nat
  | .lit (.string bytes) => bytes.length + 1
  | .lit _ => 1
  | .nil => 1
  | .ptr d => uptoBulk d + 1
  | .slice elems spare => uptoBulkAll elems + uptoBulkAll spare + 1
  | .agg parts => uptoBulkAll parts + 1
  | .iface _ d => uptoBulk d + 1
  | .map entries => uptoBulkEntries entries + 1
  | .held _ => 1
def uptoBulkAll {H : Type} : List (DataW H) → Nat
  | [] => 0
  | d :: r => uptoBulk d + uptoBulkAll r
def uptoBulkEntries {H : Type} : List (Lit × DataW H) → Nat
  | [] => 0
  | x :: r => uptoBulkEntry x + uptoBulkEntries r
def uptoBulkEntry {H : Type} : Lit × DataW H → Nat
  | (.string bytes, d) => bytes.length + uptoBulk d + 1
  | (_, d) => uptoBulk d + 1
 end
def uptoSmall : (H : Type) → List (DataW H) → Bool := fun _ ds => decide (uptoBulkAll ds ≤ 1048576)
def OpenSpec.upto (s : _root_.Go.ChangeSpec) : _root_.Go.OpenSpec := { _root_.Go.OpenSpec.ofChange s with cond := some uptoSmall }

/-- 'solderlaw17.EntryPuts', WHERE WHAT IT READS IS OF BULK AT MOST 1048576: true; the input reads as it did. -/
def entryPutsUptoRow : OpenClaim := { program := "ytbhnbhhlmfdepaa", sum := "7c25f67c5e540a078e02368e6b11ebbe6b5a4ce62672d77f9a6733a3273af673", func := "solder/solderlaw17.EntryPuts", spec := "entryPuts", inPlace := ["internal/abi.NoEscape", "internal/bytealg.MakeNoZero"], apart := false, narrowed := true }
def EntryPutsUptoSaid : Prop := entryPutsUptoRow.holds Try.pinned (OpenSpec.upto entryPutsSpec)

/-- 'solderlaw17.EntryGets', WHERE WHAT IT READS IS OF BULK AT MOST 1048576: true; the input reads as it did. -/
def entryGetsUptoRow : OpenClaim := { program := "ytbhnbhhlmfdepaa", sum := "7c25f67c5e540a078e02368e6b11ebbe6b5a4ce62672d77f9a6733a3273af673", func := "solder/solderlaw17.EntryGets", spec := "entryGets", inPlace := ["internal/abi.NoEscape", "internal/bytealg.MakeNoZero"], apart := false, narrowed := true }
def EntryGetsUptoSaid : Prop := entryGetsUptoRow.holds Try.pinned (OpenSpec.upto entryGetsSpec)

/-- 'solderlaw17.EntryBack', WHERE WHAT IT READS IS OF BULK AT MOST 1048576: true; the input reads as it did. -/
def entryBackUptoRow : OpenClaim := { program := "ytbhnbhhlmfdepaa", sum := "7c25f67c5e540a078e02368e6b11ebbe6b5a4ce62672d77f9a6733a3273af673", func := "solder/solderlaw17.EntryBack", spec := "entryBack", inPlace := ["internal/abi.NoEscape", "internal/bytealg.MakeNoZero"], apart := false, narrowed := true }
def EntryBackUptoSaid : Prop := entryBackUptoRow.holds Try.pinned (OpenSpec.upto entryBackSpec)

/-- 'solderlaw10.LogheadPuts', WHERE WHAT IT READS IS OF BULK AT MOST 1048576: true; the input reads as it did. -/
def logheadPutsUptoRow : OpenClaim := { program := "ytbhnbhhlmfdepaa", sum := "7c25f67c5e540a078e02368e6b11ebbe6b5a4ce62672d77f9a6733a3273af673", func := "solder/solderlaw10.LogheadPuts", spec := "logheadPuts", inPlace := ["internal/abi.NoEscape", "internal/bytealg.MakeNoZero"], apart := false, narrowed := true }
def LogheadPutsUptoSaid : Prop := logheadPutsUptoRow.holds Try.pinned (OpenSpec.upto logheadPutsSpec)

/-- 'solderlaw10.LogheadGets', WHERE WHAT IT READS IS OF BULK AT MOST 1048576: true; the input reads as it did. -/
def logheadGetsUptoRow : OpenClaim := { program := "ytbhnbhhlmfdepaa", sum := "7c25f67c5e540a078e02368e6b11ebbe6b5a4ce62672d77f9a6733a3273af673", func := "solder/solderlaw10.LogheadGets", spec := "logheadGets", inPlace := ["internal/abi.NoEscape", "internal/bytealg.MakeNoZero"], apart := false, narrowed := true }
def LogheadGetsUptoSaid : Prop := logheadGetsUptoRow.holds Try.pinned (OpenSpec.upto logheadGetsSpec)

/-- 'solderlaw10.LogheadBack', WHERE WHAT IT READS IS OF BULK AT MOST 1048576: true; the input reads as it did. -/
def logheadBackUptoRow : OpenClaim := { program := "ytbhnbhhlmfdepaa", sum := "7c25f67c5e540a078e02368e6b11ebbe6b5a4ce62672d77f9a6733a3273af673", func := "solder/solderlaw10.LogheadBack", spec := "logheadBack", inPlace := ["internal/abi.NoEscape", "internal/bytealg.MakeNoZero"], apart := false, narrowed := true }
def LogheadBackUptoSaid : Prop := logheadBackUptoRow.holds Try.pinned (OpenSpec.upto logheadBackSpec)

/-- 'solderlaw11.LogrecPuts', WHERE WHAT IT READS IS OF BULK AT MOST 1048576: true; the input reads as it did. -/
def logrecPutsUptoRow : OpenClaim := { program := "ytbhnbhhlmfdepaa", sum := "7c25f67c5e540a078e02368e6b11ebbe6b5a4ce62672d77f9a6733a3273af673", func := "solder/solderlaw11.LogrecPuts", spec := "logrecPuts", inPlace := ["internal/abi.NoEscape", "internal/bytealg.MakeNoZero"], unfollowed := true, recurses := true, apart := false, narrowed := true }
def LogrecPutsUptoSaid : Prop := logrecPutsUptoRow.holds Try.pinned (OpenSpec.upto logrecPutsSpec)

/-- 'solderlaw11.LogrecGets', WHERE WHAT IT READS IS OF BULK AT MOST 1048576: true; the input reads as it did. -/
def logrecGetsUptoRow : OpenClaim := { program := "ytbhnbhhlmfdepaa", sum := "7c25f67c5e540a078e02368e6b11ebbe6b5a4ce62672d77f9a6733a3273af673", func := "solder/solderlaw11.LogrecGets", spec := "logrecGets", inPlace := ["internal/abi.NoEscape", "internal/bytealg.MakeNoZero"], unfollowed := true, recurses := true, apart := false, narrowed := true }
def LogrecGetsUptoSaid : Prop := logrecGetsUptoRow.holds Try.pinned (OpenSpec.upto logrecGetsSpec)

/-- 'solderlaw11.LogrecBack', WHERE WHAT IT READS IS OF BULK AT MOST 1048576: true; the input reads as it did. -/
def logrecBackUptoRow : OpenClaim := { program := "ytbhnbhhlmfdepaa", sum := "7c25f67c5e540a078e02368e6b11ebbe6b5a4ce62672d77f9a6733a3273af673", func := "solder/solderlaw11.LogrecBack", spec := "logrecBack", inPlace := ["internal/abi.NoEscape", "internal/bytealg.MakeNoZero"], unfollowed := true, recurses := true, apart := false, narrowed := true }
def LogrecBackUptoSaid : Prop := logrecBackUptoRow.holds Try.pinned (OpenSpec.upto logrecBackSpec)

end Rows
end Go.Proofs.Ytbhnbhhlmfdepaa
