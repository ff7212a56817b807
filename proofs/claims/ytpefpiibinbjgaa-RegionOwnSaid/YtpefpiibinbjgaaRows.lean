/-
  No cell of these rows narrows 'for every input' (looked for: loops, veiled, ifaces, maps, wideKeys, modest, calm, conditions, laid).
  DERIVED. THE GIVEN ROWS OF THIS SEAT. 8 by the template 'for every input the law returns true; each argument reads behind the call as it read before'; 0 by the template 'total and deterministic' (their statements: YtpefpiibinbjgaaTotals.lean).
  GIVEN WITH THE SEED: the statements are not yours to turn. If you find one false, say at which input.
  Laid BY PROGRAM, IN A SANDBOX (cutbox-rows.mjs): the forced cells as the released guide's own fill.sh prints them over the translation 4cde61881d0dcdd3… (all of the seat's roots in one cut). By AI agents, Wed Nov 11 2026. No macro, syntax, notation, axiom, sorry.
-/
import Derived.Test.YtpefpiibinbjgaaChecked
import GoSem.Claim
import GoSem.ClaimJoined
import GoSem.ClaimMapViews
import Derived.JoinedTies
import Derived.KernelRfl
namespace Go.Proofs.Ytpefpiibinbjgaa
/- THE CELL 'sum', in the pinned program and in every row, IS THE sha256 OF THE DUMP (.gsa) THAT YtpefpiibinbjgaaProg.lean LOADS. Nothing in Lean hashes anything: it is a label: what it is worth is what the hold of that sum in a sandbox is worth. -/
noncomputable def Try.pinned : Pinned := { name := "ytpefpiibinbjgaa", sum := "4cde61881d0dcdd3e79cbf9c3a77f45824dfb5af677a4605ff41b664cdd92747", checked := Try.checked }
namespace Rows
def none {H : Type} : Left H := { results := [], args := [] }

/-- 'solderlaw08.DiskSure': WHATEVER THE INPUT: true; the input reads as it did. -/
def diskSureSpec : ChangeSpec := { name := "diskSure", fn := fun _ => fun
  | [d1, d2, d3] => { results := [.lit (.bool true)], args := [d1, d2, d3] }
  | _ => none }
def diskSureRow : OpenClaim := { program := "ytpefpiibinbjgaa", sum := "4cde61881d0dcdd3e79cbf9c3a77f45824dfb5af677a4605ff41b664cdd92747", func := "solder/solderlaw08.DiskSure", spec := "diskSure", inPlace := ["internal/abi.NoEscape", "internal/bytealg.MakeNoZero"], apart := false }
def DiskSureSaid : Prop := diskSureRow.holds Try.pinned (OpenSpec.ofChange diskSureSpec)

/-- ITS FALSE NEIGHBOUR: 'it returns false'. Refute it at one input. -/
def diskSureWrong : ChangeSpec := { name := "diskSure", fn := fun _ => fun
  | [d1, d2, d3] => { results := [.lit (.bool false)], args := [d1, d2, d3] }
  | _ => none }
def DiskSureWrongFalsely : Prop := diskSureRow.holds Try.pinned (OpenSpec.ofChange diskSureWrong)

/-- 'solderlaw08.DiskDoes': WHATEVER THE INPUT: true; the input reads as it did. -/
def diskDoesSpec : ChangeSpec := { name := "diskDoes", fn := fun _ => fun
  | [d1, d2] => { results := [.lit (.bool true)], args := [d1, d2] }
  | _ => none }
def diskDoesRow : OpenClaim := { program := "ytpefpiibinbjgaa", sum := "4cde61881d0dcdd3e79cbf9c3a77f45824dfb5af677a4605ff41b664cdd92747", func := "solder/solderlaw08.DiskDoes", spec := "diskDoes", inPlace := ["internal/abi.NoEscape", "internal/bytealg.MakeNoZero"], apart := false }
def DiskDoesSaid : Prop := diskDoesRow.holds Try.pinned (OpenSpec.ofChange diskDoesSpec)

/-- ITS FALSE NEIGHBOUR: 'it returns false'. Refute it at one input. -/
def diskDoesWrong : ChangeSpec := { name := "diskDoes", fn := fun _ => fun
  | [d1, d2] => { results := [.lit (.bool false)], args := [d1, d2] }
  | _ => none }
def DiskDoesWrongFalsely : Prop := diskDoesRow.holds Try.pinned (OpenSpec.ofChange diskDoesWrong)

/-- 'solderlaw08.DiskNone': WHATEVER THE INPUT: true; the input reads as it did. -/
def diskNoneSpec : ChangeSpec := { name := "diskNone", fn := fun _ => fun
  | [d1, d2, d3] => { results := [.lit (.bool true)], args := [d1, d2, d3] }
  | _ => none }
def diskNoneRow : OpenClaim := { program := "ytpefpiibinbjgaa", sum := "4cde61881d0dcdd3e79cbf9c3a77f45824dfb5af677a4605ff41b664cdd92747", func := "solder/solderlaw08.DiskNone", spec := "diskNone", inPlace := ["internal/abi.NoEscape", "internal/bytealg.MakeNoZero"], apart := false }
def DiskNoneSaid : Prop := diskNoneRow.holds Try.pinned (OpenSpec.ofChange diskNoneSpec)

/-- ITS FALSE NEIGHBOUR: 'it returns false'. Refute it at one input. -/
def diskNoneWrong : ChangeSpec := { name := "diskNone", fn := fun _ => fun
  | [d1, d2, d3] => { results := [.lit (.bool false)], args := [d1, d2, d3] }
  | _ => none }
def DiskNoneWrongFalsely : Prop := diskNoneRow.holds Try.pinned (OpenSpec.ofChange diskNoneWrong)

/-- 'solderlaw09.RegionOwn': WHATEVER THE INPUT: true; the input reads as it did. -/
def regionOwnSpec : ChangeSpec := { name := "regionOwn", fn := fun _ => fun
  | [d1, d2, d3, d4] => { results := [.lit (.bool true)], args := [d1, d2, d3, d4] }
  | _ => none }
def regionOwnRow : OpenClaim := { program := "ytpefpiibinbjgaa", sum := "4cde61881d0dcdd3e79cbf9c3a77f45824dfb5af677a4605ff41b664cdd92747", func := "solder/solderlaw09.RegionOwn", spec := "regionOwn", inPlace := ["internal/abi.NoEscape", "internal/bytealg.MakeNoZero"], apart := false }
def RegionOwnSaid : Prop := regionOwnRow.holds Try.pinned (OpenSpec.ofChange regionOwnSpec)

/-- ITS FALSE NEIGHBOUR: 'it returns false'. Refute it at one input. -/
def regionOwnWrong : ChangeSpec := { name := "regionOwn", fn := fun _ => fun
  | [d1, d2, d3, d4] => { results := [.lit (.bool false)], args := [d1, d2, d3, d4] }
  | _ => none }
def RegionOwnWrongFalsely : Prop := regionOwnRow.holds Try.pinned (OpenSpec.ofChange regionOwnWrong)

/-- 'solderlaw09.RegionNone': WHATEVER THE INPUT: true; the input reads as it did. -/
def regionNoneSpec : ChangeSpec := { name := "regionNone", fn := fun _ => fun
  | [d1, d2, d3] => { results := [.lit (.bool true)], args := [d1, d2, d3] }
  | _ => none }
def regionNoneRow : OpenClaim := { program := "ytpefpiibinbjgaa", sum := "4cde61881d0dcdd3e79cbf9c3a77f45824dfb5af677a4605ff41b664cdd92747", func := "solder/solderlaw09.RegionNone", spec := "regionNone", inPlace := ["internal/abi.NoEscape", "internal/bytealg.MakeNoZero"], apart := false }
def RegionNoneSaid : Prop := regionNoneRow.holds Try.pinned (OpenSpec.ofChange regionNoneSpec)

/-- ITS FALSE NEIGHBOUR: 'it returns false'. Refute it at one input. -/
def regionNoneWrong : ChangeSpec := { name := "regionNone", fn := fun _ => fun
  | [d1, d2, d3] => { results := [.lit (.bool false)], args := [d1, d2, d3] }
  | _ => none }
def RegionNoneWrongFalsely : Prop := regionNoneRow.holds Try.pinned (OpenSpec.ofChange regionNoneWrong)

/-- 'solderlaw13.ShadowBack': WHATEVER THE INPUT: true; the input reads as it did. -/
def shadowBackSpec : ChangeSpec := { name := "shadowBack", fn := fun _ => fun
  | [d1, d2, d3] => { results := [.lit (.bool true)], args := [d1, d2, d3] }
  | _ => none }
def shadowBackRow : OpenClaim := { program := "ytpefpiibinbjgaa", sum := "4cde61881d0dcdd3e79cbf9c3a77f45824dfb5af677a4605ff41b664cdd92747", func := "solder/solderlaw13.ShadowBack", spec := "shadowBack", unfollowed := true, recurses := true, apart := false }
def ShadowBackSaid : Prop := shadowBackRow.holds Try.pinned (OpenSpec.ofChange shadowBackSpec)

/-- ITS FALSE NEIGHBOUR: 'it returns false'. Refute it at one input. -/
def shadowBackWrong : ChangeSpec := { name := "shadowBack", fn := fun _ => fun
  | [d1, d2, d3] => { results := [.lit (.bool false)], args := [d1, d2, d3] }
  | _ => none }
def ShadowBackWrongFalsely : Prop := shadowBackRow.holds Try.pinned (OpenSpec.ofChange shadowBackWrong)

/-- 'solderlaw13.ShadowDoes': WHATEVER THE INPUT: true; the input reads as it did. -/
def shadowDoesSpec : ChangeSpec := { name := "shadowDoes", fn := fun _ => fun
  | [d1, d2] => { results := [.lit (.bool true)], args := [d1, d2] }
  | _ => none }
def shadowDoesRow : OpenClaim := { program := "ytpefpiibinbjgaa", sum := "4cde61881d0dcdd3e79cbf9c3a77f45824dfb5af677a4605ff41b664cdd92747", func := "solder/solderlaw13.ShadowDoes", spec := "shadowDoes", unfollowed := true, recurses := true, apart := false }
def ShadowDoesSaid : Prop := shadowDoesRow.holds Try.pinned (OpenSpec.ofChange shadowDoesSpec)

/-- ITS FALSE NEIGHBOUR: 'it returns false'. Refute it at one input. -/
def shadowDoesWrong : ChangeSpec := { name := "shadowDoes", fn := fun _ => fun
  | [d1, d2] => { results := [.lit (.bool false)], args := [d1, d2] }
  | _ => none }
def ShadowDoesWrongFalsely : Prop := shadowDoesRow.holds Try.pinned (OpenSpec.ofChange shadowDoesWrong)

/-- 'solderlaw13.ShadowNone': WHATEVER THE INPUT: true; the input reads as it did. -/
def shadowNoneSpec : ChangeSpec := { name := "shadowNone", fn := fun _ => fun
  | [d1, d2] => { results := [.lit (.bool true)], args := [d1, d2] }
  | _ => none }
def shadowNoneRow : OpenClaim := { program := "ytpefpiibinbjgaa", sum := "4cde61881d0dcdd3e79cbf9c3a77f45824dfb5af677a4605ff41b664cdd92747", func := "solder/solderlaw13.ShadowNone", spec := "shadowNone", unfollowed := true, recurses := true, apart := false }
def ShadowNoneSaid : Prop := shadowNoneRow.holds Try.pinned (OpenSpec.ofChange shadowNoneSpec)

/-- ITS FALSE NEIGHBOUR: 'it returns false'. Refute it at one input. -/
def shadowNoneWrong : ChangeSpec := { name := "shadowNone", fn := fun _ => fun
  | [d1, d2] => { results := [.lit (.bool false)], args := [d1, d2] }
  | _ => none }
def ShadowNoneWrongFalsely : Prop := shadowNoneRow.holds Try.pinned (OpenSpec.ofChange shadowNoneWrong)

/- THE SECOND FORM. 'bulk': how many values and letters a reading holds, each counted each time it is reached (what is shared counts as often as it is met; a slice's spare places count too). A statement '..UptoSaid' is the law's where the arguments, and the package variables that the reading takes, are together of bulk at most 1048576: NARROWER than '..Said'. Prove '..Said' where nothing that the law and all that it calls make is longer than what came in: it says more and counts as full. Else prove '..UptoSaid'. A law counts once. -/
mutual
def uptoBulk {H : Type} : DataW H → Nat
  | .lit (.string bytes) => bytes.length + 1
  | .lit _ => 1
  | .nil => 1
  | .ptr d => uptoBulk d + 1
  | .slice elems spare => uptoBulkAll elems + uptoBulkAll spare + 1
  | .agg parts => uptoBulkAll parts + 1
  | .iface _ d => uptoBulk d + 1
  | .map entries => uptoBulkEntries entries + 1
  | .held _ => 1
def uptoBulkAll {H : Type} : List (DataW H) → Nat
  | [] => 0
  | d :: r => uptoBulk d + uptoBulkAll r
def uptoBulkEntries {H : Type} : List (Lit × DataW H) → Nat
  | [] => 0
  | x :: r => uptoBulkEntry x + uptoBulkEntries r
def uptoBulkEntry {H : Type} : Lit × DataW H → Nat
  | (.string bytes, d) => bytes.length + uptoBulk d + 1
  | (_, d) => uptoBulk d + 1
 end
def uptoSmall : (H : Type) → List (DataW H) → Bool := fun _ ds => decide (uptoBulkAll ds ≤ 1048576)
def OpenSpec.upto (s : _root_.Go.ChangeSpec) : _root_.Go.OpenSpec := { _root_.Go.OpenSpec.ofChange s with cond := some uptoSmall }

/-- 'solderlaw08.DiskSure', WHERE WHAT IT READS IS OF BULK AT MOST 1048576: true; the input reads as it did. -/
def diskSureUptoRow : OpenClaim := { program := "ytpefpiibinbjgaa", sum := "4cde61881d0dcdd3e79cbf9c3a77f45824dfb5af677a4605ff41b664cdd92747", func := "solder/solderlaw08.DiskSure", spec := "diskSure", inPlace := ["internal/abi.NoEscape", "internal/bytealg.MakeNoZero"], apart := false, narrowed := true }
def DiskSureUptoSaid : Prop := diskSureUptoRow.holds Try.pinned (OpenSpec.upto diskSureSpec)

/-- 'solderlaw08.DiskDoes', WHERE WHAT IT READS IS OF BULK AT MOST 1048576: true; the input reads as it did. -/
def diskDoesUptoRow : OpenClaim := { program := "ytpefpiibinbjgaa", sum := "4cde61881d0dcdd3e79cbf9c3a77f45824dfb5af677a4605ff41b664cdd92747", func := "solder/solderlaw08.DiskDoes", spec := "diskDoes", inPlace := ["internal/abi.NoEscape", "internal/bytealg.MakeNoZero"], apart := false, narrowed := true }
def DiskDoesUptoSaid : Prop := diskDoesUptoRow.holds Try.pinned (OpenSpec.upto diskDoesSpec)

/-- 'solderlaw08.DiskNone', WHERE WHAT IT READS IS OF BULK AT MOST 1048576: true; the input reads as it did. -/
def diskNoneUptoRow : OpenClaim := { program := "ytpefpiibinbjgaa", sum := "4cde61881d0dcdd3e79cbf9c3a77f45824dfb5af677a4605ff41b664cdd92747", func := "solder/solderlaw08.DiskNone", spec := "diskNone", inPlace := ["internal/abi.NoEscape", "internal/bytealg.MakeNoZero"], apart := false, narrowed := true }
def DiskNoneUptoSaid : Prop := diskNoneUptoRow.holds Try.pinned (OpenSpec.upto diskNoneSpec)

/-- 'solderlaw09.RegionOwn', WHERE WHAT IT READS IS OF BULK AT MOST 1048576: true; the input reads as it did. -/
def regionOwnUptoRow : OpenClaim := { program := "ytpefpiibinbjgaa", sum := "4cde61881d0dcdd3e79cbf9c3a77f45824dfb5af677a4605ff41b664cdd92747", func := "solder/solderlaw09.RegionOwn", spec := "regionOwn", inPlace := ["internal/abi.NoEscape", "internal/bytealg.MakeNoZero"], apart := false, narrowed := true }
def RegionOwnUptoSaid : Prop := regionOwnUptoRow.holds Try.pinned (OpenSpec.upto regionOwnSpec)

/-- 'solderlaw09.RegionNone', WHERE WHAT IT READS IS OF BULK AT MOST 1048576: true; the input reads as it did. -/
def regionNoneUptoRow : OpenClaim := { program := "ytpefpiibinbjgaa", sum := "4cde61881d0dcdd3e79cbf9c3a77f45824dfb5af677a4605ff41b664cdd92747", func := "solder/solderlaw09.RegionNone", spec := "regionNone", inPlace := ["internal/abi.NoEscape", "internal/bytealg.MakeNoZero"], apart := false, narrowed := true }
def RegionNoneUptoSaid : Prop := regionNoneUptoRow.holds Try.pinned (OpenSpec.upto regionNoneSpec)

/-- 'solderlaw13.ShadowBack', WHERE WHAT IT READS IS OF BULK AT MOST 1048576: true; the input reads as it did. -/
def shadowBackUptoRow : OpenClaim := { program := "ytpefpiibinbjgaa", sum := "4cde61881d0dcdd3e79cbf9c3a77f45824dfb5af677a4605ff41b664cdd92747", func := "solder/solderlaw13.ShadowBack", spec := "shadowBack", unfollowed := true, recurses := true, apart := false, narrowed := true }
def ShadowBackUptoSaid : Prop := shadowBackUptoRow.holds Try.pinned (OpenSpec.upto shadowBackSpec)

/-- 'solderlaw13.ShadowDoes', WHERE WHAT IT READS IS OF BULK AT MOST 1048576: true; the input reads as it did. -/
def shadowDoesUptoRow : OpenClaim := { program := "ytpefpiibinbjgaa", sum := "4cde61881d0dcdd3e79cbf9c3a77f45824dfb5af677a4605ff41b664cdd92747", func := "solder/solderlaw13.ShadowDoes", spec := "shadowDoes", unfollowed := true, recurses := true, apart := false, narrowed := true }
def ShadowDoesUptoSaid : Prop := shadowDoesUptoRow.holds Try.pinned (OpenSpec.upto shadowDoesSpec)

/-- 'solderlaw13.ShadowNone', WHERE WHAT IT READS IS OF BULK AT MOST 1048576: true; the input reads as it did. -/
def shadowNoneUptoRow : OpenClaim := { program := "ytpefpiibinbjgaa", sum := "4cde61881d0dcdd3e79cbf9c3a77f45824dfb5af677a4605ff41b664cdd92747", func := "solder/solderlaw13.ShadowNone", spec := "shadowNone", unfollowed := true, recurses := true, apart := false, narrowed := true }
def ShadowNoneUptoSaid : Prop := shadowNoneUptoRow.holds Try.pinned (OpenSpec.upto shadowNoneSpec)

end Rows
end Go.Proofs.Ytpefpiibinbjgaa
