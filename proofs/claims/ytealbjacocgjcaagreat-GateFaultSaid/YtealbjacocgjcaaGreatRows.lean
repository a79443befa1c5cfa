/-
  No cell of these rows narrows 'for every input' (looked for: loops, veiled, ifaces, maps, wideKeys, modest, calm, conditions, laid).
  DERIVED. THE GIVEN ROWS OF THIS SEAT. 7 by the template 'for every input the law returns true; each argument reads behind the call as it read before'; 0 by the template 'total and deterministic' (their statements: YtealbjacocgjcaaGreatTotals.lean).
  GIVEN WITH THE SEED: the statements are not yours to turn. If you find one false, say at which input.
  Laid BY PROGRAM, IN A SANDBOX (cutbox-rows.mjs): the forced cells as the released guide's own fill.sh prints them over the translation c66cd66615a2849e… (all of the seat's roots in one cut). By AI agents, Wed Nov 11 2026. No macro, syntax, notation, axiom, sorry.
-/
import Derived.Test.YtealbjacocgjcaaGreatChecked
import GoSem.Claim
import GoSem.ClaimJoined
import GoSem.ClaimMapViews
import Derived.JoinedTies
import Derived.KernelRfl
namespace Go.Proofs.YtealbjacocgjcaaGreat
/- THE CELL 'sum', in the pinned program and in every row, IS THE sha256 OF THE DUMP (.gsa) THAT YtealbjacocgjcaaGreatProg.lean LOADS. Nothing in Lean hashes anything: it is a label: what it is worth is what the hold of that sum in a sandbox is worth. -/
noncomputable def Tryz.pinned : Pinned := { name := "ytealbjacocgjcaagreat", sum := "c66cd66615a2849ef1f70a726ea95446cb41aabf27b27781f3c28cb7320ff2d8", checked := Tryz.checked }
namespace Rows
def none {H : Type} : Left H := { results := [], args := [] }

/-- 'hauberklaw29.RailEnters': WHATEVER THE INPUT: true; the input reads as it did. -/
def railEntersSpec : ChangeSpec := { name := "railEnters", fn := fun _ => fun
  | [d1, d2, d3, d4] => { results := [.lit (.bool true)], args := [d1, d2, d3, d4] }
  | _ => none }
def railEntersRow : OpenClaim := { program := "ytealbjacocgjcaagreat", sum := "c66cd66615a2849ef1f70a726ea95446cb41aabf27b27781f3c28cb7320ff2d8", func := "hauberk/hauberklaw29.RailEnters", spec := "railEnters", inPlace := ["internal/abi.NoEscape"], unfollowed := true, recurses := true, apart := false }
def RailEntersSaid : Prop := railEntersRow.holds Tryz.pinned (OpenSpec.ofChange railEntersSpec)

/-- ITS FALSE NEIGHBOUR: 'it returns false'. Refute it at one input. -/
def railEntersWrong : ChangeSpec := { name := "railEnters", fn := fun _ => fun
  | [d1, d2, d3, d4] => { results := [.lit (.bool false)], args := [d1, d2, d3, d4] }
  | _ => none }
def RailEntersWrongFalsely : Prop := railEntersRow.holds Tryz.pinned (OpenSpec.ofChange railEntersWrong)

/-- 'hauberklaw29.RailGoes': WHATEVER THE INPUT: true; the input reads as it did. -/
def railGoesSpec : ChangeSpec := { name := "railGoes", fn := fun _ => fun
  | [d1, d2, d3] => { results := [.lit (.bool true)], args := [d1, d2, d3] }
  | _ => none }
def railGoesRow : OpenClaim := { program := "ytealbjacocgjcaagreat", sum := "c66cd66615a2849ef1f70a726ea95446cb41aabf27b27781f3c28cb7320ff2d8", func := "hauberk/hauberklaw29.RailGoes", spec := "railGoes", inPlace := ["internal/abi.NoEscape"], unfollowed := true, recurses := true, apart := false }
def RailGoesSaid : Prop := railGoesRow.holds Tryz.pinned (OpenSpec.ofChange railGoesSpec)

/-- ITS FALSE NEIGHBOUR: 'it returns false'. Refute it at one input. -/
def railGoesWrong : ChangeSpec := { name := "railGoes", fn := fun _ => fun
  | [d1, d2, d3] => { results := [.lit (.bool false)], args := [d1, d2, d3] }
  | _ => none }
def RailGoesWrongFalsely : Prop := railGoesRow.holds Tryz.pinned (OpenSpec.ofChange railGoesWrong)

/-- 'hauberklaw30.WipeFault': WHATEVER THE INPUT: true; the input reads as it did. -/
def wipeFaultSpec : ChangeSpec := { name := "wipeFault", fn := fun _ => fun
  | [d1, d2, d3] => { results := [.lit (.bool true)], args := [d1, d2, d3] }
  | _ => none }
def wipeFaultRow : OpenClaim := { program := "ytealbjacocgjcaagreat", sum := "c66cd66615a2849ef1f70a726ea95446cb41aabf27b27781f3c28cb7320ff2d8", func := "hauberk/hauberklaw30.WipeFault", spec := "wipeFault", inPlace := ["internal/abi.NoEscape"], unfollowed := true, recurses := true, apart := false }
def WipeFaultSaid : Prop := wipeFaultRow.holds Tryz.pinned (OpenSpec.ofChange wipeFaultSpec)

/-- ITS FALSE NEIGHBOUR: 'it returns false'. Refute it at one input. -/
def wipeFaultWrong : ChangeSpec := { name := "wipeFault", fn := fun _ => fun
  | [d1, d2, d3] => { results := [.lit (.bool false)], args := [d1, d2, d3] }
  | _ => none }
def WipeFaultWrongFalsely : Prop := wipeFaultRow.holds Tryz.pinned (OpenSpec.ofChange wipeFaultWrong)

/-- 'hauberklaw30.WipeClears': WHATEVER THE INPUT: true; the input reads as it did. -/
def wipeClearsSpec : ChangeSpec := { name := "wipeClears", fn := fun _ => fun
  | [d1, d2, d3] => { results := [.lit (.bool true)], args := [d1, d2, d3] }
  | _ => none }
def wipeClearsRow : OpenClaim := { program := "ytealbjacocgjcaagreat", sum := "c66cd66615a2849ef1f70a726ea95446cb41aabf27b27781f3c28cb7320ff2d8", func := "hauberk/hauberklaw30.WipeClears", spec := "wipeClears", inPlace := ["internal/abi.NoEscape"], unfollowed := true, recurses := true, apart := false }
def WipeClearsSaid : Prop := wipeClearsRow.holds Tryz.pinned (OpenSpec.ofChange wipeClearsSpec)

/-- ITS FALSE NEIGHBOUR: 'it returns false'. Refute it at one input. -/
def wipeClearsWrong : ChangeSpec := { name := "wipeClears", fn := fun _ => fun
  | [d1, d2, d3] => { results := [.lit (.bool false)], args := [d1, d2, d3] }
  | _ => none }
def WipeClearsWrongFalsely : Prop := wipeClearsRow.holds Tryz.pinned (OpenSpec.ofChange wipeClearsWrong)

/-- 'hauberklaw31.GateSkips': WHATEVER THE INPUT: true; the input reads as it did. -/
def gateSkipsSpec : ChangeSpec := { name := "gateSkips", fn := fun _ => fun
  | [d1, d2] => { results := [.lit (.bool true)], args := [d1, d2] }
  | _ => none }
def gateSkipsRow : OpenClaim := { program := "ytealbjacocgjcaagreat", sum := "c66cd66615a2849ef1f70a726ea95446cb41aabf27b27781f3c28cb7320ff2d8", func := "hauberk/hauberklaw31.GateSkips", spec := "gateSkips", inPlace := ["internal/abi.NoEscape"], unfollowed := true, recurses := true, apart := false }
def GateSkipsSaid : Prop := gateSkipsRow.holds Tryz.pinned (OpenSpec.ofChange gateSkipsSpec)

/-- ITS FALSE NEIGHBOUR: 'it returns false'. Refute it at one input. -/
def gateSkipsWrong : ChangeSpec := { name := "gateSkips", fn := fun _ => fun
  | [d1, d2] => { results := [.lit (.bool false)], args := [d1, d2] }
  | _ => none }
def GateSkipsWrongFalsely : Prop := gateSkipsRow.holds Tryz.pinned (OpenSpec.ofChange gateSkipsWrong)

/-- 'hauberklaw31.GateReleases': WHATEVER THE INPUT: true; the input reads as it did. -/
def gateReleasesSpec : ChangeSpec := { name := "gateReleases", fn := fun _ => fun
  | [d1, d2] => { results := [.lit (.bool true)], args := [d1, d2] }
  | _ => none }
def gateReleasesRow : OpenClaim := { program := "ytealbjacocgjcaagreat", sum := "c66cd66615a2849ef1f70a726ea95446cb41aabf27b27781f3c28cb7320ff2d8", func := "hauberk/hauberklaw31.GateReleases", spec := "gateReleases", inPlace := ["internal/abi.NoEscape"], unfollowed := true, recurses := true, apart := false }
def GateReleasesSaid : Prop := gateReleasesRow.holds Tryz.pinned (OpenSpec.ofChange gateReleasesSpec)

/-- ITS FALSE NEIGHBOUR: 'it returns false'. Refute it at one input. -/
def gateReleasesWrong : ChangeSpec := { name := "gateReleases", fn := fun _ => fun
  | [d1, d2] => { results := [.lit (.bool false)], args := [d1, d2] }
  | _ => none }
def GateReleasesWrongFalsely : Prop := gateReleasesRow.holds Tryz.pinned (OpenSpec.ofChange gateReleasesWrong)

/-- 'hauberklaw31.GateFault': WHATEVER THE INPUT: true; the input reads as it did. -/
def gateFaultSpec : ChangeSpec := { name := "gateFault", fn := fun _ => fun
  | [d1, d2] => { results := [.lit (.bool true)], args := [d1, d2] }
  | _ => none }
def gateFaultRow : OpenClaim := { program := "ytealbjacocgjcaagreat", sum := "c66cd66615a2849ef1f70a726ea95446cb41aabf27b27781f3c28cb7320ff2d8", func := "hauberk/hauberklaw31.GateFault", spec := "gateFault", inPlace := ["internal/abi.NoEscape"], unfollowed := true, recurses := true, apart := false }
def GateFaultSaid : Prop := gateFaultRow.holds Tryz.pinned (OpenSpec.ofChange gateFaultSpec)

/-- ITS FALSE NEIGHBOUR: 'it returns false'. Refute it at one input. -/
def gateFaultWrong : ChangeSpec := { name := "gateFault", fn := fun _ => fun
  | [d1, d2] => { results := [.lit (.bool false)], args := [d1, d2] }
  | _ => none }
def GateFaultWrongFalsely : Prop := gateFaultRow.holds Tryz.pinned (OpenSpec.ofChange gateFaultWrong)

/- THE SECOND FORM. 'bulk': how many values and letters a reading holds, each counted each time it is reached (what is shared counts as often as it is met; a slice's spare places count too). A statement '..UptoSaid' is the law's where the arguments, and the package variables that the reading takes, are together of bulk at most 1048576: NARROWER than '..Said'. Prove '..Said' where nothing that the law and all that it calls make is longer than what came in: it says more and counts as full. Else prove '..UptoSaid'. A law counts once. -/
mutual
def uptoBulk {H : Type} : DataW H → Nat
  | .lit (.string bytes) => bytes.length + 1
  | .lit _ => 1
  | .nil => 1
  | .ptr d => uptoBulk d + 1
  | .slice elems spare => uptoBulkAll elems + uptoBulkAll spare + 1
  | .agg parts => uptoBulkAll parts + 1
  | .iface _ d => uptoBulk d + 1
  | .map entries => uptoBulkEntries entries + 1
  | .held _ => 1
def uptoBulkAll {H : Type} : List (DataW H) → Nat
  | [] => 0
  | d :: r => uptoBulk d + uptoBulkAll r
def uptoBulkEntries {H : Type} : List (Lit × DataW H) → Nat
  | [] => 0
  | x :: r => uptoBulkEntry x + uptoBulkEntries r
def uptoBulkEntry {H : Type} : Lit × DataW H → Nat
  | (.string bytes, d) => bytes.length + uptoBulk d + 1
  | (_, d) => uptoBulk d + 1
 end
def uptoSmall : (H : Type) → List (DataW H) → Bool := fun _ ds => decide (uptoBulkAll ds ≤ 1048576)
def OpenSpec.upto (s : _root_.Go.ChangeSpec) : _root_.Go.OpenSpec := { _root_.Go.OpenSpec.ofChange s with cond := some uptoSmall }

/-- 'hauberklaw29.RailEnters', WHERE WHAT IT READS IS OF BULK AT MOST 1048576: true; the input reads as it did. -/
def railEntersUptoRow : OpenClaim := { program := "ytealbjacocgjcaagreat", sum := "c66cd66615a2849ef1f70a726ea95446cb41aabf27b27781f3c28cb7320ff2d8", func := "hauberk/hauberklaw29.RailEnters", spec := "railEnters", inPlace := ["internal/abi.NoEscape"], unfollowed := true, recurses := true, apart := false, narrowed := true }
def RailEntersUptoSaid : Prop := railEntersUptoRow.holds Tryz.pinned (OpenSpec.upto railEntersSpec)

/-- 'hauberklaw29.RailGoes', WHERE WHAT IT READS IS OF BULK AT MOST 1048576: true; the input reads as it did. -/
def railGoesUptoRow : OpenClaim := { program := "ytealbjacocgjcaagreat", sum := "c66cd66615a2849ef1f70a726ea95446cb41aabf27b27781f3c28cb7320ff2d8", func := "hauberk/hauberklaw29.RailGoes", spec := "railGoes", inPlace := ["internal/abi.NoEscape"], unfollowed := true, recurses := true, apart := false, narrowed := true }
def RailGoesUptoSaid : Prop := railGoesUptoRow.holds Tryz.pinned (OpenSpec.upto railGoesSpec)

/-- 'hauberklaw30.WipeFault', WHERE WHAT IT READS IS OF BULK AT MOST 1048576: true; the input reads as it did. -/
def wipeFaultUptoRow : OpenClaim := { program := "ytealbjacocgjcaagreat", sum := "c66cd66615a2849ef1f70a726ea95446cb41aabf27b27781f3c28cb7320ff2d8", func := "hauberk/hauberklaw30.WipeFault", spec := "wipeFault", inPlace := ["internal/abi.NoEscape"], unfollowed := true, recurses := true, apart := false, narrowed := true }
def WipeFaultUptoSaid : Prop := wipeFaultUptoRow.holds Tryz.pinned (OpenSpec.upto wipeFaultSpec)

/-- 'hauberklaw30.WipeClears', WHERE WHAT IT READS IS OF BULK AT MOST 1048576: true; the input reads as it did. -/
def wipeClearsUptoRow : OpenClaim := { program := "ytealbjacocgjcaagreat", sum := "c66cd66615a2849ef1f70a726ea95446cb41aabf27b27781f3c28cb7320ff2d8", func := "hauberk/hauberklaw30.WipeClears", spec := "wipeClears", inPlace := ["internal/abi.NoEscape"], unfollowed := true, recurses := true, apart := false, narrowed := true }
def WipeClearsUptoSaid : Prop := wipeClearsUptoRow.holds Tryz.pinned (OpenSpec.upto wipeClearsSpec)

/-- 'hauberklaw31.GateSkips', WHERE WHAT IT READS IS OF BULK AT MOST 1048576: true; the input reads as it did. -/
def gateSkipsUptoRow : OpenClaim := { program := "ytealbjacocgjcaagreat", sum := "c66cd66615a2849ef1f70a726ea95446cb41aabf27b27781f3c28cb7320ff2d8", func := "hauberk/hauberklaw31.GateSkips", spec := "gateSkips", inPlace := ["internal/abi.NoEscape"], unfollowed := true, recurses := true, apart := false, narrowed := true }
def GateSkipsUptoSaid : Prop := gateSkipsUptoRow.holds Tryz.pinned (OpenSpec.upto gateSkipsSpec)

/-- 'hauberklaw31.GateReleases', WHERE WHAT IT READS IS OF BULK AT MOST 1048576: true; the input reads as it did. -/
def gateReleasesUptoRow : OpenClaim := { program := "ytealbjacocgjcaagreat", sum := "c66cd66615a2849ef1f70a726ea95446cb41aabf27b27781f3c28cb7320ff2d8", func := "hauberk/hauberklaw31.GateReleases", spec := "gateReleases", inPlace := ["internal/abi.NoEscape"], unfollowed := true, recurses := true, apart := false, narrowed := true }
def GateReleasesUptoSaid : Prop := gateReleasesUptoRow.holds Tryz.pinned (OpenSpec.upto gateReleasesSpec)

/-- 'hauberklaw31.GateFault', WHERE WHAT IT READS IS OF BULK AT MOST 1048576: true; the input reads as it did. -/
def gateFaultUptoRow : OpenClaim := { program := "ytealbjacocgjcaagreat", sum := "c66cd66615a2849ef1f70a726ea95446cb41aabf27b27781f3c28cb7320ff2d8", func := "hauberk/hauberklaw31.GateFault", spec := "gateFault", inPlace := ["internal/abi.NoEscape"], unfollowed := true, recurses := true, apart := false, narrowed := true }
def GateFaultUptoSaid : Prop := gateFaultUptoRow.holds Tryz.pinned (OpenSpec.upto gateFaultSpec)

end Rows
end Go.Proofs.YtealbjacocgjcaaGreat
