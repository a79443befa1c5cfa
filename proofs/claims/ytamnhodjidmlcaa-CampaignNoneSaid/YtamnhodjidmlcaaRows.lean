/-
  No cell of these rows narrows 'for every input' (looked for: loops, veiled, ifaces, maps, wideKeys, modest, calm, conditions, laid).
  DERIVED. THE GIVEN ROWS OF THIS SEAT. 5 by the template 'for every input the law returns true; each argument reads behind the call as it read before'; 0 by the template 'total and deterministic' (their statements: YtamnhodjidmlcaaTotals.lean).
  GIVEN WITH THE SEED: the statements are not yours to turn. If you find one false, say at which input.
  Laid BY PROGRAM, IN A SANDBOX (cutbox-rows.mjs): the forced cells as the released guide's own fill.sh prints them over the translation 3b8ef49d974df89b… (all of the seat's roots in one cut). By AI agents, Wed Nov 11 2026. No macro, syntax, notation, axiom, sorry.
-/
import Derived.Test.YtamnhodjidmlcaaChecked
import GoSem.Claim
import GoSem.ClaimJoined
import GoSem.ClaimMapViews
import Derived.JoinedTies
import Derived.KernelRfl
namespace Go.Proofs.Ytamnhodjidmlcaa
/- THE CELL 'sum', in the pinned program and in every row, IS THE sha256 OF THE DUMP (.gsa) THAT YtamnhodjidmlcaaProg.lean LOADS. Nothing in Lean hashes anything: it is a label: what it is worth is what the hold of that sum in a sandbox is worth. -/
noncomputable def Try.pinned : Pinned := { name := "ytamnhodjidmlcaa", sum := "3b8ef49d974df89b44c904f110a0a0fec371030cc46a2442ecf84bfe2e76214f", checked := Try.checked }
namespace Rows
def none {H : Type} : Left H := { results := [], args := [] }

/-- 'hauberklaw09.MachineNone': WHATEVER THE INPUT: true; the input reads as it did. -/
def machineNoneSpec : ChangeSpec := { name := "machineNone", fn := fun _ => fun
  | [d1, d2, d3, d4, d5] => { results := [.lit (.bool true)], args := [d1, d2, d3, d4, d5] }
  | _ => none }
def machineNoneRow : OpenClaim := { program := "ytamnhodjidmlcaa", sum := "3b8ef49d974df89b44c904f110a0a0fec371030cc46a2442ecf84bfe2e76214f", func := "hauberk/hauberklaw09.MachineNone", spec := "machineNone", unfollowed := true, recurses := true, apart := false }
def MachineNoneSaid : Prop := machineNoneRow.holds Try.pinned (OpenSpec.ofChange machineNoneSpec)

/-- ITS FALSE NEIGHBOUR: 'it returns false'. Refute it at one input. -/
def machineNoneWrong : ChangeSpec := { name := "machineNone", fn := fun _ => fun
  | [d1, d2, d3, d4, d5] => { results := [.lit (.bool false)], args := [d1, d2, d3, d4, d5] }
  | _ => none }
def MachineNoneWrongFalsely : Prop := machineNoneRow.holds Try.pinned (OpenSpec.ofChange machineNoneWrong)

/-- 'hauberklaw09.MachineSums': WHATEVER THE INPUT: true; the input reads as it did. -/
def machineSumsSpec : ChangeSpec := { name := "machineSums", fn := fun _ => fun
  | [d1, d2, d3, d4] => { results := [.lit (.bool true)], args := [d1, d2, d3, d4] }
  | _ => none }
def machineSumsRow : OpenClaim := { program := "ytamnhodjidmlcaa", sum := "3b8ef49d974df89b44c904f110a0a0fec371030cc46a2442ecf84bfe2e76214f", func := "hauberk/hauberklaw09.MachineSums", spec := "machineSums", unfollowed := true, recurses := true, apart := false }
def MachineSumsSaid : Prop := machineSumsRow.holds Try.pinned (OpenSpec.ofChange machineSumsSpec)

/-- ITS FALSE NEIGHBOUR: 'it returns false'. Refute it at one input. -/
def machineSumsWrong : ChangeSpec := { name := "machineSums", fn := fun _ => fun
  | [d1, d2, d3, d4] => { results := [.lit (.bool false)], args := [d1, d2, d3, d4] }
  | _ => none }
def MachineSumsWrongFalsely : Prop := machineSumsRow.holds Try.pinned (OpenSpec.ofChange machineSumsWrong)

/-- 'hauberklaw09.MachineSkips': WHATEVER THE INPUT: true; the input reads as it did. -/
def machineSkipsSpec : ChangeSpec := { name := "machineSkips", fn := fun _ => fun
  | [d1, d2, d3] => { results := [.lit (.bool true)], args := [d1, d2, d3] }
  | _ => none }
def machineSkipsRow : OpenClaim := { program := "ytamnhodjidmlcaa", sum := "3b8ef49d974df89b44c904f110a0a0fec371030cc46a2442ecf84bfe2e76214f", func := "hauberk/hauberklaw09.MachineSkips", spec := "machineSkips", unfollowed := true, recurses := true, apart := false }
def MachineSkipsSaid : Prop := machineSkipsRow.holds Try.pinned (OpenSpec.ofChange machineSkipsSpec)

/-- ITS FALSE NEIGHBOUR: 'it returns false'. Refute it at one input. -/
def machineSkipsWrong : ChangeSpec := { name := "machineSkips", fn := fun _ => fun
  | [d1, d2, d3] => { results := [.lit (.bool false)], args := [d1, d2, d3] }
  | _ => none }
def MachineSkipsWrongFalsely : Prop := machineSkipsRow.holds Try.pinned (OpenSpec.ofChange machineSkipsWrong)

/-- 'hauberklaw34.CampaignSums': WHATEVER THE INPUT: true; the input reads as it did. -/
def campaignSumsSpec : ChangeSpec := { name := "campaignSums", fn := fun _ => fun
  | [d1, d2, d3, d4, d5] => { results := [.lit (.bool true)], args := [d1, d2, d3, d4, d5] }
  | _ => none }
def campaignSumsRow : OpenClaim := { program := "ytamnhodjidmlcaa", sum := "3b8ef49d974df89b44c904f110a0a0fec371030cc46a2442ecf84bfe2e76214f", func := "hauberk/hauberklaw34.CampaignSums", spec := "campaignSums", unfollowed := true, recurses := true, apart := false }
def CampaignSumsSaid : Prop := campaignSumsRow.holds Try.pinned (OpenSpec.ofChange campaignSumsSpec)

/-- ITS FALSE NEIGHBOUR: 'it returns false'. Refute it at one input. -/
def campaignSumsWrong : ChangeSpec := { name := "campaignSums", fn := fun _ => fun
  | [d1, d2, d3, d4, d5] => { results := [.lit (.bool false)], args := [d1, d2, d3, d4, d5] }
  | _ => none }
def CampaignSumsWrongFalsely : Prop := campaignSumsRow.holds Try.pinned (OpenSpec.ofChange campaignSumsWrong)

/-- 'hauberklaw34.CampaignNone': WHATEVER THE INPUT: true; the input reads as it did. -/
def campaignNoneSpec : ChangeSpec := { name := "campaignNone", fn := fun _ => fun
  | [d1, d2, d3, d4] => { results := [.lit (.bool true)], args := [d1, d2, d3, d4] }
  | _ => none }
def campaignNoneRow : OpenClaim := { program := "ytamnhodjidmlcaa", sum := "3b8ef49d974df89b44c904f110a0a0fec371030cc46a2442ecf84bfe2e76214f", func := "hauberk/hauberklaw34.CampaignNone", spec := "campaignNone", unfollowed := true, recurses := true, apart := false }
def CampaignNoneSaid : Prop := campaignNoneRow.holds Try.pinned (OpenSpec.ofChange campaignNoneSpec)

/-- ITS FALSE NEIGHBOUR: 'it returns false'. Refute it at one input. -/
def campaignNoneWrong : ChangeSpec := { name := "campaignNone", fn := fun _ => fun
  | [d1, d2, d3, d4] => { results := [.lit (.bool false)], args := [d1, d2, d3, d4] }
  | _ => none }
def CampaignNoneWrongFalsely : Prop := campaignNoneRow.holds Try.pinned (OpenSpec.ofChange campaignNoneWrong)

/- THE SECOND FORM. 'bulk': how many values and letters a reading holds, each counted each time it is reached (what is shared counts as often as it is met; a slice's spare places count too). A statement '..UptoSaid' is the law's where the arguments, and the package variables that the reading takes, are together of bulk at most 1048576: NARROWER than '..Said'. Prove '..Said' where nothing that the law and all that it calls make is longer than what came in: it says more and counts as full. Else prove '..UptoSaid'. A law counts once. -/
mutual
def uptoBulk {H : Type} : DataW H → Nat
  | .lit (.string bytes) => bytes.length + 1
  | .lit _ => 1
  | .nil => 1
  | .ptr d => uptoBulk d + 1
  | .slice elems spare => uptoBulkAll elems + uptoBulkAll spare + 1
  | .agg parts => uptoBulkAll parts + 1
  | .iface _ d => uptoBulk d + 1
  | .map entries => uptoBulkEntries entries + 1
  | .held _ => 1
def uptoBulkAll {H : Type} : List (DataW H) → Nat
  | [] => 0
  | d :: r => uptoBulk d + uptoBulkAll r
def uptoBulkEntries {H : Type} : List (Lit × DataW H) → Nat
  | [] => 0
  | x :: r => uptoBulkEntry x + uptoBulkEntries r
def uptoBulkEntry {H : Type} : Lit × DataW H → Nat
  | (.string bytes, d) => bytes.length + uptoBulk d + 1
  | (_, d) => uptoBulk d + 1
 end
def uptoSmall : (H : Type) → List (DataW H) → Bool := fun _ ds => decide (uptoBulkAll ds ≤ 1048576)
def OpenSpec.upto (s : _root_.Go.ChangeSpec) : _root_.Go.OpenSpec := { _root_.Go.OpenSpec.ofChange s with cond := some uptoSmall }

/-- 'hauberklaw09.MachineNone', WHERE WHAT IT READS IS OF BULK AT MOST 1048576: true; the input reads as it did. -/
def machineNoneUptoRow : OpenClaim := { program := "ytamnhodjidmlcaa", sum := "3b8ef49d974df89b44c904f110a0a0fec371030cc46a2442ecf84bfe2e76214f", func := "hauberk/hauberklaw09.MachineNone", spec := "machineNone", unfollowed := true, recurses := true, apart := false, narrowed := true }
def MachineNoneUptoSaid : Prop := machineNoneUptoRow.holds Try.pinned (OpenSpec.upto machineNoneSpec)

/-- 'hauberklaw09.MachineSums', WHERE WHAT IT READS IS OF BULK AT MOST 1048576: true; the input reads as it did. -/
def machineSumsUptoRow : OpenClaim := { program := "ytamnhodjidmlcaa", sum := "3b8ef49d974df89b44c904f110a0a0fec371030cc46a2442ecf84bfe2e76214f", func := "hauberk/hauberklaw09.MachineSums", spec := "machineSums", unfollowed := true, recurses := true, apart := false, narrowed := true }
def MachineSumsUptoSaid : Prop := machineSumsUptoRow.holds Try.pinned (OpenSpec.upto machineSumsSpec)

/-- 'hauberklaw09.MachineSkips', WHERE WHAT IT READS IS OF BULK AT MOST 1048576: true; the input reads as it did. -/
def machineSkipsUptoRow : OpenClaim := { program := "ytamnhodjidmlcaa", sum := "3b8ef49d974df89b44c904f110a0a0fec371030cc46a2442ecf84bfe2e76214f", func := "hauberk/hauberklaw09.MachineSkips", spec := "machineSkips", unfollowed := true, recurses := true, apart := false, narrowed := true }
def MachineSkipsUptoSaid : Prop := machineSkipsUptoRow.holds Try.pinned (OpenSpec.upto machineSkipsSpec)

/-- 'hauberklaw34.CampaignSums', WHERE WHAT IT READS IS OF BULK AT MOST 1048576: true; the input reads as it did. -/
def campaignSumsUptoRow : OpenClaim := { program := "ytamnhodjidmlcaa", sum := "3b8ef49d974df89b44c904f110a0a0fec371030cc46a2442ecf84bfe2e76214f", func := "hauberk/hauberklaw34.CampaignSums", spec := "campaignSums", unfollowed := true, recurses := true, apart := false, narrowed := true }
def CampaignSumsUptoSaid : Prop := campaignSumsUptoRow.holds Try.pinned (OpenSpec.upto campaignSumsSpec)

/-- 'hauberklaw34.CampaignNone', WHERE WHAT IT READS IS OF BULK AT MOST 1048576: true; the input reads as it did. -/
def campaignNoneUptoRow : OpenClaim := { program := "ytamnhodjidmlcaa", sum := "3b8ef49d974df89b44c904f110a0a0fec371030cc46a2442ecf84bfe2e76214f", func := "hauberk/hauberklaw34.CampaignNone", spec := "campaignNone", unfollowed := true, recurses := true, apart := false, narrowed := true }
def CampaignNoneUptoSaid : Prop := campaignNoneUptoRow.holds Try.pinned (OpenSpec.upto campaignNoneSpec)

end Rows
end Go.Proofs.Ytamnhodjidmlcaa
