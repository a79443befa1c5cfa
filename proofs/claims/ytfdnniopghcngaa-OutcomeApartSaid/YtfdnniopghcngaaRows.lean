/-
  No cell of these rows narrows 'for every input' (looked for: loops, veiled, ifaces, maps, wideKeys, modest, calm, conditions, laid).
  DERIVED. THE GIVEN ROWS OF THIS SEAT. 12 by the template 'for every input the law returns true; each argument reads behind the call as it read before'; 0 by the template 'total and deterministic' (their statements: YtfdnniopghcngaaTotals.lean).
  GIVEN WITH THE SEED: the statements are not yours to turn. If you find one false, say at which input.
  Laid BY PROGRAM, IN A SANDBOX (cutbox-rows.mjs): the forced cells as the released guide's own fill.sh prints them over the translation e01f2017ecd3966c… (all of the seat's roots in one cut). By AI agents, Wed Nov 11 2026. No macro, syntax, notation, axiom, sorry.
-/
import Derived.Test.YtfdnniopghcngaaChecked
import GoSem.Claim
import GoSem.ClaimJoined
import GoSem.ClaimMapViews
import Derived.JoinedTies
import Derived.KernelRfl
namespace Go.Proofs.Ytfdnniopghcngaa
/- THE CELL 'sum', in the pinned program and in every row, IS THE sha256 OF THE DUMP (.gsa) THAT YtfdnniopghcngaaProg.lean LOADS. Nothing in Lean hashes anything: it is a label: what it is worth is what the hold of that sum in a sandbox is worth. -/
noncomputable def Try.pinned : Pinned := { name := "ytfdnniopghcngaa", sum := "e01f2017ecd3966c50484cbdd968170dfaac8ba97706844bf1799deb4c2e9867", checked := Try.checked }
namespace Rows
def none {H : Type} : Left H := { results := [], args := [] }

/-- 'hauberklaw27.TmplMoves': WHATEVER THE INPUT: true; the input reads as it did. -/
def tmplMovesSpec : ChangeSpec := { name := "tmplMoves", fn := fun _ => fun
  | [d1, d2, d3, d4] => { results := [.lit (.bool true)], args := [d1, d2, d3, d4] }
  | _ => none }
def tmplMovesRow : OpenClaim := { program := "ytfdnniopghcngaa", sum := "e01f2017ecd3966c50484cbdd968170dfaac8ba97706844bf1799deb4c2e9867", func := "hauberk/hauberklaw27.TmplMoves", spec := "tmplMoves", apart := false }
def TmplMovesSaid : Prop := tmplMovesRow.holds Try.pinned (OpenSpec.ofChange tmplMovesSpec)

/-- ITS FALSE NEIGHBOUR: 'it returns false'. Refute it at one input. -/
def tmplMovesWrong : ChangeSpec := { name := "tmplMoves", fn := fun _ => fun
  | [d1, d2, d3, d4] => { results := [.lit (.bool false)], args := [d1, d2, d3, d4] }
  | _ => none }
def TmplMovesWrongFalsely : Prop := tmplMovesRow.holds Try.pinned (OpenSpec.ofChange tmplMovesWrong)

/-- 'hauberklaw27.TmplSpots': WHATEVER THE INPUT: true; the input reads as it did. -/
def tmplSpotsSpec : ChangeSpec := { name := "tmplSpots", fn := fun _ => fun
  | [d1, d2, d3] => { results := [.lit (.bool true)], args := [d1, d2, d3] }
  | _ => none }
def tmplSpotsRow : OpenClaim := { program := "ytfdnniopghcngaa", sum := "e01f2017ecd3966c50484cbdd968170dfaac8ba97706844bf1799deb4c2e9867", func := "hauberk/hauberklaw27.TmplSpots", spec := "tmplSpots", apart := false }
def TmplSpotsSaid : Prop := tmplSpotsRow.holds Try.pinned (OpenSpec.ofChange tmplSpotsSpec)

/-- ITS FALSE NEIGHBOUR: 'it returns false'. Refute it at one input. -/
def tmplSpotsWrong : ChangeSpec := { name := "tmplSpots", fn := fun _ => fun
  | [d1, d2, d3] => { results := [.lit (.bool false)], args := [d1, d2, d3] }
  | _ => none }
def TmplSpotsWrongFalsely : Prop := tmplSpotsRow.holds Try.pinned (OpenSpec.ofChange tmplSpotsWrong)

/-- 'hauberklaw34.CampaignAt': WHATEVER THE INPUT: true; the input reads as it did. -/
def campaignAtSpec : ChangeSpec := { name := "campaignAt", fn := fun _ => fun
  | [d1, d2] => { results := [.lit (.bool true)], args := [d1, d2] }
  | _ => none }
def campaignAtRow : OpenClaim := { program := "ytfdnniopghcngaa", sum := "e01f2017ecd3966c50484cbdd968170dfaac8ba97706844bf1799deb4c2e9867", func := "hauberk/hauberklaw34.CampaignAt", spec := "campaignAt", unfollowed := true, recurses := true, apart := false }
def CampaignAtSaid : Prop := campaignAtRow.holds Try.pinned (OpenSpec.ofChange campaignAtSpec)

/-- ITS FALSE NEIGHBOUR: 'it returns false'. Refute it at one input. -/
def campaignAtWrong : ChangeSpec := { name := "campaignAt", fn := fun _ => fun
  | [d1, d2] => { results := [.lit (.bool false)], args := [d1, d2] }
  | _ => none }
def CampaignAtWrongFalsely : Prop := campaignAtRow.holds Try.pinned (OpenSpec.ofChange campaignAtWrong)

/-- 'hauberklaw34.CampaignAdds': WHATEVER THE INPUT: true; the input reads as it did. -/
def campaignAddsSpec : ChangeSpec := { name := "campaignAdds", fn := fun _ => fun
  | [d1, d2] => { results := [.lit (.bool true)], args := [d1, d2] }
  | _ => none }
def campaignAddsRow : OpenClaim := { program := "ytfdnniopghcngaa", sum := "e01f2017ecd3966c50484cbdd968170dfaac8ba97706844bf1799deb4c2e9867", func := "hauberk/hauberklaw34.CampaignAdds", spec := "campaignAdds", unfollowed := true, recurses := true, apart := false }
def CampaignAddsSaid : Prop := campaignAddsRow.holds Try.pinned (OpenSpec.ofChange campaignAddsSpec)

/-- ITS FALSE NEIGHBOUR: 'it returns false'. Refute it at one input. -/
def campaignAddsWrong : ChangeSpec := { name := "campaignAdds", fn := fun _ => fun
  | [d1, d2] => { results := [.lit (.bool false)], args := [d1, d2] }
  | _ => none }
def CampaignAddsWrongFalsely : Prop := campaignAddsRow.holds Try.pinned (OpenSpec.ofChange campaignAddsWrong)

/-- 'hauberklaw10.OutcomeTells': WHATEVER THE INPUT: true; the input reads as it did. -/
def outcomeTellsSpec : ChangeSpec := { name := "outcomeTells", fn := fun _ => fun
  | [d] => { results := [.lit (.bool true)], args := [d] }
  | _ => none }
def outcomeTellsRow : OpenClaim := { program := "ytfdnniopghcngaa", sum := "e01f2017ecd3966c50484cbdd968170dfaac8ba97706844bf1799deb4c2e9867", func := "hauberk/hauberklaw10.OutcomeTells", spec := "outcomeTells", apart := false }
def OutcomeTellsSaid : Prop := outcomeTellsRow.holds Try.pinned (OpenSpec.ofChange outcomeTellsSpec)

/-- ITS FALSE NEIGHBOUR: 'it returns false'. Refute it at one input. -/
def outcomeTellsWrong : ChangeSpec := { name := "outcomeTells", fn := fun _ => fun
  | [d] => { results := [.lit (.bool false)], args := [d] }
  | _ => none }
def OutcomeTellsWrongFalsely : Prop := outcomeTellsRow.holds Try.pinned (OpenSpec.ofChange outcomeTellsWrong)

/-- 'hauberklaw10.OutcomeSame': WHATEVER THE INPUT: true; the input reads as it did. -/
def outcomeSameSpec : ChangeSpec := { name := "outcomeSame", fn := fun _ => fun
  | [d1, d2, d3] => { results := [.lit (.bool true)], args := [d1, d2, d3] }
  | _ => none }
def outcomeSameRow : OpenClaim := { program := "ytfdnniopghcngaa", sum := "e01f2017ecd3966c50484cbdd968170dfaac8ba97706844bf1799deb4c2e9867", func := "hauberk/hauberklaw10.OutcomeSame", spec := "outcomeSame", apart := false }
def OutcomeSameSaid : Prop := outcomeSameRow.holds Try.pinned (OpenSpec.ofChange outcomeSameSpec)

/-- ITS FALSE NEIGHBOUR: 'it returns false'. Refute it at one input. -/
def outcomeSameWrong : ChangeSpec := { name := "outcomeSame", fn := fun _ => fun
  | [d1, d2, d3] => { results := [.lit (.bool false)], args := [d1, d2, d3] }
  | _ => none }
def OutcomeSameWrongFalsely : Prop := outcomeSameRow.holds Try.pinned (OpenSpec.ofChange outcomeSameWrong)

/-- 'hauberklaw10.OutcomeApart': WHATEVER THE INPUT: true; the input reads as it did. -/
def outcomeApartSpec : ChangeSpec := { name := "outcomeApart", fn := fun _ => fun
  | [d1, d2] => { results := [.lit (.bool true)], args := [d1, d2] }
  | _ => none }
def outcomeApartRow : OpenClaim := { program := "ytfdnniopghcngaa", sum := "e01f2017ecd3966c50484cbdd968170dfaac8ba97706844bf1799deb4c2e9867", func := "hauberk/hauberklaw10.OutcomeApart", spec := "outcomeApart", apart := false }
def OutcomeApartSaid : Prop := outcomeApartRow.holds Try.pinned (OpenSpec.ofChange outcomeApartSpec)

/-- ITS FALSE NEIGHBOUR: 'it returns false'. Refute it at one input. -/
def outcomeApartWrong : ChangeSpec := { name := "outcomeApart", fn := fun _ => fun
  | [d1, d2] => { results := [.lit (.bool false)], args := [d1, d2] }
  | _ => none }
def OutcomeApartWrongFalsely : Prop := outcomeApartRow.holds Try.pinned (OpenSpec.ofChange outcomeApartWrong)

/-- 'hauberklaw31.GateTells': WHATEVER THE INPUT: true; the input reads as it did. -/
def gateTellsSpec : ChangeSpec := { name := "gateTells", fn := fun _ => fun
  | [d1, d2, d3, d4, d5] => { results := [.lit (.bool true)], args := [d1, d2, d3, d4, d5] }
  | _ => none }
def gateTellsRow : OpenClaim := { program := "ytfdnniopghcngaa", sum := "e01f2017ecd3966c50484cbdd968170dfaac8ba97706844bf1799deb4c2e9867", func := "hauberk/hauberklaw31.GateTells", spec := "gateTells", unfollowed := true, recurses := true, apart := false }
def GateTellsSaid : Prop := gateTellsRow.holds Try.pinned (OpenSpec.ofChange gateTellsSpec)

/-- ITS FALSE NEIGHBOUR: 'it returns false'. Refute it at one input. -/
def gateTellsWrong : ChangeSpec := { name := "gateTells", fn := fun _ => fun
  | [d1, d2, d3, d4, d5] => { results := [.lit (.bool false)], args := [d1, d2, d3, d4, d5] }
  | _ => none }
def GateTellsWrongFalsely : Prop := gateTellsRow.holds Try.pinned (OpenSpec.ofChange gateTellsWrong)

/-- 'hauberklaw30.WipeTells': WHATEVER THE INPUT: true; the input reads as it did. -/
def wipeTellsSpec : ChangeSpec := { name := "wipeTells", fn := fun _ => fun
  | [d1, d2, d3, d4, d5, d6] => { results := [.lit (.bool true)], args := [d1, d2, d3, d4, d5, d6] }
  | _ => none }
def wipeTellsRow : OpenClaim := { program := "ytfdnniopghcngaa", sum := "e01f2017ecd3966c50484cbdd968170dfaac8ba97706844bf1799deb4c2e9867", func := "hauberk/hauberklaw30.WipeTells", spec := "wipeTells", unfollowed := true, recurses := true, apart := false }
def WipeTellsSaid : Prop := wipeTellsRow.holds Try.pinned (OpenSpec.ofChange wipeTellsSpec)

/-- ITS FALSE NEIGHBOUR: 'it returns false'. Refute it at one input. -/
def wipeTellsWrong : ChangeSpec := { name := "wipeTells", fn := fun _ => fun
  | [d1, d2, d3, d4, d5, d6] => { results := [.lit (.bool false)], args := [d1, d2, d3, d4, d5, d6] }
  | _ => none }
def WipeTellsWrongFalsely : Prop := wipeTellsRow.holds Try.pinned (OpenSpec.ofChange wipeTellsWrong)

/-- 'hauberklaw29.RailWays': WHATEVER THE INPUT: true; the input reads as it did. -/
def railWaysSpec : ChangeSpec := { name := "railWays", fn := fun _ => fun
  | [d1, d2] => { results := [.lit (.bool true)], args := [d1, d2] }
  | _ => none }
def railWaysRow : OpenClaim := { program := "ytfdnniopghcngaa", sum := "e01f2017ecd3966c50484cbdd968170dfaac8ba97706844bf1799deb4c2e9867", func := "hauberk/hauberklaw29.RailWays", spec := "railWays", apart := false }
def RailWaysSaid : Prop := railWaysRow.holds Try.pinned (OpenSpec.ofChange railWaysSpec)

/-- ITS FALSE NEIGHBOUR: 'it returns false'. Refute it at one input. -/
def railWaysWrong : ChangeSpec := { name := "railWays", fn := fun _ => fun
  | [d1, d2] => { results := [.lit (.bool false)], args := [d1, d2] }
  | _ => none }
def RailWaysWrongFalsely : Prop := railWaysRow.holds Try.pinned (OpenSpec.ofChange railWaysWrong)

/-- 'hauberklaw29.RailBranch': WHATEVER THE INPUT: true; the input reads as it did. -/
def railBranchSpec : ChangeSpec := { name := "railBranch", fn := fun _ => fun
  | [d1, d2, d3] => { results := [.lit (.bool true)], args := [d1, d2, d3] }
  | _ => none }
def railBranchRow : OpenClaim := { program := "ytfdnniopghcngaa", sum := "e01f2017ecd3966c50484cbdd968170dfaac8ba97706844bf1799deb4c2e9867", func := "hauberk/hauberklaw29.RailBranch", spec := "railBranch", apart := false }
def RailBranchSaid : Prop := railBranchRow.holds Try.pinned (OpenSpec.ofChange railBranchSpec)

/-- ITS FALSE NEIGHBOUR: 'it returns false'. Refute it at one input. -/
def railBranchWrong : ChangeSpec := { name := "railBranch", fn := fun _ => fun
  | [d1, d2, d3] => { results := [.lit (.bool false)], args := [d1, d2, d3] }
  | _ => none }
def RailBranchWrongFalsely : Prop := railBranchRow.holds Try.pinned (OpenSpec.ofChange railBranchWrong)

/-- 'hauberklaw28.DupTells': WHATEVER THE INPUT: true; the input reads as it did. -/
def dupTellsSpec : ChangeSpec := { name := "dupTells", fn := fun _ => fun
  | [d] => { results := [.lit (.bool true)], args := [d] }
  | _ => none }
def dupTellsRow : OpenClaim := { program := "ytfdnniopghcngaa", sum := "e01f2017ecd3966c50484cbdd968170dfaac8ba97706844bf1799deb4c2e9867", func := "hauberk/hauberklaw28.DupTells", spec := "dupTells", apart := false }
def DupTellsSaid : Prop := dupTellsRow.holds Try.pinned (OpenSpec.ofChange dupTellsSpec)

/-- ITS FALSE NEIGHBOUR: 'it returns false'. Refute it at one input. -/
def dupTellsWrong : ChangeSpec := { name := "dupTells", fn := fun _ => fun
  | [d] => { results := [.lit (.bool false)], args := [d] }
  | _ => none }
def DupTellsWrongFalsely : Prop := dupTellsRow.holds Try.pinned (OpenSpec.ofChange dupTellsWrong)

/- THE SECOND FORM. 'bulk': how many values and letters a reading holds, each counted each time it is reached (what is shared counts as often as it is met; a slice's spare places count too). A statement '..UptoSaid' is the law's where the arguments, and the package variables that the reading takes, are together of bulk at most 1048576: NARROWER than '..Said'. Prove '..Said' where nothing that the law and all that it calls make is longer than what came in: it says more and counts as full. Else prove '..UptoSaid'. A law counts once. -/
mutual
def uptoBulk {H : Type} : DataW H → Nat
  | .lit (.string bytes) => bytes.length + 1
  | .lit _ => 1
  | .nil => 1
  | .ptr d => uptoBulk d + 1
  | .slice elems spare => uptoBulkAll elems + uptoBulkAll spare + 1
  | .agg parts => uptoBulkAll parts + 1
  | .iface _ d => uptoBulk d + 1
  | .map entries => uptoBulkEntries entries + 1
  | .held _ => 1
def uptoBulkAll {H : Type} : List (DataW H) → Nat
  | [] => 0
  | d :: r => uptoBulk d + uptoBulkAll r
def uptoBulkEntries {H : Type} : List (Lit × DataW H) → Nat
  | [] => 0
  | x :: r => uptoBulkEntry x + uptoBulkEntries r
def uptoBulkEntry {H : Type} : Lit × DataW H → Nat
  | (.string bytes, d) => bytes.length + uptoBulk d + 1
  | (_, d) => uptoBulk d + 1
 end
def uptoSmall : (H : Type) → List (DataW H) → Bool := fun _ ds => decide (uptoBulkAll ds ≤ 1048576)
def OpenSpec.upto (s : _root_.Go.ChangeSpec) : _root_.Go.OpenSpec := { _root_.Go.OpenSpec.ofChange s with cond := some uptoSmall }

/-- 'hauberklaw27.TmplMoves', WHERE WHAT IT READS IS OF BULK AT MOST 1048576: true; the input reads as it did. -/
def tmplMovesUptoRow : OpenClaim := { program := "ytfdnniopghcngaa", sum := "e01f2017ecd3966c50484cbdd968170dfaac8ba97706844bf1799deb4c2e9867", func := "hauberk/hauberklaw27.TmplMoves", spec := "tmplMoves", apart := false, narrowed := true }
def TmplMovesUptoSaid : Prop := tmplMovesUptoRow.holds Try.pinned (OpenSpec.upto tmplMovesSpec)

/-- 'hauberklaw27.TmplSpots', WHERE WHAT IT READS IS OF BULK AT MOST 1048576: true; the input reads as it did. -/
def tmplSpotsUptoRow : OpenClaim := { program := "ytfdnniopghcngaa", sum := "e01f2017ecd3966c50484cbdd968170dfaac8ba97706844bf1799deb4c2e9867", func := "hauberk/hauberklaw27.TmplSpots", spec := "tmplSpots", apart := false, narrowed := true }
def TmplSpotsUptoSaid : Prop := tmplSpotsUptoRow.holds Try.pinned (OpenSpec.upto tmplSpotsSpec)

/-- 'hauberklaw34.CampaignAt', WHERE WHAT IT READS IS OF BULK AT MOST 1048576: true; the input reads as it did. -/
def campaignAtUptoRow : OpenClaim := { program := "ytfdnniopghcngaa", sum := "e01f2017ecd3966c50484cbdd968170dfaac8ba97706844bf1799deb4c2e9867", func := "hauberk/hauberklaw34.CampaignAt", spec := "campaignAt", unfollowed := true, recurses := true, apart := false, narrowed := true }
def CampaignAtUptoSaid : Prop := campaignAtUptoRow.holds Try.pinned (OpenSpec.upto campaignAtSpec)

/-- 'hauberklaw34.CampaignAdds', WHERE WHAT IT READS IS OF BULK AT MOST 1048576: true; the input reads as it did. -/
def campaignAddsUptoRow : OpenClaim := { program := "ytfdnniopghcngaa", sum := "e01f2017ecd3966c50484cbdd968170dfaac8ba97706844bf1799deb4c2e9867", func := "hauberk/hauberklaw34.CampaignAdds", spec := "campaignAdds", unfollowed := true, recurses := true, apart := false, narrowed := true }
def CampaignAddsUptoSaid : Prop := campaignAddsUptoRow.holds Try.pinned (OpenSpec.upto campaignAddsSpec)

/-- 'hauberklaw10.OutcomeTells', WHERE WHAT IT READS IS OF BULK AT MOST 1048576: true; the input reads as it did. -/
def outcomeTellsUptoRow : OpenClaim := { program := "ytfdnniopghcngaa", sum := "e01f2017ecd3966c50484cbdd968170dfaac8ba97706844bf1799deb4c2e9867", func := "hauberk/hauberklaw10.OutcomeTells", spec := "outcomeTells", apart := false, narrowed := true }
def OutcomeTellsUptoSaid : Prop := outcomeTellsUptoRow.holds Try.pinned (OpenSpec.upto outcomeTellsSpec)

/-- 'hauberklaw10.OutcomeSame', WHERE WHAT IT READS IS OF BULK AT MOST 1048576: true; the input reads as it did. -/
def outcomeSameUptoRow : OpenClaim := { program := "ytfdnniopghcngaa", sum := "e01f2017ecd3966c50484cbdd968170dfaac8ba97706844bf1799deb4c2e9867", func := "hauberk/hauberklaw10.OutcomeSame", spec := "outcomeSame", apart := false, narrowed := true }
def OutcomeSameUptoSaid : Prop := outcomeSameUptoRow.holds Try.pinned (OpenSpec.upto outcomeSameSpec)

/-- 'hauberklaw10.OutcomeApart', WHERE WHAT IT READS IS OF BULK AT MOST 1048576: true; the input reads as it did. -/
def outcomeApartUptoRow : OpenClaim := { program := "ytfdnniopghcngaa", sum := "e01f2017ecd3966c50484cbdd968170dfaac8ba97706844bf1799deb4c2e9867", func := "hauberk/hauberklaw10.OutcomeApart", spec := "outcomeApart", apart := false, narrowed := true }
def OutcomeApartUptoSaid : Prop := outcomeApartUptoRow.holds Try.pinned (OpenSpec.upto outcomeApartSpec)

/-- 'hauberklaw31.GateTells', WHERE WHAT IT READS IS OF BULK AT MOST 1048576: true; the input reads as it did. -/
def gateTellsUptoRow : OpenClaim := { program := "ytfdnniopghcngaa", sum := "e01f2017ecd3966c50484cbdd968170dfaac8ba97706844bf1799deb4c2e9867", func := "hauberk/hauberklaw31.GateTells", spec := "gateTells", unfollowed := true, recurses := true, apart := false, narrowed := true }
def GateTellsUptoSaid : Prop := gateTellsUptoRow.holds Try.pinned (OpenSpec.upto gateTellsSpec)

/-- 'hauberklaw30.WipeTells', WHERE WHAT IT READS IS OF BULK AT MOST 1048576: true; the input reads as it did. -/
def wipeTellsUptoRow : OpenClaim := { program := "ytfdnniopghcngaa", sum := "e01f2017ecd3966c50484cbdd968170dfaac8ba97706844bf1799deb4c2e9867", func := "hauberk/hauberklaw30.WipeTells", spec := "wipeTells", unfollowed := true, recurses := true, apart := false, narrowed := true }
def WipeTellsUptoSaid : Prop := wipeTellsUptoRow.holds Try.pinned (OpenSpec.upto wipeTellsSpec)

/-- 'hauberklaw29.RailWays', WHERE WHAT IT READS IS OF BULK AT MOST 1048576: true; the input reads as it did. -/
def railWaysUptoRow : OpenClaim := { program := "ytfdnniopghcngaa", sum := "e01f2017ecd3966c50484cbdd968170dfaac8ba97706844bf1799deb4c2e9867", func := "hauberk/hauberklaw29.RailWays", spec := "railWays", apart := false, narrowed := true }
def RailWaysUptoSaid : Prop := railWaysUptoRow.holds Try.pinned (OpenSpec.upto railWaysSpec)

/-- 'hauberklaw29.RailBranch', WHERE WHAT IT READS IS OF BULK AT MOST 1048576: true; the input reads as it did. -/
def railBranchUptoRow : OpenClaim := { program := "ytfdnniopghcngaa", sum := "e01f2017ecd3966c50484cbdd968170dfaac8ba97706844bf1799deb4c2e9867", func := "hauberk/hauberklaw29.RailBranch", spec := "railBranch", apart := false, narrowed := true }
def RailBranchUptoSaid : Prop := railBranchUptoRow.holds Try.pinned (OpenSpec.upto railBranchSpec)

/-- 'hauberklaw28.DupTells', WHERE WHAT IT READS IS OF BULK AT MOST 1048576: true; the input reads as it did. -/
def dupTellsUptoRow : OpenClaim := { program := "ytfdnniopghcngaa", sum := "e01f2017ecd3966c50484cbdd968170dfaac8ba97706844bf1799deb4c2e9867", func := "hauberk/hauberklaw28.DupTells", spec := "dupTells", apart := false, narrowed := true }
def DupTellsUptoSaid : Prop := dupTellsUptoRow.holds Try.pinned (OpenSpec.upto dupTellsSpec)

end Rows
end Go.Proofs.Ytfdnniopghcngaa
