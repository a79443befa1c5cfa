/-
  No cell of these rows narrows 'for every input' (looked for: loops, veiled, ifaces, maps, wideKeys, modest, calm, conditions, laid).
  DERIVED. THE GIVEN ROWS OF THIS SEAT. 11 by the template 'for every input the law returns true; each argument reads behind the call as it read before'; 0 by the template 'total and deterministic' (their statements: YtapfijocjgoilaaTotals.lean).
  GIVEN WITH THE SEED: the statements are not yours to turn. If you find one false, say at which input.
  Laid BY PROGRAM, IN A SANDBOX (cutbox-rows.mjs): the forced cells as the released guide's own fill.sh prints them over the translation cc69b8395f2e3888… (all of the seat's roots in one cut). By AI agents, Wed Nov 11 2026. No macro, syntax, notation, axiom, sorry.
-/
import Derived.Test.YtapfijocjgoilaaChecked
import GoSem.Claim
import GoSem.ClaimJoined
import GoSem.ClaimMapViews
import Derived.JoinedTies
import Derived.KernelRfl
namespace Go.Proofs.Ytapfijocjgoilaa
/- THE CELL 'sum', in the pinned program and in every row, IS THE sha256 OF THE DUMP (.gsa) THAT YtapfijocjgoilaaProg.lean LOADS. Nothing in Lean hashes anything: it is a label: what it is worth is what the hold of that sum in a sandbox is worth. -/
noncomputable def Try.pinned : Pinned := { name := "ytapfijocjgoilaa", sum := "cc69b8395f2e3888078b8c642250449b73d810f2d9517aba48b20864f84d6b3f", checked := Try.checked }
namespace Rows
def none {H : Type} : Left H := { results := [], args := [] }

/-- 'hauberklaw08.CpuSteps': WHATEVER THE INPUT: true; the input reads as it did. -/
def cpuStepsSpec : ChangeSpec := { name := "cpuSteps", fn := fun _ => fun
  | [d1, d2, d3] => { results := [.lit (.bool true)], args := [d1, d2, d3] }
  | _ => none }
def cpuStepsRow : OpenClaim := { program := "ytapfijocjgoilaa", sum := "cc69b8395f2e3888078b8c642250449b73d810f2d9517aba48b20864f84d6b3f", func := "hauberk/hauberklaw08.CpuSteps", spec := "cpuSteps", apart := false }
def CpuStepsSaid : Prop := cpuStepsRow.holds Try.pinned (OpenSpec.ofChange cpuStepsSpec)

/-- ITS FALSE NEIGHBOUR: 'it returns false'. Refute it at one input. -/
def cpuStepsWrong : ChangeSpec := { name := "cpuSteps", fn := fun _ => fun
  | [d1, d2, d3] => { results := [.lit (.bool false)], args := [d1, d2, d3] }
  | _ => none }
def CpuStepsWrongFalsely : Prop := cpuStepsRow.holds Try.pinned (OpenSpec.ofChange cpuStepsWrong)

/-- 'hauberklaw08.CpuAccesses': WHATEVER THE INPUT: true; the input reads as it did. -/
def cpuAccessesSpec : ChangeSpec := { name := "cpuAccesses", fn := fun _ => fun
  | [d1, d2] => { results := [.lit (.bool true)], args := [d1, d2] }
  | _ => none }
def cpuAccessesRow : OpenClaim := { program := "ytapfijocjgoilaa", sum := "cc69b8395f2e3888078b8c642250449b73d810f2d9517aba48b20864f84d6b3f", func := "hauberk/hauberklaw08.CpuAccesses", spec := "cpuAccesses", apart := false }
def CpuAccessesSaid : Prop := cpuAccessesRow.holds Try.pinned (OpenSpec.ofChange cpuAccessesSpec)

/-- ITS FALSE NEIGHBOUR: 'it returns false'. Refute it at one input. -/
def cpuAccessesWrong : ChangeSpec := { name := "cpuAccesses", fn := fun _ => fun
  | [d1, d2] => { results := [.lit (.bool false)], args := [d1, d2] }
  | _ => none }
def CpuAccessesWrongFalsely : Prop := cpuAccessesRow.holds Try.pinned (OpenSpec.ofChange cpuAccessesWrong)

/-- 'hauberklaw08.CpuHolds': WHATEVER THE INPUT: true; the input reads as it did. -/
def cpuHoldsSpec : ChangeSpec := { name := "cpuHolds", fn := fun _ => fun
  | [d1, d2] => { results := [.lit (.bool true)], args := [d1, d2] }
  | _ => none }
def cpuHoldsRow : OpenClaim := { program := "ytapfijocjgoilaa", sum := "cc69b8395f2e3888078b8c642250449b73d810f2d9517aba48b20864f84d6b3f", func := "hauberk/hauberklaw08.CpuHolds", spec := "cpuHolds", apart := false }
def CpuHoldsSaid : Prop := cpuHoldsRow.holds Try.pinned (OpenSpec.ofChange cpuHoldsSpec)

/-- ITS FALSE NEIGHBOUR: 'it returns false'. Refute it at one input. -/
def cpuHoldsWrong : ChangeSpec := { name := "cpuHolds", fn := fun _ => fun
  | [d1, d2] => { results := [.lit (.bool false)], args := [d1, d2] }
  | _ => none }
def CpuHoldsWrongFalsely : Prop := cpuHoldsRow.holds Try.pinned (OpenSpec.ofChange cpuHoldsWrong)

/-- 'hauberklaw08.CpuTwice': WHATEVER THE INPUT: true; the input reads as it did. -/
def cpuTwiceSpec : ChangeSpec := { name := "cpuTwice", fn := fun _ => fun
  | [d1, d2, d3] => { results := [.lit (.bool true)], args := [d1, d2, d3] }
  | _ => none }
def cpuTwiceRow : OpenClaim := { program := "ytapfijocjgoilaa", sum := "cc69b8395f2e3888078b8c642250449b73d810f2d9517aba48b20864f84d6b3f", func := "hauberk/hauberklaw08.CpuTwice", spec := "cpuTwice", apart := false }
def CpuTwiceSaid : Prop := cpuTwiceRow.holds Try.pinned (OpenSpec.ofChange cpuTwiceSpec)

/-- ITS FALSE NEIGHBOUR: 'it returns false'. Refute it at one input. -/
def cpuTwiceWrong : ChangeSpec := { name := "cpuTwice", fn := fun _ => fun
  | [d1, d2, d3] => { results := [.lit (.bool false)], args := [d1, d2, d3] }
  | _ => none }
def CpuTwiceWrongFalsely : Prop := cpuTwiceRow.holds Try.pinned (OpenSpec.ofChange cpuTwiceWrong)

/-- 'hauberklaw08.CpuKeeps': WHATEVER THE INPUT: true; the input reads as it did. -/
def cpuKeepsSpec : ChangeSpec := { name := "cpuKeeps", fn := fun _ => fun
  | [d1, d2, d3] => { results := [.lit (.bool true)], args := [d1, d2, d3] }
  | _ => none }
def cpuKeepsRow : OpenClaim := { program := "ytapfijocjgoilaa", sum := "cc69b8395f2e3888078b8c642250449b73d810f2d9517aba48b20864f84d6b3f", func := "hauberk/hauberklaw08.CpuKeeps", spec := "cpuKeeps", apart := false }
def CpuKeepsSaid : Prop := cpuKeepsRow.holds Try.pinned (OpenSpec.ofChange cpuKeepsSpec)

/-- ITS FALSE NEIGHBOUR: 'it returns false'. Refute it at one input. -/
def cpuKeepsWrong : ChangeSpec := { name := "cpuKeeps", fn := fun _ => fun
  | [d1, d2, d3] => { results := [.lit (.bool false)], args := [d1, d2, d3] }
  | _ => none }
def CpuKeepsWrongFalsely : Prop := cpuKeepsRow.holds Try.pinned (OpenSpec.ofChange cpuKeepsWrong)

/-- 'hauberklaw08.CpuCompares': WHATEVER THE INPUT: true; the input reads as it did. -/
def cpuComparesSpec : ChangeSpec := { name := "cpuCompares", fn := fun _ => fun
  | [d1, d2, d3] => { results := [.lit (.bool true)], args := [d1, d2, d3] }
  | _ => none }
def cpuComparesRow : OpenClaim := { program := "ytapfijocjgoilaa", sum := "cc69b8395f2e3888078b8c642250449b73d810f2d9517aba48b20864f84d6b3f", func := "hauberk/hauberklaw08.CpuCompares", spec := "cpuCompares", apart := false }
def CpuComparesSaid : Prop := cpuComparesRow.holds Try.pinned (OpenSpec.ofChange cpuComparesSpec)

/-- ITS FALSE NEIGHBOUR: 'it returns false'. Refute it at one input. -/
def cpuComparesWrong : ChangeSpec := { name := "cpuCompares", fn := fun _ => fun
  | [d1, d2, d3] => { results := [.lit (.bool false)], args := [d1, d2, d3] }
  | _ => none }
def CpuComparesWrongFalsely : Prop := cpuComparesRow.holds Try.pinned (OpenSpec.ofChange cpuComparesWrong)

/-- 'hauberklaw28.DupSafe': WHATEVER THE INPUT: true; the input reads as it did. -/
def dupSafeSpec : ChangeSpec := { name := "dupSafe", fn := fun _ => fun
  | [d] => { results := [.lit (.bool true)], args := [d] }
  | _ => none }
def dupSafeRow : OpenClaim := { program := "ytapfijocjgoilaa", sum := "cc69b8395f2e3888078b8c642250449b73d810f2d9517aba48b20864f84d6b3f", func := "hauberk/hauberklaw28.DupSafe", spec := "dupSafe", apart := false }
def DupSafeSaid : Prop := dupSafeRow.holds Try.pinned (OpenSpec.ofChange dupSafeSpec)

/-- ITS FALSE NEIGHBOUR: 'it returns false'. Refute it at one input. -/
def dupSafeWrong : ChangeSpec := { name := "dupSafe", fn := fun _ => fun
  | [d] => { results := [.lit (.bool false)], args := [d] }
  | _ => none }
def DupSafeWrongFalsely : Prop := dupSafeRow.holds Try.pinned (OpenSpec.ofChange dupSafeWrong)

/-- 'hauberklaw28.DupSkips': WHATEVER THE INPUT: true; the input reads as it did. -/
def dupSkipsSpec : ChangeSpec := { name := "dupSkips", fn := fun _ => fun
  | [d1, d2, d3, d4] => { results := [.lit (.bool true)], args := [d1, d2, d3, d4] }
  | _ => none }
def dupSkipsRow : OpenClaim := { program := "ytapfijocjgoilaa", sum := "cc69b8395f2e3888078b8c642250449b73d810f2d9517aba48b20864f84d6b3f", func := "hauberk/hauberklaw28.DupSkips", spec := "dupSkips", apart := false }
def DupSkipsSaid : Prop := dupSkipsRow.holds Try.pinned (OpenSpec.ofChange dupSkipsSpec)

/-- ITS FALSE NEIGHBOUR: 'it returns false'. Refute it at one input. -/
def dupSkipsWrong : ChangeSpec := { name := "dupSkips", fn := fun _ => fun
  | [d1, d2, d3, d4] => { results := [.lit (.bool false)], args := [d1, d2, d3, d4] }
  | _ => none }
def DupSkipsWrongFalsely : Prop := dupSkipsRow.holds Try.pinned (OpenSpec.ofChange dupSkipsWrong)

/-- 'hauberklaw27.TmplOps': WHATEVER THE INPUT: true; the input reads as it did. -/
def tmplOpsSpec : ChangeSpec := { name := "tmplOps", fn := fun _ => fun
  | [d1, d2, d3] => { results := [.lit (.bool true)], args := [d1, d2, d3] }
  | _ => none }
def tmplOpsRow : OpenClaim := { program := "ytapfijocjgoilaa", sum := "cc69b8395f2e3888078b8c642250449b73d810f2d9517aba48b20864f84d6b3f", func := "hauberk/hauberklaw27.TmplOps", spec := "tmplOps", apart := false }
def TmplOpsSaid : Prop := tmplOpsRow.holds Try.pinned (OpenSpec.ofChange tmplOpsSpec)

/-- ITS FALSE NEIGHBOUR: 'it returns false'. Refute it at one input. -/
def tmplOpsWrong : ChangeSpec := { name := "tmplOps", fn := fun _ => fun
  | [d1, d2, d3] => { results := [.lit (.bool false)], args := [d1, d2, d3] }
  | _ => none }
def TmplOpsWrongFalsely : Prop := tmplOpsRow.holds Try.pinned (OpenSpec.ofChange tmplOpsWrong)

/-- 'hauberklaw27.TmplSafe': WHATEVER THE INPUT: true; the input reads as it did. -/
def tmplSafeSpec : ChangeSpec := { name := "tmplSafe", fn := fun _ => fun
  | [d1, d2, d3] => { results := [.lit (.bool true)], args := [d1, d2, d3] }
  | _ => none }
def tmplSafeRow : OpenClaim := { program := "ytapfijocjgoilaa", sum := "cc69b8395f2e3888078b8c642250449b73d810f2d9517aba48b20864f84d6b3f", func := "hauberk/hauberklaw27.TmplSafe", spec := "tmplSafe", apart := false }
def TmplSafeSaid : Prop := tmplSafeRow.holds Try.pinned (OpenSpec.ofChange tmplSafeSpec)

/-- ITS FALSE NEIGHBOUR: 'it returns false'. Refute it at one input. -/
def tmplSafeWrong : ChangeSpec := { name := "tmplSafe", fn := fun _ => fun
  | [d1, d2, d3] => { results := [.lit (.bool false)], args := [d1, d2, d3] }
  | _ => none }
def TmplSafeWrongFalsely : Prop := tmplSafeRow.holds Try.pinned (OpenSpec.ofChange tmplSafeWrong)

/-- 'hauberklaw29.RailOps': WHATEVER THE INPUT: true; the input reads as it did. -/
def railOpsSpec : ChangeSpec := { name := "railOps", fn := fun _ => fun
  | [d1, d2] => { results := [.lit (.bool true)], args := [d1, d2] }
  | _ => none }
def railOpsRow : OpenClaim := { program := "ytapfijocjgoilaa", sum := "cc69b8395f2e3888078b8c642250449b73d810f2d9517aba48b20864f84d6b3f", func := "hauberk/hauberklaw29.RailOps", spec := "railOps", apart := false }
def RailOpsSaid : Prop := railOpsRow.holds Try.pinned (OpenSpec.ofChange railOpsSpec)

/-- ITS FALSE NEIGHBOUR: 'it returns false'. Refute it at one input. -/
def railOpsWrong : ChangeSpec := { name := "railOps", fn := fun _ => fun
  | [d1, d2] => { results := [.lit (.bool false)], args := [d1, d2] }
  | _ => none }
def RailOpsWrongFalsely : Prop := railOpsRow.holds Try.pinned (OpenSpec.ofChange railOpsWrong)

/- THE SECOND FORM. 'bulk': how many values and letters a reading holds, each counted each time it is reached (what is shared counts as often as it is met; a slice's spare places count too). A statement '..UptoSaid' is the law's where the arguments, and the package variables that the reading takes, are together of bulk at most 1048576: NARROWER than '..Said'. Prove '..Said' where nothing that the law and all that it calls make is longer than what came in: it says more and counts as full. Else prove '..UptoSaid'. A law counts once. -/
mutual
def uptoBulk {H : Type} : DataW H → Nat
  | .lit (.string bytes) => bytes.length + 1
  | .lit _ => 1
  | .nil => 1
  | .ptr d => uptoBulk d + 1
  | .slice elems spare => uptoBulkAll elems + uptoBulkAll spare + 1
  | .agg parts => uptoBulkAll parts + 1
  | .iface _ d => uptoBulk d + 1
  | .map entries => uptoBulkEntries entries + 1
  | .held _ => 1
def uptoBulkAll {H : Type} : List (DataW H) → Nat
  | [] => 0
  | d :: r => uptoBulk d + uptoBulkAll r
def uptoBulkEntries {H : Type} : List (Lit × DataW H) → Nat
  | [] => 0
  | x :: r => uptoBulkEntry x + uptoBulkEntries r
def uptoBulkEntry {H : Type} : Lit × DataW H → Nat
  | (.string bytes, d) => bytes.length + uptoBulk d + 1
  | (_, d) => uptoBulk d + 1
 end
def uptoSmall : (H : Type) → List (DataW H) → Bool := fun _ ds => decide (uptoBulkAll ds ≤ 1048576)
def OpenSpec.upto (s : _root_.Go.ChangeSpec) : _root_.Go.OpenSpec := { _root_.Go.OpenSpec.ofChange s with cond := some uptoSmall }

/-- 'hauberklaw08.CpuSteps', WHERE WHAT IT READS IS OF BULK AT MOST 1048576: true; the input reads as it did. -/
def cpuStepsUptoRow : OpenClaim := { program := "ytapfijocjgoilaa", sum := "cc69b8395f2e3888078b8c642250449b73d810f2d9517aba48b20864f84d6b3f", func := "hauberk/hauberklaw08.CpuSteps", spec := "cpuSteps", apart := false, narrowed := true }
def CpuStepsUptoSaid : Prop := cpuStepsUptoRow.holds Try.pinned (OpenSpec.upto cpuStepsSpec)

/-- 'hauberklaw08.CpuAccesses', WHERE WHAT IT READS IS OF BULK AT MOST 1048576: true; the input reads as it did. -/
def cpuAccessesUptoRow : OpenClaim := { program := "ytapfijocjgoilaa", sum := "cc69b8395f2e3888078b8c642250449b73d810f2d9517aba48b20864f84d6b3f", func := "hauberk/hauberklaw08.CpuAccesses", spec := "cpuAccesses", apart := false, narrowed := true }
def CpuAccessesUptoSaid : Prop := cpuAccessesUptoRow.holds Try.pinned (OpenSpec.upto cpuAccessesSpec)

/-- 'hauberklaw08.CpuHolds', WHERE WHAT IT READS IS OF BULK AT MOST 1048576: true; the input reads as it did. -/
def cpuHoldsUptoRow : OpenClaim := { program := "ytapfijocjgoilaa", sum := "cc69b8395f2e3888078b8c642250449b73d810f2d9517aba48b20864f84d6b3f", func := "hauberk/hauberklaw08.CpuHolds", spec := "cpuHolds", apart := false, narrowed := true }
def CpuHoldsUptoSaid : Prop := cpuHoldsUptoRow.holds Try.pinned (OpenSpec.upto cpuHoldsSpec)

/-- 'hauberklaw08.CpuTwice', WHERE WHAT IT READS IS OF BULK AT MOST 1048576: true; the input reads as it did. -/
def cpuTwiceUptoRow : OpenClaim := { program := "ytapfijocjgoilaa", sum := "cc69b8395f2e3888078b8c642250449b73d810f2d9517aba48b20864f84d6b3f", func := "hauberk/hauberklaw08.CpuTwice", spec := "cpuTwice", apart := false, narrowed := true }
def CpuTwiceUptoSaid : Prop := cpuTwiceUptoRow.holds Try.pinned (OpenSpec.upto cpuTwiceSpec)

/-- 'hauberklaw08.CpuKeeps', WHERE WHAT IT READS IS OF BULK AT MOST 1048576: true; the input reads as it did. -/
def cpuKeepsUptoRow : OpenClaim := { program := "ytapfijocjgoilaa", sum := "cc69b8395f2e3888078b8c642250449b73d810f2d9517aba48b20864f84d6b3f", func := "hauberk/hauberklaw08.CpuKeeps", spec := "cpuKeeps", apart := false, narrowed := true }
def CpuKeepsUptoSaid : Prop := cpuKeepsUptoRow.holds Try.pinned (OpenSpec.upto cpuKeepsSpec)

/-- 'hauberklaw08.CpuCompares', WHERE WHAT IT READS IS OF BULK AT MOST 1048576: true; the input reads as it did. -/
def cpuComparesUptoRow : OpenClaim := { program := "ytapfijocjgoilaa", sum := "cc69b8395f2e3888078b8c642250449b73d810f2d9517aba48b20864f84d6b3f", func := "hauberk/hauberklaw08.CpuCompares", spec := "cpuCompares", apart := false, narrowed := true }
def CpuComparesUptoSaid : Prop := cpuComparesUptoRow.holds Try.pinned (OpenSpec.upto cpuComparesSpec)

/-- 'hauberklaw28.DupSafe', WHERE WHAT IT READS IS OF BULK AT MOST 1048576: true; the input reads as it did. -/
def dupSafeUptoRow : OpenClaim := { program := "ytapfijocjgoilaa", sum := "cc69b8395f2e3888078b8c642250449b73d810f2d9517aba48b20864f84d6b3f", func := "hauberk/hauberklaw28.DupSafe", spec := "dupSafe", apart := false, narrowed := true }
def DupSafeUptoSaid : Prop := dupSafeUptoRow.holds Try.pinned (OpenSpec.upto dupSafeSpec)

/-- 'hauberklaw28.DupSkips', WHERE WHAT IT READS IS OF BULK AT MOST 1048576: true; the input reads as it did. -/
def dupSkipsUptoRow : OpenClaim := { program := "ytapfijocjgoilaa", sum := "cc69b8395f2e3888078b8c642250449b73d810f2d9517aba48b20864f84d6b3f", func := "hauberk/hauberklaw28.DupSkips", spec := "dupSkips", apart := false, narrowed := true }
def DupSkipsUptoSaid : Prop := dupSkipsUptoRow.holds Try.pinned (OpenSpec.upto dupSkipsSpec)

/-- 'hauberklaw27.TmplOps', WHERE WHAT IT READS IS OF BULK AT MOST 1048576: true; the input reads as it did. -/
def tmplOpsUptoRow : OpenClaim := { program := "ytapfijocjgoilaa", sum := "cc69b8395f2e3888078b8c642250449b73d810f2d9517aba48b20864f84d6b3f", func := "hauberk/hauberklaw27.TmplOps", spec := "tmplOps", apart := false, narrowed := true }
def TmplOpsUptoSaid : Prop := tmplOpsUptoRow.holds Try.pinned (OpenSpec.upto tmplOpsSpec)

/-- 'hauberklaw27.TmplSafe', WHERE WHAT IT READS IS OF BULK AT MOST 1048576: true; the input reads as it did. -/
def tmplSafeUptoRow : OpenClaim := { program := "ytapfijocjgoilaa", sum := "cc69b8395f2e3888078b8c642250449b73d810f2d9517aba48b20864f84d6b3f", func := "hauberk/hauberklaw27.TmplSafe", spec := "tmplSafe", apart := false, narrowed := true }
def TmplSafeUptoSaid : Prop := tmplSafeUptoRow.holds Try.pinned (OpenSpec.upto tmplSafeSpec)

/-- 'hauberklaw29.RailOps', WHERE WHAT IT READS IS OF BULK AT MOST 1048576: true; the input reads as it did. -/
def railOpsUptoRow : OpenClaim := { program := "ytapfijocjgoilaa", sum := "cc69b8395f2e3888078b8c642250449b73d810f2d9517aba48b20864f84d6b3f", func := "hauberk/hauberklaw29.RailOps", spec := "railOps", apart := false, narrowed := true }
def RailOpsUptoSaid : Prop := railOpsUptoRow.holds Try.pinned (OpenSpec.upto railOpsSpec)

end Rows
end Go.Proofs.Ytapfijocjgoilaa
