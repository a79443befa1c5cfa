/-
  No cell of these rows narrows 'for every input' (looked for: loops, veiled, ifaces, maps, wideKeys, modest, calm, conditions, laid).
  DERIVED. THE GIVEN ROWS OF THIS SEAT. 3 by the template 'for every input the law returns true; each argument reads behind the call as it read before'; 0 by the template 'total and deterministic' (their statements: YtehcaooipfgklaaTotals.lean).
  GIVEN WITH THE SEED: the statements are not yours to turn. If you find one false, say at which input.
  Laid BY PROGRAM, IN A SANDBOX (cutbox-rows.mjs): the forced cells as the released guide's own fill.sh prints them over the translation 9bc689a52d3af863… (all of the seat's roots in one cut). By AI agents, Wed Nov 11 2026. No macro, syntax, notation, axiom, sorry.
-/
import Derived.Test.YtehcaooipfgklaaChecked
import GoSem.Claim
import GoSem.ClaimJoined
import GoSem.ClaimMapViews
import Derived.JoinedTies
import Derived.KernelRfl
namespace Go.Proofs.Ytehcaooipfgklaa
/- THE CELL 'sum', in the pinned program and in every row, IS THE sha256 OF THE DUMP (.gsa) THAT YtehcaooipfgklaaProg.lean LOADS. Nothing in Lean hashes anything: it is a label: what it is worth is what the hold of that sum in a sandbox is worth. -/
noncomputable def Try.pinned : Pinned := { name := "ytehcaooipfgklaa", sum := "9bc689a52d3af863855128cb0925231dc76949b69fc0f141c6a692368ae9a6ad", checked := Try.checked }
namespace Rows
def none {H : Type} : Left H := { results := [], args := [] }

/-- 'hauberklaw04.AsmBytes': WHATEVER THE INPUT: true; the input reads as it did. -/
def asmBytesSpec : ChangeSpec := { name := "asmBytes", fn := fun _ => fun
  | [d1, d2] => { results := [.lit (.bool true)], args := [d1, d2] }
  | _ => none }
def asmBytesRow : OpenClaim := { program := "ytehcaooipfgklaa", sum := "9bc689a52d3af863855128cb0925231dc76949b69fc0f141c6a692368ae9a6ad", func := "hauberk/hauberklaw04.AsmBytes", spec := "asmBytes", inPlace := ["internal/abi.NoEscape"], apart := false }
def AsmBytesSaid : Prop := asmBytesRow.holds Try.pinned (OpenSpec.ofChange asmBytesSpec)

/-- ITS FALSE NEIGHBOUR: 'it returns false'. Refute it at one input. -/
def asmBytesWrong : ChangeSpec := { name := "asmBytes", fn := fun _ => fun
  | [d1, d2] => { results := [.lit (.bool false)], args := [d1, d2] }
  | _ => none }
def AsmBytesWrongFalsely : Prop := asmBytesRow.holds Try.pinned (OpenSpec.ofChange asmBytesWrong)

/-- 'hauberklaw04.AsmGoes': WHATEVER THE INPUT: true; the input reads as it did. -/
def asmGoesSpec : ChangeSpec := { name := "asmGoes", fn := fun _ => fun
  | [d1, d2] => { results := [.lit (.bool true)], args := [d1, d2] }
  | _ => none }
def asmGoesRow : OpenClaim := { program := "ytehcaooipfgklaa", sum := "9bc689a52d3af863855128cb0925231dc76949b69fc0f141c6a692368ae9a6ad", func := "hauberk/hauberklaw04.AsmGoes", spec := "asmGoes", inPlace := ["internal/abi.NoEscape"], unfollowed := true, recurses := true, apart := false }
def AsmGoesSaid : Prop := asmGoesRow.holds Try.pinned (OpenSpec.ofChange asmGoesSpec)

/-- ITS FALSE NEIGHBOUR: 'it returns false'. Refute it at one input. -/
def asmGoesWrong : ChangeSpec := { name := "asmGoes", fn := fun _ => fun
  | [d1, d2] => { results := [.lit (.bool false)], args := [d1, d2] }
  | _ => none }
def AsmGoesWrongFalsely : Prop := asmGoesRow.holds Try.pinned (OpenSpec.ofChange asmGoesWrong)

/-- 'hauberklaw04.AsmLeast': WHATEVER THE INPUT: true; the input reads as it did. -/
def asmLeastSpec : ChangeSpec := { name := "asmLeast", fn := fun _ => fun
  | [d1, d2, d3] => { results := [.lit (.bool true)], args := [d1, d2, d3] }
  | _ => none }
def asmLeastRow : OpenClaim := { program := "ytehcaooipfgklaa", sum := "9bc689a52d3af863855128cb0925231dc76949b69fc0f141c6a692368ae9a6ad", func := "hauberk/hauberklaw04.AsmLeast", spec := "asmLeast", inPlace := ["internal/abi.NoEscape"], unfollowed := true, recurses := true, apart := false }
def AsmLeastSaid : Prop := asmLeastRow.holds Try.pinned (OpenSpec.ofChange asmLeastSpec)

/-- ITS FALSE NEIGHBOUR: 'it returns false'. Refute it at one input. -/
def asmLeastWrong : ChangeSpec := { name := "asmLeast", fn := fun _ => fun
  | [d1, d2, d3] => { results := [.lit (.bool false)], args := [d1, d2, d3] }
  | _ => none }
def AsmLeastWrongFalsely : Prop := asmLeastRow.holds Try.pinned (OpenSpec.ofChange asmLeastWrong)

/- THE SECOND FORM. 'bulk': how many values and letters a reading holds, each counted each time it is reached (what is shared counts as often as it is met; a slice's spare places count too). A statement '..UptoSaid' is the law's where the arguments, and the package variables that the reading takes, are together of bulk at most 1048576: NARROWER than '..Said'. Prove '..Said' where nothing that the law and all that it calls make is longer than what came in: it says more and counts as full. Else prove '..UptoSaid'. A law counts once. -/
mutual
def uptoBulk {H : Type} : DataW H → Nat
  | .lit (.string bytes) => bytes.length + 1
  | .lit _ => 1
  | .nil => 1
  | .ptr d => uptoBulk d + 1
  | .slice elems spare => uptoBulkAll elems + uptoBulkAll spare + 1
  | .agg parts => uptoBulkAll parts + 1
  | .iface _ d => uptoBulk d + 1
  | .map entries => uptoBulkEntries entries + 1
  | .held _ => 1
def uptoBulkAll {H : Type} : List (DataW H) → Nat
  | [] => 0
  | d :: r => uptoBulk d + uptoBulkAll r
def uptoBulkEntries {H : Type} : List (Lit × DataW H) → Nat
  | [] => 0
  | x :: r => uptoBulkEntry x + uptoBulkEntries r
def uptoBulkEntry {H : Type} : Lit × DataW H → Nat
  | (.string bytes, d) => bytes.length + uptoBulk d + 1
  | (_, d) => uptoBulk d + 1
 end
def uptoSmall : (H : Type) → List (DataW H) → Bool := fun _ ds => decide (uptoBulkAll ds ≤ 1048576)
def OpenSpec.upto (s : _root_.Go.ChangeSpec) : _root_.Go.OpenSpec := { _root_.Go.OpenSpec.ofChange s with cond := some uptoSmall }

/-- 'hauberklaw04.AsmBytes', WHERE WHAT IT READS IS OF BULK AT MOST 1048576: true; the input reads as it did. -/
def asmBytesUptoRow : OpenClaim := { program := "ytehcaooipfgklaa", sum := "9bc689a52d3af863855128cb0925231dc76949b69fc0f141c6a692368ae9a6ad", func := "hauberk/hauberklaw04.AsmBytes", spec := "asmBytes", inPlace := ["internal/abi.NoEscape"], apart := false, narrowed := true }
def AsmBytesUptoSaid : Prop := asmBytesUptoRow.holds Try.pinned (OpenSpec.upto asmBytesSpec)

/-- 'hauberklaw04.AsmGoes', WHERE WHAT IT READS IS OF BULK AT MOST 1048576: true; the input reads as it did. -/
def asmGoesUptoRow : OpenClaim := { program := "ytehcaooipfgklaa", sum := "9bc689a52d3af863855128cb0925231dc76949b69fc0f141c6a692368ae9a6ad", func := "hauberk/hauberklaw04.AsmGoes", spec := "asmGoes", inPlace := ["internal/abi.NoEscape"], unfollowed := true, recurses := true, apart := false, narrowed := true }
def AsmGoesUptoSaid : Prop := asmGoesUptoRow.holds Try.pinned (OpenSpec.upto asmGoesSpec)

/-- 'hauberklaw04.AsmLeast', WHERE WHAT IT READS IS OF BULK AT MOST 1048576: true; the input reads as it did. -/
def asmLeastUptoRow : OpenClaim := { program := "ytehcaooipfgklaa", sum := "9bc689a52d3af863855128cb0925231dc76949b69fc0f141c6a692368ae9a6ad", func := "hauberk/hauberklaw04.AsmLeast", spec := "asmLeast", inPlace := ["internal/abi.NoEscape"], unfollowed := true, recurses := true, apart := false, narrowed := true }
def AsmLeastUptoSaid : Prop := asmLeastUptoRow.holds Try.pinned (OpenSpec.upto asmLeastSpec)

end Rows
end Go.Proofs.Ytehcaooipfgklaa
