/-
  No cell of these rows narrows 'for every input' (looked for: loops, veiled, ifaces, maps, wideKeys, modest, calm, conditions, laid).
  DERIVED. THE GIVEN ROWS OF THIS SEAT. 12 by the template 'for every input the law returns true; each argument reads behind the call as it read before'; 0 by the template 'total and deterministic' (their statements: YtbfhpnnnfjjjnaaTotals.lean).
  GIVEN WITH THE SEED: the statements are not yours to turn. If you find one false, say at which input.
  Laid BY PROGRAM, IN A SANDBOX (cutbox-rows.mjs): the forced cells as the released guide's own fill.sh prints them over the translation 838f92c8a269b758… (all of the seat's roots in one cut). By AI agents, Wed Nov 11 2026. No macro, syntax, notation, axiom, sorry.
-/
import Derived.Test.YtbfhpnnnfjjjnaaChecked
import GoSem.Claim
import GoSem.ClaimJoined
import GoSem.ClaimMapViews
import Derived.JoinedTies
import Derived.KernelRfl
namespace Go.Proofs.Ytbfhpnnnfjjjnaa
/- THE CELL 'sum', in the pinned program and in every row, IS THE sha256 OF THE DUMP (.gsa) THAT YtbfhpnnnfjjjnaaProg.lean LOADS. Nothing in Lean hashes anything: it is a label: what it is worth is what the hold of that sum in a sandbox is worth. -/
noncomputable def Try.pinned : Pinned := { name := "ytbfhpnnnfjjjnaa", sum := "838f92c8a269b758f9c12f038508850b1a8c71e1b58fc36c2366ad003bbbd4c5", checked := Try.checked }
namespace Rows
def none {H : Type} : Left H := { results := [], args := [] }

/-- 'hauberklaw02.ThumbEncodes': WHATEVER THE INPUT: true; the input reads as it did. -/
def thumbEncodesSpec : ChangeSpec := { name := "thumbEncodes", fn := fun _ => fun
  | [d] => { results := [.lit (.bool true)], args := [d] }
  | _ => none }
def thumbEncodesRow : OpenClaim := { program := "ytbfhpnnnfjjjnaa", sum := "838f92c8a269b758f9c12f038508850b1a8c71e1b58fc36c2366ad003bbbd4c5", func := "hauberk/hauberklaw02.ThumbEncodes", spec := "thumbEncodes", apart := false }
def ThumbEncodesSaid : Prop := thumbEncodesRow.holds Try.pinned (OpenSpec.ofChange thumbEncodesSpec)

/-- ITS FALSE NEIGHBOUR: 'it returns false'. Refute it at one input. -/
def thumbEncodesWrong : ChangeSpec := { name := "thumbEncodes", fn := fun _ => fun
  | [d] => { results := [.lit (.bool false)], args := [d] }
  | _ => none }
def ThumbEncodesWrongFalsely : Prop := thumbEncodesRow.holds Try.pinned (OpenSpec.ofChange thumbEncodesWrong)

/-- 'hauberklaw02.ThumbReach': WHATEVER THE INPUT: true; the input reads as it did. -/
def thumbReachSpec : ChangeSpec := { name := "thumbReach", fn := fun _ => fun
  | [d1, d2, d3] => { results := [.lit (.bool true)], args := [d1, d2, d3] }
  | _ => none }
def thumbReachRow : OpenClaim := { program := "ytbfhpnnnfjjjnaa", sum := "838f92c8a269b758f9c12f038508850b1a8c71e1b58fc36c2366ad003bbbd4c5", func := "hauberk/hauberklaw02.ThumbReach", spec := "thumbReach", apart := false }
def ThumbReachSaid : Prop := thumbReachRow.holds Try.pinned (OpenSpec.ofChange thumbReachSpec)

/-- ITS FALSE NEIGHBOUR: 'it returns false'. Refute it at one input. -/
def thumbReachWrong : ChangeSpec := { name := "thumbReach", fn := fun _ => fun
  | [d1, d2, d3] => { results := [.lit (.bool false)], args := [d1, d2, d3] }
  | _ => none }
def ThumbReachWrongFalsely : Prop := thumbReachRow.holds Try.pinned (OpenSpec.ofChange thumbReachWrong)

/-- 'hauberklaw02.ThumbChecks': WHATEVER THE INPUT: true; the input reads as it did. -/
def thumbChecksSpec : ChangeSpec := { name := "thumbChecks", fn := fun _ => fun
  | [d] => { results := [.lit (.bool true)], args := [d] }
  | _ => none }
def thumbChecksRow : OpenClaim := { program := "ytbfhpnnnfjjjnaa", sum := "838f92c8a269b758f9c12f038508850b1a8c71e1b58fc36c2366ad003bbbd4c5", func := "hauberk/hauberklaw02.ThumbChecks", spec := "thumbChecks", apart := false }
def ThumbChecksSaid : Prop := thumbChecksRow.holds Try.pinned (OpenSpec.ofChange thumbChecksSpec)

/-- ITS FALSE NEIGHBOUR: 'it returns false'. Refute it at one input. -/
def thumbChecksWrong : ChangeSpec := { name := "thumbChecks", fn := fun _ => fun
  | [d] => { results := [.lit (.bool false)], args := [d] }
  | _ => none }
def ThumbChecksWrongFalsely : Prop := thumbChecksRow.holds Try.pinned (OpenSpec.ofChange thumbChecksWrong)

/-- 'hauberklaw02.ThumbOne': WHATEVER THE INPUT: true; the input reads as it did. -/
def thumbOneSpec : ChangeSpec := { name := "thumbOne", fn := fun _ => fun
  | [d1, d2] => { results := [.lit (.bool true)], args := [d1, d2] }
  | _ => none }
def thumbOneRow : OpenClaim := { program := "ytbfhpnnnfjjjnaa", sum := "838f92c8a269b758f9c12f038508850b1a8c71e1b58fc36c2366ad003bbbd4c5", func := "hauberk/hauberklaw02.ThumbOne", spec := "thumbOne", apart := false }
def ThumbOneSaid : Prop := thumbOneRow.holds Try.pinned (OpenSpec.ofChange thumbOneSpec)

/-- ITS FALSE NEIGHBOUR: 'it returns false'. Refute it at one input. -/
def thumbOneWrong : ChangeSpec := { name := "thumbOne", fn := fun _ => fun
  | [d1, d2] => { results := [.lit (.bool false)], args := [d1, d2] }
  | _ => none }
def ThumbOneWrongFalsely : Prop := thumbOneRow.holds Try.pinned (OpenSpec.ofChange thumbOneWrong)

/-- 'hauberklaw03.DecodeBytes': WHATEVER THE INPUT: true; the input reads as it did. -/
def decodeBytesSpec : ChangeSpec := { name := "decodeBytes", fn := fun _ => fun
  | [d] => { results := [.lit (.bool true)], args := [d] }
  | _ => none }
def decodeBytesRow : OpenClaim := { program := "ytbfhpnnnfjjjnaa", sum := "838f92c8a269b758f9c12f038508850b1a8c71e1b58fc36c2366ad003bbbd4c5", func := "hauberk/hauberklaw03.DecodeBytes", spec := "decodeBytes", unfollowed := true, recurses := true, apart := false }
def DecodeBytesSaid : Prop := decodeBytesRow.holds Try.pinned (OpenSpec.ofChange decodeBytesSpec)

/-- ITS FALSE NEIGHBOUR: 'it returns false'. Refute it at one input. -/
def decodeBytesWrong : ChangeSpec := { name := "decodeBytes", fn := fun _ => fun
  | [d] => { results := [.lit (.bool false)], args := [d] }
  | _ => none }
def DecodeBytesWrongFalsely : Prop := decodeBytesRow.holds Try.pinned (OpenSpec.ofChange decodeBytesWrong)

/-- 'hauberklaw03.DecodeAll': WHATEVER THE INPUT: true; the input reads as it did. -/
def decodeAllSpec : ChangeSpec := { name := "decodeAll", fn := fun _ => fun
  | [d] => { results := [.lit (.bool true)], args := [d] }
  | _ => none }
def decodeAllRow : OpenClaim := { program := "ytbfhpnnnfjjjnaa", sum := "838f92c8a269b758f9c12f038508850b1a8c71e1b58fc36c2366ad003bbbd4c5", func := "hauberk/hauberklaw03.DecodeAll", spec := "decodeAll", unfollowed := true, recurses := true, apart := false }
def DecodeAllSaid : Prop := decodeAllRow.holds Try.pinned (OpenSpec.ofChange decodeAllSpec)

/-- ITS FALSE NEIGHBOUR: 'it returns false'. Refute it at one input. -/
def decodeAllWrong : ChangeSpec := { name := "decodeAll", fn := fun _ => fun
  | [d] => { results := [.lit (.bool false)], args := [d] }
  | _ => none }
def DecodeAllWrongFalsely : Prop := decodeAllRow.holds Try.pinned (OpenSpec.ofChange decodeAllWrong)

/-- 'hauberklaw03.DecodeBack': WHATEVER THE INPUT: true; the input reads as it did. -/
def decodeBackSpec : ChangeSpec := { name := "decodeBack", fn := fun _ => fun
  | [d1, d2] => { results := [.lit (.bool true)], args := [d1, d2] }
  | _ => none }
def decodeBackRow : OpenClaim := { program := "ytbfhpnnnfjjjnaa", sum := "838f92c8a269b758f9c12f038508850b1a8c71e1b58fc36c2366ad003bbbd4c5", func := "hauberk/hauberklaw03.DecodeBack", spec := "decodeBack", unfollowed := true, recurses := true, apart := false }
def DecodeBackSaid : Prop := decodeBackRow.holds Try.pinned (OpenSpec.ofChange decodeBackSpec)

/-- ITS FALSE NEIGHBOUR: 'it returns false'. Refute it at one input. -/
def decodeBackWrong : ChangeSpec := { name := "decodeBack", fn := fun _ => fun
  | [d1, d2] => { results := [.lit (.bool false)], args := [d1, d2] }
  | _ => none }
def DecodeBackWrongFalsely : Prop := decodeBackRow.holds Try.pinned (OpenSpec.ofChange decodeBackWrong)

/-- 'hauberklaw03.DecodeOnly': WHATEVER THE INPUT: true; the input reads as it did. -/
def decodeOnlySpec : ChangeSpec := { name := "decodeOnly", fn := fun _ => fun
  | [d] => { results := [.lit (.bool true)], args := [d] }
  | _ => none }
def decodeOnlyRow : OpenClaim := { program := "ytbfhpnnnfjjjnaa", sum := "838f92c8a269b758f9c12f038508850b1a8c71e1b58fc36c2366ad003bbbd4c5", func := "hauberk/hauberklaw03.DecodeOnly", spec := "decodeOnly", unfollowed := true, recurses := true, apart := false }
def DecodeOnlySaid : Prop := decodeOnlyRow.holds Try.pinned (OpenSpec.ofChange decodeOnlySpec)

/-- ITS FALSE NEIGHBOUR: 'it returns false'. Refute it at one input. -/
def decodeOnlyWrong : ChangeSpec := { name := "decodeOnly", fn := fun _ => fun
  | [d] => { results := [.lit (.bool false)], args := [d] }
  | _ => none }
def DecodeOnlyWrongFalsely : Prop := decodeOnlyRow.holds Try.pinned (OpenSpec.ofChange decodeOnlyWrong)

/-- 'hauberklaw03.DecodeRow': WHATEVER THE INPUT: true; the input reads as it did. -/
def decodeRowSpec : ChangeSpec := { name := "decodeRow", fn := fun _ => fun
  | [d1, d2] => { results := [.lit (.bool true)], args := [d1, d2] }
  | _ => none }
def decodeRowRow : OpenClaim := { program := "ytbfhpnnnfjjjnaa", sum := "838f92c8a269b758f9c12f038508850b1a8c71e1b58fc36c2366ad003bbbd4c5", func := "hauberk/hauberklaw03.DecodeRow", spec := "decodeRow", unfollowed := true, recurses := true, apart := false }
def DecodeRowSaid : Prop := decodeRowRow.holds Try.pinned (OpenSpec.ofChange decodeRowSpec)

/-- ITS FALSE NEIGHBOUR: 'it returns false'. Refute it at one input. -/
def decodeRowWrong : ChangeSpec := { name := "decodeRow", fn := fun _ => fun
  | [d1, d2] => { results := [.lit (.bool false)], args := [d1, d2] }
  | _ => none }
def DecodeRowWrongFalsely : Prop := decodeRowRow.holds Try.pinned (OpenSpec.ofChange decodeRowWrong)

/-- 'hauberklaw04.AsmBytes': WHATEVER THE INPUT: true; the input reads as it did. -/
def asmBytesSpec : ChangeSpec := { name := "asmBytes", fn := fun _ => fun
  | [d1, d2] => { results := [.lit (.bool true)], args := [d1, d2] }
  | _ => none }
def asmBytesRow : OpenClaim := { program := "ytbfhpnnnfjjjnaa", sum := "838f92c8a269b758f9c12f038508850b1a8c71e1b58fc36c2366ad003bbbd4c5", func := "hauberk/hauberklaw04.AsmBytes", spec := "asmBytes", inPlace := ["internal/abi.NoEscape"], apart := false }
def AsmBytesSaid : Prop := asmBytesRow.holds Try.pinned (OpenSpec.ofChange asmBytesSpec)

/-- ITS FALSE NEIGHBOUR: 'it returns false'. Refute it at one input. -/
def asmBytesWrong : ChangeSpec := { name := "asmBytes", fn := fun _ => fun
  | [d1, d2] => { results := [.lit (.bool false)], args := [d1, d2] }
  | _ => none }
def AsmBytesWrongFalsely : Prop := asmBytesRow.holds Try.pinned (OpenSpec.ofChange asmBytesWrong)

/-- 'hauberklaw04.AsmGoes': WHATEVER THE INPUT: true; the input reads as it did. -/
def asmGoesSpec : ChangeSpec := { name := "asmGoes", fn := fun _ => fun
  | [d1, d2] => { results := [.lit (.bool true)], args := [d1, d2] }
  | _ => none }
def asmGoesRow : OpenClaim := { program := "ytbfhpnnnfjjjnaa", sum := "838f92c8a269b758f9c12f038508850b1a8c71e1b58fc36c2366ad003bbbd4c5", func := "hauberk/hauberklaw04.AsmGoes", spec := "asmGoes", inPlace := ["internal/abi.NoEscape"], unfollowed := true, recurses := true, apart := false }
def AsmGoesSaid : Prop := asmGoesRow.holds Try.pinned (OpenSpec.ofChange asmGoesSpec)

/-- ITS FALSE NEIGHBOUR: 'it returns false'. Refute it at one input. -/
def asmGoesWrong : ChangeSpec := { name := "asmGoes", fn := fun _ => fun
  | [d1, d2] => { results := [.lit (.bool false)], args := [d1, d2] }
  | _ => none }
def AsmGoesWrongFalsely : Prop := asmGoesRow.holds Try.pinned (OpenSpec.ofChange asmGoesWrong)

/-- 'hauberklaw04.AsmLeast': WHATEVER THE INPUT: true; the input reads as it did. -/
def asmLeastSpec : ChangeSpec := { name := "asmLeast", fn := fun _ => fun
  | [d1, d2, d3] => { results := [.lit (.bool true)], args := [d1, d2, d3] }
  | _ => none }
def asmLeastRow : OpenClaim := { program := "ytbfhpnnnfjjjnaa", sum := "838f92c8a269b758f9c12f038508850b1a8c71e1b58fc36c2366ad003bbbd4c5", func := "hauberk/hauberklaw04.AsmLeast", spec := "asmLeast", inPlace := ["internal/abi.NoEscape"], unfollowed := true, recurses := true, apart := false }
def AsmLeastSaid : Prop := asmLeastRow.holds Try.pinned (OpenSpec.ofChange asmLeastSpec)

/-- ITS FALSE NEIGHBOUR: 'it returns false'. Refute it at one input. -/
def asmLeastWrong : ChangeSpec := { name := "asmLeast", fn := fun _ => fun
  | [d1, d2, d3] => { results := [.lit (.bool false)], args := [d1, d2, d3] }
  | _ => none }
def AsmLeastWrongFalsely : Prop := asmLeastRow.holds Try.pinned (OpenSpec.ofChange asmLeastWrong)

/- THE SECOND FORM. 'bulk': how many values and letters a reading holds, each counted each time it is reached (what is shared counts as often as it is met; a slice's spare places count too). A statement '..UptoSaid' is the law's where the arguments, and the package variables that the reading takes, are together of bulk at most 1048576: NARROWER than '..Said'. Prove '..Said' where nothing that the law and all that it calls make is longer than what came in: it says more and counts as full. Else prove '..UptoSaid'. A law counts once. -/
mutual
def uptoBulk {H : Type} : DataW H → Nat
  | .lit (.string bytes) => bytes.length + 1
  | .lit _ => 1
  | .nil => 1
  | .ptr d => uptoBulk d + 1
  | .slice elems spare => uptoBulkAll elems + uptoBulkAll spare + 1
  | .agg parts => uptoBulkAll parts + 1
  | .iface _ d => uptoBulk d + 1
  | .map entries => uptoBulkEntries entries + 1
  | .held _ => 1
def uptoBulkAll {H : Type} : List (DataW H) → Nat
  | [] => 0
  | d :: r => uptoBulk d + uptoBulkAll r
def uptoBulkEntries {H : Type} : List (Lit × DataW H) → Nat
  | [] => 0
  | x :: r => uptoBulkEntry x + uptoBulkEntries r
def uptoBulkEntry {H : Type} : Lit × DataW H → Nat
  | (.string bytes, d) => bytes.length + uptoBulk d + 1
  | (_, d) => uptoBulk d + 1
 end
def uptoSmall : (H : Type) → List (DataW H) → Bool := fun _ ds => decide (uptoBulkAll ds ≤ 1048576)
def OpenSpec.upto (s : _root_.Go.ChangeSpec) : _root_.Go.OpenSpec := { _root_.Go.OpenSpec.ofChange s with cond := some uptoSmall }

/-- 'hauberklaw02.ThumbEncodes', WHERE WHAT IT READS IS OF BULK AT MOST 1048576: true; the input reads as it did. -/
def thumbEncodesUptoRow : OpenClaim := { program := "ytbfhpnnnfjjjnaa", sum := "838f92c8a269b758f9c12f038508850b1a8c71e1b58fc36c2366ad003bbbd4c5", func := "hauberk/hauberklaw02.ThumbEncodes", spec := "thumbEncodes", apart := false, narrowed := true }
def ThumbEncodesUptoSaid : Prop := thumbEncodesUptoRow.holds Try.pinned (OpenSpec.upto thumbEncodesSpec)

/-- 'hauberklaw02.ThumbReach', WHERE WHAT IT READS IS OF BULK AT MOST 1048576: true; the input reads as it did. -/
def thumbReachUptoRow : OpenClaim := { program := "ytbfhpnnnfjjjnaa", sum := "838f92c8a269b758f9c12f038508850b1a8c71e1b58fc36c2366ad003bbbd4c5", func := "hauberk/hauberklaw02.ThumbReach", spec := "thumbReach", apart := false, narrowed := true }
def ThumbReachUptoSaid : Prop := thumbReachUptoRow.holds Try.pinned (OpenSpec.upto thumbReachSpec)

/-- 'hauberklaw02.ThumbChecks', WHERE WHAT IT READS IS OF BULK AT MOST 1048576: true; the input reads as it did. -/
def thumbChecksUptoRow : OpenClaim := { program := "ytbfhpnnnfjjjnaa", sum := "838f92c8a269b758f9c12f038508850b1a8c71e1b58fc36c2366ad003bbbd4c5", func := "hauberk/hauberklaw02.ThumbChecks", spec := "thumbChecks", apart := false, narrowed := true }
def ThumbChecksUptoSaid : Prop := thumbChecksUptoRow.holds Try.pinned (OpenSpec.upto thumbChecksSpec)

/-- 'hauberklaw02.ThumbOne', WHERE WHAT IT READS IS OF BULK AT MOST 1048576: true; the input reads as it did. -/
def thumbOneUptoRow : OpenClaim := { program := "ytbfhpnnnfjjjnaa", sum := "838f92c8a269b758f9c12f038508850b1a8c71e1b58fc36c2366ad003bbbd4c5", func := "hauberk/hauberklaw02.ThumbOne", spec := "thumbOne", apart := false, narrowed := true }
def ThumbOneUptoSaid : Prop := thumbOneUptoRow.holds Try.pinned (OpenSpec.upto thumbOneSpec)

/-- 'hauberklaw03.DecodeBytes', WHERE WHAT IT READS IS OF BULK AT MOST 1048576: true; the input reads as it did. -/
def decodeBytesUptoRow : OpenClaim := { program := "ytbfhpnnnfjjjnaa", sum := "838f92c8a269b758f9c12f038508850b1a8c71e1b58fc36c2366ad003bbbd4c5", func := "hauberk/hauberklaw03.DecodeBytes", spec := "decodeBytes", unfollowed := true, recurses := true, apart := false, narrowed := true }
def DecodeBytesUptoSaid : Prop := decodeBytesUptoRow.holds Try.pinned (OpenSpec.upto decodeBytesSpec)

/-- 'hauberklaw03.DecodeAll', WHERE WHAT IT READS IS OF BULK AT MOST 1048576: true; the input reads as it did. -/
def decodeAllUptoRow : OpenClaim := { program := "ytbfhpnnnfjjjnaa", sum := "838f92c8a269b758f9c12f038508850b1a8c71e1b58fc36c2366ad003bbbd4c5", func := "hauberk/hauberklaw03.DecodeAll", spec := "decodeAll", unfollowed := true, recurses := true, apart := false, narrowed := true }
def DecodeAllUptoSaid : Prop := decodeAllUptoRow.holds Try.pinned (OpenSpec.upto decodeAllSpec)

/-- 'hauberklaw03.DecodeBack', WHERE WHAT IT READS IS OF BULK AT MOST 1048576: true; the input reads as it did. -/
def decodeBackUptoRow : OpenClaim := { program := "ytbfhpnnnfjjjnaa", sum := "838f92c8a269b758f9c12f038508850b1a8c71e1b58fc36c2366ad003bbbd4c5", func := "hauberk/hauberklaw03.DecodeBack", spec := "decodeBack", unfollowed := true, recurses := true, apart := false, narrowed := true }
def DecodeBackUptoSaid : Prop := decodeBackUptoRow.holds Try.pinned (OpenSpec.upto decodeBackSpec)

/-- 'hauberklaw03.DecodeOnly', WHERE WHAT IT READS IS OF BULK AT MOST 1048576: true; the input reads as it did. -/
def decodeOnlyUptoRow : OpenClaim := { program := "ytbfhpnnnfjjjnaa", sum := "838f92c8a269b758f9c12f038508850b1a8c71e1b58fc36c2366ad003bbbd4c5", func := "hauberk/hauberklaw03.DecodeOnly", spec := "decodeOnly", unfollowed := true, recurses := true, apart := false, narrowed := true }
def DecodeOnlyUptoSaid : Prop := decodeOnlyUptoRow.holds Try.pinned (OpenSpec.upto decodeOnlySpec)

/-- 'hauberklaw03.DecodeRow', WHERE WHAT IT READS IS OF BULK AT MOST 1048576: true; the input reads as it did. -/
def decodeRowUptoRow : OpenClaim := { program := "ytbfhpnnnfjjjnaa", sum := "838f92c8a269b758f9c12f038508850b1a8c71e1b58fc36c2366ad003bbbd4c5", func := "hauberk/hauberklaw03.DecodeRow", spec := "decodeRow", unfollowed := true, recurses := true, apart := false, narrowed := true }
def DecodeRowUptoSaid : Prop := decodeRowUptoRow.holds Try.pinned (OpenSpec.upto decodeRowSpec)

/-- 'hauberklaw04.AsmBytes', WHERE WHAT IT READS IS OF BULK AT MOST 1048576: true; the input reads as it did. -/
def asmBytesUptoRow : OpenClaim := { program := "ytbfhpnnnfjjjnaa", sum := "838f92c8a269b758f9c12f038508850b1a8c71e1b58fc36c2366ad003bbbd4c5", func := "hauberk/hauberklaw04.AsmBytes", spec := "asmBytes", inPlace := ["internal/abi.NoEscape"], apart := false, narrowed := true }
def AsmBytesUptoSaid : Prop := asmBytesUptoRow.holds Try.pinned (OpenSpec.upto asmBytesSpec)

/-- 'hauberklaw04.AsmGoes', WHERE WHAT IT READS IS OF BULK AT MOST 1048576: true; the input reads as it did. -/
def asmGoesUptoRow : OpenClaim := { program := "ytbfhpnnnfjjjnaa", sum := "838f92c8a269b758f9c12f038508850b1a8c71e1b58fc36c2366ad003bbbd4c5", func := "hauberk/hauberklaw04.AsmGoes", spec := "asmGoes", inPlace := ["internal/abi.NoEscape"], unfollowed := true, recurses := true, apart := false, narrowed := true }
def AsmGoesUptoSaid : Prop := asmGoesUptoRow.holds Try.pinned (OpenSpec.upto asmGoesSpec)

/-- 'hauberklaw04.AsmLeast', WHERE WHAT IT READS IS OF BULK AT MOST 1048576: true; the input reads as it did. -/
def asmLeastUptoRow : OpenClaim := { program := "ytbfhpnnnfjjjnaa", sum := "838f92c8a269b758f9c12f038508850b1a8c71e1b58fc36c2366ad003bbbd4c5", func := "hauberk/hauberklaw04.AsmLeast", spec := "asmLeast", inPlace := ["internal/abi.NoEscape"], unfollowed := true, recurses := true, apart := false, narrowed := true }
def AsmLeastUptoSaid : Prop := asmLeastUptoRow.holds Try.pinned (OpenSpec.upto asmLeastSpec)

end Rows
end Go.Proofs.Ytbfhpnnnfjjjnaa
