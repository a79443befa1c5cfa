/- Layer 4: how far a branch goes, of a snapshot of the assembler: its items and its labels. -/
import Derived.Test.YtehcaooipfgklaaPAsm
namespace Go.Av
open Go

/-- Items, labels' entries, places, and an item's number. -/
abbrev OffT : Type := List tItem.den × List (Int × Int) × List Int × Int
def G_asm_assembler_offset (x : OffT) : Bool := inRange x.2.2.2 x.1.length && (inRange (mval x.2.1 (x.1.getD x.2.2.2.toNat (Ty.dflt tItem)).2.1) x.2.2.1.length && inRange x.2.2.2 x.2.2.1.length)
def V_asm_assembler_offset (x : OffT) : Int := w64 (w64 (x.2.2.1.getD (mval x.2.1 (x.1.getD x.2.2.2.toNat (Ty.dflt tItem)).2.1).toNat 0 - x.2.2.1.getD x.2.2.2.toNat 0) - 4)
/-- offset, as a function of a snapshot. -/
def snap_asm_assembler_offset : Plain := fun l => match l with
  | [⟨.tup (.tup (.ty .unit)), _⟩, ⟨.ty (.sl e), it⟩, ⟨.mapc, en⟩, ⟨.ty (.sl (.int .i64)), at_⟩, ⟨.ty (.int .i64), i⟩] => (match Ty.dec e tItem with
    | isTrue h => some (G_asm_assembler_offset ((h ▸ it : List tItem.den), en, at_, i), ⟨.ty (.int .i64), V_asm_assembler_offset ((h ▸ it : List tItem.den), en, at_, i)⟩)
    | isFalse _ => none)
  | _ => none
end Go.Av
