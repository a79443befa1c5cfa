/- Layer 4's statements: AsmBytes. -/
import Derived.Test.YtehcaooipfgklaaPAsmB
namespace Go.Av
open Go
/-- hauberklaw04.lives: an example, computed -/
abbrev A_hauberklaw04_lives : List Ty := []
abbrev S_hauberklaw04_lives : Sh := .ty .bool
def T_hauberklaw04_lives (_ : dens A_hauberklaw04_lives) : PO Bool := .ret true
def G_hauberklaw04_lives (_ : dens A_hauberklaw04_lives) : Bool := true
def V_hauberklaw04_lives (_ : dens A_hauberklaw04_lives) : Bool := true
theorem ok_hauberklaw04_lives (x : dens A_hauberklaw04_lives) (_ : G_hauberklaw04_lives x = true) : (T_hauberklaw04_lives x).val = some (V_hauberklaw04_lives x) := rfl
/-- hauberklaw04.AsmBytes -/
abbrev A_hauberklaw04_AsmBytes : List Ty := [(.sl tRun), (.int .i64)]
abbrev S_hauberklaw04_AsmBytes : Sh := Sh.ty Ty.bool
def T_hauberklaw04_AsmBytes (x : dens A_hauberklaw04_AsmBytes) : PO (Sh.den S_hauberklaw04_AsmBytes) :=
  (.ite (G_hauberklaw04_Items x.1)
   (.ite (G_asm_Assemble (V_hauberklaw04_Items x.1, x.2))
    (.ite (G_hauberkref04_Assemble (V_hauberklaw04_Items x.1, x.2))
     (.ite (bif (V_asm_Assemble (V_hauberklaw04_Items x.1, x.2)).1 == (V_hauberkref04_Assemble (V_hauberklaw04_Items x.1, x.2)).1 then G_hauberk_hauberklaw04_Places_Same ((V_asm_Assemble (V_hauberklaw04_Items x.1, x.2)).2.1, (V_hauberkref04_Assemble (V_hauberklaw04_Items x.1, x.2)).2.1) && bif V_hauberk_hauberklaw04_Places_Same ((V_asm_Assemble (V_hauberklaw04_Items x.1, x.2)).2.1, (V_hauberkref04_Assemble (V_hauberklaw04_Items x.1, x.2)).2.1) then (V_asm_Assemble (V_hauberklaw04_Items x.1, x.2)).2.2.1 == (V_hauberkref04_Assemble (V_hauberklaw04_Items x.1, x.2)).2.2.1 || true else true else true)
      (.ret ((V_asm_Assemble (V_hauberklaw04_Items x.1, x.2)).1 == (V_hauberkref04_Assemble (V_hauberklaw04_Items x.1, x.2)).1 && (V_hauberk_hauberklaw04_Places_Same ((V_asm_Assemble (V_hauberklaw04_Items x.1, x.2)).2.1, (V_hauberkref04_Assemble (V_hauberklaw04_Items x.1, x.2)).2.1) && ((V_asm_Assemble (V_hauberklaw04_Items x.1, x.2)).2.2.1 == (V_hauberkref04_Assemble (V_hauberklaw04_Items x.1, x.2)).2.2.1 && true))))
      .fail)
     .fail)
    .fail)
   .fail)
end Go.Av
