/- Layer 31: what lets an output go. -/
import Derived.Test.YtfdnniopghcngaaPItems
namespace Go.Av
open Go
def unlikeL (frm h : Int) : List tItem.den := its [ldrI 2 frm, cmpI 0 2] ++ [itC 1 h]
def gateL (ref : Bool) (b1 b2 : Bool) (image out h first : Int) : List tItem.den :=
  headL ref out first ++ its [movw 3 (lo ref image), addI 4 1 3] ++ its (addrI ref 5 537133056 4) ++ its (addrI ref 6 537001984 1) ++ its [ldrI 0 5, strI 0 6] ++ tailL first ++
  (match b1 with
    | true => headL ref out (w64 (first + 2)) ++ its [movw 3 (lo ref image), addI 4 1 3] ++ its (addrI ref 5 537133056 4) ++ its (addrI ref 7 537395200 4) ++ its (addrI ref 6 537001984 1) ++ its [ldrI 0 6] ++ unlikeL 5 h ++ unlikeL 7 h ++ tailL (w64 (first + 2))
    | false => []) ++
  its (wordI ref 5 537919488) ++ its (wordI ref 0 3235799053) ++ its [strI 0 5, bkptI] ++ (match b2 with
    | true => its [bkptI]
    | false => [])
theorem gateL_ref (b1 b2 : Bool) (image out h first : Int) : gateL true b1 b2 image out h first = gateL false b1 b2 image out h first := by
  simp only [gateL, headL_ref, addrI_ref, wordI_ref, lo_ref]

abbrev A_gate_Gate : List Ty := [tI, tI, .bool, tI, tI]
abbrev S_gate_Gate : Sh := .osl 32 tItem
def T_gate_Gate (x : dens A_gate_Gate) : PO (List tItem.den) := two x.2.2.1 fun b1 b2 => .ret (gateL false b1 b2 x.1 x.2.1 x.2.2.2.1 x.2.2.2.2)
def G_gate_Gate (_ : dens A_gate_Gate) : Bool := true
def V_gate_Gate (x : dens A_gate_Gate) : List tItem.den := gateL false x.2.2.1 x.2.2.1 x.1 x.2.1 x.2.2.2.1 x.2.2.2.2
theorem ok_gate_Gate (x : dens A_gate_Gate) (_ : G_gate_Gate x = true) : (T_gate_Gate x).val = some (V_gate_Gate x) := two_val _ _
abbrev A_hauberkref31_Gate : List Ty := [tI, tI, .bool, tI, tI]
abbrev S_hauberkref31_Gate : Sh := .osl 32 tItem
def T_hauberkref31_Gate (x : dens A_hauberkref31_Gate) : PO (List tItem.den) := two x.2.2.1 fun b1 b2 => .ret (gateL true b1 b2 x.1 x.2.1 x.2.2.2.1 x.2.2.2.2)
def G_hauberkref31_Gate (_ : dens A_hauberkref31_Gate) : Bool := true
def V_hauberkref31_Gate (x : dens A_hauberkref31_Gate) : List tItem.den := gateL true x.2.2.1 x.2.2.1 x.1 x.2.1 x.2.2.2.1 x.2.2.2.2
theorem ok_hauberkref31_Gate (x : dens A_hauberkref31_Gate) (_ : G_hauberkref31_Gate x = true) : (T_hauberkref31_Gate x).val = some (V_hauberkref31_Gate x) := two_val _ _
/-- hauberklaw31.lives: an example, computed -/
abbrev A_hauberklaw31_lives : List Ty := []
abbrev S_hauberklaw31_lives : Sh := .ty .bool
def T_hauberklaw31_lives (_ : dens A_hauberklaw31_lives) : PO Bool := .ret true
def G_hauberklaw31_lives (_ : dens A_hauberklaw31_lives) : Bool := true
def V_hauberklaw31_lives (_ : dens A_hauberklaw31_lives) : Bool := true
theorem ok_hauberklaw31_lives (x : dens A_hauberklaw31_lives) (_ : G_hauberklaw31_lives x = true) : (T_hauberklaw31_lives x).val = some (V_hauberklaw31_lives x) := rfl
/-- hauberklaw31.GateTells -/
abbrev A_hauberklaw31_GateTells : List Ty := [(.int .i64), (.int .i64), .bool, (.int .i64), (.int .i64)]
abbrev S_hauberklaw31_GateTells : Sh := Sh.ty Ty.bool
def T_hauberklaw31_GateTells (x : dens A_hauberklaw31_GateTells) : PO (Sh.den S_hauberklaw31_GateTells) :=
  (.ite (G_hauberkref28_Same (V_gate_Gate (x.1, x.2.1, x.2.2.1, x.2.2.2.1, x.2.2.2.2), V_hauberkref31_Gate (x.1, x.2.1, x.2.2.1, x.2.2.2.1, x.2.2.2.2)) && (V_hauberkref28_Same (V_gate_Gate (x.1, x.2.1, x.2.2.1, x.2.2.2.1, x.2.2.2.2), V_hauberkref31_Gate (x.1, x.2.1, x.2.2.1, x.2.2.2.1, x.2.2.2.2)) || true))
   (.ret (V_hauberkref28_Same (V_gate_Gate (x.1, x.2.1, x.2.2.1, x.2.2.2.1, x.2.2.2.2), V_hauberkref31_Gate (x.1, x.2.1, x.2.2.1, x.2.2.2.1, x.2.2.2.2)) && true))
   .fail)
end Go.Av
