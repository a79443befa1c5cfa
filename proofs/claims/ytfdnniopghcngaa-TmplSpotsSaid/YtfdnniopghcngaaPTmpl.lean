/- Layer 27: operations as instructions. -/
import Derived.Test.YtfdnniopghcngaaPBase
namespace Go.Av
open Go
/-- tmpl.Spot -/
abbrev A_tmpl_Spot : List Ty := [(.sl tArray), tFrame, tOp]
abbrev S_tmpl_Spot : Sh := Sh.ty tSpot
def T_tmpl_Spot (x : dens A_tmpl_Spot) : PO (Sh.den S_tmpl_Spot) :=
  (.ite (!(x.2.2.1 == 18 || x.2.2.1 == 19))
   (.ret ((0, 0, false, ())))
   (.ite (decide (x.2.2.2.2.2.2.2.1 < 0))
    (.ret ((0, 0, false, ())))
    (.ite (decide (x.2.2.2.2.2.2.2.1 ≥ lenI x.1))
     (.ret ((0, 0, false, ())))
     (.ite (decide (x.2.2.2.2.2.2.2.1 ≥ lenI x.2.1.2.1))
      (.ret ((0, 0, false, ())))
      (.ite (inRange x.2.2.2.2.2.2.2.1 (List.length x.1))
       (.ite (inRange x.2.2.2.2.2.2.2.1 (List.length x.2.1.2.1))
        (.ret (((List.getD x.1 (Int.toNat x.2.2.2.2.2.2.2.1) (Ty.dflt tArray)).1, List.getD x.2.1.2.1 (Int.toNat x.2.2.2.2.2.2.2.1) (Ty.dflt (Ty.int IntKind.i64)), (List.getD x.1 (Int.toNat x.2.2.2.2.2.2.2.1) (Ty.dflt tArray)).2.2.1 == 1, ())))
        .fail)
       .fail)))))
def G_tmpl_Spot (x : dens A_tmpl_Spot) : Bool := (T_tmpl_Spot x).val.isSome
def V_tmpl_Spot (x : dens A_tmpl_Spot) : Sh.den S_tmpl_Spot := (T_tmpl_Spot x).getO default
theorem ok_tmpl_Spot (x : dens A_tmpl_Spot) (h : G_tmpl_Spot x = true) : (T_tmpl_Spot x).val = some (V_tmpl_Spot x) := PO.getO_ok default h
/-- hauberkref27.Spot -/
abbrev A_hauberkref27_Spot : List Ty := [(.sl tArray), tFrame, tOp]
abbrev S_hauberkref27_Spot : Sh := Sh.ty tSpot
def T_hauberkref27_Spot (x : dens A_hauberkref27_Spot) : PO (Sh.den S_hauberkref27_Spot) :=
  (.ite (bif x.2.2.1 != 18 then x.2.2.1 != 19 || (decide (x.2.2.2.2.2.2.2.1 < 0) || decide (x.2.2.2.2.2.2.2.1 ≥ imin (lenI x.1) (lenI x.2.1.2.1))) else decide (x.2.2.2.2.2.2.2.1 < 0) || decide (x.2.2.2.2.2.2.2.1 ≥ imin (lenI x.1) (lenI x.2.1.2.1)))
   (.ret ((0, 0, false, ())))
   (.ite (inRange x.2.2.2.2.2.2.2.1 (List.length x.1))
    (.ite (inRange x.2.2.2.2.2.2.2.1 (List.length x.2.1.2.1))
     (.ite (inRange x.2.2.2.2.2.2.2.1 (List.length x.1))
      (.ret (((List.getD x.1 (Int.toNat x.2.2.2.2.2.2.2.1) (Ty.dflt tArray)).1, List.getD x.2.1.2.1 (Int.toNat x.2.2.2.2.2.2.2.1) (Ty.dflt (Ty.int IntKind.i64)), (List.getD x.1 (Int.toNat x.2.2.2.2.2.2.2.1) (Ty.dflt tArray)).2.2.1 == 1, ())))
      .fail)
     .fail)
    .fail))
def G_hauberkref27_Spot (x : dens A_hauberkref27_Spot) : Bool := (T_hauberkref27_Spot x).val.isSome
def V_hauberkref27_Spot (x : dens A_hauberkref27_Spot) : Sh.den S_hauberkref27_Spot := (T_hauberkref27_Spot x).getO default
theorem ok_hauberkref27_Spot (x : dens A_hauberkref27_Spot) (h : G_hauberkref27_Spot x = true) : (T_hauberkref27_Spot x).val = some (V_hauberkref27_Spot x) := PO.getO_ok default h
/-- hauberklaw27.lives: an example, computed -/
abbrev A_hauberklaw27_lives : List Ty := []
abbrev S_hauberklaw27_lives : Sh := .ty .bool
def T_hauberklaw27_lives (_ : dens A_hauberklaw27_lives) : PO Bool := .ret true
def G_hauberklaw27_lives (_ : dens A_hauberklaw27_lives) : Bool := true
def V_hauberklaw27_lives (_ : dens A_hauberklaw27_lives) : Bool := true
theorem ok_hauberklaw27_lives (x : dens A_hauberklaw27_lives) (_ : G_hauberklaw27_lives x = true) : (T_hauberklaw27_lives x).val = some (V_hauberklaw27_lives x) := rfl
/-- hauberklaw27.TmplSpots -/
abbrev A_hauberklaw27_TmplSpots : List Ty := [(.sl tArray), tFrame, tOp]
abbrev S_hauberklaw27_TmplSpots : Sh := Sh.ty Ty.bool
def T_hauberklaw27_TmplSpots (x : dens A_hauberklaw27_TmplSpots) : PO (Sh.den S_hauberklaw27_TmplSpots) :=
  (.ite (G_tmpl_Spot (x.1, x.2.1, x.2.2) && (G_hauberkref27_Spot (x.1, x.2.1, x.2.2) && (Ty.eqb tSpot (V_tmpl_Spot (x.1, x.2.1, x.2.2)) (V_hauberkref27_Spot (x.1, x.2.1, x.2.2)) || true)))
   (.ret (Ty.eqb tSpot (V_tmpl_Spot (x.1, x.2.1, x.2.2)) (V_hauberkref27_Spot (x.1, x.2.1, x.2.2)) && true))
   .fail)
end Go.Av
