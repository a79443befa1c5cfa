/- Layer 29's statements: RailOps. -/
import Derived.Test.YtapfijocjgoilaaPTLawaLaw
namespace Go.Av
open Go
/-- hauberklaw29.RailOps -/
abbrev A_hauberklaw29_RailOps : List Ty := [tOp, tSpot]
abbrev S_hauberklaw29_RailOps : Sh := Sh.ty Ty.bool
def T_hauberklaw29_RailOps (x : dens A_hauberklaw29_RailOps) : PO (Sh.den S_hauberklaw29_RailOps) :=
  (.ite (G_rail_Op (x.1, x.2))
   (.ite (G_hauberkref29_Op (x.1, x.2))
    (.ite (G_hauberkref28_Same ((V_rail_Op (x.1, x.2)).1, (V_hauberkref29_Op (x.1, x.2)).1) && bif V_hauberkref28_Same ((V_rail_Op (x.1, x.2)).1, (V_hauberkref29_Op (x.1, x.2)).1) then (V_rail_Op (x.1, x.2)).2.1 == (V_hauberkref29_Op (x.1, x.2)).2.1 || true else true)
     (.ret (V_hauberkref28_Same ((V_rail_Op (x.1, x.2)).1, (V_hauberkref29_Op (x.1, x.2)).1) && ((V_rail_Op (x.1, x.2)).2.1 == (V_hauberkref29_Op (x.1, x.2)).2.1 && true)))
     .fail)
    .fail)
   .fail)
end Go.Av
