/- Layer 27's statements: TmplOps. -/
import Derived.Test.YtapfijocjgoilaaPTOpsLaw4
namespace Go.Av
open Go
/-- hauberklaw27.TmplOps -/
abbrev A_hauberklaw27_TmplOps : List Ty := [tOp, tSpot, (.int .i64)]
abbrev S_hauberklaw27_TmplOps : Sh := Sh.ty Ty.bool
def T_hauberklaw27_TmplOps (x : dens A_hauberklaw27_TmplOps) : PO (Sh.den S_hauberklaw27_TmplOps) :=
  (.ite (G_tmpl_Op (x.1, x.2.1, x.2.2))
   (.ite (G_hauberkref27_Op (x.1, x.2.1, x.2.2))
    (.ite (G_hauberkref27_Same ((V_tmpl_Op (x.1, x.2.1, x.2.2)).1, (V_hauberkref27_Op (x.1, x.2.1, x.2.2)).1) && bif V_hauberkref27_Same ((V_tmpl_Op (x.1, x.2.1, x.2.2)).1, (V_hauberkref27_Op (x.1, x.2.1, x.2.2)).1) then (V_tmpl_Op (x.1, x.2.1, x.2.2)).2.1 == (V_hauberkref27_Op (x.1, x.2.1, x.2.2)).2.1 || true else true)
     (.ret (V_hauberkref27_Same ((V_tmpl_Op (x.1, x.2.1, x.2.2)).1, (V_hauberkref27_Op (x.1, x.2.1, x.2.2)).1) && ((V_tmpl_Op (x.1, x.2.1, x.2.2)).2.1 == (V_hauberkref27_Op (x.1, x.2.1, x.2.2)).2.1 && true)))
     .fail)
    .fail)
   .fail)
end Go.Av
