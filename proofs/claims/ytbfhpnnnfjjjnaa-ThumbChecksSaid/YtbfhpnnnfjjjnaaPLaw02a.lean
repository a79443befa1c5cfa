/- Layer 2's statements: there is such an instruction, its bytes, a branch's reach. -/
import Derived.Test.YtbfhpnnnfjjjnaaPEncB
namespace Go.Av
open Go
/-- hauberklaw02.ThumbChecks -/
abbrev A_hauberklaw02_ThumbChecks : List Ty := [tIns]
abbrev S_hauberklaw02_ThumbChecks : Sh := Sh.ty Ty.bool
def T_hauberklaw02_ThumbChecks (x : dens A_hauberklaw02_ThumbChecks) : PO (Sh.den S_hauberklaw02_ThumbChecks) :=
  (.ite (G_hauberkref02_Check x && bif V_thumb_Check x == V_hauberkref02_Check x then bif V_thumb_Size x == V_hauberkref02_Size x then bif (V_thumb_Reach (x.1, x.2.2.2.2.2.2.2.1)).1 == (V_hauberkref02_Reach (x.1, x.2.2.2.2.2.2.2.1)).1 then (V_thumb_Reach (x.1, x.2.2.2.2.2.2.2.1)).2.1 == (V_hauberkref02_Reach (x.1, x.2.2.2.2.2.2.2.1)).2.1 || true else true else true else true)
   (.ret (V_thumb_Check x == V_hauberkref02_Check x && (V_thumb_Size x == V_hauberkref02_Size x && ((V_thumb_Reach (x.1, x.2.2.2.2.2.2.2.1)).1 == (V_hauberkref02_Reach (x.1, x.2.2.2.2.2.2.2.1)).1 && ((V_thumb_Reach (x.1, x.2.2.2.2.2.2.2.1)).2.1 == (V_hauberkref02_Reach (x.1, x.2.2.2.2.2.2.2.1)).2.1 && true)))))
   .fail)
def G_hauberklaw02_ThumbChecks (x : dens A_hauberklaw02_ThumbChecks) : Bool := (T_hauberklaw02_ThumbChecks x).val.isSome
def V_hauberklaw02_ThumbChecks (x : dens A_hauberklaw02_ThumbChecks) : Sh.den S_hauberklaw02_ThumbChecks := (T_hauberklaw02_ThumbChecks x).getO default
theorem ok_hauberklaw02_ThumbChecks (x : dens A_hauberklaw02_ThumbChecks) (h : G_hauberklaw02_ThumbChecks x = true) : (T_hauberklaw02_ThumbChecks x).val = some (V_hauberklaw02_ThumbChecks x) := PO.getO_ok default h
end Go.Av
