/- Layer 2's statements: unlike instructions. -/
import Derived.Test.YtbfhpnnnfjjjnaaPEncEq
namespace Go.Av
open Go
/-- hauberklaw02.ThumbOne -/
abbrev A_hauberklaw02_ThumbOne : List Ty := [tIns, tIns]
abbrev S_hauberklaw02_ThumbOne : Sh := Sh.ty Ty.bool
def T_hauberklaw02_ThumbOne (x : dens A_hauberklaw02_ThumbOne) : PO (Sh.den S_hauberklaw02_ThumbOne) :=
  (.ite (G_thumb_Encode x.1)
   (.ite (G_thumb_Encode x.2)
    (.ite ((V_thumb_Encode x.1).2.1 != 0 || (V_thumb_Encode x.2).2.1 != 0)
     (.ite (bif (V_thumb_Encode x.1).2.1 == 0 then (V_thumb_Encode x.2).2.1 == 0 || ((V_thumb_Encode x.2).1 == [] || true) else bif (V_thumb_Encode x.1).1 == [] then (V_thumb_Encode x.2).2.1 == 0 || ((V_thumb_Encode x.2).1 == [] || true) else true)
      (.ret (bif (V_thumb_Encode x.1).2.1 == 0 then (V_thumb_Encode x.2).2.1 == 0 || (V_thumb_Encode x.2).1 == [] && true else (V_thumb_Encode x.1).1 == [] && ((V_thumb_Encode x.2).2.1 == 0 || (V_thumb_Encode x.2).1 == [] && true)))
      .fail)
     (.ite (decide (0 ≤ imin (lenI (V_thumb_Encode x.1).1) (lenI (V_thumb_Encode x.2).1)) && decide (imin (lenI (V_thumb_Encode x.1).1) (lenI (V_thumb_Encode x.2).1) ≤ lenI (V_thumb_Encode x.1).1) && true && decide (0 ≤ imin (lenI (V_thumb_Encode x.1).1) (lenI (V_thumb_Encode x.2).1)) && (decide (0 ≤ imin (lenI (V_thumb_Encode x.1).1) (lenI (V_thumb_Encode x.2).1)) && decide (imin (lenI (V_thumb_Encode x.1).1) (lenI (V_thumb_Encode x.2).1) ≤ lenI (V_thumb_Encode x.2).1) && true && decide (0 ≤ imin (lenI (V_thumb_Encode x.1).1) (lenI (V_thumb_Encode x.2).1)) && bif (List.drop (Int.toNat 0) (List.take (Int.toNat (imin (lenI (V_thumb_Encode x.1).1) (lenI (V_thumb_Encode x.2).1))) (V_thumb_Encode x.1).1) == List.drop (Int.toNat 0) (List.take (Int.toNat (imin (lenI (V_thumb_Encode x.1).1) (lenI (V_thumb_Encode x.2).1))) (V_thumb_Encode x.2).1)) == Ty.eqb tIns x.1 x.2 then lenI (V_thumb_Encode x.1).1 == V_thumb_Size x.1 || true else true))
      (.ret ((List.drop (Int.toNat 0) (List.take (Int.toNat (imin (lenI (V_thumb_Encode x.1).1) (lenI (V_thumb_Encode x.2).1))) (V_thumb_Encode x.1).1) == List.drop (Int.toNat 0) (List.take (Int.toNat (imin (lenI (V_thumb_Encode x.1).1) (lenI (V_thumb_Encode x.2).1))) (V_thumb_Encode x.2).1)) == Ty.eqb tIns x.1 x.2 && (lenI (V_thumb_Encode x.1).1 == V_thumb_Size x.1 && true)))
      .fail))
    .fail)
   .fail)
def G_hauberklaw02_ThumbOne (x : dens A_hauberklaw02_ThumbOne) : Bool := (T_hauberklaw02_ThumbOne x).val.isSome
def V_hauberklaw02_ThumbOne (x : dens A_hauberklaw02_ThumbOne) : Sh.den S_hauberklaw02_ThumbOne := (T_hauberklaw02_ThumbOne x).getO default
theorem ok_hauberklaw02_ThumbOne (x : dens A_hauberklaw02_ThumbOne) (h : G_hauberklaw02_ThumbOne x = true) : (T_hauberklaw02_ThumbOne x).val = some (V_hauberklaw02_ThumbOne x) := PO.getO_ok default h
end Go.Av
