/- Layer 3's statements: DecodeBack. -/
import Derived.Test.YtbfhpnnnfjjjnaaPDecLaw2
namespace Go.Av
open Go
/-- hauberklaw03.DecodeBack -/
abbrev A_hauberklaw03_DecodeBack : List Ty := [tIns, .str]
abbrev S_hauberklaw03_DecodeBack : Sh := Sh.ty Ty.bool
def T_hauberklaw03_DecodeBack (x : dens A_hauberklaw03_DecodeBack) : PO (Sh.den S_hauberklaw03_DecodeBack) :=
  (.ite (G_thumb_Encode x.1)
   (.ite ((V_thumb_Encode x.1).2.1 != 0)
    (.ret (true))
    (.ite (Nat.ble (List.length (V_thumb_Encode x.1).1 + List.length x.2) 9223372036854775807)
     (.ite (G_decode_Decode ((V_thumb_Encode x.1).1 ++ x.2))
      (.ite (bif Ty.eqb tIns (V_decode_Decode ((V_thumb_Encode x.1).1 ++ x.2)).1 x.1 then bif (V_decode_Decode ((V_thumb_Encode x.1).1 ++ x.2)).2.1 == lenI (V_thumb_Encode x.1).1 then bif (V_decode_Decode ((V_thumb_Encode x.1).1 ++ x.2)).2.2.1 == 0 then V_decode_Size (V_thumb_Encode x.1).1 == lenI (V_thumb_Encode x.1).1 || true else true else true else true)
       (.ret (Ty.eqb tIns (V_decode_Decode ((V_thumb_Encode x.1).1 ++ x.2)).1 x.1 && ((V_decode_Decode ((V_thumb_Encode x.1).1 ++ x.2)).2.1 == lenI (V_thumb_Encode x.1).1 && ((V_decode_Decode ((V_thumb_Encode x.1).1 ++ x.2)).2.2.1 == 0 && (V_decode_Size (V_thumb_Encode x.1).1 == lenI (V_thumb_Encode x.1).1 && true)))))
       .fail)
      .fail)
     .fail))
   .fail)
end Go.Av
