/- Layer 3's statements: DecodeOnly. -/
import Derived.Test.YtbfhpnnnfjjjnaaPDecLaw2
namespace Go.Av
open Go
/-- hauberklaw03.DecodeOnly -/
abbrev A_hauberklaw03_DecodeOnly : List Ty := [.str]
abbrev S_hauberklaw03_DecodeOnly : Sh := Sh.ty Ty.bool
def T_hauberklaw03_DecodeOnly (x : dens A_hauberklaw03_DecodeOnly) : PO (Sh.den S_hauberklaw03_DecodeOnly) :=
  (.ite (G_decode_Decode x)
   (.ite ((V_decode_Decode x).2.2.1 != 0)
    (.ite (bif Ty.eqb tIns (V_decode_Decode x).1 (0, 0, 0, 0, 0, 0, 0, false, ()) then bif (V_decode_Decode x).2.1 == 0 then (V_decode_Decode x).2.2.1 == 3 || ((V_decode_Decode x).2.2.1 == 7 || true) else true else true)
     (.ret (Ty.eqb tIns (V_decode_Decode x).1 (0, 0, 0, 0, 0, 0, 0, false, ()) && ((V_decode_Decode x).2.1 == 0 && ((V_decode_Decode x).2.2.1 == 3 || (V_decode_Decode x).2.2.1 == 7 && true))))
     .fail)
    (.ite (G_thumb_Encode (V_decode_Decode x).1)
     (.ite (bif (V_thumb_Encode (V_decode_Decode x).1).2.1 == 0 then bif (V_decode_Decode x).2.1 == lenI (V_thumb_Encode (V_decode_Decode x).1).1 then bif decide ((V_decode_Decode x).2.1 ≤ lenI x) then decide (0 ≤ (V_decode_Decode x).2.1) && decide ((V_decode_Decode x).2.1 ≤ lenI x) && true && decide (0 ≤ (V_decode_Decode x).2.1) && (List.drop (Int.toNat 0) (List.take (Int.toNat (V_decode_Decode x).2.1) x) == (V_thumb_Encode (V_decode_Decode x).1).1 || true) else true else true else true)
      (.ret ((V_thumb_Encode (V_decode_Decode x).1).2.1 == 0 && ((V_decode_Decode x).2.1 == lenI (V_thumb_Encode (V_decode_Decode x).1).1 && (decide ((V_decode_Decode x).2.1 ≤ lenI x) && (List.drop (Int.toNat 0) (List.take (Int.toNat (V_decode_Decode x).2.1) x) == (V_thumb_Encode (V_decode_Decode x).1).1 && true)))))
      .fail)
     .fail))
   .fail)
end Go.Av
