/- Layer 3's statements: DecodeBytes. -/
import Derived.Test.YtbfhpnnnfjjjnaaPDecLaw2
namespace Go.Av
open Go
/-- hauberklaw03.DecodeBytes -/
abbrev A_hauberklaw03_DecodeBytes : List Ty := [.str]
abbrev S_hauberklaw03_DecodeBytes : Sh := Sh.ty Ty.bool
def T_hauberklaw03_DecodeBytes (x : dens A_hauberklaw03_DecodeBytes) : PO (Sh.den S_hauberklaw03_DecodeBytes) :=
  (.ite (G_decode_Decode x)
   (.ite (G_hauberkref03_Decode x)
    (.ite (bif Ty.eqb tIns (V_decode_Decode x).1 (V_hauberkref03_Decode x).1 then bif (V_decode_Decode x).2.1 == (V_hauberkref03_Decode x).2.1 then bif (V_decode_Decode x).2.2.1 == (V_hauberkref03_Decode x).2.2.1 then G_hauberkref03_Size x && (V_decode_Size x == V_hauberkref03_Size x || true) else true else true else true)
     (.ret (Ty.eqb tIns (V_decode_Decode x).1 (V_hauberkref03_Decode x).1 && ((V_decode_Decode x).2.1 == (V_hauberkref03_Decode x).2.1 && ((V_decode_Decode x).2.2.1 == (V_hauberkref03_Decode x).2.2.1 && (V_decode_Size x == V_hauberkref03_Size x && true)))))
     .fail)
    .fail)
   .fail)
end Go.Av
