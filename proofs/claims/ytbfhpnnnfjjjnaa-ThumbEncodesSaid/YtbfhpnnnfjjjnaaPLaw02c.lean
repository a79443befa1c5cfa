/- Layer 2's statements: an instruction's bytes. -/
import Derived.Test.YtbfhpnnnfjjjnaaPEncEq
namespace Go.Av
open Go
/-- hauberklaw02.ThumbEncodes -/
abbrev A_hauberklaw02_ThumbEncodes : List Ty := [tIns]
abbrev S_hauberklaw02_ThumbEncodes : Sh := Sh.ty Ty.bool
def T_hauberklaw02_ThumbEncodes (x : dens A_hauberklaw02_ThumbEncodes) : PO (Sh.den S_hauberklaw02_ThumbEncodes) :=
  (.ite (G_thumb_Encode x)
   (.ite (G_hauberkref02_Encode x)
    (.ite (bif (V_thumb_Encode x).1 == (V_hauberkref02_Encode x).1 then (V_thumb_Encode x).2.1 == (V_hauberkref02_Encode x).2.1 || true else true)
     (.ret ((V_thumb_Encode x).1 == (V_hauberkref02_Encode x).1 && ((V_thumb_Encode x).2.1 == (V_hauberkref02_Encode x).2.1 && true)))
     .fail)
    .fail)
   .fail)
def G_hauberklaw02_ThumbEncodes (x : dens A_hauberklaw02_ThumbEncodes) : Bool := (T_hauberklaw02_ThumbEncodes x).val.isSome
def V_hauberklaw02_ThumbEncodes (x : dens A_hauberklaw02_ThumbEncodes) : Sh.den S_hauberklaw02_ThumbEncodes := (T_hauberklaw02_ThumbEncodes x).getO default
theorem ok_hauberklaw02_ThumbEncodes (x : dens A_hauberklaw02_ThumbEncodes) (h : G_hauberklaw02_ThumbEncodes x = true) : (T_hauberklaw02_ThumbEncodes x).val = some (V_hauberklaw02_ThumbEncodes x) := PO.getO_ok default h
end Go.Av
