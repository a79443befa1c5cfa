/- Layer 2: instructions as bytes. -/
import Derived.Test.YtbfhpnnnfjjjnaaPRefSize
namespace Go.Av
open Go
/-- thumb.half -/
abbrev A_thumb_half : List Ty := [(.int .i64)]
abbrev S_thumb_half : Sh := Sh.ty Ty.str
def T_thumb_half (x : dens A_thumb_half) : PO (Sh.den S_thumb_half) :=
  (.ret ([toByte (IntKind.wrap IntKind.u8 x), toByte (IntKind.wrap IntKind.u8 (ishr IntKind.i64 x 8))]))
def G_thumb_half (_ : dens A_thumb_half) : Bool := true
def V_thumb_half (x : dens A_thumb_half) : Sh.den S_thumb_half := (T_thumb_half x).getO default
theorem ok_thumb_half (x : dens A_thumb_half) (_ : G_thumb_half x = true) : (T_thumb_half x).val = some (V_thumb_half x) := PO.sure_ok default (by simp [T_thumb_half, PO.sure])
/-- thumb.Encode -/
abbrev A_thumb_Encode : List Ty := [tIns]
abbrev S_thumb_Encode : Sh := Sh.tup (Sh.pair (Sh.ty Ty.str) (Sh.pair (Sh.ty (Ty.int IntKind.i64)) (Sh.ty Ty.unit)))
def T_thumb_Encode (x : dens A_thumb_Encode) : PO (Sh.den S_thumb_Encode) :=
  (.ite (V_thumb_Check x != 0)
   (.ret (([], V_thumb_Check x, ())))
   (.ite (G_thumb_bits x)
    (.ite ((V_thumb_bits x).2.2.1)
     (.ite (Nat.ble (List.length (V_thumb_half (V_thumb_bits x).1) + List.length (V_thumb_half (V_thumb_bits x).2.1)) 9223372036854775807)
      (.ret ((V_thumb_half (V_thumb_bits x).1 ++ V_thumb_half (V_thumb_bits x).2.1, 0, ())))
      .fail)
     (.ret ((V_thumb_half (V_thumb_bits x).1, 0, ()))))
    .fail))
def G_thumb_Encode (x : dens A_thumb_Encode) : Bool := (T_thumb_Encode x).val.isSome
def V_thumb_Encode (x : dens A_thumb_Encode) : Sh.den S_thumb_Encode := (T_thumb_Encode x).getO default
theorem ok_thumb_Encode (x : dens A_thumb_Encode) (h : G_thumb_Encode x = true) : (T_thumb_Encode x).val = some (V_thumb_Encode x) := PO.getO_ok default h
/-- hauberklaw02.lives -/
abbrev A_hauberklaw02_lives : List Ty := []
abbrev S_hauberklaw02_lives : Sh := Sh.ty Ty.bool
def T_hauberklaw02_lives (_ : dens A_hauberklaw02_lives) : PO (Sh.den S_hauberklaw02_lives) :=
  (.ite (G_thumb_Encode (3, 1, 0, 0, 0, 4660, 0, false, ()))
   (.ite (G_thumb_Encode (24, 0, 0, 0, 0, -4, 0, false, ()))
    (.ret ((V_thumb_Encode (3, 1, 0, 0, 0, 4660, 0, false, ())).1 == [65, 242, 52, 33] && ((V_thumb_Encode (3, 1, 0, 0, 0, 4660, 0, false, ())).2.1 == 0 && ((V_thumb_Encode (24, 0, 0, 0, 0, -4, 0, false, ())).1 == [254, 231] && (V_thumb_Encode (24, 0, 0, 0, 0, -4, 0, false, ())).2.1 == 0))))
    .fail)
   .fail)
def G_hauberklaw02_lives (_ : dens A_hauberklaw02_lives) : Bool := true
def V_hauberklaw02_lives (_ : dens A_hauberklaw02_lives) : Sh.den S_hauberklaw02_lives := true
theorem ok_hauberklaw02_lives (x : dens A_hauberklaw02_lives) (_ : G_hauberklaw02_lives x = true) : (T_hauberklaw02_lives x).val = some (V_hauberklaw02_lives x) := by
  have h1 : (T_thumb_Encode (3, 1, 0, 0, 0, 4660, 0, false, ())).val = some ([65, 242, 52, 33], 0, ()) := by decide +kernel
  have h2 : (T_thumb_Encode (24, 0, 0, 0, 0, -4, 0, false, ())).val = some ([254, 231], 0, ()) := by decide +kernel
  unfold T_hauberklaw02_lives G_thumb_Encode V_thumb_Encode PO.getO PO.val
  rw [h1, h2]
  rfl
end Go.Av
