/- Layer 2: instructions as bytes, by the document's table of bits: the turns. -/
import Derived.Test.YtbfhpnnnfjjjnaaPRefEnc
namespace Go.Av
open Go
def L_hauberkref02_Encode_14 : LoopN where
  M := [1, 5, 6, 7, 8, 9, 10]
  T := [34, 35, 36, 37, 38, 39, 40, 41, 42, 43, 44, 45, 46, 47, 48, 49, 50, 51, 52, 53, 54]
  D := []
  ss := [.box 0 0, .ty .str, .ty .str, .ty (.int .i64), .ty (.int .i64), .ty (.int .i64), .ty (.int .i64)]
  hs := [.ty tIns]
  es := [.exit 4]
  σ := (Ty.den (.int .i64)) × (Sh.den (.ty tIns))
  x0 := fun x y => (x.2.2.2.2.2.2, y)
  put := fun x _ s => ((x.1, x.2.1, x.2.2.1, x.2.2.2.1, x.2.2.2.2.1, x.2.2.2.2.2.1, s.1), s.2)
  fuel := fun _ _ => 40
  turn := fun x _ s =>
  (.ite (bif decide (w64 (w64 (x.2.2.2.2.2.1 + 1) + s.1) < w64 (x.2.2.2.1 + 16)) then inRange (w64 (w64 (x.2.2.2.2.2.1 + 1) + s.1)) (List.length x.2.1) && inRange x.2.2.2.2.2.1 (List.length x.2.1) else true)
   (.ite (decide (w64 (w64 (x.2.2.2.2.2.1 + 1) + s.1) < w64 (x.2.2.2.1 + 16)) && u8I (List.getD x.2.1 (Int.toNat (w64 (w64 (x.2.2.2.2.2.1 + 1) + s.1))) 0) == u8I (List.getD x.2.1 (Int.toNat x.2.2.2.2.2.1) 0))
    (.ret (.on (w64 (s.1 + 1), s.2)))
    (.ret (.out 0 (s.1, s.2))))
   .fail)
def L_hauberkref02_Encode_11 : LoopN where
  M := [1, 5, 6, 7, 8, 9]
  T := [10, 28, 29, 30, 31, 32, 33, 34, 35, 36, 37, 38, 39, 40, 41, 42, 43, 44, 45, 46, 47, 48, 49, 50, 51, 52, 53, 54, 55, 56, 57, 58, 59, 60, 61, 62, 63]
  D := [9]
  ss := [.box 0 0, .ty .str, .ty .str, .ty (.int .i64), .ty (.int .i64), .ty (.int .i64)]
  hs := [.ty tIns]
  es := [.exit 2]
  σ := (Ty.den (.int .i64)) × (Ty.den (.int .i64)) × (Sh.den (.ty tIns))
  x0 := fun x y => (x.2.2.2.2.1, x.2.2.2.2.2, y)
  put := fun x _ s => ((x.1, x.2.1, x.2.2.1, x.2.2.2.1, s.1, s.2.1), s.2.2)
  fuel := fun _ _ => 40
  turn := fun x _ s =>
  (.ite (decide (s.2.1 < w64 (x.2.2.2.1 + 16)))
   (.opt (LoopN.res L_hauberkref02_Encode_14 ((), x.2.1, x.2.2.1, x.2.2.2.1, s.1, s.2.1, 0) s.2.2) fun p0 =>
    (.ite (inRange s.2.1 (List.length x.2.1) && G_hauberkref02_field (p0.2.2, u8I (List.getD x.2.1 (Int.toNat s.2.1) 0), p0.2.1))
     (.ret (.on (w64 (w64 (2 * s.1) + V_hauberkref02_field (p0.2.2, u8I (List.getD x.2.1 (Int.toNat s.2.1) 0), p0.2.1)), w64 (s.2.1 + 1), p0.2.2)))
     .fail))
   (.ret (.out 0 (s.1, s.2.1, s.2.2))))
def L_hauberkref02_Encode_7 : LoopN where
  M := [1, 5, 6, 7]
  T := [8, 9, 10, 21, 22, 23, 24, 25, 26, 27, 28, 29, 30, 31, 32, 33, 34, 35, 36, 37, 38, 39, 40, 41, 42, 43, 44, 45, 46, 47, 48, 49, 50, 51, 52, 53, 54, 55, 56, 57, 58, 59, 60, 61, 62, 63, 64, 65, 66, 67, 68, 69, 70, 71, 72, 73]
  D := [1, 5, 7]
  ss := [.box 0 0, .ty .str, .ty .str, .ty (.int .i64)]
  hs := [.ty tIns]
  es := [.exit 0]
  σ := (Ty.den .str) × (Ty.den (.int .i64)) × (Sh.den (.ty tIns))
  x0 := fun x y => (x.2.2.1, x.2.2.2, y)
  put := fun x _ s => ((x.1, x.2.1, s.1, s.2.1), s.2.2)
  fuel := fun _ _ => 40
  turn := fun x _ s =>
  (.ite (decide (s.2.1 < lenI x.2.1))
   (.opt (LoopN.res L_hauberkref02_Encode_11 ((), x.2.1, s.1, s.2.1, 0, s.2.1) s.2.2) fun p0 =>
    (.ite (Nat.ble (List.length s.1 + List.length [toByte (IntKind.wrap IntKind.u8 (Int.tmod p0.2.1 256)), toByte (IntKind.wrap IntKind.u8 (w64 (Int.tdiv p0.2.1 256)))]) 9223372036854775807)
     (.ret (.on (s.1 ++ [toByte (IntKind.wrap IntKind.u8 (Int.tmod p0.2.1 256)), toByte (IntKind.wrap IntKind.u8 (w64 (Int.tdiv p0.2.1 256)))], w64 (s.2.1 + 16), p0.2.2.2)))
     .fail))
   (.ret (.out 0 (s.1, s.2.1, s.2.2))))
/-- hauberkref02.Encode -/
abbrev A_hauberkref02_Encode : List Ty := [tIns]
abbrev S_hauberkref02_Encode : Sh := Sh.tup (Sh.pair (Sh.ty Ty.str) (Sh.pair (Sh.ty (Ty.int IntKind.i64)) (Sh.ty Ty.unit)))
def T_hauberkref02_Encode (x : dens A_hauberkref02_Encode) : PO (Sh.den S_hauberkref02_Encode) :=
  (.ite (G_hauberkref02_Check x)
   (.ite (V_hauberkref02_Check x != 0)
    (.ret (([], V_hauberkref02_Check x, ())))
    (.opt (LoopN.res L_hauberkref02_Encode_7 ((), V_hauberkref02_Bits (x.1, x.2.2.2.2.2.2.2.1), [], 0) x) fun p0 =>
     (.ret ((p0.2.1, 0, ())))))
   .fail)
def G_hauberkref02_Encode (x : dens A_hauberkref02_Encode) : Bool := (T_hauberkref02_Encode x).val.isSome
def V_hauberkref02_Encode (x : dens A_hauberkref02_Encode) : Sh.den S_hauberkref02_Encode := (T_hauberkref02_Encode x).getO default
theorem ok_hauberkref02_Encode (x : dens A_hauberkref02_Encode) (h : G_hauberkref02_Encode x = true) : (T_hauberkref02_Encode x).val = some (V_hauberkref02_Encode x) := PO.getO_ok default h
end Go.Av
