/- Layer 4: items laid out and as bytes, as the document has it. -/
import Derived.Test.YtehcaooipfgklaaPAsm
namespace Go.Av
open Go

/-- hauberkref04.size -/
abbrev A_hauberkref04_size : List Ty := [(.sl tItem), (.int .i64), (.sl .bool)]
abbrev S_hauberkref04_size : Sh := Sh.ty (Ty.int IntKind.i64)
def T_hauberkref04_size (x : dens A_hauberkref04_size) : PO (Sh.den S_hauberkref04_size) :=
  (.ite (inRange x.2.1 (List.length x.1))
   (.ite ((List.getD x.1 (Int.toNat x.2.1) (Ty.dflt tItem)).1 == 0)
    (.ite (inRange x.2.1 (List.length x.1) && true)
     (.ret (V_hauberkref02_Size (List.getD x.1 (Int.toNat x.2.1) (Ty.dflt tItem)).2.2.1))
     .fail)
    (.ite ((List.getD x.1 (Int.toNat x.2.1) (Ty.dflt tItem)).1 == 2)
     (.ite (bif decide (x.2.1 < lenI x.2.2) then inRange x.2.1 (List.length x.2.2) else true)
      (.ite (decide (x.2.1 < lenI x.2.2) && List.getD x.2.2 (Int.toNat x.2.1) (Ty.dflt Ty.bool))
       (.ret (4))
       (.ret (2)))
      .fail)
     (.ret (0))))
   .fail)
def G_hauberkref04_size (x : dens A_hauberkref04_size) : Bool := (T_hauberkref04_size x).val.isSome
def V_hauberkref04_size (x : dens A_hauberkref04_size) : Sh.den S_hauberkref04_size := (T_hauberkref04_size x).getO default
theorem ok_hauberkref04_size (x : dens A_hauberkref04_size) (h : G_hauberkref04_size x = true) : (T_hauberkref04_size x).val = some (V_hauberkref04_size x) := PO.getO_ok default h
def L_hauberkref04_Lay_4 : LoopN where
  M := [0, 2, 7, 8, 9]
  T := [11, 12, 13, 14, 15, 16, 17, 18, 19, 20, 21, 22, 23, 24, 25, 26]
  D := [0, 2, 9]
  ss := [.ty (.sl tItem), .ty (.sl .bool), .osl 0 (.int .i64), .ty (.int .i64), .ty (.int .i64)]
  hs := []
  es := [.exit 0]
  σ := (List (Ty.den (.int .i64))) × (Ty.den (.int .i64)) × (Ty.den (.int .i64))
  x0 := fun x _ => (x.2.2.1, x.2.2.2.1, x.2.2.2.2)
  put := fun x _ s => ((x.1, x.2.1, s.1, s.2.1, s.2.2), ())
  fuel := fun x _ => List.length x.1+1
  turn := fun x _ s =>
  (.ite (decide (s.2.2 < lenI x.1))
   (.ite (Nat.ble ((List.length s.1 + List.length [s.2.1]) * 8) 140737488355328)
    (.ite (G_hauberkref04_size (x.1, s.2.2, x.2.1))
     (.ret (.on (s.1 ++ [s.2.1], w64 (s.2.1 + V_hauberkref04_size (x.1, s.2.2, x.2.1)), w64 (s.2.2 + 1))))
     .fail)
    .fail)
   (.ret (.out 0 (s.1, s.2.1, s.2.2))))
/-- hauberkref04.Lay -/
abbrev A_hauberkref04_Lay : List Ty := [(.sl tItem), (.int .i64), (.sl .bool)]
abbrev S_hauberkref04_Lay : Sh := Sh.osl 32 (Ty.int IntKind.i64)
def T_hauberkref04_Lay (x : dens A_hauberkref04_Lay) : PO (Sh.den S_hauberkref04_Lay) :=
  (.opt (LoopN.res L_hauberkref04_Lay_4 (x.1, x.2.2, [], x.2.1, 0) ()) fun p0 =>
   (.ite (Nat.ble ((List.length p0.2.1 + List.length [p0.2.2.1]) * 8) 140737488355328)
    (.ret (p0.2.1 ++ [p0.2.2.1]))
    .fail))
def G_hauberkref04_Lay (x : dens A_hauberkref04_Lay) : Bool := (T_hauberkref04_Lay x).val.isSome
def V_hauberkref04_Lay (x : dens A_hauberkref04_Lay) : Sh.den S_hauberkref04_Lay := (T_hauberkref04_Lay x).getO default
theorem ok_hauberkref04_Lay (x : dens A_hauberkref04_Lay) (h : G_hauberkref04_Lay x = true) : (T_hauberkref04_Lay x).val = some (V_hauberkref04_Lay x) := PO.getO_ok default h
def L_hauberkref04_find_2 : LoopN where
  M := [0, 1, 4, 5]
  T := [6, 7, 8, 9, 10, 11, 12, 13, 14, 15, 16, 17, 18, 19, 20, 21, 22, 23, 24, 25, 26, 27]
  D := [0, 1, 5]
  ss := [.ty (.sl tItem), .ty (.int .i64), .ty (.int .i64), .ty (.int .i64)]
  hs := []
  es := [.exit 0, .ret]
  σ := (Ty.den (.int .i64)) × (Ty.den (.int .i64))
  x0 := fun x _ => (x.2.2.1, x.2.2.2)
  put := fun x _ s => ((x.1, x.2.1, s.1, s.2), ())
  fuel := fun x _ => List.length x.1+1
  turn := fun x _ s =>
  (.ite (decide (s.2 < lenI x.1))
   (.ite (inRange s.2 (List.length x.1) && bif (List.getD x.1 (Int.toNat s.2) (Ty.dflt tItem)).1 == 1 then inRange s.2 (List.length x.1) else true)
    (.ite ((List.getD x.1 (Int.toNat s.2) (Ty.dflt tItem)).1 == 1 && (List.getD x.1 (Int.toNat s.2) (Ty.dflt tItem)).2.1 == x.2.1)
     (.ret (.out 1 (s.2, s.2)))
     (.ret (.on (s.1, w64 (s.2 + 1)))))
    .fail)
   (.ret (.out 0 (s.1, s.2))))
/-- hauberkref04.find -/
abbrev A_hauberkref04_find : List Ty := [(.sl tItem), (.int .i64)]
abbrev S_hauberkref04_find : Sh := Sh.ty (Ty.int IntKind.i64)
def T_hauberkref04_find (x : dens A_hauberkref04_find) : PO (Sh.den S_hauberkref04_find) :=
  (.opt (LoopN.res L_hauberkref04_find_2 (x.1, x.2, 0, 0) ()) fun p0 =>
   (.ite (way p0.1)
    (.ret (-1))
    (.ret (p0.2.1))))
def G_hauberkref04_find (x : dens A_hauberkref04_find) : Bool := (T_hauberkref04_find x).val.isSome
def V_hauberkref04_find (x : dens A_hauberkref04_find) : Sh.den S_hauberkref04_find := (T_hauberkref04_find x).getO default
theorem ok_hauberkref04_find (x : dens A_hauberkref04_find) (h : G_hauberkref04_find x = true) : (T_hauberkref04_find x).val = some (V_hauberkref04_find x) := PO.getO_ok default h
/-- hauberkref04.may -/
abbrev A_hauberkref04_may : List Ty := [tIns]
abbrev S_hauberkref04_may : Sh := Sh.ty Ty.bool
def T_hauberkref04_may (x : dens A_hauberkref04_may) : PO (Sh.den S_hauberkref04_may) :=
  (.ret (bif x.1 == 24 then x.2.2.2.2.2.2.1 == 0 || x.1 == 25 && (decide (x.2.2.2.2.2.2.1 ≥ 0) && decide (x.2.2.2.2.2.2.1 ≤ 13)) else x.1 == 25 && (decide (x.2.2.2.2.2.2.1 ≥ 0) && decide (x.2.2.2.2.2.2.1 ≤ 13))))
def G_hauberkref04_may (_ : dens A_hauberkref04_may) : Bool := true
def V_hauberkref04_may (x : dens A_hauberkref04_may) : Sh.den S_hauberkref04_may := (T_hauberkref04_may x).getO default
theorem ok_hauberkref04_may (x : dens A_hauberkref04_may) (_ : G_hauberkref04_may x = true) : (T_hauberkref04_may x).val = some (V_hauberkref04_may x) := PO.sure_ok default (by simp [T_hauberkref04_may, PO.sure])
/-- hauberkref04.offset -/
abbrev A_hauberkref04_offset : List Ty := [(.sl tItem), (.sl (.int .i64)), (.int .i64)]
abbrev S_hauberkref04_offset : Sh := Sh.ty (Ty.int IntKind.i64)
def T_hauberkref04_offset (x : dens A_hauberkref04_offset) : PO (Sh.den S_hauberkref04_offset) :=
  (.ite (inRange x.2.2 (List.length x.1) && (G_hauberkref04_find (x.1, (List.getD x.1 (Int.toNat x.2.2) (Ty.dflt tItem)).2.1) && (inRange (V_hauberkref04_find (x.1, (List.getD x.1 (Int.toNat x.2.2) (Ty.dflt tItem)).2.1)) (List.length x.2.1) && inRange x.2.2 (List.length x.2.1))))
   (.ret (w64 (w64 (List.getD x.2.1 (Int.toNat (V_hauberkref04_find (x.1, (List.getD x.1 (Int.toNat x.2.2) (Ty.dflt tItem)).2.1))) (Ty.dflt (Ty.int IntKind.i64)) - List.getD x.2.1 (Int.toNat x.2.2) (Ty.dflt (Ty.int IntKind.i64))) - 4)))
   .fail)
def G_hauberkref04_offset (x : dens A_hauberkref04_offset) : Bool := (T_hauberkref04_offset x).val.isSome
def V_hauberkref04_offset (x : dens A_hauberkref04_offset) : Sh.den S_hauberkref04_offset := (T_hauberkref04_offset x).getO default
theorem ok_hauberkref04_offset (x : dens A_hauberkref04_offset) (h : G_hauberkref04_offset x = true) : (T_hauberkref04_offset x).val = some (V_hauberkref04_offset x) := PO.getO_ok default h
def L_hauberkref04_wrong_4 : LoopN where
  M := [0, 4, 5]
  T := [21, 22, 23, 24, 25, 26, 27, 28, 29, 30, 31, 32, 33, 34, 35, 36, 37, 38, 39, 40, 41, 42, 43, 44, 45, 46, 47, 48, 49, 50, 51, 52, 53, 54, 55, 56, 57]
  D := [5]
  ss := [.ty (.sl tItem), .ty (.int .i64), .ty (.int .i64)]
  hs := []
  es := [.exit 0, .ret]
  σ := (Ty.den (.int .i64)) × (Ty.den (.int .i64))
  x0 := fun x _ => (x.2.1, x.2.2)
  put := fun x _ s => ((x.1, s.1, s.2), ())
  fuel := fun x _ => List.length x.1+1
  turn := fun x _ s =>
  (.ite (decide (s.2 < lenI x.1))
   (.ite (inRange s.2 (List.length x.1) && (decide ((List.getD x.1 (Int.toNat s.2) (Ty.dflt tItem)).1 < 0) || inRange s.2 (List.length x.1) && (decide ((List.getD x.1 (Int.toNat s.2) (Ty.dflt tItem)).1 > 2) || inRange s.2 (List.length x.1) && bif (List.getD x.1 (Int.toNat s.2) (Ty.dflt tItem)).1 == 2 then inRange s.2 (List.length x.1) && true else true)))
    (.ite (decide ((List.getD x.1 (Int.toNat s.2) (Ty.dflt tItem)).1 < 0) || (decide ((List.getD x.1 (Int.toNat s.2) (Ty.dflt tItem)).1 > 2) || (List.getD x.1 (Int.toNat s.2) (Ty.dflt tItem)).1 == 2 && !V_hauberkref04_may (List.getD x.1 (Int.toNat s.2) (Ty.dflt tItem)).2.2.1))
     (.ret (.out 1 (2, s.2)))
     (.ret (.on (s.1, w64 (s.2 + 1)))))
    .fail)
   (.ret (.out 0 (s.1, s.2))))
def L_hauberkref04_wrong_9 : LoopN where
  M := [0, 4, 6]
  T := [58, 59, 60, 61, 62, 63, 64, 65, 66, 67, 68, 69, 70, 71, 72, 73, 74, 75, 76, 77, 78, 79, 80, 81, 82, 83, 84]
  D := [6]
  ss := [.ty (.sl tItem), .ty (.int .i64), .ty (.int .i64)]
  hs := []
  es := [.exit 2, .ret]
  σ := (Ty.den (.int .i64)) × (Ty.den (.int .i64))
  x0 := fun x _ => (x.2.1, x.2.2)
  put := fun x _ s => ((x.1, s.1, s.2), ())
  fuel := fun x _ => List.length x.1+1
  turn := fun x _ s =>
  (.ite (decide (s.2 < lenI x.1))
   (.ite (inRange s.2 (List.length x.1) && bif (List.getD x.1 (Int.toNat s.2) (Ty.dflt tItem)).1 == 0 then inRange s.2 (List.length x.1) && G_hauberkref02_Check (List.getD x.1 (Int.toNat s.2) (Ty.dflt tItem)).2.2.1 else true)
    (.ite ((List.getD x.1 (Int.toNat s.2) (Ty.dflt tItem)).1 == 0 && V_hauberkref02_Check (List.getD x.1 (Int.toNat s.2) (Ty.dflt tItem)).2.2.1 != 0)
     (.ite (inRange s.2 (List.length x.1) && G_hauberkref02_Check (List.getD x.1 (Int.toNat s.2) (Ty.dflt tItem)).2.2.1)
      (.ret (.out 1 (V_hauberkref02_Check (List.getD x.1 (Int.toNat s.2) (Ty.dflt tItem)).2.2.1, s.2)))
      .fail)
     (.ret (.on (s.1, w64 (s.2 + 1)))))
    .fail)
   (.ret (.out 0 (s.1, s.2))))
def L_hauberkref04_wrong_14 : LoopN where
  M := [0, 4, 7]
  T := [85, 86, 87, 88, 89, 90, 91, 92, 93, 94, 95, 96, 97, 98, 99, 100, 101, 102, 103, 104, 105, 106, 107]
  D := [7]
  ss := [.ty (.sl tItem), .ty (.int .i64), .ty (.int .i64)]
  hs := []
  es := [.exit 4, .ret]
  σ := (Ty.den (.int .i64)) × (Ty.den (.int .i64))
  x0 := fun x _ => (x.2.1, x.2.2)
  put := fun x _ s => ((x.1, s.1, s.2), ())
  fuel := fun x _ => List.length x.1+1
  turn := fun x _ s =>
  (.ite (decide (s.2 < lenI x.1))
   (.ite (inRange s.2 (List.length x.1) && bif (List.getD x.1 (Int.toNat s.2) (Ty.dflt tItem)).1 == 1 then inRange s.2 (List.length x.1) && G_hauberkref04_find (x.1, (List.getD x.1 (Int.toNat s.2) (Ty.dflt tItem)).2.1) else true)
    (.ite ((List.getD x.1 (Int.toNat s.2) (Ty.dflt tItem)).1 == 1 && V_hauberkref04_find (x.1, (List.getD x.1 (Int.toNat s.2) (Ty.dflt tItem)).2.1) != s.2)
     (.ret (.out 1 (13, s.2)))
     (.ret (.on (s.1, w64 (s.2 + 1)))))
    .fail)
   (.ret (.out 0 (s.1, s.2))))
def L_hauberkref04_wrong_20 : LoopN where
  M := [0, 4, 8, 9]
  T := [108, 109, 110, 111, 112, 113, 114, 115, 116, 117, 118, 119, 120, 121, 122, 123, 124, 125, 126, 127, 128, 129, 130, 131, 132, 133, 134]
  D := [0, 9]
  ss := [.ty (.sl tItem), .ty (.int .i64), .ty (.int .i64), .ty (.int .i64)]
  hs := []
  es := [.exit 6, .ret]
  σ := (Ty.den (.int .i64)) × (Ty.den (.int .i64)) × (Ty.den (.int .i64))
  x0 := fun x _ => (x.2.1, x.2.2.1, x.2.2.2)
  put := fun x _ s => ((x.1, s.1, s.2.1, s.2.2), ())
  fuel := fun x _ => List.length x.1+1
  turn := fun x _ s =>
  (.ite (decide (s.2.2 < lenI x.1))
   (.ite (inRange s.2.2 (List.length x.1))
    (.ite ((List.getD x.1 (Int.toNat s.2.2) (Ty.dflt tItem)).1 == 2)
     (.ite (inRange s.2.2 (List.length x.1) && G_hauberkref04_find (x.1, (List.getD x.1 (Int.toNat s.2.2) (Ty.dflt tItem)).2.1))
      (.ite (decide (V_hauberkref04_find (x.1, (List.getD x.1 (Int.toNat s.2.2) (Ty.dflt tItem)).2.1) < 0))
       (.ret (.out 1 (12, w64 (s.2.1 + 4), s.2.2)))
       (.ret (.on (s.1, w64 (s.2.1 + 4), w64 (s.2.2 + 1)))))
      .fail)
     (.ite (G_hauberkref04_size (x.1, s.2.2, []))
      (.ret (.on (s.1, w64 (s.2.1 + V_hauberkref04_size (x.1, s.2.2, [])), w64 (s.2.2 + 1))))
      .fail))
    .fail)
   (.ret (.out 0 (s.1, s.2.1, s.2.2))))
/-- hauberkref04.wrong -/
abbrev A_hauberkref04_wrong : List Ty := [(.sl tItem), (.int .i64)]
abbrev S_hauberkref04_wrong : Sh := Sh.ty (Ty.int IntKind.i64)
def T_hauberkref04_wrong (x : dens A_hauberkref04_wrong) : PO (Sh.den S_hauberkref04_wrong) :=
  (.ite (decide (x.2 < 0) || (decide (x.2 > 262144) || Int.tmod x.2 2 != 0))
   (.ret (2))
   (.opt (LoopN.res L_hauberkref04_wrong_4 (x.1, 0, 0) ()) fun p0 =>
    (.ite (way p0.1)
     (.opt (LoopN.res L_hauberkref04_wrong_9 (x.1, p0.2.1, 0) ()) fun p1 =>
      (.ite (way p1.1)
       (.opt (LoopN.res L_hauberkref04_wrong_14 (x.1, p1.2.1, 0) ()) fun p2 =>
        (.ite (way p2.1)
         (.opt (LoopN.res L_hauberkref04_wrong_20 (x.1, p2.2.1, 0, 0) ()) fun p3 =>
          (.ite (way p3.1)
           (.ite (decide (p3.2.2.1 > 262144))
            (.ret (5))
            (.ret (0)))
           (.ret (p3.2.1))))
         (.ret (p2.2.1))))
       (.ret (p1.2.1))))
     (.ret (p0.2.1)))))
def G_hauberkref04_wrong (x : dens A_hauberkref04_wrong) : Bool := (T_hauberkref04_wrong x).val.isSome
def V_hauberkref04_wrong (x : dens A_hauberkref04_wrong) : Sh.den S_hauberkref04_wrong := (T_hauberkref04_wrong x).getO default
theorem ok_hauberkref04_wrong (x : dens A_hauberkref04_wrong) (h : G_hauberkref04_wrong x = true) : (T_hauberkref04_wrong x).val = some (V_hauberkref04_wrong x) := PO.getO_ok default h
def L_hauberkref04_Wide_7 : LoopN where
  M := [0, 1, 5, 6, 7, 8]
  T := [9, 10, 11, 20, 21, 22, 23, 24, 25, 26, 27, 28, 29, 30, 31, 32, 33, 34, 35, 36, 37, 38, 39, 40, 41, 42, 43, 44, 45, 46, 47, 48, 49, 50, 51, 52, 53, 54, 55, 56, 57, 58, 59, 60, 61, 62]
  D := [7, 8]
  ss := [.ty (.sl tItem), .ty (.int .i64), .win 0 .bool, .ty .bool, .ty (.sl (.int .i64)), .ty (.int .i64)]
  hs := [.rowc .bool]
  es := [.exit 2]
  σ := (Ty.den .bool) × (Ty.den (.int .i64)) × (Sh.den (.rowc .bool))
  x0 := fun x y => (x.2.2.2.1, x.2.2.2.2.2, y)
  put := fun x _ s => ((x.1, x.2.1, x.2.2.1, s.1, x.2.2.2.2.1, s.2.1), s.2.2)
  fuel := fun x _ => List.length x.1+1
  turn := fun x _ s =>
  (.ite (decide (s.2.1 < lenI x.1))
   (.ite (inRange s.2.1 (List.length x.1) && ((List.getD x.1 (Int.toNat s.2.1) (Ty.dflt tItem)).1 != 2 || inRange s.2.1 x.2.2.1.2))
    (.ite ((List.getD x.1 (Int.toNat s.2.1) (Ty.dflt tItem)).1 != 2 || List.getD s.2.2 (nplus x.2.2.1.1 s.2.1) (Ty.dflt Ty.bool))
     (.ret (.on (s.1, w64 (s.2.1 + 1), s.2.2)))
     (.ite (inRange s.2.1 (List.length x.1) && true)
      (.ite (G_hauberkref04_offset (x.1, x.2.2.2.2.1, s.2.1))
       (.ite (decide (V_hauberkref04_offset (x.1, x.2.2.2.2.1, s.2.1) < (V_hauberkref02_Reach ((List.getD x.1 (Int.toNat s.2.1) (Ty.dflt tItem)).2.2.1.1, false)).1) || decide (V_hauberkref04_offset (x.1, x.2.2.2.2.1, s.2.1) > (V_hauberkref02_Reach ((List.getD x.1 (Int.toNat s.2.1) (Ty.dflt tItem)).2.2.1.1, false)).2.1))
        (.ite (inRange s.2.1 x.2.2.1.2)
         (.ret (.on (true, w64 (s.2.1 + 1), List.set s.2.2 (nplus x.2.2.1.1 s.2.1) true)))
         .fail)
        (.ret (.on (s.1, w64 (s.2.1 + 1), s.2.2))))
       .fail)
      .fail))
    .fail)
   (.ret (.out 0 (s.1, s.2.1, s.2.2))))
def L_hauberkref04_Wide_3 : LoopN where
  M := [0, 1, 5, 6]
  T := [7, 8, 9, 10, 11, 15, 16, 17, 18, 19, 20, 21, 22, 23, 24, 25, 26, 27, 28, 29, 30, 31, 32, 33, 34, 35, 36, 37, 38, 39, 40, 41, 42, 43, 44, 45, 46, 47, 48, 49, 50, 51, 52, 53, 54, 55, 56, 57, 58, 59, 60, 61, 62]
  D := [0, 1, 6]
  ss := [.ty (.sl tItem), .ty (.int .i64), .win 0 .bool, .ty .bool]
  hs := [.rowc .bool]
  es := [.exit 0]
  σ := (Ty.den .bool) × (Sh.den (.rowc .bool))
  x0 := fun x y => (x.2.2.2, y)
  put := fun x _ s => ((x.1, x.2.1, x.2.2.1, s.1), s.2)
  fuel := fun x _ => List.length x.1+2
  turn := fun x _ s =>
  (.ite (s.1)
   (.ite (G_hauberkref04_Lay (x.1, x.2.1, shown s.2 x.2.2.1))
    (.opt (LoopN.res L_hauberkref04_Wide_7 (x.1, x.2.1, x.2.2.1, false, V_hauberkref04_Lay (x.1, x.2.1, shown s.2 x.2.2.1), 0) s.2) fun p0 =>
     (.ret (.on (p0.2.1, p0.2.2.2))))
    .fail)
   (.ret (.out 0 (s.1, s.2))))
/-- hauberkref04.Wide -/
abbrev SS_hauberkref04_Wide : List Sh := [.ty (.sl tItem), .ty (.int .i64)]
abbrev HS_hauberkref04_Wide : List Sh := []
abbrev S_hauberkref04_Wide : Sh := Sh.win 0 Ty.bool
abbrev HT_hauberkref04_Wide : List Sh := [Sh.rowc Ty.bool]
def T_hauberkref04_Wide (x : shDens SS_hauberkref04_Wide) (_ : shDens HS_hauberkref04_Wide) : PO (Sh.den S_hauberkref04_Wide × shDens HT_hauberkref04_Wide) :=
  (.ite (roomOk (lenI x.1) 1)
   (.opt (LoopN.res L_hauberkref04_Wide_3 (x.1, x.2, (0, nspan 0 (lenI x.1)), true) (zeros (lenI x.1) false)) fun p0 =>
    (.ret ((0, nspan 0 (lenI x.1)), p0.2.2)))
   .fail)
def G_hauberkref04_Wide (x : shDens SS_hauberkref04_Wide) (y : shDens HS_hauberkref04_Wide) : Bool := (T_hauberkref04_Wide x y).val.isSome
def V_hauberkref04_Wide (x : shDens SS_hauberkref04_Wide) (y : shDens HS_hauberkref04_Wide) : Sh.den S_hauberkref04_Wide × shDens HT_hauberkref04_Wide := (T_hauberkref04_Wide x y).getO default
theorem ok_hauberkref04_Wide (x : shDens SS_hauberkref04_Wide) (y : shDens HS_hauberkref04_Wide) (h : G_hauberkref04_Wide x y = true) : (T_hauberkref04_Wide x y).val = some (V_hauberkref04_Wide x y) := PO.getO_ok default h
def L_hauberkref04_Assemble_9 : LoopN where
  M := [0, 8, 9, 10, 11, 12]
  T := [13, 14, 15, 16, 30, 31, 32, 33, 34, 35, 36, 37, 38, 39, 40, 41, 42, 43, 44, 45, 46, 47, 48, 49, 50, 51, 52, 53, 54, 55, 56, 57, 58, 59, 60, 61, 62, 63, 64, 65, 66, 67, 68, 69, 70, 71, 72, 73, 74, 75, 76, 77, 78, 79, 80, 81, 82, 83, 84, 85, 86, 87, 88, 89, 90, 91, 92, 93, 94, 95, 96, 97]
  D := [0, 8, 9, 12]
  ss := [.ty (.sl tItem), .win 0 .bool, .osl 0 (.int .i64), .ty .str, .osl 1 tPlace, .ty (.int .i64)]
  hs := [.rowc .bool]
  es := [.exit 0]
  σ := (Ty.den .str) × (Sh.den (.osl 1 tPlace)) × (Ty.den (.int .i64)) × (Sh.den (.rowc .bool))
  x0 := fun x y => (x.2.2.2.1, x.2.2.2.2.1, x.2.2.2.2.2, y)
  put := fun x _ s => ((x.1, x.2.1, x.2.2.1, s.1, s.2.1, s.2.2.1), s.2.2.2)
  fuel := fun x _ => List.length x.1+1
  turn := fun x _ s =>
  (.ite (decide (s.2.2.1 < lenI x.1))
   (.ite (inRange s.2.2.1 (List.length x.1))
    (.ite ((List.getD x.1 (Int.toNat s.2.2.1) (Ty.dflt tItem)).1 == 1)
     (.ite (inRange s.2.2.1 (List.length x.1))
      (.ite (inRange s.2.2.1 (List.length x.2.2.1))
       (.ite (Nat.ble ((List.length s.2.1 + List.length [((List.getD x.1 (Int.toNat s.2.2.1) (Ty.dflt tItem)).2.1, List.getD x.2.2.1 (Int.toNat s.2.2.1) (Ty.dflt (Ty.int IntKind.i64)), ())]) * 16) 140737488355328)
        (.ret (.on (s.1, s.2.1 ++ [((List.getD x.1 (Int.toNat s.2.2.1) (Ty.dflt tItem)).2.1, List.getD x.2.2.1 (Int.toNat s.2.2.1) (Ty.dflt (Ty.int IntKind.i64)), ())], w64 (s.2.2.1 + 1), s.2.2.2)))
        .fail)
       .fail)
      .fail)
     (.ite (bif (List.getD x.1 (Int.toNat s.2.2.1) (Ty.dflt tItem)).1 == 0 then inRange s.2.2.1 (List.length x.1) && G_hauberkref02_Encode (List.getD x.1 (Int.toNat s.2.2.1) (Ty.dflt tItem)).2.2.1 && Nat.ble (List.length s.1 + List.length (V_hauberkref02_Encode (List.getD x.1 (Int.toNat s.2.2.1) (Ty.dflt tItem)).2.2.1).1) 9223372036854775807 else inRange s.2.2.1 (List.length x.1) && (inRange s.2.2.1 (List.length x.1) && (G_hauberkref04_offset (x.1, x.2.2.1, s.2.2.1) && (inRange s.2.2.1 x.2.1.2 && G_hauberkref02_Encode ((List.getD x.1 (Int.toNat s.2.2.1) (Ty.dflt tItem)).2.2.1.1, 0, 0, 0, 0, V_hauberkref04_offset (x.1, x.2.2.1, s.2.2.1), (List.getD x.1 (Int.toNat s.2.2.1) (Ty.dflt tItem)).2.2.1.2.2.2.2.2.2.1, List.getD s.2.2.2 (nplus x.2.1.1 s.2.2.1) (Ty.dflt Ty.bool), ())))) && Nat.ble (List.length s.1 + List.length (V_hauberkref02_Encode ((List.getD x.1 (Int.toNat s.2.2.1) (Ty.dflt tItem)).2.2.1.1, 0, 0, 0, 0, V_hauberkref04_offset (x.1, x.2.2.1, s.2.2.1), (List.getD x.1 (Int.toNat s.2.2.1) (Ty.dflt tItem)).2.2.1.2.2.2.2.2.2.1, List.getD s.2.2.2 (nplus x.2.1.1 s.2.2.1) (Ty.dflt Ty.bool), ())).1) 9223372036854775807)
      (.ret (.on (bif (List.getD x.1 (Int.toNat s.2.2.1) (Ty.dflt tItem)).1 == 0 then s.1 ++ (V_hauberkref02_Encode (List.getD x.1 (Int.toNat s.2.2.1) (Ty.dflt tItem)).2.2.1).1 else s.1 ++ (V_hauberkref02_Encode ((List.getD x.1 (Int.toNat s.2.2.1) (Ty.dflt tItem)).2.2.1.1, 0, 0, 0, 0, V_hauberkref04_offset (x.1, x.2.2.1, s.2.2.1), (List.getD x.1 (Int.toNat s.2.2.1) (Ty.dflt tItem)).2.2.1.2.2.2.2.2.2.1, List.getD s.2.2.2 (nplus x.2.1.1 s.2.2.1) (Ty.dflt Ty.bool), ())).1, s.2.1, w64 (s.2.2.1 + 1), s.2.2.2)))
      .fail))
    .fail)
   (.ret (.out 0 (s.1, s.2.1, s.2.2.1, s.2.2.2))))
/-- hauberkref04.Assemble -/
abbrev A_hauberkref04_Assemble : List Ty := [(.sl tItem), (.int .i64)]
abbrev S_hauberkref04_Assemble : Sh := Sh.tup (Sh.pair (Sh.ty Ty.str) (Sh.pair (Sh.osl 32 tPlace) (Sh.pair (Sh.ty (Ty.int IntKind.i64)) (Sh.ty Ty.unit))))
def T_hauberkref04_Assemble (x : dens A_hauberkref04_Assemble) : PO (Sh.den S_hauberkref04_Assemble) :=
  (.ite (G_hauberkref04_wrong x)
   (.ite (V_hauberkref04_wrong x != 0)
    (.ret (([], [], V_hauberkref04_wrong x, ())))
    (.ite (G_hauberkref04_Wide x ())
     (.ite (G_hauberkref04_Lay (x.1, x.2, shown (V_hauberkref04_Wide x ()).2 (V_hauberkref04_Wide x ()).1))
      (.opt (LoopN.res L_hauberkref04_Assemble_9 (x.1, (V_hauberkref04_Wide x ()).1, V_hauberkref04_Lay (x.1, x.2, shown (V_hauberkref04_Wide x ()).2 (V_hauberkref04_Wide x ()).1), [], [], 0) (V_hauberkref04_Wide x ()).2) fun p0 =>
       (.ret ((p0.2.1, p0.2.2.1, 0, ()))))
      .fail)
     .fail))
   .fail)
def G_hauberkref04_Assemble (x : dens A_hauberkref04_Assemble) : Bool := (T_hauberkref04_Assemble x).val.isSome
def V_hauberkref04_Assemble (x : dens A_hauberkref04_Assemble) : Sh.den S_hauberkref04_Assemble := (T_hauberkref04_Assemble x).getO default
theorem ok_hauberkref04_Assemble (x : dens A_hauberkref04_Assemble) (h : G_hauberkref04_Assemble x = true) : (T_hauberkref04_Assemble x).val = some (V_hauberkref04_Assemble x) := PO.getO_ok default h
end Go.Av
