/- Layer 28: all that is done is done twice. -/
import Derived.Test.YtfdnniopghcngaaPSame
namespace Go.Av
open Go
def L_dup_All_3 : LoopN where
  M := [3, 6, 7, 8]
  T := [5, 9, 10, 11, 12, 13, 14, 15, 16, 17, 18, 19, 20, 21, 22, 23]
  D := [6, 7, 8]
  ss := [.osl 0 tItem, .ty (.sl tItem), .ty (.int .i64), .ty (.int .i64)]
  hs := []
  es := [.exit 0]
  σ := (List (Ty.den tItem)) × (Ty.den (.int .i64))
  x0 := fun x _ => (x.1, x.2.2.2)
  put := fun x _ s => ((s.1, x.2.1, x.2.2.1, s.2), ())
  fuel := fun x _ => List.length x.2.1+1
  turn := fun x _ s =>
  (.ite (decide (s.2 < x.2.2.1))
   (.ite (inRange s.2 (List.length x.2.1))
    (.ite (Nat.ble ((List.length s.1 + List.length [List.getD x.2.1 (Int.toNat s.2) (Ty.dflt tItem)]) * 80) 140737488355328)
     (.ite ((List.getD x.2.1 (Int.toNat s.2) (Ty.dflt tItem)).1 != 1)
      (.ite (Nat.ble ((List.length (s.1 ++ [List.getD x.2.1 (Int.toNat s.2) (Ty.dflt tItem)]) + List.length [List.getD x.2.1 (Int.toNat s.2) (Ty.dflt tItem)]) * 80) 140737488355328)
       (.ret (.on (s.1 ++ [List.getD x.2.1 (Int.toNat s.2) (Ty.dflt tItem)] ++ [List.getD x.2.1 (Int.toNat s.2) (Ty.dflt tItem)], w64 (s.2 + 1))))
       .fail)
      (.ret (.on (s.1 ++ [List.getD x.2.1 (Int.toNat s.2) (Ty.dflt tItem)], w64 (s.2 + 1)))))
     .fail)
    .fail)
   (.ret (.out 0 (s.1, s.2))))
def L_hauberkref28_All_3 : LoopN where
  M := [0, 3, 4]
  T := [5, 6, 7, 8, 9, 10, 11, 12, 13, 14, 15, 16, 17, 18, 19, 20, 21, 22, 23, 24, 25, 26, 27, 28, 29, 30, 31]
  D := [0, 4]
  ss := [.ty (.sl tItem), .osl 0 tItem, .ty (.int .i64)]
  hs := []
  es := [.exit 0]
  σ := (List (Ty.den tItem)) × (Ty.den (.int .i64))
  x0 := fun x _ => (x.2.1, x.2.2)
  put := fun x _ s => ((x.1, s.1, s.2), ())
  fuel := fun x _ => 2*List.length x.1+1
  turn := fun x _ s =>
  (.ite (decide (s.2 < w64 (2 * lenI x.1)))
   (.ite (Int.tmod s.2 2 == 0 || inRange (w64 (Int.tdiv s.2 2)) (List.length x.1))
    (.ite (Int.tmod s.2 2 == 0 || (List.getD x.1 (Int.toNat (w64 (Int.tdiv s.2 2))) (Ty.dflt tItem)).1 != 1)
     (.ite (inRange (w64 (Int.tdiv s.2 2)) (List.length x.1))
      (.ite (Nat.ble ((List.length s.1 + List.length [List.getD x.1 (Int.toNat (w64 (Int.tdiv s.2 2))) (Ty.dflt tItem)]) * 80) 140737488355328)
       (.ret (.on (s.1 ++ [List.getD x.1 (Int.toNat (w64 (Int.tdiv s.2 2))) (Ty.dflt tItem)], w64 (s.2 + 1))))
       .fail)
      .fail)
     (.ret (.on (s.1, w64 (s.2 + 1)))))
    .fail)
   (.ret (.out 0 (s.1, s.2))))
/-- dup.All -/
abbrev A_dup_All : List Ty := [(.sl tItem)]
abbrev S_dup_All : Sh := Sh.osl 32 tItem
def T_dup_All (x : dens A_dup_All) : PO (Sh.den S_dup_All) :=
  (.opt (LoopN.res L_dup_All_3 ([], x, lenI x, 0) ()) fun p0 =>
   (.ret (p0.2.1)))
def G_dup_All (x : dens A_dup_All) : Bool := (T_dup_All x).val.isSome
def V_dup_All (x : dens A_dup_All) : Sh.den S_dup_All := (T_dup_All x).getO default
theorem ok_dup_All (x : dens A_dup_All) (h : G_dup_All x = true) : (T_dup_All x).val = some (V_dup_All x) := PO.getO_ok default h
/-- hauberkref28.All -/
abbrev A_hauberkref28_All : List Ty := [(.sl tItem)]
abbrev S_hauberkref28_All : Sh := Sh.osl 32 tItem
def T_hauberkref28_All (x : dens A_hauberkref28_All) : PO (Sh.den S_hauberkref28_All) :=
  (.opt (LoopN.res L_hauberkref28_All_3 (x, [], 0) ()) fun p0 =>
   (.ret (p0.2.1)))
def G_hauberkref28_All (x : dens A_hauberkref28_All) : Bool := (T_hauberkref28_All x).val.isSome
def V_hauberkref28_All (x : dens A_hauberkref28_All) : Sh.den S_hauberkref28_All := (T_hauberkref28_All x).getO default
theorem ok_hauberkref28_All (x : dens A_hauberkref28_All) (h : G_hauberkref28_All x = true) : (T_hauberkref28_All x).val = some (V_hauberkref28_All x) := PO.getO_ok default h
/-- hauberklaw28.lives: an example, computed -/
abbrev A_hauberklaw28_lives : List Ty := []
abbrev S_hauberklaw28_lives : Sh := .ty .bool
def T_hauberklaw28_lives (_ : dens A_hauberklaw28_lives) : PO Bool := .ret true
def G_hauberklaw28_lives (_ : dens A_hauberklaw28_lives) : Bool := true
def V_hauberklaw28_lives (_ : dens A_hauberklaw28_lives) : Bool := true
theorem ok_hauberklaw28_lives (x : dens A_hauberklaw28_lives) (_ : G_hauberklaw28_lives x = true) : (T_hauberklaw28_lives x).val = some (V_hauberklaw28_lives x) := rfl
/-- hauberklaw28.DupTells -/
abbrev A_hauberklaw28_DupTells : List Ty := [(.sl tItem)]
abbrev S_hauberklaw28_DupTells : Sh := Sh.ty Ty.bool
def T_hauberklaw28_DupTells (x : dens A_hauberklaw28_DupTells) : PO (Sh.den S_hauberklaw28_DupTells) :=
  (.ite (G_dup_All x && (G_hauberkref28_All x && (G_hauberkref28_Same (V_dup_All x, V_hauberkref28_All x) && (V_hauberkref28_Same (V_dup_All x, V_hauberkref28_All x) || true))))
   (.ret (V_hauberkref28_Same (V_dup_All x, V_hauberkref28_All x) && true))
   .fail)
end Go.Av
