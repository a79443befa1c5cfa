/- Layer 4: items laid out, and as bytes. -/
import Derived.Test.YtehcaooipfgklaaPEncEq
namespace Go.Av
open Go

/-- The assembler: its items, base, labels (box m) and wide branches (box w). -/
abbrev shAsm (m w : Nat) : Sh := .pair (.ty (.sl tItem)) (.pair (.ty (.int .i64)) (.pair (.mp m) (.pair (.win w .bool) (.ty .unit))))

/-- asm.isWide -/
abbrev A_asm_isWide : List Ty := [(.sl .bool), (.int .i64)]
abbrev S_asm_isWide : Sh := Sh.ty Ty.bool
def T_asm_isWide (x : dens A_asm_isWide) : PO (Sh.den S_asm_isWide) :=
  (.ite (bif decide (x.2 < lenI x.1) then inRange x.2 (List.length x.1) else true)
   (.ret (decide (x.2 < lenI x.1) && List.getD x.1 (Int.toNat x.2) (Ty.dflt Ty.bool)))
   .fail)
def G_asm_isWide (x : dens A_asm_isWide) : Bool := (T_asm_isWide x).val.isSome
def V_asm_isWide (x : dens A_asm_isWide) : Sh.den S_asm_isWide := (T_asm_isWide x).getO default
theorem ok_asm_isWide (x : dens A_asm_isWide) (h : G_asm_isWide x = true) : (T_asm_isWide x).val = some (V_asm_isWide x) := PO.getO_ok default h
/-- asm.branch -/
abbrev A_asm_branch : List Ty := [tIns]
abbrev S_asm_branch : Sh := Sh.ty Ty.bool
def T_asm_branch (x : dens A_asm_branch) : PO (Sh.den S_asm_branch) :=
  (.ite (x.1 == 24)
   (.ret (x.2.2.2.2.2.2.1 == 0))
   (.ite (x.1 == 25)
    (.ret (decide (x.2.2.2.2.2.2.1 ≥ 0) && decide (x.2.2.2.2.2.2.1 ≤ 13)))
    (.ret (false))))
def G_asm_branch (_ : dens A_asm_branch) : Bool := true
def V_asm_branch (x : dens A_asm_branch) : Sh.den S_asm_branch := (T_asm_branch x).getO default
theorem ok_asm_branch (x : dens A_asm_branch) (_ : G_asm_branch x = true) : (T_asm_branch x).val = some (V_asm_branch x) := PO.sure_ok default (by simp [T_asm_branch, PO.sure])
/-- asm.item -/
abbrev A_asm_item : List Ty := [tItem]
abbrev S_asm_item : Sh := Sh.ty Ty.bool
def T_asm_item (x : dens A_asm_item) : PO (Sh.den S_asm_item) :=
  (.ite (bif x.1 == 0 then x.1 == 0 else x.1 == 1)
   (.ret (true))
   (.ite (x.1 == 2)
    (.ret (V_asm_branch x.2.2.1))
    (.ret (false))))
def G_asm_item (_ : dens A_asm_item) : Bool := true
def V_asm_item (x : dens A_asm_item) : Sh.den S_asm_item := (T_asm_item x).getO default
theorem ok_asm_item (x : dens A_asm_item) (_ : G_asm_item x = true) : (T_asm_item x).val = some (V_asm_item x) := PO.sure_ok default (by simp [T_asm_item, PO.sure])
def L_asm_Lay_3 : LoopN where
  M := [1, 2, 7, 14, 15, 16]
  T := [8, 9, 17, 18, 19, 20, 21, 22, 23, 24, 25, 26, 27, 28, 29, 30, 31, 32, 33, 34, 35, 36, 37, 38, 39, 40, 41, 42, 43, 44, 45, 46, 47, 48, 49, 50, 51]
  D := [2, 14, 15, 16]
  ss := [.ty (.int .i64), .ty (.sl .bool), .osl 0 (.int .i64), .ty (.sl tItem), .ty (.int .i64), .ty (.int .i64)]
  hs := []
  es := [.exit 0]
  σ := (Ty.den (.int .i64)) × (List (Ty.den (.int .i64))) × (Ty.den (.int .i64))
  x0 := fun x _ => (x.1, x.2.2.1, x.2.2.2.2.2)
  put := fun x _ s => ((s.1, x.2.1, s.2.1, x.2.2.2.1, x.2.2.2.2.1, s.2.2), ())
  fuel := fun x _ => List.length x.2.2.2.1 + 1
  turn := fun x _ s =>
  (.ite (decide (s.2.2 < x.2.2.2.2.1))
   (.ite (inRange s.2.2 (List.length x.2.2.2.1))
    (.ite (Nat.ble ((List.length s.2.1 + List.length [s.1]) * 8) 140737488355328)
     (.ite ((List.getD x.2.2.2.1 (Int.toNat s.2.2) (Ty.dflt tItem)).1 == 0 || bif (List.getD x.2.2.2.1 (Int.toNat s.2.2) (Ty.dflt tItem)).1 == 2 then G_asm_isWide (x.2.1, s.2.2) else true)
      (.ret (.on (bif (List.getD x.2.2.2.1 (Int.toNat s.2.2) (Ty.dflt tItem)).1 == 0 then w64 (s.1 + V_thumb_Size (List.getD x.2.2.2.1 (Int.toNat s.2.2) (Ty.dflt tItem)).2.2.1) else bif (List.getD x.2.2.2.1 (Int.toNat s.2.2) (Ty.dflt tItem)).1 == 2 && V_asm_isWide (x.2.1, s.2.2) then w64 (s.1 + 4) else bif (List.getD x.2.2.2.1 (Int.toNat s.2.2) (Ty.dflt tItem)).1 == 2 then w64 (s.1 + 2) else s.1, s.2.1 ++ [s.1], w64 (s.2.2 + 1))))
      .fail)
     .fail)
    .fail)
   (.ret (.out 0 (s.1, s.2.1, s.2.2))))
/-- asm.Lay -/
abbrev A_asm_Lay : List Ty := [(.sl tItem), (.int .i64), (.sl .bool)]
abbrev S_asm_Lay : Sh := Sh.osl 32 (Ty.int IntKind.i64)
def T_asm_Lay (x : dens A_asm_Lay) : PO (Sh.den S_asm_Lay) :=
  (.ite (roomOk (w64 (lenI x.1 + 1)) 8)
   (.opt (LoopN.res L_asm_Lay_3 (x.2.1, x.2.2, [], x.1, lenI x.1, 0) ()) fun p0 =>
    (.ite (Nat.ble ((List.length p0.2.2.1 + List.length [p0.2.1]) * 8) 140737488355328)
     (.ret (p0.2.2.1 ++ [p0.2.1]))
     .fail))
   .fail)
def G_asm_Lay (x : dens A_asm_Lay) : Bool := (T_asm_Lay x).val.isSome
def V_asm_Lay (x : dens A_asm_Lay) : Sh.den S_asm_Lay := (T_asm_Lay x).getO default
theorem ok_asm_Lay (x : dens A_asm_Lay) (h : G_asm_Lay x = true) : (T_asm_Lay x).val = some (V_asm_Lay x) := PO.getO_ok default h
def L_asm_assembler_great_3 : LoopN where
  M := [0, 3, 12, 13]
  T := [4, 14, 15, 16, 17, 18, 19]
  D := [12, 13]
  ss := [.box 0 0, .win 1 .bool, .ty (.int .i64), .ty (.int .i64)]
  hs := [shAsm 2 3, .rowc .bool, .mapc, .rowc .bool]
  es := [.exit 0]
  σ := (Ty.den (.int .i64)) × (Sh.den (shAsm 2 3)) × (Sh.den (.rowc .bool)) × (Sh.den (.mapc)) × (Sh.den (.rowc .bool))
  x0 := fun x y => (x.2.2.2, y.1, y.2.1, y.2.2.1, y.2.2.2)
  put := fun x _ s => ((x.1, x.2.1, x.2.2.1, s.1), (s.2.1, s.2.2.1, s.2.2.2.1, s.2.2.2.2))
  fuel := fun _ y => List.length y.2.1+1
  turn := fun x _ s =>
  (.ite (decide (s.1 < x.2.2.1))
   (.ite (inRange s.1 x.2.1.2)
    (.ret (.on (w64 (s.1 + 1), s.2.1, List.set s.2.2.1 (nplus x.2.1.1 s.1) true, s.2.2.2.1, s.2.2.2.2)))
    .fail)
   (.ret (.out 0 (s.1, s.2.1, s.2.2.1, s.2.2.2.1, s.2.2.2.2))))
def L_asm_assembler_items_2 : LoopN where
  M := [0, 2, 11, 12, 13]
  T := [4, 14, 15, 16, 17, 18, 19, 20]
  D := [11, 12, 13]
  ss := [.box 0 0, .ty (.int .i64), .ty (.sl tItem), .ty (.int .i64), .ty (.int .i64)]
  hs := [shAsm 1 2, .mapc, .rowc .bool]
  es := [.exit 0, .ret]
  σ := (Ty.den (.int .i64)) × (Ty.den (.int .i64)) × (Sh.den (shAsm 1 2)) × (Sh.den (.mapc)) × (Sh.den (.rowc .bool))
  x0 := fun x y => (x.2.1, x.2.2.2.2, y.1, y.2.1, y.2.2)
  put := fun x _ s => ((x.1, s.1, x.2.2.1, x.2.2.2.1, s.2.1), (s.2.2.1, s.2.2.2.1, s.2.2.2.2))
  fuel := fun _ y => List.length y.1.1+1
  turn := fun x _ s =>
  (.ite (decide (s.2.1 < x.2.2.2.1))
   (.ite (inRange s.2.1 (List.length x.2.2.1))
    (.ite (!V_asm_item (List.getD x.2.2.1 (Int.toNat s.2.1) (Ty.dflt tItem)))
     (.ret (.out 1 (2, s.2.1, s.2.2.1, s.2.2.2.1, s.2.2.2.2)))
     (.ret (.on (s.1, w64 (s.2.1 + 1), s.2.2.1, s.2.2.2.1, s.2.2.2.2))))
    .fail)
   (.ret (.out 0 (s.1, s.2.1, s.2.2.1, s.2.2.2.1, s.2.2.2.2))))
def L_asm_assembler_items_8 : LoopN where
  M := [2, 24, 25, 26]
  T := [6, 7, 27, 28, 29, 30, 31, 32, 33, 34, 35, 36, 37, 38, 39]
  D := [24, 25, 26]
  ss := [.ty (.int .i64), .ty (.sl tItem), .ty (.int .i64), .ty (.int .i64)]
  hs := []
  es := [.exit 2, .ret]
  σ := (Ty.den (.int .i64)) × (Ty.den (.int .i64))
  x0 := fun x _ => (x.1, x.2.2.2)
  put := fun x _ s => ((s.1, x.2.1, x.2.2.1, s.2), ())
  fuel := fun x _ => List.length x.2.1+1
  turn := fun x _ s =>
  (.ite (decide (s.2 < x.2.2.1))
   (.ite (inRange s.2 (List.length x.2.1))
    (.ite ((List.getD x.2.1 (Int.toNat s.2) (Ty.dflt tItem)).1 != 0)
     (.ret (.on (s.1, w64 (s.2 + 1))))
     (.ite (V_thumb_Check (List.getD x.2.1 (Int.toNat s.2) (Ty.dflt tItem)).2.2.1 != 0)
      (.ret (.out 1 (V_thumb_Check (List.getD x.2.1 (Int.toNat s.2) (Ty.dflt tItem)).2.2.1, s.2)))
      (.ret (.on (s.1, w64 (s.2 + 1))))))
    .fail)
   (.ret (.out 0 (s.1, s.2))))
def L_asm_assembler_names_2 : LoopN where
  M := [0, 2, 14, 15, 16]
  T := [3, 4, 5, 6, 17, 18, 19, 20, 21, 22, 23, 24, 25, 26, 27, 28, 29, 30, 31, 32, 33, 34, 35, 36, 37, 38, 39, 40, 41, 42]
  D := [14, 15, 16]
  ss := [.box 0 0, .ty (.int .i64), .ty (.sl tItem), .ty (.int .i64), .ty (.int .i64)]
  hs := [shAsm 1 2, .mapc, .rowc .bool]
  es := [.exit 0, .ret]
  σ := (Ty.den (.int .i64)) × (Ty.den (.int .i64)) × (Sh.den (shAsm 1 2)) × (Sh.den (.mapc)) × (Sh.den (.rowc .bool))
  x0 := fun x y => (x.2.1, x.2.2.2.2, y.1, y.2.1, y.2.2)
  put := fun x _ s => ((x.1, s.1, x.2.2.1, x.2.2.2.1, s.2.1), (s.2.2.1, s.2.2.2.1, s.2.2.2.2))
  fuel := fun _ y => List.length y.1.1+1
  turn := fun x _ s =>
  (.ite (decide (s.2.1 < x.2.2.2.1))
   (.ite (inRange s.2.1 (List.length x.2.2.1))
    (.ite ((List.getD x.2.2.1 (Int.toNat s.2.1) (Ty.dflt tItem)).1 != 1)
     (.ret (.on (s.1, w64 (s.2.1 + 1), s.2.2.1, s.2.2.2.1, s.2.2.2.2)))
     (.ite (mhas s.2.2.2.1 (List.getD x.2.2.1 (Int.toNat s.2.1) (Ty.dflt tItem)).2.1)
      (.ret (.out 1 (13, s.2.1, s.2.2.1, s.2.2.2.1, s.2.2.2.2)))
      (.ret (.on (s.1, w64 (s.2.1 + 1), s.2.2.1, mput s.2.2.2.1 (List.getD x.2.2.1 (Int.toNat s.2.1) (Ty.dflt tItem)).2.1 s.2.1, s.2.2.2.2)))))
    .fail)
   (.ret (.out 0 (s.1, s.2.1, s.2.2.1, s.2.2.2.1, s.2.2.2.2))))
def L_asm_assembler_names_11 : LoopN where
  M := [0, 2, 46, 47, 48]
  T := [8, 9, 10, 49, 50, 51, 52, 53, 54, 55, 56, 57, 58, 59, 60, 61, 62, 63, 64, 65, 66, 67, 68, 69]
  D := [0, 46, 47, 48]
  ss := [.box 0 0, .ty (.int .i64), .ty (.sl tItem), .ty (.int .i64), .ty (.int .i64)]
  hs := [shAsm 1 2, .mapc, .rowc .bool]
  es := [.exit 2, .ret]
  σ := (Ty.den (.int .i64)) × (Ty.den (.int .i64)) × (Sh.den (shAsm 1 2)) × (Sh.den (.mapc)) × (Sh.den (.rowc .bool))
  x0 := fun x y => (x.2.1, x.2.2.2.2, y.1, y.2.1, y.2.2)
  put := fun x _ s => ((x.1, s.1, x.2.2.1, x.2.2.2.1, s.2.1), (s.2.2.1, s.2.2.2.1, s.2.2.2.2))
  fuel := fun _ y => List.length y.1.1+1
  turn := fun x _ s =>
  (.ite (decide (s.2.1 < x.2.2.2.1))
   (.ite (inRange s.2.1 (List.length x.2.2.1))
    (.ite ((List.getD x.2.2.1 (Int.toNat s.2.1) (Ty.dflt tItem)).1 == 2 && !mhas s.2.2.2.1 (List.getD x.2.2.1 (Int.toNat s.2.1) (Ty.dflt tItem)).2.1)
     (.ret (.out 1 (12, s.2.1, s.2.2.1, s.2.2.2.1, s.2.2.2.2)))
     (.ret (.on (s.1, w64 (s.2.1 + 1), s.2.2.1, s.2.2.2.1, s.2.2.2.2))))
    .fail)
   (.ret (.out 0 (s.1, s.2.1, s.2.2.1, s.2.2.2.1, s.2.2.2.2))))
end Go.Av
