/- Layer 4: the assembler, as it is walked. -/
import Derived.Test.YtehcaooipfgklaaPRefAsm
import Derived.Test.YtehcaooipfgklaaPAsmOff
import Derived.Test.YtehcaooipfgklaaPAsmBld
namespace Go.Av
open Go

abbrev tRun : Ty := .pair tItem (.pair (.int .i64) .unit)

def L_hauberklaw04_Items_6 : LoopN where
  M := [0, 3, 4, 5]
  T := [16, 17, 18, 19, 20, 21, 22, 23, 24, 25, 26, 27, 28, 29, 30, 31, 32, 33, 34, 35, 36]
  D := [5]
  ss := [.ty (.sl tRun), .osl 0 tItem, .ty (.int .i64), .ty (.int .i64)]
  hs := []
  es := [.exit 2]
  σ := (List (Ty.den tItem)) × (Ty.den (.int .i64))
  x0 := fun x _ => (x.2.1, x.2.2.2)
  put := fun x _ s => ((x.1, s.1, x.2.2.1, s.2), ())
  fuel := fun _ _ => 701
  turn := fun x _ s =>
  (.ite (inRange x.2.2.1 (List.length x.1))
   (.ite (decide (s.2 < (List.getD x.1 (Int.toNat x.2.2.1) (Ty.dflt tRun)).2.1) && decide (s.2 < 700))
    (.ite (inRange x.2.2.1 (List.length x.1))
     (.ite (Nat.ble ((List.length s.1 + List.length [(List.getD x.1 (Int.toNat x.2.2.1) (Ty.dflt tRun)).1]) * 80) 140737488355328)
      (.ret (.on (s.1 ++ [(List.getD x.1 (Int.toNat x.2.2.1) (Ty.dflt tRun)).1], w64 (s.2 + 1))))
      .fail)
     .fail)
    (.ret (.out 0 (s.1, s.2))))
   .fail)
def L_hauberklaw04_Items_3 : LoopN where
  M := [0, 3, 4]
  T := [5, 6, 7, 8, 9, 10, 11, 12, 13, 14, 15, 16, 17, 18, 19, 20, 21, 22, 23, 24, 25, 26, 27, 28, 29, 30, 31, 32, 33, 34, 35, 36]
  D := [0, 4]
  ss := [.ty (.sl tRun), .osl 0 tItem, .ty (.int .i64)]
  hs := []
  es := [.exit 0]
  σ := (List (Ty.den tItem)) × (Ty.den (.int .i64))
  x0 := fun x _ => (x.2.1, x.2.2)
  put := fun x _ s => ((x.1, s.1, s.2), ())
  fuel := fun _ _ => 31
  turn := fun x _ s =>
  (.ite (decide (s.2 < lenI x.1) && decide (s.2 < 30))
   (.opt (LoopN.res L_hauberklaw04_Items_6 (x.1, s.1, s.2, 0) ()) fun p0 =>
    (.ret (.on (p0.2.1, w64 (s.2 + 1)))))
   (.ret (.out 0 (s.1, s.2))))
/-- hauberklaw04.Items -/
abbrev A_hauberklaw04_Items : List Ty := [(.sl tRun)]
abbrev S_hauberklaw04_Items : Sh := Sh.osl 32 tItem
def T_hauberklaw04_Items (x : dens A_hauberklaw04_Items) : PO (Sh.den S_hauberklaw04_Items) :=
  (.opt (LoopN.res L_hauberklaw04_Items_3 (x, [], 0) ()) fun p0 =>
   (.ret (p0.2.1)))
def G_hauberklaw04_Items (x : dens A_hauberklaw04_Items) : Bool := (T_hauberklaw04_Items x).val.isSome
def V_hauberklaw04_Items (x : dens A_hauberklaw04_Items) : Sh.den S_hauberklaw04_Items := (T_hauberklaw04_Items x).getO default
theorem ok_hauberklaw04_Items (x : dens A_hauberklaw04_Items) (h : G_hauberklaw04_Items x = true) : (T_hauberklaw04_Items x).val = some (V_hauberklaw04_Items x) := PO.getO_ok default h
def L_hauberk_hauberklaw04_Places_Same_4 : LoopN where
  M := [0, 1, 4, 5]
  T := [11, 12, 13, 14, 15, 16, 17, 18, 19, 20, 21, 22, 23, 24, 25]
  D := [0, 1, 5]
  ss := [.ty (.sl tPlace), .ty (.sl tPlace), .ty .bool, .ty (.int .i64)]
  hs := []
  es := [.exit 0, .ret]
  σ := (Ty.den .bool) × (Ty.den (.int .i64))
  x0 := fun x _ => (x.2.2.1, x.2.2.2)
  put := fun x _ s => ((x.1, x.2.1, s.1, s.2), ())
  fuel := fun x _ => List.length x.1+1
  turn := fun x _ s =>
  (.ite (decide (s.2 < lenI x.1))
   (.ite (inRange s.2 (List.length x.1) && inRange s.2 (List.length x.2.1))
    (.ite (!Ty.eqb tPlace (List.getD x.1 (Int.toNat s.2) (Ty.dflt tPlace)) (List.getD x.2.1 (Int.toNat s.2) (Ty.dflt tPlace)))
     (.ret (.out 1 (false, s.2)))
     (.ret (.on (s.1, w64 (s.2 + 1)))))
    .fail)
   (.ret (.out 0 (s.1, s.2))))
/-- (hauberk/hauberklaw04.Places).Same -/
abbrev A_hauberk_hauberklaw04_Places_Same : List Ty := [(.sl tPlace), (.sl tPlace)]
abbrev S_hauberk_hauberklaw04_Places_Same : Sh := Sh.ty Ty.bool
def T_hauberk_hauberklaw04_Places_Same (x : dens A_hauberk_hauberklaw04_Places_Same) : PO (Sh.den S_hauberk_hauberklaw04_Places_Same) :=
  (.ite (lenI x.1 != lenI x.2)
   (.ret (false))
   (.opt (LoopN.res L_hauberk_hauberklaw04_Places_Same_4 (x.1, x.2, false, 0) ()) fun p0 =>
    (.ite (way p0.1)
     (.ret (true))
     (.ret (p0.2.1)))))
def G_hauberk_hauberklaw04_Places_Same (x : dens A_hauberk_hauberklaw04_Places_Same) : Bool := (T_hauberk_hauberklaw04_Places_Same x).val.isSome
def V_hauberk_hauberklaw04_Places_Same (x : dens A_hauberk_hauberklaw04_Places_Same) : Sh.den S_hauberk_hauberklaw04_Places_Same := (T_hauberk_hauberklaw04_Places_Same x).getO default
theorem ok_hauberk_hauberklaw04_Places_Same (x : dens A_hauberk_hauberklaw04_Places_Same) (h : G_hauberk_hauberklaw04_Places_Same x = true) : (T_hauberk_hauberklaw04_Places_Same x).val = some (V_hauberk_hauberklaw04_Places_Same x) := PO.getO_ok default h
/-- (*asm.assembler).items -/
abbrev SS_asm_assembler_items : List Sh := [.box 0 0]
abbrev HS_asm_assembler_items : List Sh := [shAsm 1 2, .mapc, .rowc .bool]
abbrev S_asm_assembler_items : Sh := Sh.ty (Ty.int IntKind.i64)
abbrev HT_asm_assembler_items : List Sh := [Sh.pair (Sh.ty (Ty.sl tItem)) (Sh.pair (Sh.ty (Ty.int IntKind.i64)) (Sh.pair (Sh.mp 1) (Sh.pair (Sh.win 2 Ty.bool) (Sh.ty Ty.unit)))), Sh.mapc, Sh.rowc Ty.bool]
def T_asm_assembler_items (_ : shDens SS_asm_assembler_items) (y : shDens HS_asm_assembler_items) : PO (Sh.den S_asm_assembler_items × shDens HT_asm_assembler_items) :=
  (.opt (LoopN.res L_asm_assembler_items_2 ((), 0, y.1.1, lenI y.1.1, 0) ((y.1.1, y.1.2.1, (), y.1.2.2.2), y.2)) fun p0 =>
   (.ite (way p0.1)
    (.opt (LoopN.res L_asm_assembler_items_8 (p0.2.1, p0.2.2.2.1.1, lenI p0.2.2.2.1.1, 0) ()) fun p1 =>
     (.ite (way p1.1)
      (.ret (0, ((p0.2.2.2.1.1, p0.2.2.2.1.2.1, (), p0.2.2.2.1.2.2.2), p0.2.2.2.2.1, p0.2.2.2.2.2)))
      (.ret (p1.2.1, ((p0.2.2.2.1.1, p0.2.2.2.1.2.1, (), p0.2.2.2.1.2.2.2), p0.2.2.2.2.1, p0.2.2.2.2.2)))))
    (.ret (p0.2.1, ((p0.2.2.2.1.1, p0.2.2.2.1.2.1, (), p0.2.2.2.1.2.2.2), p0.2.2.2.2.1, p0.2.2.2.2.2)))))
def G_asm_assembler_items (x : shDens SS_asm_assembler_items) (y : shDens HS_asm_assembler_items) : Bool := (T_asm_assembler_items x y).val.isSome
def V_asm_assembler_items (x : shDens SS_asm_assembler_items) (y : shDens HS_asm_assembler_items) : Sh.den S_asm_assembler_items × shDens HT_asm_assembler_items := (T_asm_assembler_items x y).getO default
theorem ok_asm_assembler_items (x : shDens SS_asm_assembler_items) (y : shDens HS_asm_assembler_items) (h : G_asm_assembler_items x y = true) : (T_asm_assembler_items x y).val = some (V_asm_assembler_items x y) := PO.getO_ok default h
/-- (*asm.assembler).names -/
abbrev SS_asm_assembler_names : List Sh := [.box 0 0]
abbrev HS_asm_assembler_names : List Sh := [shAsm 1 2, .mapc, .rowc .bool]
abbrev S_asm_assembler_names : Sh := Sh.ty (Ty.int IntKind.i64)
abbrev HT_asm_assembler_names : List Sh := [Sh.pair (Sh.ty (Ty.sl tItem)) (Sh.pair (Sh.ty (Ty.int IntKind.i64)) (Sh.pair (Sh.mp 1) (Sh.pair (Sh.win 2 Ty.bool) (Sh.ty Ty.unit)))), Sh.mapc, Sh.rowc Ty.bool]
def T_asm_assembler_names (_ : shDens SS_asm_assembler_names) (y : shDens HS_asm_assembler_names) : PO (Sh.den S_asm_assembler_names × shDens HT_asm_assembler_names) :=
  (.opt (LoopN.res L_asm_assembler_names_2 ((), 0, y.1.1, lenI y.1.1, 0) ((y.1.1, y.1.2.1, (), y.1.2.2.2), y.2)) fun p0 =>
   (.ite (way p0.1)
    (.opt (LoopN.res L_asm_assembler_names_11 ((), p0.2.1, p0.2.2.2.1.1, lenI p0.2.2.2.1.1, 0) ((p0.2.2.2.1.1, p0.2.2.2.1.2.1, (), p0.2.2.2.1.2.2.2), p0.2.2.2.2)) fun p1 =>
     (.ite (way p1.1)
      (.ret (0, ((p1.2.2.2.1.1, p1.2.2.2.1.2.1, (), p1.2.2.2.1.2.2.2), p1.2.2.2.2.1, p1.2.2.2.2.2)))
      (.ret (p1.2.1, ((p1.2.2.2.1.1, p1.2.2.2.1.2.1, (), p1.2.2.2.1.2.2.2), p1.2.2.2.2.1, p1.2.2.2.2.2)))))
    (.ret (p0.2.1, ((p0.2.2.2.1.1, p0.2.2.2.1.2.1, (), p0.2.2.2.1.2.2.2), p0.2.2.2.2.1, p0.2.2.2.2.2)))))
def G_asm_assembler_names (x : shDens SS_asm_assembler_names) (y : shDens HS_asm_assembler_names) : Bool := (T_asm_assembler_names x y).val.isSome
def V_asm_assembler_names (x : shDens SS_asm_assembler_names) (y : shDens HS_asm_assembler_names) : Sh.den S_asm_assembler_names × shDens HT_asm_assembler_names := (T_asm_assembler_names x y).getO default
theorem ok_asm_assembler_names (x : shDens SS_asm_assembler_names) (y : shDens HS_asm_assembler_names) (h : G_asm_assembler_names x y = true) : (T_asm_assembler_names x y).val = some (V_asm_assembler_names x y) := PO.getO_ok default h
/-- (*asm.assembler).great -/
abbrev SS_asm_assembler_great : List Sh := [.box 0 0]
abbrev HS_asm_assembler_great : List Sh := [shAsm 1 2, .mapc, .rowc .bool]
abbrev S_asm_assembler_great : Sh := Sh.ty Ty.bool
abbrev HT_asm_assembler_great : List Sh := [Sh.pair (Sh.ty (Ty.sl tItem)) (Sh.pair (Sh.ty (Ty.int IntKind.i64)) (Sh.pair (Sh.mp 1) (Sh.pair (Sh.win 2 Ty.bool) (Sh.ty Ty.unit)))), Sh.mapc, Sh.rowc Ty.bool]
def T_asm_assembler_great (_ : shDens SS_asm_assembler_great) (y : shDens HS_asm_assembler_great) : PO (Sh.den S_asm_assembler_great × shDens HT_asm_assembler_great) :=
  (.ite (roomOk (lenI y.1.1) 1)
   (.opt (LoopN.res L_asm_assembler_great_3 ((), (0, nspan 0 (lenI y.1.1)), Int.ofNat (nspan 0 (lenI y.1.1)), 0) ((y.1.1, y.1.2.1, (), y.1.2.2.2), zeros (lenI y.1.1) false, y.2)) fun p0 =>
    (.ite (G_asm_Lay (p0.2.2.1.1, 0, shown p0.2.2.2.1 (0, nspan 0 (lenI y.1.1))) && inRange (lenI p0.2.2.1.1) (List.length (V_asm_Lay (p0.2.2.1.1, 0, shown p0.2.2.2.1 (0, nspan 0 (lenI y.1.1))))))
     (.ret (decide (List.getD (V_asm_Lay (p0.2.2.1.1, 0, shown p0.2.2.2.1 (0, nspan 0 (lenI y.1.1)))) (Int.toNat (lenI p0.2.2.1.1)) (Ty.dflt (Ty.int IntKind.i64)) > 262144), ((p0.2.2.1.1, p0.2.2.1.2.1, (), p0.2.2.1.2.2.2), p0.2.2.2.2.1, p0.2.2.2.2.2)))
     .fail))
   .fail)
def G_asm_assembler_great (x : shDens SS_asm_assembler_great) (y : shDens HS_asm_assembler_great) : Bool := (T_asm_assembler_great x y).val.isSome
def V_asm_assembler_great (x : shDens SS_asm_assembler_great) (y : shDens HS_asm_assembler_great) : Sh.den S_asm_assembler_great × shDens HT_asm_assembler_great := (T_asm_assembler_great x y).getO default
theorem ok_asm_assembler_great (x : shDens SS_asm_assembler_great) (y : shDens HS_asm_assembler_great) (h : G_asm_assembler_great x y = true) : (T_asm_assembler_great x y).val = some (V_asm_assembler_great x y) := PO.getO_ok default h
/-- (*asm.assembler).check -/
abbrev SS_asm_assembler_check : List Sh := [.box 0 0]
abbrev HS_asm_assembler_check : List Sh := [shAsm 1 2, .mapc, .rowc .bool]
abbrev S_asm_assembler_check : Sh := Sh.ty (Ty.int IntKind.i64)
abbrev HT_asm_assembler_check : List Sh := [Sh.pair (Sh.ty (Ty.sl tItem)) (Sh.pair (Sh.ty (Ty.int IntKind.i64)) (Sh.pair (Sh.mp 1) (Sh.pair (Sh.win 2 Ty.bool) (Sh.ty Ty.unit)))), Sh.mapc, Sh.rowc Ty.bool]
def T_asm_assembler_check (_ : shDens SS_asm_assembler_check) (y : shDens HS_asm_assembler_check) : PO (Sh.den S_asm_assembler_check × shDens HT_asm_assembler_check) :=
  (.ite (decide (y.1.2.1 < 0) || (decide (y.1.2.1 > 262144) || band IntKind.i64 y.1.2.1 1 != 0))
   (.ret (2, ((y.1.1, y.1.2.1, (), y.1.2.2.2), y.2.1, y.2.2)))
   (.ite (G_asm_assembler_items () ((y.1.1, y.1.2.1, (), y.1.2.2.2), y.2))
    (.ite ((V_asm_assembler_items () ((y.1.1, y.1.2.1, (), y.1.2.2.2), y.2)).1 != 0)
     (.ret ((V_asm_assembler_items () ((y.1.1, y.1.2.1, (), y.1.2.2.2), y.2)).1, (((V_asm_assembler_items () ((y.1.1, y.1.2.1, (), y.1.2.2.2), y.2)).2.1.1, (V_asm_assembler_items () ((y.1.1, y.1.2.1, (), y.1.2.2.2), y.2)).2.1.2.1, (), (V_asm_assembler_items () ((y.1.1, y.1.2.1, (), y.1.2.2.2), y.2)).2.1.2.2.2), (V_asm_assembler_items () ((y.1.1, y.1.2.1, (), y.1.2.2.2), y.2)).2.2.1, (V_asm_assembler_items () ((y.1.1, y.1.2.1, (), y.1.2.2.2), y.2)).2.2.2)))
     (.ite (G_asm_assembler_names () (((V_asm_assembler_items () ((y.1.1, y.1.2.1, (), y.1.2.2.2), y.2)).2.1.1, (V_asm_assembler_items () ((y.1.1, y.1.2.1, (), y.1.2.2.2), y.2)).2.1.2.1, (), (V_asm_assembler_items () ((y.1.1, y.1.2.1, (), y.1.2.2.2), y.2)).2.1.2.2.2), (V_asm_assembler_items () ((y.1.1, y.1.2.1, (), y.1.2.2.2), y.2)).2.2))
      (.ite ((V_asm_assembler_names () (((V_asm_assembler_items () ((y.1.1, y.1.2.1, (), y.1.2.2.2), y.2)).2.1.1, (V_asm_assembler_items () ((y.1.1, y.1.2.1, (), y.1.2.2.2), y.2)).2.1.2.1, (), (V_asm_assembler_items () ((y.1.1, y.1.2.1, (), y.1.2.2.2), y.2)).2.1.2.2.2), (V_asm_assembler_items () ((y.1.1, y.1.2.1, (), y.1.2.2.2), y.2)).2.2)).1 != 0)
       (.ret ((V_asm_assembler_names () (((V_asm_assembler_items () ((y.1.1, y.1.2.1, (), y.1.2.2.2), y.2)).2.1.1, (V_asm_assembler_items () ((y.1.1, y.1.2.1, (), y.1.2.2.2), y.2)).2.1.2.1, (), (V_asm_assembler_items () ((y.1.1, y.1.2.1, (), y.1.2.2.2), y.2)).2.1.2.2.2), (V_asm_assembler_items () ((y.1.1, y.1.2.1, (), y.1.2.2.2), y.2)).2.2)).1, (((V_asm_assembler_names () (((V_asm_assembler_items () ((y.1.1, y.1.2.1, (), y.1.2.2.2), y.2)).2.1.1, (V_asm_assembler_items () ((y.1.1, y.1.2.1, (), y.1.2.2.2), y.2)).2.1.2.1, (), (V_asm_assembler_items () ((y.1.1, y.1.2.1, (), y.1.2.2.2), y.2)).2.1.2.2.2), (V_asm_assembler_items () ((y.1.1, y.1.2.1, (), y.1.2.2.2), y.2)).2.2)).2.1.1, (V_asm_assembler_names () (((V_asm_assembler_items () ((y.1.1, y.1.2.1, (), y.1.2.2.2), y.2)).2.1.1, (V_asm_assembler_items () ((y.1.1, y.1.2.1, (), y.1.2.2.2), y.2)).2.1.2.1, (), (V_asm_assembler_items () ((y.1.1, y.1.2.1, (), y.1.2.2.2), y.2)).2.1.2.2.2), (V_asm_assembler_items () ((y.1.1, y.1.2.1, (), y.1.2.2.2), y.2)).2.2)).2.1.2.1, (), (V_asm_assembler_names () (((V_asm_assembler_items () ((y.1.1, y.1.2.1, (), y.1.2.2.2), y.2)).2.1.1, (V_asm_assembler_items () ((y.1.1, y.1.2.1, (), y.1.2.2.2), y.2)).2.1.2.1, (), (V_asm_assembler_items () ((y.1.1, y.1.2.1, (), y.1.2.2.2), y.2)).2.1.2.2.2), (V_asm_assembler_items () ((y.1.1, y.1.2.1, (), y.1.2.2.2), y.2)).2.2)).2.1.2.2.2), (V_asm_assembler_names () (((V_asm_assembler_items () ((y.1.1, y.1.2.1, (), y.1.2.2.2), y.2)).2.1.1, (V_asm_assembler_items () ((y.1.1, y.1.2.1, (), y.1.2.2.2), y.2)).2.1.2.1, (), (V_asm_assembler_items () ((y.1.1, y.1.2.1, (), y.1.2.2.2), y.2)).2.1.2.2.2), (V_asm_assembler_items () ((y.1.1, y.1.2.1, (), y.1.2.2.2), y.2)).2.2)).2.2.1, (V_asm_assembler_names () (((V_asm_assembler_items () ((y.1.1, y.1.2.1, (), y.1.2.2.2), y.2)).2.1.1, (V_asm_assembler_items () ((y.1.1, y.1.2.1, (), y.1.2.2.2), y.2)).2.1.2.1, (), (V_asm_assembler_items () ((y.1.1, y.1.2.1, (), y.1.2.2.2), y.2)).2.1.2.2.2), (V_asm_assembler_items () ((y.1.1, y.1.2.1, (), y.1.2.2.2), y.2)).2.2)).2.2.2)))
       (.ite (G_asm_assembler_great () (((V_asm_assembler_names () (((V_asm_assembler_items () ((y.1.1, y.1.2.1, (), y.1.2.2.2), y.2)).2.1.1, (V_asm_assembler_items () ((y.1.1, y.1.2.1, (), y.1.2.2.2), y.2)).2.1.2.1, (), (V_asm_assembler_items () ((y.1.1, y.1.2.1, (), y.1.2.2.2), y.2)).2.1.2.2.2), (V_asm_assembler_items () ((y.1.1, y.1.2.1, (), y.1.2.2.2), y.2)).2.2)).2.1.1, (V_asm_assembler_names () (((V_asm_assembler_items () ((y.1.1, y.1.2.1, (), y.1.2.2.2), y.2)).2.1.1, (V_asm_assembler_items () ((y.1.1, y.1.2.1, (), y.1.2.2.2), y.2)).2.1.2.1, (), (V_asm_assembler_items () ((y.1.1, y.1.2.1, (), y.1.2.2.2), y.2)).2.1.2.2.2), (V_asm_assembler_items () ((y.1.1, y.1.2.1, (), y.1.2.2.2), y.2)).2.2)).2.1.2.1, (), (V_asm_assembler_names () (((V_asm_assembler_items () ((y.1.1, y.1.2.1, (), y.1.2.2.2), y.2)).2.1.1, (V_asm_assembler_items () ((y.1.1, y.1.2.1, (), y.1.2.2.2), y.2)).2.1.2.1, (), (V_asm_assembler_items () ((y.1.1, y.1.2.1, (), y.1.2.2.2), y.2)).2.1.2.2.2), (V_asm_assembler_items () ((y.1.1, y.1.2.1, (), y.1.2.2.2), y.2)).2.2)).2.1.2.2.2), (V_asm_assembler_names () (((V_asm_assembler_items () ((y.1.1, y.1.2.1, (), y.1.2.2.2), y.2)).2.1.1, (V_asm_assembler_items () ((y.1.1, y.1.2.1, (), y.1.2.2.2), y.2)).2.1.2.1, (), (V_asm_assembler_items () ((y.1.1, y.1.2.1, (), y.1.2.2.2), y.2)).2.1.2.2.2), (V_asm_assembler_items () ((y.1.1, y.1.2.1, (), y.1.2.2.2), y.2)).2.2)).2.2))
        (.ite ((V_asm_assembler_great () (((V_asm_assembler_names () (((V_asm_assembler_items () ((y.1.1, y.1.2.1, (), y.1.2.2.2), y.2)).2.1.1, (V_asm_assembler_items () ((y.1.1, y.1.2.1, (), y.1.2.2.2), y.2)).2.1.2.1, (), (V_asm_assembler_items () ((y.1.1, y.1.2.1, (), y.1.2.2.2), y.2)).2.1.2.2.2), (V_asm_assembler_items () ((y.1.1, y.1.2.1, (), y.1.2.2.2), y.2)).2.2)).2.1.1, (V_asm_assembler_names () (((V_asm_assembler_items () ((y.1.1, y.1.2.1, (), y.1.2.2.2), y.2)).2.1.1, (V_asm_assembler_items () ((y.1.1, y.1.2.1, (), y.1.2.2.2), y.2)).2.1.2.1, (), (V_asm_assembler_items () ((y.1.1, y.1.2.1, (), y.1.2.2.2), y.2)).2.1.2.2.2), (V_asm_assembler_items () ((y.1.1, y.1.2.1, (), y.1.2.2.2), y.2)).2.2)).2.1.2.1, (), (V_asm_assembler_names () (((V_asm_assembler_items () ((y.1.1, y.1.2.1, (), y.1.2.2.2), y.2)).2.1.1, (V_asm_assembler_items () ((y.1.1, y.1.2.1, (), y.1.2.2.2), y.2)).2.1.2.1, (), (V_asm_assembler_items () ((y.1.1, y.1.2.1, (), y.1.2.2.2), y.2)).2.1.2.2.2), (V_asm_assembler_items () ((y.1.1, y.1.2.1, (), y.1.2.2.2), y.2)).2.2)).2.1.2.2.2), (V_asm_assembler_names () (((V_asm_assembler_items () ((y.1.1, y.1.2.1, (), y.1.2.2.2), y.2)).2.1.1, (V_asm_assembler_items () ((y.1.1, y.1.2.1, (), y.1.2.2.2), y.2)).2.1.2.1, (), (V_asm_assembler_items () ((y.1.1, y.1.2.1, (), y.1.2.2.2), y.2)).2.1.2.2.2), (V_asm_assembler_items () ((y.1.1, y.1.2.1, (), y.1.2.2.2), y.2)).2.2)).2.2)).1)
         (.ret (5, (((V_asm_assembler_great () (((V_asm_assembler_names () (((V_asm_assembler_items () ((y.1.1, y.1.2.1, (), y.1.2.2.2), y.2)).2.1.1, (V_asm_assembler_items () ((y.1.1, y.1.2.1, (), y.1.2.2.2), y.2)).2.1.2.1, (), (V_asm_assembler_items () ((y.1.1, y.1.2.1, (), y.1.2.2.2), y.2)).2.1.2.2.2), (V_asm_assembler_items () ((y.1.1, y.1.2.1, (), y.1.2.2.2), y.2)).2.2)).2.1.1, (V_asm_assembler_names () (((V_asm_assembler_items () ((y.1.1, y.1.2.1, (), y.1.2.2.2), y.2)).2.1.1, (V_asm_assembler_items () ((y.1.1, y.1.2.1, (), y.1.2.2.2), y.2)).2.1.2.1, (), (V_asm_assembler_items () ((y.1.1, y.1.2.1, (), y.1.2.2.2), y.2)).2.1.2.2.2), (V_asm_assembler_items () ((y.1.1, y.1.2.1, (), y.1.2.2.2), y.2)).2.2)).2.1.2.1, (), (V_asm_assembler_names () (((V_asm_assembler_items () ((y.1.1, y.1.2.1, (), y.1.2.2.2), y.2)).2.1.1, (V_asm_assembler_items () ((y.1.1, y.1.2.1, (), y.1.2.2.2), y.2)).2.1.2.1, (), (V_asm_assembler_items () ((y.1.1, y.1.2.1, (), y.1.2.2.2), y.2)).2.1.2.2.2), (V_asm_assembler_items () ((y.1.1, y.1.2.1, (), y.1.2.2.2), y.2)).2.2)).2.1.2.2.2), (V_asm_assembler_names () (((V_asm_assembler_items () ((y.1.1, y.1.2.1, (), y.1.2.2.2), y.2)).2.1.1, (V_asm_assembler_items () ((y.1.1, y.1.2.1, (), y.1.2.2.2), y.2)).2.1.2.1, (), (V_asm_assembler_items () ((y.1.1, y.1.2.1, (), y.1.2.2.2), y.2)).2.1.2.2.2), (V_asm_assembler_items () ((y.1.1, y.1.2.1, (), y.1.2.2.2), y.2)).2.2)).2.2)).2.1.1, (V_asm_assembler_great () (((V_asm_assembler_names () (((V_asm_assembler_items () ((y.1.1, y.1.2.1, (), y.1.2.2.2), y.2)).2.1.1, (V_asm_assembler_items () ((y.1.1, y.1.2.1, (), y.1.2.2.2), y.2)).2.1.2.1, (), (V_asm_assembler_items () ((y.1.1, y.1.2.1, (), y.1.2.2.2), y.2)).2.1.2.2.2), (V_asm_assembler_items () ((y.1.1, y.1.2.1, (), y.1.2.2.2), y.2)).2.2)).2.1.1, (V_asm_assembler_names () (((V_asm_assembler_items () ((y.1.1, y.1.2.1, (), y.1.2.2.2), y.2)).2.1.1, (V_asm_assembler_items () ((y.1.1, y.1.2.1, (), y.1.2.2.2), y.2)).2.1.2.1, (), (V_asm_assembler_items () ((y.1.1, y.1.2.1, (), y.1.2.2.2), y.2)).2.1.2.2.2), (V_asm_assembler_items () ((y.1.1, y.1.2.1, (), y.1.2.2.2), y.2)).2.2)).2.1.2.1, (), (V_asm_assembler_names () (((V_asm_assembler_items () ((y.1.1, y.1.2.1, (), y.1.2.2.2), y.2)).2.1.1, (V_asm_assembler_items () ((y.1.1, y.1.2.1, (), y.1.2.2.2), y.2)).2.1.2.1, (), (V_asm_assembler_items () ((y.1.1, y.1.2.1, (), y.1.2.2.2), y.2)).2.1.2.2.2), (V_asm_assembler_items () ((y.1.1, y.1.2.1, (), y.1.2.2.2), y.2)).2.2)).2.1.2.2.2), (V_asm_assembler_names () (((V_asm_assembler_items () ((y.1.1, y.1.2.1, (), y.1.2.2.2), y.2)).2.1.1, (V_asm_assembler_items () ((y.1.1, y.1.2.1, (), y.1.2.2.2), y.2)).2.1.2.1, (), (V_asm_assembler_items () ((y.1.1, y.1.2.1, (), y.1.2.2.2), y.2)).2.1.2.2.2), (V_asm_assembler_items () ((y.1.1, y.1.2.1, (), y.1.2.2.2), y.2)).2.2)).2.2)).2.1.2.1, (), (V_asm_assembler_great () (((V_asm_assembler_names () (((V_asm_assembler_items () ((y.1.1, y.1.2.1, (), y.1.2.2.2), y.2)).2.1.1, (V_asm_assembler_items () ((y.1.1, y.1.2.1, (), y.1.2.2.2), y.2)).2.1.2.1, (), (V_asm_assembler_items () ((y.1.1, y.1.2.1, (), y.1.2.2.2), y.2)).2.1.2.2.2), (V_asm_assembler_items () ((y.1.1, y.1.2.1, (), y.1.2.2.2), y.2)).2.2)).2.1.1, (V_asm_assembler_names () (((V_asm_assembler_items () ((y.1.1, y.1.2.1, (), y.1.2.2.2), y.2)).2.1.1, (V_asm_assembler_items () ((y.1.1, y.1.2.1, (), y.1.2.2.2), y.2)).2.1.2.1, (), (V_asm_assembler_items () ((y.1.1, y.1.2.1, (), y.1.2.2.2), y.2)).2.1.2.2.2), (V_asm_assembler_items () ((y.1.1, y.1.2.1, (), y.1.2.2.2), y.2)).2.2)).2.1.2.1, (), (V_asm_assembler_names () (((V_asm_assembler_items () ((y.1.1, y.1.2.1, (), y.1.2.2.2), y.2)).2.1.1, (V_asm_assembler_items () ((y.1.1, y.1.2.1, (), y.1.2.2.2), y.2)).2.1.2.1, (), (V_asm_assembler_items () ((y.1.1, y.1.2.1, (), y.1.2.2.2), y.2)).2.1.2.2.2), (V_asm_assembler_items () ((y.1.1, y.1.2.1, (), y.1.2.2.2), y.2)).2.2)).2.1.2.2.2), (V_asm_assembler_names () (((V_asm_assembler_items () ((y.1.1, y.1.2.1, (), y.1.2.2.2), y.2)).2.1.1, (V_asm_assembler_items () ((y.1.1, y.1.2.1, (), y.1.2.2.2), y.2)).2.1.2.1, (), (V_asm_assembler_items () ((y.1.1, y.1.2.1, (), y.1.2.2.2), y.2)).2.1.2.2.2), (V_asm_assembler_items () ((y.1.1, y.1.2.1, (), y.1.2.2.2), y.2)).2.2)).2.2)).2.1.2.2.2), (V_asm_assembler_great () (((V_asm_assembler_names () (((V_asm_assembler_items () ((y.1.1, y.1.2.1, (), y.1.2.2.2), y.2)).2.1.1, (V_asm_assembler_items () ((y.1.1, y.1.2.1, (), y.1.2.2.2), y.2)).2.1.2.1, (), (V_asm_assembler_items () ((y.1.1, y.1.2.1, (), y.1.2.2.2), y.2)).2.1.2.2.2), (V_asm_assembler_items () ((y.1.1, y.1.2.1, (), y.1.2.2.2), y.2)).2.2)).2.1.1, (V_asm_assembler_names () (((V_asm_assembler_items () ((y.1.1, y.1.2.1, (), y.1.2.2.2), y.2)).2.1.1, (V_asm_assembler_items () ((y.1.1, y.1.2.1, (), y.1.2.2.2), y.2)).2.1.2.1, (), (V_asm_assembler_items () ((y.1.1, y.1.2.1, (), y.1.2.2.2), y.2)).2.1.2.2.2), (V_asm_assembler_items () ((y.1.1, y.1.2.1, (), y.1.2.2.2), y.2)).2.2)).2.1.2.1, (), (V_asm_assembler_names () (((V_asm_assembler_items () ((y.1.1, y.1.2.1, (), y.1.2.2.2), y.2)).2.1.1, (V_asm_assembler_items () ((y.1.1, y.1.2.1, (), y.1.2.2.2), y.2)).2.1.2.1, (), (V_asm_assembler_items () ((y.1.1, y.1.2.1, (), y.1.2.2.2), y.2)).2.1.2.2.2), (V_asm_assembler_items () ((y.1.1, y.1.2.1, (), y.1.2.2.2), y.2)).2.2)).2.1.2.2.2), (V_asm_assembler_names () (((V_asm_assembler_items () ((y.1.1, y.1.2.1, (), y.1.2.2.2), y.2)).2.1.1, (V_asm_assembler_items () ((y.1.1, y.1.2.1, (), y.1.2.2.2), y.2)).2.1.2.1, (), (V_asm_assembler_items () ((y.1.1, y.1.2.1, (), y.1.2.2.2), y.2)).2.1.2.2.2), (V_asm_assembler_items () ((y.1.1, y.1.2.1, (), y.1.2.2.2), y.2)).2.2)).2.2)).2.2.1, (V_asm_assembler_great () (((V_asm_assembler_names () (((V_asm_assembler_items () ((y.1.1, y.1.2.1, (), y.1.2.2.2), y.2)).2.1.1, (V_asm_assembler_items () ((y.1.1, y.1.2.1, (), y.1.2.2.2), y.2)).2.1.2.1, (), (V_asm_assembler_items () ((y.1.1, y.1.2.1, (), y.1.2.2.2), y.2)).2.1.2.2.2), (V_asm_assembler_items () ((y.1.1, y.1.2.1, (), y.1.2.2.2), y.2)).2.2)).2.1.1, (V_asm_assembler_names () (((V_asm_assembler_items () ((y.1.1, y.1.2.1, (), y.1.2.2.2), y.2)).2.1.1, (V_asm_assembler_items () ((y.1.1, y.1.2.1, (), y.1.2.2.2), y.2)).2.1.2.1, (), (V_asm_assembler_items () ((y.1.1, y.1.2.1, (), y.1.2.2.2), y.2)).2.1.2.2.2), (V_asm_assembler_items () ((y.1.1, y.1.2.1, (), y.1.2.2.2), y.2)).2.2)).2.1.2.1, (), (V_asm_assembler_names () (((V_asm_assembler_items () ((y.1.1, y.1.2.1, (), y.1.2.2.2), y.2)).2.1.1, (V_asm_assembler_items () ((y.1.1, y.1.2.1, (), y.1.2.2.2), y.2)).2.1.2.1, (), (V_asm_assembler_items () ((y.1.1, y.1.2.1, (), y.1.2.2.2), y.2)).2.1.2.2.2), (V_asm_assembler_items () ((y.1.1, y.1.2.1, (), y.1.2.2.2), y.2)).2.2)).2.1.2.2.2), (V_asm_assembler_names () (((V_asm_assembler_items () ((y.1.1, y.1.2.1, (), y.1.2.2.2), y.2)).2.1.1, (V_asm_assembler_items () ((y.1.1, y.1.2.1, (), y.1.2.2.2), y.2)).2.1.2.1, (), (V_asm_assembler_items () ((y.1.1, y.1.2.1, (), y.1.2.2.2), y.2)).2.1.2.2.2), (V_asm_assembler_items () ((y.1.1, y.1.2.1, (), y.1.2.2.2), y.2)).2.2)).2.2)).2.2.2)))
         (.ret (0, (((V_asm_assembler_great () (((V_asm_assembler_names () (((V_asm_assembler_items () ((y.1.1, y.1.2.1, (), y.1.2.2.2), y.2)).2.1.1, (V_asm_assembler_items () ((y.1.1, y.1.2.1, (), y.1.2.2.2), y.2)).2.1.2.1, (), (V_asm_assembler_items () ((y.1.1, y.1.2.1, (), y.1.2.2.2), y.2)).2.1.2.2.2), (V_asm_assembler_items () ((y.1.1, y.1.2.1, (), y.1.2.2.2), y.2)).2.2)).2.1.1, (V_asm_assembler_names () (((V_asm_assembler_items () ((y.1.1, y.1.2.1, (), y.1.2.2.2), y.2)).2.1.1, (V_asm_assembler_items () ((y.1.1, y.1.2.1, (), y.1.2.2.2), y.2)).2.1.2.1, (), (V_asm_assembler_items () ((y.1.1, y.1.2.1, (), y.1.2.2.2), y.2)).2.1.2.2.2), (V_asm_assembler_items () ((y.1.1, y.1.2.1, (), y.1.2.2.2), y.2)).2.2)).2.1.2.1, (), (V_asm_assembler_names () (((V_asm_assembler_items () ((y.1.1, y.1.2.1, (), y.1.2.2.2), y.2)).2.1.1, (V_asm_assembler_items () ((y.1.1, y.1.2.1, (), y.1.2.2.2), y.2)).2.1.2.1, (), (V_asm_assembler_items () ((y.1.1, y.1.2.1, (), y.1.2.2.2), y.2)).2.1.2.2.2), (V_asm_assembler_items () ((y.1.1, y.1.2.1, (), y.1.2.2.2), y.2)).2.2)).2.1.2.2.2), (V_asm_assembler_names () (((V_asm_assembler_items () ((y.1.1, y.1.2.1, (), y.1.2.2.2), y.2)).2.1.1, (V_asm_assembler_items () ((y.1.1, y.1.2.1, (), y.1.2.2.2), y.2)).2.1.2.1, (), (V_asm_assembler_items () ((y.1.1, y.1.2.1, (), y.1.2.2.2), y.2)).2.1.2.2.2), (V_asm_assembler_items () ((y.1.1, y.1.2.1, (), y.1.2.2.2), y.2)).2.2)).2.2)).2.1.1, (V_asm_assembler_great () (((V_asm_assembler_names () (((V_asm_assembler_items () ((y.1.1, y.1.2.1, (), y.1.2.2.2), y.2)).2.1.1, (V_asm_assembler_items () ((y.1.1, y.1.2.1, (), y.1.2.2.2), y.2)).2.1.2.1, (), (V_asm_assembler_items () ((y.1.1, y.1.2.1, (), y.1.2.2.2), y.2)).2.1.2.2.2), (V_asm_assembler_items () ((y.1.1, y.1.2.1, (), y.1.2.2.2), y.2)).2.2)).2.1.1, (V_asm_assembler_names () (((V_asm_assembler_items () ((y.1.1, y.1.2.1, (), y.1.2.2.2), y.2)).2.1.1, (V_asm_assembler_items () ((y.1.1, y.1.2.1, (), y.1.2.2.2), y.2)).2.1.2.1, (), (V_asm_assembler_items () ((y.1.1, y.1.2.1, (), y.1.2.2.2), y.2)).2.1.2.2.2), (V_asm_assembler_items () ((y.1.1, y.1.2.1, (), y.1.2.2.2), y.2)).2.2)).2.1.2.1, (), (V_asm_assembler_names () (((V_asm_assembler_items () ((y.1.1, y.1.2.1, (), y.1.2.2.2), y.2)).2.1.1, (V_asm_assembler_items () ((y.1.1, y.1.2.1, (), y.1.2.2.2), y.2)).2.1.2.1, (), (V_asm_assembler_items () ((y.1.1, y.1.2.1, (), y.1.2.2.2), y.2)).2.1.2.2.2), (V_asm_assembler_items () ((y.1.1, y.1.2.1, (), y.1.2.2.2), y.2)).2.2)).2.1.2.2.2), (V_asm_assembler_names () (((V_asm_assembler_items () ((y.1.1, y.1.2.1, (), y.1.2.2.2), y.2)).2.1.1, (V_asm_assembler_items () ((y.1.1, y.1.2.1, (), y.1.2.2.2), y.2)).2.1.2.1, (), (V_asm_assembler_items () ((y.1.1, y.1.2.1, (), y.1.2.2.2), y.2)).2.1.2.2.2), (V_asm_assembler_items () ((y.1.1, y.1.2.1, (), y.1.2.2.2), y.2)).2.2)).2.2)).2.1.2.1, (), (V_asm_assembler_great () (((V_asm_assembler_names () (((V_asm_assembler_items () ((y.1.1, y.1.2.1, (), y.1.2.2.2), y.2)).2.1.1, (V_asm_assembler_items () ((y.1.1, y.1.2.1, (), y.1.2.2.2), y.2)).2.1.2.1, (), (V_asm_assembler_items () ((y.1.1, y.1.2.1, (), y.1.2.2.2), y.2)).2.1.2.2.2), (V_asm_assembler_items () ((y.1.1, y.1.2.1, (), y.1.2.2.2), y.2)).2.2)).2.1.1, (V_asm_assembler_names () (((V_asm_assembler_items () ((y.1.1, y.1.2.1, (), y.1.2.2.2), y.2)).2.1.1, (V_asm_assembler_items () ((y.1.1, y.1.2.1, (), y.1.2.2.2), y.2)).2.1.2.1, (), (V_asm_assembler_items () ((y.1.1, y.1.2.1, (), y.1.2.2.2), y.2)).2.1.2.2.2), (V_asm_assembler_items () ((y.1.1, y.1.2.1, (), y.1.2.2.2), y.2)).2.2)).2.1.2.1, (), (V_asm_assembler_names () (((V_asm_assembler_items () ((y.1.1, y.1.2.1, (), y.1.2.2.2), y.2)).2.1.1, (V_asm_assembler_items () ((y.1.1, y.1.2.1, (), y.1.2.2.2), y.2)).2.1.2.1, (), (V_asm_assembler_items () ((y.1.1, y.1.2.1, (), y.1.2.2.2), y.2)).2.1.2.2.2), (V_asm_assembler_items () ((y.1.1, y.1.2.1, (), y.1.2.2.2), y.2)).2.2)).2.1.2.2.2), (V_asm_assembler_names () (((V_asm_assembler_items () ((y.1.1, y.1.2.1, (), y.1.2.2.2), y.2)).2.1.1, (V_asm_assembler_items () ((y.1.1, y.1.2.1, (), y.1.2.2.2), y.2)).2.1.2.1, (), (V_asm_assembler_items () ((y.1.1, y.1.2.1, (), y.1.2.2.2), y.2)).2.1.2.2.2), (V_asm_assembler_items () ((y.1.1, y.1.2.1, (), y.1.2.2.2), y.2)).2.2)).2.2)).2.1.2.2.2), (V_asm_assembler_great () (((V_asm_assembler_names () (((V_asm_assembler_items () ((y.1.1, y.1.2.1, (), y.1.2.2.2), y.2)).2.1.1, (V_asm_assembler_items () ((y.1.1, y.1.2.1, (), y.1.2.2.2), y.2)).2.1.2.1, (), (V_asm_assembler_items () ((y.1.1, y.1.2.1, (), y.1.2.2.2), y.2)).2.1.2.2.2), (V_asm_assembler_items () ((y.1.1, y.1.2.1, (), y.1.2.2.2), y.2)).2.2)).2.1.1, (V_asm_assembler_names () (((V_asm_assembler_items () ((y.1.1, y.1.2.1, (), y.1.2.2.2), y.2)).2.1.1, (V_asm_assembler_items () ((y.1.1, y.1.2.1, (), y.1.2.2.2), y.2)).2.1.2.1, (), (V_asm_assembler_items () ((y.1.1, y.1.2.1, (), y.1.2.2.2), y.2)).2.1.2.2.2), (V_asm_assembler_items () ((y.1.1, y.1.2.1, (), y.1.2.2.2), y.2)).2.2)).2.1.2.1, (), (V_asm_assembler_names () (((V_asm_assembler_items () ((y.1.1, y.1.2.1, (), y.1.2.2.2), y.2)).2.1.1, (V_asm_assembler_items () ((y.1.1, y.1.2.1, (), y.1.2.2.2), y.2)).2.1.2.1, (), (V_asm_assembler_items () ((y.1.1, y.1.2.1, (), y.1.2.2.2), y.2)).2.1.2.2.2), (V_asm_assembler_items () ((y.1.1, y.1.2.1, (), y.1.2.2.2), y.2)).2.2)).2.1.2.2.2), (V_asm_assembler_names () (((V_asm_assembler_items () ((y.1.1, y.1.2.1, (), y.1.2.2.2), y.2)).2.1.1, (V_asm_assembler_items () ((y.1.1, y.1.2.1, (), y.1.2.2.2), y.2)).2.1.2.1, (), (V_asm_assembler_items () ((y.1.1, y.1.2.1, (), y.1.2.2.2), y.2)).2.1.2.2.2), (V_asm_assembler_items () ((y.1.1, y.1.2.1, (), y.1.2.2.2), y.2)).2.2)).2.2)).2.2.1, (V_asm_assembler_great () (((V_asm_assembler_names () (((V_asm_assembler_items () ((y.1.1, y.1.2.1, (), y.1.2.2.2), y.2)).2.1.1, (V_asm_assembler_items () ((y.1.1, y.1.2.1, (), y.1.2.2.2), y.2)).2.1.2.1, (), (V_asm_assembler_items () ((y.1.1, y.1.2.1, (), y.1.2.2.2), y.2)).2.1.2.2.2), (V_asm_assembler_items () ((y.1.1, y.1.2.1, (), y.1.2.2.2), y.2)).2.2)).2.1.1, (V_asm_assembler_names () (((V_asm_assembler_items () ((y.1.1, y.1.2.1, (), y.1.2.2.2), y.2)).2.1.1, (V_asm_assembler_items () ((y.1.1, y.1.2.1, (), y.1.2.2.2), y.2)).2.1.2.1, (), (V_asm_assembler_items () ((y.1.1, y.1.2.1, (), y.1.2.2.2), y.2)).2.1.2.2.2), (V_asm_assembler_items () ((y.1.1, y.1.2.1, (), y.1.2.2.2), y.2)).2.2)).2.1.2.1, (), (V_asm_assembler_names () (((V_asm_assembler_items () ((y.1.1, y.1.2.1, (), y.1.2.2.2), y.2)).2.1.1, (V_asm_assembler_items () ((y.1.1, y.1.2.1, (), y.1.2.2.2), y.2)).2.1.2.1, (), (V_asm_assembler_items () ((y.1.1, y.1.2.1, (), y.1.2.2.2), y.2)).2.1.2.2.2), (V_asm_assembler_items () ((y.1.1, y.1.2.1, (), y.1.2.2.2), y.2)).2.2)).2.1.2.2.2), (V_asm_assembler_names () (((V_asm_assembler_items () ((y.1.1, y.1.2.1, (), y.1.2.2.2), y.2)).2.1.1, (V_asm_assembler_items () ((y.1.1, y.1.2.1, (), y.1.2.2.2), y.2)).2.1.2.1, (), (V_asm_assembler_items () ((y.1.1, y.1.2.1, (), y.1.2.2.2), y.2)).2.1.2.2.2), (V_asm_assembler_items () ((y.1.1, y.1.2.1, (), y.1.2.2.2), y.2)).2.2)).2.2)).2.2.2))))
        .fail))
      .fail))
    .fail))
def G_asm_assembler_check (x : shDens SS_asm_assembler_check) (y : shDens HS_asm_assembler_check) : Bool := (T_asm_assembler_check x y).val.isSome
def V_asm_assembler_check (x : shDens SS_asm_assembler_check) (y : shDens HS_asm_assembler_check) : Sh.den S_asm_assembler_check × shDens HT_asm_assembler_check := (T_asm_assembler_check x y).getO default
theorem ok_asm_assembler_check (x : shDens SS_asm_assembler_check) (y : shDens HS_asm_assembler_check) (h : G_asm_assembler_check x y = true) : (T_asm_assembler_check x y).val = some (V_asm_assembler_check x y) := PO.getO_ok default h
def L_asm_assembler_widen_4 : LoopN where
  M := [0, 3, 4, 26, 27, 28]
  T := [5, 6, 7, 8, 9, 29, 30, 31, 32, 33, 34, 35, 36, 37, 38, 39, 40, 41, 42, 43, 44, 45, 46, 47, 48, 49, 50, 51, 52, 53, 54, 55, 56, 57, 58, 59, 60, 61, 62, 63, 64, 65, 66, 67, 68, 69, 70]
  D := [0, 3, 26, 27, 28]
  ss := [.box 0 0, .ty (.sl (.int .i64)), .ty .bool, .ty (.sl tItem), .ty (.int .i64), .ty (.int .i64)]
  hs := [shAsm 1 2, .mapc, .rowc .bool]
  es := [.exit 0]
  σ := (Ty.den .bool) × (Ty.den (.int .i64)) × (Sh.den (shAsm 1 2)) × (Sh.den (.mapc)) × (Sh.den (.rowc .bool))
  x0 := fun x y => (x.2.2.1, x.2.2.2.2.2, y.1, y.2.1, y.2.2)
  put := fun x _ s => ((x.1, x.2.1, s.1, x.2.2.2.1, x.2.2.2.2.1, s.2.1), (s.2.2.1, s.2.2.2.1, s.2.2.2.2))
  fuel := fun _ y => List.length y.1.1+1
  turn := fun x _ s =>
  (.ite (decide (s.2.1 < x.2.2.2.2.1))
   (.ite (inRange s.2.1 (List.length x.2.2.2.1))
    (.ite ((List.getD x.2.2.2.1 (Int.toNat s.2.1) (Ty.dflt tItem)).1 != 2 || inRange s.2.1 s.2.2.1.2.2.2.1.2)
     (.ite ((List.getD x.2.2.2.1 (Int.toNat s.2.1) (Ty.dflt tItem)).1 != 2 || List.getD s.2.2.2.2 (nplus s.2.2.1.2.2.2.1.1 s.2.1) (Ty.dflt Ty.bool))
      (.ret (.on (s.1, w64 (s.2.1 + 1), s.2.2.1, s.2.2.2.1, s.2.2.2.2)))
      (.ite (G_asm_assembler_offset (s.2.2.1.1, s.2.2.2.1, x.2.1, s.2.1))
       (.ite (decide (V_asm_assembler_offset (s.2.2.1.1, s.2.2.2.1, x.2.1, s.2.1) < (V_thumb_Reach ((List.getD x.2.2.2.1 (Int.toNat s.2.1) (Ty.dflt tItem)).2.2.1.1, false)).1) || decide (V_asm_assembler_offset (s.2.2.1.1, s.2.2.2.1, x.2.1, s.2.1) > (V_thumb_Reach ((List.getD x.2.2.2.1 (Int.toNat s.2.1) (Ty.dflt tItem)).2.2.1.1, false)).2.1))
        (.ite (inRange s.2.1 s.2.2.1.2.2.2.1.2)
         (.ret (.on (true, w64 (s.2.1 + 1), s.2.2.1, s.2.2.2.1, List.set s.2.2.2.2 (nplus s.2.2.1.2.2.2.1.1 s.2.1) true)))
         .fail)
        (.ret (.on (s.1, w64 (s.2.1 + 1), s.2.2.1, s.2.2.2.1, s.2.2.2.2))))
       .fail))
     .fail)
    .fail)
   (.ret (.out 0 (s.1, s.2.1, s.2.2.1, s.2.2.2.1, s.2.2.2.2))))
/-- (*asm.assembler).widen -/
abbrev SS_asm_assembler_widen : List Sh := [.box 0 0]
abbrev HS_asm_assembler_widen : List Sh := [shAsm 1 2, .mapc, .rowc .bool]
abbrev S_asm_assembler_widen : Sh := Sh.ty Ty.bool
abbrev HT_asm_assembler_widen : List Sh := [Sh.pair (Sh.ty (Ty.sl tItem)) (Sh.pair (Sh.ty (Ty.int IntKind.i64)) (Sh.pair (Sh.mp 1) (Sh.pair (Sh.win 2 Ty.bool) (Sh.ty Ty.unit)))), Sh.mapc, Sh.rowc Ty.bool]
def T_asm_assembler_widen (_ : shDens SS_asm_assembler_widen) (y : shDens HS_asm_assembler_widen) : PO (Sh.den S_asm_assembler_widen × shDens HT_asm_assembler_widen) :=
  (.ite (G_asm_Lay (y.1.1, y.1.2.1, shown y.2.2 y.1.2.2.2.1))
   (.opt (LoopN.res L_asm_assembler_widen_4 ((), V_asm_Lay (y.1.1, y.1.2.1, shown y.2.2 y.1.2.2.2.1), false, y.1.1, lenI y.1.1, 0) ((y.1.1, y.1.2.1, (), y.1.2.2.2), y.2)) fun p0 =>
    (.ret (p0.2.1, ((p0.2.2.2.1.1, p0.2.2.2.1.2.1, (), p0.2.2.2.1.2.2.2), p0.2.2.2.2.1, p0.2.2.2.2.2))))
   .fail)
def G_asm_assembler_widen (x : shDens SS_asm_assembler_widen) (y : shDens HS_asm_assembler_widen) : Bool := (T_asm_assembler_widen x y).val.isSome
def V_asm_assembler_widen (x : shDens SS_asm_assembler_widen) (y : shDens HS_asm_assembler_widen) : Sh.den S_asm_assembler_widen × shDens HT_asm_assembler_widen := (T_asm_assembler_widen x y).getO default
theorem ok_asm_assembler_widen (x : shDens SS_asm_assembler_widen) (y : shDens HS_asm_assembler_widen) (h : G_asm_assembler_widen x y = true) : (T_asm_assembler_widen x y).val = some (V_asm_assembler_widen x y) := PO.getO_ok default h
def L_asm_Assemble_5 : LoopN where
  M := [0, 1, 7]
  T := [29, 30, 31]
  D := []
  ss := [.ty (.sl tItem), .ty (.int .i64), .box 0 0]
  hs := [shAsm 1 2, .mapc, .rowc .bool]
  es := [.exit 0]
  σ := (Sh.den (shAsm 1 2)) × (Sh.den (.mapc)) × (Sh.den (.rowc .bool))
  x0 := fun _ y => (y.1, y.2.1, y.2.2)
  put := fun x _ s => ((x.1, x.2.1, x.2.2), (s.1, s.2.1, s.2.2))
  fuel := fun _ y => List.length y.1.1+2
  turn := fun _ _ s =>
  (.ite (G_asm_assembler_widen () ((s.1.1, s.1.2.1, (), s.1.2.2.2), s.2))
   (.ite (!(V_asm_assembler_widen () ((s.1.1, s.1.2.1, (), s.1.2.2.2), s.2)).1)
    (.ret (.out 0 (((V_asm_assembler_widen () ((s.1.1, s.1.2.1, (), s.1.2.2.2), s.2)).2.1.1, (V_asm_assembler_widen () ((s.1.1, s.1.2.1, (), s.1.2.2.2), s.2)).2.1.2.1, (), (V_asm_assembler_widen () ((s.1.1, s.1.2.1, (), s.1.2.2.2), s.2)).2.1.2.2.2), (V_asm_assembler_widen () ((s.1.1, s.1.2.1, (), s.1.2.2.2), s.2)).2.2.1, (V_asm_assembler_widen () ((s.1.1, s.1.2.1, (), s.1.2.2.2), s.2)).2.2.2)))
    (.ret (.on (((V_asm_assembler_widen () ((s.1.1, s.1.2.1, (), s.1.2.2.2), s.2)).2.1.1, (V_asm_assembler_widen () ((s.1.1, s.1.2.1, (), s.1.2.2.2), s.2)).2.1.2.1, (), (V_asm_assembler_widen () ((s.1.1, s.1.2.1, (), s.1.2.2.2), s.2)).2.1.2.2.2), (V_asm_assembler_widen () ((s.1.1, s.1.2.1, (), s.1.2.2.2), s.2)).2.2.1, (V_asm_assembler_widen () ((s.1.1, s.1.2.1, (), s.1.2.2.2), s.2)).2.2.2))))
   .fail)
def L_asm_Assemble_10 : LoopN where
  M := [7, 9, 10, 11, 39, 40, 41]
  T := [12, 13, 14, 15, 42, 43, 44, 45, 46, 47, 48, 49, 50, 51, 52, 53, 54, 55, 56, 57, 58, 59, 60, 61, 62, 63, 64, 65, 66, 67, 68, 69, 70, 71, 72, 73, 74, 75, 76, 77, 78, 79, 80, 81, 82, 83, 84, 85, 86, 87, 88, 89]
  D := [7, 9, 39, 40, 41]
  ss := [.box 0 0, .osl 0 (.int .i64), .box 1 0, .osl 1 tPlace, .ty (.sl tItem), .ty (.int .i64), .ty (.int .i64)]
  hs := [shAsm 2 3, shBldL 1 2, .mapc, .rowc .bool]
  es := [.exit 2]
  σ := (Sh.den (.osl 1 tPlace)) × (Ty.den (.int .i64)) × (Sh.den (shAsm 2 3)) × (Sh.den (shBldL 1 2)) × (Sh.den (.mapc)) × (Sh.den (.rowc .bool))
  x0 := fun x y => (x.2.2.2.1, x.2.2.2.2.2.2, y.1, y.2.1, y.2.2.1, y.2.2.2)
  put := fun x _ s => ((x.1, x.2.1, x.2.2.1, s.1, x.2.2.2.2.1, x.2.2.2.2.2.1, s.2.1), (s.2.2.1, s.2.2.2.1, s.2.2.2.2.1, s.2.2.2.2.2))
  fuel := fun x _ => List.length x.2.2.2.2.1+1
  turn := fun x _ s =>
  (.ite (decide (s.2.1 < x.2.2.2.2.2.1))
   (.ite (inRange s.2.1 (List.length x.2.2.2.2.1))
    (.ite ((List.getD x.2.2.2.2.1 (Int.toNat s.2.1) (Ty.dflt tItem)).1 == 1)
     (.ite (inRange s.2.1 (List.length x.2.1))
      (.ite (Nat.ble ((List.length s.1 + List.length [((List.getD x.2.2.2.2.1 (Int.toNat s.2.1) (Ty.dflt tItem)).2.1, List.getD x.2.1 (Int.toNat s.2.1) (Ty.dflt (Ty.int IntKind.i64)), ())]) * 16) 140737488355328)
       (.ret (.on (s.1 ++ [((List.getD x.2.2.2.2.1 (Int.toNat s.2.1) (Ty.dflt tItem)).2.1, List.getD x.2.1 (Int.toNat s.2.1) (Ty.dflt (Ty.int IntKind.i64)), ())], w64 (s.2.1 + 1), (s.2.2.1.1, s.2.2.1.2.1, (), s.2.2.1.2.2.2), ((), s.2.2.2.1.2), s.2.2.2.2.1, s.2.2.2.2.2)))
       .fail)
      .fail)
     (.ite ((List.getD x.2.2.2.2.1 (Int.toNat s.2.1) (Ty.dflt tItem)).1 == 2)
      (.ite (G_asm_assembler_offset (s.2.2.1.1, s.2.2.2.2.1, x.2.1, s.2.1))
       (.ite (inRange s.2.1 s.2.2.1.2.2.2.1.2)
        (.ite (G_thumb_Encode ((List.getD x.2.2.2.2.1 (Int.toNat s.2.1) (Ty.dflt tItem)).2.2.1.1, 0, 0, 0, 0, V_asm_assembler_offset (s.2.2.1.1, s.2.2.2.2.1, x.2.1, s.2.1), (List.getD x.2.2.2.2.1 (Int.toNat s.2.1) (Ty.dflt tItem)).2.2.1.2.2.2.2.2.2.1, List.getD s.2.2.2.2.2 (nplus s.2.2.1.2.2.2.1.1 s.2.1) (Ty.dflt Ty.bool), ()))
         (.ite (G_bytesFit s.2.2.2.1.2.1 (V_thumb_Encode ((List.getD x.2.2.2.2.1 (Int.toNat s.2.1) (Ty.dflt tItem)).2.2.1.1, 0, 0, 0, 0, V_asm_assembler_offset (s.2.2.1.1, s.2.2.2.2.1, x.2.1, s.2.1), (List.getD x.2.2.2.2.1 (Int.toNat s.2.1) (Ty.dflt tItem)).2.2.1.2.2.2.2.2.2.1, List.getD s.2.2.2.2.2 (nplus s.2.2.1.2.2.2.1.1 s.2.1) (Ty.dflt Ty.bool), ())).1)
          (.ret (.on (s.1, w64 (s.2.1 + 1), (s.2.2.1.1, s.2.2.1.2.1, (), s.2.2.1.2.2.2), ((), V_bytesJoin s.2.2.2.1.2.1 (V_thumb_Encode ((List.getD x.2.2.2.2.1 (Int.toNat s.2.1) (Ty.dflt tItem)).2.2.1.1, 0, 0, 0, 0, V_asm_assembler_offset (s.2.2.1.1, s.2.2.2.2.1, x.2.1, s.2.1), (List.getD x.2.2.2.2.1 (Int.toNat s.2.1) (Ty.dflt tItem)).2.2.1.2.2.2.2.2.2.1, List.getD s.2.2.2.2.2 (nplus s.2.2.1.2.2.2.1.1 s.2.1) (Ty.dflt Ty.bool), ())).1, ()), s.2.2.2.2.1, s.2.2.2.2.2)))
          .fail)
         .fail)
        .fail)
       .fail)
      (.ite (G_thumb_Encode (List.getD x.2.2.2.2.1 (Int.toNat s.2.1) (Ty.dflt tItem)).2.2.1)
       (.ite (G_bytesFit s.2.2.2.1.2.1 (V_thumb_Encode (List.getD x.2.2.2.2.1 (Int.toNat s.2.1) (Ty.dflt tItem)).2.2.1).1)
        (.ret (.on (s.1, w64 (s.2.1 + 1), (s.2.2.1.1, s.2.2.1.2.1, (), s.2.2.1.2.2.2), ((), V_bytesJoin s.2.2.2.1.2.1 (V_thumb_Encode (List.getD x.2.2.2.2.1 (Int.toNat s.2.1) (Ty.dflt tItem)).2.2.1).1, ()), s.2.2.2.2.1, s.2.2.2.2.2)))
        .fail)
       .fail)))
    .fail)
   (.ret (.out 0 (s.1, s.2.1, s.2.2.1, s.2.2.2.1, s.2.2.2.2.1, s.2.2.2.2.2))))
/-- asm.Assemble -/
abbrev A_asm_Assemble : List Ty := [(.sl tItem), (.int .i64)]
abbrev S_asm_Assemble : Sh := Sh.tup (Sh.pair (Sh.ty Ty.str) (Sh.pair (Sh.osl 32 tPlace) (Sh.pair (Sh.ty (Ty.int IntKind.i64)) (Sh.ty Ty.unit))))
def K_asm_Assemble_0 (x : dens [(.sl tItem), (.int .i64)]) := G_asm_assembler_check () ((x.1, x.2, (), (0, nspan 0 (lenI x.1)), ()), [], zeros (lenI x.1) false)
def K_asm_Assemble_1 (x : dens [(.sl tItem), (.int .i64)]) := V_asm_assembler_check () ((x.1, x.2, (), (0, nspan 0 (lenI x.1)), ()), [], zeros (lenI x.1) false)
def K_asm_Assemble_2 (x : dens [(.sl tItem), (.int .i64)]) := LoopN.res L_asm_Assemble_5 (x.1, x.2, ()) (((K_asm_Assemble_1 x).2.1.1, (K_asm_Assemble_1 x).2.1.2.1, (), (K_asm_Assemble_1 x).2.1.2.2.2), (K_asm_Assemble_1 x).2.2)
def T_asm_Assemble (x : dens A_asm_Assemble) : PO (Sh.den S_asm_Assemble) :=
  (.ite (roomOk (lenI x.1) 1)
   (.ite (K_asm_Assemble_0 x)
    (.ite ((K_asm_Assemble_1 x).1 != 0)
     (.ret (([], [], (K_asm_Assemble_1 x).1, ())))
     (.opt (K_asm_Assemble_2 x) fun p0 =>
      (.ite (G_asm_Lay (x.1, x.2, shown p0.2.2.2 p0.2.1.2.2.2.1))
       (.opt (LoopN.res L_asm_Assemble_10 ((), V_asm_Lay (x.1, x.2, shown p0.2.2.2 p0.2.1.2.2.2.1), (), [], x.1, lenI x.1, 0) ((p0.2.1.1, p0.2.1.2.1, (), p0.2.1.2.2.2), ((), [], ()), p0.2.2)) fun p1 =>
        (.ret ((p1.2.2.2.2.1.2.1, p1.2.1, 0, ()))))
       .fail)))
    .fail)
   .fail)
def G_asm_Assemble (x : dens A_asm_Assemble) : Bool := (T_asm_Assemble x).val.isSome
def V_asm_Assemble (x : dens A_asm_Assemble) : Sh.den S_asm_Assemble := (T_asm_Assemble x).getO default
theorem ok_asm_Assemble (x : dens A_asm_Assemble) (h : G_asm_Assemble x = true) : (T_asm_Assemble x).val = some (V_asm_Assemble x) := PO.getO_ok default h
end Go.Av
