/- Layer 27's statements: TmplSafe. -/
import Derived.Test.YtapfijocjgoilaaPTOpsLaw4
namespace Go.Av
open Go
def L_hauberklaw27_TmplSafe_5 : LoopN where
  M := [6, 7, 9]
  T := [10, 11, 27, 28, 29, 30, 31, 32, 33, 34, 35, 36, 37, 38, 39, 40, 41, 42, 43, 44, 45, 46, 47, 48, 49, 50, 51, 52, 53, 54, 55, 56, 57, 58, 59, 60, 61, 62, 63, 64, 65, 66, 67, 68, 69, 70, 71, 72, 73, 74, 75, 76, 77, 78, 79, 80, 81, 82, 83, 84, 85, 86, 87, 88, 89, 90, 91, 92, 93, 94, 95, 96, 97, 98, 99, 100, 101, 102, 103, 104, 105, 106, 107, 108, 109, 110, 111, 112, 113, 114, 115, 116, 117, 118, 119, 120, 121, 122, 123, 124, 125, 126, 127, 128, 129, 130, 131, 132, 133, 134, 135, 136, 137, 138, 139, 140, 141, 142, 143, 144, 145, 146, 147, 148, 149]
  D := [9]
  ss := [.ty .bool, .ty (.sl tIns), .ty (.int .i64)]
  hs := []
  es := [.exit 0, .ret]
  σ := (Ty.den .bool) × (Ty.den (.int .i64))
  x0 := fun x _ => (x.1, x.2.2)
  put := fun x _ s => ((s.1, x.2.1, s.2), ())
  fuel := fun x _ => List.length x.2.1 + 1
  turn := fun x _ s =>
  (.ite (decide (s.2 < lenI x.2.1))
   (.ite (inRange s.2 (List.length x.2.1))
    (.ite (bif bif (List.getD x.2.1 (Int.toNat s.2) (Ty.dflt tIns)).1 == 5 then (List.getD x.2.1 (Int.toNat s.2) (Ty.dflt tIns)).1 == 5 else bif (List.getD x.2.1 (Int.toNat s.2) (Ty.dflt tIns)).1 == 6 then (List.getD x.2.1 (Int.toNat s.2) (Ty.dflt tIns)).1 == 6 else bif (List.getD x.2.1 (Int.toNat s.2) (Ty.dflt tIns)).1 == 7 then (List.getD x.2.1 (Int.toNat s.2) (Ty.dflt tIns)).1 == 7 else bif (List.getD x.2.1 (Int.toNat s.2) (Ty.dflt tIns)).1 == 8 then (List.getD x.2.1 (Int.toNat s.2) (Ty.dflt tIns)).1 == 8 else (List.getD x.2.1 (Int.toNat s.2) (Ty.dflt tIns)).1 == 9 then decide ((List.getD x.2.1 (Int.toNat s.2) (Ty.dflt tIns)).2.1 > 7) || (decide ((List.getD x.2.1 (Int.toNat s.2) (Ty.dflt tIns)).2.2.1 > 7) || (decide ((List.getD x.2.1 (Int.toNat s.2) (Ty.dflt tIns)).2.2.2.1 > 7) || ((List.getD x.2.1 (Int.toNat s.2) (Ty.dflt tIns)).1 == 24 || ((List.getD x.2.1 (Int.toNat s.2) (Ty.dflt tIns)).1 == 25 || ((List.getD x.2.1 (Int.toNat s.2) (Ty.dflt tIns)).1 == 2 || (List.getD x.2.1 (Int.toNat s.2) (Ty.dflt tIns)).1 == 23))))) || (List.getD x.2.1 (Int.toNat s.2) (Ty.dflt tIns)).2.1 == (List.getD x.2.1 (Int.toNat s.2) (Ty.dflt tIns)).2.2.2.1 else bif bif (List.getD x.2.1 (Int.toNat s.2) (Ty.dflt tIns)).1 == 18 then (List.getD x.2.1 (Int.toNat s.2) (Ty.dflt tIns)).1 == 18 else bif (List.getD x.2.1 (Int.toNat s.2) (Ty.dflt tIns)).1 == 19 then (List.getD x.2.1 (Int.toNat s.2) (Ty.dflt tIns)).1 == 19 else (List.getD x.2.1 (Int.toNat s.2) (Ty.dflt tIns)).1 == 21 then decide ((List.getD x.2.1 (Int.toNat s.2) (Ty.dflt tIns)).2.1 > 7) || (decide ((List.getD x.2.1 (Int.toNat s.2) (Ty.dflt tIns)).2.2.1 > 7) || (decide ((List.getD x.2.1 (Int.toNat s.2) (Ty.dflt tIns)).2.2.2.1 > 7) || ((List.getD x.2.1 (Int.toNat s.2) (Ty.dflt tIns)).1 == 24 || ((List.getD x.2.1 (Int.toNat s.2) (Ty.dflt tIns)).1 == 25 || ((List.getD x.2.1 (Int.toNat s.2) (Ty.dflt tIns)).1 == 2 || (List.getD x.2.1 (Int.toNat s.2) (Ty.dflt tIns)).1 == 23))))) || (List.getD x.2.1 (Int.toNat s.2) (Ty.dflt tIns)).2.1 == (List.getD x.2.1 (Int.toNat s.2) (Ty.dflt tIns)).2.2.1 else bif bif (List.getD x.2.1 (Int.toNat s.2) (Ty.dflt tIns)).1 == 20 then (List.getD x.2.1 (Int.toNat s.2) (Ty.dflt tIns)).1 == 20 else bif (List.getD x.2.1 (Int.toNat s.2) (Ty.dflt tIns)).1 == 22 then (List.getD x.2.1 (Int.toNat s.2) (Ty.dflt tIns)).1 == 22 else bif (List.getD x.2.1 (Int.toNat s.2) (Ty.dflt tIns)).1 == 3 then (List.getD x.2.1 (Int.toNat s.2) (Ty.dflt tIns)).1 == 3 else (List.getD x.2.1 (Int.toNat s.2) (Ty.dflt tIns)).1 == 4 then decide ((List.getD x.2.1 (Int.toNat s.2) (Ty.dflt tIns)).2.1 > 7) || (decide ((List.getD x.2.1 (Int.toNat s.2) (Ty.dflt tIns)).2.2.1 > 7) || (decide ((List.getD x.2.1 (Int.toNat s.2) (Ty.dflt tIns)).2.2.2.1 > 7) || ((List.getD x.2.1 (Int.toNat s.2) (Ty.dflt tIns)).1 == 24 || ((List.getD x.2.1 (Int.toNat s.2) (Ty.dflt tIns)).1 == 25 || ((List.getD x.2.1 (Int.toNat s.2) (Ty.dflt tIns)).1 == 2 || (List.getD x.2.1 (Int.toNat s.2) (Ty.dflt tIns)).1 == 23))))) else bif (List.getD x.2.1 (Int.toNat s.2) (Ty.dflt tIns)).1 == 17 then decide ((List.getD x.2.1 (Int.toNat s.2) (Ty.dflt tIns)).2.1 > 7) || (decide ((List.getD x.2.1 (Int.toNat s.2) (Ty.dflt tIns)).2.2.1 > 7) || (decide ((List.getD x.2.1 (Int.toNat s.2) (Ty.dflt tIns)).2.2.2.1 > 7) || ((List.getD x.2.1 (Int.toNat s.2) (Ty.dflt tIns)).1 == 24 || ((List.getD x.2.1 (Int.toNat s.2) (Ty.dflt tIns)).1 == 25 || ((List.getD x.2.1 (Int.toNat s.2) (Ty.dflt tIns)).1 == 2 || (List.getD x.2.1 (Int.toNat s.2) (Ty.dflt tIns)).1 == 23))))) || ((List.getD x.2.1 (Int.toNat s.2) (Ty.dflt tIns)).2.1 == (List.getD x.2.1 (Int.toNat s.2) (Ty.dflt tIns)).2.2.1 || ((List.getD x.2.1 (Int.toNat s.2) (Ty.dflt tIns)).2.1 == (List.getD x.2.1 (Int.toNat s.2) (Ty.dflt tIns)).2.2.2.1 || ((List.getD x.2.1 (Int.toNat s.2) (Ty.dflt tIns)).2.2.2.2.1 == (List.getD x.2.1 (Int.toNat s.2) (Ty.dflt tIns)).2.2.1 || (List.getD x.2.1 (Int.toNat s.2) (Ty.dflt tIns)).2.2.2.2.1 == (List.getD x.2.1 (Int.toNat s.2) (Ty.dflt tIns)).2.2.2.1))) else decide ((List.getD x.2.1 (Int.toNat s.2) (Ty.dflt tIns)).2.1 > 7) || (decide ((List.getD x.2.1 (Int.toNat s.2) (Ty.dflt tIns)).2.2.1 > 7) || (decide ((List.getD x.2.1 (Int.toNat s.2) (Ty.dflt tIns)).2.2.2.1 > 7) || ((List.getD x.2.1 (Int.toNat s.2) (Ty.dflt tIns)).1 == 24 || ((List.getD x.2.1 (Int.toNat s.2) (Ty.dflt tIns)).1 == 25 || ((List.getD x.2.1 (Int.toNat s.2) (Ty.dflt tIns)).1 == 2 || (List.getD x.2.1 (Int.toNat s.2) (Ty.dflt tIns)).1 == 23))))) || ((List.getD x.2.1 (Int.toNat s.2) (Ty.dflt tIns)).2.1 == (List.getD x.2.1 (Int.toNat s.2) (Ty.dflt tIns)).2.2.1 || (List.getD x.2.1 (Int.toNat s.2) (Ty.dflt tIns)).2.1 == (List.getD x.2.1 (Int.toNat s.2) (Ty.dflt tIns)).2.2.2.1))
     (.ret (.out 1 (false, s.2)))
     (.ret (.on (s.1, w64 (s.2 + 1)))))
    .fail)
   (.ret (.out 0 (s.1, s.2))))
/-- hauberklaw27.TmplSafe -/
abbrev A_hauberklaw27_TmplSafe : List Ty := [tOp, tSpot, (.int .i64)]
abbrev S_hauberklaw27_TmplSafe : Sh := Sh.ty Ty.bool
def T_hauberklaw27_TmplSafe (x : dens A_hauberklaw27_TmplSafe) : PO (Sh.den S_hauberklaw27_TmplSafe) :=
  (.ite (G_tmpl_Op (x.1, x.2.1, x.2.2))
   (.ite ((V_tmpl_Op (x.1, x.2.1, x.2.2)).2.1 != 0)
    (.ite (lenI (V_tmpl_Op (x.1, x.2.1, x.2.2)).1 == 0 || true)
     (.ret (lenI (V_tmpl_Op (x.1, x.2.1, x.2.2)).1 == 0 && true))
     .fail)
    (.opt (LoopN.res L_hauberklaw27_TmplSafe_5 (false, (V_tmpl_Op (x.1, x.2.1, x.2.2)).1, 0) ()) fun p0 =>
     (.ite (way p0.1)
      (.ite (decide (lenI (V_tmpl_Op (x.1, x.2.1, x.2.2)).1 > 0) || true)
       (.ret (decide (lenI (V_tmpl_Op (x.1, x.2.1, x.2.2)).1 > 0) && true))
       .fail)
      (.ret (p0.2.1)))))
   .fail)
end Go.Av
