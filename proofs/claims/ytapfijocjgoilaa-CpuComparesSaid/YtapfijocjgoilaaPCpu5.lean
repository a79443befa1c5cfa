/- Layer 8: the laws. -/
import Derived.Test.YtapfijocjgoilaaPCpu4
namespace Go.Av
open Go
/-- hauberklaw08.lives: an example, computed -/
abbrev A_hauberklaw08_lives : List Ty := []
abbrev S_hauberklaw08_lives : Sh := .ty .bool
def T_hauberklaw08_lives (_ : dens A_hauberklaw08_lives) : PO Bool := .ret true
def G_hauberklaw08_lives (_ : dens A_hauberklaw08_lives) : Bool := true
def V_hauberklaw08_lives (_ : dens A_hauberklaw08_lives) : Bool := true
theorem ok_hauberklaw08_lives (x : dens A_hauberklaw08_lives) (_ : G_hauberklaw08_lives x = true) : (T_hauberklaw08_lives x).val = some (V_hauberklaw08_lives x) := rfl
/-- hauberklaw08.other -/
abbrev A_hauberklaw08_other : List Ty := [tIns]
abbrev S_hauberklaw08_other : Sh := Sh.ty Ty.bool
def T_hauberklaw08_other (x : dens A_hauberklaw08_other) : PO (Sh.den S_hauberklaw08_other) :=
  (.ite (x.1 == 17)
   (.ret (x.2.1 != x.2.2.1 && (x.2.1 != x.2.2.2.1 && (x.2.2.2.2.1 != x.2.2.1 && x.2.2.2.2.1 != x.2.2.2.1))))
   (.ite (bif x.1 == 5 then x.1 == 5 else bif x.1 == 6 then x.1 == 6 else bif x.1 == 7 then x.1 == 7 else bif x.1 == 8 then x.1 == 8 else x.1 == 9)
    (.ret (x.2.1 != x.2.2.2.1))
    (.ite (bif x.1 == 10 then x.1 == 10 else bif x.1 == 11 then x.1 == 11 else bif x.1 == 12 then x.1 == 12 else bif x.1 == 13 then x.1 == 13 else bif x.1 == 14 then x.1 == 14 else bif x.1 == 15 then x.1 == 15 else x.1 == 16)
     (.ret (x.2.1 != x.2.2.1 && x.2.1 != x.2.2.2.1))
     (.ite (bif x.1 == 18 then x.1 == 18 else bif x.1 == 19 then x.1 == 19 else x.1 == 21)
      (.ret (x.2.1 != x.2.2.1))
      (.ite (bif x.1 == 24 then x.1 == 24 else bif x.1 == 25 then x.1 == 25 else x.1 == 2)
       (.ret (false))
       (.ret (true)))))))
def G_hauberklaw08_other (_ : dens A_hauberklaw08_other) : Bool := true
def V_hauberklaw08_other (x : dens A_hauberklaw08_other) : Sh.den S_hauberklaw08_other := (T_hauberklaw08_other x).getO default
theorem ok_hauberklaw08_other (x : dens A_hauberklaw08_other) (_ : G_hauberklaw08_other x = true) : (T_hauberklaw08_other x).val = some (V_hauberklaw08_other x) := PO.sure_ok default (by simp [T_hauberklaw08_other, PO.sure])
/-- hauberklaw08.signed -/
abbrev A_hauberklaw08_signed : List Ty := [(.int .i64)]
abbrev S_hauberklaw08_signed : Sh := Sh.ty (Ty.int IntKind.i64)
def T_hauberklaw08_signed (x : dens A_hauberklaw08_signed) : PO (Sh.den S_hauberklaw08_signed) :=
  (.ret (w64 (bxor IntKind.i64 (band IntKind.i64 x 4294967295) 2147483648 - 2147483648)))
def G_hauberklaw08_signed (_ : dens A_hauberklaw08_signed) : Bool := true
def V_hauberklaw08_signed (x : dens A_hauberklaw08_signed) : Sh.den S_hauberklaw08_signed := (T_hauberklaw08_signed x).getO default
theorem ok_hauberklaw08_signed (x : dens A_hauberklaw08_signed) (_ : G_hauberklaw08_signed x = true) : (T_hauberklaw08_signed x).val = some (V_hauberklaw08_signed x) := PO.sure_ok default (by simp [T_hauberklaw08_signed, PO.sure])
/-- hauberklaw08.CpuSteps -/
abbrev A_hauberklaw08_CpuSteps : List Ty := [tState, tIns, (.int .i64)]
abbrev S_hauberklaw08_CpuSteps : Sh := Sh.ty Ty.bool
def T_hauberklaw08_CpuSteps (x : dens A_hauberklaw08_CpuSteps) : PO (Sh.den S_hauberklaw08_CpuSteps) :=
  (.ite (G_cpu_Step (x.1, x.2.1, x.2.2))
   (.ite (G_hauberkref08_Step (x.1, x.2.1, x.2.2))
    (.ite (bif Ty.eqb tState (V_cpu_Step (x.1, x.2.1, x.2.2)).1 (V_hauberkref08_Step (x.1, x.2.1, x.2.2)).1 then (V_cpu_Step (x.1, x.2.1, x.2.2)).2.1 == (V_hauberkref08_Step (x.1, x.2.1, x.2.2)).2.1 || true else true)
     (.ret (Ty.eqb tState (V_cpu_Step (x.1, x.2.1, x.2.2)).1 (V_hauberkref08_Step (x.1, x.2.1, x.2.2)).1 && ((V_cpu_Step (x.1, x.2.1, x.2.2)).2.1 == (V_hauberkref08_Step (x.1, x.2.1, x.2.2)).2.1 && true)))
     .fail)
    .fail)
   .fail)
/-- hauberklaw08.CpuAccesses -/
abbrev A_hauberklaw08_CpuAccesses : List Ty := [tState, tIns]
abbrev S_hauberklaw08_CpuAccesses : Sh := Sh.ty Ty.bool
def T_hauberklaw08_CpuAccesses (x : dens A_hauberklaw08_CpuAccesses) : PO (Sh.den S_hauberklaw08_CpuAccesses) :=
  (.ite (G_cpu_Access (x.1, x.2))
   (.ite (bif Ty.eqb tAccess (V_cpu_Access (x.1, x.2)).1 (V_hauberkref08_Access (x.1, x.2)).1 then bif (V_cpu_Access (x.1, x.2)).2.1 == (V_hauberkref08_Access (x.1, x.2)).2.1 then G_cpu_Cycles (x.1, x.2) && (V_cpu_Cycles (x.1, x.2) == V_hauberkref08_Cycles (x.1, x.2) || true) else true else true)
    (.ret (Ty.eqb tAccess (V_cpu_Access (x.1, x.2)).1 (V_hauberkref08_Access (x.1, x.2)).1 && ((V_cpu_Access (x.1, x.2)).2.1 == (V_hauberkref08_Access (x.1, x.2)).2.1 && (V_cpu_Cycles (x.1, x.2) == V_hauberkref08_Cycles (x.1, x.2) && true))))
    .fail)
   .fail)
/-- hauberklaw08.CpuHolds -/
abbrev A_hauberklaw08_CpuHolds : List Ty := [tState, (.int .i64)]
abbrev S_hauberklaw08_CpuHolds : Sh := Sh.ty Ty.bool
def T_hauberklaw08_CpuHolds (x : dens A_hauberklaw08_CpuHolds) : PO (Sh.den S_hauberklaw08_CpuHolds) :=
  (.ite (V_cpu_Holds (x.1, x.2) == V_hauberkref08_Holds (x.1, x.2) || true)
   (.ret (V_cpu_Holds (x.1, x.2) == V_hauberkref08_Holds (x.1, x.2) && true))
   .fail)
/-- hauberklaw08.CpuTwice -/
abbrev A_hauberklaw08_CpuTwice : List Ty := [tState, tIns, (.int .i64)]
abbrev S_hauberklaw08_CpuTwice : Sh := Sh.ty Ty.bool
def T_hauberklaw08_CpuTwice (x : dens A_hauberklaw08_CpuTwice) : PO (Sh.den S_hauberklaw08_CpuTwice) :=
  (.ite (V_thumb_Check x.2.1 != 0 || true)
   (.ite (V_thumb_Check x.2.1 != 0 || !V_hauberklaw08_other x.2.1)
    (.ret (true))
    (.ite (G_cpu_Step (x.1, x.2.1, x.2.2))
     (.ite (G_cpu_Step ((V_cpu_Step (x.1, x.2.1, x.2.2)).1, x.2.1, x.2.2))
      (.ite (!(V_cpu_Step (x.1, x.2.1, x.2.2)).2.1 || (!(V_cpu_Step ((V_cpu_Step (x.1, x.2.1, x.2.2)).1, x.2.1, x.2.2)).2.1 || true))
       (.ite (!(V_cpu_Step (x.1, x.2.1, x.2.2)).2.1 || (!(V_cpu_Step ((V_cpu_Step (x.1, x.2.1, x.2.2)).1, x.2.1, x.2.2)).2.1 || (V_cpu_Step ((V_cpu_Step (x.1, x.2.1, x.2.2)).1, x.2.1, x.2.2)).1.2.1 != band IntKind.i64 (w64 ((V_cpu_Step (x.1, x.2.1, x.2.2)).1.2.1 + V_thumb_Size x.2.1)) 4294967295))
        (.ret (false))
        (.ite (G_cpu_Access (x.1, x.2.1))
         (.ite (G_cpu_Access ((V_cpu_Step (x.1, x.2.1, x.2.2)).1, x.2.1))
          (.ite (bif Ty.eqb tState ((V_cpu_Step ((V_cpu_Step (x.1, x.2.1, x.2.2)).1, x.2.1, x.2.2)).1.1, (V_cpu_Step (x.1, x.2.1, x.2.2)).1.2.1, (V_cpu_Step ((V_cpu_Step (x.1, x.2.1, x.2.2)).1, x.2.1, x.2.2)).1.2.2) (V_cpu_Step (x.1, x.2.1, x.2.2)).1 then bif (V_cpu_Access (x.1, x.2.1)).2.1 == (V_cpu_Access ((V_cpu_Step (x.1, x.2.1, x.2.2)).1, x.2.1)).2.1 then Ty.eqb tAccess (V_cpu_Access (x.1, x.2.1)).1 (V_cpu_Access ((V_cpu_Step (x.1, x.2.1, x.2.2)).1, x.2.1)).1 || (!(V_cpu_Access (x.1, x.2.1)).2.1 || true) else true else true)
           (.ret (Ty.eqb tState ((V_cpu_Step ((V_cpu_Step (x.1, x.2.1, x.2.2)).1, x.2.1, x.2.2)).1.1, (V_cpu_Step (x.1, x.2.1, x.2.2)).1.2.1, (V_cpu_Step ((V_cpu_Step (x.1, x.2.1, x.2.2)).1, x.2.1, x.2.2)).1.2.2) (V_cpu_Step (x.1, x.2.1, x.2.2)).1 && ((V_cpu_Access (x.1, x.2.1)).2.1 == (V_cpu_Access ((V_cpu_Step (x.1, x.2.1, x.2.2)).1, x.2.1)).2.1 && (Ty.eqb tAccess (V_cpu_Access (x.1, x.2.1)).1 (V_cpu_Access ((V_cpu_Step (x.1, x.2.1, x.2.2)).1, x.2.1)).1 || !(V_cpu_Access (x.1, x.2.1)).2.1 && true))))
           .fail)
          .fail)
         .fail))
       .fail)
      .fail)
     .fail))
   .fail)
def L_hauberklaw08_CpuKeeps_5 : LoopN where
  M := [3, 4, 6, 7, 9]
  T := [10, 40, 41, 42, 43, 44, 45, 46, 47, 48, 49, 50, 51, 52, 53, 54, 55, 56, 57, 58, 59, 60, 61, 62, 63, 64, 65, 66, 67, 68, 69, 70, 71, 72]
  D := [9]
  ss := [.box 0 0, .box 1 0, .ty .bool, .box 2 0, .ty (.int .i64)]
  hs := [.ty tState, .ty tIns, .ty tState]
  es := [.exit 0, .ret]
  σ := (Ty.den .bool) × (Ty.den (.int .i64)) × (Sh.den (.ty tState)) × (Sh.den (.ty tIns)) × (Sh.den (.ty tState))
  x0 := fun x y => (x.2.2.1, x.2.2.2.2, y.1, y.2.1, y.2.2)
  put := fun x _ s => ((x.1, x.2.1, s.1, x.2.2.2.1, s.2.1), (s.2.2.1, s.2.2.2.1, s.2.2.2.2))
  fuel := fun _ _ => 20
  turn := fun _ _ s =>
  (.ite (decide (s.2.1 < 15))
   (.ite (bif !(s.2.1 == s.2.2.2.1.2.1 || s.2.1 == s.2.2.2.1.2.2.2.2.1 && s.2.2.2.1.1 == 17) then inRange s.2.1 15 && inRange s.2.1 15 else true)
    (.ite (!(s.2.1 == s.2.2.2.1.2.1 || s.2.1 == s.2.2.2.1.2.2.2.2.1 && s.2.2.2.1.1 == 17) && List.getD s.2.2.2.2.1 (Int.toNat s.2.1) (Ty.dflt (Ty.int IntKind.i64)) != band IntKind.i64 (List.getD s.2.2.1.1 (Int.toNat s.2.1) (Ty.dflt (Ty.int IntKind.i64))) 4294967295)
     (.ret (.out 1 (false, s.2.1, s.2.2.1, s.2.2.2.1, s.2.2.2.2)))
     (.ret (.on (s.1, w64 (s.2.1 + 1), s.2.2.1, s.2.2.2.1, s.2.2.2.2))))
    .fail)
   (.ret (.out 0 (s.1, s.2.1, s.2.2.1, s.2.2.2.1, s.2.2.2.2))))
/-- hauberklaw08.CpuKeeps -/
abbrev A_hauberklaw08_CpuKeeps : List Ty := [tState, tIns, (.int .i64)]
abbrev S_hauberklaw08_CpuKeeps : Sh := Sh.ty Ty.bool
def T_hauberklaw08_CpuKeeps (x : dens A_hauberklaw08_CpuKeeps) : PO (Sh.den S_hauberklaw08_CpuKeeps) :=
  (.ite (G_cpu_Step (x.1, x.2.1, x.2.2))
   (.ite (!(V_cpu_Step (x.1, x.2.1, x.2.2)).2.1)
    (.ite (bif V_thumb_Check x.2.1 != 0 then (V_cpu_Step (x.1, x.2.1, x.2.2)).1.2.1 == band IntKind.i64 x.1.2.1 4294967295 || true else bif x.2.1.1 == 2 then (V_cpu_Step (x.1, x.2.1, x.2.2)).1.2.1 == band IntKind.i64 x.1.2.1 4294967295 || true else true)
     (.ret (bif V_thumb_Check x.2.1 != 0 then (V_cpu_Step (x.1, x.2.1, x.2.2)).1.2.1 == band IntKind.i64 x.1.2.1 4294967295 && true else x.2.1.1 == 2 && ((V_cpu_Step (x.1, x.2.1, x.2.2)).1.2.1 == band IntKind.i64 x.1.2.1 4294967295 && true)))
     .fail)
    (.opt (LoopN.res L_hauberklaw08_CpuKeeps_5 ((), (), false, (), 0) (x.1, x.2.1, (V_cpu_Step (x.1, x.2.1, x.2.2)).1)) fun p0 =>
     (.ite (way p0.1)
      (.ite (bif p0.2.2.2.2.2.2.2.1 == p0.2.2.2.1.2.2.1 && (p0.2.2.2.2.2.2.2.2.1 == p0.2.2.2.1.2.2.2.1 && (p0.2.2.2.2.2.2.2.2.2.1 == p0.2.2.2.1.2.2.2.2.1 && p0.2.2.2.2.2.2.2.2.2.2.1 == p0.2.2.2.1.2.2.2.2.2.1)) then p0.2.2.2.2.2.2.1 == band IntKind.i64 (w64 (p0.2.2.2.1.2.1 + V_thumb_Size p0.2.2.2.2.1)) 4294967295 || (p0.2.2.2.2.1.1 == 24 || (p0.2.2.2.2.1.1 == 25 || true)) else bif p0.2.2.2.2.1.1 == 23 then p0.2.2.2.2.2.2.1 == band IntKind.i64 (w64 (p0.2.2.2.1.2.1 + V_thumb_Size p0.2.2.2.2.1)) 4294967295 || (p0.2.2.2.2.1.1 == 24 || (p0.2.2.2.2.1.1 == 25 || true)) else true)
       (.ret (bif p0.2.2.2.2.2.2.2.1 == p0.2.2.2.1.2.2.1 && (p0.2.2.2.2.2.2.2.2.1 == p0.2.2.2.1.2.2.2.1 && (p0.2.2.2.2.2.2.2.2.2.1 == p0.2.2.2.1.2.2.2.2.1 && p0.2.2.2.2.2.2.2.2.2.2.1 == p0.2.2.2.1.2.2.2.2.2.1)) then p0.2.2.2.2.2.2.1 == band IntKind.i64 (w64 (p0.2.2.2.1.2.1 + V_thumb_Size p0.2.2.2.2.1)) 4294967295 || (p0.2.2.2.2.1.1 == 24 || p0.2.2.2.2.1.1 == 25 && true) else p0.2.2.2.2.1.1 == 23 && (p0.2.2.2.2.2.2.1 == band IntKind.i64 (w64 (p0.2.2.2.1.2.1 + V_thumb_Size p0.2.2.2.2.1)) 4294967295 || (p0.2.2.2.2.1.1 == 24 || p0.2.2.2.2.1.1 == 25 && true))))
       .fail)
      (.ret (p0.2.1)))))
   .fail)
end Go.Av
