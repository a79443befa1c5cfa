/- Layer 8: what a comparison tells, in pieces; as it is walked. -/
import Derived.Test.YtapfijocjgoilaaPCpu5
namespace Go.Av
open Go

def L_hauberklaw08_CpuCompares_c16 : LoopN where
  M := [6, 8, 13, 14]
  T := [128, 129, 130, 131, 132, 133, 134, 135, 136, 137]
  D := [8, 13, 14]
  ss := [.ty .bool, .ty .bool, .ty .bool, .ty .bool]
  hs := []
  es := [.ret]
  σ := (Ty.den .bool)
  x0 := fun x _ => x.1
  put := fun x _ s => ((s, x.2.1, x.2.2.1, x.2.2.2), ())
  fuel := fun _ _ => 1
  turn := fun x _ _ =>
  (.ite (bif x.2.1 then bif x.2.2.1 then x.2.2.2 || true else true else true)
   (.ret (.out 0 (x.2.1 && (x.2.2.1 && (x.2.2.2 && true)))))
   .fail)
def K_hauberklaw08_CpuCompares_c14_0 (x : shDens [.ty .bool, .box 0 0, .ty .bool, .ty (.int .i64), .ty (.int .i64), .ty .bool]) (y : shDens [.ty tState]) (s : (Ty.den .bool) × (Sh.den (.ty tState))) := LoopN.res L_hauberklaw08_CpuCompares_c16 (s.1, x.2.2.1, x.2.2.2.2.2, V_cpu_Holds (s.2, 10) == decide (x.2.2.2.1 ≥ x.2.2.2.2.1) && (V_cpu_Holds (s.2, 11) == decide (x.2.2.2.1 < x.2.2.2.2.1) && (V_cpu_Holds (s.2, 12) == decide (x.2.2.2.1 > x.2.2.2.2.1) && V_cpu_Holds (s.2, 13) == decide (x.2.2.2.1 ≤ x.2.2.2.2.1)))) ()
def L_hauberklaw08_CpuCompares_c14 : LoopN where
  M := [6, 7, 8, 11, 12, 13]
  T := [14, 98, 99, 100, 101, 102, 103, 104, 105, 106, 107, 108, 109, 110, 111, 112, 113, 114, 115, 116, 117, 118, 119, 120, 121, 122, 123, 124, 125, 126, 127, 128, 129, 130, 131, 132, 133, 134, 135, 136, 137]
  D := [7, 8, 11, 12, 13]
  ss := [.ty .bool, .box 0 0, .ty .bool, .ty (.int .i64), .ty (.int .i64), .ty .bool]
  hs := [.ty tState]
  es := [.ret]
  σ := (Ty.den .bool) × (Sh.den (.ty tState))
  x0 := fun x y => (x.1, y)
  put := fun x _ s => ((s.1, x.2.1, x.2.2.1, x.2.2.2.1, x.2.2.2.2.1, x.2.2.2.2.2), s.2)
  fuel := fun _ _ => 1
  turn := fun x y s =>
  (.ite (bif V_cpu_Holds (s.2, 10) == decide (x.2.2.2.1 ≥ x.2.2.2.2.1) then bif V_cpu_Holds (s.2, 11) == decide (x.2.2.2.1 < x.2.2.2.2.1) then V_cpu_Holds (s.2, 12) == decide (x.2.2.2.1 > x.2.2.2.2.1) || true else true else true)
   (.opt (K_hauberklaw08_CpuCompares_c14_0 x y s) fun p0 =>
    (.ret (.out 0 (p0.2, s.2))))
   .fail)
def K_hauberklaw08_CpuCompares_c12_0 (x : shDens [.ty .bool, .box 0 0, .ty .bool, .ty (.int .i64), .ty (.int .i64), .ty (.int .i64), .ty (.int .i64)]) (y : shDens [.ty tState]) (s : (Ty.den .bool) × (Sh.den (.ty tState))) := LoopN.res L_hauberklaw08_CpuCompares_c14 (s.1, (), x.2.2.1, x.2.2.2.2.2.1, x.2.2.2.2.2.2, V_cpu_Holds (s.2, 0) == (x.2.2.2.1 == x.2.2.2.2.1) && (V_cpu_Holds (s.2, 1) == (x.2.2.2.1 != x.2.2.2.2.1) && (V_cpu_Holds (s.2, 2) == decide (x.2.2.2.1 ≥ x.2.2.2.2.1) && (V_cpu_Holds (s.2, 3) == decide (x.2.2.2.1 < x.2.2.2.2.1) && (V_cpu_Holds (s.2, 8) == decide (x.2.2.2.1 > x.2.2.2.2.1) && V_cpu_Holds (s.2, 9) == decide (x.2.2.2.1 ≤ x.2.2.2.2.1)))))) s.2
def L_hauberklaw08_CpuCompares_c12 : LoopN where
  M := [6, 7, 8, 9, 10, 11, 12]
  T := [13, 14, 52, 53, 54, 55, 56, 57, 58, 59, 60, 61, 62, 63, 64, 65, 66, 67, 68, 69, 70, 71, 72, 73, 74, 75, 76, 77, 78, 79, 80, 81, 82, 83, 84, 85, 86, 87, 88, 89, 90, 91, 92, 93, 94, 95, 96, 97, 98, 99, 100, 101, 102, 103, 104, 105, 106, 107, 108, 109, 110, 111, 112, 113, 114, 115, 116, 117, 118, 119, 120, 121, 122, 123, 124, 125, 126, 127, 128, 129, 130, 131, 132, 133, 134, 135, 136, 137]
  D := [7, 8, 9, 10, 11, 12]
  ss := [.ty .bool, .box 0 0, .ty .bool, .ty (.int .i64), .ty (.int .i64), .ty (.int .i64), .ty (.int .i64)]
  hs := [.ty tState]
  es := [.ret]
  σ := (Ty.den .bool) × (Sh.den (.ty tState))
  x0 := fun x y => (x.1, y)
  put := fun x _ s => ((s.1, x.2.1, x.2.2.1, x.2.2.2.1, x.2.2.2.2.1, x.2.2.2.2.2.1, x.2.2.2.2.2.2), s.2)
  fuel := fun _ _ => 1
  turn := fun x y s =>
  (.ite (bif V_cpu_Holds (s.2, 0) == (x.2.2.2.1 == x.2.2.2.2.1) then bif V_cpu_Holds (s.2, 1) == (x.2.2.2.1 != x.2.2.2.2.1) then bif V_cpu_Holds (s.2, 2) == decide (x.2.2.2.1 ≥ x.2.2.2.2.1) then bif V_cpu_Holds (s.2, 3) == decide (x.2.2.2.1 < x.2.2.2.2.1) then V_cpu_Holds (s.2, 8) == decide (x.2.2.2.1 > x.2.2.2.2.1) || true else true else true else true else true)
   (.opt (K_hauberklaw08_CpuCompares_c12_0 x y s) fun p0 =>
    (.ret (.out 0 (p0.2.1, p0.2.2))))
   .fail)
/-- hauberklaw08.CpuCompares -/
abbrev A_hauberklaw08_CpuCompares : List Ty := [tState, (.int .i64), (.int .i64)]
abbrev S_hauberklaw08_CpuCompares : Sh := Sh.ty Ty.bool
def K_hauberklaw08_CpuCompares_0 (x : dens [tState, (.int .i64), (.int .i64)]) := G_cpu_Step (x.1, (23, 0, x.2.1, x.2.2, 0, 0, 0, false, ()), 0)
def K_hauberklaw08_CpuCompares_1 (x : dens [tState, (.int .i64), (.int .i64)]) := V_cpu_Step (x.1, (23, 0, x.2.1, x.2.2, 0, 0, 0, false, ()), 0)
def K_hauberklaw08_CpuCompares_2 (x : dens [tState, (.int .i64), (.int .i64)]) := LoopN.res L_hauberklaw08_CpuCompares_c12 (false, (), (K_hauberklaw08_CpuCompares_1 x).2.1, band IntKind.i64 (List.getD x.1.1 (Int.toNat x.2.1) (Ty.dflt (Ty.int IntKind.i64))) 4294967295, band IntKind.i64 (List.getD x.1.1 (Int.toNat x.2.2) (Ty.dflt (Ty.int IntKind.i64))) 4294967295, V_hauberklaw08_signed (band IntKind.i64 (List.getD x.1.1 (Int.toNat x.2.1) (Ty.dflt (Ty.int IntKind.i64))) 4294967295), V_hauberklaw08_signed (band IntKind.i64 (List.getD x.1.1 (Int.toNat x.2.2) (Ty.dflt (Ty.int IntKind.i64))) 4294967295)) (K_hauberklaw08_CpuCompares_1 x).1
def T_hauberklaw08_CpuCompares (x : dens A_hauberklaw08_CpuCompares) : PO (Sh.den S_hauberklaw08_CpuCompares) :=
  (.ite (decide (x.2.1 < 0) || (decide (x.2.1 > 7) || (decide (x.2.2 < 0) || decide (x.2.2 > 7))))
   (.ret (true))
   (.ite (K_hauberklaw08_CpuCompares_0 x)
    (.ite (inRange x.2.1 15 && inRange x.2.2 15)
     (.opt (K_hauberklaw08_CpuCompares_2 x) fun p0 =>
      (.ret (p0.2.1)))
     .fail)
    .fail))
end Go.Av
