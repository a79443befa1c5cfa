/- Layer 2: instructions. -/
import Derived.Test.YtbfhpnnnfjjjnaaPBase
namespace Go.Av
open Go
/-- thumb.within -/
abbrev A_thumb_within : List Ty := [(.int .i64), (.int .i64), (.int .i64)]
abbrev S_thumb_within : Sh := Sh.ty Ty.bool
def T_thumb_within (x : dens A_thumb_within) : PO (Sh.den S_thumb_within) :=
  (.ret (decide (x.1 ≥ x.2.1) && decide (x.1 ≤ x.2.2)))
def G_thumb_within (_ : dens A_thumb_within) : Bool := true
def V_thumb_within (x : dens A_thumb_within) : Sh.den S_thumb_within := (T_thumb_within x).getO default
theorem ok_thumb_within (x : dens A_thumb_within) (_ : G_thumb_within x = true) : (T_thumb_within x).val = some (V_thumb_within x) := PO.sure_ok default (by simp [T_thumb_within, PO.sure])
/-- thumb.field -/
abbrev A_thumb_field : List Ty := [(.int .i64), (.int .i64)]
abbrev S_thumb_field : Sh := Sh.ty Ty.bool
def T_thumb_field (x : dens A_thumb_field) : PO (Sh.den S_thumb_field) :=
  (.ite (x.2 == -1)
   (.ret (x.1 == 0))
   (.ret (V_thumb_within (x.1, 0, x.2))))
def G_thumb_field (_ : dens A_thumb_field) : Bool := true
def V_thumb_field (x : dens A_thumb_field) : Sh.den S_thumb_field := (T_thumb_field x).getO default
theorem ok_thumb_field (x : dens A_thumb_field) (_ : G_thumb_field x = true) : (T_thumb_field x).val = some (V_thumb_field x) := PO.sure_ok default (by simp [T_thumb_field, PO.sure])
/-- thumb.formOf -/
abbrev A_thumb_formOf : List Ty := [(.int .i64)]
abbrev S_thumb_formOf : Sh := Sh.tup (Sh.pair (Sh.ty tOp) (Sh.pair (Sh.ty Ty.bool) (Sh.ty Ty.unit)))
def T_thumb_formOf (x : dens A_thumb_formOf) : PO (Sh.den S_thumb_formOf) :=
  (.ite (x == 1)
   (.ret (((-1, -1, -1, -1, 0, 0, ()), true, ())))
   (.ite (x == 2)
    (.ret (((-1, -1, -1, -1, 0, 255, ()), true, ())))
    (.ite (bif x == 3 then x == 3 else x == 4)
     (.ret (((12, -1, -1, -1, 0, 65535, ()), true, ())))
     (.ite (x == 5)
      (.ret (((12, -1, 12, -1, 0, 31, ()), true, ())))
      (.ite (bif x == 6 then x == 6 else bif x == 7 then x == 7 else x == 8)
       (.ret (((12, -1, 12, -1, 1, 31, ()), true, ())))
       (.ite (x == 9)
        (.ret (((12, -1, 12, -1, 0, 0, ()), true, ())))
        (.ite (bif x == 10 then x == 10 else bif x == 11 then x == 11 else bif x == 12 then x == 12 else bif x == 13 then x == 13 else bif x == 14 then x == 14 else bif x == 15 then x == 15 else x == 16)
         (.ret (((12, 12, 12, -1, 0, 0, ()), true, ())))
         (.ite (x == 17)
          (.ret (((12, 12, 12, 12, 0, 0, ()), true, ())))
          (.ite (x == 18)
           (.ret (((12, 12, -1, 32, 0, 31, ()), true, ())))
           (.ite (bif x == 19 then x == 19 else bif x == 20 then x == 20 else bif x == 21 then x == 21 else x == 22)
            (.ret (((7, 7, -1, -1, 0, 0, ()), true, ())))
            (.ite (x == 23)
             (.ret (((-1, 7, 7, -1, 0, 0, ()), true, ())))
             (.ret (((0, 0, 0, 0, 0, 0, ()), false, ()))))))))))))))
def G_thumb_formOf (_ : dens A_thumb_formOf) : Bool := true
def V_thumb_formOf (x : dens A_thumb_formOf) : Sh.den S_thumb_formOf := (T_thumb_formOf x).getO default
theorem ok_thumb_formOf (x : dens A_thumb_formOf) (_ : G_thumb_formOf x = true) : (T_thumb_formOf x).val = some (V_thumb_formOf x) := PO.sure_ok default (by simp [T_thumb_formOf, PO.sure])
/-- thumb.Reach -/
abbrev A_thumb_Reach : List Ty := [(.int .i64), .bool]
abbrev S_thumb_Reach : Sh := Sh.tup (Sh.pair (Sh.ty (Ty.int IntKind.i64)) (Sh.pair (Sh.ty (Ty.int IntKind.i64)) (Sh.ty Ty.unit)))
def T_thumb_Reach (x : dens A_thumb_Reach) : PO (Sh.den S_thumb_Reach) :=
  (.ite (x.1 == 24)
   (.ret ((w64 (0 - bif x.2 then 16777216 else 2048), w64 ((bif x.2 then 16777216 else 2048) - 2), ())))
   (.ite (x.1 == 25)
    (.ret ((w64 (0 - bif x.2 then 1048576 else 256), w64 ((bif x.2 then 1048576 else 256) - 2), ())))
    (.ret ((0, 0, ())))))
def G_thumb_Reach (_ : dens A_thumb_Reach) : Bool := true
def V_thumb_Reach (x : dens A_thumb_Reach) : Sh.den S_thumb_Reach := (T_thumb_Reach x).getO default
theorem ok_thumb_Reach (x : dens A_thumb_Reach) (_ : G_thumb_Reach x = true) : (T_thumb_Reach x).val = some (V_thumb_Reach x) := PO.sure_ok default (by simp [T_thumb_Reach, PO.sure])
/-- thumb.branch -/
abbrev A_thumb_branch : List Ty := [tIns]
abbrev S_thumb_branch : Sh := Sh.ty (Ty.int IntKind.i64)
def T_thumb_branch (x : dens A_thumb_branch) : PO (Sh.den S_thumb_branch) :=
  (.ite (x.2.1 != 0 || (x.2.2.1 != 0 || (x.2.2.2.1 != 0 || (x.2.2.2.2.1 != 0 || bif x.1 == 24 then x.2.2.2.2.2.2.1 != 0 || true else true))))
   (.ite (x.2.1 != 0 || (x.2.2.1 != 0 || (x.2.2.2.1 != 0 || (x.2.2.2.2.1 != 0 || bif x.1 == 24 then x.2.2.2.2.2.2.1 != 0 || !V_thumb_within (x.2.2.2.2.2.2.1, 0, 13) else !V_thumb_within (x.2.2.2.2.2.2.1, 0, 13)))))
    (.ret (2))
    (.ite (band IntKind.i64 x.2.2.2.2.2.1 1 != 0 || true)
     (.ite (band IntKind.i64 x.2.2.2.2.2.1 1 != 0 || !V_thumb_within (x.2.2.2.2.2.1, (V_thumb_Reach (x.1, x.2.2.2.2.2.2.2.1)).1, (V_thumb_Reach (x.1, x.2.2.2.2.2.2.2.1)).2.1))
      (.ret (6))
      (.ret (0)))
     .fail))
   .fail)
def G_thumb_branch (_ : dens A_thumb_branch) : Bool := true
def V_thumb_branch (x : dens A_thumb_branch) : Sh.den S_thumb_branch := (T_thumb_branch x).getO default
theorem ok_thumb_branch (x : dens A_thumb_branch) (_ : G_thumb_branch x = true) : (T_thumb_branch x).val = some (V_thumb_branch x) := PO.tots_ok default (by simp [T_thumb_branch, PO.tots])
/-- thumb.Check -/
abbrev A_thumb_Check : List Ty := [tIns]
abbrev S_thumb_Check : Sh := Sh.ty (Ty.int IntKind.i64)
def T_thumb_Check (x : dens A_thumb_Check) : PO (Sh.den S_thumb_Check) :=
  (.ite (x.1 == 24 || x.1 == 25)
   (.ret (V_thumb_branch x))
   (.ite (!(V_thumb_formOf x.1).2.1 || (x.2.2.2.2.2.2.2.1 || (x.2.2.2.2.2.2.1 != 0 || true)))
    (.ite (!(V_thumb_formOf x.1).2.1 || (x.2.2.2.2.2.2.2.1 || (x.2.2.2.2.2.2.1 != 0 || !V_thumb_within (x.2.2.2.2.2.1, (V_thumb_formOf x.1).1.2.2.2.2.1, (V_thumb_formOf x.1).1.2.2.2.2.2.1))))
     (.ret (2))
     (.ite (!V_thumb_field (x.2.1, (V_thumb_formOf x.1).1.1) || (!V_thumb_field (x.2.2.1, (V_thumb_formOf x.1).1.2.1) || (!V_thumb_field (x.2.2.2.1, (V_thumb_formOf x.1).1.2.2.1) || true)))
      (.ite (!V_thumb_field (x.2.1, (V_thumb_formOf x.1).1.1) || (!V_thumb_field (x.2.2.1, (V_thumb_formOf x.1).1.2.1) || (!V_thumb_field (x.2.2.2.1, (V_thumb_formOf x.1).1.2.2.1) || !V_thumb_field (x.2.2.2.2.1, (V_thumb_formOf x.1).1.2.2.2.1))))
       (.ret (2))
       (.ite (bif x.1 == 17 then x.2.2.2.2.1 == x.2.1 || (x.1 == 18 || true) else x.1 == 18 || true)
        (.ite (bif x.1 == 17 then x.2.2.2.2.1 == x.2.1 || x.1 == 18 && !V_thumb_within (x.2.2.2.2.1, 1, w64 (32 - x.2.2.2.2.2.1)) else x.1 == 18 && !V_thumb_within (x.2.2.2.2.1, 1, w64 (32 - x.2.2.2.2.2.1)))
         (.ret (2))
         (.ret (0)))
        .fail))
      .fail))
    .fail))
def G_thumb_Check (_ : dens A_thumb_Check) : Bool := true
def V_thumb_Check (x : dens A_thumb_Check) : Sh.den S_thumb_Check := (T_thumb_Check x).getO default
theorem ok_thumb_Check (x : dens A_thumb_Check) (_ : G_thumb_Check x = true) : (T_thumb_Check x).val = some (V_thumb_Check x) := PO.tots_ok default (by simp [T_thumb_Check, PO.tots])
/-- dup.Safe -/
abbrev A_dup_Safe : List Ty := [tIns]
abbrev S_dup_Safe : Sh := Sh.ty Ty.bool
def T_dup_Safe (x : dens A_dup_Safe) : PO (Sh.den S_dup_Safe) :=
  (.ite (V_thumb_Check x != 0)
   (.ret (false))
   (.ite (bif x.1 == 24 then x.1 == 24 else bif x.1 == 25 then x.1 == 25 else x.1 == 2)
    (.ret (false))
    (.ite (bif x.1 == 5 then x.1 == 5 else bif x.1 == 6 then x.1 == 6 else bif x.1 == 7 then x.1 == 7 else bif x.1 == 8 then x.1 == 8 else x.1 == 9)
     (.ret (x.2.1 != x.2.2.2.1))
     (.ite (bif x.1 == 10 then x.1 == 10 else bif x.1 == 11 then x.1 == 11 else bif x.1 == 12 then x.1 == 12 else bif x.1 == 13 then x.1 == 13 else bif x.1 == 14 then x.1 == 14 else bif x.1 == 15 then x.1 == 15 else x.1 == 16)
      (.ret (x.2.1 != x.2.2.1 && x.2.1 != x.2.2.2.1))
      (.ite (x.1 == 17)
       (.ret (x.2.1 != x.2.2.1 && (x.2.1 != x.2.2.2.1 && (x.2.2.2.2.1 != x.2.2.1 && x.2.2.2.2.1 != x.2.2.2.1))))
       (.ite (bif x.1 == 18 then x.1 == 18 else bif x.1 == 19 then x.1 == 19 else x.1 == 21)
        (.ret (x.2.1 != x.2.2.1))
        (.ret (true))))))))
def G_dup_Safe (_ : dens A_dup_Safe) : Bool := true
def V_dup_Safe (x : dens A_dup_Safe) : Sh.den S_dup_Safe := (T_dup_Safe x).getO default
theorem ok_dup_Safe (x : dens A_dup_Safe) (_ : G_dup_Safe x = true) : (T_dup_Safe x).val = some (V_dup_Safe x) := PO.sure_ok default (by simp [T_dup_Safe, PO.sure])
end Go.Av
