/- Layer 2: instructions, by the document's table of bits. -/
import Derived.Test.YtbfhpnnnfjjjnaaPThumb
namespace Go.Av
open Go
/-- hauberkref02.more -/
abbrev A_hauberkref02_more : List Ty := [(.int .i64)]
abbrev S_hauberkref02_more : Sh := Sh.ty Ty.str
def T_hauberkref02_more (x : dens A_hauberkref02_more) : PO (Sh.den S_hauberkref02_more) :=
  (.ite (x == 13)
   (.ret ([49, 49, 49, 48, 49, 48, 49, 48, 49, 48, 48, 48, 110, 110, 110, 110, 48, 48, 48, 48, 100, 100, 100, 100, 48, 48, 48, 48, 109, 109, 109, 109]))
   (.ite (x == 14)
    (.ret ([49, 49, 49, 48, 49, 48, 49, 49, 48, 48, 48, 48, 110, 110, 110, 110, 48, 48, 48, 48, 100, 100, 100, 100, 48, 48, 48, 48, 109, 109, 109, 109]))
    (.ite (x == 15)
     (.ret ([49, 49, 49, 48, 49, 48, 49, 49, 49, 48, 49, 48, 110, 110, 110, 110, 48, 48, 48, 48, 100, 100, 100, 100, 48, 48, 48, 48, 109, 109, 109, 109]))
     (.ite (x == 16)
      (.ret ([49, 49, 49, 49, 49, 48, 49, 49, 48, 48, 48, 48, 110, 110, 110, 110, 49, 49, 49, 49, 100, 100, 100, 100, 48, 48, 48, 48, 109, 109, 109, 109]))
      (.ite (x == 17)
       (.ret ([49, 49, 49, 49, 49, 48, 49, 49, 49, 48, 49, 48, 110, 110, 110, 110, 100, 100, 100, 100, 97, 97, 97, 97, 48, 48, 48, 48, 109, 109, 109, 109]))
       (.ite (x == 18)
        (.ret ([49, 49, 49, 49, 48, 48, 49, 49, 48, 49, 49, 48, 110, 110, 110, 110, 48, 69, 68, 67, 100, 100, 100, 100, 66, 65, 48, 119, 119, 119, 119, 119]))
        (.ite (x == 19)
         (.ret ([48, 49, 49, 48, 49, 48, 48, 48, 48, 48, 110, 110, 110, 100, 100, 100]))
         (.ite (x == 20)
          (.ret ([48, 49, 49, 48, 48, 48, 48, 48, 48, 48, 110, 110, 110, 100, 100, 100]))
          (.ite (x == 21)
           (.ret ([48, 49, 49, 49, 49, 48, 48, 48, 48, 48, 110, 110, 110, 100, 100, 100]))
           (.ite (x == 22)
            (.ret ([48, 49, 49, 49, 48, 48, 48, 48, 48, 48, 110, 110, 110, 100, 100, 100]))
            (.ite (x == 23)
             (.ret ([48, 49, 48, 48, 48, 48, 49, 48, 49, 48, 109, 109, 109, 110, 110, 110]))
             (.ite (x == 24)
              (.ret ([49, 49, 49, 48, 48, 76, 75, 74, 73, 72, 71, 70, 69, 68, 67, 66]))
              (.ite (x == 25)
               (.ret ([49, 49, 48, 49, 99, 99, 99, 99, 73, 72, 71, 70, 69, 68, 67, 66]))
               (.ret ([])))))))))))))))
def G_hauberkref02_more (_ : dens A_hauberkref02_more) : Bool := true
def V_hauberkref02_more (x : dens A_hauberkref02_more) : Sh.den S_hauberkref02_more := (T_hauberkref02_more x).getO default
theorem ok_hauberkref02_more (x : dens A_hauberkref02_more) (_ : G_hauberkref02_more x = true) : (T_hauberkref02_more x).val = some (V_hauberkref02_more x) := PO.sure_ok default (by simp [T_hauberkref02_more, PO.sure])
/-- hauberkref02.Bits -/
abbrev A_hauberkref02_Bits : List Ty := [(.int .i64), .bool]
abbrev S_hauberkref02_Bits : Sh := Sh.ty Ty.str
def T_hauberkref02_Bits (x : dens A_hauberkref02_Bits) : PO (Sh.den S_hauberkref02_Bits) :=
  (.ite (x.2)
   (.ite (x.1 == 24)
    (.ret ([49, 49, 49, 49, 48, 89, 86, 85, 84, 83, 82, 81, 80, 79, 78, 77, 49, 48, 120, 49, 121, 76, 75, 74, 73, 72, 71, 70, 69, 68, 67, 66]))
    (.ite (x.1 == 25)
     (.ret ([49, 49, 49, 49, 48, 85, 99, 99, 99, 99, 82, 81, 80, 79, 78, 77, 49, 48, 83, 48, 84, 76, 75, 74, 73, 72, 71, 70, 69, 68, 67, 66]))
     (.ret ([]))))
   (.ite (x.1 == 1)
    (.ret ([49, 48, 49, 49, 49, 49, 49, 49, 48, 48, 48, 48, 48, 48, 48, 48]))
    (.ite (x.1 == 2)
     (.ret ([49, 48, 49, 49, 49, 49, 49, 48, 72, 71, 70, 69, 68, 67, 66, 65]))
     (.ite (x.1 == 3)
      (.ret ([49, 49, 49, 49, 48, 76, 49, 48, 48, 49, 48, 48, 80, 79, 78, 77, 48, 75, 74, 73, 100, 100, 100, 100, 72, 71, 70, 69, 68, 67, 66, 65]))
      (.ite (x.1 == 4)
       (.ret ([49, 49, 49, 49, 48, 76, 49, 48, 49, 49, 48, 48, 80, 79, 78, 77, 48, 75, 74, 73, 100, 100, 100, 100, 72, 71, 70, 69, 68, 67, 66, 65]))
       (.ite (x.1 == 5)
        (.ret ([49, 49, 49, 48, 49, 48, 49, 48, 48, 49, 48, 48, 49, 49, 49, 49, 48, 69, 68, 67, 100, 100, 100, 100, 66, 65, 48, 48, 109, 109, 109, 109]))
        (.ite (x.1 == 6)
         (.ret ([49, 49, 49, 48, 49, 48, 49, 48, 48, 49, 48, 48, 49, 49, 49, 49, 48, 69, 68, 67, 100, 100, 100, 100, 66, 65, 48, 49, 109, 109, 109, 109]))
         (.ite (x.1 == 7)
          (.ret ([49, 49, 49, 48, 49, 48, 49, 48, 48, 49, 48, 48, 49, 49, 49, 49, 48, 69, 68, 67, 100, 100, 100, 100, 66, 65, 49, 48, 109, 109, 109, 109]))
          (.ite (x.1 == 8)
           (.ret ([49, 49, 49, 48, 49, 48, 49, 48, 48, 49, 48, 48, 49, 49, 49, 49, 48, 69, 68, 67, 100, 100, 100, 100, 66, 65, 49, 49, 109, 109, 109, 109]))
           (.ite (x.1 == 9)
            (.ret ([49, 49, 49, 48, 49, 48, 49, 48, 48, 49, 49, 48, 49, 49, 49, 49, 48, 48, 48, 48, 100, 100, 100, 100, 48, 48, 48, 48, 109, 109, 109, 109]))
            (.ite (x.1 == 10)
             (.ret ([49, 49, 49, 48, 49, 48, 49, 48, 48, 48, 48, 48, 110, 110, 110, 110, 48, 48, 48, 48, 100, 100, 100, 100, 48, 48, 48, 48, 109, 109, 109, 109]))
             (.ite (x.1 == 11)
              (.ret ([49, 49, 49, 48, 49, 48, 49, 48, 48, 48, 49, 48, 110, 110, 110, 110, 48, 48, 48, 48, 100, 100, 100, 100, 48, 48, 48, 48, 109, 109, 109, 109]))
              (.ite (x.1 == 12)
               (.ret ([49, 49, 49, 48, 49, 48, 49, 48, 48, 49, 48, 48, 110, 110, 110, 110, 48, 48, 48, 48, 100, 100, 100, 100, 48, 48, 48, 48, 109, 109, 109, 109]))
               (.ret (V_hauberkref02_more x.1)))))))))))))))
def G_hauberkref02_Bits (_ : dens A_hauberkref02_Bits) : Bool := true
def V_hauberkref02_Bits (x : dens A_hauberkref02_Bits) : Sh.den S_hauberkref02_Bits := (T_hauberkref02_Bits x).getO default
theorem ok_hauberkref02_Bits (x : dens A_hauberkref02_Bits) (_ : G_hauberkref02_Bits x = true) : (T_hauberkref02_Bits x).val = some (V_hauberkref02_Bits x) := PO.sure_ok default (by simp [T_hauberkref02_Bits, PO.sure])
def L_hauberkref02_has_2 : LoopN where
  M := [0, 1, 4, 5]
  T := [6, 7, 8, 9, 10, 11, 12, 13, 14, 15, 16]
  D := [0, 1, 5]
  ss := [.ty .str, .ty (.int .u8), .ty .bool, .ty (.int .i64)]
  hs := []
  es := [.exit 0, .ret]
  σ := (Ty.den .bool) × (Ty.den (.int .i64))
  x0 := fun x _ => (x.2.2.1, x.2.2.2)
  put := fun x _ s => ((x.1, x.2.1, s.1, s.2), ())
  fuel := fun x _ => List.length x.1+1
  turn := fun x _ s =>
  (.ite (decide (s.2 < lenI x.1))
   (.ite (inRange s.2 (List.length x.1))
    (.ite (u8I (List.getD x.1 (Int.toNat s.2) 0) == x.2.1)
     (.ret (.out 1 (true, s.2)))
     (.ret (.on (s.1, w64 (s.2 + 1)))))
    .fail)
   (.ret (.out 0 (s.1, s.2))))
/-- hauberkref02.has -/
abbrev A_hauberkref02_has : List Ty := [.str, (.int .u8)]
abbrev S_hauberkref02_has : Sh := Sh.ty Ty.bool
def T_hauberkref02_has (x : dens A_hauberkref02_has) : PO (Sh.den S_hauberkref02_has) :=
  (.opt (LoopN.res L_hauberkref02_has_2 (x.1, x.2, false, 0) ()) fun p0 =>
   (.ite (way p0.1)
    (.ret (false))
    (.ret (p0.2.1))))
def G_hauberkref02_has (x : dens A_hauberkref02_has) : Bool := decide (List.length x.1 < 4611686018427387904)
def V_hauberkref02_has (x : dens A_hauberkref02_has) : Sh.den S_hauberkref02_has := List.any x.1 fun b => u8I b == x.2
theorem ok_hauberkref02_has (x : dens A_hauberkref02_has) (h : G_hauberkref02_has x = true) : (T_hauberkref02_has x).val = some (V_hauberkref02_has x) := by
  obtain ⟨s, c⟩ := x
  have hs : List.length s < 4611686018427387904 := of_decide_eq_true h
  obtain ⟨o, st, h1, h2⟩ := has_run s c (L_hauberkref02_has_2.turn (s, c, false, 0) ()) (fun _ => rfl) hs
  have h1' : LoopN.res L_hauberkref02_has_2 (s, c, false, 0) () = some (o, st) := h1
  unfold T_hauberkref02_has PO.val
  rw [h1']
  exact h2
/-- hauberkref02.reg -/
abbrev A_hauberkref02_reg : List Ty := [.str, (.int .u8), (.int .i64)]
abbrev S_hauberkref02_reg : Sh := Sh.ty Ty.bool
def T_hauberkref02_reg (x : dens A_hauberkref02_reg) : PO (Sh.den S_hauberkref02_reg) :=
  (.ite (G_hauberkref02_has (x.1, x.2.1))
   (.ite (!V_hauberkref02_has (x.1, x.2.1))
    (.ret (x.2.2 == 0))
    (.ret (decide (x.2.2 ≥ 0) && decide (x.2.2 ≤ bif lenI x.1 == 16 then 7 else 12))))
   .fail)
def G_hauberkref02_reg (x : dens A_hauberkref02_reg) : Bool := (T_hauberkref02_reg x).val.isSome
def V_hauberkref02_reg (x : dens A_hauberkref02_reg) : Sh.den S_hauberkref02_reg := (T_hauberkref02_reg x).getO default
theorem ok_hauberkref02_reg (x : dens A_hauberkref02_reg) (h : G_hauberkref02_reg x = true) : (T_hauberkref02_reg x).val = some (V_hauberkref02_reg x) := PO.getO_ok default h
/-- hauberkref02.Reach -/
abbrev A_hauberkref02_Reach : List Ty := [(.int .i64), .bool]
abbrev S_hauberkref02_Reach : Sh := Sh.tup (Sh.pair (Sh.ty (Ty.int IntKind.i64)) (Sh.pair (Sh.ty (Ty.int IntKind.i64)) (Sh.ty Ty.unit)))
def T_hauberkref02_Reach (x : dens A_hauberkref02_Reach) : PO (Sh.den S_hauberkref02_Reach) :=
  (.ret ((w64 (0 - bif x.1 == 24 && !x.2 then 2048 else bif x.1 == 24 then 16777216 else bif x.1 == 25 && !x.2 then 256 else bif x.1 == 25 then 1048576 else 0), imax 0 (w64 ((bif x.1 == 24 && !x.2 then 2048 else bif x.1 == 24 then 16777216 else bif x.1 == 25 && !x.2 then 256 else bif x.1 == 25 then 1048576 else 0) - 2)), ())))
def G_hauberkref02_Reach (_ : dens A_hauberkref02_Reach) : Bool := true
def V_hauberkref02_Reach (x : dens A_hauberkref02_Reach) : Sh.den S_hauberkref02_Reach := (T_hauberkref02_Reach x).getO default
theorem ok_hauberkref02_Reach (x : dens A_hauberkref02_Reach) (_ : G_hauberkref02_Reach x = true) : (T_hauberkref02_Reach x).val = some (V_hauberkref02_Reach x) := PO.sure_ok default (by simp [T_hauberkref02_Reach, PO.sure])
/-- hauberkref02.number -/
abbrev A_hauberkref02_number : List Ty := [tIns]
abbrev S_hauberkref02_number : Sh := Sh.ty Ty.bool
def T_hauberkref02_number (x : dens A_hauberkref02_number) : PO (Sh.den S_hauberkref02_number) :=
  (.ite (x.1 == 2)
   (.ret (decide (x.2.2.2.2.2.1 ≥ 0) && decide (x.2.2.2.2.2.1 ≤ 255)))
   (.ite (bif x.1 == 3 then x.1 == 3 else x.1 == 4)
    (.ret (decide (x.2.2.2.2.2.1 ≥ 0) && decide (x.2.2.2.2.2.1 ≤ 65535)))
    (.ite (bif x.1 == 5 then x.1 == 5 else x.1 == 18)
     (.ret (decide (x.2.2.2.2.2.1 ≥ 0) && decide (x.2.2.2.2.2.1 ≤ 31)))
     (.ite (bif x.1 == 6 then x.1 == 6 else bif x.1 == 7 then x.1 == 7 else x.1 == 8)
      (.ret (decide (x.2.2.2.2.2.1 ≥ 1) && decide (x.2.2.2.2.2.1 ≤ 31)))
      (.ite (bif x.1 == 24 then x.1 == 24 else x.1 == 25)
       (.ret (true))
       (.ret (decide (x.2.2.2.2.2.1 ≥ 0) && decide (x.2.2.2.2.2.1 ≤ 0))))))))
def G_hauberkref02_number (_ : dens A_hauberkref02_number) : Bool := true
def V_hauberkref02_number (x : dens A_hauberkref02_number) : Sh.den S_hauberkref02_number := (T_hauberkref02_number x).getO default
theorem ok_hauberkref02_number (x : dens A_hauberkref02_number) (_ : G_hauberkref02_number x = true) : (T_hauberkref02_number x).val = some (V_hauberkref02_number x) := PO.sure_ok default (by simp [T_hauberkref02_number, PO.sure])
/-- hauberkref02.Check -/
abbrev A_hauberkref02_Check : List Ty := [tIns]
abbrev S_hauberkref02_Check : Sh := Sh.ty (Ty.int IntKind.i64)
def T_hauberkref02_Check (x : dens A_hauberkref02_Check) : PO (Sh.den S_hauberkref02_Check) :=
  (.ite (V_hauberkref02_Bits (x.1, x.2.2.2.2.2.2.2.1) == [] || (!V_hauberkref02_number x || G_hauberkref02_reg (V_hauberkref02_Bits (x.1, x.2.2.2.2.2.2.2.1), 100, x.2.1) && (!V_hauberkref02_reg (V_hauberkref02_Bits (x.1, x.2.2.2.2.2.2.2.1), 100, x.2.1) || G_hauberkref02_reg (V_hauberkref02_Bits (x.1, x.2.2.2.2.2.2.2.1), 110, x.2.2.1) && (!V_hauberkref02_reg (V_hauberkref02_Bits (x.1, x.2.2.2.2.2.2.2.1), 110, x.2.2.1) || G_hauberkref02_reg (V_hauberkref02_Bits (x.1, x.2.2.2.2.2.2.2.1), 109, x.2.2.2.1) && (!V_hauberkref02_reg (V_hauberkref02_Bits (x.1, x.2.2.2.2.2.2.2.1), 109, x.2.2.2.1) || G_hauberkref02_reg (V_hauberkref02_Bits (x.1, x.2.2.2.2.2.2.2.1), 97, bif x.1 == 18 then 0 else x.2.2.2.2.1))))))
   (.ite (V_hauberkref02_Bits (x.1, x.2.2.2.2.2.2.2.1) == [] || (!V_hauberkref02_number x || (!V_hauberkref02_reg (V_hauberkref02_Bits (x.1, x.2.2.2.2.2.2.2.1), 100, x.2.1) || (!V_hauberkref02_reg (V_hauberkref02_Bits (x.1, x.2.2.2.2.2.2.2.1), 110, x.2.2.1) || (!V_hauberkref02_reg (V_hauberkref02_Bits (x.1, x.2.2.2.2.2.2.2.1), 109, x.2.2.2.1) || !V_hauberkref02_reg (V_hauberkref02_Bits (x.1, x.2.2.2.2.2.2.2.1), 97, bif x.1 == 18 then 0 else x.2.2.2.2.1))))))
    (.ret (2))
    (.ite (bif x.1 == 18 then decide (x.2.2.2.2.1 < 1) || (decide (x.2.2.2.2.1 > w64 (32 - x.2.2.2.2.2.1)) || x.1 == 17 && x.2.2.2.2.1 == x.2.1) else x.1 == 17 && x.2.2.2.2.1 == x.2.1)
     (.ret (2))
     (.ite (bif x.1 == 25 then decide (x.2.2.2.2.2.2.1 < 0) || (decide (x.2.2.2.2.2.2.1 > 13) || x.1 != 25 && x.2.2.2.2.2.2.1 != 0) else x.1 != 25 && x.2.2.2.2.2.2.1 != 0)
      (.ret (2))
      (.ite (bif x.1 == 24 then Int.tmod x.2.2.2.2.2.1 2 != 0 || (decide (x.2.2.2.2.2.1 < (V_hauberkref02_Reach (x.1, x.2.2.2.2.2.2.2.1)).1) || decide (x.2.2.2.2.2.1 > (V_hauberkref02_Reach (x.1, x.2.2.2.2.2.2.2.1)).2.1)) else x.1 == 25 && (Int.tmod x.2.2.2.2.2.1 2 != 0 || (decide (x.2.2.2.2.2.1 < (V_hauberkref02_Reach (x.1, x.2.2.2.2.2.2.2.1)).1) || decide (x.2.2.2.2.2.1 > (V_hauberkref02_Reach (x.1, x.2.2.2.2.2.2.2.1)).2.1))))
       (.ret (6))
       (.ret (0))))))
   .fail)
def G_hauberkref02_Check (x : dens A_hauberkref02_Check) : Bool := (T_hauberkref02_Check x).val.isSome
def V_hauberkref02_Check (x : dens A_hauberkref02_Check) : Sh.den S_hauberkref02_Check := (T_hauberkref02_Check x).getO default
theorem ok_hauberkref02_Check (x : dens A_hauberkref02_Check) (h : G_hauberkref02_Check x = true) : (T_hauberkref02_Check x).val = some (V_hauberkref02_Check x) := PO.getO_ok default h
end Go.Av
