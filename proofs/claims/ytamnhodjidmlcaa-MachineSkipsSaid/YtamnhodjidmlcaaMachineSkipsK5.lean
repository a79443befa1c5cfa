/- Texts of the proof, one behind the other. -/
import Derived.Test.YtamnhodjidmlcaaMachineSkipsK2
import Derived.Test.YtamnhodjidmlcaaMachineSkipsK4
import Derived.WalkKit
import Derived.Defers
import Derived.Recover
import Derived.Test.YtamnhodjidmlcaaAvDefer
import Derived.Test.YtamnhodjidmlcaaProg
import Derived.WalkSpells
import Derived.WalkLawsBesides
import Derived.Test.YtamnhodjidmlcaaMachineSkipsK1
import Derived.Test.YtamnhodjidmlcaaMachineSkipsK3
/-! Layer 9: the machine. -/
section
namespace Go.Av
open Go
abbrev tHead : Ty := .pair (.int .i64) (.pair (.int .i64) (.pair tSizes (.pair (.int .i64) .unit)))
abbrev tFetched : Ty := .pair tIns (.pair (.int .i64) (.pair .bool (.pair .bool .unit)))
/-- A machine: its memory's box, its cache's row. -/
abbrev shMachB (m c : Nat) : Sh := .pair (.ty tHead) (.pair (.ty .str) (.pair (.box m 0) (.pair (.ty tState) (.pair (.ty .bool) (.pair (.win c tFetched) (.ty .unit))))))
abbrev shMach : Sh := shMachB 1 2
abbrev hsMach : List Sh := [shMach, shMemB 3, .rowc tFetched, .rowc (.int .u8)]
/-- A machine and all that it leads to. -/
abbrev MS : Type := shDens hsMach
/-- Its memory. -/
abbrev MS.mem (y : MS) : MemT := (y.2.1, y.2.2.2)
/-- word.Flip -/
abbrev A_word_Flip : List Ty := [(.int .i64), (.int .i64)]
abbrev S_word_Flip : Sh := Sh.ty (Ty.int IntKind.i64)
def T_word_Flip (x : dens A_word_Flip) : PO (Sh.den S_word_Flip) :=
  (.ite (!decide (V_word_many x.2 < 0) && true)
   (.ret (V_word_Xor (x.1, ishl IntKind.i64 1 (V_word_many x.2))))
   .fail)
def G_word_Flip (_ : dens A_word_Flip) : Bool := true
def V_word_Flip (x : dens A_word_Flip) : Sh.den S_word_Flip := V_word_Xor (x.1, ishl IntKind.i64 1 (V_word_many x.2))
theorem ok_word_Flip (x : dens A_word_Flip) (_ : G_word_Flip x = true) : (T_word_Flip x).val = some (V_word_Flip x) := by
  refine (val_yes ?_).trans rfl
  have : ¬ V_word_many x.2 < 0 := by
    show ¬ ((kk x.2 : Nat) : Int) < 0
    omega
  simp [this]
/-- machine.Check -/
abbrev A_machine_Check : List Ty := [tFault]
abbrev S_machine_Check : Sh := Sh.ty (Ty.int IntKind.i64)
def T_machine_Check (x : dens A_machine_Check) : PO (Sh.den S_machine_Check) :=
  (.ite (!bif bif x.1 == 0 then x.1 == 0 else x.1 == 1 then decide (x.2.1 ≥ 0) else bif x.1 == 2 then decide (x.2.1 ≥ 0) && (decide (x.2.2.1 ≥ 0) && (decide (x.2.2.1 ≤ 14) && (decide (x.2.2.2.1 ≥ 0) && decide (x.2.2.2.1 < 32)))) else x.1 == 3 && (decide (x.2.1 ≥ 0) && (decide (x.2.2.2.1 ≥ 0) && decide (x.2.2.2.1 < 4))))
   (.ret (2))
   (.ret (0)))
def G_machine_Check (_ : dens A_machine_Check) : Bool := true
def V_machine_Check (x : dens A_machine_Check) : Sh.den S_machine_Check := (T_machine_Check x).getO default
theorem ok_machine_Check (x : dens A_machine_Check) (_ : G_machine_Check x = true) : (T_machine_Check x).val = some (V_machine_Check x) := PO.sure_ok default (by simp [T_machine_Check, PO.sure])
/-- A state that a fault turns. -/
def V_hitS (s : tState.den) (f : tFault.den) : tState.den :=
  bif f.1 == 2 then (List.set s.1 (Int.toNat f.2.2.1) (V_word_Flip (List.getD s.1 (Int.toNat f.2.2.1) (Ty.dflt (.int .i64)), f.2.2.2.1)), s.2)
  else bif f.1 == 3 then
    (bif f.2.2.2.1 == 0 then (s.1, s.2.1, !s.2.2.1, s.2.2.2)
     else bif f.2.2.2.1 == 1 then (s.1, s.2.1, s.2.2.1, !s.2.2.2.1, s.2.2.2.2)
     else bif f.2.2.2.1 == 2 then (s.1, s.2.1, s.2.2.1, s.2.2.2.1, !s.2.2.2.2.1, s.2.2.2.2.2)
     else bif f.2.2.2.1 == 3 then (s.1, s.2.1, s.2.2.1, s.2.2.2.1, s.2.2.2.2.1, !s.2.2.2.2.2.1, s.2.2.2.2.2.2)
     else s)
  else s
/-- (*machine.Machine).hit -/
abbrev SS_machine_Machine_hit : List Sh := [.box 0 0, .ty tFault]
abbrev HS_machine_Machine_hit : List Sh := [shMach, shMemB 3, .rowc tFetched, .rowc (.int .u8)]
abbrev S_machine_Machine_hit : Sh := Sh.tup (Sh.ty Ty.unit)
abbrev HT_machine_Machine_hit : List Sh := [Sh.pair (Sh.ty (Ty.pair (Ty.int IntKind.i64) (Ty.pair (Ty.int IntKind.i64) (Ty.pair tSizes (Ty.pair (Ty.int IntKind.i64) Ty.unit))))) (Sh.pair (Sh.ty Ty.str) (Sh.pair (Sh.box 1 0) (Sh.pair (Sh.ty tState) (Sh.pair (Sh.ty Ty.bool) (Sh.pair (Sh.win 2 (Ty.pair tIns (Ty.pair (Ty.int IntKind.i64) (Ty.pair Ty.bool (Ty.pair Ty.bool Ty.unit))))) (Sh.ty Ty.unit)))))), Sh.pair (Sh.ty (Ty.sl tSpot)) (Sh.pair (Sh.wsl none 3 (Ty.int IntKind.u8)) (Sh.ty Ty.unit)), Sh.rowc (Ty.pair tIns (Ty.pair (Ty.int IntKind.i64) (Ty.pair Ty.bool (Ty.pair Ty.bool Ty.unit)))), Sh.rowc (Ty.int IntKind.u8)]
def T_machine_Machine_hit (x : shDens SS_machine_Machine_hit) (y : shDens HS_machine_Machine_hit) : PO (Sh.den S_machine_Machine_hit × shDens HT_machine_Machine_hit) :=
  (.ite (x.2.1 == 2)
   (.ite (inRange x.2.2.2.1 15)
    (.ite (G_word_Flip (List.getD y.1.2.2.2.1.1 (Int.toNat x.2.2.2.1) (Ty.dflt (Ty.int IntKind.i64)), x.2.2.2.2.1))
     (.ite (inRange x.2.2.2.1 15)
      (.ret ((), ((y.1.1, y.1.2.1, (), (List.set y.1.2.2.2.1.1 (Int.toNat x.2.2.2.1) (V_word_Flip (List.getD y.1.2.2.2.1.1 (Int.toNat x.2.2.2.1) (Ty.dflt (Ty.int IntKind.i64)), x.2.2.2.2.1)), y.1.2.2.2.1.2), y.1.2.2.2.2), y.2.1, y.2.2.1, y.2.2.2)))
      .fail)
     .fail)
    .fail)
   (.ite (x.2.1 == 3)
    (.ite (x.2.2.2.2.1 == 0)
     (.ret ((), ((y.1.1, y.1.2.1, (), (y.1.2.2.2.1.1, y.1.2.2.2.1.2.1, !y.1.2.2.2.1.2.2.1, y.1.2.2.2.1.2.2.2), y.1.2.2.2.2), y.2.1, y.2.2.1, y.2.2.2)))
     (.ite (x.2.2.2.2.1 == 1)
      (.ret ((), ((y.1.1, y.1.2.1, (), (y.1.2.2.2.1.1, y.1.2.2.2.1.2.1, y.1.2.2.2.1.2.2.1, !y.1.2.2.2.1.2.2.2.1, y.1.2.2.2.1.2.2.2.2), y.1.2.2.2.2), y.2.1, y.2.2.1, y.2.2.2)))
      (.ite (x.2.2.2.2.1 == 2)
       (.ret ((), ((y.1.1, y.1.2.1, (), (y.1.2.2.2.1.1, y.1.2.2.2.1.2.1, y.1.2.2.2.1.2.2.1, y.1.2.2.2.1.2.2.2.1, !y.1.2.2.2.1.2.2.2.2.1, y.1.2.2.2.1.2.2.2.2.2), y.1.2.2.2.2), y.2.1, y.2.2.1, y.2.2.2)))
       (.ite (x.2.2.2.2.1 == 3)
        (.ret ((), ((y.1.1, y.1.2.1, (), (y.1.2.2.2.1.1, y.1.2.2.2.1.2.1, y.1.2.2.2.1.2.2.1, y.1.2.2.2.1.2.2.2.1, y.1.2.2.2.1.2.2.2.2.1, !y.1.2.2.2.1.2.2.2.2.2.1, y.1.2.2.2.1.2.2.2.2.2.2), y.1.2.2.2.2), y.2.1, y.2.2.1, y.2.2.2)))
        (.ret ((), ((y.1.1, y.1.2.1, (), y.1.2.2.2), y.2.1, y.2.2.1, y.2.2.2)))))))
    (.ret ((), ((y.1.1, y.1.2.1, (), y.1.2.2.2), y.2.1, y.2.2.1, y.2.2.2)))))
def G_machine_Machine_hit (x : shDens SS_machine_Machine_hit) (_ : shDens HS_machine_Machine_hit) : Bool := !(x.2.1 == (2 : Int)) || inRange x.2.2.2.1 15
abbrev V_machine_Machine_hit (x : shDens SS_machine_Machine_hit) (y : shDens HS_machine_Machine_hit) : Sh.den S_machine_Machine_hit × shDens HT_machine_Machine_hit := ((), ((y.1.1, y.1.2.1, (), V_hitS y.1.2.2.2.1 x.2, y.1.2.2.2.2), y.2.1, y.2.2.1, y.2.2.2))
theorem ok_machine_Machine_hit (x : shDens SS_machine_Machine_hit) (y : shDens HS_machine_Machine_hit) (h : G_machine_Machine_hit x y = true) : (T_machine_Machine_hit x y).val = some (V_machine_Machine_hit x y) := by
  obtain ⟨_, k, p, r, b, _⟩ := x
  unfold G_machine_Machine_hit at h
  simp only [T_machine_Machine_hit, V_machine_Machine_hit, V_hitS, PO.val]
  simp only at h
  cases h2 : (k == (2 : Int))
  · cases h3 : (k == (3 : Int))
    · rfl
    · cases h4 : (b == (0 : Int)) <;> cases h5 : (b == (1 : Int)) <;> cases h6 : (b == (2 : Int)) <;> cases h7 : (b == (3 : Int)) <;> simp only [h4, h5, h6, h7, cond_true, cond_false]
  · rw [h2] at h
    simp only [Bool.not_true, Bool.false_or] at h
    rw [h]
    rfl
def L_machine_Machine_fetch_c5 : LoopN where
  M := [0, 2, 3, 4]
  T := [5, 6, 7, 8, 14, 15, 16, 17, 18, 19, 20, 21, 22, 23, 24, 25, 26, 27, 28, 29, 30, 31, 32, 33, 34, 35, 36, 37, 38, 39, 40, 41, 42, 43, 44, 45, 46, 47, 48, 49, 50, 51, 52, 53, 54, 55, 56, 57, 58, 59, 60, 61, 62, 63, 64, 65, 66, 67, 68, 69, 70, 71]
  D := [0, 4]
  ss := [.box 0 0, .box 1 0, .ty (.int .i64), .ty (.int .i64)]
  hs := [(shMachB 2 3), (.ty tIns), (shMemB 4), .rowc tFetched, .rowc (.int .u8)]
  es := [.ret, .panic [⟨.iface 79 (.agg #[.int .i64 0]), false, false⟩]]
  σ := (Ty.den (.int .i64)) × (Sh.den ((shMachB 2 3))) × (Sh.den ((.ty tIns))) × (Sh.den ((shMemB 4))) × (Sh.den (.rowc tFetched)) × (Sh.den (.rowc (.int .u8)))
  x0 := fun x y => (x.2.2.1, y.1, y.2.1, y.2.2.1, y.2.2.2.1, y.2.2.2.2)
  put := fun x _ s => ((x.1, x.2.1, s.1, x.2.2.2), (s.2.1, s.2.2.1, s.2.2.2.1, s.2.2.2.2.1, s.2.2.2.2.2))
  fuel := fun _ _ => 1
  turn := fun x _ s =>
  (.ite (band IntKind.i64 x.2.2.2 1 != 0 || decide (x.2.2.2 ≥ lenI s.2.1.2.1))
   (.ret (.out 1 (s.1, s.2.1, s.2.2.1, s.2.2.2.1, s.2.2.2.2.1, s.2.2.2.2.2)))
   (.ite (inRange (w64 (Int.tdiv x.2.2.2 2)) s.2.1.2.2.2.2.2.1.2)
    (.ite (!(List.getD s.2.2.2.2.1 (nplus s.2.1.2.2.2.2.2.1.1 (w64 (Int.tdiv x.2.2.2 2))) (Ty.dflt tFetched)).2.2.1)
     (.ite (decide (lenI s.2.1.2.1 ≤ lenI s.2.1.2.1) && decide (0 ≤ x.2.2.2) && decide (x.2.2.2 ≤ lenI s.2.1.2.1))
      (.ite (G_decode_Decode (List.drop (Int.toNat x.2.2.2) (List.take (Int.toNat (lenI s.2.1.2.1)) s.2.1.2.1)))
       (.ite ((List.getD (List.set s.2.2.2.2.1 (nplus s.2.1.2.2.2.2.2.1.1 (w64 (Int.tdiv x.2.2.2 2))) ((V_decode_Decode (List.drop (Int.toNat x.2.2.2) (List.take (Int.toNat (lenI s.2.1.2.1)) s.2.1.2.1))).1, (V_decode_Decode (List.drop (Int.toNat x.2.2.2) (List.take (Int.toNat (lenI s.2.1.2.1)) s.2.1.2.1))).2.1, true, (V_decode_Decode (List.drop (Int.toNat x.2.2.2) (List.take (Int.toNat (lenI s.2.1.2.1)) s.2.1.2.1))).2.2.1 != 0, ())) (nplus s.2.1.2.2.2.2.2.1.1 (w64 (Int.tdiv x.2.2.2 2))) (Ty.dflt tFetched)).2.2.2.1)
        (.ret (.out 1 (s.1, s.2.1, s.2.2.1, s.2.2.2.1, List.set s.2.2.2.2.1 (nplus s.2.1.2.2.2.2.2.1.1 (w64 (Int.tdiv x.2.2.2 2))) ((V_decode_Decode (List.drop (Int.toNat x.2.2.2) (List.take (Int.toNat (lenI s.2.1.2.1)) s.2.1.2.1))).1, (V_decode_Decode (List.drop (Int.toNat x.2.2.2) (List.take (Int.toNat (lenI s.2.1.2.1)) s.2.1.2.1))).2.1, true, (V_decode_Decode (List.drop (Int.toNat x.2.2.2) (List.take (Int.toNat (lenI s.2.1.2.1)) s.2.1.2.1))).2.2.1 != 0, ()), s.2.2.2.2.2)))
        (.ret (.out 0 ((List.getD (List.set s.2.2.2.2.1 (nplus s.2.1.2.2.2.2.2.1.1 (w64 (Int.tdiv x.2.2.2 2))) ((V_decode_Decode (List.drop (Int.toNat x.2.2.2) (List.take (Int.toNat (lenI s.2.1.2.1)) s.2.1.2.1))).1, (V_decode_Decode (List.drop (Int.toNat x.2.2.2) (List.take (Int.toNat (lenI s.2.1.2.1)) s.2.1.2.1))).2.1, true, (V_decode_Decode (List.drop (Int.toNat x.2.2.2) (List.take (Int.toNat (lenI s.2.1.2.1)) s.2.1.2.1))).2.2.1 != 0, ())) (nplus s.2.1.2.2.2.2.2.1.1 (w64 (Int.tdiv x.2.2.2 2))) (Ty.dflt tFetched)).2.1, s.2.1, (List.getD (List.set s.2.2.2.2.1 (nplus s.2.1.2.2.2.2.2.1.1 (w64 (Int.tdiv x.2.2.2 2))) ((V_decode_Decode (List.drop (Int.toNat x.2.2.2) (List.take (Int.toNat (lenI s.2.1.2.1)) s.2.1.2.1))).1, (V_decode_Decode (List.drop (Int.toNat x.2.2.2) (List.take (Int.toNat (lenI s.2.1.2.1)) s.2.1.2.1))).2.1, true, (V_decode_Decode (List.drop (Int.toNat x.2.2.2) (List.take (Int.toNat (lenI s.2.1.2.1)) s.2.1.2.1))).2.2.1 != 0, ())) (nplus s.2.1.2.2.2.2.2.1.1 (w64 (Int.tdiv x.2.2.2 2))) (Ty.dflt tFetched)).1, s.2.2.2.1, List.set s.2.2.2.2.1 (nplus s.2.1.2.2.2.2.2.1.1 (w64 (Int.tdiv x.2.2.2 2))) ((V_decode_Decode (List.drop (Int.toNat x.2.2.2) (List.take (Int.toNat (lenI s.2.1.2.1)) s.2.1.2.1))).1, (V_decode_Decode (List.drop (Int.toNat x.2.2.2) (List.take (Int.toNat (lenI s.2.1.2.1)) s.2.1.2.1))).2.1, true, (V_decode_Decode (List.drop (Int.toNat x.2.2.2) (List.take (Int.toNat (lenI s.2.1.2.1)) s.2.1.2.1))).2.2.1 != 0, ()), s.2.2.2.2.2))))
       .fail)
      .fail)
     (.ite ((List.getD s.2.2.2.2.1 (nplus s.2.1.2.2.2.2.2.1.1 (w64 (Int.tdiv x.2.2.2 2))) (Ty.dflt tFetched)).2.2.2.1)
      (.ret (.out 1 (s.1, s.2.1, s.2.2.1, s.2.2.2.1, s.2.2.2.2.1, s.2.2.2.2.2)))
      (.ret (.out 0 ((List.getD s.2.2.2.2.1 (nplus s.2.1.2.2.2.2.2.1.1 (w64 (Int.tdiv x.2.2.2 2))) (Ty.dflt tFetched)).2.1, s.2.1, (List.getD s.2.2.2.2.1 (nplus s.2.1.2.2.2.2.2.1.1 (w64 (Int.tdiv x.2.2.2 2))) (Ty.dflt tFetched)).1, s.2.2.2.1, s.2.2.2.2.1, s.2.2.2.2.2)))))
    .fail))
/-- (*machine.Machine).Done -/
abbrev SS_machine_Machine_Done : List Sh := [.box 0 0]
abbrev HS_machine_Machine_Done : List Sh := [shMach, shMemB 3, .rowc tFetched, .rowc (.int .u8)]
abbrev S_machine_Machine_Done : Sh := Sh.ty Ty.bool
abbrev HT_machine_Machine_Done : List Sh := [Sh.pair (Sh.ty (Ty.pair (Ty.int IntKind.i64) (Ty.pair (Ty.int IntKind.i64) (Ty.pair tSizes (Ty.pair (Ty.int IntKind.i64) Ty.unit))))) (Sh.pair (Sh.ty Ty.str) (Sh.pair (Sh.box 1 0) (Sh.pair (Sh.ty tState) (Sh.pair (Sh.ty Ty.bool) (Sh.pair (Sh.win 2 (Ty.pair tIns (Ty.pair (Ty.int IntKind.i64) (Ty.pair Ty.bool (Ty.pair Ty.bool Ty.unit))))) (Sh.ty Ty.unit)))))), Sh.pair (Sh.ty (Ty.sl tSpot)) (Sh.pair (Sh.wsl none 3 (Ty.int IntKind.u8)) (Sh.ty Ty.unit)), Sh.rowc (Ty.pair tIns (Ty.pair (Ty.int IntKind.i64) (Ty.pair Ty.bool (Ty.pair Ty.bool Ty.unit)))), Sh.rowc (Ty.int IntKind.u8)]
def T_machine_Machine_Done (_ : shDens SS_machine_Machine_Done) (y : shDens HS_machine_Machine_Done) : PO (Sh.den S_machine_Machine_Done × shDens HT_machine_Machine_Done) :=
  (.ret (y.1.2.2.2.2.1, ((y.1.1, y.1.2.1, (), y.1.2.2.2), y.2.1, y.2.2.1, y.2.2.2)))
def G_machine_Machine_Done (_ : shDens SS_machine_Machine_Done) (_ : shDens HS_machine_Machine_Done) : Bool := true
abbrev V_machine_Machine_Done (_ : shDens SS_machine_Machine_Done) (y : shDens HS_machine_Machine_Done) : Sh.den S_machine_Machine_Done × shDens HT_machine_Machine_Done := (y.1.2.2.2.2.1, y)
theorem ok_machine_Machine_Done (x : shDens SS_machine_Machine_Done) (y : shDens HS_machine_Machine_Done) (_ : G_machine_Machine_Done x y = true) : (T_machine_Machine_Done x y).val = some (V_machine_Machine_Done x y) := rfl
/-- (*machine.Machine).State -/
abbrev SS_machine_Machine_State : List Sh := [.box 0 0]
abbrev HS_machine_Machine_State : List Sh := [shMach, shMemB 3, .rowc tFetched, .rowc (.int .u8)]
abbrev S_machine_Machine_State : Sh := Sh.ty tState
abbrev HT_machine_Machine_State : List Sh := [Sh.pair (Sh.ty (Ty.pair (Ty.int IntKind.i64) (Ty.pair (Ty.int IntKind.i64) (Ty.pair tSizes (Ty.pair (Ty.int IntKind.i64) Ty.unit))))) (Sh.pair (Sh.ty Ty.str) (Sh.pair (Sh.box 1 0) (Sh.pair (Sh.ty tState) (Sh.pair (Sh.ty Ty.bool) (Sh.pair (Sh.win 2 (Ty.pair tIns (Ty.pair (Ty.int IntKind.i64) (Ty.pair Ty.bool (Ty.pair Ty.bool Ty.unit))))) (Sh.ty Ty.unit)))))), Sh.pair (Sh.ty (Ty.sl tSpot)) (Sh.pair (Sh.wsl none 3 (Ty.int IntKind.u8)) (Sh.ty Ty.unit)), Sh.rowc (Ty.pair tIns (Ty.pair (Ty.int IntKind.i64) (Ty.pair Ty.bool (Ty.pair Ty.bool Ty.unit)))), Sh.rowc (Ty.int IntKind.u8)]
def T_machine_Machine_State (_ : shDens SS_machine_Machine_State) (y : shDens HS_machine_Machine_State) : PO (Sh.den S_machine_Machine_State × shDens HT_machine_Machine_State) :=
  (.ret (y.1.2.2.2.1, ((y.1.1, y.1.2.1, (), y.1.2.2.2), y.2.1, y.2.2.1, y.2.2.2)))
def G_machine_Machine_State (_ : shDens SS_machine_Machine_State) (_ : shDens HS_machine_Machine_State) : Bool := true
abbrev V_machine_Machine_State (_ : shDens SS_machine_Machine_State) (y : shDens HS_machine_Machine_State) : Sh.den S_machine_Machine_State × shDens HT_machine_Machine_State := (y.1.2.2.2.1, y)
theorem ok_machine_Machine_State (x : shDens SS_machine_Machine_State) (y : shDens HS_machine_Machine_State) (_ : G_machine_Machine_State x y = true) : (T_machine_Machine_State x y).val = some (V_machine_Machine_State x y) := rfl
def V_reg (k : Int) (y : MemT) : List UInt8 × Int × Unit := regionM y k
def V_numb (a : Int) (y : MemT) : Int := (loadM y a 4).1
/-- (*machine.Machine).Region -/
abbrev SS_machine_Machine_Region : List Sh := [.box 0 0, .ty (.int .i64)]
abbrev HS_machine_Machine_Region : List Sh := [shMach, shMemB 3, .rowc tFetched, .rowc (.int .u8)]
abbrev S_machine_Machine_Region : Sh := Sh.tup (Sh.pair (Sh.ty Ty.str) (Sh.pair (Sh.ty (Ty.int IntKind.i64)) (Sh.ty Ty.unit)))
abbrev HT_machine_Machine_Region : List Sh := [Sh.pair (Sh.ty (Ty.pair (Ty.int IntKind.i64) (Ty.pair (Ty.int IntKind.i64) (Ty.pair tSizes (Ty.pair (Ty.int IntKind.i64) Ty.unit))))) (Sh.pair (Sh.ty Ty.str) (Sh.pair (Sh.box 1 0) (Sh.pair (Sh.ty tState) (Sh.pair (Sh.ty Ty.bool) (Sh.pair (Sh.win 2 (Ty.pair tIns (Ty.pair (Ty.int IntKind.i64) (Ty.pair Ty.bool (Ty.pair Ty.bool Ty.unit))))) (Sh.ty Ty.unit)))))), Sh.pair (Sh.ty (Ty.sl tSpot)) (Sh.pair (Sh.wsl none 3 (Ty.int IntKind.u8)) (Sh.ty Ty.unit)), Sh.rowc (Ty.pair tIns (Ty.pair (Ty.int IntKind.i64) (Ty.pair Ty.bool (Ty.pair Ty.bool Ty.unit)))), Sh.rowc (Ty.int IntKind.u8)]
def T_machine_Machine_Region (x : shDens SS_machine_Machine_Region) (y : shDens HS_machine_Machine_Region) : PO (Sh.den S_machine_Machine_Region × shDens HT_machine_Machine_Region) :=
  (.ret (((V_memory_Memory_Region ((), x.2) (y.2.1, y.2.2.2)).1.1, (V_memory_Memory_Region ((), x.2) (y.2.1, y.2.2.2)).1.2.1, ()), ((y.1.1, y.1.2.1, (), y.1.2.2.2), (V_memory_Memory_Region ((), x.2) (y.2.1, y.2.2.2)).2.1, y.2.2.1, (V_memory_Memory_Region ((), x.2) (y.2.1, y.2.2.2)).2.2)))
def G_machine_Machine_Region (_ : shDens SS_machine_Machine_Region) (_ : shDens HS_machine_Machine_Region) : Bool := true
abbrev V_machine_Machine_Region (x : shDens SS_machine_Machine_Region) (y : shDens HS_machine_Machine_Region) : Sh.den S_machine_Machine_Region × shDens HT_machine_Machine_Region := (V_reg x.2 (y.2.1, y.2.2.2), y)
theorem ok_machine_Machine_Region (x : shDens SS_machine_Machine_Region) (y : shDens HS_machine_Machine_Region) (_ : G_machine_Machine_Region x y = true) : (T_machine_Machine_Region x y).val = some (V_machine_Machine_Region x y) := rfl
/-- (*machine.Machine).number -/
abbrev SS_machine_Machine_number : List Sh := [.box 0 0, .ty (.int .i64)]
abbrev HS_machine_Machine_number : List Sh := [shMach, shMemB 3, .rowc tFetched, .rowc (.int .u8)]
abbrev S_machine_Machine_number : Sh := Sh.ty (Ty.int IntKind.i64)
abbrev HT_machine_Machine_number : List Sh := [Sh.pair (Sh.ty (Ty.pair (Ty.int IntKind.i64) (Ty.pair (Ty.int IntKind.i64) (Ty.pair tSizes (Ty.pair (Ty.int IntKind.i64) Ty.unit))))) (Sh.pair (Sh.ty Ty.str) (Sh.pair (Sh.box 1 0) (Sh.pair (Sh.ty tState) (Sh.pair (Sh.ty Ty.bool) (Sh.pair (Sh.win 2 (Ty.pair tIns (Ty.pair (Ty.int IntKind.i64) (Ty.pair Ty.bool (Ty.pair Ty.bool Ty.unit))))) (Sh.ty Ty.unit)))))), Sh.pair (Sh.ty (Ty.sl tSpot)) (Sh.pair (Sh.wsl none 3 (Ty.int IntKind.u8)) (Sh.ty Ty.unit)), Sh.rowc (Ty.pair tIns (Ty.pair (Ty.int IntKind.i64) (Ty.pair Ty.bool (Ty.pair Ty.bool Ty.unit)))), Sh.rowc (Ty.int IntKind.u8)]
def T_machine_Machine_number (x : shDens SS_machine_Machine_number) (y : shDens HS_machine_Machine_number) : PO (Sh.den S_machine_Machine_number × shDens HT_machine_Machine_number) :=
  (.ite (G_memory_Memory_Load ((), x.2, 4) (y.2.1, y.2.2.2))
   (.ret ((V_memory_Memory_Load ((), x.2, 4) (y.2.1, y.2.2.2)).1.1, ((y.1.1, y.1.2.1, (), y.1.2.2.2), (V_memory_Memory_Load ((), x.2, 4) (y.2.1, y.2.2.2)).2.1, y.2.2.1, (V_memory_Memory_Load ((), x.2, 4) (y.2.1, y.2.2.2)).2.2)))
   .fail)
def G_machine_Machine_number (x : shDens SS_machine_Machine_number) (y : shDens HS_machine_Machine_number) : Bool := decide (MemWf (y.2.1, y.2.2.2) ∧ (show Int from x.2) < 9223372036854775808)
abbrev V_machine_Machine_number (x : shDens SS_machine_Machine_number) (y : shDens HS_machine_Machine_number) : Sh.den S_machine_Machine_number × shDens HT_machine_Machine_number := (V_numb x.2 (y.2.1, y.2.2.2), y)
theorem ok_machine_Machine_number (x : shDens SS_machine_Machine_number) (y : shDens HS_machine_Machine_number) (h : G_machine_Machine_number x y = true) : (T_machine_Machine_number x y).val = some (V_machine_Machine_number x y) := (val_yes h).trans rfl
/-- (*machine.Machine).bytes -/
abbrev SS_machine_Machine_bytes : List Sh := [.box 0 0, .ty (.int .i64)]
abbrev HS_machine_Machine_bytes : List Sh := [shMach, shMemB 3, .rowc tFetched, .rowc (.int .u8)]
abbrev S_machine_Machine_bytes : Sh := Sh.ty Ty.str
abbrev HT_machine_Machine_bytes : List Sh := [Sh.pair (Sh.ty (Ty.pair (Ty.int IntKind.i64) (Ty.pair (Ty.int IntKind.i64) (Ty.pair tSizes (Ty.pair (Ty.int IntKind.i64) Ty.unit))))) (Sh.pair (Sh.ty Ty.str) (Sh.pair (Sh.box 1 0) (Sh.pair (Sh.ty tState) (Sh.pair (Sh.ty Ty.bool) (Sh.pair (Sh.win 2 (Ty.pair tIns (Ty.pair (Ty.int IntKind.i64) (Ty.pair Ty.bool (Ty.pair Ty.bool Ty.unit))))) (Sh.ty Ty.unit)))))), Sh.pair (Sh.ty (Ty.sl tSpot)) (Sh.pair (Sh.wsl none 3 (Ty.int IntKind.u8)) (Sh.ty Ty.unit)), Sh.rowc (Ty.pair tIns (Ty.pair (Ty.int IntKind.i64) (Ty.pair Ty.bool (Ty.pair Ty.bool Ty.unit)))), Sh.rowc (Ty.int IntKind.u8)]
def T_machine_Machine_bytes (x : shDens SS_machine_Machine_bytes) (y : shDens HS_machine_Machine_bytes) : PO (Sh.den S_machine_Machine_bytes × shDens HT_machine_Machine_bytes) :=
  (.ret ((V_memory_Memory_Region ((), x.2) (y.2.1, y.2.2.2)).1.1, ((y.1.1, y.1.2.1, (), y.1.2.2.2), (V_memory_Memory_Region ((), x.2) (y.2.1, y.2.2.2)).2.1, y.2.2.1, (V_memory_Memory_Region ((), x.2) (y.2.1, y.2.2.2)).2.2)))
def G_machine_Machine_bytes (_ : shDens SS_machine_Machine_bytes) (_ : shDens HS_machine_Machine_bytes) : Bool := true
abbrev V_machine_Machine_bytes (x : shDens SS_machine_Machine_bytes) (y : shDens HS_machine_Machine_bytes) : Sh.den S_machine_Machine_bytes × shDens HT_machine_Machine_bytes := ((V_reg x.2 (y.2.1, y.2.2.2)).1, y)
theorem ok_machine_Machine_bytes (x : shDens SS_machine_Machine_bytes) (y : shDens HS_machine_Machine_bytes) (_ : G_machine_Machine_bytes x y = true) : (T_machine_Machine_bytes x y).val = some (V_machine_Machine_bytes x y) := rfl
/-- An instruction, as it is fetched: none, and the machine traps. -/
def fetchX (fl : List UInt8) (pc : Int) : Option (tIns.den × Int) :=
  bif band .i64 pc 1 != 0 || decide (pc ≥ lenI fl) then none
  else bif (dDec (fl.drop pc.toNat)).2.2.1 != 0 then none
  else some ((dDec (fl.drop pc.toNat)).1, (dDec (fl.drop pc.toNat)).2.1)
/-- What the cache keeps of a place. -/
def entX (fl : List UInt8) (k : Nat) : tFetched.den := ((dDec (fl.drop (2 * k))).1, (dDec (fl.drop (2 * k))).2.1, true, (dDec (fl.drop (2 * k))).2.2.1 != 0, ())
abbrev dfF : tFetched.den := Ty.dflt tFetched
def cacheX (fl : List UInt8) (pc : Int) (c : List tFetched.den) : List tFetched.den :=
  bif band .i64 pc 1 != 0 || decide (pc ≥ lenI fl) then c
  else bif (List.getD c (pc / 2).toNat dfF).2.2.1 then c
  else List.set c (pc / 2).toNat (entX fl (pc / 2).toNat)

instance decIns4 : DecidableEq (Int × Int × Int × Bool × Unit) := inferInstance
instance decIns : DecidableEq tIns.den := inferInstanceAs (DecidableEq (Int × Int × Int × Int × (Int × Int × Int × Bool × Unit)))
instance decFet : DecidableEq tFetched.den := inferInstanceAs (DecidableEq (tIns.den × (Int × Bool × Bool × Unit)))
def cacheOk (fl : List UInt8) (c : List tFetched.den) : Prop := c.length = fl.length / 2 + 1 ∧ ∀ k, k < c.length → (List.getD c k dfF).2.2.1 = true → List.getD c k dfF = entX fl k
instance (fl : List UInt8) (c : List tFetched.den) : Decidable (cacheOk fl c) := by
  unfold cacheOk
  infer_instance
/-- A machine that a run may come to. -/
structure MachWf (y : MS) : Prop where
  mem : MemWf y.mem
  regs : List.length y.1.2.2.2.1.1 = 15
  pc : 0 ≤ (show Int from y.1.2.2.2.1.2.1) ∧ (show Int from y.1.2.2.2.1.2.1) < 4294967296
  hand : 0 ≤ (show Int from y.1.1.2.1) ∧ (show Int from y.1.1.2.1) < 4294967296
  len : List.length y.1.2.1 ≤ 262144
  win : y.1.2.2.2.2.2.1 = (0, List.length y.1.2.1 / 2 + 1)
  cache : cacheOk y.1.2.1 y.2.2.1
instance (y : MS) : Decidable (MachWf y) :=
  if h : MemWf y.mem ∧ List.length y.1.2.2.2.1.1 = 15 ∧ (0 ≤ (show Int from y.1.2.2.2.1.2.1) ∧ (show Int from y.1.2.2.2.1.2.1) < 4294967296) ∧ (0 ≤ (show Int from y.1.1.2.1) ∧ (show Int from y.1.1.2.1) < 4294967296) ∧ List.length y.1.2.1 ≤ 262144 ∧ (y.1.2.2.2.2.2.1 : Nat × Nat) = (0, List.length y.1.2.1 / 2 + 1) ∧ cacheOk y.1.2.1 y.2.2.1
  then isTrue ⟨h.1, h.2.1, h.2.2.1, h.2.2.2.1, h.2.2.2.2.1, h.2.2.2.2.2.1, h.2.2.2.2.2.2⟩ else isFalse fun h' => h ⟨h'.mem, h'.regs, h'.pc, h'.hand, h'.len, h'.win, h'.cache⟩

theorem fetch_res (fl : List UInt8) (c : List tFetched.den) (hd : tHead.den) (st : tState.den) (dn : Bool) (i0 : tIns.den) (t : Int) (M : (shMemB 3).den) (B : List Int)
    (hp : 0 ≤ (show Int from st.2.1) ∧ (show Int from st.2.1) < 4294967296) (hc : cacheOk fl c) :
    LoopN.res L_machine_Machine_fetch_c5 ((), (), t, st.2.1) ((hd, fl, (), st, dn, (0, fl.length / 2 + 1), ()), i0, M, c, B) = some (match fetchX fl st.2.1 with
      | none => (1, t, (hd, fl, (), st, dn, (0, fl.length / 2 + 1), ()), i0, M, cacheX fl st.2.1 c, B)
      | some p => (0, p.2, (hd, fl, (), st, dn, (0, fl.length / 2 + 1), ()), p.1, M, cacheX fl st.2.1 c, B)) := by
  obtain ⟨hc1, hc2⟩ := hc
  obtain ⟨rg, pc, fgs⟩ := st
  simp only at hp ⊢
  have hp : 0 ≤ pc ∧ pc < 4294967296 := hp
  have hb : band .i64 pc 1 = pc % 2 := band_one pc
  unfold LoopN.res
  show runL _ 1 _ = _
  unfold fetchX cacheX
  cases ho : (band .i64 pc 1 != 0 || decide (pc ≥ lenI fl)) with
  | true => exact (runL_out ((val_yes ho).trans rfl)).trans (by rfl)
  | false =>
    simp only [cond_false]
    simp only [Bool.or_eq_false_iff, bne_eq_false_iff_eq, decide_eq_false_iff_not] at ho
    obtain ⟨ho1, ho2⟩ := ho
    have hlt : pc < (fl.length : Int) := by simpa [lenI] using ho2
    rw [hb] at ho1
    obtain ⟨m, rfl⟩ := Int.eq_ofNat_of_zero_le hp.1
    have hm : m % 2 = 0 := by omega
    obtain ⟨k, rfl⟩ : ∃ k, m = 2 * k := ⟨m / 2, by omega⟩
    have hlt' : ((2 * k : Nat) : Int) < ((fl.length : Nat) : Int) := hlt
    have hk : k < c.length := by omega
    have e1 : Int.tdiv ((2 * k : Nat) : Int) 2 = (k : Int) := by
      rw [Int.tdiv_eq_ediv_of_nonneg (by omega)]
      omega
    have e2 : w64 ((k : Nat) : Int) = (k : Int) := w64_id (by omega) (by omega)
    have e3 : (((2 * k : Nat) : Int) / 2).toNat = k := by omega
    have e4 : List.take (Int.toNat (lenI fl)) fl = fl := by simp [lenI]
    have e5 : Int.toNat ((2 * k : Nat) : Int) = 2 * k := by omega
    have e6 : nplus 0 (k : Int) = k := by simp [nplus]
    have hno : (band .i64 ((2 * k : Nat) : Int) 1 != 0 || decide (((2 * k : Nat) : Int) ≥ lenI fl)) = false := by
      rw [hb]
      simp only [Bool.or_eq_false_iff, bne_eq_false_iff_eq, decide_eq_false_iff_not]
      exact ⟨ho1, by simpa [lenI] using hlt⟩
    have hin : inRange (w64 (Int.tdiv ((2 * k : Nat) : Int) 2)) (fl.length / 2 + 1) = true := by
      rw [e1, e2]
      exact inR (by omega)
    rw [e3, e5]
    cases hk1 : (List.getD c k dfF).2.2.1 with
    | true =>
      have he := hc2 k hk hk1
      simp only [cond_true]
      cases he2 : ((dDec (fl.drop (2 * k))).2.2.1 != 0) with
      | true =>
        refine (runL_out ((val_no hno).trans ((val_yes hin).trans ((val_no ?_).trans ((val_yes ?_).trans rfl))))).trans (by rfl)
        · show (!(List.getD c (nplus 0 (w64 (Int.tdiv ((2 * k : Nat) : Int) 2))) dfF).2.2.1) = false
          rw [e1, e2, e6, hk1]; rfl
        · show (List.getD c (nplus 0 (w64 (Int.tdiv ((2 * k : Nat) : Int) 2))) dfF).2.2.2.1 = true
          rw [e1, e2, e6, he]; exact he2
      | false =>
        refine (runL_out ((val_no hno).trans ((val_yes hin).trans ((val_no ?_).trans ((val_no ?_).trans rfl))))).trans ?_
        · show (!(List.getD c (nplus 0 (w64 (Int.tdiv ((2 * k : Nat) : Int) 2))) dfF).2.2.1) = false
          rw [e1, e2, e6, hk1]; rfl
        · show (List.getD c (nplus 0 (w64 (Int.tdiv ((2 * k : Nat) : Int) 2))) dfF).2.2.2.1 = false
          rw [e1, e2, e6, he]; exact he2
        · show some (0, (List.getD c (nplus 0 (w64 (Int.tdiv ((2 * k : Nat) : Int) 2))) dfF).2.1, _, (List.getD c (nplus 0 (w64 (Int.tdiv ((2 * k : Nat) : Int) 2))) dfF).1, _) = _
          rw [e1, e2, e6, he]
          rfl
    | false =>
      simp only [cond_false]
      have hle : (decide (lenI fl ≤ lenI fl) && decide (0 ≤ ((2 * k : Nat) : Int)) && decide (((2 * k : Nat) : Int) ≤ lenI fl)) = true := by
        simp only [Bool.and_eq_true, decide_eq_true_eq]
        exact ⟨⟨Int.le_refl _, by omega⟩, by simp only [lenI]; omega⟩
      have hset : List.getD (List.set c k (entX fl k)) k dfF = entX fl k := by
        simp [List.getD_eq_getElem?_getD, hk]
      have hent : ∀ s : List UInt8, s = fl.drop (2 * k) → ((V_decode_Decode s).1, (V_decode_Decode s).2.1, true, (V_decode_Decode s).2.2.1 != 0, ()) = entX fl k := fun s hs => by subst hs; rw [decode_V]; rfl
      have hs : List.drop (Int.toNat ((2 * k : Nat) : Int)) (List.take (Int.toNat (lenI fl)) fl) = fl.drop (2 * k) := by rw [e4, e5]
      cases he2 : ((dDec (fl.drop (2 * k))).2.2.1 != 0) with
      | true =>
        refine (runL_out ((val_no hno).trans ((val_yes hin).trans ((val_yes ?_).trans ((val_yes hle).trans ((val_yes (decode_G _)).trans ((val_yes ?_).trans rfl))))))).trans ?_
        · show (!(List.getD c (nplus 0 (w64 (Int.tdiv ((2 * k : Nat) : Int) 2))) dfF).2.2.1) = true
          rw [e1, e2, e6, hk1]; rfl
        · show (List.getD (List.set c (nplus 0 (w64 (Int.tdiv ((2 * k : Nat) : Int) 2))) ((V_decode_Decode (List.drop (Int.toNat ((2 * k : Nat) : Int)) (List.take (Int.toNat (lenI fl)) fl))).1, (V_decode_Decode (List.drop (Int.toNat ((2 * k : Nat) : Int)) (List.take (Int.toNat (lenI fl)) fl))).2.1, true, (V_decode_Decode (List.drop (Int.toNat ((2 * k : Nat) : Int)) (List.take (Int.toNat (lenI fl)) fl))).2.2.1 != 0, ())) (nplus 0 (w64 (Int.tdiv ((2 * k : Nat) : Int) 2))) dfF).2.2.2.1 = true
          rw [e1, e2, e6, hent _ hs, hset]
          exact he2
        · show some (1, t, (hd, fl, (), (rg, ((2 * k : Nat) : Int), fgs), dn, (0, fl.length / 2 + 1), ()), i0, M, List.set c (nplus 0 (w64 (Int.tdiv ((2 * k : Nat) : Int) 2))) ((V_decode_Decode (List.drop (Int.toNat ((2 * k : Nat) : Int)) (List.take (Int.toNat (lenI fl)) fl))).1, (V_decode_Decode (List.drop (Int.toNat ((2 * k : Nat) : Int)) (List.take (Int.toNat (lenI fl)) fl))).2.1, true, (V_decode_Decode (List.drop (Int.toNat ((2 * k : Nat) : Int)) (List.take (Int.toNat (lenI fl)) fl))).2.2.1 != 0, ()), B) = _
          rw [e1, e2, e6, hent _ hs]
          rfl
      | false =>
        refine (runL_out ((val_no hno).trans ((val_yes hin).trans ((val_yes ?_).trans ((val_yes hle).trans ((val_yes (decode_G _)).trans ((val_no ?_).trans rfl))))))).trans ?_
        · show (!(List.getD c (nplus 0 (w64 (Int.tdiv ((2 * k : Nat) : Int) 2))) dfF).2.2.1) = true
          rw [e1, e2, e6, hk1]; rfl
        · show (List.getD (List.set c (nplus 0 (w64 (Int.tdiv ((2 * k : Nat) : Int) 2))) ((V_decode_Decode (List.drop (Int.toNat ((2 * k : Nat) : Int)) (List.take (Int.toNat (lenI fl)) fl))).1, (V_decode_Decode (List.drop (Int.toNat ((2 * k : Nat) : Int)) (List.take (Int.toNat (lenI fl)) fl))).2.1, true, (V_decode_Decode (List.drop (Int.toNat ((2 * k : Nat) : Int)) (List.take (Int.toNat (lenI fl)) fl))).2.2.1 != 0, ())) (nplus 0 (w64 (Int.tdiv ((2 * k : Nat) : Int) 2))) dfF).2.2.2.1 = false
          rw [e1, e2, e6, hent _ hs, hset]
          exact he2
        · show some (0, (List.getD (List.set c (nplus 0 (w64 (Int.tdiv ((2 * k : Nat) : Int) 2))) ((V_decode_Decode (List.drop (Int.toNat ((2 * k : Nat) : Int)) (List.take (Int.toNat (lenI fl)) fl))).1, (V_decode_Decode (List.drop (Int.toNat ((2 * k : Nat) : Int)) (List.take (Int.toNat (lenI fl)) fl))).2.1, true, (V_decode_Decode (List.drop (Int.toNat ((2 * k : Nat) : Int)) (List.take (Int.toNat (lenI fl)) fl))).2.2.1 != 0, ())) (nplus 0 (w64 (Int.tdiv ((2 * k : Nat) : Int) 2))) dfF).2.1, (hd, fl, (), (rg, ((2 * k : Nat) : Int), fgs), dn, (0, fl.length / 2 + 1), ()), (List.getD (List.set c (nplus 0 (w64 (Int.tdiv ((2 * k : Nat) : Int) 2))) ((V_decode_Decode (List.drop (Int.toNat ((2 * k : Nat) : Int)) (List.take (Int.toNat (lenI fl)) fl))).1, (V_decode_Decode (List.drop (Int.toNat ((2 * k : Nat) : Int)) (List.take (Int.toNat (lenI fl)) fl))).2.1, true, (V_decode_Decode (List.drop (Int.toNat ((2 * k : Nat) : Int)) (List.take (Int.toNat (lenI fl)) fl))).2.2.1 != 0, ())) (nplus 0 (w64 (Int.tdiv ((2 * k : Nat) : Int) 2))) dfF).1, M, List.set c (nplus 0 (w64 (Int.tdiv ((2 * k : Nat) : Int) 2))) ((V_decode_Decode (List.drop (Int.toNat ((2 * k : Nat) : Int)) (List.take (Int.toNat (lenI fl)) fl))).1, (V_decode_Decode (List.drop (Int.toNat ((2 * k : Nat) : Int)) (List.take (Int.toNat (lenI fl)) fl))).2.1, true, (V_decode_Decode (List.drop (Int.toNat ((2 * k : Nat) : Int)) (List.take (Int.toNat (lenI fl)) fl))).2.2.1 != 0, ()), B) = _
          rw [e1, e2, e6, hent _ hs, hset]
          rfl
/-! ### A step -/

abbrev StepR : Type := tEvent.den × tState.den × Bool × MemT
def finX (st : tState.den) (i : tIns.den) (mem : MemT) (ld addr : Int) : StepR := ((0, st.2.1, addr, V_cpu_Cycles (st, i), ()), (V_cpu_Step (st, i, ld)).1, !(V_cpu_Step (st, i, ld)).2.1, mem)
def trapX (hd : tHead.den) (st : tState.den) (mem : MemT) (addr : Int) : StepR := ((2, st.2.1, addr, 12, ()), (st.1, hd.2.1, st.2.2), false, mem)
/-- An instruction that is done. -/
def actX (hd : tHead.den) (st : tState.den) (i : tIns.den) (mem : MemT) : StepR :=
  bif (V_cpu_Access (st, i)).2.1 then
    (bif (V_cpu_Access (st, i)).1.2.2.2.1 then
      (bif (storeM mem (V_cpu_Access (st, i)).1.1 (V_cpu_Access (st, i)).1.2.1 (V_cpu_Access (st, i)).1.2.2.1).1 != 0 then trapX hd st (storeM mem (V_cpu_Access (st, i)).1.1 (V_cpu_Access (st, i)).1.2.1 (V_cpu_Access (st, i)).1.2.2.1).2 (V_cpu_Access (st, i)).1.1
        else finX st i (storeM mem (V_cpu_Access (st, i)).1.1 (V_cpu_Access (st, i)).1.2.1 (V_cpu_Access (st, i)).1.2.2.1).2 0 (V_cpu_Access (st, i)).1.1)
     else bif (loadM mem (V_cpu_Access (st, i)).1.1 (V_cpu_Access (st, i)).1.2.1).2.1 != 0 then trapX hd st mem (V_cpu_Access (st, i)).1.1
        else finX st i mem (loadM mem (V_cpu_Access (st, i)).1.1 (V_cpu_Access (st, i)).1.2.1).1 (V_cpu_Access (st, i)).1.1)
  else finX st i mem 0 0
/-- A step behind the fault. -/
def turnX (hd : tHead.den) (fl : List UInt8) (st : tState.den) (mem : MemT) (skip : Bool) : StepR :=
  match fetchX fl st.2.1 with
  | none => trapX hd st mem 0
  | some p => bif skip then ((1, st.2.1, 0, 1, ()), (st.1, V_word_Add (st.2.1, p.2), st.2.2), false, mem) else actX hd st p.1 mem
def faultX (f : tFault.den) : tFault.den := bif V_machine_Check f != 0 then (0, 0, 0, 0, ()) else f
def stepMX (hd : tHead.den) (fl : List UInt8) (st : tState.den) (mem : MemT) (f : tFault.den) : StepR := turnX hd fl (V_hitS st (faultX f)) mem ((faultX f).1 == (1 : Int))

theorem hitS_len (s : tState.den) (f : tFault.den) (h : List.length s.1 = 15) : List.length (V_hitS s f).1 = 15 := by
  unfold V_hitS
  cases f.1 == (2 : Int)
  · cases f.1 == (3 : Int)
    · exact h
    · cases f.2.2.2.1 == (0 : Int) <;> cases f.2.2.2.1 == (1 : Int) <;> cases f.2.2.2.1 == (2 : Int) <;> cases f.2.2.2.1 == (3 : Int) <;> exact h
  · simp only [cond_true, List.length_set]
    exact h
theorem hitS_pc (s : tState.den) (f : tFault.den) : (V_hitS s f).2.1 = s.2.1 := by
  unfold V_hitS
  cases f.1 == (2 : Int)
  · cases f.1 == (3 : Int)
    · rfl
    · cases f.2.2.2.1 == (0 : Int) <;> cases f.2.2.2.1 == (1 : Int) <;> cases f.2.2.2.1 == (2 : Int) <;> cases f.2.2.2.1 == (3 : Int) <;> rfl
  · rfl

abbrev packX (hd : tHead.den) (fl : List UInt8) (win : Nat × Nat) (c : List tFetched.den) (r : StepR) : (tEvent.den × Bool × Unit) × MS := ((r.1, true, ()), ((hd, fl, (), r.2.1, r.2.2.1, win, ()), r.2.2.2.1, c, r.2.2.2.2))

/-- The walk of an instruction that is done. -/
def actT (hd : tHead.den) (fl : List UInt8) (dn : Bool) (win : Nat × Nat) (st : tState.den) (i : tIns.den) (M : (shMemB 3).den) (c : List tFetched.den) (B : List Int) : PO ((tEvent.den × Bool × Unit) × MS) :=
  .ite (G_cpu_Access (st, i))
    (.ite (V_cpu_Access (st, i)).2.1
      (.ite (V_cpu_Access (st, i)).1.2.2.2.1
        (.ite (G_memory_Memory_Store ((), (V_cpu_Access (st, i)).1.1, (V_cpu_Access (st, i)).1.2.1, (V_cpu_Access (st, i)).1.2.2.1) (M, B))
          (.ite ((V_memory_Memory_Store ((), (V_cpu_Access (st, i)).1.1, (V_cpu_Access (st, i)).1.2.1, (V_cpu_Access (st, i)).1.2.2.1) (M, B)).1 != 0)
            (.ret (((2, st.2.1, (V_cpu_Access (st, i)).1.1, 12, ()), true, ()), ((hd, fl, (), (st.1, hd.2.1, st.2.2), dn, win, ()), (V_memory_Memory_Store ((), (V_cpu_Access (st, i)).1.1, (V_cpu_Access (st, i)).1.2.1, (V_cpu_Access (st, i)).1.2.2.1) (M, B)).2.1, c, (V_memory_Memory_Store ((), (V_cpu_Access (st, i)).1.1, (V_cpu_Access (st, i)).1.2.1, (V_cpu_Access (st, i)).1.2.2.1) (M, B)).2.2)))
            (.ite (G_cpu_Cycles (st, i)) (.ite (G_cpu_Step (st, i, 0))
              (.ret (((0, st.2.1, (V_cpu_Access (st, i)).1.1, V_cpu_Cycles (st, i), ()), true, ()), ((hd, fl, (), (V_cpu_Step (st, i, 0)).1, !(V_cpu_Step (st, i, 0)).2.1, win, ()), (V_memory_Memory_Store ((), (V_cpu_Access (st, i)).1.1, (V_cpu_Access (st, i)).1.2.1, (V_cpu_Access (st, i)).1.2.2.1) (M, B)).2.1, c, (V_memory_Memory_Store ((), (V_cpu_Access (st, i)).1.1, (V_cpu_Access (st, i)).1.2.1, (V_cpu_Access (st, i)).1.2.2.1) (M, B)).2.2))) .fail) .fail))
          .fail)
        (.ite (G_memory_Memory_Load ((), (V_cpu_Access (st, i)).1.1, (V_cpu_Access (st, i)).1.2.1) (M, B))
          (.ite ((V_memory_Memory_Load ((), (V_cpu_Access (st, i)).1.1, (V_cpu_Access (st, i)).1.2.1) (M, B)).1.2.1 != 0)
            (.ret (((2, st.2.1, (V_cpu_Access (st, i)).1.1, 12, ()), true, ()), ((hd, fl, (), (st.1, hd.2.1, st.2.2), dn, win, ()), (V_memory_Memory_Load ((), (V_cpu_Access (st, i)).1.1, (V_cpu_Access (st, i)).1.2.1) (M, B)).2.1, c, (V_memory_Memory_Load ((), (V_cpu_Access (st, i)).1.1, (V_cpu_Access (st, i)).1.2.1) (M, B)).2.2)))
            (.ite (G_cpu_Cycles (st, i)) (.ite (G_cpu_Step (st, i, (V_memory_Memory_Load ((), (V_cpu_Access (st, i)).1.1, (V_cpu_Access (st, i)).1.2.1) (M, B)).1.1))
              (.ret (((0, st.2.1, (V_cpu_Access (st, i)).1.1, V_cpu_Cycles (st, i), ()), true, ()), ((hd, fl, (), (V_cpu_Step (st, i, (V_memory_Memory_Load ((), (V_cpu_Access (st, i)).1.1, (V_cpu_Access (st, i)).1.2.1) (M, B)).1.1)).1, !(V_cpu_Step (st, i, (V_memory_Memory_Load ((), (V_cpu_Access (st, i)).1.1, (V_cpu_Access (st, i)).1.2.1) (M, B)).1.1)).2.1, win, ()), (V_memory_Memory_Load ((), (V_cpu_Access (st, i)).1.1, (V_cpu_Access (st, i)).1.2.1) (M, B)).2.1, c, (V_memory_Memory_Load ((), (V_cpu_Access (st, i)).1.1, (V_cpu_Access (st, i)).1.2.1) (M, B)).2.2))) .fail) .fail))
          .fail))
      (.ite (G_cpu_Cycles (st, i)) (.ite (G_cpu_Step (st, i, 0))
        (.ret (((0, st.2.1, 0, V_cpu_Cycles (st, i), ()), true, ()), ((hd, fl, (), (V_cpu_Step (st, i, 0)).1, !(V_cpu_Step (st, i, 0)).2.1, win, ()), M, c, B))) .fail) .fail))
    .fail

theorem act_ok (hd : tHead.den) (fl : List UInt8) (win : Nat × Nat) (st : tState.den) (i : tIns.den) (M : (shMemB 3).den) (c : List tFetched.den) (B : List Int) (hr : List.length st.1 = 15) (hm : MemWf (M, B)) :
    (actT hd fl false win st i M c B).val = some (packX hd fl win c (actX hd st i (M, B))) := by
  have g1 : G_cpu_Access (st, i) = true := decide_eq_true hr
  have g2 : G_cpu_Cycles (st, i) = true := decide_eq_true hr
  have g3 : ∀ ld, G_cpu_Step (st, i, ld) = true := fun ld => decide_eq_true hr
  have ha := access_addr st i
  have g4 : ∀ n v, G_memory_Memory_Store ((), (V_cpu_Access (st, i)).1.1, n, v) (M, B) = true := fun n v => decide_eq_true ⟨hm, ha⟩
  have g5 : ∀ n, G_memory_Memory_Load ((), (V_cpu_Access (st, i)).1.1, n) (M, B) = true := fun n => decide_eq_true ⟨hm, ha⟩
  unfold actT actX
  refine (val_yes g1).trans ?_
  cases h1 : (V_cpu_Access (st, i)).2.1
  · exact (val_no rfl).trans ((val_yes g2).trans ((val_yes (g3 _)).trans rfl))
  · refine (val_yes rfl).trans ?_
    simp only [cond_true]
    cases h2 : (V_cpu_Access (st, i)).1.2.2.2.1
    · refine (val_no rfl).trans ((val_yes (g5 _)).trans ?_)
      simp only [cond_false]
      cases h3 : ((loadM (M, B) (V_cpu_Access (st, i)).1.1 (V_cpu_Access (st, i)).1.2.1).2.1 != (0 : Int))
      · exact (val_no h3).trans ((val_yes g2).trans ((val_yes (g3 _)).trans rfl))
      · exact (val_yes h3).trans rfl
    · refine (val_yes rfl).trans ((val_yes (g4 _ _)).trans ?_)
      simp only [cond_true]
      cases h3 : ((storeM (M, B) (V_cpu_Access (st, i)).1.1 (V_cpu_Access (st, i)).1.2.1 (V_cpu_Access (st, i)).1.2.2.1).1 != (0 : Int))
      · exact (val_no h3).trans ((val_yes g2).trans ((val_yes (g3 _)).trans rfl))
      · exact (val_yes h3).trans rfl
/-- (*machine.Machine).Step -/
abbrev SS_machine_Machine_Step : List Sh := [.box 0 0, .ty tFault]
abbrev HS_machine_Machine_Step : List Sh := [shMach, shMemB 3, .rowc tFetched, .rowc (.int .u8)]
abbrev S_machine_Machine_Step : Sh := Sh.tup (Sh.pair (Sh.ty tFault) (Sh.pair (Sh.ty Ty.bool) (Sh.ty Ty.unit)))
abbrev HT_machine_Machine_Step : List Sh := [Sh.pair (Sh.ty (Ty.pair (Ty.int IntKind.i64) (Ty.pair (Ty.int IntKind.i64) (Ty.pair tSizes (Ty.pair (Ty.int IntKind.i64) Ty.unit))))) (Sh.pair (Sh.ty Ty.str) (Sh.pair (Sh.box 1 0) (Sh.pair (Sh.ty tState) (Sh.pair (Sh.ty Ty.bool) (Sh.pair (Sh.win 2 (Ty.pair tIns (Ty.pair (Ty.int IntKind.i64) (Ty.pair Ty.bool (Ty.pair Ty.bool Ty.unit))))) (Sh.ty Ty.unit)))))), Sh.pair (Sh.ty (Ty.sl tSpot)) (Sh.pair (Sh.wsl none 3 (Ty.int IntKind.u8)) (Sh.ty Ty.unit)), Sh.rowc (Ty.pair tIns (Ty.pair (Ty.int IntKind.i64) (Ty.pair Ty.bool (Ty.pair Ty.bool Ty.unit)))), Sh.rowc (Ty.int IntKind.u8)]
def T_machine_Machine_Step (x : shDens SS_machine_Machine_Step) (y : shDens HS_machine_Machine_Step) : PO (Sh.den S_machine_Machine_Step × shDens HT_machine_Machine_Step) :=
  (.ite (y.1.2.2.2.2.1)
   (.ret (((0, 0, 0, 0, ()), false, ()), ((y.1.1, y.1.2.1, (), y.1.2.2.2), y.2.1, y.2.2.1, y.2.2.2)))
   (.ite (V_machine_Check x.2 != 0)
    (.ite (G_machine_Machine_hit ((), 0, 0, 0, 0, ()) ((y.1.1, y.1.2.1, (), y.1.2.2.2), y.2))
     (.opt (LoopN.res L_machine_Machine_fetch_c5 ((), (), 0, (V_hitS y.1.2.2.2.1 (0, 0, 0, 0, ())).2.1) ((y.1.1, y.1.2.1, (), V_hitS y.1.2.2.2.1 (0, 0, 0, 0, ()), y.1.2.2.2.2), (0, 0, 0, 0, 0, 0, 0, false, ()), y.2)) fun p0 =>
      (.ite (way p0.1)
       (.ite (G_cpu_Access (p0.2.2.1.2.2.2.1, p0.2.2.2.1))
        (.ite ((V_cpu_Access (p0.2.2.1.2.2.2.1, p0.2.2.2.1)).2.1)
         (.ite ((V_cpu_Access (p0.2.2.1.2.2.2.1, p0.2.2.2.1)).1.2.2.2.1)
          (.ite (G_memory_Memory_Store ((), (V_cpu_Access (p0.2.2.1.2.2.2.1, p0.2.2.2.1)).1.1, (V_cpu_Access (p0.2.2.1.2.2.2.1, p0.2.2.2.1)).1.2.1, (V_cpu_Access (p0.2.2.1.2.2.2.1, p0.2.2.2.1)).1.2.2.1) (p0.2.2.2.2.1, p0.2.2.2.2.2.2))
           (.ite ((V_memory_Memory_Store ((), (V_cpu_Access (p0.2.2.1.2.2.2.1, p0.2.2.2.1)).1.1, (V_cpu_Access (p0.2.2.1.2.2.2.1, p0.2.2.2.1)).1.2.1, (V_cpu_Access (p0.2.2.1.2.2.2.1, p0.2.2.2.1)).1.2.2.1) (p0.2.2.2.2.1, p0.2.2.2.2.2.2)).1 != 0)
            (.ret (((2, p0.2.2.1.2.2.2.1.2.1, (V_cpu_Access (p0.2.2.1.2.2.2.1, p0.2.2.2.1)).1.1, 12, ()), true, ()), ((p0.2.2.1.1, p0.2.2.1.2.1, (), (p0.2.2.1.2.2.2.1.1, p0.2.2.1.1.2.1, p0.2.2.1.2.2.2.1.2.2), p0.2.2.1.2.2.2.2), (V_memory_Memory_Store ((), (V_cpu_Access (p0.2.2.1.2.2.2.1, p0.2.2.2.1)).1.1, (V_cpu_Access (p0.2.2.1.2.2.2.1, p0.2.2.2.1)).1.2.1, (V_cpu_Access (p0.2.2.1.2.2.2.1, p0.2.2.2.1)).1.2.2.1) (p0.2.2.2.2.1, p0.2.2.2.2.2.2)).2.1, p0.2.2.2.2.2.1, (V_memory_Memory_Store ((), (V_cpu_Access (p0.2.2.1.2.2.2.1, p0.2.2.2.1)).1.1, (V_cpu_Access (p0.2.2.1.2.2.2.1, p0.2.2.2.1)).1.2.1, (V_cpu_Access (p0.2.2.1.2.2.2.1, p0.2.2.2.1)).1.2.2.1) (p0.2.2.2.2.1, p0.2.2.2.2.2.2)).2.2)))
            (.ite (G_cpu_Cycles (p0.2.2.1.2.2.2.1, p0.2.2.2.1))
             (.ite (G_cpu_Step (p0.2.2.1.2.2.2.1, p0.2.2.2.1, 0))
              (.ret (((0, (V_hitS y.1.2.2.2.1 (0, 0, 0, 0, ())).2.1, (V_cpu_Access (p0.2.2.1.2.2.2.1, p0.2.2.2.1)).1.1, V_cpu_Cycles (p0.2.2.1.2.2.2.1, p0.2.2.2.1), ()), true, ()), ((p0.2.2.1.1, p0.2.2.1.2.1, (), (V_cpu_Step (p0.2.2.1.2.2.2.1, p0.2.2.2.1, 0)).1, !(V_cpu_Step (p0.2.2.1.2.2.2.1, p0.2.2.2.1, 0)).2.1, p0.2.2.1.2.2.2.2.2), (V_memory_Memory_Store ((), (V_cpu_Access (p0.2.2.1.2.2.2.1, p0.2.2.2.1)).1.1, (V_cpu_Access (p0.2.2.1.2.2.2.1, p0.2.2.2.1)).1.2.1, (V_cpu_Access (p0.2.2.1.2.2.2.1, p0.2.2.2.1)).1.2.2.1) (p0.2.2.2.2.1, p0.2.2.2.2.2.2)).2.1, p0.2.2.2.2.2.1, (V_memory_Memory_Store ((), (V_cpu_Access (p0.2.2.1.2.2.2.1, p0.2.2.2.1)).1.1, (V_cpu_Access (p0.2.2.1.2.2.2.1, p0.2.2.2.1)).1.2.1, (V_cpu_Access (p0.2.2.1.2.2.2.1, p0.2.2.2.1)).1.2.2.1) (p0.2.2.2.2.1, p0.2.2.2.2.2.2)).2.2)))
              .fail)
             .fail))
           .fail)
          (.ite (G_memory_Memory_Load ((), (V_cpu_Access (p0.2.2.1.2.2.2.1, p0.2.2.2.1)).1.1, (V_cpu_Access (p0.2.2.1.2.2.2.1, p0.2.2.2.1)).1.2.1) (p0.2.2.2.2.1, p0.2.2.2.2.2.2))
           (.ite ((V_memory_Memory_Load ((), (V_cpu_Access (p0.2.2.1.2.2.2.1, p0.2.2.2.1)).1.1, (V_cpu_Access (p0.2.2.1.2.2.2.1, p0.2.2.2.1)).1.2.1) (p0.2.2.2.2.1, p0.2.2.2.2.2.2)).1.2.1 != 0)
            (.ret (((2, p0.2.2.1.2.2.2.1.2.1, (V_cpu_Access (p0.2.2.1.2.2.2.1, p0.2.2.2.1)).1.1, 12, ()), true, ()), ((p0.2.2.1.1, p0.2.2.1.2.1, (), (p0.2.2.1.2.2.2.1.1, p0.2.2.1.1.2.1, p0.2.2.1.2.2.2.1.2.2), p0.2.2.1.2.2.2.2), (V_memory_Memory_Load ((), (V_cpu_Access (p0.2.2.1.2.2.2.1, p0.2.2.2.1)).1.1, (V_cpu_Access (p0.2.2.1.2.2.2.1, p0.2.2.2.1)).1.2.1) (p0.2.2.2.2.1, p0.2.2.2.2.2.2)).2.1, p0.2.2.2.2.2.1, (V_memory_Memory_Load ((), (V_cpu_Access (p0.2.2.1.2.2.2.1, p0.2.2.2.1)).1.1, (V_cpu_Access (p0.2.2.1.2.2.2.1, p0.2.2.2.1)).1.2.1) (p0.2.2.2.2.1, p0.2.2.2.2.2.2)).2.2)))
            (.ite (G_cpu_Cycles (p0.2.2.1.2.2.2.1, p0.2.2.2.1))
             (.ite (G_cpu_Step (p0.2.2.1.2.2.2.1, p0.2.2.2.1, (V_memory_Memory_Load ((), (V_cpu_Access (p0.2.2.1.2.2.2.1, p0.2.2.2.1)).1.1, (V_cpu_Access (p0.2.2.1.2.2.2.1, p0.2.2.2.1)).1.2.1) (p0.2.2.2.2.1, p0.2.2.2.2.2.2)).1.1))
              (.ret (((0, (V_hitS y.1.2.2.2.1 (0, 0, 0, 0, ())).2.1, (V_cpu_Access (p0.2.2.1.2.2.2.1, p0.2.2.2.1)).1.1, V_cpu_Cycles (p0.2.2.1.2.2.2.1, p0.2.2.2.1), ()), true, ()), ((p0.2.2.1.1, p0.2.2.1.2.1, (), (V_cpu_Step (p0.2.2.1.2.2.2.1, p0.2.2.2.1, (V_memory_Memory_Load ((), (V_cpu_Access (p0.2.2.1.2.2.2.1, p0.2.2.2.1)).1.1, (V_cpu_Access (p0.2.2.1.2.2.2.1, p0.2.2.2.1)).1.2.1) (p0.2.2.2.2.1, p0.2.2.2.2.2.2)).1.1)).1, !(V_cpu_Step (p0.2.2.1.2.2.2.1, p0.2.2.2.1, (V_memory_Memory_Load ((), (V_cpu_Access (p0.2.2.1.2.2.2.1, p0.2.2.2.1)).1.1, (V_cpu_Access (p0.2.2.1.2.2.2.1, p0.2.2.2.1)).1.2.1) (p0.2.2.2.2.1, p0.2.2.2.2.2.2)).1.1)).2.1, p0.2.2.1.2.2.2.2.2), (V_memory_Memory_Load ((), (V_cpu_Access (p0.2.2.1.2.2.2.1, p0.2.2.2.1)).1.1, (V_cpu_Access (p0.2.2.1.2.2.2.1, p0.2.2.2.1)).1.2.1) (p0.2.2.2.2.1, p0.2.2.2.2.2.2)).2.1, p0.2.2.2.2.2.1, (V_memory_Memory_Load ((), (V_cpu_Access (p0.2.2.1.2.2.2.1, p0.2.2.2.1)).1.1, (V_cpu_Access (p0.2.2.1.2.2.2.1, p0.2.2.2.1)).1.2.1) (p0.2.2.2.2.1, p0.2.2.2.2.2.2)).2.2)))
              .fail)
             .fail))
           .fail))
         (.ite (G_cpu_Cycles (p0.2.2.1.2.2.2.1, p0.2.2.2.1))
          (.ite (G_cpu_Step (p0.2.2.1.2.2.2.1, p0.2.2.2.1, 0))
           (.ret (((0, (V_hitS y.1.2.2.2.1 (0, 0, 0, 0, ())).2.1, 0, V_cpu_Cycles (p0.2.2.1.2.2.2.1, p0.2.2.2.1), ()), true, ()), ((p0.2.2.1.1, p0.2.2.1.2.1, (), (V_cpu_Step (p0.2.2.1.2.2.2.1, p0.2.2.2.1, 0)).1, !(V_cpu_Step (p0.2.2.1.2.2.2.1, p0.2.2.2.1, 0)).2.1, p0.2.2.1.2.2.2.2.2), p0.2.2.2.2.1, p0.2.2.2.2.2.1, p0.2.2.2.2.2.2)))
           .fail)
          .fail))
        .fail)
       (.ret (((2, p0.2.2.1.2.2.2.1.2.1, 0, 12, ()), true, ()), ((p0.2.2.1.1, p0.2.2.1.2.1, (), (p0.2.2.1.2.2.2.1.1, p0.2.2.1.1.2.1, p0.2.2.1.2.2.2.1.2.2), p0.2.2.1.2.2.2.2), p0.2.2.2.2.1, p0.2.2.2.2.2.1, p0.2.2.2.2.2.2)))))
     .fail)
    (.ite (G_machine_Machine_hit ((), x.2) ((y.1.1, y.1.2.1, (), y.1.2.2.2), y.2))
     (.opt (LoopN.res L_machine_Machine_fetch_c5 ((), (), 0, (V_hitS y.1.2.2.2.1 x.2).2.1) ((y.1.1, y.1.2.1, (), V_hitS y.1.2.2.2.1 x.2, y.1.2.2.2.2), (0, 0, 0, 0, 0, 0, 0, false, ()), y.2)) fun p0 =>
      (.ite (way p0.1)
       (.ite (x.2.1 == 1)
        (.ret (((1, (V_hitS y.1.2.2.2.1 x.2).2.1, 0, 1, ()), true, ()), ((p0.2.2.1.1, p0.2.2.1.2.1, (), (p0.2.2.1.2.2.2.1.1, V_word_Add (p0.2.2.1.2.2.2.1.2.1, p0.2.1), p0.2.2.1.2.2.2.1.2.2), p0.2.2.1.2.2.2.2), p0.2.2.2.2.1, p0.2.2.2.2.2.1, p0.2.2.2.2.2.2)))
        (.ite (G_cpu_Access (p0.2.2.1.2.2.2.1, p0.2.2.2.1))
         (.ite ((V_cpu_Access (p0.2.2.1.2.2.2.1, p0.2.2.2.1)).2.1)
          (.ite ((V_cpu_Access (p0.2.2.1.2.2.2.1, p0.2.2.2.1)).1.2.2.2.1)
           (.ite (G_memory_Memory_Store ((), (V_cpu_Access (p0.2.2.1.2.2.2.1, p0.2.2.2.1)).1.1, (V_cpu_Access (p0.2.2.1.2.2.2.1, p0.2.2.2.1)).1.2.1, (V_cpu_Access (p0.2.2.1.2.2.2.1, p0.2.2.2.1)).1.2.2.1) (p0.2.2.2.2.1, p0.2.2.2.2.2.2))
            (.ite ((V_memory_Memory_Store ((), (V_cpu_Access (p0.2.2.1.2.2.2.1, p0.2.2.2.1)).1.1, (V_cpu_Access (p0.2.2.1.2.2.2.1, p0.2.2.2.1)).1.2.1, (V_cpu_Access (p0.2.2.1.2.2.2.1, p0.2.2.2.1)).1.2.2.1) (p0.2.2.2.2.1, p0.2.2.2.2.2.2)).1 != 0)
             (.ret (((2, p0.2.2.1.2.2.2.1.2.1, (V_cpu_Access (p0.2.2.1.2.2.2.1, p0.2.2.2.1)).1.1, 12, ()), true, ()), ((p0.2.2.1.1, p0.2.2.1.2.1, (), (p0.2.2.1.2.2.2.1.1, p0.2.2.1.1.2.1, p0.2.2.1.2.2.2.1.2.2), p0.2.2.1.2.2.2.2), (V_memory_Memory_Store ((), (V_cpu_Access (p0.2.2.1.2.2.2.1, p0.2.2.2.1)).1.1, (V_cpu_Access (p0.2.2.1.2.2.2.1, p0.2.2.2.1)).1.2.1, (V_cpu_Access (p0.2.2.1.2.2.2.1, p0.2.2.2.1)).1.2.2.1) (p0.2.2.2.2.1, p0.2.2.2.2.2.2)).2.1, p0.2.2.2.2.2.1, (V_memory_Memory_Store ((), (V_cpu_Access (p0.2.2.1.2.2.2.1, p0.2.2.2.1)).1.1, (V_cpu_Access (p0.2.2.1.2.2.2.1, p0.2.2.2.1)).1.2.1, (V_cpu_Access (p0.2.2.1.2.2.2.1, p0.2.2.2.1)).1.2.2.1) (p0.2.2.2.2.1, p0.2.2.2.2.2.2)).2.2)))
             (.ite (G_cpu_Cycles (p0.2.2.1.2.2.2.1, p0.2.2.2.1))
              (.ite (G_cpu_Step (p0.2.2.1.2.2.2.1, p0.2.2.2.1, 0))
               (.ret (((0, (V_hitS y.1.2.2.2.1 x.2).2.1, (V_cpu_Access (p0.2.2.1.2.2.2.1, p0.2.2.2.1)).1.1, V_cpu_Cycles (p0.2.2.1.2.2.2.1, p0.2.2.2.1), ()), true, ()), ((p0.2.2.1.1, p0.2.2.1.2.1, (), (V_cpu_Step (p0.2.2.1.2.2.2.1, p0.2.2.2.1, 0)).1, !(V_cpu_Step (p0.2.2.1.2.2.2.1, p0.2.2.2.1, 0)).2.1, p0.2.2.1.2.2.2.2.2), (V_memory_Memory_Store ((), (V_cpu_Access (p0.2.2.1.2.2.2.1, p0.2.2.2.1)).1.1, (V_cpu_Access (p0.2.2.1.2.2.2.1, p0.2.2.2.1)).1.2.1, (V_cpu_Access (p0.2.2.1.2.2.2.1, p0.2.2.2.1)).1.2.2.1) (p0.2.2.2.2.1, p0.2.2.2.2.2.2)).2.1, p0.2.2.2.2.2.1, (V_memory_Memory_Store ((), (V_cpu_Access (p0.2.2.1.2.2.2.1, p0.2.2.2.1)).1.1, (V_cpu_Access (p0.2.2.1.2.2.2.1, p0.2.2.2.1)).1.2.1, (V_cpu_Access (p0.2.2.1.2.2.2.1, p0.2.2.2.1)).1.2.2.1) (p0.2.2.2.2.1, p0.2.2.2.2.2.2)).2.2)))
               .fail)
              .fail))
            .fail)
           (.ite (G_memory_Memory_Load ((), (V_cpu_Access (p0.2.2.1.2.2.2.1, p0.2.2.2.1)).1.1, (V_cpu_Access (p0.2.2.1.2.2.2.1, p0.2.2.2.1)).1.2.1) (p0.2.2.2.2.1, p0.2.2.2.2.2.2))
            (.ite ((V_memory_Memory_Load ((), (V_cpu_Access (p0.2.2.1.2.2.2.1, p0.2.2.2.1)).1.1, (V_cpu_Access (p0.2.2.1.2.2.2.1, p0.2.2.2.1)).1.2.1) (p0.2.2.2.2.1, p0.2.2.2.2.2.2)).1.2.1 != 0)
             (.ret (((2, p0.2.2.1.2.2.2.1.2.1, (V_cpu_Access (p0.2.2.1.2.2.2.1, p0.2.2.2.1)).1.1, 12, ()), true, ()), ((p0.2.2.1.1, p0.2.2.1.2.1, (), (p0.2.2.1.2.2.2.1.1, p0.2.2.1.1.2.1, p0.2.2.1.2.2.2.1.2.2), p0.2.2.1.2.2.2.2), (V_memory_Memory_Load ((), (V_cpu_Access (p0.2.2.1.2.2.2.1, p0.2.2.2.1)).1.1, (V_cpu_Access (p0.2.2.1.2.2.2.1, p0.2.2.2.1)).1.2.1) (p0.2.2.2.2.1, p0.2.2.2.2.2.2)).2.1, p0.2.2.2.2.2.1, (V_memory_Memory_Load ((), (V_cpu_Access (p0.2.2.1.2.2.2.1, p0.2.2.2.1)).1.1, (V_cpu_Access (p0.2.2.1.2.2.2.1, p0.2.2.2.1)).1.2.1) (p0.2.2.2.2.1, p0.2.2.2.2.2.2)).2.2)))
             (.ite (G_cpu_Cycles (p0.2.2.1.2.2.2.1, p0.2.2.2.1))
              (.ite (G_cpu_Step (p0.2.2.1.2.2.2.1, p0.2.2.2.1, (V_memory_Memory_Load ((), (V_cpu_Access (p0.2.2.1.2.2.2.1, p0.2.2.2.1)).1.1, (V_cpu_Access (p0.2.2.1.2.2.2.1, p0.2.2.2.1)).1.2.1) (p0.2.2.2.2.1, p0.2.2.2.2.2.2)).1.1))
               (.ret (((0, (V_hitS y.1.2.2.2.1 x.2).2.1, (V_cpu_Access (p0.2.2.1.2.2.2.1, p0.2.2.2.1)).1.1, V_cpu_Cycles (p0.2.2.1.2.2.2.1, p0.2.2.2.1), ()), true, ()), ((p0.2.2.1.1, p0.2.2.1.2.1, (), (V_cpu_Step (p0.2.2.1.2.2.2.1, p0.2.2.2.1, (V_memory_Memory_Load ((), (V_cpu_Access (p0.2.2.1.2.2.2.1, p0.2.2.2.1)).1.1, (V_cpu_Access (p0.2.2.1.2.2.2.1, p0.2.2.2.1)).1.2.1) (p0.2.2.2.2.1, p0.2.2.2.2.2.2)).1.1)).1, !(V_cpu_Step (p0.2.2.1.2.2.2.1, p0.2.2.2.1, (V_memory_Memory_Load ((), (V_cpu_Access (p0.2.2.1.2.2.2.1, p0.2.2.2.1)).1.1, (V_cpu_Access (p0.2.2.1.2.2.2.1, p0.2.2.2.1)).1.2.1) (p0.2.2.2.2.1, p0.2.2.2.2.2.2)).1.1)).2.1, p0.2.2.1.2.2.2.2.2), (V_memory_Memory_Load ((), (V_cpu_Access (p0.2.2.1.2.2.2.1, p0.2.2.2.1)).1.1, (V_cpu_Access (p0.2.2.1.2.2.2.1, p0.2.2.2.1)).1.2.1) (p0.2.2.2.2.1, p0.2.2.2.2.2.2)).2.1, p0.2.2.2.2.2.1, (V_memory_Memory_Load ((), (V_cpu_Access (p0.2.2.1.2.2.2.1, p0.2.2.2.1)).1.1, (V_cpu_Access (p0.2.2.1.2.2.2.1, p0.2.2.2.1)).1.2.1) (p0.2.2.2.2.1, p0.2.2.2.2.2.2)).2.2)))
               .fail)
              .fail))
            .fail))
          (.ite (G_cpu_Cycles (p0.2.2.1.2.2.2.1, p0.2.2.2.1))
           (.ite (G_cpu_Step (p0.2.2.1.2.2.2.1, p0.2.2.2.1, 0))
            (.ret (((0, (V_hitS y.1.2.2.2.1 x.2).2.1, 0, V_cpu_Cycles (p0.2.2.1.2.2.2.1, p0.2.2.2.1), ()), true, ()), ((p0.2.2.1.1, p0.2.2.1.2.1, (), (V_cpu_Step (p0.2.2.1.2.2.2.1, p0.2.2.2.1, 0)).1, !(V_cpu_Step (p0.2.2.1.2.2.2.1, p0.2.2.2.1, 0)).2.1, p0.2.2.1.2.2.2.2.2), p0.2.2.2.2.1, p0.2.2.2.2.2.1, p0.2.2.2.2.2.2)))
            .fail)
           .fail))
         .fail))
       (.ret (((2, p0.2.2.1.2.2.2.1.2.1, 0, 12, ()), true, ()), ((p0.2.2.1.1, p0.2.2.1.2.1, (), (p0.2.2.1.2.2.2.1.1, p0.2.2.1.1.2.1, p0.2.2.1.2.2.2.1.2.2), p0.2.2.1.2.2.2.2), p0.2.2.2.2.1, p0.2.2.2.2.2.1, p0.2.2.2.2.2.2)))))
     .fail)))
def G_machine_Machine_Step (_ : shDens SS_machine_Machine_Step) (y : shDens HS_machine_Machine_Step) : Bool := decide (MachWf y)
def V_machine_Machine_Step (x : shDens SS_machine_Machine_Step) (y : shDens HS_machine_Machine_Step) : Sh.den S_machine_Machine_Step × shDens HT_machine_Machine_Step :=
  bif y.1.2.2.2.2.1 then (((0, 0, 0, 0, ()), false, ()), y)
  else packX y.1.1 y.1.2.1 y.1.2.2.2.2.2.1 (cacheX y.1.2.1 y.1.2.2.2.1.2.1 y.2.2.1) (stepMX y.1.1 y.1.2.1 y.1.2.2.2.1 (y.2.1, y.2.2.2) x.2)
theorem check_reg (k p r b : Int) (h : V_machine_Check (k, p, r, b, ()) = 0) : (!(k == (2 : Int)) || inRange r 15) = true := by
  cases h2 : (k == (2 : Int))
  · rfl
  · simp only [beq_iff_eq] at h2
    subst h2
    have hx : (decide (p ≥ 0) && (decide (r ≥ 0) && (decide (r ≤ 14) && (decide (b ≥ 0) && decide (b < 32))))) = true := by
      cases hx : (decide (p ≥ 0) && (decide (r ≥ 0) && (decide (r ≤ 14) && (decide (b ≥ 0) && decide (b < 32)))))
      · exfalso
        have : V_machine_Check (2, p, r, b, ()) = 2 := by
          unfold V_machine_Check PO.getO
          rw [show (T_machine_Check (2, p, r, b, ())).val = some 2 from val_yes (by
            show (!(decide (p ≥ 0) && (decide (r ≥ 0) && (decide (r ≤ 14) && (decide (b ≥ 0) && decide (b < 32)))))) = true
            rw [hx]; rfl)]
          rfl
        rw [this] at h
        cases h
      · rfl
    simp only [Bool.and_eq_true, decide_eq_true_eq] at hx
    have h1 : inRange r 15 = true := by
      simp only [inRange, Bool.and_eq_true, decide_eq_true_eq]
      omega
    rw [h1]
    rfl
set_option maxRecDepth 10000 in
theorem ok_machine_Machine_Step (x : shDens SS_machine_Machine_Step) (y : shDens HS_machine_Machine_Step) (h : G_machine_Machine_Step x y = true) : (T_machine_Machine_Step x y).val = some (V_machine_Machine_Step x y) := by
  have hw : MachWf y := of_decide_eq_true h
  obtain ⟨_, k, p, r, b, _⟩ := x
  obtain ⟨⟨hd, fl, u, st, dn, win, u'⟩, M, c, B⟩ := y
  obtain ⟨hmem, hregs, hpc, hhand, hlen, hwin, hcache⟩ := hw
  simp only at hmem hregs hpc hhand hlen hwin hcache
  subst hwin
  unfold T_machine_Machine_Step V_machine_Machine_Step
  cases dn
  case true => exact (val_yes rfl).trans rfl
  case false =>
  refine (val_no rfl).trans ?_
  have hp : ∀ f, 0 ≤ (show Int from (V_hitS st f).2.1) ∧ (show Int from (V_hitS st f).2.1) < 4294967296 := fun f => by rw [hitS_pc]; exact hpc
  have go := fun f => fetch_res fl c hd (V_hitS st f) false (0, 0, 0, 0, 0, 0, 0, false, ()) 0 M B (hp f) hcache
  have act := fun f i => act_ok hd fl (0, fl.length / 2 + 1) (V_hitS st f) i M (cacheX fl (V_hitS st f).2.1 c) B (hitS_len st f hregs) hmem
  have e0 : ∀ f, cacheX fl st.2.1 c = cacheX fl (V_hitS st f).2.1 c := fun f => by rw [hitS_pc]
  show _ = some (packX hd fl (0, fl.length / 2 + 1) (cacheX fl st.2.1 c) (stepMX hd fl st (M, B) (k, p, r, b, ())))
  unfold stepMX faultX
  cases hck : (V_machine_Check (k, p, r, b, ()) != (0 : Int))
  · refine (val_no rfl).trans ((val_yes (check_reg k p r b (by simpa using hck))).trans ((val_opt (go _)).trans ?_))
    simp only [cond_false]
    rw [e0 (k, p, r, b, ())]
    unfold turnX
    have ha := act (k, p, r, b, ())
    cases fetchX fl (V_hitS st (k, p, r, b, ())).2.1 with
    | none => exact (val_no rfl).trans rfl
    | some q =>
      refine (val_yes rfl).trans ?_
      simp only
      cases hs : (k == (1 : Int))
      · exact (val_no rfl).trans (ha q.1)
      · exact (val_yes rfl).trans rfl
  · refine (val_yes rfl).trans ((val_yes rfl).trans ((val_opt (go _)).trans ?_))
    simp only [cond_true]
    rw [e0 (0, 0, 0, 0, ())]
    unfold turnX
    have ha := act (0, 0, 0, 0, ())
    cases fetchX fl (V_hitS st (0, 0, 0, 0, ())).2.1 with
    | none => exact (val_no rfl).trans rfl
    | some q => exact (val_yes rfl).trans (ha q.1)
end Go.Av
end
/-! Layer 9: a run's steps. -/
section
namespace Go.Av
open Go

/-! ### Machines stay as they should be -/

theorem entX_at {fl : List UInt8} {c : List tFetched.den} (h : cacheOk fl c) (pc : Int) : cacheOk fl (cacheX fl pc c) := by
  unfold cacheX
  cases (band .i64 pc 1 != 0 || decide (pc ≥ lenI fl))
  · cases (List.getD c (pc / 2).toNat dfF).2.2.1
    · refine ⟨by simp only [cond_false, List.length_set]; exact h.1, fun k hk hn => ?_⟩
      simp only [cond_false, List.length_set] at hk hn ⊢
      rw [List.getD_eq_getElem?_getD, List.getElem?_set] at hn ⊢
      split at hn
      · rename_i e
        subst e
        rw [if_pos rfl]
        split
        · rfl
        · omega
      · rename_i e
        rw [if_neg e]
        have := h.2 k hk
        rw [List.getD_eq_getElem?_getD] at this
        exact this hn
    · exact h
  · exact h

theorem wn_word (n : Int) : 0 ≤ ((wn n : Nat) : Int) ∧ ((wn n : Nat) : Int) < 4294967296 := ⟨by omega, by have := wn_lt n; omega⟩
theorem step_pcw (st : tState.den) (i : tIns.den) (ld : Int) : ∃ m : Int, (show Int from (V_cpu_Step (st, i, ld)).1.2.1) = ((wn m : Nat) : Int) := by
  obtain ⟨op, rd, rn, rm, ra, imm, cond, w, u⟩ := i
  show ∃ m : Int, (show Int from (stepV _ st op rd rn rm ra imm cond w ld).1.2.1) = ((wn m : Nat) : Int)
  unfold stepV
  cases (V_thumb_Check (op, rd, rn, rm, ra, imm, cond, w, u) != 0 || op == 2)
  · exact ⟨_, rfl⟩
  · exact ⟨_, rfl⟩
theorem step_pc (st : tState.den) (i : tIns.den) (ld : Int) : 0 ≤ (show Int from (V_cpu_Step (st, i, ld)).1.2.1) ∧ (show Int from (V_cpu_Step (st, i, ld)).1.2.1) < 4294967296 := by
  obtain ⟨m, hm⟩ := step_pcw st i ld
  rw [hm]
  exact wn_word m

/-- What is known of a step's outcome. -/
theorem actX_wf (hd : tHead.den) (st : tState.den) (i : tIns.den) (mem : MemT) (hm : MemWf mem) (hr : List.length st.1 = 15) (hh : 0 ≤ (show Int from hd.2.1) ∧ (show Int from hd.2.1) < 4294967296) :
    List.length (actX hd st i mem).2.1.1 = 15 ∧ (0 ≤ (show Int from (actX hd st i mem).2.1.2.1) ∧ (show Int from (actX hd st i mem).2.1.2.1) < 4294967296) ∧ MemWf (actX hd st i mem).2.2.2 ∧ (actX hd st i mem).2.2.2.1 = mem.1 ∧ 0 ≤ (show Int from (actX hd st i mem).1.2.2.2.1) ∧ (show Int from (actX hd st i mem).1.2.2.2.1) ≤ 12 := by
  have hcy : 0 ≤ (show Int from V_cpu_Cycles (st, i)) ∧ (show Int from V_cpu_Cycles (st, i)) ≤ 12 := by
    obtain ⟨op, rd, rn, rm, ra, imm, cond, w, u⟩ := i
    show 0 ≤ cyclesV _ st op cond ∧ cyclesV _ st op cond ≤ 12
    unfold cyclesV
    cases (V_thumb_Check (op, rd, rn, rm, ra, imm, cond, w, u) != 0)
    · cases (op == 19 || (op == 20 || (op == 21 || op == 22)))
      · cases (op == 17)
        · cases goesV st op cond <;> simp
        · simp
      · simp
    · simp
  have fin : ∀ m ld ad, MemWf m → m.1 = mem.1 → List.length (finX st i m ld ad).2.1.1 = 15 ∧ (0 ≤ (show Int from (finX st i m ld ad).2.1.2.1) ∧ (show Int from (finX st i m ld ad).2.1.2.1) < 4294967296) ∧ MemWf (finX st i m ld ad).2.2.2 ∧ (finX st i m ld ad).2.2.2.1 = mem.1 ∧ 0 ≤ (show Int from (finX st i m ld ad).1.2.2.2.1) ∧ (show Int from (finX st i m ld ad).1.2.2.2.1) ≤ 12 :=
    fun m ld ad h1 h2 => ⟨step_len st i ld hr, step_pc st i ld, h1, h2, hcy.1, hcy.2⟩
  have trap : ∀ m ad, MemWf m → m.1 = mem.1 → List.length (trapX hd st m ad).2.1.1 = 15 ∧ (0 ≤ (show Int from (trapX hd st m ad).2.1.2.1) ∧ (show Int from (trapX hd st m ad).2.1.2.1) < 4294967296) ∧ MemWf (trapX hd st m ad).2.2.2 ∧ (trapX hd st m ad).2.2.2.1 = mem.1 ∧ 0 ≤ (show Int from (trapX hd st m ad).1.2.2.2.1) ∧ (show Int from (trapX hd st m ad).1.2.2.2.1) ≤ 12 :=
    fun m ad h1 h2 => ⟨hr, hh, h1, h2, by show (0 : Int) ≤ 12; decide, by show (12 : Int) ≤ 12; decide⟩
  unfold actX
  cases (V_cpu_Access (st, i)).2.1
  · exact fin _ _ _ hm rfl
  · cases (V_cpu_Access (st, i)).1.2.2.2.1
    · cases ((loadM mem (V_cpu_Access (st, i)).1.1 (V_cpu_Access (st, i)).1.2.1).2.1 != (0 : Int))
      · exact fin _ _ _ hm rfl
      · exact trap _ _ hm rfl
    · have hs := store_wf hm (V_cpu_Access (st, i)).1.1 (V_cpu_Access (st, i)).1.2.1 (V_cpu_Access (st, i)).1.2.2.1
      cases ((storeM mem (V_cpu_Access (st, i)).1.1 (V_cpu_Access (st, i)).1.2.1 (V_cpu_Access (st, i)).1.2.2.1).1 != (0 : Int))
      · exact fin _ _ _ hs.1 hs.2
      · exact trap _ _ hs.1 hs.2

theorem stepMX_wf (hd : tHead.den) (fl : List UInt8) (st : tState.den) (mem : MemT) (f : tFault.den) (hm : MemWf mem) (hr : List.length st.1 = 15) (hh : 0 ≤ (show Int from hd.2.1) ∧ (show Int from hd.2.1) < 4294967296) :
    List.length (stepMX hd fl st mem f).2.1.1 = 15 ∧ (0 ≤ (show Int from (stepMX hd fl st mem f).2.1.2.1) ∧ (show Int from (stepMX hd fl st mem f).2.1.2.1) < 4294967296) ∧ MemWf (stepMX hd fl st mem f).2.2.2 ∧ (stepMX hd fl st mem f).2.2.2.1 = mem.1 ∧ 0 ≤ (show Int from (stepMX hd fl st mem f).1.2.2.2.1) ∧ (show Int from (stepMX hd fl st mem f).1.2.2.2.1) ≤ 12 := by
  unfold stepMX turnX
  have hl := hitS_len st (faultX f) hr
  cases fetchX fl (V_hitS st (faultX f)).2.1 with
  | none => exact ⟨hl, hh, hm, rfl, by show (0 : Int) ≤ 12; decide, by show (12 : Int) ≤ 12; decide⟩
  | some p =>
    simp only
    cases ((faultX f).1 == (1 : Int))
    · exact actX_wf hd _ p.1 mem hm hl hh
    · exact ⟨hl, wn_word _, hm, rfl, by show (0 : Int) ≤ 1; decide, by show (1 : Int) ≤ 12; decide⟩

theorem step_MachWf {y : MS} (h : MachWf y) (f : tFault.den) : MachWf (packX y.1.1 y.1.2.1 y.1.2.2.2.2.2.1 (cacheX y.1.2.1 y.1.2.2.2.1.2.1 y.2.2.1) (stepMX y.1.1 y.1.2.1 y.1.2.2.2.1 (y.2.1, y.2.2.2) f)).2 := by
  obtain ⟨h1, h2, h3, h4, _⟩ := stepMX_wf y.1.1 y.1.2.1 y.1.2.2.2.1 (y.2.1, y.2.2.2) f h.mem h.regs h.hand
  exact ⟨h3, h1, h2, h.hand, h.len, h.win, entX_at h.cache _⟩

/-! ### Runs -/

/-- What a run turns: the state, whether it is done, the memory. -/
abbrev RunS : Type := tState.den × Bool × MemT
abbrev noFault : tFault.den := (0, 0, 0, 0, ())
def nowX (f : tFault.den) (k : Int) : tFault.den := bif f.2.1 == k then f else noFault
/-- Steps till the machine is done, or has made as many: their events, how many began at the handler, what is left. -/
def goX (hd : tHead.den) (fl : List UInt8) (f : tFault.den) : Nat → Int → RunS → List tEvent.den × Int × RunS
  | 0, _, s => ([], 0, s)
  | n + 1, k, s => bif s.2.1 then ([], 0, s) else
      ((stepMX hd fl s.1 s.2.2 (nowX f k)).1 :: (goX hd fl f n (k + 1) (stepMX hd fl s.1 s.2.2 (nowX f k)).2).1,
        (bif s.1.2.1 == hd.2.1 then 1 else 0) + (goX hd fl f n (k + 1) (stepMX hd fl s.1 s.2.2 (nowX f k)).2).2.1,
        (goX hd fl f n (k + 1) (stepMX hd fl s.1 s.2.2 (nowX f k)).2).2.2)
/-- The cache behind such a run. -/
def cgoX (hd : tHead.den) (fl : List UInt8) (f : tFault.den) : Nat → Int → RunS → List tFetched.den → List tFetched.den
  | 0, _, _, c => c
  | n + 1, k, s, c => bif s.2.1 then c else cgoX hd fl f n (k + 1) (stepMX hd fl s.1 s.2.2 (nowX f k)).2 (cacheX fl s.1.2.1 c)
def cycX : List tEvent.den → Int
  | [] => 0
  | v :: l => v.2.2.2.1 + cycX l
def runSof (y : MS) : RunS := (y.1.2.2.2.1, y.1.2.2.2.2.1, (y.2.1, y.2.2.2))
abbrev withRun (y : MS) (s : RunS) (c : List tFetched.den) : MS := ((y.1.1, y.1.2.1, (), s.1, s.2.1, y.1.2.2.2.2.2.1, ()), s.2.2.1, c, s.2.2.2)

def L_stepsR : LoopN where
  M := [0, 2, 3, 5, 8, 9]
  T := [10, 11, 12, 13, 14, 15, 16, 17, 18, 19, 20, 21, 22, 23, 24, 25, 26, 27, 28, 29, 30, 31, 32, 33, 34, 35, 36, 37, 38, 39, 40, 41, 42, 43, 44, 45, 46, 47, 48, 49, 50, 51, 52, 53, 54, 55, 56, 57, 58, 59, 60, 61, 62, 63, 64]
  D := [2, 3, 5]
  ss := [.box 0 0, .ty (.int .i64), .fn 23 (.ty .unit), .box 1 0, .box 2 0, .box 3 0]
  hs := [(shMachB 4 5), (.ty tFault), (.ty tResult), (.ty tResult), (shMemB 6), .rowc tFetched, .rowc (.int .u8)]
  es := [.exit 0]
  σ := (Sh.den ((shMachB 4 5))) × (Sh.den ((.ty tFault))) × (Sh.den ((.ty tResult))) × (Sh.den ((.ty tResult))) × (Sh.den ((shMemB 6))) × (Sh.den (.rowc tFetched)) × (Sh.den (.rowc (.int .u8)))
  x0 := fun _ y => (y.1, y.2.1, y.2.2.1, y.2.2.2.1, y.2.2.2.2.1, y.2.2.2.2.2.1, y.2.2.2.2.2.2)
  put := fun x _ s => ((x.1, x.2.1, x.2.2.1, x.2.2.2.1, x.2.2.2.2.1, x.2.2.2.2.2), (s.1, s.2.1, s.2.2.1, s.2.2.2.1, s.2.2.2.2.1, s.2.2.2.2.2.1, s.2.2.2.2.2.2))
  fuel := fun x _ => Int.toNat x.2.1+1
  turn := fun x _ s =>
  (.ite (!s.1.2.2.2.2.1 && decide (s.2.2.2.1.2.1 < x.2.1))
   (.ite (s.1.2.2.2.1.2.1 == s.1.1.2.1)
    (.ite (s.2.1.2.1 == s.2.2.2.1.2.1)
     (.ite (G_machine_Machine_Step ((), s.2.1) ((s.1.1, s.1.2.1, (), s.1.2.2.2), s.2.2.2.2))
      (.ret (.on (((V_machine_Machine_Step ((), s.2.1) ((s.1.1, s.1.2.1, (), s.1.2.2.2), s.2.2.2.2)).2.1.1, (V_machine_Machine_Step ((), s.2.1) ((s.1.1, s.1.2.1, (), s.1.2.2.2), s.2.2.2.2)).2.1.2.1, (), (V_machine_Machine_Step ((), s.2.1) ((s.1.1, s.1.2.1, (), s.1.2.2.2), s.2.2.2.2)).2.1.2.2.2), s.2.1, s.2.2.1, (s.2.2.2.1.1, w64 (s.2.2.2.1.2.1 + 1), w64 (s.2.2.2.1.2.2.1 + (V_machine_Machine_Step ((), s.2.1) ((s.1.1, s.1.2.1, (), s.1.2.2.2), s.2.2.2.2)).1.1.2.2.2.1), w64 (s.2.2.2.1.2.2.2.1 + 1), s.2.2.2.1.2.2.2.2), (V_machine_Machine_Step ((), s.2.1) ((s.1.1, s.1.2.1, (), s.1.2.2.2), s.2.2.2.2)).2.2.1, (V_machine_Machine_Step ((), s.2.1) ((s.1.1, s.1.2.1, (), s.1.2.2.2), s.2.2.2.2)).2.2.2.1, (V_machine_Machine_Step ((), s.2.1) ((s.1.1, s.1.2.1, (), s.1.2.2.2), s.2.2.2.2)).2.2.2.2)))
      .fail)
     (.ite (G_machine_Machine_Step ((), 0, 0, 0, 0, ()) ((s.1.1, s.1.2.1, (), s.1.2.2.2), s.2.2.2.2))
      (.ret (.on (((V_machine_Machine_Step ((), 0, 0, 0, 0, ()) ((s.1.1, s.1.2.1, (), s.1.2.2.2), s.2.2.2.2)).2.1.1, (V_machine_Machine_Step ((), 0, 0, 0, 0, ()) ((s.1.1, s.1.2.1, (), s.1.2.2.2), s.2.2.2.2)).2.1.2.1, (), (V_machine_Machine_Step ((), 0, 0, 0, 0, ()) ((s.1.1, s.1.2.1, (), s.1.2.2.2), s.2.2.2.2)).2.1.2.2.2), s.2.1, s.2.2.1, (s.2.2.2.1.1, w64 (s.2.2.2.1.2.1 + 1), w64 (s.2.2.2.1.2.2.1 + (V_machine_Machine_Step ((), 0, 0, 0, 0, ()) ((s.1.1, s.1.2.1, (), s.1.2.2.2), s.2.2.2.2)).1.1.2.2.2.1), w64 (s.2.2.2.1.2.2.2.1 + 1), s.2.2.2.1.2.2.2.2), (V_machine_Machine_Step ((), 0, 0, 0, 0, ()) ((s.1.1, s.1.2.1, (), s.1.2.2.2), s.2.2.2.2)).2.2.1, (V_machine_Machine_Step ((), 0, 0, 0, 0, ()) ((s.1.1, s.1.2.1, (), s.1.2.2.2), s.2.2.2.2)).2.2.2.1, (V_machine_Machine_Step ((), 0, 0, 0, 0, ()) ((s.1.1, s.1.2.1, (), s.1.2.2.2), s.2.2.2.2)).2.2.2.2)))
      .fail))
    (.ite (s.2.1.2.1 == s.2.2.2.1.2.1)
     (.ite (G_machine_Machine_Step ((), s.2.1) ((s.1.1, s.1.2.1, (), s.1.2.2.2), s.2.2.2.2))
      (.ret (.on (((V_machine_Machine_Step ((), s.2.1) ((s.1.1, s.1.2.1, (), s.1.2.2.2), s.2.2.2.2)).2.1.1, (V_machine_Machine_Step ((), s.2.1) ((s.1.1, s.1.2.1, (), s.1.2.2.2), s.2.2.2.2)).2.1.2.1, (), (V_machine_Machine_Step ((), s.2.1) ((s.1.1, s.1.2.1, (), s.1.2.2.2), s.2.2.2.2)).2.1.2.2.2), s.2.1, s.2.2.1, (s.2.2.2.1.1, w64 (s.2.2.2.1.2.1 + 1), w64 (s.2.2.2.1.2.2.1 + (V_machine_Machine_Step ((), s.2.1) ((s.1.1, s.1.2.1, (), s.1.2.2.2), s.2.2.2.2)).1.1.2.2.2.1), s.2.2.2.1.2.2.2), (V_machine_Machine_Step ((), s.2.1) ((s.1.1, s.1.2.1, (), s.1.2.2.2), s.2.2.2.2)).2.2.1, (V_machine_Machine_Step ((), s.2.1) ((s.1.1, s.1.2.1, (), s.1.2.2.2), s.2.2.2.2)).2.2.2.1, (V_machine_Machine_Step ((), s.2.1) ((s.1.1, s.1.2.1, (), s.1.2.2.2), s.2.2.2.2)).2.2.2.2)))
      .fail)
     (.ite (G_machine_Machine_Step ((), 0, 0, 0, 0, ()) ((s.1.1, s.1.2.1, (), s.1.2.2.2), s.2.2.2.2))
      (.ret (.on (((V_machine_Machine_Step ((), 0, 0, 0, 0, ()) ((s.1.1, s.1.2.1, (), s.1.2.2.2), s.2.2.2.2)).2.1.1, (V_machine_Machine_Step ((), 0, 0, 0, 0, ()) ((s.1.1, s.1.2.1, (), s.1.2.2.2), s.2.2.2.2)).2.1.2.1, (), (V_machine_Machine_Step ((), 0, 0, 0, 0, ()) ((s.1.1, s.1.2.1, (), s.1.2.2.2), s.2.2.2.2)).2.1.2.2.2), s.2.1, s.2.2.1, (s.2.2.2.1.1, w64 (s.2.2.2.1.2.1 + 1), w64 (s.2.2.2.1.2.2.1 + (V_machine_Machine_Step ((), 0, 0, 0, 0, ()) ((s.1.1, s.1.2.1, (), s.1.2.2.2), s.2.2.2.2)).1.1.2.2.2.1), s.2.2.2.1.2.2.2), (V_machine_Machine_Step ((), 0, 0, 0, 0, ()) ((s.1.1, s.1.2.1, (), s.1.2.2.2), s.2.2.2.2)).2.2.1, (V_machine_Machine_Step ((), 0, 0, 0, 0, ()) ((s.1.1, s.1.2.1, (), s.1.2.2.2), s.2.2.2.2)).2.2.2.1, (V_machine_Machine_Step ((), 0, 0, 0, 0, ()) ((s.1.1, s.1.2.1, (), s.1.2.2.2), s.2.2.2.2)).2.2.2.2)))
      .fail)))
   (.ret (.out 0 (s.1, s.2.1, s.2.2.1, s.2.2.2.1, s.2.2.2.2.1, s.2.2.2.2.2.1, s.2.2.2.2.2.2))))
theorem end_eq {α β γ δ ε : Type} {A : α} {f : β} {r0 : ε} {hal : Bool} {rst : γ} {B : δ} {X1 Y1 X2 Y2 X3 Y3 : Int} (h1 : X1 = Y1) (h2 : X2 = Y2) (h3 : X3 = Y3) : some ((0 : Nat), A, f, r0, (hal, X1, X2, X3, rst), B) = some ((0 : Nat), A, f, r0, (hal, Y1, Y2, Y3, rst), B) := by
  subst h1 h2 h3
  rfl
/-- The loop of a run: k steps are made already. -/
theorem stepsR_from (f : tFault.den) (budget : Int) (hbud : budget ≤ 67108864) (r0 : tResult.den) (rst : Int × Int × List UInt8 × List UInt8 × List UInt8 × Unit) (hal : Bool) (x : shDens L_stepsR.ss) (hx : x.2.1 = budget) (y0 : shDens L_stepsR.hs) :
    ∀ (n k : Nat) (cyc hnd : Int) (y : MS), (k : Int) + n = budget → MachWf y → 0 ≤ cyc → cyc ≤ 12 * k → 0 ≤ hnd → hnd ≤ k →
      runL (L_stepsR.turn x y0) (n + 1) (y.1, f, r0, (hal, (k : Int), cyc, hnd, rst), y.2.1, y.2.2.1, y.2.2.2) =
        some (0, ((withRun y (goX y.1.1 y.1.2.1 f n k (runSof y)).2.2 (cgoX y.1.1 y.1.2.1 f n k (runSof y) y.2.2.1)).1, f, r0,
          (hal, (k : Int) + ((goX y.1.1 y.1.2.1 f n k (runSof y)).1.length : Int), cyc + cycX (goX y.1.1 y.1.2.1 f n k (runSof y)).1, hnd + (goX y.1.1 y.1.2.1 f n k (runSof y)).2.1, rst),
          (withRun y (goX y.1.1 y.1.2.1 f n k (runSof y)).2.2 (cgoX y.1.1 y.1.2.1 f n k (runSof y) y.2.2.1)).2)) := by
  intro n
  induction n with
  | zero =>
    intro k cyc hnd y hk hw _ _ _ _
    refine (runL_out ((val_no ?_).trans rfl)).trans ?_
    · show (!y.1.2.2.2.2.1 && decide ((k : Int) < x.2.1)) = false
      rw [hx, dec_false (show ¬ (k : Int) < budget by omega), Bool.and_false]
    · simp [goX, cgoX, cycX, runSof]
      rfl
  | succ n ih =>
    intro k cyc hnd y hk hw hc0 hc1 hh0 hh1
    cases hd : y.1.2.2.2.2.1 with
    | true =>
      refine (runL_out ((val_no ?_).trans rfl)).trans ?_
      · show (!y.1.2.2.2.2.1 && decide ((k : Int) < x.2.1)) = false
        rw [hd]; rfl
      · have hg : goX y.1.1 y.1.2.1 f (n + 1) k (runSof y) = ([], 0, runSof y) := by
          unfold goX
          rw [show (runSof y).2.1 = true from hd]
          rfl
        have hcg : cgoX y.1.1 y.1.2.1 f (n + 1) k (runSof y) y.2.2.1 = y.2.2.1 := by
          unfold cgoX
          rw [show (runSof y).2.1 = true from hd]
          rfl
        rw [hg, hcg]
        simp [cycX, runSof]
        rfl
    | false =>
      have hlt : (!y.1.2.2.2.2.1 && decide ((k : Int) < x.2.1)) = true := by
        rw [hx, hd, dec_true (show (k : Int) < budget by omega)]; rfl
      have hG : ∀ g, G_machine_Machine_Step ((), g) ((y.1.1, y.1.2.1, (), y.1.2.2.2), y.2) = true := fun g => decide_eq_true hw
      have hV : ∀ g, V_machine_Machine_Step ((), g) ((y.1.1, y.1.2.1, (), y.1.2.2.2), y.2) = packX y.1.1 y.1.2.1 y.1.2.2.2.2.2.1 (cacheX y.1.2.1 y.1.2.2.2.1.2.1 y.2.2.1) (stepMX y.1.1 y.1.2.1 y.1.2.2.2.1 (y.2.1, y.2.2.2) g) := fun g => by
        unfold V_machine_Machine_Step
        rw [show (((y.1.1, y.1.2.1, (), y.1.2.2.2), y.2) : MS).1.2.2.2.2.1 = false from hd]
        rfl
      obtain ⟨s1, s2, s3, s4, s5, s6⟩ := stepMX_wf y.1.1 y.1.2.1 y.1.2.2.2.1 (y.2.1, y.2.2.2) (nowX f k) hw.mem hw.regs hw.hand
      have hw' := step_MachWf hw (nowX f k)
      have hgo : goX y.1.1 y.1.2.1 f (n + 1) k (runSof y) = ((stepMX y.1.1 y.1.2.1 y.1.2.2.2.1 (y.2.1, y.2.2.2) (nowX f k)).1 :: (goX y.1.1 y.1.2.1 f n (k + 1) (stepMX y.1.1 y.1.2.1 y.1.2.2.2.1 (y.2.1, y.2.2.2) (nowX f k)).2).1,
          (bif y.1.2.2.2.1.2.1 == y.1.1.2.1 then 1 else 0) + (goX y.1.1 y.1.2.1 f n (k + 1) (stepMX y.1.1 y.1.2.1 y.1.2.2.2.1 (y.2.1, y.2.2.2) (nowX f k)).2).2.1,
          (goX y.1.1 y.1.2.1 f n (k + 1) (stepMX y.1.1 y.1.2.1 y.1.2.2.2.1 (y.2.1, y.2.2.2) (nowX f k)).2).2.2) := by
        rw [goX]
        rw [show (runSof y).2.1 = false from hd]
        rfl
      have hcg : cgoX y.1.1 y.1.2.1 f (n + 1) k (runSof y) y.2.2.1 = cgoX y.1.1 y.1.2.1 f n (k + 1) (stepMX y.1.1 y.1.2.1 y.1.2.2.2.1 (y.2.1, y.2.2.2) (nowX f k)).2 (cacheX y.1.2.1 y.1.2.2.2.1.2.1 y.2.2.1) := by
        rw [cgoX]
        rw [show (runSof y).2.1 = false from hd]
        rfl
      rw [hgo, hcg]
      have w1 : w64 ((k : Int) + 1) = ((k + 1 : Nat) : Int) := by rw [w64_id (by omega) (by omega)]; omega
      generalize hE : stepMX y.1.1 y.1.2.1 y.1.2.2.2.1 (y.2.1, y.2.2.2) (nowX f k) = E at *
      have b0 : (0 : Int) ≤ E.1.2.2.2.1 := s5
      have b1 : (12 : Int) ≥ E.1.2.2.2.1 := s6
      have b2 : (k : Int) ≤ 67108864 := by omega
      have b3 : cyc ≤ 805306368 := by omega
      have w2 : w64 (cyc + E.1.2.2.2.1) = cyc + E.1.2.2.2.1 := w64_id (by omega) (by omega)
      have w3 : w64 (hnd + 1) = hnd + 1 := w64_id (by omega) (by omega)
      obtain ⟨G1, hG1⟩ : ∃ G1, G1 = goX y.1.1 y.1.2.1 f n ((k : Int) + 1) E.2 := ⟨_, rfl⟩
      obtain ⟨C1, hC1⟩ : ∃ C1, C1 = cgoX y.1.1 y.1.2.1 f n ((k : Int) + 1) E.2 (cacheX y.1.2.1 y.1.2.2.2.1.2.1 y.2.2.1) := ⟨_, rfl⟩
      rw [← hG1, ← hC1]
      have fin : ∀ (b : Int), (b = 0 ∨ b = 1) → runL (L_stepsR.turn x y0) (n + 1) ((packX y.1.1 y.1.2.1 y.1.2.2.2.2.2.1 (cacheX y.1.2.1 y.1.2.2.2.1.2.1 y.2.2.1) E).2.1, f, r0, (hal, ((k + 1 : Nat) : Int), cyc + E.1.2.2.2.1, hnd + b, rst), (packX y.1.1 y.1.2.1 y.1.2.2.2.2.2.1 (cacheX y.1.2.1 y.1.2.2.2.1.2.1 y.2.2.1) E).2.2) = some (0, (withRun y G1.2.2 C1).1, f, r0, (hal, ((k + 1 : Nat) : Int) + ((G1.1.length : Nat) : Int), cyc + E.1.2.2.2.1 + cycX G1.1, hnd + b + G1.2.1, rst), (withRun y G1.2.2 C1).2) := fun b hb => by
        have := ih (k + 1) (cyc + E.1.2.2.2.1) (hnd + b) (packX y.1.1 y.1.2.1 y.1.2.2.2.2.2.1 (cacheX y.1.2.1 y.1.2.2.2.1.2.1 y.2.2.1) E).2 (by omega) hw' (by omega) (by omega) (by omega) (by omega)
        rw [hG1, hC1]
        exact this
      have hnow : nowX f k = (bif f.2.1 == (k : Int) then f else noFault) := rfl
      cases hb1 : (y.1.2.2.2.1.2.1 == y.1.1.2.1) with
      | true =>
        cases hb2 : (f.2.1 == (k : Int)) with
        | true =>
          rw [hb2] at hnow
          simp only [cond_true] at hnow
          rw [hnow] at hE
          refine (runL_on (s' := ((packX y.1.1 y.1.2.1 y.1.2.2.2.2.2.1 (cacheX y.1.2.1 y.1.2.2.2.1.2.1 y.2.2.1) E).2.1, f, r0, (hal, ((k + 1 : Nat) : Int), cyc + E.1.2.2.2.1, hnd + 1, rst), (packX y.1.1 y.1.2.1 y.1.2.2.2.2.2.1 (cacheX y.1.2.1 y.1.2.2.2.1.2.1 y.2.2.1) E).2.2)) ((val_yes hlt).trans ((val_yes hb1).trans ((val_yes hb2).trans ((val_yes (hG _)).trans (by rw [hV, hE, w1, w2, w3]; rfl)))))).trans ?_
          refine (fin 1 (.inr rfl)).trans ?_
          exact end_eq (by simp only [List.length_cons]; omega) (Int.add_assoc _ _ _) (Int.add_assoc _ _ _)
        | false =>
          rw [hb2] at hnow
          simp only [cond_false] at hnow
          rw [hnow] at hE
          refine (runL_on (s' := ((packX y.1.1 y.1.2.1 y.1.2.2.2.2.2.1 (cacheX y.1.2.1 y.1.2.2.2.1.2.1 y.2.2.1) E).2.1, f, r0, (hal, ((k + 1 : Nat) : Int), cyc + E.1.2.2.2.1, hnd + 1, rst), (packX y.1.1 y.1.2.1 y.1.2.2.2.2.2.1 (cacheX y.1.2.1 y.1.2.2.2.1.2.1 y.2.2.1) E).2.2)) ((val_yes hlt).trans ((val_yes hb1).trans ((val_no hb2).trans ((val_yes (hG _)).trans (by rw [hV, hE, w1, w2, w3]; rfl)))))).trans ?_
          refine (fin 1 (.inr rfl)).trans ?_
          exact end_eq (by simp only [List.length_cons]; omega) (Int.add_assoc _ _ _) (Int.add_assoc _ _ _)
      | false =>
        cases hb2 : (f.2.1 == (k : Int)) with
        | true =>
          rw [hb2] at hnow
          simp only [cond_true] at hnow
          rw [hnow] at hE
          refine (runL_on (s' := ((packX y.1.1 y.1.2.1 y.1.2.2.2.2.2.1 (cacheX y.1.2.1 y.1.2.2.2.1.2.1 y.2.2.1) E).2.1, f, r0, (hal, ((k + 1 : Nat) : Int), cyc + E.1.2.2.2.1, hnd + 0, rst), (packX y.1.1 y.1.2.1 y.1.2.2.2.2.2.1 (cacheX y.1.2.1 y.1.2.2.2.1.2.1 y.2.2.1) E).2.2)) ((val_yes hlt).trans ((val_no hb1).trans ((val_yes hb2).trans ((val_yes (hG _)).trans (by rw [hV, hE, w1, w2]; simp only [Int.add_zero]; rfl)))))).trans ?_
          refine (fin 0 (.inl rfl)).trans ?_
          exact end_eq (by simp only [List.length_cons]; omega) (Int.add_assoc _ _ _) (Int.add_assoc _ _ _)
        | false =>
          rw [hb2] at hnow
          simp only [cond_false] at hnow
          rw [hnow] at hE
          refine (runL_on (s' := ((packX y.1.1 y.1.2.1 y.1.2.2.2.2.2.1 (cacheX y.1.2.1 y.1.2.2.2.1.2.1 y.2.2.1) E).2.1, f, r0, (hal, ((k + 1 : Nat) : Int), cyc + E.1.2.2.2.1, hnd + 0, rst), (packX y.1.1 y.1.2.1 y.1.2.2.2.2.2.1 (cacheX y.1.2.1 y.1.2.2.2.1.2.1 y.2.2.1) E).2.2)) ((val_yes hlt).trans ((val_no hb1).trans ((val_no hb2).trans ((val_yes (hG _)).trans (by rw [hV, hE, w1, w2]; simp only [Int.add_zero]; rfl)))))).trans ?_
          refine (fin 0 (.inl rfl)).trans ?_
          exact end_eq (by simp only [List.length_cons]; omega) (Int.add_assoc _ _ _) (Int.add_assoc _ _ _)
/-- (*machine.Machine).steps -/
abbrev SS_machine_Machine_steps : List Sh := [.box 0 0, .ty tFault, .ty (.int .i64), .fn 23 (.ty .unit)]
abbrev HS_machine_Machine_steps : List Sh := [shMach, shMemB 3, .rowc tFetched, .rowc (.int .u8)]
abbrev S_machine_Machine_steps : Sh := Sh.ty tResult
abbrev HT_machine_Machine_steps : List Sh := [Sh.pair (Sh.ty (Ty.pair (Ty.int IntKind.i64) (Ty.pair (Ty.int IntKind.i64) (Ty.pair tSizes (Ty.pair (Ty.int IntKind.i64) Ty.unit))))) (Sh.pair (Sh.ty Ty.str) (Sh.pair (Sh.box 1 0) (Sh.pair (Sh.ty tState) (Sh.pair (Sh.ty Ty.bool) (Sh.pair (Sh.win 2 (Ty.pair tIns (Ty.pair (Ty.int IntKind.i64) (Ty.pair Ty.bool (Ty.pair Ty.bool Ty.unit))))) (Sh.ty Ty.unit)))))), Sh.pair (Sh.ty (Ty.sl tSpot)) (Sh.pair (Sh.wsl none 3 (Ty.int IntKind.u8)) (Sh.ty Ty.unit)), Sh.rowc (Ty.pair tIns (Ty.pair (Ty.int IntKind.i64) (Ty.pair Ty.bool (Ty.pair Ty.bool Ty.unit)))), Sh.rowc (Ty.int IntKind.u8)]
def T_machine_Machine_steps (x : shDens SS_machine_Machine_steps) (y : shDens HS_machine_Machine_steps) : PO (Sh.den S_machine_Machine_steps × shDens HT_machine_Machine_steps) :=
  (.opt (LoopN.res L_stepsR ((), x.2.2.1, x.2.2.2, (), (), ()) ((y.1.1, y.1.2.1, (), y.1.2.2.2), x.2.1, (false, 0, 0, 0, 0, 0, [], [], [], ()), (false, 0, 0, 0, 0, 0, [], [], [], ()), y.2)) fun p0 =>
   (.ret ((p0.2.1.2.2.2.2.1, p0.2.2.2.2.1.2), ((p0.2.1.1, p0.2.1.2.1, (), p0.2.1.2.2.2), p0.2.2.2.2.2.1, p0.2.2.2.2.2.2.1, p0.2.2.2.2.2.2.2))))
def G_machine_Machine_steps (x : shDens SS_machine_Machine_steps) (y : shDens HS_machine_Machine_steps) : Bool := decide (MachWf y ∧ (show Int from x.2.2.1) ≤ 67108864)
/-- What a run's steps leave: their result, so far. -/
def V_stepsRes (x : tFault.den × Int) (y : MS) : tResult.den := ((goX y.1.1 y.1.2.1 x.1 x.2.toNat 0 (runSof y)).2.2.2.1, ((goX y.1.1 y.1.2.1 x.1 x.2.toNat 0 (runSof y)).1.length : Int), cycX (goX y.1.1 y.1.2.1 x.1 x.2.toNat 0 (runSof y)).1, (goX y.1.1 y.1.2.1 x.1 x.2.toNat 0 (runSof y)).2.1, 0, 0, [], [], [], ())
def V_stepsEnd (x : tFault.den × Int) (y : MS) : MS := withRun y (goX y.1.1 y.1.2.1 x.1 x.2.toNat 0 (runSof y)).2.2 (cgoX y.1.1 y.1.2.1 x.1 x.2.toNat 0 (runSof y) y.2.2.1)
abbrev V_machine_Machine_steps (x : shDens SS_machine_Machine_steps) (y : shDens HS_machine_Machine_steps) : Sh.den S_machine_Machine_steps × shDens HT_machine_Machine_steps := (V_stepsRes (x.2.1, x.2.2.1) y, V_stepsEnd (x.2.1, x.2.2.1) y)
theorem ok_machine_Machine_steps (x : shDens SS_machine_Machine_steps) (y : shDens HS_machine_Machine_steps) (h : G_machine_Machine_steps x y = true) : (T_machine_Machine_steps x y).val = some (V_machine_Machine_steps x y) := by
  obtain ⟨hw, hb⟩ := of_decide_eq_true h
  obtain ⟨u, f, budget, u'⟩ := x
  have hb : budget ≤ 67108864 := hb
  unfold T_machine_Machine_steps
  have key : LoopN.res L_stepsR ((), budget, u', (), (), ()) ((y.1.1, y.1.2.1, (), y.1.2.2.2), f, (false, 0, 0, 0, 0, 0, [], [], [], ()), (false, 0, 0, 0, 0, 0, [], [], [], ()), y.2) =
      some (0, (V_stepsEnd (f, budget) y).1, f, (false, 0, 0, 0, 0, 0, [], [], [], ()), (false, ((goX y.1.1 y.1.2.1 f budget.toNat 0 (runSof y)).1.length : Int), cycX (goX y.1.1 y.1.2.1 f budget.toNat 0 (runSof y)).1, (goX y.1.1 y.1.2.1 f budget.toNat 0 (runSof y)).2.1, 0, 0, [], [], [], ()), (V_stepsEnd (f, budget) y).2) := by
    rcases Int.lt_or_le budget 0 with h0 | h0
    · unfold LoopN.res
      have e : budget.toNat = 0 := by omega
      show runL _ (budget.toNat + 1) _ = _
      unfold V_stepsEnd
      rw [e]
      refine (runL_out ((val_no ?_).trans rfl)).trans rfl
      show (!y.1.2.2.2.2.1 && decide ((0 : Int) < budget)) = false
      rw [dec_false (show ¬ (0 : Int) < budget by omega), Bool.and_false]
    · have := stepsR_from f budget hb (false, 0, 0, 0, 0, 0, [], [], [], ()) (0, 0, [], [], [], ()) false ((), budget, u', (), (), ()) rfl ((y.1.1, y.1.2.1, (), y.1.2.2.2), f, (false, 0, 0, 0, 0, 0, [], [], [], ()), (false, 0, 0, 0, 0, 0, [], [], [], ()), y.2) budget.toNat 0 0 0 y (by omega) hw (by omega) (by omega) (by omega) (by omega)
      unfold LoopN.res
      refine Eq.trans ?_ (this.trans (end_eq (Int.zero_add _) (Int.zero_add _) (Int.zero_add _)))
      rfl
  exact (val_opt key).trans rfl
end Go.Av
end
/-! Layer 6: images. -/
section
namespace Go.Av
open Go
/-- word.Of -/
abbrev A_word_Of : List Ty := [.str]
abbrev S_word_Of : Sh := Sh.tup (Sh.pair (Sh.ty (Ty.int IntKind.i64)) (Sh.pair (Sh.ty Ty.bool) (Sh.ty Ty.unit)))
def T_word_Of (x : dens A_word_Of) : PO (Sh.den S_word_Of) :=
  (.ite (lenI x != 4)
   (.ret ((0, false, ())))
   (.ite (inRange 0 (List.length x) && true)
    (.ite (inRange 1 (List.length x) && true)
     (.ite (inRange 2 (List.length x) && true)
      (.ite (inRange 3 (List.length x) && true)
       (.ret ((bor IntKind.i64 (bor IntKind.i64 (bor IntKind.i64 (bor IntKind.i64 0 (ishl IntKind.i64 (w64 (u8I (List.getD x (Int.toNat 0) 0))) 0)) (ishl IntKind.i64 (w64 (u8I (List.getD x (Int.toNat 1) 0))) 8)) (ishl IntKind.i64 (w64 (u8I (List.getD x (Int.toNat 2) 0))) 16)) (ishl IntKind.i64 (w64 (u8I (List.getD x (Int.toNat 3) 0))) 24), true, ())))
       .fail)
      .fail)
     .fail)
    .fail))
def G_word_Of (x : dens A_word_Of) : Bool := (T_word_Of x).val.isSome
def V_word_Of (x : dens A_word_Of) : Sh.den S_word_Of := (T_word_Of x).getO default
theorem ok_word_Of (x : dens A_word_Of) (h : G_word_Of x = true) : (T_word_Of x).val = some (V_word_Of x) := PO.getO_ok default h
/-- image.place -/
abbrev A_image_place : List Ty := [(.int .i64), (.int .i64)]
abbrev S_image_place : Sh := Sh.ty Ty.bool
def T_image_place (x : dens A_image_place) : PO (Sh.den S_image_place) :=
  (.ret (decide (x.1 ≥ 64) && (decide (x.1 < x.2) && band IntKind.i64 x.1 1 == 0)))
def G_image_place (_ : dens A_image_place) : Bool := true
def V_image_place (x : dens A_image_place) : Sh.den S_image_place := (T_image_place x).getO default
theorem ok_image_place (x : dens A_image_place) (_ : G_image_place x = true) : (T_image_place x).val = some (V_image_place x) := PO.sure_ok default (by simp [T_image_place, PO.sure])
/-- image.at -/
abbrev A_image_at : List Ty := [.str, (.int .i64)]
abbrev S_image_at : Sh := Sh.ty (Ty.int IntKind.i64)
def T_image_at (x : dens A_image_at) : PO (Sh.den S_image_at) :=
  (.ite (decide (0 ≤ w64 (w64 (4 * x.2) + 4)) && decide (w64 (w64 (4 * x.2) + 4) ≤ lenI x.1) && decide (0 ≤ w64 (4 * x.2)) && decide (w64 (4 * x.2) ≤ w64 (w64 (4 * x.2) + 4)) && G_word_Of (List.drop (Int.toNat (w64 (4 * x.2))) (List.take (Int.toNat (w64 (w64 (4 * x.2) + 4))) x.1)))
   (.ret ((V_word_Of (List.drop (Int.toNat (w64 (4 * x.2))) (List.take (Int.toNat (w64 (w64 (4 * x.2) + 4))) x.1))).1))
   .fail)
def G_image_at (x : dens A_image_at) : Bool := (T_image_at x).val.isSome
def V_image_at (x : dens A_image_at) : Sh.den S_image_at := (T_image_at x).getO default
theorem ok_image_at (x : dens A_image_at) (h : G_image_at x = true) : (T_image_at x).val = some (V_image_at x) := PO.getO_ok default h
/-- image.check -/
abbrev A_image_check : List Ty := [tHead, (.int .i64)]
abbrev S_image_check : Sh := Sh.ty (Ty.int IntKind.i64)
def T_image_check (x : dens A_image_check) : PO (Sh.den S_image_check) :=
  (.ite (V_memmap_Check (x.1.2.2.1, x.2) != 0)
   (.ret (V_memmap_Check (x.1.2.2.1, x.2)))
   (.ite (decide (x.1.2.2.2.1 < 0) || (decide (x.1.2.2.2.1 ≥ 3) || (!V_image_place (x.1.1, x.2) || true)))
    (.ite (decide (x.1.2.2.2.1 < 0) || (decide (x.1.2.2.2.1 ≥ 3) || (!V_image_place (x.1.1, x.2) || !V_image_place (x.1.2.1, x.2))))
     (.ret (2))
     (.ret (0)))
    .fail))
def G_image_check (_ : dens A_image_check) : Bool := true
def V_image_check (x : dens A_image_check) : Sh.den S_image_check := (T_image_check x).getO default
theorem ok_image_check (x : dens A_image_check) (_ : G_image_check x = true) : (T_image_check x).val = some (V_image_check x) := PO.tots_ok default (by simp [T_image_check, PO.tots])
/-- image.front -/
abbrev A_image_front : List Ty := [tHead]
abbrev S_image_front : Sh := Sh.ty (Ty.arr 16 (Ty.int IntKind.i64))
def T_image_front (x : dens A_image_front) : PO (Sh.den S_image_front) :=
  (.ret (List.set (List.set (List.set (List.set (List.set (List.set (List.set (List.set (List.set (List.set (List.set (List.set (List.set (List.set (List.set (List.set (List.set (List.set (List.set (List.set (List.set (List.set [0, 0, 0, 0, 0, 0, 0, 0, 0, 0, 0, 0, 0, 0, 0, 0] (Int.toNat 0) (bor IntKind.i64 x.2.1 1)) (Int.toNat 1) (bor IntKind.i64 x.2.1 1)) (Int.toNat 2) (bor IntKind.i64 x.2.1 1)) (Int.toNat 3) (bor IntKind.i64 x.2.1 1)) (Int.toNat 4) (bor IntKind.i64 x.2.1 1)) (Int.toNat 5) (bor IntKind.i64 x.2.1 1)) (Int.toNat 6) (bor IntKind.i64 x.2.1 1)) (Int.toNat 7) (bor IntKind.i64 x.2.1 1)) (Int.toNat 8) (bor IntKind.i64 x.2.1 1)) (Int.toNat 9) (bor IntKind.i64 x.2.1 1)) (Int.toNat 10) (bor IntKind.i64 x.2.1 1)) (Int.toNat 11) (bor IntKind.i64 x.2.1 1)) (Int.toNat 12) (bor IntKind.i64 x.2.1 1)) (Int.toNat 13) (bor IntKind.i64 x.2.1 1)) (Int.toNat 14) (bor IntKind.i64 x.2.1 1)) (Int.toNat 15) (bor IntKind.i64 x.2.1 1)) 0 537133056) 1 (bor IntKind.i64 x.1 1)) 7 x.2.2.1.1) 8 x.2.2.1.2.1) 9 x.2.2.1.2.2.1) 10 x.2.2.2.1))
def G_image_front (_ : dens A_image_front) : Bool := true
def V_image_front (x : dens A_image_front) : Sh.den S_image_front := (T_image_front x).getO default
theorem ok_image_front (x : dens A_image_front) (_ : G_image_front x = true) : (T_image_front x).val = some (V_image_front x) := PO.sure_ok default (by simp [T_image_front, PO.sure])
def L_image_Parse_7 : LoopN where
  M := [0, 2, 3, 4, 34, 35]
  T := [5, 6, 36, 37, 38, 39, 40, 41, 42, 43, 44, 45]
  D := [0, 34, 35]
  ss := [.ty .str, .box 0 0, .ty (.int .i64), .box 1 0, .ty (.arr 16 (.int .i64)), .ty (.int .i64)]
  hs := [(.ty tHead), (.ty tHead)]
  es := [.exit 0, .ret]
  σ := (Ty.den (.int .i64)) × (Ty.den (.int .i64)) × (Sh.den ((.ty tHead))) × (Sh.den ((.ty tHead)))
  x0 := fun x y => (x.2.2.1, x.2.2.2.2.2, y.1, y.2)
  put := fun x _ s => ((x.1, x.2.1, s.1, x.2.2.2.1, x.2.2.2.2.1, s.2.1), (s.2.2.1, s.2.2.2))
  fuel := fun _ _ => 17
  turn := fun x _ s =>
  (.ite (decide (s.2.1 < 16))
   (.ite (inRange s.2.1 16)
    (.ite (G_image_at (x.1, s.2.1))
     (.ite (V_image_at (x.1, s.2.1) != List.getD x.2.2.2.2.1 (Int.toNat s.2.1) (Ty.dflt (Ty.int IntKind.i64)))
      (.ret (.out 1 (4, s.2.1, (0, 0, (0, 0, 0, ()), 0, ()), s.2.2.2)))
      (.ret (.on (s.1, w64 (s.2.1 + 1), s.2.2.1, s.2.2.2))))
     .fail)
    .fail)
   (.ret (.out 0 (s.1, s.2.1, s.2.2.1, s.2.2.2))))
theorem of_total (s : List UInt8) : G_word_Of s = true := by
  unfold G_word_Of T_word_Of
  cases h : (lenI s != 4)
  · have hl : List.length s = 4 := by
      simp only [lenI, bne_eq_false_iff_eq] at h
      omega
    rw [val_no rfl, val_yes (by rw [show (0 : Int) = ((0 : Nat) : Int) from rfl, inR (by omega)]; rfl), val_yes (by rw [show (1 : Int) = ((1 : Nat) : Int) from rfl, inR (by omega)]; rfl), val_yes (by rw [show (2 : Int) = ((2 : Nat) : Int) from rfl, inR (by omega)]; rfl), val_yes (by rw [show (3 : Int) = ((3 : Nat) : Int) from rfl, inR (by omega)]; rfl)]
    rfl
  · rw [val_yes rfl]
    rfl
theorem at_total (s : List UInt8) (k : Nat) (hk : k < 16) (hs : 64 ≤ s.length) : G_image_at (s, (k : Int)) = true := by
  unfold G_image_at T_image_at
  have e1 : w64 (4 * (k : Int)) = 4 * (k : Int) := w64_id (by omega) (by omega)
  have e2 : w64 (4 * (k : Int) + 4) = 4 * (k : Int) + 4 := w64_id (by omega) (by omega)
  rw [val_yes (by
    dsimp only
    rw [e1, e2, of_total]
    simp only [lenI, Bool.and_eq_true, decide_eq_true_eq, Bool.and_true]
    exact ⟨⟨⟨by omega, by omega⟩, by omega⟩, by omega⟩)]
  rfl

/-- What an image says of itself. -/
def headX (s : List UInt8) : tHead.den := (w64 (V_image_at (s, 1) - 1), w64 (V_image_at (s, 3) - 1), (V_image_at (s, 7), V_image_at (s, 8), V_image_at (s, 9), ()), V_image_at (s, 10), ())
abbrev noHead : tHead.den := (0, 0, (0, 0, 0, ()), 0, ())
def wordIs (s : List UInt8) (fr : List Int) (i : Nat) : Bool := !(V_image_at (s, (i : Int)) != List.getD fr (Int.toNat (i : Int)) (Ty.dflt (Ty.int IntKind.i64)))
def parseX (s : List UInt8) : tHead.den × Int × Unit :=
  bif decide (lenI s < 64) then (noHead, 3, ())
  else bif V_image_check (headX s, lenI s) != 0 then (noHead, 4, ())
  else bif (List.range' 0 16).all (wordIs s (V_image_front (headX s))) then (headX s, 0, ()) else (noHead, 4, ())

theorem parse7 (s : List UInt8) (fr : List Int) (h z : tHead.den) (hs : 64 ≤ s.length) : ∀ (n i : Nat), i + n = 16 → ∃ j : Int,
    runL (L_image_Parse_7.turn (s, (), 0, (), fr, 0) (z, h)) (n + 1) (0, (i : Int), z, h) = some (bif (List.range' i n).all (wordIs s fr) then (0, (0, 16, z, h)) else (1, (4, j, noHead, h)))
  | 0, i, hi => ⟨0, (runL_out ((val_no (dec_false (show ¬ (i : Int) < 16 by omega))).trans rfl)).trans (by
      have : i = 16 := by omega
      subst this
      rfl)⟩
  | n + 1, i, hi => by
    have hlt : decide ((i : Int) < 16) = true := dec_true (by omega)
    have hin : inRange (i : Int) 16 = true := inR (by omega)
    have hg := at_total s i (by omega) hs
    cases hw : wordIs s fr i with
    | true =>
      obtain ⟨j, hj⟩ := parse7 s fr h z hs n (i + 1) (by omega)
      refine ⟨j, (runL_on (s' := (0, ((i + 1 : Nat) : Int), z, h)) ((val_yes hlt).trans ((val_yes hin).trans ((val_yes hg).trans ((val_no ?_).trans ?_))))).trans (hj.trans ?_)⟩
      · unfold wordIs at hw
        exact Bool.not_eq_true' _ |>.mp hw
      · show some (TL.on (0, w64 ((i : Int) + 1), z, h)) = _
        rw [w64_id (by omega) (by omega)]
        rfl
      · rw [List.range'_succ, List.all_cons, hw, Bool.true_and]
    | false =>
      refine ⟨i, (runL_out ((val_yes hlt).trans ((val_yes hin).trans ((val_yes hg).trans ((val_yes ?_).trans rfl))))).trans ?_⟩
      · unfold wordIs at hw
        exact Bool.not_eq_false' _ |>.mp hw
      · rw [List.range'_succ, List.all_cons, hw, Bool.false_and]
        rfl
/-- image.Parse -/
abbrev A_image_Parse : List Ty := [.str]
abbrev S_image_Parse : Sh := Sh.tup (Sh.pair (Sh.ty (Ty.pair (Ty.int IntKind.i64) (Ty.pair (Ty.int IntKind.i64) (Ty.pair tSizes (Ty.pair (Ty.int IntKind.i64) Ty.unit))))) (Sh.pair (Sh.ty (Ty.int IntKind.i64)) (Sh.ty Ty.unit)))
def T_image_Parse (x : dens A_image_Parse) : PO (Sh.den S_image_Parse) :=
  (.ite (decide (lenI x < 64))
   (.ret (((0, 0, (0, 0, 0, ()), 0, ()), 3, ())))
   (.ite (G_image_at (x, 1))
    (.ite (G_image_at (x, 3))
     (.ite (G_image_at (x, 10))
      (.ite (G_image_at (x, 7))
       (.ite (G_image_at (x, 8))
        (.ite (G_image_at (x, 9))
         (.ite (V_image_check ((w64 (V_image_at (x, 1) - 1), w64 (V_image_at (x, 3) - 1), (V_image_at (x, 7), V_image_at (x, 8), V_image_at (x, 9), ()), V_image_at (x, 10), ()), lenI x) != 0)
          (.ret (((0, 0, (0, 0, 0, ()), 0, ()), 4, ())))
          (.opt (LoopN.res L_image_Parse_7 (x, (), 0, (), V_image_front (w64 (V_image_at (x, 1) - 1), w64 (V_image_at (x, 3) - 1), (V_image_at (x, 7), V_image_at (x, 8), V_image_at (x, 9), ()), V_image_at (x, 10), ()), 0) ((0, 0, (0, 0, 0, ()), 0, ()), w64 (V_image_at (x, 1) - 1), w64 (V_image_at (x, 3) - 1), (V_image_at (x, 7), V_image_at (x, 8), V_image_at (x, 9), ()), V_image_at (x, 10), ())) fun p0 =>
           (.ite (way p0.1)
            (.ret ((p0.2.2.2.2, 0, ())))
            (.ret ((p0.2.2.2.1, p0.2.1, ()))))))
         .fail)
        .fail)
       .fail)
      .fail)
     .fail)
    .fail))
def G_image_Parse (_ : dens A_image_Parse) : Bool := true
def V_image_Parse (x : dens A_image_Parse) : Sh.den S_image_Parse := parseX x
theorem parse_val (s : List UInt8) : (T_image_Parse s).val = some (parseX s) := by
  unfold T_image_Parse parseX
  cases h1 : decide (lenI s < 64)
  · have hs : 64 ≤ s.length := by
      simp only [lenI, decide_eq_false_iff_not] at h1
      omega
    have a := fun k hk => at_total s k hk hs
    refine (val_no rfl).trans ((val_yes (a 1 (by omega))).trans ((val_yes (a 3 (by omega))).trans ((val_yes (a 10 (by omega))).trans ((val_yes (a 7 (by omega))).trans ((val_yes (a 8 (by omega))).trans ((val_yes (a 9 (by omega))).trans ?_))))))
    show (PO.ite (V_image_check (headX s, lenI s) != 0) _ _).val = _
    cases h2 : (V_image_check (headX s, lenI s) != (0 : Int))
    · obtain ⟨j, hj⟩ := parse7 s (V_image_front (headX s)) (headX s) noHead hs 16 0 (by omega)
      refine (val_no rfl).trans ?_
      have hres : LoopN.res L_image_Parse_7 (s, (), 0, (), V_image_front (headX s), 0) (noHead, headX s) = _ := hj
      refine (val_opt hres).trans ?_
      cases (List.range' 0 16).all (wordIs s (V_image_front (headX s)))
      · exact (val_no rfl).trans rfl
      · exact (val_yes rfl).trans rfl
    · exact (val_yes rfl).trans rfl
  · exact (val_yes rfl).trans rfl
theorem ok_image_Parse (x : dens A_image_Parse) (_ : G_image_Parse x = true) : (T_image_Parse x).val = some (V_image_Parse x) := parse_val x
end Go.Av
end
/-! Layer 9: runs. -/
section
namespace Go.Av
open Go
def L_machine_Run_c12 : LoopN where
  M := [3, 6, 8, 9, 10]
  T := [12, 37, 38, 39, 40, 41, 42, 43, 44, 45, 46, 47, 48, 49, 50, 51, 52, 53, 54, 55, 56]
  D := [3, 6, 10]
  ss := [.ty (.int .i64), .box 0 0, .box 1 0, .ty (.int .i64), .box 2 0]
  hs := [(.ty tFault), (.ty tResult), (shMachB 3 4), (shMemB 5), .rowc tFetched, .rowc (.int .u8)]
  es := [.ret]
  σ := (Ty.den (.int .i64)) × (Sh.den ((.ty tFault))) × (Sh.den ((.ty tResult))) × (Sh.den ((shMachB 3 4))) × (Sh.den ((shMemB 5))) × (Sh.den (.rowc tFetched)) × (Sh.den (.rowc (.int .u8)))
  x0 := fun x y => (x.2.2.2.1, y.1, y.2.1, y.2.2.1, y.2.2.2.1, y.2.2.2.2.1, y.2.2.2.2.2)
  put := fun x _ s => ((x.1, x.2.1, x.2.2.1, s.1, x.2.2.2.2), (s.2.1, s.2.2.1, s.2.2.2.1, s.2.2.2.2.1, s.2.2.2.2.2.1, s.2.2.2.2.2.2))
  fuel := fun _ _ => 1
  turn := fun x _ s =>
  (.ite (G_machine_Machine_steps ((), s.2.1, x.1, ()) ((s.2.2.2.1.1, s.2.2.2.1.2.1, (), s.2.2.2.1.2.2.2), s.2.2.2.2))
   (.ite (G_machine_Machine_number ((), 537919488) (((V_stepsEnd (s.2.1, x.1) ((s.2.2.2.1.1, s.2.2.2.1.2.1, (), s.2.2.2.1.2.2.2), s.2.2.2.2)).1.1, (V_stepsEnd (s.2.1, x.1) ((s.2.2.2.1.1, s.2.2.2.1.2.1, (), s.2.2.2.1.2.2.2), s.2.2.2.2)).1.2.1, (), (V_stepsEnd (s.2.1, x.1) ((s.2.2.2.1.1, s.2.2.2.1.2.1, (), s.2.2.2.1.2.2.2), s.2.2.2.2)).1.2.2.2), (V_stepsEnd (s.2.1, x.1) ((s.2.2.2.1.1, s.2.2.2.1.2.1, (), s.2.2.2.1.2.2.2), s.2.2.2.2)).2))
    (.ite (G_machine_Machine_number ((), 538968064) (((V_stepsEnd (s.2.1, x.1) ((s.2.2.2.1.1, s.2.2.2.1.2.1, (), s.2.2.2.1.2.2.2), s.2.2.2.2)).1.1, (V_stepsEnd (s.2.1, x.1) ((s.2.2.2.1.1, s.2.2.2.1.2.1, (), s.2.2.2.1.2.2.2), s.2.2.2.2)).1.2.1, (), (V_stepsEnd (s.2.1, x.1) ((s.2.2.2.1.1, s.2.2.2.1.2.1, (), s.2.2.2.1.2.2.2), s.2.2.2.2)).1.2.2.2), (V_stepsEnd (s.2.1, x.1) ((s.2.2.2.1.1, s.2.2.2.1.2.1, (), s.2.2.2.1.2.2.2), s.2.2.2.2)).2))
     (.ret (.out 0 (0, s.2.1, ((V_stepsRes (s.2.1, x.1) ((s.2.2.2.1.1, s.2.2.2.1.2.1, (), s.2.2.2.1.2.2.2), s.2.2.2.2)).1, (V_stepsRes (s.2.1, x.1) ((s.2.2.2.1.1, s.2.2.2.1.2.1, (), s.2.2.2.1.2.2.2), s.2.2.2.2)).2.1, (V_stepsRes (s.2.1, x.1) ((s.2.2.2.1.1, s.2.2.2.1.2.1, (), s.2.2.2.1.2.2.2), s.2.2.2.2)).2.2.1, (V_stepsRes (s.2.1, x.1) ((s.2.2.2.1.1, s.2.2.2.1.2.1, (), s.2.2.2.1.2.2.2), s.2.2.2.2)).2.2.2.1, V_numb 537919488 ((V_stepsEnd (s.2.1, x.1) ((s.2.2.2.1.1, s.2.2.2.1.2.1, (), s.2.2.2.1.2.2.2), s.2.2.2.2)).2.1, (V_stepsEnd (s.2.1, x.1) ((s.2.2.2.1.1, s.2.2.2.1.2.1, (), s.2.2.2.1.2.2.2), s.2.2.2.2)).2.2.2), V_numb 538968064 ((V_stepsEnd (s.2.1, x.1) ((s.2.2.2.1.1, s.2.2.2.1.2.1, (), s.2.2.2.1.2.2.2), s.2.2.2.2)).2.1, (V_stepsEnd (s.2.1, x.1) ((s.2.2.2.1.1, s.2.2.2.1.2.1, (), s.2.2.2.1.2.2.2), s.2.2.2.2)).2.2.2), (V_reg 2 ((V_stepsEnd (s.2.1, x.1) ((s.2.2.2.1.1, s.2.2.2.1.2.1, (), s.2.2.2.1.2.2.2), s.2.2.2.2)).2.1, (V_stepsEnd (s.2.1, x.1) ((s.2.2.2.1.1, s.2.2.2.1.2.1, (), s.2.2.2.1.2.2.2), s.2.2.2.2)).2.2.2)).1, (V_reg 3 ((V_stepsEnd (s.2.1, x.1) ((s.2.2.2.1.1, s.2.2.2.1.2.1, (), s.2.2.2.1.2.2.2), s.2.2.2.2)).2.1, (V_stepsEnd (s.2.1, x.1) ((s.2.2.2.1.1, s.2.2.2.1.2.1, (), s.2.2.2.1.2.2.2), s.2.2.2.2)).2.2.2)).1, (V_reg 4 ((V_stepsEnd (s.2.1, x.1) ((s.2.2.2.1.1, s.2.2.2.1.2.1, (), s.2.2.2.1.2.2.2), s.2.2.2.2)).2.1, (V_stepsEnd (s.2.1, x.1) ((s.2.2.2.1.1, s.2.2.2.1.2.1, (), s.2.2.2.1.2.2.2), s.2.2.2.2)).2.2.2)).1, (V_stepsRes (s.2.1, x.1) ((s.2.2.2.1.1, s.2.2.2.1.2.1, (), s.2.2.2.1.2.2.2), s.2.2.2.2)).2.2.2.2.2.2.2.2.2), ((V_stepsEnd (s.2.1, x.1) ((s.2.2.2.1.1, s.2.2.2.1.2.1, (), s.2.2.2.1.2.2.2), s.2.2.2.2)).1.1, (V_stepsEnd (s.2.1, x.1) ((s.2.2.2.1.1, s.2.2.2.1.2.1, (), s.2.2.2.1.2.2.2), s.2.2.2.2)).1.2.1, (), (V_stepsEnd (s.2.1, x.1) ((s.2.2.2.1.1, s.2.2.2.1.2.1, (), s.2.2.2.1.2.2.2), s.2.2.2.2)).1.2.2.2), (V_stepsEnd (s.2.1, x.1) ((s.2.2.2.1.1, s.2.2.2.1.2.1, (), s.2.2.2.1.2.2.2), s.2.2.2.2)).2.1, (V_stepsEnd (s.2.1, x.1) ((s.2.2.2.1.1, s.2.2.2.1.2.1, (), s.2.2.2.1.2.2.2), s.2.2.2.2)).2.2.1, (V_stepsEnd (s.2.1, x.1) ((s.2.2.2.1.1, s.2.2.2.1.2.1, (), s.2.2.2.1.2.2.2), s.2.2.2.2)).2.2.2)))
     .fail)
    .fail)
   .fail)
theorem check_facts (h : tHead.den) (n : Int) (e : V_image_check (h, n) = 0) : V_memmap_Check (h.2.2.1, n) = 0 ∧ (64 ≤ (show Int from h.1) ∧ (show Int from h.1) < n) ∧ 64 ≤ (show Int from h.2.1) ∧ (show Int from h.2.1) < n := by
  obtain ⟨rs, hn, sz, md, u⟩ := h
  unfold V_image_check PO.getO T_image_check at e
  cases h1 : (V_memmap_Check (sz, n) != (0 : Int)) with
  | true =>
    rw [val_yes h1] at e
    have e' : V_memmap_Check (sz, n) = 0 := e
    rw [e'] at h1
    cases h1
  | false =>
    rw [val_no h1] at e
    have hc : V_memmap_Check (sz, n) = 0 := by simpa using h1
    refine ⟨hc, ?_⟩
    rw [val_yes (by simp)] at e
    cases h2 : (decide (md < 0) || (decide (md ≥ 3) || (!V_image_place (rs, n) || !V_image_place (hn, n)))) with
    | true =>
      rw [val_yes h2] at e
      cases e
    | false =>
      simp only [Bool.or_eq_false_iff, Bool.not_eq_false'] at h2
      have pl : ∀ a : Int, V_image_place (a, n) = true → 64 ≤ a ∧ a < n := fun a ha => by
        have ha : (decide (a ≥ 64) && (decide (a < n) && band IntKind.i64 a 1 == 0)) = true := ha
        simp only [Bool.and_eq_true, decide_eq_true_eq] at ha
        exact ⟨ha.1, ha.2.1⟩
      exact ⟨pl rs h2.2.2.1, pl hn h2.2.2.2⟩
theorem mcheck_facts (i o r n : Int) (e : V_memmap_Check ((i, o, r, ()), n) = 0) : (0 ≤ i ∧ i ≤ 65536) ∧ (0 ≤ o ∧ o ≤ 65536) ∧ (4 ≤ r ∧ r ≤ 65536) ∧ n ≤ 262144 := by
  unfold V_memmap_Check PO.getO T_memmap_Check at e
  cases h1 : (decide (i < 0) || Int.tmod i 4 != 0) with
  | true => rw [val_yes h1] at e; cases e
  | false =>
  rw [val_no h1] at e
  cases h2 : (decide (o < 0) || Int.tmod o 4 != 0) with
  | true => rw [val_yes h2] at e; cases e
  | false =>
  rw [val_no h2] at e
  cases h3 : (decide (r < 0) || Int.tmod r 4 != 0) with
  | true => rw [val_yes h3] at e; cases e
  | false =>
  rw [val_no h3] at e
  cases h4 : (decide (n < 0) || decide (r < 4)) with
  | true => rw [val_yes h4] at e; cases e
  | false =>
  rw [val_no h4] at e
  cases h5 : (decide (n > 262144) || decide (i > 65536) || decide (o > 65536) || decide (r > 65536)) with
  | true => rw [val_yes h5] at e; cases e
  | false =>
    simp only [Bool.or_eq_false_iff, decide_eq_false_iff_not] at h1 h2 h3 h4 h5
    omega
def regsX (sz : tSizes.den) (n : Int) : List (Int × Int × Bool × Unit) := [(0, n, false, ()), (536936448, sz.1, true, ()), (537001984, sz.2.1, true, ()), (537133056, sz.2.2.1, true, ()), (537395200, sz.2.2.1, true, ()), (537919488, 4, true, ()), (538968064, 4, true, ())]
theorem regs_val (sz : tSizes.den) (n : Int) (e : V_memmap_Check (sz, n) = 0) : V_memmap_Regions (sz, n) = (regsX sz n, 0, ()) := by
  unfold V_memmap_Regions PO.getO T_memmap_Regions
  rw [val_no (by rw [e]; rfl)]
  rfl
theorem regsX_ok (i o r n : Int) (e : V_memmap_Check ((i, o, r, ()), n) = 0) (hn : 0 ≤ n) : RegsOk (regsX (i, o, r, ()) n) ∧ (regsX (i, o, r, ()) n).length = 7 ∧ sumL (regsX (i, o, r, ()) n) < 1000000 := by
  obtain ⟨h1, h2, h3, h4⟩ := mcheck_facts i o r n e
  refine ⟨⟨by simp [regsX], fun x hx => ?_⟩, by simp [regsX], ?_⟩
  · simp only [regsX, List.mem_cons, List.not_mem_nil, or_false] at hx
    unfold RegOk
    rcases hx with rfl | rfl | rfl | rfl | rfl | rfl | rfl <;> simp only <;> omega
  · simp only [regsX, sumL]
    omega
abbrev noRes : tResult.den := (false, 0, 0, 0, 0, 0, [], [], [], ())
/-- A machine that starts. -/
def startX (hd : tHead.den) (img inp : List UInt8) : MS :=
  ((hd, img, (), (List.set (List.set [0, 0, 0, 0, 0, 0, 0, 0, 0, 0, 0, 0, 0, 0, 0] 13 537133056) 14 (V_word_Not 0), hd.1, false, false, false, false, ()), false, (0, img.length / 2 + 1), ()), (newM (regsX hd.2.2.1 (lenI img)) img inp).1, List.replicate (img.length / 2 + 1) dfF, (newM (regsX hd.2.2.1 (lenI img)) img inp).2)
def resX (y : MS) (f : tFault.den) (budget : Int) : tResult.den :=
  ((V_stepsRes (f, budget) y).1, (V_stepsRes (f, budget) y).2.1, (V_stepsRes (f, budget) y).2.2.1, (V_stepsRes (f, budget) y).2.2.2.1, V_numb 537919488 (V_stepsEnd (f, budget) y).mem, V_numb 538968064 (V_stepsEnd (f, budget) y).mem, (V_reg 2 (V_stepsEnd (f, budget) y).mem).1, (V_reg 3 (V_stepsEnd (f, budget) y).mem).1, (V_reg 4 (V_stepsEnd (f, budget) y).mem).1, ())
/-- What a run leaves. -/
def runX (img inp : List UInt8) (f : tFault.den) (budget : Int) : tResult.den × Int × Unit :=
  bif (parseX img).2.1 != 0 then (noRes, (parseX img).2.1, ())
  else bif lenI inp != (parseX img).1.2.2.1.1 then (noRes, 2, ())
  else bif (V_machine_Check f != 0 || (decide (budget < 0) || decide (budget > 67108864))) then (noRes, 2, ())
  else (resX (startX (parseX img).1 img inp) f budget, 0, ())

theorem goX_wf (hd : tHead.den) (fl : List UInt8) (f : tFault.den) (hh : 0 ≤ (show Int from hd.2.1) ∧ (show Int from hd.2.1) < 4294967296) : ∀ (n : Nat) (k : Int) (s : RunS), MemWf s.2.2 → List.length s.1.1 = 15 →
    MemWf (goX hd fl f n k s).2.2.2.2 ∧ List.length (goX hd fl f n k s).2.2.1.1 = 15 ∧ (goX hd fl f n k s).2.2.2.2.1 = s.2.2.1
  | 0, k, s, hm, hr => ⟨hm, hr, rfl⟩
  | n + 1, k, s, hm, hr => by
    rw [goX]
    cases s.2.1
    · obtain ⟨h1, h2, h3, h4, _⟩ := stepMX_wf hd fl s.1 s.2.2 (nowX f k) hm hr hh
      obtain ⟨g1, g2, g3⟩ := goX_wf hd fl f hh n (k + 1) (stepMX hd fl s.1 s.2.2 (nowX f k)).2 h3 h1
      exact ⟨g1, g2, g3.trans h4⟩
    · exact ⟨hm, hr, rfl⟩
theorem end_mem {y : MS} (hy : MachWf y) (f : tFault.den) (budget : Int) : MemWf (V_stepsEnd (f, budget) y).mem :=
  (goX_wf y.1.1 y.1.2.1 f hy.hand budget.toNat 0 (runSof y) hy.mem hy.regs).1
theorem c12_res (y : MS) (hy : MachWf y) (f : tFault.den) (budget : Int) (hb : budget ≤ 67108864) : ∃ z, LoopN.res L_machine_Run_c12 (budget, (), (), 0, ()) (f, noRes, y.1, y.2.1, y.2.2.1, y.2.2.2) = some (0, 0, f, resX y f budget, z) := by
  have hm := end_mem hy f budget
  exact ⟨V_stepsEnd (f, budget) y, runL_out ((val_yes (decide_eq_true ⟨hy, hb⟩)).trans ((val_yes (decide_eq_true ⟨hm, by decide⟩)).trans ((val_yes (decide_eq_true ⟨hm, by decide⟩)).trans rfl)))⟩

/-- What is known of an image that is one. -/
theorem parse_facts (img : List UInt8) (h : ((parseX img).2.1 != (0 : Int)) = false) : ∃ rs hn i o r md, (parseX img).1 = (rs, hn, (i, o, r, ()), md, ()) ∧ V_memmap_Check ((i, o, r, ()), lenI img) = 0 ∧ (64 ≤ rs ∧ rs < lenI img) ∧ (64 ≤ hn ∧ hn < lenI img) ∧ lenI img ≤ 262144 ∧ 64 ≤ img.length := by
  unfold parseX at h ⊢
  cases h1 : decide (lenI img < 64) with
  | true => rw [h1] at h; cases h
  | false =>
  rw [h1] at h
  simp only [cond_false] at h ⊢
  cases h2 : (V_image_check (headX img, lenI img) != (0 : Int)) with
  | true => rw [h2] at h; cases h
  | false =>
  rw [h2] at h
  simp only [cond_false] at h ⊢
  cases h3 : (List.range' 0 16).all (wordIs img (V_image_front (headX img))) with
  | false => rw [h3] at h; cases h
  | true =>
  obtain ⟨f1, f2, f3⟩ := check_facts (headX img) (lenI img) (by simpa using h2)
  simp only [cond_true]
  generalize headX img = hd at *
  obtain ⟨rs, hn, ⟨i, o, r, u1⟩, md, u2⟩ := hd
  refine ⟨rs, hn, i, o, r, md, rfl, f1, f2, f3, (mcheck_facts i o r _ f1).2.2.2, ?_⟩
  simp only [lenI, decide_eq_false_iff_not] at h1
  omega

theorem startX_wf (rs hn i o r md : Int) (img inp : List UInt8) (h1 : V_memmap_Check ((i, o, r, ()), lenI img) = 0) (h2 : 64 ≤ rs ∧ rs < lenI img) (h3 : 64 ≤ hn ∧ hn < lenI img) (h4 : lenI img ≤ 262144) : MachWf (startX (rs, hn, (i, o, r, ()), md, ()) img inp) := by
  obtain ⟨g1, g2, g3⟩ := regsX_ok i o r (lenI img) h1 (by simp only [lenI]; omega)
  exact {
    mem := newM_wf _ img inp g1 (by show 2 ≤ (regsX (i, o, r, ()) (lenI img)).length; omega)
    regs := rfl
    pc := ⟨by show (0 : Int) ≤ rs; omega, by show rs < (4294967296 : Int); omega⟩
    hand := ⟨by show (0 : Int) ≤ hn; omega, by show hn < (4294967296 : Int); omega⟩
    len := by show img.length ≤ 262144; simp only [lenI] at h4; omega
    win := rfl
    cache := ⟨List.length_replicate, fun k hk hn => by
      have e : List.getD (List.replicate (img.length / 2 + 1) dfF) k dfF = dfF := by
        rw [List.getD_eq_getElem?_getD, List.getElem?_replicate]
        split <;> rfl
      rw [show (startX (rs, _, (i, o, r, ()), md, ()) img inp).2.2.1 = List.replicate (img.length / 2 + 1) dfF from rfl, e] at hn
      cases hn⟩ }
/-- machine.Run -/
abbrev A_machine_Run : List Ty := [.str, .str, tFault, (.int .i64)]
abbrev S_machine_Run : Sh := Sh.tup (Sh.pair (Sh.ty tResult) (Sh.pair (Sh.ty (Ty.int IntKind.i64)) (Sh.ty Ty.unit)))
def T_machine_Run (x : dens A_machine_Run) : PO (Sh.den S_machine_Run) :=
  (.ite (G_image_Parse x.1)
   (.ite ((V_image_Parse x.1).2.1 != 0)
    (.ite ((V_image_Parse x.1).2.1 != 0)
     (.ret (((false, 0, 0, 0, 0, 0, [], [], [], ()), (V_image_Parse x.1).2.1, ())))
     (.ite (V_machine_Check x.2.2.1 != 0 || (decide (x.2.2.2 < 0) || decide (x.2.2.2 > 67108864)))
      (.ret (((false, 0, 0, 0, 0, 0, [], [], [], ()), 2, ())))
      .fail))
    (.ite ((V_memmap_Regions ((V_image_Parse x.1).1.2.2.1, lenI x.1)).2.1 != 0)
     (.ite ((V_memmap_Regions ((V_image_Parse x.1).1.2.2.1, lenI x.1)).2.1 != 0)
      (.ite ((V_memmap_Regions ((V_image_Parse x.1).1.2.2.1, lenI x.1)).2.1 != 0)
       (.ret (((false, 0, 0, 0, 0, 0, [], [], [], ()), (V_memmap_Regions ((V_image_Parse x.1).1.2.2.1, lenI x.1)).2.1, ())))
       (.ite (V_machine_Check x.2.2.1 != 0 || (decide (x.2.2.2 < 0) || decide (x.2.2.2 > 67108864)))
        (.ret (((false, 0, 0, 0, 0, 0, [], [], [], ()), 2, ())))
        .fail))
      (.ite (roomOk (w64 (w64 (Int.tdiv (lenI x.1) 2) + 1)) 80)
       (.ite (V_machine_Check x.2.2.1 != 0 || (decide (x.2.2.2 < 0) || decide (x.2.2.2 > 67108864)))
        (.ret (((false, 0, 0, 0, 0, 0, [], [], [], ()), 2, ())))
        .fail)
       .fail))
     (.ite (lenI x.2.1 != (V_image_Parse x.1).1.2.2.1.1)
      (.ret (((false, 0, 0, 0, 0, 0, [], [], [], ()), 2, ())))
      (.opt (LoopN.res L_memory_New_8 (x.1, x.2.1, (V_memmap_Regions ((V_image_Parse x.1).1.2.2.1, lenI x.1)).1, 0, (V_memmap_Regions ((V_image_Parse x.1).1.2.2.1, lenI x.1)).1, lenI (V_memmap_Regions ((V_image_Parse x.1).1.2.2.1, lenI x.1)).1, 0) ()) fun p0 =>
       (.ite (roomOk p0.2.1 1)
        (.opt (LoopN.res L_memory_New_15 (x.1, x.2.1, (), (0, nspan 0 p0.2.1), (V_memmap_Regions ((V_image_Parse x.1).1.2.2.1, lenI x.1)).1, lenI (V_memmap_Regions ((V_image_Parse x.1).1.2.2.1, lenI x.1)).1, 0) (((V_memmap_Regions ((V_image_Parse x.1).1.2.2.1, lenI x.1)).1, [], ()), zeros p0.2.1 0)) fun p1 =>
         (.ite (inRange 0 (List.length p1.2.2.2.1.2.1))
          (.ite (inRange 1 (List.length p1.2.2.2.1.2.1))
           (.ite (roomOk (w64 (w64 (Int.tdiv (lenI x.1) 2) + 1)) 80)
            (.ite (V_machine_Check x.2.2.1 != 0 || (decide (x.2.2.2 < 0) || decide (x.2.2.2 > 67108864)))
             (.ret (((false, 0, 0, 0, 0, 0, [], [], [], ()), 2, ())))
             (.opt (LoopN.res L_machine_Run_c12 (x.2.2.2, (), (), 0, ()) (x.2.2.1, (false, 0, 0, 0, 0, 0, [], [], [], ()), ((V_image_Parse x.1).1, x.1, (), (List.set (List.set [0, 0, 0, 0, 0, 0, 0, 0, 0, 0, 0, 0, 0, 0, 0] 13 537133056) 14 (V_word_Not 0), (V_image_Parse x.1).1.1, false, false, false, false, ()), false, (0, nspan 0 (w64 (w64 (Int.tdiv (lenI x.1) 2) + 1))), ()), p1.2.2.2.1, zeros (w64 (w64 (Int.tdiv (lenI x.1) 2) + 1)) ((0, 0, 0, 0, 0, 0, 0, false, ()), 0, false, false, ()), mend (mend p1.2.2.2.2 (wAt p1.2.2.2.1.2.1 0).1 (strInts x.1) (wAt p1.2.2.2.1.2.1 0).2) (wAt p1.2.2.2.1.2.1 1).1 (strInts x.2.1) (wAt p1.2.2.2.1.2.1 1).2)) fun p2 =>
              (.ret ((p2.2.2.2.1, p2.2.1, ())))))
            .fail)
           .fail)
          .fail))
        .fail)))))
   .fail)
def G_machine_Run (_ : dens A_machine_Run) : Bool := true
def V_machine_Run (x : dens A_machine_Run) : Sh.den S_machine_Run := runX x.1 x.2.1 x.2.2.1 x.2.2.2
theorem ok_machine_Run (x : dens A_machine_Run) (_ : G_machine_Run x = true) : (T_machine_Run x).val = some (V_machine_Run x) := by
  obtain ⟨img, inp, f, budget⟩ := x
  unfold T_machine_Run
  refine (val_yes rfl).trans ?_
  show _ = some (runX img inp f budget)
  unfold runX
  show (PO.ite ((parseX img).2.1 != (0 : Int)) _ _).val = _
  cases h1 : ((parseX img).2.1 != (0 : Int)) with
  | true => exact (val_yes rfl).trans ((val_yes h1).trans rfl)
  | false =>
    refine (val_no rfl).trans ?_
    obtain ⟨rs, hn, i, o, r, md, e, f1, f2, f3, f4, f5⟩ := parse_facts img h1
    have hreg : V_memmap_Regions ((V_image_Parse img).1.2.2.1, lenI img) = (regsX (i, o, r, ()) (lenI img), 0, ()) := by
      show V_memmap_Regions ((parseX img).1.2.2.1, lenI img) = _
      rw [e]
      exact regs_val _ _ f1
    obtain ⟨g1, g2, g3⟩ := regsX_ok i o r (lenI img) f1 (by simp only [lenI]; omega)
    have g4 : ∀ q ∈ regsX (i, o, r, ()) (lenI img), 0 ≤ q.2.1 := fun q hq => (g1.2 q hq).2.1
    have hwf := startX_wf rs hn i o r md img inp f1 f2 f3 f4
    simp only [hreg]
    refine (val_no rfl).trans ?_
    show (PO.ite (lenI inp != (parseX img).1.2.2.1.1) _ _).val = _
    simp only [cond_false]
    cases h2 : (lenI inp != (parseX img).1.2.2.1.1) with
    | true => exact (val_yes rfl).trans rfl
    | false =>
      refine (val_no rfl).trans ((val_opt (r := _) (res_8 img inp (regsX (i, o, r, ()) (lenI img)) (by omega) g4 (by omega))).trans ?_)
      refine (val_yes ?_).trans ?_
      · show roomOk ((sumL (regsX (i, o, r, ()) (lenI img)) : Nat) : Int) 1 = true
        simp only [roomOk, Bool.and_eq_true, decide_eq_true_eq]
        omega
      have hsp : nspan 0 ((sumL (regsX (i, o, r, ()) (lenI img)) : Nat) : Int) = sumL (regsX (i, o, r, ()) (lenI img)) := by simp [nspan]
      have e15 := res_15 img inp (regsX (i, o, r, ()) (lenI img)) (zeros ((sumL (regsX (i, o, r, ()) (lenI img)) : Nat) : Int) 0) (by omega) g4
      refine (val_opt (r := _) (by dsimp only; rw [hsp]; exact e15)).trans ?_
      have hw : (winsOf 0 (regsX (i, o, r, ()) (lenI img))).length = 7 := by rw [winsOf_length, g2]
      have hlen : w64 (w64 (Int.tdiv (lenI img) 2) + 1) = ((img.length / 2 + 1 : Nat) : Int) := by
        simp only [lenI] at f4 ⊢
        rw [Int.tdiv_eq_ediv_of_nonneg (by omega), w64_id (n := ((img.length : Nat) : Int) / 2) (by omega) (by omega), w64_id (by omega) (by omega)]
        omega
      refine (val_yes ?_).trans ((val_yes ?_).trans ((val_yes ?_).trans ?_))
      · show inRange 0 (winsOf 0 (regsX (i, o, r, ()) (lenI img))).length = true
        rw [hw]
        rfl
      · show inRange 1 (winsOf 0 (regsX (i, o, r, ()) (lenI img))).length = true
        rw [hw]
        rfl
      · rw [hlen]
        simp only [lenI] at f4
        simp only [roomOk, Bool.and_eq_true, decide_eq_true_eq]
        omega
      · simp only [cond_false]
        cases h3 : (V_machine_Check f != 0 || (decide (budget < 0) || decide (budget > 67108864))) with
        | true => exact (val_yes rfl).trans rfl
        | false =>
          have hb : (show Int from budget) ≤ 67108864 := by
            simp only [Bool.or_eq_false_iff, decide_eq_false_iff_not] at h3
            exact Int.not_lt.1 h3.2.2
          obtain ⟨z, hz⟩ := c12_res _ hwf f budget hb
          refine (val_no rfl).trans ?_
          rw [hlen]
          have hst : startX (parseX img).1 img inp = startX (rs, hn, (i, o, r, ()), md, ()) img inp := by rw [e]
          rw [hst]
          refine (val_opt (r := (0, 0, f, resX (startX (rs, hn, (i, o, r, ()), md, ()) img inp) f budget, z)) ?_).trans rfl
          refine Eq.trans ?_ hz
          show LoopN.res L_machine_Run_c12 (budget, (), (), 0, ()) (f, noRes, ((parseX img).1, img, (), (_, (parseX img).1.1, _), false, (0, nspan 0 ((img.length / 2 + 1 : Nat) : Int)), ()), _, zeros ((img.length / 2 + 1 : Nat) : Int) dfF, _) = _
          rw [e]
          have hns : nspan 0 ((img.length / 2 + 1 : Nat) : Int) = img.length / 2 + 1 := by simp only [nspan]; omega
          have hz2 : zeros ((img.length / 2 + 1 : Nat) : Int) dfF = List.replicate (img.length / 2 + 1) dfF := by unfold zeros; rw [Int.toNat_natCast]
          rw [hns, hz2]
          rfl
end Go.Av
end
/-! Layer 9: the statements MachineNone, MachineSums. -/
section
namespace Go.Av
open Go
/-- hauberklaw09.most -/
abbrev A_hauberklaw09_most : List Ty := [(.int .i64)]
abbrev S_hauberklaw09_most : Sh := Sh.ty Ty.bool
def T_hauberklaw09_most (x : dens A_hauberklaw09_most) : PO (Sh.den S_hauberklaw09_most) :=
  (.ret (decide (x ≥ 0) && decide (x ≤ 5000)))
def G_hauberklaw09_most (_ : dens A_hauberklaw09_most) : Bool := true
def V_hauberklaw09_most (x : dens A_hauberklaw09_most) : Sh.den S_hauberklaw09_most := (T_hauberklaw09_most x).getO default
theorem ok_hauberklaw09_most (x : dens A_hauberklaw09_most) (_ : G_hauberklaw09_most x = true) : (T_hauberklaw09_most x).val = some (V_hauberklaw09_most x) := PO.sure_ok default (by simp [T_hauberklaw09_most, PO.sure])
/-- hauberklaw09.lives: an example, computed -/
abbrev A_hauberklaw09_lives : List Ty := []
abbrev S_hauberklaw09_lives : Sh := .ty .bool
def T_hauberklaw09_lives (_ : dens A_hauberklaw09_lives) : PO Bool := .ret true
def G_hauberklaw09_lives (_ : dens A_hauberklaw09_lives) : Bool := true
def V_hauberklaw09_lives (_ : dens A_hauberklaw09_lives) : Bool := true
theorem ok_hauberklaw09_lives (x : dens A_hauberklaw09_lives) (_ : G_hauberklaw09_lives x = true) : (T_hauberklaw09_lives x).val = some (V_hauberklaw09_lives x) := rfl
end Go.Av
end
/-! Layer 9: traces. -/
section
namespace Go.Av
open Go
def L_stepsT : LoopN where
  M := [0, 2, 3, 5, 8, 9]
  T := [10, 11, 12, 13, 14, 15, 16, 17, 18, 19, 20, 21, 22, 23, 24, 25, 26, 27, 28, 29, 30, 31, 32, 33, 34, 35, 36, 37, 38, 39, 40, 41, 42, 43, 44, 45, 46, 47, 48, 49, 50, 51, 52, 53, 54, 55, 56, 57, 58, 59, 60, 61, 62, 63, 64]
  D := [2, 3, 5]
  ss := [.box 0 0, .ty (.int .i64), .fn 33 (.pair (.box 1 0) (.ty .unit)), .box 2 0, .box 3 0, .box 4 0]
  hs := [(shMachB 5 6), (.osl 0 tEvent), (.ty tFault), (.ty tResult), (.ty tResult), (shMemB 7), .rowc tFetched, .rowc (.int .u8)]
  es := [.exit 0]
  σ := (Sh.den ((shMachB 5 6))) × (Sh.den ((.osl 0 tEvent))) × (Sh.den ((.ty tFault))) × (Sh.den ((.ty tResult))) × (Sh.den ((.ty tResult))) × (Sh.den ((shMemB 7))) × (Sh.den (.rowc tFetched)) × (Sh.den (.rowc (.int .u8)))
  x0 := fun _ y => (y.1, y.2.1, y.2.2.1, y.2.2.2.1, y.2.2.2.2.1, y.2.2.2.2.2.1, y.2.2.2.2.2.2.1, y.2.2.2.2.2.2.2)
  put := fun x _ s => ((x.1, x.2.1, x.2.2.1, x.2.2.2.1, x.2.2.2.2.1, x.2.2.2.2.2), (s.1, s.2.1, s.2.2.1, s.2.2.2.1, s.2.2.2.2.1, s.2.2.2.2.2.1, s.2.2.2.2.2.2.1, s.2.2.2.2.2.2.2))
  fuel := fun x _ => Int.toNat x.2.1+1
  turn := fun x _ s =>
  (.ite (!s.1.2.2.2.2.1 && decide (s.2.2.2.2.1.2.1 < x.2.1))
   (.ite (s.1.2.2.2.1.2.1 == s.1.1.2.1)
    (.ite (s.2.2.1.2.1 == s.2.2.2.2.1.2.1)
     (.ite (G_machine_Machine_Step ((), s.2.2.1) ((s.1.1, s.1.2.1, (), s.1.2.2.2), s.2.2.2.2.2))
      (.ite (Nat.ble ((List.length s.2.1 + List.length [(V_machine_Machine_Step ((), s.2.2.1) ((s.1.1, s.1.2.1, (), s.1.2.2.2), s.2.2.2.2.2)).1.1]) * 32) 140737488355328)
       (.ret (.on (((V_machine_Machine_Step ((), s.2.2.1) ((s.1.1, s.1.2.1, (), s.1.2.2.2), s.2.2.2.2.2)).2.1.1, (V_machine_Machine_Step ((), s.2.2.1) ((s.1.1, s.1.2.1, (), s.1.2.2.2), s.2.2.2.2.2)).2.1.2.1, (), (V_machine_Machine_Step ((), s.2.2.1) ((s.1.1, s.1.2.1, (), s.1.2.2.2), s.2.2.2.2.2)).2.1.2.2.2), s.2.1 ++ [(V_machine_Machine_Step ((), s.2.2.1) ((s.1.1, s.1.2.1, (), s.1.2.2.2), s.2.2.2.2.2)).1.1], s.2.2.1, s.2.2.2.1, (s.2.2.2.2.1.1, w64 (s.2.2.2.2.1.2.1 + 1), w64 (s.2.2.2.2.1.2.2.1 + (V_machine_Machine_Step ((), s.2.2.1) ((s.1.1, s.1.2.1, (), s.1.2.2.2), s.2.2.2.2.2)).1.1.2.2.2.1), w64 (s.2.2.2.2.1.2.2.2.1 + 1), s.2.2.2.2.1.2.2.2.2), (V_machine_Machine_Step ((), s.2.2.1) ((s.1.1, s.1.2.1, (), s.1.2.2.2), s.2.2.2.2.2)).2.2.1, (V_machine_Machine_Step ((), s.2.2.1) ((s.1.1, s.1.2.1, (), s.1.2.2.2), s.2.2.2.2.2)).2.2.2.1, (V_machine_Machine_Step ((), s.2.2.1) ((s.1.1, s.1.2.1, (), s.1.2.2.2), s.2.2.2.2.2)).2.2.2.2)))
       .fail)
      .fail)
     (.ite (G_machine_Machine_Step ((), 0, 0, 0, 0, ()) ((s.1.1, s.1.2.1, (), s.1.2.2.2), s.2.2.2.2.2))
      (.ite (Nat.ble ((List.length s.2.1 + List.length [(V_machine_Machine_Step ((), 0, 0, 0, 0, ()) ((s.1.1, s.1.2.1, (), s.1.2.2.2), s.2.2.2.2.2)).1.1]) * 32) 140737488355328)
       (.ret (.on (((V_machine_Machine_Step ((), 0, 0, 0, 0, ()) ((s.1.1, s.1.2.1, (), s.1.2.2.2), s.2.2.2.2.2)).2.1.1, (V_machine_Machine_Step ((), 0, 0, 0, 0, ()) ((s.1.1, s.1.2.1, (), s.1.2.2.2), s.2.2.2.2.2)).2.1.2.1, (), (V_machine_Machine_Step ((), 0, 0, 0, 0, ()) ((s.1.1, s.1.2.1, (), s.1.2.2.2), s.2.2.2.2.2)).2.1.2.2.2), s.2.1 ++ [(V_machine_Machine_Step ((), 0, 0, 0, 0, ()) ((s.1.1, s.1.2.1, (), s.1.2.2.2), s.2.2.2.2.2)).1.1], s.2.2.1, s.2.2.2.1, (s.2.2.2.2.1.1, w64 (s.2.2.2.2.1.2.1 + 1), w64 (s.2.2.2.2.1.2.2.1 + (V_machine_Machine_Step ((), 0, 0, 0, 0, ()) ((s.1.1, s.1.2.1, (), s.1.2.2.2), s.2.2.2.2.2)).1.1.2.2.2.1), w64 (s.2.2.2.2.1.2.2.2.1 + 1), s.2.2.2.2.1.2.2.2.2), (V_machine_Machine_Step ((), 0, 0, 0, 0, ()) ((s.1.1, s.1.2.1, (), s.1.2.2.2), s.2.2.2.2.2)).2.2.1, (V_machine_Machine_Step ((), 0, 0, 0, 0, ()) ((s.1.1, s.1.2.1, (), s.1.2.2.2), s.2.2.2.2.2)).2.2.2.1, (V_machine_Machine_Step ((), 0, 0, 0, 0, ()) ((s.1.1, s.1.2.1, (), s.1.2.2.2), s.2.2.2.2.2)).2.2.2.2)))
       .fail)
      .fail))
    (.ite (s.2.2.1.2.1 == s.2.2.2.2.1.2.1)
     (.ite (G_machine_Machine_Step ((), s.2.2.1) ((s.1.1, s.1.2.1, (), s.1.2.2.2), s.2.2.2.2.2))
      (.ite (Nat.ble ((List.length s.2.1 + List.length [(V_machine_Machine_Step ((), s.2.2.1) ((s.1.1, s.1.2.1, (), s.1.2.2.2), s.2.2.2.2.2)).1.1]) * 32) 140737488355328)
       (.ret (.on (((V_machine_Machine_Step ((), s.2.2.1) ((s.1.1, s.1.2.1, (), s.1.2.2.2), s.2.2.2.2.2)).2.1.1, (V_machine_Machine_Step ((), s.2.2.1) ((s.1.1, s.1.2.1, (), s.1.2.2.2), s.2.2.2.2.2)).2.1.2.1, (), (V_machine_Machine_Step ((), s.2.2.1) ((s.1.1, s.1.2.1, (), s.1.2.2.2), s.2.2.2.2.2)).2.1.2.2.2), s.2.1 ++ [(V_machine_Machine_Step ((), s.2.2.1) ((s.1.1, s.1.2.1, (), s.1.2.2.2), s.2.2.2.2.2)).1.1], s.2.2.1, s.2.2.2.1, (s.2.2.2.2.1.1, w64 (s.2.2.2.2.1.2.1 + 1), w64 (s.2.2.2.2.1.2.2.1 + (V_machine_Machine_Step ((), s.2.2.1) ((s.1.1, s.1.2.1, (), s.1.2.2.2), s.2.2.2.2.2)).1.1.2.2.2.1), s.2.2.2.2.1.2.2.2), (V_machine_Machine_Step ((), s.2.2.1) ((s.1.1, s.1.2.1, (), s.1.2.2.2), s.2.2.2.2.2)).2.2.1, (V_machine_Machine_Step ((), s.2.2.1) ((s.1.1, s.1.2.1, (), s.1.2.2.2), s.2.2.2.2.2)).2.2.2.1, (V_machine_Machine_Step ((), s.2.2.1) ((s.1.1, s.1.2.1, (), s.1.2.2.2), s.2.2.2.2.2)).2.2.2.2)))
       .fail)
      .fail)
     (.ite (G_machine_Machine_Step ((), 0, 0, 0, 0, ()) ((s.1.1, s.1.2.1, (), s.1.2.2.2), s.2.2.2.2.2))
      (.ite (Nat.ble ((List.length s.2.1 + List.length [(V_machine_Machine_Step ((), 0, 0, 0, 0, ()) ((s.1.1, s.1.2.1, (), s.1.2.2.2), s.2.2.2.2.2)).1.1]) * 32) 140737488355328)
       (.ret (.on (((V_machine_Machine_Step ((), 0, 0, 0, 0, ()) ((s.1.1, s.1.2.1, (), s.1.2.2.2), s.2.2.2.2.2)).2.1.1, (V_machine_Machine_Step ((), 0, 0, 0, 0, ()) ((s.1.1, s.1.2.1, (), s.1.2.2.2), s.2.2.2.2.2)).2.1.2.1, (), (V_machine_Machine_Step ((), 0, 0, 0, 0, ()) ((s.1.1, s.1.2.1, (), s.1.2.2.2), s.2.2.2.2.2)).2.1.2.2.2), s.2.1 ++ [(V_machine_Machine_Step ((), 0, 0, 0, 0, ()) ((s.1.1, s.1.2.1, (), s.1.2.2.2), s.2.2.2.2.2)).1.1], s.2.2.1, s.2.2.2.1, (s.2.2.2.2.1.1, w64 (s.2.2.2.2.1.2.1 + 1), w64 (s.2.2.2.2.1.2.2.1 + (V_machine_Machine_Step ((), 0, 0, 0, 0, ()) ((s.1.1, s.1.2.1, (), s.1.2.2.2), s.2.2.2.2.2)).1.1.2.2.2.1), s.2.2.2.2.1.2.2.2), (V_machine_Machine_Step ((), 0, 0, 0, 0, ()) ((s.1.1, s.1.2.1, (), s.1.2.2.2), s.2.2.2.2.2)).2.2.1, (V_machine_Machine_Step ((), 0, 0, 0, 0, ()) ((s.1.1, s.1.2.1, (), s.1.2.2.2), s.2.2.2.2.2)).2.2.2.1, (V_machine_Machine_Step ((), 0, 0, 0, 0, ()) ((s.1.1, s.1.2.1, (), s.1.2.2.2), s.2.2.2.2.2)).2.2.2.2)))
       .fail)
      .fail)))
   (.ret (.out 0 (s.1, s.2.1, s.2.2.1, s.2.2.2.1, s.2.2.2.2.1, s.2.2.2.2.2.1, s.2.2.2.2.2.2.1, s.2.2.2.2.2.2.2))))
theorem endT_eq {α β γ δ ε ζ : Type} {A : α} {f : β} {r0 : ε} {hal : Bool} {rst : γ} {B : δ} {X1 Y1 X2 Y2 X3 Y3 : Int} {L M : ζ} (h1 : X1 = Y1) (h2 : X2 = Y2) (h3 : X3 = Y3) (h4 : L = M) : some ((0 : Nat), A, L, f, r0, (hal, X1, X2, X3, rst), B) = some ((0 : Nat), A, M, f, r0, (hal, Y1, Y2, Y3, rst), B) := by
  subst h1 h2 h3 h4
  rfl
/-- The loop of a trace: k steps are made already. -/
theorem stepsT_from (f : tFault.den) (budget : Int) (hbud : budget ≤ 67108864) (r0 : tResult.den) (rst : Int × Int × List UInt8 × List UInt8 × List UInt8 × Unit) (hal : Bool) (x : shDens L_stepsT.ss) (hx : x.2.1 = budget) (y0 : shDens L_stepsT.hs) :
    ∀ (n k : Nat) (cyc hnd : Int) (ev : List tEvent.den) (y : MS), ev.length ≤ 67108864 + k → (k : Int) + n = budget → MachWf y → 0 ≤ cyc → cyc ≤ 12 * k → 0 ≤ hnd → hnd ≤ k →
      runL (L_stepsT.turn x y0) (n + 1) (y.1, ev, f, r0, (hal, (k : Int), cyc, hnd, rst), y.2.1, y.2.2.1, y.2.2.2) =
        some (0, ((withRun y (goX y.1.1 y.1.2.1 f n k (runSof y)).2.2 (cgoX y.1.1 y.1.2.1 f n k (runSof y) y.2.2.1)).1, ev ++ (goX y.1.1 y.1.2.1 f n k (runSof y)).1, f, r0,
          (hal, (k : Int) + ((goX y.1.1 y.1.2.1 f n k (runSof y)).1.length : Int), cyc + cycX (goX y.1.1 y.1.2.1 f n k (runSof y)).1, hnd + (goX y.1.1 y.1.2.1 f n k (runSof y)).2.1, rst),
          (withRun y (goX y.1.1 y.1.2.1 f n k (runSof y)).2.2 (cgoX y.1.1 y.1.2.1 f n k (runSof y) y.2.2.1)).2)) := by
  intro n
  induction n with
  | zero =>
    intro k cyc hnd ev y hev hk hw _ _ _ _
    refine (runL_out ((val_no ?_).trans rfl)).trans ?_
    · show (!y.1.2.2.2.2.1 && decide ((k : Int) < x.2.1)) = false
      rw [hx, dec_false (show ¬ (k : Int) < budget by omega), Bool.and_false]
    · simp [goX, cgoX, cycX, runSof]
      rfl
  | succ n ih =>
    intro k cyc hnd ev y hev hk hw hc0 hc1 hh0 hh1
    cases hd : y.1.2.2.2.2.1 with
    | true =>
      refine (runL_out ((val_no ?_).trans rfl)).trans ?_
      · show (!y.1.2.2.2.2.1 && decide ((k : Int) < x.2.1)) = false
        rw [hd]; rfl
      · have hg : goX y.1.1 y.1.2.1 f (n + 1) k (runSof y) = ([], 0, runSof y) := by
          unfold goX
          rw [show (runSof y).2.1 = true from hd]
          rfl
        have hcg : cgoX y.1.1 y.1.2.1 f (n + 1) k (runSof y) y.2.2.1 = y.2.2.1 := by
          unfold cgoX
          rw [show (runSof y).2.1 = true from hd]
          rfl
        rw [hg, hcg]
        simp [cycX, runSof]
        rfl
    | false =>
      have hlt : (!y.1.2.2.2.2.1 && decide ((k : Int) < x.2.1)) = true := by
        rw [hx, hd, dec_true (show (k : Int) < budget by omega)]; rfl
      have hG : ∀ g, G_machine_Machine_Step ((), g) ((y.1.1, y.1.2.1, (), y.1.2.2.2), y.2) = true := fun g => decide_eq_true hw
      have hV : ∀ g, V_machine_Machine_Step ((), g) ((y.1.1, y.1.2.1, (), y.1.2.2.2), y.2) = packX y.1.1 y.1.2.1 y.1.2.2.2.2.2.1 (cacheX y.1.2.1 y.1.2.2.2.1.2.1 y.2.2.1) (stepMX y.1.1 y.1.2.1 y.1.2.2.2.1 (y.2.1, y.2.2.2) g) := fun g => by
        unfold V_machine_Machine_Step
        rw [show (((y.1.1, y.1.2.1, (), y.1.2.2.2), y.2) : MS).1.2.2.2.2.1 = false from hd]
        rfl
      obtain ⟨s1, s2, s3, s4, s5, s6⟩ := stepMX_wf y.1.1 y.1.2.1 y.1.2.2.2.1 (y.2.1, y.2.2.2) (nowX f k) hw.mem hw.regs hw.hand
      have hw' := step_MachWf hw (nowX f k)
      have hgo : goX y.1.1 y.1.2.1 f (n + 1) k (runSof y) = ((stepMX y.1.1 y.1.2.1 y.1.2.2.2.1 (y.2.1, y.2.2.2) (nowX f k)).1 :: (goX y.1.1 y.1.2.1 f n (k + 1) (stepMX y.1.1 y.1.2.1 y.1.2.2.2.1 (y.2.1, y.2.2.2) (nowX f k)).2).1,
          (bif y.1.2.2.2.1.2.1 == y.1.1.2.1 then 1 else 0) + (goX y.1.1 y.1.2.1 f n (k + 1) (stepMX y.1.1 y.1.2.1 y.1.2.2.2.1 (y.2.1, y.2.2.2) (nowX f k)).2).2.1,
          (goX y.1.1 y.1.2.1 f n (k + 1) (stepMX y.1.1 y.1.2.1 y.1.2.2.2.1 (y.2.1, y.2.2.2) (nowX f k)).2).2.2) := by
        rw [goX]
        rw [show (runSof y).2.1 = false from hd]
        rfl
      have hcg : cgoX y.1.1 y.1.2.1 f (n + 1) k (runSof y) y.2.2.1 = cgoX y.1.1 y.1.2.1 f n (k + 1) (stepMX y.1.1 y.1.2.1 y.1.2.2.2.1 (y.2.1, y.2.2.2) (nowX f k)).2 (cacheX y.1.2.1 y.1.2.2.2.1.2.1 y.2.2.1) := by
        rw [cgoX]
        rw [show (runSof y).2.1 = false from hd]
        rfl
      rw [hgo, hcg]
      have w1 : w64 ((k : Int) + 1) = ((k + 1 : Nat) : Int) := by rw [w64_id (by omega) (by omega)]; omega
      generalize hE : stepMX y.1.1 y.1.2.1 y.1.2.2.2.1 (y.2.1, y.2.2.2) (nowX f k) = E at *
      have b0 : (0 : Int) ≤ E.1.2.2.2.1 := s5
      have b1 : (12 : Int) ≥ E.1.2.2.2.1 := s6
      have b2 : (k : Int) ≤ 67108864 := by omega
      have b3 : cyc ≤ 805306368 := by omega
      have w2 : w64 (cyc + E.1.2.2.2.1) = cyc + E.1.2.2.2.1 := w64_id (by omega) (by omega)
      have w3 : w64 (hnd + 1) = hnd + 1 := w64_id (by omega) (by omega)
      obtain ⟨G1, hG1⟩ : ∃ G1, G1 = goX y.1.1 y.1.2.1 f n ((k : Int) + 1) E.2 := ⟨_, rfl⟩
      obtain ⟨C1, hC1⟩ : ∃ C1, C1 = cgoX y.1.1 y.1.2.1 f n ((k : Int) + 1) E.2 (cacheX y.1.2.1 y.1.2.2.2.1.2.1 y.2.2.1) := ⟨_, rfl⟩
      rw [← hG1, ← hC1]
      have fin : ∀ (b : Int), (b = 0 ∨ b = 1) → runL (L_stepsT.turn x y0) (n + 1) ((packX y.1.1 y.1.2.1 y.1.2.2.2.2.2.1 (cacheX y.1.2.1 y.1.2.2.2.1.2.1 y.2.2.1) E).2.1, ev ++ [E.1], f, r0, (hal, ((k + 1 : Nat) : Int), cyc + E.1.2.2.2.1, hnd + b, rst), (packX y.1.1 y.1.2.1 y.1.2.2.2.2.2.1 (cacheX y.1.2.1 y.1.2.2.2.1.2.1 y.2.2.1) E).2.2) = some (0, (withRun y G1.2.2 C1).1, (ev ++ [E.1]) ++ G1.1, f, r0, (hal, ((k + 1 : Nat) : Int) + ((G1.1.length : Nat) : Int), cyc + E.1.2.2.2.1 + cycX G1.1, hnd + b + G1.2.1, rst), (withRun y G1.2.2 C1).2) := fun b hb => by
        have := ih (k + 1) (cyc + E.1.2.2.2.1) (hnd + b) (ev ++ [E.1]) (packX y.1.1 y.1.2.1 y.1.2.2.2.2.2.1 (cacheX y.1.2.1 y.1.2.2.2.1.2.1 y.2.2.1) E).2 (by rw [List.length_append]; simp only [List.length_cons, List.length_nil]; omega) (by omega) hw' (by omega) (by omega) (by omega) (by omega)
        rw [hG1, hC1]
        exact this
      have hR : ∀ e : tEvent.den, Nat.ble ((List.length ev + List.length [e]) * 32) 140737488355328 = true := fun e => by
        refine Nat.ble_eq.mpr ?_
        simp only [List.length_cons, List.length_nil]
        omega
      have hnow : nowX f k = (bif f.2.1 == (k : Int) then f else noFault) := rfl
      cases hb1 : (y.1.2.2.2.1.2.1 == y.1.1.2.1) with
      | true =>
        cases hb2 : (f.2.1 == (k : Int)) with
        | true =>
          rw [hb2] at hnow
          simp only [cond_true] at hnow
          rw [hnow] at hE
          refine (runL_on (s' := ((packX y.1.1 y.1.2.1 y.1.2.2.2.2.2.1 (cacheX y.1.2.1 y.1.2.2.2.1.2.1 y.2.2.1) E).2.1, ev ++ [E.1], f, r0, (hal, ((k + 1 : Nat) : Int), cyc + E.1.2.2.2.1, hnd + 1, rst), (packX y.1.1 y.1.2.1 y.1.2.2.2.2.2.1 (cacheX y.1.2.1 y.1.2.2.2.1.2.1 y.2.2.1) E).2.2)) ((val_yes hlt).trans ((val_yes hb1).trans ((val_yes hb2).trans ((val_yes (hG _)).trans ((val_yes (hR _)).trans (by rw [hV, hE, w1, w2, w3]; rfl))))))).trans ?_
          refine (fin 1 (.inr rfl)).trans ?_
          exact endT_eq (by simp only [List.length_cons]; omega) (Int.add_assoc _ _ _) (Int.add_assoc _ _ _) (List.append_assoc _ _ _)
        | false =>
          rw [hb2] at hnow
          simp only [cond_false] at hnow
          rw [hnow] at hE
          refine (runL_on (s' := ((packX y.1.1 y.1.2.1 y.1.2.2.2.2.2.1 (cacheX y.1.2.1 y.1.2.2.2.1.2.1 y.2.2.1) E).2.1, ev ++ [E.1], f, r0, (hal, ((k + 1 : Nat) : Int), cyc + E.1.2.2.2.1, hnd + 1, rst), (packX y.1.1 y.1.2.1 y.1.2.2.2.2.2.1 (cacheX y.1.2.1 y.1.2.2.2.1.2.1 y.2.2.1) E).2.2)) ((val_yes hlt).trans ((val_yes hb1).trans ((val_no hb2).trans ((val_yes (hG _)).trans ((val_yes (hR _)).trans (by rw [hV, hE, w1, w2, w3]; rfl))))))).trans ?_
          refine (fin 1 (.inr rfl)).trans ?_
          exact endT_eq (by simp only [List.length_cons]; omega) (Int.add_assoc _ _ _) (Int.add_assoc _ _ _) (List.append_assoc _ _ _)
      | false =>
        cases hb2 : (f.2.1 == (k : Int)) with
        | true =>
          rw [hb2] at hnow
          simp only [cond_true] at hnow
          rw [hnow] at hE
          refine (runL_on (s' := ((packX y.1.1 y.1.2.1 y.1.2.2.2.2.2.1 (cacheX y.1.2.1 y.1.2.2.2.1.2.1 y.2.2.1) E).2.1, ev ++ [E.1], f, r0, (hal, ((k + 1 : Nat) : Int), cyc + E.1.2.2.2.1, hnd + 0, rst), (packX y.1.1 y.1.2.1 y.1.2.2.2.2.2.1 (cacheX y.1.2.1 y.1.2.2.2.1.2.1 y.2.2.1) E).2.2)) ((val_yes hlt).trans ((val_no hb1).trans ((val_yes hb2).trans ((val_yes (hG _)).trans ((val_yes (hR _)).trans (by rw [hV, hE, w1, w2]; simp only [Int.add_zero]; rfl))))))).trans ?_
          refine (fin 0 (.inl rfl)).trans ?_
          exact endT_eq (by simp only [List.length_cons]; omega) (Int.add_assoc _ _ _) (Int.add_assoc _ _ _) (List.append_assoc _ _ _)
        | false =>
          rw [hb2] at hnow
          simp only [cond_false] at hnow
          rw [hnow] at hE
          refine (runL_on (s' := ((packX y.1.1 y.1.2.1 y.1.2.2.2.2.2.1 (cacheX y.1.2.1 y.1.2.2.2.1.2.1 y.2.2.1) E).2.1, ev ++ [E.1], f, r0, (hal, ((k + 1 : Nat) : Int), cyc + E.1.2.2.2.1, hnd + 0, rst), (packX y.1.1 y.1.2.1 y.1.2.2.2.2.2.1 (cacheX y.1.2.1 y.1.2.2.2.1.2.1 y.2.2.1) E).2.2)) ((val_yes hlt).trans ((val_no hb1).trans ((val_no hb2).trans ((val_yes (hG _)).trans ((val_yes (hR _)).trans (by rw [hV, hE, w1, w2]; simp only [Int.add_zero]; rfl))))))).trans ?_
          refine (fin 0 (.inl rfl)).trans ?_
          exact endT_eq (by simp only [List.length_cons]; omega) (Int.add_assoc _ _ _) (Int.add_assoc _ _ _) (List.append_assoc _ _ _)
/-- (*machine.Machine).steps -/
abbrev SS_stepsTb : List Sh := [.box 0 0, .ty tFault, .ty (.int .i64), .fn 33 (.pair (.box 1 0) (.ty .unit))]
abbrev HS_stepsTb : List Sh := [(shMachB 2 3), (.osl 0 tEvent), (shMemB 4), .rowc tFetched, .rowc (.int .u8)]
abbrev S_stepsTb : Sh := Sh.ty tResult
abbrev HT_stepsTb : List Sh := [Sh.pair (Sh.ty (Ty.pair (Ty.int IntKind.i64) (Ty.pair (Ty.int IntKind.i64) (Ty.pair tSizes (Ty.pair (Ty.int IntKind.i64) Ty.unit))))) (Sh.pair (Sh.ty Ty.str) (Sh.pair (Sh.box 2 0) (Sh.pair (Sh.ty tState) (Sh.pair (Sh.ty Ty.bool) (Sh.pair (Sh.win 3 (Ty.pair tIns (Ty.pair (Ty.int IntKind.i64) (Ty.pair Ty.bool (Ty.pair Ty.bool Ty.unit))))) (Sh.ty Ty.unit)))))), Sh.osl 0 tFault, Sh.pair (Sh.ty (Ty.sl tSpot)) (Sh.pair (Sh.wsl none 4 (Ty.int IntKind.u8)) (Sh.ty Ty.unit)), Sh.rowc (Ty.pair tIns (Ty.pair (Ty.int IntKind.i64) (Ty.pair Ty.bool (Ty.pair Ty.bool Ty.unit)))), Sh.rowc (Ty.int IntKind.u8)]
def T_stepsTb (x : shDens SS_stepsTb) (y : shDens HS_stepsTb) : PO (Sh.den S_stepsTb × shDens HT_stepsTb) :=
  (.opt (LoopN.res L_stepsT ((), x.2.2.1, ((), x.2.2.2.2), (), (), ()) ((y.1.1, y.1.2.1, (), y.1.2.2.2), y.2.1, x.2.1, (false, 0, 0, 0, 0, 0, [], [], [], ()), (false, 0, 0, 0, 0, 0, [], [], [], ()), y.2.2)) fun p0 =>
   (.ret ((p0.2.1.2.2.2.2.1, p0.2.2.2.2.2.1.2), ((p0.2.1.1, p0.2.1.2.1, (), p0.2.1.2.2.2), p0.2.2.1, p0.2.2.2.2.2.2.1, p0.2.2.2.2.2.2.2.1, p0.2.2.2.2.2.2.2.2))))
def G_stepsTb (x : shDens SS_stepsTb) (y : shDens HS_stepsTb) : Bool := decide (MachWf (y.1, y.2.2) ∧ (show Int from x.2.2.1) ≤ 67108864 ∧ (show List tEvent.den from y.2.1).length ≤ 67108864)
def V_stepsEvs (x : tFault.den × Int) (y : MS) : List tEvent.den := (goX y.1.1 y.1.2.1 x.1 x.2.toNat 0 (runSof y)).1
abbrev V_stepsTb (x : shDens SS_stepsTb) (y : shDens HS_stepsTb) : Sh.den S_stepsTb × shDens HT_stepsTb := (V_stepsRes (x.2.1, x.2.2.1) (y.1, y.2.2), (V_stepsEnd (x.2.1, x.2.2.1) (y.1, y.2.2)).1, y.2.1 ++ V_stepsEvs (x.2.1, x.2.2.1) (y.1, y.2.2), (V_stepsEnd (x.2.1, x.2.2.1) (y.1, y.2.2)).2)
theorem ok_stepsTb (x : shDens SS_stepsTb) (y : shDens HS_stepsTb) (h : G_stepsTb x y = true) : (T_stepsTb x y).val = some (V_stepsTb x y) := by
  obtain ⟨hw, hb, hl⟩ := of_decide_eq_true h
  obtain ⟨u, f, budget, u1, u2⟩ := x
  obtain ⟨m, ev, mem, fs, bs⟩ := y
  have hb : budget ≤ 67108864 := hb
  have hl : ev.length ≤ 67108864 := hl
  have hw : MachWf (m, mem, fs, bs) := hw
  unfold T_stepsTb
  have key : LoopN.res L_stepsT ((), budget, ((), u2), (), (), ()) ((m.1, m.2.1, (), m.2.2.2), ev, f, (false, 0, 0, 0, 0, 0, [], [], [], ()), (false, 0, 0, 0, 0, 0, [], [], [], ()), mem, fs, bs) =
      some (0, (V_stepsEnd (f, budget) (m, mem, fs, bs)).1, ev ++ V_stepsEvs (f, budget) (m, mem, fs, bs), f, (false, 0, 0, 0, 0, 0, [], [], [], ()), (false, ((V_stepsEvs (f, budget) (m, mem, fs, bs)).length : Int), cycX (V_stepsEvs (f, budget) (m, mem, fs, bs)), (goX m.1 m.2.1 f budget.toNat 0 (runSof (m, mem, fs, bs))).2.1, 0, 0, [], [], [], ()), (V_stepsEnd (f, budget) (m, mem, fs, bs)).2) := by
    rcases Int.lt_or_le budget 0 with h0 | h0
    · unfold LoopN.res
      have e : budget.toNat = 0 := by omega
      show runL _ (budget.toNat + 1) _ = _
      unfold V_stepsEnd V_stepsEvs
      rw [e]
      refine (runL_out ((val_no ?_).trans rfl)).trans ?_
      · show (!m.2.2.2.2.1 && decide ((0 : Int) < budget)) = false
        rw [dec_false (show ¬ (0 : Int) < budget by omega), Bool.and_false]
      · simp [goX, cgoX, cycX, runSof]
        rfl
    · have := stepsT_from f budget hb (false, 0, 0, 0, 0, 0, [], [], [], ()) (0, 0, [], [], [], ()) false ((), budget, ((), u2), (), (), ()) rfl ((m.1, m.2.1, (), m.2.2.2), ev, f, (false, 0, 0, 0, 0, 0, [], [], [], ()), (false, 0, 0, 0, 0, 0, [], [], [], ()), mem, fs, bs) budget.toNat 0 0 0 ev (m, mem, fs, bs) (by omega) (by omega) hw (by omega) (by omega) (by omega) (by omega)
      unfold LoopN.res
      refine Eq.trans ?_ (this.trans (endT_eq (Int.zero_add _) (Int.zero_add _) (Int.zero_add _) rfl))
      rfl
  exact (val_opt key).trans rfl
/-- What a trace comes to. -/
def traceX (img inp : List UInt8) (budget : Int) : List tEvent.den × Int × Unit :=
  bif (parseX img).2.1 != (0 : Int) then ([], (parseX img).2.1, ())
  else bif lenI inp != (parseX img).1.2.2.1.1 then ([], 2, ())
  else bif decide (budget < 0) || decide (budget > 1048576) then ([], 2, ())
  else (V_stepsEvs (noFault, budget) (startX (parseX img).1 img inp), 0, ())
/-- machine.Trace -/
abbrev A_machine_Trace : List Ty := [.str, .str, (.int .i64)]
abbrev S_machine_Trace : Sh := Sh.tup (Sh.pair (Sh.osl 32 tFault) (Sh.pair (Sh.ty (Ty.int IntKind.i64)) (Sh.ty Ty.unit)))
def T_machine_Trace (x : dens A_machine_Trace) : PO (Sh.den S_machine_Trace) :=
  (.ite ((V_image_Parse x.1).2.1 != 0)
   (.ite ((V_image_Parse x.1).2.1 != 0)
    (.ret (([], (V_image_Parse x.1).2.1, ())))
    (.ite (decide (x.2.2 < 0) || decide (x.2.2 > 1048576))
     (.ret (([], 2, ())))
     .fail))
   (.ite ((V_memmap_Regions ((V_image_Parse x.1).1.2.2.1, lenI x.1)).2.1 != 0)
    (.ite ((V_memmap_Regions ((V_image_Parse x.1).1.2.2.1, lenI x.1)).2.1 != 0)
     (.ite ((V_memmap_Regions ((V_image_Parse x.1).1.2.2.1, lenI x.1)).2.1 != 0)
      (.ret (([], (V_memmap_Regions ((V_image_Parse x.1).1.2.2.1, lenI x.1)).2.1, ())))
      (.ite (decide (x.2.2 < 0) || decide (x.2.2 > 1048576))
       (.ret (([], 2, ())))
       .fail))
     (.ite (roomOk (w64 (w64 (Int.tdiv (lenI x.1) 2) + 1)) 80)
      (.ite (decide (x.2.2 < 0) || decide (x.2.2 > 1048576))
       (.ret (([], 2, ())))
       .fail)
      .fail))
    (.ite (lenI x.2.1 != (V_image_Parse x.1).1.2.2.1.1)
     (.ret (([], 2, ())))
     (.opt (LoopN.res L_memory_New_8 (x.1, x.2.1, (V_memmap_Regions ((V_image_Parse x.1).1.2.2.1, lenI x.1)).1, 0, (V_memmap_Regions ((V_image_Parse x.1).1.2.2.1, lenI x.1)).1, lenI (V_memmap_Regions ((V_image_Parse x.1).1.2.2.1, lenI x.1)).1, 0) ()) fun p0 =>
      (.ite (roomOk p0.2.1 1)
       (.opt (LoopN.res L_memory_New_15 (x.1, x.2.1, (), (0, nspan 0 p0.2.1), (V_memmap_Regions ((V_image_Parse x.1).1.2.2.1, lenI x.1)).1, lenI (V_memmap_Regions ((V_image_Parse x.1).1.2.2.1, lenI x.1)).1, 0) (((V_memmap_Regions ((V_image_Parse x.1).1.2.2.1, lenI x.1)).1, [], ()), zeros p0.2.1 0)) fun p1 =>
        (.ite (inRange 0 (List.length p1.2.2.2.1.2.1))
         (.ite (inRange 1 (List.length p1.2.2.2.1.2.1))
          (.ite (roomOk (w64 (w64 (Int.tdiv (lenI x.1) 2) + 1)) 80)
           (.ite (decide (x.2.2 < 0) || decide (x.2.2 > 1048576))
            (.ret (([], 2, ())))
            (.ite (G_stepsTb ((), (0, 0, 0, 0, ()), x.2.2, (), ()) (((V_image_Parse x.1).1, x.1, (), (List.set (List.set [0, 0, 0, 0, 0, 0, 0, 0, 0, 0, 0, 0, 0, 0, 0] 13 537133056) 14 (V_word_Not 0), (V_image_Parse x.1).1.1, false, false, false, false, ()), false, (0, nspan 0 (w64 (w64 (Int.tdiv (lenI x.1) 2) + 1))), ()), [], p1.2.2.2.1, zeros (w64 (w64 (Int.tdiv (lenI x.1) 2) + 1)) ((0, 0, 0, 0, 0, 0, 0, false, ()), 0, false, false, ()), mend (mend p1.2.2.2.2 (wAt p1.2.2.2.1.2.1 0).1 (strInts x.1) (wAt p1.2.2.2.1.2.1 0).2) (wAt p1.2.2.2.1.2.1 1).1 (strInts x.2.1) (wAt p1.2.2.2.1.2.1 1).2))
             (.ret ((V_stepsEvs ((0, 0, 0, 0, ()), x.2.2) (((V_image_Parse x.1).1, x.1, (), (List.set (List.set [0, 0, 0, 0, 0, 0, 0, 0, 0, 0, 0, 0, 0, 0, 0] 13 537133056) 14 (V_word_Not 0), (V_image_Parse x.1).1.1, false, false, false, false, ()), false, (0, nspan 0 (w64 (w64 (Int.tdiv (lenI x.1) 2) + 1))), ()), p1.2.2.2.1, zeros (w64 (w64 (Int.tdiv (lenI x.1) 2) + 1)) ((0, 0, 0, 0, 0, 0, 0, false, ()), 0, false, false, ()), mend (mend p1.2.2.2.2 (wAt p1.2.2.2.1.2.1 0).1 (strInts x.1) (wAt p1.2.2.2.1.2.1 0).2) (wAt p1.2.2.2.1.2.1 1).1 (strInts x.2.1) (wAt p1.2.2.2.1.2.1 1).2), 0, ())))
             .fail))
           .fail)
          .fail)
         .fail))
       .fail)))))
def G_machine_Trace (_ : dens A_machine_Trace) : Bool := true
def V_machine_Trace (x : dens A_machine_Trace) : Sh.den S_machine_Trace := traceX x.1 x.2.1 x.2.2
theorem ok_machine_Trace (x : dens A_machine_Trace) (_ : G_machine_Trace x = true) : (T_machine_Trace x).val = some (V_machine_Trace x) := by
  obtain ⟨img, inp, budget⟩ := x
  unfold T_machine_Trace
  show _ = some (traceX img inp budget)
  unfold traceX
  show (PO.ite ((parseX img).2.1 != (0 : Int)) _ _).val = _
  cases h1 : ((parseX img).2.1 != (0 : Int)) with
  | true => exact (val_yes rfl).trans ((val_yes h1).trans rfl)
  | false =>
    refine (val_no rfl).trans ?_
    obtain ⟨rs, hn, i, o, r, md, e, f1, f2, f3, f4, f5⟩ := parse_facts img h1
    have hreg : V_memmap_Regions ((V_image_Parse img).1.2.2.1, lenI img) = (regsX (i, o, r, ()) (lenI img), 0, ()) := by
      show V_memmap_Regions ((parseX img).1.2.2.1, lenI img) = _
      rw [e]
      exact regs_val _ _ f1
    obtain ⟨g1, g2, g3⟩ := regsX_ok i o r (lenI img) f1 (by simp only [lenI]; omega)
    have g4 : ∀ q ∈ regsX (i, o, r, ()) (lenI img), 0 ≤ q.2.1 := fun q hq => (g1.2 q hq).2.1
    have hwf := startX_wf rs hn i o r md img inp f1 f2 f3 f4
    simp only [hreg]
    refine (val_no rfl).trans ?_
    show (PO.ite (lenI inp != (parseX img).1.2.2.1.1) _ _).val = _
    simp only [cond_false]
    cases h2 : (lenI inp != (parseX img).1.2.2.1.1) with
    | true => exact (val_yes rfl).trans rfl
    | false =>
      refine (val_no rfl).trans ((val_opt (r := _) (res_8 img inp (regsX (i, o, r, ()) (lenI img)) (by omega) g4 (by omega))).trans ?_)
      refine (val_yes ?_).trans ?_
      · show roomOk ((sumL (regsX (i, o, r, ()) (lenI img)) : Nat) : Int) 1 = true
        simp only [roomOk, Bool.and_eq_true, decide_eq_true_eq]
        omega
      have hsp : nspan 0 ((sumL (regsX (i, o, r, ()) (lenI img)) : Nat) : Int) = sumL (regsX (i, o, r, ()) (lenI img)) := by simp [nspan]
      have e15 := res_15 img inp (regsX (i, o, r, ()) (lenI img)) (zeros ((sumL (regsX (i, o, r, ()) (lenI img)) : Nat) : Int) 0) (by omega) g4
      refine (val_opt (r := _) (by dsimp only; rw [hsp]; exact e15)).trans ?_
      have hw : (winsOf 0 (regsX (i, o, r, ()) (lenI img))).length = 7 := by rw [winsOf_length, g2]
      have hlen : w64 (w64 (Int.tdiv (lenI img) 2) + 1) = ((img.length / 2 + 1 : Nat) : Int) := by
        simp only [lenI] at f4 ⊢
        rw [Int.tdiv_eq_ediv_of_nonneg (by omega), w64_id (n := ((img.length : Nat) : Int) / 2) (by omega) (by omega), w64_id (by omega) (by omega)]
        omega
      refine (val_yes ?_).trans ((val_yes ?_).trans ((val_yes ?_).trans ?_))
      · show inRange 0 (winsOf 0 (regsX (i, o, r, ()) (lenI img))).length = true
        rw [hw]
        rfl
      · show inRange 1 (winsOf 0 (regsX (i, o, r, ()) (lenI img))).length = true
        rw [hw]
        rfl
      · rw [hlen]
        simp only [lenI] at f4
        simp only [roomOk, Bool.and_eq_true, decide_eq_true_eq]
        omega
      · simp only [cond_false]
        cases h3 : (decide (budget < 0) || decide (budget > 1048576)) with
        | true => exact (val_yes rfl).trans rfl
        | false =>
          have hb : (show Int from budget) ≤ 67108864 := by
            simp only [Bool.or_eq_false_iff, decide_eq_false_iff_not] at h3
            have h4 : (show Int from budget) ≤ 1048576 := Int.not_lt.1 h3.2
            exact Int.le_trans h4 (by decide)
          refine (val_no rfl).trans ?_
          rw [hlen]
          have hst : startX (parseX img).1 img inp = startX (rs, hn, (i, o, r, ()), md, ()) img inp := by rw [e]
          rw [hst]
          have hns : nspan 0 ((img.length / 2 + 1 : Nat) : Int) = img.length / 2 + 1 := by simp only [nspan]; omega
          have hz2 : zeros ((img.length / 2 + 1 : Nat) : Int) dfF = List.replicate (img.length / 2 + 1) dfF := by unfold zeros; rw [Int.toNat_natCast]
          show (PO.ite (G_stepsTb ((), (0, 0, 0, 0, ()), budget, (), ()) (((parseX img).1, img, (), (_, (parseX img).1.1, _), false, (0, nspan 0 ((img.length / 2 + 1 : Nat) : Int)), ()), [], _, zeros ((img.length / 2 + 1 : Nat) : Int) dfF, _)) (.ret (V_stepsEvs (noFault, budget) (((parseX img).1, img, (), (_, (parseX img).1.1, _), false, (0, nspan 0 ((img.length / 2 + 1 : Nat) : Int)), ()), _, zeros ((img.length / 2 + 1 : Nat) : Int) dfF, _), 0, ())) .fail).val = _
          rw [hns, hz2, e]
          refine (val_yes ?_).trans rfl
          exact decide_eq_true ⟨hwf, hb, Nat.zero_le _⟩
end Go.Av
end
/-! Layer 9: the statement MachineSkips. -/
section
namespace Go.Av
open Go
def L_hauberklaw09_MachineSkips_10 : LoopN where
  M := [2, 6, 7, 9, 11]
  T := [12, 13, 52, 53, 54, 55, 56, 57, 58, 59, 60, 61, 62, 63, 64, 65, 66, 67, 68, 69, 70, 71, 72]
  D := [11]
  ss := [.ty (.int .i64), .ty .bool, .ty (.sl tEvent), .box 0 0, .ty (.int .i64)]
  hs := [shMachB 1 2, shMemB 3, .rowc tFetched, .rowc (.int .u8)]
  es := [.exit 0, .ret]
  σ := (Ty.den .bool) × (Ty.den (.int .i64)) × (Sh.den (shMachB 1 2)) × (Sh.den (shMemB 3)) × (Sh.den (.rowc tFetched)) × (Sh.den (.rowc (.int .u8)))
  x0 := fun x y => (x.2.1, x.2.2.2.2, y.1, y.2.1, y.2.2.1, y.2.2.2)
  put := fun x _ s => ((x.1, s.1, x.2.2.1, x.2.2.2.1, s.2.1), (s.2.2.1, s.2.2.2.1, s.2.2.2.2.1, s.2.2.2.2.2))
  fuel := fun x _ => Int.toNat x.1+1
  turn := fun x _ s =>
  (.ite (decide (s.2.1 < x.1))
   (.ite (G_machine_Machine_Step ((), 0, 0, 0, 0, ()) ((s.2.2.1.1, s.2.2.1.2.1, (), s.2.2.1.2.2.2), s.2.2.2))
    (.ite (!(V_machine_Machine_Step ((), 0, 0, 0, 0, ()) ((s.2.2.1.1, s.2.2.1.2.1, (), s.2.2.1.2.2.2), s.2.2.2)).1.2.1 || inRange s.2.1 (List.length x.2.2.1))
     (.ite (!(V_machine_Machine_Step ((), 0, 0, 0, 0, ()) ((s.2.2.1.1, s.2.2.1.2.1, (), s.2.2.1.2.2.2), s.2.2.2)).1.2.1 || !Ty.eqb tFault (V_machine_Machine_Step ((), 0, 0, 0, 0, ()) ((s.2.2.1.1, s.2.2.1.2.1, (), s.2.2.1.2.2.2), s.2.2.2)).1.1 (List.getD x.2.2.1 (Int.toNat s.2.1) (Ty.dflt tEvent)))
      (.ret (.out 1 (false, s.2.1, ((V_machine_Machine_Step ((), 0, 0, 0, 0, ()) ((s.2.2.1.1, s.2.2.1.2.1, (), s.2.2.1.2.2.2), s.2.2.2)).2.1.1, (V_machine_Machine_Step ((), 0, 0, 0, 0, ()) ((s.2.2.1.1, s.2.2.1.2.1, (), s.2.2.1.2.2.2), s.2.2.2)).2.1.2.1, (), (V_machine_Machine_Step ((), 0, 0, 0, 0, ()) ((s.2.2.1.1, s.2.2.1.2.1, (), s.2.2.1.2.2.2), s.2.2.2)).2.1.2.2.2), (V_machine_Machine_Step ((), 0, 0, 0, 0, ()) ((s.2.2.1.1, s.2.2.1.2.1, (), s.2.2.1.2.2.2), s.2.2.2)).2.2.1, (V_machine_Machine_Step ((), 0, 0, 0, 0, ()) ((s.2.2.1.1, s.2.2.1.2.1, (), s.2.2.1.2.2.2), s.2.2.2)).2.2.2.1, (V_machine_Machine_Step ((), 0, 0, 0, 0, ()) ((s.2.2.1.1, s.2.2.1.2.1, (), s.2.2.1.2.2.2), s.2.2.2)).2.2.2.2)))
      (.ret (.on (s.1, w64 (s.2.1 + 1), ((V_machine_Machine_Step ((), 0, 0, 0, 0, ()) ((s.2.2.1.1, s.2.2.1.2.1, (), s.2.2.1.2.2.2), s.2.2.2)).2.1.1, (V_machine_Machine_Step ((), 0, 0, 0, 0, ()) ((s.2.2.1.1, s.2.2.1.2.1, (), s.2.2.1.2.2.2), s.2.2.2)).2.1.2.1, (), (V_machine_Machine_Step ((), 0, 0, 0, 0, ()) ((s.2.2.1.1, s.2.2.1.2.1, (), s.2.2.1.2.2.2), s.2.2.2)).2.1.2.2.2), (V_machine_Machine_Step ((), 0, 0, 0, 0, ()) ((s.2.2.1.1, s.2.2.1.2.1, (), s.2.2.1.2.2.2), s.2.2.2)).2.2.1, (V_machine_Machine_Step ((), 0, 0, 0, 0, ()) ((s.2.2.1.1, s.2.2.1.2.1, (), s.2.2.1.2.2.2), s.2.2.2)).2.2.2.1, (V_machine_Machine_Step ((), 0, 0, 0, 0, ()) ((s.2.2.1.1, s.2.2.1.2.1, (), s.2.2.1.2.2.2), s.2.2.2)).2.2.2.2))))
     .fail)
    .fail)
   (.ret (.out 0 (s.1, s.2.1, s.2.2.1, s.2.2.2.1, s.2.2.2.2.1, s.2.2.2.2.2))))
def L_hauberklaw09_MachineSkips_c44 : LoopN where
  M := [6, 14, 15, 17]
  T := [146, 147, 148, 149, 150, 151, 152, 153, 154, 155, 156, 157, 158, 159, 160, 161, 162, 163, 164, 165, 166, 167, 168, 169, 170, 171, 172, 173, 174]
  D := [14, 15, 17]
  ss := [.ty .bool, .box 0 0, .box 1 0, .box 2 0]
  hs := [.ty tState, .ty tEvent, .ty tState]
  es := [.ret]
  σ := (Ty.den .bool) × (Sh.den (.ty tState)) × (Sh.den (.ty tEvent)) × (Sh.den (.ty tState))
  x0 := fun x y => (x.1, y.1, y.2.1, y.2.2)
  put := fun x _ s => ((s.1, x.2.1, x.2.2.1, x.2.2.2), (s.2.1, s.2.2.1, s.2.2.2))
  fuel := fun _ _ => 1
  turn := fun _ _ s =>
  (.ite (bif s.2.2.1.1 == 1 then bif s.2.2.1.2.2.2.1 == 1 then s.2.2.2.2.1 == band IntKind.i64 (w64 (s.2.1.2.1 + 2)) 4294967295 || (s.2.2.2.2.1 == band IntKind.i64 (w64 (s.2.1.2.1 + 4)) 4294967295 || true) else true else true)
   (.ret (.out 0 (s.2.2.1.1 == 1 && (s.2.2.1.2.2.2.1 == 1 && (s.2.2.2.2.1 == band IntKind.i64 (w64 (s.2.1.2.1 + 2)) 4294967295 || s.2.2.2.2.1 == band IntKind.i64 (w64 (s.2.1.2.1 + 4)) 4294967295 && true)), s.2.1, s.2.2.1, s.2.2.2)))
   .fail)
def L_hauberklaw09_MachineSkips_c41 : LoopN where
  M := [2, 6, 7, 14, 15, 17]
  T := [134, 135, 136, 137, 138, 139, 140, 141, 142, 143, 144, 145, 146, 147, 148, 149, 150, 151, 152, 153, 154, 155, 156, 157, 158, 159, 160, 161, 162, 163, 164, 165, 166, 167, 168, 169, 170, 171, 172, 173, 174]
  D := [2, 7, 14, 15, 17]
  ss := [.ty (.int .i64), .ty .bool, .ty (.sl tEvent), .box 0 0, .box 1 0, .box 2 0]
  hs := [.ty tState, .ty tEvent, .ty tState]
  es := [.ret]
  σ := (Ty.den .bool) × (Sh.den (.ty tState)) × (Sh.den (.ty tEvent)) × (Sh.den (.ty tState))
  x0 := fun x y => (x.2.1, y.1, y.2.1, y.2.2)
  put := fun x _ s => ((x.1, s.1, x.2.2.1, x.2.2.2.1, x.2.2.2.2.1, x.2.2.2.2.2), (s.2.1, s.2.2.1, s.2.2.2))
  fuel := fun _ _ => 1
  turn := fun x _ s =>
  (.ite (s.2.2.1.1 == 2)
   (.ite (inRange x.1 (List.length x.2.2.1) && (Ty.eqb tFault s.2.2.1 (List.getD x.2.2.1 (Int.toNat x.1) (Ty.dflt tEvent)) || true))
    (.ret (.out 0 (Ty.eqb tFault s.2.2.1 (List.getD x.2.2.1 (Int.toNat x.1) (Ty.dflt tEvent)) && true, s.2.1, s.2.2.1, s.2.2.2)))
    .fail)
   (.opt (LoopN.res L_hauberklaw09_MachineSkips_c44 (s.1, (), (), ()) s.2) fun p0 =>
    (.ret (.out 0 (p0.2.1, p0.2.2.1, p0.2.2.2.1, p0.2.2.2.2)))))
def K_hauberklaw09_MachineSkips_c37_0 (x : shDens [.ty (.int .i64), .ty .bool, .ty (.sl tEvent), .box 0 0, .box 1 0, .box 2 0, .ty .bool, .box 3 0]) (y : shDens [shMachB 4 5, .ty tState, .ty tEvent, .ty tState, shMemB 6, .rowc tFetched, .rowc (.int .u8)]) (s : (Ty.den .bool) × (Sh.den (shMachB 4 5)) × (Sh.den (.ty tState)) × (Sh.den (.ty tEvent)) × (Sh.den (.ty tState)) × (Sh.den (shMemB 6)) × (Sh.den (.rowc tFetched)) × (Sh.den (.rowc (.int .u8)))) := LoopN.res L_hauberklaw09_MachineSkips_c41 (x.1, s.1, x.2.2.1, (), (), ()) (s.2.2.1, s.2.2.2.1, s.2.2.2.2.1)
def L_hauberklaw09_MachineSkips_c37 : LoopN where
  M := [2, 6, 7, 9, 14, 15, 16, 17]
  T := [83, 84, 85, 86, 87, 88, 89, 90, 91, 92, 93, 94, 95, 96, 97, 98, 99, 100, 101, 102, 103, 104, 105, 106, 107, 108, 109, 110, 111, 112, 113, 114, 115, 116, 117, 118, 119, 120, 121, 122, 123, 124, 125, 126, 127, 128, 129, 130, 131, 132, 133, 134, 135, 136, 137, 138, 139, 140, 141, 142, 143, 144, 145, 146, 147, 148, 149, 150, 151, 152, 153, 154, 155, 156, 157, 158, 159, 160, 161, 162, 163, 164, 165, 166, 167, 168, 169, 170, 171, 172, 173, 174]
  D := [2, 7, 9, 14, 15, 16, 17]
  ss := [.ty (.int .i64), .ty .bool, .ty (.sl tEvent), .box 0 0, .box 1 0, .box 2 0, .ty .bool, .box 3 0]
  hs := [shMachB 4 5, .ty tState, .ty tEvent, .ty tState, shMemB 6, .rowc tFetched, .rowc (.int .u8)]
  es := [.ret]
  σ := (Ty.den .bool) × (Sh.den (shMachB 4 5)) × (Sh.den (.ty tState)) × (Sh.den (.ty tEvent)) × (Sh.den (.ty tState)) × (Sh.den (shMemB 6)) × (Sh.den (.rowc tFetched)) × (Sh.den (.rowc (.int .u8)))
  x0 := fun x y => (x.2.1, y.1, y.2.1, y.2.2.1, y.2.2.2.1, y.2.2.2.2.1, y.2.2.2.2.2.1, y.2.2.2.2.2.2)
  put := fun x _ s => ((x.1, s.1, x.2.2.1, x.2.2.2.1, x.2.2.2.2.1, x.2.2.2.2.2.1, x.2.2.2.2.2.2.1, x.2.2.2.2.2.2.2), (s.2.1, s.2.2.1, s.2.2.2.1, s.2.2.2.2.1, s.2.2.2.2.2.1, s.2.2.2.2.2.2.1, s.2.2.2.2.2.2.2))
  fuel := fun _ _ => 1
  turn := fun x y s =>
  (.ite (!x.2.2.2.2.2.2.1 || inRange x.1 (List.length x.2.2.1) && (s.2.2.2.1.2.1 != (List.getD x.2.2.1 (Int.toNat x.1) (Ty.dflt tEvent)).2.1 || true))
   (.ite (!x.2.2.2.2.2.2.1 || (s.2.2.2.1.2.1 != (List.getD x.2.2.1 (Int.toNat x.1) (Ty.dflt tEvent)).2.1 || (s.2.1.2.2.2.2.1 || (!Ty.eqb (Ty.arr 15 (Ty.int IntKind.i64)) s.2.2.2.2.1.1 s.2.2.1.1 || (!s.2.2.2.2.1.2.2.1 == s.2.2.1.2.2.1 || (!s.2.2.2.2.1.2.2.2.1 == s.2.2.1.2.2.2.1 || (!s.2.2.2.2.1.2.2.2.2.1 == s.2.2.1.2.2.2.2.1 || !s.2.2.2.2.1.2.2.2.2.2.1 == s.2.2.1.2.2.2.2.2.1)))))))
    (.ret (.out 0 (false, s.2.1, s.2.2.1, s.2.2.2.1, s.2.2.2.2.1, s.2.2.2.2.2.1, s.2.2.2.2.2.2.1, s.2.2.2.2.2.2.2)))
    (.opt (K_hauberklaw09_MachineSkips_c37_0 x y s) fun p0 =>
     (.ret (.out 0 (p0.2.1, (s.2.1.1, s.2.1.2.1, (), s.2.1.2.2.2), p0.2.2.1, p0.2.2.2.1, p0.2.2.2.2, s.2.2.2.2.2.1, s.2.2.2.2.2.2.1, s.2.2.2.2.2.2.2)))))
   .fail)
/-- hauberklaw09.MachineSkips -/
abbrev A_hauberklaw09_MachineSkips : List Ty := [.str, .str, (.int .i64)]
abbrev S_hauberklaw09_MachineSkips : Sh := Sh.ty Ty.bool
def T_hauberklaw09_MachineSkips (x : dens A_hauberklaw09_MachineSkips) : PO (Sh.den S_hauberklaw09_MachineSkips) :=
  (.ite (!V_hauberklaw09_most x.2.2)
   (.ret (true))
   (.ite ((V_machine_Trace (x.1, x.2.1, w64 (x.2.2 + 1))).2.1 != 0 || lenI (V_machine_Trace (x.1, x.2.1, w64 (x.2.2 + 1))).1 != w64 (x.2.2 + 1))
    (.ret (true))
    (.ite ((V_image_Parse x.1).2.1 != 0)
     (.ite ((V_image_Parse x.1).2.1 != 0 || true)
      (.ret (false))
      .fail)
     (.ite ((V_memmap_Regions ((V_image_Parse x.1).1.2.2.1, lenI x.1)).2.1 != 0)
      (.ite ((V_memmap_Regions ((V_image_Parse x.1).1.2.2.1, lenI x.1)).2.1 != 0)
       (.ite ((V_memmap_Regions ((V_image_Parse x.1).1.2.2.1, lenI x.1)).2.1 != 0 || true)
        (.ret (false))
        .fail)
       (.ite (roomOk (w64 (w64 (Int.tdiv (lenI x.1) 2) + 1)) 80)
        .fail
        .fail))
      (.ite (lenI x.2.1 != (V_image_Parse x.1).1.2.2.1.1)
       (.ret (false))
       (.opt (LoopN.res L_memory_New_8 (x.1, x.2.1, (V_memmap_Regions ((V_image_Parse x.1).1.2.2.1, lenI x.1)).1, 0, (V_memmap_Regions ((V_image_Parse x.1).1.2.2.1, lenI x.1)).1, lenI (V_memmap_Regions ((V_image_Parse x.1).1.2.2.1, lenI x.1)).1, 0) ()) fun p0 =>
        (.ite (roomOk p0.2.1 1)
         (.opt (LoopN.res L_memory_New_15 (x.1, x.2.1, (), (0, nspan 0 p0.2.1), (V_memmap_Regions ((V_image_Parse x.1).1.2.2.1, lenI x.1)).1, lenI (V_memmap_Regions ((V_image_Parse x.1).1.2.2.1, lenI x.1)).1, 0) (((V_memmap_Regions ((V_image_Parse x.1).1.2.2.1, lenI x.1)).1, [], ()), zeros p0.2.1 0)) fun p1 =>
          (.ite (inRange 0 (List.length p1.2.2.2.1.2.1))
           (.ite (inRange 1 (List.length p1.2.2.2.1.2.1))
            (.ite (roomOk (w64 (w64 (Int.tdiv (lenI x.1) 2) + 1)) 80)
             (.opt (LoopN.res L_hauberklaw09_MachineSkips_10 (x.2.2, false, (V_machine_Trace (x.1, x.2.1, w64 (x.2.2 + 1))).1, (), 0) (((V_image_Parse x.1).1, x.1, (), (List.set (List.set [0, 0, 0, 0, 0, 0, 0, 0, 0, 0, 0, 0, 0, 0, 0] 13 537133056) 14 (V_word_Not 0), (V_image_Parse x.1).1.1, false, false, false, false, ()), false, (0, nspan 0 (w64 (w64 (Int.tdiv (lenI x.1) 2) + 1))), ()), p1.2.2.2.1, zeros (w64 (w64 (Int.tdiv (lenI x.1) 2) + 1)) ((0, 0, 0, 0, 0, 0, 0, false, ()), 0, false, false, ()), mend (mend p1.2.2.2.2 (wAt p1.2.2.2.1.2.1 0).1 (strInts x.1) (wAt p1.2.2.2.1.2.1 0).2) (wAt p1.2.2.2.1.2.1 1).1 (strInts x.2.1) (wAt p1.2.2.2.1.2.1 1).2)) fun p2 =>
              (.ite (way p2.1)
               (.ite (G_machine_Machine_Step ((), 1, 0, 0, 0, ()) ((p2.2.2.2.1.1, p2.2.2.2.1.2.1, (), p2.2.2.2.1.2.2.2), p2.2.2.2.2))
                (.opt (LoopN.res L_hauberklaw09_MachineSkips_c37 (x.2.2, p2.2.1, (V_machine_Trace (x.1, x.2.1, w64 (x.2.2 + 1))).1, (), (), (), (V_machine_Machine_Step ((), 1, 0, 0, 0, ()) ((p2.2.2.2.1.1, p2.2.2.2.1.2.1, (), p2.2.2.2.1.2.2.2), p2.2.2.2.2)).1.2.1, ()) (((V_machine_Machine_Step ((), 1, 0, 0, 0, ()) ((p2.2.2.2.1.1, p2.2.2.2.1.2.1, (), p2.2.2.2.1.2.2.2), p2.2.2.2.2)).2.1.1, (V_machine_Machine_Step ((), 1, 0, 0, 0, ()) ((p2.2.2.2.1.1, p2.2.2.2.1.2.1, (), p2.2.2.2.1.2.2.2), p2.2.2.2.2)).2.1.2.1, (), (V_machine_Machine_Step ((), 1, 0, 0, 0, ()) ((p2.2.2.2.1.1, p2.2.2.2.1.2.1, (), p2.2.2.2.1.2.2.2), p2.2.2.2.2)).2.1.2.2.2), p2.2.2.2.1.2.2.2.1, (V_machine_Machine_Step ((), 1, 0, 0, 0, ()) ((p2.2.2.2.1.1, p2.2.2.2.1.2.1, (), p2.2.2.2.1.2.2.2), p2.2.2.2.2)).1.1, (V_machine_Machine_Step ((), 1, 0, 0, 0, ()) ((p2.2.2.2.1.1, p2.2.2.2.1.2.1, (), p2.2.2.2.1.2.2.2), p2.2.2.2.2)).2.1.2.2.2.1, (V_machine_Machine_Step ((), 1, 0, 0, 0, ()) ((p2.2.2.2.1.1, p2.2.2.2.1.2.1, (), p2.2.2.2.1.2.2.2), p2.2.2.2.2)).2.2)) fun p3 =>
                 (.ret (p3.2.1)))
                .fail)
               (.ret (p2.2.1))))
             .fail)
            .fail)
           .fail))
         .fail)))))))
end Go.Av
end
/-! machine.Step's closure: where nothing panics it does nothing; a trap it recovers. -/
section
namespace Go.Proofs.Ytamnhodjidmlcaa
open Go Go.Av Go.Proofs Go.RowKit

noncomputable def stepRest : Code := match Try.f30.body with
  | some (.seq _ r) => r
  | _ => .skip

theorem trapZero (w : World) : (Instr.typeAssert .nilIface 20 79 true).run Try.prog w = .ok (.tuple #[.agg #[.int .i64 0], .bool false]) w := by
  kernel_rfl
theorem trapSome (v : Value) (w : World) : (Instr.typeAssert (.iface 79 v) 20 79 true).run Try.prog w = .ok (.tuple #[v, .bool true]) w := by
  kernel_rfl

theorem step_enter (cap : Array Value) (w : World) : (invoke (.fn (.func 30) cap) #[]).run Try.prog w = .ok (.enter 30 cap) w := by
  have h1 : (Try.f30.name == "runtime.NumGoroutine") = false := by kernel_rfl
  have h2 : Try.f30.body.isNone = false := by kernel_rfl
  have h3 : Try.prog.funcs[30]? = some Try.f30 := Try.func30
  simp only [invoke, callFunc]
  rw [show (#[] : Array Value) ++ cap = cap by simp]
  simp only [Sem.run_bind, run_program, Result.andThen_ok, h3, h1, h2, Bool.false_eq_true, if_false]
  rfl

set_option maxRecDepth 100000 in
set_option maxHeartbeats 2000000 in
theorem step_catches : Catches Try.prog 30 79 Try.f30 stepRest where
  enter := step_enter
  idle := fun p0 p1 p2 w => by
    refine callsD_of_wpS (c := .seq (.region _ _ false) stepRest) Try.func30 rfl fun c₀ cs hu => ?_
    simp only [Try.ntmps30, List.size_toArray, List.length_cons, List.length_nil, Nat.reduceAdd, Nat.reduceSub, Array.replicate_succ, Array.replicate_zero, List.push_toArray, List.append_toArray, List.nil_append, List.cons_append]
    apply wpS_seq
    apply wpS_region
    simp [wpOpsS, go_sem, recoverD, hu, Exit.thenS, trapZero]
    refine wpS_of_wp ?_
    refine Code.wp_mono (Q := fun e a' w' => e = .normal ∧ a'.defers = [] ∧ w' = w.alloc (.cells #[.int .i64 0] 79)) (fun e a' w' hq => ?_) ?_
    · obtain ⟨rfl, hd, rfl⟩ := hq
      exact ⟨hd, .returning, by rw [← hu], _, results_none rfl _ _ _, ⟨_, rfl⟩, rfl, rfl⟩
    · show Code.wp _ (.seq (.region _ _ false) (.cond (.tmp 10) _ .skip)) _ _ _
      refine wp_seq (wp_region ?_)
      simp [wpOps, go_sem, Exit.then]
      refine .inl (wp_cond (t := false) ?_ ?_)
      · simp [Act.eval]
      simp only [Bool.false_eq_true, if_false]
      exact wp_skip ⟨rfl, rfl, rfl⟩
  caught := fun p0 p1 p2 m w Rr h => by
    refine callsD_of_wpS (c := .seq (.region _ _ false) stepRest) Try.func30 rfl fun c₀ cs hu => ?_
    simp only [Try.ntmps30, List.size_toArray, List.length_cons, List.length_nil, Nat.reduceAdd, Nat.reduceSub, Array.replicate_succ, Array.replicate_zero, List.push_toArray, List.append_toArray, List.nil_append, List.cons_append]
    apply wpS_seq
    apply wpS_region
    simp [wpOpsS, go_sem, recoverD, hu, Exit.thenS, trapSome]
    refine wpS_of_wp (Code.wp_mono (fun e a' w' hq => ?_) (h _ rfl rfl rfl rfl rfl rfl))
    obtain ⟨he, hd, hr⟩ := hq
    rcases he with rfl | rfl
    · exact ⟨hd, _, rfl, _, results_none rfl _ _ _, ⟨_, rfl⟩, rfl, hr⟩
    · exact ⟨hd, _, rfl, _, results_none rfl _ _ _, ⟨_, rfl⟩, rfl, hr⟩

theorem step_ok {C : Ctx} (hC : Av.Good C) (hP : C.P = Try.prog) (unroll d : Nat) : BodyOk C.P 14 (evStep C drawOk unroll d 14 30 79) :=
  evStep_ok hC (gn := Try.f30) (rest := stepRest) (by rw [hP]; exact Try.func30) rfl (by rw [hP]; exact step_catches)
end Go.Proofs.Ytamnhodjidmlcaa
end
/-! machine.Done: it reads whether a machine is done. -/
section
namespace Go.Proofs.Ytamnhodjidmlcaa
open Go Go.Av Go.Proofs Go.RowKit

theorem done_nil (b : Nat) (w : World) : (binOp BinOp.eql 33 (.pointer (some ⟨b, 0, none⟩)) (.pointer none)).run Try.prog w = .ok (.bool false) w := by kernel_rfl
set_option maxRecDepth 100000 in
theorem done_get : GetOk Try.prog 13 (28, 4) := by
  intro w b r h
  have h1 := done_nil b w
  go_enter Try.func13, Try.ntmps13
  go_wp2
  exact ⟨rfl, r, by simp [results, Try.results13], rfl, rfl⟩
end Go.Proofs.Ytamnhodjidmlcaa
end
/-! The functions that the statements reach, walked: chain Skp. Written by wip/tools/gen.py out of wip/conf/Skp.txt. -/
section
namespace Go.Proofs.Ytamnhodjidmlcaa
open Go Go.Av Go.Proofs
noncomputable def cSkp0 : Ctx := baseC Try.prog [109, 53, 85, 23, 48, 27, 113, 37, 61, 101, 46]
theorem cSkp0_good : Av.Good cSkp0 := good_base (by kernel_rfl) (by kernel_rfl) (by kernel_rfl)
noncomputable def cSkp1 : Ctx := cSkp0.addPlain 82 (plainT A_thumb_within G_thumb_within S_thumb_within V_thumb_within)
theorem cSkp1_good : Av.Good cSkp1 := cSkp0_good.fnP S_thumb_within T_thumb_within G_thumb_within V_thumb_within 2 8 (by kernel_rfl) (fun x => by kernel_rfl) ok_thumb_within
noncomputable def cSkp2 : Ctx := cSkp1.addPlain 83 (plainT A_thumb_field G_thumb_field S_thumb_field V_thumb_field)
theorem cSkp2_good : Av.Good cSkp2 := cSkp1_good.fnP S_thumb_field T_thumb_field G_thumb_field V_thumb_field 2 8 (by kernel_rfl) (fun x => by kernel_rfl) ok_thumb_field
noncomputable def cSkp3 : Ctx := cSkp2.addPlain 81 (plainT A_thumb_formOf G_thumb_formOf S_thumb_formOf V_thumb_formOf)
theorem cSkp3_good : Av.Good cSkp3 := cSkp2_good.fnP S_thumb_formOf T_thumb_formOf G_thumb_formOf V_thumb_formOf 2 8 (by kernel_rfl) (fun x => by kernel_rfl) ok_thumb_formOf
noncomputable def cSkp4 : Ctx := cSkp3.addPlain 100 (plainT A_thumb_Reach G_thumb_Reach S_thumb_Reach V_thumb_Reach)
theorem cSkp4_good : Av.Good cSkp4 := cSkp3_good.fnP S_thumb_Reach T_thumb_Reach G_thumb_Reach V_thumb_Reach 3 8 (by kernel_rfl) (fun x => by kernel_rfl) ok_thumb_Reach
noncomputable def cSkp5 : Ctx := cSkp4.addPlain 80 (plainT A_thumb_branch G_thumb_branch S_thumb_branch V_thumb_branch)
theorem cSkp5_good : Av.Good cSkp5 := cSkp4_good.fnP S_thumb_branch T_thumb_branch G_thumb_branch V_thumb_branch 3 8 (by kernel_rfl) (fun x => by kernel_rfl) ok_thumb_branch
noncomputable def cSkp6 : Ctx := cSkp5.addPlain 66 (plainT A_thumb_Check G_thumb_Check S_thumb_Check V_thumb_Check)
theorem cSkp6_good : Av.Good cSkp6 := cSkp5_good.fnP S_thumb_Check T_thumb_Check G_thumb_Check V_thumb_Check 3 8 (by kernel_rfl) (fun x => by kernel_rfl) ok_thumb_Check
noncomputable def cSkp7 : Ctx := cSkp6.addPlain 116 (plainT A_thumb_put G_thumb_put S_thumb_put V_thumb_put)
theorem cSkp7_good : Av.Good cSkp7 := cSkp6_good.fnP S_thumb_put T_thumb_put G_thumb_put V_thumb_put 2 6 (by kernel_rfl) (fun x => by kernel_rfl) ok_thumb_put
noncomputable def cSkp8 : Ctx := cSkp7.addPlain 102 (plainT A_thumb_shifted G_thumb_shifted S_thumb_shifted V_thumb_shifted)
theorem cSkp8_good : Av.Good cSkp8 := cSkp7_good.fnP S_thumb_shifted T_thumb_shifted G_thumb_shifted V_thumb_shifted 4 8 (by kernel_rfl) (fun x => by kernel_rfl) ok_thumb_shifted
noncomputable def cSkp9 : Ctx := cSkp8.addPlain 101 (plainT A_thumb_move G_thumb_move S_thumb_move V_thumb_move)
theorem cSkp9_good : Av.Good cSkp9 := cSkp8_good.fnP S_thumb_move T_thumb_move G_thumb_move V_thumb_move 4 8 (by kernel_rfl) (fun x => by kernel_rfl) ok_thumb_move
noncomputable def cSkp10 : Ctx := cSkp9.addPlain 117 (plainT A_thumb_short G_thumb_short S_thumb_short V_thumb_short)
theorem cSkp10_good : Av.Good cSkp10 := cSkp9_good.fnP S_thumb_short T_thumb_short G_thumb_short V_thumb_short 4 8 (by kernel_rfl) (fun x => by kernel_rfl) ok_thumb_short
noncomputable def cSkp11 : Ctx := cSkp10.addPlain 118 (plainT A_thumb_wide G_thumb_wide S_thumb_wide V_thumb_wide)
theorem cSkp11_good : Av.Good cSkp11 := cSkp10_good.fnP S_thumb_wide T_thumb_wide G_thumb_wide V_thumb_wide 4 8 (by kernel_rfl) (fun x => by kernel_rfl) ok_thumb_wide
noncomputable def cSkp12 : Ctx := cSkp11.addPlain 103 (plainT A_thumb_others G_thumb_others S_thumb_others V_thumb_others)
theorem cSkp12_good : Av.Good cSkp12 := cSkp11_good.fnP S_thumb_others T_thumb_others G_thumb_others V_thumb_others 4 8 (by kernel_rfl) (fun x => by kernel_rfl) ok_thumb_others
noncomputable def cSkp13 : Ctx := cSkp12.addPlain 86 (plainT A_thumb_bits G_thumb_bits S_thumb_bits V_thumb_bits)
theorem cSkp13_good : Av.Good cSkp13 := cSkp12_good.fnP S_thumb_bits T_thumb_bits G_thumb_bits V_thumb_bits 4 8 (by kernel_rfl) (fun x => by kernel_rfl) ok_thumb_bits
noncomputable def cSkp14 : Ctx := cSkp13.addPlain 70 (plainT A_thumb_Size G_thumb_Size S_thumb_Size V_thumb_Size)
theorem cSkp14_good : Av.Good cSkp14 := cSkp13_good.fnP S_thumb_Size T_thumb_Size G_thumb_Size V_thumb_Size 4 8 (by kernel_rfl) (fun x => by kernel_rfl) ok_thumb_Size
noncomputable def cSkp15 : Ctx := cSkp14.addPlain 47 (plainT A_word_Wrap G_word_Wrap S_word_Wrap V_word_Wrap)
theorem cSkp15_good : Av.Good cSkp15 := cSkp14_good.fnP S_word_Wrap T_word_Wrap G_word_Wrap V_word_Wrap 2 8 (by kernel_rfl) (fun x => by kernel_rfl) ok_word_Wrap
noncomputable def cSkp16 : Ctx := cSkp15.addPlain 64 (plainT A_word_many G_word_many S_word_many V_word_many)
theorem cSkp16_good : Av.Good cSkp16 := cSkp15_good.fnP S_word_many T_word_many G_word_many V_word_many 2 8 (by kernel_rfl) (fun x => by kernel_rfl) ok_word_many
noncomputable def cSkp17 : Ctx := cSkp16.addPlain 50 (plainT A_word_Add G_word_Add S_word_Add V_word_Add)
theorem cSkp17_good : Av.Good cSkp17 := cSkp16_good.fnP S_word_Add T_word_Add G_word_Add V_word_Add 2 8 (by kernel_rfl) (fun x => by kernel_rfl) ok_word_Add
noncomputable def cSkp18 : Ctx := cSkp17.addPlain 111 (plainT A_word_Sub G_word_Sub S_word_Sub V_word_Sub)
theorem cSkp18_good : Av.Good cSkp18 := cSkp17_good.fnP S_word_Sub T_word_Sub G_word_Sub V_word_Sub 2 8 (by kernel_rfl) (fun x => by kernel_rfl) ok_word_Sub
noncomputable def cSkp19 : Ctx := cSkp18.addPlain 112 (plainT A_word_product G_word_product S_word_product V_word_product)
theorem cSkp19_good : Av.Good cSkp19 := cSkp18_good.fnP S_word_product T_word_product G_word_product V_word_product 2 8 (by kernel_rfl) (fun x => by kernel_rfl) ok_word_product
noncomputable def cSkp20 : Ctx := cSkp19.addPlain 90 (plainT A_word_Mul G_word_Mul S_word_Mul V_word_Mul)
theorem cSkp20_good : Av.Good cSkp20 := cSkp19_good.fnP S_word_Mul T_word_Mul G_word_Mul V_word_Mul 2 8 (by kernel_rfl) (fun x => by kernel_rfl) ok_word_Mul
noncomputable def cSkp21 : Ctx := cSkp20.addPlain 91 (plainT A_word_High G_word_High S_word_High V_word_High)
theorem cSkp21_good : Av.Good cSkp21 := cSkp20_good.fnP S_word_High T_word_High G_word_High V_word_High 2 8 (by kernel_rfl) (fun x => by kernel_rfl) ok_word_High
noncomputable def cSkp22 : Ctx := cSkp21.addPlain 28 (plainT A_word_Not G_word_Not S_word_Not V_word_Not)
theorem cSkp22_good : Av.Good cSkp22 := cSkp21_good.fnP S_word_Not T_word_Not G_word_Not V_word_Not 2 8 (by kernel_rfl) (fun x => by kernel_rfl) ok_word_Not
noncomputable def cSkp23 : Ctx := cSkp22.addPlain 109 (plainT A_word_And G_word_And S_word_And V_word_And)
theorem cSkp23_good : Av.Good cSkp23 := cSkp22_good.fnP S_word_And T_word_And G_word_And V_word_And 2 8 (by kernel_rfl) (fun x => by kernel_rfl) ok_word_And
noncomputable def cSkp24 : Ctx := cSkp23.addPlain 110 (plainT A_word_Or G_word_Or S_word_Or V_word_Or)
theorem cSkp24_good : Av.Good cSkp24 := cSkp23_good.fnP S_word_Or T_word_Or G_word_Or V_word_Or 2 8 (by kernel_rfl) (fun x => by kernel_rfl) ok_word_Or
noncomputable def cSkp25 : Ctx := cSkp24.addPlain 63 (plainT A_word_Xor G_word_Xor S_word_Xor V_word_Xor)
theorem cSkp25_good : Av.Good cSkp25 := cSkp24_good.fnP S_word_Xor T_word_Xor G_word_Xor V_word_Xor 2 8 (by kernel_rfl) (fun x => by kernel_rfl) ok_word_Xor
noncomputable def cSkp26 : Ctx := cSkp25.addPlain 105 (plainT A_word_Shl G_word_Shl S_word_Shl V_word_Shl)
theorem cSkp26_good : Av.Good cSkp26 := cSkp25_good.fnP S_word_Shl T_word_Shl G_word_Shl V_word_Shl 2 8 (by kernel_rfl) (fun x => by kernel_rfl) ok_word_Shl
noncomputable def cSkp27 : Ctx := cSkp26.addPlain 106 (plainT A_word_Shr G_word_Shr S_word_Shr V_word_Shr)
theorem cSkp27_good : Av.Good cSkp27 := cSkp26_good.fnP S_word_Shr T_word_Shr G_word_Shr V_word_Shr 2 8 (by kernel_rfl) (fun x => by kernel_rfl) ok_word_Shr
noncomputable def cSkp28 : Ctx := cSkp27.addPlain 107 (plainT A_word_Sar G_word_Sar S_word_Sar V_word_Sar)
theorem cSkp28_good : Av.Good cSkp28 := cSkp27_good.fnP S_word_Sar T_word_Sar G_word_Sar V_word_Sar 2 8 (by kernel_rfl) (fun x => by kernel_rfl) ok_word_Sar
noncomputable def cSkp29 : Ctx := cSkp28.addPlain 108 (plainT A_word_Ror G_word_Ror S_word_Ror V_word_Ror)
theorem cSkp29_good : Av.Good cSkp29 := cSkp28_good.fnP S_word_Ror T_word_Ror G_word_Ror V_word_Ror 2 8 (by kernel_rfl) (fun x => by kernel_rfl) ok_word_Ror
noncomputable def cSkp30 : Ctx := cSkp29.addPlain 104 (plainT A_word_Select G_word_Select S_word_Select V_word_Select)
theorem cSkp30_good : Av.Good cSkp30 := cSkp29_good.fnP S_word_Select T_word_Select G_word_Select V_word_Select 2 8 (by kernel_rfl) (fun x => by kernel_rfl) ok_word_Select
noncomputable def cSkp31 : Ctx := cSkp30.addPlain 113 (plainT A_word_Bit G_word_Bit S_word_Bit V_word_Bit)
theorem cSkp31_good : Av.Good cSkp31 := cSkp30_good.fnP S_word_Bit T_word_Bit G_word_Bit V_word_Bit 2 8 (by kernel_rfl) (fun x => by kernel_rfl) ok_word_Bit
noncomputable def cSkp32 : Ctx := cSkp31.addPlain 74 (plainT A_hauberkref01_Wrap G_hauberkref01_Wrap S_hauberkref01_Wrap V_hauberkref01_Wrap)
theorem cSkp32_good : Av.Good cSkp32 := cSkp31_good.fnP S_hauberkref01_Wrap T_hauberkref01_Wrap G_hauberkref01_Wrap V_hauberkref01_Wrap 2 8 (by kernel_rfl) (fun x => by kernel_rfl) ok_hauberkref01_Wrap
noncomputable def cSkp33 : Ctx := cSkp32.addPlain 85 (plainT A_cpu_Holds G_cpu_Holds S_cpu_Holds V_cpu_Holds)
theorem cSkp33_good : Av.Good cSkp33 := cSkp32_good.fnP S_cpu_Holds T_cpu_Holds G_cpu_Holds V_cpu_Holds 2 8 (by kernel_rfl) (fun x => by kernel_rfl) ok_cpu_Holds
noncomputable def cSkp34 : Ctx := cSkp33.addPlain 69 (plainT A_cpu_goes G_cpu_goes S_cpu_goes V_cpu_goes)
theorem cSkp34_good : Av.Good cSkp34 := cSkp33_good.fnP S_cpu_goes T_cpu_goes G_cpu_goes V_cpu_goes 2 8 (by kernel_rfl) (fun x => by kernel_rfl) ok_cpu_goes
noncomputable def cSkp35 : Ctx := cSkp34.addLoop 67 2 L_cpu_words_2.toT.toLoop
theorem cSkp35_good : Av.Good cSkp35 := cSkp34_good.loopN L_cpu_words_2 2 8 (by kernel_rfl) (fun _ _ => rfl) (fun x y s m K => by kernel_rfl) (fun x y s s' K e => by kernel_rfl)
noncomputable def cSkp36 : Ctx := cSkp35.addPlain 67 (plainT A_cpu_words G_cpu_words S_cpu_words V_cpu_words)
theorem cSkp36_good : Av.Good cSkp36 := cSkp35_good.fnP S_cpu_words T_cpu_words G_cpu_words V_cpu_words 2 8 (by kernel_rfl) (fun x => by kernel_rfl) ok_cpu_words
noncomputable def cSkp37 : Ctx := cSkp36.addPlain 87 (plainT A_cpu_insert G_cpu_insert S_cpu_insert V_cpu_insert)
theorem cSkp37_good : Av.Good cSkp37 := cSkp36_good.fnP S_cpu_insert T_cpu_insert G_cpu_insert V_cpu_insert 2 8 (by kernel_rfl) (fun x => by kernel_rfl) ok_cpu_insert
noncomputable def cSkp38 : Ctx := cSkp37.addPlain 88 (plainT A_cpu_shifted G_cpu_shifted S_cpu_shifted V_cpu_shifted)
theorem cSkp38_good : Av.Good cSkp38 := cSkp37_good.fnP S_cpu_shifted T_cpu_shifted G_cpu_shifted V_cpu_shifted 2 8 (by kernel_rfl) (fun x => by kernel_rfl) ok_cpu_shifted
noncomputable def cSkp39 : Ctx := cSkp38.addPlain 89 (plainT A_cpu_two G_cpu_two S_cpu_two V_cpu_two)
theorem cSkp39_good : Av.Good cSkp39 := cSkp38_good.fnP S_cpu_two T_cpu_two G_cpu_two V_cpu_two 2 8 (by kernel_rfl) (fun x => by kernel_rfl) ok_cpu_two
noncomputable def cSkp40 : Ctx := cSkp39.addPlain 92 (plainT A_cpu_compare G_cpu_compare S_cpu_compare V_cpu_compare)
theorem cSkp40_good : Av.Good cSkp40 := cSkp39_good.fnP S_cpu_compare T_cpu_compare G_cpu_compare V_cpu_compare 2 8 (by kernel_rfl) (fun x => by kernel_rfl) ok_cpu_compare
noncomputable def cSkp41 : Ctx := cSkp40.addPlain 71 (plainT A_cpu_makes G_cpu_makes S_cpu_makes V_cpu_makes)
theorem cSkp41_good : Av.Good cSkp41 := cSkp40_good.fnP S_cpu_makes T_cpu_makes G_cpu_makes V_cpu_makes 2 8 (by kernel_rfl) (fun x => by kernel_rfl) ok_cpu_makes
noncomputable def cSkp42 : Ctx := cSkp41.addPlain 51 (plainT A_cpu_Access G_cpu_Access S_cpu_Access V_cpu_Access)
theorem cSkp42_good : Av.Good cSkp42 := cSkp41_good.fnP S_cpu_Access T_cpu_Access G_cpu_Access V_cpu_Access 2 8 (by kernel_rfl) (fun x => by kernel_rfl) ok_cpu_Access
noncomputable def cSkp43 : Ctx := cSkp42.addPlain 54 (plainT A_cpu_Step G_cpu_Step S_cpu_Step V_cpu_Step)
theorem cSkp43_good : Av.Good cSkp43 := cSkp42_good.fnP S_cpu_Step T_cpu_Step G_cpu_Step V_cpu_Step 2 8 (by kernel_rfl) (fun x => by kernel_rfl) ok_cpu_Step
noncomputable def cSkp44 : Ctx := cSkp43.addPlain 53 (plainT A_cpu_Cycles G_cpu_Cycles S_cpu_Cycles V_cpu_Cycles)
theorem cSkp44_good : Av.Good cSkp44 := cSkp43_good.fnP S_cpu_Cycles T_cpu_Cycles G_cpu_Cycles V_cpu_Cycles 2 8 (by kernel_rfl) (fun x => by kernel_rfl) ok_cpu_Cycles
noncomputable def cSkp45 : Ctx := cSkp44.addPlain 56 (plainT A_memmap_Check G_memmap_Check S_memmap_Check V_memmap_Check)
theorem cSkp45_good : Av.Good cSkp45 := cSkp44_good.fnP S_memmap_Check T_memmap_Check G_memmap_Check V_memmap_Check 2 8 (by kernel_rfl) (fun x => by kernel_rfl) ok_memmap_Check
noncomputable def cSkp46 : Ctx := cSkp45.addPlain 93 (plainT A_memmap_has G_memmap_has S_memmap_has V_memmap_has)
theorem cSkp46_good : Av.Good cSkp46 := cSkp45_good.fnP S_memmap_has T_memmap_has G_memmap_has V_memmap_has 2 8 (by kernel_rfl) (fun x => by kernel_rfl) ok_memmap_has
noncomputable def cSkp47 : Ctx := cSkp46.addLoop 75 6 L_memmap_Find_6.toT.toLoop
theorem cSkp47_good : Av.Good cSkp47 := cSkp46_good.loopN L_memmap_Find_6 2 8 (by kernel_rfl) (fun _ _ => rfl) (fun x y s m K => by kernel_rfl) (fun x y s s' K e => by kernel_rfl)
noncomputable def cSkp48 : Ctx := cSkp47.addPlain 75 (plainT A_memmap_Find G_memmap_Find S_memmap_Find V_memmap_Find)
theorem cSkp48_good : Av.Good cSkp48 := cSkp47_good.fnP S_memmap_Find T_memmap_Find G_memmap_Find V_memmap_Find 2 8 (by kernel_rfl) (fun x => by kernel_rfl) ok_memmap_Find
noncomputable def cSkp49 : Ctx := cSkp48.addPlain 84 (plainT A_word_Bytes G_word_Bytes S_word_Bytes V_word_Bytes)
theorem cSkp49_good : Av.Good cSkp49 := cSkp48_good.fnP S_word_Bytes T_word_Bytes G_word_Bytes V_word_Bytes 2 8 (by kernel_rfl) (fun x => by kernel_rfl) ok_word_Bytes
noncomputable def cSkp50 : Ctx := cSkp49.addLoop 42 6 L_memory_Memory_Load_6.toT.toLoop
theorem cSkp50_good : Av.Good cSkp50 := cSkp49_good.loopN L_memory_Memory_Load_6 2 8 (by kernel_rfl) (fun _ _ => rfl) (fun x y s m K => by kernel_rfl) (fun x y s s' K e => by kernel_rfl)
noncomputable def cSkp51 : Ctx := cSkp50.addBody 42 (bodyT SS_memory_Memory_Load HS_memory_Memory_Load S_memory_Memory_Load HT_memory_Memory_Load G_memory_Memory_Load V_memory_Memory_Load)
theorem cSkp51_good : Av.Good cSkp51 := cSkp50_good.fnB S_memory_Memory_Load T_memory_Memory_Load G_memory_Memory_Load V_memory_Memory_Load 2 8 (by kernel_rfl) (fun x y => by kernel_rfl) ok_memory_Memory_Load
noncomputable def cSkp52 : Ctx := cSkp51.addBody 68 (bodyT SS_memory_Memory_Store HS_memory_Memory_Store S_memory_Memory_Store HT_memory_Memory_Store G_memory_Memory_Store V_memory_Memory_Store)
theorem cSkp52_good : Av.Good cSkp52 := cSkp51_good.fnB S_memory_Memory_Store T_memory_Memory_Store G_memory_Memory_Store V_memory_Memory_Store 2 8 (by kernel_rfl) (fun x y => by kernel_rfl) ok_memory_Memory_Store
noncomputable def cSkp53 : Ctx := cSkp52.addBody 32 (bodyT SS_memory_Memory_Region HS_memory_Memory_Region S_memory_Memory_Region HT_memory_Memory_Region G_memory_Memory_Region V_memory_Memory_Region)
theorem cSkp53_good : Av.Good cSkp53 := cSkp52_good.fnB S_memory_Memory_Region T_memory_Memory_Region G_memory_Memory_Region V_memory_Memory_Region 2 8 (by kernel_rfl) (fun x y => by kernel_rfl) ok_memory_Memory_Region
noncomputable def cSkp54 : Ctx := cSkp53.addPlain 46 (plainT A_memmap_Regions G_memmap_Regions S_memmap_Regions V_memmap_Regions)
theorem cSkp54_good : Av.Good cSkp54 := cSkp53_good.fnP S_memmap_Regions T_memmap_Regions G_memmap_Regions V_memmap_Regions 2 8 (by kernel_rfl) (fun x => by kernel_rfl) ok_memmap_Regions
noncomputable def cSkp55 : Ctx := cSkp54.addLoop 27 8 L_memory_New_8.toT.toLoop
theorem cSkp55_good : Av.Good cSkp55 := cSkp54_good.loopN L_memory_New_8 2 8 (by kernel_rfl) (fun _ _ => rfl) (fun x y s m K => by kernel_rfl) (fun x y s s' K e => by kernel_rfl)
noncomputable def cSkp56 : Ctx := cSkp55.addLoop 27 15 L_memory_New_15.toT.toLoop
theorem cSkp56_good : Av.Good cSkp56 := cSkp55_good.loopN L_memory_New_15 2 8 (by kernel_rfl) (fun _ _ => rfl) (fun x y s m K => by kernel_rfl) (fun x y s s' K e => by kernel_rfl)
noncomputable def cSkp57 : Ctx := cSkp56.addPlain 94 (plainT A_decode_some G_decode_some S_decode_some V_decode_some)
theorem cSkp57_good : Av.Good cSkp57 := cSkp56_good.fnP S_decode_some T_decode_some G_decode_some V_decode_some 2 8 (by kernel_rfl) (fun x => by kernel_rfl) ok_decode_some
noncomputable def cSkp58 : Ctx := cSkp57.addPlain 78 (plainT A_decode_half G_decode_half S_decode_half V_decode_half)
theorem cSkp58_good : Av.Good cSkp58 := cSkp57_good.fnP S_decode_half T_decode_half G_decode_half V_decode_half 2 8 (by kernel_rfl) (fun x => by kernel_rfl) ok_decode_half
noncomputable def cSkp59 : Ctx := cSkp58.addPlain 95 (plainT A_decode_signed G_decode_signed S_decode_signed V_decode_signed)
theorem cSkp59_good : Av.Good cSkp59 := cSkp58_good.fnP S_decode_signed T_decode_signed G_decode_signed V_decode_signed 2 8 (by kernel_rfl) (fun x => by kernel_rfl) ok_decode_signed
noncomputable def cSkp60 : Ctx := cSkp59.addLoop 114 2 L_decode_regs_2.toT.toLoop
theorem cSkp60_good : Av.Good cSkp60 := cSkp59_good.loopN L_decode_regs_2 2 8 (by kernel_rfl) (fun _ _ => rfl) (fun x y s m K => by kernel_rfl) (fun x y s s' K e => by kernel_rfl)
noncomputable def cSkp61 : Ctx := cSkp60.addPlain 114 (plainT A_decode_regs G_decode_regs S_decode_regs V_decode_regs)
theorem cSkp61_good : Av.Good cSkp61 := cSkp60_good.fnP S_decode_regs T_decode_regs G_decode_regs V_decode_regs 2 8 (by kernel_rfl) (fun x => by kernel_rfl) ok_decode_regs
noncomputable def cSkp62 : Ctx := cSkp61.addPlain 76 (plainT A_decode_Size G_decode_Size S_decode_Size V_decode_Size)
theorem cSkp62_good : Av.Good cSkp62 := cSkp61_good.fnP S_decode_Size T_decode_Size G_decode_Size V_decode_Size 2 8 (by kernel_rfl) (fun x => by kernel_rfl) ok_decode_Size
noncomputable def cSkp63 : Ctx := cSkp62.addPlain 77 (plainT A_decode_narrow G_decode_narrow S_decode_narrow V_decode_narrow)
theorem cSkp63_good : Av.Good cSkp63 := cSkp62_good.fnP S_decode_narrow T_decode_narrow G_decode_narrow V_decode_narrow 2 12 (by kernel_rfl) (fun x => by kernel_rfl) ok_decode_narrow
noncomputable def cSkp64 : Ctx := cSkp63.addPlain 96 (plainT A_decode_three G_decode_three S_decode_three V_decode_three)
theorem cSkp64_good : Av.Good cSkp64 := cSkp63_good.fnP S_decode_three T_decode_three G_decode_three V_decode_three 3 12 (by kernel_rfl) (fun x => by kernel_rfl) ok_decode_three
noncomputable def cSkp65 : Ctx := cSkp64.addPlain 97 (plainT A_decode_product G_decode_product S_decode_product V_decode_product)
theorem cSkp65_good : Av.Good cSkp65 := cSkp64_good.fnP S_decode_product T_decode_product G_decode_product V_decode_product 2 12 (by kernel_rfl) (fun x => by kernel_rfl) ok_decode_product
noncomputable def cSkp66 : Ctx := cSkp65.addPlain 98 (plainT A_decode_plain G_decode_plain S_decode_plain V_decode_plain)
theorem cSkp66_good : Av.Good cSkp66 := cSkp65_good.fnP S_decode_plain T_decode_plain G_decode_plain V_decode_plain 2 12 (by kernel_rfl) (fun x => by kernel_rfl) ok_decode_plain
noncomputable def cSkp67 : Ctx := cSkp66.addPlain 99 (plainT A_decode_branch G_decode_branch S_decode_branch V_decode_branch)
theorem cSkp67_good : Av.Good cSkp67 := cSkp66_good.fnP S_decode_branch T_decode_branch G_decode_branch V_decode_branch 2 12 (by kernel_rfl) (fun x => by kernel_rfl) ok_decode_branch
noncomputable def cSkp68 : Ctx := cSkp67.addPlain 79 (plainT A_decode_long G_decode_long S_decode_long V_decode_long)
theorem cSkp68_good : Av.Good cSkp68 := cSkp67_good.fnP S_decode_long T_decode_long G_decode_long V_decode_long 2 12 (by kernel_rfl) (fun x => by kernel_rfl) ok_decode_long
noncomputable def cSkp69 : Ctx := cSkp68.addPlain 65 (plainT A_decode_Decode G_decode_Decode S_decode_Decode V_decode_Decode)
theorem cSkp69_good : Av.Good cSkp69 := cSkp68_good.fnP S_decode_Decode T_decode_Decode G_decode_Decode V_decode_Decode 2 12 (by kernel_rfl) (fun x => by kernel_rfl) ok_decode_Decode
noncomputable def cSkp70 : Ctx := cSkp69.addPlain 48 (plainT A_word_Flip G_word_Flip S_word_Flip V_word_Flip)
theorem cSkp70_good : Av.Good cSkp70 := cSkp69_good.fnP S_word_Flip T_word_Flip G_word_Flip V_word_Flip 2 8 (by kernel_rfl) (fun x => by kernel_rfl) ok_word_Flip
noncomputable def cSkp71 : Ctx := cSkp70.addPlain 11 (plainT A_machine_Check G_machine_Check S_machine_Check V_machine_Check)
theorem cSkp71_good : Av.Good cSkp71 := cSkp70_good.fnP S_machine_Check T_machine_Check G_machine_Check V_machine_Check 2 8 (by kernel_rfl) (fun x => by kernel_rfl) ok_machine_Check
noncomputable def cSkp72 : Ctx := cSkp71.addBody 29 (bodyT SS_machine_Machine_hit HS_machine_Machine_hit S_machine_Machine_hit HT_machine_Machine_hit G_machine_Machine_hit V_machine_Machine_hit)
theorem cSkp72_good : Av.Good cSkp72 := cSkp71_good.fnB S_machine_Machine_hit T_machine_Machine_hit G_machine_Machine_hit V_machine_Machine_hit 3 8 (by kernel_rfl) (fun x y => by kernel_rfl) ok_machine_Machine_hit
noncomputable def cSkp73 : Ctx := cSkp72.addCut 49 5 L_machine_Machine_fetch_c5.toT.toLoop
theorem cSkp73_good : Av.Good cSkp73 := cSkp72_good.cutN L_machine_Machine_fetch_c5 2 8 (by kernel_rfl) (fun _ _ => rfl) (fun x y K => by kernel_rfl)
noncomputable def cSkp74 : Ctx := cSkp73.addBody 13 (bodyT SS_machine_Machine_Done HS_machine_Machine_Done S_machine_Machine_Done HT_machine_Machine_Done G_machine_Machine_Done V_machine_Machine_Done)
theorem cSkp74_good : Av.Good cSkp74 := cSkp73_good.fnB S_machine_Machine_Done T_machine_Machine_Done G_machine_Machine_Done V_machine_Machine_Done 2 8 (by kernel_rfl) (fun x y => by kernel_rfl) ok_machine_Machine_Done
noncomputable def cSkp75 : Ctx := cSkp74.addBody 17 (bodyT SS_machine_Machine_State HS_machine_Machine_State S_machine_Machine_State HT_machine_Machine_State G_machine_Machine_State V_machine_Machine_State)
theorem cSkp75_good : Av.Good cSkp75 := cSkp74_good.fnB S_machine_Machine_State T_machine_Machine_State G_machine_Machine_State V_machine_Machine_State 2 8 (by kernel_rfl) (fun x y => by kernel_rfl) ok_machine_Machine_State
noncomputable def cSkp76 : Ctx := cSkp75.addBody 15 (bodyT SS_machine_Machine_Region HS_machine_Machine_Region S_machine_Machine_Region HT_machine_Machine_Region G_machine_Machine_Region V_machine_Machine_Region)
theorem cSkp76_good : Av.Good cSkp76 := cSkp75_good.fnB S_machine_Machine_Region T_machine_Machine_Region G_machine_Machine_Region V_machine_Machine_Region 3 8 (by kernel_rfl) (fun x y => by kernel_rfl) ok_machine_Machine_Region
noncomputable def cSkp77 : Ctx := cSkp76.addBody 24 (bodyT SS_machine_Machine_number HS_machine_Machine_number S_machine_Machine_number HT_machine_Machine_number G_machine_Machine_number V_machine_Machine_number)
theorem cSkp77_good : Av.Good cSkp77 := cSkp76_good.fnB S_machine_Machine_number T_machine_Machine_number G_machine_Machine_number V_machine_Machine_number 3 8 (by kernel_rfl) (fun x y => by kernel_rfl) ok_machine_Machine_number
noncomputable def cSkp78 : Ctx := cSkp77.addBody 25 (bodyT SS_machine_Machine_bytes HS_machine_Machine_bytes S_machine_Machine_bytes HT_machine_Machine_bytes G_machine_Machine_bytes V_machine_Machine_bytes)
theorem cSkp78_good : Av.Good cSkp78 := cSkp77_good.fnB S_machine_Machine_bytes T_machine_Machine_bytes G_machine_Machine_bytes V_machine_Machine_bytes 3 8 (by kernel_rfl) (fun x y => by kernel_rfl) ok_machine_Machine_bytes
noncomputable def cSkp79 : Ctx := cSkp78.addBody 14 (evStep cSkp78 drawOk 8 4 14 30 79)
theorem cSkp79_good : Av.Good cSkp79 := cSkp78_good.addBody (step_ok cSkp78_good (by kernel_rfl) 8 4) (by kernel_rfl)
noncomputable def cSkp80 : Ctx := cSkp79.addBody 14 (bodyT SS_machine_Machine_Step HS_machine_Machine_Step S_machine_Machine_Step HT_machine_Machine_Step G_machine_Machine_Step V_machine_Machine_Step)
theorem cSkp80_good : Av.Good cSkp80 := cSkp79_good.fnB S_machine_Machine_Step T_machine_Machine_Step G_machine_Machine_Step V_machine_Machine_Step 2 8 (by kernel_rfl) (fun x y => by kernel_rfl) ok_machine_Machine_Step
noncomputable def cSkp81 : Ctx := cSkp80.addLoop 22 2 L_stepsR.toT.toLoop
theorem cSkp81_good : Av.Good cSkp81 := cSkp80_good.loopN L_stepsR 3 8 (by kernel_rfl) (fun _ _ => rfl) (fun x y s m K => by kernel_rfl) (fun x y s s' K e => by kernel_rfl)
noncomputable def cSkp82 : Ctx := cSkp81.addBody 22 (bodyT SS_machine_Machine_steps HS_machine_Machine_steps S_machine_Machine_steps HT_machine_Machine_steps G_machine_Machine_steps V_machine_Machine_steps)
theorem cSkp82_good : Av.Good cSkp82 := cSkp81_good.fnB S_machine_Machine_steps T_machine_Machine_steps G_machine_Machine_steps V_machine_Machine_steps 3 8 (by kernel_rfl) (fun x y => by kernel_rfl) ok_machine_Machine_steps
noncomputable def cSkp83 : Ctx := cSkp82.addPlain 61 (plainT A_word_Of G_word_Of S_word_Of V_word_Of)
theorem cSkp83_good : Av.Good cSkp83 := cSkp82_good.fnP S_word_Of T_word_Of G_word_Of V_word_Of 2 8 (by kernel_rfl) (fun x => by kernel_rfl) ok_word_Of
noncomputable def cSkp84 : Ctx := cSkp83.addPlain 62 (plainT A_image_place G_image_place S_image_place V_image_place)
theorem cSkp84_good : Av.Good cSkp84 := cSkp83_good.fnP S_image_place T_image_place G_image_place V_image_place 2 8 (by kernel_rfl) (fun x => by kernel_rfl) ok_image_place
noncomputable def cSkp85 : Ctx := cSkp84.addPlain 43 (plainT A_image_at G_image_at S_image_at V_image_at)
theorem cSkp85_good : Av.Good cSkp85 := cSkp84_good.fnP S_image_at T_image_at G_image_at V_image_at 2 8 (by kernel_rfl) (fun x => by kernel_rfl) ok_image_at
noncomputable def cSkp86 : Ctx := cSkp85.addPlain 44 (plainT A_image_check G_image_check S_image_check V_image_check)
theorem cSkp86_good : Av.Good cSkp86 := cSkp85_good.fnP S_image_check T_image_check G_image_check V_image_check 3 8 (by kernel_rfl) (fun x => by kernel_rfl) ok_image_check
noncomputable def cSkp87 : Ctx := cSkp86.addPlain 45 (plainT A_image_front G_image_front S_image_front V_image_front)
theorem cSkp87_good : Av.Good cSkp87 := cSkp86_good.fnP S_image_front T_image_front G_image_front V_image_front 2 20 (by kernel_rfl) (fun x => by kernel_rfl) ok_image_front
noncomputable def cSkp88 : Ctx := cSkp87.addLoop 26 7 L_image_Parse_7.toT.toLoop
theorem cSkp88_good : Av.Good cSkp88 := cSkp87_good.loopN L_image_Parse_7 3 8 (by kernel_rfl) (fun _ _ => rfl) (fun x y s m K => by kernel_rfl) (fun x y s s' K e => by kernel_rfl)
noncomputable def cSkp89 : Ctx := cSkp88.addPlain 26 (plainT A_image_Parse G_image_Parse S_image_Parse V_image_Parse)
theorem cSkp89_good : Av.Good cSkp89 := cSkp88_good.fnP S_image_Parse T_image_Parse G_image_Parse V_image_Parse 4 8 (by kernel_rfl) (fun x => by kernel_rfl) ok_image_Parse
noncomputable def cSkp90 : Ctx := cSkp89.addCut 10 12 L_machine_Run_c12.toT.toLoop
theorem cSkp90_good : Av.Good cSkp90 := cSkp89_good.cutN L_machine_Run_c12 6 12 (by kernel_rfl) (fun _ _ => rfl) (fun x y K => by kernel_rfl)
noncomputable def cSkp91 : Ctx := cSkp90.addPlain 10 (plainT A_machine_Run G_machine_Run S_machine_Run V_machine_Run)
theorem cSkp91_good : Av.Good cSkp91 := cSkp90_good.fnP S_machine_Run T_machine_Run G_machine_Run V_machine_Run 6 12 (by kernel_rfl) (fun x => by kernel_rfl) ok_machine_Run
noncomputable def cSkp92 : Ctx := cSkp91.addPlain 8 (plainT A_hauberklaw09_most G_hauberklaw09_most S_hauberklaw09_most V_hauberklaw09_most)
theorem cSkp92_good : Av.Good cSkp92 := cSkp91_good.fnP S_hauberklaw09_most T_hauberklaw09_most G_hauberklaw09_most V_hauberklaw09_most 2 8 (by kernel_rfl) (fun x => by kernel_rfl) ok_hauberklaw09_most
noncomputable def cSkp93 : Ctx := cSkp92.addPlain 9 (plainT A_hauberklaw09_lives G_hauberklaw09_lives S_hauberklaw09_lives V_hauberklaw09_lives)
theorem cSkp93_good : Av.Good cSkp93 := cSkp92_good.fnP S_hauberklaw09_lives T_hauberklaw09_lives G_hauberklaw09_lives V_hauberklaw09_lives 12 40 (by kernel_rfl) (fun x => by kernel_rfl) ok_hauberklaw09_lives
noncomputable def cSkp94 : Ctx := cSkp93.addLoop 22 2 L_stepsT.toT.toLoop
theorem cSkp94_good : Av.Good cSkp94 := cSkp93_good.loopN L_stepsT 3 8 (by kernel_rfl) (fun _ _ => rfl) (fun x y s m K => by kernel_rfl) (fun x y s s' K e => by kernel_rfl)
noncomputable def cSkp95 : Ctx := cSkp94.dropBody 22
theorem cSkp95_good : Av.Good cSkp95 := cSkp94_good.dropBody 22
noncomputable def cSkp96 : Ctx := cSkp95.addBody 22 (bodyT SS_stepsTb HS_stepsTb S_stepsTb HT_stepsTb G_stepsTb V_stepsTb)
theorem cSkp96_good : Av.Good cSkp96 := cSkp95_good.fnB S_stepsTb T_stepsTb G_stepsTb V_stepsTb 3 8 (by kernel_rfl) (fun x y => by kernel_rfl) ok_stepsTb
noncomputable def cSkp97 : Ctx := cSkp96.addPlain 16 (plainT A_machine_Trace G_machine_Trace S_machine_Trace V_machine_Trace)
theorem cSkp97_good : Av.Good cSkp97 := cSkp96_good.fnP S_machine_Trace T_machine_Trace G_machine_Trace V_machine_Trace 6 12 (by kernel_rfl) (fun x => by kernel_rfl) ok_machine_Trace
noncomputable def cSkp98 : Ctx := cSkp97.addGet 13 (28, 4)
theorem cSkp98_good : Av.Good cSkp98 := cSkp97_good.addGet done_get (by kernel_rfl)
noncomputable def cSkp99 : Ctx := cSkp98.addLoop 5 10 L_hauberklaw09_MachineSkips_10.toT.toLoop
theorem cSkp99_good : Av.Good cSkp99 := cSkp98_good.loopN L_hauberklaw09_MachineSkips_10 3 8 (by kernel_rfl) (fun _ _ => rfl) (fun x y s m K => by kernel_rfl) (fun x y s s' K e => by kernel_rfl)
noncomputable def cSkp100 : Ctx := cSkp99.addCut 5 44 L_hauberklaw09_MachineSkips_c44.toT.toLoop
theorem cSkp100_good : Av.Good cSkp100 := cSkp99_good.cutN L_hauberklaw09_MachineSkips_c44 3 8 (by kernel_rfl) (fun _ _ => rfl) (fun x y K => by kernel_rfl)
noncomputable def cSkp101 : Ctx := cSkp100.addCut 5 41 L_hauberklaw09_MachineSkips_c41.toT.toLoop
theorem cSkp101_good : Av.Good cSkp101 := cSkp100_good.cutN L_hauberklaw09_MachineSkips_c41 3 8 (by kernel_rfl) (fun _ _ => rfl) (fun x y K => by kernel_rfl)
noncomputable def cSkp102 : Ctx := cSkp101.addCut 5 37 L_hauberklaw09_MachineSkips_c37.toT.toLoop
theorem cSkp102_good : Av.Good cSkp102 := cSkp101_good.cutN L_hauberklaw09_MachineSkips_c37 3 8 (by kernel_rfl) (fun _ _ => rfl) (fun x y K => by kernel_rfl)
noncomputable def cSkp : Ctx := cSkp102
theorem cSkp_good : Av.Good cSkp := cSkp102_good
end Go.Proofs.Ytamnhodjidmlcaa
end
/-! Layer 9: what is known of runs, in plain terms. -/
section
namespace Go.Av
open Go

theorem now_none (k : Int) : nowX noFault k = noFault := by
  unfold nowX
  cases noFault.2.1 == k <;> rfl

section
variable (hd : tHead.den) (fl : List UInt8) (f : tFault.den)

theorem go_done {n : Nat} {k : Int} {s : RunS} (h : s.2.1 = true) : goX hd fl f n k s = ([], 0, s) := by
  cases n with
  | zero => rfl
  | succ n => rw [goX, h]; rfl
end

end Go.Av
end
/-! Layer 3: an instruction's bytes, and what is decoded out of bytes. -/
section
namespace Go.Av
open Go
section
variable (op rd rn rm ra imm cond : Int) (w : Bool)
/-- An instruction's bytes. -/
def eBytes : List UInt8 := bif (V_hauberkref02_Bits (op, w)).length == 16 then by2 (hb (e1 op rd rn rm ra imm cond w) 0) else by2 (hb (e1 op rd rn rm ra imm cond w) 0) ++ by2 (hb (e2 op rd rn rm ra imm cond w) 0)
end
theorem by2_half (a b : UInt8) : by2 (a.toNat + 256 * b.toNat) = [a, b] := by
  have ha := a.toNat_lt
  have hb := b.toNat_lt
  unfold by2
  rw [show (a.toNat + 256 * b.toNat) % 256 = a.toNat by omega, show (a.toNat + 256 * b.toNat) / 256 = b.toNat by omega]
  have key : ∀ x : UInt8, toByte ((x.toNat : Nat) : Int) = x := fun x => by
    show UInt8.ofNat (((x.toNat : Nat) : Int).toNat) = x
    rw [Int.toNat_natCast, UInt8.ofNat_toNat]
  rw [key, key]
theorem take2 {s : List UInt8} (h : 2 ≤ s.length) : by2 (halfN s 0) = s.take 2 := by
  match s, h with
  | a :: b :: r, _ => exact by2_half a b
theorem take4 {s : List UInt8} (h : 4 ≤ s.length) : by2 (halfN s 0) ++ by2 (halfN s 1) = s.take 4 := by
  match s, h with
  | a :: b :: c :: d :: r, _ =>
    have h1 : by2 (halfN (a :: b :: c :: d :: r) 0) = [a, b] := by2_half a b
    have h2 : by2 (halfN (a :: b :: c :: d :: r) 1) = [c, d] := by2_half c d
    rw [h1, h2]
    rfl
theorem hb_hx (s : List UInt8) (k : Nat) : hb (hx s k) 0 = halfN s k := by
  unfold hx
  rw [bitsN_hb, Nat.mod_eq_of_lt (halfN_lt s k)]
/-- What is decoded has just those bytes; else there is an error. -/
theorem dec_only (s : List UInt8) : (∃ op rd rn rm ra imm cond w, okB op rd rn rm ra imm cond w = true ∧ dDec s = ((op, rd, rn, rm, ra, imm, cond, w, ()), lenI (eBytes op rd rn rm ra imm cond w), 0, ()) ∧ lenI (eBytes op rd rn rm ra imm cond w) ≤ lenI s ∧ s.take (eBytes op rd rn rm ra imm cond w).length = eBytes op rd rn rm ra imm cond w) ∨ dDec s = (zI, 0, 3, ()) ∨ dDec s = (zI, 0, 7, ()) := by
  unfold dDec
  cases h2 : decide (lenI s < 2)
  · have h2 : ¬ ((s.length : Nat) : Int) < 2 := of_decide_eq_false h2
    cases hb : Nat.ble 59392 (halfN s 0)
    · cases hd : dNarrow (hx s 0) with
      | none => exact .inr (.inr rfl)
      | some i =>
        obtain ⟨op, rd, rn, rm, ra, imm, cond, w, rfl, _, hok, hlen, hl⟩ := narrow_enc (hx_len s 0) hd
        have e : e1 op rd rn rm ra imm cond w = hx s 0 := by
          unfold e1
          rw [List.take_of_length_le (by omega)]
          exact hl
        have eb : eBytes op rd rn rm ra imm cond w = s.take 2 := by
          unfold eBytes
          rw [hlen, e, hb_hx, ← take2 (by omega)]
          rfl
        have l2 : (s.take 2).length = 2 := by rw [List.length_take]; omega
        refine .inl ⟨op, rd, rn, rm, ra, imm, cond, w, hok, ?_, ?_, ?_⟩
        · rw [eb]
          show ((op, rd, rn, rm, ra, imm, cond, w, ()), (2 : Int), (0 : Int), ()) = ((op, rd, rn, rm, ra, imm, cond, w, ()), (((s.take 2).length : Nat) : Int), (0 : Int), ())
          rw [l2]
          rfl
        · rw [eb]
          show (((s.take 2).length : Nat) : Int) ≤ ((s.length : Nat) : Int)
          omega
        · rw [eb, l2]
    · cases h4 : decide (lenI s < 4)
      · have h4 : ¬ ((s.length : Nat) : Int) < 4 := of_decide_eq_false h4
        cases hd : dLong (hx s 0) (hx s 1) with
        | none => exact .inr (.inr rfl)
        | some i =>
          obtain ⟨op, rd, rn, rm, ra, imm, cond, w, rfl, _, hok, hlen, hl, hl2⟩ := long_enc (hx_len s 0) (hx_len s 1) hd
          have eb : eBytes op rd rn rm ra imm cond w = s.take 4 := by
            unfold eBytes e1 e2
            rw [hlen, hl, hl2, hb_hx, hb_hx, ← take4 (by omega)]
            rfl
          have l4 : (s.take 4).length = 4 := by rw [List.length_take]; omega
          refine .inl ⟨op, rd, rn, rm, ra, imm, cond, w, hok, ?_, ?_, ?_⟩
          · rw [eb]
            show ((op, rd, rn, rm, ra, imm, cond, w, ()), (4 : Int), (0 : Int), ()) = ((op, rd, rn, rm, ra, imm, cond, w, ()), (((s.take 4).length : Nat) : Int), (0 : Int), ())
            rw [l4]
            rfl
          · rw [eb]
            show (((s.take 4).length : Nat) : Int) ≤ ((s.length : Nat) : Int)
            omega
          · rw [eb, l4]
      · exact .inr (.inl rfl)
  · exact .inr (.inl rfl)
theorem eBytes_len {op rd rn rm ra imm cond : Int} {w : Bool} (h : okB op rd rn rm ra imm cond w = true) : (eBytes op rd rn rm ra imm cond w).length = 2 ∨ (eBytes op rd rn rm ra imm cond w).length = 4 := by
  rcases two_ok op rd rn rm ra imm cond w h with ⟨h1, _, _⟩ | ⟨h1, _, _⟩
  · left; unfold eBytes; rw [h1]; rfl
  · right; unfold eBytes; rw [h1]; rfl
end Go.Av
end
/-! Of a run that a skip at a step changes nothing ahead of, the skipped step is seen as one of one cycle at the same place, or traps there as it did: proved of what the function computes. -/
section
namespace Go.Av
open Go

/-- The loop that makes the steps ahead: the machine that it leaves. -/
theorem skips_from (a : Int) (ha : a ≤ 5000) (l : List tEvent.den) (x : shDens L_hauberklaw09_MachineSkips_10.ss) (hx : x.1 = a) (hl : x.2.2.1 = l) (y0 : shDens L_hauberklaw09_MachineSkips_10.hs) :
    ∀ (n k : Nat) (y : MS), (k : Int) + n = a → MachWf y → l.length = k + n + 1 → (goX y.1.1 y.1.2.1 noFault (n + 1) k (runSof y)).1 = l.drop k →
      ∃ y' : MS, MachWf y' ∧ y'.1.1 = y.1.1 ∧ y'.1.2.1 = y.1.2.1 ∧ (goX y.1.1 y.1.2.1 noFault 1 a (runSof y')).1 = l.drop (k + n) ∧
        runL (L_hauberklaw09_MachineSkips_10.turn x y0) (n + 1) (false, (k : Int), y.1, y.2.1, y.2.2.1, y.2.2.2) = some (0, (false, a, y'.1, y'.2.1, y'.2.2.1, y'.2.2.2)) := by
  intro n
  induction n with
  | zero =>
    intro k y hk hw hlen hgo
    have hk' : (k : Int) = a := by omega
    refine ⟨y, hw, rfl, rfl, by rw [← hk']; exact hgo, ?_⟩
    refine (runL_out ((val_no ?_).trans rfl)).trans ?_
    · show decide ((k : Int) < x.1) = false
      rw [hx, dec_false (show ¬ (k : Int) < a by omega)]
    · rw [hk']
      rfl
  | succ n ih =>
    intro k y hk hw hlen hgo
    have hdrop : l.drop k = l.getD k (Ty.dflt tEvent) :: l.drop (k + 1) := by
      rw [List.drop_eq_getElem_cons (by omega), List.getD_eq_getElem?_getD, List.getElem?_eq_getElem (by omega)]
      rfl
    cases hd : y.1.2.2.2.2.1 with
    | true =>
      rw [go_done _ _ _ (show (runSof y).2.1 = true from hd), hdrop] at hgo
      cases hgo
    | false =>
      have hlt : decide ((k : Int) < x.1) = true := by
        rw [hx, dec_true (show (k : Int) < a by omega)]
      have hG : G_machine_Machine_Step ((), 0, 0, 0, 0, ()) ((y.1.1, y.1.2.1, (), y.1.2.2.2), y.2) = true := decide_eq_true hw
      have hV : V_machine_Machine_Step ((), 0, 0, 0, 0, ()) ((y.1.1, y.1.2.1, (), y.1.2.2.2), y.2) = packX y.1.1 y.1.2.1 y.1.2.2.2.2.2.1 (cacheX y.1.2.1 y.1.2.2.2.1.2.1 y.2.2.1) (stepMX y.1.1 y.1.2.1 y.1.2.2.2.1 (y.2.1, y.2.2.2) noFault) := by
        unfold V_machine_Machine_Step
        rw [show (((y.1.1, y.1.2.1, (), y.1.2.2.2), y.2) : MS).1.2.2.2.2.1 = false from hd]
        rfl
      have hw' := step_MachWf hw noFault
      have hg : (goX y.1.1 y.1.2.1 noFault (n + 1 + 1) k (runSof y)).1 = (stepMX y.1.1 y.1.2.1 y.1.2.2.2.1 (y.2.1, y.2.2.2) noFault).1 :: (goX y.1.1 y.1.2.1 noFault (n + 1) (k + 1) (stepMX y.1.1 y.1.2.1 y.1.2.2.2.1 (y.2.1, y.2.2.2) noFault).2).1 := by
        rw [goX, now_none]
        rw [show (runSof y).2.1 = false from hd]
        rfl
      rw [hg, hdrop] at hgo
      obtain ⟨hev, hrest⟩ := List.cons.inj hgo
      generalize hE : stepMX y.1.1 y.1.2.1 y.1.2.2.2.1 (y.2.1, y.2.2.2) noFault = E at *
      have w1 : w64 ((k : Int) + 1) = ((k + 1 : Nat) : Int) := by rw [w64_id (by omega) (by omega)]; omega
      obtain ⟨y', p1, p2, p3, p4, p5⟩ := ih (k + 1) (packX y.1.1 y.1.2.1 y.1.2.2.2.2.2.1 (cacheX y.1.2.1 y.1.2.2.2.1.2.1 y.2.2.1) E).2 (by omega) hw' (by omega) hrest
      refine ⟨y', p1, p2, p3, by rw [p4]; congr 1; omega, ?_⟩
      refine (runL_on (s' := (false, ((k + 1 : Nat) : Int), (packX y.1.1 y.1.2.1 y.1.2.2.2.2.2.1 (cacheX y.1.2.1 y.1.2.2.2.1.2.1 y.2.2.1) E).2.1, (packX y.1.1 y.1.2.1 y.1.2.2.2.2.2.1 (cacheX y.1.2.1 y.1.2.2.2.1.2.1 y.2.2.1) E).2.2)) ((val_yes hlt).trans ((val_yes hG).trans ((val_yes ?_).trans ((val_no ?_).trans ?_))))).trans ?_
      · show (!(V_machine_Machine_Step ((), 0, 0, 0, 0, ()) ((y.1.1, y.1.2.1, (), y.1.2.2.2), y.2)).1.2.1 || inRange (k : Int) (List.length x.2.2.1)) = true
        rw [hl, show inRange (k : Int) (List.length l) = true by simp only [inRange, Bool.and_eq_true, decide_eq_true_eq]; omega, Bool.or_true]
      · show (!(V_machine_Machine_Step ((), 0, 0, 0, 0, ()) ((y.1.1, y.1.2.1, (), y.1.2.2.2), y.2)).1.2.1 || !Ty.eqb tFault (V_machine_Machine_Step ((), 0, 0, 0, 0, ()) ((y.1.1, y.1.2.1, (), y.1.2.2.2), y.2)).1.1 (List.getD x.2.2.1 (Int.toNat (k : Int)) (Ty.dflt tEvent))) = false
        rw [hV, hl, Int.toNat_natCast, ← hev]
        show (!true || !Ty.eqb tFault E.1 E.1) = false
        rw [eqb_refl]
        rfl
      · rw [hV, w1]
        rfl
      · exact p5

/-- How long an instruction is that is fetched. -/
theorem fetch_size {fl : List UInt8} {pc : Int} {p : tIns.den × Int} (h : fetchX fl pc = some p) : p.2 = 2 ∨ p.2 = 4 := by
  unfold fetchX at h
  cases h1 : (band .i64 pc 1 != 0 || decide (pc ≥ lenI fl)) with
  | true => rw [h1] at h; cases h
  | false =>
    rw [h1] at h
    simp only [cond_false] at h
    cases h2 : ((dDec (fl.drop pc.toNat)).2.2.1 != (0 : Int)) with
    | true => rw [h2] at h; cases h
    | false =>
      rw [h2] at h
      simp only [cond_false] at h
      cases h
      rcases dec_only (fl.drop pc.toNat) with ⟨op, rd, rn, rm, ra, imm, cond, w, hok, e, _⟩ | e | e
      · rw [e]
        show lenI (eBytes op rd rn rm ra imm cond w) = 2 ∨ lenI (eBytes op rd rn rm ra imm cond w) = 4
        rcases eBytes_len hok with h | h
        · exact .inl (by simp only [lenI, h]; rfl)
        · exact .inr (by simp only [lenI, h]; rfl)
      · rw [e] at h2; cases h2
      · rw [e] at h2; cases h2

theorem act_pc (hd : tHead.den) (st : tState.den) (i : tIns.den) (mem : MemT) : (actX hd st i mem).1.2.1 = st.2.1 := by
  unfold actX
  cases (V_cpu_Access (st, i)).2.1
  · rfl
  · cases (V_cpu_Access (st, i)).1.2.2.2.1
    · cases ((loadM mem (V_cpu_Access (st, i)).1.1 (V_cpu_Access (st, i)).1.2.1).2.1 != (0 : Int)) <;> rfl
    · cases ((storeM mem (V_cpu_Access (st, i)).1.1 (V_cpu_Access (st, i)).1.2.1 (V_cpu_Access (st, i)).1.2.2.1).1 != (0 : Int)) <;> rfl

abbrev skipF : tFault.den := (1, 0, 0, 0, ())
/-- A step that is skipped, against the step. -/
theorem skip_facts (hd : tHead.den) (fl : List UInt8) (st : tState.den) (mem : MemT) :
    (stepMX hd fl st mem skipF).1.2.1 = (stepMX hd fl st mem noFault).1.2.1 ∧ (stepMX hd fl st mem skipF).2.2.1 = false ∧ (stepMX hd fl st mem skipF).2.1.1 = st.1 ∧ (stepMX hd fl st mem skipF).2.1.2.2 = st.2.2 ∧
      (((stepMX hd fl st mem skipF).1.1 = 2 ∧ (stepMX hd fl st mem skipF).1 = (stepMX hd fl st mem noFault).1) ∨
       ((stepMX hd fl st mem skipF).1.1 = 1 ∧ (stepMX hd fl st mem skipF).1.2.2.2.1 = 1 ∧
        ((stepMX hd fl st mem skipF).2.1.2.1 = band .i64 (w64 (st.2.1 + 2)) 4294967295 ∨ (stepMX hd fl st mem skipF).2.1.2.1 = band .i64 (w64 (st.2.1 + 4)) 4294967295))) := by
  have e1 : stepMX hd fl st mem skipF = turnX hd fl st mem true := rfl
  have e0 : stepMX hd fl st mem noFault = turnX hd fl st mem false := rfl
  rw [e1, e0]
  unfold turnX
  cases hf : fetchX fl st.2.1 with
  | none => exact ⟨rfl, rfl, rfl, rfl, .inl ⟨rfl, rfl⟩⟩
  | some p =>
    show (st.2.1 = (actX hd st p.1 mem).1.2.1) ∧ (false = false) ∧ st.1 = st.1 ∧ st.2.2 = st.2.2 ∧ (((1 : Int) = 2 ∧ _) ∨ ((1 : Int) = 1 ∧ (1 : Int) = 1 ∧ (V_word_Add (st.2.1, p.2) = band .i64 (w64 (st.2.1 + 2)) 4294967295 ∨ V_word_Add (st.2.1, p.2) = band .i64 (w64 (st.2.1 + 4)) 4294967295)))
    refine ⟨(act_pc ..).symm, rfl, rfl, rfl, .inr ⟨rfl, rfl, ?_⟩⟩
    rcases fetch_size hf with h | h
    · refine .inl ?_
      rw [h, band_32, w64_mod]
      show ((wn (st.2.1 + 2) : Nat) : Int) = _
      rw [wn_int]
    · refine .inr ?_
      rw [h, band_32, w64_mod]
      show ((wn (st.2.1 + 4) : Nat) : Int) = _
      rw [wn_int]

theorem c44_val (s t : tState.den) (v : tEvent.den) (h1 : v.1 = 1) (h2 : v.2.2.2.1 = 1) (h3 : t.2.1 = band .i64 (w64 (s.2.1 + 2)) 4294967295 ∨ t.2.1 = band .i64 (w64 (s.2.1 + 4)) 4294967295) (b : Bool) :
    LoopN.res L_hauberklaw09_MachineSkips_c44 (b, (), (), ()) (s, v, t) = some (0, (true, s, v, t)) := by
  have k1 : (v.1 == (1 : Int)) = true := by rw [h1]; rfl
  have k2 : (v.2.2.2.1 == (1 : Int)) = true := by rw [h2]; rfl
  have k3 : (t.2.1 == band .i64 (w64 (s.2.1 + 2)) 4294967295 || t.2.1 == band .i64 (w64 (s.2.1 + 4)) 4294967295) = true := by
    rcases h3 with h | h
    · rw [h, beq_self_eq_true, Bool.true_or]
    · rw [h, beq_self_eq_true, Bool.or_true]
  refine runL_out (c := 0) ((val_yes ?_).trans ?_)
  · show (bif v.1 == (1 : Int) then bif v.2.2.2.1 == (1 : Int) then (t.2.1 == band .i64 (w64 (s.2.1 + 2)) 4294967295 || (t.2.1 == band .i64 (w64 (s.2.1 + 4)) 4294967295 || true)) else true else true) = true
    rw [k1, k2, Bool.or_true, Bool.or_true]
    rfl
  · show some (TL.out 0 ((v.1 == (1 : Int) && (v.2.2.2.1 == (1 : Int) && (t.2.1 == band .i64 (w64 (s.2.1 + 2)) 4294967295 || (t.2.1 == band .i64 (w64 (s.2.1 + 4)) 4294967295 && true)))), s, v, t)) = _
    rw [k1, k2, Bool.and_true, k3]
    rfl

theorem c41_val (a : Nat) (l : List tEvent.den) (s t : tState.den) (v : tEvent.den) (hl : a < l.length)
    (h : (v.1 = 2 ∧ v = l.getD a (Ty.dflt tEvent)) ∨ (v.1 = 1 ∧ v.2.2.2.1 = 1 ∧ (t.2.1 = band .i64 (w64 (s.2.1 + 2)) 4294967295 ∨ t.2.1 = band .i64 (w64 (s.2.1 + 4)) 4294967295))) (b : Bool) :
    LoopN.res L_hauberklaw09_MachineSkips_c41 ((a : Int), b, l, (), (), ()) (s, v, t) = some (0, (true, s, v, t)) := by
  have hin : inRange (a : Int) l.length = true := by simp only [inRange, Bool.and_eq_true, decide_eq_true_eq]; omega
  rcases h with ⟨h1, h2⟩ | ⟨h1, h2, h3⟩
  · have k1 : (v.1 == (2 : Int)) = true := by rw [h1]; rfl
    have k2 : Ty.eqb tFault v (List.getD l (Int.toNat (a : Int)) (Ty.dflt tEvent)) = true := by rw [Int.toNat_natCast, ← h2]; exact eqb_refl ..
    refine runL_out (c := 0) ((val_yes k1).trans ((val_yes ?_).trans ?_))
    · show (inRange (a : Int) l.length && (Ty.eqb tFault v (List.getD l (Int.toNat (a : Int)) (Ty.dflt tEvent)) || true)) = true
      rw [hin, Bool.or_true]
      rfl
    · show some (TL.out 0 (Ty.eqb tFault v (List.getD l (Int.toNat (a : Int)) (Ty.dflt tEvent)) && true, s, v, t)) = _
      rw [k2]
      rfl
  · have k1 : (v.1 == (2 : Int)) = false := by rw [h1]; rfl
    exact runL_out (c := 0) ((val_no k1).trans ((val_opt (r := _) (c44_val s t v h1 h2 h3 b)).trans rfl))

theorem c37_val (a : Nat) (l : List tEvent.den) (m : Sh.den (shMachB 4 5)) (s t : tState.den) (v : tEvent.den) (mem : Sh.den (shMemB 6)) (fs : Sh.den (.rowc tFetched)) (bs : Sh.den (.rowc (.int .u8))) (hl : a < l.length)
    (hpc : v.2.1 = (l.getD a (Ty.dflt tEvent)).2.1) (hdn : m.2.2.2.2.1 = false) (h1 : t.1 = s.1) (h2 : t.2.2 = s.2.2)
    (h : (v.1 = 2 ∧ v = l.getD a (Ty.dflt tEvent)) ∨ (v.1 = 1 ∧ v.2.2.2.1 = 1 ∧ (t.2.1 = band .i64 (w64 (s.2.1 + 2)) 4294967295 ∨ t.2.1 = band .i64 (w64 (s.2.1 + 4)) 4294967295))) (b : Bool) :
    LoopN.res L_hauberklaw09_MachineSkips_c37 ((a : Int), b, l, (), (), (), true, ()) (m, s, v, t, mem, fs, bs) = some (0, (true, (m.1, m.2.1, (), m.2.2.2), s, v, t, mem, fs, bs)) := by
  have hin : inRange (a : Int) l.length = true := by simp only [inRange, Bool.and_eq_true, decide_eq_true_eq]; omega
  have k1 : (v.2.1 != (List.getD l (Int.toNat (a : Int)) (Ty.dflt tEvent)).2.1) = false := by rw [Int.toNat_natCast, hpc]; simp
  refine runL_out (c := 0) ((val_yes ?_).trans ((val_no ?_).trans ((val_opt (r := _) (c41_val a l s t v hl h b)).trans rfl)))
  · show (!true || (inRange (a : Int) l.length && (v.2.1 != (List.getD l (Int.toNat (a : Int)) (Ty.dflt tEvent)).2.1 || true))) = true
    rw [hin, Bool.or_true]
    rfl
  · show (!true || (v.2.1 != (List.getD l (Int.toNat (a : Int)) (Ty.dflt tEvent)).2.1 || (m.2.2.2.2.1 || (!Ty.eqb (Ty.arr 15 (Ty.int IntKind.i64)) t.1 s.1 || (!t.2.2.1 == s.2.2.1 || (!t.2.2.2.1 == s.2.2.2.1 || (!t.2.2.2.2.1 == s.2.2.2.2.1 || !t.2.2.2.2.2.1 == s.2.2.2.2.2.1))))))) = false
    rw [k1, hdn, h1, h2, eqb_refl]
    simp

theorem law_hauberklaw09_MachineSkips (x : dens A_hauberklaw09_MachineSkips) (_ : fitsAll maxLen A_hauberklaw09_MachineSkips x) : (T_hauberklaw09_MachineSkips x).val = some true := by
  obtain ⟨img, inp, a⟩ := x
  unfold T_hauberklaw09_MachineSkips
  cases h0 : (!V_hauberklaw09_most a) with
  | true => exact (val_yes rfl).trans rfl
  | false =>
  refine (val_no rfl).trans ?_
  have h0' : (decide (a ≥ 0) && decide (a ≤ 5000)) = true := Bool.not_eq_false' _ |>.mp h0
  simp only [Bool.and_eq_true, decide_eq_true_eq] at h0'
  have hb0 : (0 : Int) ≤ a := h0'.1
  have hb1 : (5000 : Int) ≥ a := h0'.2
  have hw1 : w64 (a + 1) = a + 1 := w64_id (by omega) (by omega)
  have hT : V_machine_Trace (img, inp, w64 (a + 1)) = traceX img inp (a + 1) := by rw [hw1]; rfl
  rw [show (V_machine_Trace ((img, inp, a).1, (img, inp, a).2.1, w64 ((img, inp, a).2.2 + 1))) = traceX img inp (a + 1) from hT]
  show (PO.ite ((traceX img inp (a + 1)).2.1 != (0 : Int) || lenI (traceX img inp (a + 1)).1 != w64 (a + 1)) _ _).val = _
  rw [hw1]
  cases h1 : ((parseX img).2.1 != (0 : Int)) with
  | true =>
    refine (val_yes ?_).trans rfl
    unfold traceX
    rw [h1]
    simp only [cond_true]
    rw [h1]
    rfl
  | false =>
  cases h2 : (lenI inp != (parseX img).1.2.2.1.1) with
  | true =>
    refine (val_yes ?_).trans rfl
    unfold traceX
    rw [h1, h2]
    rfl
  | false =>
  have h3 : (decide ((a + 1 : Int) < 0) || decide ((a + 1 : Int) > 1048576)) = false := by simp; omega
  have hE : traceX img inp (a + 1) = (V_stepsEvs (noFault, a + 1) (startX (parseX img).1 img inp), 0, ()) := by
    unfold traceX
    rw [h1, h2, h3]
    rfl
  rw [hE]
  obtain ⟨rs, hn, i, o, r, md, e, f1, f2, f3, f4, f5⟩ := parse_facts img h1
  have hreg : V_memmap_Regions ((V_image_Parse img).1.2.2.1, lenI img) = (regsX (i, o, r, ()) (lenI img), 0, ()) := by
    show V_memmap_Regions ((parseX img).1.2.2.1, lenI img) = _
    rw [e]
    exact regs_val _ _ f1
  obtain ⟨g1, g2, g3⟩ := regsX_ok i o r (lenI img) f1 (by simp only [lenI]; omega)
  have g4 : ∀ q ∈ regsX (i, o, r, ()) (lenI img), 0 ≤ q.2.1 := fun q hq => (g1.2 q hq).2.1
  have hwf := startX_wf rs hn i o r md img inp f1 f2 f3 f4
  cases h4 : (lenI (V_stepsEvs (noFault, a + 1) (startX (parseX img).1 img inp)) != a + 1) with
  | true =>
    refine (val_yes ?_).trans rfl
    exact Bool.or_true _
  | false =>
  refine (val_no ?_).trans ?_
  · rfl
  refine (val_no h1).trans ?_
  simp only [hreg]
  refine (val_no rfl).trans ((val_no h2).trans ((val_opt (r := _) (res_8 img inp (regsX (i, o, r, ()) (lenI img)) (by omega) g4 (by omega))).trans ?_))
  refine (val_yes ?_).trans ?_
  · show roomOk ((sumL (regsX (i, o, r, ()) (lenI img)) : Nat) : Int) 1 = true
    simp only [roomOk, Bool.and_eq_true, decide_eq_true_eq]
    omega
  have hsp : nspan 0 ((sumL (regsX (i, o, r, ()) (lenI img)) : Nat) : Int) = sumL (regsX (i, o, r, ()) (lenI img)) := by simp [nspan]
  have e15 := res_15 img inp (regsX (i, o, r, ()) (lenI img)) (zeros ((sumL (regsX (i, o, r, ()) (lenI img)) : Nat) : Int) 0) (by omega) g4
  refine (val_opt (r := _) (by dsimp only; rw [hsp]; exact e15)).trans ?_
  have hw : (winsOf 0 (regsX (i, o, r, ()) (lenI img))).length = 7 := by rw [winsOf_length, g2]
  have hlen : w64 (w64 (Int.tdiv (lenI img) 2) + 1) = ((img.length / 2 + 1 : Nat) : Int) := by
    simp only [lenI] at f4 ⊢
    rw [Int.tdiv_eq_ediv_of_nonneg (by omega), w64_id (n := ((img.length : Nat) : Int) / 2) (by omega) (by omega), w64_id (by omega) (by omega)]
    omega
  refine (val_yes ?_).trans ((val_yes ?_).trans ((val_yes ?_).trans ?_))
  · show inRange 0 (winsOf 0 (regsX (i, o, r, ()) (lenI img))).length = true
    rw [hw]
    rfl
  · show inRange 1 (winsOf 0 (regsX (i, o, r, ()) (lenI img))).length = true
    rw [hw]
    rfl
  · rw [hlen]
    simp only [lenI] at f4
    simp only [roomOk, Bool.and_eq_true, decide_eq_true_eq]
    omega
  · rw [hlen]
    generalize hy : startX (rs, hn, (i, o, r, ()), md, ()) img inp = y at hwf
    have hy2 : startX (parseX img).1 img inp = y := by rw [e]; exact hy
    rw [hy2] at h4 ⊢
    obtain ⟨l, hl⟩ : ∃ l, l = V_stepsEvs (noFault, a + 1) y := ⟨_, rfl⟩
    have hlx : (goX y.1.1 y.1.2.1 noFault (a.toNat + 1) 0 (runSof y)).1 = l := by
      rw [hl]
      show _ = (goX y.1.1 y.1.2.1 noFault (Int.toNat (a + 1)) 0 (runSof y)).1
      rw [show Int.toNat (a + 1) = a.toNat + 1 by omega]
    rw [← hl] at h4 ⊢
    have hll : l.length = a.toNat + 1 := by
      have h5 : lenI l = a + 1 := by simpa using h4
      simp only [lenI] at h5
      omega
    obtain ⟨y', p1, p2, p3, p4, p5⟩ := skips_from a (by omega) l (a, false, l, (), 0) rfl rfl (y.1, y.2.1, y.2.2.1, y.2.2.2) a.toNat 0 y (by omega) hwf (by omega) (by rw [List.drop_zero]; exact hlx)
    refine (val_opt (r := (0, (false, a, y'.1, y'.2.1, y'.2.2.1, y'.2.2.2))) ?_).trans ?_
    · refine Eq.trans ?_ p5
      show LoopN.res L_hauberklaw09_MachineSkips_10 (a, false, l, (), 0) (((parseX img).1, img, (), (_, (parseX img).1.1, _), false, (0, nspan 0 ((img.length / 2 + 1 : Nat) : Int)), ()), _, zeros ((img.length / 2 + 1 : Nat) : Int) dfF, _) = _
      have hns : nspan 0 ((img.length / 2 + 1 : Nat) : Int) = img.length / 2 + 1 := by simp only [nspan]; omega
      have hz2 : zeros ((img.length / 2 + 1 : Nat) : Int) dfF = List.replicate (img.length / 2 + 1) dfF := by unfold zeros; rw [Int.toNat_natCast]
      rw [hns, hz2, ← hy, e]
      rfl
    · have hdn : y'.1.2.2.2.2.1 = false := by
        cases hd : y'.1.2.2.2.2.1 with
        | false => rfl
        | true =>
          rw [go_done _ _ _ (show (runSof y').2.1 = true from hd)] at p4
          have := congrArg List.length p4
          simp only [List.length_drop, List.length_nil] at this
          omega
      have hev : (stepMX y'.1.1 y'.1.2.1 y'.1.2.2.2.1 (y'.2.1, y'.2.2.2) noFault).1 = l.getD a.toNat (Ty.dflt tEvent) := by
        have h6 : (goX y.1.1 y.1.2.1 noFault 1 a (runSof y')).1 = [(stepMX y.1.1 y.1.2.1 y'.1.2.2.2.1 (y'.2.1, y'.2.2.2) noFault).1] := by
          rw [goX, now_none, show (runSof y').2.1 = false from hdn]
          rfl
        rw [h6, List.drop_eq_getElem_cons (by omega)] at p4
        rw [p2, p3, (List.cons.inj p4).1, List.getD_eq_getElem?_getD, List.getElem?_eq_getElem (by omega)]
        simp
      obtain ⟨s1, s2, s3, s4, s5⟩ := skip_facts y'.1.1 y'.1.2.1 y'.1.2.2.2.1 (y'.2.1, y'.2.2.2)
      have hG : G_machine_Machine_Step ((), 1, 0, 0, 0, ()) ((y'.1.1, y'.1.2.1, (), y'.1.2.2.2), y'.2) = true := decide_eq_true p1
      have hV : V_machine_Machine_Step ((), 1, 0, 0, 0, ()) ((y'.1.1, y'.1.2.1, (), y'.1.2.2.2), y'.2) = packX y'.1.1 y'.1.2.1 y'.1.2.2.2.2.2.1 (cacheX y'.1.2.1 y'.1.2.2.2.1.2.1 y'.2.2.1) (stepMX y'.1.1 y'.1.2.1 y'.1.2.2.2.1 (y'.2.1, y'.2.2.2) skipF) := by
        unfold V_machine_Machine_Step
        rw [show (((y'.1.1, y'.1.2.1, (), y'.1.2.2.2), y'.2) : MS).1.2.2.2.2.1 = false from hdn]
        rfl
      refine (val_yes rfl).trans ((val_yes hG).trans ?_)
      simp only [hV]
      rw [hev] at s1 s5
      generalize stepMX y'.1.1 y'.1.2.1 y'.1.2.2.2.1 (y'.2.1, y'.2.2.2) skipF = E at s1 s2 s3 s4 s5
      have ha : ((a.toNat : Nat) : Int) = a := by omega
      have key := c37_val a.toNat l (y'.1.1, y'.1.2.1, (), E.2.1, E.2.2.1, y'.1.2.2.2.2.2.1, ()) y'.1.2.2.2.1 E.2.1 E.1 E.2.2.2.1 (cacheX y'.1.2.1 y'.1.2.2.2.1.2.1 y'.2.2.1) E.2.2.2.2 (by omega) s1 s2 s3 s4 s5 false
      rw [ha] at key
      exact (val_opt (r := _) key).trans rfl
end Go.Av
end
