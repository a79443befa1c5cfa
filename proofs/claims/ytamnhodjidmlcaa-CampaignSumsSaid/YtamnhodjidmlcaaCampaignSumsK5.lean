/- Texts of the proof, one behind the other. -/
import Derived.Test.YtamnhodjidmlcaaCampaignSumsK2
import Derived.Test.YtamnhodjidmlcaaCampaignSumsK4
import Derived.RangeFuncNested
import Derived.RangeFuncCalls
import Derived.RangeFuncLeaves
import Derived.OwnWalkIn
import Derived.Test.YtamnhodjidmlcaaAvApp
import Derived.Test.YtamnhodjidmlcaaCampaignSumsK1
import Derived.WalkKit
import Derived.Defers
import Derived.Recover
import Derived.Test.YtamnhodjidmlcaaAvDefer
import Derived.Test.YtamnhodjidmlcaaProg
import Derived.RangeFuncBound
import Derived.RangeFuncBox
import Derived.Shelf.Abstract
import Derived.Shelf.RegionOpen
import Derived.TacticsInMore
import Derived.LoopNIn
import Derived.LoopIn
import Derived.Maps.AppendAt
/-! Layer 9: the machine. -/
section
namespace Go.Av
open Go
abbrev tHead : Ty := .pair (.int .i64) (.pair (.int .i64) (.pair tSizes (.pair (.int .i64) .unit)))
abbrev tFetched : Ty := .pair tIns (.pair (.int .i64) (.pair .bool (.pair .bool .unit)))
/-- A machine: its memory's box, its cache's row. -/
abbrev shMachB (m c : Nat) : Sh := .pair (.ty tHead) (.pair (.ty .str) (.pair (.box m 0) (.pair (.ty tState) (.pair (.ty .bool) (.pair (.win c tFetched) (.ty .unit))))))
abbrev shMach : Sh := shMachB 1 2
abbrev hsMach : List Sh := [shMach, shMemB 3, .rowc tFetched, .rowc (.int .u8)]
/-- A machine and all that it leads to. -/
abbrev MS : Type := shDens hsMach
/-- Its memory. -/
abbrev MS.mem (y : MS) : MemT := (y.2.1, y.2.2.2)
/-- word.Flip -/
abbrev A_word_Flip : List Ty := [(.int .i64), (.int .i64)]
abbrev S_word_Flip : Sh := Sh.ty (Ty.int IntKind.i64)
def T_word_Flip (x : dens A_word_Flip) : PO (Sh.den S_word_Flip) :=
  (.ite (!decide (V_word_many x.2 < 0) && true)
   (.ret (V_word_Xor (x.1, ishl IntKind.i64 1 (V_word_many x.2))))
   .fail)
def G_word_Flip (_ : dens A_word_Flip) : Bool := true
def V_word_Flip (x : dens A_word_Flip) : Sh.den S_word_Flip := V_word_Xor (x.1, ishl IntKind.i64 1 (V_word_many x.2))
theorem ok_word_Flip (x : dens A_word_Flip) (_ : G_word_Flip x = true) : (T_word_Flip x).val = some (V_word_Flip x) := by
  refine (val_yes ?_).trans rfl
  have : ¬ V_word_many x.2 < 0 := by
    show ¬ ((kk x.2 : Nat) : Int) < 0
    omega
  simp [this]
/-- machine.Check -/
abbrev A_machine_Check : List Ty := [tFault]
abbrev S_machine_Check : Sh := Sh.ty (Ty.int IntKind.i64)
def T_machine_Check (x : dens A_machine_Check) : PO (Sh.den S_machine_Check) :=
  (.ite (!bif bif x.1 == 0 then x.1 == 0 else x.1 == 1 then decide (x.2.1 ≥ 0) else bif x.1 == 2 then decide (x.2.1 ≥ 0) && (decide (x.2.2.1 ≥ 0) && (decide (x.2.2.1 ≤ 14) && (decide (x.2.2.2.1 ≥ 0) && decide (x.2.2.2.1 < 32)))) else x.1 == 3 && (decide (x.2.1 ≥ 0) && (decide (x.2.2.2.1 ≥ 0) && decide (x.2.2.2.1 < 4))))
   (.ret (2))
   (.ret (0)))
def G_machine_Check (_ : dens A_machine_Check) : Bool := true
def V_machine_Check (x : dens A_machine_Check) : Sh.den S_machine_Check := (T_machine_Check x).getO default
theorem ok_machine_Check (x : dens A_machine_Check) (_ : G_machine_Check x = true) : (T_machine_Check x).val = some (V_machine_Check x) := PO.sure_ok default (by simp [T_machine_Check, PO.sure])
/-- A state that a fault turns. -/
def V_hitS (s : tState.den) (f : tFault.den) : tState.den :=
  bif f.1 == 2 then (List.set s.1 (Int.toNat f.2.2.1) (V_word_Flip (List.getD s.1 (Int.toNat f.2.2.1) (Ty.dflt (.int .i64)), f.2.2.2.1)), s.2)
  else bif f.1 == 3 then
    (bif f.2.2.2.1 == 0 then (s.1, s.2.1, !s.2.2.1, s.2.2.2)
     else bif f.2.2.2.1 == 1 then (s.1, s.2.1, s.2.2.1, !s.2.2.2.1, s.2.2.2.2)
     else bif f.2.2.2.1 == 2 then (s.1, s.2.1, s.2.2.1, s.2.2.2.1, !s.2.2.2.2.1, s.2.2.2.2.2)
     else bif f.2.2.2.1 == 3 then (s.1, s.2.1, s.2.2.1, s.2.2.2.1, s.2.2.2.2.1, !s.2.2.2.2.2.1, s.2.2.2.2.2.2)
     else s)
  else s
/-- (*machine.Machine).hit -/
abbrev SS_machine_Machine_hit : List Sh := [.box 0 0, .ty tFault]
abbrev HS_machine_Machine_hit : List Sh := [shMach, shMemB 3, .rowc tFetched, .rowc (.int .u8)]
abbrev S_machine_Machine_hit : Sh := Sh.tup (Sh.ty Ty.unit)
abbrev HT_machine_Machine_hit : List Sh := [Sh.pair (Sh.ty (Ty.pair (Ty.int IntKind.i64) (Ty.pair (Ty.int IntKind.i64) (Ty.pair tSizes (Ty.pair (Ty.int IntKind.i64) Ty.unit))))) (Sh.pair (Sh.ty Ty.str) (Sh.pair (Sh.box 1 0) (Sh.pair (Sh.ty tState) (Sh.pair (Sh.ty Ty.bool) (Sh.pair (Sh.win 2 (Ty.pair tIns (Ty.pair (Ty.int IntKind.i64) (Ty.pair Ty.bool (Ty.pair Ty.bool Ty.unit))))) (Sh.ty Ty.unit)))))), Sh.pair (Sh.ty (Ty.sl tSpot)) (Sh.pair (Sh.wsl none 3 (Ty.int IntKind.u8)) (Sh.ty Ty.unit)), Sh.rowc (Ty.pair tIns (Ty.pair (Ty.int IntKind.i64) (Ty.pair Ty.bool (Ty.pair Ty.bool Ty.unit)))), Sh.rowc (Ty.int IntKind.u8)]
def T_machine_Machine_hit (x : shDens SS_machine_Machine_hit) (y : shDens HS_machine_Machine_hit) : PO (Sh.den S_machine_Machine_hit × shDens HT_machine_Machine_hit) :=
  (.ite (x.2.1 == 2)
   (.ite (inRange x.2.2.2.1 15)
    (.ite (G_word_Flip (List.getD y.1.2.2.2.1.1 (Int.toNat x.2.2.2.1) (Ty.dflt (Ty.int IntKind.i64)), x.2.2.2.2.1))
     (.ite (inRange x.2.2.2.1 15)
      (.ret ((), ((y.1.1, y.1.2.1, (), (List.set y.1.2.2.2.1.1 (Int.toNat x.2.2.2.1) (V_word_Flip (List.getD y.1.2.2.2.1.1 (Int.toNat x.2.2.2.1) (Ty.dflt (Ty.int IntKind.i64)), x.2.2.2.2.1)), y.1.2.2.2.1.2), y.1.2.2.2.2), y.2.1, y.2.2.1, y.2.2.2)))
      .fail)
     .fail)
    .fail)
   (.ite (x.2.1 == 3)
    (.ite (x.2.2.2.2.1 == 0)
     (.ret ((), ((y.1.1, y.1.2.1, (), (y.1.2.2.2.1.1, y.1.2.2.2.1.2.1, !y.1.2.2.2.1.2.2.1, y.1.2.2.2.1.2.2.2), y.1.2.2.2.2), y.2.1, y.2.2.1, y.2.2.2)))
     (.ite (x.2.2.2.2.1 == 1)
      (.ret ((), ((y.1.1, y.1.2.1, (), (y.1.2.2.2.1.1, y.1.2.2.2.1.2.1, y.1.2.2.2.1.2.2.1, !y.1.2.2.2.1.2.2.2.1, y.1.2.2.2.1.2.2.2.2), y.1.2.2.2.2), y.2.1, y.2.2.1, y.2.2.2)))
      (.ite (x.2.2.2.2.1 == 2)
       (.ret ((), ((y.1.1, y.1.2.1, (), (y.1.2.2.2.1.1, y.1.2.2.2.1.2.1, y.1.2.2.2.1.2.2.1, y.1.2.2.2.1.2.2.2.1, !y.1.2.2.2.1.2.2.2.2.1, y.1.2.2.2.1.2.2.2.2.2), y.1.2.2.2.2), y.2.1, y.2.2.1, y.2.2.2)))
       (.ite (x.2.2.2.2.1 == 3)
        (.ret ((), ((y.1.1, y.1.2.1, (), (y.1.2.2.2.1.1, y.1.2.2.2.1.2.1, y.1.2.2.2.1.2.2.1, y.1.2.2.2.1.2.2.2.1, y.1.2.2.2.1.2.2.2.2.1, !y.1.2.2.2.1.2.2.2.2.2.1, y.1.2.2.2.1.2.2.2.2.2.2), y.1.2.2.2.2), y.2.1, y.2.2.1, y.2.2.2)))
        (.ret ((), ((y.1.1, y.1.2.1, (), y.1.2.2.2), y.2.1, y.2.2.1, y.2.2.2)))))))
    (.ret ((), ((y.1.1, y.1.2.1, (), y.1.2.2.2), y.2.1, y.2.2.1, y.2.2.2)))))
def G_machine_Machine_hit (x : shDens SS_machine_Machine_hit) (_ : shDens HS_machine_Machine_hit) : Bool := !(x.2.1 == (2 : Int)) || inRange x.2.2.2.1 15
abbrev V_machine_Machine_hit (x : shDens SS_machine_Machine_hit) (y : shDens HS_machine_Machine_hit) : Sh.den S_machine_Machine_hit × shDens HT_machine_Machine_hit := ((), ((y.1.1, y.1.2.1, (), V_hitS y.1.2.2.2.1 x.2, y.1.2.2.2.2), y.2.1, y.2.2.1, y.2.2.2))
theorem ok_machine_Machine_hit (x : shDens SS_machine_Machine_hit) (y : shDens HS_machine_Machine_hit) (h : G_machine_Machine_hit x y = true) : (T_machine_Machine_hit x y).val = some (V_machine_Machine_hit x y) := by
  obtain ⟨_, k, p, r, b, _⟩ := x
  unfold G_machine_Machine_hit at h
  simp only [T_machine_Machine_hit, V_machine_Machine_hit, V_hitS, PO.val]
  simp only at h
  cases h2 : (k == (2 : Int))
  · cases h3 : (k == (3 : Int))
    · rfl
    · cases h4 : (b == (0 : Int)) <;> cases h5 : (b == (1 : Int)) <;> cases h6 : (b == (2 : Int)) <;> cases h7 : (b == (3 : Int)) <;> simp only [h4, h5, h6, h7, cond_true, cond_false]
  · rw [h2] at h
    simp only [Bool.not_true, Bool.false_or] at h
    rw [h]
    rfl
def L_machine_Machine_fetch_c5 : LoopN where
  M := [0, 2, 3, 4]
  T := [5, 6, 7, 8, 14, 15, 16, 17, 18, 19, 20, 21, 22, 23, 24, 25, 26, 27, 28, 29, 30, 31, 32, 33, 34, 35, 36, 37, 38, 39, 40, 41, 42, 43, 44, 45, 46, 47, 48, 49, 50, 51, 52, 53, 54, 55, 56, 57, 58, 59, 60, 61, 62, 63, 64, 65, 66, 67, 68, 69, 70, 71]
  D := [0, 4]
  ss := [.box 0 0, .box 1 0, .ty (.int .i64), .ty (.int .i64)]
  hs := [(shMachB 2 3), (.ty tIns), (shMemB 4), .rowc tFetched, .rowc (.int .u8)]
  es := [.ret, .panic [⟨.iface 79 (.agg #[.int .i64 0]), false, false⟩]]
  σ := (Ty.den (.int .i64)) × (Sh.den ((shMachB 2 3))) × (Sh.den ((.ty tIns))) × (Sh.den ((shMemB 4))) × (Sh.den (.rowc tFetched)) × (Sh.den (.rowc (.int .u8)))
  x0 := fun x y => (x.2.2.1, y.1, y.2.1, y.2.2.1, y.2.2.2.1, y.2.2.2.2)
  put := fun x _ s => ((x.1, x.2.1, s.1, x.2.2.2), (s.2.1, s.2.2.1, s.2.2.2.1, s.2.2.2.2.1, s.2.2.2.2.2))
  fuel := fun _ _ => 1
  turn := fun x _ s =>
  (.ite (band IntKind.i64 x.2.2.2 1 != 0 || decide (x.2.2.2 ≥ lenI s.2.1.2.1))
   (.ret (.out 1 (s.1, s.2.1, s.2.2.1, s.2.2.2.1, s.2.2.2.2.1, s.2.2.2.2.2)))
   (.ite (inRange (w64 (Int.tdiv x.2.2.2 2)) s.2.1.2.2.2.2.2.1.2)
    (.ite (!(List.getD s.2.2.2.2.1 (nplus s.2.1.2.2.2.2.2.1.1 (w64 (Int.tdiv x.2.2.2 2))) (Ty.dflt tFetched)).2.2.1)
     (.ite (decide (lenI s.2.1.2.1 ≤ lenI s.2.1.2.1) && decide (0 ≤ x.2.2.2) && decide (x.2.2.2 ≤ lenI s.2.1.2.1))
      (.ite (G_decode_Decode (List.drop (Int.toNat x.2.2.2) (List.take (Int.toNat (lenI s.2.1.2.1)) s.2.1.2.1)))
       (.ite ((List.getD (List.set s.2.2.2.2.1 (nplus s.2.1.2.2.2.2.2.1.1 (w64 (Int.tdiv x.2.2.2 2))) ((V_decode_Decode (List.drop (Int.toNat x.2.2.2) (List.take (Int.toNat (lenI s.2.1.2.1)) s.2.1.2.1))).1, (V_decode_Decode (List.drop (Int.toNat x.2.2.2) (List.take (Int.toNat (lenI s.2.1.2.1)) s.2.1.2.1))).2.1, true, (V_decode_Decode (List.drop (Int.toNat x.2.2.2) (List.take (Int.toNat (lenI s.2.1.2.1)) s.2.1.2.1))).2.2.1 != 0, ())) (nplus s.2.1.2.2.2.2.2.1.1 (w64 (Int.tdiv x.2.2.2 2))) (Ty.dflt tFetched)).2.2.2.1)
        (.ret (.out 1 (s.1, s.2.1, s.2.2.1, s.2.2.2.1, List.set s.2.2.2.2.1 (nplus s.2.1.2.2.2.2.2.1.1 (w64 (Int.tdiv x.2.2.2 2))) ((V_decode_Decode (List.drop (Int.toNat x.2.2.2) (List.take (Int.toNat (lenI s.2.1.2.1)) s.2.1.2.1))).1, (V_decode_Decode (List.drop (Int.toNat x.2.2.2) (List.take (Int.toNat (lenI s.2.1.2.1)) s.2.1.2.1))).2.1, true, (V_decode_Decode (List.drop (Int.toNat x.2.2.2) (List.take (Int.toNat (lenI s.2.1.2.1)) s.2.1.2.1))).2.2.1 != 0, ()), s.2.2.2.2.2)))
        (.ret (.out 0 ((List.getD (List.set s.2.2.2.2.1 (nplus s.2.1.2.2.2.2.2.1.1 (w64 (Int.tdiv x.2.2.2 2))) ((V_decode_Decode (List.drop (Int.toNat x.2.2.2) (List.take (Int.toNat (lenI s.2.1.2.1)) s.2.1.2.1))).1, (V_decode_Decode (List.drop (Int.toNat x.2.2.2) (List.take (Int.toNat (lenI s.2.1.2.1)) s.2.1.2.1))).2.1, true, (V_decode_Decode (List.drop (Int.toNat x.2.2.2) (List.take (Int.toNat (lenI s.2.1.2.1)) s.2.1.2.1))).2.2.1 != 0, ())) (nplus s.2.1.2.2.2.2.2.1.1 (w64 (Int.tdiv x.2.2.2 2))) (Ty.dflt tFetched)).2.1, s.2.1, (List.getD (List.set s.2.2.2.2.1 (nplus s.2.1.2.2.2.2.2.1.1 (w64 (Int.tdiv x.2.2.2 2))) ((V_decode_Decode (List.drop (Int.toNat x.2.2.2) (List.take (Int.toNat (lenI s.2.1.2.1)) s.2.1.2.1))).1, (V_decode_Decode (List.drop (Int.toNat x.2.2.2) (List.take (Int.toNat (lenI s.2.1.2.1)) s.2.1.2.1))).2.1, true, (V_decode_Decode (List.drop (Int.toNat x.2.2.2) (List.take (Int.toNat (lenI s.2.1.2.1)) s.2.1.2.1))).2.2.1 != 0, ())) (nplus s.2.1.2.2.2.2.2.1.1 (w64 (Int.tdiv x.2.2.2 2))) (Ty.dflt tFetched)).1, s.2.2.2.1, List.set s.2.2.2.2.1 (nplus s.2.1.2.2.2.2.2.1.1 (w64 (Int.tdiv x.2.2.2 2))) ((V_decode_Decode (List.drop (Int.toNat x.2.2.2) (List.take (Int.toNat (lenI s.2.1.2.1)) s.2.1.2.1))).1, (V_decode_Decode (List.drop (Int.toNat x.2.2.2) (List.take (Int.toNat (lenI s.2.1.2.1)) s.2.1.2.1))).2.1, true, (V_decode_Decode (List.drop (Int.toNat x.2.2.2) (List.take (Int.toNat (lenI s.2.1.2.1)) s.2.1.2.1))).2.2.1 != 0, ()), s.2.2.2.2.2))))
       .fail)
      .fail)
     (.ite ((List.getD s.2.2.2.2.1 (nplus s.2.1.2.2.2.2.2.1.1 (w64 (Int.tdiv x.2.2.2 2))) (Ty.dflt tFetched)).2.2.2.1)
      (.ret (.out 1 (s.1, s.2.1, s.2.2.1, s.2.2.2.1, s.2.2.2.2.1, s.2.2.2.2.2)))
      (.ret (.out 0 ((List.getD s.2.2.2.2.1 (nplus s.2.1.2.2.2.2.2.1.1 (w64 (Int.tdiv x.2.2.2 2))) (Ty.dflt tFetched)).2.1, s.2.1, (List.getD s.2.2.2.2.1 (nplus s.2.1.2.2.2.2.2.1.1 (w64 (Int.tdiv x.2.2.2 2))) (Ty.dflt tFetched)).1, s.2.2.2.1, s.2.2.2.2.1, s.2.2.2.2.2)))))
    .fail))
/-- (*machine.Machine).Done -/
abbrev SS_machine_Machine_Done : List Sh := [.box 0 0]
abbrev HS_machine_Machine_Done : List Sh := [shMach, shMemB 3, .rowc tFetched, .rowc (.int .u8)]
abbrev S_machine_Machine_Done : Sh := Sh.ty Ty.bool
abbrev HT_machine_Machine_Done : List Sh := [Sh.pair (Sh.ty (Ty.pair (Ty.int IntKind.i64) (Ty.pair (Ty.int IntKind.i64) (Ty.pair tSizes (Ty.pair (Ty.int IntKind.i64) Ty.unit))))) (Sh.pair (Sh.ty Ty.str) (Sh.pair (Sh.box 1 0) (Sh.pair (Sh.ty tState) (Sh.pair (Sh.ty Ty.bool) (Sh.pair (Sh.win 2 (Ty.pair tIns (Ty.pair (Ty.int IntKind.i64) (Ty.pair Ty.bool (Ty.pair Ty.bool Ty.unit))))) (Sh.ty Ty.unit)))))), Sh.pair (Sh.ty (Ty.sl tSpot)) (Sh.pair (Sh.wsl none 3 (Ty.int IntKind.u8)) (Sh.ty Ty.unit)), Sh.rowc (Ty.pair tIns (Ty.pair (Ty.int IntKind.i64) (Ty.pair Ty.bool (Ty.pair Ty.bool Ty.unit)))), Sh.rowc (Ty.int IntKind.u8)]
def T_machine_Machine_Done (_ : shDens SS_machine_Machine_Done) (y : shDens HS_machine_Machine_Done) : PO (Sh.den S_machine_Machine_Done × shDens HT_machine_Machine_Done) :=
  (.ret (y.1.2.2.2.2.1, ((y.1.1, y.1.2.1, (), y.1.2.2.2), y.2.1, y.2.2.1, y.2.2.2)))
def G_machine_Machine_Done (_ : shDens SS_machine_Machine_Done) (_ : shDens HS_machine_Machine_Done) : Bool := true
abbrev V_machine_Machine_Done (_ : shDens SS_machine_Machine_Done) (y : shDens HS_machine_Machine_Done) : Sh.den S_machine_Machine_Done × shDens HT_machine_Machine_Done := (y.1.2.2.2.2.1, y)
theorem ok_machine_Machine_Done (x : shDens SS_machine_Machine_Done) (y : shDens HS_machine_Machine_Done) (_ : G_machine_Machine_Done x y = true) : (T_machine_Machine_Done x y).val = some (V_machine_Machine_Done x y) := rfl
/-- (*machine.Machine).State -/
abbrev SS_machine_Machine_State : List Sh := [.box 0 0]
abbrev HS_machine_Machine_State : List Sh := [shMach, shMemB 3, .rowc tFetched, .rowc (.int .u8)]
abbrev S_machine_Machine_State : Sh := Sh.ty tState
abbrev HT_machine_Machine_State : List Sh := [Sh.pair (Sh.ty (Ty.pair (Ty.int IntKind.i64) (Ty.pair (Ty.int IntKind.i64) (Ty.pair tSizes (Ty.pair (Ty.int IntKind.i64) Ty.unit))))) (Sh.pair (Sh.ty Ty.str) (Sh.pair (Sh.box 1 0) (Sh.pair (Sh.ty tState) (Sh.pair (Sh.ty Ty.bool) (Sh.pair (Sh.win 2 (Ty.pair tIns (Ty.pair (Ty.int IntKind.i64) (Ty.pair Ty.bool (Ty.pair Ty.bool Ty.unit))))) (Sh.ty Ty.unit)))))), Sh.pair (Sh.ty (Ty.sl tSpot)) (Sh.pair (Sh.wsl none 3 (Ty.int IntKind.u8)) (Sh.ty Ty.unit)), Sh.rowc (Ty.pair tIns (Ty.pair (Ty.int IntKind.i64) (Ty.pair Ty.bool (Ty.pair Ty.bool Ty.unit)))), Sh.rowc (Ty.int IntKind.u8)]
def T_machine_Machine_State (_ : shDens SS_machine_Machine_State) (y : shDens HS_machine_Machine_State) : PO (Sh.den S_machine_Machine_State × shDens HT_machine_Machine_State) :=
  (.ret (y.1.2.2.2.1, ((y.1.1, y.1.2.1, (), y.1.2.2.2), y.2.1, y.2.2.1, y.2.2.2)))
def G_machine_Machine_State (_ : shDens SS_machine_Machine_State) (_ : shDens HS_machine_Machine_State) : Bool := true
abbrev V_machine_Machine_State (_ : shDens SS_machine_Machine_State) (y : shDens HS_machine_Machine_State) : Sh.den S_machine_Machine_State × shDens HT_machine_Machine_State := (y.1.2.2.2.1, y)
theorem ok_machine_Machine_State (x : shDens SS_machine_Machine_State) (y : shDens HS_machine_Machine_State) (_ : G_machine_Machine_State x y = true) : (T_machine_Machine_State x y).val = some (V_machine_Machine_State x y) := rfl
def V_reg (k : Int) (y : MemT) : List UInt8 × Int × Unit := regionM y k
def V_numb (a : Int) (y : MemT) : Int := (loadM y a 4).1
/-- (*machine.Machine).Region -/
abbrev SS_machine_Machine_Region : List Sh := [.box 0 0, .ty (.int .i64)]
abbrev HS_machine_Machine_Region : List Sh := [shMach, shMemB 3, .rowc tFetched, .rowc (.int .u8)]
abbrev S_machine_Machine_Region : Sh := Sh.tup (Sh.pair (Sh.ty Ty.str) (Sh.pair (Sh.ty (Ty.int IntKind.i64)) (Sh.ty Ty.unit)))
abbrev HT_machine_Machine_Region : List Sh := [Sh.pair (Sh.ty (Ty.pair (Ty.int IntKind.i64) (Ty.pair (Ty.int IntKind.i64) (Ty.pair tSizes (Ty.pair (Ty.int IntKind.i64) Ty.unit))))) (Sh.pair (Sh.ty Ty.str) (Sh.pair (Sh.box 1 0) (Sh.pair (Sh.ty tState) (Sh.pair (Sh.ty Ty.bool) (Sh.pair (Sh.win 2 (Ty.pair tIns (Ty.pair (Ty.int IntKind.i64) (Ty.pair Ty.bool (Ty.pair Ty.bool Ty.unit))))) (Sh.ty Ty.unit)))))), Sh.pair (Sh.ty (Ty.sl tSpot)) (Sh.pair (Sh.wsl none 3 (Ty.int IntKind.u8)) (Sh.ty Ty.unit)), Sh.rowc (Ty.pair tIns (Ty.pair (Ty.int IntKind.i64) (Ty.pair Ty.bool (Ty.pair Ty.bool Ty.unit)))), Sh.rowc (Ty.int IntKind.u8)]
def T_machine_Machine_Region (x : shDens SS_machine_Machine_Region) (y : shDens HS_machine_Machine_Region) : PO (Sh.den S_machine_Machine_Region × shDens HT_machine_Machine_Region) :=
  (.ret (((V_memory_Memory_Region ((), x.2) (y.2.1, y.2.2.2)).1.1, (V_memory_Memory_Region ((), x.2) (y.2.1, y.2.2.2)).1.2.1, ()), ((y.1.1, y.1.2.1, (), y.1.2.2.2), (V_memory_Memory_Region ((), x.2) (y.2.1, y.2.2.2)).2.1, y.2.2.1, (V_memory_Memory_Region ((), x.2) (y.2.1, y.2.2.2)).2.2)))
def G_machine_Machine_Region (_ : shDens SS_machine_Machine_Region) (_ : shDens HS_machine_Machine_Region) : Bool := true
abbrev V_machine_Machine_Region (x : shDens SS_machine_Machine_Region) (y : shDens HS_machine_Machine_Region) : Sh.den S_machine_Machine_Region × shDens HT_machine_Machine_Region := (V_reg x.2 (y.2.1, y.2.2.2), y)
theorem ok_machine_Machine_Region (x : shDens SS_machine_Machine_Region) (y : shDens HS_machine_Machine_Region) (_ : G_machine_Machine_Region x y = true) : (T_machine_Machine_Region x y).val = some (V_machine_Machine_Region x y) := rfl
/-- (*machine.Machine).number -/
abbrev SS_machine_Machine_number : List Sh := [.box 0 0, .ty (.int .i64)]
abbrev HS_machine_Machine_number : List Sh := [shMach, shMemB 3, .rowc tFetched, .rowc (.int .u8)]
abbrev S_machine_Machine_number : Sh := Sh.ty (Ty.int IntKind.i64)
abbrev HT_machine_Machine_number : List Sh := [Sh.pair (Sh.ty (Ty.pair (Ty.int IntKind.i64) (Ty.pair (Ty.int IntKind.i64) (Ty.pair tSizes (Ty.pair (Ty.int IntKind.i64) Ty.unit))))) (Sh.pair (Sh.ty Ty.str) (Sh.pair (Sh.box 1 0) (Sh.pair (Sh.ty tState) (Sh.pair (Sh.ty Ty.bool) (Sh.pair (Sh.win 2 (Ty.pair tIns (Ty.pair (Ty.int IntKind.i64) (Ty.pair Ty.bool (Ty.pair Ty.bool Ty.unit))))) (Sh.ty Ty.unit)))))), Sh.pair (Sh.ty (Ty.sl tSpot)) (Sh.pair (Sh.wsl none 3 (Ty.int IntKind.u8)) (Sh.ty Ty.unit)), Sh.rowc (Ty.pair tIns (Ty.pair (Ty.int IntKind.i64) (Ty.pair Ty.bool (Ty.pair Ty.bool Ty.unit)))), Sh.rowc (Ty.int IntKind.u8)]
def T_machine_Machine_number (x : shDens SS_machine_Machine_number) (y : shDens HS_machine_Machine_number) : PO (Sh.den S_machine_Machine_number × shDens HT_machine_Machine_number) :=
  (.ite (G_memory_Memory_Load ((), x.2, 4) (y.2.1, y.2.2.2))
   (.ret ((V_memory_Memory_Load ((), x.2, 4) (y.2.1, y.2.2.2)).1.1, ((y.1.1, y.1.2.1, (), y.1.2.2.2), (V_memory_Memory_Load ((), x.2, 4) (y.2.1, y.2.2.2)).2.1, y.2.2.1, (V_memory_Memory_Load ((), x.2, 4) (y.2.1, y.2.2.2)).2.2)))
   .fail)
def G_machine_Machine_number (x : shDens SS_machine_Machine_number) (y : shDens HS_machine_Machine_number) : Bool := decide (MemWf (y.2.1, y.2.2.2) ∧ (show Int from x.2) < 9223372036854775808)
abbrev V_machine_Machine_number (x : shDens SS_machine_Machine_number) (y : shDens HS_machine_Machine_number) : Sh.den S_machine_Machine_number × shDens HT_machine_Machine_number := (V_numb x.2 (y.2.1, y.2.2.2), y)
theorem ok_machine_Machine_number (x : shDens SS_machine_Machine_number) (y : shDens HS_machine_Machine_number) (h : G_machine_Machine_number x y = true) : (T_machine_Machine_number x y).val = some (V_machine_Machine_number x y) := (val_yes h).trans rfl
/-- (*machine.Machine).bytes -/
abbrev SS_machine_Machine_bytes : List Sh := [.box 0 0, .ty (.int .i64)]
abbrev HS_machine_Machine_bytes : List Sh := [shMach, shMemB 3, .rowc tFetched, .rowc (.int .u8)]
abbrev S_machine_Machine_bytes : Sh := Sh.ty Ty.str
abbrev HT_machine_Machine_bytes : List Sh := [Sh.pair (Sh.ty (Ty.pair (Ty.int IntKind.i64) (Ty.pair (Ty.int IntKind.i64) (Ty.pair tSizes (Ty.pair (Ty.int IntKind.i64) Ty.unit))))) (Sh.pair (Sh.ty Ty.str) (Sh.pair (Sh.box 1 0) (Sh.pair (Sh.ty tState) (Sh.pair (Sh.ty Ty.bool) (Sh.pair (Sh.win 2 (Ty.pair tIns (Ty.pair (Ty.int IntKind.i64) (Ty.pair Ty.bool (Ty.pair Ty.bool Ty.unit))))) (Sh.ty Ty.unit)))))), Sh.pair (Sh.ty (Ty.sl tSpot)) (Sh.pair (Sh.wsl none 3 (Ty.int IntKind.u8)) (Sh.ty Ty.unit)), Sh.rowc (Ty.pair tIns (Ty.pair (Ty.int IntKind.i64) (Ty.pair Ty.bool (Ty.pair Ty.bool Ty.unit)))), Sh.rowc (Ty.int IntKind.u8)]
def T_machine_Machine_bytes (x : shDens SS_machine_Machine_bytes) (y : shDens HS_machine_Machine_bytes) : PO (Sh.den S_machine_Machine_bytes × shDens HT_machine_Machine_bytes) :=
  (.ret ((V_memory_Memory_Region ((), x.2) (y.2.1, y.2.2.2)).1.1, ((y.1.1, y.1.2.1, (), y.1.2.2.2), (V_memory_Memory_Region ((), x.2) (y.2.1, y.2.2.2)).2.1, y.2.2.1, (V_memory_Memory_Region ((), x.2) (y.2.1, y.2.2.2)).2.2)))
def G_machine_Machine_bytes (_ : shDens SS_machine_Machine_bytes) (_ : shDens HS_machine_Machine_bytes) : Bool := true
abbrev V_machine_Machine_bytes (x : shDens SS_machine_Machine_bytes) (y : shDens HS_machine_Machine_bytes) : Sh.den S_machine_Machine_bytes × shDens HT_machine_Machine_bytes := ((V_reg x.2 (y.2.1, y.2.2.2)).1, y)
theorem ok_machine_Machine_bytes (x : shDens SS_machine_Machine_bytes) (y : shDens HS_machine_Machine_bytes) (_ : G_machine_Machine_bytes x y = true) : (T_machine_Machine_bytes x y).val = some (V_machine_Machine_bytes x y) := rfl
/-- An instruction, as it is fetched: none, and the machine traps. -/
def fetchX (fl : List UInt8) (pc : Int) : Option (tIns.den × Int) :=
  bif band .i64 pc 1 != 0 || decide (pc ≥ lenI fl) then none
  else bif (dDec (fl.drop pc.toNat)).2.2.1 != 0 then none
  else some ((dDec (fl.drop pc.toNat)).1, (dDec (fl.drop pc.toNat)).2.1)
/-- What the cache keeps of a place. -/
def entX (fl : List UInt8) (k : Nat) : tFetched.den := ((dDec (fl.drop (2 * k))).1, (dDec (fl.drop (2 * k))).2.1, true, (dDec (fl.drop (2 * k))).2.2.1 != 0, ())
abbrev dfF : tFetched.den := Ty.dflt tFetched
def cacheX (fl : List UInt8) (pc : Int) (c : List tFetched.den) : List tFetched.den :=
  bif band .i64 pc 1 != 0 || decide (pc ≥ lenI fl) then c
  else bif (List.getD c (pc / 2).toNat dfF).2.2.1 then c
  else List.set c (pc / 2).toNat (entX fl (pc / 2).toNat)

instance decIns4 : DecidableEq (Int × Int × Int × Bool × Unit) := inferInstance
instance decIns : DecidableEq tIns.den := inferInstanceAs (DecidableEq (Int × Int × Int × Int × (Int × Int × Int × Bool × Unit)))
instance decFet : DecidableEq tFetched.den := inferInstanceAs (DecidableEq (tIns.den × (Int × Bool × Bool × Unit)))
def cacheOk (fl : List UInt8) (c : List tFetched.den) : Prop := c.length = fl.length / 2 + 1 ∧ ∀ k, k < c.length → (List.getD c k dfF).2.2.1 = true → List.getD c k dfF = entX fl k
instance (fl : List UInt8) (c : List tFetched.den) : Decidable (cacheOk fl c) := by
  unfold cacheOk
  infer_instance
/-- A machine that a run may come to. -/
structure MachWf (y : MS) : Prop where
  mem : MemWf y.mem
  regs : List.length y.1.2.2.2.1.1 = 15
  pc : 0 ≤ (show Int from y.1.2.2.2.1.2.1) ∧ (show Int from y.1.2.2.2.1.2.1) < 4294967296
  hand : 0 ≤ (show Int from y.1.1.2.1) ∧ (show Int from y.1.1.2.1) < 4294967296
  len : List.length y.1.2.1 ≤ 262144
  win : y.1.2.2.2.2.2.1 = (0, List.length y.1.2.1 / 2 + 1)
  cache : cacheOk y.1.2.1 y.2.2.1
instance (y : MS) : Decidable (MachWf y) :=
  if h : MemWf y.mem ∧ List.length y.1.2.2.2.1.1 = 15 ∧ (0 ≤ (show Int from y.1.2.2.2.1.2.1) ∧ (show Int from y.1.2.2.2.1.2.1) < 4294967296) ∧ (0 ≤ (show Int from y.1.1.2.1) ∧ (show Int from y.1.1.2.1) < 4294967296) ∧ List.length y.1.2.1 ≤ 262144 ∧ (y.1.2.2.2.2.2.1 : Nat × Nat) = (0, List.length y.1.2.1 / 2 + 1) ∧ cacheOk y.1.2.1 y.2.2.1
  then isTrue ⟨h.1, h.2.1, h.2.2.1, h.2.2.2.1, h.2.2.2.2.1, h.2.2.2.2.2.1, h.2.2.2.2.2.2⟩ else isFalse fun h' => h ⟨h'.mem, h'.regs, h'.pc, h'.hand, h'.len, h'.win, h'.cache⟩

theorem fetch_res (fl : List UInt8) (c : List tFetched.den) (hd : tHead.den) (st : tState.den) (dn : Bool) (i0 : tIns.den) (t : Int) (M : (shMemB 3).den) (B : List Int)
    (hp : 0 ≤ (show Int from st.2.1) ∧ (show Int from st.2.1) < 4294967296) (hc : cacheOk fl c) :
    LoopN.res L_machine_Machine_fetch_c5 ((), (), t, st.2.1) ((hd, fl, (), st, dn, (0, fl.length / 2 + 1), ()), i0, M, c, B) = some (match fetchX fl st.2.1 with
      | none => (1, t, (hd, fl, (), st, dn, (0, fl.length / 2 + 1), ()), i0, M, cacheX fl st.2.1 c, B)
      | some p => (0, p.2, (hd, fl, (), st, dn, (0, fl.length / 2 + 1), ()), p.1, M, cacheX fl st.2.1 c, B)) := by
  obtain ⟨hc1, hc2⟩ := hc
  obtain ⟨rg, pc, fgs⟩ := st
  simp only at hp ⊢
  have hp : 0 ≤ pc ∧ pc < 4294967296 := hp
  have hb : band .i64 pc 1 = pc % 2 := band_one pc
  unfold LoopN.res
  show runL _ 1 _ = _
  unfold fetchX cacheX
  cases ho : (band .i64 pc 1 != 0 || decide (pc ≥ lenI fl)) with
  | true => exact (runL_out ((val_yes ho).trans rfl)).trans (by rfl)
  | false =>
    simp only [cond_false]
    simp only [Bool.or_eq_false_iff, bne_eq_false_iff_eq, decide_eq_false_iff_not] at ho
    obtain ⟨ho1, ho2⟩ := ho
    have hlt : pc < (fl.length : Int) := by simpa [lenI] using ho2
    rw [hb] at ho1
    obtain ⟨m, rfl⟩ := Int.eq_ofNat_of_zero_le hp.1
    have hm : m % 2 = 0 := by omega
    obtain ⟨k, rfl⟩ : ∃ k, m = 2 * k := ⟨m / 2, by omega⟩
    have hlt' : ((2 * k : Nat) : Int) < ((fl.length : Nat) : Int) := hlt
    have hk : k < c.length := by omega
    have e1 : Int.tdiv ((2 * k : Nat) : Int) 2 = (k : Int) := by
      rw [Int.tdiv_eq_ediv_of_nonneg (by omega)]
      omega
    have e2 : w64 ((k : Nat) : Int) = (k : Int) := w64_id (by omega) (by omega)
    have e3 : (((2 * k : Nat) : Int) / 2).toNat = k := by omega
    have e4 : List.take (Int.toNat (lenI fl)) fl = fl := by simp [lenI]
    have e5 : Int.toNat ((2 * k : Nat) : Int) = 2 * k := by omega
    have e6 : nplus 0 (k : Int) = k := by simp [nplus]
    have hno : (band .i64 ((2 * k : Nat) : Int) 1 != 0 || decide (((2 * k : Nat) : Int) ≥ lenI fl)) = false := by
      rw [hb]
      simp only [Bool.or_eq_false_iff, bne_eq_false_iff_eq, decide_eq_false_iff_not]
      exact ⟨ho1, by simpa [lenI] using hlt⟩
    have hin : inRange (w64 (Int.tdiv ((2 * k : Nat) : Int) 2)) (fl.length / 2 + 1) = true := by
      rw [e1, e2]
      exact inR (by omega)
    rw [e3, e5]
    cases hk1 : (List.getD c k dfF).2.2.1 with
    | true =>
      have he := hc2 k hk hk1
      simp only [cond_true]
      cases he2 : ((dDec (fl.drop (2 * k))).2.2.1 != 0) with
      | true =>
        refine (runL_out ((val_no hno).trans ((val_yes hin).trans ((val_no ?_).trans ((val_yes ?_).trans rfl))))).trans (by rfl)
        · show (!(List.getD c (nplus 0 (w64 (Int.tdiv ((2 * k : Nat) : Int) 2))) dfF).2.2.1) = false
          rw [e1, e2, e6, hk1]; rfl
        · show (List.getD c (nplus 0 (w64 (Int.tdiv ((2 * k : Nat) : Int) 2))) dfF).2.2.2.1 = true
          rw [e1, e2, e6, he]; exact he2
      | false =>
        refine (runL_out ((val_no hno).trans ((val_yes hin).trans ((val_no ?_).trans ((val_no ?_).trans rfl))))).trans ?_
        · show (!(List.getD c (nplus 0 (w64 (Int.tdiv ((2 * k : Nat) : Int) 2))) dfF).2.2.1) = false
          rw [e1, e2, e6, hk1]; rfl
        · show (List.getD c (nplus 0 (w64 (Int.tdiv ((2 * k : Nat) : Int) 2))) dfF).2.2.2.1 = false
          rw [e1, e2, e6, he]; exact he2
        · show some (0, (List.getD c (nplus 0 (w64 (Int.tdiv ((2 * k : Nat) : Int) 2))) dfF).2.1, _, (List.getD c (nplus 0 (w64 (Int.tdiv ((2 * k : Nat) : Int) 2))) dfF).1, _) = _
          rw [e1, e2, e6, he]
          rfl
    | false =>
      simp only [cond_false]
      have hle : (decide (lenI fl ≤ lenI fl) && decide (0 ≤ ((2 * k : Nat) : Int)) && decide (((2 * k : Nat) : Int) ≤ lenI fl)) = true := by
        simp only [Bool.and_eq_true, decide_eq_true_eq]
        exact ⟨⟨Int.le_refl _, by omega⟩, by simp only [lenI]; omega⟩
      have hset : List.getD (List.set c k (entX fl k)) k dfF = entX fl k := by
        simp [List.getD_eq_getElem?_getD, hk]
      have hent : ∀ s : List UInt8, s = fl.drop (2 * k) → ((V_decode_Decode s).1, (V_decode_Decode s).2.1, true, (V_decode_Decode s).2.2.1 != 0, ()) = entX fl k := fun s hs => by subst hs; rw [decode_V]; rfl
      have hs : List.drop (Int.toNat ((2 * k : Nat) : Int)) (List.take (Int.toNat (lenI fl)) fl) = fl.drop (2 * k) := by rw [e4, e5]
      cases he2 : ((dDec (fl.drop (2 * k))).2.2.1 != 0) with
      | true =>
        refine (runL_out ((val_no hno).trans ((val_yes hin).trans ((val_yes ?_).trans ((val_yes hle).trans ((val_yes (decode_G _)).trans ((val_yes ?_).trans rfl))))))).trans ?_
        · show (!(List.getD c (nplus 0 (w64 (Int.tdiv ((2 * k : Nat) : Int) 2))) dfF).2.2.1) = true
          rw [e1, e2, e6, hk1]; rfl
        · show (List.getD (List.set c (nplus 0 (w64 (Int.tdiv ((2 * k : Nat) : Int) 2))) ((V_decode_Decode (List.drop (Int.toNat ((2 * k : Nat) : Int)) (List.take (Int.toNat (lenI fl)) fl))).1, (V_decode_Decode (List.drop (Int.toNat ((2 * k : Nat) : Int)) (List.take (Int.toNat (lenI fl)) fl))).2.1, true, (V_decode_Decode (List.drop (Int.toNat ((2 * k : Nat) : Int)) (List.take (Int.toNat (lenI fl)) fl))).2.2.1 != 0, ())) (nplus 0 (w64 (Int.tdiv ((2 * k : Nat) : Int) 2))) dfF).2.2.2.1 = true
          rw [e1, e2, e6, hent _ hs, hset]
          exact he2
        · show some (1, t, (hd, fl, (), (rg, ((2 * k : Nat) : Int), fgs), dn, (0, fl.length / 2 + 1), ()), i0, M, List.set c (nplus 0 (w64 (Int.tdiv ((2 * k : Nat) : Int) 2))) ((V_decode_Decode (List.drop (Int.toNat ((2 * k : Nat) : Int)) (List.take (Int.toNat (lenI fl)) fl))).1, (V_decode_Decode (List.drop (Int.toNat ((2 * k : Nat) : Int)) (List.take (Int.toNat (lenI fl)) fl))).2.1, true, (V_decode_Decode (List.drop (Int.toNat ((2 * k : Nat) : Int)) (List.take (Int.toNat (lenI fl)) fl))).2.2.1 != 0, ()), B) = _
          rw [e1, e2, e6, hent _ hs]
          rfl
      | false =>
        refine (runL_out ((val_no hno).trans ((val_yes hin).trans ((val_yes ?_).trans ((val_yes hle).trans ((val_yes (decode_G _)).trans ((val_no ?_).trans rfl))))))).trans ?_
        · show (!(List.getD c (nplus 0 (w64 (Int.tdiv ((2 * k : Nat) : Int) 2))) dfF).2.2.1) = true
          rw [e1, e2, e6, hk1]; rfl
        · show (List.getD (List.set c (nplus 0 (w64 (Int.tdiv ((2 * k : Nat) : Int) 2))) ((V_decode_Decode (List.drop (Int.toNat ((2 * k : Nat) : Int)) (List.take (Int.toNat (lenI fl)) fl))).1, (V_decode_Decode (List.drop (Int.toNat ((2 * k : Nat) : Int)) (List.take (Int.toNat (lenI fl)) fl))).2.1, true, (V_decode_Decode (List.drop (Int.toNat ((2 * k : Nat) : Int)) (List.take (Int.toNat (lenI fl)) fl))).2.2.1 != 0, ())) (nplus 0 (w64 (Int.tdiv ((2 * k : Nat) : Int) 2))) dfF).2.2.2.1 = false
          rw [e1, e2, e6, hent _ hs, hset]
          exact he2
        · show some (0, (List.getD (List.set c (nplus 0 (w64 (Int.tdiv ((2 * k : Nat) : Int) 2))) ((V_decode_Decode (List.drop (Int.toNat ((2 * k : Nat) : Int)) (List.take (Int.toNat (lenI fl)) fl))).1, (V_decode_Decode (List.drop (Int.toNat ((2 * k : Nat) : Int)) (List.take (Int.toNat (lenI fl)) fl))).2.1, true, (V_decode_Decode (List.drop (Int.toNat ((2 * k : Nat) : Int)) (List.take (Int.toNat (lenI fl)) fl))).2.2.1 != 0, ())) (nplus 0 (w64 (Int.tdiv ((2 * k : Nat) : Int) 2))) dfF).2.1, (hd, fl, (), (rg, ((2 * k : Nat) : Int), fgs), dn, (0, fl.length / 2 + 1), ()), (List.getD (List.set c (nplus 0 (w64 (Int.tdiv ((2 * k : Nat) : Int) 2))) ((V_decode_Decode (List.drop (Int.toNat ((2 * k : Nat) : Int)) (List.take (Int.toNat (lenI fl)) fl))).1, (V_decode_Decode (List.drop (Int.toNat ((2 * k : Nat) : Int)) (List.take (Int.toNat (lenI fl)) fl))).2.1, true, (V_decode_Decode (List.drop (Int.toNat ((2 * k : Nat) : Int)) (List.take (Int.toNat (lenI fl)) fl))).2.2.1 != 0, ())) (nplus 0 (w64 (Int.tdiv ((2 * k : Nat) : Int) 2))) dfF).1, M, List.set c (nplus 0 (w64 (Int.tdiv ((2 * k : Nat) : Int) 2))) ((V_decode_Decode (List.drop (Int.toNat ((2 * k : Nat) : Int)) (List.take (Int.toNat (lenI fl)) fl))).1, (V_decode_Decode (List.drop (Int.toNat ((2 * k : Nat) : Int)) (List.take (Int.toNat (lenI fl)) fl))).2.1, true, (V_decode_Decode (List.drop (Int.toNat ((2 * k : Nat) : Int)) (List.take (Int.toNat (lenI fl)) fl))).2.2.1 != 0, ()), B) = _
          rw [e1, e2, e6, hent _ hs, hset]
          rfl
/-! ### A step -/

abbrev StepR : Type := tEvent.den × tState.den × Bool × MemT
def finX (st : tState.den) (i : tIns.den) (mem : MemT) (ld addr : Int) : StepR := ((0, st.2.1, addr, V_cpu_Cycles (st, i), ()), (V_cpu_Step (st, i, ld)).1, !(V_cpu_Step (st, i, ld)).2.1, mem)
def trapX (hd : tHead.den) (st : tState.den) (mem : MemT) (addr : Int) : StepR := ((2, st.2.1, addr, 12, ()), (st.1, hd.2.1, st.2.2), false, mem)
/-- An instruction that is done. -/
def actX (hd : tHead.den) (st : tState.den) (i : tIns.den) (mem : MemT) : StepR :=
  bif (V_cpu_Access (st, i)).2.1 then
    (bif (V_cpu_Access (st, i)).1.2.2.2.1 then
      (bif (storeM mem (V_cpu_Access (st, i)).1.1 (V_cpu_Access (st, i)).1.2.1 (V_cpu_Access (st, i)).1.2.2.1).1 != 0 then trapX hd st (storeM mem (V_cpu_Access (st, i)).1.1 (V_cpu_Access (st, i)).1.2.1 (V_cpu_Access (st, i)).1.2.2.1).2 (V_cpu_Access (st, i)).1.1
        else finX st i (storeM mem (V_cpu_Access (st, i)).1.1 (V_cpu_Access (st, i)).1.2.1 (V_cpu_Access (st, i)).1.2.2.1).2 0 (V_cpu_Access (st, i)).1.1)
     else bif (loadM mem (V_cpu_Access (st, i)).1.1 (V_cpu_Access (st, i)).1.2.1).2.1 != 0 then trapX hd st mem (V_cpu_Access (st, i)).1.1
        else finX st i mem (loadM mem (V_cpu_Access (st, i)).1.1 (V_cpu_Access (st, i)).1.2.1).1 (V_cpu_Access (st, i)).1.1)
  else finX st i mem 0 0
/-- A step behind the fault. -/
def turnX (hd : tHead.den) (fl : List UInt8) (st : tState.den) (mem : MemT) (skip : Bool) : StepR :=
  match fetchX fl st.2.1 with
  | none => trapX hd st mem 0
  | some p => bif skip then ((1, st.2.1, 0, 1, ()), (st.1, V_word_Add (st.2.1, p.2), st.2.2), false, mem) else actX hd st p.1 mem
def faultX (f : tFault.den) : tFault.den := bif V_machine_Check f != 0 then (0, 0, 0, 0, ()) else f
def stepMX (hd : tHead.den) (fl : List UInt8) (st : tState.den) (mem : MemT) (f : tFault.den) : StepR := turnX hd fl (V_hitS st (faultX f)) mem ((faultX f).1 == (1 : Int))

theorem hitS_len (s : tState.den) (f : tFault.den) (h : List.length s.1 = 15) : List.length (V_hitS s f).1 = 15 := by
  unfold V_hitS
  cases f.1 == (2 : Int)
  · cases f.1 == (3 : Int)
    · exact h
    · cases f.2.2.2.1 == (0 : Int) <;> cases f.2.2.2.1 == (1 : Int) <;> cases f.2.2.2.1 == (2 : Int) <;> cases f.2.2.2.1 == (3 : Int) <;> exact h
  · simp only [cond_true, List.length_set]
    exact h
theorem hitS_pc (s : tState.den) (f : tFault.den) : (V_hitS s f).2.1 = s.2.1 := by
  unfold V_hitS
  cases f.1 == (2 : Int)
  · cases f.1 == (3 : Int)
    · rfl
    · cases f.2.2.2.1 == (0 : Int) <;> cases f.2.2.2.1 == (1 : Int) <;> cases f.2.2.2.1 == (2 : Int) <;> cases f.2.2.2.1 == (3 : Int) <;> rfl
  · rfl

abbrev packX (hd : tHead.den) (fl : List UInt8) (win : Nat × Nat) (c : List tFetched.den) (r : StepR) : (tEvent.den × Bool × Unit) × MS := ((r.1, true, ()), ((hd, fl, (), r.2.1, r.2.2.1, win, ()), r.2.2.2.1, c, r.2.2.2.2))

/-- The walk of an instruction that is done. -/
def actT (hd : tHead.den) (fl : List UInt8) (dn : Bool) (win : Nat × Nat) (st : tState.den) (i : tIns.den) (M : (shMemB 3).den) (c : List tFetched.den) (B : List Int) : PO ((tEvent.den × Bool × Unit) × MS) :=
  .ite (G_cpu_Access (st, i))
    (.ite (V_cpu_Access (st, i)).2.1
      (.ite (V_cpu_Access (st, i)).1.2.2.2.1
        (.ite (G_memory_Memory_Store ((), (V_cpu_Access (st, i)).1.1, (V_cpu_Access (st, i)).1.2.1, (V_cpu_Access (st, i)).1.2.2.1) (M, B))
          (.ite ((V_memory_Memory_Store ((), (V_cpu_Access (st, i)).1.1, (V_cpu_Access (st, i)).1.2.1, (V_cpu_Access (st, i)).1.2.2.1) (M, B)).1 != 0)
            (.ret (((2, st.2.1, (V_cpu_Access (st, i)).1.1, 12, ()), true, ()), ((hd, fl, (), (st.1, hd.2.1, st.2.2), dn, win, ()), (V_memory_Memory_Store ((), (V_cpu_Access (st, i)).1.1, (V_cpu_Access (st, i)).1.2.1, (V_cpu_Access (st, i)).1.2.2.1) (M, B)).2.1, c, (V_memory_Memory_Store ((), (V_cpu_Access (st, i)).1.1, (V_cpu_Access (st, i)).1.2.1, (V_cpu_Access (st, i)).1.2.2.1) (M, B)).2.2)))
            (.ite (G_cpu_Cycles (st, i)) (.ite (G_cpu_Step (st, i, 0))
              (.ret (((0, st.2.1, (V_cpu_Access (st, i)).1.1, V_cpu_Cycles (st, i), ()), true, ()), ((hd, fl, (), (V_cpu_Step (st, i, 0)).1, !(V_cpu_Step (st, i, 0)).2.1, win, ()), (V_memory_Memory_Store ((), (V_cpu_Access (st, i)).1.1, (V_cpu_Access (st, i)).1.2.1, (V_cpu_Access (st, i)).1.2.2.1) (M, B)).2.1, c, (V_memory_Memory_Store ((), (V_cpu_Access (st, i)).1.1, (V_cpu_Access (st, i)).1.2.1, (V_cpu_Access (st, i)).1.2.2.1) (M, B)).2.2))) .fail) .fail))
          .fail)
        (.ite (G_memory_Memory_Load ((), (V_cpu_Access (st, i)).1.1, (V_cpu_Access (st, i)).1.2.1) (M, B))
          (.ite ((V_memory_Memory_Load ((), (V_cpu_Access (st, i)).1.1, (V_cpu_Access (st, i)).1.2.1) (M, B)).1.2.1 != 0)
            (.ret (((2, st.2.1, (V_cpu_Access (st, i)).1.1, 12, ()), true, ()), ((hd, fl, (), (st.1, hd.2.1, st.2.2), dn, win, ()), (V_memory_Memory_Load ((), (V_cpu_Access (st, i)).1.1, (V_cpu_Access (st, i)).1.2.1) (M, B)).2.1, c, (V_memory_Memory_Load ((), (V_cpu_Access (st, i)).1.1, (V_cpu_Access (st, i)).1.2.1) (M, B)).2.2)))
            (.ite (G_cpu_Cycles (st, i)) (.ite (G_cpu_Step (st, i, (V_memory_Memory_Load ((), (V_cpu_Access (st, i)).1.1, (V_cpu_Access (st, i)).1.2.1) (M, B)).1.1))
              (.ret (((0, st.2.1, (V_cpu_Access (st, i)).1.1, V_cpu_Cycles (st, i), ()), true, ()), ((hd, fl, (), (V_cpu_Step (st, i, (V_memory_Memory_Load ((), (V_cpu_Access (st, i)).1.1, (V_cpu_Access (st, i)).1.2.1) (M, B)).1.1)).1, !(V_cpu_Step (st, i, (V_memory_Memory_Load ((), (V_cpu_Access (st, i)).1.1, (V_cpu_Access (st, i)).1.2.1) (M, B)).1.1)).2.1, win, ()), (V_memory_Memory_Load ((), (V_cpu_Access (st, i)).1.1, (V_cpu_Access (st, i)).1.2.1) (M, B)).2.1, c, (V_memory_Memory_Load ((), (V_cpu_Access (st, i)).1.1, (V_cpu_Access (st, i)).1.2.1) (M, B)).2.2))) .fail) .fail))
          .fail))
      (.ite (G_cpu_Cycles (st, i)) (.ite (G_cpu_Step (st, i, 0))
        (.ret (((0, st.2.1, 0, V_cpu_Cycles (st, i), ()), true, ()), ((hd, fl, (), (V_cpu_Step (st, i, 0)).1, !(V_cpu_Step (st, i, 0)).2.1, win, ()), M, c, B))) .fail) .fail))
    .fail

theorem act_ok (hd : tHead.den) (fl : List UInt8) (win : Nat × Nat) (st : tState.den) (i : tIns.den) (M : (shMemB 3).den) (c : List tFetched.den) (B : List Int) (hr : List.length st.1 = 15) (hm : MemWf (M, B)) :
    (actT hd fl false win st i M c B).val = some (packX hd fl win c (actX hd st i (M, B))) := by
  have g1 : G_cpu_Access (st, i) = true := decide_eq_true hr
  have g2 : G_cpu_Cycles (st, i) = true := decide_eq_true hr
  have g3 : ∀ ld, G_cpu_Step (st, i, ld) = true := fun ld => decide_eq_true hr
  have ha := access_addr st i
  have g4 : ∀ n v, G_memory_Memory_Store ((), (V_cpu_Access (st, i)).1.1, n, v) (M, B) = true := fun n v => decide_eq_true ⟨hm, ha⟩
  have g5 : ∀ n, G_memory_Memory_Load ((), (V_cpu_Access (st, i)).1.1, n) (M, B) = true := fun n => decide_eq_true ⟨hm, ha⟩
  unfold actT actX
  refine (val_yes g1).trans ?_
  cases h1 : (V_cpu_Access (st, i)).2.1
  · exact (val_no rfl).trans ((val_yes g2).trans ((val_yes (g3 _)).trans rfl))
  · refine (val_yes rfl).trans ?_
    simp only [cond_true]
    cases h2 : (V_cpu_Access (st, i)).1.2.2.2.1
    · refine (val_no rfl).trans ((val_yes (g5 _)).trans ?_)
      simp only [cond_false]
      cases h3 : ((loadM (M, B) (V_cpu_Access (st, i)).1.1 (V_cpu_Access (st, i)).1.2.1).2.1 != (0 : Int))
      · exact (val_no h3).trans ((val_yes g2).trans ((val_yes (g3 _)).trans rfl))
      · exact (val_yes h3).trans rfl
    · refine (val_yes rfl).trans ((val_yes (g4 _ _)).trans ?_)
      simp only [cond_true]
      cases h3 : ((storeM (M, B) (V_cpu_Access (st, i)).1.1 (V_cpu_Access (st, i)).1.2.1 (V_cpu_Access (st, i)).1.2.2.1).1 != (0 : Int))
      · exact (val_no h3).trans ((val_yes g2).trans ((val_yes (g3 _)).trans rfl))
      · exact (val_yes h3).trans rfl
/-- (*machine.Machine).Step -/
abbrev SS_machine_Machine_Step : List Sh := [.box 0 0, .ty tFault]
abbrev HS_machine_Machine_Step : List Sh := [shMach, shMemB 3, .rowc tFetched, .rowc (.int .u8)]
abbrev S_machine_Machine_Step : Sh := Sh.tup (Sh.pair (Sh.ty tFault) (Sh.pair (Sh.ty Ty.bool) (Sh.ty Ty.unit)))
abbrev HT_machine_Machine_Step : List Sh := [Sh.pair (Sh.ty (Ty.pair (Ty.int IntKind.i64) (Ty.pair (Ty.int IntKind.i64) (Ty.pair tSizes (Ty.pair (Ty.int IntKind.i64) Ty.unit))))) (Sh.pair (Sh.ty Ty.str) (Sh.pair (Sh.box 1 0) (Sh.pair (Sh.ty tState) (Sh.pair (Sh.ty Ty.bool) (Sh.pair (Sh.win 2 (Ty.pair tIns (Ty.pair (Ty.int IntKind.i64) (Ty.pair Ty.bool (Ty.pair Ty.bool Ty.unit))))) (Sh.ty Ty.unit)))))), Sh.pair (Sh.ty (Ty.sl tSpot)) (Sh.pair (Sh.wsl none 3 (Ty.int IntKind.u8)) (Sh.ty Ty.unit)), Sh.rowc (Ty.pair tIns (Ty.pair (Ty.int IntKind.i64) (Ty.pair Ty.bool (Ty.pair Ty.bool Ty.unit)))), Sh.rowc (Ty.int IntKind.u8)]
def T_machine_Machine_Step (x : shDens SS_machine_Machine_Step) (y : shDens HS_machine_Machine_Step) : PO (Sh.den S_machine_Machine_Step × shDens HT_machine_Machine_Step) :=
  (.ite (y.1.2.2.2.2.1)
   (.ret (((0, 0, 0, 0, ()), false, ()), ((y.1.1, y.1.2.1, (), y.1.2.2.2), y.2.1, y.2.2.1, y.2.2.2)))
   (.ite (V_machine_Check x.2 != 0)
    (.ite (G_machine_Machine_hit ((), 0, 0, 0, 0, ()) ((y.1.1, y.1.2.1, (), y.1.2.2.2), y.2))
     (.opt (LoopN.res L_machine_Machine_fetch_c5 ((), (), 0, (V_hitS y.1.2.2.2.1 (0, 0, 0, 0, ())).2.1) ((y.1.1, y.1.2.1, (), V_hitS y.1.2.2.2.1 (0, 0, 0, 0, ()), y.1.2.2.2.2), (0, 0, 0, 0, 0, 0, 0, false, ()), y.2)) fun p0 =>
      (.ite (way p0.1)
       (.ite (G_cpu_Access (p0.2.2.1.2.2.2.1, p0.2.2.2.1))
        (.ite ((V_cpu_Access (p0.2.2.1.2.2.2.1, p0.2.2.2.1)).2.1)
         (.ite ((V_cpu_Access (p0.2.2.1.2.2.2.1, p0.2.2.2.1)).1.2.2.2.1)
          (.ite (G_memory_Memory_Store ((), (V_cpu_Access (p0.2.2.1.2.2.2.1, p0.2.2.2.1)).1.1, (V_cpu_Access (p0.2.2.1.2.2.2.1, p0.2.2.2.1)).1.2.1, (V_cpu_Access (p0.2.2.1.2.2.2.1, p0.2.2.2.1)).1.2.2.1) (p0.2.2.2.2.1, p0.2.2.2.2.2.2))
           (.ite ((V_memory_Memory_Store ((), (V_cpu_Access (p0.2.2.1.2.2.2.1, p0.2.2.2.1)).1.1, (V_cpu_Access (p0.2.2.1.2.2.2.1, p0.2.2.2.1)).1.2.1, (V_cpu_Access (p0.2.2.1.2.2.2.1, p0.2.2.2.1)).1.2.2.1) (p0.2.2.2.2.1, p0.2.2.2.2.2.2)).1 != 0)
            (.ret (((2, p0.2.2.1.2.2.2.1.2.1, (V_cpu_Access (p0.2.2.1.2.2.2.1, p0.2.2.2.1)).1.1, 12, ()), true, ()), ((p0.2.2.1.1, p0.2.2.1.2.1, (), (p0.2.2.1.2.2.2.1.1, p0.2.2.1.1.2.1, p0.2.2.1.2.2.2.1.2.2), p0.2.2.1.2.2.2.2), (V_memory_Memory_Store ((), (V_cpu_Access (p0.2.2.1.2.2.2.1, p0.2.2.2.1)).1.1, (V_cpu_Access (p0.2.2.1.2.2.2.1, p0.2.2.2.1)).1.2.1, (V_cpu_Access (p0.2.2.1.2.2.2.1, p0.2.2.2.1)).1.2.2.1) (p0.2.2.2.2.1, p0.2.2.2.2.2.2)).2.1, p0.2.2.2.2.2.1, (V_memory_Memory_Store ((), (V_cpu_Access (p0.2.2.1.2.2.2.1, p0.2.2.2.1)).1.1, (V_cpu_Access (p0.2.2.1.2.2.2.1, p0.2.2.2.1)).1.2.1, (V_cpu_Access (p0.2.2.1.2.2.2.1, p0.2.2.2.1)).1.2.2.1) (p0.2.2.2.2.1, p0.2.2.2.2.2.2)).2.2)))
            (.ite (G_cpu_Cycles (p0.2.2.1.2.2.2.1, p0.2.2.2.1))
             (.ite (G_cpu_Step (p0.2.2.1.2.2.2.1, p0.2.2.2.1, 0))
              (.ret (((0, (V_hitS y.1.2.2.2.1 (0, 0, 0, 0, ())).2.1, (V_cpu_Access (p0.2.2.1.2.2.2.1, p0.2.2.2.1)).1.1, V_cpu_Cycles (p0.2.2.1.2.2.2.1, p0.2.2.2.1), ()), true, ()), ((p0.2.2.1.1, p0.2.2.1.2.1, (), (V_cpu_Step (p0.2.2.1.2.2.2.1, p0.2.2.2.1, 0)).1, !(V_cpu_Step (p0.2.2.1.2.2.2.1, p0.2.2.2.1, 0)).2.1, p0.2.2.1.2.2.2.2.2), (V_memory_Memory_Store ((), (V_cpu_Access (p0.2.2.1.2.2.2.1, p0.2.2.2.1)).1.1, (V_cpu_Access (p0.2.2.1.2.2.2.1, p0.2.2.2.1)).1.2.1, (V_cpu_Access (p0.2.2.1.2.2.2.1, p0.2.2.2.1)).1.2.2.1) (p0.2.2.2.2.1, p0.2.2.2.2.2.2)).2.1, p0.2.2.2.2.2.1, (V_memory_Memory_Store ((), (V_cpu_Access (p0.2.2.1.2.2.2.1, p0.2.2.2.1)).1.1, (V_cpu_Access (p0.2.2.1.2.2.2.1, p0.2.2.2.1)).1.2.1, (V_cpu_Access (p0.2.2.1.2.2.2.1, p0.2.2.2.1)).1.2.2.1) (p0.2.2.2.2.1, p0.2.2.2.2.2.2)).2.2)))
              .fail)
             .fail))
           .fail)
          (.ite (G_memory_Memory_Load ((), (V_cpu_Access (p0.2.2.1.2.2.2.1, p0.2.2.2.1)).1.1, (V_cpu_Access (p0.2.2.1.2.2.2.1, p0.2.2.2.1)).1.2.1) (p0.2.2.2.2.1, p0.2.2.2.2.2.2))
           (.ite ((V_memory_Memory_Load ((), (V_cpu_Access (p0.2.2.1.2.2.2.1, p0.2.2.2.1)).1.1, (V_cpu_Access (p0.2.2.1.2.2.2.1, p0.2.2.2.1)).1.2.1) (p0.2.2.2.2.1, p0.2.2.2.2.2.2)).1.2.1 != 0)
            (.ret (((2, p0.2.2.1.2.2.2.1.2.1, (V_cpu_Access (p0.2.2.1.2.2.2.1, p0.2.2.2.1)).1.1, 12, ()), true, ()), ((p0.2.2.1.1, p0.2.2.1.2.1, (), (p0.2.2.1.2.2.2.1.1, p0.2.2.1.1.2.1, p0.2.2.1.2.2.2.1.2.2), p0.2.2.1.2.2.2.2), (V_memory_Memory_Load ((), (V_cpu_Access (p0.2.2.1.2.2.2.1, p0.2.2.2.1)).1.1, (V_cpu_Access (p0.2.2.1.2.2.2.1, p0.2.2.2.1)).1.2.1) (p0.2.2.2.2.1, p0.2.2.2.2.2.2)).2.1, p0.2.2.2.2.2.1, (V_memory_Memory_Load ((), (V_cpu_Access (p0.2.2.1.2.2.2.1, p0.2.2.2.1)).1.1, (V_cpu_Access (p0.2.2.1.2.2.2.1, p0.2.2.2.1)).1.2.1) (p0.2.2.2.2.1, p0.2.2.2.2.2.2)).2.2)))
            (.ite (G_cpu_Cycles (p0.2.2.1.2.2.2.1, p0.2.2.2.1))
             (.ite (G_cpu_Step (p0.2.2.1.2.2.2.1, p0.2.2.2.1, (V_memory_Memory_Load ((), (V_cpu_Access (p0.2.2.1.2.2.2.1, p0.2.2.2.1)).1.1, (V_cpu_Access (p0.2.2.1.2.2.2.1, p0.2.2.2.1)).1.2.1) (p0.2.2.2.2.1, p0.2.2.2.2.2.2)).1.1))
              (.ret (((0, (V_hitS y.1.2.2.2.1 (0, 0, 0, 0, ())).2.1, (V_cpu_Access (p0.2.2.1.2.2.2.1, p0.2.2.2.1)).1.1, V_cpu_Cycles (p0.2.2.1.2.2.2.1, p0.2.2.2.1), ()), true, ()), ((p0.2.2.1.1, p0.2.2.1.2.1, (), (V_cpu_Step (p0.2.2.1.2.2.2.1, p0.2.2.2.1, (V_memory_Memory_Load ((), (V_cpu_Access (p0.2.2.1.2.2.2.1, p0.2.2.2.1)).1.1, (V_cpu_Access (p0.2.2.1.2.2.2.1, p0.2.2.2.1)).1.2.1) (p0.2.2.2.2.1, p0.2.2.2.2.2.2)).1.1)).1, !(V_cpu_Step (p0.2.2.1.2.2.2.1, p0.2.2.2.1, (V_memory_Memory_Load ((), (V_cpu_Access (p0.2.2.1.2.2.2.1, p0.2.2.2.1)).1.1, (V_cpu_Access (p0.2.2.1.2.2.2.1, p0.2.2.2.1)).1.2.1) (p0.2.2.2.2.1, p0.2.2.2.2.2.2)).1.1)).2.1, p0.2.2.1.2.2.2.2.2), (V_memory_Memory_Load ((), (V_cpu_Access (p0.2.2.1.2.2.2.1, p0.2.2.2.1)).1.1, (V_cpu_Access (p0.2.2.1.2.2.2.1, p0.2.2.2.1)).1.2.1) (p0.2.2.2.2.1, p0.2.2.2.2.2.2)).2.1, p0.2.2.2.2.2.1, (V_memory_Memory_Load ((), (V_cpu_Access (p0.2.2.1.2.2.2.1, p0.2.2.2.1)).1.1, (V_cpu_Access (p0.2.2.1.2.2.2.1, p0.2.2.2.1)).1.2.1) (p0.2.2.2.2.1, p0.2.2.2.2.2.2)).2.2)))
              .fail)
             .fail))
           .fail))
         (.ite (G_cpu_Cycles (p0.2.2.1.2.2.2.1, p0.2.2.2.1))
          (.ite (G_cpu_Step (p0.2.2.1.2.2.2.1, p0.2.2.2.1, 0))
           (.ret (((0, (V_hitS y.1.2.2.2.1 (0, 0, 0, 0, ())).2.1, 0, V_cpu_Cycles (p0.2.2.1.2.2.2.1, p0.2.2.2.1), ()), true, ()), ((p0.2.2.1.1, p0.2.2.1.2.1, (), (V_cpu_Step (p0.2.2.1.2.2.2.1, p0.2.2.2.1, 0)).1, !(V_cpu_Step (p0.2.2.1.2.2.2.1, p0.2.2.2.1, 0)).2.1, p0.2.2.1.2.2.2.2.2), p0.2.2.2.2.1, p0.2.2.2.2.2.1, p0.2.2.2.2.2.2)))
           .fail)
          .fail))
        .fail)
       (.ret (((2, p0.2.2.1.2.2.2.1.2.1, 0, 12, ()), true, ()), ((p0.2.2.1.1, p0.2.2.1.2.1, (), (p0.2.2.1.2.2.2.1.1, p0.2.2.1.1.2.1, p0.2.2.1.2.2.2.1.2.2), p0.2.2.1.2.2.2.2), p0.2.2.2.2.1, p0.2.2.2.2.2.1, p0.2.2.2.2.2.2)))))
     .fail)
    (.ite (G_machine_Machine_hit ((), x.2) ((y.1.1, y.1.2.1, (), y.1.2.2.2), y.2))
     (.opt (LoopN.res L_machine_Machine_fetch_c5 ((), (), 0, (V_hitS y.1.2.2.2.1 x.2).2.1) ((y.1.1, y.1.2.1, (), V_hitS y.1.2.2.2.1 x.2, y.1.2.2.2.2), (0, 0, 0, 0, 0, 0, 0, false, ()), y.2)) fun p0 =>
      (.ite (way p0.1)
       (.ite (x.2.1 == 1)
        (.ret (((1, (V_hitS y.1.2.2.2.1 x.2).2.1, 0, 1, ()), true, ()), ((p0.2.2.1.1, p0.2.2.1.2.1, (), (p0.2.2.1.2.2.2.1.1, V_word_Add (p0.2.2.1.2.2.2.1.2.1, p0.2.1), p0.2.2.1.2.2.2.1.2.2), p0.2.2.1.2.2.2.2), p0.2.2.2.2.1, p0.2.2.2.2.2.1, p0.2.2.2.2.2.2)))
        (.ite (G_cpu_Access (p0.2.2.1.2.2.2.1, p0.2.2.2.1))
         (.ite ((V_cpu_Access (p0.2.2.1.2.2.2.1, p0.2.2.2.1)).2.1)
          (.ite ((V_cpu_Access (p0.2.2.1.2.2.2.1, p0.2.2.2.1)).1.2.2.2.1)
           (.ite (G_memory_Memory_Store ((), (V_cpu_Access (p0.2.2.1.2.2.2.1, p0.2.2.2.1)).1.1, (V_cpu_Access (p0.2.2.1.2.2.2.1, p0.2.2.2.1)).1.2.1, (V_cpu_Access (p0.2.2.1.2.2.2.1, p0.2.2.2.1)).1.2.2.1) (p0.2.2.2.2.1, p0.2.2.2.2.2.2))
            (.ite ((V_memory_Memory_Store ((), (V_cpu_Access (p0.2.2.1.2.2.2.1, p0.2.2.2.1)).1.1, (V_cpu_Access (p0.2.2.1.2.2.2.1, p0.2.2.2.1)).1.2.1, (V_cpu_Access (p0.2.2.1.2.2.2.1, p0.2.2.2.1)).1.2.2.1) (p0.2.2.2.2.1, p0.2.2.2.2.2.2)).1 != 0)
             (.ret (((2, p0.2.2.1.2.2.2.1.2.1, (V_cpu_Access (p0.2.2.1.2.2.2.1, p0.2.2.2.1)).1.1, 12, ()), true, ()), ((p0.2.2.1.1, p0.2.2.1.2.1, (), (p0.2.2.1.2.2.2.1.1, p0.2.2.1.1.2.1, p0.2.2.1.2.2.2.1.2.2), p0.2.2.1.2.2.2.2), (V_memory_Memory_Store ((), (V_cpu_Access (p0.2.2.1.2.2.2.1, p0.2.2.2.1)).1.1, (V_cpu_Access (p0.2.2.1.2.2.2.1, p0.2.2.2.1)).1.2.1, (V_cpu_Access (p0.2.2.1.2.2.2.1, p0.2.2.2.1)).1.2.2.1) (p0.2.2.2.2.1, p0.2.2.2.2.2.2)).2.1, p0.2.2.2.2.2.1, (V_memory_Memory_Store ((), (V_cpu_Access (p0.2.2.1.2.2.2.1, p0.2.2.2.1)).1.1, (V_cpu_Access (p0.2.2.1.2.2.2.1, p0.2.2.2.1)).1.2.1, (V_cpu_Access (p0.2.2.1.2.2.2.1, p0.2.2.2.1)).1.2.2.1) (p0.2.2.2.2.1, p0.2.2.2.2.2.2)).2.2)))
             (.ite (G_cpu_Cycles (p0.2.2.1.2.2.2.1, p0.2.2.2.1))
              (.ite (G_cpu_Step (p0.2.2.1.2.2.2.1, p0.2.2.2.1, 0))
               (.ret (((0, (V_hitS y.1.2.2.2.1 x.2).2.1, (V_cpu_Access (p0.2.2.1.2.2.2.1, p0.2.2.2.1)).1.1, V_cpu_Cycles (p0.2.2.1.2.2.2.1, p0.2.2.2.1), ()), true, ()), ((p0.2.2.1.1, p0.2.2.1.2.1, (), (V_cpu_Step (p0.2.2.1.2.2.2.1, p0.2.2.2.1, 0)).1, !(V_cpu_Step (p0.2.2.1.2.2.2.1, p0.2.2.2.1, 0)).2.1, p0.2.2.1.2.2.2.2.2), (V_memory_Memory_Store ((), (V_cpu_Access (p0.2.2.1.2.2.2.1, p0.2.2.2.1)).1.1, (V_cpu_Access (p0.2.2.1.2.2.2.1, p0.2.2.2.1)).1.2.1, (V_cpu_Access (p0.2.2.1.2.2.2.1, p0.2.2.2.1)).1.2.2.1) (p0.2.2.2.2.1, p0.2.2.2.2.2.2)).2.1, p0.2.2.2.2.2.1, (V_memory_Memory_Store ((), (V_cpu_Access (p0.2.2.1.2.2.2.1, p0.2.2.2.1)).1.1, (V_cpu_Access (p0.2.2.1.2.2.2.1, p0.2.2.2.1)).1.2.1, (V_cpu_Access (p0.2.2.1.2.2.2.1, p0.2.2.2.1)).1.2.2.1) (p0.2.2.2.2.1, p0.2.2.2.2.2.2)).2.2)))
               .fail)
              .fail))
            .fail)
           (.ite (G_memory_Memory_Load ((), (V_cpu_Access (p0.2.2.1.2.2.2.1, p0.2.2.2.1)).1.1, (V_cpu_Access (p0.2.2.1.2.2.2.1, p0.2.2.2.1)).1.2.1) (p0.2.2.2.2.1, p0.2.2.2.2.2.2))
            (.ite ((V_memory_Memory_Load ((), (V_cpu_Access (p0.2.2.1.2.2.2.1, p0.2.2.2.1)).1.1, (V_cpu_Access (p0.2.2.1.2.2.2.1, p0.2.2.2.1)).1.2.1) (p0.2.2.2.2.1, p0.2.2.2.2.2.2)).1.2.1 != 0)
             (.ret (((2, p0.2.2.1.2.2.2.1.2.1, (V_cpu_Access (p0.2.2.1.2.2.2.1, p0.2.2.2.1)).1.1, 12, ()), true, ()), ((p0.2.2.1.1, p0.2.2.1.2.1, (), (p0.2.2.1.2.2.2.1.1, p0.2.2.1.1.2.1, p0.2.2.1.2.2.2.1.2.2), p0.2.2.1.2.2.2.2), (V_memory_Memory_Load ((), (V_cpu_Access (p0.2.2.1.2.2.2.1, p0.2.2.2.1)).1.1, (V_cpu_Access (p0.2.2.1.2.2.2.1, p0.2.2.2.1)).1.2.1) (p0.2.2.2.2.1, p0.2.2.2.2.2.2)).2.1, p0.2.2.2.2.2.1, (V_memory_Memory_Load ((), (V_cpu_Access (p0.2.2.1.2.2.2.1, p0.2.2.2.1)).1.1, (V_cpu_Access (p0.2.2.1.2.2.2.1, p0.2.2.2.1)).1.2.1) (p0.2.2.2.2.1, p0.2.2.2.2.2.2)).2.2)))
             (.ite (G_cpu_Cycles (p0.2.2.1.2.2.2.1, p0.2.2.2.1))
              (.ite (G_cpu_Step (p0.2.2.1.2.2.2.1, p0.2.2.2.1, (V_memory_Memory_Load ((), (V_cpu_Access (p0.2.2.1.2.2.2.1, p0.2.2.2.1)).1.1, (V_cpu_Access (p0.2.2.1.2.2.2.1, p0.2.2.2.1)).1.2.1) (p0.2.2.2.2.1, p0.2.2.2.2.2.2)).1.1))
               (.ret (((0, (V_hitS y.1.2.2.2.1 x.2).2.1, (V_cpu_Access (p0.2.2.1.2.2.2.1, p0.2.2.2.1)).1.1, V_cpu_Cycles (p0.2.2.1.2.2.2.1, p0.2.2.2.1), ()), true, ()), ((p0.2.2.1.1, p0.2.2.1.2.1, (), (V_cpu_Step (p0.2.2.1.2.2.2.1, p0.2.2.2.1, (V_memory_Memory_Load ((), (V_cpu_Access (p0.2.2.1.2.2.2.1, p0.2.2.2.1)).1.1, (V_cpu_Access (p0.2.2.1.2.2.2.1, p0.2.2.2.1)).1.2.1) (p0.2.2.2.2.1, p0.2.2.2.2.2.2)).1.1)).1, !(V_cpu_Step (p0.2.2.1.2.2.2.1, p0.2.2.2.1, (V_memory_Memory_Load ((), (V_cpu_Access (p0.2.2.1.2.2.2.1, p0.2.2.2.1)).1.1, (V_cpu_Access (p0.2.2.1.2.2.2.1, p0.2.2.2.1)).1.2.1) (p0.2.2.2.2.1, p0.2.2.2.2.2.2)).1.1)).2.1, p0.2.2.1.2.2.2.2.2), (V_memory_Memory_Load ((), (V_cpu_Access (p0.2.2.1.2.2.2.1, p0.2.2.2.1)).1.1, (V_cpu_Access (p0.2.2.1.2.2.2.1, p0.2.2.2.1)).1.2.1) (p0.2.2.2.2.1, p0.2.2.2.2.2.2)).2.1, p0.2.2.2.2.2.1, (V_memory_Memory_Load ((), (V_cpu_Access (p0.2.2.1.2.2.2.1, p0.2.2.2.1)).1.1, (V_cpu_Access (p0.2.2.1.2.2.2.1, p0.2.2.2.1)).1.2.1) (p0.2.2.2.2.1, p0.2.2.2.2.2.2)).2.2)))
               .fail)
              .fail))
            .fail))
          (.ite (G_cpu_Cycles (p0.2.2.1.2.2.2.1, p0.2.2.2.1))
           (.ite (G_cpu_Step (p0.2.2.1.2.2.2.1, p0.2.2.2.1, 0))
            (.ret (((0, (V_hitS y.1.2.2.2.1 x.2).2.1, 0, V_cpu_Cycles (p0.2.2.1.2.2.2.1, p0.2.2.2.1), ()), true, ()), ((p0.2.2.1.1, p0.2.2.1.2.1, (), (V_cpu_Step (p0.2.2.1.2.2.2.1, p0.2.2.2.1, 0)).1, !(V_cpu_Step (p0.2.2.1.2.2.2.1, p0.2.2.2.1, 0)).2.1, p0.2.2.1.2.2.2.2.2), p0.2.2.2.2.1, p0.2.2.2.2.2.1, p0.2.2.2.2.2.2)))
            .fail)
           .fail))
         .fail))
       (.ret (((2, p0.2.2.1.2.2.2.1.2.1, 0, 12, ()), true, ()), ((p0.2.2.1.1, p0.2.2.1.2.1, (), (p0.2.2.1.2.2.2.1.1, p0.2.2.1.1.2.1, p0.2.2.1.2.2.2.1.2.2), p0.2.2.1.2.2.2.2), p0.2.2.2.2.1, p0.2.2.2.2.2.1, p0.2.2.2.2.2.2)))))
     .fail)))
def G_machine_Machine_Step (_ : shDens SS_machine_Machine_Step) (y : shDens HS_machine_Machine_Step) : Bool := decide (MachWf y)
def V_machine_Machine_Step (x : shDens SS_machine_Machine_Step) (y : shDens HS_machine_Machine_Step) : Sh.den S_machine_Machine_Step × shDens HT_machine_Machine_Step :=
  bif y.1.2.2.2.2.1 then (((0, 0, 0, 0, ()), false, ()), y)
  else packX y.1.1 y.1.2.1 y.1.2.2.2.2.2.1 (cacheX y.1.2.1 y.1.2.2.2.1.2.1 y.2.2.1) (stepMX y.1.1 y.1.2.1 y.1.2.2.2.1 (y.2.1, y.2.2.2) x.2)
theorem check_reg (k p r b : Int) (h : V_machine_Check (k, p, r, b, ()) = 0) : (!(k == (2 : Int)) || inRange r 15) = true := by
  cases h2 : (k == (2 : Int))
  · rfl
  · simp only [beq_iff_eq] at h2
    subst h2
    have hx : (decide (p ≥ 0) && (decide (r ≥ 0) && (decide (r ≤ 14) && (decide (b ≥ 0) && decide (b < 32))))) = true := by
      cases hx : (decide (p ≥ 0) && (decide (r ≥ 0) && (decide (r ≤ 14) && (decide (b ≥ 0) && decide (b < 32)))))
      · exfalso
        have : V_machine_Check (2, p, r, b, ()) = 2 := by
          unfold V_machine_Check PO.getO
          rw [show (T_machine_Check (2, p, r, b, ())).val = some 2 from val_yes (by
            show (!(decide (p ≥ 0) && (decide (r ≥ 0) && (decide (r ≤ 14) && (decide (b ≥ 0) && decide (b < 32)))))) = true
            rw [hx]; rfl)]
          rfl
        rw [this] at h
        cases h
      · rfl
    simp only [Bool.and_eq_true, decide_eq_true_eq] at hx
    have h1 : inRange r 15 = true := by
      simp only [inRange, Bool.and_eq_true, decide_eq_true_eq]
      omega
    rw [h1]
    rfl
set_option maxRecDepth 10000 in
theorem ok_machine_Machine_Step (x : shDens SS_machine_Machine_Step) (y : shDens HS_machine_Machine_Step) (h : G_machine_Machine_Step x y = true) : (T_machine_Machine_Step x y).val = some (V_machine_Machine_Step x y) := by
  have hw : MachWf y := of_decide_eq_true h
  obtain ⟨_, k, p, r, b, _⟩ := x
  obtain ⟨⟨hd, fl, u, st, dn, win, u'⟩, M, c, B⟩ := y
  obtain ⟨hmem, hregs, hpc, hhand, hlen, hwin, hcache⟩ := hw
  simp only at hmem hregs hpc hhand hlen hwin hcache
  subst hwin
  unfold T_machine_Machine_Step V_machine_Machine_Step
  cases dn
  case true => exact (val_yes rfl).trans rfl
  case false =>
  refine (val_no rfl).trans ?_
  have hp : ∀ f, 0 ≤ (show Int from (V_hitS st f).2.1) ∧ (show Int from (V_hitS st f).2.1) < 4294967296 := fun f => by rw [hitS_pc]; exact hpc
  have go := fun f => fetch_res fl c hd (V_hitS st f) false (0, 0, 0, 0, 0, 0, 0, false, ()) 0 M B (hp f) hcache
  have act := fun f i => act_ok hd fl (0, fl.length / 2 + 1) (V_hitS st f) i M (cacheX fl (V_hitS st f).2.1 c) B (hitS_len st f hregs) hmem
  have e0 : ∀ f, cacheX fl st.2.1 c = cacheX fl (V_hitS st f).2.1 c := fun f => by rw [hitS_pc]
  show _ = some (packX hd fl (0, fl.length / 2 + 1) (cacheX fl st.2.1 c) (stepMX hd fl st (M, B) (k, p, r, b, ())))
  unfold stepMX faultX
  cases hck : (V_machine_Check (k, p, r, b, ()) != (0 : Int))
  · refine (val_no rfl).trans ((val_yes (check_reg k p r b (by simpa using hck))).trans ((val_opt (go _)).trans ?_))
    simp only [cond_false]
    rw [e0 (k, p, r, b, ())]
    unfold turnX
    have ha := act (k, p, r, b, ())
    cases fetchX fl (V_hitS st (k, p, r, b, ())).2.1 with
    | none => exact (val_no rfl).trans rfl
    | some q =>
      refine (val_yes rfl).trans ?_
      simp only
      cases hs : (k == (1 : Int))
      · exact (val_no rfl).trans (ha q.1)
      · exact (val_yes rfl).trans rfl
  · refine (val_yes rfl).trans ((val_yes rfl).trans ((val_opt (go _)).trans ?_))
    simp only [cond_true]
    rw [e0 (0, 0, 0, 0, ())]
    unfold turnX
    have ha := act (0, 0, 0, 0, ())
    cases fetchX fl (V_hitS st (0, 0, 0, 0, ())).2.1 with
    | none => exact (val_no rfl).trans rfl
    | some q => exact (val_yes rfl).trans (ha q.1)
end Go.Av
end
/-! Layer 9: a run's steps. -/
section
namespace Go.Av
open Go

/-! ### Machines stay as they should be -/

theorem entX_at {fl : List UInt8} {c : List tFetched.den} (h : cacheOk fl c) (pc : Int) : cacheOk fl (cacheX fl pc c) := by
  unfold cacheX
  cases (band .i64 pc 1 != 0 || decide (pc ≥ lenI fl))
  · cases (List.getD c (pc / 2).toNat dfF).2.2.1
    · refine ⟨by simp only [cond_false, List.length_set]; exact h.1, fun k hk hn => ?_⟩
      simp only [cond_false, List.length_set] at hk hn ⊢
      rw [List.getD_eq_getElem?_getD, List.getElem?_set] at hn ⊢
      split at hn
      · rename_i e
        subst e
        rw [if_pos rfl]
        split
        · rfl
        · omega
      · rename_i e
        rw [if_neg e]
        have := h.2 k hk
        rw [List.getD_eq_getElem?_getD] at this
        exact this hn
    · exact h
  · exact h

theorem wn_word (n : Int) : 0 ≤ ((wn n : Nat) : Int) ∧ ((wn n : Nat) : Int) < 4294967296 := ⟨by omega, by have := wn_lt n; omega⟩
theorem step_pcw (st : tState.den) (i : tIns.den) (ld : Int) : ∃ m : Int, (show Int from (V_cpu_Step (st, i, ld)).1.2.1) = ((wn m : Nat) : Int) := by
  obtain ⟨op, rd, rn, rm, ra, imm, cond, w, u⟩ := i
  show ∃ m : Int, (show Int from (stepV _ st op rd rn rm ra imm cond w ld).1.2.1) = ((wn m : Nat) : Int)
  unfold stepV
  cases (V_thumb_Check (op, rd, rn, rm, ra, imm, cond, w, u) != 0 || op == 2)
  · exact ⟨_, rfl⟩
  · exact ⟨_, rfl⟩
theorem step_pc (st : tState.den) (i : tIns.den) (ld : Int) : 0 ≤ (show Int from (V_cpu_Step (st, i, ld)).1.2.1) ∧ (show Int from (V_cpu_Step (st, i, ld)).1.2.1) < 4294967296 := by
  obtain ⟨m, hm⟩ := step_pcw st i ld
  rw [hm]
  exact wn_word m

/-- What is known of a step's outcome. -/
theorem actX_wf (hd : tHead.den) (st : tState.den) (i : tIns.den) (mem : MemT) (hm : MemWf mem) (hr : List.length st.1 = 15) (hh : 0 ≤ (show Int from hd.2.1) ∧ (show Int from hd.2.1) < 4294967296) :
    List.length (actX hd st i mem).2.1.1 = 15 ∧ (0 ≤ (show Int from (actX hd st i mem).2.1.2.1) ∧ (show Int from (actX hd st i mem).2.1.2.1) < 4294967296) ∧ MemWf (actX hd st i mem).2.2.2 ∧ (actX hd st i mem).2.2.2.1 = mem.1 ∧ 0 ≤ (show Int from (actX hd st i mem).1.2.2.2.1) ∧ (show Int from (actX hd st i mem).1.2.2.2.1) ≤ 12 := by
  have hcy : 0 ≤ (show Int from V_cpu_Cycles (st, i)) ∧ (show Int from V_cpu_Cycles (st, i)) ≤ 12 := by
    obtain ⟨op, rd, rn, rm, ra, imm, cond, w, u⟩ := i
    show 0 ≤ cyclesV _ st op cond ∧ cyclesV _ st op cond ≤ 12
    unfold cyclesV
    cases (V_thumb_Check (op, rd, rn, rm, ra, imm, cond, w, u) != 0)
    · cases (op == 19 || (op == 20 || (op == 21 || op == 22)))
      · cases (op == 17)
        · cases goesV st op cond <;> simp
        · simp
      · simp
    · simp
  have fin : ∀ m ld ad, MemWf m → m.1 = mem.1 → List.length (finX st i m ld ad).2.1.1 = 15 ∧ (0 ≤ (show Int from (finX st i m ld ad).2.1.2.1) ∧ (show Int from (finX st i m ld ad).2.1.2.1) < 4294967296) ∧ MemWf (finX st i m ld ad).2.2.2 ∧ (finX st i m ld ad).2.2.2.1 = mem.1 ∧ 0 ≤ (show Int from (finX st i m ld ad).1.2.2.2.1) ∧ (show Int from (finX st i m ld ad).1.2.2.2.1) ≤ 12 :=
    fun m ld ad h1 h2 => ⟨step_len st i ld hr, step_pc st i ld, h1, h2, hcy.1, hcy.2⟩
  have trap : ∀ m ad, MemWf m → m.1 = mem.1 → List.length (trapX hd st m ad).2.1.1 = 15 ∧ (0 ≤ (show Int from (trapX hd st m ad).2.1.2.1) ∧ (show Int from (trapX hd st m ad).2.1.2.1) < 4294967296) ∧ MemWf (trapX hd st m ad).2.2.2 ∧ (trapX hd st m ad).2.2.2.1 = mem.1 ∧ 0 ≤ (show Int from (trapX hd st m ad).1.2.2.2.1) ∧ (show Int from (trapX hd st m ad).1.2.2.2.1) ≤ 12 :=
    fun m ad h1 h2 => ⟨hr, hh, h1, h2, by show (0 : Int) ≤ 12; decide, by show (12 : Int) ≤ 12; decide⟩
  unfold actX
  cases (V_cpu_Access (st, i)).2.1
  · exact fin _ _ _ hm rfl
  · cases (V_cpu_Access (st, i)).1.2.2.2.1
    · cases ((loadM mem (V_cpu_Access (st, i)).1.1 (V_cpu_Access (st, i)).1.2.1).2.1 != (0 : Int))
      · exact fin _ _ _ hm rfl
      · exact trap _ _ hm rfl
    · have hs := store_wf hm (V_cpu_Access (st, i)).1.1 (V_cpu_Access (st, i)).1.2.1 (V_cpu_Access (st, i)).1.2.2.1
      cases ((storeM mem (V_cpu_Access (st, i)).1.1 (V_cpu_Access (st, i)).1.2.1 (V_cpu_Access (st, i)).1.2.2.1).1 != (0 : Int))
      · exact fin _ _ _ hs.1 hs.2
      · exact trap _ _ hs.1 hs.2

theorem stepMX_wf (hd : tHead.den) (fl : List UInt8) (st : tState.den) (mem : MemT) (f : tFault.den) (hm : MemWf mem) (hr : List.length st.1 = 15) (hh : 0 ≤ (show Int from hd.2.1) ∧ (show Int from hd.2.1) < 4294967296) :
    List.length (stepMX hd fl st mem f).2.1.1 = 15 ∧ (0 ≤ (show Int from (stepMX hd fl st mem f).2.1.2.1) ∧ (show Int from (stepMX hd fl st mem f).2.1.2.1) < 4294967296) ∧ MemWf (stepMX hd fl st mem f).2.2.2 ∧ (stepMX hd fl st mem f).2.2.2.1 = mem.1 ∧ 0 ≤ (show Int from (stepMX hd fl st mem f).1.2.2.2.1) ∧ (show Int from (stepMX hd fl st mem f).1.2.2.2.1) ≤ 12 := by
  unfold stepMX turnX
  have hl := hitS_len st (faultX f) hr
  cases fetchX fl (V_hitS st (faultX f)).2.1 with
  | none => exact ⟨hl, hh, hm, rfl, by show (0 : Int) ≤ 12; decide, by show (12 : Int) ≤ 12; decide⟩
  | some p =>
    simp only
    cases ((faultX f).1 == (1 : Int))
    · exact actX_wf hd _ p.1 mem hm hl hh
    · exact ⟨hl, wn_word _, hm, rfl, by show (0 : Int) ≤ 1; decide, by show (1 : Int) ≤ 12; decide⟩

theorem step_MachWf {y : MS} (h : MachWf y) (f : tFault.den) : MachWf (packX y.1.1 y.1.2.1 y.1.2.2.2.2.2.1 (cacheX y.1.2.1 y.1.2.2.2.1.2.1 y.2.2.1) (stepMX y.1.1 y.1.2.1 y.1.2.2.2.1 (y.2.1, y.2.2.2) f)).2 := by
  obtain ⟨h1, h2, h3, h4, _⟩ := stepMX_wf y.1.1 y.1.2.1 y.1.2.2.2.1 (y.2.1, y.2.2.2) f h.mem h.regs h.hand
  exact ⟨h3, h1, h2, h.hand, h.len, h.win, entX_at h.cache _⟩

/-! ### Runs -/

/-- What a run turns: the state, whether it is done, the memory. -/
abbrev RunS : Type := tState.den × Bool × MemT
abbrev noFault : tFault.den := (0, 0, 0, 0, ())
def nowX (f : tFault.den) (k : Int) : tFault.den := bif f.2.1 == k then f else noFault
/-- Steps till the machine is done, or has made as many: their events, how many began at the handler, what is left. -/
def goX (hd : tHead.den) (fl : List UInt8) (f : tFault.den) : Nat → Int → RunS → List tEvent.den × Int × RunS
  | 0, _, s => ([], 0, s)
  | n + 1, k, s => bif s.2.1 then ([], 0, s) else
      ((stepMX hd fl s.1 s.2.2 (nowX f k)).1 :: (goX hd fl f n (k + 1) (stepMX hd fl s.1 s.2.2 (nowX f k)).2).1,
        (bif s.1.2.1 == hd.2.1 then 1 else 0) + (goX hd fl f n (k + 1) (stepMX hd fl s.1 s.2.2 (nowX f k)).2).2.1,
        (goX hd fl f n (k + 1) (stepMX hd fl s.1 s.2.2 (nowX f k)).2).2.2)
/-- The cache behind such a run. -/
def cgoX (hd : tHead.den) (fl : List UInt8) (f : tFault.den) : Nat → Int → RunS → List tFetched.den → List tFetched.den
  | 0, _, _, c => c
  | n + 1, k, s, c => bif s.2.1 then c else cgoX hd fl f n (k + 1) (stepMX hd fl s.1 s.2.2 (nowX f k)).2 (cacheX fl s.1.2.1 c)
def cycX : List tEvent.den → Int
  | [] => 0
  | v :: l => v.2.2.2.1 + cycX l
def runSof (y : MS) : RunS := (y.1.2.2.2.1, y.1.2.2.2.2.1, (y.2.1, y.2.2.2))
abbrev withRun (y : MS) (s : RunS) (c : List tFetched.den) : MS := ((y.1.1, y.1.2.1, (), s.1, s.2.1, y.1.2.2.2.2.2.1, ()), s.2.2.1, c, s.2.2.2)

def L_stepsR : LoopN where
  M := [0, 2, 3, 5, 8, 9]
  T := [10, 11, 12, 13, 14, 15, 16, 17, 18, 19, 20, 21, 22, 23, 24, 25, 26, 27, 28, 29, 30, 31, 32, 33, 34, 35, 36, 37, 38, 39, 40, 41, 42, 43, 44, 45, 46, 47, 48, 49, 50, 51, 52, 53, 54, 55, 56, 57, 58, 59, 60, 61, 62, 63, 64]
  D := [2, 3, 5]
  ss := [.box 0 0, .ty (.int .i64), .fn 23 (.ty .unit), .box 1 0, .box 2 0, .box 3 0]
  hs := [(shMachB 4 5), (.ty tFault), (.ty tResult), (.ty tResult), (shMemB 6), .rowc tFetched, .rowc (.int .u8)]
  es := [.exit 0]
  σ := (Sh.den ((shMachB 4 5))) × (Sh.den ((.ty tFault))) × (Sh.den ((.ty tResult))) × (Sh.den ((.ty tResult))) × (Sh.den ((shMemB 6))) × (Sh.den (.rowc tFetched)) × (Sh.den (.rowc (.int .u8)))
  x0 := fun _ y => (y.1, y.2.1, y.2.2.1, y.2.2.2.1, y.2.2.2.2.1, y.2.2.2.2.2.1, y.2.2.2.2.2.2)
  put := fun x _ s => ((x.1, x.2.1, x.2.2.1, x.2.2.2.1, x.2.2.2.2.1, x.2.2.2.2.2), (s.1, s.2.1, s.2.2.1, s.2.2.2.1, s.2.2.2.2.1, s.2.2.2.2.2.1, s.2.2.2.2.2.2))
  fuel := fun x _ => Int.toNat x.2.1+1
  turn := fun x _ s =>
  (.ite (!s.1.2.2.2.2.1 && decide (s.2.2.2.1.2.1 < x.2.1))
   (.ite (s.1.2.2.2.1.2.1 == s.1.1.2.1)
    (.ite (s.2.1.2.1 == s.2.2.2.1.2.1)
     (.ite (G_machine_Machine_Step ((), s.2.1) ((s.1.1, s.1.2.1, (), s.1.2.2.2), s.2.2.2.2))
      (.ret (.on (((V_machine_Machine_Step ((), s.2.1) ((s.1.1, s.1.2.1, (), s.1.2.2.2), s.2.2.2.2)).2.1.1, (V_machine_Machine_Step ((), s.2.1) ((s.1.1, s.1.2.1, (), s.1.2.2.2), s.2.2.2.2)).2.1.2.1, (), (V_machine_Machine_Step ((), s.2.1) ((s.1.1, s.1.2.1, (), s.1.2.2.2), s.2.2.2.2)).2.1.2.2.2), s.2.1, s.2.2.1, (s.2.2.2.1.1, w64 (s.2.2.2.1.2.1 + 1), w64 (s.2.2.2.1.2.2.1 + (V_machine_Machine_Step ((), s.2.1) ((s.1.1, s.1.2.1, (), s.1.2.2.2), s.2.2.2.2)).1.1.2.2.2.1), w64 (s.2.2.2.1.2.2.2.1 + 1), s.2.2.2.1.2.2.2.2), (V_machine_Machine_Step ((), s.2.1) ((s.1.1, s.1.2.1, (), s.1.2.2.2), s.2.2.2.2)).2.2.1, (V_machine_Machine_Step ((), s.2.1) ((s.1.1, s.1.2.1, (), s.1.2.2.2), s.2.2.2.2)).2.2.2.1, (V_machine_Machine_Step ((), s.2.1) ((s.1.1, s.1.2.1, (), s.1.2.2.2), s.2.2.2.2)).2.2.2.2)))
      .fail)
     (.ite (G_machine_Machine_Step ((), 0, 0, 0, 0, ()) ((s.1.1, s.1.2.1, (), s.1.2.2.2), s.2.2.2.2))
      (.ret (.on (((V_machine_Machine_Step ((), 0, 0, 0, 0, ()) ((s.1.1, s.1.2.1, (), s.1.2.2.2), s.2.2.2.2)).2.1.1, (V_machine_Machine_Step ((), 0, 0, 0, 0, ()) ((s.1.1, s.1.2.1, (), s.1.2.2.2), s.2.2.2.2)).2.1.2.1, (), (V_machine_Machine_Step ((), 0, 0, 0, 0, ()) ((s.1.1, s.1.2.1, (), s.1.2.2.2), s.2.2.2.2)).2.1.2.2.2), s.2.1, s.2.2.1, (s.2.2.2.1.1, w64 (s.2.2.2.1.2.1 + 1), w64 (s.2.2.2.1.2.2.1 + (V_machine_Machine_Step ((), 0, 0, 0, 0, ()) ((s.1.1, s.1.2.1, (), s.1.2.2.2), s.2.2.2.2)).1.1.2.2.2.1), w64 (s.2.2.2.1.2.2.2.1 + 1), s.2.2.2.1.2.2.2.2), (V_machine_Machine_Step ((), 0, 0, 0, 0, ()) ((s.1.1, s.1.2.1, (), s.1.2.2.2), s.2.2.2.2)).2.2.1, (V_machine_Machine_Step ((), 0, 0, 0, 0, ()) ((s.1.1, s.1.2.1, (), s.1.2.2.2), s.2.2.2.2)).2.2.2.1, (V_machine_Machine_Step ((), 0, 0, 0, 0, ()) ((s.1.1, s.1.2.1, (), s.1.2.2.2), s.2.2.2.2)).2.2.2.2)))
      .fail))
    (.ite (s.2.1.2.1 == s.2.2.2.1.2.1)
     (.ite (G_machine_Machine_Step ((), s.2.1) ((s.1.1, s.1.2.1, (), s.1.2.2.2), s.2.2.2.2))
      (.ret (.on (((V_machine_Machine_Step ((), s.2.1) ((s.1.1, s.1.2.1, (), s.1.2.2.2), s.2.2.2.2)).2.1.1, (V_machine_Machine_Step ((), s.2.1) ((s.1.1, s.1.2.1, (), s.1.2.2.2), s.2.2.2.2)).2.1.2.1, (), (V_machine_Machine_Step ((), s.2.1) ((s.1.1, s.1.2.1, (), s.1.2.2.2), s.2.2.2.2)).2.1.2.2.2), s.2.1, s.2.2.1, (s.2.2.2.1.1, w64 (s.2.2.2.1.2.1 + 1), w64 (s.2.2.2.1.2.2.1 + (V_machine_Machine_Step ((), s.2.1) ((s.1.1, s.1.2.1, (), s.1.2.2.2), s.2.2.2.2)).1.1.2.2.2.1), s.2.2.2.1.2.2.2), (V_machine_Machine_Step ((), s.2.1) ((s.1.1, s.1.2.1, (), s.1.2.2.2), s.2.2.2.2)).2.2.1, (V_machine_Machine_Step ((), s.2.1) ((s.1.1, s.1.2.1, (), s.1.2.2.2), s.2.2.2.2)).2.2.2.1, (V_machine_Machine_Step ((), s.2.1) ((s.1.1, s.1.2.1, (), s.1.2.2.2), s.2.2.2.2)).2.2.2.2)))
      .fail)
     (.ite (G_machine_Machine_Step ((), 0, 0, 0, 0, ()) ((s.1.1, s.1.2.1, (), s.1.2.2.2), s.2.2.2.2))
      (.ret (.on (((V_machine_Machine_Step ((), 0, 0, 0, 0, ()) ((s.1.1, s.1.2.1, (), s.1.2.2.2), s.2.2.2.2)).2.1.1, (V_machine_Machine_Step ((), 0, 0, 0, 0, ()) ((s.1.1, s.1.2.1, (), s.1.2.2.2), s.2.2.2.2)).2.1.2.1, (), (V_machine_Machine_Step ((), 0, 0, 0, 0, ()) ((s.1.1, s.1.2.1, (), s.1.2.2.2), s.2.2.2.2)).2.1.2.2.2), s.2.1, s.2.2.1, (s.2.2.2.1.1, w64 (s.2.2.2.1.2.1 + 1), w64 (s.2.2.2.1.2.2.1 + (V_machine_Machine_Step ((), 0, 0, 0, 0, ()) ((s.1.1, s.1.2.1, (), s.1.2.2.2), s.2.2.2.2)).1.1.2.2.2.1), s.2.2.2.1.2.2.2), (V_machine_Machine_Step ((), 0, 0, 0, 0, ()) ((s.1.1, s.1.2.1, (), s.1.2.2.2), s.2.2.2.2)).2.2.1, (V_machine_Machine_Step ((), 0, 0, 0, 0, ()) ((s.1.1, s.1.2.1, (), s.1.2.2.2), s.2.2.2.2)).2.2.2.1, (V_machine_Machine_Step ((), 0, 0, 0, 0, ()) ((s.1.1, s.1.2.1, (), s.1.2.2.2), s.2.2.2.2)).2.2.2.2)))
      .fail)))
   (.ret (.out 0 (s.1, s.2.1, s.2.2.1, s.2.2.2.1, s.2.2.2.2.1, s.2.2.2.2.2.1, s.2.2.2.2.2.2))))
theorem end_eq {α β γ δ ε : Type} {A : α} {f : β} {r0 : ε} {hal : Bool} {rst : γ} {B : δ} {X1 Y1 X2 Y2 X3 Y3 : Int} (h1 : X1 = Y1) (h2 : X2 = Y2) (h3 : X3 = Y3) : some ((0 : Nat), A, f, r0, (hal, X1, X2, X3, rst), B) = some ((0 : Nat), A, f, r0, (hal, Y1, Y2, Y3, rst), B) := by
  subst h1 h2 h3
  rfl
/-- The loop of a run: k steps are made already. -/
theorem stepsR_from (f : tFault.den) (budget : Int) (hbud : budget ≤ 67108864) (r0 : tResult.den) (rst : Int × Int × List UInt8 × List UInt8 × List UInt8 × Unit) (hal : Bool) (x : shDens L_stepsR.ss) (hx : x.2.1 = budget) (y0 : shDens L_stepsR.hs) :
    ∀ (n k : Nat) (cyc hnd : Int) (y : MS), (k : Int) + n = budget → MachWf y → 0 ≤ cyc → cyc ≤ 12 * k → 0 ≤ hnd → hnd ≤ k →
      runL (L_stepsR.turn x y0) (n + 1) (y.1, f, r0, (hal, (k : Int), cyc, hnd, rst), y.2.1, y.2.2.1, y.2.2.2) =
        some (0, ((withRun y (goX y.1.1 y.1.2.1 f n k (runSof y)).2.2 (cgoX y.1.1 y.1.2.1 f n k (runSof y) y.2.2.1)).1, f, r0,
          (hal, (k : Int) + ((goX y.1.1 y.1.2.1 f n k (runSof y)).1.length : Int), cyc + cycX (goX y.1.1 y.1.2.1 f n k (runSof y)).1, hnd + (goX y.1.1 y.1.2.1 f n k (runSof y)).2.1, rst),
          (withRun y (goX y.1.1 y.1.2.1 f n k (runSof y)).2.2 (cgoX y.1.1 y.1.2.1 f n k (runSof y) y.2.2.1)).2)) := by
  intro n
  induction n with
  | zero =>
    intro k cyc hnd y hk hw _ _ _ _
    refine (runL_out ((val_no ?_).trans rfl)).trans ?_
    · show (!y.1.2.2.2.2.1 && decide ((k : Int) < x.2.1)) = false
      rw [hx, dec_false (show ¬ (k : Int) < budget by omega), Bool.and_false]
    · simp [goX, cgoX, cycX, runSof]
      rfl
  | succ n ih =>
    intro k cyc hnd y hk hw hc0 hc1 hh0 hh1
    cases hd : y.1.2.2.2.2.1 with
    | true =>
      refine (runL_out ((val_no ?_).trans rfl)).trans ?_
      · show (!y.1.2.2.2.2.1 && decide ((k : Int) < x.2.1)) = false
        rw [hd]; rfl
      · have hg : goX y.1.1 y.1.2.1 f (n + 1) k (runSof y) = ([], 0, runSof y) := by
          unfold goX
          rw [show (runSof y).2.1 = true from hd]
          rfl
        have hcg : cgoX y.1.1 y.1.2.1 f (n + 1) k (runSof y) y.2.2.1 = y.2.2.1 := by
          unfold cgoX
          rw [show (runSof y).2.1 = true from hd]
          rfl
        rw [hg, hcg]
        simp [cycX, runSof]
        rfl
    | false =>
      have hlt : (!y.1.2.2.2.2.1 && decide ((k : Int) < x.2.1)) = true := by
        rw [hx, hd, dec_true (show (k : Int) < budget by omega)]; rfl
      have hG : ∀ g, G_machine_Machine_Step ((), g) ((y.1.1, y.1.2.1, (), y.1.2.2.2), y.2) = true := fun g => decide_eq_true hw
      have hV : ∀ g, V_machine_Machine_Step ((), g) ((y.1.1, y.1.2.1, (), y.1.2.2.2), y.2) = packX y.1.1 y.1.2.1 y.1.2.2.2.2.2.1 (cacheX y.1.2.1 y.1.2.2.2.1.2.1 y.2.2.1) (stepMX y.1.1 y.1.2.1 y.1.2.2.2.1 (y.2.1, y.2.2.2) g) := fun g => by
        unfold V_machine_Machine_Step
        rw [show (((y.1.1, y.1.2.1, (), y.1.2.2.2), y.2) : MS).1.2.2.2.2.1 = false from hd]
        rfl
      obtain ⟨s1, s2, s3, s4, s5, s6⟩ := stepMX_wf y.1.1 y.1.2.1 y.1.2.2.2.1 (y.2.1, y.2.2.2) (nowX f k) hw.mem hw.regs hw.hand
      have hw' := step_MachWf hw (nowX f k)
      have hgo : goX y.1.1 y.1.2.1 f (n + 1) k (runSof y) = ((stepMX y.1.1 y.1.2.1 y.1.2.2.2.1 (y.2.1, y.2.2.2) (nowX f k)).1 :: (goX y.1.1 y.1.2.1 f n (k + 1) (stepMX y.1.1 y.1.2.1 y.1.2.2.2.1 (y.2.1, y.2.2.2) (nowX f k)).2).1,
          (bif y.1.2.2.2.1.2.1 == y.1.1.2.1 then 1 else 0) + (goX y.1.1 y.1.2.1 f n (k + 1) (stepMX y.1.1 y.1.2.1 y.1.2.2.2.1 (y.2.1, y.2.2.2) (nowX f k)).2).2.1,
          (goX y.1.1 y.1.2.1 f n (k + 1) (stepMX y.1.1 y.1.2.1 y.1.2.2.2.1 (y.2.1, y.2.2.2) (nowX f k)).2).2.2) := by
        rw [goX]
        rw [show (runSof y).2.1 = false from hd]
        rfl
      have hcg : cgoX y.1.1 y.1.2.1 f (n + 1) k (runSof y) y.2.2.1 = cgoX y.1.1 y.1.2.1 f n (k + 1) (stepMX y.1.1 y.1.2.1 y.1.2.2.2.1 (y.2.1, y.2.2.2) (nowX f k)).2 (cacheX y.1.2.1 y.1.2.2.2.1.2.1 y.2.2.1) := by
        rw [cgoX]
        rw [show (runSof y).2.1 = false from hd]
        rfl
      rw [hgo, hcg]
      have w1 : w64 ((k : Int) + 1) = ((k + 1 : Nat) : Int) := by rw [w64_id (by omega) (by omega)]; omega
      generalize hE : stepMX y.1.1 y.1.2.1 y.1.2.2.2.1 (y.2.1, y.2.2.2) (nowX f k) = E at *
      have b0 : (0 : Int) ≤ E.1.2.2.2.1 := s5
      have b1 : (12 : Int) ≥ E.1.2.2.2.1 := s6
      have b2 : (k : Int) ≤ 67108864 := by omega
      have b3 : cyc ≤ 805306368 := by omega
      have w2 : w64 (cyc + E.1.2.2.2.1) = cyc + E.1.2.2.2.1 := w64_id (by omega) (by omega)
      have w3 : w64 (hnd + 1) = hnd + 1 := w64_id (by omega) (by omega)
      obtain ⟨G1, hG1⟩ : ∃ G1, G1 = goX y.1.1 y.1.2.1 f n ((k : Int) + 1) E.2 := ⟨_, rfl⟩
      obtain ⟨C1, hC1⟩ : ∃ C1, C1 = cgoX y.1.1 y.1.2.1 f n ((k : Int) + 1) E.2 (cacheX y.1.2.1 y.1.2.2.2.1.2.1 y.2.2.1) := ⟨_, rfl⟩
      rw [← hG1, ← hC1]
      have fin : ∀ (b : Int), (b = 0 ∨ b = 1) → runL (L_stepsR.turn x y0) (n + 1) ((packX y.1.1 y.1.2.1 y.1.2.2.2.2.2.1 (cacheX y.1.2.1 y.1.2.2.2.1.2.1 y.2.2.1) E).2.1, f, r0, (hal, ((k + 1 : Nat) : Int), cyc + E.1.2.2.2.1, hnd + b, rst), (packX y.1.1 y.1.2.1 y.1.2.2.2.2.2.1 (cacheX y.1.2.1 y.1.2.2.2.1.2.1 y.2.2.1) E).2.2) = some (0, (withRun y G1.2.2 C1).1, f, r0, (hal, ((k + 1 : Nat) : Int) + ((G1.1.length : Nat) : Int), cyc + E.1.2.2.2.1 + cycX G1.1, hnd + b + G1.2.1, rst), (withRun y G1.2.2 C1).2) := fun b hb => by
        have := ih (k + 1) (cyc + E.1.2.2.2.1) (hnd + b) (packX y.1.1 y.1.2.1 y.1.2.2.2.2.2.1 (cacheX y.1.2.1 y.1.2.2.2.1.2.1 y.2.2.1) E).2 (by omega) hw' (by omega) (by omega) (by omega) (by omega)
        rw [hG1, hC1]
        exact this
      have hnow : nowX f k = (bif f.2.1 == (k : Int) then f else noFault) := rfl
      cases hb1 : (y.1.2.2.2.1.2.1 == y.1.1.2.1) with
      | true =>
        cases hb2 : (f.2.1 == (k : Int)) with
        | true =>
          rw [hb2] at hnow
          simp only [cond_true] at hnow
          rw [hnow] at hE
          refine (runL_on (s' := ((packX y.1.1 y.1.2.1 y.1.2.2.2.2.2.1 (cacheX y.1.2.1 y.1.2.2.2.1.2.1 y.2.2.1) E).2.1, f, r0, (hal, ((k + 1 : Nat) : Int), cyc + E.1.2.2.2.1, hnd + 1, rst), (packX y.1.1 y.1.2.1 y.1.2.2.2.2.2.1 (cacheX y.1.2.1 y.1.2.2.2.1.2.1 y.2.2.1) E).2.2)) ((val_yes hlt).trans ((val_yes hb1).trans ((val_yes hb2).trans ((val_yes (hG _)).trans (by rw [hV, hE, w1, w2, w3]; rfl)))))).trans ?_
          refine (fin 1 (.inr rfl)).trans ?_
          exact end_eq (by simp only [List.length_cons]; omega) (Int.add_assoc _ _ _) (Int.add_assoc _ _ _)
        | false =>
          rw [hb2] at hnow
          simp only [cond_false] at hnow
          rw [hnow] at hE
          refine (runL_on (s' := ((packX y.1.1 y.1.2.1 y.1.2.2.2.2.2.1 (cacheX y.1.2.1 y.1.2.2.2.1.2.1 y.2.2.1) E).2.1, f, r0, (hal, ((k + 1 : Nat) : Int), cyc + E.1.2.2.2.1, hnd + 1, rst), (packX y.1.1 y.1.2.1 y.1.2.2.2.2.2.1 (cacheX y.1.2.1 y.1.2.2.2.1.2.1 y.2.2.1) E).2.2)) ((val_yes hlt).trans ((val_yes hb1).trans ((val_no hb2).trans ((val_yes (hG _)).trans (by rw [hV, hE, w1, w2, w3]; rfl)))))).trans ?_
          refine (fin 1 (.inr rfl)).trans ?_
          exact end_eq (by simp only [List.length_cons]; omega) (Int.add_assoc _ _ _) (Int.add_assoc _ _ _)
      | false =>
        cases hb2 : (f.2.1 == (k : Int)) with
        | true =>
          rw [hb2] at hnow
          simp only [cond_true] at hnow
          rw [hnow] at hE
          refine (runL_on (s' := ((packX y.1.1 y.1.2.1 y.1.2.2.2.2.2.1 (cacheX y.1.2.1 y.1.2.2.2.1.2.1 y.2.2.1) E).2.1, f, r0, (hal, ((k + 1 : Nat) : Int), cyc + E.1.2.2.2.1, hnd + 0, rst), (packX y.1.1 y.1.2.1 y.1.2.2.2.2.2.1 (cacheX y.1.2.1 y.1.2.2.2.1.2.1 y.2.2.1) E).2.2)) ((val_yes hlt).trans ((val_no hb1).trans ((val_yes hb2).trans ((val_yes (hG _)).trans (by rw [hV, hE, w1, w2]; simp only [Int.add_zero]; rfl)))))).trans ?_
          refine (fin 0 (.inl rfl)).trans ?_
          exact end_eq (by simp only [List.length_cons]; omega) (Int.add_assoc _ _ _) (Int.add_assoc _ _ _)
        | false =>
          rw [hb2] at hnow
          simp only [cond_false] at hnow
          rw [hnow] at hE
          refine (runL_on (s' := ((packX y.1.1 y.1.2.1 y.1.2.2.2.2.2.1 (cacheX y.1.2.1 y.1.2.2.2.1.2.1 y.2.2.1) E).2.1, f, r0, (hal, ((k + 1 : Nat) : Int), cyc + E.1.2.2.2.1, hnd + 0, rst), (packX y.1.1 y.1.2.1 y.1.2.2.2.2.2.1 (cacheX y.1.2.1 y.1.2.2.2.1.2.1 y.2.2.1) E).2.2)) ((val_yes hlt).trans ((val_no hb1).trans ((val_no hb2).trans ((val_yes (hG _)).trans (by rw [hV, hE, w1, w2]; simp only [Int.add_zero]; rfl)))))).trans ?_
          refine (fin 0 (.inl rfl)).trans ?_
          exact end_eq (by simp only [List.length_cons]; omega) (Int.add_assoc _ _ _) (Int.add_assoc _ _ _)
/-- (*machine.Machine).steps -/
abbrev SS_machine_Machine_steps : List Sh := [.box 0 0, .ty tFault, .ty (.int .i64), .fn 23 (.ty .unit)]
abbrev HS_machine_Machine_steps : List Sh := [shMach, shMemB 3, .rowc tFetched, .rowc (.int .u8)]
abbrev S_machine_Machine_steps : Sh := Sh.ty tResult
abbrev HT_machine_Machine_steps : List Sh := [Sh.pair (Sh.ty (Ty.pair (Ty.int IntKind.i64) (Ty.pair (Ty.int IntKind.i64) (Ty.pair tSizes (Ty.pair (Ty.int IntKind.i64) Ty.unit))))) (Sh.pair (Sh.ty Ty.str) (Sh.pair (Sh.box 1 0) (Sh.pair (Sh.ty tState) (Sh.pair (Sh.ty Ty.bool) (Sh.pair (Sh.win 2 (Ty.pair tIns (Ty.pair (Ty.int IntKind.i64) (Ty.pair Ty.bool (Ty.pair Ty.bool Ty.unit))))) (Sh.ty Ty.unit)))))), Sh.pair (Sh.ty (Ty.sl tSpot)) (Sh.pair (Sh.wsl none 3 (Ty.int IntKind.u8)) (Sh.ty Ty.unit)), Sh.rowc (Ty.pair tIns (Ty.pair (Ty.int IntKind.i64) (Ty.pair Ty.bool (Ty.pair Ty.bool Ty.unit)))), Sh.rowc (Ty.int IntKind.u8)]
def T_machine_Machine_steps (x : shDens SS_machine_Machine_steps) (y : shDens HS_machine_Machine_steps) : PO (Sh.den S_machine_Machine_steps × shDens HT_machine_Machine_steps) :=
  (.opt (LoopN.res L_stepsR ((), x.2.2.1, x.2.2.2, (), (), ()) ((y.1.1, y.1.2.1, (), y.1.2.2.2), x.2.1, (false, 0, 0, 0, 0, 0, [], [], [], ()), (false, 0, 0, 0, 0, 0, [], [], [], ()), y.2)) fun p0 =>
   (.ret ((p0.2.1.2.2.2.2.1, p0.2.2.2.2.1.2), ((p0.2.1.1, p0.2.1.2.1, (), p0.2.1.2.2.2), p0.2.2.2.2.2.1, p0.2.2.2.2.2.2.1, p0.2.2.2.2.2.2.2))))
def G_machine_Machine_steps (x : shDens SS_machine_Machine_steps) (y : shDens HS_machine_Machine_steps) : Bool := decide (MachWf y ∧ (show Int from x.2.2.1) ≤ 67108864)
/-- What a run's steps leave: their result, so far. -/
def V_stepsRes (x : tFault.den × Int) (y : MS) : tResult.den := ((goX y.1.1 y.1.2.1 x.1 x.2.toNat 0 (runSof y)).2.2.2.1, ((goX y.1.1 y.1.2.1 x.1 x.2.toNat 0 (runSof y)).1.length : Int), cycX (goX y.1.1 y.1.2.1 x.1 x.2.toNat 0 (runSof y)).1, (goX y.1.1 y.1.2.1 x.1 x.2.toNat 0 (runSof y)).2.1, 0, 0, [], [], [], ())
def V_stepsEnd (x : tFault.den × Int) (y : MS) : MS := withRun y (goX y.1.1 y.1.2.1 x.1 x.2.toNat 0 (runSof y)).2.2 (cgoX y.1.1 y.1.2.1 x.1 x.2.toNat 0 (runSof y) y.2.2.1)
abbrev V_machine_Machine_steps (x : shDens SS_machine_Machine_steps) (y : shDens HS_machine_Machine_steps) : Sh.den S_machine_Machine_steps × shDens HT_machine_Machine_steps := (V_stepsRes (x.2.1, x.2.2.1) y, V_stepsEnd (x.2.1, x.2.2.1) y)
theorem ok_machine_Machine_steps (x : shDens SS_machine_Machine_steps) (y : shDens HS_machine_Machine_steps) (h : G_machine_Machine_steps x y = true) : (T_machine_Machine_steps x y).val = some (V_machine_Machine_steps x y) := by
  obtain ⟨hw, hb⟩ := of_decide_eq_true h
  obtain ⟨u, f, budget, u'⟩ := x
  have hb : budget ≤ 67108864 := hb
  unfold T_machine_Machine_steps
  have key : LoopN.res L_stepsR ((), budget, u', (), (), ()) ((y.1.1, y.1.2.1, (), y.1.2.2.2), f, (false, 0, 0, 0, 0, 0, [], [], [], ()), (false, 0, 0, 0, 0, 0, [], [], [], ()), y.2) =
      some (0, (V_stepsEnd (f, budget) y).1, f, (false, 0, 0, 0, 0, 0, [], [], [], ()), (false, ((goX y.1.1 y.1.2.1 f budget.toNat 0 (runSof y)).1.length : Int), cycX (goX y.1.1 y.1.2.1 f budget.toNat 0 (runSof y)).1, (goX y.1.1 y.1.2.1 f budget.toNat 0 (runSof y)).2.1, 0, 0, [], [], [], ()), (V_stepsEnd (f, budget) y).2) := by
    rcases Int.lt_or_le budget 0 with h0 | h0
    · unfold LoopN.res
      have e : budget.toNat = 0 := by omega
      show runL _ (budget.toNat + 1) _ = _
      unfold V_stepsEnd
      rw [e]
      refine (runL_out ((val_no ?_).trans rfl)).trans rfl
      show (!y.1.2.2.2.2.1 && decide ((0 : Int) < budget)) = false
      rw [dec_false (show ¬ (0 : Int) < budget by omega), Bool.and_false]
    · have := stepsR_from f budget hb (false, 0, 0, 0, 0, 0, [], [], [], ()) (0, 0, [], [], [], ()) false ((), budget, u', (), (), ()) rfl ((y.1.1, y.1.2.1, (), y.1.2.2.2), f, (false, 0, 0, 0, 0, 0, [], [], [], ()), (false, 0, 0, 0, 0, 0, [], [], [], ()), y.2) budget.toNat 0 0 0 y (by omega) hw (by omega) (by omega) (by omega) (by omega)
      unfold LoopN.res
      refine Eq.trans ?_ (this.trans (end_eq (Int.zero_add _) (Int.zero_add _) (Int.zero_add _)))
      rfl
  exact (val_opt key).trans rfl
end Go.Av
end
/-! Layer 6: images. -/
section
namespace Go.Av
open Go
/-- word.Of -/
abbrev A_word_Of : List Ty := [.str]
abbrev S_word_Of : Sh := Sh.tup (Sh.pair (Sh.ty (Ty.int IntKind.i64)) (Sh.pair (Sh.ty Ty.bool) (Sh.ty Ty.unit)))
def T_word_Of (x : dens A_word_Of) : PO (Sh.den S_word_Of) :=
  (.ite (lenI x != 4)
   (.ret ((0, false, ())))
   (.ite (inRange 0 (List.length x) && true)
    (.ite (inRange 1 (List.length x) && true)
     (.ite (inRange 2 (List.length x) && true)
      (.ite (inRange 3 (List.length x) && true)
       (.ret ((bor IntKind.i64 (bor IntKind.i64 (bor IntKind.i64 (bor IntKind.i64 0 (ishl IntKind.i64 (w64 (u8I (List.getD x (Int.toNat 0) 0))) 0)) (ishl IntKind.i64 (w64 (u8I (List.getD x (Int.toNat 1) 0))) 8)) (ishl IntKind.i64 (w64 (u8I (List.getD x (Int.toNat 2) 0))) 16)) (ishl IntKind.i64 (w64 (u8I (List.getD x (Int.toNat 3) 0))) 24), true, ())))
       .fail)
      .fail)
     .fail)
    .fail))
def G_word_Of (x : dens A_word_Of) : Bool := (T_word_Of x).val.isSome
def V_word_Of (x : dens A_word_Of) : Sh.den S_word_Of := (T_word_Of x).getO default
theorem ok_word_Of (x : dens A_word_Of) (h : G_word_Of x = true) : (T_word_Of x).val = some (V_word_Of x) := PO.getO_ok default h
/-- image.place -/
abbrev A_image_place : List Ty := [(.int .i64), (.int .i64)]
abbrev S_image_place : Sh := Sh.ty Ty.bool
def T_image_place (x : dens A_image_place) : PO (Sh.den S_image_place) :=
  (.ret (decide (x.1 ≥ 64) && (decide (x.1 < x.2) && band IntKind.i64 x.1 1 == 0)))
def G_image_place (_ : dens A_image_place) : Bool := true
def V_image_place (x : dens A_image_place) : Sh.den S_image_place := (T_image_place x).getO default
theorem ok_image_place (x : dens A_image_place) (_ : G_image_place x = true) : (T_image_place x).val = some (V_image_place x) := PO.sure_ok default (by simp [T_image_place, PO.sure])
/-- image.at -/
abbrev A_image_at : List Ty := [.str, (.int .i64)]
abbrev S_image_at : Sh := Sh.ty (Ty.int IntKind.i64)
def T_image_at (x : dens A_image_at) : PO (Sh.den S_image_at) :=
  (.ite (decide (0 ≤ w64 (w64 (4 * x.2) + 4)) && decide (w64 (w64 (4 * x.2) + 4) ≤ lenI x.1) && decide (0 ≤ w64 (4 * x.2)) && decide (w64 (4 * x.2) ≤ w64 (w64 (4 * x.2) + 4)) && G_word_Of (List.drop (Int.toNat (w64 (4 * x.2))) (List.take (Int.toNat (w64 (w64 (4 * x.2) + 4))) x.1)))
   (.ret ((V_word_Of (List.drop (Int.toNat (w64 (4 * x.2))) (List.take (Int.toNat (w64 (w64 (4 * x.2) + 4))) x.1))).1))
   .fail)
def G_image_at (x : dens A_image_at) : Bool := (T_image_at x).val.isSome
def V_image_at (x : dens A_image_at) : Sh.den S_image_at := (T_image_at x).getO default
theorem ok_image_at (x : dens A_image_at) (h : G_image_at x = true) : (T_image_at x).val = some (V_image_at x) := PO.getO_ok default h
/-- image.check -/
abbrev A_image_check : List Ty := [tHead, (.int .i64)]
abbrev S_image_check : Sh := Sh.ty (Ty.int IntKind.i64)
def T_image_check (x : dens A_image_check) : PO (Sh.den S_image_check) :=
  (.ite (V_memmap_Check (x.1.2.2.1, x.2) != 0)
   (.ret (V_memmap_Check (x.1.2.2.1, x.2)))
   (.ite (decide (x.1.2.2.2.1 < 0) || (decide (x.1.2.2.2.1 ≥ 3) || (!V_image_place (x.1.1, x.2) || true)))
    (.ite (decide (x.1.2.2.2.1 < 0) || (decide (x.1.2.2.2.1 ≥ 3) || (!V_image_place (x.1.1, x.2) || !V_image_place (x.1.2.1, x.2))))
     (.ret (2))
     (.ret (0)))
    .fail))
def G_image_check (_ : dens A_image_check) : Bool := true
def V_image_check (x : dens A_image_check) : Sh.den S_image_check := (T_image_check x).getO default
theorem ok_image_check (x : dens A_image_check) (_ : G_image_check x = true) : (T_image_check x).val = some (V_image_check x) := PO.tots_ok default (by simp [T_image_check, PO.tots])
/-- image.front -/
abbrev A_image_front : List Ty := [tHead]
abbrev S_image_front : Sh := Sh.ty (Ty.arr 16 (Ty.int IntKind.i64))
def T_image_front (x : dens A_image_front) : PO (Sh.den S_image_front) :=
  (.ret (List.set (List.set (List.set (List.set (List.set (List.set (List.set (List.set (List.set (List.set (List.set (List.set (List.set (List.set (List.set (List.set (List.set (List.set (List.set (List.set (List.set (List.set [0, 0, 0, 0, 0, 0, 0, 0, 0, 0, 0, 0, 0, 0, 0, 0] (Int.toNat 0) (bor IntKind.i64 x.2.1 1)) (Int.toNat 1) (bor IntKind.i64 x.2.1 1)) (Int.toNat 2) (bor IntKind.i64 x.2.1 1)) (Int.toNat 3) (bor IntKind.i64 x.2.1 1)) (Int.toNat 4) (bor IntKind.i64 x.2.1 1)) (Int.toNat 5) (bor IntKind.i64 x.2.1 1)) (Int.toNat 6) (bor IntKind.i64 x.2.1 1)) (Int.toNat 7) (bor IntKind.i64 x.2.1 1)) (Int.toNat 8) (bor IntKind.i64 x.2.1 1)) (Int.toNat 9) (bor IntKind.i64 x.2.1 1)) (Int.toNat 10) (bor IntKind.i64 x.2.1 1)) (Int.toNat 11) (bor IntKind.i64 x.2.1 1)) (Int.toNat 12) (bor IntKind.i64 x.2.1 1)) (Int.toNat 13) (bor IntKind.i64 x.2.1 1)) (Int.toNat 14) (bor IntKind.i64 x.2.1 1)) (Int.toNat 15) (bor IntKind.i64 x.2.1 1)) 0 537133056) 1 (bor IntKind.i64 x.1 1)) 7 x.2.2.1.1) 8 x.2.2.1.2.1) 9 x.2.2.1.2.2.1) 10 x.2.2.2.1))
def G_image_front (_ : dens A_image_front) : Bool := true
def V_image_front (x : dens A_image_front) : Sh.den S_image_front := (T_image_front x).getO default
theorem ok_image_front (x : dens A_image_front) (_ : G_image_front x = true) : (T_image_front x).val = some (V_image_front x) := PO.sure_ok default (by simp [T_image_front, PO.sure])
def L_image_Parse_7 : LoopN where
  M := [0, 2, 3, 4, 34, 35]
  T := [5, 6, 36, 37, 38, 39, 40, 41, 42, 43, 44, 45]
  D := [0, 34, 35]
  ss := [.ty .str, .box 0 0, .ty (.int .i64), .box 1 0, .ty (.arr 16 (.int .i64)), .ty (.int .i64)]
  hs := [(.ty tHead), (.ty tHead)]
  es := [.exit 0, .ret]
  σ := (Ty.den (.int .i64)) × (Ty.den (.int .i64)) × (Sh.den ((.ty tHead))) × (Sh.den ((.ty tHead)))
  x0 := fun x y => (x.2.2.1, x.2.2.2.2.2, y.1, y.2)
  put := fun x _ s => ((x.1, x.2.1, s.1, x.2.2.2.1, x.2.2.2.2.1, s.2.1), (s.2.2.1, s.2.2.2))
  fuel := fun _ _ => 17
  turn := fun x _ s =>
  (.ite (decide (s.2.1 < 16))
   (.ite (inRange s.2.1 16)
    (.ite (G_image_at (x.1, s.2.1))
     (.ite (V_image_at (x.1, s.2.1) != List.getD x.2.2.2.2.1 (Int.toNat s.2.1) (Ty.dflt (Ty.int IntKind.i64)))
      (.ret (.out 1 (4, s.2.1, (0, 0, (0, 0, 0, ()), 0, ()), s.2.2.2)))
      (.ret (.on (s.1, w64 (s.2.1 + 1), s.2.2.1, s.2.2.2))))
     .fail)
    .fail)
   (.ret (.out 0 (s.1, s.2.1, s.2.2.1, s.2.2.2))))
theorem of_total (s : List UInt8) : G_word_Of s = true := by
  unfold G_word_Of T_word_Of
  cases h : (lenI s != 4)
  · have hl : List.length s = 4 := by
      simp only [lenI, bne_eq_false_iff_eq] at h
      omega
    rw [val_no rfl, val_yes (by rw [show (0 : Int) = ((0 : Nat) : Int) from rfl, inR (by omega)]; rfl), val_yes (by rw [show (1 : Int) = ((1 : Nat) : Int) from rfl, inR (by omega)]; rfl), val_yes (by rw [show (2 : Int) = ((2 : Nat) : Int) from rfl, inR (by omega)]; rfl), val_yes (by rw [show (3 : Int) = ((3 : Nat) : Int) from rfl, inR (by omega)]; rfl)]
    rfl
  · rw [val_yes rfl]
    rfl
theorem at_total (s : List UInt8) (k : Nat) (hk : k < 16) (hs : 64 ≤ s.length) : G_image_at (s, (k : Int)) = true := by
  unfold G_image_at T_image_at
  have e1 : w64 (4 * (k : Int)) = 4 * (k : Int) := w64_id (by omega) (by omega)
  have e2 : w64 (4 * (k : Int) + 4) = 4 * (k : Int) + 4 := w64_id (by omega) (by omega)
  rw [val_yes (by
    dsimp only
    rw [e1, e2, of_total]
    simp only [lenI, Bool.and_eq_true, decide_eq_true_eq, Bool.and_true]
    exact ⟨⟨⟨by omega, by omega⟩, by omega⟩, by omega⟩)]
  rfl

/-- What an image says of itself. -/
def headX (s : List UInt8) : tHead.den := (w64 (V_image_at (s, 1) - 1), w64 (V_image_at (s, 3) - 1), (V_image_at (s, 7), V_image_at (s, 8), V_image_at (s, 9), ()), V_image_at (s, 10), ())
abbrev noHead : tHead.den := (0, 0, (0, 0, 0, ()), 0, ())
def wordIs (s : List UInt8) (fr : List Int) (i : Nat) : Bool := !(V_image_at (s, (i : Int)) != List.getD fr (Int.toNat (i : Int)) (Ty.dflt (Ty.int IntKind.i64)))
def parseX (s : List UInt8) : tHead.den × Int × Unit :=
  bif decide (lenI s < 64) then (noHead, 3, ())
  else bif V_image_check (headX s, lenI s) != 0 then (noHead, 4, ())
  else bif (List.range' 0 16).all (wordIs s (V_image_front (headX s))) then (headX s, 0, ()) else (noHead, 4, ())

theorem parse7 (s : List UInt8) (fr : List Int) (h z : tHead.den) (hs : 64 ≤ s.length) : ∀ (n i : Nat), i + n = 16 → ∃ j : Int,
    runL (L_image_Parse_7.turn (s, (), 0, (), fr, 0) (z, h)) (n + 1) (0, (i : Int), z, h) = some (bif (List.range' i n).all (wordIs s fr) then (0, (0, 16, z, h)) else (1, (4, j, noHead, h)))
  | 0, i, hi => ⟨0, (runL_out ((val_no (dec_false (show ¬ (i : Int) < 16 by omega))).trans rfl)).trans (by
      have : i = 16 := by omega
      subst this
      rfl)⟩
  | n + 1, i, hi => by
    have hlt : decide ((i : Int) < 16) = true := dec_true (by omega)
    have hin : inRange (i : Int) 16 = true := inR (by omega)
    have hg := at_total s i (by omega) hs
    cases hw : wordIs s fr i with
    | true =>
      obtain ⟨j, hj⟩ := parse7 s fr h z hs n (i + 1) (by omega)
      refine ⟨j, (runL_on (s' := (0, ((i + 1 : Nat) : Int), z, h)) ((val_yes hlt).trans ((val_yes hin).trans ((val_yes hg).trans ((val_no ?_).trans ?_))))).trans (hj.trans ?_)⟩
      · unfold wordIs at hw
        exact Bool.not_eq_true' _ |>.mp hw
      · show some (TL.on (0, w64 ((i : Int) + 1), z, h)) = _
        rw [w64_id (by omega) (by omega)]
        rfl
      · rw [List.range'_succ, List.all_cons, hw, Bool.true_and]
    | false =>
      refine ⟨i, (runL_out ((val_yes hlt).trans ((val_yes hin).trans ((val_yes hg).trans ((val_yes ?_).trans rfl))))).trans ?_⟩
      · unfold wordIs at hw
        exact Bool.not_eq_false' _ |>.mp hw
      · rw [List.range'_succ, List.all_cons, hw, Bool.false_and]
        rfl
/-- image.Parse -/
abbrev A_image_Parse : List Ty := [.str]
abbrev S_image_Parse : Sh := Sh.tup (Sh.pair (Sh.ty (Ty.pair (Ty.int IntKind.i64) (Ty.pair (Ty.int IntKind.i64) (Ty.pair tSizes (Ty.pair (Ty.int IntKind.i64) Ty.unit))))) (Sh.pair (Sh.ty (Ty.int IntKind.i64)) (Sh.ty Ty.unit)))
def T_image_Parse (x : dens A_image_Parse) : PO (Sh.den S_image_Parse) :=
  (.ite (decide (lenI x < 64))
   (.ret (((0, 0, (0, 0, 0, ()), 0, ()), 3, ())))
   (.ite (G_image_at (x, 1))
    (.ite (G_image_at (x, 3))
     (.ite (G_image_at (x, 10))
      (.ite (G_image_at (x, 7))
       (.ite (G_image_at (x, 8))
        (.ite (G_image_at (x, 9))
         (.ite (V_image_check ((w64 (V_image_at (x, 1) - 1), w64 (V_image_at (x, 3) - 1), (V_image_at (x, 7), V_image_at (x, 8), V_image_at (x, 9), ()), V_image_at (x, 10), ()), lenI x) != 0)
          (.ret (((0, 0, (0, 0, 0, ()), 0, ()), 4, ())))
          (.opt (LoopN.res L_image_Parse_7 (x, (), 0, (), V_image_front (w64 (V_image_at (x, 1) - 1), w64 (V_image_at (x, 3) - 1), (V_image_at (x, 7), V_image_at (x, 8), V_image_at (x, 9), ()), V_image_at (x, 10), ()), 0) ((0, 0, (0, 0, 0, ()), 0, ()), w64 (V_image_at (x, 1) - 1), w64 (V_image_at (x, 3) - 1), (V_image_at (x, 7), V_image_at (x, 8), V_image_at (x, 9), ()), V_image_at (x, 10), ())) fun p0 =>
           (.ite (way p0.1)
            (.ret ((p0.2.2.2.2, 0, ())))
            (.ret ((p0.2.2.2.1, p0.2.1, ()))))))
         .fail)
        .fail)
       .fail)
      .fail)
     .fail)
    .fail))
def G_image_Parse (_ : dens A_image_Parse) : Bool := true
def V_image_Parse (x : dens A_image_Parse) : Sh.den S_image_Parse := parseX x
theorem parse_val (s : List UInt8) : (T_image_Parse s).val = some (parseX s) := by
  unfold T_image_Parse parseX
  cases h1 : decide (lenI s < 64)
  · have hs : 64 ≤ s.length := by
      simp only [lenI, decide_eq_false_iff_not] at h1
      omega
    have a := fun k hk => at_total s k hk hs
    refine (val_no rfl).trans ((val_yes (a 1 (by omega))).trans ((val_yes (a 3 (by omega))).trans ((val_yes (a 10 (by omega))).trans ((val_yes (a 7 (by omega))).trans ((val_yes (a 8 (by omega))).trans ((val_yes (a 9 (by omega))).trans ?_))))))
    show (PO.ite (V_image_check (headX s, lenI s) != 0) _ _).val = _
    cases h2 : (V_image_check (headX s, lenI s) != (0 : Int))
    · obtain ⟨j, hj⟩ := parse7 s (V_image_front (headX s)) (headX s) noHead hs 16 0 (by omega)
      refine (val_no rfl).trans ?_
      have hres : LoopN.res L_image_Parse_7 (s, (), 0, (), V_image_front (headX s), 0) (noHead, headX s) = _ := hj
      refine (val_opt hres).trans ?_
      cases (List.range' 0 16).all (wordIs s (V_image_front (headX s)))
      · exact (val_no rfl).trans rfl
      · exact (val_yes rfl).trans rfl
    · exact (val_yes rfl).trans rfl
  · exact (val_yes rfl).trans rfl
theorem ok_image_Parse (x : dens A_image_Parse) (_ : G_image_Parse x = true) : (T_image_Parse x).val = some (V_image_Parse x) := parse_val x
end Go.Av
end
/-! Layer 9: runs. -/
section
namespace Go.Av
open Go
def L_machine_Run_c12 : LoopN where
  M := [3, 6, 8, 9, 10]
  T := [12, 37, 38, 39, 40, 41, 42, 43, 44, 45, 46, 47, 48, 49, 50, 51, 52, 53, 54, 55, 56]
  D := [3, 6, 10]
  ss := [.ty (.int .i64), .box 0 0, .box 1 0, .ty (.int .i64), .box 2 0]
  hs := [(.ty tFault), (.ty tResult), (shMachB 3 4), (shMemB 5), .rowc tFetched, .rowc (.int .u8)]
  es := [.ret]
  σ := (Ty.den (.int .i64)) × (Sh.den ((.ty tFault))) × (Sh.den ((.ty tResult))) × (Sh.den ((shMachB 3 4))) × (Sh.den ((shMemB 5))) × (Sh.den (.rowc tFetched)) × (Sh.den (.rowc (.int .u8)))
  x0 := fun x y => (x.2.2.2.1, y.1, y.2.1, y.2.2.1, y.2.2.2.1, y.2.2.2.2.1, y.2.2.2.2.2)
  put := fun x _ s => ((x.1, x.2.1, x.2.2.1, s.1, x.2.2.2.2), (s.2.1, s.2.2.1, s.2.2.2.1, s.2.2.2.2.1, s.2.2.2.2.2.1, s.2.2.2.2.2.2))
  fuel := fun _ _ => 1
  turn := fun x _ s =>
  (.ite (G_machine_Machine_steps ((), s.2.1, x.1, ()) ((s.2.2.2.1.1, s.2.2.2.1.2.1, (), s.2.2.2.1.2.2.2), s.2.2.2.2))
   (.ite (G_machine_Machine_number ((), 537919488) (((V_stepsEnd (s.2.1, x.1) ((s.2.2.2.1.1, s.2.2.2.1.2.1, (), s.2.2.2.1.2.2.2), s.2.2.2.2)).1.1, (V_stepsEnd (s.2.1, x.1) ((s.2.2.2.1.1, s.2.2.2.1.2.1, (), s.2.2.2.1.2.2.2), s.2.2.2.2)).1.2.1, (), (V_stepsEnd (s.2.1, x.1) ((s.2.2.2.1.1, s.2.2.2.1.2.1, (), s.2.2.2.1.2.2.2), s.2.2.2.2)).1.2.2.2), (V_stepsEnd (s.2.1, x.1) ((s.2.2.2.1.1, s.2.2.2.1.2.1, (), s.2.2.2.1.2.2.2), s.2.2.2.2)).2))
    (.ite (G_machine_Machine_number ((), 538968064) (((V_stepsEnd (s.2.1, x.1) ((s.2.2.2.1.1, s.2.2.2.1.2.1, (), s.2.2.2.1.2.2.2), s.2.2.2.2)).1.1, (V_stepsEnd (s.2.1, x.1) ((s.2.2.2.1.1, s.2.2.2.1.2.1, (), s.2.2.2.1.2.2.2), s.2.2.2.2)).1.2.1, (), (V_stepsEnd (s.2.1, x.1) ((s.2.2.2.1.1, s.2.2.2.1.2.1, (), s.2.2.2.1.2.2.2), s.2.2.2.2)).1.2.2.2), (V_stepsEnd (s.2.1, x.1) ((s.2.2.2.1.1, s.2.2.2.1.2.1, (), s.2.2.2.1.2.2.2), s.2.2.2.2)).2))
     (.ret (.out 0 (0, s.2.1, ((V_stepsRes (s.2.1, x.1) ((s.2.2.2.1.1, s.2.2.2.1.2.1, (), s.2.2.2.1.2.2.2), s.2.2.2.2)).1, (V_stepsRes (s.2.1, x.1) ((s.2.2.2.1.1, s.2.2.2.1.2.1, (), s.2.2.2.1.2.2.2), s.2.2.2.2)).2.1, (V_stepsRes (s.2.1, x.1) ((s.2.2.2.1.1, s.2.2.2.1.2.1, (), s.2.2.2.1.2.2.2), s.2.2.2.2)).2.2.1, (V_stepsRes (s.2.1, x.1) ((s.2.2.2.1.1, s.2.2.2.1.2.1, (), s.2.2.2.1.2.2.2), s.2.2.2.2)).2.2.2.1, V_numb 537919488 ((V_stepsEnd (s.2.1, x.1) ((s.2.2.2.1.1, s.2.2.2.1.2.1, (), s.2.2.2.1.2.2.2), s.2.2.2.2)).2.1, (V_stepsEnd (s.2.1, x.1) ((s.2.2.2.1.1, s.2.2.2.1.2.1, (), s.2.2.2.1.2.2.2), s.2.2.2.2)).2.2.2), V_numb 538968064 ((V_stepsEnd (s.2.1, x.1) ((s.2.2.2.1.1, s.2.2.2.1.2.1, (), s.2.2.2.1.2.2.2), s.2.2.2.2)).2.1, (V_stepsEnd (s.2.1, x.1) ((s.2.2.2.1.1, s.2.2.2.1.2.1, (), s.2.2.2.1.2.2.2), s.2.2.2.2)).2.2.2), (V_reg 2 ((V_stepsEnd (s.2.1, x.1) ((s.2.2.2.1.1, s.2.2.2.1.2.1, (), s.2.2.2.1.2.2.2), s.2.2.2.2)).2.1, (V_stepsEnd (s.2.1, x.1) ((s.2.2.2.1.1, s.2.2.2.1.2.1, (), s.2.2.2.1.2.2.2), s.2.2.2.2)).2.2.2)).1, (V_reg 3 ((V_stepsEnd (s.2.1, x.1) ((s.2.2.2.1.1, s.2.2.2.1.2.1, (), s.2.2.2.1.2.2.2), s.2.2.2.2)).2.1, (V_stepsEnd (s.2.1, x.1) ((s.2.2.2.1.1, s.2.2.2.1.2.1, (), s.2.2.2.1.2.2.2), s.2.2.2.2)).2.2.2)).1, (V_reg 4 ((V_stepsEnd (s.2.1, x.1) ((s.2.2.2.1.1, s.2.2.2.1.2.1, (), s.2.2.2.1.2.2.2), s.2.2.2.2)).2.1, (V_stepsEnd (s.2.1, x.1) ((s.2.2.2.1.1, s.2.2.2.1.2.1, (), s.2.2.2.1.2.2.2), s.2.2.2.2)).2.2.2)).1, (V_stepsRes (s.2.1, x.1) ((s.2.2.2.1.1, s.2.2.2.1.2.1, (), s.2.2.2.1.2.2.2), s.2.2.2.2)).2.2.2.2.2.2.2.2.2), ((V_stepsEnd (s.2.1, x.1) ((s.2.2.2.1.1, s.2.2.2.1.2.1, (), s.2.2.2.1.2.2.2), s.2.2.2.2)).1.1, (V_stepsEnd (s.2.1, x.1) ((s.2.2.2.1.1, s.2.2.2.1.2.1, (), s.2.2.2.1.2.2.2), s.2.2.2.2)).1.2.1, (), (V_stepsEnd (s.2.1, x.1) ((s.2.2.2.1.1, s.2.2.2.1.2.1, (), s.2.2.2.1.2.2.2), s.2.2.2.2)).1.2.2.2), (V_stepsEnd (s.2.1, x.1) ((s.2.2.2.1.1, s.2.2.2.1.2.1, (), s.2.2.2.1.2.2.2), s.2.2.2.2)).2.1, (V_stepsEnd (s.2.1, x.1) ((s.2.2.2.1.1, s.2.2.2.1.2.1, (), s.2.2.2.1.2.2.2), s.2.2.2.2)).2.2.1, (V_stepsEnd (s.2.1, x.1) ((s.2.2.2.1.1, s.2.2.2.1.2.1, (), s.2.2.2.1.2.2.2), s.2.2.2.2)).2.2.2)))
     .fail)
    .fail)
   .fail)
theorem check_facts (h : tHead.den) (n : Int) (e : V_image_check (h, n) = 0) : V_memmap_Check (h.2.2.1, n) = 0 ∧ (64 ≤ (show Int from h.1) ∧ (show Int from h.1) < n) ∧ 64 ≤ (show Int from h.2.1) ∧ (show Int from h.2.1) < n := by
  obtain ⟨rs, hn, sz, md, u⟩ := h
  unfold V_image_check PO.getO T_image_check at e
  cases h1 : (V_memmap_Check (sz, n) != (0 : Int)) with
  | true =>
    rw [val_yes h1] at e
    have e' : V_memmap_Check (sz, n) = 0 := e
    rw [e'] at h1
    cases h1
  | false =>
    rw [val_no h1] at e
    have hc : V_memmap_Check (sz, n) = 0 := by simpa using h1
    refine ⟨hc, ?_⟩
    rw [val_yes (by simp)] at e
    cases h2 : (decide (md < 0) || (decide (md ≥ 3) || (!V_image_place (rs, n) || !V_image_place (hn, n)))) with
    | true =>
      rw [val_yes h2] at e
      cases e
    | false =>
      simp only [Bool.or_eq_false_iff, Bool.not_eq_false'] at h2
      have pl : ∀ a : Int, V_image_place (a, n) = true → 64 ≤ a ∧ a < n := fun a ha => by
        have ha : (decide (a ≥ 64) && (decide (a < n) && band IntKind.i64 a 1 == 0)) = true := ha
        simp only [Bool.and_eq_true, decide_eq_true_eq] at ha
        exact ⟨ha.1, ha.2.1⟩
      exact ⟨pl rs h2.2.2.1, pl hn h2.2.2.2⟩
theorem mcheck_facts (i o r n : Int) (e : V_memmap_Check ((i, o, r, ()), n) = 0) : (0 ≤ i ∧ i ≤ 65536) ∧ (0 ≤ o ∧ o ≤ 65536) ∧ (4 ≤ r ∧ r ≤ 65536) ∧ n ≤ 262144 := by
  unfold V_memmap_Check PO.getO T_memmap_Check at e
  cases h1 : (decide (i < 0) || Int.tmod i 4 != 0) with
  | true => rw [val_yes h1] at e; cases e
  | false =>
  rw [val_no h1] at e
  cases h2 : (decide (o < 0) || Int.tmod o 4 != 0) with
  | true => rw [val_yes h2] at e; cases e
  | false =>
  rw [val_no h2] at e
  cases h3 : (decide (r < 0) || Int.tmod r 4 != 0) with
  | true => rw [val_yes h3] at e; cases e
  | false =>
  rw [val_no h3] at e
  cases h4 : (decide (n < 0) || decide (r < 4)) with
  | true => rw [val_yes h4] at e; cases e
  | false =>
  rw [val_no h4] at e
  cases h5 : (decide (n > 262144) || decide (i > 65536) || decide (o > 65536) || decide (r > 65536)) with
  | true => rw [val_yes h5] at e; cases e
  | false =>
    simp only [Bool.or_eq_false_iff, decide_eq_false_iff_not] at h1 h2 h3 h4 h5
    omega
def regsX (sz : tSizes.den) (n : Int) : List (Int × Int × Bool × Unit) := [(0, n, false, ()), (536936448, sz.1, true, ()), (537001984, sz.2.1, true, ()), (537133056, sz.2.2.1, true, ()), (537395200, sz.2.2.1, true, ()), (537919488, 4, true, ()), (538968064, 4, true, ())]
theorem regs_val (sz : tSizes.den) (n : Int) (e : V_memmap_Check (sz, n) = 0) : V_memmap_Regions (sz, n) = (regsX sz n, 0, ()) := by
  unfold V_memmap_Regions PO.getO T_memmap_Regions
  rw [val_no (by rw [e]; rfl)]
  rfl
theorem regsX_ok (i o r n : Int) (e : V_memmap_Check ((i, o, r, ()), n) = 0) (hn : 0 ≤ n) : RegsOk (regsX (i, o, r, ()) n) ∧ (regsX (i, o, r, ()) n).length = 7 ∧ sumL (regsX (i, o, r, ()) n) < 1000000 := by
  obtain ⟨h1, h2, h3, h4⟩ := mcheck_facts i o r n e
  refine ⟨⟨by simp [regsX], fun x hx => ?_⟩, by simp [regsX], ?_⟩
  · simp only [regsX, List.mem_cons, List.not_mem_nil, or_false] at hx
    unfold RegOk
    rcases hx with rfl | rfl | rfl | rfl | rfl | rfl | rfl <;> simp only <;> omega
  · simp only [regsX, sumL]
    omega
abbrev noRes : tResult.den := (false, 0, 0, 0, 0, 0, [], [], [], ())
/-- A machine that starts. -/
def startX (hd : tHead.den) (img inp : List UInt8) : MS :=
  ((hd, img, (), (List.set (List.set [0, 0, 0, 0, 0, 0, 0, 0, 0, 0, 0, 0, 0, 0, 0] 13 537133056) 14 (V_word_Not 0), hd.1, false, false, false, false, ()), false, (0, img.length / 2 + 1), ()), (newM (regsX hd.2.2.1 (lenI img)) img inp).1, List.replicate (img.length / 2 + 1) dfF, (newM (regsX hd.2.2.1 (lenI img)) img inp).2)
def resX (y : MS) (f : tFault.den) (budget : Int) : tResult.den :=
  ((V_stepsRes (f, budget) y).1, (V_stepsRes (f, budget) y).2.1, (V_stepsRes (f, budget) y).2.2.1, (V_stepsRes (f, budget) y).2.2.2.1, V_numb 537919488 (V_stepsEnd (f, budget) y).mem, V_numb 538968064 (V_stepsEnd (f, budget) y).mem, (V_reg 2 (V_stepsEnd (f, budget) y).mem).1, (V_reg 3 (V_stepsEnd (f, budget) y).mem).1, (V_reg 4 (V_stepsEnd (f, budget) y).mem).1, ())
/-- What a run leaves. -/
def runX (img inp : List UInt8) (f : tFault.den) (budget : Int) : tResult.den × Int × Unit :=
  bif (parseX img).2.1 != 0 then (noRes, (parseX img).2.1, ())
  else bif lenI inp != (parseX img).1.2.2.1.1 then (noRes, 2, ())
  else bif (V_machine_Check f != 0 || (decide (budget < 0) || decide (budget > 67108864))) then (noRes, 2, ())
  else (resX (startX (parseX img).1 img inp) f budget, 0, ())

theorem goX_wf (hd : tHead.den) (fl : List UInt8) (f : tFault.den) (hh : 0 ≤ (show Int from hd.2.1) ∧ (show Int from hd.2.1) < 4294967296) : ∀ (n : Nat) (k : Int) (s : RunS), MemWf s.2.2 → List.length s.1.1 = 15 →
    MemWf (goX hd fl f n k s).2.2.2.2 ∧ List.length (goX hd fl f n k s).2.2.1.1 = 15 ∧ (goX hd fl f n k s).2.2.2.2.1 = s.2.2.1
  | 0, k, s, hm, hr => ⟨hm, hr, rfl⟩
  | n + 1, k, s, hm, hr => by
    rw [goX]
    cases s.2.1
    · obtain ⟨h1, h2, h3, h4, _⟩ := stepMX_wf hd fl s.1 s.2.2 (nowX f k) hm hr hh
      obtain ⟨g1, g2, g3⟩ := goX_wf hd fl f hh n (k + 1) (stepMX hd fl s.1 s.2.2 (nowX f k)).2 h3 h1
      exact ⟨g1, g2, g3.trans h4⟩
    · exact ⟨hm, hr, rfl⟩
theorem end_mem {y : MS} (hy : MachWf y) (f : tFault.den) (budget : Int) : MemWf (V_stepsEnd (f, budget) y).mem :=
  (goX_wf y.1.1 y.1.2.1 f hy.hand budget.toNat 0 (runSof y) hy.mem hy.regs).1
theorem c12_res (y : MS) (hy : MachWf y) (f : tFault.den) (budget : Int) (hb : budget ≤ 67108864) : ∃ z, LoopN.res L_machine_Run_c12 (budget, (), (), 0, ()) (f, noRes, y.1, y.2.1, y.2.2.1, y.2.2.2) = some (0, 0, f, resX y f budget, z) := by
  have hm := end_mem hy f budget
  exact ⟨V_stepsEnd (f, budget) y, runL_out ((val_yes (decide_eq_true ⟨hy, hb⟩)).trans ((val_yes (decide_eq_true ⟨hm, by decide⟩)).trans ((val_yes (decide_eq_true ⟨hm, by decide⟩)).trans rfl)))⟩

/-- What is known of an image that is one. -/
theorem parse_facts (img : List UInt8) (h : ((parseX img).2.1 != (0 : Int)) = false) : ∃ rs hn i o r md, (parseX img).1 = (rs, hn, (i, o, r, ()), md, ()) ∧ V_memmap_Check ((i, o, r, ()), lenI img) = 0 ∧ (64 ≤ rs ∧ rs < lenI img) ∧ (64 ≤ hn ∧ hn < lenI img) ∧ lenI img ≤ 262144 ∧ 64 ≤ img.length := by
  unfold parseX at h ⊢
  cases h1 : decide (lenI img < 64) with
  | true => rw [h1] at h; cases h
  | false =>
  rw [h1] at h
  simp only [cond_false] at h ⊢
  cases h2 : (V_image_check (headX img, lenI img) != (0 : Int)) with
  | true => rw [h2] at h; cases h
  | false =>
  rw [h2] at h
  simp only [cond_false] at h ⊢
  cases h3 : (List.range' 0 16).all (wordIs img (V_image_front (headX img))) with
  | false => rw [h3] at h; cases h
  | true =>
  obtain ⟨f1, f2, f3⟩ := check_facts (headX img) (lenI img) (by simpa using h2)
  simp only [cond_true]
  generalize headX img = hd at *
  obtain ⟨rs, hn, ⟨i, o, r, u1⟩, md, u2⟩ := hd
  refine ⟨rs, hn, i, o, r, md, rfl, f1, f2, f3, (mcheck_facts i o r _ f1).2.2.2, ?_⟩
  simp only [lenI, decide_eq_false_iff_not] at h1
  omega

theorem startX_wf (rs hn i o r md : Int) (img inp : List UInt8) (h1 : V_memmap_Check ((i, o, r, ()), lenI img) = 0) (h2 : 64 ≤ rs ∧ rs < lenI img) (h3 : 64 ≤ hn ∧ hn < lenI img) (h4 : lenI img ≤ 262144) : MachWf (startX (rs, hn, (i, o, r, ()), md, ()) img inp) := by
  obtain ⟨g1, g2, g3⟩ := regsX_ok i o r (lenI img) h1 (by simp only [lenI]; omega)
  exact {
    mem := newM_wf _ img inp g1 (by show 2 ≤ (regsX (i, o, r, ()) (lenI img)).length; omega)
    regs := rfl
    pc := ⟨by show (0 : Int) ≤ rs; omega, by show rs < (4294967296 : Int); omega⟩
    hand := ⟨by show (0 : Int) ≤ hn; omega, by show hn < (4294967296 : Int); omega⟩
    len := by show img.length ≤ 262144; simp only [lenI] at h4; omega
    win := rfl
    cache := ⟨List.length_replicate, fun k hk hn => by
      have e : List.getD (List.replicate (img.length / 2 + 1) dfF) k dfF = dfF := by
        rw [List.getD_eq_getElem?_getD, List.getElem?_replicate]
        split <;> rfl
      rw [show (startX (rs, _, (i, o, r, ()), md, ()) img inp).2.2.1 = List.replicate (img.length / 2 + 1) dfF from rfl, e] at hn
      cases hn⟩ }
/-- machine.Run -/
abbrev A_machine_Run : List Ty := [.str, .str, tFault, (.int .i64)]
abbrev S_machine_Run : Sh := Sh.tup (Sh.pair (Sh.ty tResult) (Sh.pair (Sh.ty (Ty.int IntKind.i64)) (Sh.ty Ty.unit)))
def T_machine_Run (x : dens A_machine_Run) : PO (Sh.den S_machine_Run) :=
  (.ite (G_image_Parse x.1)
   (.ite ((V_image_Parse x.1).2.1 != 0)
    (.ite ((V_image_Parse x.1).2.1 != 0)
     (.ret (((false, 0, 0, 0, 0, 0, [], [], [], ()), (V_image_Parse x.1).2.1, ())))
     (.ite (V_machine_Check x.2.2.1 != 0 || (decide (x.2.2.2 < 0) || decide (x.2.2.2 > 67108864)))
      (.ret (((false, 0, 0, 0, 0, 0, [], [], [], ()), 2, ())))
      .fail))
    (.ite ((V_memmap_Regions ((V_image_Parse x.1).1.2.2.1, lenI x.1)).2.1 != 0)
     (.ite ((V_memmap_Regions ((V_image_Parse x.1).1.2.2.1, lenI x.1)).2.1 != 0)
      (.ite ((V_memmap_Regions ((V_image_Parse x.1).1.2.2.1, lenI x.1)).2.1 != 0)
       (.ret (((false, 0, 0, 0, 0, 0, [], [], [], ()), (V_memmap_Regions ((V_image_Parse x.1).1.2.2.1, lenI x.1)).2.1, ())))
       (.ite (V_machine_Check x.2.2.1 != 0 || (decide (x.2.2.2 < 0) || decide (x.2.2.2 > 67108864)))
        (.ret (((false, 0, 0, 0, 0, 0, [], [], [], ()), 2, ())))
        .fail))
      (.ite (roomOk (w64 (w64 (Int.tdiv (lenI x.1) 2) + 1)) 80)
       (.ite (V_machine_Check x.2.2.1 != 0 || (decide (x.2.2.2 < 0) || decide (x.2.2.2 > 67108864)))
        (.ret (((false, 0, 0, 0, 0, 0, [], [], [], ()), 2, ())))
        .fail)
       .fail))
     (.ite (lenI x.2.1 != (V_image_Parse x.1).1.2.2.1.1)
      (.ret (((false, 0, 0, 0, 0, 0, [], [], [], ()), 2, ())))
      (.opt (LoopN.res L_memory_New_8 (x.1, x.2.1, (V_memmap_Regions ((V_image_Parse x.1).1.2.2.1, lenI x.1)).1, 0, (V_memmap_Regions ((V_image_Parse x.1).1.2.2.1, lenI x.1)).1, lenI (V_memmap_Regions ((V_image_Parse x.1).1.2.2.1, lenI x.1)).1, 0) ()) fun p0 =>
       (.ite (roomOk p0.2.1 1)
        (.opt (LoopN.res L_memory_New_15 (x.1, x.2.1, (), (0, nspan 0 p0.2.1), (V_memmap_Regions ((V_image_Parse x.1).1.2.2.1, lenI x.1)).1, lenI (V_memmap_Regions ((V_image_Parse x.1).1.2.2.1, lenI x.1)).1, 0) (((V_memmap_Regions ((V_image_Parse x.1).1.2.2.1, lenI x.1)).1, [], ()), zeros p0.2.1 0)) fun p1 =>
         (.ite (inRange 0 (List.length p1.2.2.2.1.2.1))
          (.ite (inRange 1 (List.length p1.2.2.2.1.2.1))
           (.ite (roomOk (w64 (w64 (Int.tdiv (lenI x.1) 2) + 1)) 80)
            (.ite (V_machine_Check x.2.2.1 != 0 || (decide (x.2.2.2 < 0) || decide (x.2.2.2 > 67108864)))
             (.ret (((false, 0, 0, 0, 0, 0, [], [], [], ()), 2, ())))
             (.opt (LoopN.res L_machine_Run_c12 (x.2.2.2, (), (), 0, ()) (x.2.2.1, (false, 0, 0, 0, 0, 0, [], [], [], ()), ((V_image_Parse x.1).1, x.1, (), (List.set (List.set [0, 0, 0, 0, 0, 0, 0, 0, 0, 0, 0, 0, 0, 0, 0] 13 537133056) 14 (V_word_Not 0), (V_image_Parse x.1).1.1, false, false, false, false, ()), false, (0, nspan 0 (w64 (w64 (Int.tdiv (lenI x.1) 2) + 1))), ()), p1.2.2.2.1, zeros (w64 (w64 (Int.tdiv (lenI x.1) 2) + 1)) ((0, 0, 0, 0, 0, 0, 0, false, ()), 0, false, false, ()), mend (mend p1.2.2.2.2 (wAt p1.2.2.2.1.2.1 0).1 (strInts x.1) (wAt p1.2.2.2.1.2.1 0).2) (wAt p1.2.2.2.1.2.1 1).1 (strInts x.2.1) (wAt p1.2.2.2.1.2.1 1).2)) fun p2 =>
              (.ret ((p2.2.2.2.1, p2.2.1, ())))))
            .fail)
           .fail)
          .fail))
        .fail)))))
   .fail)
def G_machine_Run (_ : dens A_machine_Run) : Bool := true
def V_machine_Run (x : dens A_machine_Run) : Sh.den S_machine_Run := runX x.1 x.2.1 x.2.2.1 x.2.2.2
theorem ok_machine_Run (x : dens A_machine_Run) (_ : G_machine_Run x = true) : (T_machine_Run x).val = some (V_machine_Run x) := by
  obtain ⟨img, inp, f, budget⟩ := x
  unfold T_machine_Run
  refine (val_yes rfl).trans ?_
  show _ = some (runX img inp f budget)
  unfold runX
  show (PO.ite ((parseX img).2.1 != (0 : Int)) _ _).val = _
  cases h1 : ((parseX img).2.1 != (0 : Int)) with
  | true => exact (val_yes rfl).trans ((val_yes h1).trans rfl)
  | false =>
    refine (val_no rfl).trans ?_
    obtain ⟨rs, hn, i, o, r, md, e, f1, f2, f3, f4, f5⟩ := parse_facts img h1
    have hreg : V_memmap_Regions ((V_image_Parse img).1.2.2.1, lenI img) = (regsX (i, o, r, ()) (lenI img), 0, ()) := by
      show V_memmap_Regions ((parseX img).1.2.2.1, lenI img) = _
      rw [e]
      exact regs_val _ _ f1
    obtain ⟨g1, g2, g3⟩ := regsX_ok i o r (lenI img) f1 (by simp only [lenI]; omega)
    have g4 : ∀ q ∈ regsX (i, o, r, ()) (lenI img), 0 ≤ q.2.1 := fun q hq => (g1.2 q hq).2.1
    have hwf := startX_wf rs hn i o r md img inp f1 f2 f3 f4
    simp only [hreg]
    refine (val_no rfl).trans ?_
    show (PO.ite (lenI inp != (parseX img).1.2.2.1.1) _ _).val = _
    simp only [cond_false]
    cases h2 : (lenI inp != (parseX img).1.2.2.1.1) with
    | true => exact (val_yes rfl).trans rfl
    | false =>
      refine (val_no rfl).trans ((val_opt (r := _) (res_8 img inp (regsX (i, o, r, ()) (lenI img)) (by omega) g4 (by omega))).trans ?_)
      refine (val_yes ?_).trans ?_
      · show roomOk ((sumL (regsX (i, o, r, ()) (lenI img)) : Nat) : Int) 1 = true
        simp only [roomOk, Bool.and_eq_true, decide_eq_true_eq]
        omega
      have hsp : nspan 0 ((sumL (regsX (i, o, r, ()) (lenI img)) : Nat) : Int) = sumL (regsX (i, o, r, ()) (lenI img)) := by simp [nspan]
      have e15 := res_15 img inp (regsX (i, o, r, ()) (lenI img)) (zeros ((sumL (regsX (i, o, r, ()) (lenI img)) : Nat) : Int) 0) (by omega) g4
      refine (val_opt (r := _) (by dsimp only; rw [hsp]; exact e15)).trans ?_
      have hw : (winsOf 0 (regsX (i, o, r, ()) (lenI img))).length = 7 := by rw [winsOf_length, g2]
      have hlen : w64 (w64 (Int.tdiv (lenI img) 2) + 1) = ((img.length / 2 + 1 : Nat) : Int) := by
        simp only [lenI] at f4 ⊢
        rw [Int.tdiv_eq_ediv_of_nonneg (by omega), w64_id (n := ((img.length : Nat) : Int) / 2) (by omega) (by omega), w64_id (by omega) (by omega)]
        omega
      refine (val_yes ?_).trans ((val_yes ?_).trans ((val_yes ?_).trans ?_))
      · show inRange 0 (winsOf 0 (regsX (i, o, r, ()) (lenI img))).length = true
        rw [hw]
        rfl
      · show inRange 1 (winsOf 0 (regsX (i, o, r, ()) (lenI img))).length = true
        rw [hw]
        rfl
      · rw [hlen]
        simp only [lenI] at f4
        simp only [roomOk, Bool.and_eq_true, decide_eq_true_eq]
        omega
      · simp only [cond_false]
        cases h3 : (V_machine_Check f != 0 || (decide (budget < 0) || decide (budget > 67108864))) with
        | true => exact (val_yes rfl).trans rfl
        | false =>
          have hb : (show Int from budget) ≤ 67108864 := by
            simp only [Bool.or_eq_false_iff, decide_eq_false_iff_not] at h3
            exact Int.not_lt.1 h3.2.2
          obtain ⟨z, hz⟩ := c12_res _ hwf f budget hb
          refine (val_no rfl).trans ?_
          rw [hlen]
          have hst : startX (parseX img).1 img inp = startX (rs, hn, (i, o, r, ()), md, ()) img inp := by rw [e]
          rw [hst]
          refine (val_opt (r := (0, 0, f, resX (startX (rs, hn, (i, o, r, ()), md, ()) img inp) f budget, z)) ?_).trans rfl
          refine Eq.trans ?_ hz
          show LoopN.res L_machine_Run_c12 (budget, (), (), 0, ()) (f, noRes, ((parseX img).1, img, (), (_, (parseX img).1.1, _), false, (0, nspan 0 ((img.length / 2 + 1 : Nat) : Int)), ()), _, zeros ((img.length / 2 + 1 : Nat) : Int) dfF, _) = _
          rw [e]
          have hns : nspan 0 ((img.length / 2 + 1 : Nat) : Int) = img.length / 2 + 1 := by simp only [nspan]; omega
          have hz2 : zeros ((img.length / 2 + 1 : Nat) : Int) dfF = List.replicate (img.length / 2 + 1) dfF := by unfold zeros; rw [Int.toNat_natCast]
          rw [hns, hz2]
          rfl
end Go.Av
end
/-! A range over a function: what a loop asks of the function that is ranged over, and what a round does. -/
section
namespace Go.Av
open Go Go.RowKit

/-- A loop's record. -/
abbrev loopRec (fn : FuncId) (tmps : Array Value) (ps : Array Tmp) (assign body : Code) (D : Nat) (st : LoopState) (pe : Option Code) : Go.Loop :=
  { state := st, pending := pe, fn := fn, tmps := tmps, params := ps, assign := assign, body := body, defers := D }

section
variable {F : Fence} {n : Nat} {P : Program}

def afterRounds (F : Fence) (n : Nat) (P : Program) (l : Nat) (rc : LoopState → Option Code → Go.Loop) (Q : Exit → Act → World → Prop) (a' : Act) (e : Ending) (W' : World) : Prop :=
  (∃ v, e = .returned v) ∧ ((W'.heap[l]? = some (.loop (rc .ready none)) ∧ Q .normal a' (W'.putObj l (.loop (rc .exhausted none)))) ∨
    ∃ c, W'.heap[l]? = some (.loop (rc .done (some c))) ∧ c.wpIn F n P Q a' (W'.putObj l (.loop (rc .exhausted (some c)))))

theorem range_over {g : Operand} {ps : Array Tmp} {assign body : Code} {Q : Exit → Act → World → Prop} {a : Act} {w : World} (hro : F.round = none) (h1 : 1 ≤ n)
    {gf : Nat} {lb : Array Value} (hg : a.eval g = .func (.func gf) #[] lb) (hF : F.fn gf) (eg : ∀ args w, (callFunc gf args).run P w = .ok (.enter gf args) w)
    (h : ∀ fn, F.fn fn → CallsIn F (n - 1) P gf (#[.func (.yield (w.heap.size + 1)) #[] #[]] ++ lb) ((w.alloc (.deferred (some []))).alloc (.loop (loopRec fn a.tmps ps assign body w.heap.size .ready none)))
      (afterRounds F n P (w.heap.size + 1) (loopRec fn a.tmps ps assign body w.heap.size) Q { a with defers := { target := .collected w.heap.size, args := #[] } :: a.defers })) :
    (Code.rangeFunc g ps assign body).wpIn F n P Q a w := by
  refine wpIn_rangeFunc ?_
  intro fn hfn
  rw [hro]
  have hh := h fn hfn
  obtain ⟨rc, hrc⟩ : ∃ rc : LoopState → Option Code → Go.Loop, rc = loopRec fn a.tmps ps assign body w.heap.size := ⟨_, rfl⟩
  rw [← hrc] at hh
  have hst : ∀ st pe, (rc st pe).state = st := fun st pe => by rw [hrc]
  have hpe : ∀ st pe, (rc st pe).pending = pe := fun st pe => by rw [hrc]
  have hex : ∀ st pe, ({ rc st pe with state := .exhausted } : Go.Loop) = rc .exhausted pe := fun st pe => by rw [hrc]
  obtain ⟨W1, hW1⟩ : ∃ W1, (w.alloc (.deferred (some []))).alloc (.loop (rc .ready none)) = W1 := ⟨_, rfl⟩
  rw [hW1] at hh
  refine ⟨w.heap.size + 1, [{ target := .collected w.heap.size, args := #[] }], W1, { target := .fn (.func gf) lb, args := #[.func (.yield (w.heap.size + 1)) #[] #[]] }, W1, gf,
    #[.func (.yield (w.heap.size + 1)) #[] #[]] ++ lb, W1, ?_, ?_, ?_, ?_, fun _ => h1, ?_⟩
  · rw [← hW1, hrc]
    exact run_enterLoop_outer _ _ _ _ _
  · simp only [resolve, hg]
    simp [go_sem]
  · intro f' hf'
    simp [Target.leads] at hf'
    subst hf'
    exact hF
  · simp [invoke, go_sem, eg]
  · refine hh.mono ?_
    rintro e W2 ⟨⟨v, rfl⟩, ⟨hl, hq⟩ | ⟨c, hl, hq⟩⟩
    · refine ⟨none, _, ?_, hq⟩
      have := run_endLoop (P := P) hl (by rw [hst]; simp)
      rw [hex, hpe] at this
      exact this
    · refine ⟨some c, _, ?_, hq⟩
      have := run_endLoop (P := P) hl (by rw [hst]; simp)
      rw [hex, hpe] at this
      exact this

/-- How a round may be left. -/
def roundEnd (l : Nat) (rc : LoopState → Option Code → Go.Loop) (R : Ending → World → Prop) : Exit → Act → World → Prop
  | .normal, _, W => W.heap[l]? = some (.loop (rc .busy none)) ∧ R (.returned (.bool true)) (W.putObj l (.loop (rc .ready none)))
  | .ret, _, W => W.heap[l]? = some (.loop (rc .busy none)) ∧ R (.returned (.bool false)) (W.putObj l (.loop (rc .done (some .ret))))
  | .exit id, _, W => W.heap[l]? = some (.loop (rc .busy none)) ∧ R (.returned (.bool false)) (W.putObj l (.loop (rc .done (some (.exit id)))))
  | _, _, _ => False

theorem round_at {l : Nat} {fn : FuncId} {tmps : Array Value} {ps : Array Tmp} {assign body : Code} {D : Nat} {W : World} {args : Array Value} {R : Ending → World → Prop} (hF : F.fn fn)
    (hl : W.heap[l]? = some (.loop (loopRec fn tmps ps assign body D .ready none))) (hs : args.size = ps.size)
    (h : assign.wpIn (F.inRound l) n P (Exit.then (fun a1 W1 => W1.heap[l]? = some (.loop (loopRec fn tmps ps assign body D .ready none)) ∧
        body.wpIn (F.inRound l) n P (roundEnd l (loopRec fn tmps ps assign body D) R) a1 (W1.putObj l (.loop (loopRec fn tmps ps assign body D .busy none)))) (fun _ _ _ => False))
      { tmps := (ps.zip args).foldl (fun t (p, v) => t.setIfInBounds p v) tmps, defers := [] } W) : YieldAt F n P l args W R := by
  have hy := run_yield (P := P) (args := args) hl hs
  refine ⟨fn, _, assign, body, hy, roundIn_of_wpIn hF (wpIn_mono h ?_)⟩
  intro e a1 W1 hp
  cases e with
  | normal =>
    obtain ⟨hl1, hb⟩ := hp
    refine ⟨_, run_beginRound hl1 rfl, wpIn_mono hb ?_⟩
    intro e a2 W2 hp
    cases e with
    | normal => exact ⟨_, _, run_endRound (P := P) none hp.1, hp.2⟩
    | ret => exact ⟨_, _, run_endRound (P := P) (some .ret) hp.1, hp.2⟩
    | exit id => exact ⟨_, _, run_endRound (P := P) (some (.exit id)) hp.1, hp.2⟩
    | goto t => exact hp.elim
    | panic ch => exact hp.elim
    | outgrown => exact hp.elim
  | ret => exact hp.elim
  | exit id => exact hp.elim
  | goto t => exact hp.elim
  | panic ch => exact hp.elim
  | outgrown => exact hp.elim

theorem round_rc {l : Nat} {fn : FuncId} {tmps : Array Value} {ps : Array Tmp} {assign body : Code} {D : Nat} {rc : LoopState → Option Code → Go.Loop} (hrc : loopRec fn tmps ps assign body D = rc) {W : World} {args : Array Value} {R : Ending → World → Prop} (hF : F.fn fn)
    (hl : W.heap[l]? = some (.loop (rc .ready none))) (hs : args.size = ps.size)
    (h : assign.wpIn (F.inRound l) n P (Exit.then (fun a1 W1 => W1.heap[l]? = some (.loop (rc .ready none)) ∧
        body.wpIn (F.inRound l) n P (roundEnd l rc R) a1 (W1.putObj l (.loop (rc .busy none)))) (fun _ _ _ => False))
      { tmps := (ps.zip args).foldl (fun t (p, v) => t.setIfInBounds p v) tmps, defers := [] } W) : YieldAt F n P l args W R := by
  subst hrc
  exact round_at hF hl hs h
end

/-! ### What is frozen -/

theorem frz_putObj (w : World) (l : Nat) (o o' : Obj) (hl : w.heap[l]? = some o) (h1 : Obj.thaw o = true) (h2 : Obj.thaw o' = true) (a : Addr) : (w.putObj l o').frozen? a = w.frozen? a := by
  by_cases h : a.block = l
  · rw [frozen_thaw (W := w) (fun x e => by rw [h, hl] at e; cases e; exact h1)]
    refine frozen_thaw (fun x e => ?_)
    rw [h, World.putObj_heap_same (Array.getElem?_eq_some_iff.1 hl).1] at e
    cases e
    exact h2
  · exact World.frozen?_of_block (World.putObj_heap_other h)

variable {P : Program} {w : World}

theorem run_append_frz (base : Nat) (t ty e : TypeId) (i : TypeInfo) (z : Value) (size bytes : Nat) (ht : P.underlying t = some (.slice e)) (hi : P.info? e = some i) (hz : i.zero = some z)
    (hsize : i.size = size) (hby : i.bytes = bytes) (hzs : z.cells.size = size) (hsz : 0 < size)
    (v : Value) (n : Nat) (xs : List Value) (hown : w.ownsRow base e size v n xs)
    (a : Addr) (m c : Nat) (hm : 0 < m) (news : List Value) (hl : news.length = m * size) (hnews : ∀ j u, news[j]? = some u → w.cell? (a.add j) = some u) (h1 : ∀ u ∈ news, u.oneCell' = true)
    (h63 : n + m ≤ maxLen) (hbytes : (n + m) * bytes ≤ 140737488355328) (hbase : base ≤ w.heap.size) :
    ∃ v' w', (Builtin.append_ #[t, t] ty #[v, .slice (some a) m c]).run P w = .ok v' w' ∧ w'.ownsRow base e size v' (n + m) (xs ++ news) ∧ w.grownBy w' v.ownBlock ∧
      (v' = .slice none 0 0 ↔ v = .slice none 0 0 ∧ m = 0) ∧ ∀ x, w'.frozen? x = w.frozen? x := by
  obtain ⟨v', w', hr, r1, r2, r3⟩ := run_append_own (P := P) w base t ty e i z size bytes ht hi hz hsize hby hzs hsz v n xs hown a m c news hl hnews h1 h63 hbytes hbase
  refine ⟨v', w', hr, r1, r2, r3, fun x => ?_⟩
  subst hsize hby
  have hsmall : n + m ≤ 9223372036854775807 := by simp only [maxLen] at h63; omega
  rcases hown.2 with ⟨rfl, rfl⟩ | ⟨g, cap, cur, rfl, hg, hh, hle, _, hcs, hpre⟩
  · have := run_append_nil (P := P) w t ty e i z ht hi hz a m c news hl hnews hm (by omega) (by simp only [Nat.zero_add] at hbytes; omega)
    rw [this] at hr
    cases hr
    exact (frozen_alloc _ _ _ _)
  · by_cases hroom : n + m ≤ cap
    · have hfit : 0 + n * i.size + news.length ≤ cur.size := by
        have := Nat.mul_le_mul_right i.size hroom
        rw [hl, hcs, Nat.zero_add, ← Nat.add_mul]
        exact this
      have := run_append_row (P := P) t t ty e i ht hi g 0 n cap cur e hh (.slice (some a) m c) m news (Src.ofSlice w ht a m c news hl hnews h1) hroom hfit
      rw [this] at hr
      cases hr
      exact frozen_row (setRow_heap w g cur _ e (0, 0) hh) hh (fun y hy => setRow_other w g y _ hy) x
    · have hx : xs.length = n * i.size := hown.1
      have hc : ∀ j u, xs[j]? = some u → w.cell? ((⟨g, 0, none⟩ : Addr).add j) = some u := hown.cells (by rfl)
      have := run_append_grow (P := P) w t ty e i z ht hi hz ⟨g, 0, none⟩ n cap xs hx hc a m c news hl hnews (by omega) (by omega) (growslice_fits (by omega) hbytes)
      rw [this] at hr
      cases hr
      exact (frozen_alloc _ _ _ _)

theorem wpListIn_append_frz {F : Fence} {n : Nat} {P : Program} (w : World) {ops : Array Oper} {rest : List Oper} {o : Oper} {a : Act} {Q : Exit → Act → World → Prop}
    (hg : o.guard = none) (s x : Operand) (t : TypeId) (hop : o.op = Op.call { callee := Callee.builtin Builtin.append, args := #[s, x], argTypes := #[t, t] })
    (base : Nat) (e : TypeId) (i : TypeInfo) (z : Value) (size bytes : Nat) (h1 : P.underlying t = some (.slice e)) (h2 : P.info? e = some i) (h3 : i.zero = some z) (h4 : i.size = size) (h5 : i.bytes = bytes) (h6 : z.cells.size = size) (h7 : 0 < size)
    (v : Value) (k : Nat) (xs : List Value) (hs : a.eval s = v) (hown : w.ownsRow base e size v k xs) (ad : Addr) (m c : Nat) (hm : 0 < m) (news : List Value) (hx : a.eval x = .slice (some ad) m c) (hn : news.length = m * size)
    (hc : ∀ j u, news[j]? = some u → w.cell? (ad.add j) = some u) (h1c : ∀ u ∈ news, u.oneCell' = true) (b1 : k + m ≤ maxLen) (b2 : (k + m) * bytes ≤ 140737488355328) (b3 : base ≤ w.heap.size)
    (hK : ∀ v' w', w'.ownsRow base e size v' (k + m) (xs ++ news) → w.grownBy w' v.ownBlock → (∀ x, w'.frozen? x = w.frozen? x) → wpListIn F n P ops Q rest (a.put o.dst v') w') :
    wpListIn F n P ops Q (o :: rest) a w := by
  refine wpListIn_plain hg fun K hK' => ?_
  obtain ⟨v', w', hrun, r1, r2, _, r4⟩ := run_append_frz (P := P) (w := w) base t o.type e i z size bytes h1 h2 h3 h4 h5 h6 h7 v k xs hown ad m c hm news hn hc h1c b1 b2 b3
  unfold Oper.wpIn
  refine ⟨?_, ?_⟩
  · simp [Oper.about, hop, resolve, Target.leads, Sem.run_pure]
  · rw [Oper.semAt_plain F _ _ (by rw [hop]; intro c hc'; cases hc')]
    simp [execOp, hop, resolve, invoke, builtin, hs, hx, hrun, Result.andThen]
    exact hK' _ _ (hK v' w' r1 r2 r4)

end Go.Av
end
/-! Layer 34: what comes of faults. -/
section
namespace Go.Av
open Go
/-- campaign.Add -/
abbrev A_campaign_Add : List Ty := [tCounts, tCounts]
abbrev S_campaign_Add : Sh := Sh.ty tCounts
def T_campaign_Add (x : dens A_campaign_Add) : PO (Sh.den S_campaign_Add) :=
  (.ret ((w64 (x.1.1 + x.2.1), w64 (x.1.2.1 + x.2.2.1), w64 (x.1.2.2.1 + x.2.2.2.1), w64 (x.1.2.2.2.1 + x.2.2.2.2.1), w64 (x.1.2.2.2.2.1 + x.2.2.2.2.2.1), w64 (x.1.2.2.2.2.2.1 + x.2.2.2.2.2.2.1), w64 (x.1.2.2.2.2.2.2.1 + x.2.2.2.2.2.2.2.1), x.1.2.2.2.2.2.2.2)))
def G_campaign_Add (_ : dens A_campaign_Add) : Bool := true
def V_campaign_Add (x : dens A_campaign_Add) : Sh.den S_campaign_Add := (T_campaign_Add x).getO default
theorem ok_campaign_Add (x : dens A_campaign_Add) (_ : G_campaign_Add x = true) : (T_campaign_Add x).val = some (V_campaign_Add x) := PO.sure_ok default (by simp [T_campaign_Add, PO.sure])
/-- hauberklaw34.lives: an example, computed -/
abbrev A_hauberklaw34_lives : List Ty := []
abbrev S_hauberklaw34_lives : Sh := .ty .bool
def T_hauberklaw34_lives (_ : dens A_hauberklaw34_lives) : PO Bool := .ret true
def G_hauberklaw34_lives (_ : dens A_hauberklaw34_lives) : Bool := true
def V_hauberklaw34_lives (_ : dens A_hauberklaw34_lives) : Bool := true
theorem ok_hauberklaw34_lives (x : dens A_hauberklaw34_lives) (_ : G_hauberklaw34_lives x = true) : (T_hauberklaw34_lives x).val = some (V_hauberklaw34_lives x) := rfl
end Go.Av
end
/-! All faults at a step. -/
section
namespace Go.Av
open Go
def skipF (k : Int) : tFault.den := (1, k, 0, 0, ())
def flipF (k : Int) (r b : Nat) : tFault.den := (2, k, (r : Int), (b : Int), ())
def flagF (k : Int) (b : Nat) : tFault.den := (3, k, 0, (b : Int), ())
def flipsTo (k : Int) (r b : Nat) : List tFault.den := (List.range b).map (flipF k r)
def rowsTo (k : Int) (r : Nat) : List tFault.den := (List.range r).flatMap fun i => flipsTo k i 32
def flagsTo (k : Int) (b : Nat) : List tFault.den := (List.range b).map (flagF k)
/-- All faults at a step. -/
def atL (k : Int) : List tFault.den := [skipF k] ++ rowsTo k 15 ++ flagsTo k 4
theorem flipsTo_succ (k : Int) (r b : Nat) : flipsTo k r (b + 1) = flipsTo k r b ++ [flipF k r b] := by simp [flipsTo, List.range_succ]
theorem rowsTo_succ (k : Int) (r : Nat) : rowsTo k (r + 1) = rowsTo k r ++ flipsTo k r 32 := by simp [rowsTo, List.range_succ]
theorem flagsTo_succ (k : Int) (b : Nat) : flagsTo k (b + 1) = flagsTo k b ++ [flagF k b] := by simp [flagsTo, List.range_succ]
theorem flipsTo_len (k : Int) (r b : Nat) : (flipsTo k r b).length = b := by simp [flipsTo]
theorem rowsTo_len (k : Int) : ∀ r : Nat, (rowsTo k r).length = 32 * r
  | 0 => rfl
  | r + 1 => by rw [rowsTo_succ, List.length_append, rowsTo_len k r, flipsTo_len]; omega
theorem flagsTo_len (k : Int) (b : Nat) : (flagsTo k b).length = b := by simp [flagsTo]
abbrev A_campaign_At : List Ty := [.int .i64]
abbrev S_campaign_At : Sh := Sh.ty (Ty.sl tFault)
def G_campaign_At (_ : dens A_campaign_At) : Bool := true
def V_campaign_At (k : dens A_campaign_At) : S_campaign_At.den := bif decide ((k : Int) < 0) then [] else atL k
end Go.Av
end
/-! Layer 34's statements: CampaignAt, CampaignAdds. -/
section
namespace Go.Av
open Go
def L_campaign_Skips_3 : LoopN where
  M := [3, 7, 8]
  T := [4, 9, 10, 11, 12, 13, 14, 15, 16]
  D := [7, 8]
  ss := [.osl 0 tFault, .ty (.int .i64), .ty (.int .i64)]
  hs := []
  es := [.exit 0]
  σ := (List (Ty.den tFault)) × (Ty.den (.int .i64))
  x0 := fun x _ => (x.1, x.2.2)
  put := fun x _ s => ((s.1, x.2.1, s.2), ())
  fuel := fun x _ => Int.toNat x.2.1+1
  turn := fun x _ s =>
  (.ite (decide (s.2 < x.2.1))
   (.ite (Nat.ble ((List.length s.1 + List.length [(1, s.2, 0, 0, ())]) * 32) 140737488355328)
    (.ret (.on (s.1 ++ [(1, s.2, 0, 0, ())], w64 (s.2 + 1))))
    .fail)
   (.ret (.out 0 (s.1, s.2))))
/-- campaign.Skips -/
abbrev A_campaign_Skips : List Ty := [(.int .i64)]
abbrev S_campaign_Skips : Sh := Sh.osl 32 tFault
def T_campaign_Skips (x : dens A_campaign_Skips) : PO (Sh.den S_campaign_Skips) :=
  (.opt (LoopN.res L_campaign_Skips_3 ([], imax 0 (imin x 4194304), 0) ()) fun p0 =>
   (.ret (p0.2.1)))
def G_campaign_Skips (x : dens A_campaign_Skips) : Bool := (T_campaign_Skips x).val.isSome
def V_campaign_Skips (x : dens A_campaign_Skips) : Sh.den S_campaign_Skips := (T_campaign_Skips x).getO default
theorem ok_campaign_Skips (x : dens A_campaign_Skips) (h : G_campaign_Skips x = true) : (T_campaign_Skips x).val = some (V_campaign_Skips x) := PO.getO_ok default h
end Go.Av
end
/-! Layer 9: what is known of runs, in plain terms. -/
section
namespace Go.Av
open Go

section
variable (hd : tHead.den) (fl : List UInt8) (f : tFault.den)

end

end Go.Av
end
/-! Layer 10: what a result means. -/
section
namespace Go.Av
open Go
def L_outcome_zero_2 : LoopN where
  M := [0, 2, 5, 6]
  T := [3, 7, 8, 9, 10, 11, 12, 13]
  D := [0, 5, 6]
  ss := [.ty .str, .ty .bool, .ty (.int .i64), .ty (.int .i64)]
  hs := []
  es := [.exit 0, .ret]
  σ := (Ty.den .bool) × (Ty.den (.int .i64))
  x0 := fun x _ => (x.2.1, x.2.2.2)
  put := fun x _ s => ((x.1, s.1, x.2.2.1, s.2), ())
  fuel := fun x _ => List.length x.1 + 1
  turn := fun x _ s =>
  (.ite (decide (s.2 < x.2.2.1))
   (.ite (inRange s.2 (List.length x.1))
    (.ite (u8I (List.getD x.1 (Int.toNat s.2) 0) != 0)
     (.ret (.out 1 (false, s.2)))
     (.ret (.on (s.1, w64 (s.2 + 1)))))
    .fail)
   (.ret (.out 0 (s.1, s.2))))
/-! ### Are all bytes 0? -/
abbrev A_outcome_zero : List Ty := [.str]
abbrev S_outcome_zero : Sh := .ty .bool
def T_outcome_zero (x : dens A_outcome_zero) : PO Bool :=
  (.opt (LoopN.res L_outcome_zero_2 (x, false, lenI x, 0) ()) fun p0 =>
   (.ite (way p0.1)
    (.ret (true))
    (.ret (p0.2.1))))
def G_outcome_zero (x : dens A_outcome_zero) : Bool := decide (List.length x < 9223372036854775808)
def V_outcome_zero (x : dens A_outcome_zero) : Bool := (x : List UInt8).all (· == 0)

theorem zero_run (l : List UInt8) (hb : l.length < 9223372036854775808) : ∀ (k i : Nat), i + k = l.length → ∀ f, k < f →
    runL (L_outcome_zero_2.turn (l, false, (l.length : Int), 0) ()) f (false, (i : Int)) = some (bif (l.drop i).all (· == 0) then (0, false, (l.length : Int)) else (1, false, ((i + ((l.drop i).takeWhile (· == 0)).length : Nat) : Int)))
  | 0, i, h, f, hf => by
    obtain ⟨f, rfl⟩ : ∃ g, f = g + 1 := ⟨f - 1, by omega⟩
    rw [List.drop_of_length_le (by omega)]
    refine runL_out ?_
    simp only [L_outcome_zero_2, PO.val, dec_false (show ¬ (i : Int) < (l.length : Int) by omega), cond_false]
    have : i = l.length := by omega
    subst this
    rfl
  | k + 1, i, h, f, hf => by
    obtain ⟨f, rfl⟩ : ∃ g, f = g + 1 := ⟨f - 1, by omega⟩
    have hi : i < l.length := by omega
    rw [List.drop_eq_getElem_cons hi]
    have h1 : decide ((i : Int) < (l.length : Int)) = true := dec_true (by omega)
    have h2 : l.getD i 0 = l[i] := by rw [List.getD_eq_getElem?_getD, List.getElem?_eq_getElem hi]; rfl
    cases hc : (l[i] == 0)
    · have : ((l[i].toNat : Int) != 0) = true := by
        simp only [beq_eq_false_iff_ne, ne_eq] at hc
        simp only [bne_iff_ne, ne_eq]
        intro h0
        apply hc
        have : l[i].toNat = 0 := by omega
        exact UInt8.toNat_inj.1 this
      simp only [List.all_cons, hc, Bool.false_and, cond_false, List.takeWhile_cons, Bool.false_eq_true, if_false, List.length_nil, Nat.add_zero]
      refine runL_out ?_
      simp only [L_outcome_zero_2, PO.val, h1, inR hi, cond_true, getD_nat, h2, this]
    · have : ((l[i].toNat : Int) != 0) = false := by
        simp only [beq_iff_eq] at hc
        rw [hc]
        rfl
      have ht : (L_outcome_zero_2.turn (l, false, (l.length : Int), 0) () (false, (i : Int))).val = some (.on (false, ((i + 1 : Nat) : Int))) := by
        simp only [L_outcome_zero_2, PO.val, h1, inR hi, cond_true, getD_nat, h2, this, cond_false]
        rw [w64_id (by omega) (by omega)]
        rfl
      refine (runL_on ht).trans ((zero_run l hb k (i + 1) (by omega) f (by omega)).trans ?_)
      simp only [List.all_cons, hc, Bool.true_and, List.takeWhile_cons, if_true, List.length_cons]
      rw [show i + 1 + ((l.drop (i + 1)).takeWhile (· == 0)).length = i + (((l.drop (i + 1)).takeWhile (· == 0)).length + 1) by omega]

theorem ok_outcome_zero (x : dens A_outcome_zero) (h : G_outcome_zero x = true) : (T_outcome_zero x).val = some (V_outcome_zero x) := by
  have hb : List.length x < 9223372036854775808 := of_decide_eq_true h
  have := zero_run x hb (List.length x) 0 (by omega) (List.length x + 1) (by omega)
  have e : LoopN.res L_outcome_zero_2 (x, false, lenI x, 0) () = _ := this
  unfold T_outcome_zero PO.val
  rw [e]
  simp only [List.drop_zero, V_outcome_zero]
  cases (x : List UInt8).all (· == 0) <;> rfl

/-- hauberkref05.Check -/
abbrev A_hauberkref05_Check : List Ty := [tSizes, (.int .i64)]
abbrev S_hauberkref05_Check : Sh := Sh.ty (Ty.int IntKind.i64)
def T_hauberkref05_Check (x : dens A_hauberkref05_Check) : PO (Sh.den S_hauberkref05_Check) :=
  (.ite (decide (imin (imin (imin x.1.1 x.1.2.1) (w64 (x.1.2.2.1 - 4))) x.2 < 0) || (decide (x.1.2.2.1 < 4) || (Int.tmod x.1.1 4 != 0 || (Int.tmod x.1.2.1 4 != 0 || Int.tmod x.1.2.2.1 4 != 0))))
   (.ret (2))
   (.ite (decide (imax (imax x.1.1 x.1.2.1) x.1.2.2.1 > 65536) || decide (x.2 > 262144))
    (.ret (5))
    (.ret (0))))
def G_hauberkref05_Check (_ : dens A_hauberkref05_Check) : Bool := true
def V_hauberkref05_Check (x : dens A_hauberkref05_Check) : Sh.den S_hauberkref05_Check := (T_hauberkref05_Check x).getO default
theorem ok_hauberkref05_Check (x : dens A_hauberkref05_Check) (_ : G_hauberkref05_Check x = true) : (T_hauberkref05_Check x).val = some (V_hauberkref05_Check x) := PO.sure_ok default (by simp [T_hauberkref05_Check, PO.sure])
/-- outcome.Wiped -/
abbrev A_outcome_Wiped : List Ty := [tResult]
abbrev S_outcome_Wiped : Sh := Sh.ty Ty.bool
def T_outcome_Wiped (x : dens A_outcome_Wiped) : PO (Sh.den S_outcome_Wiped) :=
  (.ite (bif x.2.2.2.2.1 == 0 then G_outcome_zero x.2.2.2.2.2.2.1 && bif V_outcome_zero x.2.2.2.2.2.2.1 then G_outcome_zero x.2.2.2.2.2.2.2.1 && bif V_outcome_zero x.2.2.2.2.2.2.2.1 then G_outcome_zero x.2.2.2.2.2.2.2.2.1 else true else true else true)
   (.ret (x.2.2.2.2.1 == 0 && (V_outcome_zero x.2.2.2.2.2.2.1 && (V_outcome_zero x.2.2.2.2.2.2.2.1 && V_outcome_zero x.2.2.2.2.2.2.2.2.1))))
   .fail)
def G_outcome_Wiped (x : dens A_outcome_Wiped) : Bool := (T_outcome_Wiped x).val.isSome
def V_outcome_Wiped (x : dens A_outcome_Wiped) : Sh.den S_outcome_Wiped := (T_outcome_Wiped x).getO default
theorem ok_outcome_Wiped (x : dens A_outcome_Wiped) (h : G_outcome_Wiped x = true) : (T_outcome_Wiped x).val = some (V_outcome_Wiped x) := PO.getO_ok default h
/-- outcome.Of -/
abbrev A_outcome_Of : List Ty := [tResult]
abbrev S_outcome_Of : Sh := Sh.ty tOutcome
def T_outcome_Of (x : dens A_outcome_Of) : PO (Sh.den S_outcome_Of) :=
  (.ite (!x.1)
   (.ret ((0, [], ())))
   (.ite (x.2.2.2.2.1 == 3235799053)
    (.ret ((1, x.2.2.2.2.2.2.1, ())))
    (.ite (x.2.2.2.2.2.1 == 195890093)
     (.ret ((2, [], ())))
     (.ret ((3, [], ()))))))
def G_outcome_Of (_ : dens A_outcome_Of) : Bool := true
def V_outcome_Of (x : dens A_outcome_Of) : Sh.den S_outcome_Of := (T_outcome_Of x).getO default
theorem ok_outcome_Of (x : dens A_outcome_Of) (_ : G_outcome_Of x = true) : (T_outcome_Of x).val = some (V_outcome_Of x) := PO.sure_ok default (by simp [T_outcome_Of, PO.sure])
/-- outcome.Slack -/
abbrev A_outcome_Slack : List Ty := [tSizes]
abbrev S_outcome_Slack : Sh := Sh.ty (Ty.int IntKind.i64)
def T_outcome_Slack (x : dens A_outcome_Slack) : PO (Sh.den S_outcome_Slack) :=
  (.ite (V_memmap_Check (x, 0) != 0)
   (.ret (0))
   (.ret (w64 (w64 (32 * w64 (x.2.1 + w64 (2 * x.2.2.1))) + 256))))
def G_outcome_Slack (_ : dens A_outcome_Slack) : Bool := true
def V_outcome_Slack (x : dens A_outcome_Slack) : Sh.den S_outcome_Slack := (T_outcome_Slack x).getO default
theorem ok_outcome_Slack (x : dens A_outcome_Slack) (_ : G_outcome_Slack x = true) : (T_outcome_Slack x).val = some (V_outcome_Slack x) := PO.sure_ok default (by simp [T_outcome_Slack, PO.sure])
end Go.Av
end
/-! Layer 34: what comes of faults. -/
section
namespace Go.Av
open Go
/-- campaign.one -/
abbrev A_campaign_one : List Ty := [tResult, tOutcome]
abbrev S_campaign_one : Sh := Sh.ty tCounts
def T_campaign_one (x : dens A_campaign_one) : PO (Sh.den S_campaign_one) :=
  (.ite ((V_outcome_Of x.1).1 == 1 && Ty.eqb tOutcome (V_outcome_Of x.1) x.2)
   (.ite (bif decide (x.1.2.2.2.1 > 0) then G_outcome_Wiped x.1 else true)
    (.ite (decide (x.1.2.2.2.1 > 0) && !V_outcome_Wiped x.1)
     (.ret ((1, 1, 0, 0, 0, 0, 1, ())))
     (.ret ((1, 1, 0, 0, 0, 0, 0, ()))))
    .fail)
   (.ite ((V_outcome_Of x.1).1 == 1)
    (.ite (bif decide (x.1.2.2.2.1 > 0) then G_outcome_Wiped x.1 else true)
     (.ite (decide (x.1.2.2.2.1 > 0) && !V_outcome_Wiped x.1)
      (.ret ((1, 0, 1, 0, 0, 0, 1, ())))
      (.ret ((1, 0, 1, 0, 0, 0, 0, ()))))
     .fail)
    (.ite ((V_outcome_Of x.1).1 == 2)
     (.ite (bif decide (x.1.2.2.2.1 > 0) then G_outcome_Wiped x.1 else true)
      (.ite (decide (x.1.2.2.2.1 > 0) && !V_outcome_Wiped x.1)
       (.ret ((1, 0, 0, 1, 0, 0, 1, ())))
       (.ret ((1, 0, 0, 1, 0, 0, 0, ()))))
      .fail)
     (.ite ((V_outcome_Of x.1).1 == 3)
      (.ite (bif decide (x.1.2.2.2.1 > 0) then G_outcome_Wiped x.1 else true)
       (.ite (decide (x.1.2.2.2.1 > 0) && !V_outcome_Wiped x.1)
        (.ret ((1, 0, 0, 0, 1, 0, 1, ())))
        (.ret ((1, 0, 0, 0, 1, 0, 0, ()))))
       .fail)
      (.ite (bif decide (x.1.2.2.2.1 > 0) then G_outcome_Wiped x.1 else true)
       (.ite (decide (x.1.2.2.2.1 > 0) && !V_outcome_Wiped x.1)
        (.ret ((1, 0, 0, 0, 0, 1, 1, ())))
        (.ret ((1, 0, 0, 0, 0, 1, 0, ()))))
       .fail)))))
def b01 (b : Bool) : Int := bif b then 1 else 0
def G_campaign_one (x : dens A_campaign_one) : Bool := G_outcome_Wiped x.1
/-- What comes of a run: each kind once. -/
def V_campaign_one (x : dens A_campaign_one) : Sh.den S_campaign_one :=
  (1, b01 ((V_outcome_Of x.1).1 == 1 && Ty.eqb tOutcome (V_outcome_Of x.1) x.2), b01 ((V_outcome_Of x.1).1 == 1 && !Ty.eqb tOutcome (V_outcome_Of x.1) x.2),
    b01 ((V_outcome_Of x.1).1 == 2), b01 ((V_outcome_Of x.1).1 == 3), b01 (!((V_outcome_Of x.1).1 == 1) && (!((V_outcome_Of x.1).1 == 2) && !((V_outcome_Of x.1).1 == 3))),
    b01 (decide (x.1.2.2.2.1 > 0) && !V_outcome_Wiped x.1), ())
theorem ok_campaign_one (x : dens A_campaign_one) (h : G_campaign_one x = true) : (T_campaign_one x).val = some (V_campaign_one x) := by
  have hg : (bif decide (x.1.2.2.2.1 > 0) then G_outcome_Wiped x.1 else true) = true := by
    rw [show G_outcome_Wiped x.1 = true from h]
    cases decide (x.1.2.2.2.1 > 0) <;> rfl
  unfold T_campaign_one V_campaign_one
  rw [hg]
  cases h1 : ((V_outcome_Of x.1).1 == (1 : Int))
  · refine (val_no rfl).trans ((val_no rfl).trans ?_)
    cases h2 : ((V_outcome_Of x.1).1 == (2 : Int))
    · refine (val_no rfl).trans ?_
      cases h3 : ((V_outcome_Of x.1).1 == (3 : Int))
      · refine (val_no rfl).trans ((val_yes rfl).trans ?_)
        cases (decide (x.1.2.2.2.1 > 0) && !V_outcome_Wiped x.1)
        · exact (val_no rfl).trans rfl
        · exact (val_yes rfl).trans rfl
      · refine (val_yes rfl).trans ((val_yes rfl).trans ?_)
        cases (decide (x.1.2.2.2.1 > 0) && !V_outcome_Wiped x.1)
        · exact (val_no rfl).trans rfl
        · exact (val_yes rfl).trans rfl
    · have h3 : ((V_outcome_Of x.1).1 == (3 : Int)) = false := by
        simp only [beq_iff_eq] at h2
        rw [h2]; rfl
      rw [h3]
      refine (val_yes rfl).trans ((val_yes rfl).trans ?_)
      cases (decide (x.1.2.2.2.1 > 0) && !V_outcome_Wiped x.1)
      · exact (val_no rfl).trans rfl
      · exact (val_yes rfl).trans rfl
  · have h2 : ((V_outcome_Of x.1).1 == (2 : Int)) = false := by
      simp only [beq_iff_eq] at h1
      rw [h1]; rfl
    have h3 : ((V_outcome_Of x.1).1 == (3 : Int)) = false := by
      simp only [beq_iff_eq] at h1
      rw [h1]; rfl
    rw [h2, h3]
    cases Ty.eqb tOutcome (V_outcome_Of x.1) x.2
    · refine (val_no rfl).trans ((val_yes rfl).trans ((val_yes rfl).trans ?_))
      cases (decide (x.1.2.2.2.1 > 0) && !V_outcome_Wiped x.1)
      · exact (val_no rfl).trans rfl
      · exact (val_yes rfl).trans rfl
    · refine (val_yes rfl).trans ((val_yes rfl).trans ?_)
      cases (decide (x.1.2.2.2.1 > 0) && !V_outcome_Wiped x.1)
      · exact (val_no rfl).trans rfl
      · exact (val_yes rfl).trans rfl
def L_campaign_Some_11 : LoopN where
  M := [0, 1, 3, 8, 9, 14, 15, 47, 48, 49]
  T := [17, 18, 19, 50, 51, 52, 53, 54, 55, 56, 57, 58, 59, 60, 61, 62, 63, 64, 65, 66, 67, 68, 69, 70]
  D := [0, 1, 3, 14, 47, 48, 49]
  ss := [.ty .str, .ty .str, .ty (.int .i64), .box 0 0, .ty (.int .i64), .box 1 0, .box 2 0, .ty (.sl tFault), .ty (.int .i64), .ty (.int .i64)]
  hs := [.ty tCounts, .ty tOutcome, .ty tCounts]
  es := [.exit 0, .ret]
  σ := (Ty.den (.int .i64)) × (Ty.den (.int .i64)) × (Sh.den (.ty tCounts)) × (Sh.den (.ty tOutcome)) × (Sh.den (.ty tCounts))
  x0 := fun x y => (x.2.2.2.2.1, x.2.2.2.2.2.2.2.2.2, y.1, y.2.1, y.2.2)
  put := fun x _ s => ((x.1, x.2.1, x.2.2.1, x.2.2.2.1, s.1, x.2.2.2.2.2.1, x.2.2.2.2.2.2.1, x.2.2.2.2.2.2.2.1, x.2.2.2.2.2.2.2.2.1, s.2.1), (s.2.2.1, s.2.2.2.1, s.2.2.2.2))
  fuel := fun x _ => List.length x.2.2.2.2.2.2.2.1 + 1
  turn := fun x _ s =>
  (.ite (decide (s.2.1 < x.2.2.2.2.2.2.2.2.1))
   (.ite (inRange s.2.1 (List.length x.2.2.2.2.2.2.2.1))
    (.ite ((V_machine_Run (x.1, x.2.1, List.getD x.2.2.2.2.2.2.2.1 (Int.toNat s.2.1) (Ty.dflt tFault), x.2.2.1)).2.1 != 0)
     (.ret (.out 1 ((V_machine_Run (x.1, x.2.1, List.getD x.2.2.2.2.2.2.2.1 (Int.toNat s.2.1) (Ty.dflt tFault), x.2.2.1)).2.1, s.2.1, (0, 0, 0, 0, 0, 0, 0, ()), s.2.2.2.1, s.2.2.2.2)))
     (.ite (G_campaign_one ((V_machine_Run (x.1, x.2.1, List.getD x.2.2.2.2.2.2.2.1 (Int.toNat s.2.1) (Ty.dflt tFault), x.2.2.1)).1, s.2.2.2.1))
      (.ret (.on (s.1, w64 (s.2.1 + 1), s.2.2.1, s.2.2.2.1, V_campaign_Add (s.2.2.2.2, V_campaign_one ((V_machine_Run (x.1, x.2.1, List.getD x.2.2.2.2.2.2.2.1 (Int.toNat s.2.1) (Ty.dflt tFault), x.2.2.1)).1, s.2.2.2.1)))))
      .fail))
    .fail)
   (.ret (.out 0 (s.1, s.2.1, s.2.2.1, s.2.2.2.1, s.2.2.2.2))))
/-! ### How long what a run leaves is -/
theorem reg_len {y : MemT} (h : MemWf y) (k : Int) : (V_reg k y).1.length < 9223372036854775808 := by
  unfold V_reg regionM
  cases hk : (decide (k < 0) || decide (k ≥ lenI y.1.2.1)) with
  | true => exact (by decide : (0 : Nat) < 9223372036854775808)
  | false =>
    simp only [Bool.or_eq_false_iff, decide_eq_false_iff_not, lenI] at hk
    have hi : k.toNat < y.1.1.length := by rw [h.len]; omega
    obtain ⟨h1, _⟩ := h.wins _ hi
    have hmem : y.1.1.getD k.toNat rDef ∈ y.1.1 := by
      rw [List.getD_eq_getElem?_getD, List.getElem?_eq_getElem hi]
      exact List.getElem_mem hi
    have h2 : (y.1.1.getD k.toNat rDef).2.1 < 4611686018427387904 := (h.regs.2 _ hmem).2.2.2
    show (bytesOf (shown y.2 (wAt y.1.2.1 k))).length < 9223372036854775808
    have h3 : (bytesOf (shown y.2 (wAt y.1.2.1 k))).length ≤ (y.1.2.1.getD k.toNat (0, 0)).2 := by
      unfold bytesOf shown wAt
      rw [List.length_map, List.length_take]
      exact Nat.min_le_left _ _
    omega
theorem wiped_G (r : tResult.den) (h1 : List.length r.2.2.2.2.2.2.1 < 9223372036854775808) (h2 : List.length r.2.2.2.2.2.2.2.1 < 9223372036854775808) (h3 : List.length r.2.2.2.2.2.2.2.2.1 < 9223372036854775808) : G_outcome_Wiped r = true := by
  unfold G_outcome_Wiped T_outcome_Wiped
  have g1 : G_outcome_zero r.2.2.2.2.2.2.1 = true := decide_eq_true h1
  have g2 : G_outcome_zero r.2.2.2.2.2.2.2.1 = true := decide_eq_true h2
  have g3 : G_outcome_zero r.2.2.2.2.2.2.2.2.1 = true := decide_eq_true h3
  rw [g1, g2, g3]
  have e : (bif r.2.2.2.2.1 == (0 : Int) then true && bif V_outcome_zero r.2.2.2.2.2.2.1 then true && bif V_outcome_zero r.2.2.2.2.2.2.2.1 then true else true else true else true) = true := by
    cases (r.2.2.2.2.1 == (0 : Int)) <;> cases V_outcome_zero r.2.2.2.2.2.2.1 <;> cases V_outcome_zero r.2.2.2.2.2.2.2.1 <;> rfl
  rw [e]
  rfl
theorem run_G (img inp : List UInt8) (f : tFault.den) (b : Int) : G_outcome_Wiped (runX img inp f b).1 = true := by
  unfold runX
  cases h1 : ((parseX img).2.1 != (0 : Int)) with
  | true => rfl
  | false =>
  cases h2 : (lenI inp != (parseX img).1.2.2.1.1) with
  | true => rfl
  | false =>
  cases h3 : (V_machine_Check f != 0 || (decide (b < 0) || decide (b > 67108864))) with
  | true => rfl
  | false =>
    obtain ⟨rs, hn, i, o, r, md, e, f1, f2, f3, f4, f5⟩ := parse_facts img h1
    have hwf := startX_wf rs hn i o r md img inp f1 f2 f3 f4
    show G_outcome_Wiped (resX (startX (parseX img).1 img inp) f b) = true
    rw [e]
    have hm := end_mem hwf f b
    exact wiped_G _ (reg_len hm 2) (reg_len hm 3) (reg_len hm 4)

/-! ### What comes of faults -/
abbrev noCounts : tCounts.den := (0, 0, 0, 0, 0, 0, 0, ())
/-- What comes of the faults of a list, behind some that were counted. -/
def someL (img inp : List UInt8) (b : Int) (right : tOutcome.den) : List tFault.den → tCounts.den → tCounts.den × Int × Unit
  | [], c => (c, 0, ())
  | f :: l, c => bif (runX img inp f b).2.1 != (0 : Int) then (noCounts, (runX img inp f b).2.1, ())
      else someL img inp b right l (V_campaign_Add (c, V_campaign_one ((runX img inp f b).1, right)))
def slackX (img : List UInt8) : Int := V_outcome_Slack (V_image_Parse img).1.2.2.1
/-- What comes of any faults. -/
def someX (img inp : List UInt8) (l : List tFault.den) (b : Int) : tCounts.den × Int × Unit :=
  bif (runX img inp noFault b).2.1 != (0 : Int) then (noCounts, (runX img inp noFault b).2.1, ())
  else bif decide (w64 (b + slackX img) > 67108864) then (noCounts, 2, ())
  else someL img inp (w64 (b + slackX img)) (V_outcome_Of (runX img inp noFault b).1) l noCounts

theorem some_run (img inp : List UInt8) (b : Int) (right : tOutcome.den) (l : List tFault.den) (hl : l.length < 9223372036854775808) (z : tCounts.den) (x : shDens L_campaign_Some_11.ss) (hx : x = (img, inp, b, (), 0, (), (), l, lenI l, 0)) (y : shDens L_campaign_Some_11.hs) :
    ∀ (k i : Nat) (c : tCounts.den), i + k = l.length → ∃ n st, runL (L_campaign_Some_11.turn x y) (k + 1) ((0 : Int), (i : Int), z, right, c) = some (n, st) ∧
      (bif way n then (st.2.2.2.2, (0 : Int), ()) else (st.2.2.1, st.1, ())) = someL img inp b right (l.drop i) c := by
  subst hx
  intro k
  induction k with
  | zero =>
    intro i c h
    refine ⟨0, _, runL_out ((val_no (dec_false (show ¬ (i : Int) < lenI l by simp only [lenI]; omega))).trans rfl), ?_⟩
    rw [List.drop_of_length_le (by omega)]
    rfl
  | succ k ih =>
    intro i c h
    have hi : i < l.length := by omega
    have hlt : decide ((i : Int) < lenI l) = true := dec_true (by simp only [lenI]; omega)
    have hd : l.drop i = l.getD i (Ty.dflt tFault) :: l.drop (i + 1) := by
      rw [List.drop_eq_getElem_cons hi, List.getD_eq_getElem?_getD, List.getElem?_eq_getElem hi]
      rfl
    have hg : List.getD l (Int.toNat (i : Int)) (Ty.dflt tFault) = l.getD i (Ty.dflt tFault) := by rw [Int.toNat_natCast]
    rw [hd]
    generalize hf : l.getD i (Ty.dflt tFault) = f at *
    rw [someL]
    cases he : ((runX img inp f b).2.1 != (0 : Int)) with
    | true =>
      refine ⟨1, ((runX img inp f b).2.1, (i : Int), noCounts, right, c), runL_out ((val_yes hlt).trans ((val_yes (inR hi)).trans ((val_yes (b := (runX img inp (List.getD l (Int.toNat (i : Int)) (Ty.dflt tFault)) b).2.1 != (0 : Int)) (by rw [hg]; exact he)).trans ?_))), rfl⟩
      show some (TL.out 1 ((runX img inp (List.getD l (Int.toNat (i : Int)) (Ty.dflt tFault)) b).2.1, (i : Int), noCounts, right, c)) = _
      rw [hg]
      rfl
    | false =>
      obtain ⟨n, st, h1, h2⟩ := ih (i + 1) (V_campaign_Add (c, V_campaign_one ((runX img inp f b).1, right))) (by omega)
      refine ⟨n, st, (runL_on (s' := ((0 : Int), ((i + 1 : Nat) : Int), z, right, V_campaign_Add (c, V_campaign_one ((runX img inp f b).1, right)))) ((val_yes hlt).trans ((val_yes (inR hi)).trans ((val_no (b := (runX img inp (List.getD l (Int.toNat (i : Int)) (Ty.dflt tFault)) b).2.1 != (0 : Int)) (by rw [hg]; exact he)).trans ((val_yes (run_G img inp _ b)).trans ?_))))).trans h1, h2⟩
      show some (TL.on ((0 : Int), w64 ((i : Int) + 1), z, right, V_campaign_Add (c, V_campaign_one ((runX img inp (List.getD l (Int.toNat (i : Int)) (Ty.dflt tFault)) b).1, right)))) = _
      rw [hg, w64_id (n := (i : Int) + 1) (by omega) (by omega)]
      rfl
/-- campaign.Some -/
abbrev A_campaign_Some : List Ty := [.str, .str, (.sl tFault), (.int .i64)]
abbrev S_campaign_Some : Sh := Sh.tup (Sh.pair (Sh.ty tCounts) (Sh.pair (Sh.ty (Ty.int IntKind.i64)) (Sh.ty Ty.unit)))
def T_campaign_Some (x : dens A_campaign_Some) : PO (Sh.den S_campaign_Some) :=
  (.ite ((V_machine_Run (x.1, x.2.1, (0, 0, 0, 0, ()), x.2.2.2)).2.1 != 0)
   (.ret (((0, 0, 0, 0, 0, 0, 0, ()), (V_machine_Run (x.1, x.2.1, (0, 0, 0, 0, ()), x.2.2.2)).2.1, ())))
   (.ite (decide (w64 (x.2.2.2 + V_outcome_Slack (V_image_Parse x.1).1.2.2.1) > 67108864))
    (.ret (((0, 0, 0, 0, 0, 0, 0, ()), 2, ())))
    (.opt (LoopN.res L_campaign_Some_11 (x.1, x.2.1, w64 (x.2.2.2 + V_outcome_Slack (V_image_Parse x.1).1.2.2.1), (), 0, (), (), x.2.2.1, lenI x.2.2.1, 0) ((0, 0, 0, 0, 0, 0, 0, ()), V_outcome_Of (V_machine_Run (x.1, x.2.1, (0, 0, 0, 0, ()), x.2.2.2)).1, 0, 0, 0, 0, 0, 0, 0, ())) fun p0 =>
     (.ite (way p0.1)
      (.ret ((p0.2.2.2.2.2, 0, ())))
      (.ret ((p0.2.2.2.1, p0.2.1, ())))))))
def G_campaign_Some (x : dens A_campaign_Some) : Bool := decide (List.length x.2.2.1 < 9223372036854775808)
def V_campaign_Some (x : dens A_campaign_Some) : Sh.den S_campaign_Some := someX x.1 x.2.1 x.2.2.1 x.2.2.2
theorem ok_campaign_Some (x : dens A_campaign_Some) (h : G_campaign_Some x = true) : (T_campaign_Some x).val = some (V_campaign_Some x) := by
  obtain ⟨img, inp, l, b⟩ := x
  have hl : l.length < 9223372036854775808 := of_decide_eq_true h
  unfold T_campaign_Some
  show _ = some (someX img inp l b)
  unfold someX
  show (PO.ite ((runX img inp noFault b).2.1 != (0 : Int)) _ _).val = _
  cases h1 : ((runX img inp noFault b).2.1 != (0 : Int)) with
  | true => exact (val_yes rfl).trans rfl
  | false =>
    refine (val_no rfl).trans ?_
    show (PO.ite (decide (w64 (b + slackX img) > 67108864)) _ _).val = _
    cases h2 : decide (w64 (b + slackX img) > 67108864) with
    | true => exact (val_yes rfl).trans rfl
    | false =>
      refine (val_no rfl).trans ?_
      obtain ⟨n, st, e1, e2⟩ := some_run img inp (w64 (b + slackX img)) (V_outcome_Of (runX img inp noFault b).1) l hl noCounts (img, inp, w64 (b + slackX img), (), 0, (), (), l, lenI l, 0) rfl (noCounts, V_outcome_Of (runX img inp noFault b).1, noCounts) l.length 0 noCounts (by omega)
      rw [List.drop_zero] at e2
      refine (val_opt (r := (n, st)) e1).trans ?_
      cases hw : way n with
      | true =>
        rw [hw] at e2
        exact (val_yes rfl).trans (congrArg some e2)
      | false =>
        rw [hw] at e2
        exact (val_no rfl).trans (congrArg some e2)
end Go.Av
end
/-! Layer 34: the statements CampaignSums, CampaignNone. -/
section
namespace Go.Av
open Go
/-- hauberklaw34.CampaignSums -/
abbrev A_hauberklaw34_CampaignSums : List Ty := [.str, .str, (.sl tFault), (.sl tFault), (.int .i64)]
abbrev S_hauberklaw34_CampaignSums : Sh := Sh.ty Ty.bool
def T_hauberklaw34_CampaignSums (x : dens A_hauberklaw34_CampaignSums) : PO (Sh.den S_hauberklaw34_CampaignSums) :=
  (.ite (decide (x.2.2.2.2 < 0) || (decide (x.2.2.2.2 > 300) || (decide (lenI x.2.2.1 > 20) || (decide (lenI x.2.2.2.1 > 20) || decide (lenI x.1 > 5000)))))
   (.ret (true))
   (.ite (G_campaign_Some (x.1, x.2.1, x.2.2.1, x.2.2.2.2))
    (.ite (G_campaign_Some (x.1, x.2.1, x.2.2.2))
     (.ite (Nat.ble ((List.length ([] : List tFault.den) + List.length x.2.2.1) * 32) 140737488355328)
      (.ite (Nat.ble ((List.length ([] ++ x.2.2.1) + List.length x.2.2.2.1) * 32) 140737488355328)
       (.ite (G_campaign_Some (x.1, x.2.1, [] ++ x.2.2.1 ++ x.2.2.2.1, x.2.2.2.2))
        (.ite (Nat.ble ((List.length ([] : List tFault.den) + List.length x.2.2.2.1) * 32) 140737488355328)
         (.ite (Nat.ble ((List.length ([] ++ x.2.2.2.1) + List.length x.2.2.1) * 32) 140737488355328)
          (.ite (G_campaign_Some (x.1, x.2.1, [] ++ x.2.2.2.1 ++ x.2.2.1, x.2.2.2.2))
           (.ite ((V_campaign_Some (x.1, x.2.1, x.2.2.1, x.2.2.2.2)).2.1 != 0 || (V_campaign_Some (x.1, x.2.1, x.2.2.2)).2.1 != 0)
            (.ite (bif (V_campaign_Some (x.1, x.2.1, [] ++ x.2.2.1 ++ x.2.2.2.1, x.2.2.2.2)).2.1 != 0 then bif (V_campaign_Some (x.1, x.2.1, [] ++ x.2.2.2.1 ++ x.2.2.1, x.2.2.2.2)).2.1 != 0 then Ty.eqb tCounts (V_campaign_Some (x.1, x.2.1, [] ++ x.2.2.1 ++ x.2.2.2.1, x.2.2.2.2)).1 (0, 0, 0, 0, 0, 0, 0, ()) || true else true else true)
             (.ret ((V_campaign_Some (x.1, x.2.1, [] ++ x.2.2.1 ++ x.2.2.2.1, x.2.2.2.2)).2.1 != 0 && ((V_campaign_Some (x.1, x.2.1, [] ++ x.2.2.2.1 ++ x.2.2.1, x.2.2.2.2)).2.1 != 0 && (Ty.eqb tCounts (V_campaign_Some (x.1, x.2.1, [] ++ x.2.2.1 ++ x.2.2.2.1, x.2.2.2.2)).1 (0, 0, 0, 0, 0, 0, 0, ()) && true))))
             .fail)
            (.ite (bif (V_campaign_Some (x.1, x.2.1, [] ++ x.2.2.1 ++ x.2.2.2.1, x.2.2.2.2)).2.1 == 0 then bif (V_campaign_Some (x.1, x.2.1, [] ++ x.2.2.2.1 ++ x.2.2.1, x.2.2.2.2)).2.1 == 0 then bif Ty.eqb tCounts (V_campaign_Some (x.1, x.2.1, [] ++ x.2.2.1 ++ x.2.2.2.1, x.2.2.2.2)).1 (V_campaign_Some (x.1, x.2.1, [] ++ x.2.2.2.1 ++ x.2.2.1, x.2.2.2.2)).1 then bif Ty.eqb tCounts (V_campaign_Some (x.1, x.2.1, [] ++ x.2.2.1 ++ x.2.2.2.1, x.2.2.2.2)).1 (V_campaign_Add ((V_campaign_Some (x.1, x.2.1, x.2.2.1, x.2.2.2.2)).1, (V_campaign_Some (x.1, x.2.1, x.2.2.2)).1)) then bif (V_campaign_Some (x.1, x.2.1, [] ++ x.2.2.1 ++ x.2.2.2.1, x.2.2.2.2)).1.1 == w64 (lenI x.2.2.1 + lenI x.2.2.2.1) then (V_campaign_Some (x.1, x.2.1, [] ++ x.2.2.1 ++ x.2.2.2.1, x.2.2.2.2)).1.1 == w64 (w64 (w64 (w64 ((V_campaign_Some (x.1, x.2.1, [] ++ x.2.2.1 ++ x.2.2.2.1, x.2.2.2.2)).1.2.1 + (V_campaign_Some (x.1, x.2.1, [] ++ x.2.2.1 ++ x.2.2.2.1, x.2.2.2.2)).1.2.2.1) + (V_campaign_Some (x.1, x.2.1, [] ++ x.2.2.1 ++ x.2.2.2.1, x.2.2.2.2)).1.2.2.2.1) + (V_campaign_Some (x.1, x.2.1, [] ++ x.2.2.1 ++ x.2.2.2.1, x.2.2.2.2)).1.2.2.2.2.1) + (V_campaign_Some (x.1, x.2.1, [] ++ x.2.2.1 ++ x.2.2.2.1, x.2.2.2.2)).1.2.2.2.2.2.1) || true else true else true else true else true else true)
             (.ret ((V_campaign_Some (x.1, x.2.1, [] ++ x.2.2.1 ++ x.2.2.2.1, x.2.2.2.2)).2.1 == 0 && ((V_campaign_Some (x.1, x.2.1, [] ++ x.2.2.2.1 ++ x.2.2.1, x.2.2.2.2)).2.1 == 0 && (Ty.eqb tCounts (V_campaign_Some (x.1, x.2.1, [] ++ x.2.2.1 ++ x.2.2.2.1, x.2.2.2.2)).1 (V_campaign_Some (x.1, x.2.1, [] ++ x.2.2.2.1 ++ x.2.2.1, x.2.2.2.2)).1 && (Ty.eqb tCounts (V_campaign_Some (x.1, x.2.1, [] ++ x.2.2.1 ++ x.2.2.2.1, x.2.2.2.2)).1 (V_campaign_Add ((V_campaign_Some (x.1, x.2.1, x.2.2.1, x.2.2.2.2)).1, (V_campaign_Some (x.1, x.2.1, x.2.2.2)).1)) && ((V_campaign_Some (x.1, x.2.1, [] ++ x.2.2.1 ++ x.2.2.2.1, x.2.2.2.2)).1.1 == w64 (lenI x.2.2.1 + lenI x.2.2.2.1) && ((V_campaign_Some (x.1, x.2.1, [] ++ x.2.2.1 ++ x.2.2.2.1, x.2.2.2.2)).1.1 == w64 (w64 (w64 (w64 ((V_campaign_Some (x.1, x.2.1, [] ++ x.2.2.1 ++ x.2.2.2.1, x.2.2.2.2)).1.2.1 + (V_campaign_Some (x.1, x.2.1, [] ++ x.2.2.1 ++ x.2.2.2.1, x.2.2.2.2)).1.2.2.1) + (V_campaign_Some (x.1, x.2.1, [] ++ x.2.2.1 ++ x.2.2.2.1, x.2.2.2.2)).1.2.2.2.1) + (V_campaign_Some (x.1, x.2.1, [] ++ x.2.2.1 ++ x.2.2.2.1, x.2.2.2.2)).1.2.2.2.2.1) + (V_campaign_Some (x.1, x.2.1, [] ++ x.2.2.1 ++ x.2.2.2.1, x.2.2.2.2)).1.2.2.2.2.2.1) && true)))))))
             .fail))
           .fail)
          .fail)
         .fail)
        .fail)
       .fail)
      .fail)
     .fail)
    .fail))
end Go.Av
end
/-! machine.Step's closure: where nothing panics it does nothing; a trap it recovers. -/
section
namespace Go.Proofs.Ytamnhodjidmlcaa
open Go Go.Av Go.Proofs Go.RowKit

noncomputable def stepRest : Code := match Try.f30.body with
  | some (.seq _ r) => r
  | _ => .skip

theorem trapZero (w : World) : (Instr.typeAssert .nilIface 20 79 true).run Try.prog w = .ok (.tuple #[.agg #[.int .i64 0], .bool false]) w := by
  kernel_rfl
theorem trapSome (v : Value) (w : World) : (Instr.typeAssert (.iface 79 v) 20 79 true).run Try.prog w = .ok (.tuple #[v, .bool true]) w := by
  kernel_rfl

theorem step_enter (cap : Array Value) (w : World) : (invoke (.fn (.func 30) cap) #[]).run Try.prog w = .ok (.enter 30 cap) w := by
  have h1 : (Try.f30.name == "runtime.NumGoroutine") = false := by kernel_rfl
  have h2 : Try.f30.body.isNone = false := by kernel_rfl
  have h3 : Try.prog.funcs[30]? = some Try.f30 := Try.func30
  simp only [invoke, callFunc]
  rw [show (#[] : Array Value) ++ cap = cap by simp]
  simp only [Sem.run_bind, run_program, Result.andThen_ok, h3, h1, h2, Bool.false_eq_true, if_false]
  rfl

set_option maxRecDepth 100000 in
set_option maxHeartbeats 2000000 in
theorem step_catches : Catches Try.prog 30 79 Try.f30 stepRest where
  enter := step_enter
  idle := fun p0 p1 p2 w => by
    refine callsD_of_wpS (c := .seq (.region _ _ false) stepRest) Try.func30 rfl fun c₀ cs hu => ?_
    simp only [Try.ntmps30, List.size_toArray, List.length_cons, List.length_nil, Nat.reduceAdd, Nat.reduceSub, Array.replicate_succ, Array.replicate_zero, List.push_toArray, List.append_toArray, List.nil_append, List.cons_append]
    apply wpS_seq
    apply wpS_region
    simp [wpOpsS, go_sem, recoverD, hu, Exit.thenS, trapZero]
    refine wpS_of_wp ?_
    refine Code.wp_mono (Q := fun e a' w' => e = .normal ∧ a'.defers = [] ∧ w' = w.alloc (.cells #[.int .i64 0] 79)) (fun e a' w' hq => ?_) ?_
    · obtain ⟨rfl, hd, rfl⟩ := hq
      exact ⟨hd, .returning, by rw [← hu], _, results_none rfl _ _ _, ⟨_, rfl⟩, rfl, rfl⟩
    · show Code.wp _ (.seq (.region _ _ false) (.cond (.tmp 10) _ .skip)) _ _ _
      refine wp_seq (wp_region ?_)
      simp [wpOps, go_sem, Exit.then]
      refine .inl (wp_cond (t := false) ?_ ?_)
      · simp [Act.eval]
      simp only [Bool.false_eq_true, if_false]
      exact wp_skip ⟨rfl, rfl, rfl⟩
  caught := fun p0 p1 p2 m w Rr h => by
    refine callsD_of_wpS (c := .seq (.region _ _ false) stepRest) Try.func30 rfl fun c₀ cs hu => ?_
    simp only [Try.ntmps30, List.size_toArray, List.length_cons, List.length_nil, Nat.reduceAdd, Nat.reduceSub, Array.replicate_succ, Array.replicate_zero, List.push_toArray, List.append_toArray, List.nil_append, List.cons_append]
    apply wpS_seq
    apply wpS_region
    simp [wpOpsS, go_sem, recoverD, hu, Exit.thenS, trapSome]
    refine wpS_of_wp (Code.wp_mono (fun e a' w' hq => ?_) (h _ rfl rfl rfl rfl rfl rfl))
    obtain ⟨he, hd, hr⟩ := hq
    rcases he with rfl | rfl
    · exact ⟨hd, _, rfl, _, results_none rfl _ _ _, ⟨_, rfl⟩, rfl, hr⟩
    · exact ⟨hd, _, rfl, _, results_none rfl _ _ _, ⟨_, rfl⟩, rfl, hr⟩

theorem step_ok {C : Ctx} (hC : Av.Good C) (hP : C.P = Try.prog) (unroll d : Nat) : BodyOk C.P 14 (evStep C drawOk unroll d 14 30 79) :=
  evStep_ok hC (gn := Try.f30) (rest := stepRest) (by rw [hP]; exact Try.func30) rfl (by rw [hP]; exact step_catches)
end Go.Proofs.Ytamnhodjidmlcaa
end
/-! campaign.At: what it leaves, by the laws of a range over a function. -/
section
namespace Go.Proofs.Ytamnhodjidmlcaa
open Go Go.RowKit Go.Shelf Go.Av Go.Proofs
attribute [local go_sem] Oper.semAt_some

abbrev fltV (i : tFault.den) : Value := .agg #[.int .i64 i.1, .int .i64 i.2.1, .int .i64 i.2.2.1, .int .i64 i.2.2.2.1]
def fltC (i : tFault.den) : List Value := [.int .i64 i.1, .int .i64 i.2.1, .int .i64 i.2.2.1, .int .i64 i.2.2.2.1]

theorem infoFlt : (Try.prog.info? 23).map (fun i => (i.zero, i.size, i.bytes)) = some (some (.agg #[.int .i64 0, .int .i64 0, .int .i64 0, .int .i64 0]), 4, 32) := by kernel_rfl

set_option maxRecDepth 100000 in
set_option maxHeartbeats 8000000 in
/-- The function that is ranged over. -/
theorem at1_in (k : Int) (bk l : Nat) (J : List tFault.den → World → Prop)
    (hbox : ∀ d W, J d W → Boxed W bk 3 (.int .i64 k))
    (hY : ∀ d W x, J d W → d.length < 485 → YieldAt Fence.wide 2 Try.prog l #[fltV x] W fun e W' => e = .returned (.bool true) ∧ J (d ++ [x]) W')
    (W : World) (h0 : J [] W) :
    CallsIn Fence.wide 3 Try.prog 72 #[.func (.yield l) #[] #[], .pointer (some ⟨bk, 0, none⟩)] W fun e W' => (∃ v, e = .returned v) ∧ J (atL k) W' := by
  refine callsIn_of_wp Try.func72 rfl trivial ?_ rfl
  simp only [Try.ntmps72, List.size_toArray, List.length_cons, List.length_nil, Nat.reduceAdd, Nat.reduceSub, Array.replicate_succ, Array.replicate_zero, List.push_toArray, List.append_toArray, List.nil_append, List.cons_append]
  have hc := (hbox _ _ h0).cell
  obtain ⟨fn, tmps, assign, body, hy, hR⟩ := hY [] W (skipF k) h0 (by decide)
  simp only [skipF] at hy
  gi_wp2
  refine hR.mono ?_
  rintro e W1 ⟨rfl, hJ1⟩
  gi_wp2
  gi_loopw [11] (fun p wr => ∃ r : Nat, p = .int .i64 r ∧ r ≤ 15 ∧ J ([skipF k] ++ rowsTo k r) wr) (fun p _ => 15 - (intOf p).toNat)
  case atStart => exact ⟨0, rfl, by omega, hJ1⟩
  case round =>
    obtain ⟨r, rfl, hr, hJr⟩ := hrel
    by_cases hlt : r < 15
    · have hri : (r : Int) < 15 := by omega
      gi_wp2
      gi_loopw [14] (fun p wr => ∃ b : Nat, p = .int .i64 b ∧ b ≤ 32 ∧ J ([skipF k] ++ rowsTo k r ++ flipsTo k r b) wr) (fun p _ => 32 - (intOf p).toNat)
      case atStart => exact ⟨0, rfl, by omega, by simpa [flipsTo] using hJr⟩
      case round =>
        obtain ⟨b, rfl, hb, hJb⟩ := hrel
        have hcb := (hbox _ _ hJb).cell
        by_cases hbt : b < 32
        · have hbi : (b : Int) < 32 := by omega
          obtain ⟨fn, tmps, assign, body, hy, hR⟩ := hY _ wr (flipF k r b) hJb (by rw [List.length_append, List.length_append, rowsTo_len, flipsTo_len, List.length_singleton]; omega)
          simp only [flipF] at hy
          gi_wp2
          refine hR.mono ?_
          rintro e W2 ⟨rfl, hJ2⟩
          gi_wp2
          refine ⟨⟨b + 1, by simp, by omega, by rw [flipsTo_succ, ← List.append_assoc]; exact hJ2⟩, by simp [intOf]; omega⟩
        · have hbe : b = 32 := by omega
          subst hbe
          gi_wp2
          refine ⟨⟨r + 1, by simp, by omega, by rw [rowsTo_succ, ← List.append_assoc]; exact hJb⟩, by simp [intOf]; omega⟩
    · have hre : r = 15 := by omega
      subst hre
      rw [show ((15 : Nat) : Int) = (15 : Int) from rfl]
      gi_wp2
      gi_loopw [26] (fun p wr => ∃ b : Nat, p = .int .i64 b ∧ b ≤ 4 ∧ J ([skipF k] ++ rowsTo k 15 ++ flagsTo k b) wr) (fun p _ => 4 - (intOf p).toNat)
      case atStart => exact ⟨0, rfl, by omega, by simpa [flagsTo] using hJr⟩
      case round =>
        obtain ⟨b, rfl, hb, hJb⟩ := hrel
        have hcb := (hbox _ _ hJb).cell
        by_cases hbt : b < 4
        · have hbi : (b : Int) < 4 := by omega
          obtain ⟨fn, tmps, assign, body, hy, hR⟩ := hY _ wr (flagF k b) hJb (by rw [List.length_append, List.length_append, rowsTo_len, flagsTo_len, List.length_singleton]; omega)
          simp only [flagF] at hy
          gi_wp2
          refine hR.mono ?_
          rintro e W2 ⟨rfl, hJ2⟩
          gi_wp2
          go_roundw
          case rel => exact ⟨b + 1, by simp, by omega, by rw [flagsTo_succ, ← List.append_assoc]; exact hJ2⟩
          case measure => simp [intOf]; omega
        · have hbe : b = 4 := by omega
          subst hbe
          gi_wp2
          go_end0
          exact ⟨⟨_, rfl⟩, hJb⟩


theorem cells_new (w : World) (cs : Array Value) (t : TypeId) (l : List Value) (hl : l = cs.toList) : ∀ j u, l[j]? = some u → (w.alloc (.cells cs t)).cell? ((⟨w.heap.size, 0, none⟩ : Addr).add j) = some u := by
  intro j u hj
  subst hl
  rw [add_eq rfl]
  simp only [World.cell?, World.alloc_heap_new]
  simpa using hj

/-- What the caller has between two rounds. -/
structure MidF (w : World) (D : Nat) (rc : LoopState → Option Code → Go.Loop) (st : LoopState) (pe : Option Code) (k : Int) (d : List tFault.den) (W : World) : Prop where
  b4 : ∃ v, Boxed W w.heap.size 51 v ∧ W.ownsRow w.heap.size 23 4 v d.length (d.flatMap fltC)
  bk : Boxed W (w.heap.size + 1) 3 (.int .i64 k)
  below : Below w.heap.size w W
  frz : ∀ a, W.frozen? a = w.frozen? a
  dfr : W.heap[D]? = some (.deferred (some []))
  lp : W.heap[D + 1]? = some (.loop (rc st pe))

theorem grown_below {W W' : World} (h : Below W.heap.size W W') : W.grownBy W' none := ⟨h.os, h.tape, h.output, h.size, fun k hk _ => h.block k hk⟩
theorem lt_of_get {W : World} {k : Nat} {o : Obj} (h : W.heap[k]? = some o) : k < W.heap.size := (Array.getElem?_eq_some_iff.1 h).1

theorem MidF.below' {w : World} {D : Nat} {rc : LoopState → Option Code → Go.Loop} {st : LoopState} {pe : Option Code} {k : Int} {d : List tFault.den} {W W' : World} (h : MidF w D rc st pe k d W) (hb : Below W.heap.size W W') (hz : ∀ a, W'.frozen? a = W.frozen? a) : MidF w D rc st pe k d W' := by
  have hg := grown_below hb
  obtain ⟨v, h4, hr⟩ := h.b4
  exact ⟨⟨v, h4.kept hg (by simp), hr.kept hg (by cases v.ownBlock <;> simp)⟩, h.bk.kept hg (by simp), h.below.trans (hb.mono h.below.size), fun a => (hz a).trans (h.frz a), (hb.block _ (lt_of_get h.dfr)).trans h.dfr, (hb.block _ (lt_of_get h.lp)).trans h.lp⟩

/-- The loop's record turned. -/
theorem MidF.turn {w : World} {D : Nat} {rc : LoopState → Option Code → Go.Loop} {st st' : LoopState} {pe pe' : Option Code} {k : Int} {d : List tFault.den} {W : World} (h : MidF w D rc st pe k d W) (hD : w.heap.size ≤ D) : MidF w D rc st' pe' k d (W.putObj (D + 1) (.loop (rc st' pe'))) := by
  have hg := grownBy_putObj' W (D + 1) (.loop (rc st' pe'))
  obtain ⟨v, h4, hr⟩ := h.b4
  have hne : ∀ {k : Nat} {t : TypeId} {v : Value}, Boxed W k t v → some k ≠ some (D + 1) := fun hk e => by
    cases e
    have hk' : W.heap[D + 1]? = _ := hk
    rw [h.lp] at hk'
    cases hk'
  exact ⟨⟨v, h4.kept hg (hne h4), ownsRow_putObj hr _ h.lp rfl⟩, h.bk.kept hg (hne h.bk),
    h.below.trans ⟨hg.os, hg.tape, hg.output, hg.size, fun k hk => hg.block k (Nat.lt_of_lt_of_le hk h.below.size) (by simp; omega)⟩, fun a => (frz_putObj _ _ _ _ h.lp rfl rfl a).trans (h.frz a), (World.putObj_heap_other (by omega)).trans h.dfr, World.putObj_heap_same (lt_of_get h.lp)⟩

set_option maxRecDepth 100000 in
set_option maxHeartbeats 4000000 in
theorem at_in (k : Int) (w : World) :
    CallsIn Fence.wide 3 Try.prog 55 #[.int .i64 k] w fun e w' => e = .returned (.func (.func 72) #[] #[.pointer (some ⟨w.heap.size, 0, none⟩)]) ∧ w' = w.alloc (.cells #[.int .i64 k] 3) := by
  refine callsIn_of_wp Try.func55 rfl trivial ?_ rfl
  simp only [Try.ntmps55, List.size_toArray, List.length_cons, List.length_nil, Nat.reduceAdd, Nat.reduceSub, Array.replicate_succ, Array.replicate_zero, List.push_toArray, List.append_toArray, List.nil_append, List.cons_append]
  gi_wp2
  go_ret
  exact ⟨rfl, rfl⟩

set_option maxRecDepth 100000 in
set_option maxHeartbeats 8000000 in
theorem At_in (k : Int) (w : World) :
    CallsIn Fence.wide 4 Try.prog 34 #[.int .i64 k] w fun e W' => ∃ v, e = .returned v ∧ (Below w.heap.size w W' ∧ ∀ a, W'.frozen? a = w.frozen? a) ∧
      W'.ownsRow w.heap.size 23 4 v (bif decide (k < 0) then [] else atL k).length ((bif decide (k < 0) then [] else atL k).flatMap fltC) := by
  obtain ⟨i0, hi, hz0, hz1, hz2⟩ := info_parts infoFlt
  refine callsIn_of_wp_marks Try.func34 rfl trivial ?_ rfl
  simp only [Try.ntmps34, List.size_toArray, List.length_cons, List.length_nil, Nat.reduceAdd, Nat.reduceSub, Array.replicate_succ, Array.replicate_zero, List.push_toArray, List.append_toArray, List.nil_append, List.cons_append]
  gi_wp2_with (refine ⟨trivial, ?_⟩; gi_at_call 55; refine (at_in k _).mono ?_; rintro e w' ⟨rfl, rfl⟩)
  · have hd : decide (k < 0) = true := decide_eq_true (by assumption)
    rw [hd]
    refine ⟨_, results_tmp rfl _ _ _, _, rfl, ⟨(Below.refl _ w).alloc (Nat.le_refl _) _, frz_alloc _ _ rfl⟩, World.ownsRow_nil _ _ _ _⟩
  · have hk : 0 ≤ k := by assumption
    have hd : decide (k < 0) = false := decide_eq_false (by omega)
    have b4 := (Boxed.new w 51 (.slice none 0 0)).alloc (.cells #[.int .i64 k] 3)
    have bk := Boxed.new (w.alloc (.cells #[.slice none 0 0] 51)) 3 (.int .i64 k)
    simp only [World.size_alloc] at b4 bk
    have hB0 : Below w.heap.size w ((w.alloc (.cells #[.slice none 0 0] 51)).alloc (.cells #[.int .i64 k] 3)) := ((Below.refl _ w).alloc (Nat.le_refl _) _).alloc (by simp) _
    have hF0 : ∀ a, ((w.alloc (.cells #[.slice none 0 0] 51)).alloc (.cells #[.int .i64 k] 3)).frozen? a = w.frozen? a := fun a => by rw [frz_alloc _ _ rfl, frz_alloc _ _ rfl]
    have hsz : ((w.alloc (.cells #[.slice none 0 0] 51)).alloc (.cells #[.int .i64 k] 3)).heap.size = w.heap.size + 2 := by simp
    generalize ((w.alloc (.cells #[.slice none 0 0] 51)).alloc (.cells #[.int .i64 k] 3)) = W0 at b4 bk hB0 hF0 hsz ⊢
    refine range_over rfl (by decide) (gf := 72) (lb := #[.pointer (some ⟨w.heap.size + 1, 0, none⟩)]) rfl trivial (enters_of Try.func72 (by kernel_rfl) rfl) (fun fn _ => ?_)
    generalize hrc : loopRec fn _ _ _ _ W0.heap.size = rc
    have hw1 : ((W0.alloc (.deferred (some []))).alloc (.loop (rc .ready none))).heap[W0.heap.size + 1]? = some (.loop (rc .ready none)) := by
      have := World.alloc_heap_new (W0.alloc (.deferred (some []))) (.loop (rc .ready none))
      rwa [World.size_alloc] at this
    have hw2 : ((W0.alloc (.deferred (some []))).alloc (.loop (rc .ready none))).heap[W0.heap.size]? = some (.deferred (some [])) :=
      (Below.heap_alloc _ _ _ (by simp)).trans (World.alloc_heap_new W0 _)
    have hm0 : MidF w W0.heap.size rc .ready none k [] ((W0.alloc (.deferred (some []))).alloc (.loop (rc .ready none))) :=
      ⟨⟨_, (b4.alloc _).alloc _, World.ownsRow_nil _ _ _ _⟩, (bk.alloc _).alloc _, (hB0.alloc (by omega) _).alloc (by simp; omega) _, fun a => ((frz_alloc _ _ rfl a).trans (frz_alloc _ _ rfl a)).trans (hF0 a), hw2, hw1⟩
    have hD : w.heap.size ≤ W0.heap.size := by omega
    clear hw1 hw2
    refine (at1_in k (w.heap.size + 1) (W0.heap.size + 1) (fun d W => MidF w W0.heap.size rc .ready none k d W) (fun d W h => h.bk) ?round _ hm0).mono ?_
    case round =>
      intro d W x h hlt
      refine round_rc hrc trivial h.lp rfl ?_
      clear hm0 hF0
      rw [hsz] at h ⊢
      gi_wp2
      have h1 := h.below' ((Below.refl _ W).alloc (Nat.le_refl _) (.cells #[.int .i64 x.1, .int .i64 x.2.1, .int .i64 x.2.2.1, .int .i64 x.2.2.2.1] 23)) (frz_alloc _ _ rfl)
      refine ⟨h1.lp, ?_⟩
      have h2 := h1.turn (st' := .busy) (pe' := none) (by omega)
      have hx : ((W.alloc (.cells #[.int .i64 x.1, .int .i64 x.2.1, .int .i64 x.2.2.1, .int .i64 x.2.2.2.1] 23)).putObj (w.heap.size + 2 + 1) (.loop (rc .busy none))).heap[W.heap.size]? = some (.cells #[.int .i64 x.1, .int .i64 x.2.1, .int .i64 x.2.2.1, .int .i64 x.2.2.2.1] 23) :=
        (World.putObj_heap_other (by have := lt_of_get h.lp; omega)).trans (World.alloc_heap_new W _)
      have hxb : w.heap.size ≤ W.heap.size := h.below.size
      generalize ((W.alloc (.cells #[.int .i64 x.1, .int .i64 x.2.1, .int .i64 x.2.2.1, .int .i64 x.2.2.2.1] 23)).putObj (w.heap.size + 2 + 1) (.loop (rc .busy none))) = W2 at h2 hx ⊢
      generalize W.heap.size = bx at hx hxb ⊢
      clear h1 h hrc
      obtain ⟨⟨v, b4', hrow⟩, bk', hB', hZ0, hD', hL'⟩ := h2
      have hZ' : Hid (∀ a, W2.frozen? a = w.frozen? a) := hZ0
      clear hZ0
      have c4 := b4'.cell
      have cx : ∀ k, k < 4 → W2.cell? ⟨bx, k, none⟩ = some ((fltC x).getD k undef) := fun k hk => by
        simp only [World.cell?, hx]
        match k, hk with
        | 0, _ => rfl
        | 1, _ => rfl
        | 2, _ => rfl
        | 3, _ => rfl
      have cx0 := cx 0 (by decide)
      have cx1 := cx 1 (by decide)
      have cx2 := cx 2 (by decide)
      have cx3 := cx 3 (by decide)
      simp only [fltC, List.getD_cons_zero, List.getD_cons_succ] at cx0 cx1 cx2 cx3
      clear cx
      have hml : d.length + 1 ≤ maxLen := by unfold maxLen; omega
      have hmb : (d.length + 1) * 32 ≤ 140737488355328 := by omega
      gi_wp2_with (gi_at_builtin; refine wpListIn_append_frz _ rfl _ _ 51 rfl w.heap.size 23 i0 (.agg #[.int .i64 0, .int .i64 0, .int .i64 0, .int .i64 0]) 4 32 Try.underlying51 hi hz0 hz1 hz2 rfl (by decide) _ _ _ rfl (hrow.alloc _) ⟨W2.heap.size, 0, none⟩ 1 1 (by decide) (fltC x) rfl rfl (cells_new _ _ _ _ rfl) (by simp [fltC, Value.oneCell']) hml hmb (by have := hB'.size; simp; omega) ?_; intro v' w1 hown' hgrow hfz0; have hfz := show Hid (∀ x, w1.frozen? x = _) from hfz0; clear hfz0; obtain ⟨g', cap', rfl⟩ := ownsRow_succ hown'; obtain ⟨hv1, hv2, hr2, hk2, hb2⟩ := b4'.appended (by decide) hrow hB'.size (by omega) hown' hgrow; have hc1 := hv1.cell; have hf1 := hv1.frozen)
      have nk := bk'.not_row (by decide) hrow
      have hgs := grownBy_setCell' w1 w.heap.size (.slice (some ⟨g', 0, none⟩) (d.length + 1) cap')
      have hm : MidF w (w.heap.size + 2) rc .busy none k (d ++ [x]) (w1.setCell ⟨w.heap.size, 0, none⟩ (.slice (some ⟨g', 0, none⟩) (d.length + 1) cap')) :=
        ⟨⟨_, hv2, by simpa [List.flatMap_append] using hr2⟩, ((bk'.alloc _).kept hgrow nk).kept hgs (by simp), hB'.trans hb2, fun a => ((World.frozen?_setCell ..).trans ((hfz.out a).trans (frz_alloc _ _ rfl a))).trans (hZ'.out a), hk2.same _ _ hD' rfl, hk2.same _ _ hL' rfl⟩
      exact ⟨hm.lp, rfl, hm.turn (by omega)⟩
    · rintro e W1 ⟨hv, hm⟩
      refine ⟨hv, .inl ⟨hm.lp, ?_⟩⟩
      have h2 := hm.turn (st' := .exhausted) (pe' := none) (by omega)
      clear hm0
      generalize (W1.putObj (W0.heap.size + 1) (.loop (rc .exhausted none))) = W2 at h2 ⊢
      obtain ⟨v, b4', hrow⟩ := h2.b4
      have c4 := b4'.cell
      have hd3 := h2.dfr
      rw [hsz] at hd3 ⊢
      gi_wp2
      refine ⟨by simp, .inl ⟨_, _, rfl, run_takeDeferred hd3, ?_⟩⟩
      have hgp := grownBy_putObj' W2 (w.heap.size + 2) (.deferred none)
      refine ⟨_, results_tmp rfl _ _ _, v, rfl, ⟨h2.below.trans ⟨hgp.os, hgp.tape, hgp.output, hgp.size, fun k hk => hgp.block k (Nat.lt_of_lt_of_le hk h2.below.size) (by simp; omega)⟩, fun a => (frz_putObj _ _ _ _ hd3 rfl rfl a).trans (h2.frz a)⟩, ?_⟩
      exact ownsRow_putObj hrow _ hd3 rfl

/-! ### As a function of plain arguments -/

theorem fltC_RL {w : World} {K : Kinds} : ∀ l : List tFault.den, RL (RT w K tFault) l (l.flatMap fltC)
  | [] => rfl
  | x :: l => ⟨fltC x, l.flatMap fltC, by simp, ⟨[.int .i64 x.1], _, rfl, rfl, [.int .i64 x.2.1], _, rfl, rfl, [.int .i64 x.2.2.1], _, rfl, rfl, [.int .i64 x.2.2.2.1], [], rfl, rfl, rfl⟩, fltC_RL l⟩

theorem at_plain : PlainOk Try.prog 34 (plainT A_campaign_At G_campaign_At S_campaign_At V_campaign_At) := by
  intro args v hv w K vs hvs hfix
  unfold plainT at hv
  cases hx : asAll A_campaign_At args with
  | none => rw [hx] at hv; cases hv
  | some k =>
    rw [hx] at hv
    simp only [Option.map_some, Option.some.injEq, Prod.mk.injEq] at hv
    obtain ⟨hg, rfl⟩ := hv
    have hva := asAll_RVs A_campaign_At args k vs hx hvs
    match vs, hva with
    | [u], hva =>
      have hu := RV.int hva.1
      subst hu
      refine (callsIn_wide.1 (At_in k w)).mono ?_
      rintro e W' ⟨r, rfl, ⟨hB, _⟩, hrow⟩
      have hK : ∀ b, (if b < w.heap.size then K b else Kind.old).fixed = true := fun b => by
        by_cases h : b < w.heap.size
        · rw [if_pos h]; exact hfix b h
        · rw [if_neg h]; rfl
      refine ⟨_, fun b => if b < w.heap.size then K b else .old, rfl, ?_, ?_, ?_⟩
      · exact {
          os := hB.os
          tape := hB.tape
          output := hB.output
          size := hB.size
          fix := fun b hb _ => ⟨if_pos hb, hB.block b hb⟩
          stab := fun b o hb hs => ⟨by unfold Stab; simp only [if_pos hb]; exact hs, World.cell?_of_block (hB.block b hb)⟩
          box := fun b id hb hk => by simp only [if_pos hb]; exact hk
          bsz := fun b id n hb hk hn => (by have := hfix b hb; rw [hk] at this; cases this) }
      · intro b id _ hk
        have h1 := hK b
        simp only at hk
        rw [hk] at h1
        cases h1
      · have hcc : ∀ A len cap, r = .slice A len cap → ∀ a, A = some a → ∃ cc, RL (RT W' (fun b => if b < w.heap.size then K b else .old) tFault) (bif decide (k < 0) then [] else atL k) cc ∧ At W' (fun b => if b < w.heap.size then K b else .old) a cc := by
          intro A len cap hr a ha
          subst hr ha
          rcases hrow.2 with ⟨e, _⟩ | ⟨g, cap', cur, e, hg, hh, _, _, _, hpre⟩
          · cases e
          · injection e with e1 e2 e3
            injection e1 with e1
            subst e1
            refine ⟨_, fltC_RL _, fun j v hj => ⟨rfl, ?_, ?_⟩⟩
            · rw [← hpre] at hj
              simp only [World.cell?, hh, Option.isSome_none, Bool.false_eq_true, if_false, Nat.zero_add]
              rw [List.getElem?_take] at hj
              split at hj
              · simpa using hj
              · cases hj
            · unfold Stab
              simp only [if_neg (Nat.not_lt.2 hg)]
              exact trivial
        rcases hrow.2 with ⟨e, h0⟩ | ⟨g, cap', cur, e, _, _, hle, _⟩
        · subst e
          exact ⟨⟨none, 0, 0, rfl, h0.symm, Nat.le_refl _, fun _ => rfl, fun a ha => by cases ha⟩, (fun e => (by cases e)), (fun _ c e => (by cases e))⟩
        · subst e
          exact ⟨⟨_, _, cap', rfl, rfl, hle, (fun e => (by cases e)), hcc _ _ _ rfl⟩, (fun e => (by cases e)), (fun _ c e => (by cases e))⟩

end Go.Proofs.Ytamnhodjidmlcaa
end
