/- Layer 28 (dup), on a memory: what is done twice, with one of it skipped. -/
import Derived.Test.YtapfijocjgoilaaPTMem
import Derived.Test.YtapfijocjgoilaaPCpu5Law
namespace Go.Av
open Go

/-- hauberklaw28.lives: an example, computed -/
abbrev A_hauberklaw28_lives : List Ty := []
abbrev S_hauberklaw28_lives : Sh := .ty .bool
def T_hauberklaw28_lives (_ : dens A_hauberklaw28_lives) : PO Bool := .ret true
def G_hauberklaw28_lives (_ : dens A_hauberklaw28_lives) : Bool := true
def V_hauberklaw28_lives (_ : dens A_hauberklaw28_lives) : Bool := true
theorem ok_hauberklaw28_lives (x : dens A_hauberklaw28_lives) (_ : G_hauberklaw28_lives x = true) : (T_hauberklaw28_lives x).val = some (V_hauberklaw28_lives x) := rfl
def L_dup_All_3 : LoopN where
  M := [3, 6, 7, 8]
  T := [5, 9, 10, 11, 12, 13, 14, 15, 16, 17, 18, 19, 20, 21, 22, 23]
  D := [6, 7, 8]
  ss := [.osl 0 tItem, .ty (.sl tItem), .ty (.int .i64), .ty (.int .i64)]
  hs := []
  es := [.exit 0]
  σ := (List (Ty.den tItem)) × (Ty.den (.int .i64))
  x0 := fun x _ => (x.1, x.2.2.2)
  put := fun x _ s => ((s.1, x.2.1, x.2.2.1, s.2), ())
  fuel := fun x _ => List.length x.2.1+1
  turn := fun x _ s =>
  (.ite (decide (s.2 < x.2.2.1))
   (.ite (inRange s.2 (List.length x.2.1))
    (.ite (Nat.ble ((List.length s.1 + List.length [List.getD x.2.1 (Int.toNat s.2) (Ty.dflt tItem)]) * 80) 140737488355328)
     (.ite ((List.getD x.2.1 (Int.toNat s.2) (Ty.dflt tItem)).1 != 1)
      (.ite (Nat.ble ((List.length (s.1 ++ [List.getD x.2.1 (Int.toNat s.2) (Ty.dflt tItem)]) + List.length [List.getD x.2.1 (Int.toNat s.2) (Ty.dflt tItem)]) * 80) 140737488355328)
       (.ret (.on (s.1 ++ [List.getD x.2.1 (Int.toNat s.2) (Ty.dflt tItem)] ++ [List.getD x.2.1 (Int.toNat s.2) (Ty.dflt tItem)], w64 (s.2 + 1))))
       .fail)
      (.ret (.on (s.1 ++ [List.getD x.2.1 (Int.toNat s.2) (Ty.dflt tItem)], w64 (s.2 + 1)))))
     .fail)
    .fail)
   (.ret (.out 0 (s.1, s.2))))
/-- dup.All -/
abbrev A_dup_All : List Ty := [(.sl tItem)]
abbrev S_dup_All : Sh := Sh.osl 32 tItem
def T_dup_All (x : dens A_dup_All) : PO (Sh.den S_dup_All) :=
  (.opt (LoopN.res L_dup_All_3 ([], x, lenI x, 0) ()) fun p0 =>
   (.ret (p0.2.1)))
/-- Items, each but labels twice. -/
def allV (l : List tItem.den) : List tItem.den := l.flatMap fun x => bif x.1 != 1 then [x, x] else [x]
theorem allV_cons (x : tItem.den) (l : List tItem.den) : allV (x :: l) = (bif x.1 != 1 then [x, x] else [x]) ++ allV l := List.flatMap_cons
theorem all_from (l : List tItem.den) (hl : l.length < 1073741824) : ∀ (k i : Nat), i + k = l.length → ∀ f, k < f → ∀ out : List tItem.den, out.length ≤ 2 * i →
    runL (L_dup_All_3.turn ([], l, lenI l, 0) ()) f (out, (i : Int)) = some (0, (out ++ allV (l.drop i), (l.length : Int)))
  | 0, i, hi, f, hf, out, ho => by
    obtain ⟨f, rfl⟩ : ∃ g, f = g + 1 := ⟨f - 1, by omega⟩
    have hil : i = l.length := by omega
    subst hil
    refine (runL_out (c := 0) (s' := (out, (l.length : Int))) ?_).trans ?_
    · exact val_no (dec_false (by show ¬ ((l.length : Int) < ((List.length l : Nat) : Int)); omega))
    · rw [List.drop_length]
      simp [allV]
  | k + 1, i, hi, f, hf, out, ho => by
    obtain ⟨f, rfl⟩ : ∃ g, f = g + 1 := ⟨f - 1, by omega⟩
    have hlt : i < l.length := by omega
    have hd : l.drop i = l[i] :: l.drop (i + 1) := List.drop_eq_getElem_cons hlt
    have hg : List.getD l (Int.toNat (i : Int)) (Ty.dflt tItem) = l[i] := by rw [Int.toNat_natCast]; exact getD_in l _ hlt
    have hw : w64 ((i : Int) + 1) = ((i + 1 : Nat) : Int) := by rw [w64_id (by omega) (by omega)]; push_cast; rfl
    have r1 : Nat.ble ((List.length out + List.length [l[i]]) * 80) 140737488355328 = true := by rw [Nat.ble_eq]; simp; omega
    have r2 : Nat.ble ((List.length (out ++ [l[i]]) + List.length [l[i]]) * 80) 140737488355328 = true := by rw [Nat.ble_eq]; simp; omega
    have hv : (L_dup_All_3.turn ([], l, lenI l, 0) () (out, (i : Int))).val = some (TL.on (bif l[i].1 != 1 then out ++ [l[i]] ++ [l[i]] else out ++ [l[i]], ((i + 1 : Nat) : Int))) := by
      refine (val_yes (dec_true (by show ((i : Int) < ((List.length l : Nat) : Int)); omega))).trans ((val_yes (inR hlt)).trans ?_)
      dsimp only
      rw [hg, hw]
      refine (val_yes r1).trans ?_
      cases l[i].1 != 1
      · rfl
      · exact (val_yes rfl).trans ((val_yes r2).trans rfl)
    rw [hd]
    refine (runL_on hv).trans ?_
    cases hc : l[i].1 != 1
    · refine (all_from l hl k (i + 1) (by omega) f (by omega) _ (by simp; omega)).trans ?_
      rw [allV_cons, hc, ← List.append_assoc]
      rfl
    · refine (all_from l hl k (i + 1) (by omega) f (by omega) _ (by simp; omega)).trans ?_
      rw [allV_cons, hc]
      simp only [cond_true, List.append_assoc, List.cons_append, List.nil_append]
      rfl
theorem ok_all (l : List tItem.den) (hl : l.length < 1073741824) : (T_dup_All l).val = some (allV l) := by
  refine (val_opt (r := _) (all_from l hl l.length 0 (Nat.zero_add _) (l.length + 1) (Nat.lt_succ_self _) [] (Nat.zero_le _))).trans ?_
  rw [List.drop_zero, List.nil_append]
  rfl
def G_dup_All (x : dens A_dup_All) : Bool := decide (List.length x < 1073741824)
def V_dup_All (x : dens A_dup_All) : Sh.den S_dup_All := allV x
theorem ok_dup_All (x : dens A_dup_All) (h : G_dup_All x = true) : (T_dup_All x).val = some (V_dup_All x) := ok_all x (of_decide_eq_true h)
def L_hauberklaw28_DupSkips_5 : LoopN where
  M := [0, 1, 3, 6, 8, 9, 10]
  T := [26, 27, 28, 29, 30, 31, 32, 33, 34, 35, 36, 37, 38, 39, 40, 41, 42, 43, 44, 45, 46]
  D := [10]
  ss := [.ty (.sl tIns), .ty (.sl (.int .i64)), .ty (.int .i64), .box 0 0, .ty .bool, .osl 0 tItem, .ty (.int .i64)]
  hs := [.ty tState]
  es := [.exit 0, .ret]
  σ := (Ty.den .bool) × (List (Ty.den tItem)) × (Ty.den (.int .i64)) × (Sh.den (.ty tState))
  x0 := fun x y => (x.2.2.2.2.1, x.2.2.2.2.2.1, x.2.2.2.2.2.2, y)
  put := fun x _ s => ((x.1, x.2.1, x.2.2.1, x.2.2.2.1, s.1, s.2.1, s.2.2.1), s.2.2.2)
  fuel := fun x _ => List.length x.1+1
  turn := fun x _ s =>
  (.ite (decide (s.2.2.1 < lenI x.1))
   (.ite (inRange s.2.2.1 (List.length x.1) && true)
    (.ite (!V_dup_Safe (List.getD x.1 (Int.toNat s.2.2.1) (Ty.dflt tIns)))
     (.ret (.out 1 (true, s.2.1, s.2.2.1, s.2.2.2)))
     (.ite (inRange s.2.2.1 (List.length x.1))
      (.ite (Nat.ble ((List.length s.2.1 + List.length [(0, 0, List.getD x.1 (Int.toNat s.2.2.1) (Ty.dflt tIns), ())]) * 80) 140737488355328)
       (.ret (.on (s.1, s.2.1 ++ [(0, 0, List.getD x.1 (Int.toNat s.2.2.1) (Ty.dflt tIns), ())], w64 (s.2.2.1 + 1), s.2.2.2)))
       .fail)
      .fail))
    .fail)
   (.ret (.out 0 (s.1, s.2.1, s.2.2.1, s.2.2.2))))
def L_hauberklaw28_DupSkips_13 : LoopN where
  M := [0, 1, 3, 6, 11, 12, 13]
  T := [49, 50, 51, 52, 53, 54, 55, 56, 57, 58, 59, 60, 61, 62]
  D := [11, 13]
  ss := [.ty (.sl tIns), .ty (.sl (.int .i64)), .ty (.int .i64), .box 0 0, .ty (.sl tItem), .osl 0 tIns, .ty (.int .i64)]
  hs := [.ty tState]
  es := [.exit 2]
  σ := (List (Ty.den tIns)) × (Ty.den (.int .i64)) × (Sh.den (.ty tState))
  x0 := fun x y => (x.2.2.2.2.2.1, x.2.2.2.2.2.2, y)
  put := fun x _ s => ((x.1, x.2.1, x.2.2.1, x.2.2.2.1, x.2.2.2.2.1, s.1, s.2.1), s.2.2)
  fuel := fun x _ => List.length x.2.2.2.2.1+1
  turn := fun x _ s =>
  (.ite (decide (s.2.1 < lenI x.2.2.2.2.1))
   (.ite (inRange s.2.1 (List.length x.2.2.2.2.1))
    (.ite (Nat.ble ((List.length s.1 + List.length [(List.getD x.2.2.2.2.1 (Int.toNat s.2.1) (Ty.dflt tItem)).2.2.1]) * 64) 140737488355328)
     (.ret (.on (s.1 ++ [(List.getD x.2.2.2.2.1 (Int.toNat s.2.1) (Ty.dflt tItem)).2.2.1], w64 (s.2.1 + 1), s.2.2)))
     .fail)
    .fail)
   (.ret (.out 0 (s.1, s.2.1, s.2.2))))
def L_hauberklaw28_DupSkips_24 : LoopN where
  M := [8, 14, 15, 16, 18, 19, 20]
  T := [101, 102, 103, 104, 105, 106, 107, 108, 109, 110, 111, 112, 113, 114, 115]
  D := [20]
  ss := [.ty .bool, .box 0 0, .box 1 0, .box 2 0, .box 3 0, .ty .bool, .ty (.int .i64)]
  hs := [shMemT 0 4, shMemT 1 5, .ty tState, .ty tState, .rowc (.int .u8), .rowc (.int .u8)]
  es := [.exit 4, .ret]
  σ := (Ty.den .bool) × (Ty.den (.int .i64)) × (Sh.den (shMemT 0 4)) × (Sh.den (shMemT 1 5)) × (Sh.den (.ty tState)) × (Sh.den (.ty tState)) × (Sh.den (.rowc (.int .u8))) × (Sh.den (.rowc (.int .u8)))
  x0 := fun x y => (x.1, x.2.2.2.2.2.2, y.1, y.2.1, y.2.2.1, y.2.2.2.1, y.2.2.2.2.1, y.2.2.2.2.2)
  put := fun x _ s => ((s.1, x.2.1, x.2.2.1, x.2.2.2.1, x.2.2.2.2.1, x.2.2.2.2.2.1, s.2.1), (s.2.2.1, s.2.2.2.1, s.2.2.2.2.1, s.2.2.2.2.2.1, s.2.2.2.2.2.2.1, s.2.2.2.2.2.2.2))
  fuel := fun _ _ => 16
  turn := fun _ _ s =>
  (.ite (decide (s.2.1 < 15))
   (.ite (inRange s.2.1 15 && inRange s.2.1 15)
    (.ite (band IntKind.i64 (List.getD s.2.2.2.2.1.1 (Int.toNat s.2.1) (Ty.dflt (Ty.int IntKind.i64))) 4294967295 != band IntKind.i64 (List.getD s.2.2.2.2.2.1.1 (Int.toNat s.2.1) (Ty.dflt (Ty.int IntKind.i64))) 4294967295)
     (.ret (.out 1 (false, s.2.1, s.2.2.1, s.2.2.2.1, s.2.2.2.2.1, s.2.2.2.2.2.1, s.2.2.2.2.2.2.1, s.2.2.2.2.2.2.2)))
     (.ret (.on (s.1, w64 (s.2.1 + 1), s.2.2.1, s.2.2.2.1, s.2.2.2.2.1, s.2.2.2.2.2.1, s.2.2.2.2.2.2.1, s.2.2.2.2.2.2.2))))
    .fail)
   (.ret (.out 0 (s.1, s.2.1, s.2.2.1, s.2.2.2.1, s.2.2.2.2.1, s.2.2.2.2.2.1, s.2.2.2.2.2.2.1, s.2.2.2.2.2.2.2))))
def L_hauberklaw28_DupSkips_29 : LoopN where
  M := [8, 14, 15, 16, 18, 19, 21]
  T := [116, 117, 118, 119, 120, 121, 122, 123, 124, 125, 126]
  D := [14, 15, 21]
  ss := [.ty .bool, .box 0 0, .box 1 0, .box 2 0, .box 3 0, .ty .bool, .ty (.int .i64)]
  hs := [shMemT 0 4, shMemT 1 5, .ty tState, .ty tState, .rowc (.int .u8), .rowc (.int .u8)]
  es := [.exit 6, .ret]
  σ := (Ty.den .bool) × (Ty.den (.int .i64)) × (Sh.den (shMemT 0 4)) × (Sh.den (shMemT 1 5)) × (Sh.den (.ty tState)) × (Sh.den (.ty tState)) × (Sh.den (.rowc (.int .u8))) × (Sh.den (.rowc (.int .u8)))
  x0 := fun x y => (x.1, x.2.2.2.2.2.2, y.1, y.2.1, y.2.2.1, y.2.2.2.1, y.2.2.2.2.1, y.2.2.2.2.2)
  put := fun x _ s => ((s.1, x.2.1, x.2.2.1, x.2.2.2.1, x.2.2.2.2.1, x.2.2.2.2.2.1, s.2.1), (s.2.2.1, s.2.2.2.1, s.2.2.2.2.1, s.2.2.2.2.2.1, s.2.2.2.2.2.2.1, s.2.2.2.2.2.2.2))
  fuel := fun _ _ => 8
  turn := fun _ _ s =>
  (.ite (decide (s.2.1 < 7))
   (.ite (!(V_memory_Memory_Region ((), s.2.1) (s.2.2.1, s.2.2.2.2.2.2.1)).1.1 == (V_memory_Memory_Region ((), s.2.1) (s.2.2.2.1, s.2.2.2.2.2.2.2)).1.1)
    (.ret (.out 1 (false, s.2.1, (V_memory_Memory_Region ((), s.2.1) (s.2.2.1, s.2.2.2.2.2.2.1)).2.1, (V_memory_Memory_Region ((), s.2.1) (s.2.2.2.1, s.2.2.2.2.2.2.2)).2.1, s.2.2.2.2.1, s.2.2.2.2.2.1, (V_memory_Memory_Region ((), s.2.1) (s.2.2.1, s.2.2.2.2.2.2.1)).2.2, (V_memory_Memory_Region ((), s.2.1) (s.2.2.2.1, s.2.2.2.2.2.2.2)).2.2)))
    (.ret (.on (s.1, w64 (s.2.1 + 1), (V_memory_Memory_Region ((), s.2.1) (s.2.2.1, s.2.2.2.2.2.2.1)).2.1, (V_memory_Memory_Region ((), s.2.1) (s.2.2.2.1, s.2.2.2.2.2.2.2)).2.1, s.2.2.2.2.1, s.2.2.2.2.2.1, (V_memory_Memory_Region ((), s.2.1) (s.2.2.1, s.2.2.2.2.2.2.1)).2.2, (V_memory_Memory_Region ((), s.2.1) (s.2.2.2.1, s.2.2.2.2.2.2.2)).2.2))))
   (.ret (.out 0 (s.1, s.2.1, s.2.2.1, s.2.2.2.1, s.2.2.2.2.1, s.2.2.2.2.2.1, s.2.2.2.2.2.2.1, s.2.2.2.2.2.2.2))))
/-- hauberklaw28.DupSkips -/
abbrev A_hauberklaw28_DupSkips : List Ty := [(.sl tIns), (.sl (.int .i64)), tState, (.int .i64)]
abbrev S_hauberklaw28_DupSkips : Sh := Sh.ty Ty.bool
def T_hauberklaw28_DupSkips (x : dens A_hauberklaw28_DupSkips) : PO (Sh.den S_hauberklaw28_DupSkips) :=
  (.ite (decide (lenI x.1 > 60))
   (.ret (true))
   (.opt (LoopN.res L_hauberklaw28_DupSkips_5 (x.1, x.2.1, x.2.2.2, (), false, [], 0) x.2.2.1) fun p0 =>
    (.ite (way p0.1)
     (.ite (G_dup_All p0.2.2.1)
      (.opt (LoopN.res L_hauberklaw28_DupSkips_13 (x.1, x.2.1, x.2.2.2, (), V_dup_All p0.2.2.1, [], 0) p0.2.2.2.2) fun p1 =>
       (.ite (G_hauberklaw27_World (x.2.1, [48, 49, 50, 51, 52, 53, 54, 55, 56, 57, 97, 98, 99, 100, 101, 102]) ())
        (.ite (G_hauberklaw27_World (x.2.1, [48, 49, 50, 51, 52, 53, 54, 55, 56, 57, 97, 98, 99, 100, 101, 102]) ())
         (.ite (lenI p1.2.1 != w64 (2 * lenI x.1))
          (.ret (false))
          (.ite (G_hauberklaw27_Go ((), p1.2.2.2, x.1, 1, 0, 0, 0, 0, ()) (V_hauberklaw27_World (x.2.1, [48, 49, 50, 51, 52, 53, 54, 55, 56, 57, 97, 98, 99, 100, 101, 102]) ()).2)
           (.ite (!(V_hauberklaw27_Go ((), p1.2.2.2, x.1, 1, 0, 0, 0, 0, ()) (V_hauberklaw27_World (x.2.1, [48, 49, 50, 51, 52, 53, 54, 55, 56, 57, 97, 98, 99, 100, 101, 102]) ()).2).1.2.1)
            (.ret (true))
            (.ite (G_hauberklaw27_Go ((), p1.2.2.2, p1.2.1, 1, 1, x.2.2.2, 0, 0, ()) (V_hauberklaw27_World (x.2.1, [48, 49, 50, 51, 52, 53, 54, 55, 56, 57, 97, 98, 99, 100, 101, 102]) ()).2)
             (.opt (LoopN.res L_hauberklaw28_DupSkips_24 (p0.2.1, (), (), (), (), (V_hauberklaw27_Go ((), p1.2.2.2, p1.2.1, 1, 1, x.2.2.2, 0, 0, ()) (V_hauberklaw27_World (x.2.1, [48, 49, 50, 51, 52, 53, 54, 55, 56, 57, 97, 98, 99, 100, 101, 102]) ()).2).1.2.1, 0) ((V_hauberklaw27_Go ((), p1.2.2.2, x.1, 1, 0, 0, 0, 0, ()) (V_hauberklaw27_World (x.2.1, [48, 49, 50, 51, 52, 53, 54, 55, 56, 57, 97, 98, 99, 100, 101, 102]) ()).2).2.1, (V_hauberklaw27_Go ((), p1.2.2.2, p1.2.1, 1, 1, x.2.2.2, 0, 0, ()) (V_hauberklaw27_World (x.2.1, [48, 49, 50, 51, 52, 53, 54, 55, 56, 57, 97, 98, 99, 100, 101, 102]) ()).2).2.1, (V_hauberklaw27_Go ((), p1.2.2.2, x.1, 1, 0, 0, 0, 0, ()) (V_hauberklaw27_World (x.2.1, [48, 49, 50, 51, 52, 53, 54, 55, 56, 57, 97, 98, 99, 100, 101, 102]) ()).2).1.1, (V_hauberklaw27_Go ((), p1.2.2.2, p1.2.1, 1, 1, x.2.2.2, 0, 0, ()) (V_hauberklaw27_World (x.2.1, [48, 49, 50, 51, 52, 53, 54, 55, 56, 57, 97, 98, 99, 100, 101, 102]) ()).2).1.1, (V_hauberklaw27_Go ((), p1.2.2.2, x.1, 1, 0, 0, 0, 0, ()) (V_hauberklaw27_World (x.2.1, [48, 49, 50, 51, 52, 53, 54, 55, 56, 57, 97, 98, 99, 100, 101, 102]) ()).2).2.2, (V_hauberklaw27_Go ((), p1.2.2.2, p1.2.1, 1, 1, x.2.2.2, 0, 0, ()) (V_hauberklaw27_World (x.2.1, [48, 49, 50, 51, 52, 53, 54, 55, 56, 57, 97, 98, 99, 100, 101, 102]) ()).2).2.2)) fun p2 =>
              (.ite (way p2.1)
               (.opt (LoopN.res L_hauberklaw28_DupSkips_29 (p2.2.1, (), (), (), (), (V_hauberklaw27_Go ((), p1.2.2.2, p1.2.1, 1, 1, x.2.2.2, 0, 0, ()) (V_hauberklaw27_World (x.2.1, [48, 49, 50, 51, 52, 53, 54, 55, 56, 57, 97, 98, 99, 100, 101, 102]) ()).2).1.2.1, 0) p2.2.2.2) fun p3 =>
                (.ite (way p3.1)
                 (.ite (bif (V_hauberklaw27_Go ((), p1.2.2.2, p1.2.1, 1, 1, x.2.2.2, 0, 0, ()) (V_hauberklaw27_World (x.2.1, [48, 49, 50, 51, 52, 53, 54, 55, 56, 57, 97, 98, 99, 100, 101, 102]) ()).2).1.2.1 then bif p3.2.2.2.2.2.1.2.2.1 == p3.2.2.2.2.2.2.1.2.2.1 then bif p3.2.2.2.2.2.1.2.2.2.1 == p3.2.2.2.2.2.2.1.2.2.2.1 then bif p3.2.2.2.2.2.1.2.2.2.2.1 == p3.2.2.2.2.2.2.1.2.2.2.2.1 then p3.2.2.2.2.2.1.2.2.2.2.2.1 == p3.2.2.2.2.2.2.1.2.2.2.2.2.1 || true else true else true else true else true)
                  (.ret ((V_hauberklaw27_Go ((), p1.2.2.2, p1.2.1, 1, 1, x.2.2.2, 0, 0, ()) (V_hauberklaw27_World (x.2.1, [48, 49, 50, 51, 52, 53, 54, 55, 56, 57, 97, 98, 99, 100, 101, 102]) ()).2).1.2.1 && (p3.2.2.2.2.2.1.2.2.1 == p3.2.2.2.2.2.2.1.2.2.1 && (p3.2.2.2.2.2.1.2.2.2.1 == p3.2.2.2.2.2.2.1.2.2.2.1 && (p3.2.2.2.2.2.1.2.2.2.2.1 == p3.2.2.2.2.2.2.1.2.2.2.2.1 && (p3.2.2.2.2.2.1.2.2.2.2.2.1 == p3.2.2.2.2.2.2.1.2.2.2.2.2.1 && true))))))
                  .fail)
                 (.ret (p3.2.1))))
               (.ret (p2.2.1))))
             .fail))
           .fail))
         .fail)
        .fail))
      .fail)
     (.ret (p0.2.1)))))
end Go.Av
