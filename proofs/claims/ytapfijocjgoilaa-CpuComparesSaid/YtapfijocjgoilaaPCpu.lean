/- Layer 8: what an instruction does. -/
import Derived.Test.YtapfijocjgoilaaPRefSize
import Derived.Test.YtapfijocjgoilaaPRef01b
namespace Go.Av
open Go
/-- Registers, as words. -/
def wordR (l : List Int) : List Int := l.map fun n => (wn n : Int)
theorem wordR_len (l : List Int) : (wordR l).length = l.length := by simp [wordR]
def wordSt (l : List Int) (k : Nat) : List Int := (wordR l).take k ++ l.drop k
theorem wordSt_get (l : List Int) {k : Nat} (h : k < l.length) : (wordSt l k).getD k 0 = l[k] := by
  unfold wordSt
  have h1 : ((wordR l).take k).length = k := by rw [List.length_take, wordR_len]; omega
  rw [List.getD_eq_getElem?_getD, List.getElem?_append_right (by omega), h1, Nat.sub_self, List.getElem?_drop, Nat.add_zero, List.getElem?_eq_getElem h]
  rfl
theorem wordSt_step (l : List Int) {k : Nat} (h : k < l.length) : (wordSt l k).set k (wn l[k] : Int) = wordSt l (k + 1) := by
  unfold wordSt
  have h1 : ((wordR l).take k).length = k := by rw [List.length_take, wordR_len]; omega
  rw [List.set_append_right _ _ (by omega), h1, Nat.sub_self, List.drop_eq_getElem_cons h, List.set_cons_zero, List.take_succ_eq_append_getElem (by rw [wordR_len]; omega), List.append_assoc]
  simp [wordR]
theorem wordSt_end (l : List Int) {k : Nat} (h : l.length ≤ k) : wordSt l k = wordR l := by
  unfold wordSt
  rw [List.take_of_length_le (by rw [wordR_len]; omega), List.drop_of_length_le h, List.append_nil]
theorem wordSt_zero (l : List Int) : wordSt l 0 = l := by simp [wordSt]
/-- cpu.Holds -/
abbrev A_cpu_Holds : List Ty := [tState, (.int .i64)]
abbrev S_cpu_Holds : Sh := Sh.ty Ty.bool
def T_cpu_Holds (x : dens A_cpu_Holds) : PO (Sh.den S_cpu_Holds) :=
  (.ite (decide (x.2 < 0) || decide (x.2 > 13))
   (.ret (false))
   (.ret ((bif ishr IntKind.i64 x.2 1 == 0 then x.1.2.2.2.1 else bif ishr IntKind.i64 x.2 1 == 1 then x.1.2.2.2.2.1 else bif ishr IntKind.i64 x.2 1 == 2 then x.1.2.2.1 else bif ishr IntKind.i64 x.2 1 == 3 then x.1.2.2.2.2.2.1 else bif ishr IntKind.i64 x.2 1 == 4 then x.1.2.2.2.2.1 && !x.1.2.2.2.1 else bif ishr IntKind.i64 x.2 1 == 5 then x.1.2.2.1 == x.1.2.2.2.2.2.1 else ishr IntKind.i64 x.2 1 == 6 && (!x.1.2.2.2.1 && x.1.2.2.1 == x.1.2.2.2.2.2.1)) == (band IntKind.i64 x.2 1 == 0))))
def G_cpu_Holds (_ : dens A_cpu_Holds) : Bool := true
def V_cpu_Holds (x : dens A_cpu_Holds) : Sh.den S_cpu_Holds := (T_cpu_Holds x).getO default
theorem ok_cpu_Holds (x : dens A_cpu_Holds) (_ : G_cpu_Holds x = true) : (T_cpu_Holds x).val = some (V_cpu_Holds x) := PO.sure_ok default (by simp [T_cpu_Holds, PO.sure])
/-- hauberkref08.Holds -/
abbrev A_hauberkref08_Holds : List Ty := [tState, (.int .i64)]
abbrev S_hauberkref08_Holds : Sh := Sh.ty Ty.bool
def T_hauberkref08_Holds (x : dens A_hauberkref08_Holds) : PO (Sh.den S_hauberkref08_Holds) :=
  (.ite (x.2 == 0)
   (.ret (x.1.2.2.2.1))
   (.ite (x.2 == 1)
    (.ret (!x.1.2.2.2.1))
    (.ite (x.2 == 2)
     (.ret (x.1.2.2.2.2.1))
     (.ite (x.2 == 3)
      (.ret (!x.1.2.2.2.2.1))
      (.ite (x.2 == 4)
       (.ret (x.1.2.2.1))
       (.ite (x.2 == 5)
        (.ret (!x.1.2.2.1))
        (.ite (x.2 == 6)
         (.ret (x.1.2.2.2.2.2.1))
         (.ite (x.2 == 7)
          (.ret (!x.1.2.2.2.2.2.1))
          (.ite (x.2 == 8)
           (.ret (x.1.2.2.2.2.1 && !x.1.2.2.2.1))
           (.ite (x.2 == 9)
            (.ret (!x.1.2.2.2.2.1 || x.1.2.2.2.1))
            (.ite (x.2 == 10)
             (.ret (x.1.2.2.1 == x.1.2.2.2.2.2.1))
             (.ite (x.2 == 11)
              (.ret (!x.1.2.2.1 == x.1.2.2.2.2.2.1))
              (.ite (x.2 == 12)
               (.ret (!x.1.2.2.2.1 && x.1.2.2.1 == x.1.2.2.2.2.2.1))
               (.ite (x.2 == 13)
                (.ret (x.1.2.2.2.1 || !x.1.2.2.1 == x.1.2.2.2.2.2.1))
                (.ret (false))))))))))))))))
def G_hauberkref08_Holds (_ : dens A_hauberkref08_Holds) : Bool := true
def V_hauberkref08_Holds (x : dens A_hauberkref08_Holds) : Sh.den S_hauberkref08_Holds := (T_hauberkref08_Holds x).getO default
theorem ok_hauberkref08_Holds (x : dens A_hauberkref08_Holds) (_ : G_hauberkref08_Holds x = true) : (T_hauberkref08_Holds x).val = some (V_hauberkref08_Holds x) := PO.sure_ok default (by simp [T_hauberkref08_Holds, PO.sure])
/-- hauberkref08.Taken -/
abbrev A_hauberkref08_Taken : List Ty := [tState, tIns]
abbrev S_hauberkref08_Taken : Sh := Sh.ty Ty.bool
def T_hauberkref08_Taken (x : dens A_hauberkref08_Taken) : PO (Sh.den S_hauberkref08_Taken) :=
  (.ite (x.2.1 == 24 || (x.2.1 == 25 || true))
   (.ret (x.2.1 == 24 || x.2.1 == 25 && V_hauberkref08_Holds (x.1, x.2.2.2.2.2.2.2.1)))
   .fail)
def G_hauberkref08_Taken (_ : dens A_hauberkref08_Taken) : Bool := true
def V_hauberkref08_Taken (x : dens A_hauberkref08_Taken) : Sh.den S_hauberkref08_Taken := (T_hauberkref08_Taken x).getO default
theorem ok_hauberkref08_Taken (x : dens A_hauberkref08_Taken) (_ : G_hauberkref08_Taken x = true) : (T_hauberkref08_Taken x).val = some (V_hauberkref08_Taken x) := PO.tots_ok default (by simp [T_hauberkref08_Taken, PO.tots])
/-- cpu.goes -/
abbrev A_cpu_goes : List Ty := [tState, tIns]
abbrev S_cpu_goes : Sh := Sh.ty Ty.bool
def T_cpu_goes (x : dens A_cpu_goes) : PO (Sh.den S_cpu_goes) :=
  (.ite (x.2.1 == 24 || (x.2.1 == 25 || true))
   (.ret (x.2.1 == 24 || x.2.1 == 25 && V_cpu_Holds (x.1, x.2.2.2.2.2.2.2.1)))
   .fail)
def G_cpu_goes (_ : dens A_cpu_goes) : Bool := true
def V_cpu_goes (x : dens A_cpu_goes) : Sh.den S_cpu_goes := (T_cpu_goes x).getO default
theorem ok_cpu_goes (x : dens A_cpu_goes) (_ : G_cpu_goes x = true) : (T_cpu_goes x).val = some (V_cpu_goes x) := PO.tots_ok default (by simp [T_cpu_goes, PO.tots])
def L_cpu_words_2 : LoopN where
  M := [1, 2, 6, 7]
  T := [3, 4, 8, 9, 10, 11, 12, 13, 14, 15, 16]
  D := [6, 7]
  ss := [.box 0 0, .box 1 0, .ty (.arr 15 (.int .i64)), .ty (.int .i64)]
  hs := [.ty tState, .ty tState]
  es := [.exit 0]
  σ := (Ty.den (.int .i64)) × (Sh.den (.ty tState)) × (Sh.den (.ty tState))
  x0 := fun x y => (x.2.2.2, y.1, y.2)
  put := fun x _ s => ((x.1, x.2.1, x.2.2.1, s.1), (s.2.1, s.2.2))
  fuel := fun _ _ => 20
  turn := fun x _ s =>
  (.ite (decide (s.1 < 15))
   (.ite (inRange s.1 15)
    (.ite (inRange s.1 15)
     (.ret (.on (w64 (s.1 + 1), (List.set s.2.1.1 (Int.toNat s.1) (V_word_Wrap (List.getD x.2.2.1 (Int.toNat s.1) (Ty.dflt (Ty.int IntKind.i64)))), s.2.1.2), s.2.2)))
     .fail)
    .fail)
   (.ret (.out 0 (s.1, s.2.1, s.2.2))))
def L_hauberkref08_Words_2 : LoopN where
  M := [1, 2, 3]
  T := [4, 5, 6, 7, 8, 9, 10, 11, 12, 13, 14, 15]
  D := [3]
  ss := [.box 0 0, .box 1 0, .ty (.int .i64)]
  hs := [.ty tState, .ty tState]
  es := [.exit 0]
  σ := (Ty.den (.int .i64)) × (Sh.den (.ty tState)) × (Sh.den (.ty tState))
  x0 := fun x y => (x.2.2, y.1, y.2)
  put := fun x _ s => ((x.1, x.2.1, s.1), (s.2.1, s.2.2))
  fuel := fun _ _ => 20
  turn := fun _ _ s =>
  (.ite (decide (s.1 < 15))
   (.ite (inRange s.1 15)
    (.ite (inRange s.1 15)
     (.ret (.on (w64 (s.1 + 1), (List.set s.2.1.1 (Int.toNat s.1) (V_hauberkref01_Wrap (List.getD s.2.1.1 (Int.toNat s.1) (Ty.dflt (Ty.int IntKind.i64)))), s.2.1.2), s.2.2)))
     .fail)
    .fail)
   (.ret (.out 0 (s.1, s.2.1, s.2.2))))
/-- cpu.words -/
abbrev A_cpu_words : List Ty := [tState]
abbrev S_cpu_words : Sh := Sh.ty tState
def T_cpu_words (x : dens A_cpu_words) : PO (Sh.den S_cpu_words) :=
  (.opt (LoopN.res L_cpu_words_2 ((), (), x.1, 0) (x, [0, 0, 0, 0, 0, 0, 0, 0, 0, 0, 0, 0, 0, 0, 0], 0, false, false, false, false, ())) fun p0 =>
   (.ret ((p0.2.2.1.1, V_word_Wrap p0.2.2.1.2.1, p0.2.2.1.2.2))))
theorem words_run (r : List Int) (t u : tState.den) (hr : r.length = 15) (ht : t.1 = r) : runL (L_cpu_words_2.turn ((), (), r, 0) (t, u)) 20 (0, t, u) = some (0, 15, (wordR r, t.2), u) := by
  have key := runL_count (σ := Int × tState.den × tState.den) (turn := L_cpu_words_2.turn ((), (), r, 0) (t, u)) (fun i => ((i : Int), (wordSt r i, t.2), u)) (0, 15, (wordR r, t.2), u) (n := 15) (fun i hi => ?_) ?_ 15 0 (by omega) 20 (by omega)
  · simp only [wordSt_zero] at key
    rw [← ht] at key ⊢
    exact key
  · have h1 : decide ((i : Int) < 15) = true := dec_true (by omega)
    have hi' : i < r.length := by omega
    show (bif decide ((i : Int) < 15) then (bif inRange (i : Int) 15 then (bif inRange (i : Int) 15 then some (TL.on (w64 ((i : Int) + 1), ((wordSt r i).set (Int.toNat (i : Int)) (wn (r.getD (Int.toNat (i : Int)) 0) : Int), t.2), u)) else none) else none) else _) = _
    rw [h1, inR hi, Int.toNat_natCast, getD_in r _ hi', wordSt_step r hi', w64_id (by omega) (by omega)]
    rfl
  · show (bif decide (((15 : Nat) : Int) < 15) then _ else _) = _
    rw [dec_false (by omega), wordSt_end r (by omega)]
    rfl
def G_cpu_words (x : dens A_cpu_words) : Bool := decide (List.length x.1 = 15)
def V_cpu_words (x : dens A_cpu_words) : Sh.den S_cpu_words := (wordR x.1, (wn x.2.1 : Int), x.2.2)
theorem ok_cpu_words (x : dens A_cpu_words) (h : G_cpu_words x = true) : (T_cpu_words x).val = some (V_cpu_words x) := by
  have h15 : List.length x.1 = 15 := of_decide_eq_true h
  unfold T_cpu_words PO.val
  have : LoopN.res L_cpu_words_2 ((), (), x.1, 0) (x, [0, 0, 0, 0, 0, 0, 0, 0, 0, 0, 0, 0, 0, 0, 0], 0, false, false, false, false, ()) = some (0, (15 : Int), (wordR x.1, x.2), ([0, 0, 0, 0, 0, 0, 0, 0, 0, 0, 0, 0, 0, 0, 0], 0, false, false, false, false, ())) := words_run x.1 x _ h15 rfl
  rw [this]
  rfl
/-- hauberkref08.Words -/
abbrev A_hauberkref08_Words : List Ty := [tState]
abbrev S_hauberkref08_Words : Sh := Sh.ty tState
def T_hauberkref08_Words (x : dens A_hauberkref08_Words) : PO (Sh.den S_hauberkref08_Words) :=
  (.opt (LoopN.res L_hauberkref08_Words_2 ((), (), 0) (x, [0, 0, 0, 0, 0, 0, 0, 0, 0, 0, 0, 0, 0, 0, 0], 0, false, false, false, false, ())) fun p0 =>
   (.ret ((p0.2.2.1.1, V_hauberkref01_Wrap p0.2.2.1.2.1, p0.2.2.1.2.2))))
theorem ref_words_run (r : List Int) (t u : tState.den) (hr : r.length = 15) (ht : t.1 = r) : runL (L_hauberkref08_Words_2.turn ((), (), 0) (t, u)) 20 (0, t, u) = some (0, 15, (wordR r, t.2), u) := by
  have key := runL_count (σ := Int × tState.den × tState.den) (turn := L_hauberkref08_Words_2.turn ((), (), 0) (t, u)) (fun i => ((i : Int), (wordSt r i, t.2), u)) (0, 15, (wordR r, t.2), u) (n := 15) (fun i hi => ?_) ?_ 15 0 (by omega) 20 (by omega)
  · simp only [wordSt_zero] at key
    rw [← ht] at key ⊢
    exact key
  · have h1 : decide ((i : Int) < 15) = true := dec_true (by omega)
    have hi' : i < r.length := by omega
    show (bif decide ((i : Int) < 15) then (bif inRange (i : Int) 15 then (bif inRange (i : Int) 15 then some (TL.on (w64 ((i : Int) + 1), ((wordSt r i).set (Int.toNat (i : Int)) (wn ((wordSt r i).getD (Int.toNat (i : Int)) 0) : Int), t.2), u)) else none) else none) else _) = _
    rw [h1, inR hi, Int.toNat_natCast, wordSt_get r hi', wordSt_step r hi', w64_id (by omega) (by omega)]
    rfl
  · show (bif decide (((15 : Nat) : Int) < 15) then _ else _) = _
    rw [dec_false (by omega), wordSt_end r (by omega)]
    rfl
def G_hauberkref08_Words (x : dens A_hauberkref08_Words) : Bool := decide (List.length x.1 = 15)
def V_hauberkref08_Words (x : dens A_hauberkref08_Words) : Sh.den S_hauberkref08_Words := (wordR x.1, (wn x.2.1 : Int), x.2.2)
theorem ok_hauberkref08_Words (x : dens A_hauberkref08_Words) (h : G_hauberkref08_Words x = true) : (T_hauberkref08_Words x).val = some (V_hauberkref08_Words x) := by
  have h15 : List.length x.1 = 15 := of_decide_eq_true h
  unfold T_hauberkref08_Words PO.val
  have : LoopN.res L_hauberkref08_Words_2 ((), (), 0) (x, [0, 0, 0, 0, 0, 0, 0, 0, 0, 0, 0, 0, 0, 0, 0], 0, false, false, false, false, ()) = some (0, (15 : Int), (wordR x.1, x.2), ([0, 0, 0, 0, 0, 0, 0, 0, 0, 0, 0, 0, 0, 0, 0], 0, false, false, false, false, ())) := ref_words_run x.1 x _ h15 rfl
  rw [this]
  rfl
end Go.Av
