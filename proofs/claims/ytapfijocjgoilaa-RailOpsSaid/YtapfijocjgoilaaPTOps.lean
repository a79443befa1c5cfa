/- Layer 27: operations as instructions: what the functions compute. -/
import Derived.Test.YtapfijocjgoilaaPRailB
namespace Go.Av
open Go
/-- ir.formOf -/
abbrev A_ir_formOf : List Ty := [(.int .i64)]
abbrev S_ir_formOf : Sh := Sh.ty (Ty.pair Ty.bool tAccess)
def T_ir_formOf (x : dens A_ir_formOf) : PO (Sh.den S_ir_formOf) :=
  (.ite (x == 1)
   (.ret ((true, 0, 0, 4294967295, true, ())))
   (.ite (bif x == 2 then x == 2 else x == 10)
    (.ret ((true, 1, 0, 0, true, ())))
    (.ite (bif x == 3 then x == 3 else bif x == 4 then x == 4 else bif x == 5 then x == 5 else bif x == 6 then x == 6 else bif x == 7 then x == 7 else bif x == 8 then x == 8 else bif x == 9 then x == 9 else bif x == 14 then x == 14 else bif x == 15 then x == 15 else x == 16)
     (.ret ((true, 2, 0, 0, true, ())))
     (.ite (bif x == 11 then x == 11 else bif x == 12 then x == 12 else x == 13)
      (.ret ((true, 1, 0, 31, true, ())))
      (.ite (x == 17)
       (.ret ((true, 3, 0, 0, true, ())))
       (.ite (x == 18)
        (.ret ((true, 1, 0, 1048576, true, ())))
        (.ite (x == 19)
         (.ret ((false, 2, 0, 1048576, true, ())))
         (.ret ((false, 0, 0, 0, false, ()))))))))))
def G_ir_formOf (_ : dens A_ir_formOf) : Bool := true
def V_ir_formOf (x : dens A_ir_formOf) : Sh.den S_ir_formOf := (T_ir_formOf x).getO default
theorem ok_ir_formOf (x : dens A_ir_formOf) (_ : G_ir_formOf x = true) : (T_ir_formOf x).val = some (V_ir_formOf x) := PO.sure_ok default (by simp [T_ir_formOf, PO.sure])
/-- ir.Makes -/
abbrev A_ir_Makes : List Ty := [tOp]
abbrev S_ir_Makes : Sh := Sh.ty Ty.bool
def T_ir_Makes (x : dens A_ir_Makes) : PO (Sh.den S_ir_Makes) :=
  (.ret ((V_ir_formOf x.1).1))
def G_ir_Makes (_ : dens A_ir_Makes) : Bool := true
def V_ir_Makes (x : dens A_ir_Makes) : Sh.den S_ir_Makes := (T_ir_Makes x).getO default
theorem ok_ir_Makes (x : dens A_ir_Makes) (_ : G_ir_Makes x = true) : (T_ir_Makes x).val = some (V_ir_Makes x) := PO.sure_ok default (by simp [T_ir_Makes, PO.sure])
def srcOk (o : Option (Sh.den S_ir_formOf)) : Prop := 0 ≤ (o.getD default).2.1 ∧ (o.getD default).2.1 ≤ 3
theorem srcOk_cond {c : Bool} {a b : Option (Sh.den S_ir_formOf)} (h1 : srcOk a) (h2 : srcOk b) : srcOk (bif c then a else b) := by cases c <;> assumption
theorem form_ok (k : Int) : srcOk (T_ir_formOf k).val := by
  unfold T_ir_formOf
  simp only [PO.val]
  repeat' (first | refine srcOk_cond ?_ ?_ | exact ⟨by decide, by decide⟩)
theorem form_src (k : Int) : 0 ≤ (V_ir_formOf k).2.1 ∧ (V_ir_formOf k).2.1 ≤ 3 := form_ok k
/-- ir.Uses -/
abbrev A_ir_Uses : List Ty := [tOp]
abbrev S_ir_Uses : Sh := Sh.ty (Ty.sl (Ty.int IntKind.i64))
def T_ir_Uses (x : dens A_ir_Uses) : PO (Sh.den S_ir_Uses) :=
  (.ite (decide (0 ≤ (V_ir_formOf x.1).2.1) && decide ((V_ir_formOf x.1).2.1 ≤ 3) && true && decide (0 ≤ (V_ir_formOf x.1).2.1))
   (.ret (List.drop (Int.toNat 0) (List.take (Int.toNat (V_ir_formOf x.1).2.1) [x.2.2.1, x.2.2.2.1, x.2.2.2.2.1])))
   .fail)
def G_ir_Uses (_ : dens A_ir_Uses) : Bool := true
def V_ir_Uses (x : dens A_ir_Uses) : Sh.den S_ir_Uses := List.take (Int.toNat (V_ir_formOf x.1).2.1) [x.2.2.1, x.2.2.2.1, x.2.2.2.2.1]
theorem ok_ir_Uses (x : dens A_ir_Uses) (_ : G_ir_Uses x = true) : (T_ir_Uses x).val = some (V_ir_Uses x) := by
  obtain ⟨h1, h2⟩ := form_src x.1
  unfold T_ir_Uses PO.val
  rw [dec_true h1, dec_true h2]
  rfl
/-- hauberkref17.letters -/
abbrev A_hauberkref17_letters : List Ty := [(.int .i64)]
abbrev S_hauberkref17_letters : Sh := Sh.ty Ty.str
def T_hauberkref17_letters (x : dens A_hauberkref17_letters) : PO (Sh.den S_hauberkref17_letters) :=
  (.ite (decide (x < 1) || decide (x > 19))
   (.ret ([]))
   (.ite (inRange x 20)
    (.ret (List.getD [[], [100, 110], [100, 97], [100, 97, 98], [100, 97, 98], [100, 97, 98], [100, 97, 98], [100, 97, 98], [100, 97, 98], [100, 97, 98], [100, 97], [100, 97, 115], [100, 97, 115], [100, 97, 115], [100, 97, 98], [100, 97, 98], [100, 97, 98], [100, 97, 98, 99], [100, 97, 114], [97, 98, 114]] (Int.toNat x) (Ty.dflt Ty.str)))
    .fail))
def G_hauberkref17_letters (_ : dens A_hauberkref17_letters) : Bool := true
def V_hauberkref17_letters (x : dens A_hauberkref17_letters) : Sh.den S_hauberkref17_letters := (T_hauberkref17_letters x).getO default
theorem letters_T (x : Int) : (T_hauberkref17_letters x).val = some (V_hauberkref17_letters x) := by
  refine PO.getO_ok default ?_
  unfold T_hauberkref17_letters PO.val
  by_cases h : x < 1 ∨ x > 19
  · have : (decide (x < 1) || decide (x > 19)) = true := by rw [Bool.or_eq_true, decide_eq_true_eq, decide_eq_true_eq]; exact h
    rw [this]
    rfl
  · have : (decide (x < 1) || decide (x > 19)) = false := by rw [Bool.or_eq_false_iff, decide_eq_false_iff_not, decide_eq_false_iff_not]; omega
    have h2 : inRange x 20 = true := by
      unfold inRange
      rw [dec_true (p := 0 ≤ x) (by omega), dec_true (p := x < (20 : Nat)) (by omega)]
      rfl
    rw [this]
    dsimp only [cond_false, PO.val]
    rw [h2]
    rfl
theorem ok_hauberkref17_letters (x : dens A_hauberkref17_letters) (_ : G_hauberkref17_letters x = true) : (T_hauberkref17_letters x).val = some (V_hauberkref17_letters x) := letters_T x
def L_hauberkref17_has_2 : LoopN where
  M := [0, 1, 4, 5]
  T := [6, 7, 8, 9, 10, 11, 12, 13, 14, 15, 16]
  D := [0, 1, 5]
  ss := [.ty .str, .ty (.int .u8), .ty .bool, .ty (.int .i64)]
  hs := []
  es := [.exit 0, .ret]
  σ := (Ty.den .bool) × (Ty.den (.int .i64))
  x0 := fun x _ => (x.2.2.1, x.2.2.2)
  put := fun x _ s => ((x.1, x.2.1, s.1, s.2), ())
  fuel := fun x _ => List.length x.1 + 1
  turn := fun x _ s =>
  (.ite (decide (s.2 < lenI x.1))
   (.ite (inRange s.2 (List.length x.1))
    (.ite (u8I (List.getD x.1 (Int.toNat s.2) 0) == x.2.1)
     (.ret (.out 1 (true, s.2)))
     (.ret (.on (s.1, w64 (s.2 + 1)))))
    .fail)
   (.ret (.out 0 (s.1, s.2))))
/-- hauberkref17.has -/
abbrev A_hauberkref17_has : List Ty := [.str, (.int .u8)]
abbrev S_hauberkref17_has : Sh := Sh.ty Ty.bool
def T_hauberkref17_has (x : dens A_hauberkref17_has) : PO (Sh.den S_hauberkref17_has) :=
  (.opt (LoopN.res L_hauberkref17_has_2 (x.1, x.2, false, 0) ()) fun p0 =>
   (.ite (way p0.1)
    (.ret (false))
    (.ret (p0.2.1))))
def G_hauberkref17_has (x : dens A_hauberkref17_has) : Bool := decide (List.length x.1 < 4611686018427387904)
def V_hauberkref17_has (x : dens A_hauberkref17_has) : Sh.den S_hauberkref17_has := List.any x.1 fun b => u8I b == x.2
theorem ok_hauberkref17_has (x : dens A_hauberkref17_has) (h : G_hauberkref17_has x = true) : (T_hauberkref17_has x).val = some (V_hauberkref17_has x) := by
  obtain ⟨s, c⟩ := x
  have hs : List.length s < 4611686018427387904 := of_decide_eq_true h
  obtain ⟨o, st, h1, h2⟩ := has_run s c (L_hauberkref17_has_2.turn (s, c, false, 0) ()) (fun _ => rfl) hs
  have h1' : LoopN.res L_hauberkref17_has_2 (s, c, false, 0) () = some (o, st) := h1
  unfold T_hauberkref17_has PO.val
  rw [h1']
  exact h2
/-- hauberkref17.Uses -/
abbrev A_hauberkref17_Uses : List Ty := [tOp]
abbrev S_hauberkref17_Uses : Sh := Sh.osl 32 (Ty.int IntKind.i64)
def T_hauberkref17_Uses (x : dens A_hauberkref17_Uses) : PO (Sh.den S_hauberkref17_Uses) :=
  (.ite (G_hauberkref17_has (V_hauberkref17_letters x.1, 97))
   (.ite (V_hauberkref17_has (V_hauberkref17_letters x.1, 97))
    (.ite (G_hauberkref17_has (V_hauberkref17_letters x.1, 98))
     (.ite (V_hauberkref17_has (V_hauberkref17_letters x.1, 98))
      (.ite (G_hauberkref17_has (V_hauberkref17_letters x.1, 99))
       (.ite (V_hauberkref17_has (V_hauberkref17_letters x.1, 99))
        (.ret ([x.2.2.1, x.2.2.2.1, x.2.2.2.2.1]))
        (.ret ([x.2.2.1, x.2.2.2.1])))
       .fail)
      (.ite (G_hauberkref17_has (V_hauberkref17_letters x.1, 99))
       (.ite (V_hauberkref17_has (V_hauberkref17_letters x.1, 99))
        (.ret ([x.2.2.1, x.2.2.2.2.1]))
        (.ret ([x.2.2.1])))
       .fail))
     .fail)
    (.ite (G_hauberkref17_has (V_hauberkref17_letters x.1, 98))
     (.ite (V_hauberkref17_has (V_hauberkref17_letters x.1, 98))
      (.ite (G_hauberkref17_has (V_hauberkref17_letters x.1, 99))
       (.ite (V_hauberkref17_has (V_hauberkref17_letters x.1, 99))
        (.ret ([x.2.2.2.1, x.2.2.2.2.1]))
        (.ret ([x.2.2.2.1])))
       .fail)
      (.ite (G_hauberkref17_has (V_hauberkref17_letters x.1, 99))
       (.ite (V_hauberkref17_has (V_hauberkref17_letters x.1, 99))
        (.ret ([x.2.2.2.2.1]))
        (.ret ([])))
       .fail))
     .fail))
   .fail)
def G_hauberkref17_Uses (x : dens A_hauberkref17_Uses) : Bool := (T_hauberkref17_Uses x).val.isSome
def V_hauberkref17_Uses (x : dens A_hauberkref17_Uses) : Sh.den S_hauberkref17_Uses := (T_hauberkref17_Uses x).getO default
theorem ok_hauberkref17_Uses (x : dens A_hauberkref17_Uses) (h : G_hauberkref17_Uses x = true) : (T_hauberkref17_Uses x).val = some (V_hauberkref17_Uses x) := PO.getO_ok default h
/-- hauberkref17.Makes -/
abbrev A_hauberkref17_Makes : List Ty := [tOp]
abbrev S_hauberkref17_Makes : Sh := Sh.ty Ty.bool
def T_hauberkref17_Makes (x : dens A_hauberkref17_Makes) : PO (Sh.den S_hauberkref17_Makes) :=
  (.ite (G_hauberkref17_has (V_hauberkref17_letters x.1, 100))
   (.ret (V_hauberkref17_has (V_hauberkref17_letters x.1, 100)))
   .fail)
def G_hauberkref17_Makes (x : dens A_hauberkref17_Makes) : Bool := (T_hauberkref17_Makes x).val.isSome
def V_hauberkref17_Makes (x : dens A_hauberkref17_Makes) : Sh.den S_hauberkref17_Makes := (T_hauberkref17_Makes x).getO default
theorem ok_hauberkref17_Makes (x : dens A_hauberkref17_Makes) (h : G_hauberkref17_Makes x = true) : (T_hauberkref17_Makes x).val = some (V_hauberkref17_Makes x) := PO.getO_ok default h
/-- A word of a rail, out of register d. -/
def putI (x : Int × Int × Int) : List tIns.den := [movw 7 x.1, insI 4 7 0 0 0 (bif x.2.1 == 0 then 8196 else 8200) 0, (20, x.2.2, 7, 0, 0, 0, 0, false, ())]
/-- tmpl.Put -/
abbrev A_tmpl_Put : List Ty := [(.int .i64), (.int .i64), (.int .i64)]
abbrev S_tmpl_Put : Sh := Sh.osl 32 tIns
def T_tmpl_Put (x : dens A_tmpl_Put) : PO (Sh.den S_tmpl_Put) :=
  (.ite (!V_tmpl_fits (x.1, x.2.1, x.2.2))
   (.ret ([]))
   (.ite (Nat.ble ((List.length (V_tmpl_Word (7, w64 (V_memmap_Rail x.2.1 + x.1))) + List.length [(20, x.2.2, 7, 0, 0, 0, 0, false, ())]) * 64) 140737488355328)
    (.ret (V_tmpl_Word (7, w64 (V_memmap_Rail x.2.1 + x.1)) ++ [(20, x.2.2, 7, 0, 0, 0, 0, false, ())]))
    .fail))
def G_tmpl_Put (x : dens A_tmpl_Put) : Bool := getG x
def V_tmpl_Put (x : dens A_tmpl_Put) : List tIns.den := putI x
theorem put_ok' (a r d : Int) (h : getG (a, r, d) = true) : (T_tmpl_Put (a, r, d)).val = some (putI (a, r, d)) := by
  simp only [getG, Bool.and_eq_true, decide_eq_true_eq] at h
  obtain ⟨h1, h2, h3, h4, h5, h6⟩ := h
  have hr : r = 0 ∨ r = 1 := by omega
  have e : ∀ b : Int, 0 ≤ b → b < 65536 → lo false (b * 65536 + a) = a ∧ hi false (b * 65536 + a) = b := by
    intro b hb1 hb2
    simp only [lo, hi]
    rw [ishr_16, band_16, band_16]
    omega
  have w : ∀ b : Int, b = 537133056 ∨ b = 537395200 → w64 (b + a) = b + a := fun b hb => w64_id (by omega) (by omega)
  have d1 : decide (a ≥ 0) = true := dec_true h1
  have d2 : decide (a ≤ 65535) = true := dec_true h2
  have d3 : decide (d ≥ 0) = true := dec_true h5
  have d4 : decide (d ≤ 7) = true := dec_true h6
  rcases hr with rfl | rfl
  · have e1 := e 8196 (by omega) (by omega)
    have hf : V_tmpl_fits (a, 0, d) = true := by simp [V_tmpl_fits, T_tmpl_fits, PO.getO, PO.val, d1, d2, d3, d4]
    have hm : V_memmap_Rail 0 = 537133056 := rfl
    have hw : V_tmpl_Word (7, 537133056 + a) = [movw 7 a, insI 4 7 0 0 0 8196 0] := by
      show wordI false 7 (8196 * 65536 + a) = _
      simp only [wordI, e1.1, e1.2]
    simp only [T_tmpl_Put, hf, hm, w _ (Or.inl rfl), hw]
    rfl
  · have e1 := e 8200 (by omega) (by omega)
    have hf : V_tmpl_fits (a, 1, d) = true := by simp [V_tmpl_fits, T_tmpl_fits, PO.getO, PO.val, d1, d2, d3, d4]
    have hm : V_memmap_Rail 1 = 537395200 := rfl
    have hw : V_tmpl_Word (7, 537395200 + a) = [movw 7 a, insI 4 7 0 0 0 8200 0] := by
      show wordI false 7 (8200 * 65536 + a) = _
      simp only [wordI, e1.1, e1.2]
    simp only [T_tmpl_Put, hf, hm, w _ (Or.inr rfl), hw]
    rfl
theorem ok_tmpl_Put (x : dens A_tmpl_Put) (h : G_tmpl_Put x = true) : (T_tmpl_Put x).val = some (V_tmpl_Put x) := put_ok' x.1 x.2.1 x.2.2 h
/-- tmpl.temp -/
abbrev A_tmpl_temp : List Ty := [(.int .i64)]
abbrev S_tmpl_temp : Sh := Sh.ty Ty.bool
def T_tmpl_temp (x : dens A_tmpl_temp) : PO (Sh.den S_tmpl_temp) :=
  (.ret (decide (x ≥ 0) && decide (x < 16383)))
def G_tmpl_temp (_ : dens A_tmpl_temp) : Bool := true
def V_tmpl_temp (x : dens A_tmpl_temp) : Sh.den S_tmpl_temp := (T_tmpl_temp x).getO default
theorem ok_tmpl_temp (x : dens A_tmpl_temp) (_ : G_tmpl_temp x = true) : (T_tmpl_temp x).val = some (V_tmpl_temp x) := PO.sure_ok default (by simp [T_tmpl_temp, PO.sure])
/-- tmpl.spot -/
abbrev A_tmpl_spot : List Ty := [tOp, tSpot]
abbrev S_tmpl_spot : Sh := Sh.ty Ty.bool
def T_tmpl_spot (x : dens A_tmpl_spot) : PO (Sh.den S_tmpl_spot) :=
  (.ret (bif x.2.1 == 1 then decide (x.2.2.1 ≥ 0) && (decide (x.2.2.1 ≤ 65535) && bif x.2.2.2.1 then !x.1.1 == 19 else true) else x.2.1 == 4 && (decide (x.2.2.1 ≥ 0) && (decide (x.2.2.1 ≤ 65535) && bif x.2.2.2.1 then !x.1.1 == 19 else true))))
def G_tmpl_spot (_ : dens A_tmpl_spot) : Bool := true
def V_tmpl_spot (x : dens A_tmpl_spot) : Sh.den S_tmpl_spot := (T_tmpl_spot x).getO default
theorem ok_tmpl_spot (x : dens A_tmpl_spot) (_ : G_tmpl_spot x = true) : (T_tmpl_spot x).val = some (V_tmpl_spot x) := PO.sure_ok default (by simp [T_tmpl_spot, PO.sure])
/-- tmpl.pairs -/
abbrev A_tmpl_pairs : List Ty := [(.int .i64)]
abbrev S_tmpl_pairs : Sh := Sh.ty (Ty.int IntKind.i64)
def T_tmpl_pairs (x : dens A_tmpl_pairs) : PO (Sh.den S_tmpl_pairs) :=
  (.ite (x == 3)
   (.ret (14))
   (.ite (x == 4)
    (.ret (15))
    (.ite (x == 5)
     (.ret (16))
     (.ite (x == 7)
      (.ret (10))
      (.ite (x == 8)
       (.ret (12))
       (.ite (x == 9)
        (.ret (13))
        (.ret (0))))))))
def G_tmpl_pairs (_ : dens A_tmpl_pairs) : Bool := true
def V_tmpl_pairs (x : dens A_tmpl_pairs) : Sh.den S_tmpl_pairs := (T_tmpl_pairs x).getO default
theorem ok_tmpl_pairs (x : dens A_tmpl_pairs) (_ : G_tmpl_pairs x = true) : (T_tmpl_pairs x).val = some (V_tmpl_pairs x) := PO.sure_ok default (by simp [T_tmpl_pairs, PO.sure])
/-- tmpl.three -/
abbrev A_tmpl_three : List Ty := [(.int .i64), (.int .i64), (.int .i64), (.int .i64)]
abbrev S_tmpl_three : Sh := Sh.ty tIns
def T_tmpl_three (x : dens A_tmpl_three) : PO (Sh.den S_tmpl_three) :=
  (.ret ((x.1, x.2.1, x.2.2.1, x.2.2.2, 0, 0, 0, false, ())))
def G_tmpl_three (_ : dens A_tmpl_three) : Bool := true
def V_tmpl_three (x : dens A_tmpl_three) : Sh.den S_tmpl_three := (T_tmpl_three x).getO default
theorem ok_tmpl_three (x : dens A_tmpl_three) (_ : G_tmpl_three x = true) : (T_tmpl_three x).val = some (V_tmpl_three x) := PO.sure_ok default (by simp [T_tmpl_three, PO.sure])
/-- tmpl.shift -/
abbrev A_tmpl_shift : List Ty := [(.int .i64), (.int .i64), (.int .i64), (.int .i64)]
abbrev S_tmpl_shift : Sh := Sh.ty tIns
def T_tmpl_shift (x : dens A_tmpl_shift) : PO (Sh.den S_tmpl_shift) :=
  (.ret ((bif x.2.2.2 == 0 then 5 else x.1, x.2.1, 0, x.2.2.1, 0, x.2.2.2, 0, false, ())))
def G_tmpl_shift (_ : dens A_tmpl_shift) : Bool := true
def V_tmpl_shift (x : dens A_tmpl_shift) : Sh.den S_tmpl_shift := (T_tmpl_shift x).getO default
theorem ok_tmpl_shift (x : dens A_tmpl_shift) (_ : G_tmpl_shift x = true) : (T_tmpl_shift x).val = some (V_tmpl_shift x) := PO.sure_ok default (by simp [T_tmpl_shift, PO.sure])
/-- tmpl.array -/
abbrev A_tmpl_array : List Ty := [tOp, tSpot, (.int .i64)]
abbrev S_tmpl_array : Sh := Sh.osl 32 tIns
def T_tmpl_array (x : dens A_tmpl_array) : PO (Sh.den S_tmpl_array) :=
  (.ite (x.1.1 == 19)
   (.ite (x.2.1.1 == 1)
    (.ret ([V_tmpl_shift (5, 4, 0, bif x.2.1.1 == 4 then 2 else 0), (3, 5, 0, 0, 0, x.2.1.2.1, 0, false, ()), V_tmpl_three (14, 6, 4, 5), (3, 5, 0, 0, 0, 0, 0, false, ()), (4, 5, 0, 0, 0, ishr IntKind.i64 (bif x.2.1.2.2.1 then 536936448 else V_memmap_Rail x.2.2) 16, 0, false, ()), (18, 5, 6, 0, 16, 0, 0, false, ()), (22, 1, 5, 0, 0, 0, 0, false, ())]))
    (.ret ([V_tmpl_shift (5, 4, 0, bif x.2.1.1 == 4 then 2 else 0), (3, 5, 0, 0, 0, x.2.1.2.1, 0, false, ()), V_tmpl_three (14, 6, 4, 5), (3, 5, 0, 0, 0, 0, 0, false, ()), (4, 5, 0, 0, 0, ishr IntKind.i64 (bif x.2.1.2.2.1 then 536936448 else V_memmap_Rail x.2.2) 16, 0, false, ()), (18, 5, 6, 0, 16, 0, 0, false, ()), (20, 1, 5, 0, 0, 0, 0, false, ())])))
   (.ite (x.2.1.1 == 1)
    (.ret ([V_tmpl_shift (5, 4, 0, bif x.2.1.1 == 4 then 2 else 0), (3, 5, 0, 0, 0, x.2.1.2.1, 0, false, ()), V_tmpl_three (14, 6, 4, 5), (3, 5, 0, 0, 0, 0, 0, false, ()), (4, 5, 0, 0, 0, ishr IntKind.i64 (bif x.2.1.2.2.1 then 536936448 else V_memmap_Rail x.2.2) 16, 0, false, ()), (18, 5, 6, 0, 16, 0, 0, false, ()), (21, 3, 5, 0, 0, 0, 0, false, ())]))
    (.ret ([V_tmpl_shift (5, 4, 0, bif x.2.1.1 == 4 then 2 else 0), (3, 5, 0, 0, 0, x.2.1.2.1, 0, false, ()), V_tmpl_three (14, 6, 4, 5), (3, 5, 0, 0, 0, 0, 0, false, ()), (4, 5, 0, 0, 0, ishr IntKind.i64 (bif x.2.1.2.2.1 then 536936448 else V_memmap_Rail x.2.2) 16, 0, false, ()), (18, 5, 6, 0, 16, 0, 0, false, ()), (19, 3, 5, 0, 0, 0, 0, false, ())]))))
def G_tmpl_array (_ : dens A_tmpl_array) : Bool := true
def V_tmpl_array (x : dens A_tmpl_array) : Sh.den S_tmpl_array := (T_tmpl_array x).getO default
theorem ok_tmpl_array (x : dens A_tmpl_array) (_ : G_tmpl_array x = true) : (T_tmpl_array x).val = some (V_tmpl_array x) := PO.sure_ok default (by simp [T_tmpl_array, PO.sure])
/-- tmpl.inner -/
abbrev A_tmpl_inner : List Ty := [tOp, tSpot, (.int .i64)]
abbrev S_tmpl_inner : Sh := Sh.osl 32 tIns
def T_tmpl_inner (x : dens A_tmpl_inner) : PO (Sh.den S_tmpl_inner) :=
  (.ite (x.1.1 == 1)
   (.ret (V_tmpl_Word (3, x.1.2.2.2.2.2.1)))
   (.ite (x.1.1 == 2)
    (.ret ([V_tmpl_shift (5, 3, 0, 0)]))
    (.ite (x.1.1 == 6)
     (.ret ([(17, 4, 0, 1, 3, 0, 0, false, ())]))
     (.ite (x.1.1 == 10)
      (.ret ([(9, 3, 0, 0, 0, 0, 0, false, ())]))
      (.ite (x.1.1 == 11)
       (.ret ([V_tmpl_shift (5, 3, 0, x.1.2.2.2.2.2.1)]))
       (.ite (x.1.1 == 12)
        (.ret ([V_tmpl_shift (6, 3, 0, x.1.2.2.2.2.2.1)]))
        (.ite (x.1.1 == 13)
         (.ret ([V_tmpl_shift (8, 3, 0, x.1.2.2.2.2.2.1)]))
         (.ite (x.1.1 == 14)
          (.ret ([V_tmpl_three (11, 4, 1, 0), (9, 5, 0, 0, 0, 0, 0, false, ()), V_tmpl_three (12, 6, 5, 1), V_tmpl_three (15, 5, 0, 1), V_tmpl_three (10, 2, 6, 5), V_tmpl_three (12, 6, 4, 2), V_tmpl_shift (7, 3, 6, 31)]))
          (.ite (x.1.1 == 15)
           (.ret ([V_tmpl_three (13, 4, 0, 1), (3, 5, 0, 0, 0, 0, 0, false, ()), V_tmpl_three (15, 6, 5, 4), V_tmpl_three (12, 2, 4, 6), V_tmpl_shift (6, 4, 2, 31), (3, 5, 0, 0, 0, 1, 0, false, ()), V_tmpl_three (15, 3, 4, 5)]))
           (.ite (x.1.1 == 16)
            (.ret ([V_tmpl_three (10, 4, 0, 1), V_tmpl_three (14, 5, 0, 1), V_tmpl_three (12, 6, 0, 1), V_tmpl_three (11, 2, 6, 5), V_tmpl_three (12, 6, 4, 2), V_tmpl_shift (6, 3, 6, 31)]))
            (.ite (x.1.1 == 17)
             (.ret ([V_tmpl_three (10, 4, 0, 2), V_tmpl_three (11, 5, 1, 2), V_tmpl_three (12, 3, 4, 5)]))
             (.ite (bif x.1.1 == 18 then x.1.1 == 18 else x.1.1 == 19)
              (.ret (V_tmpl_array (x.1, x.2.1, x.2.2)))
              (.ret ([V_tmpl_three (V_tmpl_pairs x.1.1, 3, 0, 1)]))))))))))))))
def G_tmpl_inner (_ : dens A_tmpl_inner) : Bool := true
def V_tmpl_inner (x : dens A_tmpl_inner) : Sh.den S_tmpl_inner := (T_tmpl_inner x).getO default
theorem ok_tmpl_inner (x : dens A_tmpl_inner) (_ : G_tmpl_inner x = true) : (T_tmpl_inner x).val = some (V_tmpl_inner x) := PO.sure_ok default (by simp [T_tmpl_inner, PO.sure])
/-- hauberkref27.op -/
abbrev A_hauberkref27_op : List Ty := [.str]
abbrev S_hauberkref27_op : Sh := Sh.ty (Ty.int IntKind.i64)
def T_hauberkref27_op (x : dens A_hauberkref27_op) : PO (Sh.den S_hauberkref27_op) :=
  (.ite ([108, 115, 108] == x)
   (.ret (5))
   (.ite ([108, 115, 114] == x)
    (.ret (6))
    (.ite ([97, 115, 114] == x)
     (.ret (7))
     (.ite ([114, 111, 114] == x)
      (.ret (8))
      (.ite ([109, 118, 110] == x)
       (.ret (9))
       (.ite ([97, 110, 100] == x)
        (.ret (10))
        (.ite ([98, 105, 99] == x)
         (.ret (11))
         (.ite ([111, 114, 114] == x)
          (.ret (12))
          (.ite ([101, 111, 114] == x)
           (.ret (13))
           (.ite ([97, 100, 100] == x)
            (.ret (14))
            (.ite ([115, 117, 98] == x)
             (.ret (15))
             (.ite ([109, 117, 108] == x)
              (.ret (16))
              (.ite ([109, 111, 118, 119] == x)
               (.ret (3))
               (.ret (0)))))))))))))))
def G_hauberkref27_op (_ : dens A_hauberkref27_op) : Bool := true
def V_hauberkref27_op (x : dens A_hauberkref27_op) : Sh.den S_hauberkref27_op := (T_hauberkref27_op x).getO default
theorem ok_hauberkref27_op (x : dens A_hauberkref27_op) (_ : G_hauberkref27_op x = true) : (T_hauberkref27_op x).val = some (V_hauberkref27_op x) := PO.sure_ok default (by simp [T_hauberkref27_op, PO.sure])
def L_hauberkref27_one_7 : LoopN where
  M := [0, 1, 4, 5, 6, 7, 8]
  T := [20, 21, 22, 23, 24, 25, 26, 27, 28, 29, 30, 31, 32, 33, 34, 35, 36, 37, 38, 39, 40, 41, 42, 43, 44, 45, 46, 47, 48, 49, 50, 51, 52, 53, 54, 55]
  D := [8]
  ss := [.ty (.sl .str), .ty (.int .i64), .box 0 0, .box 1 0, .ty (.int .i64), .ty (.int .i64), .ty (.int .i64)]
  hs := [.ty tIns, .ty tIns]
  es := [.exit 2]
  σ := (Ty.den (.int .i64)) × (Ty.den (.int .i64)) × (Sh.den (.ty tIns)) × (Sh.den (.ty tIns))
  x0 := fun x y => (x.2.2.2.2.2.1, x.2.2.2.2.2.2, y.1, y.2)
  put := fun x _ s => ((x.1, x.2.1, x.2.2.1, x.2.2.2.1, x.2.2.2.2.1, s.1, s.2.1), (s.2.2.1, s.2.2.2))
  fuel := fun _ _ => 40
  turn := fun x _ s =>
  (.ite (inRange x.2.2.2.2.1 (List.length x.1))
   (.ite (decide (s.2.1 < lenI (List.getD x.1 (Int.toNat x.2.2.2.2.1) (Ty.dflt Ty.str))))
    (.ite (inRange x.2.2.2.2.1 (List.length x.1) && (inRange s.2.1 (List.length (List.getD x.1 (Int.toNat x.2.2.2.2.1) (Ty.dflt Ty.str))) && bif decide (u8I (List.getD (List.getD x.1 (Int.toNat x.2.2.2.2.1) (Ty.dflt Ty.str)) (Int.toNat s.2.1) 0) ≥ 48) then inRange x.2.2.2.2.1 (List.length x.1) && inRange s.2.1 (List.length (List.getD x.1 (Int.toNat x.2.2.2.2.1) (Ty.dflt Ty.str))) else true))
     (.ite (bif decide (u8I (List.getD (List.getD x.1 (Int.toNat x.2.2.2.2.1) (Ty.dflt Ty.str)) (Int.toNat s.2.1) 0) ≥ 48) && decide (u8I (List.getD (List.getD x.1 (Int.toNat x.2.2.2.2.1) (Ty.dflt Ty.str)) (Int.toNat s.2.1) 0) ≤ 57) then inRange x.2.2.2.2.1 (List.length x.1) && inRange s.2.1 (List.length (List.getD x.1 (Int.toNat x.2.2.2.2.1) (Ty.dflt Ty.str))) else true)
      (.ret (.on (bif decide (u8I (List.getD (List.getD x.1 (Int.toNat x.2.2.2.2.1) (Ty.dflt Ty.str)) (Int.toNat s.2.1) 0) ≥ 48) && decide (u8I (List.getD (List.getD x.1 (Int.toNat x.2.2.2.2.1) (Ty.dflt Ty.str)) (Int.toNat s.2.1) 0) ≤ 57) then w64 (w64 (10 * s.1) + w64 (IntKind.wrap IntKind.u8 (u8I (List.getD (List.getD x.1 (Int.toNat x.2.2.2.2.1) (Ty.dflt Ty.str)) (Int.toNat s.2.1) 0) - 48))) else s.1, w64 (s.2.1 + 1), s.2.2.1, s.2.2.2)))
      .fail)
     .fail)
    (.ret (.out 0 (s.1, s.2.1, s.2.2.1, s.2.2.2))))
   .fail)
def L_hauberkref27_one_3 : LoopN where
  M := [0, 1, 4, 5, 6]
  T := [7, 8, 14, 15, 16, 17, 18, 19, 20, 21, 22, 23, 24, 25, 26, 27, 28, 29, 30, 31, 32, 33, 34, 35, 36, 37, 38, 39, 40, 41, 42, 43, 44, 45, 46, 47, 48, 49, 50, 51, 52, 53, 54, 55, 56, 57, 58, 59, 60, 61, 62, 63, 64, 65, 66, 67, 68, 69, 70, 71, 72, 73, 74, 75, 76, 77, 78, 79]
  D := [0, 1, 6]
  ss := [.ty (.sl .str), .ty (.int .i64), .box 0 0, .box 1 0, .ty (.int .i64)]
  hs := [.ty tIns, .ty tIns]
  es := [.exit 0]
  σ := (Ty.den (.int .i64)) × (Sh.den (.ty tIns)) × (Sh.den (.ty tIns))
  x0 := fun x y => (x.2.2.2.2, y.1, y.2)
  put := fun x _ s => ((x.1, x.2.1, x.2.2.1, x.2.2.2.1, s.1), (s.2.1, s.2.2))
  fuel := fun _ _ => 10
  turn := fun x _ s =>
  (.ite (decide (s.1 < lenI x.1))
   (.opt (LoopN.res L_hauberkref27_one_7 (x.1, x.2.1, (), (), s.1, 0, 0) (s.2.1, s.2.2)) fun p0 =>
    (.ite (inRange s.1 (List.length x.1))
     (.ite (List.getD x.1 (Int.toNat s.1) (Ty.dflt Ty.str) == [115])
      (.ite (x.2.1 == 0)
       (.ite (s.1 == 1)
        (.ret (.on (w64 (s.1 + 1), p0.2.2.2.1, (5, x.2.1, p0.2.2.2.2.2.2))))
        (.ite (s.1 == 2)
         (.ret (.on (w64 (s.1 + 1), p0.2.2.2.1, (5, p0.2.2.2.2.2.1, x.2.1, p0.2.2.2.2.2.2.2))))
         (.ite (s.1 == 3)
          (.ret (.on (w64 (s.1 + 1), p0.2.2.2.1, (5, p0.2.2.2.2.2.1, p0.2.2.2.2.2.2.1, x.2.1, p0.2.2.2.2.2.2.2.2))))
          (.ret (.on (w64 (s.1 + 1), p0.2.2.2.1, (5, p0.2.2.2.2.2.1, p0.2.2.2.2.2.2.1, p0.2.2.2.2.2.2.2.1, p0.2.2.2.2.2.2.2.2.1, x.2.1, p0.2.2.2.2.2.2.2.2.2.2)))))))
       (.ite (s.1 == 1)
        (.ret (.on (w64 (s.1 + 1), p0.2.2.2.1, (p0.2.2.2.2.1, x.2.1, p0.2.2.2.2.2.2))))
        (.ite (s.1 == 2)
         (.ret (.on (w64 (s.1 + 1), p0.2.2.2.1, (p0.2.2.2.2.1, p0.2.2.2.2.2.1, x.2.1, p0.2.2.2.2.2.2.2))))
         (.ite (s.1 == 3)
          (.ret (.on (w64 (s.1 + 1), p0.2.2.2.1, (p0.2.2.2.2.1, p0.2.2.2.2.2.1, p0.2.2.2.2.2.2.1, x.2.1, p0.2.2.2.2.2.2.2.2))))
          (.ret (.on (w64 (s.1 + 1), p0.2.2.2.1, (p0.2.2.2.2.1, p0.2.2.2.2.2.1, p0.2.2.2.2.2.2.1, p0.2.2.2.2.2.2.2.1, p0.2.2.2.2.2.2.2.2.1, x.2.1, p0.2.2.2.2.2.2.2.2.2.2))))))))
      (.ite (s.1 == 1)
       (.ret (.on (w64 (s.1 + 1), p0.2.2.2.1, (p0.2.2.2.2.1, p0.2.1, p0.2.2.2.2.2.2))))
       (.ite (s.1 == 2)
        (.ret (.on (w64 (s.1 + 1), p0.2.2.2.1, (p0.2.2.2.2.1, p0.2.2.2.2.2.1, p0.2.1, p0.2.2.2.2.2.2.2))))
        (.ite (s.1 == 3)
         (.ret (.on (w64 (s.1 + 1), p0.2.2.2.1, (p0.2.2.2.2.1, p0.2.2.2.2.2.1, p0.2.2.2.2.2.2.1, p0.2.1, p0.2.2.2.2.2.2.2.2))))
         (.ret (.on (w64 (s.1 + 1), p0.2.2.2.1, (p0.2.2.2.2.1, p0.2.2.2.2.2.1, p0.2.2.2.2.2.2.1, p0.2.2.2.2.2.2.2.1, p0.2.2.2.2.2.2.2.2.1, p0.2.1, p0.2.2.2.2.2.2.2.2.2.2))))))))
     .fail))
   (.ret (.out 0 (s.1, s.2.1, s.2.2))))
/-- hauberkref27.one -/
abbrev A_hauberkref27_one : List Ty := [(.sl .str), (.int .i64)]
abbrev S_hauberkref27_one : Sh := Sh.ty tIns
def T_hauberkref27_one (x : dens A_hauberkref27_one) : PO (Sh.den S_hauberkref27_one) :=
  (.ite (inRange 0 (List.length x.1))
   (.opt (LoopN.res L_hauberkref27_one_3 (x.1, x.2, (), (), 1) ((0, 0, 0, 0, 0, 0, 0, false, ()), V_hauberkref27_op (List.getD x.1 (Int.toNat 0) (Ty.dflt Ty.str)), 0, 0, 0, 0, 0, 0, false, ())) fun p0 =>
    (.ret (p0.2.2.2)))
   .fail)
def G_hauberkref27_one (x : dens A_hauberkref27_one) : Bool := (T_hauberkref27_one x).val.isSome
def V_hauberkref27_one (x : dens A_hauberkref27_one) : Sh.den S_hauberkref27_one := (T_hauberkref27_one x).getO default
theorem ok_hauberkref27_one (x : dens A_hauberkref27_one) (h : G_hauberkref27_one x = true) : (T_hauberkref27_one x).val = some (V_hauberkref27_one x) := PO.getO_ok default h
def L_hauberkref27_read_5 : LoopN where
  M := [0, 1, 5, 6, 7, 8]
  T := [9, 10, 11, 12, 13, 14, 15, 16, 17, 18, 19, 20, 21, 22, 23, 24, 25, 26, 27, 28, 29, 30, 31, 32, 33, 34, 35, 36, 37, 38, 39, 40, 41, 42, 43, 44, 45]
  D := [0, 1, 6, 7, 8]
  ss := [.ty .str, .ty (.int .i64), .osl 0 tIns, .osl 1 .str, .ty .str, .ty (.int .i64)]
  hs := []
  es := [.exit 0]
  σ := (List (Ty.den tIns)) × (List (Ty.den .str)) × (Ty.den .str) × (Ty.den (.int .i64))
  x0 := fun x _ => (x.2.2.1, x.2.2.2.1, x.2.2.2.2.1, x.2.2.2.2.2)
  put := fun x _ s => ((x.1, x.2.1, s.1, s.2.1, s.2.2.1, s.2.2.2), ())
  fuel := fun _ _ => 200
  turn := fun x _ s =>
  (.ite (decide (s.2.2.2 < lenI x.1))
   (.ite (inRange s.2.2.2 (List.length x.1) && bif u8I (List.getD x.1 (Int.toNat s.2.2.2) 0) != 32 then inRange s.2.2.2 (List.length x.1) else true)
    (.ite (u8I (List.getD x.1 (Int.toNat s.2.2.2) 0) != 32 && u8I (List.getD x.1 (Int.toNat s.2.2.2) 0) != 59)
     (.ite (decide (0 ≤ w64 (s.2.2.2 + 1)) && decide (w64 (s.2.2.2 + 1) ≤ lenI x.1) && decide (0 ≤ s.2.2.2) && decide (s.2.2.2 ≤ w64 (s.2.2.2 + 1)) && Nat.ble (List.length s.2.2.1 + List.length (List.drop (Int.toNat s.2.2.2) (List.take (Int.toNat (w64 (s.2.2.2 + 1))) x.1))) 9223372036854775807)
      (.ret (.on (s.1, s.2.1, s.2.2.1 ++ List.drop (Int.toNat s.2.2.2) (List.take (Int.toNat (w64 (s.2.2.2 + 1))) x.1), w64 (s.2.2.2 + 1))))
      .fail)
     (.ite (Nat.ble ((List.length s.2.1 + List.length [s.2.2.1]) * 16) 140737488355328)
      (.ite (inRange s.2.2.2 (List.length x.1))
       (.ite (u8I (List.getD x.1 (Int.toNat s.2.2.2) 0) == 59)
        (.ite (G_hauberkref27_one (s.2.1 ++ [s.2.2.1], x.2.1))
         (.ite (Nat.ble ((List.length s.1 + List.length [V_hauberkref27_one (s.2.1 ++ [s.2.2.1], x.2.1)]) * 64) 140737488355328)
          (.ret (.on (s.1 ++ [V_hauberkref27_one (s.2.1 ++ [s.2.2.1], x.2.1)], [], [], w64 (s.2.2.2 + 1))))
          .fail)
         .fail)
        (.ret (.on (s.1, s.2.1 ++ [s.2.2.1], [], w64 (s.2.2.2 + 1)))))
       .fail)
      .fail))
    .fail)
   (.ret (.out 0 (s.1, s.2.1, s.2.2.1, s.2.2.2))))
/-- hauberkref27.read -/
abbrev A_hauberkref27_read : List Ty := [.str, (.int .i64)]
abbrev S_hauberkref27_read : Sh := Sh.osl 32 tIns
def T_hauberkref27_read (x : dens A_hauberkref27_read) : PO (Sh.den S_hauberkref27_read) :=
  (.opt (LoopN.res L_hauberkref27_read_5 (x.1, x.2, [], [], [], 0) ()) fun p0 =>
   (.ret (p0.2.1)))
def G_hauberkref27_read (x : dens A_hauberkref27_read) : Bool := (T_hauberkref27_read x).val.isSome
def V_hauberkref27_read (x : dens A_hauberkref27_read) : Sh.den S_hauberkref27_read := (T_hauberkref27_read x).getO default
theorem ok_hauberkref27_read (x : dens A_hauberkref27_read) (h : G_hauberkref27_read x = true) : (T_hauberkref27_read x).val = some (V_hauberkref27_read x) := PO.getO_ok default h
def L_tmpl_may_2 : LoopN where
  M := [2, 3, 4, 6, 10, 11, 12]
  T := [8, 13, 14, 15, 16, 17, 18, 19]
  D := [10, 11, 12]
  ss := [.ty (.int .i64), .box 0 0, .box 1 0, .ty .bool, .ty (.sl (.int .i64)), .ty (.int .i64), .ty (.int .i64)]
  hs := [.ty tOp, .ty tSpot]
  es := [.exit 0, .ret]
  σ := (Ty.den .bool) × (Ty.den (.int .i64)) × (Sh.den (.ty tOp)) × (Sh.den (.ty tSpot))
  x0 := fun x y => (x.2.2.2.1, x.2.2.2.2.2.2, y.1, y.2)
  put := fun x _ s => ((x.1, x.2.1, x.2.2.1, s.1, x.2.2.2.2.1, x.2.2.2.2.2.1, s.2.1), (s.2.2.1, s.2.2.2))
  fuel := fun _ _ => 5
  turn := fun x _ s =>
  (.ite (decide (s.2.1 < x.2.2.2.2.2.1))
   (.ite (inRange s.2.1 (List.length x.2.2.2.2.1))
    (.ite (!V_tmpl_temp (List.getD x.2.2.2.2.1 (Int.toNat s.2.1) (Ty.dflt (Ty.int IntKind.i64))))
     (.ret (.out 1 (false, s.2.1, s.2.2.1, s.2.2.2)))
     (.ret (.on (s.1, w64 (s.2.1 + 1), s.2.2.1, s.2.2.2))))
    .fail)
   (.ret (.out 0 (s.1, s.2.1, s.2.2.1, s.2.2.2))))
/-- tmpl.may -/
abbrev A_tmpl_may : List Ty := [tOp, tSpot, (.int .i64)]
abbrev S_tmpl_may : Sh := Sh.ty Ty.bool
def T_tmpl_may (x : dens A_tmpl_may) : PO (Sh.den S_tmpl_may) :=
  (.opt (LoopN.res L_tmpl_may_2 (x.2.2, (), (), false, V_ir_Uses x.1, lenI (V_ir_Uses x.1), 0) (x.1, x.2.1)) fun p0 =>
   (.ite (way p0.1)
    (.ite (V_ir_Makes p0.2.2.2.1 || true)
     (.ite (bif V_ir_Makes p0.2.2.2.1 then !V_tmpl_temp p0.2.2.2.1.2.1 || x.2.2 != 0 && x.2.2 != 1 else x.2.2 != 0 && x.2.2 != 1)
      (.ret (false))
      (.ite (p0.2.2.2.1.1 == 1)
       (.ret (decide (p0.2.2.2.1.2.2.2.2.2.1 ≥ 0) && decide (p0.2.2.2.1.2.2.2.2.2.1 ≤ 4294967295)))
       (.ite (bif p0.2.2.2.1.1 == 11 then p0.2.2.2.1.1 == 11 else bif p0.2.2.2.1.1 == 12 then p0.2.2.2.1.1 == 12 else p0.2.2.2.1.1 == 13)
        (.ret (decide (p0.2.2.2.1.2.2.2.2.2.1 ≥ 0) && decide (p0.2.2.2.1.2.2.2.2.2.1 < 32)))
        (.ite (bif p0.2.2.2.1.1 == 18 then p0.2.2.2.1.1 == 18 else p0.2.2.2.1.1 == 19)
         (.ret (V_tmpl_spot (p0.2.2.2.1, p0.2.2.2.2)))
         (.ret (V_ir_Makes p0.2.2.2.1))))))
     .fail)
    (.ret (p0.2.1))))
def G_tmpl_may (x : dens A_tmpl_may) : Bool := (T_tmpl_may x).val.isSome
def V_tmpl_may (x : dens A_tmpl_may) : Sh.den S_tmpl_may := (T_tmpl_may x).getO default
theorem ok_tmpl_may (x : dens A_tmpl_may) (h : G_tmpl_may x = true) : (T_tmpl_may x).val = some (V_tmpl_may x) := PO.getO_ok default h
/-- hauberkref27.lines -/
abbrev A_hauberkref27_lines : List Ty := [(.int .i64)]
abbrev S_hauberkref27_lines : Sh := Sh.ty Ty.str
def T_hauberkref27_lines (x : dens A_hauberkref27_lines) : PO (Sh.den S_hauberkref27_lines) :=
  (.ite (x == 2)
   (.ret ([108, 115, 108, 32, 51, 32, 46, 32, 48, 32, 35, 48, 59]))
   (.ite (x == 3)
    (.ret ([97, 100, 100, 32, 51, 32, 48, 32, 49, 59]))
    (.ite (x == 4)
     (.ret ([115, 117, 98, 32, 51, 32, 48, 32, 49, 59]))
     (.ite (x == 5)
      (.ret ([109, 117, 108, 32, 51, 32, 48, 32, 49, 59]))
      (.ite (x == 7)
       (.ret ([97, 110, 100, 32, 51, 32, 48, 32, 49, 59]))
       (.ite (x == 8)
        (.ret ([111, 114, 114, 32, 51, 32, 48, 32, 49, 59]))
        (.ite (x == 9)
         (.ret ([101, 111, 114, 32, 51, 32, 48, 32, 49, 59]))
         (.ite (x == 10)
          (.ret ([109, 118, 110, 32, 51, 32, 46, 32, 48, 59]))
          (.ite (x == 11)
           (.ret ([108, 115, 108, 32, 51, 32, 46, 32, 48, 32, 115, 59]))
           (.ite (x == 12)
            (.ret ([108, 115, 114, 32, 51, 32, 46, 32, 48, 32, 115, 59]))
            (.ite (x == 13)
             (.ret ([114, 111, 114, 32, 51, 32, 46, 32, 48, 32, 115, 59]))
             (.ite (x == 14)
              (.ret ([98, 105, 99, 32, 52, 32, 49, 32, 48, 59, 109, 118, 110, 32, 53, 32, 46, 32, 48, 59, 111, 114, 114, 32, 54, 32, 53, 32, 49, 59, 115, 117, 98, 32, 53, 32, 48, 32, 49, 59, 97, 110, 100, 32, 50, 32, 54, 32, 53, 59, 111, 114, 114, 32, 54, 32, 52, 32, 50, 59, 97, 115, 114, 32, 51, 32, 46, 32, 54, 32, 35, 51, 49, 59]))
              (.ite (x == 15)
               (.ret ([101, 111, 114, 32, 52, 32, 48, 32, 49, 59, 109, 111, 118, 119, 32, 53, 32, 46, 32, 46, 32, 35, 48, 59, 115, 117, 98, 32, 54, 32, 53, 32, 52, 59, 111, 114, 114, 32, 50, 32, 52, 32, 54, 59, 108, 115, 114, 32, 52, 32, 46, 32, 50, 32, 35, 51, 49, 59, 109, 111, 118, 119, 32, 53, 32, 46, 32, 46, 32, 35, 49, 59, 115, 117, 98, 32, 51, 32, 52, 32, 53, 59]))
               (.ite (x == 16)
                (.ret ([97, 110, 100, 32, 52, 32, 48, 32, 49, 59, 97, 100, 100, 32, 53, 32, 48, 32, 49, 59, 111, 114, 114, 32, 54, 32, 48, 32, 49, 59, 98, 105, 99, 32, 50, 32, 54, 32, 53, 59, 111, 114, 114, 32, 54, 32, 52, 32, 50, 59, 108, 115, 114, 32, 51, 32, 46, 32, 54, 32, 35, 51, 49, 59]))
                (.ite (x == 17)
                 (.ret ([97, 110, 100, 32, 52, 32, 48, 32, 50, 59, 98, 105, 99, 32, 53, 32, 49, 32, 50, 59, 111, 114, 114, 32, 51, 32, 52, 32, 53, 59]))
                 (.ret ([])))))))))))))))))
def G_hauberkref27_lines (_ : dens A_hauberkref27_lines) : Bool := true
def V_hauberkref27_lines (x : dens A_hauberkref27_lines) : Sh.den S_hauberkref27_lines := (T_hauberkref27_lines x).getO default
theorem ok_hauberkref27_lines (x : dens A_hauberkref27_lines) (_ : G_hauberkref27_lines x = true) : (T_hauberkref27_lines x).val = some (V_hauberkref27_lines x) := PO.sure_ok default (by simp [T_hauberkref27_lines, PO.sure])
/-- hauberkref27.Word -/
abbrev A_hauberkref27_Word : List Ty := [(.int .i64), (.int .i64)]
abbrev S_hauberkref27_Word : Sh := Sh.osl 32 tIns
def T_hauberkref27_Word (x : dens A_hauberkref27_Word) : PO (Sh.den S_hauberkref27_Word) :=
  (.ite (decide (x.1 < 0) || decide (x.1 > 7))
   (.ret ([]))
   (.ret ([(3, x.1, 0, 0, 0, w64 (Int.tmod (IntKind.wrap IntKind.u64 x.2) 65536), 0, false, ()), (4, x.1, 0, 0, 0, w64 (Int.tmod (IntKind.wrap IntKind.u64 (Int.tdiv (IntKind.wrap IntKind.u64 x.2) 65536)) 65536), 0, false, ())])))
def G_hauberkref27_Word (_ : dens A_hauberkref27_Word) : Bool := true
def V_hauberkref27_Word (x : dens A_hauberkref27_Word) : Sh.den S_hauberkref27_Word := (T_hauberkref27_Word x).getO default
theorem ok_hauberkref27_Word (x : dens A_hauberkref27_Word) (_ : G_hauberkref27_Word x = true) : (T_hauberkref27_Word x).val = some (V_hauberkref27_Word x) := PO.sure_ok default (by simp [T_hauberkref27_Word, PO.sure])
/-- hauberkref27.moved -/
abbrev A_hauberkref27_moved : List Ty := [(.int .i64), (.int .i64), (.int .i64), (.int .i64)]
abbrev S_hauberkref27_moved : Sh := Sh.osl 32 tIns
def T_hauberkref27_moved (x : dens A_hauberkref27_moved) : PO (Sh.den S_hauberkref27_moved) :=
  (.ite (decide (x.2.1 < 0) || (decide (x.2.1 > 65535) || (decide (x.2.2.1 < 0) || (decide (x.2.2.1 > 1) || (decide (x.2.2.2 < 0) || decide (x.2.2.2 > 7))))))
   (.ret ([]))
   (.ret ([(3, 7, 0, 0, 0, x.2.1, 0, false, ()), (4, 7, 0, 0, 0, V_hauberkref27_rail x.2.2.1, 0, false, ()), (x.1, x.2.2.2, 7, 0, 0, 0, 0, false, ())])))
def G_hauberkref27_moved (_ : dens A_hauberkref27_moved) : Bool := true
def V_hauberkref27_moved (x : dens A_hauberkref27_moved) : Sh.den S_hauberkref27_moved := (T_hauberkref27_moved x).getO default
theorem ok_hauberkref27_moved (x : dens A_hauberkref27_moved) (_ : G_hauberkref27_moved x = true) : (T_hauberkref27_moved x).val = some (V_hauberkref27_moved x) := PO.sure_ok default (by simp [T_hauberkref27_moved, PO.sure])
/-- hauberkref27.Put -/
abbrev A_hauberkref27_Put : List Ty := [(.int .i64), (.int .i64), (.int .i64)]
abbrev S_hauberkref27_Put : Sh := Sh.osl 32 tIns
def T_hauberkref27_Put (x : dens A_hauberkref27_Put) : PO (Sh.den S_hauberkref27_Put) :=
  (.ret (V_hauberkref27_moved (20, x.1, x.2.1, x.2.2)))
def G_hauberkref27_Put (_ : dens A_hauberkref27_Put) : Bool := true
def V_hauberkref27_Put (x : dens A_hauberkref27_Put) : Sh.den S_hauberkref27_Put := (T_hauberkref27_Put x).getO default
theorem ok_hauberkref27_Put (x : dens A_hauberkref27_Put) (_ : G_hauberkref27_Put x = true) : (T_hauberkref27_Put x).val = some (V_hauberkref27_Put x) := PO.sure_ok default (by simp [T_hauberkref27_Put, PO.sure])
/-- hauberkref27.element -/
abbrev A_hauberkref27_element : List Ty := [tOp, tSpot, (.int .i64)]
abbrev S_hauberkref27_element : Sh := Sh.osl 32 tIns
def T_hauberkref27_element (x : dens A_hauberkref27_element) : PO (Sh.den S_hauberkref27_element) :=
  (.ite (x.1.1 == 18 && x.2.1.1 == 4)
   (.ret ([(5, 4, 0, 0, 0, bif x.2.1.1 == 4 then 2 else 0, 0, false, ()), (3, 5, 0, 0, 0, x.2.1.2.1, 0, false, ()), (14, 6, 4, 5, 0, 0, 0, false, ()), (3, 5, 0, 0, 0, 0, 0, false, ()), (4, 5, 0, 0, 0, bif x.2.1.2.2.1 then 8193 else V_hauberkref27_rail x.2.2, 0, false, ()), (18, 5, 6, 0, 16, 0, 0, false, ()), (19, 3, 5, 0, 0, 0, 0, false, ())]))
   (.ite (x.1.1 == 18)
    (.ret ([(5, 4, 0, 0, 0, bif x.2.1.1 == 4 then 2 else 0, 0, false, ()), (3, 5, 0, 0, 0, x.2.1.2.1, 0, false, ()), (14, 6, 4, 5, 0, 0, 0, false, ()), (3, 5, 0, 0, 0, 0, 0, false, ()), (4, 5, 0, 0, 0, bif x.2.1.2.2.1 then 8193 else V_hauberkref27_rail x.2.2, 0, false, ()), (18, 5, 6, 0, 16, 0, 0, false, ()), (21, 3, 5, 0, 0, 0, 0, false, ())]))
    (.ite (x.2.1.1 == 4)
     (.ret ([(5, 4, 0, 0, 0, bif x.2.1.1 == 4 then 2 else 0, 0, false, ()), (3, 5, 0, 0, 0, x.2.1.2.1, 0, false, ()), (14, 6, 4, 5, 0, 0, 0, false, ()), (3, 5, 0, 0, 0, 0, 0, false, ()), (4, 5, 0, 0, 0, bif x.2.1.2.2.1 then 8193 else V_hauberkref27_rail x.2.2, 0, false, ()), (18, 5, 6, 0, 16, 0, 0, false, ()), (20, 1, 5, 0, 0, 0, 0, false, ())]))
     (.ret ([(5, 4, 0, 0, 0, bif x.2.1.1 == 4 then 2 else 0, 0, false, ()), (3, 5, 0, 0, 0, x.2.1.2.1, 0, false, ()), (14, 6, 4, 5, 0, 0, 0, false, ()), (3, 5, 0, 0, 0, 0, 0, false, ()), (4, 5, 0, 0, 0, bif x.2.1.2.2.1 then 8193 else V_hauberkref27_rail x.2.2, 0, false, ()), (18, 5, 6, 0, 16, 0, 0, false, ()), (22, 1, 5, 0, 0, 0, 0, false, ())])))))
def G_hauberkref27_element (_ : dens A_hauberkref27_element) : Bool := true
def V_hauberkref27_element (x : dens A_hauberkref27_element) : Sh.den S_hauberkref27_element := (T_hauberkref27_element x).getO default
theorem ok_hauberkref27_element (x : dens A_hauberkref27_element) (_ : G_hauberkref27_element x = true) : (T_hauberkref27_element x).val = some (V_hauberkref27_element x) := PO.sure_ok default (by simp [T_hauberkref27_element, PO.sure])
def L_hauberkref27_May_7 : LoopN where
  M := [3, 4, 6, 7, 8]
  T := [34, 35, 36, 37, 38, 39, 40, 41, 42, 43, 44, 45, 46, 47, 48, 49, 50, 51]
  D := [7, 8]
  ss := [.box 0 0, .box 1 0, .ty .bool, .ty (.sl (.int .i64)), .ty (.int .i64)]
  hs := [.ty tOp, .ty tSpot]
  es := [.exit 0, .ret]
  σ := (Ty.den .bool) × (Ty.den (.int .i64)) × (Sh.den (.ty tOp)) × (Sh.den (.ty tSpot))
  x0 := fun x y => (x.2.2.1, x.2.2.2.2, y.1, y.2)
  put := fun x _ s => ((x.1, x.2.1, s.1, x.2.2.2.1, s.2.1), (s.2.2.1, s.2.2.2))
  fuel := fun _ _ => 6
  turn := fun x _ s =>
  (.ite (decide (s.2.1 < lenI x.2.2.2.1))
   (.ite (inRange s.2.1 (List.length x.2.2.2.1) && (decide (List.getD x.2.2.2.1 (Int.toNat s.2.1) (Ty.dflt (Ty.int IntKind.i64)) < 0) || inRange s.2.1 (List.length x.2.2.2.1)))
    (.ite (decide (List.getD x.2.2.2.1 (Int.toNat s.2.1) (Ty.dflt (Ty.int IntKind.i64)) < 0) || decide (List.getD x.2.2.2.1 (Int.toNat s.2.1) (Ty.dflt (Ty.int IntKind.i64)) > 16382))
     (.ret (.out 1 (false, s.2.1, s.2.2.1, s.2.2.2)))
     (.ret (.on (s.1, w64 (s.2.1 + 1), s.2.2.1, s.2.2.2))))
    .fail)
   (.ret (.out 0 (s.1, s.2.1, s.2.2.1, s.2.2.2))))
/-- hauberkref27.May -/
abbrev A_hauberkref27_May : List Ty := [tOp, tSpot, (.int .i64)]
abbrev S_hauberkref27_May : Sh := Sh.ty Ty.bool
def T_hauberkref27_May (x : dens A_hauberkref27_May) : PO (Sh.den S_hauberkref27_May) :=
  (.ite (decide (x.1.1 < 1) || (decide (x.1.1 > 19) || (decide (x.2.2 < 0) || decide (x.2.2 > 1))))
   (.ret (false))
   (.ite (G_hauberkref17_Uses x.1)
    (.ite (G_hauberkref17_Makes x.1)
     (.ite (V_hauberkref17_Makes x.1)
      (.ite (Nat.ble ((List.length (V_hauberkref17_Uses x.1) + List.length [x.1.2.1]) * 8) 140737488355328)
       (.opt (LoopN.res L_hauberkref27_May_7 ((), (), false, V_hauberkref17_Uses x.1 ++ [x.1.2.1], 0) (x.1, x.2.1)) fun p0 =>
        (.ite (way p0.1)
         (.ite (p0.2.2.2.1.1 == 1)
          (.ret (decide (p0.2.2.2.1.2.2.2.2.2.1 ≥ 0) && decide (p0.2.2.2.1.2.2.2.2.2.1 < 4294967296)))
          (.ite (decide (p0.2.2.2.1.1 ≥ 11) && decide (p0.2.2.2.1.1 ≤ 13))
           (.ret (decide (p0.2.2.2.1.2.2.2.2.2.1 ≥ 0) && decide (p0.2.2.2.1.2.2.2.2.2.1 < 32)))
           (.ite (p0.2.2.2.1.1 == 18 || p0.2.2.2.1.1 == 19)
            (.ret (bif p0.2.2.2.2.1 == 1 then decide (p0.2.2.2.2.2.1 ≥ 0) && (decide (p0.2.2.2.2.2.1 < 65536) && (!p0.2.2.2.2.2.2.1 || p0.2.2.2.1.1 == 18)) else p0.2.2.2.2.1 == 4 && (decide (p0.2.2.2.2.2.1 ≥ 0) && (decide (p0.2.2.2.2.2.1 < 65536) && (!p0.2.2.2.2.2.2.1 || p0.2.2.2.1.1 == 18)))))
            (.ret (true)))))
         (.ret (p0.2.1))))
       .fail)
      (.opt (LoopN.res L_hauberkref27_May_7 ((), (), false, V_hauberkref17_Uses x.1, 0) (x.1, x.2.1)) fun p0 =>
       (.ite (way p0.1)
        (.ite (p0.2.2.2.1.1 == 1)
         (.ret (decide (p0.2.2.2.1.2.2.2.2.2.1 ≥ 0) && decide (p0.2.2.2.1.2.2.2.2.2.1 < 4294967296)))
         (.ite (decide (p0.2.2.2.1.1 ≥ 11) && decide (p0.2.2.2.1.1 ≤ 13))
          (.ret (decide (p0.2.2.2.1.2.2.2.2.2.1 ≥ 0) && decide (p0.2.2.2.1.2.2.2.2.2.1 < 32)))
          (.ite (p0.2.2.2.1.1 == 18 || p0.2.2.2.1.1 == 19)
           (.ret (bif p0.2.2.2.2.1 == 1 then decide (p0.2.2.2.2.2.1 ≥ 0) && (decide (p0.2.2.2.2.2.1 < 65536) && (!p0.2.2.2.2.2.2.1 || p0.2.2.2.1.1 == 18)) else p0.2.2.2.2.1 == 4 && (decide (p0.2.2.2.2.2.1 ≥ 0) && (decide (p0.2.2.2.2.2.1 < 65536) && (!p0.2.2.2.2.2.2.1 || p0.2.2.2.1.1 == 18)))))
           (.ret (true)))))
        (.ret (p0.2.1)))))
     .fail)
    .fail))
def G_hauberkref27_May (x : dens A_hauberkref27_May) : Bool := (T_hauberkref27_May x).val.isSome
def V_hauberkref27_May (x : dens A_hauberkref27_May) : Sh.den S_hauberkref27_May := (T_hauberkref27_May x).getO default
theorem ok_hauberkref27_May (x : dens A_hauberkref27_May) (h : G_hauberkref27_May x = true) : (T_hauberkref27_May x).val = some (V_hauberkref27_May x) := PO.getO_ok default h
def L_tmpl_Op_5 : LoopN where
  M := [2, 3, 4, 8, 17, 18, 19]
  T := [9, 10, 20, 21, 22, 23, 24, 25, 26, 27, 28, 29, 30, 31]
  D := [17, 18, 19]
  ss := [.ty (.int .i64), .box 0 0, .box 1 0, .osl 0 tIns, .ty (.sl (.int .i64)), .ty (.int .i64), .ty (.int .i64)]
  hs := [.ty tOp, .ty tSpot]
  es := [.exit 0]
  σ := (List (Ty.den tIns)) × (Ty.den (.int .i64)) × (Sh.den (.ty tOp)) × (Sh.den (.ty tSpot))
  x0 := fun x y => (x.2.2.2.1, x.2.2.2.2.2.2, y.1, y.2)
  put := fun x _ s => ((x.1, x.2.1, x.2.2.1, s.1, x.2.2.2.2.1, x.2.2.2.2.2.1, s.2.1), (s.2.2.1, s.2.2.2))
  fuel := fun _ _ => 5
  turn := fun x _ s =>
  (.ite (decide (s.2.1 < x.2.2.2.2.2.1))
   (.ite (inRange s.2.1 (List.length x.2.2.2.2.1))
    (.ite (G_tmpl_Get (V_frame_Temp (List.getD x.2.2.2.2.1 (Int.toNat s.2.1) (Ty.dflt (Ty.int IntKind.i64))), x.1, s.2.1))
     (.ite (Nat.ble ((List.length s.1 + List.length (V_tmpl_Get (V_frame_Temp (List.getD x.2.2.2.2.1 (Int.toNat s.2.1) (Ty.dflt (Ty.int IntKind.i64))), x.1, s.2.1))) * 64) 140737488355328)
      (.ret (.on (s.1 ++ V_tmpl_Get (V_frame_Temp (List.getD x.2.2.2.2.1 (Int.toNat s.2.1) (Ty.dflt (Ty.int IntKind.i64))), x.1, s.2.1), w64 (s.2.1 + 1), s.2.2.1, s.2.2.2)))
      .fail)
     .fail)
    .fail)
   (.ret (.out 0 (s.1, s.2.1, s.2.2.1, s.2.2.2))))
/-- tmpl.Op -/
abbrev A_tmpl_Op : List Ty := [tOp, tSpot, (.int .i64)]
abbrev S_tmpl_Op : Sh := Sh.tup (Sh.pair (Sh.osl 32 tIns) (Sh.pair (Sh.ty (Ty.int IntKind.i64)) (Sh.ty Ty.unit)))
def T_tmpl_Op (x : dens A_tmpl_Op) : PO (Sh.den S_tmpl_Op) :=
  (.ite (G_tmpl_may (x.1, x.2.1, x.2.2))
   (.ite (!V_tmpl_may (x.1, x.2.1, x.2.2))
    (.ret (([], 2, ())))
    (.opt (LoopN.res L_tmpl_Op_5 (x.2.2, (), (), [], V_ir_Uses x.1, lenI (V_ir_Uses x.1), 0) (x.1, x.2.1)) fun p0 =>
     (.ite (Nat.ble ((List.length ([] : List tIns.den) + List.length p0.2.1) * 64) 140737488355328)
      (.ite (Nat.ble ((List.length ([] ++ p0.2.1) + List.length (V_tmpl_inner (p0.2.2.2.1, p0.2.2.2.2, x.2.2))) * 64) 140737488355328)
       (.ite (V_ir_Makes p0.2.2.2.1)
        (.ite (G_tmpl_Put (V_frame_Temp p0.2.2.2.1.2.1, x.2.2, 3))
         (.ite (Nat.ble ((List.length ([] : List tIns.den) + List.length ([] ++ p0.2.1 ++ V_tmpl_inner (p0.2.2.2.1, p0.2.2.2.2, x.2.2))) * 64) 140737488355328)
          (.ite (Nat.ble ((List.length ([] ++ ([] ++ p0.2.1 ++ V_tmpl_inner (p0.2.2.2.1, p0.2.2.2.2, x.2.2))) + List.length (V_tmpl_Put (V_frame_Temp p0.2.2.2.1.2.1, x.2.2, 3))) * 64) 140737488355328)
           (.ret (([] ++ ([] ++ p0.2.1 ++ V_tmpl_inner (p0.2.2.2.1, p0.2.2.2.2, x.2.2)) ++ V_tmpl_Put (V_frame_Temp p0.2.2.2.1.2.1, x.2.2, 3), 0, ())))
           .fail)
          .fail)
         .fail)
        (.ret (([] ++ p0.2.1 ++ V_tmpl_inner (p0.2.2.2.1, p0.2.2.2.2, x.2.2), 0, ()))))
       .fail)
      .fail)))
   .fail)
def G_tmpl_Op (x : dens A_tmpl_Op) : Bool := (T_tmpl_Op x).val.isSome
def V_tmpl_Op (x : dens A_tmpl_Op) : Sh.den S_tmpl_Op := (T_tmpl_Op x).getO default
theorem ok_tmpl_Op (x : dens A_tmpl_Op) (h : G_tmpl_Op x = true) : (T_tmpl_Op x).val = some (V_tmpl_Op x) := PO.getO_ok default h
def L_hauberkref27_Op_6 : LoopN where
  M := [2, 3, 4, 8, 9, 10]
  T := [18, 19, 20, 21, 22, 23, 24, 25, 26, 27, 28, 29, 30, 31, 32, 33]
  D := [9, 10]
  ss := [.ty (.int .i64), .box 0 0, .box 1 0, .osl 0 tIns, .ty (.sl (.int .i64)), .ty (.int .i64)]
  hs := [.ty tOp, .ty tSpot]
  es := [.exit 0]
  σ := (List (Ty.den tIns)) × (Ty.den (.int .i64)) × (Sh.den (.ty tOp)) × (Sh.den (.ty tSpot))
  x0 := fun x y => (x.2.2.2.1, x.2.2.2.2.2, y.1, y.2)
  put := fun x _ s => ((x.1, x.2.1, x.2.2.1, s.1, x.2.2.2.2.1, s.2.1), (s.2.2.1, s.2.2.2))
  fuel := fun _ _ => 5
  turn := fun x _ s =>
  (.ite (decide (s.2.1 < lenI x.2.2.2.2.1))
   (.ite (inRange s.2.1 (List.length x.2.2.2.2.1))
    (.ite (G_hauberkref27_Get (V_hauberkref26_Temp (List.getD x.2.2.2.2.1 (Int.toNat s.2.1) (Ty.dflt (Ty.int IntKind.i64))), x.1, s.2.1))
     (.ite (Nat.ble ((List.length s.1 + List.length (V_hauberkref27_Get (V_hauberkref26_Temp (List.getD x.2.2.2.2.1 (Int.toNat s.2.1) (Ty.dflt (Ty.int IntKind.i64))), x.1, s.2.1))) * 64) 140737488355328)
      (.ret (.on (s.1 ++ V_hauberkref27_Get (V_hauberkref26_Temp (List.getD x.2.2.2.2.1 (Int.toNat s.2.1) (Ty.dflt (Ty.int IntKind.i64))), x.1, s.2.1), w64 (s.2.1 + 1), s.2.2.1, s.2.2.2)))
      .fail)
     .fail)
    .fail)
   (.ret (.out 0 (s.1, s.2.1, s.2.2.1, s.2.2.2))))
/-- hauberkref27.Op -/
abbrev A_hauberkref27_Op : List Ty := [tOp, tSpot, (.int .i64)]
abbrev S_hauberkref27_Op : Sh := Sh.tup (Sh.pair (Sh.osl 32 tIns) (Sh.pair (Sh.ty (Ty.int IntKind.i64)) (Sh.ty Ty.unit)))
def T_hauberkref27_Op (x : dens A_hauberkref27_Op) : PO (Sh.den S_hauberkref27_Op) :=
  (.ite (G_hauberkref27_May (x.1, x.2.1, x.2.2))
   (.ite (!V_hauberkref27_May (x.1, x.2.1, x.2.2))
    (.ret (([], 2, ())))
    (.ite (G_hauberkref17_Uses x.1)
     (.opt (LoopN.res L_hauberkref27_Op_6 (x.2.2, (), (), [], V_hauberkref17_Uses x.1, 0) (x.1, x.2.1)) fun p0 =>
      (.ite (p0.2.2.2.1.1 == 1)
       (.ite (Nat.ble ((List.length p0.2.1 + List.length (V_hauberkref27_Word (3, p0.2.2.2.1.2.2.2.2.2.1))) * 64) 140737488355328)
        (.ite (G_hauberkref17_Makes p0.2.2.2.1)
         (.ite (V_hauberkref17_Makes p0.2.2.2.1)
          (.ite (Nat.ble ((List.length (p0.2.1 ++ V_hauberkref27_Word (3, p0.2.2.2.1.2.2.2.2.2.1)) + List.length (V_hauberkref27_Put (V_hauberkref26_Temp p0.2.2.2.1.2.1, x.2.2, 3))) * 64) 140737488355328)
           (.ret ((p0.2.1 ++ V_hauberkref27_Word (3, p0.2.2.2.1.2.2.2.2.2.1) ++ V_hauberkref27_Put (V_hauberkref26_Temp p0.2.2.2.1.2.1, x.2.2, 3), 0, ())))
           .fail)
          (.ret ((p0.2.1 ++ V_hauberkref27_Word (3, p0.2.2.2.1.2.2.2.2.2.1), 0, ()))))
         .fail)
        .fail)
       (.ite (p0.2.2.2.1.1 == 6)
        (.ite (Nat.ble ((List.length p0.2.1 + List.length [(17, 4, 0, 1, 3, 0, 0, false, ())]) * 64) 140737488355328)
         (.ite (G_hauberkref17_Makes p0.2.2.2.1)
          (.ite (V_hauberkref17_Makes p0.2.2.2.1)
           (.ite (Nat.ble ((List.length (p0.2.1 ++ [(17, 4, 0, 1, 3, 0, 0, false, ())]) + List.length (V_hauberkref27_Put (V_hauberkref26_Temp p0.2.2.2.1.2.1, x.2.2, 3))) * 64) 140737488355328)
            (.ret ((p0.2.1 ++ [(17, 4, 0, 1, 3, 0, 0, false, ())] ++ V_hauberkref27_Put (V_hauberkref26_Temp p0.2.2.2.1.2.1, x.2.2, 3), 0, ())))
            .fail)
           (.ret ((p0.2.1 ++ [(17, 4, 0, 1, 3, 0, 0, false, ())], 0, ()))))
          .fail)
         .fail)
        (.ite (bif p0.2.2.2.1.1 == 18 then p0.2.2.2.1.1 == 18 else p0.2.2.2.1.1 == 19)
         (.ite (Nat.ble ((List.length p0.2.1 + List.length (V_hauberkref27_element (p0.2.2.2.1, p0.2.2.2.2, x.2.2))) * 64) 140737488355328)
          (.ite (G_hauberkref17_Makes p0.2.2.2.1)
           (.ite (V_hauberkref17_Makes p0.2.2.2.1)
            (.ite (Nat.ble ((List.length (p0.2.1 ++ V_hauberkref27_element (p0.2.2.2.1, p0.2.2.2.2, x.2.2)) + List.length (V_hauberkref27_Put (V_hauberkref26_Temp p0.2.2.2.1.2.1, x.2.2, 3))) * 64) 140737488355328)
             (.ret ((p0.2.1 ++ V_hauberkref27_element (p0.2.2.2.1, p0.2.2.2.2, x.2.2) ++ V_hauberkref27_Put (V_hauberkref26_Temp p0.2.2.2.1.2.1, x.2.2, 3), 0, ())))
             .fail)
            (.ret ((p0.2.1 ++ V_hauberkref27_element (p0.2.2.2.1, p0.2.2.2.2, x.2.2), 0, ()))))
           .fail)
          .fail)
         (.ite (G_hauberkref27_read (V_hauberkref27_lines p0.2.2.2.1.1, p0.2.2.2.1.2.2.2.2.2.1))
          (.ite (Nat.ble ((List.length p0.2.1 + List.length (V_hauberkref27_read (V_hauberkref27_lines p0.2.2.2.1.1, p0.2.2.2.1.2.2.2.2.2.1))) * 64) 140737488355328)
           (.ite (G_hauberkref17_Makes p0.2.2.2.1)
            (.ite (V_hauberkref17_Makes p0.2.2.2.1)
             (.ite (Nat.ble ((List.length (p0.2.1 ++ V_hauberkref27_read (V_hauberkref27_lines p0.2.2.2.1.1, p0.2.2.2.1.2.2.2.2.2.1)) + List.length (V_hauberkref27_Put (V_hauberkref26_Temp p0.2.2.2.1.2.1, x.2.2, 3))) * 64) 140737488355328)
              (.ret ((p0.2.1 ++ V_hauberkref27_read (V_hauberkref27_lines p0.2.2.2.1.1, p0.2.2.2.1.2.2.2.2.2.1) ++ V_hauberkref27_Put (V_hauberkref26_Temp p0.2.2.2.1.2.1, x.2.2, 3), 0, ())))
              .fail)
             (.ret ((p0.2.1 ++ V_hauberkref27_read (V_hauberkref27_lines p0.2.2.2.1.1, p0.2.2.2.1.2.2.2.2.2.1), 0, ()))))
            .fail)
           .fail)
          .fail)))))
     .fail))
   .fail)
def G_hauberkref27_Op (x : dens A_hauberkref27_Op) : Bool := (T_hauberkref27_Op x).val.isSome
def V_hauberkref27_Op (x : dens A_hauberkref27_Op) : Sh.den S_hauberkref27_Op := (T_hauberkref27_Op x).getO default
theorem ok_hauberkref27_Op (x : dens A_hauberkref27_Op) (h : G_hauberkref27_Op x = true) : (T_hauberkref27_Op x).val = some (V_hauberkref27_Op x) := PO.getO_ok default h
def L_rail_items_3 : LoopN where
  M := [3, 6, 7, 8]
  T := [5, 9, 10, 11, 12, 13, 14, 15, 16, 17]
  D := [6, 7, 8]
  ss := [.osl 0 tItem, .ty (.sl tIns), .ty (.int .i64), .ty (.int .i64)]
  hs := []
  es := [.exit 0]
  σ := (List (Ty.den tItem)) × (Ty.den (.int .i64))
  x0 := fun x _ => (x.1, x.2.2.2)
  put := fun x _ s => ((s.1, x.2.1, x.2.2.1, s.2), ())
  fuel := fun x _ => List.length x.2.1 + 1
  turn := fun x _ s =>
  (.ite (decide (s.2 < x.2.2.1))
   (.ite (inRange s.2 (List.length x.2.1))
    (.ite (Nat.ble ((List.length s.1 + List.length [(0, 0, List.getD x.2.1 (Int.toNat s.2) (Ty.dflt tIns), ())]) * 80) 140737488355328)
     (.ret (.on (s.1 ++ [(0, 0, List.getD x.2.1 (Int.toNat s.2) (Ty.dflt tIns), ())], w64 (s.2 + 1))))
     .fail)
    .fail)
   (.ret (.out 0 (s.1, s.2))))
/-- rail.items -/
abbrev A_rail_items : List Ty := [(.sl tIns)]
abbrev S_rail_items : Sh := Sh.osl 32 tItem
def T_rail_items (x : dens A_rail_items) : PO (Sh.den S_rail_items) :=
  (.opt (LoopN.res L_rail_items_3 ([], x, lenI x, 0) ()) fun p0 =>
   (.ret (p0.2.1)))
def G_rail_items (x : dens A_rail_items) : Bool := (T_rail_items x).val.isSome
def V_rail_items (x : dens A_rail_items) : Sh.den S_rail_items := (T_rail_items x).getO default
theorem ok_rail_items (x : dens A_rail_items) (h : G_rail_items x = true) : (T_rail_items x).val = some (V_rail_items x) := PO.getO_ok default h
/-- rail.Op -/
abbrev A_rail_Op : List Ty := [tOp, tSpot]
abbrev S_rail_Op : Sh := Sh.tup (Sh.pair (Sh.osl 32 tItem) (Sh.pair (Sh.ty (Ty.int IntKind.i64)) (Sh.ty Ty.unit)))
def T_rail_Op (x : dens A_rail_Op) : PO (Sh.den S_rail_Op) :=
  (.ite (G_tmpl_Op (x.1, x.2, 0))
   (.ite ((V_tmpl_Op (x.1, x.2, 0)).2.1 != 0)
    (.ret (([], (V_tmpl_Op (x.1, x.2, 0)).2.1, ())))
    (.ite (G_rail_items (V_tmpl_Op (x.1, x.2, 0)).1)
     (.ite (Nat.ble ((List.length ([] : List tItem.den) + List.length (V_rail_items (V_tmpl_Op (x.1, x.2, 0)).1)) * 80) 140737488355328)
      (.ite (G_tmpl_Op (x.1, x.2, 1))
       (.ite ((V_tmpl_Op (x.1, x.2, 1)).2.1 != 0)
        (.ret (([], (V_tmpl_Op (x.1, x.2, 1)).2.1, ())))
        (.ite (G_rail_items (V_tmpl_Op (x.1, x.2, 1)).1)
         (.ite (Nat.ble ((List.length ([] ++ V_rail_items (V_tmpl_Op (x.1, x.2, 0)).1) + List.length (V_rail_items (V_tmpl_Op (x.1, x.2, 1)).1)) * 80) 140737488355328)
          (.ret (([] ++ V_rail_items (V_tmpl_Op (x.1, x.2, 0)).1 ++ V_rail_items (V_tmpl_Op (x.1, x.2, 1)).1, 0, ())))
          .fail)
         .fail))
       .fail)
      .fail)
     .fail))
   .fail)
def G_rail_Op (x : dens A_rail_Op) : Bool := (T_rail_Op x).val.isSome
def V_rail_Op (x : dens A_rail_Op) : Sh.den S_rail_Op := (T_rail_Op x).getO default
theorem ok_rail_Op (x : dens A_rail_Op) (h : G_rail_Op x = true) : (T_rail_Op x).val = some (V_rail_Op x) := PO.getO_ok default h
/-- hauberklaw27.lives: an example, computed -/
abbrev A_hauberklaw27_lives : List Ty := []
abbrev S_hauberklaw27_lives : Sh := .ty .bool
def T_hauberklaw27_lives (_ : dens A_hauberklaw27_lives) : PO Bool := .ret true
def G_hauberklaw27_lives (_ : dens A_hauberklaw27_lives) : Bool := true
def V_hauberklaw27_lives (_ : dens A_hauberklaw27_lives) : Bool := true
theorem ok_hauberklaw27_lives (x : dens A_hauberklaw27_lives) (_ : G_hauberklaw27_lives x = true) : (T_hauberklaw27_lives x).val = some (V_hauberklaw27_lives x) := rfl
def L_hauberkref29_Out_Ins_1 : LoopN where
  M := [0, 1, 4]
  T := [5, 6, 7, 8, 9, 10, 11, 12, 13, 14, 15, 16, 17, 18, 19, 20, 21, 22, 23, 24]
  D := [0, 1, 4]
  ss := [.box 0 0, .ty (.sl tIns), .ty (.int .i64)]
  hs := [.pair (.osl 0 tItem) (.ty .unit)]
  es := [.exit 0]
  σ := (Ty.den (.int .i64)) × (Sh.den (.pair (.osl 0 tItem) (.ty .unit)))
  x0 := fun x y => (x.2.2, y)
  put := fun x _ s => ((x.1, x.2.1, s.1), s.2)
  fuel := fun x _ => List.length x.2.1 + 1
  turn := fun x _ s =>
  (.ite (decide (s.1 < lenI x.2.1))
   (.ite (inRange s.1 (List.length x.2.1))
    (.ite (Nat.ble ((List.length s.2.1 + List.length [(0, 0, List.getD x.2.1 (Int.toNat s.1) (Ty.dflt tIns), ())]) * 80) 140737488355328)
     (.ret (.on (w64 (s.1 + 1), (s.2.1 ++ [(0, 0, List.getD x.2.1 (Int.toNat s.1) (Ty.dflt tIns), ())], s.2.2))))
     .fail)
    .fail)
   (.ret (.out 0 (s.1, s.2))))
/-- hauberkref29.Op -/
abbrev A_hauberkref29_Op : List Ty := [tOp, tSpot]
abbrev S_hauberkref29_Op : Sh := Sh.tup (Sh.pair (Sh.osl 32 tItem) (Sh.pair (Sh.ty (Ty.int IntKind.i64)) (Sh.ty Ty.unit)))
def T_hauberkref29_Op (x : dens A_hauberkref29_Op) : PO (Sh.den S_hauberkref29_Op) :=
  (.ite (G_hauberkref27_Op (x.1, x.2, 0))
   (.ite ((V_hauberkref27_Op (x.1, x.2, 0)).2.1 != 0)
    (.ret (([], (V_hauberkref27_Op (x.1, x.2, 0)).2.1, ())))
    (.ite (G_hauberkref27_Op (x.1, x.2, 1))
     (.opt (LoopN.res L_hauberkref29_Out_Ins_1 ((), (V_hauberkref27_Op (x.1, x.2, 0)).1, 0) ([], ())) fun p0 =>
      (.opt (LoopN.res L_hauberkref29_Out_Ins_1 ((), (V_hauberkref27_Op (x.1, x.2, 1)).1, 0) (p0.2.2.1, p0.2.2.2)) fun p1 =>
       (.ret ((p1.2.2.1, 0, ())))))
     .fail))
   .fail)
def G_hauberkref29_Op (x : dens A_hauberkref29_Op) : Bool := (T_hauberkref29_Op x).val.isSome
def V_hauberkref29_Op (x : dens A_hauberkref29_Op) : Sh.den S_hauberkref29_Op := (T_hauberkref29_Op x).getO default
theorem ok_hauberkref29_Op (x : dens A_hauberkref29_Op) (h : G_hauberkref29_Op x = true) : (T_hauberkref29_Op x).val = some (V_hauberkref29_Op x) := PO.getO_ok default h
end Go.Av
