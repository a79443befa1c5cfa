/- Layer 29: the way to one block or another. -/
import Derived.Test.YtapfijocjgoilaaPRailLaw
namespace Go.Av
open Go
/-- memmap.Rail -/
abbrev A_memmap_Rail : List Ty := [(.int .i64)]
abbrev S_memmap_Rail : Sh := Sh.ty (Ty.int IntKind.i64)
def T_memmap_Rail (x : dens A_memmap_Rail) : PO (Sh.den S_memmap_Rail) :=
  (.ite (x == 0)
   (.ret (537133056))
   (.ite (x == 1)
    (.ret (537395200))
    (.ret (0))))
def G_memmap_Rail (_ : dens A_memmap_Rail) : Bool := true
def V_memmap_Rail (x : dens A_memmap_Rail) : Sh.den S_memmap_Rail := (T_memmap_Rail x).getO default
theorem ok_memmap_Rail (x : dens A_memmap_Rail) (_ : G_memmap_Rail x = true) : (T_memmap_Rail x).val = some (V_memmap_Rail x) := PO.sure_ok default (by simp [T_memmap_Rail, PO.sure])
/-- tmpl.fits -/
abbrev A_tmpl_fits : List Ty := [(.int .i64), (.int .i64), (.int .i64)]
abbrev S_tmpl_fits : Sh := Sh.ty Ty.bool
def T_tmpl_fits (x : dens A_tmpl_fits) : PO (Sh.den S_tmpl_fits) :=
  (.ret (decide (x.1 ≥ 0) && (decide (x.1 ≤ 65535) && bif x.2.1 == 0 then decide (x.2.2 ≥ 0) && decide (x.2.2 ≤ 7) else x.2.1 == 1 && (decide (x.2.2 ≥ 0) && decide (x.2.2 ≤ 7)))))
def G_tmpl_fits (_ : dens A_tmpl_fits) : Bool := true
def V_tmpl_fits (x : dens A_tmpl_fits) : Sh.den S_tmpl_fits := (T_tmpl_fits x).getO default
theorem ok_tmpl_fits (x : dens A_tmpl_fits) (_ : G_tmpl_fits x = true) : (T_tmpl_fits x).val = some (V_tmpl_fits x) := PO.sure_ok default (by simp [T_tmpl_fits, PO.sure])
/-- frame.Temp -/
abbrev A_frame_Temp : List Ty := [(.int .i64)]
abbrev S_frame_Temp : Sh := Sh.ty (Ty.int IntKind.i64)
def T_frame_Temp (x : dens A_frame_Temp) : PO (Sh.den S_frame_Temp) :=
  (.ite (decide (x < 0) || decide (x > 16382))
   (.ret (0))
   (.ret (w64 (4 + w64 (4 * x)))))
def G_frame_Temp (_ : dens A_frame_Temp) : Bool := true
def V_frame_Temp (x : dens A_frame_Temp) : Sh.den S_frame_Temp := (T_frame_Temp x).getO default
theorem ok_frame_Temp (x : dens A_frame_Temp) (_ : G_frame_Temp x = true) : (T_frame_Temp x).val = some (V_frame_Temp x) := PO.sure_ok default (by simp [T_frame_Temp, PO.sure])
/-- hauberkref26.Temp -/
abbrev A_hauberkref26_Temp : List Ty := [(.int .i64)]
abbrev S_hauberkref26_Temp : Sh := Sh.ty (Ty.int IntKind.i64)
def T_hauberkref26_Temp (x : dens A_hauberkref26_Temp) : PO (Sh.den S_hauberkref26_Temp) :=
  (.ite (decide (x ≥ 0) && decide (x ≤ 16382))
   (.ret (w64 (4 * w64 (x + 1))))
   (.ret (0)))
def G_hauberkref26_Temp (_ : dens A_hauberkref26_Temp) : Bool := true
def V_hauberkref26_Temp (x : dens A_hauberkref26_Temp) : Sh.den S_hauberkref26_Temp := (T_hauberkref26_Temp x).getO default
theorem ok_hauberkref26_Temp (x : dens A_hauberkref26_Temp) (_ : G_hauberkref26_Temp x = true) : (T_hauberkref26_Temp x).val = some (V_hauberkref26_Temp x) := PO.sure_ok default (by simp [T_hauberkref26_Temp, PO.sure])
/-- A word of a rail, into register d. -/
def getI (x : Int × Int × Int) : List tIns.den := [movw 7 x.1, insI 4 7 0 0 0 (bif x.2.1 == 0 then 8196 else 8200) 0, ldrI x.2.2 7]
def getG (x : Int × Int × Int) : Bool := decide (0 ≤ x.1) && (decide (x.1 ≤ 65535) && (decide (0 ≤ x.2.1) && (decide (x.2.1 ≤ 1) && (decide (0 ≤ x.2.2) && decide (x.2.2 ≤ 7)))))
/-- tmpl.Get -/
abbrev A_tmpl_Get : List Ty := [(.int .i64), (.int .i64), (.int .i64)]
abbrev S_tmpl_Get : Sh := Sh.osl 32 tIns
def T_tmpl_Get (x : dens A_tmpl_Get) : PO (Sh.den S_tmpl_Get) :=
  (.ite (!V_tmpl_fits (x.1, x.2.1, x.2.2))
   (.ret ([]))
   (.ite (Nat.ble ((List.length (V_tmpl_Word (7, w64 (V_memmap_Rail x.2.1 + x.1))) + List.length [(19, x.2.2, 7, 0, 0, 0, 0, false, ())]) * 64) 140737488355328)
    (.ret (V_tmpl_Word (7, w64 (V_memmap_Rail x.2.1 + x.1)) ++ [(19, x.2.2, 7, 0, 0, 0, 0, false, ())]))
    .fail))
def G_tmpl_Get (x : dens A_tmpl_Get) : Bool := getG x
def V_tmpl_Get (x : dens A_tmpl_Get) : List tIns.den := getI x
theorem get_ok (a r d : Int) (h : getG (a, r, d) = true) : (T_tmpl_Get (a, r, d)).val = some (getI (a, r, d)) := by
  simp only [getG, Bool.and_eq_true, decide_eq_true_eq] at h
  obtain ⟨h1, h2, h3, h4, h5, h6⟩ := h
  have hr : r = 0 ∨ r = 1 := by omega
  have e : ∀ b : Int, 0 ≤ b → b < 65536 → lo false (b * 65536 + a) = a ∧ hi false (b * 65536 + a) = b := by
    intro b hb1 hb2
    simp only [lo, hi]
    rw [ishr_16, band_16, band_16]
    omega
  have w : ∀ b : Int, b = 537133056 ∨ b = 537395200 → w64 (b + a) = b + a := fun b hb => w64_id (by omega) (by omega)
  have d1 : decide (a ≥ 0) = true := dec_true h1
  have d2 : decide (a ≤ 65535) = true := dec_true h2
  have d3 : decide (d ≥ 0) = true := dec_true h5
  have d4 : decide (d ≤ 7) = true := dec_true h6
  rcases hr with rfl | rfl
  · have e1 := e 8196 (by omega) (by omega)
    have hf : V_tmpl_fits (a, 0, d) = true := by simp [V_tmpl_fits, T_tmpl_fits, PO.getO, PO.val, d1, d2, d3, d4]
    have hm : V_memmap_Rail 0 = 537133056 := rfl
    have hw : V_tmpl_Word (7, 537133056 + a) = [movw 7 a, insI 4 7 0 0 0 8196 0] := by
      show wordI false 7 (8196 * 65536 + a) = _
      simp only [wordI, e1.1, e1.2]
    simp only [T_tmpl_Get, hf, hm, w _ (Or.inl rfl), hw]
    rfl
  · have e1 := e 8200 (by omega) (by omega)
    have hf : V_tmpl_fits (a, 1, d) = true := by simp [V_tmpl_fits, T_tmpl_fits, PO.getO, PO.val, d1, d2, d3, d4]
    have hm : V_memmap_Rail 1 = 537395200 := rfl
    have hw : V_tmpl_Word (7, 537395200 + a) = [movw 7 a, insI 4 7 0 0 0 8200 0] := by
      show wordI false 7 (8200 * 65536 + a) = _
      simp only [wordI, e1.1, e1.2]
    simp only [T_tmpl_Get, hf, hm, w _ (Or.inr rfl), hw]
    rfl
theorem ok_tmpl_Get (x : dens A_tmpl_Get) (h : G_tmpl_Get x = true) : (T_tmpl_Get x).val = some (V_tmpl_Get x) := get_ok x.1 x.2.1 x.2.2 h
/-- hauberkref27.rail -/
abbrev A_hauberkref27_rail : List Ty := [(.int .i64)]
abbrev S_hauberkref27_rail : Sh := Sh.ty (Ty.int IntKind.i64)
def T_hauberkref27_rail (x : dens A_hauberkref27_rail) : PO (Sh.den S_hauberkref27_rail) :=
  (.ite (x == 0)
   (.ret (8196))
   (.ret (8200)))
def G_hauberkref27_rail (_ : dens A_hauberkref27_rail) : Bool := true
def V_hauberkref27_rail (x : dens A_hauberkref27_rail) : Sh.den S_hauberkref27_rail := (T_hauberkref27_rail x).getO default
theorem ok_hauberkref27_rail (x : dens A_hauberkref27_rail) (_ : G_hauberkref27_rail x = true) : (T_hauberkref27_rail x).val = some (V_hauberkref27_rail x) := PO.sure_ok default (by simp [T_hauberkref27_rail, PO.sure])
/-- hauberkref27.Get -/
abbrev A_hauberkref27_Get : List Ty := [(.int .i64), (.int .i64), (.int .i64)]
abbrev S_hauberkref27_Get : Sh := Sh.osl 32 tIns
def T_hauberkref27_Get (x : dens A_hauberkref27_Get) : PO (Sh.den S_hauberkref27_Get) :=
  (.ite (decide (x.1 < 0) || (decide (x.1 > 65535) || (decide (x.2.1 < 0) || (decide (x.2.1 > 1) || (decide (x.2.2 < 0) || decide (x.2.2 > 7))))))
   (.ret ([]))
   (.ret ([movw 7 x.1, insI 4 7 0 0 0 (V_hauberkref27_rail x.2.1) 0, ldrI x.2.2 7])))
def G_hauberkref27_Get (x : dens A_hauberkref27_Get) : Bool := getG x
def V_hauberkref27_Get (x : dens A_hauberkref27_Get) : List tIns.den := getI x
theorem getR_ok (a r d : Int) (h : getG (a, r, d) = true) : (T_hauberkref27_Get (a, r, d)).val = some (getI (a, r, d)) := by
  simp only [getG, Bool.and_eq_true, decide_eq_true_eq] at h
  obtain ⟨h1, h2, h3, h4, h5, h6⟩ := h
  have hr : r = 0 ∨ r = 1 := by omega
  have d1 : decide (a < 0) = false := dec_false (by omega)
  have d2 : decide (a > 65535) = false := dec_false (by omega)
  have d3 : decide (d < 0) = false := dec_false (by omega)
  have d4 : decide (d > 7) = false := dec_false (by omega)
  rcases hr with rfl | rfl
  · simp only [T_hauberkref27_Get, d1, d2, d3, d4]
    rfl
  · simp only [T_hauberkref27_Get, d1, d2, d3, d4]
    rfl
theorem ok_hauberkref27_Get (x : dens A_hauberkref27_Get) (h : G_hauberkref27_Get x = true) : (T_hauberkref27_Get x).val = some (V_hauberkref27_Get x) := getR_ok x.1 x.2.1 x.2.2 h
/-- The whole way. -/
def branchL (ref : Bool) (at' x h : Int) (jn jy : List tItem.den) : List tItem.den :=
  its (getI (at', 0, 0)) ++ cmpL ref false 4294967295 0 x ++ cmpL ref true 0 1 h ++ its (getI (at', 1, 0)) ++ cmpL ref true 0 1 h ++ jn ++ [itL x] ++ its (getI (at', 1, 0)) ++ cmpL ref false 4294967295 1 h ++ jy
def jmpL (ref : Bool) (k : Int) : List tItem.den := jumpL ref (V_rail_Tag k) k
abbrev A_hauberklaw29_RailBranch : List Ty := [tTerm, tI, tI]
abbrev S_hauberklaw29_RailBranch : Sh := Sh.ty Ty.bool
/-- The law's last line. -/
def sameP (l r : List tItem.den) (e : Bool) : PO Bool := .ite (G_hauberkref28_Same (l, r) && bif V_hauberkref28_Same (l, r) then e || true else true) (.ret (V_hauberkref28_Same (l, r) && (e && true))) .fail
def mayB (x : dens A_hauberklaw29_RailBranch) : Bool := x.1.1 == 2 && (decide (x.1.2.1 ≥ 0) && decide (x.1.2.1 ≤ 16382))
def yesR (x : dens A_hauberklaw29_RailBranch) (l : List tItem.den) (e : Int) (jn : List tItem.den) : PO Bool :=
  .ite (G_hauberkref27_Get (V_hauberkref26_Temp x.1.2.1, 1, 0))
   (.ite (decide (x.1.2.2.1 ≥ 0)) (sameP l (branchL true (V_hauberkref26_Temp x.1.2.1) x.2.1 x.2.2 jn (jmpL true x.1.2.2.1)) (e == 0)) (sameP l (branchL true (V_hauberkref26_Temp x.1.2.1) x.2.1 x.2.2 jn [itB x.2.2, itB x.2.2]) (e == 0))) .fail
/-- Behind the program's answer: the document's. -/
def restP (x : dens A_hauberklaw29_RailBranch) (l : List tItem.den) (e : Int) : PO Bool :=
  .ite (!mayB x) (.ite (bif lenI l == 0 then e == 2 || true else true) (.ret (lenI l == 0 && (e == 2 && true))) .fail)
   (.ite (G_hauberkref27_Get (V_hauberkref26_Temp x.1.2.1, 0, 0))
    (.ite (G_hauberkref27_Get (V_hauberkref26_Temp x.1.2.1, 1, 0))
     (.ite (decide (x.1.2.2.2.1 ≥ 0)) (yesR x l e (jmpL true x.1.2.2.2.1)) (yesR x l e [itB x.2.2, itB x.2.2]))
     .fail)
    .fail)
/-- rail.Branch -/
abbrev A_rail_Branch : List Ty := [tTerm, tI, tI]
abbrev S_rail_Branch : Sh := .tup (.pair (.osl 32 tItem) (.pair (.ty (.int .i64)) (.ty .unit)))
def wayB (k h : Int) : List tItem.den := bif decide (k < 0) then [itB h, itB h] else jmpL false k
def yesT (x : dens A_rail_Branch) (jn : List tItem.den) : PO (Sh.den S_rail_Branch) :=
  .ite (G_tmpl_Get (V_frame_Temp x.1.2.1, 1, 0))
   (.ite (decide (x.1.2.2.1 < 0)) (.ret (branchL false (V_frame_Temp x.1.2.1) x.2.1 x.2.2 jn [itB x.2.2, itB x.2.2], 0, ())) (.ret (branchL false (V_frame_Temp x.1.2.1) x.2.1 x.2.2 jn (jmpL false x.1.2.2.1), 0, ()))) .fail
def badB (x : dens A_rail_Branch) : Bool := x.1.1 != 2 || (decide (x.1.2.1 < 0) || decide (x.1.2.1 ≥ 16383))
def T_rail_Branch (x : dens A_rail_Branch) : PO (Sh.den S_rail_Branch) :=
  .ite (badB x) (.ret ([], 2, ()))
   (.ite (G_tmpl_Get (V_frame_Temp x.1.2.1, 0, 0))
    (.ite (G_tmpl_Get (V_frame_Temp x.1.2.1, 1, 0))
     (.ite (decide (x.1.2.2.2.1 < 0)) (yesT x [itB x.2.2, itB x.2.2]) (yesT x (jmpL false x.1.2.2.2.1)))
     .fail)
    .fail)
def G_rail_Branch (_ : dens A_rail_Branch) : Bool := true
def V_rail_Branch (x : dens A_rail_Branch) : Sh.den S_rail_Branch := bif badB x then ([], 2, ()) else (branchL false (V_frame_Temp x.1.2.1) x.2.1 x.2.2 (wayB x.1.2.2.2.1 x.2.2) (wayB x.1.2.2.1 x.2.2), 0, ())
theorem val_ite {α : Type} (b : Bool) (p q : PO α) : (PO.ite b p q).val = bif b then p.val else q.val := by cases b <;> rfl
theorem temp_fr (a : Int) (h1 : 0 ≤ a) (h2 : a ≤ 16382) : V_frame_Temp a = 4 * (a + 1) := by
  have d1 : decide (a < 0) = false := dec_false (by omega)
  have d2 : decide (a > 16382) = false := dec_false (by omega)
  have e : V_frame_Temp a = w64 (4 + w64 (4 * a)) := by simp [V_frame_Temp, T_frame_Temp, PO.getO, PO.val, d1, d2]
  rw [e, w64_id (n := 4 * a) (by omega) (by omega), w64_id (by omega) (by omega)]
  show (4 + 4 * a : Int) = 4 * (a + 1)
  omega
theorem getG_ok (a r : Int) (h1 : 0 ≤ a) (h2 : a ≤ 65535) (hr : 0 ≤ r) (hr' : r ≤ 1) : getG (a, r, 0) = true := by
  simp [getG, h1, h2, hr, hr']
theorem get_temp (a r : Int) (h1 : 0 ≤ a) (h2 : a ≤ 16382) (hr : 0 ≤ r) (hr' : r ≤ 1) : getG (4 * (a + 1), r, 0) = true := getG_ok _ _ (by omega) (by omega) hr hr'
theorem in_range (a : Int) (h1 : decide (a < 0) = false) (h2 : decide (a ≥ 16383) = false) : 0 ≤ a ∧ a ≤ 16382 := by
  have := of_decide_eq_false h1
  have := of_decide_eq_false h2
  omega
theorem ok_rail_Branch (x : dens A_rail_Branch) (_ : G_rail_Branch x = true) : (T_rail_Branch x).val = some (V_rail_Branch x) := by
  unfold T_rail_Branch V_rail_Branch
  rw [val_ite]
  cases hb : badB x with
  | true => rfl
  | false =>
    have hb' := hb
    simp only [badB, Bool.or_eq_false_iff] at hb'
    obtain ⟨k0, k1⟩ := in_range x.1.2.1 hb'.2.1 hb'.2.2
    have g0 : G_tmpl_Get (4 * (x.1.2.1 + 1), 0, 0) = true := get_temp x.1.2.1 0 k0 k1 (by decide) (by decide)
    have g1 : G_tmpl_Get (4 * (x.1.2.1 + 1), 1, 0) = true := get_temp x.1.2.1 1 k0 k1 (by decide) (by decide)
    simp only [yesT, val_ite, temp_fr _ k0 k1, g0, g1, wayB, cond_false, cond_true]
    cases decide (x.1.2.2.2.1 < 0) <;> cases decide (x.1.2.2.1 < 0) <;> simp only [cond_false, cond_true, PO.val]
/-- hauberklaw29.RailBranch -/
def T_hauberklaw29_RailBranch (x : dens A_hauberklaw29_RailBranch) : PO (Sh.den S_hauberklaw29_RailBranch) := restP x (V_rail_Branch x).1 (V_rail_Branch x).2.1
end Go.Av
