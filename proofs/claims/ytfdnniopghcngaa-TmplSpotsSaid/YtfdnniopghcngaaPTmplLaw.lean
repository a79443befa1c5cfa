/- Layer 27: the laws. -/
import Derived.Test.YtfdnniopghcngaaPTmpl
namespace Go.Av
open Go

theorem inRange_iff (i : Int) (n : Nat) : inRange i n = true ↔ 0 ≤ i ∧ i < n := by
  simp [inRange]

theorem getO_of {α : Type} {d v : α} {t : PO α} (h : t.val = some v) : t.getO d = v := by
  rw [PO.getO, h]; rfl

/-- What both say. -/
def spotV (l : List tArray.den) (f : tFrame.den) (o : tOp.den) : tSpot.den :=
  bif (o.1 == 18 || o.1 == 19) && (inRange o.2.2.2.2.2.1 l.length && inRange o.2.2.2.2.2.1 f.2.1.length) then
    ((List.getD l (Int.toNat o.2.2.2.2.2.1) (Ty.dflt tArray)).1, List.getD f.2.1 (Int.toNat o.2.2.2.2.2.1) (Ty.dflt (Ty.int IntKind.i64)), (List.getD l (Int.toNat o.2.2.2.2.2.1) (Ty.dflt tArray)).2.2.1 == 1, ())
  else (0, 0, false, ())

theorem inR_lo {i : Int} {n : Nat} (h : i < 0) : inRange i n = false := by
  unfold inRange
  rw [dec_false (show ¬ 0 ≤ i by omega)]
  rfl

theorem inR_hi {i : Int} {n : Nat} (h : i ≥ n) : inRange i n = false := by
  unfold inRange
  rw [dec_false (show ¬ i < n by omega), Bool.and_false]

theorem inR_in {i : Int} {n : Nat} (h1 : ¬ i < 0) (h2 : ¬ i ≥ n) : inRange i n = true := (inRange_iff _ _).2 ⟨by omega, by omega⟩

theorem Spot_val (l : List tArray.den) (f : tFrame.den) (o : tOp.den) : (T_tmpl_Spot (l, f, o)).val = some (spotV l f o) := by
  simp only [T_tmpl_Spot, PO.val, spotV]
  cases h1 : (o.1 == 18 || o.1 == 19)
  · rfl
  · by_cases h2 : o.2.2.2.2.2.1 < 0
    · rw [dec_true h2, inR_lo h2]
      rfl
    · by_cases h3 : o.2.2.2.2.2.1 ≥ lenI l
      · rw [dec_false h2, dec_true h3, inR_hi h3]
        rfl
      · by_cases h4 : o.2.2.2.2.2.1 ≥ lenI f.2.1
        · rw [dec_false h2, dec_false h3, dec_true h4, inR_hi (n := f.2.1.length) h4]
          simp
        · rw [dec_false h2, dec_false h3, dec_false h4, inR_in h2 h3, inR_in (n := f.2.1.length) h2 h4]
          rfl

theorem least_ge (i : Int) (m n : Nat) : (decide (i < 0) || decide (i ≥ imin (m : Int) (n : Int))) = !(inRange i m && inRange i n) := by
  rw [Bool.eq_iff_iff]
  simp only [Bool.or_eq_true, decide_eq_true_eq, Bool.not_eq_true', Bool.and_eq_false_iff, inRange, imin, Bool.cond_eq_ite, decide_eq_false_iff_not]
  split <;> omega

theorem Spot_val' (l : List tArray.den) (f : tFrame.den) (o : tOp.den) : (T_hauberkref27_Spot (l, f, o)).val = some (spotV l f o) := by
  have m : (decide (o.2.2.2.2.2.1 < 0) || decide (o.2.2.2.2.2.1 ≥ imin (lenI l) (lenI f.2.1))) = !(inRange o.2.2.2.2.2.1 l.length && inRange o.2.2.2.2.2.1 f.2.1.length) := least_ge _ _ _
  simp only [T_hauberkref27_Spot, PO.val, spotV]
  rw [m]
  cases h1 : (o.1 == 18)
  · cases h2 : (o.1 == 19)
    · simp [bne, h1, h2]
    · cases h3 : inRange o.2.2.2.2.2.1 l.length <;> cases h4 : inRange o.2.2.2.2.2.1 f.2.1.length <;> simp [bne, h1, h2]
  · cases h3 : inRange o.2.2.2.2.2.1 l.length <;> cases h4 : inRange o.2.2.2.2.2.1 f.2.1.length <;> simp [bne, h1]

theorem law_hauberklaw27_TmplSpots (x : dens A_hauberklaw27_TmplSpots) (_ : fitsAll maxLen A_hauberklaw27_TmplSpots x) : (T_hauberklaw27_TmplSpots x).val = some true := by
  have h1 := Spot_val x.1 x.2.1 x.2.2
  have h2 := Spot_val' x.1 x.2.1 x.2.2
  have e1 : V_tmpl_Spot (x.1, x.2.1, x.2.2) = spotV x.1 x.2.1 x.2.2 := getO_of h1
  have e2 : V_hauberkref27_Spot (x.1, x.2.1, x.2.2) = spotV x.1 x.2.1 x.2.2 := getO_of h2
  have g1 : G_tmpl_Spot (x.1, x.2.1, x.2.2) = true := by rw [G_tmpl_Spot, h1]; rfl
  have g2 : G_hauberkref27_Spot (x.1, x.2.1, x.2.2) = true := by rw [G_hauberkref27_Spot, h2]; rfl
  simp [T_hauberklaw27_TmplSpots, PO.val, g1, g2, e1, e2, eqb_refl]
end Go.Av
