/- No instruction of any operation makes what it is made of: proved of what the functions compute. -/
import Derived.Test.YtapfijocjgoilaaPTLawb
import Derived.Test.YtapfijocjgoilaaPTLawaLaw
namespace Go.Av
open Go
/-- Is an instruction none that may be done twice? -/
def badI (z : tIns.den) : Bool := (bif bif z.1 == 5 then z.1 == 5 else bif z.1 == 6 then z.1 == 6 else bif z.1 == 7 then z.1 == 7 else bif z.1 == 8 then z.1 == 8 else z.1 == 9 then decide (z.2.1 > 7) || (decide (z.2.2.1 > 7) || (decide (z.2.2.2.1 > 7) || (z.1 == 24 || (z.1 == 25 || (z.1 == 2 || z.1 == 23))))) || z.2.1 == z.2.2.2.1 else bif bif z.1 == 18 then z.1 == 18 else bif z.1 == 19 then z.1 == 19 else z.1 == 21 then decide (z.2.1 > 7) || (decide (z.2.2.1 > 7) || (decide (z.2.2.2.1 > 7) || (z.1 == 24 || (z.1 == 25 || (z.1 == 2 || z.1 == 23))))) || z.2.1 == z.2.2.1 else bif bif z.1 == 20 then z.1 == 20 else bif z.1 == 22 then z.1 == 22 else bif z.1 == 3 then z.1 == 3 else z.1 == 4 then decide (z.2.1 > 7) || (decide (z.2.2.1 > 7) || (decide (z.2.2.2.1 > 7) || (z.1 == 24 || (z.1 == 25 || (z.1 == 2 || z.1 == 23))))) else bif z.1 == 17 then decide (z.2.1 > 7) || (decide (z.2.2.1 > 7) || (decide (z.2.2.2.1 > 7) || (z.1 == 24 || (z.1 == 25 || (z.1 == 2 || z.1 == 23))))) || (z.2.1 == z.2.2.1 || (z.2.1 == z.2.2.2.1 || (z.2.2.2.2.1 == z.2.2.1 || z.2.2.2.2.1 == z.2.2.2.1))) else decide (z.2.1 > 7) || (decide (z.2.2.1 > 7) || (decide (z.2.2.2.1 > 7) || (z.1 == 24 || (z.1 == 25 || (z.1 == 2 || z.1 == 23))))) || (z.2.1 == z.2.2.1 || z.2.1 == z.2.2.2.1))
theorem safe_run (l : List tIns.den) (hl : l.length ≤ 100) (hall : l.all (fun z => !badI z) = true) : ∀ (k i : Nat), i + k = l.length → ∀ f, k < f →
    runL (L_hauberklaw27_TmplSafe_5.turn (false, l, 0) ()) f (false, (i : Int)) = some (0, false, ((l.length : Nat) : Int))
  | 0, i, h, f, hf => by
    obtain ⟨f, rfl⟩ : ∃ g, f = g + 1 := ⟨f - 1, by omega⟩
    refine (runL_out (c := 0) (s' := (false, (i : Int))) ?_).trans (by rw [show i = l.length by omega])
    dsimp only [L_hauberklaw27_TmplSafe_5, PO.val]
    rw [dec_false (p := (i : Int) < lenI l) (by simp only [lenI]; omega)]
    rfl
  | k + 1, i, h, f, hf => by
    obtain ⟨f, rfl⟩ : ∃ g, f = g + 1 := ⟨f - 1, by omega⟩
    have hi : i < l.length := by omega
    have hw : w64 ((i : Int) + 1) = ((i + 1 : Nat) : Int) := by rw [w64_id (by omega) (by omega)]; omega
    have hb : badI l[i] = false := by
      have := List.all_eq_true.1 hall _ (List.getElem_mem hi)
      simpa using this
    have e : (L_hauberklaw27_TmplSafe_5.turn (false, l, 0) () (false, (i : Int))).val = (bif decide ((i : Int) < lenI l) then (bif inRange (i : Int) l.length then (bif badI (List.getD l (Int.toNat (i : Int)) (Ty.dflt tIns)) then some (TL.out 1 (false, (i : Int))) else some (TL.on (false, w64 ((i : Int) + 1)))) else none) else some (TL.out 0 (false, (i : Int)))) := rfl
    rw [dec_true (p := (i : Int) < lenI l) (by simp only [lenI]; omega), inR hi, getD_nat, getD_in l _ hi, hb, hw] at e
    exact (runL_on e).trans (safe_run l hl hall k (i + 1) (by omega) f (by omega))
theorem gets_safe (r : Int) : ∀ (u : List Int) (i : Nat), i + u.length ≤ 3 → (gets r u i).all (fun z => !badI z) = true
  | [], _, _ => rfl
  | t :: u, i, h => by
    show (getI (4 * (t + 1), r, (i : Int)) ++ gets r u (i + 1)).all (fun z => !badI z) = true
    rw [List.length_cons] at h
    rw [List.all_append, gets_safe r u (i + 1) (by omega), Bool.and_true]
    have hi : i = 0 ∨ i = 1 ∨ i = 2 := by omega
    rcases hi with rfl | rfl | rfl <;> exact Eq.symm (Eq.symm (by kernel_rfl))
theorem inner_safe (k d a b c i : Int) (s : tSpot.den) (r : Int) (h : okOp (opI k d a b c i) s r = true) : (V_tmpl_inner (opI k d a b c i, s, r)).all (fun z => !badI z) = true := by
  have hk := ok_kind h
  rcases kinds k with rfl | rfl | rfl | rfl | rfl | rfl | rfl | rfl | rfl | rfl | rfl | rfl | rfl | rfl | rfl | rfl | rfl | rfl | rfl | h'
  case inr.inr.inr.inr.inr.inr.inr.inr.inr.inr.inr.inr.inr.inr.inr.inr.inr.inr.inr => exfalso; omega
  case inr.inr.inr.inr.inr.inr.inr.inr.inr.inr.inl =>
    have e : V_tmpl_inner (opI 11 d a b c i, s, r) = [(bif i == 0 then 5 else 5, 3, 0, 0, 0, i, 0, false, ())] := by kernel_rfl
    rw [e]
    cases i == 0 <;> exact Eq.symm (Eq.symm (by kernel_rfl))
  case inr.inr.inr.inr.inr.inr.inr.inr.inr.inr.inr.inl =>
    have e : V_tmpl_inner (opI 12 d a b c i, s, r) = [(bif i == 0 then 5 else 6, 3, 0, 0, 0, i, 0, false, ())] := by kernel_rfl
    rw [e]
    cases i == 0 <;> exact Eq.symm (Eq.symm (by kernel_rfl))
  case inr.inr.inr.inr.inr.inr.inr.inr.inr.inr.inr.inr.inl =>
    have e : V_tmpl_inner (opI 13 d a b c i, s, r) = [(bif i == 0 then 5 else 8, 3, 0, 0, 0, i, 0, false, ())] := by kernel_rfl
    rw [e]
    cases i == 0 <;> exact Eq.symm (Eq.symm (by kernel_rfl))
  case inr.inr.inr.inr.inr.inr.inr.inr.inr.inr.inr.inr.inr.inr.inr.inr.inr.inl =>
    obtain ⟨el, off, inn, u⟩ := s
    have e : ∀ z w : Bool, (bif z then [V_tmpl_shift (5, 4, 0, bif w then 2 else 0), (3, 5, 0, 0, 0, off, 0, false, ()), V_tmpl_three (14, 6, 4, 5), (3, 5, 0, 0, 0, 0, 0, false, ()), (4, 5, 0, 0, 0, ishr IntKind.i64 (bif inn then 536936448 else V_memmap_Rail r) 16, 0, false, ()), (18, 5, 6, 0, 16, 0, 0, false, ()), (21, 3, 5, 0, 0, 0, 0, false, ())]
        else [V_tmpl_shift (5, 4, 0, bif w then 2 else 0), (3, 5, 0, 0, 0, off, 0, false, ()), V_tmpl_three (14, 6, 4, 5), (3, 5, 0, 0, 0, 0, 0, false, ()), (4, 5, 0, 0, 0, ishr IntKind.i64 (bif inn then 536936448 else V_memmap_Rail r) 16, 0, false, ()), (18, 5, 6, 0, 16, 0, 0, false, ()), (19, 3, 5, 0, 0, 0, 0, false, ())]).all (fun z => !badI z) = true := by
      intro z w
      cases z <;> cases w <;> exact Eq.symm (Eq.symm (by kernel_rfl))
    have e2 : (V_tmpl_inner (opI 18 d a b c i, (el, off, inn, u), r)) = (bif (el : Int) == 1 then [V_tmpl_shift (5, 4, 0, bif (el : Int) == 4 then 2 else 0), (3, 5, 0, 0, 0, off, 0, false, ()), V_tmpl_three (14, 6, 4, 5), (3, 5, 0, 0, 0, 0, 0, false, ()), (4, 5, 0, 0, 0, ishr IntKind.i64 (bif inn then 536936448 else V_memmap_Rail r) 16, 0, false, ()), (18, 5, 6, 0, 16, 0, 0, false, ()), (21, 3, 5, 0, 0, 0, 0, false, ())]
        else [V_tmpl_shift (5, 4, 0, bif (el : Int) == 4 then 2 else 0), (3, 5, 0, 0, 0, off, 0, false, ()), V_tmpl_three (14, 6, 4, 5), (3, 5, 0, 0, 0, 0, 0, false, ()), (4, 5, 0, 0, 0, ishr IntKind.i64 (bif inn then 536936448 else V_memmap_Rail r) 16, 0, false, ()), (18, 5, 6, 0, 16, 0, 0, false, ()), (19, 3, 5, 0, 0, 0, 0, false, ())]) := by
      show ((bif (el : Int) == 1 then some _ else some _ : Option (List tIns.den)).getD []) = _
      cases (el : Int) == 1 <;> rfl
    rw [e2]
    exact e _ _
  case inr.inr.inr.inr.inr.inr.inr.inr.inr.inr.inr.inr.inr.inr.inr.inr.inr.inr.inl =>
    obtain ⟨el, off, inn, u⟩ := s
    have e : ∀ z w : Bool, (bif z then [V_tmpl_shift (5, 4, 0, bif w then 2 else 0), (3, 5, 0, 0, 0, off, 0, false, ()), V_tmpl_three (14, 6, 4, 5), (3, 5, 0, 0, 0, 0, 0, false, ()), (4, 5, 0, 0, 0, ishr IntKind.i64 (bif inn then 536936448 else V_memmap_Rail r) 16, 0, false, ()), (18, 5, 6, 0, 16, 0, 0, false, ()), (22, 1, 5, 0, 0, 0, 0, false, ())]
        else [V_tmpl_shift (5, 4, 0, bif w then 2 else 0), (3, 5, 0, 0, 0, off, 0, false, ()), V_tmpl_three (14, 6, 4, 5), (3, 5, 0, 0, 0, 0, 0, false, ()), (4, 5, 0, 0, 0, ishr IntKind.i64 (bif inn then 536936448 else V_memmap_Rail r) 16, 0, false, ()), (18, 5, 6, 0, 16, 0, 0, false, ()), (20, 1, 5, 0, 0, 0, 0, false, ())]).all (fun z => !badI z) = true := by
      intro z w
      cases z <;> cases w <;> exact Eq.symm (Eq.symm (by kernel_rfl))
    have e2 : (V_tmpl_inner (opI 19 d a b c i, (el, off, inn, u), r)) = (bif (el : Int) == 1 then [V_tmpl_shift (5, 4, 0, bif (el : Int) == 4 then 2 else 0), (3, 5, 0, 0, 0, off, 0, false, ()), V_tmpl_three (14, 6, 4, 5), (3, 5, 0, 0, 0, 0, 0, false, ()), (4, 5, 0, 0, 0, ishr IntKind.i64 (bif inn then 536936448 else V_memmap_Rail r) 16, 0, false, ()), (18, 5, 6, 0, 16, 0, 0, false, ()), (22, 1, 5, 0, 0, 0, 0, false, ())]
        else [V_tmpl_shift (5, 4, 0, bif (el : Int) == 4 then 2 else 0), (3, 5, 0, 0, 0, off, 0, false, ()), V_tmpl_three (14, 6, 4, 5), (3, 5, 0, 0, 0, 0, 0, false, ()), (4, 5, 0, 0, 0, ishr IntKind.i64 (bif inn then 536936448 else V_memmap_Rail r) 16, 0, false, ()), (18, 5, 6, 0, 16, 0, 0, false, ()), (20, 1, 5, 0, 0, 0, 0, false, ())]) := by
      show ((bif (el : Int) == 1 then some _ else some _ : Option (List tIns.den)).getD []) = _
      cases (el : Int) == 1 <;> rfl
    rw [e2]
    exact e _ _
  all_goals exact Eq.symm (Eq.symm (by kernel_rfl))
theorem opL_safe (o : tOp.den) (s : tSpot.den) (r : Int) (h : okOp o s r = true) : (opL o s r).all (fun z => !badI z) = true ∧ 0 < (opL o s r).length := by
  obtain ⟨k, d, a, b, c, i, u⟩ := o
  have h1 := gets_safe r (V_ir_Uses (opI k d a b c i)) 0 (by have := uses_len (opI k d a b c i); omega)
  have h2 := inner_safe k d a b c i s r h
  constructor
  · show (gets r (V_ir_Uses (opI k d a b c i)) 0 ++ (V_tmpl_inner (opI k d a b c i, s, r) ++ bif V_ir_Makes (opI k d a b c i) then putI (4 * (d + 1), r, 3) else [])).all (fun z => !badI z) = true
    rw [List.all_append, List.all_append, h1, h2]
    cases V_ir_Makes (opI k d a b c i)
    · rfl
    · exact Eq.symm (Eq.symm (by kernel_rfl))
  · show 0 < (gets r (V_ir_Uses (opI k d a b c i)) 0 ++ (V_tmpl_inner (opI k d a b c i, s, r) ++ bif V_ir_Makes (opI k d a b c i) then putI (4 * (d + 1), r, 3) else [])).length
    rw [List.length_append, List.length_append, gets_len]
    have hk := ok_kind h
    by_cases h19 : k = 19
    · subst h19
      have : (V_ir_Uses (opI 19 d a b c i)).length = 2 := rfl
      omega
    · have hm : V_ir_Makes (opI k d a b c i) = true := by
        rcases kinds k with rfl | rfl | rfl | rfl | rfl | rfl | rfl | rfl | rfl | rfl | rfl | rfl | rfl | rfl | rfl | rfl | rfl | rfl | rfl | h'
        all_goals first | rfl | (exfalso; exact h19 rfl) | (exfalso; omega)
      rw [hm]
      show 0 < _ + (_ + 3)
      omega
theorem law_hauberklaw27_TmplSafe (x : dens A_hauberklaw27_TmplSafe) (_ : fitsAll maxLen A_hauberklaw27_TmplSafe x) : (T_hauberklaw27_TmplSafe x).val = some true := by
  obtain ⟨o, s, r⟩ := x
  unfold T_hauberklaw27_TmplSafe
  dsimp only [PO.val]
  rw [op_G, op_V]
  cases hok : okOp o s r
  · rfl
  · obtain ⟨h1, h2⟩ := opL_safe o s r hok
    have h3 := opL_len o s r
    have hr : LoopN.res L_hauberklaw27_TmplSafe_5 (false, opL o s r, 0) () = some (0, false, ((opL o s r).length : Int)) := safe_run _ h3 h1 (opL o s r).length 0 (by omega) ((opL o s r).length + 1) (by omega)
    dsimp only [cond_true]
    rw [hr, dec_true (p := lenI (opL o s r) > 0) (by simp only [lenI]; omega)]
    rfl
end Go.Av
