/- Lists that are held against one another: of instructions, of items. -/
import Derived.Test.YtapfijocjgoilaaPBase
namespace Go.Av
open Go
def L_hauberkref27_Same_4 : LoopN where
  M := [0, 1, 4, 5]
  T := [11, 12, 13, 14, 15, 16, 17, 18, 19, 20, 21, 22, 23, 24, 25]
  D := [0, 1, 5]
  ss := [.ty (.sl tIns), .ty (.sl tIns), .ty .bool, .ty (.int .i64)]
  hs := []
  es := [.exit 0, .ret]
  σ := (Ty.den .bool) × (Ty.den (.int .i64))
  x0 := fun x _ => (x.2.2.1, x.2.2.2)
  put := fun x _ s => ((x.1, x.2.1, s.1, s.2), ())
  fuel := fun x _ => List.length x.1 + 1
  turn := fun x _ s => sameTurn tIns x.1 x.2.1 s
def L_hauberkref28_Same_4 : LoopN where
  M := [0, 1, 4, 5]
  T := [11, 12, 13, 14, 15, 16, 17, 18, 19, 20, 21, 22, 23, 24, 25]
  D := [0, 1, 5]
  ss := [.ty (.sl tItem), .ty (.sl tItem), .ty .bool, .ty (.int .i64)]
  hs := []
  es := [.exit 0, .ret]
  σ := (Ty.den .bool) × (Ty.den (.int .i64))
  x0 := fun x _ => (x.2.2.1, x.2.2.2)
  put := fun x _ s => ((x.1, x.2.1, s.1, s.2), ())
  fuel := fun x _ => List.length x.1 + 1
  turn := fun x _ s => sameTurn tItem x.1 x.2.1 s

abbrev A_hauberkref27_Same : List Ty := [.sl tIns, .sl tIns]
abbrev S_hauberkref27_Same : Sh := .ty .bool
def T_hauberkref27_Same (x : dens A_hauberkref27_Same) : PO Bool :=
  (.ite (lenI x.1 != lenI x.2)
   (.ret (false))
   (.opt (LoopN.res L_hauberkref27_Same_4 (x.1, x.2, false, 0) ()) fun p0 =>
    (.ite (way p0.1)
     (.ret (true))
     (.ret (p0.2.1)))))
def G_hauberkref27_Same (x : dens A_hauberkref27_Same) : Bool := decide (List.length x.1 < 9223372036854775808)
def V_hauberkref27_Same (x : dens A_hauberkref27_Same) : Bool := eqL tIns x.1 x.2
abbrev A_hauberkref28_Same : List Ty := [.sl tItem, .sl tItem]
abbrev S_hauberkref28_Same : Sh := .ty .bool
def T_hauberkref28_Same (x : dens A_hauberkref28_Same) : PO Bool :=
  (.ite (lenI x.1 != lenI x.2)
   (.ret (false))
   (.opt (LoopN.res L_hauberkref28_Same_4 (x.1, x.2, false, 0) ()) fun p0 =>
    (.ite (way p0.1)
     (.ret (true))
     (.ret (p0.2.1)))))
def G_hauberkref28_Same (x : dens A_hauberkref28_Same) : Bool := decide (List.length x.1 < 9223372036854775808)
def V_hauberkref28_Same (x : dens A_hauberkref28_Same) : Bool := eqL tItem x.1 x.2

theorem len_ne {α : Type} {a b : List α} (h : a.length ≠ b.length) : (lenI a != lenI b) = true := by
  simp only [lenI, bne_iff_ne, ne_eq]
  omega
theorem len_eq {α : Type} {a b : List α} (h : a.length = b.length) : (lenI a != lenI b) = false := by
  simp [lenI, h]

theorem same_val (e : Ty) (a b : List e.den) (hb : a.length < 9223372036854775808) (hl : a.length = b.length) : ∃ p, runL (sameTurn e a b) (a.length + 1) (false, 0) = some p ∧ (bif way p.1 then true else p.2.1) = eqL e a b := by
  have key : ∀ (k i : Nat), i + k = a.length → ∀ f, k < f → ∃ p, runL (sameTurn e a b) f (false, (i : Int)) = some p ∧ (bif way p.1 then true else p.2.1) = eqL e (a.drop i) (b.drop i) := by
    intro k
    induction k with
    | zero =>
      intro i h f hf
      obtain ⟨f, rfl⟩ : ∃ g, f = g + 1 := ⟨f - 1, by omega⟩
      refine ⟨(0, false, (i : Int)), runL_out (by simp only [sameTurn, PO.val, dec_false (show ¬ (i : Int) < (a.length : Int) by omega), cond_false]), ?_⟩
      rw [List.drop_of_length_le (by omega), List.drop_of_length_le (by omega)]
      rfl
    | succ k ih =>
      intro i h f hf
      obtain ⟨f, rfl⟩ : ∃ g, f = g + 1 := ⟨f - 1, by omega⟩
      have hi : i < a.length := by omega
      have hi' : i < b.length := by omega
      have h1 : decide ((i : Int) < (a.length : Int)) = true := dec_true (by omega)
      rw [List.drop_eq_getElem_cons hi, List.drop_eq_getElem_cons hi']
      simp only [eqL]
      have e1 : a.getD i e.dflt = a[i] := by rw [List.getD_eq_getElem?_getD, List.getElem?_eq_getElem hi]; rfl
      have e2 : b.getD i e.dflt = b[i] := by rw [List.getD_eq_getElem?_getD, List.getElem?_eq_getElem hi']; rfl
      cases hc : Ty.eqb e a[i] b[i]
      · refine ⟨(1, false, (i : Int)), runL_out ?_, rfl⟩
        simp only [sameTurn, PO.val, h1, inR hi, inR hi', cond_true, Bool.and_self, getD_nat, e1, e2, hc, Bool.not_false]
      · obtain ⟨p, hp, hv⟩ := ih (i + 1) (by omega) f (by omega)
        refine ⟨p, ?_, by simpa using hv⟩
        rw [← hp]
        refine runL_on ?_
        simp only [sameTurn, PO.val, h1, inR hi, inR hi', cond_true, Bool.and_self, getD_nat, e1, e2, hc, Bool.not_true, cond_false]
        rw [w64_id (by omega) (by omega)]
        rfl
  have := key a.length 0 (by omega) (a.length + 1) (by omega)
  simpa using this

theorem ok_hauberkref27_Same (x : dens A_hauberkref27_Same) (h : G_hauberkref27_Same x = true) : (T_hauberkref27_Same x).val = some (V_hauberkref27_Same x) := by
  have hb : List.length x.1 < 9223372036854775808 := of_decide_eq_true h
  by_cases hl : List.length x.1 = List.length x.2
  · obtain ⟨p, hp, hv⟩ := same_val tIns x.1 x.2 hb hl
    have e : LoopN.res L_hauberkref27_Same_4 (x.1, x.2, false, 0) () = some p := hp
    unfold T_hauberkref27_Same
    simp only [PO.val, len_eq hl, cond_false]
    rw [e]
    simp only [PO.val]
    rw [V_hauberkref27_Same, ← hv]
    cases way p.1 <;> rfl
  · unfold T_hauberkref27_Same
    simp only [PO.val, len_ne hl, cond_true]
    rw [V_hauberkref27_Same, eqL_ne hl]
theorem ok_hauberkref28_Same (x : dens A_hauberkref28_Same) (h : G_hauberkref28_Same x = true) : (T_hauberkref28_Same x).val = some (V_hauberkref28_Same x) := by
  have hb : List.length x.1 < 9223372036854775808 := of_decide_eq_true h
  by_cases hl : List.length x.1 = List.length x.2
  · obtain ⟨p, hp, hv⟩ := same_val tItem x.1 x.2 hb hl
    have e : LoopN.res L_hauberkref28_Same_4 (x.1, x.2, false, 0) () = some p := hp
    unfold T_hauberkref28_Same
    simp only [PO.val, len_eq hl, cond_false]
    rw [e]
    simp only [PO.val]
    rw [V_hauberkref28_Same, ← hv]
    cases way p.1 <;> rfl
  · unfold T_hauberkref28_Same
    simp only [PO.val, len_ne hl, cond_true]
    rw [V_hauberkref28_Same, eqL_ne hl]

theorem itemSame (l : List tItem.den) (h : l.length < 1000000000000) : G_hauberkref28_Same (l, l) = true ∧ V_hauberkref28_Same (l, l) = true := ⟨dec_true (show l.length < 9223372036854775808 by omega), eqL_refl l⟩
theorem insSame (l : List tIns.den) (h : l.length < 1000000000000) : G_hauberkref27_Same (l, l) = true ∧ V_hauberkref27_Same (l, l) = true := ⟨dec_true (show l.length < 9223372036854775808 by omega), eqL_refl l⟩
end Go.Av
