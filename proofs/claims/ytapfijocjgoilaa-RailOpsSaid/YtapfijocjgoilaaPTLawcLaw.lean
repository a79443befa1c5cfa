/- Operations on both rails: proved of what the functions compute. -/
import Derived.Test.YtapfijocjgoilaaPTLawc
namespace Go.Av
open Go
/-- Instructions as items. -/
def itemsL (l : List tIns.den) : List tItem.den := l.map fun z => (0, 0, z, ())
theorem room80 {n : Nat} (h : n ≤ 1000000) : Nat.ble (n * 80) 140737488355328 = true := Nat.ble_eq_true_of_le (by omega)
theorem items_run (l : List tIns.den) (hl : l.length ≤ 1000) : ∀ (k i : Nat) (acc : List tItem.den), i + k = l.length → acc.length ≤ 1000 + i → ∀ f, k < f →
    runL (L_rail_items_3.turn ([], l, lenI l, 0) ()) f (acc, (i : Int)) = some (0, acc ++ itemsL (l.drop i), ((l.length : Nat) : Int))
  | 0, i, acc, h, _, f, hf => by
    obtain ⟨f, rfl⟩ : ∃ g, f = g + 1 := ⟨f - 1, by omega⟩
    refine (runL_out (c := 0) (s' := (acc, (i : Int))) ?_).trans ?_
    · dsimp only [L_rail_items_3, PO.val]
      rw [dec_false (p := (i : Int) < lenI l) (by simp only [lenI]; omega)]
      rfl
    · rw [List.drop_of_length_le (by omega), show i = l.length by omega]
      show some (0, acc, _) = some (0, acc ++ [], _)
      rw [List.append_nil]
  | k + 1, i, acc, h, ha, f, hf => by
    obtain ⟨f, rfl⟩ : ∃ g, f = g + 1 := ⟨f - 1, by omega⟩
    have hi : i < l.length := by omega
    have hw : w64 ((i : Int) + 1) = ((i + 1 : Nat) : Int) := by rw [w64_id (by omega) (by omega)]; omega
    have e : (L_rail_items_3.turn ([], l, lenI l, 0) () (acc, (i : Int))).val = some (.on (acc ++ [(0, 0, l[i], ())], ((i + 1 : Nat) : Int))) := by
      dsimp only [L_rail_items_3, PO.val]
      rw [dec_true (p := (i : Int) < lenI l) (by simp only [lenI]; omega), inR hi, getD_nat, getD_in l _ hi, hw, room80 (by rw [List.length_singleton]; omega)]
      rfl
    refine (runL_on e).trans ((items_run l hl k (i + 1) _ (by omega) (by rw [List.length_append, List.length_singleton]; omega) f (by omega)).trans ?_)
    rw [List.drop_eq_getElem_cons hi, List.append_assoc]
    rfl
theorem ins_run (l : List tIns.den) (hl : l.length ≤ 1000) (a0 : List tItem.den) : ∀ (k i : Nat) (acc : List tItem.den), i + k = l.length → acc.length ≤ 1000 + i → ∀ f, k < f →
    runL (L_hauberkref29_Out_Ins_1.turn ((), l, 0) (a0, ())) f ((i : Int), acc, ()) = some (0, ((l.length : Nat) : Int), acc ++ itemsL (l.drop i), ())
  | 0, i, acc, h, _, f, hf => by
    obtain ⟨f, rfl⟩ : ∃ g, f = g + 1 := ⟨f - 1, by omega⟩
    refine (runL_out (c := 0) (s' := ((i : Int), acc, ())) ?_).trans ?_
    · dsimp only [L_hauberkref29_Out_Ins_1, PO.val]
      rw [dec_false (p := (i : Int) < lenI l) (by simp only [lenI]; omega)]
      rfl
    · rw [List.drop_of_length_le (by omega), show i = l.length by omega]
      show some (0, _, acc, ()) = some (0, _, acc ++ [], ())
      rw [List.append_nil]
  | k + 1, i, acc, h, ha, f, hf => by
    obtain ⟨f, rfl⟩ : ∃ g, f = g + 1 := ⟨f - 1, by omega⟩
    have hi : i < l.length := by omega
    have hw : w64 ((i : Int) + 1) = ((i + 1 : Nat) : Int) := by rw [w64_id (by omega) (by omega)]; omega
    have e : (L_hauberkref29_Out_Ins_1.turn ((), l, 0) (a0, ()) ((i : Int), acc, ())).val = some (.on (((i + 1 : Nat) : Int), acc ++ [(0, 0, l[i], ())], ())) := by
      dsimp only [L_hauberkref29_Out_Ins_1, PO.val]
      rw [dec_true (p := (i : Int) < lenI l) (by simp only [lenI]; omega), inR hi, getD_nat, getD_in l _ hi, hw, room80 (by rw [List.length_singleton]; omega)]
      rfl
    refine (runL_on e).trans ((ins_run l hl a0 k (i + 1) _ (by omega) (by rw [List.length_append, List.length_singleton]; omega) f (by omega)).trans ?_)
    rw [List.drop_eq_getElem_cons hi, List.append_assoc]
    rfl
theorem items_T (l : List tIns.den) (hl : l.length ≤ 1000) : G_rail_items l = true ∧ V_rail_items l = itemsL l := by
  have h := items_run l hl l.length 0 [] (by omega) (Nat.zero_le _) (l.length + 1) (by omega)
  rw [List.drop_zero, List.nil_append] at h
  have h : LoopN.res L_rail_items_3 ([], l, lenI l, 0) () = some (0, itemsL l, (l.length : Int)) := h
  have ht : (T_rail_items l).val = some (itemsL l) := by
    unfold T_rail_items PO.val
    rw [h]
    rfl
  exact ⟨by unfold G_rail_items; rw [ht]; rfl, by unfold V_rail_items PO.getO; rw [ht]; rfl⟩
theorem itemsL_len (l : List tIns.den) : (itemsL l).length = l.length := List.length_map ..
theorem okOp_rail (o : tOp.den) (s : tSpot.den) : okOp o s 0 = okOp o s 1 := by unfold okOp; rfl
/-- An operation on both rails. -/
def railL (o : tOp.den) (s : tSpot.den) : List tItem.den × Int × Unit := bif okOp o s 0 then (itemsL (opL o s 0) ++ itemsL (opL o s 1), 0, ()) else ([], 2, ())
theorem railop_T (o : tOp.den) (s : tSpot.den) : (T_rail_Op (o, s)).val = some (railL o s) := by
  have h0 := opL_len o s 0
  have h1 := opL_len o s 1
  obtain ⟨g0, v0⟩ := items_T (opL o s 0) (by omega)
  obtain ⟨g1, v1⟩ := items_T (opL o s 1) (by omega)
  unfold T_rail_Op PO.val railL
  dsimp only
  rw [op_G, op_G, op_V, op_V, ← okOp_rail]
  cases okOp o s 0
  · rfl
  · dsimp only [cond_true, PO.val]
    rw [g0, v0, g1, v1]
    rw [room80 (n := ([] : List tItem.den).length + (itemsL (opL o s 0)).length) (by rw [itemsL_len, List.length_nil]; omega), List.nil_append, room80 (n := (itemsL (opL o s 0)).length + (itemsL (opL o s 1)).length) (by rw [itemsL_len, itemsL_len]; omega)]
    rfl
theorem refrail_T (o : tOp.den) (s : tSpot.den) : (T_hauberkref29_Op (o, s)).val = some (railL o s) := by
  have h0 := opL_len o s 0
  have h1 := opL_len o s 1
  unfold T_hauberkref29_Op PO.val railL
  dsimp only
  rw [refop_G, refop_G, refop_V, refop_V, ← okOp_rail]
  cases okOp o s 0
  · rfl
  · have r0 := ins_run (opL o s 0) (by omega) [] (opL o s 0).length 0 [] (by omega) (Nat.zero_le _) ((opL o s 0).length + 1) (by omega)
    rw [List.drop_zero, List.nil_append] at r0
    have r0 : LoopN.res L_hauberkref29_Out_Ins_1 ((), opL o s 0, 0) ([], ()) = some (0, ((opL o s 0).length : Int), itemsL (opL o s 0), ()) := r0
    have r1 := ins_run (opL o s 1) (by omega) (itemsL (opL o s 0)) (opL o s 1).length 0 (itemsL (opL o s 0)) (by omega) (by rw [itemsL_len]; omega) ((opL o s 1).length + 1) (by omega)
    rw [List.drop_zero] at r1
    have r1 : LoopN.res L_hauberkref29_Out_Ins_1 ((), opL o s 1, 0) (itemsL (opL o s 0), ()) = some (0, ((opL o s 1).length : Int), itemsL (opL o s 0) ++ itemsL (opL o s 1), ()) := r1
    dsimp only [cond_true, PO.val]
    rw [r0]
    dsimp only [PO.val]
    rw [r1]
    rfl
theorem railL_len (o : tOp.den) (s : tSpot.den) : (railL o s).1.length ≤ 200 := by
  have h0 := opL_len o s 0
  have h1 := opL_len o s 1
  unfold railL
  cases okOp o s 0
  · exact Nat.zero_le _
  · show (itemsL (opL o s 0) ++ itemsL (opL o s 1)).length ≤ 200
    rw [List.length_append, itemsL_len, itemsL_len]
    omega
theorem law_hauberklaw29_RailOps (x : dens A_hauberklaw29_RailOps) (_ : fitsAll maxLen A_hauberklaw29_RailOps x) : (T_hauberklaw29_RailOps x).val = some true := by
  obtain ⟨o, s⟩ := x
  have g1 : G_rail_Op (o, s) = true := by unfold G_rail_Op; rw [railop_T]; rfl
  have v1 : V_rail_Op (o, s) = railL o s := by unfold V_rail_Op PO.getO; rw [railop_T]; rfl
  have g2 : G_hauberkref29_Op (o, s) = true := by unfold G_hauberkref29_Op; rw [refrail_T]; rfl
  have v2 : V_hauberkref29_Op (o, s) = railL o s := by unfold V_hauberkref29_Op PO.getO; rw [refrail_T]; rfl
  unfold T_hauberklaw29_RailOps
  dsimp only [PO.val]
  rw [g1, v1, g2, v2]
  have hl := railL_len o s
  have s1 : G_hauberkref28_Same ((railL o s).1, (railL o s).1) = true := dec_true (Nat.lt_of_le_of_lt hl (by omega))
  have s2 : V_hauberkref28_Same ((railL o s).1, (railL o s).1) = true := eqL_refl (railL o s).1
  rw [s1, s2]
  simp
end Go.Av
