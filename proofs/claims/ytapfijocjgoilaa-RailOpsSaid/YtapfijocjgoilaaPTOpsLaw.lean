/- Layer 27: operations as instructions: what the functions come to. -/
import Derived.Test.YtapfijocjgoilaaPTOps
namespace Go.Av
open Go
/-- May a temp be? -/
def tempOk (t : Int) : Bool := decide (0 ≤ t) && decide (t ≤ 16382)
theorem temp_V (t : Int) : V_tmpl_temp t = tempOk t := by
  show (decide (t ≥ 0) && decide (t < 16383)) = (decide (0 ≤ t) && decide (t ≤ 16382))
  rw [Bool.eq_iff_iff, Bool.and_eq_true, Bool.and_eq_true, decide_eq_true_eq, decide_eq_true_eq, decide_eq_true_eq]
  omega
theorem tempOk_iff {t : Int} : tempOk t = true ↔ 0 ≤ t ∧ t ≤ 16382 := by unfold tempOk; rw [Bool.and_eq_true, decide_eq_true_eq, decide_eq_true_eq]
theorem temp_26 {a : Int} (h1 : 0 ≤ a) (h2 : a ≤ 16382) : V_hauberkref26_Temp a = 4 * (a + 1) := by
  simp only [V_hauberkref26_Temp, T_hauberkref26_Temp, PO.getO, PO.val]
  rw [dec_true (p := a ≥ 0) h1, dec_true (p := a ≤ 16382) h2, w64_id (n := a + 1) (by omega) (by omega), w64_id (n := 4 * (a + 1)) (by omega) (by omega)]
  rfl
theorem getG_temp {t r i : Int} (h : tempOk t = true) (hr : r = 0 ∨ r = 1) (h0 : 0 ≤ i) (h7 : i ≤ 7) : getG (4 * (t + 1), r, i) = true := by
  rw [tempOk_iff] at h
  simp only [getG, Bool.and_eq_true, decide_eq_true_eq]
  refine ⟨by omega, by omega, by omega, by omega, h0, h7⟩
/-- Words of a rail, into the first registers. -/
def gets (r : Int) : List Int → Nat → List tIns.den
  | [], _ => []
  | t :: u, i => getI (4 * (t + 1), r, (i : Int)) ++ gets r u (i + 1)
theorem gets_len (r : Int) : ∀ (u : List Int) (i : Nat), (gets r u i).length = 3 * u.length
  | [], _ => rfl
  | t :: u, i => by
    show (getI _ ++ gets r u (i + 1)).length = _
    rw [List.length_append, gets_len r u (i + 1), List.length_cons]
    show 3 + _ = _
    omega
theorem ble_room {n : Nat} (h : n ≤ 1000000) : Nat.ble (n * 64) 140737488355328 = true := Nat.ble_eq_true_of_le (by omega)
section
variable (r : Int) (hr : r = 0 ∨ r = 1) (o : tOp.den) (s : tSpot.den) (u : List Int) (hu : u.length ≤ 4)
include hr hu
theorem tmpl_gets_run (hall : u.all tempOk = true) : ∀ (k i : Nat) (acc : List tIns.den), i + k = u.length → acc.length = 3 * i → ∀ f, k < f →
    runL (L_tmpl_Op_5.turn (r, (), (), [], u, lenI u, 0) (o, s)) f (acc, (i : Int), o, s) = some (0, acc ++ gets r (u.drop i) i, ((u.length : Nat) : Int), o, s)
  | 0, i, acc, h, _, f, hf => by
    obtain ⟨f, rfl⟩ : ∃ g, f = g + 1 := ⟨f - 1, by omega⟩
    refine (runL_out (c := 0) (s' := (acc, (i : Int), o, s)) ?_).trans ?_
    · dsimp only [L_tmpl_Op_5, PO.val]
      rw [dec_false (p := (i : Int) < lenI u) (by simp only [lenI]; omega)]
      rfl
    · rw [List.drop_of_length_le (by omega), show i = u.length by omega]
      show some (0, acc, _) = some (0, acc ++ [], _)
      rw [List.append_nil]
  | k + 1, i, acc, h, hacc, f, hf => by
    obtain ⟨f, rfl⟩ : ∃ g, f = g + 1 := ⟨f - 1, by omega⟩
    have hi : i < u.length := by omega
    have ht : tempOk u[i] = true := List.all_eq_true.1 hall _ (List.getElem_mem hi)
    have hb := tempOk_iff.1 ht
    have hg := getG_temp ht hr (i := (i : Int)) (by omega) (by omega)
    have hw : w64 ((i : Int) + 1) = ((i + 1 : Nat) : Int) := by rw [w64_id (by omega) (by omega)]; omega
    have hlen : (getI (4 * (u[i] + 1), r, (i : Int))).length = 3 := rfl
    have e : (L_tmpl_Op_5.turn (r, (), (), [], u, lenI u, 0) (o, s) (acc, (i : Int), o, s)).val = some (.on (acc ++ getI (4 * (u[i] + 1), r, (i : Int)), ((i + 1 : Nat) : Int), o, s)) := by
      dsimp only [L_tmpl_Op_5, PO.val]
      rw [dec_true (p := (i : Int) < lenI u) (by simp only [lenI]; omega), inR hi, getD_nat, getD_in u _ hi, temp_fr _ hb.1 hb.2, show G_tmpl_Get (4 * (u[i] + 1), r, (i : Int)) = true from hg,
        show V_tmpl_Get (4 * (u[i] + 1), r, (i : Int)) = getI (4 * (u[i] + 1), r, (i : Int)) from rfl, hlen, ble_room (by omega), hw]
      rfl
    refine (runL_on e).trans ?_
    have ih := tmpl_gets_run hall k (i + 1) (acc ++ getI (4 * (u[i] + 1), r, (i : Int))) (by omega) (by rw [List.length_append, hlen]; omega) f (by omega)
    refine ih.trans ?_
    rw [List.drop_eq_getElem_cons hi, List.append_assoc]
    rfl
theorem ref_gets_run (hall : u.all tempOk = true) : ∀ (k i : Nat) (acc : List tIns.den), i + k = u.length → acc.length = 3 * i → ∀ f, k < f →
    runL (L_hauberkref27_Op_6.turn (r, (), (), [], u, 0) (o, s)) f (acc, (i : Int), o, s) = some (0, acc ++ gets r (u.drop i) i, ((u.length : Nat) : Int), o, s)
  | 0, i, acc, h, _, f, hf => by
    obtain ⟨f, rfl⟩ : ∃ g, f = g + 1 := ⟨f - 1, by omega⟩
    refine (runL_out (c := 0) (s' := (acc, (i : Int), o, s)) ?_).trans ?_
    · dsimp only [L_hauberkref27_Op_6, PO.val]
      rw [dec_false (p := (i : Int) < lenI u) (by simp only [lenI]; omega)]
      rfl
    · rw [List.drop_of_length_le (by omega), show i = u.length by omega]
      show some (0, acc, _) = some (0, acc ++ [], _)
      rw [List.append_nil]
  | k + 1, i, acc, h, hacc, f, hf => by
    obtain ⟨f, rfl⟩ : ∃ g, f = g + 1 := ⟨f - 1, by omega⟩
    have hi : i < u.length := by omega
    have ht : tempOk u[i] = true := List.all_eq_true.1 hall _ (List.getElem_mem hi)
    have hb := tempOk_iff.1 ht
    have hg := getG_temp ht hr (i := (i : Int)) (by omega) (by omega)
    have hw : w64 ((i : Int) + 1) = ((i + 1 : Nat) : Int) := by rw [w64_id (by omega) (by omega)]; omega
    have hlen : (getI (4 * (u[i] + 1), r, (i : Int))).length = 3 := rfl
    have e : (L_hauberkref27_Op_6.turn (r, (), (), [], u, 0) (o, s) (acc, (i : Int), o, s)).val = some (.on (acc ++ getI (4 * (u[i] + 1), r, (i : Int)), ((i + 1 : Nat) : Int), o, s)) := by
      dsimp only [L_hauberkref27_Op_6, PO.val]
      rw [dec_true (p := (i : Int) < lenI u) (by simp only [lenI]; omega), inR hi, getD_nat, getD_in u _ hi, temp_26 hb.1 hb.2, show G_hauberkref27_Get (4 * (u[i] + 1), r, (i : Int)) = true from hg,
        show V_hauberkref27_Get (4 * (u[i] + 1), r, (i : Int)) = getI (4 * (u[i] + 1), r, (i : Int)) from rfl, hlen, ble_room (by omega), hw]
      rfl
    refine (runL_on e).trans ?_
    have ih := ref_gets_run hall k (i + 1) (acc ++ getI (4 * (u[i] + 1), r, (i : Int))) (by omega) (by rw [List.length_append, hlen]; omega) f (by omega)
    refine ih.trans ?_
    rw [List.drop_eq_getElem_cons hi, List.append_assoc]
    rfl
omit hr in
theorem tmpl_may_run (b : Bool) : ∀ (k i : Nat), i + k = u.length → ∀ f, k < f →
    ∃ c j, runL (L_tmpl_may_2.turn (r, (), (), b, u, lenI u, 0) (o, s)) f (b, (i : Int), o, s) = some (c, (bif (u.drop i).all tempOk then b else false), j, o, s) ∧ way c = (u.drop i).all tempOk
  | 0, i, h, f, hf => by
    obtain ⟨f, rfl⟩ : ∃ g, f = g + 1 := ⟨f - 1, by omega⟩
    refine ⟨0, (i : Int), (runL_out (c := 0) (s' := (b, (i : Int), o, s)) ?_).trans ?_, ?_⟩
    · dsimp only [L_tmpl_may_2, PO.val]
      rw [dec_false (p := (i : Int) < lenI u) (by simp only [lenI]; omega)]
      rfl
    · rw [List.drop_of_length_le (by omega)]; rfl
    · rw [List.drop_of_length_le (by omega)]; rfl
  | k + 1, i, h, f, hf => by
    obtain ⟨f, rfl⟩ : ∃ g, f = g + 1 := ⟨f - 1, by omega⟩
    have hi : i < u.length := by omega
    have hw : w64 ((i : Int) + 1) = ((i + 1 : Nat) : Int) := by rw [w64_id (by omega) (by omega)]; omega
    rw [List.drop_eq_getElem_cons hi, List.all_cons]
    have e : (L_tmpl_may_2.turn (r, (), (), b, u, lenI u, 0) (o, s) (b, (i : Int), o, s)).val = (bif !tempOk u[i] then some (.out 1 (false, (i : Int), o, s)) else some (.on (b, ((i + 1 : Nat) : Int), o, s))) := by
      dsimp only [L_tmpl_may_2, PO.val]
      rw [dec_true (p := (i : Int) < lenI u) (by simp only [lenI]; omega), inR hi, getD_nat, getD_in u _ hi, temp_V, hw]
      rfl
    cases ht : tempOk u[i]
    · rw [ht] at e
      exact ⟨1, (i : Int), runL_out e, rfl⟩
    · rw [ht] at e
      obtain ⟨c, j, h1, h2⟩ := tmpl_may_run b k (i + 1) (by omega) f (by omega)
      exact ⟨c, j, (runL_on e).trans h1, h2⟩
omit hr in
theorem ref_may_run (b : Bool) : ∀ (k i : Nat), i + k = u.length → ∀ f, k < f →
    ∃ c j, runL (L_hauberkref27_May_7.turn ((), (), b, u, 0) (o, s)) f (b, (i : Int), o, s) = some (c, (bif (u.drop i).all tempOk then b else false), j, o, s) ∧ way c = (u.drop i).all tempOk
  | 0, i, h, f, hf => by
    obtain ⟨f, rfl⟩ : ∃ g, f = g + 1 := ⟨f - 1, by omega⟩
    refine ⟨0, (i : Int), (runL_out (c := 0) (s' := (b, (i : Int), o, s)) ?_).trans ?_, ?_⟩
    · dsimp only [L_hauberkref27_May_7, PO.val]
      rw [dec_false (p := (i : Int) < lenI u) (by simp only [lenI]; omega)]
      rfl
    · rw [List.drop_of_length_le (by omega)]; rfl
    · rw [List.drop_of_length_le (by omega)]; rfl
  | k + 1, i, h, f, hf => by
    obtain ⟨f, rfl⟩ : ∃ g, f = g + 1 := ⟨f - 1, by omega⟩
    have hi : i < u.length := by omega
    have hw : w64 ((i : Int) + 1) = ((i + 1 : Nat) : Int) := by rw [w64_id (by omega) (by omega)]; omega
    rw [List.drop_eq_getElem_cons hi, List.all_cons]
    have hto : (decide (u[i] < 0) || decide (u[i] > 16382)) = !tempOk u[i] := by
      unfold tempOk
      rw [Bool.eq_iff_iff, Bool.or_eq_true, Bool.not_eq_true', Bool.and_eq_false_iff, decide_eq_true_eq, decide_eq_true_eq, decide_eq_false_iff_not, decide_eq_false_iff_not]
      omega
    have e : (L_hauberkref27_May_7.turn ((), (), b, u, 0) (o, s) (b, (i : Int), o, s)).val = (bif !tempOk u[i] then some (.out 1 (false, (i : Int), o, s)) else some (.on (b, ((i + 1 : Nat) : Int), o, s))) := by
      dsimp only [L_hauberkref27_May_7, PO.val]
      rw [dec_true (p := (i : Int) < lenI u) (by simp only [lenI]; omega), inR hi, getD_nat, getD_in u _ hi, hto, hw, Bool.or_true]
      rfl
    cases ht : tempOk u[i]
    · rw [ht] at e
      exact ⟨1, (i : Int), runL_out e, rfl⟩
    · rw [ht] at e
      obtain ⟨c, j, h1, h2⟩ := ref_may_run b k (i + 1) (by omega) f (by omega)
      exact ⟨c, j, (runL_on e).trans h1, h2⟩
end
end Go.Av
