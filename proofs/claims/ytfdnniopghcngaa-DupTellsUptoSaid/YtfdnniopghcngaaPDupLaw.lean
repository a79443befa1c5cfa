/- Layer 28: the laws of what is done twice. -/
import Derived.Test.YtfdnniopghcngaaPDup
namespace Go.Av
open Go

/-- An item, done twice unless it is a label. -/
def dup1 (a : tItem.den) : List tItem.den := bif a.1 != 1 then [a, a] else [a]
def dupL (l : List tItem.den) : List tItem.den := l.flatMap dup1

theorem dup1_len (a : tItem.den) : (dup1 a).length ≤ 2 := by
  unfold dup1
  cases a.1 != 1 <;> simp

theorem dupL_len : ∀ l : List tItem.den, (dupL l).length ≤ 2 * l.length
  | [] => Nat.le_refl _
  | a :: l => by
    have h1 := dupL_len l
    have h2 := dup1_len a
    simp only [dupL, List.flatMap_cons, List.length_append, List.length_cons] at h1 ⊢
    omega

theorem dupL_take (l : List tItem.den) {i : Nat} (hi : i < l.length) : dupL (l.take (i + 1)) = dupL (l.take i) ++ dup1 l[i] := by
  rw [List.take_succ_eq_append_getElem hi]
  unfold dupL
  rw [List.flatMap_append, List.flatMap_cons, List.flatMap_nil, List.append_nil]

theorem room_small {a b c : Nat} (ha : a ≤ 4194304) (hb : b ≤ 4194304) (hc : c ≤ 4096) : Nat.ble ((a + b) * c) 140737488355328 = true := by
  rw [Nat.ble_eq]
  have : (a + b) * c ≤ 8388608 * 4096 := Nat.mul_le_mul (by omega) hc
  omega

theorem getD_in {α : Type} (l : List α) (d : α) {i : Nat} (hi : i < l.length) : l.getD i d = l[i] := by
  rw [List.getD_eq_getElem?_getD, List.getElem?_eq_getElem hi]; rfl

theorem dupAll_val (l : List tItem.den) (hb : l.length ≤ 1048576) : (T_dup_All l).val = some (dupL l) := by
  have h : runL (L_dup_All_3.turn ([], l, lenI l, 0) ()) (l.length + 1) ([], 0) = some (0, dupL l, (l.length : Int)) := by
    refine runL_count (σ := List tItem.den × Int) (fun i => (dupL (l.take i), (i : Int))) (0, dupL l, (l.length : Int)) (n := l.length) (fun i hi => ?_) ?_ l.length 0 (by omega) _ (by omega)
    · have hl := dupL_len (l.take i)
      rw [List.length_take_of_le (by omega)] at hl
      have h1 : decide ((i : Int) < lenI l) = true := dec_true (by simp only [lenI]; omega)
      simp only [L_dup_All_3, PO.val, h1, inR hi, cond_true, getD_nat, getD_in l _ hi, List.length_append, List.length_cons, List.length_nil]
      rw [room_small (by omega) (by omega) (by omega), room_small (by omega) (by omega) (by omega), w64_id (by omega) (by omega), dupL_take l hi]
      unfold dup1
      cases l[i].1 != 1
      · simp
      · simp
    · simp only [L_dup_All_3, PO.val, dec_false (show ¬ (l.length : Int) < lenI l by simp only [lenI]; omega), cond_false, List.take_length]
  unfold T_dup_All PO.val
  rw [show LoopN.res L_dup_All_3 ([], l, lenI l, 0) () = _ from h]
  rfl

/-- What the reference has after so many turns. -/
def halfL (l : List tItem.den) (i : Nat) : List tItem.den := dupL (l.take (i / 2)) ++ (if i % 2 = 1 then (l.drop (i / 2)).take 1 else [])

theorem halfL_len (l : List tItem.den) (i : Nat) : (halfL l i).length ≤ 2 * l.length + 1 := by
  have h := dupL_len (l.take (i / 2))
  rw [List.length_take] at h
  unfold halfL
  split
  · simp only [List.length_append, List.length_take, List.length_drop]; omega
  · simp only [List.append_nil]; omega

theorem refAll_val (l : List tItem.den) (hb : l.length ≤ 1048576) : (T_hauberkref28_All l).val = some (dupL l) := by
  have h : runL (L_hauberkref28_All_3.turn (l, [], 0) ()) (2 * l.length + 1) ([], 0) = some (0, dupL l, ((2 * l.length : Nat) : Int)) := by
    refine runL_count (σ := List tItem.den × Int) (fun i => (halfL l i, (i : Int))) (0, dupL l, ((2 * l.length : Nat) : Int)) (n := 2 * l.length) (fun i hi => ?_) ?_ (2 * l.length) 0 (by omega) _ (by omega)
    · have hl := halfL_len l i
      have hi2 : i / 2 < l.length := by omega
      have h1 : decide ((i : Int) < w64 (2 * lenI l)) = true := dec_true (by rw [w64_id (by simp only [lenI]; omega) (by simp only [lenI]; omega)]; simp only [lenI]; omega)
      have h2 : w64 ((i : Int).tdiv 2) = ((i / 2 : Nat) : Int) := by
        rw [Int.tdiv_eq_ediv_of_nonneg (by omega), w64_id (by omega) (by omega)]
        omega
      have h3 : ((i : Int).tmod 2 == 0) = decide (i % 2 = 0) := by
        rw [Int.tmod_eq_emod_of_nonneg (by omega), Bool.eq_iff_iff]
        simp only [beq_iff_eq, decide_eq_true_eq]
        omega
      simp only [L_hauberkref28_All_3, PO.val, h1, h2, h3, inR hi2, Bool.or_true, cond_true, getD_nat, getD_in l _ hi2, List.length_cons, List.length_nil]
      rw [room_small (by omega) (by omega) (by omega), w64_id (by omega) (by omega)]
      simp only [cond_true]
      have e0 : ∀ j, j < l.length → (l.drop j).take 1 = [l[j]!] := fun j hj => by
        rw [List.drop_eq_getElem_cons hj, List.take_succ_cons, List.take_zero]
        simp [hj]
      by_cases hp : i % 2 = 0
      · have a1 : (i + 1) / 2 = i / 2 := by omega
        have a2 : (i + 1) % 2 = 1 := by omega
        rw [dec_true hp]
        simp only [Bool.true_or, cond_true, halfL, a1, a2, hp, if_true]
        rw [e0 _ hi2]
        simp [hi2]
      · have a1 : (i + 1) / 2 = i / 2 + 1 := by omega
        have a2 : (i + 1) % 2 = 0 := by omega
        have a3 : i % 2 = 1 := by omega
        rw [dec_false hp]
        simp only [Bool.false_or, halfL, a1, a2, a3, if_true]
        rw [e0 _ hi2, dupL_take l hi2, show l[i / 2]! = l[i / 2] by simp [hi2]]
        unfold dup1
        cases l[i / 2].1 != 1
        · simp
        · simp
    · have e1 : w64 (2 * lenI l) = ((2 * l.length : Nat) : Int) := by rw [w64_id (by simp only [lenI]; omega) (by simp only [lenI]; omega)]; simp only [lenI]; omega
      have e2 : halfL l (2 * l.length) = dupL l := by
        unfold halfL
        rw [show 2 * l.length / 2 = l.length by omega, show 2 * l.length % 2 = 0 by omega]
        simp
      simp only [L_hauberkref28_All_3, PO.val, e1, e2, dec_false (show ¬ ((2 * l.length : Nat) : Int) < ((2 * l.length : Nat) : Int) by omega), cond_false]
  unfold T_hauberkref28_All PO.val
  rw [show LoopN.res L_hauberkref28_All_3 (l, [], 0) () = _ from h]
  rfl

theorem law_hauberklaw28_DupTells (x : dens A_hauberklaw28_DupTells) (h : fitsAll 1048576 A_hauberklaw28_DupTells x) : (T_hauberklaw28_DupTells x).val = some true := by
  have hb : List.length x ≤ 1048576 := h.1
  have h1 := dupAll_val x hb
  have h2 := refAll_val x hb
  have e1 : V_dup_All x = dupL x := by rw [V_dup_All, PO.getO, h1]; rfl
  have e2 : V_hauberkref28_All x = dupL x := by rw [V_hauberkref28_All, PO.getO, h2]; rfl
  have g1 : G_dup_All x = true := by rw [G_dup_All, h1]; rfl
  have g2 : G_hauberkref28_All x = true := by rw [G_hauberkref28_All, h2]; rfl
  have hl := dupL_len x
  have g3 : G_hauberkref28_Same (dupL x, dupL x) = true := dec_true (show List.length (dupL x) < _ by omega)
  have e3 : V_hauberkref28_Same (dupL x, dupL x) = true := eqL_refl _
  simp [T_hauberklaw28_DupTells, PO.val, g1, g2, e1, e2, g3, e3]
end Go.Av
