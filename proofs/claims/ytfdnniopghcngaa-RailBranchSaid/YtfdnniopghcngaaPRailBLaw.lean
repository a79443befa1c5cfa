/- Layer 29: the law of the way to one block or another. -/
import Derived.Test.YtfdnniopghcngaaPRailB
namespace Go.Av
open Go
theorem temp_ref (a : Int) (h1 : 0 ≤ a) (h2 : a ≤ 16382) : V_hauberkref26_Temp a = 4 * (a + 1) := by
  have d1 : decide (a ≥ 0) = true := dec_true (by omega)
  have d2 : decide (a ≤ 16382) = true := dec_true (by omega)
  have e : V_hauberkref26_Temp a = w64 (4 * w64 (a + 1)) := by simp [V_hauberkref26_Temp, T_hauberkref26_Temp, PO.getO, PO.val, d1, d2]
  rw [e, w64_id (n := a + 1) (by omega) (by omega), w64_id (by omega) (by omega)]
theorem not_neg (a : Int) (h : 0 ≤ a) : decide (a < 0) = false := dec_false (by omega)
theorem not_big (a : Int) (h : a ≤ 16382) : decide (a ≥ 16383) = false := dec_false (by omega)
theorem jmpL_ref (k : Int) : jmpL true k = jmpL false k := jumpL_ref _ _
theorem jmpL_len (k : Int) : (jmpL false k).length < 30 := jumpL_len _ _
theorem branchL_ref (a x h : Int) (jn jy : List tItem.den) : branchL true a x h jn jy = branchL false a x h jn jy := by
  have e : cmpL true true 0 1 h = cmpL false true 0 1 h := rfl
  simp only [branchL, cmpL_ref, e]
theorem branchL_len (a x h : Int) (jn jy : List tItem.den) (h1 : jn.length < 30) (h2 : jy.length < 30) : (branchL false a x h jn jy).length < 200 := by
  have l1 : ∀ r, (its (getI (a, r, 0))).length = 3 := fun _ => rfl
  have l2 : ∀ n c t, (cmpL false false n c t).length = 4 := fun _ _ _ => rfl
  have l3 : ∀ n c t, (cmpL false true n c t).length = 3 := fun _ _ _ => rfl
  simp only [branchL, List.length_append, l1, l2, l3, List.length_cons, List.length_nil]
  omega
theorem sameP_ok (l : List tItem.den) (h : l.length < 200) : (sameP l l true).val = some true := by
  have a := itemSame l (Nat.lt_trans h (by omega))
  simp [sameP, PO.val, a.1, a.2]
/-- A way, behind a test. -/
def wayL (b : Bool) (k h : Int) : List tItem.den := match b with
  | true => jmpL false k
  | false => [itB h, itB h]
theorem wayL_len (b : Bool) (k h : Int) : (wayL b k h).length < 30 := by
  cases b with
  | true => exact jmpL_len _
  | false => exact (by simp [wayL])
theorem rest_ok (x : dens A_hauberklaw29_RailBranch) (jn jy : List tItem.den) (hm : mayB x = true) (h1 : 0 ≤ x.1.2.1) (h2 : x.1.2.1 ≤ 16382)
    (hn : jn = wayL (decide (x.1.2.2.2.1 ≥ 0)) x.1.2.2.2.1 x.2.2) (hy : jy = wayL (decide (x.1.2.2.1 ≥ 0)) x.1.2.2.1 x.2.2) :
    (restP x (branchL false (4 * (x.1.2.1 + 1)) x.2.1 x.2.2 jn jy) 0).val = some true := by
  have g0 : G_hauberkref27_Get (4 * (x.1.2.1 + 1), 0, 0) = true := get_temp x.1.2.1 0 h1 h2 (by decide) (by decide)
  have g1 : G_hauberkref27_Get (4 * (x.1.2.1 + 1), 1, 0) = true := get_temp x.1.2.1 1 h1 h2 (by decide) (by decide)
  have s := sameP_ok (branchL false (4 * (x.1.2.1 + 1)) x.2.1 x.2.2 jn jy) (branchL_len _ _ _ _ _ (hn ▸ wayL_len _ _ _) (hy ▸ wayL_len _ _ _))
  simp only [restP, yesR, val_ite, hm, temp_ref _ h1 h2, g0, g1, jmpL_ref, branchL_ref, Bool.not_true, cond_false, cond_true, beq_self_eq_true]
  cases hb : decide (x.1.2.2.2.1 ≥ 0) <;> cases hc : decide (x.1.2.2.1 ≥ 0) <;> rw [hb] at hn <;> rw [hc] at hy <;> subst hn <;> subst hy <;> simp only [wayL, cond_false, cond_true] at s ⊢ <;> exact s
theorem dec_lt (k : Int) : decide (k < 0) = !decide (k ≥ 0) := by
  by_cases h : k ≥ 0
  · rw [dec_true h, dec_false (by omega)]
    rfl
  · rw [dec_false h, dec_true (by omega)]
    rfl
theorem law_hauberklaw29_RailBranch (x : dens A_hauberklaw29_RailBranch) (_ : fitsAll maxLen A_hauberklaw29_RailBranch x) : (T_hauberklaw29_RailBranch x).val = some true := by
  cases hm : mayB x with
  | false =>
    have hc : badB x = true := by
      unfold mayB at hm
      unfold badB
      by_cases k2 : x.1.1 = 2
      · by_cases k0 : x.1.2.1 ≥ 0
        · by_cases k1 : x.1.2.1 ≤ 16382
          · rw [k2, dec_true k0, dec_true k1] at hm
            cases hm
          · rw [dec_true (show x.1.2.1 ≥ 16383 from Int.not_le.1 k1)]
            simp
        · rw [dec_true (show x.1.2.1 < 0 from Int.not_le.1 k0)]
          simp
      · simp [k2]
    unfold T_hauberklaw29_RailBranch restP V_rail_Branch
    rw [hc, hm]
    rfl
  | true =>
    have hm' := hm
    simp only [mayB, Bool.and_eq_true, decide_eq_true_eq] at hm'
    obtain ⟨k2, k0, k1⟩ := hm'
    have hc : badB x = false := by
      unfold badB
      rw [not_neg x.1.2.1 k0, not_big x.1.2.1 k1]
      simp [bne, k2]
    have w : ∀ k : Int, wayB k x.2.2 = wayL (decide (k ≥ 0)) k x.2.2 := fun k => by
      unfold wayB
      rw [dec_lt]
      cases decide (k ≥ 0) <;> rfl
    unfold T_hauberklaw29_RailBranch V_rail_Branch
    rw [hc, temp_fr _ k0 k1]
    exact rest_ok x _ _ hm k0 k1 (w _) (w _)
end Go.Av
