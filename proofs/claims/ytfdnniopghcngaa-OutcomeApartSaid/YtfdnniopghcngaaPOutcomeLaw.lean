/- Layer 10: the laws. -/
import Derived.Test.YtfdnniopghcngaaPOutcome
namespace Go.Av
open Go

theorem Of_same (x : dens [tResult]) : V_outcome_Of x = V_hauberkref10_Of x := rfl

theorem zero_sum (l : List UInt8) : V_outcome_zero l = (V_hauberkref10_sum l == 0) := (sumB_zero l).symm

theorem Wiped_small (x : dens [tResult]) (h : tResult.fits 140737488351232 x) : G_outcome_Wiped x = true ∧ G_hauberkref10_Wiped x = true ∧ V_outcome_Wiped x = V_hauberkref10_Wiped x ∧
    V_outcome_Wiped x = (x.2.2.2.2.1 == 0 && (V_outcome_zero x.2.2.2.2.2.2.1 && (V_outcome_zero x.2.2.2.2.2.2.2.1 && V_outcome_zero x.2.2.2.2.2.2.2.2.1))) := by
  obtain ⟨_, _, _, _, _, _, h1, h2, h3, _⟩ := h
  have g : ∀ l : List UInt8, l.length ≤ 140737488351232 → G_outcome_zero l = true ∧ G_hauberkref10_sum l = true := fun l hl => ⟨dec_true (show List.length l < _ by omega), dec_true (show List.length l < _ by omega)⟩
  have e1 : (T_outcome_Wiped x).val = some (x.2.2.2.2.1 == 0 && (V_outcome_zero x.2.2.2.2.2.2.1 && (V_outcome_zero x.2.2.2.2.2.2.2.1 && V_outcome_zero x.2.2.2.2.2.2.2.2.1))) := by
    simp [T_outcome_Wiped, PO.val, (g _ h1).1, (g _ h2).1, (g _ h3).1]
  have e2 : (T_hauberkref10_Wiped x).val = some (x.2.2.2.2.1 == 0 && (V_outcome_zero x.2.2.2.2.2.2.1 && (V_outcome_zero x.2.2.2.2.2.2.2.1 && V_outcome_zero x.2.2.2.2.2.2.2.2.1))) := by
    simp [T_hauberkref10_Wiped, PO.val, (g _ h1).2, (g _ h2).2, (g _ h3).2, zero_sum]
  refine ⟨by rw [G_outcome_Wiped, e1]; rfl, by rw [G_hauberkref10_Wiped, e2]; rfl, ?_, ?_⟩
  · rw [V_outcome_Wiped, V_hauberkref10_Wiped, PO.getO, PO.getO, e1, e2]
  · rw [V_outcome_Wiped, PO.getO, e1]; rfl

theorem law_hauberklaw10_OutcomeTells (x : dens A_hauberklaw10_OutcomeTells) (h : fitsAll 140737488351232 A_hauberklaw10_OutcomeTells x) : (T_hauberklaw10_OutcomeTells x).val = some true := by
  obtain ⟨g1, g2, g3, _⟩ := Wiped_small x h
  simp [T_hauberklaw10_OutcomeTells, PO.val, Of_same, g1, g2, g3]

theorem tmod4 (n : Int) (h : 0 ≤ n) : n.tmod 4 = n % 4 := Int.tmod_eq_emod_of_nonneg h

theorem Check_int (a b c d : Int) (hc : -9223372036854775808 ≤ c ∧ c < 9223372036854775808) : V_memmap_Check ((a, b, c, ()), d) = V_hauberkref05_Check ((a, b, c, ()), d) := by
  have m1 : ∀ p q : Int, (imin p q < 0) ↔ (p < 0 ∨ q < 0) := fun p q => by
    simp only [imin, Bool.cond_eq_ite, decide_eq_true_eq]
    split <;> omega
  have m2 : ∀ p q n : Int, (imax p q > n) ↔ (p > n ∨ q > n) := fun p q n => by
    simp only [imax, Bool.cond_eq_ite, decide_eq_true_eq]
    split <;> omega
  have m3 : ¬ c < 4 → w64 (c - 4) = c - 4 := fun h => w64_id (by omega) (by omega)
  simp only [V_memmap_Check, V_hauberkref05_Check, PO.getO, T_memmap_Check, T_hauberkref05_Check, PO.val, Bool.cond_eq_ite, decide_eq_true_eq, Bool.or_eq_true, bne_iff_ne, m1, m2]
  dsimp only [Ty.den, dens]
  by_cases h4 : c < 4
  · generalize w64 (c - 4) = e
    repeat' split
    all_goals first | rfl | (exfalso; omega)
  · rw [m3 h4]
    repeat' split
    all_goals first | rfl | (exfalso; omega)

theorem Check_ok (a b c d : Int) (h : V_memmap_Check ((a, b, c, ()), d) = 0) : 0 ≤ a ∧ a ≤ 65536 ∧ 0 ≤ b ∧ b ≤ 65536 ∧ 0 ≤ c ∧ c ≤ 65536 ∧ a.tmod 4 = 0 ∧ b.tmod 4 = 0 ∧ c.tmod 4 = 0 ∧ 4 ≤ c ∧ 0 ≤ d ∧ d ≤ 262144 := by
  simp only [V_memmap_Check, PO.getO, T_memmap_Check, PO.val, Bool.cond_eq_ite, decide_eq_true_eq, Bool.or_eq_true, bne_iff_ne] at h
  dsimp only [Ty.den, dens] at h
  repeat' split at h
  all_goals first | (exfalso; revert h; simp; done) | omega

theorem Slack_int (a b c : Int) (hc : -9223372036854775808 ≤ c ∧ c < 9223372036854775808) : V_outcome_Slack (a, b, c, ()) = V_hauberkref10_Slack (a, b, c, ()) := by
  have hk := Check_int a b c 0 hc
  simp only [V_outcome_Slack, V_hauberkref10_Slack, PO.getO, T_outcome_Slack, T_hauberkref10_Slack, PO.val]
  rw [← hk]
  cases hv : (V_memmap_Check ((a, b, c, ()), 0) != 0)
  · have := Check_ok a b c 0 (by simpa using hv)
    simp only [cond_false, Option.getD_some]
    rw [w64_id (n := 2 * c) (by omega) (by omega), w64_id (n := b + 2 * c) (by omega) (by omega), w64_id (n := 32 * (b + 2 * c)) (by omega) (by omega), w64_id (n := 32 * b) (by omega) (by omega), w64_id (n := 64 * c) (by omega) (by omega),
      w64_id (n := 256 + 32 * b) (by omega) (by omega)]
    congr 1
    omega
  · rfl

theorem law_hauberklaw10_OutcomeSame (x : dens A_hauberklaw10_OutcomeSame) (h : fitsAll maxLen A_hauberklaw10_OutcomeSame x) : (T_hauberklaw10_OutcomeSame x).val = some true := by
  have hs : V_outcome_Slack x.2.2 = V_hauberkref10_Slack x.2.2 := Slack_int _ _ _ (i64_wf h.2.2.2.2.1)
  simp [T_hauberklaw10_OutcomeSame, PO.val, V_outcome_Same, T_outcome_Same, PO.getO, hs]

theorem law_hauberklaw10_OutcomeApart (x : dens A_hauberklaw10_OutcomeApart) (h : fitsAll 140737488351232 A_hauberklaw10_OutcomeApart x) : (T_hauberklaw10_OutcomeApart x).val = some true := by
  obtain ⟨a, b⟩ := x
  obtain ⟨g1, _, _, w1⟩ := Wiped_small a h.1
  have ts : ∀ p q : dens [tResult], V_outcome_Same (p, q) = (p.1 == q.1 && (p.2.2.2.2.1 == q.2.2.2.2.1 && (p.2.2.2.2.2.1 == q.2.2.2.2.2.1 && p.2.2.2.2.2.2.1 == q.2.2.2.2.2.2.1))) := fun _ _ => rfl
  have t1 : V_outcome_Same (a, a) = true := by simp [ts]
  have t2 : V_outcome_Same (a, b) = V_outcome_Same (b, a) := by simp [ts, BEq.comm]
  have o1 : ∀ p : dens [tResult], (V_outcome_Of p).1 = 1 → p.2.2.2.2.1 = 3235799053 := by
    intro p
    simp only [V_outcome_Of, PO.getO, T_outcome_Of, PO.val]
    cases !p.1 <;> cases hm : (p.2.2.2.2.1 == 3235799053) <;> cases (p.2.2.2.2.2.1 == 195890093) <;> simp at hm ⊢ <;> exact hm
  have o2 : ∀ p : dens [tResult], (V_outcome_Of p).1 ≠ 1 → (V_outcome_Of p).2.1 = [] := by
    intro p
    simp only [V_outcome_Of, PO.getO, T_outcome_Of, PO.val]
    cases !p.1 <;> cases hm : (p.2.2.2.2.1 == 3235799053) <;> cases (p.2.2.2.2.2.1 == 195890093) <;> simp
  have o3 : V_outcome_Same (a, b) = true → V_outcome_Of a = V_outcome_Of b := by
    rw [ts]
    simp only [Bool.and_eq_true, beq_iff_eq]
    rintro ⟨q1, q2, q3, q4⟩
    simp only [V_outcome_Of, PO.getO, T_outcome_Of, PO.val, q1, q2, q3, q4]
  have e1 : ∀ p : dens [tResult], Ty.eqb tOutcome (V_outcome_Of p) (V_outcome_Of p) = true := fun p => eqb_refl _ _
  simp only [T_hauberklaw10_OutcomeApart, PO.val, g1, t1, ← t2, Bool.cond_true_right, Bool.or_true, beq_self_eq_true, Bool.and_true]
  have c1 : (bif (V_outcome_Of a).1 == 1 then V_outcome_Wiped a || (V_outcome_Of a).1 != 1 && !(V_outcome_Of a).2.1 == [] else (V_outcome_Of a).1 != 1 && !(V_outcome_Of a).2.1 == []) = false := by
    by_cases hk : (V_outcome_Of a).1 = 1
    · have := o1 a hk
      rw [w1, this]
      simp [hk]
    · simp [hk, o2 a hk]
  rw [c1]
  cases hsame : V_outcome_Same (a, b)
  · simp
  · have := o3 hsame
    simp [this, e1]
end Go.Av
