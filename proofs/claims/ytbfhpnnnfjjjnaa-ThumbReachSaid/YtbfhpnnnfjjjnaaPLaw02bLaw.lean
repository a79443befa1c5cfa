/- A branch's reach, proved of what the functions compute. -/
import Derived.Test.YtbfhpnnnfjjjnaaPLaw02b
namespace Go.Av
open Go
theorem reach_24 (w : Bool) : V_thumb_Reach (24, w) = (bif w then -16777216 else -2048, bif w then 16777214 else 2046, ()) := by cases w <;> rfl
theorem reach_25 (w : Bool) : V_thumb_Reach (25, w) = (bif w then -1048576 else -256, bif w then 1048574 else 254, ()) := by cases w <;> rfl
theorem check_b (op imm cond : Int) (w : Bool) (h : op = 24 ∧ cond = 0 ∨ op = 25 ∧ 0 ≤ cond ∧ cond ≤ 13) :
    V_thumb_Check (op, 0, 0, 0, 0, imm, cond, w, ()) = bif (Int.tmod imm 2 != 0 || !(decide (imm ≥ (V_thumb_Reach (op, w)).1) && decide (imm ≤ (V_thumb_Reach (op, w)).2.1))) then 6 else 0 := by
  have hx : (op == (24 : Int) || op == 25) = true := by rcases h with ⟨h, _⟩ | ⟨h, _⟩ <;> subst h <;> rfl
  have hc : (bif op == (24 : Int) then cond != 0 || !V_thumb_within (cond, 0, 13) else !V_thumb_within (cond, 0, 13)) = false := by
    rcases h with ⟨h, rfl⟩ | ⟨h, h0, h1⟩
    · subst h; rfl
    · subst h
      show (!(decide (cond ≥ 0) && decide (cond ≤ 13))) = false
      rw [decide_eq_true h0, decide_eq_true h1]
      rfl
  have hc2 : (bif op == (24 : Int) then cond != 0 || true else true) = true := by cases op == (24 : Int) <;> simp
  have e : V_thumb_Check (op, 0, 0, 0, 0, imm, cond, w, ()) = V_thumb_branch (op, 0, 0, 0, 0, imm, cond, w, ()) := by
    unfold V_thumb_Check T_thumb_Check PO.getO PO.val
    dsimp only
    rw [hx]
    rfl
  rw [e]
  unfold V_thumb_branch T_thumb_branch PO.getO
  dsimp only [PO.val]
  rw [hc, hc2, even_i64]
  show _ = bif (Int.tmod imm 2 != 0 || !V_thumb_within (imm, (V_thumb_Reach (op, w)).1, (V_thumb_Reach (op, w)).2.1)) then 6 else 0
  cases (Int.tmod imm 2 != (0 : Int)) <;> cases V_thumb_within (imm, (V_thumb_Reach (op, w)).1, (V_thumb_Reach (op, w)).2.1) <;> rfl
theorem law_hauberklaw02_ThumbReach (x : dens A_hauberklaw02_ThumbReach) (_ : fitsAll maxLen A_hauberklaw02_ThumbReach x) : (T_hauberklaw02_ThumbReach x).val = some true := by
  obtain ⟨op, cond, imm⟩ := x
  exact go op cond imm
 where
  fin (op cond imm : Int) (h : op = 24 ∧ cond = 0 ∨ op = 25 ∧ 0 ≤ cond ∧ cond ≤ 13) (c2 : Int) (hc2 : (bif op == 24 then 0 else c2) = cond) (hg : (bif op != 24 then op != 25 || (decide (c2 < 0) || decide (c2 > 13)) else decide (c2 < 0) || decide (c2 > 13)) = false) : (T_hauberklaw02_ThumbReach (op, c2, imm)).val = some true := by
    have h1 := check_b op imm cond false h
    have h2 := check_b op imm cond true h
    unfold T_hauberklaw02_ThumbReach
    dsimp only [PO.val]
    rw [hg, hc2, h1, h2]
    rcases h with ⟨rfl, _⟩ | ⟨rfl, _⟩
    · rw [reach_24, reach_24]
      simp
      grind
    · rw [reach_25, reach_25]
      simp
      grind
  go (op cond imm : Int) : (T_hauberklaw02_ThumbReach (op, cond, imm)).val = some true := by
    cases hg : (bif op != 24 then op != 25 || (decide (cond < 0) || decide (cond > 13)) else decide (cond < 0) || decide (cond > 13))
    · have hg2 : (op = 24 ∨ op = 25) ∧ 0 ≤ cond ∧ cond ≤ 13 := by
        cases h24 : op != 24 <;> rw [h24] at hg <;> simp at hg h24 <;> omega
      refine fin op (bif op == 24 then 0 else cond) imm ?_ cond rfl hg
      rcases hg2 with ⟨rfl | rfl, h⟩
      · exact Or.inl ⟨rfl, rfl⟩
      · exact Or.inr ⟨rfl, h⟩
    · unfold T_hauberklaw02_ThumbReach
      dsimp only [PO.val]
      rw [hg]
      rfl
end Go.Av
