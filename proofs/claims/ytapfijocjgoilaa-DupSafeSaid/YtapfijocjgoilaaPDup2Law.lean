/- Layer 28: the law of what may be done twice. -/
import Derived.Test.YtapfijocjgoilaaPDup2
import Derived.Test.YtapfijocjgoilaaPRef02Law
namespace Go.Av
open Go

theorem has28_ok (n : Int) (w : Bool) (c : Int) : G_hauberkref28_has (V_hauberkref02_Bits (n, w), c) = true := has_ok n w c

set_option maxHeartbeats 4000000 in
theorem safe_val (x : tIns.den) : (T_hauberkref28_Safe x).val = some (V_dup_Safe x) := by
  unfold T_hauberkref28_Safe
  dsimp only [PO.val]
  rw [check_ok, ← check_same]
  obtain ⟨op, rd, rn, rm, ra, imm, cond, w, u⟩ := x
  rw [has28_ok, has28_ok, has28_ok, has28_ok]
  unfold V_dup_Safe T_dup_Safe
  dsimp only [PO.getO, PO.val]
  cases hc : (V_thumb_Check (op, rd, rn, rm, ra, imm, cond, w, u) != 0)
  · rcases op_cases op with rfl | rfl | rfl | rfl | rfl | rfl | rfl | rfl | rfl | rfl | rfl | rfl | rfl | rfl | rfl | rfl | rfl | rfl | rfl | rfl | rfl | rfl | rfl | rfl | rfl | hop
    case inr.inr.inr.inr.inr.inr.inr.inr.inr.inr.inr.inr.inr.inr.inr.inr.inr.inr.inr.inr.inr.inr.inr.inr.inr =>
      have e := fun k hk => op_none (n := op) (k := k) hop hk
      simp [V_thumb_Check, T_thumb_Check, V_thumb_formOf, T_thumb_formOf, PO.getO, PO.val, e] at hc
    all_goals
      have hw : w = false ∨ w = true := by cases w <;> simp
      rcases hw with rfl | rfl
      · simp [V_hauberkref28_has, V_hauberkref02_Bits, T_hauberkref02_Bits, V_hauberkref02_more, T_hauberkref02_more, PO.getO, PO.val, u8I] <;> grind
      · first | (simp [V_thumb_Check, T_thumb_Check, PO.getO, PO.val] at hc; done) | simp
  · rfl

theorem law_hauberklaw28_DupSafe (x : dens A_hauberklaw28_DupSafe) (_ : fitsAll maxLen A_hauberklaw28_DupSafe x) : (T_hauberklaw28_DupSafe x).val = some true := by
  have h := safe_val x
  have g : G_hauberkref28_Safe x = true := by rw [G_hauberkref28_Safe, h]; rfl
  have e : V_hauberkref28_Safe x = V_dup_Safe x := by rw [V_hauberkref28_Safe, PO.getO, h]; rfl
  simp [T_hauberklaw28_DupSafe, PO.val, g, e]
end Go.Av
