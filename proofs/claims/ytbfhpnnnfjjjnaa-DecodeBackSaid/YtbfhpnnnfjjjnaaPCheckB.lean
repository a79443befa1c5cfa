/- Layer 2: what is known of an instruction that there is. -/
import Derived.Test.YtbfhpnnnfjjjnaaPEncLaw
namespace Go.Av
open Go
theorem bad2 (A : Bool) (x : Option Int) : (bif A then some 2 else x).getD 0 = 0 ↔ A = false ∧ x.getD 0 = 0 := by cases A <;> simp
theorem bad6 (A : Bool) (x : Option Int) : (bif A then some 6 else x).getD 0 = 0 ↔ A = false ∧ x.getD 0 = 0 := by cases A <;> simp

set_option maxHeartbeats 1000000 in
/-- What is known of an instruction that there is. -/
theorem check_bounds {op rd rn rm ra imm cond : Int} {w : Bool} (h : V_thumb_Check (op, rd, rn, rm, ra, imm, cond, w, ()) = 0) :
    (1 ≤ op ∧ op ≤ 25) ∧ (0 ≤ rd ∧ rd ≤ 12) ∧ (0 ≤ rn ∧ rn ≤ 12) ∧ (0 ≤ rm ∧ rm ≤ 12) ∧ (op = 17 → 0 ≤ ra ∧ ra ≤ 12 ∧ ra ≠ rd) ∧ (op ≠ 24 → op ≠ 25 → 0 ≤ imm ∧ imm ≤ 65535 ∧ w = false ∧ cond = 0) ∧ (5 ≤ op → op ≤ 23 → imm ≤ 31) ∧ (op = 18 → 1 ≤ ra ∧ ra ≤ 32 - imm) ∧ (6 ≤ op → op ≤ 8 → 1 ≤ imm) := by
  have hw := left_same imm
  rcases op_cases op with rfl | rfl | rfl | rfl | rfl | rfl | rfl | rfl | rfl | rfl | rfl | rfl | rfl | rfl | rfl | rfl | rfl | rfl | rfl | rfl | rfl | rfl | rfl | rfl | rfl | hop
  case inr.inr.inr.inr.inr.inr.inr.inr.inr.inr.inr.inr.inr.inr.inr.inr.inr.inr.inr.inr.inr.inr.inr.inr.inr =>
    exfalso
    have e := fun k hk => op_none (n := op) (k := k) hop hk
    simp [V_thumb_Check, T_thumb_Check, V_thumb_formOf, T_thumb_formOf, PO.getO, PO.val, e] at h
  all_goals
    simp [V_thumb_Check, T_thumb_Check, V_thumb_formOf, T_thumb_formOf, V_thumb_field, T_thumb_field, V_thumb_within, T_thumb_within, PO.getO, PO.val, V_thumb_branch, T_thumb_branch, V_thumb_Reach, T_thumb_Reach] at h ⊢
    simp only [bad2, bad6, Bool.or_eq_false_iff, Bool.not_eq_false', decide_eq_true_eq, bne_eq_false_iff_eq, beq_iff_eq] at h
    grind

theorem wrap_a : IntKind.i64.wrap (-1048576) = -1048576 := rfl
theorem wrap_b : IntKind.i64.wrap 1048574 = 1048574 := rfl
set_option maxHeartbeats 1000000 in
/-- More of what is known of an instruction that there is. -/
theorem check_more {op rd rn rm ra imm cond : Int} {w : Bool} (h : V_thumb_Check (op, rd, rn, rm, ra, imm, cond, w, ()) = 0) :
    (op = 2 → imm ≤ 255) ∧ (9 ≤ op → op ≤ 17 → imm = 0) := by
  have hw := left_same imm
  rcases op_cases op with rfl | rfl | rfl | rfl | rfl | rfl | rfl | rfl | rfl | rfl | rfl | rfl | rfl | rfl | rfl | rfl | rfl | rfl | rfl | rfl | rfl | rfl | rfl | rfl | rfl | hop
  case inr.inr.inr.inr.inr.inr.inr.inr.inr.inr.inr.inr.inr.inr.inr.inr.inr.inr.inr.inr.inr.inr.inr.inr.inr =>
    exfalso
    have e := fun k hk => op_none (n := op) (k := k) hop hk
    simp [V_thumb_Check, T_thumb_Check, V_thumb_formOf, T_thumb_formOf, PO.getO, PO.val, e] at h
  case inr.inr.inr.inr.inr.inr.inr.inr.inr.inr.inr.inr.inr.inr.inr.inr.inr.inr.inr.inr.inr.inr.inr.inl => omega
  case inr.inr.inr.inr.inr.inr.inr.inr.inr.inr.inr.inr.inr.inr.inr.inr.inr.inr.inr.inr.inr.inr.inr.inr.inl => omega
  all_goals
    simp [V_thumb_Check, T_thumb_Check, V_thumb_formOf, T_thumb_formOf, V_thumb_field, T_thumb_field, V_thumb_within, T_thumb_within, PO.getO, PO.val] at h ⊢
    try simp only [bad2, Bool.or_eq_false_iff, Bool.not_eq_false', decide_eq_true_eq, bne_eq_false_iff_eq, beq_iff_eq] at h
    try grind
theorem check_25 {rd rn rm ra imm cond : Int} (h : V_thumb_Check (25, rd, rn, rm, ra, imm, cond, true, ()) = 0) : -1048576 ≤ imm ∧ imm < 1048576 := by
  simp [V_thumb_Check, T_thumb_Check, V_thumb_within, T_thumb_within, PO.getO, PO.val, V_thumb_branch, T_thumb_branch, V_thumb_Reach, T_thumb_Reach, wrap_a, wrap_b] at h
  simp only [bad2, bad6, Bool.or_eq_false_iff, Bool.not_eq_false', decide_eq_true_eq, bne_eq_false_iff_eq] at h
  grind
end Go.Av
