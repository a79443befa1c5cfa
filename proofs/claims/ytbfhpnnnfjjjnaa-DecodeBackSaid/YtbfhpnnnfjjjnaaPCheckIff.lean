/- Layer 2: when there is an instruction. -/
import Derived.Test.YtbfhpnnnfjjjnaaPCheckB
namespace Go.Av
open Go
/-- A number between two. -/
abbrev bw (n a b : Int) : Bool := decide (a ≤ n) && decide (n ≤ b)
/-- May an instruction be? -/
def okB (op rd rn rm ra imm cond : Int) (w : Bool) : Bool :=
  bif op == 24 then (rd == 0 && (rn == 0 && (rm == 0 && (ra == 0 && (cond == 0 && (imm % 2 == 0 && bif w then bw imm (-16777216) 16777214 else bw imm (-2048) 2046))))))
  else bif op == 25 then (rd == 0 && (rn == 0 && (rm == 0 && (ra == 0 && (bw cond 0 13 && (imm % 2 == 0 && bif w then bw imm (-1048576) 1048574 else bw imm (-256) 254))))))
  else (!w && (cond == 0 && (
    bif op == 1 then (rd == 0 && (rn == 0 && (rm == 0 && (ra == 0 && imm == 0))))
    else bif op == 2 then (rd == 0 && (rn == 0 && (rm == 0 && (ra == 0 && bw imm 0 255))))
    else bif op == 3 || op == 4 then (bw rd 0 12 && (rn == 0 && (rm == 0 && (ra == 0 && bw imm 0 65535))))
    else bif op == 5 then (bw rd 0 12 && (rn == 0 && (bw rm 0 12 && (ra == 0 && bw imm 0 31))))
    else bif op == 6 || (op == 7 || op == 8) then (bw rd 0 12 && (rn == 0 && (bw rm 0 12 && (ra == 0 && bw imm 1 31))))
    else bif op == 9 then (bw rd 0 12 && (rn == 0 && (bw rm 0 12 && (ra == 0 && imm == 0))))
    else bif op == 17 then (bw rd 0 12 && (bw rn 0 12 && (bw rm 0 12 && (bw ra 0 12 && (imm == 0 && ra != rd)))))
    else bif op == 18 then (bw rd 0 12 && (bw rn 0 12 && (rm == 0 && (bw imm 0 31 && bw ra 1 (32 - imm)))))
    else bif op == 23 then (rd == 0 && (bw rn 0 7 && (bw rm 0 7 && (ra == 0 && imm == 0))))
    else bif op == 19 || (op == 20 || (op == 21 || op == 22)) then (bw rd 0 7 && (bw rn 0 7 && (rm == 0 && (ra == 0 && imm == 0))))
    else bif bw op 10 16 then (bw rd 0 12 && (bw rn 0 12 && (bw rm 0 12 && (ra == 0 && imm == 0))))
    else false)))
theorem wrap_c : IntKind.i64.wrap (-16777216) = -16777216 := rfl
theorem wrap_d : IntKind.i64.wrap 16777214 = 16777214 := rfl
theorem wrap_e : IntKind.i64.wrap (-2048) = -2048 := rfl
theorem wrap_f : IntKind.i64.wrap 2046 = 2046 := rfl
theorem wrap_g : IntKind.i64.wrap (-256) = -256 := rfl
theorem wrap_h : IntKind.i64.wrap 254 = 254 := rfl
set_option maxHeartbeats 2000000 in
theorem check_iff (op rd rn rm ra imm cond : Int) (w : Bool) : V_thumb_Check (op, rd, rn, rm, ra, imm, cond, w, ()) = 0 ↔ okB op rd rn rm ra imm cond w = true := by
  have hw := left_same imm
  have hb := band_one imm
  rcases op_cases op with rfl | rfl | rfl | rfl | rfl | rfl | rfl | rfl | rfl | rfl | rfl | rfl | rfl | rfl | rfl | rfl | rfl | rfl | rfl | rfl | rfl | rfl | rfl | rfl | rfl | hop
  case inr.inr.inr.inr.inr.inr.inr.inr.inr.inr.inr.inr.inr.inr.inr.inr.inr.inr.inr.inr.inr.inr.inr.inr.inr =>
    have e := fun k hk => op_none (n := op) (k := k) hop hk
    have e2 : bw op 10 16 = false := by unfold bw; rw [Bool.and_eq_false_iff, decide_eq_false_iff_not, decide_eq_false_iff_not]; omega
    simp [V_thumb_Check, T_thumb_Check, V_thumb_formOf, T_thumb_formOf, PO.getO, PO.val, e, okB, e2]
  all_goals cases w
  all_goals
    simp [okB, V_thumb_Check, T_thumb_Check, V_thumb_formOf, T_thumb_formOf, V_thumb_field, T_thumb_field, V_thumb_within, T_thumb_within, PO.getO, PO.val, V_thumb_branch, T_thumb_branch, V_thumb_Reach, T_thumb_Reach, wrap_a, wrap_b, wrap_c, wrap_d, wrap_e, wrap_f, wrap_g, wrap_h, hb, w64]
    try simp only [bad2, bad6, Bool.or_eq_false_iff, Bool.not_eq_false', decide_eq_true_eq, bne_eq_false_iff_eq, beq_iff_eq]
    try grind
end Go.Av
