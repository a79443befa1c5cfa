/- Layer 2: that there is an instruction, by the table of bits, is what the program says. -/
import Derived.Test.YtbfhpnnnfjjjnaaPRef02
namespace Go.Av
open Go

theorem op_cases (n : Int) : n = 1 ∨ n = 2 ∨ n = 3 ∨ n = 4 ∨ n = 5 ∨ n = 6 ∨ n = 7 ∨ n = 8 ∨ n = 9 ∨ n = 10 ∨ n = 11 ∨ n = 12 ∨ n = 13 ∨ n = 14 ∨ n = 15 ∨ n = 16 ∨ n = 17 ∨ n = 18 ∨ n = 19 ∨ n = 20 ∨ n = 21 ∨ n = 22 ∨ n = 23 ∨ n = 24 ∨ n = 25 ∨ (n < 1 ∨ 25 < n) := by omega

theorem op_none {n k : Int} (h : n < 1 ∨ 25 < n) (hk : 1 ≤ k ∧ k ≤ 25) : (n == k) = false := by
  rw [beq_eq_false_iff_ne]
  omega

theorem bits_none {n : Int} (h : n < 1 ∨ 25 < n) (w : Bool) : V_hauberkref02_Bits (n, w) = [] := by
  have e := fun k hk => op_none (n := n) (k := k) h hk
  cases w <;> simp [V_hauberkref02_Bits, T_hauberkref02_Bits, V_hauberkref02_more, T_hauberkref02_more, PO.getO, PO.val, e]

theorem bits_len (n : Int) (w : Bool) : (V_hauberkref02_Bits (n, w)).length ≤ 32 := by
  rcases op_cases n with rfl | rfl | rfl | rfl | rfl | rfl | rfl | rfl | rfl | rfl | rfl | rfl | rfl | rfl | rfl | rfl | rfl | rfl | rfl | rfl | rfl | rfl | rfl | rfl | rfl | h
  case inr.inr.inr.inr.inr.inr.inr.inr.inr.inr.inr.inr.inr.inr.inr.inr.inr.inr.inr.inr.inr.inr.inr.inr.inr => rw [bits_none h]; simp
  all_goals (cases w <;> decide)

theorem has_ok (n : Int) (w : Bool) (c : Int) : G_hauberkref02_has (V_hauberkref02_Bits (n, w), c) = true := by
  have := bits_len n w
  exact dec_true (show List.length (V_hauberkref02_Bits (n, w)) < _ by omega)

theorem reg_val (n : Int) (w : Bool) (c r : Int) : (T_hauberkref02_reg (V_hauberkref02_Bits (n, w), c, r)).val = some (bif List.any (V_hauberkref02_Bits (n, w)) (fun b => u8I b == c) then decide (r ≥ 0) && decide (r ≤ bif (lenI (V_hauberkref02_Bits (n, w)) == 16) then 7 else 12) else r == 0) := by
  simp only [T_hauberkref02_reg, PO.val, V_hauberkref02_has]
  rw [has_ok]
  cases List.any (V_hauberkref02_Bits (n, w)) (fun b => u8I b == c) <;> rfl

theorem reg_ok (n : Int) (w : Bool) (c r : Int) : G_hauberkref02_reg (V_hauberkref02_Bits (n, w), c, r) = true := by
  rw [G_hauberkref02_reg, reg_val]; rfl

theorem reg_eq (n : Int) (w : Bool) (c r : Int) : V_hauberkref02_reg (V_hauberkref02_Bits (n, w), c, r) = (bif List.any (V_hauberkref02_Bits (n, w)) (fun b => u8I b == c) then decide (r ≥ 0) && decide (r ≤ bif (lenI (V_hauberkref02_Bits (n, w)) == 16) then 7 else 12) else r == 0) := by
  rw [V_hauberkref02_reg, PO.getO, reg_val]; rfl

theorem some_cond {α : Type} (b : Bool) (x y : Option α) (hx : x.isSome = true) (hy : y.isSome = true) : (bif b then x else y).isSome = true := by
  cases b <;> assumption

theorem check_ok (x : tIns.den) : G_hauberkref02_Check x = true := by
  obtain ⟨op, rd, rn, rm, ra, imm, cond, w, u⟩ := x
  unfold G_hauberkref02_Check T_hauberkref02_Check
  simp only [PO.val]
  rw [reg_ok, reg_ok, reg_ok, reg_ok]
  simp only [Bool.or_true, Bool.and_true, cond_true]
  repeat' (first | rfl | apply some_cond)

theorem even_i64 (n : Int) : (band .i64 n 1 != 0) = (Int.tmod n 2 != 0) := by
  have h : band .i64 n 1 = n % 2 := band_low n 1 (by omega)
  rw [h, Bool.eq_iff_iff]
  simp only [bne_iff_ne, ne_eq]
  exact not_congr ((Int.dvd_iff_emod_eq_zero (a := 2) (b := n)).symm.trans Int.dvd_iff_tmod_eq_zero)

theorem left_same (imm : Int) (h1 : 0 ≤ imm) (h2 : imm ≤ 31) : w64 (32 - imm) = 32 - imm := w64_id (by omega) (by omega)

set_option maxHeartbeats 4000000 in
theorem check_same (x : tIns.den) : V_thumb_Check x = V_hauberkref02_Check x := by
  obtain ⟨op, rd, rn, rm, ra, imm, cond, w, u⟩ := x
  have hw := left_same imm
  have w1 : w64 (-2048) = -2048 := rfl
  have w2 : w64 2046 = 2046 := rfl
  have w3 : w64 (-16777216) = -16777216 := rfl
  have w4 : w64 16777214 = 16777214 := rfl
  have w5 : w64 (-256) = -256 := rfl
  have w6 : w64 254 = 254 := rfl
  have w7 : w64 (-1048576) = -1048576 := rfl
  have w8 : w64 1048574 = 1048574 := rfl
  have m1 : imax 0 2046 = 2046 := rfl
  have m2 : imax 0 16777214 = 16777214 := rfl
  have m3 : imax 0 254 = 254 := rfl
  have m4 : imax 0 1048574 = 1048574 := rfl
  unfold V_hauberkref02_Check T_hauberkref02_Check
  dsimp only [PO.getO, PO.val]
  rw [reg_ok, reg_ok, reg_ok, reg_ok, reg_eq, reg_eq, reg_eq, reg_eq]
  rcases op_cases op with rfl | rfl | rfl | rfl | rfl | rfl | rfl | rfl | rfl | rfl | rfl | rfl | rfl | rfl | rfl | rfl | rfl | rfl | rfl | rfl | rfl | rfl | rfl | rfl | rfl | hop
  case inr.inr.inr.inr.inr.inr.inr.inr.inr.inr.inr.inr.inr.inr.inr.inr.inr.inr.inr.inr.inr.inr.inr.inr.inr =>
    rw [bits_none hop]
    have e := fun k hk => op_none (n := op) (k := k) hop hk
    simp [V_thumb_Check, T_thumb_Check, V_thumb_formOf, T_thumb_formOf, PO.getO, PO.val, e]
  all_goals
    cases w <;>
    simp [V_hauberkref02_Bits, T_hauberkref02_Bits, V_hauberkref02_more, T_hauberkref02_more, V_thumb_Check, T_thumb_Check, V_thumb_formOf, T_thumb_formOf, V_thumb_field, T_thumb_field, V_thumb_within, T_thumb_within, PO.getO, PO.val, V_hauberkref02_number, T_hauberkref02_number, u8I, lenI, V_thumb_branch, T_thumb_branch, V_thumb_Reach, T_thumb_Reach, V_hauberkref02_Reach, T_hauberkref02_Reach, even_i64, w1, w2, w3, w4, w5, w6, w7, w8, m1, m2, m3, m4] <;> grind
end Go.Av
