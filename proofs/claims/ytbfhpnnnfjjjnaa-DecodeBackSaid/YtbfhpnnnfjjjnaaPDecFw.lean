/- Layer 3: of bits of each row's form there is an instruction, and these are its bits. Written by wip/tools/decfw.py. -/
import Derived.Test.YtbfhpnnnfjjjnaaPDecBack
import Derived.Test.YtbfhpnnnfjjjnaaPCheckIff
namespace Go.Av
open Go
theorem le12_iff {x : Int} (h : le12 x = true) : x ≤ 12 := of_decide_eq_true h
theorem SG_even (b : Bool) (r : List Bool) : SG (b :: (r ++ [false])) % 2 = 0 := by
  have h : H (r ++ [false]) = 2 * H r := by
    unfold H
    rw [hb_append]
    show ((hb r 0 * 2 + 0 : Nat) : Int) = _
    omega
  show (H (r ++ [false]) - b.toNat * (2 ^ (r ++ [false]).length : Nat)) % 2 = 0
  rw [h, List.length_append, Nat.pow_add]
  generalize 2 ^ r.length = p
  cases b <;> simp
theorem SG_in (b : Bool) (r : List Bool) (m : Nat) (h : r.length = m) : -((2 ^ m : Nat) : Int) ≤ SG (b :: r) ∧ SG (b :: r) < (2 ^ m : Nat) := by
  subst h
  have h1 := H_nonneg r
  have h2 := H_lt (l := r) (Nat.le_refl _)
  unfold SG
  cases b
  · simp only [Bool.toNat_false]; constructor <;> omega
  · simp only [Bool.toNat_true]; constructor <;> omega
theorem okB_24w (imm : Int) (h : imm % 2 = 0) (h1 : -16777216 ≤ imm) (h2 : imm ≤ 16777214) : okB 24 0 0 0 0 imm 0 true = true := by
  simp [okB]
  omega
theorem nx_nx (a b : Bool) : (!(nx a b ^^ b)) = a := by cases a <;> cases b <;> rfl
theorem fw_1  : okB 1 (0) (0) (0) (0) (0) (0) false = true ∧ (V_hauberkref02_Bits (1, false)).length = 16 ∧ hl (ltr (0) (0) (0) (0) (0) (0)) (V_hauberkref02_Bits (1, false)) = [true, false, true, true, true, true, true, true, false, false, false, false, false, false, false, false] := by
  refine ⟨by kernel_rfl
    , by kernel_rfl, by
      have e : ∀ rd rn rm ra imm cond : Int, hl (ltr rd rn rm ra imm cond) (V_hauberkref02_Bits (1, false)) = [true, false, true, true, true, true, true, true, false, false, false, false, false, false, false, false] := by intro rd rn rm ra imm cond; kernel_rfl
      rw [e]
    ⟩
theorem fw_2 (b8 b9 b10 b11 b12 b13 b14 b15 : Bool)  : okB 2 (0) (0) (0) (0) (H [b8, b9, b10, b11, b12, b13, b14, b15]) (0) false = true ∧ (V_hauberkref02_Bits (2, false)).length = 16 ∧ hl (ltr (0) (0) (0) (0) (H [b8, b9, b10, b11, b12, b13, b14, b15]) (0)) (V_hauberkref02_Bits (2, false)) = [true, false, true, true, true, true, true, false, b8, b9, b10, b11, b12, b13, b14, b15] := by
  have := H_nonneg [b8, b9, b10, b11, b12, b13, b14, b15]
  have : H [b8, b9, b10, b11, b12, b13, b14, b15] < 256 := H_lt (l := [b8, b9, b10, b11, b12, b13, b14, b15]) (k := 8) (by simp)
  have g0 : bI (H [b8, b9, b10, b11, b12, b13, b14, b15]) 7 = b8 := bI_H [b8, b9, b10, b11, b12, b13, b14, b15] 7 (by simp)
  have g1 : bI (H [b8, b9, b10, b11, b12, b13, b14, b15]) 6 = b9 := bI_H [b8, b9, b10, b11, b12, b13, b14, b15] 6 (by simp)
  have g2 : bI (H [b8, b9, b10, b11, b12, b13, b14, b15]) 5 = b10 := bI_H [b8, b9, b10, b11, b12, b13, b14, b15] 5 (by simp)
  have g3 : bI (H [b8, b9, b10, b11, b12, b13, b14, b15]) 4 = b11 := bI_H [b8, b9, b10, b11, b12, b13, b14, b15] 4 (by simp)
  have g4 : bI (H [b8, b9, b10, b11, b12, b13, b14, b15]) 3 = b12 := bI_H [b8, b9, b10, b11, b12, b13, b14, b15] 3 (by simp)
  have g5 : bI (H [b8, b9, b10, b11, b12, b13, b14, b15]) 2 = b13 := bI_H [b8, b9, b10, b11, b12, b13, b14, b15] 2 (by simp)
  have g6 : bI (H [b8, b9, b10, b11, b12, b13, b14, b15]) 1 = b14 := bI_H [b8, b9, b10, b11, b12, b13, b14, b15] 1 (by simp)
  have g7 : bI (H [b8, b9, b10, b11, b12, b13, b14, b15]) 0 = b15 := bI_H [b8, b9, b10, b11, b12, b13, b14, b15] 0 (by simp)
  refine ⟨by
      simp [okB]
      try omega
    , by kernel_rfl, by
      have e : ∀ rd rn rm ra imm cond : Int, hl (ltr rd rn rm ra imm cond) (V_hauberkref02_Bits (2, false)) = [true, false, true, true, true, true, true, false, bI imm 7, bI imm 6, bI imm 5, bI imm 4, bI imm 3, bI imm 2, bI imm 1, bI imm 0] := by intro rd rn rm ra imm cond; kernel_rfl
      rw [e]
      simp only [g0, g1, g2, g3, g4, g5, g6, g7]
    ⟩
theorem fw_3 (b5 b12 b13 b14 b15 b17 b18 b19 b20 b21 b22 b23 b24 b25 b26 b27 b28 b29 b30 b31 : Bool) (h0 : le12 (H [b20, b21, b22, b23]) = true) : okB 3 (H [b20, b21, b22, b23]) (0) (0) (0) (H [b12, b13, b14, b15, b5, b17, b18, b19, b24, b25, b26, b27, b28, b29, b30, b31]) (0) false = true ∧ (V_hauberkref02_Bits (3, false)).length = 32 ∧ hl (ltr (H [b20, b21, b22, b23]) (0) (0) (0) (H [b12, b13, b14, b15, b5, b17, b18, b19, b24, b25, b26, b27, b28, b29, b30, b31]) (0)) ((V_hauberkref02_Bits (3, false)).take 16) = [true, true, true, true, false, b5, true, false, false, true, false, false, b12, b13, b14, b15] ∧ hl (ltr (H [b20, b21, b22, b23]) (0) (0) (0) (H [b12, b13, b14, b15, b5, b17, b18, b19, b24, b25, b26, b27, b28, b29, b30, b31]) (0)) ((V_hauberkref02_Bits (3, false)).drop 16) = [false, b17, b18, b19, b20, b21, b22, b23, b24, b25, b26, b27, b28, b29, b30, b31] := by
  have h0 := le12_iff h0
  have := H_nonneg [b20, b21, b22, b23]
  have : H [b20, b21, b22, b23] < 16 := H_lt (l := [b20, b21, b22, b23]) (k := 4) (by simp)
  have := H_nonneg [b12, b13, b14, b15, b5, b17, b18, b19, b24, b25, b26, b27, b28, b29, b30, b31]
  have : H [b12, b13, b14, b15, b5, b17, b18, b19, b24, b25, b26, b27, b28, b29, b30, b31] < 65536 := H_lt (l := [b12, b13, b14, b15, b5, b17, b18, b19, b24, b25, b26, b27, b28, b29, b30, b31]) (k := 16) (by simp)
  have g0 : bI (H [b20, b21, b22, b23]) 3 = b20 := bI_H [b20, b21, b22, b23] 3 (by simp)
  have g1 : bI (H [b20, b21, b22, b23]) 2 = b21 := bI_H [b20, b21, b22, b23] 2 (by simp)
  have g2 : bI (H [b20, b21, b22, b23]) 1 = b22 := bI_H [b20, b21, b22, b23] 1 (by simp)
  have g3 : bI (H [b20, b21, b22, b23]) 0 = b23 := bI_H [b20, b21, b22, b23] 0 (by simp)
  have g4 : bI (H [b12, b13, b14, b15, b5, b17, b18, b19, b24, b25, b26, b27, b28, b29, b30, b31]) 15 = b12 := bI_H [b12, b13, b14, b15, b5, b17, b18, b19, b24, b25, b26, b27, b28, b29, b30, b31] 15 (by simp)
  have g5 : bI (H [b12, b13, b14, b15, b5, b17, b18, b19, b24, b25, b26, b27, b28, b29, b30, b31]) 14 = b13 := bI_H [b12, b13, b14, b15, b5, b17, b18, b19, b24, b25, b26, b27, b28, b29, b30, b31] 14 (by simp)
  have g6 : bI (H [b12, b13, b14, b15, b5, b17, b18, b19, b24, b25, b26, b27, b28, b29, b30, b31]) 13 = b14 := bI_H [b12, b13, b14, b15, b5, b17, b18, b19, b24, b25, b26, b27, b28, b29, b30, b31] 13 (by simp)
  have g7 : bI (H [b12, b13, b14, b15, b5, b17, b18, b19, b24, b25, b26, b27, b28, b29, b30, b31]) 12 = b15 := bI_H [b12, b13, b14, b15, b5, b17, b18, b19, b24, b25, b26, b27, b28, b29, b30, b31] 12 (by simp)
  have g8 : bI (H [b12, b13, b14, b15, b5, b17, b18, b19, b24, b25, b26, b27, b28, b29, b30, b31]) 11 = b5 := bI_H [b12, b13, b14, b15, b5, b17, b18, b19, b24, b25, b26, b27, b28, b29, b30, b31] 11 (by simp)
  have g9 : bI (H [b12, b13, b14, b15, b5, b17, b18, b19, b24, b25, b26, b27, b28, b29, b30, b31]) 10 = b17 := bI_H [b12, b13, b14, b15, b5, b17, b18, b19, b24, b25, b26, b27, b28, b29, b30, b31] 10 (by simp)
  have g10 : bI (H [b12, b13, b14, b15, b5, b17, b18, b19, b24, b25, b26, b27, b28, b29, b30, b31]) 9 = b18 := bI_H [b12, b13, b14, b15, b5, b17, b18, b19, b24, b25, b26, b27, b28, b29, b30, b31] 9 (by simp)
  have g11 : bI (H [b12, b13, b14, b15, b5, b17, b18, b19, b24, b25, b26, b27, b28, b29, b30, b31]) 8 = b19 := bI_H [b12, b13, b14, b15, b5, b17, b18, b19, b24, b25, b26, b27, b28, b29, b30, b31] 8 (by simp)
  have g12 : bI (H [b12, b13, b14, b15, b5, b17, b18, b19, b24, b25, b26, b27, b28, b29, b30, b31]) 7 = b24 := bI_H [b12, b13, b14, b15, b5, b17, b18, b19, b24, b25, b26, b27, b28, b29, b30, b31] 7 (by simp)
  have g13 : bI (H [b12, b13, b14, b15, b5, b17, b18, b19, b24, b25, b26, b27, b28, b29, b30, b31]) 6 = b25 := bI_H [b12, b13, b14, b15, b5, b17, b18, b19, b24, b25, b26, b27, b28, b29, b30, b31] 6 (by simp)
  have g14 : bI (H [b12, b13, b14, b15, b5, b17, b18, b19, b24, b25, b26, b27, b28, b29, b30, b31]) 5 = b26 := bI_H [b12, b13, b14, b15, b5, b17, b18, b19, b24, b25, b26, b27, b28, b29, b30, b31] 5 (by simp)
  have g15 : bI (H [b12, b13, b14, b15, b5, b17, b18, b19, b24, b25, b26, b27, b28, b29, b30, b31]) 4 = b27 := bI_H [b12, b13, b14, b15, b5, b17, b18, b19, b24, b25, b26, b27, b28, b29, b30, b31] 4 (by simp)
  have g16 : bI (H [b12, b13, b14, b15, b5, b17, b18, b19, b24, b25, b26, b27, b28, b29, b30, b31]) 3 = b28 := bI_H [b12, b13, b14, b15, b5, b17, b18, b19, b24, b25, b26, b27, b28, b29, b30, b31] 3 (by simp)
  have g17 : bI (H [b12, b13, b14, b15, b5, b17, b18, b19, b24, b25, b26, b27, b28, b29, b30, b31]) 2 = b29 := bI_H [b12, b13, b14, b15, b5, b17, b18, b19, b24, b25, b26, b27, b28, b29, b30, b31] 2 (by simp)
  have g18 : bI (H [b12, b13, b14, b15, b5, b17, b18, b19, b24, b25, b26, b27, b28, b29, b30, b31]) 1 = b30 := bI_H [b12, b13, b14, b15, b5, b17, b18, b19, b24, b25, b26, b27, b28, b29, b30, b31] 1 (by simp)
  have g19 : bI (H [b12, b13, b14, b15, b5, b17, b18, b19, b24, b25, b26, b27, b28, b29, b30, b31]) 0 = b31 := bI_H [b12, b13, b14, b15, b5, b17, b18, b19, b24, b25, b26, b27, b28, b29, b30, b31] 0 (by simp)
  refine ⟨by
      simp [okB]
      try omega
    , by kernel_rfl, by
      have e : ∀ rd rn rm ra imm cond : Int, hl (ltr rd rn rm ra imm cond) ((V_hauberkref02_Bits (3, false)).take 16) = [true, true, true, true, false, bI imm 11, true, false, false, true, false, false, bI imm 15, bI imm 14, bI imm 13, bI imm 12] := by intro rd rn rm ra imm cond; kernel_rfl
      rw [e]
      simp only [g8, g4, g5, g6, g7]
    , by
      have e : ∀ rd rn rm ra imm cond : Int, hl (ltr rd rn rm ra imm cond) ((V_hauberkref02_Bits (3, false)).drop 16) = [false, bI imm 10, bI imm 9, bI imm 8, bI rd 3, bI rd 2, bI rd 1, bI rd 0, bI imm 7, bI imm 6, bI imm 5, bI imm 4, bI imm 3, bI imm 2, bI imm 1, bI imm 0] := by intro rd rn rm ra imm cond; kernel_rfl
      rw [e]
      simp only [g9, g10, g11, g0, g1, g2, g3, g12, g13, g14, g15, g16, g17, g18, g19]
    ⟩
theorem fw_4 (b5 b12 b13 b14 b15 b17 b18 b19 b20 b21 b22 b23 b24 b25 b26 b27 b28 b29 b30 b31 : Bool) (h0 : le12 (H [b20, b21, b22, b23]) = true) : okB 4 (H [b20, b21, b22, b23]) (0) (0) (0) (H [b12, b13, b14, b15, b5, b17, b18, b19, b24, b25, b26, b27, b28, b29, b30, b31]) (0) false = true ∧ (V_hauberkref02_Bits (4, false)).length = 32 ∧ hl (ltr (H [b20, b21, b22, b23]) (0) (0) (0) (H [b12, b13, b14, b15, b5, b17, b18, b19, b24, b25, b26, b27, b28, b29, b30, b31]) (0)) ((V_hauberkref02_Bits (4, false)).take 16) = [true, true, true, true, false, b5, true, false, true, true, false, false, b12, b13, b14, b15] ∧ hl (ltr (H [b20, b21, b22, b23]) (0) (0) (0) (H [b12, b13, b14, b15, b5, b17, b18, b19, b24, b25, b26, b27, b28, b29, b30, b31]) (0)) ((V_hauberkref02_Bits (4, false)).drop 16) = [false, b17, b18, b19, b20, b21, b22, b23, b24, b25, b26, b27, b28, b29, b30, b31] := by
  have h0 := le12_iff h0
  have := H_nonneg [b20, b21, b22, b23]
  have : H [b20, b21, b22, b23] < 16 := H_lt (l := [b20, b21, b22, b23]) (k := 4) (by simp)
  have := H_nonneg [b12, b13, b14, b15, b5, b17, b18, b19, b24, b25, b26, b27, b28, b29, b30, b31]
  have : H [b12, b13, b14, b15, b5, b17, b18, b19, b24, b25, b26, b27, b28, b29, b30, b31] < 65536 := H_lt (l := [b12, b13, b14, b15, b5, b17, b18, b19, b24, b25, b26, b27, b28, b29, b30, b31]) (k := 16) (by simp)
  have g0 : bI (H [b20, b21, b22, b23]) 3 = b20 := bI_H [b20, b21, b22, b23] 3 (by simp)
  have g1 : bI (H [b20, b21, b22, b23]) 2 = b21 := bI_H [b20, b21, b22, b23] 2 (by simp)
  have g2 : bI (H [b20, b21, b22, b23]) 1 = b22 := bI_H [b20, b21, b22, b23] 1 (by simp)
  have g3 : bI (H [b20, b21, b22, b23]) 0 = b23 := bI_H [b20, b21, b22, b23] 0 (by simp)
  have g4 : bI (H [b12, b13, b14, b15, b5, b17, b18, b19, b24, b25, b26, b27, b28, b29, b30, b31]) 15 = b12 := bI_H [b12, b13, b14, b15, b5, b17, b18, b19, b24, b25, b26, b27, b28, b29, b30, b31] 15 (by simp)
  have g5 : bI (H [b12, b13, b14, b15, b5, b17, b18, b19, b24, b25, b26, b27, b28, b29, b30, b31]) 14 = b13 := bI_H [b12, b13, b14, b15, b5, b17, b18, b19, b24, b25, b26, b27, b28, b29, b30, b31] 14 (by simp)
  have g6 : bI (H [b12, b13, b14, b15, b5, b17, b18, b19, b24, b25, b26, b27, b28, b29, b30, b31]) 13 = b14 := bI_H [b12, b13, b14, b15, b5, b17, b18, b19, b24, b25, b26, b27, b28, b29, b30, b31] 13 (by simp)
  have g7 : bI (H [b12, b13, b14, b15, b5, b17, b18, b19, b24, b25, b26, b27, b28, b29, b30, b31]) 12 = b15 := bI_H [b12, b13, b14, b15, b5, b17, b18, b19, b24, b25, b26, b27, b28, b29, b30, b31] 12 (by simp)
  have g8 : bI (H [b12, b13, b14, b15, b5, b17, b18, b19, b24, b25, b26, b27, b28, b29, b30, b31]) 11 = b5 := bI_H [b12, b13, b14, b15, b5, b17, b18, b19, b24, b25, b26, b27, b28, b29, b30, b31] 11 (by simp)
  have g9 : bI (H [b12, b13, b14, b15, b5, b17, b18, b19, b24, b25, b26, b27, b28, b29, b30, b31]) 10 = b17 := bI_H [b12, b13, b14, b15, b5, b17, b18, b19, b24, b25, b26, b27, b28, b29, b30, b31] 10 (by simp)
  have g10 : bI (H [b12, b13, b14, b15, b5, b17, b18, b19, b24, b25, b26, b27, b28, b29, b30, b31]) 9 = b18 := bI_H [b12, b13, b14, b15, b5, b17, b18, b19, b24, b25, b26, b27, b28, b29, b30, b31] 9 (by simp)
  have g11 : bI (H [b12, b13, b14, b15, b5, b17, b18, b19, b24, b25, b26, b27, b28, b29, b30, b31]) 8 = b19 := bI_H [b12, b13, b14, b15, b5, b17, b18, b19, b24, b25, b26, b27, b28, b29, b30, b31] 8 (by simp)
  have g12 : bI (H [b12, b13, b14, b15, b5, b17, b18, b19, b24, b25, b26, b27, b28, b29, b30, b31]) 7 = b24 := bI_H [b12, b13, b14, b15, b5, b17, b18, b19, b24, b25, b26, b27, b28, b29, b30, b31] 7 (by simp)
  have g13 : bI (H [b12, b13, b14, b15, b5, b17, b18, b19, b24, b25, b26, b27, b28, b29, b30, b31]) 6 = b25 := bI_H [b12, b13, b14, b15, b5, b17, b18, b19, b24, b25, b26, b27, b28, b29, b30, b31] 6 (by simp)
  have g14 : bI (H [b12, b13, b14, b15, b5, b17, b18, b19, b24, b25, b26, b27, b28, b29, b30, b31]) 5 = b26 := bI_H [b12, b13, b14, b15, b5, b17, b18, b19, b24, b25, b26, b27, b28, b29, b30, b31] 5 (by simp)
  have g15 : bI (H [b12, b13, b14, b15, b5, b17, b18, b19, b24, b25, b26, b27, b28, b29, b30, b31]) 4 = b27 := bI_H [b12, b13, b14, b15, b5, b17, b18, b19, b24, b25, b26, b27, b28, b29, b30, b31] 4 (by simp)
  have g16 : bI (H [b12, b13, b14, b15, b5, b17, b18, b19, b24, b25, b26, b27, b28, b29, b30, b31]) 3 = b28 := bI_H [b12, b13, b14, b15, b5, b17, b18, b19, b24, b25, b26, b27, b28, b29, b30, b31] 3 (by simp)
  have g17 : bI (H [b12, b13, b14, b15, b5, b17, b18, b19, b24, b25, b26, b27, b28, b29, b30, b31]) 2 = b29 := bI_H [b12, b13, b14, b15, b5, b17, b18, b19, b24, b25, b26, b27, b28, b29, b30, b31] 2 (by simp)
  have g18 : bI (H [b12, b13, b14, b15, b5, b17, b18, b19, b24, b25, b26, b27, b28, b29, b30, b31]) 1 = b30 := bI_H [b12, b13, b14, b15, b5, b17, b18, b19, b24, b25, b26, b27, b28, b29, b30, b31] 1 (by simp)
  have g19 : bI (H [b12, b13, b14, b15, b5, b17, b18, b19, b24, b25, b26, b27, b28, b29, b30, b31]) 0 = b31 := bI_H [b12, b13, b14, b15, b5, b17, b18, b19, b24, b25, b26, b27, b28, b29, b30, b31] 0 (by simp)
  refine ⟨by
      simp [okB]
      try omega
    , by kernel_rfl, by
      have e : ∀ rd rn rm ra imm cond : Int, hl (ltr rd rn rm ra imm cond) ((V_hauberkref02_Bits (4, false)).take 16) = [true, true, true, true, false, bI imm 11, true, false, true, true, false, false, bI imm 15, bI imm 14, bI imm 13, bI imm 12] := by intro rd rn rm ra imm cond; kernel_rfl
      rw [e]
      simp only [g8, g4, g5, g6, g7]
    , by
      have e : ∀ rd rn rm ra imm cond : Int, hl (ltr rd rn rm ra imm cond) ((V_hauberkref02_Bits (4, false)).drop 16) = [false, bI imm 10, bI imm 9, bI imm 8, bI rd 3, bI rd 2, bI rd 1, bI rd 0, bI imm 7, bI imm 6, bI imm 5, bI imm 4, bI imm 3, bI imm 2, bI imm 1, bI imm 0] := by intro rd rn rm ra imm cond; kernel_rfl
      rw [e]
      simp only [g9, g10, g11, g0, g1, g2, g3, g12, g13, g14, g15, g16, g17, g18, g19]
    ⟩
theorem fw_5 (b17 b18 b19 b20 b21 b22 b23 b24 b25 b28 b29 b30 b31 : Bool) (h0 : le12 (H [b20, b21, b22, b23]) = true) (h1 : le12 (H [b28, b29, b30, b31]) = true) : okB 5 (H [b20, b21, b22, b23]) (0) (H [b28, b29, b30, b31]) (0) (H [b17, b18, b19, b24, b25]) (0) false = true ∧ (V_hauberkref02_Bits (5, false)).length = 32 ∧ hl (ltr (H [b20, b21, b22, b23]) (0) (H [b28, b29, b30, b31]) (0) (H [b17, b18, b19, b24, b25]) (0)) ((V_hauberkref02_Bits (5, false)).take 16) = [true, true, true, false, true, false, true, false, false, true, false, false, true, true, true, true] ∧ hl (ltr (H [b20, b21, b22, b23]) (0) (H [b28, b29, b30, b31]) (0) (H [b17, b18, b19, b24, b25]) (0)) ((V_hauberkref02_Bits (5, false)).drop 16) = [false, b17, b18, b19, b20, b21, b22, b23, b24, b25, false, false, b28, b29, b30, b31] := by
  have h0 := le12_iff h0
  have h1 := le12_iff h1
  have := H_nonneg [b20, b21, b22, b23]
  have : H [b20, b21, b22, b23] < 16 := H_lt (l := [b20, b21, b22, b23]) (k := 4) (by simp)
  have := H_nonneg [b28, b29, b30, b31]
  have : H [b28, b29, b30, b31] < 16 := H_lt (l := [b28, b29, b30, b31]) (k := 4) (by simp)
  have := H_nonneg [b17, b18, b19, b24, b25]
  have : H [b17, b18, b19, b24, b25] < 32 := H_lt (l := [b17, b18, b19, b24, b25]) (k := 5) (by simp)
  have g0 : bI (H [b20, b21, b22, b23]) 3 = b20 := bI_H [b20, b21, b22, b23] 3 (by simp)
  have g1 : bI (H [b20, b21, b22, b23]) 2 = b21 := bI_H [b20, b21, b22, b23] 2 (by simp)
  have g2 : bI (H [b20, b21, b22, b23]) 1 = b22 := bI_H [b20, b21, b22, b23] 1 (by simp)
  have g3 : bI (H [b20, b21, b22, b23]) 0 = b23 := bI_H [b20, b21, b22, b23] 0 (by simp)
  have g4 : bI (H [b28, b29, b30, b31]) 3 = b28 := bI_H [b28, b29, b30, b31] 3 (by simp)
  have g5 : bI (H [b28, b29, b30, b31]) 2 = b29 := bI_H [b28, b29, b30, b31] 2 (by simp)
  have g6 : bI (H [b28, b29, b30, b31]) 1 = b30 := bI_H [b28, b29, b30, b31] 1 (by simp)
  have g7 : bI (H [b28, b29, b30, b31]) 0 = b31 := bI_H [b28, b29, b30, b31] 0 (by simp)
  have g8 : bI (H [b17, b18, b19, b24, b25]) 4 = b17 := bI_H [b17, b18, b19, b24, b25] 4 (by simp)
  have g9 : bI (H [b17, b18, b19, b24, b25]) 3 = b18 := bI_H [b17, b18, b19, b24, b25] 3 (by simp)
  have g10 : bI (H [b17, b18, b19, b24, b25]) 2 = b19 := bI_H [b17, b18, b19, b24, b25] 2 (by simp)
  have g11 : bI (H [b17, b18, b19, b24, b25]) 1 = b24 := bI_H [b17, b18, b19, b24, b25] 1 (by simp)
  have g12 : bI (H [b17, b18, b19, b24, b25]) 0 = b25 := bI_H [b17, b18, b19, b24, b25] 0 (by simp)
  refine ⟨by
      simp [okB]
      try omega
    , by kernel_rfl, by
      have e : ∀ rd rn rm ra imm cond : Int, hl (ltr rd rn rm ra imm cond) ((V_hauberkref02_Bits (5, false)).take 16) = [true, true, true, false, true, false, true, false, false, true, false, false, true, true, true, true] := by intro rd rn rm ra imm cond; kernel_rfl
      rw [e]
    , by
      have e : ∀ rd rn rm ra imm cond : Int, hl (ltr rd rn rm ra imm cond) ((V_hauberkref02_Bits (5, false)).drop 16) = [false, bI imm 4, bI imm 3, bI imm 2, bI rd 3, bI rd 2, bI rd 1, bI rd 0, bI imm 1, bI imm 0, false, false, bI rm 3, bI rm 2, bI rm 1, bI rm 0] := by intro rd rn rm ra imm cond; kernel_rfl
      rw [e]
      simp only [g8, g9, g10, g0, g1, g2, g3, g11, g12, g4, g5, g6, g7]
    ⟩
theorem fw_6 (b17 b18 b19 b20 b21 b22 b23 b24 b25 b28 b29 b30 b31 : Bool) (h0 : le12 (H [b20, b21, b22, b23]) = true) (h1 : le12 (H [b28, b29, b30, b31]) = true) (h2 : H [b17, b18, b19, b24, b25] > 0) : okB 6 (H [b20, b21, b22, b23]) (0) (H [b28, b29, b30, b31]) (0) (H [b17, b18, b19, b24, b25]) (0) false = true ∧ (V_hauberkref02_Bits (6, false)).length = 32 ∧ hl (ltr (H [b20, b21, b22, b23]) (0) (H [b28, b29, b30, b31]) (0) (H [b17, b18, b19, b24, b25]) (0)) ((V_hauberkref02_Bits (6, false)).take 16) = [true, true, true, false, true, false, true, false, false, true, false, false, true, true, true, true] ∧ hl (ltr (H [b20, b21, b22, b23]) (0) (H [b28, b29, b30, b31]) (0) (H [b17, b18, b19, b24, b25]) (0)) ((V_hauberkref02_Bits (6, false)).drop 16) = [false, b17, b18, b19, b20, b21, b22, b23, b24, b25, false, true, b28, b29, b30, b31] := by
  have h0 := le12_iff h0
  have h1 := le12_iff h1
  have := H_nonneg [b20, b21, b22, b23]
  have : H [b20, b21, b22, b23] < 16 := H_lt (l := [b20, b21, b22, b23]) (k := 4) (by simp)
  have := H_nonneg [b28, b29, b30, b31]
  have : H [b28, b29, b30, b31] < 16 := H_lt (l := [b28, b29, b30, b31]) (k := 4) (by simp)
  have := H_nonneg [b17, b18, b19, b24, b25]
  have : H [b17, b18, b19, b24, b25] < 32 := H_lt (l := [b17, b18, b19, b24, b25]) (k := 5) (by simp)
  have g0 : bI (H [b20, b21, b22, b23]) 3 = b20 := bI_H [b20, b21, b22, b23] 3 (by simp)
  have g1 : bI (H [b20, b21, b22, b23]) 2 = b21 := bI_H [b20, b21, b22, b23] 2 (by simp)
  have g2 : bI (H [b20, b21, b22, b23]) 1 = b22 := bI_H [b20, b21, b22, b23] 1 (by simp)
  have g3 : bI (H [b20, b21, b22, b23]) 0 = b23 := bI_H [b20, b21, b22, b23] 0 (by simp)
  have g4 : bI (H [b28, b29, b30, b31]) 3 = b28 := bI_H [b28, b29, b30, b31] 3 (by simp)
  have g5 : bI (H [b28, b29, b30, b31]) 2 = b29 := bI_H [b28, b29, b30, b31] 2 (by simp)
  have g6 : bI (H [b28, b29, b30, b31]) 1 = b30 := bI_H [b28, b29, b30, b31] 1 (by simp)
  have g7 : bI (H [b28, b29, b30, b31]) 0 = b31 := bI_H [b28, b29, b30, b31] 0 (by simp)
  have g8 : bI (H [b17, b18, b19, b24, b25]) 4 = b17 := bI_H [b17, b18, b19, b24, b25] 4 (by simp)
  have g9 : bI (H [b17, b18, b19, b24, b25]) 3 = b18 := bI_H [b17, b18, b19, b24, b25] 3 (by simp)
  have g10 : bI (H [b17, b18, b19, b24, b25]) 2 = b19 := bI_H [b17, b18, b19, b24, b25] 2 (by simp)
  have g11 : bI (H [b17, b18, b19, b24, b25]) 1 = b24 := bI_H [b17, b18, b19, b24, b25] 1 (by simp)
  have g12 : bI (H [b17, b18, b19, b24, b25]) 0 = b25 := bI_H [b17, b18, b19, b24, b25] 0 (by simp)
  refine ⟨by
      simp [okB]
      try omega
    , by kernel_rfl, by
      have e : ∀ rd rn rm ra imm cond : Int, hl (ltr rd rn rm ra imm cond) ((V_hauberkref02_Bits (6, false)).take 16) = [true, true, true, false, true, false, true, false, false, true, false, false, true, true, true, true] := by intro rd rn rm ra imm cond; kernel_rfl
      rw [e]
    , by
      have e : ∀ rd rn rm ra imm cond : Int, hl (ltr rd rn rm ra imm cond) ((V_hauberkref02_Bits (6, false)).drop 16) = [false, bI imm 4, bI imm 3, bI imm 2, bI rd 3, bI rd 2, bI rd 1, bI rd 0, bI imm 1, bI imm 0, false, true, bI rm 3, bI rm 2, bI rm 1, bI rm 0] := by intro rd rn rm ra imm cond; kernel_rfl
      rw [e]
      simp only [g8, g9, g10, g0, g1, g2, g3, g11, g12, g4, g5, g6, g7]
    ⟩
theorem fw_7 (b17 b18 b19 b20 b21 b22 b23 b24 b25 b28 b29 b30 b31 : Bool) (h0 : le12 (H [b20, b21, b22, b23]) = true) (h1 : le12 (H [b28, b29, b30, b31]) = true) (h2 : H [b17, b18, b19, b24, b25] > 0) : okB 7 (H [b20, b21, b22, b23]) (0) (H [b28, b29, b30, b31]) (0) (H [b17, b18, b19, b24, b25]) (0) false = true ∧ (V_hauberkref02_Bits (7, false)).length = 32 ∧ hl (ltr (H [b20, b21, b22, b23]) (0) (H [b28, b29, b30, b31]) (0) (H [b17, b18, b19, b24, b25]) (0)) ((V_hauberkref02_Bits (7, false)).take 16) = [true, true, true, false, true, false, true, false, false, true, false, false, true, true, true, true] ∧ hl (ltr (H [b20, b21, b22, b23]) (0) (H [b28, b29, b30, b31]) (0) (H [b17, b18, b19, b24, b25]) (0)) ((V_hauberkref02_Bits (7, false)).drop 16) = [false, b17, b18, b19, b20, b21, b22, b23, b24, b25, true, false, b28, b29, b30, b31] := by
  have h0 := le12_iff h0
  have h1 := le12_iff h1
  have := H_nonneg [b20, b21, b22, b23]
  have : H [b20, b21, b22, b23] < 16 := H_lt (l := [b20, b21, b22, b23]) (k := 4) (by simp)
  have := H_nonneg [b28, b29, b30, b31]
  have : H [b28, b29, b30, b31] < 16 := H_lt (l := [b28, b29, b30, b31]) (k := 4) (by simp)
  have := H_nonneg [b17, b18, b19, b24, b25]
  have : H [b17, b18, b19, b24, b25] < 32 := H_lt (l := [b17, b18, b19, b24, b25]) (k := 5) (by simp)
  have g0 : bI (H [b20, b21, b22, b23]) 3 = b20 := bI_H [b20, b21, b22, b23] 3 (by simp)
  have g1 : bI (H [b20, b21, b22, b23]) 2 = b21 := bI_H [b20, b21, b22, b23] 2 (by simp)
  have g2 : bI (H [b20, b21, b22, b23]) 1 = b22 := bI_H [b20, b21, b22, b23] 1 (by simp)
  have g3 : bI (H [b20, b21, b22, b23]) 0 = b23 := bI_H [b20, b21, b22, b23] 0 (by simp)
  have g4 : bI (H [b28, b29, b30, b31]) 3 = b28 := bI_H [b28, b29, b30, b31] 3 (by simp)
  have g5 : bI (H [b28, b29, b30, b31]) 2 = b29 := bI_H [b28, b29, b30, b31] 2 (by simp)
  have g6 : bI (H [b28, b29, b30, b31]) 1 = b30 := bI_H [b28, b29, b30, b31] 1 (by simp)
  have g7 : bI (H [b28, b29, b30, b31]) 0 = b31 := bI_H [b28, b29, b30, b31] 0 (by simp)
  have g8 : bI (H [b17, b18, b19, b24, b25]) 4 = b17 := bI_H [b17, b18, b19, b24, b25] 4 (by simp)
  have g9 : bI (H [b17, b18, b19, b24, b25]) 3 = b18 := bI_H [b17, b18, b19, b24, b25] 3 (by simp)
  have g10 : bI (H [b17, b18, b19, b24, b25]) 2 = b19 := bI_H [b17, b18, b19, b24, b25] 2 (by simp)
  have g11 : bI (H [b17, b18, b19, b24, b25]) 1 = b24 := bI_H [b17, b18, b19, b24, b25] 1 (by simp)
  have g12 : bI (H [b17, b18, b19, b24, b25]) 0 = b25 := bI_H [b17, b18, b19, b24, b25] 0 (by simp)
  refine ⟨by
      simp [okB]
      try omega
    , by kernel_rfl, by
      have e : ∀ rd rn rm ra imm cond : Int, hl (ltr rd rn rm ra imm cond) ((V_hauberkref02_Bits (7, false)).take 16) = [true, true, true, false, true, false, true, false, false, true, false, false, true, true, true, true] := by intro rd rn rm ra imm cond; kernel_rfl
      rw [e]
    , by
      have e : ∀ rd rn rm ra imm cond : Int, hl (ltr rd rn rm ra imm cond) ((V_hauberkref02_Bits (7, false)).drop 16) = [false, bI imm 4, bI imm 3, bI imm 2, bI rd 3, bI rd 2, bI rd 1, bI rd 0, bI imm 1, bI imm 0, true, false, bI rm 3, bI rm 2, bI rm 1, bI rm 0] := by intro rd rn rm ra imm cond; kernel_rfl
      rw [e]
      simp only [g8, g9, g10, g0, g1, g2, g3, g11, g12, g4, g5, g6, g7]
    ⟩
theorem fw_8 (b17 b18 b19 b20 b21 b22 b23 b24 b25 b28 b29 b30 b31 : Bool) (h0 : le12 (H [b20, b21, b22, b23]) = true) (h1 : le12 (H [b28, b29, b30, b31]) = true) (h2 : H [b17, b18, b19, b24, b25] > 0) : okB 8 (H [b20, b21, b22, b23]) (0) (H [b28, b29, b30, b31]) (0) (H [b17, b18, b19, b24, b25]) (0) false = true ∧ (V_hauberkref02_Bits (8, false)).length = 32 ∧ hl (ltr (H [b20, b21, b22, b23]) (0) (H [b28, b29, b30, b31]) (0) (H [b17, b18, b19, b24, b25]) (0)) ((V_hauberkref02_Bits (8, false)).take 16) = [true, true, true, false, true, false, true, false, false, true, false, false, true, true, true, true] ∧ hl (ltr (H [b20, b21, b22, b23]) (0) (H [b28, b29, b30, b31]) (0) (H [b17, b18, b19, b24, b25]) (0)) ((V_hauberkref02_Bits (8, false)).drop 16) = [false, b17, b18, b19, b20, b21, b22, b23, b24, b25, true, true, b28, b29, b30, b31] := by
  have h0 := le12_iff h0
  have h1 := le12_iff h1
  have := H_nonneg [b20, b21, b22, b23]
  have : H [b20, b21, b22, b23] < 16 := H_lt (l := [b20, b21, b22, b23]) (k := 4) (by simp)
  have := H_nonneg [b28, b29, b30, b31]
  have : H [b28, b29, b30, b31] < 16 := H_lt (l := [b28, b29, b30, b31]) (k := 4) (by simp)
  have := H_nonneg [b17, b18, b19, b24, b25]
  have : H [b17, b18, b19, b24, b25] < 32 := H_lt (l := [b17, b18, b19, b24, b25]) (k := 5) (by simp)
  have g0 : bI (H [b20, b21, b22, b23]) 3 = b20 := bI_H [b20, b21, b22, b23] 3 (by simp)
  have g1 : bI (H [b20, b21, b22, b23]) 2 = b21 := bI_H [b20, b21, b22, b23] 2 (by simp)
  have g2 : bI (H [b20, b21, b22, b23]) 1 = b22 := bI_H [b20, b21, b22, b23] 1 (by simp)
  have g3 : bI (H [b20, b21, b22, b23]) 0 = b23 := bI_H [b20, b21, b22, b23] 0 (by simp)
  have g4 : bI (H [b28, b29, b30, b31]) 3 = b28 := bI_H [b28, b29, b30, b31] 3 (by simp)
  have g5 : bI (H [b28, b29, b30, b31]) 2 = b29 := bI_H [b28, b29, b30, b31] 2 (by simp)
  have g6 : bI (H [b28, b29, b30, b31]) 1 = b30 := bI_H [b28, b29, b30, b31] 1 (by simp)
  have g7 : bI (H [b28, b29, b30, b31]) 0 = b31 := bI_H [b28, b29, b30, b31] 0 (by simp)
  have g8 : bI (H [b17, b18, b19, b24, b25]) 4 = b17 := bI_H [b17, b18, b19, b24, b25] 4 (by simp)
  have g9 : bI (H [b17, b18, b19, b24, b25]) 3 = b18 := bI_H [b17, b18, b19, b24, b25] 3 (by simp)
  have g10 : bI (H [b17, b18, b19, b24, b25]) 2 = b19 := bI_H [b17, b18, b19, b24, b25] 2 (by simp)
  have g11 : bI (H [b17, b18, b19, b24, b25]) 1 = b24 := bI_H [b17, b18, b19, b24, b25] 1 (by simp)
  have g12 : bI (H [b17, b18, b19, b24, b25]) 0 = b25 := bI_H [b17, b18, b19, b24, b25] 0 (by simp)
  refine ⟨by
      simp [okB]
      try omega
    , by kernel_rfl, by
      have e : ∀ rd rn rm ra imm cond : Int, hl (ltr rd rn rm ra imm cond) ((V_hauberkref02_Bits (8, false)).take 16) = [true, true, true, false, true, false, true, false, false, true, false, false, true, true, true, true] := by intro rd rn rm ra imm cond; kernel_rfl
      rw [e]
    , by
      have e : ∀ rd rn rm ra imm cond : Int, hl (ltr rd rn rm ra imm cond) ((V_hauberkref02_Bits (8, false)).drop 16) = [false, bI imm 4, bI imm 3, bI imm 2, bI rd 3, bI rd 2, bI rd 1, bI rd 0, bI imm 1, bI imm 0, true, true, bI rm 3, bI rm 2, bI rm 1, bI rm 0] := by intro rd rn rm ra imm cond; kernel_rfl
      rw [e]
      simp only [g8, g9, g10, g0, g1, g2, g3, g11, g12, g4, g5, g6, g7]
    ⟩
theorem fw_9 (b20 b21 b22 b23 b28 b29 b30 b31 : Bool) (h0 : le12 (H [b20, b21, b22, b23]) = true) (h1 : le12 (H [b28, b29, b30, b31]) = true) : okB 9 (H [b20, b21, b22, b23]) (0) (H [b28, b29, b30, b31]) (0) (0) (0) false = true ∧ (V_hauberkref02_Bits (9, false)).length = 32 ∧ hl (ltr (H [b20, b21, b22, b23]) (0) (H [b28, b29, b30, b31]) (0) (0) (0)) ((V_hauberkref02_Bits (9, false)).take 16) = [true, true, true, false, true, false, true, false, false, true, true, false, true, true, true, true] ∧ hl (ltr (H [b20, b21, b22, b23]) (0) (H [b28, b29, b30, b31]) (0) (0) (0)) ((V_hauberkref02_Bits (9, false)).drop 16) = [false, false, false, false, b20, b21, b22, b23, false, false, false, false, b28, b29, b30, b31] := by
  have h0 := le12_iff h0
  have h1 := le12_iff h1
  have := H_nonneg [b20, b21, b22, b23]
  have : H [b20, b21, b22, b23] < 16 := H_lt (l := [b20, b21, b22, b23]) (k := 4) (by simp)
  have := H_nonneg [b28, b29, b30, b31]
  have : H [b28, b29, b30, b31] < 16 := H_lt (l := [b28, b29, b30, b31]) (k := 4) (by simp)
  have g0 : bI (H [b20, b21, b22, b23]) 3 = b20 := bI_H [b20, b21, b22, b23] 3 (by simp)
  have g1 : bI (H [b20, b21, b22, b23]) 2 = b21 := bI_H [b20, b21, b22, b23] 2 (by simp)
  have g2 : bI (H [b20, b21, b22, b23]) 1 = b22 := bI_H [b20, b21, b22, b23] 1 (by simp)
  have g3 : bI (H [b20, b21, b22, b23]) 0 = b23 := bI_H [b20, b21, b22, b23] 0 (by simp)
  have g4 : bI (H [b28, b29, b30, b31]) 3 = b28 := bI_H [b28, b29, b30, b31] 3 (by simp)
  have g5 : bI (H [b28, b29, b30, b31]) 2 = b29 := bI_H [b28, b29, b30, b31] 2 (by simp)
  have g6 : bI (H [b28, b29, b30, b31]) 1 = b30 := bI_H [b28, b29, b30, b31] 1 (by simp)
  have g7 : bI (H [b28, b29, b30, b31]) 0 = b31 := bI_H [b28, b29, b30, b31] 0 (by simp)
  refine ⟨by
      simp [okB]
      try omega
    , by kernel_rfl, by
      have e : ∀ rd rn rm ra imm cond : Int, hl (ltr rd rn rm ra imm cond) ((V_hauberkref02_Bits (9, false)).take 16) = [true, true, true, false, true, false, true, false, false, true, true, false, true, true, true, true] := by intro rd rn rm ra imm cond; kernel_rfl
      rw [e]
    , by
      have e : ∀ rd rn rm ra imm cond : Int, hl (ltr rd rn rm ra imm cond) ((V_hauberkref02_Bits (9, false)).drop 16) = [false, false, false, false, bI rd 3, bI rd 2, bI rd 1, bI rd 0, false, false, false, false, bI rm 3, bI rm 2, bI rm 1, bI rm 0] := by intro rd rn rm ra imm cond; kernel_rfl
      rw [e]
      simp only [g0, g1, g2, g3, g4, g5, g6, g7]
    ⟩
theorem fw_10 (b12 b13 b14 b15 b20 b21 b22 b23 b28 b29 b30 b31 : Bool) (h0 : le12 (H [b20, b21, b22, b23]) = true) (h1 : le12 (H [b12, b13, b14, b15]) = true) (h2 : le12 (H [b28, b29, b30, b31]) = true) : okB 10 (H [b20, b21, b22, b23]) (H [b12, b13, b14, b15]) (H [b28, b29, b30, b31]) (0) (0) (0) false = true ∧ (V_hauberkref02_Bits (10, false)).length = 32 ∧ hl (ltr (H [b20, b21, b22, b23]) (H [b12, b13, b14, b15]) (H [b28, b29, b30, b31]) (0) (0) (0)) ((V_hauberkref02_Bits (10, false)).take 16) = [true, true, true, false, true, false, true, false, false, false, false, false, b12, b13, b14, b15] ∧ hl (ltr (H [b20, b21, b22, b23]) (H [b12, b13, b14, b15]) (H [b28, b29, b30, b31]) (0) (0) (0)) ((V_hauberkref02_Bits (10, false)).drop 16) = [false, false, false, false, b20, b21, b22, b23, false, false, false, false, b28, b29, b30, b31] := by
  have h0 := le12_iff h0
  have h1 := le12_iff h1
  have h2 := le12_iff h2
  have := H_nonneg [b20, b21, b22, b23]
  have : H [b20, b21, b22, b23] < 16 := H_lt (l := [b20, b21, b22, b23]) (k := 4) (by simp)
  have := H_nonneg [b12, b13, b14, b15]
  have : H [b12, b13, b14, b15] < 16 := H_lt (l := [b12, b13, b14, b15]) (k := 4) (by simp)
  have := H_nonneg [b28, b29, b30, b31]
  have : H [b28, b29, b30, b31] < 16 := H_lt (l := [b28, b29, b30, b31]) (k := 4) (by simp)
  have g0 : bI (H [b20, b21, b22, b23]) 3 = b20 := bI_H [b20, b21, b22, b23] 3 (by simp)
  have g1 : bI (H [b20, b21, b22, b23]) 2 = b21 := bI_H [b20, b21, b22, b23] 2 (by simp)
  have g2 : bI (H [b20, b21, b22, b23]) 1 = b22 := bI_H [b20, b21, b22, b23] 1 (by simp)
  have g3 : bI (H [b20, b21, b22, b23]) 0 = b23 := bI_H [b20, b21, b22, b23] 0 (by simp)
  have g4 : bI (H [b12, b13, b14, b15]) 3 = b12 := bI_H [b12, b13, b14, b15] 3 (by simp)
  have g5 : bI (H [b12, b13, b14, b15]) 2 = b13 := bI_H [b12, b13, b14, b15] 2 (by simp)
  have g6 : bI (H [b12, b13, b14, b15]) 1 = b14 := bI_H [b12, b13, b14, b15] 1 (by simp)
  have g7 : bI (H [b12, b13, b14, b15]) 0 = b15 := bI_H [b12, b13, b14, b15] 0 (by simp)
  have g8 : bI (H [b28, b29, b30, b31]) 3 = b28 := bI_H [b28, b29, b30, b31] 3 (by simp)
  have g9 : bI (H [b28, b29, b30, b31]) 2 = b29 := bI_H [b28, b29, b30, b31] 2 (by simp)
  have g10 : bI (H [b28, b29, b30, b31]) 1 = b30 := bI_H [b28, b29, b30, b31] 1 (by simp)
  have g11 : bI (H [b28, b29, b30, b31]) 0 = b31 := bI_H [b28, b29, b30, b31] 0 (by simp)
  refine ⟨by
      simp [okB]
      try omega
    , by kernel_rfl, by
      have e : ∀ rd rn rm ra imm cond : Int, hl (ltr rd rn rm ra imm cond) ((V_hauberkref02_Bits (10, false)).take 16) = [true, true, true, false, true, false, true, false, false, false, false, false, bI rn 3, bI rn 2, bI rn 1, bI rn 0] := by intro rd rn rm ra imm cond; kernel_rfl
      rw [e]
      simp only [g4, g5, g6, g7]
    , by
      have e : ∀ rd rn rm ra imm cond : Int, hl (ltr rd rn rm ra imm cond) ((V_hauberkref02_Bits (10, false)).drop 16) = [false, false, false, false, bI rd 3, bI rd 2, bI rd 1, bI rd 0, false, false, false, false, bI rm 3, bI rm 2, bI rm 1, bI rm 0] := by intro rd rn rm ra imm cond; kernel_rfl
      rw [e]
      simp only [g0, g1, g2, g3, g8, g9, g10, g11]
    ⟩
theorem fw_11 (b12 b13 b14 b15 b20 b21 b22 b23 b28 b29 b30 b31 : Bool) (h0 : le12 (H [b20, b21, b22, b23]) = true) (h1 : le12 (H [b12, b13, b14, b15]) = true) (h2 : le12 (H [b28, b29, b30, b31]) = true) : okB 11 (H [b20, b21, b22, b23]) (H [b12, b13, b14, b15]) (H [b28, b29, b30, b31]) (0) (0) (0) false = true ∧ (V_hauberkref02_Bits (11, false)).length = 32 ∧ hl (ltr (H [b20, b21, b22, b23]) (H [b12, b13, b14, b15]) (H [b28, b29, b30, b31]) (0) (0) (0)) ((V_hauberkref02_Bits (11, false)).take 16) = [true, true, true, false, true, false, true, false, false, false, true, false, b12, b13, b14, b15] ∧ hl (ltr (H [b20, b21, b22, b23]) (H [b12, b13, b14, b15]) (H [b28, b29, b30, b31]) (0) (0) (0)) ((V_hauberkref02_Bits (11, false)).drop 16) = [false, false, false, false, b20, b21, b22, b23, false, false, false, false, b28, b29, b30, b31] := by
  have h0 := le12_iff h0
  have h1 := le12_iff h1
  have h2 := le12_iff h2
  have := H_nonneg [b20, b21, b22, b23]
  have : H [b20, b21, b22, b23] < 16 := H_lt (l := [b20, b21, b22, b23]) (k := 4) (by simp)
  have := H_nonneg [b12, b13, b14, b15]
  have : H [b12, b13, b14, b15] < 16 := H_lt (l := [b12, b13, b14, b15]) (k := 4) (by simp)
  have := H_nonneg [b28, b29, b30, b31]
  have : H [b28, b29, b30, b31] < 16 := H_lt (l := [b28, b29, b30, b31]) (k := 4) (by simp)
  have g0 : bI (H [b20, b21, b22, b23]) 3 = b20 := bI_H [b20, b21, b22, b23] 3 (by simp)
  have g1 : bI (H [b20, b21, b22, b23]) 2 = b21 := bI_H [b20, b21, b22, b23] 2 (by simp)
  have g2 : bI (H [b20, b21, b22, b23]) 1 = b22 := bI_H [b20, b21, b22, b23] 1 (by simp)
  have g3 : bI (H [b20, b21, b22, b23]) 0 = b23 := bI_H [b20, b21, b22, b23] 0 (by simp)
  have g4 : bI (H [b12, b13, b14, b15]) 3 = b12 := bI_H [b12, b13, b14, b15] 3 (by simp)
  have g5 : bI (H [b12, b13, b14, b15]) 2 = b13 := bI_H [b12, b13, b14, b15] 2 (by simp)
  have g6 : bI (H [b12, b13, b14, b15]) 1 = b14 := bI_H [b12, b13, b14, b15] 1 (by simp)
  have g7 : bI (H [b12, b13, b14, b15]) 0 = b15 := bI_H [b12, b13, b14, b15] 0 (by simp)
  have g8 : bI (H [b28, b29, b30, b31]) 3 = b28 := bI_H [b28, b29, b30, b31] 3 (by simp)
  have g9 : bI (H [b28, b29, b30, b31]) 2 = b29 := bI_H [b28, b29, b30, b31] 2 (by simp)
  have g10 : bI (H [b28, b29, b30, b31]) 1 = b30 := bI_H [b28, b29, b30, b31] 1 (by simp)
  have g11 : bI (H [b28, b29, b30, b31]) 0 = b31 := bI_H [b28, b29, b30, b31] 0 (by simp)
  refine ⟨by
      simp [okB]
      try omega
    , by kernel_rfl, by
      have e : ∀ rd rn rm ra imm cond : Int, hl (ltr rd rn rm ra imm cond) ((V_hauberkref02_Bits (11, false)).take 16) = [true, true, true, false, true, false, true, false, false, false, true, false, bI rn 3, bI rn 2, bI rn 1, bI rn 0] := by intro rd rn rm ra imm cond; kernel_rfl
      rw [e]
      simp only [g4, g5, g6, g7]
    , by
      have e : ∀ rd rn rm ra imm cond : Int, hl (ltr rd rn rm ra imm cond) ((V_hauberkref02_Bits (11, false)).drop 16) = [false, false, false, false, bI rd 3, bI rd 2, bI rd 1, bI rd 0, false, false, false, false, bI rm 3, bI rm 2, bI rm 1, bI rm 0] := by intro rd rn rm ra imm cond; kernel_rfl
      rw [e]
      simp only [g0, g1, g2, g3, g8, g9, g10, g11]
    ⟩
theorem fw_12 (b12 b13 b14 b15 b20 b21 b22 b23 b28 b29 b30 b31 : Bool) (h0 : le12 (H [b20, b21, b22, b23]) = true) (h1 : le12 (H [b12, b13, b14, b15]) = true) (h2 : le12 (H [b28, b29, b30, b31]) = true) : okB 12 (H [b20, b21, b22, b23]) (H [b12, b13, b14, b15]) (H [b28, b29, b30, b31]) (0) (0) (0) false = true ∧ (V_hauberkref02_Bits (12, false)).length = 32 ∧ hl (ltr (H [b20, b21, b22, b23]) (H [b12, b13, b14, b15]) (H [b28, b29, b30, b31]) (0) (0) (0)) ((V_hauberkref02_Bits (12, false)).take 16) = [true, true, true, false, true, false, true, false, false, true, false, false, b12, b13, b14, b15] ∧ hl (ltr (H [b20, b21, b22, b23]) (H [b12, b13, b14, b15]) (H [b28, b29, b30, b31]) (0) (0) (0)) ((V_hauberkref02_Bits (12, false)).drop 16) = [false, false, false, false, b20, b21, b22, b23, false, false, false, false, b28, b29, b30, b31] := by
  have h0 := le12_iff h0
  have h1 := le12_iff h1
  have h2 := le12_iff h2
  have := H_nonneg [b20, b21, b22, b23]
  have : H [b20, b21, b22, b23] < 16 := H_lt (l := [b20, b21, b22, b23]) (k := 4) (by simp)
  have := H_nonneg [b12, b13, b14, b15]
  have : H [b12, b13, b14, b15] < 16 := H_lt (l := [b12, b13, b14, b15]) (k := 4) (by simp)
  have := H_nonneg [b28, b29, b30, b31]
  have : H [b28, b29, b30, b31] < 16 := H_lt (l := [b28, b29, b30, b31]) (k := 4) (by simp)
  have g0 : bI (H [b20, b21, b22, b23]) 3 = b20 := bI_H [b20, b21, b22, b23] 3 (by simp)
  have g1 : bI (H [b20, b21, b22, b23]) 2 = b21 := bI_H [b20, b21, b22, b23] 2 (by simp)
  have g2 : bI (H [b20, b21, b22, b23]) 1 = b22 := bI_H [b20, b21, b22, b23] 1 (by simp)
  have g3 : bI (H [b20, b21, b22, b23]) 0 = b23 := bI_H [b20, b21, b22, b23] 0 (by simp)
  have g4 : bI (H [b12, b13, b14, b15]) 3 = b12 := bI_H [b12, b13, b14, b15] 3 (by simp)
  have g5 : bI (H [b12, b13, b14, b15]) 2 = b13 := bI_H [b12, b13, b14, b15] 2 (by simp)
  have g6 : bI (H [b12, b13, b14, b15]) 1 = b14 := bI_H [b12, b13, b14, b15] 1 (by simp)
  have g7 : bI (H [b12, b13, b14, b15]) 0 = b15 := bI_H [b12, b13, b14, b15] 0 (by simp)
  have g8 : bI (H [b28, b29, b30, b31]) 3 = b28 := bI_H [b28, b29, b30, b31] 3 (by simp)
  have g9 : bI (H [b28, b29, b30, b31]) 2 = b29 := bI_H [b28, b29, b30, b31] 2 (by simp)
  have g10 : bI (H [b28, b29, b30, b31]) 1 = b30 := bI_H [b28, b29, b30, b31] 1 (by simp)
  have g11 : bI (H [b28, b29, b30, b31]) 0 = b31 := bI_H [b28, b29, b30, b31] 0 (by simp)
  refine ⟨by
      simp [okB]
      try omega
    , by kernel_rfl, by
      have e : ∀ rd rn rm ra imm cond : Int, hl (ltr rd rn rm ra imm cond) ((V_hauberkref02_Bits (12, false)).take 16) = [true, true, true, false, true, false, true, false, false, true, false, false, bI rn 3, bI rn 2, bI rn 1, bI rn 0] := by intro rd rn rm ra imm cond; kernel_rfl
      rw [e]
      simp only [g4, g5, g6, g7]
    , by
      have e : ∀ rd rn rm ra imm cond : Int, hl (ltr rd rn rm ra imm cond) ((V_hauberkref02_Bits (12, false)).drop 16) = [false, false, false, false, bI rd 3, bI rd 2, bI rd 1, bI rd 0, false, false, false, false, bI rm 3, bI rm 2, bI rm 1, bI rm 0] := by intro rd rn rm ra imm cond; kernel_rfl
      rw [e]
      simp only [g0, g1, g2, g3, g8, g9, g10, g11]
    ⟩
theorem fw_13 (b12 b13 b14 b15 b20 b21 b22 b23 b28 b29 b30 b31 : Bool) (h0 : le12 (H [b20, b21, b22, b23]) = true) (h1 : le12 (H [b12, b13, b14, b15]) = true) (h2 : le12 (H [b28, b29, b30, b31]) = true) : okB 13 (H [b20, b21, b22, b23]) (H [b12, b13, b14, b15]) (H [b28, b29, b30, b31]) (0) (0) (0) false = true ∧ (V_hauberkref02_Bits (13, false)).length = 32 ∧ hl (ltr (H [b20, b21, b22, b23]) (H [b12, b13, b14, b15]) (H [b28, b29, b30, b31]) (0) (0) (0)) ((V_hauberkref02_Bits (13, false)).take 16) = [true, true, true, false, true, false, true, false, true, false, false, false, b12, b13, b14, b15] ∧ hl (ltr (H [b20, b21, b22, b23]) (H [b12, b13, b14, b15]) (H [b28, b29, b30, b31]) (0) (0) (0)) ((V_hauberkref02_Bits (13, false)).drop 16) = [false, false, false, false, b20, b21, b22, b23, false, false, false, false, b28, b29, b30, b31] := by
  have h0 := le12_iff h0
  have h1 := le12_iff h1
  have h2 := le12_iff h2
  have := H_nonneg [b20, b21, b22, b23]
  have : H [b20, b21, b22, b23] < 16 := H_lt (l := [b20, b21, b22, b23]) (k := 4) (by simp)
  have := H_nonneg [b12, b13, b14, b15]
  have : H [b12, b13, b14, b15] < 16 := H_lt (l := [b12, b13, b14, b15]) (k := 4) (by simp)
  have := H_nonneg [b28, b29, b30, b31]
  have : H [b28, b29, b30, b31] < 16 := H_lt (l := [b28, b29, b30, b31]) (k := 4) (by simp)
  have g0 : bI (H [b20, b21, b22, b23]) 3 = b20 := bI_H [b20, b21, b22, b23] 3 (by simp)
  have g1 : bI (H [b20, b21, b22, b23]) 2 = b21 := bI_H [b20, b21, b22, b23] 2 (by simp)
  have g2 : bI (H [b20, b21, b22, b23]) 1 = b22 := bI_H [b20, b21, b22, b23] 1 (by simp)
  have g3 : bI (H [b20, b21, b22, b23]) 0 = b23 := bI_H [b20, b21, b22, b23] 0 (by simp)
  have g4 : bI (H [b12, b13, b14, b15]) 3 = b12 := bI_H [b12, b13, b14, b15] 3 (by simp)
  have g5 : bI (H [b12, b13, b14, b15]) 2 = b13 := bI_H [b12, b13, b14, b15] 2 (by simp)
  have g6 : bI (H [b12, b13, b14, b15]) 1 = b14 := bI_H [b12, b13, b14, b15] 1 (by simp)
  have g7 : bI (H [b12, b13, b14, b15]) 0 = b15 := bI_H [b12, b13, b14, b15] 0 (by simp)
  have g8 : bI (H [b28, b29, b30, b31]) 3 = b28 := bI_H [b28, b29, b30, b31] 3 (by simp)
  have g9 : bI (H [b28, b29, b30, b31]) 2 = b29 := bI_H [b28, b29, b30, b31] 2 (by simp)
  have g10 : bI (H [b28, b29, b30, b31]) 1 = b30 := bI_H [b28, b29, b30, b31] 1 (by simp)
  have g11 : bI (H [b28, b29, b30, b31]) 0 = b31 := bI_H [b28, b29, b30, b31] 0 (by simp)
  refine ⟨by
      simp [okB]
      try omega
    , by kernel_rfl, by
      have e : ∀ rd rn rm ra imm cond : Int, hl (ltr rd rn rm ra imm cond) ((V_hauberkref02_Bits (13, false)).take 16) = [true, true, true, false, true, false, true, false, true, false, false, false, bI rn 3, bI rn 2, bI rn 1, bI rn 0] := by intro rd rn rm ra imm cond; kernel_rfl
      rw [e]
      simp only [g4, g5, g6, g7]
    , by
      have e : ∀ rd rn rm ra imm cond : Int, hl (ltr rd rn rm ra imm cond) ((V_hauberkref02_Bits (13, false)).drop 16) = [false, false, false, false, bI rd 3, bI rd 2, bI rd 1, bI rd 0, false, false, false, false, bI rm 3, bI rm 2, bI rm 1, bI rm 0] := by intro rd rn rm ra imm cond; kernel_rfl
      rw [e]
      simp only [g0, g1, g2, g3, g8, g9, g10, g11]
    ⟩
theorem fw_14 (b12 b13 b14 b15 b20 b21 b22 b23 b28 b29 b30 b31 : Bool) (h0 : le12 (H [b20, b21, b22, b23]) = true) (h1 : le12 (H [b12, b13, b14, b15]) = true) (h2 : le12 (H [b28, b29, b30, b31]) = true) : okB 14 (H [b20, b21, b22, b23]) (H [b12, b13, b14, b15]) (H [b28, b29, b30, b31]) (0) (0) (0) false = true ∧ (V_hauberkref02_Bits (14, false)).length = 32 ∧ hl (ltr (H [b20, b21, b22, b23]) (H [b12, b13, b14, b15]) (H [b28, b29, b30, b31]) (0) (0) (0)) ((V_hauberkref02_Bits (14, false)).take 16) = [true, true, true, false, true, false, true, true, false, false, false, false, b12, b13, b14, b15] ∧ hl (ltr (H [b20, b21, b22, b23]) (H [b12, b13, b14, b15]) (H [b28, b29, b30, b31]) (0) (0) (0)) ((V_hauberkref02_Bits (14, false)).drop 16) = [false, false, false, false, b20, b21, b22, b23, false, false, false, false, b28, b29, b30, b31] := by
  have h0 := le12_iff h0
  have h1 := le12_iff h1
  have h2 := le12_iff h2
  have := H_nonneg [b20, b21, b22, b23]
  have : H [b20, b21, b22, b23] < 16 := H_lt (l := [b20, b21, b22, b23]) (k := 4) (by simp)
  have := H_nonneg [b12, b13, b14, b15]
  have : H [b12, b13, b14, b15] < 16 := H_lt (l := [b12, b13, b14, b15]) (k := 4) (by simp)
  have := H_nonneg [b28, b29, b30, b31]
  have : H [b28, b29, b30, b31] < 16 := H_lt (l := [b28, b29, b30, b31]) (k := 4) (by simp)
  have g0 : bI (H [b20, b21, b22, b23]) 3 = b20 := bI_H [b20, b21, b22, b23] 3 (by simp)
  have g1 : bI (H [b20, b21, b22, b23]) 2 = b21 := bI_H [b20, b21, b22, b23] 2 (by simp)
  have g2 : bI (H [b20, b21, b22, b23]) 1 = b22 := bI_H [b20, b21, b22, b23] 1 (by simp)
  have g3 : bI (H [b20, b21, b22, b23]) 0 = b23 := bI_H [b20, b21, b22, b23] 0 (by simp)
  have g4 : bI (H [b12, b13, b14, b15]) 3 = b12 := bI_H [b12, b13, b14, b15] 3 (by simp)
  have g5 : bI (H [b12, b13, b14, b15]) 2 = b13 := bI_H [b12, b13, b14, b15] 2 (by simp)
  have g6 : bI (H [b12, b13, b14, b15]) 1 = b14 := bI_H [b12, b13, b14, b15] 1 (by simp)
  have g7 : bI (H [b12, b13, b14, b15]) 0 = b15 := bI_H [b12, b13, b14, b15] 0 (by simp)
  have g8 : bI (H [b28, b29, b30, b31]) 3 = b28 := bI_H [b28, b29, b30, b31] 3 (by simp)
  have g9 : bI (H [b28, b29, b30, b31]) 2 = b29 := bI_H [b28, b29, b30, b31] 2 (by simp)
  have g10 : bI (H [b28, b29, b30, b31]) 1 = b30 := bI_H [b28, b29, b30, b31] 1 (by simp)
  have g11 : bI (H [b28, b29, b30, b31]) 0 = b31 := bI_H [b28, b29, b30, b31] 0 (by simp)
  refine ⟨by
      simp [okB]
      try omega
    , by kernel_rfl, by
      have e : ∀ rd rn rm ra imm cond : Int, hl (ltr rd rn rm ra imm cond) ((V_hauberkref02_Bits (14, false)).take 16) = [true, true, true, false, true, false, true, true, false, false, false, false, bI rn 3, bI rn 2, bI rn 1, bI rn 0] := by intro rd rn rm ra imm cond; kernel_rfl
      rw [e]
      simp only [g4, g5, g6, g7]
    , by
      have e : ∀ rd rn rm ra imm cond : Int, hl (ltr rd rn rm ra imm cond) ((V_hauberkref02_Bits (14, false)).drop 16) = [false, false, false, false, bI rd 3, bI rd 2, bI rd 1, bI rd 0, false, false, false, false, bI rm 3, bI rm 2, bI rm 1, bI rm 0] := by intro rd rn rm ra imm cond; kernel_rfl
      rw [e]
      simp only [g0, g1, g2, g3, g8, g9, g10, g11]
    ⟩
theorem fw_15 (b12 b13 b14 b15 b20 b21 b22 b23 b28 b29 b30 b31 : Bool) (h0 : le12 (H [b20, b21, b22, b23]) = true) (h1 : le12 (H [b12, b13, b14, b15]) = true) (h2 : le12 (H [b28, b29, b30, b31]) = true) : okB 15 (H [b20, b21, b22, b23]) (H [b12, b13, b14, b15]) (H [b28, b29, b30, b31]) (0) (0) (0) false = true ∧ (V_hauberkref02_Bits (15, false)).length = 32 ∧ hl (ltr (H [b20, b21, b22, b23]) (H [b12, b13, b14, b15]) (H [b28, b29, b30, b31]) (0) (0) (0)) ((V_hauberkref02_Bits (15, false)).take 16) = [true, true, true, false, true, false, true, true, true, false, true, false, b12, b13, b14, b15] ∧ hl (ltr (H [b20, b21, b22, b23]) (H [b12, b13, b14, b15]) (H [b28, b29, b30, b31]) (0) (0) (0)) ((V_hauberkref02_Bits (15, false)).drop 16) = [false, false, false, false, b20, b21, b22, b23, false, false, false, false, b28, b29, b30, b31] := by
  have h0 := le12_iff h0
  have h1 := le12_iff h1
  have h2 := le12_iff h2
  have := H_nonneg [b20, b21, b22, b23]
  have : H [b20, b21, b22, b23] < 16 := H_lt (l := [b20, b21, b22, b23]) (k := 4) (by simp)
  have := H_nonneg [b12, b13, b14, b15]
  have : H [b12, b13, b14, b15] < 16 := H_lt (l := [b12, b13, b14, b15]) (k := 4) (by simp)
  have := H_nonneg [b28, b29, b30, b31]
  have : H [b28, b29, b30, b31] < 16 := H_lt (l := [b28, b29, b30, b31]) (k := 4) (by simp)
  have g0 : bI (H [b20, b21, b22, b23]) 3 = b20 := bI_H [b20, b21, b22, b23] 3 (by simp)
  have g1 : bI (H [b20, b21, b22, b23]) 2 = b21 := bI_H [b20, b21, b22, b23] 2 (by simp)
  have g2 : bI (H [b20, b21, b22, b23]) 1 = b22 := bI_H [b20, b21, b22, b23] 1 (by simp)
  have g3 : bI (H [b20, b21, b22, b23]) 0 = b23 := bI_H [b20, b21, b22, b23] 0 (by simp)
  have g4 : bI (H [b12, b13, b14, b15]) 3 = b12 := bI_H [b12, b13, b14, b15] 3 (by simp)
  have g5 : bI (H [b12, b13, b14, b15]) 2 = b13 := bI_H [b12, b13, b14, b15] 2 (by simp)
  have g6 : bI (H [b12, b13, b14, b15]) 1 = b14 := bI_H [b12, b13, b14, b15] 1 (by simp)
  have g7 : bI (H [b12, b13, b14, b15]) 0 = b15 := bI_H [b12, b13, b14, b15] 0 (by simp)
  have g8 : bI (H [b28, b29, b30, b31]) 3 = b28 := bI_H [b28, b29, b30, b31] 3 (by simp)
  have g9 : bI (H [b28, b29, b30, b31]) 2 = b29 := bI_H [b28, b29, b30, b31] 2 (by simp)
  have g10 : bI (H [b28, b29, b30, b31]) 1 = b30 := bI_H [b28, b29, b30, b31] 1 (by simp)
  have g11 : bI (H [b28, b29, b30, b31]) 0 = b31 := bI_H [b28, b29, b30, b31] 0 (by simp)
  refine ⟨by
      simp [okB]
      try omega
    , by kernel_rfl, by
      have e : ∀ rd rn rm ra imm cond : Int, hl (ltr rd rn rm ra imm cond) ((V_hauberkref02_Bits (15, false)).take 16) = [true, true, true, false, true, false, true, true, true, false, true, false, bI rn 3, bI rn 2, bI rn 1, bI rn 0] := by intro rd rn rm ra imm cond; kernel_rfl
      rw [e]
      simp only [g4, g5, g6, g7]
    , by
      have e : ∀ rd rn rm ra imm cond : Int, hl (ltr rd rn rm ra imm cond) ((V_hauberkref02_Bits (15, false)).drop 16) = [false, false, false, false, bI rd 3, bI rd 2, bI rd 1, bI rd 0, false, false, false, false, bI rm 3, bI rm 2, bI rm 1, bI rm 0] := by intro rd rn rm ra imm cond; kernel_rfl
      rw [e]
      simp only [g0, g1, g2, g3, g8, g9, g10, g11]
    ⟩
theorem fw_16 (b12 b13 b14 b15 b20 b21 b22 b23 b28 b29 b30 b31 : Bool) (h0 : le12 (H [b20, b21, b22, b23]) = true) (h1 : le12 (H [b12, b13, b14, b15]) = true) (h2 : le12 (H [b28, b29, b30, b31]) = true) : okB 16 (H [b20, b21, b22, b23]) (H [b12, b13, b14, b15]) (H [b28, b29, b30, b31]) (0) (0) (0) false = true ∧ (V_hauberkref02_Bits (16, false)).length = 32 ∧ hl (ltr (H [b20, b21, b22, b23]) (H [b12, b13, b14, b15]) (H [b28, b29, b30, b31]) (0) (0) (0)) ((V_hauberkref02_Bits (16, false)).take 16) = [true, true, true, true, true, false, true, true, false, false, false, false, b12, b13, b14, b15] ∧ hl (ltr (H [b20, b21, b22, b23]) (H [b12, b13, b14, b15]) (H [b28, b29, b30, b31]) (0) (0) (0)) ((V_hauberkref02_Bits (16, false)).drop 16) = [true, true, true, true, b20, b21, b22, b23, false, false, false, false, b28, b29, b30, b31] := by
  have h0 := le12_iff h0
  have h1 := le12_iff h1
  have h2 := le12_iff h2
  have := H_nonneg [b20, b21, b22, b23]
  have : H [b20, b21, b22, b23] < 16 := H_lt (l := [b20, b21, b22, b23]) (k := 4) (by simp)
  have := H_nonneg [b12, b13, b14, b15]
  have : H [b12, b13, b14, b15] < 16 := H_lt (l := [b12, b13, b14, b15]) (k := 4) (by simp)
  have := H_nonneg [b28, b29, b30, b31]
  have : H [b28, b29, b30, b31] < 16 := H_lt (l := [b28, b29, b30, b31]) (k := 4) (by simp)
  have g0 : bI (H [b20, b21, b22, b23]) 3 = b20 := bI_H [b20, b21, b22, b23] 3 (by simp)
  have g1 : bI (H [b20, b21, b22, b23]) 2 = b21 := bI_H [b20, b21, b22, b23] 2 (by simp)
  have g2 : bI (H [b20, b21, b22, b23]) 1 = b22 := bI_H [b20, b21, b22, b23] 1 (by simp)
  have g3 : bI (H [b20, b21, b22, b23]) 0 = b23 := bI_H [b20, b21, b22, b23] 0 (by simp)
  have g4 : bI (H [b12, b13, b14, b15]) 3 = b12 := bI_H [b12, b13, b14, b15] 3 (by simp)
  have g5 : bI (H [b12, b13, b14, b15]) 2 = b13 := bI_H [b12, b13, b14, b15] 2 (by simp)
  have g6 : bI (H [b12, b13, b14, b15]) 1 = b14 := bI_H [b12, b13, b14, b15] 1 (by simp)
  have g7 : bI (H [b12, b13, b14, b15]) 0 = b15 := bI_H [b12, b13, b14, b15] 0 (by simp)
  have g8 : bI (H [b28, b29, b30, b31]) 3 = b28 := bI_H [b28, b29, b30, b31] 3 (by simp)
  have g9 : bI (H [b28, b29, b30, b31]) 2 = b29 := bI_H [b28, b29, b30, b31] 2 (by simp)
  have g10 : bI (H [b28, b29, b30, b31]) 1 = b30 := bI_H [b28, b29, b30, b31] 1 (by simp)
  have g11 : bI (H [b28, b29, b30, b31]) 0 = b31 := bI_H [b28, b29, b30, b31] 0 (by simp)
  refine ⟨by
      simp [okB]
      try omega
    , by kernel_rfl, by
      have e : ∀ rd rn rm ra imm cond : Int, hl (ltr rd rn rm ra imm cond) ((V_hauberkref02_Bits (16, false)).take 16) = [true, true, true, true, true, false, true, true, false, false, false, false, bI rn 3, bI rn 2, bI rn 1, bI rn 0] := by intro rd rn rm ra imm cond; kernel_rfl
      rw [e]
      simp only [g4, g5, g6, g7]
    , by
      have e : ∀ rd rn rm ra imm cond : Int, hl (ltr rd rn rm ra imm cond) ((V_hauberkref02_Bits (16, false)).drop 16) = [true, true, true, true, bI rd 3, bI rd 2, bI rd 1, bI rd 0, false, false, false, false, bI rm 3, bI rm 2, bI rm 1, bI rm 0] := by intro rd rn rm ra imm cond; kernel_rfl
      rw [e]
      simp only [g0, g1, g2, g3, g8, g9, g10, g11]
    ⟩
theorem fw_17 (b12 b13 b14 b15 b16 b17 b18 b19 b20 b21 b22 b23 b28 b29 b30 b31 : Bool) (h0 : le12 (H [b16, b17, b18, b19]) = true) (h1 : le12 (H [b12, b13, b14, b15]) = true) (h2 : le12 (H [b28, b29, b30, b31]) = true) (h3 : le12 (H [b20, b21, b22, b23]) = true) (h4 : H [b16, b17, b18, b19] ≠ H [b20, b21, b22, b23]) : okB 17 (H [b16, b17, b18, b19]) (H [b12, b13, b14, b15]) (H [b28, b29, b30, b31]) (H [b20, b21, b22, b23]) (0) (0) false = true ∧ (V_hauberkref02_Bits (17, false)).length = 32 ∧ hl (ltr (H [b16, b17, b18, b19]) (H [b12, b13, b14, b15]) (H [b28, b29, b30, b31]) (H [b20, b21, b22, b23]) (0) (0)) ((V_hauberkref02_Bits (17, false)).take 16) = [true, true, true, true, true, false, true, true, true, false, true, false, b12, b13, b14, b15] ∧ hl (ltr (H [b16, b17, b18, b19]) (H [b12, b13, b14, b15]) (H [b28, b29, b30, b31]) (H [b20, b21, b22, b23]) (0) (0)) ((V_hauberkref02_Bits (17, false)).drop 16) = [b16, b17, b18, b19, b20, b21, b22, b23, false, false, false, false, b28, b29, b30, b31] := by
  have h0 := le12_iff h0
  have h1 := le12_iff h1
  have h2 := le12_iff h2
  have h3 := le12_iff h3
  have := H_nonneg [b16, b17, b18, b19]
  have : H [b16, b17, b18, b19] < 16 := H_lt (l := [b16, b17, b18, b19]) (k := 4) (by simp)
  have := H_nonneg [b12, b13, b14, b15]
  have : H [b12, b13, b14, b15] < 16 := H_lt (l := [b12, b13, b14, b15]) (k := 4) (by simp)
  have := H_nonneg [b28, b29, b30, b31]
  have : H [b28, b29, b30, b31] < 16 := H_lt (l := [b28, b29, b30, b31]) (k := 4) (by simp)
  have := H_nonneg [b20, b21, b22, b23]
  have : H [b20, b21, b22, b23] < 16 := H_lt (l := [b20, b21, b22, b23]) (k := 4) (by simp)
  have g0 : bI (H [b16, b17, b18, b19]) 3 = b16 := bI_H [b16, b17, b18, b19] 3 (by simp)
  have g1 : bI (H [b16, b17, b18, b19]) 2 = b17 := bI_H [b16, b17, b18, b19] 2 (by simp)
  have g2 : bI (H [b16, b17, b18, b19]) 1 = b18 := bI_H [b16, b17, b18, b19] 1 (by simp)
  have g3 : bI (H [b16, b17, b18, b19]) 0 = b19 := bI_H [b16, b17, b18, b19] 0 (by simp)
  have g4 : bI (H [b12, b13, b14, b15]) 3 = b12 := bI_H [b12, b13, b14, b15] 3 (by simp)
  have g5 : bI (H [b12, b13, b14, b15]) 2 = b13 := bI_H [b12, b13, b14, b15] 2 (by simp)
  have g6 : bI (H [b12, b13, b14, b15]) 1 = b14 := bI_H [b12, b13, b14, b15] 1 (by simp)
  have g7 : bI (H [b12, b13, b14, b15]) 0 = b15 := bI_H [b12, b13, b14, b15] 0 (by simp)
  have g8 : bI (H [b28, b29, b30, b31]) 3 = b28 := bI_H [b28, b29, b30, b31] 3 (by simp)
  have g9 : bI (H [b28, b29, b30, b31]) 2 = b29 := bI_H [b28, b29, b30, b31] 2 (by simp)
  have g10 : bI (H [b28, b29, b30, b31]) 1 = b30 := bI_H [b28, b29, b30, b31] 1 (by simp)
  have g11 : bI (H [b28, b29, b30, b31]) 0 = b31 := bI_H [b28, b29, b30, b31] 0 (by simp)
  have g12 : bI (H [b20, b21, b22, b23]) 3 = b20 := bI_H [b20, b21, b22, b23] 3 (by simp)
  have g13 : bI (H [b20, b21, b22, b23]) 2 = b21 := bI_H [b20, b21, b22, b23] 2 (by simp)
  have g14 : bI (H [b20, b21, b22, b23]) 1 = b22 := bI_H [b20, b21, b22, b23] 1 (by simp)
  have g15 : bI (H [b20, b21, b22, b23]) 0 = b23 := bI_H [b20, b21, b22, b23] 0 (by simp)
  refine ⟨by
      simp [okB]
      try omega
    , by kernel_rfl, by
      have e : ∀ rd rn rm ra imm cond : Int, hl (ltr rd rn rm ra imm cond) ((V_hauberkref02_Bits (17, false)).take 16) = [true, true, true, true, true, false, true, true, true, false, true, false, bI rn 3, bI rn 2, bI rn 1, bI rn 0] := by intro rd rn rm ra imm cond; kernel_rfl
      rw [e]
      simp only [g4, g5, g6, g7]
    , by
      have e : ∀ rd rn rm ra imm cond : Int, hl (ltr rd rn rm ra imm cond) ((V_hauberkref02_Bits (17, false)).drop 16) = [bI rd 3, bI rd 2, bI rd 1, bI rd 0, bI ra 3, bI ra 2, bI ra 1, bI ra 0, false, false, false, false, bI rm 3, bI rm 2, bI rm 1, bI rm 0] := by intro rd rn rm ra imm cond; kernel_rfl
      rw [e]
      simp only [g0, g1, g2, g3, g12, g13, g14, g15, g8, g9, g10, g11]
    ⟩
theorem fw_18 (b12 b13 b14 b15 b17 b18 b19 b20 b21 b22 b23 b24 b25 b27 b28 b29 b30 b31 : Bool) (h0 : le12 (H [b20, b21, b22, b23]) = true) (h1 : le12 (H [b12, b13, b14, b15]) = true) (h2 : H [b27, b28, b29, b30, b31] + 1 - H [b17, b18, b19, b24, b25] ≥ 1) : okB 18 (H [b20, b21, b22, b23]) (H [b12, b13, b14, b15]) (0) (H [b27, b28, b29, b30, b31] + 1 - H [b17, b18, b19, b24, b25]) (H [b17, b18, b19, b24, b25]) (0) false = true ∧ (V_hauberkref02_Bits (18, false)).length = 32 ∧ hl (ltr (H [b20, b21, b22, b23]) (H [b12, b13, b14, b15]) (0) (H [b27, b28, b29, b30, b31] + 1 - H [b17, b18, b19, b24, b25]) (H [b17, b18, b19, b24, b25]) (0)) ((V_hauberkref02_Bits (18, false)).take 16) = [true, true, true, true, false, false, true, true, false, true, true, false, b12, b13, b14, b15] ∧ hl (ltr (H [b20, b21, b22, b23]) (H [b12, b13, b14, b15]) (0) (H [b27, b28, b29, b30, b31] + 1 - H [b17, b18, b19, b24, b25]) (H [b17, b18, b19, b24, b25]) (0)) ((V_hauberkref02_Bits (18, false)).drop 16) = [false, b17, b18, b19, b20, b21, b22, b23, b24, b25, false, b27, b28, b29, b30, b31] := by
  have h0 := le12_iff h0
  have h1 := le12_iff h1
  have := H_nonneg [b20, b21, b22, b23]
  have : H [b20, b21, b22, b23] < 16 := H_lt (l := [b20, b21, b22, b23]) (k := 4) (by simp)
  have := H_nonneg [b12, b13, b14, b15]
  have : H [b12, b13, b14, b15] < 16 := H_lt (l := [b12, b13, b14, b15]) (k := 4) (by simp)
  have := H_nonneg [b17, b18, b19, b24, b25]
  have : H [b17, b18, b19, b24, b25] < 32 := H_lt (l := [b17, b18, b19, b24, b25]) (k := 5) (by simp)
  have := H_nonneg [b27, b28, b29, b30, b31]
  have : H [b27, b28, b29, b30, b31] < 32 := H_lt (l := [b27, b28, b29, b30, b31]) (k := 5) (by simp)
  have g0 : bI (H [b20, b21, b22, b23]) 3 = b20 := bI_H [b20, b21, b22, b23] 3 (by simp)
  have g1 : bI (H [b20, b21, b22, b23]) 2 = b21 := bI_H [b20, b21, b22, b23] 2 (by simp)
  have g2 : bI (H [b20, b21, b22, b23]) 1 = b22 := bI_H [b20, b21, b22, b23] 1 (by simp)
  have g3 : bI (H [b20, b21, b22, b23]) 0 = b23 := bI_H [b20, b21, b22, b23] 0 (by simp)
  have g4 : bI (H [b12, b13, b14, b15]) 3 = b12 := bI_H [b12, b13, b14, b15] 3 (by simp)
  have g5 : bI (H [b12, b13, b14, b15]) 2 = b13 := bI_H [b12, b13, b14, b15] 2 (by simp)
  have g6 : bI (H [b12, b13, b14, b15]) 1 = b14 := bI_H [b12, b13, b14, b15] 1 (by simp)
  have g7 : bI (H [b12, b13, b14, b15]) 0 = b15 := bI_H [b12, b13, b14, b15] 0 (by simp)
  have g8 : bI (H [b17, b18, b19, b24, b25]) 4 = b17 := bI_H [b17, b18, b19, b24, b25] 4 (by simp)
  have g9 : bI (H [b17, b18, b19, b24, b25]) 3 = b18 := bI_H [b17, b18, b19, b24, b25] 3 (by simp)
  have g10 : bI (H [b17, b18, b19, b24, b25]) 2 = b19 := bI_H [b17, b18, b19, b24, b25] 2 (by simp)
  have g11 : bI (H [b17, b18, b19, b24, b25]) 1 = b24 := bI_H [b17, b18, b19, b24, b25] 1 (by simp)
  have g12 : bI (H [b17, b18, b19, b24, b25]) 0 = b25 := bI_H [b17, b18, b19, b24, b25] 0 (by simp)
  have g13 : bI (H [b17, b18, b19, b24, b25] + (H [b27, b28, b29, b30, b31] + 1 - H [b17, b18, b19, b24, b25]) - 1) 4 = b27 := (by rw [show H [b17, b18, b19, b24, b25] + (H [b27, b28, b29, b30, b31] + 1 - H [b17, b18, b19, b24, b25]) - 1 = H [b27, b28, b29, b30, b31] by omega]; exact bI_H [b27, b28, b29, b30, b31] 4 (by simp))
  have g14 : bI (H [b17, b18, b19, b24, b25] + (H [b27, b28, b29, b30, b31] + 1 - H [b17, b18, b19, b24, b25]) - 1) 3 = b28 := (by rw [show H [b17, b18, b19, b24, b25] + (H [b27, b28, b29, b30, b31] + 1 - H [b17, b18, b19, b24, b25]) - 1 = H [b27, b28, b29, b30, b31] by omega]; exact bI_H [b27, b28, b29, b30, b31] 3 (by simp))
  have g15 : bI (H [b17, b18, b19, b24, b25] + (H [b27, b28, b29, b30, b31] + 1 - H [b17, b18, b19, b24, b25]) - 1) 2 = b29 := (by rw [show H [b17, b18, b19, b24, b25] + (H [b27, b28, b29, b30, b31] + 1 - H [b17, b18, b19, b24, b25]) - 1 = H [b27, b28, b29, b30, b31] by omega]; exact bI_H [b27, b28, b29, b30, b31] 2 (by simp))
  have g16 : bI (H [b17, b18, b19, b24, b25] + (H [b27, b28, b29, b30, b31] + 1 - H [b17, b18, b19, b24, b25]) - 1) 1 = b30 := (by rw [show H [b17, b18, b19, b24, b25] + (H [b27, b28, b29, b30, b31] + 1 - H [b17, b18, b19, b24, b25]) - 1 = H [b27, b28, b29, b30, b31] by omega]; exact bI_H [b27, b28, b29, b30, b31] 1 (by simp))
  have g17 : bI (H [b17, b18, b19, b24, b25] + (H [b27, b28, b29, b30, b31] + 1 - H [b17, b18, b19, b24, b25]) - 1) 0 = b31 := (by rw [show H [b17, b18, b19, b24, b25] + (H [b27, b28, b29, b30, b31] + 1 - H [b17, b18, b19, b24, b25]) - 1 = H [b27, b28, b29, b30, b31] by omega]; exact bI_H [b27, b28, b29, b30, b31] 0 (by simp))
  refine ⟨by
      simp [okB]
      try omega
    , by kernel_rfl, by
      have e : ∀ rd rn rm ra imm cond : Int, hl (ltr rd rn rm ra imm cond) ((V_hauberkref02_Bits (18, false)).take 16) = [true, true, true, true, false, false, true, true, false, true, true, false, bI rn 3, bI rn 2, bI rn 1, bI rn 0] := by intro rd rn rm ra imm cond; kernel_rfl
      rw [e]
      simp only [g4, g5, g6, g7]
    , by
      have e : ∀ rd rn rm ra imm cond : Int, hl (ltr rd rn rm ra imm cond) ((V_hauberkref02_Bits (18, false)).drop 16) = [false, bI imm 4, bI imm 3, bI imm 2, bI rd 3, bI rd 2, bI rd 1, bI rd 0, bI imm 1, bI imm 0, false, bI (imm + ra - 1) 4, bI (imm + ra - 1) 3, bI (imm + ra - 1) 2, bI (imm + ra - 1) 1, bI (imm + ra - 1) 0] := by intro rd rn rm ra imm cond; kernel_rfl
      rw [e]
      simp only [g8, g9, g10, g0, g1, g2, g3, g11, g12, g13, g14, g15, g16, g17]
    ⟩
theorem fw_19 (b10 b11 b12 b13 b14 b15 : Bool)  : okB 19 (H [b13, b14, b15]) (H [b10, b11, b12]) (0) (0) (0) (0) false = true ∧ (V_hauberkref02_Bits (19, false)).length = 16 ∧ hl (ltr (H [b13, b14, b15]) (H [b10, b11, b12]) (0) (0) (0) (0)) (V_hauberkref02_Bits (19, false)) = [false, true, true, false, true, false, false, false, false, false, b10, b11, b12, b13, b14, b15] := by
  have := H_nonneg [b13, b14, b15]
  have : H [b13, b14, b15] < 8 := H_lt (l := [b13, b14, b15]) (k := 3) (by simp)
  have := H_nonneg [b10, b11, b12]
  have : H [b10, b11, b12] < 8 := H_lt (l := [b10, b11, b12]) (k := 3) (by simp)
  have g0 : bI (H [b13, b14, b15]) 2 = b13 := bI_H [b13, b14, b15] 2 (by simp)
  have g1 : bI (H [b13, b14, b15]) 1 = b14 := bI_H [b13, b14, b15] 1 (by simp)
  have g2 : bI (H [b13, b14, b15]) 0 = b15 := bI_H [b13, b14, b15] 0 (by simp)
  have g3 : bI (H [b10, b11, b12]) 2 = b10 := bI_H [b10, b11, b12] 2 (by simp)
  have g4 : bI (H [b10, b11, b12]) 1 = b11 := bI_H [b10, b11, b12] 1 (by simp)
  have g5 : bI (H [b10, b11, b12]) 0 = b12 := bI_H [b10, b11, b12] 0 (by simp)
  refine ⟨by
      simp [okB]
      try omega
    , by kernel_rfl, by
      have e : ∀ rd rn rm ra imm cond : Int, hl (ltr rd rn rm ra imm cond) (V_hauberkref02_Bits (19, false)) = [false, true, true, false, true, false, false, false, false, false, bI rn 2, bI rn 1, bI rn 0, bI rd 2, bI rd 1, bI rd 0] := by intro rd rn rm ra imm cond; kernel_rfl
      rw [e]
      simp only [g3, g4, g5, g0, g1, g2]
    ⟩
theorem fw_20 (b10 b11 b12 b13 b14 b15 : Bool)  : okB 20 (H [b13, b14, b15]) (H [b10, b11, b12]) (0) (0) (0) (0) false = true ∧ (V_hauberkref02_Bits (20, false)).length = 16 ∧ hl (ltr (H [b13, b14, b15]) (H [b10, b11, b12]) (0) (0) (0) (0)) (V_hauberkref02_Bits (20, false)) = [false, true, true, false, false, false, false, false, false, false, b10, b11, b12, b13, b14, b15] := by
  have := H_nonneg [b13, b14, b15]
  have : H [b13, b14, b15] < 8 := H_lt (l := [b13, b14, b15]) (k := 3) (by simp)
  have := H_nonneg [b10, b11, b12]
  have : H [b10, b11, b12] < 8 := H_lt (l := [b10, b11, b12]) (k := 3) (by simp)
  have g0 : bI (H [b13, b14, b15]) 2 = b13 := bI_H [b13, b14, b15] 2 (by simp)
  have g1 : bI (H [b13, b14, b15]) 1 = b14 := bI_H [b13, b14, b15] 1 (by simp)
  have g2 : bI (H [b13, b14, b15]) 0 = b15 := bI_H [b13, b14, b15] 0 (by simp)
  have g3 : bI (H [b10, b11, b12]) 2 = b10 := bI_H [b10, b11, b12] 2 (by simp)
  have g4 : bI (H [b10, b11, b12]) 1 = b11 := bI_H [b10, b11, b12] 1 (by simp)
  have g5 : bI (H [b10, b11, b12]) 0 = b12 := bI_H [b10, b11, b12] 0 (by simp)
  refine ⟨by
      simp [okB]
      try omega
    , by kernel_rfl, by
      have e : ∀ rd rn rm ra imm cond : Int, hl (ltr rd rn rm ra imm cond) (V_hauberkref02_Bits (20, false)) = [false, true, true, false, false, false, false, false, false, false, bI rn 2, bI rn 1, bI rn 0, bI rd 2, bI rd 1, bI rd 0] := by intro rd rn rm ra imm cond; kernel_rfl
      rw [e]
      simp only [g3, g4, g5, g0, g1, g2]
    ⟩
theorem fw_21 (b10 b11 b12 b13 b14 b15 : Bool)  : okB 21 (H [b13, b14, b15]) (H [b10, b11, b12]) (0) (0) (0) (0) false = true ∧ (V_hauberkref02_Bits (21, false)).length = 16 ∧ hl (ltr (H [b13, b14, b15]) (H [b10, b11, b12]) (0) (0) (0) (0)) (V_hauberkref02_Bits (21, false)) = [false, true, true, true, true, false, false, false, false, false, b10, b11, b12, b13, b14, b15] := by
  have := H_nonneg [b13, b14, b15]
  have : H [b13, b14, b15] < 8 := H_lt (l := [b13, b14, b15]) (k := 3) (by simp)
  have := H_nonneg [b10, b11, b12]
  have : H [b10, b11, b12] < 8 := H_lt (l := [b10, b11, b12]) (k := 3) (by simp)
  have g0 : bI (H [b13, b14, b15]) 2 = b13 := bI_H [b13, b14, b15] 2 (by simp)
  have g1 : bI (H [b13, b14, b15]) 1 = b14 := bI_H [b13, b14, b15] 1 (by simp)
  have g2 : bI (H [b13, b14, b15]) 0 = b15 := bI_H [b13, b14, b15] 0 (by simp)
  have g3 : bI (H [b10, b11, b12]) 2 = b10 := bI_H [b10, b11, b12] 2 (by simp)
  have g4 : bI (H [b10, b11, b12]) 1 = b11 := bI_H [b10, b11, b12] 1 (by simp)
  have g5 : bI (H [b10, b11, b12]) 0 = b12 := bI_H [b10, b11, b12] 0 (by simp)
  refine ⟨by
      simp [okB]
      try omega
    , by kernel_rfl, by
      have e : ∀ rd rn rm ra imm cond : Int, hl (ltr rd rn rm ra imm cond) (V_hauberkref02_Bits (21, false)) = [false, true, true, true, true, false, false, false, false, false, bI rn 2, bI rn 1, bI rn 0, bI rd 2, bI rd 1, bI rd 0] := by intro rd rn rm ra imm cond; kernel_rfl
      rw [e]
      simp only [g3, g4, g5, g0, g1, g2]
    ⟩
theorem fw_22 (b10 b11 b12 b13 b14 b15 : Bool)  : okB 22 (H [b13, b14, b15]) (H [b10, b11, b12]) (0) (0) (0) (0) false = true ∧ (V_hauberkref02_Bits (22, false)).length = 16 ∧ hl (ltr (H [b13, b14, b15]) (H [b10, b11, b12]) (0) (0) (0) (0)) (V_hauberkref02_Bits (22, false)) = [false, true, true, true, false, false, false, false, false, false, b10, b11, b12, b13, b14, b15] := by
  have := H_nonneg [b13, b14, b15]
  have : H [b13, b14, b15] < 8 := H_lt (l := [b13, b14, b15]) (k := 3) (by simp)
  have := H_nonneg [b10, b11, b12]
  have : H [b10, b11, b12] < 8 := H_lt (l := [b10, b11, b12]) (k := 3) (by simp)
  have g0 : bI (H [b13, b14, b15]) 2 = b13 := bI_H [b13, b14, b15] 2 (by simp)
  have g1 : bI (H [b13, b14, b15]) 1 = b14 := bI_H [b13, b14, b15] 1 (by simp)
  have g2 : bI (H [b13, b14, b15]) 0 = b15 := bI_H [b13, b14, b15] 0 (by simp)
  have g3 : bI (H [b10, b11, b12]) 2 = b10 := bI_H [b10, b11, b12] 2 (by simp)
  have g4 : bI (H [b10, b11, b12]) 1 = b11 := bI_H [b10, b11, b12] 1 (by simp)
  have g5 : bI (H [b10, b11, b12]) 0 = b12 := bI_H [b10, b11, b12] 0 (by simp)
  refine ⟨by
      simp [okB]
      try omega
    , by kernel_rfl, by
      have e : ∀ rd rn rm ra imm cond : Int, hl (ltr rd rn rm ra imm cond) (V_hauberkref02_Bits (22, false)) = [false, true, true, true, false, false, false, false, false, false, bI rn 2, bI rn 1, bI rn 0, bI rd 2, bI rd 1, bI rd 0] := by intro rd rn rm ra imm cond; kernel_rfl
      rw [e]
      simp only [g3, g4, g5, g0, g1, g2]
    ⟩
theorem fw_23 (b10 b11 b12 b13 b14 b15 : Bool)  : okB 23 (0) (H [b13, b14, b15]) (H [b10, b11, b12]) (0) (0) (0) false = true ∧ (V_hauberkref02_Bits (23, false)).length = 16 ∧ hl (ltr (0) (H [b13, b14, b15]) (H [b10, b11, b12]) (0) (0) (0)) (V_hauberkref02_Bits (23, false)) = [false, true, false, false, false, false, true, false, true, false, b10, b11, b12, b13, b14, b15] := by
  have := H_nonneg [b13, b14, b15]
  have : H [b13, b14, b15] < 8 := H_lt (l := [b13, b14, b15]) (k := 3) (by simp)
  have := H_nonneg [b10, b11, b12]
  have : H [b10, b11, b12] < 8 := H_lt (l := [b10, b11, b12]) (k := 3) (by simp)
  have g0 : bI (H [b13, b14, b15]) 2 = b13 := bI_H [b13, b14, b15] 2 (by simp)
  have g1 : bI (H [b13, b14, b15]) 1 = b14 := bI_H [b13, b14, b15] 1 (by simp)
  have g2 : bI (H [b13, b14, b15]) 0 = b15 := bI_H [b13, b14, b15] 0 (by simp)
  have g3 : bI (H [b10, b11, b12]) 2 = b10 := bI_H [b10, b11, b12] 2 (by simp)
  have g4 : bI (H [b10, b11, b12]) 1 = b11 := bI_H [b10, b11, b12] 1 (by simp)
  have g5 : bI (H [b10, b11, b12]) 0 = b12 := bI_H [b10, b11, b12] 0 (by simp)
  refine ⟨by
      simp [okB]
      try omega
    , by kernel_rfl, by
      have e : ∀ rd rn rm ra imm cond : Int, hl (ltr rd rn rm ra imm cond) (V_hauberkref02_Bits (23, false)) = [false, true, false, false, false, false, true, false, true, false, bI rm 2, bI rm 1, bI rm 0, bI rn 2, bI rn 1, bI rn 0] := by intro rd rn rm ra imm cond; kernel_rfl
      rw [e]
      simp only [g3, g4, g5, g0, g1, g2]
    ⟩
theorem fw_24 (b5 b6 b7 b8 b9 b10 b11 b12 b13 b14 b15 : Bool)  : okB 24 (0) (0) (0) (0) (SG [b5, b6, b7, b8, b9, b10, b11, b12, b13, b14, b15, false]) (0) false = true ∧ (V_hauberkref02_Bits (24, false)).length = 16 ∧ hl (ltr (0) (0) (0) (0) (SG [b5, b6, b7, b8, b9, b10, b11, b12, b13, b14, b15, false]) (0)) (V_hauberkref02_Bits (24, false)) = [true, true, true, false, false, b5, b6, b7, b8, b9, b10, b11, b12, b13, b14, b15] := by
  have := SG_even b5 [b6, b7, b8, b9, b10, b11, b12, b13, b14, b15]
  have hev : SG [b5, b6, b7, b8, b9, b10, b11, b12, b13, b14, b15, false] % 2 = 0 := this
  have hlt : -2048 ≤ SG [b5, b6, b7, b8, b9, b10, b11, b12, b13, b14, b15, false] ∧ SG [b5, b6, b7, b8, b9, b10, b11, b12, b13, b14, b15, false] < 2048 := SG_in b5 [b6, b7, b8, b9, b10, b11, b12, b13, b14, b15, false] 11 (by simp)
  have g0 : bI (SG [b5, b6, b7, b8, b9, b10, b11, b12, b13, b14, b15, false]) 11 = b5 := bI_SG b5 [b6, b7, b8, b9, b10, b11, b12, b13, b14, b15, false] 11 (by simp)
  have g1 : bI (SG [b5, b6, b7, b8, b9, b10, b11, b12, b13, b14, b15, false]) 10 = b6 := bI_SG b5 [b6, b7, b8, b9, b10, b11, b12, b13, b14, b15, false] 10 (by simp)
  have g2 : bI (SG [b5, b6, b7, b8, b9, b10, b11, b12, b13, b14, b15, false]) 9 = b7 := bI_SG b5 [b6, b7, b8, b9, b10, b11, b12, b13, b14, b15, false] 9 (by simp)
  have g3 : bI (SG [b5, b6, b7, b8, b9, b10, b11, b12, b13, b14, b15, false]) 8 = b8 := bI_SG b5 [b6, b7, b8, b9, b10, b11, b12, b13, b14, b15, false] 8 (by simp)
  have g4 : bI (SG [b5, b6, b7, b8, b9, b10, b11, b12, b13, b14, b15, false]) 7 = b9 := bI_SG b5 [b6, b7, b8, b9, b10, b11, b12, b13, b14, b15, false] 7 (by simp)
  have g5 : bI (SG [b5, b6, b7, b8, b9, b10, b11, b12, b13, b14, b15, false]) 6 = b10 := bI_SG b5 [b6, b7, b8, b9, b10, b11, b12, b13, b14, b15, false] 6 (by simp)
  have g6 : bI (SG [b5, b6, b7, b8, b9, b10, b11, b12, b13, b14, b15, false]) 5 = b11 := bI_SG b5 [b6, b7, b8, b9, b10, b11, b12, b13, b14, b15, false] 5 (by simp)
  have g7 : bI (SG [b5, b6, b7, b8, b9, b10, b11, b12, b13, b14, b15, false]) 4 = b12 := bI_SG b5 [b6, b7, b8, b9, b10, b11, b12, b13, b14, b15, false] 4 (by simp)
  have g8 : bI (SG [b5, b6, b7, b8, b9, b10, b11, b12, b13, b14, b15, false]) 3 = b13 := bI_SG b5 [b6, b7, b8, b9, b10, b11, b12, b13, b14, b15, false] 3 (by simp)
  have g9 : bI (SG [b5, b6, b7, b8, b9, b10, b11, b12, b13, b14, b15, false]) 2 = b14 := bI_SG b5 [b6, b7, b8, b9, b10, b11, b12, b13, b14, b15, false] 2 (by simp)
  have g10 : bI (SG [b5, b6, b7, b8, b9, b10, b11, b12, b13, b14, b15, false]) 1 = b15 := bI_SG b5 [b6, b7, b8, b9, b10, b11, b12, b13, b14, b15, false] 1 (by simp)
  refine ⟨by
      simp [okB]
      try omega
    , by kernel_rfl, by
      have e : ∀ rd rn rm ra imm cond : Int, hl (ltr rd rn rm ra imm cond) (V_hauberkref02_Bits (24, false)) = [true, true, true, false, false, bI imm 11, bI imm 10, bI imm 9, bI imm 8, bI imm 7, bI imm 6, bI imm 5, bI imm 4, bI imm 3, bI imm 2, bI imm 1] := by intro rd rn rm ra imm cond; kernel_rfl
      rw [e]
      simp only [g0, g1, g2, g3, g4, g5, g6, g7, g8, g9, g10]
    ⟩
theorem fw_24w (b5 b6 b7 b8 b9 b10 b11 b12 b13 b14 b15 b18 b20 b21 b22 b23 b24 b25 b26 b27 b28 b29 b30 b31 : Bool)  : okB 24 (0) (0) (0) (0) (SG [b5, nx b18 b5, nx b20 b5, b6, b7, b8, b9, b10, b11, b12, b13, b14, b15, b21, b22, b23, b24, b25, b26, b27, b28, b29, b30, b31, false]) (0) true = true ∧ (V_hauberkref02_Bits (24, true)).length = 32 ∧ hl (ltr (0) (0) (0) (0) (SG [b5, nx b18 b5, nx b20 b5, b6, b7, b8, b9, b10, b11, b12, b13, b14, b15, b21, b22, b23, b24, b25, b26, b27, b28, b29, b30, b31, false]) (0)) ((V_hauberkref02_Bits (24, true)).take 16) = [true, true, true, true, false, b5, b6, b7, b8, b9, b10, b11, b12, b13, b14, b15] ∧ hl (ltr (0) (0) (0) (0) (SG [b5, nx b18 b5, nx b20 b5, b6, b7, b8, b9, b10, b11, b12, b13, b14, b15, b21, b22, b23, b24, b25, b26, b27, b28, b29, b30, b31, false]) (0)) ((V_hauberkref02_Bits (24, true)).drop 16) = [true, false, b18, true, b20, b21, b22, b23, b24, b25, b26, b27, b28, b29, b30, b31] := by
  have := SG_even b5 [nx b18 b5, nx b20 b5, b6, b7, b8, b9, b10, b11, b12, b13, b14, b15, b21, b22, b23, b24, b25, b26, b27, b28, b29, b30, b31]
  have hev : SG [b5, nx b18 b5, nx b20 b5, b6, b7, b8, b9, b10, b11, b12, b13, b14, b15, b21, b22, b23, b24, b25, b26, b27, b28, b29, b30, b31, false] % 2 = 0 := this
  have hlt : -16777216 ≤ SG [b5, nx b18 b5, nx b20 b5, b6, b7, b8, b9, b10, b11, b12, b13, b14, b15, b21, b22, b23, b24, b25, b26, b27, b28, b29, b30, b31, false] ∧ SG [b5, nx b18 b5, nx b20 b5, b6, b7, b8, b9, b10, b11, b12, b13, b14, b15, b21, b22, b23, b24, b25, b26, b27, b28, b29, b30, b31, false] < 16777216 := SG_in b5 [nx b18 b5, nx b20 b5, b6, b7, b8, b9, b10, b11, b12, b13, b14, b15, b21, b22, b23, b24, b25, b26, b27, b28, b29, b30, b31, false] 24 (by simp)
  have g0 : bI (SG [b5, nx b18 b5, nx b20 b5, b6, b7, b8, b9, b10, b11, b12, b13, b14, b15, b21, b22, b23, b24, b25, b26, b27, b28, b29, b30, b31, false]) 24 = b5 := bI_SG b5 [nx b18 b5, nx b20 b5, b6, b7, b8, b9, b10, b11, b12, b13, b14, b15, b21, b22, b23, b24, b25, b26, b27, b28, b29, b30, b31, false] 24 (by simp)
  have g1 : bI (SG [b5, nx b18 b5, nx b20 b5, b6, b7, b8, b9, b10, b11, b12, b13, b14, b15, b21, b22, b23, b24, b25, b26, b27, b28, b29, b30, b31, false]) 23 = nx b18 b5 := bI_SG b5 [nx b18 b5, nx b20 b5, b6, b7, b8, b9, b10, b11, b12, b13, b14, b15, b21, b22, b23, b24, b25, b26, b27, b28, b29, b30, b31, false] 23 (by simp)
  have g2 : bI (SG [b5, nx b18 b5, nx b20 b5, b6, b7, b8, b9, b10, b11, b12, b13, b14, b15, b21, b22, b23, b24, b25, b26, b27, b28, b29, b30, b31, false]) 22 = nx b20 b5 := bI_SG b5 [nx b18 b5, nx b20 b5, b6, b7, b8, b9, b10, b11, b12, b13, b14, b15, b21, b22, b23, b24, b25, b26, b27, b28, b29, b30, b31, false] 22 (by simp)
  have g3 : bI (SG [b5, nx b18 b5, nx b20 b5, b6, b7, b8, b9, b10, b11, b12, b13, b14, b15, b21, b22, b23, b24, b25, b26, b27, b28, b29, b30, b31, false]) 21 = b6 := bI_SG b5 [nx b18 b5, nx b20 b5, b6, b7, b8, b9, b10, b11, b12, b13, b14, b15, b21, b22, b23, b24, b25, b26, b27, b28, b29, b30, b31, false] 21 (by simp)
  have g4 : bI (SG [b5, nx b18 b5, nx b20 b5, b6, b7, b8, b9, b10, b11, b12, b13, b14, b15, b21, b22, b23, b24, b25, b26, b27, b28, b29, b30, b31, false]) 20 = b7 := bI_SG b5 [nx b18 b5, nx b20 b5, b6, b7, b8, b9, b10, b11, b12, b13, b14, b15, b21, b22, b23, b24, b25, b26, b27, b28, b29, b30, b31, false] 20 (by simp)
  have g5 : bI (SG [b5, nx b18 b5, nx b20 b5, b6, b7, b8, b9, b10, b11, b12, b13, b14, b15, b21, b22, b23, b24, b25, b26, b27, b28, b29, b30, b31, false]) 19 = b8 := bI_SG b5 [nx b18 b5, nx b20 b5, b6, b7, b8, b9, b10, b11, b12, b13, b14, b15, b21, b22, b23, b24, b25, b26, b27, b28, b29, b30, b31, false] 19 (by simp)
  have g6 : bI (SG [b5, nx b18 b5, nx b20 b5, b6, b7, b8, b9, b10, b11, b12, b13, b14, b15, b21, b22, b23, b24, b25, b26, b27, b28, b29, b30, b31, false]) 18 = b9 := bI_SG b5 [nx b18 b5, nx b20 b5, b6, b7, b8, b9, b10, b11, b12, b13, b14, b15, b21, b22, b23, b24, b25, b26, b27, b28, b29, b30, b31, false] 18 (by simp)
  have g7 : bI (SG [b5, nx b18 b5, nx b20 b5, b6, b7, b8, b9, b10, b11, b12, b13, b14, b15, b21, b22, b23, b24, b25, b26, b27, b28, b29, b30, b31, false]) 17 = b10 := bI_SG b5 [nx b18 b5, nx b20 b5, b6, b7, b8, b9, b10, b11, b12, b13, b14, b15, b21, b22, b23, b24, b25, b26, b27, b28, b29, b30, b31, false] 17 (by simp)
  have g8 : bI (SG [b5, nx b18 b5, nx b20 b5, b6, b7, b8, b9, b10, b11, b12, b13, b14, b15, b21, b22, b23, b24, b25, b26, b27, b28, b29, b30, b31, false]) 16 = b11 := bI_SG b5 [nx b18 b5, nx b20 b5, b6, b7, b8, b9, b10, b11, b12, b13, b14, b15, b21, b22, b23, b24, b25, b26, b27, b28, b29, b30, b31, false] 16 (by simp)
  have g9 : bI (SG [b5, nx b18 b5, nx b20 b5, b6, b7, b8, b9, b10, b11, b12, b13, b14, b15, b21, b22, b23, b24, b25, b26, b27, b28, b29, b30, b31, false]) 15 = b12 := bI_SG b5 [nx b18 b5, nx b20 b5, b6, b7, b8, b9, b10, b11, b12, b13, b14, b15, b21, b22, b23, b24, b25, b26, b27, b28, b29, b30, b31, false] 15 (by simp)
  have g10 : bI (SG [b5, nx b18 b5, nx b20 b5, b6, b7, b8, b9, b10, b11, b12, b13, b14, b15, b21, b22, b23, b24, b25, b26, b27, b28, b29, b30, b31, false]) 14 = b13 := bI_SG b5 [nx b18 b5, nx b20 b5, b6, b7, b8, b9, b10, b11, b12, b13, b14, b15, b21, b22, b23, b24, b25, b26, b27, b28, b29, b30, b31, false] 14 (by simp)
  have g11 : bI (SG [b5, nx b18 b5, nx b20 b5, b6, b7, b8, b9, b10, b11, b12, b13, b14, b15, b21, b22, b23, b24, b25, b26, b27, b28, b29, b30, b31, false]) 13 = b14 := bI_SG b5 [nx b18 b5, nx b20 b5, b6, b7, b8, b9, b10, b11, b12, b13, b14, b15, b21, b22, b23, b24, b25, b26, b27, b28, b29, b30, b31, false] 13 (by simp)
  have g12 : bI (SG [b5, nx b18 b5, nx b20 b5, b6, b7, b8, b9, b10, b11, b12, b13, b14, b15, b21, b22, b23, b24, b25, b26, b27, b28, b29, b30, b31, false]) 12 = b15 := bI_SG b5 [nx b18 b5, nx b20 b5, b6, b7, b8, b9, b10, b11, b12, b13, b14, b15, b21, b22, b23, b24, b25, b26, b27, b28, b29, b30, b31, false] 12 (by simp)
  have g13 : bI (SG [b5, nx b18 b5, nx b20 b5, b6, b7, b8, b9, b10, b11, b12, b13, b14, b15, b21, b22, b23, b24, b25, b26, b27, b28, b29, b30, b31, false]) 11 = b21 := bI_SG b5 [nx b18 b5, nx b20 b5, b6, b7, b8, b9, b10, b11, b12, b13, b14, b15, b21, b22, b23, b24, b25, b26, b27, b28, b29, b30, b31, false] 11 (by simp)
  have g14 : bI (SG [b5, nx b18 b5, nx b20 b5, b6, b7, b8, b9, b10, b11, b12, b13, b14, b15, b21, b22, b23, b24, b25, b26, b27, b28, b29, b30, b31, false]) 10 = b22 := bI_SG b5 [nx b18 b5, nx b20 b5, b6, b7, b8, b9, b10, b11, b12, b13, b14, b15, b21, b22, b23, b24, b25, b26, b27, b28, b29, b30, b31, false] 10 (by simp)
  have g15 : bI (SG [b5, nx b18 b5, nx b20 b5, b6, b7, b8, b9, b10, b11, b12, b13, b14, b15, b21, b22, b23, b24, b25, b26, b27, b28, b29, b30, b31, false]) 9 = b23 := bI_SG b5 [nx b18 b5, nx b20 b5, b6, b7, b8, b9, b10, b11, b12, b13, b14, b15, b21, b22, b23, b24, b25, b26, b27, b28, b29, b30, b31, false] 9 (by simp)
  have g16 : bI (SG [b5, nx b18 b5, nx b20 b5, b6, b7, b8, b9, b10, b11, b12, b13, b14, b15, b21, b22, b23, b24, b25, b26, b27, b28, b29, b30, b31, false]) 8 = b24 := bI_SG b5 [nx b18 b5, nx b20 b5, b6, b7, b8, b9, b10, b11, b12, b13, b14, b15, b21, b22, b23, b24, b25, b26, b27, b28, b29, b30, b31, false] 8 (by simp)
  have g17 : bI (SG [b5, nx b18 b5, nx b20 b5, b6, b7, b8, b9, b10, b11, b12, b13, b14, b15, b21, b22, b23, b24, b25, b26, b27, b28, b29, b30, b31, false]) 7 = b25 := bI_SG b5 [nx b18 b5, nx b20 b5, b6, b7, b8, b9, b10, b11, b12, b13, b14, b15, b21, b22, b23, b24, b25, b26, b27, b28, b29, b30, b31, false] 7 (by simp)
  have g18 : bI (SG [b5, nx b18 b5, nx b20 b5, b6, b7, b8, b9, b10, b11, b12, b13, b14, b15, b21, b22, b23, b24, b25, b26, b27, b28, b29, b30, b31, false]) 6 = b26 := bI_SG b5 [nx b18 b5, nx b20 b5, b6, b7, b8, b9, b10, b11, b12, b13, b14, b15, b21, b22, b23, b24, b25, b26, b27, b28, b29, b30, b31, false] 6 (by simp)
  have g19 : bI (SG [b5, nx b18 b5, nx b20 b5, b6, b7, b8, b9, b10, b11, b12, b13, b14, b15, b21, b22, b23, b24, b25, b26, b27, b28, b29, b30, b31, false]) 5 = b27 := bI_SG b5 [nx b18 b5, nx b20 b5, b6, b7, b8, b9, b10, b11, b12, b13, b14, b15, b21, b22, b23, b24, b25, b26, b27, b28, b29, b30, b31, false] 5 (by simp)
  have g20 : bI (SG [b5, nx b18 b5, nx b20 b5, b6, b7, b8, b9, b10, b11, b12, b13, b14, b15, b21, b22, b23, b24, b25, b26, b27, b28, b29, b30, b31, false]) 4 = b28 := bI_SG b5 [nx b18 b5, nx b20 b5, b6, b7, b8, b9, b10, b11, b12, b13, b14, b15, b21, b22, b23, b24, b25, b26, b27, b28, b29, b30, b31, false] 4 (by simp)
  have g21 : bI (SG [b5, nx b18 b5, nx b20 b5, b6, b7, b8, b9, b10, b11, b12, b13, b14, b15, b21, b22, b23, b24, b25, b26, b27, b28, b29, b30, b31, false]) 3 = b29 := bI_SG b5 [nx b18 b5, nx b20 b5, b6, b7, b8, b9, b10, b11, b12, b13, b14, b15, b21, b22, b23, b24, b25, b26, b27, b28, b29, b30, b31, false] 3 (by simp)
  have g22 : bI (SG [b5, nx b18 b5, nx b20 b5, b6, b7, b8, b9, b10, b11, b12, b13, b14, b15, b21, b22, b23, b24, b25, b26, b27, b28, b29, b30, b31, false]) 2 = b30 := bI_SG b5 [nx b18 b5, nx b20 b5, b6, b7, b8, b9, b10, b11, b12, b13, b14, b15, b21, b22, b23, b24, b25, b26, b27, b28, b29, b30, b31, false] 2 (by simp)
  have g23 : bI (SG [b5, nx b18 b5, nx b20 b5, b6, b7, b8, b9, b10, b11, b12, b13, b14, b15, b21, b22, b23, b24, b25, b26, b27, b28, b29, b30, b31, false]) 1 = b31 := bI_SG b5 [nx b18 b5, nx b20 b5, b6, b7, b8, b9, b10, b11, b12, b13, b14, b15, b21, b22, b23, b24, b25, b26, b27, b28, b29, b30, b31, false] 1 (by simp)
  refine ⟨okB_24w _ hev hlt.1 (by omega)
    , by kernel_rfl, by
      have e : ∀ rd rn rm ra imm cond : Int, hl (ltr rd rn rm ra imm cond) ((V_hauberkref02_Bits (24, true)).take 16) = [true, true, true, true, false, bI imm 24, bI imm 21, bI imm 20, bI imm 19, bI imm 18, bI imm 17, bI imm 16, bI imm 15, bI imm 14, bI imm 13, bI imm 12] := by intro rd rn rm ra imm cond; kernel_rfl
      rw [e]
      simp only [g0, g3, g4, g5, g6, g7, g8, g9, g10, g11, g12]
    , by
      have e : ∀ rd rn rm ra imm cond : Int, hl (ltr rd rn rm ra imm cond) ((V_hauberkref02_Bits (24, true)).drop 16) = [true, false, !(bI imm 23 ^^ bI imm 24), true, !(bI imm 22 ^^ bI imm 24), bI imm 11, bI imm 10, bI imm 9, bI imm 8, bI imm 7, bI imm 6, bI imm 5, bI imm 4, bI imm 3, bI imm 2, bI imm 1] := by intro rd rn rm ra imm cond; kernel_rfl
      rw [e]
      simp only [g1, g0, nx_nx, g2, g13, g14, g15, g16, g17, g18, g19, g20, g21, g22, g23]
    ⟩
theorem fw_25 (b4 b5 b6 b7 b8 b9 b10 b11 b12 b13 b14 b15 : Bool) (h0 : H [b4, b5, b6, b7] ≤ 13) : okB 25 (0) (0) (0) (0) (SG [b8, b9, b10, b11, b12, b13, b14, b15, false]) (H [b4, b5, b6, b7]) false = true ∧ (V_hauberkref02_Bits (25, false)).length = 16 ∧ hl (ltr (0) (0) (0) (0) (SG [b8, b9, b10, b11, b12, b13, b14, b15, false]) (H [b4, b5, b6, b7])) (V_hauberkref02_Bits (25, false)) = [true, true, false, true, b4, b5, b6, b7, b8, b9, b10, b11, b12, b13, b14, b15] := by
  have := H_nonneg [b4, b5, b6, b7]
  have : H [b4, b5, b6, b7] < 16 := H_lt (l := [b4, b5, b6, b7]) (k := 4) (by simp)
  have := SG_even b8 [b9, b10, b11, b12, b13, b14, b15]
  have hev : SG [b8, b9, b10, b11, b12, b13, b14, b15, false] % 2 = 0 := this
  have hlt : -256 ≤ SG [b8, b9, b10, b11, b12, b13, b14, b15, false] ∧ SG [b8, b9, b10, b11, b12, b13, b14, b15, false] < 256 := SG_in b8 [b9, b10, b11, b12, b13, b14, b15, false] 8 (by simp)
  have g0 : bI (H [b4, b5, b6, b7]) 3 = b4 := bI_H [b4, b5, b6, b7] 3 (by simp)
  have g1 : bI (H [b4, b5, b6, b7]) 2 = b5 := bI_H [b4, b5, b6, b7] 2 (by simp)
  have g2 : bI (H [b4, b5, b6, b7]) 1 = b6 := bI_H [b4, b5, b6, b7] 1 (by simp)
  have g3 : bI (H [b4, b5, b6, b7]) 0 = b7 := bI_H [b4, b5, b6, b7] 0 (by simp)
  have g4 : bI (SG [b8, b9, b10, b11, b12, b13, b14, b15, false]) 8 = b8 := bI_SG b8 [b9, b10, b11, b12, b13, b14, b15, false] 8 (by simp)
  have g5 : bI (SG [b8, b9, b10, b11, b12, b13, b14, b15, false]) 7 = b9 := bI_SG b8 [b9, b10, b11, b12, b13, b14, b15, false] 7 (by simp)
  have g6 : bI (SG [b8, b9, b10, b11, b12, b13, b14, b15, false]) 6 = b10 := bI_SG b8 [b9, b10, b11, b12, b13, b14, b15, false] 6 (by simp)
  have g7 : bI (SG [b8, b9, b10, b11, b12, b13, b14, b15, false]) 5 = b11 := bI_SG b8 [b9, b10, b11, b12, b13, b14, b15, false] 5 (by simp)
  have g8 : bI (SG [b8, b9, b10, b11, b12, b13, b14, b15, false]) 4 = b12 := bI_SG b8 [b9, b10, b11, b12, b13, b14, b15, false] 4 (by simp)
  have g9 : bI (SG [b8, b9, b10, b11, b12, b13, b14, b15, false]) 3 = b13 := bI_SG b8 [b9, b10, b11, b12, b13, b14, b15, false] 3 (by simp)
  have g10 : bI (SG [b8, b9, b10, b11, b12, b13, b14, b15, false]) 2 = b14 := bI_SG b8 [b9, b10, b11, b12, b13, b14, b15, false] 2 (by simp)
  have g11 : bI (SG [b8, b9, b10, b11, b12, b13, b14, b15, false]) 1 = b15 := bI_SG b8 [b9, b10, b11, b12, b13, b14, b15, false] 1 (by simp)
  refine ⟨by
      simp [okB]
      try omega
    , by kernel_rfl, by
      have e : ∀ rd rn rm ra imm cond : Int, hl (ltr rd rn rm ra imm cond) (V_hauberkref02_Bits (25, false)) = [true, true, false, true, bI cond 3, bI cond 2, bI cond 1, bI cond 0, bI imm 8, bI imm 7, bI imm 6, bI imm 5, bI imm 4, bI imm 3, bI imm 2, bI imm 1] := by intro rd rn rm ra imm cond; kernel_rfl
      rw [e]
      simp only [g0, g1, g2, g3, g4, g5, g6, g7, g8, g9, g10, g11]
    ⟩
theorem fw_25w (b5 b6 b7 b8 b9 b10 b11 b12 b13 b14 b15 b18 b20 b21 b22 b23 b24 b25 b26 b27 b28 b29 b30 b31 : Bool) (h0 : H [b6, b7, b8, b9] ≤ 13) : okB 25 (0) (0) (0) (0) (SG [b5, b20, b18, b10, b11, b12, b13, b14, b15, b21, b22, b23, b24, b25, b26, b27, b28, b29, b30, b31, false]) (H [b6, b7, b8, b9]) true = true ∧ (V_hauberkref02_Bits (25, true)).length = 32 ∧ hl (ltr (0) (0) (0) (0) (SG [b5, b20, b18, b10, b11, b12, b13, b14, b15, b21, b22, b23, b24, b25, b26, b27, b28, b29, b30, b31, false]) (H [b6, b7, b8, b9])) ((V_hauberkref02_Bits (25, true)).take 16) = [true, true, true, true, false, b5, b6, b7, b8, b9, b10, b11, b12, b13, b14, b15] ∧ hl (ltr (0) (0) (0) (0) (SG [b5, b20, b18, b10, b11, b12, b13, b14, b15, b21, b22, b23, b24, b25, b26, b27, b28, b29, b30, b31, false]) (H [b6, b7, b8, b9])) ((V_hauberkref02_Bits (25, true)).drop 16) = [true, false, b18, false, b20, b21, b22, b23, b24, b25, b26, b27, b28, b29, b30, b31] := by
  have := H_nonneg [b6, b7, b8, b9]
  have : H [b6, b7, b8, b9] < 16 := H_lt (l := [b6, b7, b8, b9]) (k := 4) (by simp)
  have := SG_even b5 [b20, b18, b10, b11, b12, b13, b14, b15, b21, b22, b23, b24, b25, b26, b27, b28, b29, b30, b31]
  have hev : SG [b5, b20, b18, b10, b11, b12, b13, b14, b15, b21, b22, b23, b24, b25, b26, b27, b28, b29, b30, b31, false] % 2 = 0 := this
  have hlt : -1048576 ≤ SG [b5, b20, b18, b10, b11, b12, b13, b14, b15, b21, b22, b23, b24, b25, b26, b27, b28, b29, b30, b31, false] ∧ SG [b5, b20, b18, b10, b11, b12, b13, b14, b15, b21, b22, b23, b24, b25, b26, b27, b28, b29, b30, b31, false] < 1048576 := SG_in b5 [b20, b18, b10, b11, b12, b13, b14, b15, b21, b22, b23, b24, b25, b26, b27, b28, b29, b30, b31, false] 20 (by simp)
  have g0 : bI (H [b6, b7, b8, b9]) 3 = b6 := bI_H [b6, b7, b8, b9] 3 (by simp)
  have g1 : bI (H [b6, b7, b8, b9]) 2 = b7 := bI_H [b6, b7, b8, b9] 2 (by simp)
  have g2 : bI (H [b6, b7, b8, b9]) 1 = b8 := bI_H [b6, b7, b8, b9] 1 (by simp)
  have g3 : bI (H [b6, b7, b8, b9]) 0 = b9 := bI_H [b6, b7, b8, b9] 0 (by simp)
  have g4 : bI (SG [b5, b20, b18, b10, b11, b12, b13, b14, b15, b21, b22, b23, b24, b25, b26, b27, b28, b29, b30, b31, false]) 20 = b5 := bI_SG b5 [b20, b18, b10, b11, b12, b13, b14, b15, b21, b22, b23, b24, b25, b26, b27, b28, b29, b30, b31, false] 20 (by simp)
  have g5 : bI (SG [b5, b20, b18, b10, b11, b12, b13, b14, b15, b21, b22, b23, b24, b25, b26, b27, b28, b29, b30, b31, false]) 19 = b20 := bI_SG b5 [b20, b18, b10, b11, b12, b13, b14, b15, b21, b22, b23, b24, b25, b26, b27, b28, b29, b30, b31, false] 19 (by simp)
  have g6 : bI (SG [b5, b20, b18, b10, b11, b12, b13, b14, b15, b21, b22, b23, b24, b25, b26, b27, b28, b29, b30, b31, false]) 18 = b18 := bI_SG b5 [b20, b18, b10, b11, b12, b13, b14, b15, b21, b22, b23, b24, b25, b26, b27, b28, b29, b30, b31, false] 18 (by simp)
  have g7 : bI (SG [b5, b20, b18, b10, b11, b12, b13, b14, b15, b21, b22, b23, b24, b25, b26, b27, b28, b29, b30, b31, false]) 17 = b10 := bI_SG b5 [b20, b18, b10, b11, b12, b13, b14, b15, b21, b22, b23, b24, b25, b26, b27, b28, b29, b30, b31, false] 17 (by simp)
  have g8 : bI (SG [b5, b20, b18, b10, b11, b12, b13, b14, b15, b21, b22, b23, b24, b25, b26, b27, b28, b29, b30, b31, false]) 16 = b11 := bI_SG b5 [b20, b18, b10, b11, b12, b13, b14, b15, b21, b22, b23, b24, b25, b26, b27, b28, b29, b30, b31, false] 16 (by simp)
  have g9 : bI (SG [b5, b20, b18, b10, b11, b12, b13, b14, b15, b21, b22, b23, b24, b25, b26, b27, b28, b29, b30, b31, false]) 15 = b12 := bI_SG b5 [b20, b18, b10, b11, b12, b13, b14, b15, b21, b22, b23, b24, b25, b26, b27, b28, b29, b30, b31, false] 15 (by simp)
  have g10 : bI (SG [b5, b20, b18, b10, b11, b12, b13, b14, b15, b21, b22, b23, b24, b25, b26, b27, b28, b29, b30, b31, false]) 14 = b13 := bI_SG b5 [b20, b18, b10, b11, b12, b13, b14, b15, b21, b22, b23, b24, b25, b26, b27, b28, b29, b30, b31, false] 14 (by simp)
  have g11 : bI (SG [b5, b20, b18, b10, b11, b12, b13, b14, b15, b21, b22, b23, b24, b25, b26, b27, b28, b29, b30, b31, false]) 13 = b14 := bI_SG b5 [b20, b18, b10, b11, b12, b13, b14, b15, b21, b22, b23, b24, b25, b26, b27, b28, b29, b30, b31, false] 13 (by simp)
  have g12 : bI (SG [b5, b20, b18, b10, b11, b12, b13, b14, b15, b21, b22, b23, b24, b25, b26, b27, b28, b29, b30, b31, false]) 12 = b15 := bI_SG b5 [b20, b18, b10, b11, b12, b13, b14, b15, b21, b22, b23, b24, b25, b26, b27, b28, b29, b30, b31, false] 12 (by simp)
  have g13 : bI (SG [b5, b20, b18, b10, b11, b12, b13, b14, b15, b21, b22, b23, b24, b25, b26, b27, b28, b29, b30, b31, false]) 11 = b21 := bI_SG b5 [b20, b18, b10, b11, b12, b13, b14, b15, b21, b22, b23, b24, b25, b26, b27, b28, b29, b30, b31, false] 11 (by simp)
  have g14 : bI (SG [b5, b20, b18, b10, b11, b12, b13, b14, b15, b21, b22, b23, b24, b25, b26, b27, b28, b29, b30, b31, false]) 10 = b22 := bI_SG b5 [b20, b18, b10, b11, b12, b13, b14, b15, b21, b22, b23, b24, b25, b26, b27, b28, b29, b30, b31, false] 10 (by simp)
  have g15 : bI (SG [b5, b20, b18, b10, b11, b12, b13, b14, b15, b21, b22, b23, b24, b25, b26, b27, b28, b29, b30, b31, false]) 9 = b23 := bI_SG b5 [b20, b18, b10, b11, b12, b13, b14, b15, b21, b22, b23, b24, b25, b26, b27, b28, b29, b30, b31, false] 9 (by simp)
  have g16 : bI (SG [b5, b20, b18, b10, b11, b12, b13, b14, b15, b21, b22, b23, b24, b25, b26, b27, b28, b29, b30, b31, false]) 8 = b24 := bI_SG b5 [b20, b18, b10, b11, b12, b13, b14, b15, b21, b22, b23, b24, b25, b26, b27, b28, b29, b30, b31, false] 8 (by simp)
  have g17 : bI (SG [b5, b20, b18, b10, b11, b12, b13, b14, b15, b21, b22, b23, b24, b25, b26, b27, b28, b29, b30, b31, false]) 7 = b25 := bI_SG b5 [b20, b18, b10, b11, b12, b13, b14, b15, b21, b22, b23, b24, b25, b26, b27, b28, b29, b30, b31, false] 7 (by simp)
  have g18 : bI (SG [b5, b20, b18, b10, b11, b12, b13, b14, b15, b21, b22, b23, b24, b25, b26, b27, b28, b29, b30, b31, false]) 6 = b26 := bI_SG b5 [b20, b18, b10, b11, b12, b13, b14, b15, b21, b22, b23, b24, b25, b26, b27, b28, b29, b30, b31, false] 6 (by simp)
  have g19 : bI (SG [b5, b20, b18, b10, b11, b12, b13, b14, b15, b21, b22, b23, b24, b25, b26, b27, b28, b29, b30, b31, false]) 5 = b27 := bI_SG b5 [b20, b18, b10, b11, b12, b13, b14, b15, b21, b22, b23, b24, b25, b26, b27, b28, b29, b30, b31, false] 5 (by simp)
  have g20 : bI (SG [b5, b20, b18, b10, b11, b12, b13, b14, b15, b21, b22, b23, b24, b25, b26, b27, b28, b29, b30, b31, false]) 4 = b28 := bI_SG b5 [b20, b18, b10, b11, b12, b13, b14, b15, b21, b22, b23, b24, b25, b26, b27, b28, b29, b30, b31, false] 4 (by simp)
  have g21 : bI (SG [b5, b20, b18, b10, b11, b12, b13, b14, b15, b21, b22, b23, b24, b25, b26, b27, b28, b29, b30, b31, false]) 3 = b29 := bI_SG b5 [b20, b18, b10, b11, b12, b13, b14, b15, b21, b22, b23, b24, b25, b26, b27, b28, b29, b30, b31, false] 3 (by simp)
  have g22 : bI (SG [b5, b20, b18, b10, b11, b12, b13, b14, b15, b21, b22, b23, b24, b25, b26, b27, b28, b29, b30, b31, false]) 2 = b30 := bI_SG b5 [b20, b18, b10, b11, b12, b13, b14, b15, b21, b22, b23, b24, b25, b26, b27, b28, b29, b30, b31, false] 2 (by simp)
  have g23 : bI (SG [b5, b20, b18, b10, b11, b12, b13, b14, b15, b21, b22, b23, b24, b25, b26, b27, b28, b29, b30, b31, false]) 1 = b31 := bI_SG b5 [b20, b18, b10, b11, b12, b13, b14, b15, b21, b22, b23, b24, b25, b26, b27, b28, b29, b30, b31, false] 1 (by simp)
  refine ⟨by
      simp [okB]
      try omega
    , by kernel_rfl, by
      have e : ∀ rd rn rm ra imm cond : Int, hl (ltr rd rn rm ra imm cond) ((V_hauberkref02_Bits (25, true)).take 16) = [true, true, true, true, false, bI imm 20, bI cond 3, bI cond 2, bI cond 1, bI cond 0, bI imm 17, bI imm 16, bI imm 15, bI imm 14, bI imm 13, bI imm 12] := by intro rd rn rm ra imm cond; kernel_rfl
      rw [e]
      simp only [g4, g0, g1, g2, g3, g7, g8, g9, g10, g11, g12]
    , by
      have e : ∀ rd rn rm ra imm cond : Int, hl (ltr rd rn rm ra imm cond) ((V_hauberkref02_Bits (25, true)).drop 16) = [true, false, bI imm 18, false, bI imm 19, bI imm 11, bI imm 10, bI imm 9, bI imm 8, bI imm 7, bI imm 6, bI imm 5, bI imm 4, bI imm 3, bI imm 2, bI imm 1] := by intro rd rn rm ra imm cond; kernel_rfl
      rw [e]
      simp only [g6, g5, g13, g14, g15, g16, g17, g18, g19, g20, g21, g22, g23]
    ⟩
end Go.Av
