/- Texts of the proof, one behind the other. -/
import Derived.Test.YtamnhodjidmlcaaMachineSkipsK3
import Derived.Test.YtamnhodjidmlcaaMachineSkipsK2
/-! Layer 3: of bits of each row's form there is an instruction, and these are its bits. Written by wip/tools/decfw.py. -/
section
namespace Go.Av
open Go
theorem le12_iff {x : Int} (h : le12 x = true) : x ≤ 12 := of_decide_eq_true h
theorem SG_even (b : Bool) (r : List Bool) : SG (b :: (r ++ [false])) % 2 = 0 := by
  have h : H (r ++ [false]) = 2 * H r := by
    unfold H
    rw [hb_append]
    show ((hb r 0 * 2 + 0 : Nat) : Int) = _
    omega
  show (H (r ++ [false]) - b.toNat * (2 ^ (r ++ [false]).length : Nat)) % 2 = 0
  rw [h, List.length_append, Nat.pow_add]
  generalize 2 ^ r.length = p
  cases b <;> simp
theorem rr_1 : iRow 1 false [true, false, true, true, true, true, true, true, false, false, false, false, false, false, false, false] = (1, 0, 0, 0, 0, 0, 0, false, ()) := by
  kernel_rfl
theorem SG_in (b : Bool) (r : List Bool) (m : Nat) (h : r.length = m) : -((2 ^ m : Nat) : Int) ≤ SG (b :: r) ∧ SG (b :: r) < (2 ^ m : Nat) := by
  subst h
  have h1 := H_nonneg r
  have h2 := H_lt (l := r) (Nat.le_refl _)
  unfold SG
  cases b
  · simp only [Bool.toNat_false]; constructor <;> omega
  · simp only [Bool.toNat_true]; constructor <;> omega
theorem okB_24w (imm : Int) (h : imm % 2 = 0) (h1 : -16777216 ≤ imm) (h2 : imm ≤ 16777214) : okB 24 0 0 0 0 imm 0 true = true := by
  simp [okB]
  omega
theorem nx_nx (a b : Bool) : (!(nx a b ^^ b)) = a := by cases a <;> cases b <;> rfl
theorem fw_1  : okB 1 (0) (0) (0) (0) (0) (0) false = true ∧ (V_hauberkref02_Bits (1, false)).length = 16 ∧ hl (ltr (0) (0) (0) (0) (0) (0)) (V_hauberkref02_Bits (1, false)) = [true, false, true, true, true, true, true, true, false, false, false, false, false, false, false, false] := by
  refine ⟨by kernel_rfl
    , by kernel_rfl, by
      have e : ∀ rd rn rm ra imm cond : Int, hl (ltr rd rn rm ra imm cond) (V_hauberkref02_Bits (1, false)) = [true, false, true, true, true, true, true, true, false, false, false, false, false, false, false, false] := by intro rd rn rm ra imm cond; kernel_rfl
      rw [e]
    ⟩
theorem rr_2 (b8 b9 b10 b11 b12 b13 b14 b15 : Bool) : iRow 2 false [true, false, true, true, true, true, true, false, b8, b9, b10, b11, b12, b13, b14, b15] = (2, 0, 0, 0, 0, H [b8, b9, b10, b11, b12, b13, b14, b15], 0, false, ()) := by
  have e : iRow 2 false [true, false, true, true, true, true, true, false, b8, b9, b10, b11, b12, b13, b14, b15] = (2, 0, 0, 0, 0, ((immN [(7, b8), (6, b9), (5, b10), (4, b11), (3, b12), (2, b13), (1, b14), (0, b15)] : Nat) : Int), 0, false, ()) := by kernel_rfl
  have e2 : immN [(7, b8), (6, b9), (5, b10), (4, b11), (3, b12), (2, b13), (1, b14), (0, b15)] = hb [b8, b9, b10, b11, b12, b13, b14, b15] 0 := by simp only [immN, hb]; omega
  rw [e, e2]
  rfl
theorem fw_2 (b8 b9 b10 b11 b12 b13 b14 b15 : Bool)  : okB 2 (0) (0) (0) (0) (H [b8, b9, b10, b11, b12, b13, b14, b15]) (0) false = true ∧ (V_hauberkref02_Bits (2, false)).length = 16 ∧ hl (ltr (0) (0) (0) (0) (H [b8, b9, b10, b11, b12, b13, b14, b15]) (0)) (V_hauberkref02_Bits (2, false)) = [true, false, true, true, true, true, true, false, b8, b9, b10, b11, b12, b13, b14, b15] := by
  have := H_nonneg [b8, b9, b10, b11, b12, b13, b14, b15]
  have : H [b8, b9, b10, b11, b12, b13, b14, b15] < 256 := H_lt (l := [b8, b9, b10, b11, b12, b13, b14, b15]) (k := 8) (by simp)
  have g0 : bI (H [b8, b9, b10, b11, b12, b13, b14, b15]) 7 = b8 := bI_H [b8, b9, b10, b11, b12, b13, b14, b15] 7 (by simp)
  have g1 : bI (H [b8, b9, b10, b11, b12, b13, b14, b15]) 6 = b9 := bI_H [b8, b9, b10, b11, b12, b13, b14, b15] 6 (by simp)
  have g2 : bI (H [b8, b9, b10, b11, b12, b13, b14, b15]) 5 = b10 := bI_H [b8, b9, b10, b11, b12, b13, b14, b15] 5 (by simp)
  have g3 : bI (H [b8, b9, b10, b11, b12, b13, b14, b15]) 4 = b11 := bI_H [b8, b9, b10, b11, b12, b13, b14, b15] 4 (by simp)
  have g4 : bI (H [b8, b9, b10, b11, b12, b13, b14, b15]) 3 = b12 := bI_H [b8, b9, b10, b11, b12, b13, b14, b15] 3 (by simp)
  have g5 : bI (H [b8, b9, b10, b11, b12, b13, b14, b15]) 2 = b13 := bI_H [b8, b9, b10, b11, b12, b13, b14, b15] 2 (by simp)
  have g6 : bI (H [b8, b9, b10, b11, b12, b13, b14, b15]) 1 = b14 := bI_H [b8, b9, b10, b11, b12, b13, b14, b15] 1 (by simp)
  have g7 : bI (H [b8, b9, b10, b11, b12, b13, b14, b15]) 0 = b15 := bI_H [b8, b9, b10, b11, b12, b13, b14, b15] 0 (by simp)
  refine ⟨by
      simp [okB]
      try omega
    , by kernel_rfl, by
      have e : ∀ rd rn rm ra imm cond : Int, hl (ltr rd rn rm ra imm cond) (V_hauberkref02_Bits (2, false)) = [true, false, true, true, true, true, true, false, bI imm 7, bI imm 6, bI imm 5, bI imm 4, bI imm 3, bI imm 2, bI imm 1, bI imm 0] := by intro rd rn rm ra imm cond; kernel_rfl
      rw [e]
      simp only [g0, g1, g2, g3, g4, g5, g6, g7]
    ⟩
theorem rr_3 (b5 b12 b13 b14 b15 b17 b18 b19 b20 b21 b22 b23 b24 b25 b26 b27 b28 b29 b30 b31 : Bool) : iRow 3 false [true, true, true, true, false, b5, true, false, false, true, false, false, b12, b13, b14, b15, false, b17, b18, b19, b20, b21, b22, b23, b24, b25, b26, b27, b28, b29, b30, b31] = (3, H [b20, b21, b22, b23], 0, 0, 0, H [b12, b13, b14, b15, b5, b17, b18, b19, b24, b25, b26, b27, b28, b29, b30, b31], 0, false, ()) := by
  have e : iRow 3 false [true, true, true, true, false, b5, true, false, false, true, false, false, b12, b13, b14, b15, false, b17, b18, b19, b20, b21, b22, b23, b24, b25, b26, b27, b28, b29, b30, b31] = (3, H [b20, b21, b22, b23], 0, 0, 0, ((immN [(11, b5), (15, b12), (14, b13), (13, b14), (12, b15), (10, b17), (9, b18), (8, b19), (7, b24), (6, b25), (5, b26), (4, b27), (3, b28), (2, b29), (1, b30), (0, b31)] : Nat) : Int), 0, false, ()) := by kernel_rfl
  have e2 : immN [(11, b5), (15, b12), (14, b13), (13, b14), (12, b15), (10, b17), (9, b18), (8, b19), (7, b24), (6, b25), (5, b26), (4, b27), (3, b28), (2, b29), (1, b30), (0, b31)] = hb [b12, b13, b14, b15, b5, b17, b18, b19, b24, b25, b26, b27, b28, b29, b30, b31] 0 := by simp only [immN, hb]; omega
  rw [e, e2]
  rfl
theorem fw_3 (b5 b12 b13 b14 b15 b17 b18 b19 b20 b21 b22 b23 b24 b25 b26 b27 b28 b29 b30 b31 : Bool) (h0 : le12 (H [b20, b21, b22, b23]) = true) : okB 3 (H [b20, b21, b22, b23]) (0) (0) (0) (H [b12, b13, b14, b15, b5, b17, b18, b19, b24, b25, b26, b27, b28, b29, b30, b31]) (0) false = true ∧ (V_hauberkref02_Bits (3, false)).length = 32 ∧ hl (ltr (H [b20, b21, b22, b23]) (0) (0) (0) (H [b12, b13, b14, b15, b5, b17, b18, b19, b24, b25, b26, b27, b28, b29, b30, b31]) (0)) ((V_hauberkref02_Bits (3, false)).take 16) = [true, true, true, true, false, b5, true, false, false, true, false, false, b12, b13, b14, b15] ∧ hl (ltr (H [b20, b21, b22, b23]) (0) (0) (0) (H [b12, b13, b14, b15, b5, b17, b18, b19, b24, b25, b26, b27, b28, b29, b30, b31]) (0)) ((V_hauberkref02_Bits (3, false)).drop 16) = [false, b17, b18, b19, b20, b21, b22, b23, b24, b25, b26, b27, b28, b29, b30, b31] := by
  have h0 := le12_iff h0
  have := H_nonneg [b20, b21, b22, b23]
  have : H [b20, b21, b22, b23] < 16 := H_lt (l := [b20, b21, b22, b23]) (k := 4) (by simp)
  have := H_nonneg [b12, b13, b14, b15, b5, b17, b18, b19, b24, b25, b26, b27, b28, b29, b30, b31]
  have : H [b12, b13, b14, b15, b5, b17, b18, b19, b24, b25, b26, b27, b28, b29, b30, b31] < 65536 := H_lt (l := [b12, b13, b14, b15, b5, b17, b18, b19, b24, b25, b26, b27, b28, b29, b30, b31]) (k := 16) (by simp)
  have g0 : bI (H [b20, b21, b22, b23]) 3 = b20 := bI_H [b20, b21, b22, b23] 3 (by simp)
  have g1 : bI (H [b20, b21, b22, b23]) 2 = b21 := bI_H [b20, b21, b22, b23] 2 (by simp)
  have g2 : bI (H [b20, b21, b22, b23]) 1 = b22 := bI_H [b20, b21, b22, b23] 1 (by simp)
  have g3 : bI (H [b20, b21, b22, b23]) 0 = b23 := bI_H [b20, b21, b22, b23] 0 (by simp)
  have g4 : bI (H [b12, b13, b14, b15, b5, b17, b18, b19, b24, b25, b26, b27, b28, b29, b30, b31]) 15 = b12 := bI_H [b12, b13, b14, b15, b5, b17, b18, b19, b24, b25, b26, b27, b28, b29, b30, b31] 15 (by simp)
  have g5 : bI (H [b12, b13, b14, b15, b5, b17, b18, b19, b24, b25, b26, b27, b28, b29, b30, b31]) 14 = b13 := bI_H [b12, b13, b14, b15, b5, b17, b18, b19, b24, b25, b26, b27, b28, b29, b30, b31] 14 (by simp)
  have g6 : bI (H [b12, b13, b14, b15, b5, b17, b18, b19, b24, b25, b26, b27, b28, b29, b30, b31]) 13 = b14 := bI_H [b12, b13, b14, b15, b5, b17, b18, b19, b24, b25, b26, b27, b28, b29, b30, b31] 13 (by simp)
  have g7 : bI (H [b12, b13, b14, b15, b5, b17, b18, b19, b24, b25, b26, b27, b28, b29, b30, b31]) 12 = b15 := bI_H [b12, b13, b14, b15, b5, b17, b18, b19, b24, b25, b26, b27, b28, b29, b30, b31] 12 (by simp)
  have g8 : bI (H [b12, b13, b14, b15, b5, b17, b18, b19, b24, b25, b26, b27, b28, b29, b30, b31]) 11 = b5 := bI_H [b12, b13, b14, b15, b5, b17, b18, b19, b24, b25, b26, b27, b28, b29, b30, b31] 11 (by simp)
  have g9 : bI (H [b12, b13, b14, b15, b5, b17, b18, b19, b24, b25, b26, b27, b28, b29, b30, b31]) 10 = b17 := bI_H [b12, b13, b14, b15, b5, b17, b18, b19, b24, b25, b26, b27, b28, b29, b30, b31] 10 (by simp)
  have g10 : bI (H [b12, b13, b14, b15, b5, b17, b18, b19, b24, b25, b26, b27, b28, b29, b30, b31]) 9 = b18 := bI_H [b12, b13, b14, b15, b5, b17, b18, b19, b24, b25, b26, b27, b28, b29, b30, b31] 9 (by simp)
  have g11 : bI (H [b12, b13, b14, b15, b5, b17, b18, b19, b24, b25, b26, b27, b28, b29, b30, b31]) 8 = b19 := bI_H [b12, b13, b14, b15, b5, b17, b18, b19, b24, b25, b26, b27, b28, b29, b30, b31] 8 (by simp)
  have g12 : bI (H [b12, b13, b14, b15, b5, b17, b18, b19, b24, b25, b26, b27, b28, b29, b30, b31]) 7 = b24 := bI_H [b12, b13, b14, b15, b5, b17, b18, b19, b24, b25, b26, b27, b28, b29, b30, b31] 7 (by simp)
  have g13 : bI (H [b12, b13, b14, b15, b5, b17, b18, b19, b24, b25, b26, b27, b28, b29, b30, b31]) 6 = b25 := bI_H [b12, b13, b14, b15, b5, b17, b18, b19, b24, b25, b26, b27, b28, b29, b30, b31] 6 (by simp)
  have g14 : bI (H [b12, b13, b14, b15, b5, b17, b18, b19, b24, b25, b26, b27, b28, b29, b30, b31]) 5 = b26 := bI_H [b12, b13, b14, b15, b5, b17, b18, b19, b24, b25, b26, b27, b28, b29, b30, b31] 5 (by simp)
  have g15 : bI (H [b12, b13, b14, b15, b5, b17, b18, b19, b24, b25, b26, b27, b28, b29, b30, b31]) 4 = b27 := bI_H [b12, b13, b14, b15, b5, b17, b18, b19, b24, b25, b26, b27, b28, b29, b30, b31] 4 (by simp)
  have g16 : bI (H [b12, b13, b14, b15, b5, b17, b18, b19, b24, b25, b26, b27, b28, b29, b30, b31]) 3 = b28 := bI_H [b12, b13, b14, b15, b5, b17, b18, b19, b24, b25, b26, b27, b28, b29, b30, b31] 3 (by simp)
  have g17 : bI (H [b12, b13, b14, b15, b5, b17, b18, b19, b24, b25, b26, b27, b28, b29, b30, b31]) 2 = b29 := bI_H [b12, b13, b14, b15, b5, b17, b18, b19, b24, b25, b26, b27, b28, b29, b30, b31] 2 (by simp)
  have g18 : bI (H [b12, b13, b14, b15, b5, b17, b18, b19, b24, b25, b26, b27, b28, b29, b30, b31]) 1 = b30 := bI_H [b12, b13, b14, b15, b5, b17, b18, b19, b24, b25, b26, b27, b28, b29, b30, b31] 1 (by simp)
  have g19 : bI (H [b12, b13, b14, b15, b5, b17, b18, b19, b24, b25, b26, b27, b28, b29, b30, b31]) 0 = b31 := bI_H [b12, b13, b14, b15, b5, b17, b18, b19, b24, b25, b26, b27, b28, b29, b30, b31] 0 (by simp)
  refine ⟨by
      simp [okB]
      try omega
    , by kernel_rfl, by
      have e : ∀ rd rn rm ra imm cond : Int, hl (ltr rd rn rm ra imm cond) ((V_hauberkref02_Bits (3, false)).take 16) = [true, true, true, true, false, bI imm 11, true, false, false, true, false, false, bI imm 15, bI imm 14, bI imm 13, bI imm 12] := by intro rd rn rm ra imm cond; kernel_rfl
      rw [e]
      simp only [g8, g4, g5, g6, g7]
    , by
      have e : ∀ rd rn rm ra imm cond : Int, hl (ltr rd rn rm ra imm cond) ((V_hauberkref02_Bits (3, false)).drop 16) = [false, bI imm 10, bI imm 9, bI imm 8, bI rd 3, bI rd 2, bI rd 1, bI rd 0, bI imm 7, bI imm 6, bI imm 5, bI imm 4, bI imm 3, bI imm 2, bI imm 1, bI imm 0] := by intro rd rn rm ra imm cond; kernel_rfl
      rw [e]
      simp only [g9, g10, g11, g0, g1, g2, g3, g12, g13, g14, g15, g16, g17, g18, g19]
    ⟩
theorem rr_4 (b5 b12 b13 b14 b15 b17 b18 b19 b20 b21 b22 b23 b24 b25 b26 b27 b28 b29 b30 b31 : Bool) : iRow 4 false [true, true, true, true, false, b5, true, false, true, true, false, false, b12, b13, b14, b15, false, b17, b18, b19, b20, b21, b22, b23, b24, b25, b26, b27, b28, b29, b30, b31] = (4, H [b20, b21, b22, b23], 0, 0, 0, H [b12, b13, b14, b15, b5, b17, b18, b19, b24, b25, b26, b27, b28, b29, b30, b31], 0, false, ()) := by
  have e : iRow 4 false [true, true, true, true, false, b5, true, false, true, true, false, false, b12, b13, b14, b15, false, b17, b18, b19, b20, b21, b22, b23, b24, b25, b26, b27, b28, b29, b30, b31] = (4, H [b20, b21, b22, b23], 0, 0, 0, ((immN [(11, b5), (15, b12), (14, b13), (13, b14), (12, b15), (10, b17), (9, b18), (8, b19), (7, b24), (6, b25), (5, b26), (4, b27), (3, b28), (2, b29), (1, b30), (0, b31)] : Nat) : Int), 0, false, ()) := by kernel_rfl
  have e2 : immN [(11, b5), (15, b12), (14, b13), (13, b14), (12, b15), (10, b17), (9, b18), (8, b19), (7, b24), (6, b25), (5, b26), (4, b27), (3, b28), (2, b29), (1, b30), (0, b31)] = hb [b12, b13, b14, b15, b5, b17, b18, b19, b24, b25, b26, b27, b28, b29, b30, b31] 0 := by simp only [immN, hb]; omega
  rw [e, e2]
  rfl
theorem fw_4 (b5 b12 b13 b14 b15 b17 b18 b19 b20 b21 b22 b23 b24 b25 b26 b27 b28 b29 b30 b31 : Bool) (h0 : le12 (H [b20, b21, b22, b23]) = true) : okB 4 (H [b20, b21, b22, b23]) (0) (0) (0) (H [b12, b13, b14, b15, b5, b17, b18, b19, b24, b25, b26, b27, b28, b29, b30, b31]) (0) false = true ∧ (V_hauberkref02_Bits (4, false)).length = 32 ∧ hl (ltr (H [b20, b21, b22, b23]) (0) (0) (0) (H [b12, b13, b14, b15, b5, b17, b18, b19, b24, b25, b26, b27, b28, b29, b30, b31]) (0)) ((V_hauberkref02_Bits (4, false)).take 16) = [true, true, true, true, false, b5, true, false, true, true, false, false, b12, b13, b14, b15] ∧ hl (ltr (H [b20, b21, b22, b23]) (0) (0) (0) (H [b12, b13, b14, b15, b5, b17, b18, b19, b24, b25, b26, b27, b28, b29, b30, b31]) (0)) ((V_hauberkref02_Bits (4, false)).drop 16) = [false, b17, b18, b19, b20, b21, b22, b23, b24, b25, b26, b27, b28, b29, b30, b31] := by
  have h0 := le12_iff h0
  have := H_nonneg [b20, b21, b22, b23]
  have : H [b20, b21, b22, b23] < 16 := H_lt (l := [b20, b21, b22, b23]) (k := 4) (by simp)
  have := H_nonneg [b12, b13, b14, b15, b5, b17, b18, b19, b24, b25, b26, b27, b28, b29, b30, b31]
  have : H [b12, b13, b14, b15, b5, b17, b18, b19, b24, b25, b26, b27, b28, b29, b30, b31] < 65536 := H_lt (l := [b12, b13, b14, b15, b5, b17, b18, b19, b24, b25, b26, b27, b28, b29, b30, b31]) (k := 16) (by simp)
  have g0 : bI (H [b20, b21, b22, b23]) 3 = b20 := bI_H [b20, b21, b22, b23] 3 (by simp)
  have g1 : bI (H [b20, b21, b22, b23]) 2 = b21 := bI_H [b20, b21, b22, b23] 2 (by simp)
  have g2 : bI (H [b20, b21, b22, b23]) 1 = b22 := bI_H [b20, b21, b22, b23] 1 (by simp)
  have g3 : bI (H [b20, b21, b22, b23]) 0 = b23 := bI_H [b20, b21, b22, b23] 0 (by simp)
  have g4 : bI (H [b12, b13, b14, b15, b5, b17, b18, b19, b24, b25, b26, b27, b28, b29, b30, b31]) 15 = b12 := bI_H [b12, b13, b14, b15, b5, b17, b18, b19, b24, b25, b26, b27, b28, b29, b30, b31] 15 (by simp)
  have g5 : bI (H [b12, b13, b14, b15, b5, b17, b18, b19, b24, b25, b26, b27, b28, b29, b30, b31]) 14 = b13 := bI_H [b12, b13, b14, b15, b5, b17, b18, b19, b24, b25, b26, b27, b28, b29, b30, b31] 14 (by simp)
  have g6 : bI (H [b12, b13, b14, b15, b5, b17, b18, b19, b24, b25, b26, b27, b28, b29, b30, b31]) 13 = b14 := bI_H [b12, b13, b14, b15, b5, b17, b18, b19, b24, b25, b26, b27, b28, b29, b30, b31] 13 (by simp)
  have g7 : bI (H [b12, b13, b14, b15, b5, b17, b18, b19, b24, b25, b26, b27, b28, b29, b30, b31]) 12 = b15 := bI_H [b12, b13, b14, b15, b5, b17, b18, b19, b24, b25, b26, b27, b28, b29, b30, b31] 12 (by simp)
  have g8 : bI (H [b12, b13, b14, b15, b5, b17, b18, b19, b24, b25, b26, b27, b28, b29, b30, b31]) 11 = b5 := bI_H [b12, b13, b14, b15, b5, b17, b18, b19, b24, b25, b26, b27, b28, b29, b30, b31] 11 (by simp)
  have g9 : bI (H [b12, b13, b14, b15, b5, b17, b18, b19, b24, b25, b26, b27, b28, b29, b30, b31]) 10 = b17 := bI_H [b12, b13, b14, b15, b5, b17, b18, b19, b24, b25, b26, b27, b28, b29, b30, b31] 10 (by simp)
  have g10 : bI (H [b12, b13, b14, b15, b5, b17, b18, b19, b24, b25, b26, b27, b28, b29, b30, b31]) 9 = b18 := bI_H [b12, b13, b14, b15, b5, b17, b18, b19, b24, b25, b26, b27, b28, b29, b30, b31] 9 (by simp)
  have g11 : bI (H [b12, b13, b14, b15, b5, b17, b18, b19, b24, b25, b26, b27, b28, b29, b30, b31]) 8 = b19 := bI_H [b12, b13, b14, b15, b5, b17, b18, b19, b24, b25, b26, b27, b28, b29, b30, b31] 8 (by simp)
  have g12 : bI (H [b12, b13, b14, b15, b5, b17, b18, b19, b24, b25, b26, b27, b28, b29, b30, b31]) 7 = b24 := bI_H [b12, b13, b14, b15, b5, b17, b18, b19, b24, b25, b26, b27, b28, b29, b30, b31] 7 (by simp)
  have g13 : bI (H [b12, b13, b14, b15, b5, b17, b18, b19, b24, b25, b26, b27, b28, b29, b30, b31]) 6 = b25 := bI_H [b12, b13, b14, b15, b5, b17, b18, b19, b24, b25, b26, b27, b28, b29, b30, b31] 6 (by simp)
  have g14 : bI (H [b12, b13, b14, b15, b5, b17, b18, b19, b24, b25, b26, b27, b28, b29, b30, b31]) 5 = b26 := bI_H [b12, b13, b14, b15, b5, b17, b18, b19, b24, b25, b26, b27, b28, b29, b30, b31] 5 (by simp)
  have g15 : bI (H [b12, b13, b14, b15, b5, b17, b18, b19, b24, b25, b26, b27, b28, b29, b30, b31]) 4 = b27 := bI_H [b12, b13, b14, b15, b5, b17, b18, b19, b24, b25, b26, b27, b28, b29, b30, b31] 4 (by simp)
  have g16 : bI (H [b12, b13, b14, b15, b5, b17, b18, b19, b24, b25, b26, b27, b28, b29, b30, b31]) 3 = b28 := bI_H [b12, b13, b14, b15, b5, b17, b18, b19, b24, b25, b26, b27, b28, b29, b30, b31] 3 (by simp)
  have g17 : bI (H [b12, b13, b14, b15, b5, b17, b18, b19, b24, b25, b26, b27, b28, b29, b30, b31]) 2 = b29 := bI_H [b12, b13, b14, b15, b5, b17, b18, b19, b24, b25, b26, b27, b28, b29, b30, b31] 2 (by simp)
  have g18 : bI (H [b12, b13, b14, b15, b5, b17, b18, b19, b24, b25, b26, b27, b28, b29, b30, b31]) 1 = b30 := bI_H [b12, b13, b14, b15, b5, b17, b18, b19, b24, b25, b26, b27, b28, b29, b30, b31] 1 (by simp)
  have g19 : bI (H [b12, b13, b14, b15, b5, b17, b18, b19, b24, b25, b26, b27, b28, b29, b30, b31]) 0 = b31 := bI_H [b12, b13, b14, b15, b5, b17, b18, b19, b24, b25, b26, b27, b28, b29, b30, b31] 0 (by simp)
  refine ⟨by
      simp [okB]
      try omega
    , by kernel_rfl, by
      have e : ∀ rd rn rm ra imm cond : Int, hl (ltr rd rn rm ra imm cond) ((V_hauberkref02_Bits (4, false)).take 16) = [true, true, true, true, false, bI imm 11, true, false, true, true, false, false, bI imm 15, bI imm 14, bI imm 13, bI imm 12] := by intro rd rn rm ra imm cond; kernel_rfl
      rw [e]
      simp only [g8, g4, g5, g6, g7]
    , by
      have e : ∀ rd rn rm ra imm cond : Int, hl (ltr rd rn rm ra imm cond) ((V_hauberkref02_Bits (4, false)).drop 16) = [false, bI imm 10, bI imm 9, bI imm 8, bI rd 3, bI rd 2, bI rd 1, bI rd 0, bI imm 7, bI imm 6, bI imm 5, bI imm 4, bI imm 3, bI imm 2, bI imm 1, bI imm 0] := by intro rd rn rm ra imm cond; kernel_rfl
      rw [e]
      simp only [g9, g10, g11, g0, g1, g2, g3, g12, g13, g14, g15, g16, g17, g18, g19]
    ⟩
theorem rr_5 (b17 b18 b19 b20 b21 b22 b23 b24 b25 b28 b29 b30 b31 : Bool) : iRow 5 false [true, true, true, false, true, false, true, false, false, true, false, false, true, true, true, true, false, b17, b18, b19, b20, b21, b22, b23, b24, b25, false, false, b28, b29, b30, b31] = (5, H [b20, b21, b22, b23], 0, H [b28, b29, b30, b31], 0, H [b17, b18, b19, b24, b25], 0, false, ()) := by
  have e : iRow 5 false [true, true, true, false, true, false, true, false, false, true, false, false, true, true, true, true, false, b17, b18, b19, b20, b21, b22, b23, b24, b25, false, false, b28, b29, b30, b31] = (5, H [b20, b21, b22, b23], 0, H [b28, b29, b30, b31], 0, ((immN [(4, b17), (3, b18), (2, b19), (1, b24), (0, b25)] : Nat) : Int), 0, false, ()) := by kernel_rfl
  have e2 : immN [(4, b17), (3, b18), (2, b19), (1, b24), (0, b25)] = hb [b17, b18, b19, b24, b25] 0 := by simp only [immN, hb]; omega
  rw [e, e2]
  rfl
theorem fw_5 (b17 b18 b19 b20 b21 b22 b23 b24 b25 b28 b29 b30 b31 : Bool) (h0 : le12 (H [b20, b21, b22, b23]) = true) (h1 : le12 (H [b28, b29, b30, b31]) = true) : okB 5 (H [b20, b21, b22, b23]) (0) (H [b28, b29, b30, b31]) (0) (H [b17, b18, b19, b24, b25]) (0) false = true ∧ (V_hauberkref02_Bits (5, false)).length = 32 ∧ hl (ltr (H [b20, b21, b22, b23]) (0) (H [b28, b29, b30, b31]) (0) (H [b17, b18, b19, b24, b25]) (0)) ((V_hauberkref02_Bits (5, false)).take 16) = [true, true, true, false, true, false, true, false, false, true, false, false, true, true, true, true] ∧ hl (ltr (H [b20, b21, b22, b23]) (0) (H [b28, b29, b30, b31]) (0) (H [b17, b18, b19, b24, b25]) (0)) ((V_hauberkref02_Bits (5, false)).drop 16) = [false, b17, b18, b19, b20, b21, b22, b23, b24, b25, false, false, b28, b29, b30, b31] := by
  have h0 := le12_iff h0
  have h1 := le12_iff h1
  have := H_nonneg [b20, b21, b22, b23]
  have : H [b20, b21, b22, b23] < 16 := H_lt (l := [b20, b21, b22, b23]) (k := 4) (by simp)
  have := H_nonneg [b28, b29, b30, b31]
  have : H [b28, b29, b30, b31] < 16 := H_lt (l := [b28, b29, b30, b31]) (k := 4) (by simp)
  have := H_nonneg [b17, b18, b19, b24, b25]
  have : H [b17, b18, b19, b24, b25] < 32 := H_lt (l := [b17, b18, b19, b24, b25]) (k := 5) (by simp)
  have g0 : bI (H [b20, b21, b22, b23]) 3 = b20 := bI_H [b20, b21, b22, b23] 3 (by simp)
  have g1 : bI (H [b20, b21, b22, b23]) 2 = b21 := bI_H [b20, b21, b22, b23] 2 (by simp)
  have g2 : bI (H [b20, b21, b22, b23]) 1 = b22 := bI_H [b20, b21, b22, b23] 1 (by simp)
  have g3 : bI (H [b20, b21, b22, b23]) 0 = b23 := bI_H [b20, b21, b22, b23] 0 (by simp)
  have g4 : bI (H [b28, b29, b30, b31]) 3 = b28 := bI_H [b28, b29, b30, b31] 3 (by simp)
  have g5 : bI (H [b28, b29, b30, b31]) 2 = b29 := bI_H [b28, b29, b30, b31] 2 (by simp)
  have g6 : bI (H [b28, b29, b30, b31]) 1 = b30 := bI_H [b28, b29, b30, b31] 1 (by simp)
  have g7 : bI (H [b28, b29, b30, b31]) 0 = b31 := bI_H [b28, b29, b30, b31] 0 (by simp)
  have g8 : bI (H [b17, b18, b19, b24, b25]) 4 = b17 := bI_H [b17, b18, b19, b24, b25] 4 (by simp)
  have g9 : bI (H [b17, b18, b19, b24, b25]) 3 = b18 := bI_H [b17, b18, b19, b24, b25] 3 (by simp)
  have g10 : bI (H [b17, b18, b19, b24, b25]) 2 = b19 := bI_H [b17, b18, b19, b24, b25] 2 (by simp)
  have g11 : bI (H [b17, b18, b19, b24, b25]) 1 = b24 := bI_H [b17, b18, b19, b24, b25] 1 (by simp)
  have g12 : bI (H [b17, b18, b19, b24, b25]) 0 = b25 := bI_H [b17, b18, b19, b24, b25] 0 (by simp)
  refine ⟨by
      simp [okB]
      try omega
    , by kernel_rfl, by
      have e : ∀ rd rn rm ra imm cond : Int, hl (ltr rd rn rm ra imm cond) ((V_hauberkref02_Bits (5, false)).take 16) = [true, true, true, false, true, false, true, false, false, true, false, false, true, true, true, true] := by intro rd rn rm ra imm cond; kernel_rfl
      rw [e]
    , by
      have e : ∀ rd rn rm ra imm cond : Int, hl (ltr rd rn rm ra imm cond) ((V_hauberkref02_Bits (5, false)).drop 16) = [false, bI imm 4, bI imm 3, bI imm 2, bI rd 3, bI rd 2, bI rd 1, bI rd 0, bI imm 1, bI imm 0, false, false, bI rm 3, bI rm 2, bI rm 1, bI rm 0] := by intro rd rn rm ra imm cond; kernel_rfl
      rw [e]
      simp only [g8, g9, g10, g0, g1, g2, g3, g11, g12, g4, g5, g6, g7]
    ⟩
theorem rr_6 (b17 b18 b19 b20 b21 b22 b23 b24 b25 b28 b29 b30 b31 : Bool) : iRow 6 false [true, true, true, false, true, false, true, false, false, true, false, false, true, true, true, true, false, b17, b18, b19, b20, b21, b22, b23, b24, b25, false, true, b28, b29, b30, b31] = (6, H [b20, b21, b22, b23], 0, H [b28, b29, b30, b31], 0, H [b17, b18, b19, b24, b25], 0, false, ()) := by
  have e : iRow 6 false [true, true, true, false, true, false, true, false, false, true, false, false, true, true, true, true, false, b17, b18, b19, b20, b21, b22, b23, b24, b25, false, true, b28, b29, b30, b31] = (6, H [b20, b21, b22, b23], 0, H [b28, b29, b30, b31], 0, ((immN [(4, b17), (3, b18), (2, b19), (1, b24), (0, b25)] : Nat) : Int), 0, false, ()) := by kernel_rfl
  have e2 : immN [(4, b17), (3, b18), (2, b19), (1, b24), (0, b25)] = hb [b17, b18, b19, b24, b25] 0 := by simp only [immN, hb]; omega
  rw [e, e2]
  rfl
theorem fw_6 (b17 b18 b19 b20 b21 b22 b23 b24 b25 b28 b29 b30 b31 : Bool) (h0 : le12 (H [b20, b21, b22, b23]) = true) (h1 : le12 (H [b28, b29, b30, b31]) = true) (h2 : H [b17, b18, b19, b24, b25] > 0) : okB 6 (H [b20, b21, b22, b23]) (0) (H [b28, b29, b30, b31]) (0) (H [b17, b18, b19, b24, b25]) (0) false = true ∧ (V_hauberkref02_Bits (6, false)).length = 32 ∧ hl (ltr (H [b20, b21, b22, b23]) (0) (H [b28, b29, b30, b31]) (0) (H [b17, b18, b19, b24, b25]) (0)) ((V_hauberkref02_Bits (6, false)).take 16) = [true, true, true, false, true, false, true, false, false, true, false, false, true, true, true, true] ∧ hl (ltr (H [b20, b21, b22, b23]) (0) (H [b28, b29, b30, b31]) (0) (H [b17, b18, b19, b24, b25]) (0)) ((V_hauberkref02_Bits (6, false)).drop 16) = [false, b17, b18, b19, b20, b21, b22, b23, b24, b25, false, true, b28, b29, b30, b31] := by
  have h0 := le12_iff h0
  have h1 := le12_iff h1
  have := H_nonneg [b20, b21, b22, b23]
  have : H [b20, b21, b22, b23] < 16 := H_lt (l := [b20, b21, b22, b23]) (k := 4) (by simp)
  have := H_nonneg [b28, b29, b30, b31]
  have : H [b28, b29, b30, b31] < 16 := H_lt (l := [b28, b29, b30, b31]) (k := 4) (by simp)
  have := H_nonneg [b17, b18, b19, b24, b25]
  have : H [b17, b18, b19, b24, b25] < 32 := H_lt (l := [b17, b18, b19, b24, b25]) (k := 5) (by simp)
  have g0 : bI (H [b20, b21, b22, b23]) 3 = b20 := bI_H [b20, b21, b22, b23] 3 (by simp)
  have g1 : bI (H [b20, b21, b22, b23]) 2 = b21 := bI_H [b20, b21, b22, b23] 2 (by simp)
  have g2 : bI (H [b20, b21, b22, b23]) 1 = b22 := bI_H [b20, b21, b22, b23] 1 (by simp)
  have g3 : bI (H [b20, b21, b22, b23]) 0 = b23 := bI_H [b20, b21, b22, b23] 0 (by simp)
  have g4 : bI (H [b28, b29, b30, b31]) 3 = b28 := bI_H [b28, b29, b30, b31] 3 (by simp)
  have g5 : bI (H [b28, b29, b30, b31]) 2 = b29 := bI_H [b28, b29, b30, b31] 2 (by simp)
  have g6 : bI (H [b28, b29, b30, b31]) 1 = b30 := bI_H [b28, b29, b30, b31] 1 (by simp)
  have g7 : bI (H [b28, b29, b30, b31]) 0 = b31 := bI_H [b28, b29, b30, b31] 0 (by simp)
  have g8 : bI (H [b17, b18, b19, b24, b25]) 4 = b17 := bI_H [b17, b18, b19, b24, b25] 4 (by simp)
  have g9 : bI (H [b17, b18, b19, b24, b25]) 3 = b18 := bI_H [b17, b18, b19, b24, b25] 3 (by simp)
  have g10 : bI (H [b17, b18, b19, b24, b25]) 2 = b19 := bI_H [b17, b18, b19, b24, b25] 2 (by simp)
  have g11 : bI (H [b17, b18, b19, b24, b25]) 1 = b24 := bI_H [b17, b18, b19, b24, b25] 1 (by simp)
  have g12 : bI (H [b17, b18, b19, b24, b25]) 0 = b25 := bI_H [b17, b18, b19, b24, b25] 0 (by simp)
  refine ⟨by
      simp [okB]
      try omega
    , by kernel_rfl, by
      have e : ∀ rd rn rm ra imm cond : Int, hl (ltr rd rn rm ra imm cond) ((V_hauberkref02_Bits (6, false)).take 16) = [true, true, true, false, true, false, true, false, false, true, false, false, true, true, true, true] := by intro rd rn rm ra imm cond; kernel_rfl
      rw [e]
    , by
      have e : ∀ rd rn rm ra imm cond : Int, hl (ltr rd rn rm ra imm cond) ((V_hauberkref02_Bits (6, false)).drop 16) = [false, bI imm 4, bI imm 3, bI imm 2, bI rd 3, bI rd 2, bI rd 1, bI rd 0, bI imm 1, bI imm 0, false, true, bI rm 3, bI rm 2, bI rm 1, bI rm 0] := by intro rd rn rm ra imm cond; kernel_rfl
      rw [e]
      simp only [g8, g9, g10, g0, g1, g2, g3, g11, g12, g4, g5, g6, g7]
    ⟩
theorem rr_7 (b17 b18 b19 b20 b21 b22 b23 b24 b25 b28 b29 b30 b31 : Bool) : iRow 7 false [true, true, true, false, true, false, true, false, false, true, false, false, true, true, true, true, false, b17, b18, b19, b20, b21, b22, b23, b24, b25, true, false, b28, b29, b30, b31] = (7, H [b20, b21, b22, b23], 0, H [b28, b29, b30, b31], 0, H [b17, b18, b19, b24, b25], 0, false, ()) := by
  have e : iRow 7 false [true, true, true, false, true, false, true, false, false, true, false, false, true, true, true, true, false, b17, b18, b19, b20, b21, b22, b23, b24, b25, true, false, b28, b29, b30, b31] = (7, H [b20, b21, b22, b23], 0, H [b28, b29, b30, b31], 0, ((immN [(4, b17), (3, b18), (2, b19), (1, b24), (0, b25)] : Nat) : Int), 0, false, ()) := by kernel_rfl
  have e2 : immN [(4, b17), (3, b18), (2, b19), (1, b24), (0, b25)] = hb [b17, b18, b19, b24, b25] 0 := by simp only [immN, hb]; omega
  rw [e, e2]
  rfl
theorem fw_7 (b17 b18 b19 b20 b21 b22 b23 b24 b25 b28 b29 b30 b31 : Bool) (h0 : le12 (H [b20, b21, b22, b23]) = true) (h1 : le12 (H [b28, b29, b30, b31]) = true) (h2 : H [b17, b18, b19, b24, b25] > 0) : okB 7 (H [b20, b21, b22, b23]) (0) (H [b28, b29, b30, b31]) (0) (H [b17, b18, b19, b24, b25]) (0) false = true ∧ (V_hauberkref02_Bits (7, false)).length = 32 ∧ hl (ltr (H [b20, b21, b22, b23]) (0) (H [b28, b29, b30, b31]) (0) (H [b17, b18, b19, b24, b25]) (0)) ((V_hauberkref02_Bits (7, false)).take 16) = [true, true, true, false, true, false, true, false, false, true, false, false, true, true, true, true] ∧ hl (ltr (H [b20, b21, b22, b23]) (0) (H [b28, b29, b30, b31]) (0) (H [b17, b18, b19, b24, b25]) (0)) ((V_hauberkref02_Bits (7, false)).drop 16) = [false, b17, b18, b19, b20, b21, b22, b23, b24, b25, true, false, b28, b29, b30, b31] := by
  have h0 := le12_iff h0
  have h1 := le12_iff h1
  have := H_nonneg [b20, b21, b22, b23]
  have : H [b20, b21, b22, b23] < 16 := H_lt (l := [b20, b21, b22, b23]) (k := 4) (by simp)
  have := H_nonneg [b28, b29, b30, b31]
  have : H [b28, b29, b30, b31] < 16 := H_lt (l := [b28, b29, b30, b31]) (k := 4) (by simp)
  have := H_nonneg [b17, b18, b19, b24, b25]
  have : H [b17, b18, b19, b24, b25] < 32 := H_lt (l := [b17, b18, b19, b24, b25]) (k := 5) (by simp)
  have g0 : bI (H [b20, b21, b22, b23]) 3 = b20 := bI_H [b20, b21, b22, b23] 3 (by simp)
  have g1 : bI (H [b20, b21, b22, b23]) 2 = b21 := bI_H [b20, b21, b22, b23] 2 (by simp)
  have g2 : bI (H [b20, b21, b22, b23]) 1 = b22 := bI_H [b20, b21, b22, b23] 1 (by simp)
  have g3 : bI (H [b20, b21, b22, b23]) 0 = b23 := bI_H [b20, b21, b22, b23] 0 (by simp)
  have g4 : bI (H [b28, b29, b30, b31]) 3 = b28 := bI_H [b28, b29, b30, b31] 3 (by simp)
  have g5 : bI (H [b28, b29, b30, b31]) 2 = b29 := bI_H [b28, b29, b30, b31] 2 (by simp)
  have g6 : bI (H [b28, b29, b30, b31]) 1 = b30 := bI_H [b28, b29, b30, b31] 1 (by simp)
  have g7 : bI (H [b28, b29, b30, b31]) 0 = b31 := bI_H [b28, b29, b30, b31] 0 (by simp)
  have g8 : bI (H [b17, b18, b19, b24, b25]) 4 = b17 := bI_H [b17, b18, b19, b24, b25] 4 (by simp)
  have g9 : bI (H [b17, b18, b19, b24, b25]) 3 = b18 := bI_H [b17, b18, b19, b24, b25] 3 (by simp)
  have g10 : bI (H [b17, b18, b19, b24, b25]) 2 = b19 := bI_H [b17, b18, b19, b24, b25] 2 (by simp)
  have g11 : bI (H [b17, b18, b19, b24, b25]) 1 = b24 := bI_H [b17, b18, b19, b24, b25] 1 (by simp)
  have g12 : bI (H [b17, b18, b19, b24, b25]) 0 = b25 := bI_H [b17, b18, b19, b24, b25] 0 (by simp)
  refine ⟨by
      simp [okB]
      try omega
    , by kernel_rfl, by
      have e : ∀ rd rn rm ra imm cond : Int, hl (ltr rd rn rm ra imm cond) ((V_hauberkref02_Bits (7, false)).take 16) = [true, true, true, false, true, false, true, false, false, true, false, false, true, true, true, true] := by intro rd rn rm ra imm cond; kernel_rfl
      rw [e]
    , by
      have e : ∀ rd rn rm ra imm cond : Int, hl (ltr rd rn rm ra imm cond) ((V_hauberkref02_Bits (7, false)).drop 16) = [false, bI imm 4, bI imm 3, bI imm 2, bI rd 3, bI rd 2, bI rd 1, bI rd 0, bI imm 1, bI imm 0, true, false, bI rm 3, bI rm 2, bI rm 1, bI rm 0] := by intro rd rn rm ra imm cond; kernel_rfl
      rw [e]
      simp only [g8, g9, g10, g0, g1, g2, g3, g11, g12, g4, g5, g6, g7]
    ⟩
theorem rr_8 (b17 b18 b19 b20 b21 b22 b23 b24 b25 b28 b29 b30 b31 : Bool) : iRow 8 false [true, true, true, false, true, false, true, false, false, true, false, false, true, true, true, true, false, b17, b18, b19, b20, b21, b22, b23, b24, b25, true, true, b28, b29, b30, b31] = (8, H [b20, b21, b22, b23], 0, H [b28, b29, b30, b31], 0, H [b17, b18, b19, b24, b25], 0, false, ()) := by
  have e : iRow 8 false [true, true, true, false, true, false, true, false, false, true, false, false, true, true, true, true, false, b17, b18, b19, b20, b21, b22, b23, b24, b25, true, true, b28, b29, b30, b31] = (8, H [b20, b21, b22, b23], 0, H [b28, b29, b30, b31], 0, ((immN [(4, b17), (3, b18), (2, b19), (1, b24), (0, b25)] : Nat) : Int), 0, false, ()) := by kernel_rfl
  have e2 : immN [(4, b17), (3, b18), (2, b19), (1, b24), (0, b25)] = hb [b17, b18, b19, b24, b25] 0 := by simp only [immN, hb]; omega
  rw [e, e2]
  rfl
theorem fw_8 (b17 b18 b19 b20 b21 b22 b23 b24 b25 b28 b29 b30 b31 : Bool) (h0 : le12 (H [b20, b21, b22, b23]) = true) (h1 : le12 (H [b28, b29, b30, b31]) = true) (h2 : H [b17, b18, b19, b24, b25] > 0) : okB 8 (H [b20, b21, b22, b23]) (0) (H [b28, b29, b30, b31]) (0) (H [b17, b18, b19, b24, b25]) (0) false = true ∧ (V_hauberkref02_Bits (8, false)).length = 32 ∧ hl (ltr (H [b20, b21, b22, b23]) (0) (H [b28, b29, b30, b31]) (0) (H [b17, b18, b19, b24, b25]) (0)) ((V_hauberkref02_Bits (8, false)).take 16) = [true, true, true, false, true, false, true, false, false, true, false, false, true, true, true, true] ∧ hl (ltr (H [b20, b21, b22, b23]) (0) (H [b28, b29, b30, b31]) (0) (H [b17, b18, b19, b24, b25]) (0)) ((V_hauberkref02_Bits (8, false)).drop 16) = [false, b17, b18, b19, b20, b21, b22, b23, b24, b25, true, true, b28, b29, b30, b31] := by
  have h0 := le12_iff h0
  have h1 := le12_iff h1
  have := H_nonneg [b20, b21, b22, b23]
  have : H [b20, b21, b22, b23] < 16 := H_lt (l := [b20, b21, b22, b23]) (k := 4) (by simp)
  have := H_nonneg [b28, b29, b30, b31]
  have : H [b28, b29, b30, b31] < 16 := H_lt (l := [b28, b29, b30, b31]) (k := 4) (by simp)
  have := H_nonneg [b17, b18, b19, b24, b25]
  have : H [b17, b18, b19, b24, b25] < 32 := H_lt (l := [b17, b18, b19, b24, b25]) (k := 5) (by simp)
  have g0 : bI (H [b20, b21, b22, b23]) 3 = b20 := bI_H [b20, b21, b22, b23] 3 (by simp)
  have g1 : bI (H [b20, b21, b22, b23]) 2 = b21 := bI_H [b20, b21, b22, b23] 2 (by simp)
  have g2 : bI (H [b20, b21, b22, b23]) 1 = b22 := bI_H [b20, b21, b22, b23] 1 (by simp)
  have g3 : bI (H [b20, b21, b22, b23]) 0 = b23 := bI_H [b20, b21, b22, b23] 0 (by simp)
  have g4 : bI (H [b28, b29, b30, b31]) 3 = b28 := bI_H [b28, b29, b30, b31] 3 (by simp)
  have g5 : bI (H [b28, b29, b30, b31]) 2 = b29 := bI_H [b28, b29, b30, b31] 2 (by simp)
  have g6 : bI (H [b28, b29, b30, b31]) 1 = b30 := bI_H [b28, b29, b30, b31] 1 (by simp)
  have g7 : bI (H [b28, b29, b30, b31]) 0 = b31 := bI_H [b28, b29, b30, b31] 0 (by simp)
  have g8 : bI (H [b17, b18, b19, b24, b25]) 4 = b17 := bI_H [b17, b18, b19, b24, b25] 4 (by simp)
  have g9 : bI (H [b17, b18, b19, b24, b25]) 3 = b18 := bI_H [b17, b18, b19, b24, b25] 3 (by simp)
  have g10 : bI (H [b17, b18, b19, b24, b25]) 2 = b19 := bI_H [b17, b18, b19, b24, b25] 2 (by simp)
  have g11 : bI (H [b17, b18, b19, b24, b25]) 1 = b24 := bI_H [b17, b18, b19, b24, b25] 1 (by simp)
  have g12 : bI (H [b17, b18, b19, b24, b25]) 0 = b25 := bI_H [b17, b18, b19, b24, b25] 0 (by simp)
  refine ⟨by
      simp [okB]
      try omega
    , by kernel_rfl, by
      have e : ∀ rd rn rm ra imm cond : Int, hl (ltr rd rn rm ra imm cond) ((V_hauberkref02_Bits (8, false)).take 16) = [true, true, true, false, true, false, true, false, false, true, false, false, true, true, true, true] := by intro rd rn rm ra imm cond; kernel_rfl
      rw [e]
    , by
      have e : ∀ rd rn rm ra imm cond : Int, hl (ltr rd rn rm ra imm cond) ((V_hauberkref02_Bits (8, false)).drop 16) = [false, bI imm 4, bI imm 3, bI imm 2, bI rd 3, bI rd 2, bI rd 1, bI rd 0, bI imm 1, bI imm 0, true, true, bI rm 3, bI rm 2, bI rm 1, bI rm 0] := by intro rd rn rm ra imm cond; kernel_rfl
      rw [e]
      simp only [g8, g9, g10, g0, g1, g2, g3, g11, g12, g4, g5, g6, g7]
    ⟩
theorem rr_9 (b20 b21 b22 b23 b28 b29 b30 b31 : Bool) : iRow 9 false [true, true, true, false, true, false, true, false, false, true, true, false, true, true, true, true, false, false, false, false, b20, b21, b22, b23, false, false, false, false, b28, b29, b30, b31] = (9, H [b20, b21, b22, b23], 0, H [b28, b29, b30, b31], 0, 0, 0, false, ()) := by
  kernel_rfl
theorem fw_9 (b20 b21 b22 b23 b28 b29 b30 b31 : Bool) (h0 : le12 (H [b20, b21, b22, b23]) = true) (h1 : le12 (H [b28, b29, b30, b31]) = true) : okB 9 (H [b20, b21, b22, b23]) (0) (H [b28, b29, b30, b31]) (0) (0) (0) false = true ∧ (V_hauberkref02_Bits (9, false)).length = 32 ∧ hl (ltr (H [b20, b21, b22, b23]) (0) (H [b28, b29, b30, b31]) (0) (0) (0)) ((V_hauberkref02_Bits (9, false)).take 16) = [true, true, true, false, true, false, true, false, false, true, true, false, true, true, true, true] ∧ hl (ltr (H [b20, b21, b22, b23]) (0) (H [b28, b29, b30, b31]) (0) (0) (0)) ((V_hauberkref02_Bits (9, false)).drop 16) = [false, false, false, false, b20, b21, b22, b23, false, false, false, false, b28, b29, b30, b31] := by
  have h0 := le12_iff h0
  have h1 := le12_iff h1
  have := H_nonneg [b20, b21, b22, b23]
  have : H [b20, b21, b22, b23] < 16 := H_lt (l := [b20, b21, b22, b23]) (k := 4) (by simp)
  have := H_nonneg [b28, b29, b30, b31]
  have : H [b28, b29, b30, b31] < 16 := H_lt (l := [b28, b29, b30, b31]) (k := 4) (by simp)
  have g0 : bI (H [b20, b21, b22, b23]) 3 = b20 := bI_H [b20, b21, b22, b23] 3 (by simp)
  have g1 : bI (H [b20, b21, b22, b23]) 2 = b21 := bI_H [b20, b21, b22, b23] 2 (by simp)
  have g2 : bI (H [b20, b21, b22, b23]) 1 = b22 := bI_H [b20, b21, b22, b23] 1 (by simp)
  have g3 : bI (H [b20, b21, b22, b23]) 0 = b23 := bI_H [b20, b21, b22, b23] 0 (by simp)
  have g4 : bI (H [b28, b29, b30, b31]) 3 = b28 := bI_H [b28, b29, b30, b31] 3 (by simp)
  have g5 : bI (H [b28, b29, b30, b31]) 2 = b29 := bI_H [b28, b29, b30, b31] 2 (by simp)
  have g6 : bI (H [b28, b29, b30, b31]) 1 = b30 := bI_H [b28, b29, b30, b31] 1 (by simp)
  have g7 : bI (H [b28, b29, b30, b31]) 0 = b31 := bI_H [b28, b29, b30, b31] 0 (by simp)
  refine ⟨by
      simp [okB]
      try omega
    , by kernel_rfl, by
      have e : ∀ rd rn rm ra imm cond : Int, hl (ltr rd rn rm ra imm cond) ((V_hauberkref02_Bits (9, false)).take 16) = [true, true, true, false, true, false, true, false, false, true, true, false, true, true, true, true] := by intro rd rn rm ra imm cond; kernel_rfl
      rw [e]
    , by
      have e : ∀ rd rn rm ra imm cond : Int, hl (ltr rd rn rm ra imm cond) ((V_hauberkref02_Bits (9, false)).drop 16) = [false, false, false, false, bI rd 3, bI rd 2, bI rd 1, bI rd 0, false, false, false, false, bI rm 3, bI rm 2, bI rm 1, bI rm 0] := by intro rd rn rm ra imm cond; kernel_rfl
      rw [e]
      simp only [g0, g1, g2, g3, g4, g5, g6, g7]
    ⟩
theorem rr_10 (b12 b13 b14 b15 b20 b21 b22 b23 b28 b29 b30 b31 : Bool) : iRow 10 false [true, true, true, false, true, false, true, false, false, false, false, false, b12, b13, b14, b15, false, false, false, false, b20, b21, b22, b23, false, false, false, false, b28, b29, b30, b31] = (10, H [b20, b21, b22, b23], H [b12, b13, b14, b15], H [b28, b29, b30, b31], 0, 0, 0, false, ()) := by
  kernel_rfl
theorem fw_10 (b12 b13 b14 b15 b20 b21 b22 b23 b28 b29 b30 b31 : Bool) (h0 : le12 (H [b20, b21, b22, b23]) = true) (h1 : le12 (H [b12, b13, b14, b15]) = true) (h2 : le12 (H [b28, b29, b30, b31]) = true) : okB 10 (H [b20, b21, b22, b23]) (H [b12, b13, b14, b15]) (H [b28, b29, b30, b31]) (0) (0) (0) false = true ∧ (V_hauberkref02_Bits (10, false)).length = 32 ∧ hl (ltr (H [b20, b21, b22, b23]) (H [b12, b13, b14, b15]) (H [b28, b29, b30, b31]) (0) (0) (0)) ((V_hauberkref02_Bits (10, false)).take 16) = [true, true, true, false, true, false, true, false, false, false, false, false, b12, b13, b14, b15] ∧ hl (ltr (H [b20, b21, b22, b23]) (H [b12, b13, b14, b15]) (H [b28, b29, b30, b31]) (0) (0) (0)) ((V_hauberkref02_Bits (10, false)).drop 16) = [false, false, false, false, b20, b21, b22, b23, false, false, false, false, b28, b29, b30, b31] := by
  have h0 := le12_iff h0
  have h1 := le12_iff h1
  have h2 := le12_iff h2
  have := H_nonneg [b20, b21, b22, b23]
  have : H [b20, b21, b22, b23] < 16 := H_lt (l := [b20, b21, b22, b23]) (k := 4) (by simp)
  have := H_nonneg [b12, b13, b14, b15]
  have : H [b12, b13, b14, b15] < 16 := H_lt (l := [b12, b13, b14, b15]) (k := 4) (by simp)
  have := H_nonneg [b28, b29, b30, b31]
  have : H [b28, b29, b30, b31] < 16 := H_lt (l := [b28, b29, b30, b31]) (k := 4) (by simp)
  have g0 : bI (H [b20, b21, b22, b23]) 3 = b20 := bI_H [b20, b21, b22, b23] 3 (by simp)
  have g1 : bI (H [b20, b21, b22, b23]) 2 = b21 := bI_H [b20, b21, b22, b23] 2 (by simp)
  have g2 : bI (H [b20, b21, b22, b23]) 1 = b22 := bI_H [b20, b21, b22, b23] 1 (by simp)
  have g3 : bI (H [b20, b21, b22, b23]) 0 = b23 := bI_H [b20, b21, b22, b23] 0 (by simp)
  have g4 : bI (H [b12, b13, b14, b15]) 3 = b12 := bI_H [b12, b13, b14, b15] 3 (by simp)
  have g5 : bI (H [b12, b13, b14, b15]) 2 = b13 := bI_H [b12, b13, b14, b15] 2 (by simp)
  have g6 : bI (H [b12, b13, b14, b15]) 1 = b14 := bI_H [b12, b13, b14, b15] 1 (by simp)
  have g7 : bI (H [b12, b13, b14, b15]) 0 = b15 := bI_H [b12, b13, b14, b15] 0 (by simp)
  have g8 : bI (H [b28, b29, b30, b31]) 3 = b28 := bI_H [b28, b29, b30, b31] 3 (by simp)
  have g9 : bI (H [b28, b29, b30, b31]) 2 = b29 := bI_H [b28, b29, b30, b31] 2 (by simp)
  have g10 : bI (H [b28, b29, b30, b31]) 1 = b30 := bI_H [b28, b29, b30, b31] 1 (by simp)
  have g11 : bI (H [b28, b29, b30, b31]) 0 = b31 := bI_H [b28, b29, b30, b31] 0 (by simp)
  refine ⟨by
      simp [okB]
      try omega
    , by kernel_rfl, by
      have e : ∀ rd rn rm ra imm cond : Int, hl (ltr rd rn rm ra imm cond) ((V_hauberkref02_Bits (10, false)).take 16) = [true, true, true, false, true, false, true, false, false, false, false, false, bI rn 3, bI rn 2, bI rn 1, bI rn 0] := by intro rd rn rm ra imm cond; kernel_rfl
      rw [e]
      simp only [g4, g5, g6, g7]
    , by
      have e : ∀ rd rn rm ra imm cond : Int, hl (ltr rd rn rm ra imm cond) ((V_hauberkref02_Bits (10, false)).drop 16) = [false, false, false, false, bI rd 3, bI rd 2, bI rd 1, bI rd 0, false, false, false, false, bI rm 3, bI rm 2, bI rm 1, bI rm 0] := by intro rd rn rm ra imm cond; kernel_rfl
      rw [e]
      simp only [g0, g1, g2, g3, g8, g9, g10, g11]
    ⟩
theorem rr_11 (b12 b13 b14 b15 b20 b21 b22 b23 b28 b29 b30 b31 : Bool) : iRow 11 false [true, true, true, false, true, false, true, false, false, false, true, false, b12, b13, b14, b15, false, false, false, false, b20, b21, b22, b23, false, false, false, false, b28, b29, b30, b31] = (11, H [b20, b21, b22, b23], H [b12, b13, b14, b15], H [b28, b29, b30, b31], 0, 0, 0, false, ()) := by
  kernel_rfl
theorem fw_11 (b12 b13 b14 b15 b20 b21 b22 b23 b28 b29 b30 b31 : Bool) (h0 : le12 (H [b20, b21, b22, b23]) = true) (h1 : le12 (H [b12, b13, b14, b15]) = true) (h2 : le12 (H [b28, b29, b30, b31]) = true) : okB 11 (H [b20, b21, b22, b23]) (H [b12, b13, b14, b15]) (H [b28, b29, b30, b31]) (0) (0) (0) false = true ∧ (V_hauberkref02_Bits (11, false)).length = 32 ∧ hl (ltr (H [b20, b21, b22, b23]) (H [b12, b13, b14, b15]) (H [b28, b29, b30, b31]) (0) (0) (0)) ((V_hauberkref02_Bits (11, false)).take 16) = [true, true, true, false, true, false, true, false, false, false, true, false, b12, b13, b14, b15] ∧ hl (ltr (H [b20, b21, b22, b23]) (H [b12, b13, b14, b15]) (H [b28, b29, b30, b31]) (0) (0) (0)) ((V_hauberkref02_Bits (11, false)).drop 16) = [false, false, false, false, b20, b21, b22, b23, false, false, false, false, b28, b29, b30, b31] := by
  have h0 := le12_iff h0
  have h1 := le12_iff h1
  have h2 := le12_iff h2
  have := H_nonneg [b20, b21, b22, b23]
  have : H [b20, b21, b22, b23] < 16 := H_lt (l := [b20, b21, b22, b23]) (k := 4) (by simp)
  have := H_nonneg [b12, b13, b14, b15]
  have : H [b12, b13, b14, b15] < 16 := H_lt (l := [b12, b13, b14, b15]) (k := 4) (by simp)
  have := H_nonneg [b28, b29, b30, b31]
  have : H [b28, b29, b30, b31] < 16 := H_lt (l := [b28, b29, b30, b31]) (k := 4) (by simp)
  have g0 : bI (H [b20, b21, b22, b23]) 3 = b20 := bI_H [b20, b21, b22, b23] 3 (by simp)
  have g1 : bI (H [b20, b21, b22, b23]) 2 = b21 := bI_H [b20, b21, b22, b23] 2 (by simp)
  have g2 : bI (H [b20, b21, b22, b23]) 1 = b22 := bI_H [b20, b21, b22, b23] 1 (by simp)
  have g3 : bI (H [b20, b21, b22, b23]) 0 = b23 := bI_H [b20, b21, b22, b23] 0 (by simp)
  have g4 : bI (H [b12, b13, b14, b15]) 3 = b12 := bI_H [b12, b13, b14, b15] 3 (by simp)
  have g5 : bI (H [b12, b13, b14, b15]) 2 = b13 := bI_H [b12, b13, b14, b15] 2 (by simp)
  have g6 : bI (H [b12, b13, b14, b15]) 1 = b14 := bI_H [b12, b13, b14, b15] 1 (by simp)
  have g7 : bI (H [b12, b13, b14, b15]) 0 = b15 := bI_H [b12, b13, b14, b15] 0 (by simp)
  have g8 : bI (H [b28, b29, b30, b31]) 3 = b28 := bI_H [b28, b29, b30, b31] 3 (by simp)
  have g9 : bI (H [b28, b29, b30, b31]) 2 = b29 := bI_H [b28, b29, b30, b31] 2 (by simp)
  have g10 : bI (H [b28, b29, b30, b31]) 1 = b30 := bI_H [b28, b29, b30, b31] 1 (by simp)
  have g11 : bI (H [b28, b29, b30, b31]) 0 = b31 := bI_H [b28, b29, b30, b31] 0 (by simp)
  refine ⟨by
      simp [okB]
      try omega
    , by kernel_rfl, by
      have e : ∀ rd rn rm ra imm cond : Int, hl (ltr rd rn rm ra imm cond) ((V_hauberkref02_Bits (11, false)).take 16) = [true, true, true, false, true, false, true, false, false, false, true, false, bI rn 3, bI rn 2, bI rn 1, bI rn 0] := by intro rd rn rm ra imm cond; kernel_rfl
      rw [e]
      simp only [g4, g5, g6, g7]
    , by
      have e : ∀ rd rn rm ra imm cond : Int, hl (ltr rd rn rm ra imm cond) ((V_hauberkref02_Bits (11, false)).drop 16) = [false, false, false, false, bI rd 3, bI rd 2, bI rd 1, bI rd 0, false, false, false, false, bI rm 3, bI rm 2, bI rm 1, bI rm 0] := by intro rd rn rm ra imm cond; kernel_rfl
      rw [e]
      simp only [g0, g1, g2, g3, g8, g9, g10, g11]
    ⟩
theorem rr_12 (b12 b13 b14 b15 b20 b21 b22 b23 b28 b29 b30 b31 : Bool) : iRow 12 false [true, true, true, false, true, false, true, false, false, true, false, false, b12, b13, b14, b15, false, false, false, false, b20, b21, b22, b23, false, false, false, false, b28, b29, b30, b31] = (12, H [b20, b21, b22, b23], H [b12, b13, b14, b15], H [b28, b29, b30, b31], 0, 0, 0, false, ()) := by
  kernel_rfl
theorem fw_12 (b12 b13 b14 b15 b20 b21 b22 b23 b28 b29 b30 b31 : Bool) (h0 : le12 (H [b20, b21, b22, b23]) = true) (h1 : le12 (H [b12, b13, b14, b15]) = true) (h2 : le12 (H [b28, b29, b30, b31]) = true) : okB 12 (H [b20, b21, b22, b23]) (H [b12, b13, b14, b15]) (H [b28, b29, b30, b31]) (0) (0) (0) false = true ∧ (V_hauberkref02_Bits (12, false)).length = 32 ∧ hl (ltr (H [b20, b21, b22, b23]) (H [b12, b13, b14, b15]) (H [b28, b29, b30, b31]) (0) (0) (0)) ((V_hauberkref02_Bits (12, false)).take 16) = [true, true, true, false, true, false, true, false, false, true, false, false, b12, b13, b14, b15] ∧ hl (ltr (H [b20, b21, b22, b23]) (H [b12, b13, b14, b15]) (H [b28, b29, b30, b31]) (0) (0) (0)) ((V_hauberkref02_Bits (12, false)).drop 16) = [false, false, false, false, b20, b21, b22, b23, false, false, false, false, b28, b29, b30, b31] := by
  have h0 := le12_iff h0
  have h1 := le12_iff h1
  have h2 := le12_iff h2
  have := H_nonneg [b20, b21, b22, b23]
  have : H [b20, b21, b22, b23] < 16 := H_lt (l := [b20, b21, b22, b23]) (k := 4) (by simp)
  have := H_nonneg [b12, b13, b14, b15]
  have : H [b12, b13, b14, b15] < 16 := H_lt (l := [b12, b13, b14, b15]) (k := 4) (by simp)
  have := H_nonneg [b28, b29, b30, b31]
  have : H [b28, b29, b30, b31] < 16 := H_lt (l := [b28, b29, b30, b31]) (k := 4) (by simp)
  have g0 : bI (H [b20, b21, b22, b23]) 3 = b20 := bI_H [b20, b21, b22, b23] 3 (by simp)
  have g1 : bI (H [b20, b21, b22, b23]) 2 = b21 := bI_H [b20, b21, b22, b23] 2 (by simp)
  have g2 : bI (H [b20, b21, b22, b23]) 1 = b22 := bI_H [b20, b21, b22, b23] 1 (by simp)
  have g3 : bI (H [b20, b21, b22, b23]) 0 = b23 := bI_H [b20, b21, b22, b23] 0 (by simp)
  have g4 : bI (H [b12, b13, b14, b15]) 3 = b12 := bI_H [b12, b13, b14, b15] 3 (by simp)
  have g5 : bI (H [b12, b13, b14, b15]) 2 = b13 := bI_H [b12, b13, b14, b15] 2 (by simp)
  have g6 : bI (H [b12, b13, b14, b15]) 1 = b14 := bI_H [b12, b13, b14, b15] 1 (by simp)
  have g7 : bI (H [b12, b13, b14, b15]) 0 = b15 := bI_H [b12, b13, b14, b15] 0 (by simp)
  have g8 : bI (H [b28, b29, b30, b31]) 3 = b28 := bI_H [b28, b29, b30, b31] 3 (by simp)
  have g9 : bI (H [b28, b29, b30, b31]) 2 = b29 := bI_H [b28, b29, b30, b31] 2 (by simp)
  have g10 : bI (H [b28, b29, b30, b31]) 1 = b30 := bI_H [b28, b29, b30, b31] 1 (by simp)
  have g11 : bI (H [b28, b29, b30, b31]) 0 = b31 := bI_H [b28, b29, b30, b31] 0 (by simp)
  refine ⟨by
      simp [okB]
      try omega
    , by kernel_rfl, by
      have e : ∀ rd rn rm ra imm cond : Int, hl (ltr rd rn rm ra imm cond) ((V_hauberkref02_Bits (12, false)).take 16) = [true, true, true, false, true, false, true, false, false, true, false, false, bI rn 3, bI rn 2, bI rn 1, bI rn 0] := by intro rd rn rm ra imm cond; kernel_rfl
      rw [e]
      simp only [g4, g5, g6, g7]
    , by
      have e : ∀ rd rn rm ra imm cond : Int, hl (ltr rd rn rm ra imm cond) ((V_hauberkref02_Bits (12, false)).drop 16) = [false, false, false, false, bI rd 3, bI rd 2, bI rd 1, bI rd 0, false, false, false, false, bI rm 3, bI rm 2, bI rm 1, bI rm 0] := by intro rd rn rm ra imm cond; kernel_rfl
      rw [e]
      simp only [g0, g1, g2, g3, g8, g9, g10, g11]
    ⟩
theorem rr_13 (b12 b13 b14 b15 b20 b21 b22 b23 b28 b29 b30 b31 : Bool) : iRow 13 false [true, true, true, false, true, false, true, false, true, false, false, false, b12, b13, b14, b15, false, false, false, false, b20, b21, b22, b23, false, false, false, false, b28, b29, b30, b31] = (13, H [b20, b21, b22, b23], H [b12, b13, b14, b15], H [b28, b29, b30, b31], 0, 0, 0, false, ()) := by
  kernel_rfl
theorem fw_13 (b12 b13 b14 b15 b20 b21 b22 b23 b28 b29 b30 b31 : Bool) (h0 : le12 (H [b20, b21, b22, b23]) = true) (h1 : le12 (H [b12, b13, b14, b15]) = true) (h2 : le12 (H [b28, b29, b30, b31]) = true) : okB 13 (H [b20, b21, b22, b23]) (H [b12, b13, b14, b15]) (H [b28, b29, b30, b31]) (0) (0) (0) false = true ∧ (V_hauberkref02_Bits (13, false)).length = 32 ∧ hl (ltr (H [b20, b21, b22, b23]) (H [b12, b13, b14, b15]) (H [b28, b29, b30, b31]) (0) (0) (0)) ((V_hauberkref02_Bits (13, false)).take 16) = [true, true, true, false, true, false, true, false, true, false, false, false, b12, b13, b14, b15] ∧ hl (ltr (H [b20, b21, b22, b23]) (H [b12, b13, b14, b15]) (H [b28, b29, b30, b31]) (0) (0) (0)) ((V_hauberkref02_Bits (13, false)).drop 16) = [false, false, false, false, b20, b21, b22, b23, false, false, false, false, b28, b29, b30, b31] := by
  have h0 := le12_iff h0
  have h1 := le12_iff h1
  have h2 := le12_iff h2
  have := H_nonneg [b20, b21, b22, b23]
  have : H [b20, b21, b22, b23] < 16 := H_lt (l := [b20, b21, b22, b23]) (k := 4) (by simp)
  have := H_nonneg [b12, b13, b14, b15]
  have : H [b12, b13, b14, b15] < 16 := H_lt (l := [b12, b13, b14, b15]) (k := 4) (by simp)
  have := H_nonneg [b28, b29, b30, b31]
  have : H [b28, b29, b30, b31] < 16 := H_lt (l := [b28, b29, b30, b31]) (k := 4) (by simp)
  have g0 : bI (H [b20, b21, b22, b23]) 3 = b20 := bI_H [b20, b21, b22, b23] 3 (by simp)
  have g1 : bI (H [b20, b21, b22, b23]) 2 = b21 := bI_H [b20, b21, b22, b23] 2 (by simp)
  have g2 : bI (H [b20, b21, b22, b23]) 1 = b22 := bI_H [b20, b21, b22, b23] 1 (by simp)
  have g3 : bI (H [b20, b21, b22, b23]) 0 = b23 := bI_H [b20, b21, b22, b23] 0 (by simp)
  have g4 : bI (H [b12, b13, b14, b15]) 3 = b12 := bI_H [b12, b13, b14, b15] 3 (by simp)
  have g5 : bI (H [b12, b13, b14, b15]) 2 = b13 := bI_H [b12, b13, b14, b15] 2 (by simp)
  have g6 : bI (H [b12, b13, b14, b15]) 1 = b14 := bI_H [b12, b13, b14, b15] 1 (by simp)
  have g7 : bI (H [b12, b13, b14, b15]) 0 = b15 := bI_H [b12, b13, b14, b15] 0 (by simp)
  have g8 : bI (H [b28, b29, b30, b31]) 3 = b28 := bI_H [b28, b29, b30, b31] 3 (by simp)
  have g9 : bI (H [b28, b29, b30, b31]) 2 = b29 := bI_H [b28, b29, b30, b31] 2 (by simp)
  have g10 : bI (H [b28, b29, b30, b31]) 1 = b30 := bI_H [b28, b29, b30, b31] 1 (by simp)
  have g11 : bI (H [b28, b29, b30, b31]) 0 = b31 := bI_H [b28, b29, b30, b31] 0 (by simp)
  refine ⟨by
      simp [okB]
      try omega
    , by kernel_rfl, by
      have e : ∀ rd rn rm ra imm cond : Int, hl (ltr rd rn rm ra imm cond) ((V_hauberkref02_Bits (13, false)).take 16) = [true, true, true, false, true, false, true, false, true, false, false, false, bI rn 3, bI rn 2, bI rn 1, bI rn 0] := by intro rd rn rm ra imm cond; kernel_rfl
      rw [e]
      simp only [g4, g5, g6, g7]
    , by
      have e : ∀ rd rn rm ra imm cond : Int, hl (ltr rd rn rm ra imm cond) ((V_hauberkref02_Bits (13, false)).drop 16) = [false, false, false, false, bI rd 3, bI rd 2, bI rd 1, bI rd 0, false, false, false, false, bI rm 3, bI rm 2, bI rm 1, bI rm 0] := by intro rd rn rm ra imm cond; kernel_rfl
      rw [e]
      simp only [g0, g1, g2, g3, g8, g9, g10, g11]
    ⟩
theorem rr_14 (b12 b13 b14 b15 b20 b21 b22 b23 b28 b29 b30 b31 : Bool) : iRow 14 false [true, true, true, false, true, false, true, true, false, false, false, false, b12, b13, b14, b15, false, false, false, false, b20, b21, b22, b23, false, false, false, false, b28, b29, b30, b31] = (14, H [b20, b21, b22, b23], H [b12, b13, b14, b15], H [b28, b29, b30, b31], 0, 0, 0, false, ()) := by
  kernel_rfl
theorem fw_14 (b12 b13 b14 b15 b20 b21 b22 b23 b28 b29 b30 b31 : Bool) (h0 : le12 (H [b20, b21, b22, b23]) = true) (h1 : le12 (H [b12, b13, b14, b15]) = true) (h2 : le12 (H [b28, b29, b30, b31]) = true) : okB 14 (H [b20, b21, b22, b23]) (H [b12, b13, b14, b15]) (H [b28, b29, b30, b31]) (0) (0) (0) false = true ∧ (V_hauberkref02_Bits (14, false)).length = 32 ∧ hl (ltr (H [b20, b21, b22, b23]) (H [b12, b13, b14, b15]) (H [b28, b29, b30, b31]) (0) (0) (0)) ((V_hauberkref02_Bits (14, false)).take 16) = [true, true, true, false, true, false, true, true, false, false, false, false, b12, b13, b14, b15] ∧ hl (ltr (H [b20, b21, b22, b23]) (H [b12, b13, b14, b15]) (H [b28, b29, b30, b31]) (0) (0) (0)) ((V_hauberkref02_Bits (14, false)).drop 16) = [false, false, false, false, b20, b21, b22, b23, false, false, false, false, b28, b29, b30, b31] := by
  have h0 := le12_iff h0
  have h1 := le12_iff h1
  have h2 := le12_iff h2
  have := H_nonneg [b20, b21, b22, b23]
  have : H [b20, b21, b22, b23] < 16 := H_lt (l := [b20, b21, b22, b23]) (k := 4) (by simp)
  have := H_nonneg [b12, b13, b14, b15]
  have : H [b12, b13, b14, b15] < 16 := H_lt (l := [b12, b13, b14, b15]) (k := 4) (by simp)
  have := H_nonneg [b28, b29, b30, b31]
  have : H [b28, b29, b30, b31] < 16 := H_lt (l := [b28, b29, b30, b31]) (k := 4) (by simp)
  have g0 : bI (H [b20, b21, b22, b23]) 3 = b20 := bI_H [b20, b21, b22, b23] 3 (by simp)
  have g1 : bI (H [b20, b21, b22, b23]) 2 = b21 := bI_H [b20, b21, b22, b23] 2 (by simp)
  have g2 : bI (H [b20, b21, b22, b23]) 1 = b22 := bI_H [b20, b21, b22, b23] 1 (by simp)
  have g3 : bI (H [b20, b21, b22, b23]) 0 = b23 := bI_H [b20, b21, b22, b23] 0 (by simp)
  have g4 : bI (H [b12, b13, b14, b15]) 3 = b12 := bI_H [b12, b13, b14, b15] 3 (by simp)
  have g5 : bI (H [b12, b13, b14, b15]) 2 = b13 := bI_H [b12, b13, b14, b15] 2 (by simp)
  have g6 : bI (H [b12, b13, b14, b15]) 1 = b14 := bI_H [b12, b13, b14, b15] 1 (by simp)
  have g7 : bI (H [b12, b13, b14, b15]) 0 = b15 := bI_H [b12, b13, b14, b15] 0 (by simp)
  have g8 : bI (H [b28, b29, b30, b31]) 3 = b28 := bI_H [b28, b29, b30, b31] 3 (by simp)
  have g9 : bI (H [b28, b29, b30, b31]) 2 = b29 := bI_H [b28, b29, b30, b31] 2 (by simp)
  have g10 : bI (H [b28, b29, b30, b31]) 1 = b30 := bI_H [b28, b29, b30, b31] 1 (by simp)
  have g11 : bI (H [b28, b29, b30, b31]) 0 = b31 := bI_H [b28, b29, b30, b31] 0 (by simp)
  refine ⟨by
      simp [okB]
      try omega
    , by kernel_rfl, by
      have e : ∀ rd rn rm ra imm cond : Int, hl (ltr rd rn rm ra imm cond) ((V_hauberkref02_Bits (14, false)).take 16) = [true, true, true, false, true, false, true, true, false, false, false, false, bI rn 3, bI rn 2, bI rn 1, bI rn 0] := by intro rd rn rm ra imm cond; kernel_rfl
      rw [e]
      simp only [g4, g5, g6, g7]
    , by
      have e : ∀ rd rn rm ra imm cond : Int, hl (ltr rd rn rm ra imm cond) ((V_hauberkref02_Bits (14, false)).drop 16) = [false, false, false, false, bI rd 3, bI rd 2, bI rd 1, bI rd 0, false, false, false, false, bI rm 3, bI rm 2, bI rm 1, bI rm 0] := by intro rd rn rm ra imm cond; kernel_rfl
      rw [e]
      simp only [g0, g1, g2, g3, g8, g9, g10, g11]
    ⟩
theorem rr_15 (b12 b13 b14 b15 b20 b21 b22 b23 b28 b29 b30 b31 : Bool) : iRow 15 false [true, true, true, false, true, false, true, true, true, false, true, false, b12, b13, b14, b15, false, false, false, false, b20, b21, b22, b23, false, false, false, false, b28, b29, b30, b31] = (15, H [b20, b21, b22, b23], H [b12, b13, b14, b15], H [b28, b29, b30, b31], 0, 0, 0, false, ()) := by
  kernel_rfl
theorem fw_15 (b12 b13 b14 b15 b20 b21 b22 b23 b28 b29 b30 b31 : Bool) (h0 : le12 (H [b20, b21, b22, b23]) = true) (h1 : le12 (H [b12, b13, b14, b15]) = true) (h2 : le12 (H [b28, b29, b30, b31]) = true) : okB 15 (H [b20, b21, b22, b23]) (H [b12, b13, b14, b15]) (H [b28, b29, b30, b31]) (0) (0) (0) false = true ∧ (V_hauberkref02_Bits (15, false)).length = 32 ∧ hl (ltr (H [b20, b21, b22, b23]) (H [b12, b13, b14, b15]) (H [b28, b29, b30, b31]) (0) (0) (0)) ((V_hauberkref02_Bits (15, false)).take 16) = [true, true, true, false, true, false, true, true, true, false, true, false, b12, b13, b14, b15] ∧ hl (ltr (H [b20, b21, b22, b23]) (H [b12, b13, b14, b15]) (H [b28, b29, b30, b31]) (0) (0) (0)) ((V_hauberkref02_Bits (15, false)).drop 16) = [false, false, false, false, b20, b21, b22, b23, false, false, false, false, b28, b29, b30, b31] := by
  have h0 := le12_iff h0
  have h1 := le12_iff h1
  have h2 := le12_iff h2
  have := H_nonneg [b20, b21, b22, b23]
  have : H [b20, b21, b22, b23] < 16 := H_lt (l := [b20, b21, b22, b23]) (k := 4) (by simp)
  have := H_nonneg [b12, b13, b14, b15]
  have : H [b12, b13, b14, b15] < 16 := H_lt (l := [b12, b13, b14, b15]) (k := 4) (by simp)
  have := H_nonneg [b28, b29, b30, b31]
  have : H [b28, b29, b30, b31] < 16 := H_lt (l := [b28, b29, b30, b31]) (k := 4) (by simp)
  have g0 : bI (H [b20, b21, b22, b23]) 3 = b20 := bI_H [b20, b21, b22, b23] 3 (by simp)
  have g1 : bI (H [b20, b21, b22, b23]) 2 = b21 := bI_H [b20, b21, b22, b23] 2 (by simp)
  have g2 : bI (H [b20, b21, b22, b23]) 1 = b22 := bI_H [b20, b21, b22, b23] 1 (by simp)
  have g3 : bI (H [b20, b21, b22, b23]) 0 = b23 := bI_H [b20, b21, b22, b23] 0 (by simp)
  have g4 : bI (H [b12, b13, b14, b15]) 3 = b12 := bI_H [b12, b13, b14, b15] 3 (by simp)
  have g5 : bI (H [b12, b13, b14, b15]) 2 = b13 := bI_H [b12, b13, b14, b15] 2 (by simp)
  have g6 : bI (H [b12, b13, b14, b15]) 1 = b14 := bI_H [b12, b13, b14, b15] 1 (by simp)
  have g7 : bI (H [b12, b13, b14, b15]) 0 = b15 := bI_H [b12, b13, b14, b15] 0 (by simp)
  have g8 : bI (H [b28, b29, b30, b31]) 3 = b28 := bI_H [b28, b29, b30, b31] 3 (by simp)
  have g9 : bI (H [b28, b29, b30, b31]) 2 = b29 := bI_H [b28, b29, b30, b31] 2 (by simp)
  have g10 : bI (H [b28, b29, b30, b31]) 1 = b30 := bI_H [b28, b29, b30, b31] 1 (by simp)
  have g11 : bI (H [b28, b29, b30, b31]) 0 = b31 := bI_H [b28, b29, b30, b31] 0 (by simp)
  refine ⟨by
      simp [okB]
      try omega
    , by kernel_rfl, by
      have e : ∀ rd rn rm ra imm cond : Int, hl (ltr rd rn rm ra imm cond) ((V_hauberkref02_Bits (15, false)).take 16) = [true, true, true, false, true, false, true, true, true, false, true, false, bI rn 3, bI rn 2, bI rn 1, bI rn 0] := by intro rd rn rm ra imm cond; kernel_rfl
      rw [e]
      simp only [g4, g5, g6, g7]
    , by
      have e : ∀ rd rn rm ra imm cond : Int, hl (ltr rd rn rm ra imm cond) ((V_hauberkref02_Bits (15, false)).drop 16) = [false, false, false, false, bI rd 3, bI rd 2, bI rd 1, bI rd 0, false, false, false, false, bI rm 3, bI rm 2, bI rm 1, bI rm 0] := by intro rd rn rm ra imm cond; kernel_rfl
      rw [e]
      simp only [g0, g1, g2, g3, g8, g9, g10, g11]
    ⟩
theorem rr_16 (b12 b13 b14 b15 b20 b21 b22 b23 b28 b29 b30 b31 : Bool) : iRow 16 false [true, true, true, true, true, false, true, true, false, false, false, false, b12, b13, b14, b15, true, true, true, true, b20, b21, b22, b23, false, false, false, false, b28, b29, b30, b31] = (16, H [b20, b21, b22, b23], H [b12, b13, b14, b15], H [b28, b29, b30, b31], 0, 0, 0, false, ()) := by
  kernel_rfl
theorem fw_16 (b12 b13 b14 b15 b20 b21 b22 b23 b28 b29 b30 b31 : Bool) (h0 : le12 (H [b20, b21, b22, b23]) = true) (h1 : le12 (H [b12, b13, b14, b15]) = true) (h2 : le12 (H [b28, b29, b30, b31]) = true) : okB 16 (H [b20, b21, b22, b23]) (H [b12, b13, b14, b15]) (H [b28, b29, b30, b31]) (0) (0) (0) false = true ∧ (V_hauberkref02_Bits (16, false)).length = 32 ∧ hl (ltr (H [b20, b21, b22, b23]) (H [b12, b13, b14, b15]) (H [b28, b29, b30, b31]) (0) (0) (0)) ((V_hauberkref02_Bits (16, false)).take 16) = [true, true, true, true, true, false, true, true, false, false, false, false, b12, b13, b14, b15] ∧ hl (ltr (H [b20, b21, b22, b23]) (H [b12, b13, b14, b15]) (H [b28, b29, b30, b31]) (0) (0) (0)) ((V_hauberkref02_Bits (16, false)).drop 16) = [true, true, true, true, b20, b21, b22, b23, false, false, false, false, b28, b29, b30, b31] := by
  have h0 := le12_iff h0
  have h1 := le12_iff h1
  have h2 := le12_iff h2
  have := H_nonneg [b20, b21, b22, b23]
  have : H [b20, b21, b22, b23] < 16 := H_lt (l := [b20, b21, b22, b23]) (k := 4) (by simp)
  have := H_nonneg [b12, b13, b14, b15]
  have : H [b12, b13, b14, b15] < 16 := H_lt (l := [b12, b13, b14, b15]) (k := 4) (by simp)
  have := H_nonneg [b28, b29, b30, b31]
  have : H [b28, b29, b30, b31] < 16 := H_lt (l := [b28, b29, b30, b31]) (k := 4) (by simp)
  have g0 : bI (H [b20, b21, b22, b23]) 3 = b20 := bI_H [b20, b21, b22, b23] 3 (by simp)
  have g1 : bI (H [b20, b21, b22, b23]) 2 = b21 := bI_H [b20, b21, b22, b23] 2 (by simp)
  have g2 : bI (H [b20, b21, b22, b23]) 1 = b22 := bI_H [b20, b21, b22, b23] 1 (by simp)
  have g3 : bI (H [b20, b21, b22, b23]) 0 = b23 := bI_H [b20, b21, b22, b23] 0 (by simp)
  have g4 : bI (H [b12, b13, b14, b15]) 3 = b12 := bI_H [b12, b13, b14, b15] 3 (by simp)
  have g5 : bI (H [b12, b13, b14, b15]) 2 = b13 := bI_H [b12, b13, b14, b15] 2 (by simp)
  have g6 : bI (H [b12, b13, b14, b15]) 1 = b14 := bI_H [b12, b13, b14, b15] 1 (by simp)
  have g7 : bI (H [b12, b13, b14, b15]) 0 = b15 := bI_H [b12, b13, b14, b15] 0 (by simp)
  have g8 : bI (H [b28, b29, b30, b31]) 3 = b28 := bI_H [b28, b29, b30, b31] 3 (by simp)
  have g9 : bI (H [b28, b29, b30, b31]) 2 = b29 := bI_H [b28, b29, b30, b31] 2 (by simp)
  have g10 : bI (H [b28, b29, b30, b31]) 1 = b30 := bI_H [b28, b29, b30, b31] 1 (by simp)
  have g11 : bI (H [b28, b29, b30, b31]) 0 = b31 := bI_H [b28, b29, b30, b31] 0 (by simp)
  refine ⟨by
      simp [okB]
      try omega
    , by kernel_rfl, by
      have e : ∀ rd rn rm ra imm cond : Int, hl (ltr rd rn rm ra imm cond) ((V_hauberkref02_Bits (16, false)).take 16) = [true, true, true, true, true, false, true, true, false, false, false, false, bI rn 3, bI rn 2, bI rn 1, bI rn 0] := by intro rd rn rm ra imm cond; kernel_rfl
      rw [e]
      simp only [g4, g5, g6, g7]
    , by
      have e : ∀ rd rn rm ra imm cond : Int, hl (ltr rd rn rm ra imm cond) ((V_hauberkref02_Bits (16, false)).drop 16) = [true, true, true, true, bI rd 3, bI rd 2, bI rd 1, bI rd 0, false, false, false, false, bI rm 3, bI rm 2, bI rm 1, bI rm 0] := by intro rd rn rm ra imm cond; kernel_rfl
      rw [e]
      simp only [g0, g1, g2, g3, g8, g9, g10, g11]
    ⟩
theorem rr_17 (b12 b13 b14 b15 b16 b17 b18 b19 b20 b21 b22 b23 b28 b29 b30 b31 : Bool) : iRow 17 false [true, true, true, true, true, false, true, true, true, false, true, false, b12, b13, b14, b15, b16, b17, b18, b19, b20, b21, b22, b23, false, false, false, false, b28, b29, b30, b31] = (17, H [b16, b17, b18, b19], H [b12, b13, b14, b15], H [b28, b29, b30, b31], H [b20, b21, b22, b23], 0, 0, false, ()) := by
  kernel_rfl
theorem fw_17 (b12 b13 b14 b15 b16 b17 b18 b19 b20 b21 b22 b23 b28 b29 b30 b31 : Bool) (h0 : le12 (H [b16, b17, b18, b19]) = true) (h1 : le12 (H [b12, b13, b14, b15]) = true) (h2 : le12 (H [b28, b29, b30, b31]) = true) (h3 : le12 (H [b20, b21, b22, b23]) = true) (h4 : H [b16, b17, b18, b19] ≠ H [b20, b21, b22, b23]) : okB 17 (H [b16, b17, b18, b19]) (H [b12, b13, b14, b15]) (H [b28, b29, b30, b31]) (H [b20, b21, b22, b23]) (0) (0) false = true ∧ (V_hauberkref02_Bits (17, false)).length = 32 ∧ hl (ltr (H [b16, b17, b18, b19]) (H [b12, b13, b14, b15]) (H [b28, b29, b30, b31]) (H [b20, b21, b22, b23]) (0) (0)) ((V_hauberkref02_Bits (17, false)).take 16) = [true, true, true, true, true, false, true, true, true, false, true, false, b12, b13, b14, b15] ∧ hl (ltr (H [b16, b17, b18, b19]) (H [b12, b13, b14, b15]) (H [b28, b29, b30, b31]) (H [b20, b21, b22, b23]) (0) (0)) ((V_hauberkref02_Bits (17, false)).drop 16) = [b16, b17, b18, b19, b20, b21, b22, b23, false, false, false, false, b28, b29, b30, b31] := by
  have h0 := le12_iff h0
  have h1 := le12_iff h1
  have h2 := le12_iff h2
  have h3 := le12_iff h3
  have := H_nonneg [b16, b17, b18, b19]
  have : H [b16, b17, b18, b19] < 16 := H_lt (l := [b16, b17, b18, b19]) (k := 4) (by simp)
  have := H_nonneg [b12, b13, b14, b15]
  have : H [b12, b13, b14, b15] < 16 := H_lt (l := [b12, b13, b14, b15]) (k := 4) (by simp)
  have := H_nonneg [b28, b29, b30, b31]
  have : H [b28, b29, b30, b31] < 16 := H_lt (l := [b28, b29, b30, b31]) (k := 4) (by simp)
  have := H_nonneg [b20, b21, b22, b23]
  have : H [b20, b21, b22, b23] < 16 := H_lt (l := [b20, b21, b22, b23]) (k := 4) (by simp)
  have g0 : bI (H [b16, b17, b18, b19]) 3 = b16 := bI_H [b16, b17, b18, b19] 3 (by simp)
  have g1 : bI (H [b16, b17, b18, b19]) 2 = b17 := bI_H [b16, b17, b18, b19] 2 (by simp)
  have g2 : bI (H [b16, b17, b18, b19]) 1 = b18 := bI_H [b16, b17, b18, b19] 1 (by simp)
  have g3 : bI (H [b16, b17, b18, b19]) 0 = b19 := bI_H [b16, b17, b18, b19] 0 (by simp)
  have g4 : bI (H [b12, b13, b14, b15]) 3 = b12 := bI_H [b12, b13, b14, b15] 3 (by simp)
  have g5 : bI (H [b12, b13, b14, b15]) 2 = b13 := bI_H [b12, b13, b14, b15] 2 (by simp)
  have g6 : bI (H [b12, b13, b14, b15]) 1 = b14 := bI_H [b12, b13, b14, b15] 1 (by simp)
  have g7 : bI (H [b12, b13, b14, b15]) 0 = b15 := bI_H [b12, b13, b14, b15] 0 (by simp)
  have g8 : bI (H [b28, b29, b30, b31]) 3 = b28 := bI_H [b28, b29, b30, b31] 3 (by simp)
  have g9 : bI (H [b28, b29, b30, b31]) 2 = b29 := bI_H [b28, b29, b30, b31] 2 (by simp)
  have g10 : bI (H [b28, b29, b30, b31]) 1 = b30 := bI_H [b28, b29, b30, b31] 1 (by simp)
  have g11 : bI (H [b28, b29, b30, b31]) 0 = b31 := bI_H [b28, b29, b30, b31] 0 (by simp)
  have g12 : bI (H [b20, b21, b22, b23]) 3 = b20 := bI_H [b20, b21, b22, b23] 3 (by simp)
  have g13 : bI (H [b20, b21, b22, b23]) 2 = b21 := bI_H [b20, b21, b22, b23] 2 (by simp)
  have g14 : bI (H [b20, b21, b22, b23]) 1 = b22 := bI_H [b20, b21, b22, b23] 1 (by simp)
  have g15 : bI (H [b20, b21, b22, b23]) 0 = b23 := bI_H [b20, b21, b22, b23] 0 (by simp)
  refine ⟨by
      simp [okB]
      try omega
    , by kernel_rfl, by
      have e : ∀ rd rn rm ra imm cond : Int, hl (ltr rd rn rm ra imm cond) ((V_hauberkref02_Bits (17, false)).take 16) = [true, true, true, true, true, false, true, true, true, false, true, false, bI rn 3, bI rn 2, bI rn 1, bI rn 0] := by intro rd rn rm ra imm cond; kernel_rfl
      rw [e]
      simp only [g4, g5, g6, g7]
    , by
      have e : ∀ rd rn rm ra imm cond : Int, hl (ltr rd rn rm ra imm cond) ((V_hauberkref02_Bits (17, false)).drop 16) = [bI rd 3, bI rd 2, bI rd 1, bI rd 0, bI ra 3, bI ra 2, bI ra 1, bI ra 0, false, false, false, false, bI rm 3, bI rm 2, bI rm 1, bI rm 0] := by intro rd rn rm ra imm cond; kernel_rfl
      rw [e]
      simp only [g0, g1, g2, g3, g12, g13, g14, g15, g8, g9, g10, g11]
    ⟩
theorem rr_18 (b12 b13 b14 b15 b17 b18 b19 b20 b21 b22 b23 b24 b25 b27 b28 b29 b30 b31 : Bool) : iRow 18 false [true, true, true, true, false, false, true, true, false, true, true, false, b12, b13, b14, b15, false, b17, b18, b19, b20, b21, b22, b23, b24, b25, false, b27, b28, b29, b30, b31] = (18, H [b20, b21, b22, b23], H [b12, b13, b14, b15], 0, H [b27, b28, b29, b30, b31] + 1 - H [b17, b18, b19, b24, b25], H [b17, b18, b19, b24, b25], 0, false, ()) := by
  have e : iRow 18 false [true, true, true, true, false, false, true, true, false, true, true, false, b12, b13, b14, b15, false, b17, b18, b19, b20, b21, b22, b23, b24, b25, false, b27, b28, b29, b30, b31] = (18, H [b20, b21, b22, b23], H [b12, b13, b14, b15], 0, w64 (w64 (H [b27, b28, b29, b30, b31] + 1) - ((immN [(4, b17), (3, b18), (2, b19), (1, b24), (0, b25)] : Nat) : Int)), ((immN [(4, b17), (3, b18), (2, b19), (1, b24), (0, b25)] : Nat) : Int), 0, false, ()) := by kernel_rfl
  have e2 : immN [(4, b17), (3, b18), (2, b19), (1, b24), (0, b25)] = hb [b17, b18, b19, b24, b25] 0 := by simp only [immN, hb]; omega
  have h1 := H_nonneg [b17, b18, b19, b24, b25]
  have h2 : H [b17, b18, b19, b24, b25] < 32 := H_lt (l := [b17, b18, b19, b24, b25]) (k := 5) (by simp)
  have h3 := H_nonneg [b27, b28, b29, b30, b31]
  have h4 : H [b27, b28, b29, b30, b31] < 32 := H_lt (l := [b27, b28, b29, b30, b31]) (k := 5) (by simp)
  rw [e, e2]
  show (18, H [b20, b21, b22, b23], H [b12, b13, b14, b15], 0, w64 (w64 (H [b27, b28, b29, b30, b31] + 1) - H [b17, b18, b19, b24, b25]), H [b17, b18, b19, b24, b25], 0, false, ()) = _
  rw [w64_id (n := H [b27, b28, b29, b30, b31] + 1) (by omega) (by omega), w64_id (n := H [b27, b28, b29, b30, b31] + 1 - H [b17, b18, b19, b24, b25]) (by omega) (by omega)]
theorem fw_18 (b12 b13 b14 b15 b17 b18 b19 b20 b21 b22 b23 b24 b25 b27 b28 b29 b30 b31 : Bool) (h0 : le12 (H [b20, b21, b22, b23]) = true) (h1 : le12 (H [b12, b13, b14, b15]) = true) (h2 : H [b27, b28, b29, b30, b31] + 1 - H [b17, b18, b19, b24, b25] ≥ 1) : okB 18 (H [b20, b21, b22, b23]) (H [b12, b13, b14, b15]) (0) (H [b27, b28, b29, b30, b31] + 1 - H [b17, b18, b19, b24, b25]) (H [b17, b18, b19, b24, b25]) (0) false = true ∧ (V_hauberkref02_Bits (18, false)).length = 32 ∧ hl (ltr (H [b20, b21, b22, b23]) (H [b12, b13, b14, b15]) (0) (H [b27, b28, b29, b30, b31] + 1 - H [b17, b18, b19, b24, b25]) (H [b17, b18, b19, b24, b25]) (0)) ((V_hauberkref02_Bits (18, false)).take 16) = [true, true, true, true, false, false, true, true, false, true, true, false, b12, b13, b14, b15] ∧ hl (ltr (H [b20, b21, b22, b23]) (H [b12, b13, b14, b15]) (0) (H [b27, b28, b29, b30, b31] + 1 - H [b17, b18, b19, b24, b25]) (H [b17, b18, b19, b24, b25]) (0)) ((V_hauberkref02_Bits (18, false)).drop 16) = [false, b17, b18, b19, b20, b21, b22, b23, b24, b25, false, b27, b28, b29, b30, b31] := by
  have h0 := le12_iff h0
  have h1 := le12_iff h1
  have := H_nonneg [b20, b21, b22, b23]
  have : H [b20, b21, b22, b23] < 16 := H_lt (l := [b20, b21, b22, b23]) (k := 4) (by simp)
  have := H_nonneg [b12, b13, b14, b15]
  have : H [b12, b13, b14, b15] < 16 := H_lt (l := [b12, b13, b14, b15]) (k := 4) (by simp)
  have := H_nonneg [b17, b18, b19, b24, b25]
  have : H [b17, b18, b19, b24, b25] < 32 := H_lt (l := [b17, b18, b19, b24, b25]) (k := 5) (by simp)
  have := H_nonneg [b27, b28, b29, b30, b31]
  have : H [b27, b28, b29, b30, b31] < 32 := H_lt (l := [b27, b28, b29, b30, b31]) (k := 5) (by simp)
  have g0 : bI (H [b20, b21, b22, b23]) 3 = b20 := bI_H [b20, b21, b22, b23] 3 (by simp)
  have g1 : bI (H [b20, b21, b22, b23]) 2 = b21 := bI_H [b20, b21, b22, b23] 2 (by simp)
  have g2 : bI (H [b20, b21, b22, b23]) 1 = b22 := bI_H [b20, b21, b22, b23] 1 (by simp)
  have g3 : bI (H [b20, b21, b22, b23]) 0 = b23 := bI_H [b20, b21, b22, b23] 0 (by simp)
  have g4 : bI (H [b12, b13, b14, b15]) 3 = b12 := bI_H [b12, b13, b14, b15] 3 (by simp)
  have g5 : bI (H [b12, b13, b14, b15]) 2 = b13 := bI_H [b12, b13, b14, b15] 2 (by simp)
  have g6 : bI (H [b12, b13, b14, b15]) 1 = b14 := bI_H [b12, b13, b14, b15] 1 (by simp)
  have g7 : bI (H [b12, b13, b14, b15]) 0 = b15 := bI_H [b12, b13, b14, b15] 0 (by simp)
  have g8 : bI (H [b17, b18, b19, b24, b25]) 4 = b17 := bI_H [b17, b18, b19, b24, b25] 4 (by simp)
  have g9 : bI (H [b17, b18, b19, b24, b25]) 3 = b18 := bI_H [b17, b18, b19, b24, b25] 3 (by simp)
  have g10 : bI (H [b17, b18, b19, b24, b25]) 2 = b19 := bI_H [b17, b18, b19, b24, b25] 2 (by simp)
  have g11 : bI (H [b17, b18, b19, b24, b25]) 1 = b24 := bI_H [b17, b18, b19, b24, b25] 1 (by simp)
  have g12 : bI (H [b17, b18, b19, b24, b25]) 0 = b25 := bI_H [b17, b18, b19, b24, b25] 0 (by simp)
  have g13 : bI (H [b17, b18, b19, b24, b25] + (H [b27, b28, b29, b30, b31] + 1 - H [b17, b18, b19, b24, b25]) - 1) 4 = b27 := (by rw [show H [b17, b18, b19, b24, b25] + (H [b27, b28, b29, b30, b31] + 1 - H [b17, b18, b19, b24, b25]) - 1 = H [b27, b28, b29, b30, b31] by omega]; exact bI_H [b27, b28, b29, b30, b31] 4 (by simp))
  have g14 : bI (H [b17, b18, b19, b24, b25] + (H [b27, b28, b29, b30, b31] + 1 - H [b17, b18, b19, b24, b25]) - 1) 3 = b28 := (by rw [show H [b17, b18, b19, b24, b25] + (H [b27, b28, b29, b30, b31] + 1 - H [b17, b18, b19, b24, b25]) - 1 = H [b27, b28, b29, b30, b31] by omega]; exact bI_H [b27, b28, b29, b30, b31] 3 (by simp))
  have g15 : bI (H [b17, b18, b19, b24, b25] + (H [b27, b28, b29, b30, b31] + 1 - H [b17, b18, b19, b24, b25]) - 1) 2 = b29 := (by rw [show H [b17, b18, b19, b24, b25] + (H [b27, b28, b29, b30, b31] + 1 - H [b17, b18, b19, b24, b25]) - 1 = H [b27, b28, b29, b30, b31] by omega]; exact bI_H [b27, b28, b29, b30, b31] 2 (by simp))
  have g16 : bI (H [b17, b18, b19, b24, b25] + (H [b27, b28, b29, b30, b31] + 1 - H [b17, b18, b19, b24, b25]) - 1) 1 = b30 := (by rw [show H [b17, b18, b19, b24, b25] + (H [b27, b28, b29, b30, b31] + 1 - H [b17, b18, b19, b24, b25]) - 1 = H [b27, b28, b29, b30, b31] by omega]; exact bI_H [b27, b28, b29, b30, b31] 1 (by simp))
  have g17 : bI (H [b17, b18, b19, b24, b25] + (H [b27, b28, b29, b30, b31] + 1 - H [b17, b18, b19, b24, b25]) - 1) 0 = b31 := (by rw [show H [b17, b18, b19, b24, b25] + (H [b27, b28, b29, b30, b31] + 1 - H [b17, b18, b19, b24, b25]) - 1 = H [b27, b28, b29, b30, b31] by omega]; exact bI_H [b27, b28, b29, b30, b31] 0 (by simp))
  refine ⟨by
      simp [okB]
      try omega
    , by kernel_rfl, by
      have e : ∀ rd rn rm ra imm cond : Int, hl (ltr rd rn rm ra imm cond) ((V_hauberkref02_Bits (18, false)).take 16) = [true, true, true, true, false, false, true, true, false, true, true, false, bI rn 3, bI rn 2, bI rn 1, bI rn 0] := by intro rd rn rm ra imm cond; kernel_rfl
      rw [e]
      simp only [g4, g5, g6, g7]
    , by
      have e : ∀ rd rn rm ra imm cond : Int, hl (ltr rd rn rm ra imm cond) ((V_hauberkref02_Bits (18, false)).drop 16) = [false, bI imm 4, bI imm 3, bI imm 2, bI rd 3, bI rd 2, bI rd 1, bI rd 0, bI imm 1, bI imm 0, false, bI (imm + ra - 1) 4, bI (imm + ra - 1) 3, bI (imm + ra - 1) 2, bI (imm + ra - 1) 1, bI (imm + ra - 1) 0] := by intro rd rn rm ra imm cond; kernel_rfl
      rw [e]
      simp only [g8, g9, g10, g0, g1, g2, g3, g11, g12, g13, g14, g15, g16, g17]
    ⟩
theorem rr_19 (b10 b11 b12 b13 b14 b15 : Bool) : iRow 19 false [false, true, true, false, true, false, false, false, false, false, b10, b11, b12, b13, b14, b15] = (19, H [b13, b14, b15], H [b10, b11, b12], 0, 0, 0, 0, false, ()) := by
  kernel_rfl
theorem fw_19 (b10 b11 b12 b13 b14 b15 : Bool)  : okB 19 (H [b13, b14, b15]) (H [b10, b11, b12]) (0) (0) (0) (0) false = true ∧ (V_hauberkref02_Bits (19, false)).length = 16 ∧ hl (ltr (H [b13, b14, b15]) (H [b10, b11, b12]) (0) (0) (0) (0)) (V_hauberkref02_Bits (19, false)) = [false, true, true, false, true, false, false, false, false, false, b10, b11, b12, b13, b14, b15] := by
  have := H_nonneg [b13, b14, b15]
  have : H [b13, b14, b15] < 8 := H_lt (l := [b13, b14, b15]) (k := 3) (by simp)
  have := H_nonneg [b10, b11, b12]
  have : H [b10, b11, b12] < 8 := H_lt (l := [b10, b11, b12]) (k := 3) (by simp)
  have g0 : bI (H [b13, b14, b15]) 2 = b13 := bI_H [b13, b14, b15] 2 (by simp)
  have g1 : bI (H [b13, b14, b15]) 1 = b14 := bI_H [b13, b14, b15] 1 (by simp)
  have g2 : bI (H [b13, b14, b15]) 0 = b15 := bI_H [b13, b14, b15] 0 (by simp)
  have g3 : bI (H [b10, b11, b12]) 2 = b10 := bI_H [b10, b11, b12] 2 (by simp)
  have g4 : bI (H [b10, b11, b12]) 1 = b11 := bI_H [b10, b11, b12] 1 (by simp)
  have g5 : bI (H [b10, b11, b12]) 0 = b12 := bI_H [b10, b11, b12] 0 (by simp)
  refine ⟨by
      simp [okB]
      try omega
    , by kernel_rfl, by
      have e : ∀ rd rn rm ra imm cond : Int, hl (ltr rd rn rm ra imm cond) (V_hauberkref02_Bits (19, false)) = [false, true, true, false, true, false, false, false, false, false, bI rn 2, bI rn 1, bI rn 0, bI rd 2, bI rd 1, bI rd 0] := by intro rd rn rm ra imm cond; kernel_rfl
      rw [e]
      simp only [g3, g4, g5, g0, g1, g2]
    ⟩
theorem rr_20 (b10 b11 b12 b13 b14 b15 : Bool) : iRow 20 false [false, true, true, false, false, false, false, false, false, false, b10, b11, b12, b13, b14, b15] = (20, H [b13, b14, b15], H [b10, b11, b12], 0, 0, 0, 0, false, ()) := by
  kernel_rfl
theorem fw_20 (b10 b11 b12 b13 b14 b15 : Bool)  : okB 20 (H [b13, b14, b15]) (H [b10, b11, b12]) (0) (0) (0) (0) false = true ∧ (V_hauberkref02_Bits (20, false)).length = 16 ∧ hl (ltr (H [b13, b14, b15]) (H [b10, b11, b12]) (0) (0) (0) (0)) (V_hauberkref02_Bits (20, false)) = [false, true, true, false, false, false, false, false, false, false, b10, b11, b12, b13, b14, b15] := by
  have := H_nonneg [b13, b14, b15]
  have : H [b13, b14, b15] < 8 := H_lt (l := [b13, b14, b15]) (k := 3) (by simp)
  have := H_nonneg [b10, b11, b12]
  have : H [b10, b11, b12] < 8 := H_lt (l := [b10, b11, b12]) (k := 3) (by simp)
  have g0 : bI (H [b13, b14, b15]) 2 = b13 := bI_H [b13, b14, b15] 2 (by simp)
  have g1 : bI (H [b13, b14, b15]) 1 = b14 := bI_H [b13, b14, b15] 1 (by simp)
  have g2 : bI (H [b13, b14, b15]) 0 = b15 := bI_H [b13, b14, b15] 0 (by simp)
  have g3 : bI (H [b10, b11, b12]) 2 = b10 := bI_H [b10, b11, b12] 2 (by simp)
  have g4 : bI (H [b10, b11, b12]) 1 = b11 := bI_H [b10, b11, b12] 1 (by simp)
  have g5 : bI (H [b10, b11, b12]) 0 = b12 := bI_H [b10, b11, b12] 0 (by simp)
  refine ⟨by
      simp [okB]
      try omega
    , by kernel_rfl, by
      have e : ∀ rd rn rm ra imm cond : Int, hl (ltr rd rn rm ra imm cond) (V_hauberkref02_Bits (20, false)) = [false, true, true, false, false, false, false, false, false, false, bI rn 2, bI rn 1, bI rn 0, bI rd 2, bI rd 1, bI rd 0] := by intro rd rn rm ra imm cond; kernel_rfl
      rw [e]
      simp only [g3, g4, g5, g0, g1, g2]
    ⟩
theorem rr_21 (b10 b11 b12 b13 b14 b15 : Bool) : iRow 21 false [false, true, true, true, true, false, false, false, false, false, b10, b11, b12, b13, b14, b15] = (21, H [b13, b14, b15], H [b10, b11, b12], 0, 0, 0, 0, false, ()) := by
  kernel_rfl
theorem fw_21 (b10 b11 b12 b13 b14 b15 : Bool)  : okB 21 (H [b13, b14, b15]) (H [b10, b11, b12]) (0) (0) (0) (0) false = true ∧ (V_hauberkref02_Bits (21, false)).length = 16 ∧ hl (ltr (H [b13, b14, b15]) (H [b10, b11, b12]) (0) (0) (0) (0)) (V_hauberkref02_Bits (21, false)) = [false, true, true, true, true, false, false, false, false, false, b10, b11, b12, b13, b14, b15] := by
  have := H_nonneg [b13, b14, b15]
  have : H [b13, b14, b15] < 8 := H_lt (l := [b13, b14, b15]) (k := 3) (by simp)
  have := H_nonneg [b10, b11, b12]
  have : H [b10, b11, b12] < 8 := H_lt (l := [b10, b11, b12]) (k := 3) (by simp)
  have g0 : bI (H [b13, b14, b15]) 2 = b13 := bI_H [b13, b14, b15] 2 (by simp)
  have g1 : bI (H [b13, b14, b15]) 1 = b14 := bI_H [b13, b14, b15] 1 (by simp)
  have g2 : bI (H [b13, b14, b15]) 0 = b15 := bI_H [b13, b14, b15] 0 (by simp)
  have g3 : bI (H [b10, b11, b12]) 2 = b10 := bI_H [b10, b11, b12] 2 (by simp)
  have g4 : bI (H [b10, b11, b12]) 1 = b11 := bI_H [b10, b11, b12] 1 (by simp)
  have g5 : bI (H [b10, b11, b12]) 0 = b12 := bI_H [b10, b11, b12] 0 (by simp)
  refine ⟨by
      simp [okB]
      try omega
    , by kernel_rfl, by
      have e : ∀ rd rn rm ra imm cond : Int, hl (ltr rd rn rm ra imm cond) (V_hauberkref02_Bits (21, false)) = [false, true, true, true, true, false, false, false, false, false, bI rn 2, bI rn 1, bI rn 0, bI rd 2, bI rd 1, bI rd 0] := by intro rd rn rm ra imm cond; kernel_rfl
      rw [e]
      simp only [g3, g4, g5, g0, g1, g2]
    ⟩
theorem rr_22 (b10 b11 b12 b13 b14 b15 : Bool) : iRow 22 false [false, true, true, true, false, false, false, false, false, false, b10, b11, b12, b13, b14, b15] = (22, H [b13, b14, b15], H [b10, b11, b12], 0, 0, 0, 0, false, ()) := by
  kernel_rfl
theorem fw_22 (b10 b11 b12 b13 b14 b15 : Bool)  : okB 22 (H [b13, b14, b15]) (H [b10, b11, b12]) (0) (0) (0) (0) false = true ∧ (V_hauberkref02_Bits (22, false)).length = 16 ∧ hl (ltr (H [b13, b14, b15]) (H [b10, b11, b12]) (0) (0) (0) (0)) (V_hauberkref02_Bits (22, false)) = [false, true, true, true, false, false, false, false, false, false, b10, b11, b12, b13, b14, b15] := by
  have := H_nonneg [b13, b14, b15]
  have : H [b13, b14, b15] < 8 := H_lt (l := [b13, b14, b15]) (k := 3) (by simp)
  have := H_nonneg [b10, b11, b12]
  have : H [b10, b11, b12] < 8 := H_lt (l := [b10, b11, b12]) (k := 3) (by simp)
  have g0 : bI (H [b13, b14, b15]) 2 = b13 := bI_H [b13, b14, b15] 2 (by simp)
  have g1 : bI (H [b13, b14, b15]) 1 = b14 := bI_H [b13, b14, b15] 1 (by simp)
  have g2 : bI (H [b13, b14, b15]) 0 = b15 := bI_H [b13, b14, b15] 0 (by simp)
  have g3 : bI (H [b10, b11, b12]) 2 = b10 := bI_H [b10, b11, b12] 2 (by simp)
  have g4 : bI (H [b10, b11, b12]) 1 = b11 := bI_H [b10, b11, b12] 1 (by simp)
  have g5 : bI (H [b10, b11, b12]) 0 = b12 := bI_H [b10, b11, b12] 0 (by simp)
  refine ⟨by
      simp [okB]
      try omega
    , by kernel_rfl, by
      have e : ∀ rd rn rm ra imm cond : Int, hl (ltr rd rn rm ra imm cond) (V_hauberkref02_Bits (22, false)) = [false, true, true, true, false, false, false, false, false, false, bI rn 2, bI rn 1, bI rn 0, bI rd 2, bI rd 1, bI rd 0] := by intro rd rn rm ra imm cond; kernel_rfl
      rw [e]
      simp only [g3, g4, g5, g0, g1, g2]
    ⟩
theorem rr_23 (b10 b11 b12 b13 b14 b15 : Bool) : iRow 23 false [false, true, false, false, false, false, true, false, true, false, b10, b11, b12, b13, b14, b15] = (23, 0, H [b13, b14, b15], H [b10, b11, b12], 0, 0, 0, false, ()) := by
  kernel_rfl
theorem fw_23 (b10 b11 b12 b13 b14 b15 : Bool)  : okB 23 (0) (H [b13, b14, b15]) (H [b10, b11, b12]) (0) (0) (0) false = true ∧ (V_hauberkref02_Bits (23, false)).length = 16 ∧ hl (ltr (0) (H [b13, b14, b15]) (H [b10, b11, b12]) (0) (0) (0)) (V_hauberkref02_Bits (23, false)) = [false, true, false, false, false, false, true, false, true, false, b10, b11, b12, b13, b14, b15] := by
  have := H_nonneg [b13, b14, b15]
  have : H [b13, b14, b15] < 8 := H_lt (l := [b13, b14, b15]) (k := 3) (by simp)
  have := H_nonneg [b10, b11, b12]
  have : H [b10, b11, b12] < 8 := H_lt (l := [b10, b11, b12]) (k := 3) (by simp)
  have g0 : bI (H [b13, b14, b15]) 2 = b13 := bI_H [b13, b14, b15] 2 (by simp)
  have g1 : bI (H [b13, b14, b15]) 1 = b14 := bI_H [b13, b14, b15] 1 (by simp)
  have g2 : bI (H [b13, b14, b15]) 0 = b15 := bI_H [b13, b14, b15] 0 (by simp)
  have g3 : bI (H [b10, b11, b12]) 2 = b10 := bI_H [b10, b11, b12] 2 (by simp)
  have g4 : bI (H [b10, b11, b12]) 1 = b11 := bI_H [b10, b11, b12] 1 (by simp)
  have g5 : bI (H [b10, b11, b12]) 0 = b12 := bI_H [b10, b11, b12] 0 (by simp)
  refine ⟨by
      simp [okB]
      try omega
    , by kernel_rfl, by
      have e : ∀ rd rn rm ra imm cond : Int, hl (ltr rd rn rm ra imm cond) (V_hauberkref02_Bits (23, false)) = [false, true, false, false, false, false, true, false, true, false, bI rm 2, bI rm 1, bI rm 0, bI rn 2, bI rn 1, bI rn 0] := by intro rd rn rm ra imm cond; kernel_rfl
      rw [e]
      simp only [g3, g4, g5, g0, g1, g2]
    ⟩
theorem rr_24 (b5 b6 b7 b8 b9 b10 b11 b12 b13 b14 b15 : Bool) : iRow 24 false [true, true, true, false, false, b5, b6, b7, b8, b9, b10, b11, b12, b13, b14, b15] = (24, 0, 0, 0, 0, SG [b5, b6, b7, b8, b9, b10, b11, b12, b13, b14, b15, false], 0, false, ()) := by
  have e : iRow 24 false [true, true, true, false, false, b5, b6, b7, b8, b9, b10, b11, b12, b13, b14, b15] = (24, 0, 0, 0, 0, V_hauberkref03_sign (((immN [(11, b5), (10, b6), (9, b7), (8, b8), (7, b9), (6, b10), (5, b11), (4, b12), (3, b13), (2, b14), (1, b15)] : Nat) : Int), 11), 0, false, ()) := by kernel_rfl
  have e2 : immN [(11, b5), (10, b6), (9, b7), (8, b8), (7, b9), (6, b10), (5, b11), (4, b12), (3, b13), (2, b14), (1, b15)] = hb [b5, b6, b7, b8, b9, b10, b11, b12, b13, b14, b15, false] 0 := by
    simp only [immN, hb, Bool.toNat_false, Nat.reducePow, Nat.mul_zero, Nat.zero_add, Nat.add_zero]
    omega
  rw [e, e2]
  have e3 : V_hauberkref03_sign (((hb [b5, b6, b7, b8, b9, b10, b11, b12, b13, b14, b15, false] 0 : Nat) : Int), 11) = SG [b5, b6, b7, b8, b9, b10, b11, b12, b13, b14, b15, false] := sign_SG b5 [b6, b7, b8, b9, b10, b11, b12, b13, b14, b15, false]
  rw [e3]
theorem fw_24 (b5 b6 b7 b8 b9 b10 b11 b12 b13 b14 b15 : Bool)  : okB 24 (0) (0) (0) (0) (SG [b5, b6, b7, b8, b9, b10, b11, b12, b13, b14, b15, false]) (0) false = true ∧ (V_hauberkref02_Bits (24, false)).length = 16 ∧ hl (ltr (0) (0) (0) (0) (SG [b5, b6, b7, b8, b9, b10, b11, b12, b13, b14, b15, false]) (0)) (V_hauberkref02_Bits (24, false)) = [true, true, true, false, false, b5, b6, b7, b8, b9, b10, b11, b12, b13, b14, b15] := by
  have := SG_even b5 [b6, b7, b8, b9, b10, b11, b12, b13, b14, b15]
  have hev : SG [b5, b6, b7, b8, b9, b10, b11, b12, b13, b14, b15, false] % 2 = 0 := this
  have hlt : -2048 ≤ SG [b5, b6, b7, b8, b9, b10, b11, b12, b13, b14, b15, false] ∧ SG [b5, b6, b7, b8, b9, b10, b11, b12, b13, b14, b15, false] < 2048 := SG_in b5 [b6, b7, b8, b9, b10, b11, b12, b13, b14, b15, false] 11 (by simp)
  have g0 : bI (SG [b5, b6, b7, b8, b9, b10, b11, b12, b13, b14, b15, false]) 11 = b5 := bI_SG b5 [b6, b7, b8, b9, b10, b11, b12, b13, b14, b15, false] 11 (by simp)
  have g1 : bI (SG [b5, b6, b7, b8, b9, b10, b11, b12, b13, b14, b15, false]) 10 = b6 := bI_SG b5 [b6, b7, b8, b9, b10, b11, b12, b13, b14, b15, false] 10 (by simp)
  have g2 : bI (SG [b5, b6, b7, b8, b9, b10, b11, b12, b13, b14, b15, false]) 9 = b7 := bI_SG b5 [b6, b7, b8, b9, b10, b11, b12, b13, b14, b15, false] 9 (by simp)
  have g3 : bI (SG [b5, b6, b7, b8, b9, b10, b11, b12, b13, b14, b15, false]) 8 = b8 := bI_SG b5 [b6, b7, b8, b9, b10, b11, b12, b13, b14, b15, false] 8 (by simp)
  have g4 : bI (SG [b5, b6, b7, b8, b9, b10, b11, b12, b13, b14, b15, false]) 7 = b9 := bI_SG b5 [b6, b7, b8, b9, b10, b11, b12, b13, b14, b15, false] 7 (by simp)
  have g5 : bI (SG [b5, b6, b7, b8, b9, b10, b11, b12, b13, b14, b15, false]) 6 = b10 := bI_SG b5 [b6, b7, b8, b9, b10, b11, b12, b13, b14, b15, false] 6 (by simp)
  have g6 : bI (SG [b5, b6, b7, b8, b9, b10, b11, b12, b13, b14, b15, false]) 5 = b11 := bI_SG b5 [b6, b7, b8, b9, b10, b11, b12, b13, b14, b15, false] 5 (by simp)
  have g7 : bI (SG [b5, b6, b7, b8, b9, b10, b11, b12, b13, b14, b15, false]) 4 = b12 := bI_SG b5 [b6, b7, b8, b9, b10, b11, b12, b13, b14, b15, false] 4 (by simp)
  have g8 : bI (SG [b5, b6, b7, b8, b9, b10, b11, b12, b13, b14, b15, false]) 3 = b13 := bI_SG b5 [b6, b7, b8, b9, b10, b11, b12, b13, b14, b15, false] 3 (by simp)
  have g9 : bI (SG [b5, b6, b7, b8, b9, b10, b11, b12, b13, b14, b15, false]) 2 = b14 := bI_SG b5 [b6, b7, b8, b9, b10, b11, b12, b13, b14, b15, false] 2 (by simp)
  have g10 : bI (SG [b5, b6, b7, b8, b9, b10, b11, b12, b13, b14, b15, false]) 1 = b15 := bI_SG b5 [b6, b7, b8, b9, b10, b11, b12, b13, b14, b15, false] 1 (by simp)
  refine ⟨by
      simp [okB]
      try omega
    , by kernel_rfl, by
      have e : ∀ rd rn rm ra imm cond : Int, hl (ltr rd rn rm ra imm cond) (V_hauberkref02_Bits (24, false)) = [true, true, true, false, false, bI imm 11, bI imm 10, bI imm 9, bI imm 8, bI imm 7, bI imm 6, bI imm 5, bI imm 4, bI imm 3, bI imm 2, bI imm 1] := by intro rd rn rm ra imm cond; kernel_rfl
      rw [e]
      simp only [g0, g1, g2, g3, g4, g5, g6, g7, g8, g9, g10]
    ⟩
theorem rr_24w (b5 b6 b7 b8 b9 b10 b11 b12 b13 b14 b15 b18 b20 b21 b22 b23 b24 b25 b26 b27 b28 b29 b30 b31 : Bool) : iRow 24 true [true, true, true, true, false, b5, b6, b7, b8, b9, b10, b11, b12, b13, b14, b15, true, false, b18, true, b20, b21, b22, b23, b24, b25, b26, b27, b28, b29, b30, b31] = (24, 0, 0, 0, 0, SG [b5, nx b18 b5, nx b20 b5, b6, b7, b8, b9, b10, b11, b12, b13, b14, b15, b21, b22, b23, b24, b25, b26, b27, b28, b29, b30, b31, false], 0, true, ()) := by
  have e : iRow 24 true [true, true, true, true, false, b5, b6, b7, b8, b9, b10, b11, b12, b13, b14, b15, true, false, b18, true, b20, b21, b22, b23, b24, b25, b26, b27, b28, b29, b30, b31] = (24, 0, 0, 0, 0, V_hauberkref03_sign (w64 (w64 (((immN [(24, b5), (21, b6), (20, b7), (19, b8), (18, b9), (17, b10), (16, b11), (15, b12), (14, b13), (13, b14), (12, b15), (11, b21), (10, b22), (9, b23), (8, b24), (7, b25), (6, b26), (5, b27), (4, b28), (3, b29), (2, b30), (1, b31)] : Nat) : Int) + w64 (Int.tmod (w64 (w64 (bN b18 + bN b5) + 1)) 2 * 8388608)) + w64 (Int.tmod (w64 (w64 (bN b20 + bN b5) + 1)) 2 * 4194304)), 24), 0, true, ()) := by kernel_rfl
  have := Bool.toNat_le b5
  have := Bool.toNat_le b6
  have := Bool.toNat_le b7
  have := Bool.toNat_le b8
  have := Bool.toNat_le b9
  have := Bool.toNat_le b10
  have := Bool.toNat_le b11
  have := Bool.toNat_le b12
  have := Bool.toNat_le b13
  have := Bool.toNat_le b14
  have := Bool.toNat_le b15
  have := Bool.toNat_le b21
  have := Bool.toNat_le b22
  have := Bool.toNat_le b23
  have := Bool.toNat_le b24
  have := Bool.toNat_le b25
  have := Bool.toNat_le b26
  have := Bool.toNat_le b27
  have := Bool.toNat_le b28
  have := Bool.toNat_le b29
  have := Bool.toNat_le b30
  have := Bool.toNat_le b31
  have e2 : w64 (w64 (((immN [(24, b5), (21, b6), (20, b7), (19, b8), (18, b9), (17, b10), (16, b11), (15, b12), (14, b13), (13, b14), (12, b15), (11, b21), (10, b22), (9, b23), (8, b24), (7, b25), (6, b26), (5, b27), (4, b28), (3, b29), (2, b30), (1, b31)] : Nat) : Int) + w64 (Int.tmod (w64 (w64 (bN b18 + bN b5) + 1)) 2 * 8388608)) + w64 (Int.tmod (w64 (w64 (bN b20 + bN b5) + 1)) 2 * 4194304)) = ((hb [b5, nx b18 b5, nx b20 b5, b6, b7, b8, b9, b10, b11, b12, b13, b14, b15, b21, b22, b23, b24, b25, b26, b27, b28, b29, b30, b31, false] 0 : Nat) : Int) := by
    rw [fin24 (immN [(24, b5), (21, b6), (20, b7), (19, b8), (18, b9), (17, b10), (16, b11), (15, b12), (14, b13), (13, b14), (12, b15), (11, b21), (10, b22), (9, b23), (8, b24), (7, b25), (6, b26), (5, b27), (4, b28), (3, b29), (2, b30), (1, b31)]) (by simp only [immN]; omega) b18 b20 b5]
    refine congrArg Nat.cast ?_
    simp only [immN, hb, Bool.toNat_false]
    omega
  rw [e, e2]
  have e3 : V_hauberkref03_sign (((hb [b5, nx b18 b5, nx b20 b5, b6, b7, b8, b9, b10, b11, b12, b13, b14, b15, b21, b22, b23, b24, b25, b26, b27, b28, b29, b30, b31, false] 0 : Nat) : Int), 24) = SG [b5, nx b18 b5, nx b20 b5, b6, b7, b8, b9, b10, b11, b12, b13, b14, b15, b21, b22, b23, b24, b25, b26, b27, b28, b29, b30, b31, false] := sign_SG b5 [nx b18 b5, nx b20 b5, b6, b7, b8, b9, b10, b11, b12, b13, b14, b15, b21, b22, b23, b24, b25, b26, b27, b28, b29, b30, b31, false]
  rw [e3]
theorem fw_24w (b5 b6 b7 b8 b9 b10 b11 b12 b13 b14 b15 b18 b20 b21 b22 b23 b24 b25 b26 b27 b28 b29 b30 b31 : Bool)  : okB 24 (0) (0) (0) (0) (SG [b5, nx b18 b5, nx b20 b5, b6, b7, b8, b9, b10, b11, b12, b13, b14, b15, b21, b22, b23, b24, b25, b26, b27, b28, b29, b30, b31, false]) (0) true = true ∧ (V_hauberkref02_Bits (24, true)).length = 32 ∧ hl (ltr (0) (0) (0) (0) (SG [b5, nx b18 b5, nx b20 b5, b6, b7, b8, b9, b10, b11, b12, b13, b14, b15, b21, b22, b23, b24, b25, b26, b27, b28, b29, b30, b31, false]) (0)) ((V_hauberkref02_Bits (24, true)).take 16) = [true, true, true, true, false, b5, b6, b7, b8, b9, b10, b11, b12, b13, b14, b15] ∧ hl (ltr (0) (0) (0) (0) (SG [b5, nx b18 b5, nx b20 b5, b6, b7, b8, b9, b10, b11, b12, b13, b14, b15, b21, b22, b23, b24, b25, b26, b27, b28, b29, b30, b31, false]) (0)) ((V_hauberkref02_Bits (24, true)).drop 16) = [true, false, b18, true, b20, b21, b22, b23, b24, b25, b26, b27, b28, b29, b30, b31] := by
  have := SG_even b5 [nx b18 b5, nx b20 b5, b6, b7, b8, b9, b10, b11, b12, b13, b14, b15, b21, b22, b23, b24, b25, b26, b27, b28, b29, b30, b31]
  have hev : SG [b5, nx b18 b5, nx b20 b5, b6, b7, b8, b9, b10, b11, b12, b13, b14, b15, b21, b22, b23, b24, b25, b26, b27, b28, b29, b30, b31, false] % 2 = 0 := this
  have hlt : -16777216 ≤ SG [b5, nx b18 b5, nx b20 b5, b6, b7, b8, b9, b10, b11, b12, b13, b14, b15, b21, b22, b23, b24, b25, b26, b27, b28, b29, b30, b31, false] ∧ SG [b5, nx b18 b5, nx b20 b5, b6, b7, b8, b9, b10, b11, b12, b13, b14, b15, b21, b22, b23, b24, b25, b26, b27, b28, b29, b30, b31, false] < 16777216 := SG_in b5 [nx b18 b5, nx b20 b5, b6, b7, b8, b9, b10, b11, b12, b13, b14, b15, b21, b22, b23, b24, b25, b26, b27, b28, b29, b30, b31, false] 24 (by simp)
  have g0 : bI (SG [b5, nx b18 b5, nx b20 b5, b6, b7, b8, b9, b10, b11, b12, b13, b14, b15, b21, b22, b23, b24, b25, b26, b27, b28, b29, b30, b31, false]) 24 = b5 := bI_SG b5 [nx b18 b5, nx b20 b5, b6, b7, b8, b9, b10, b11, b12, b13, b14, b15, b21, b22, b23, b24, b25, b26, b27, b28, b29, b30, b31, false] 24 (by simp)
  have g1 : bI (SG [b5, nx b18 b5, nx b20 b5, b6, b7, b8, b9, b10, b11, b12, b13, b14, b15, b21, b22, b23, b24, b25, b26, b27, b28, b29, b30, b31, false]) 23 = nx b18 b5 := bI_SG b5 [nx b18 b5, nx b20 b5, b6, b7, b8, b9, b10, b11, b12, b13, b14, b15, b21, b22, b23, b24, b25, b26, b27, b28, b29, b30, b31, false] 23 (by simp)
  have g2 : bI (SG [b5, nx b18 b5, nx b20 b5, b6, b7, b8, b9, b10, b11, b12, b13, b14, b15, b21, b22, b23, b24, b25, b26, b27, b28, b29, b30, b31, false]) 22 = nx b20 b5 := bI_SG b5 [nx b18 b5, nx b20 b5, b6, b7, b8, b9, b10, b11, b12, b13, b14, b15, b21, b22, b23, b24, b25, b26, b27, b28, b29, b30, b31, false] 22 (by simp)
  have g3 : bI (SG [b5, nx b18 b5, nx b20 b5, b6, b7, b8, b9, b10, b11, b12, b13, b14, b15, b21, b22, b23, b24, b25, b26, b27, b28, b29, b30, b31, false]) 21 = b6 := bI_SG b5 [nx b18 b5, nx b20 b5, b6, b7, b8, b9, b10, b11, b12, b13, b14, b15, b21, b22, b23, b24, b25, b26, b27, b28, b29, b30, b31, false] 21 (by simp)
  have g4 : bI (SG [b5, nx b18 b5, nx b20 b5, b6, b7, b8, b9, b10, b11, b12, b13, b14, b15, b21, b22, b23, b24, b25, b26, b27, b28, b29, b30, b31, false]) 20 = b7 := bI_SG b5 [nx b18 b5, nx b20 b5, b6, b7, b8, b9, b10, b11, b12, b13, b14, b15, b21, b22, b23, b24, b25, b26, b27, b28, b29, b30, b31, false] 20 (by simp)
  have g5 : bI (SG [b5, nx b18 b5, nx b20 b5, b6, b7, b8, b9, b10, b11, b12, b13, b14, b15, b21, b22, b23, b24, b25, b26, b27, b28, b29, b30, b31, false]) 19 = b8 := bI_SG b5 [nx b18 b5, nx b20 b5, b6, b7, b8, b9, b10, b11, b12, b13, b14, b15, b21, b22, b23, b24, b25, b26, b27, b28, b29, b30, b31, false] 19 (by simp)
  have g6 : bI (SG [b5, nx b18 b5, nx b20 b5, b6, b7, b8, b9, b10, b11, b12, b13, b14, b15, b21, b22, b23, b24, b25, b26, b27, b28, b29, b30, b31, false]) 18 = b9 := bI_SG b5 [nx b18 b5, nx b20 b5, b6, b7, b8, b9, b10, b11, b12, b13, b14, b15, b21, b22, b23, b24, b25, b26, b27, b28, b29, b30, b31, false] 18 (by simp)
  have g7 : bI (SG [b5, nx b18 b5, nx b20 b5, b6, b7, b8, b9, b10, b11, b12, b13, b14, b15, b21, b22, b23, b24, b25, b26, b27, b28, b29, b30, b31, false]) 17 = b10 := bI_SG b5 [nx b18 b5, nx b20 b5, b6, b7, b8, b9, b10, b11, b12, b13, b14, b15, b21, b22, b23, b24, b25, b26, b27, b28, b29, b30, b31, false] 17 (by simp)
  have g8 : bI (SG [b5, nx b18 b5, nx b20 b5, b6, b7, b8, b9, b10, b11, b12, b13, b14, b15, b21, b22, b23, b24, b25, b26, b27, b28, b29, b30, b31, false]) 16 = b11 := bI_SG b5 [nx b18 b5, nx b20 b5, b6, b7, b8, b9, b10, b11, b12, b13, b14, b15, b21, b22, b23, b24, b25, b26, b27, b28, b29, b30, b31, false] 16 (by simp)
  have g9 : bI (SG [b5, nx b18 b5, nx b20 b5, b6, b7, b8, b9, b10, b11, b12, b13, b14, b15, b21, b22, b23, b24, b25, b26, b27, b28, b29, b30, b31, false]) 15 = b12 := bI_SG b5 [nx b18 b5, nx b20 b5, b6, b7, b8, b9, b10, b11, b12, b13, b14, b15, b21, b22, b23, b24, b25, b26, b27, b28, b29, b30, b31, false] 15 (by simp)
  have g10 : bI (SG [b5, nx b18 b5, nx b20 b5, b6, b7, b8, b9, b10, b11, b12, b13, b14, b15, b21, b22, b23, b24, b25, b26, b27, b28, b29, b30, b31, false]) 14 = b13 := bI_SG b5 [nx b18 b5, nx b20 b5, b6, b7, b8, b9, b10, b11, b12, b13, b14, b15, b21, b22, b23, b24, b25, b26, b27, b28, b29, b30, b31, false] 14 (by simp)
  have g11 : bI (SG [b5, nx b18 b5, nx b20 b5, b6, b7, b8, b9, b10, b11, b12, b13, b14, b15, b21, b22, b23, b24, b25, b26, b27, b28, b29, b30, b31, false]) 13 = b14 := bI_SG b5 [nx b18 b5, nx b20 b5, b6, b7, b8, b9, b10, b11, b12, b13, b14, b15, b21, b22, b23, b24, b25, b26, b27, b28, b29, b30, b31, false] 13 (by simp)
  have g12 : bI (SG [b5, nx b18 b5, nx b20 b5, b6, b7, b8, b9, b10, b11, b12, b13, b14, b15, b21, b22, b23, b24, b25, b26, b27, b28, b29, b30, b31, false]) 12 = b15 := bI_SG b5 [nx b18 b5, nx b20 b5, b6, b7, b8, b9, b10, b11, b12, b13, b14, b15, b21, b22, b23, b24, b25, b26, b27, b28, b29, b30, b31, false] 12 (by simp)
  have g13 : bI (SG [b5, nx b18 b5, nx b20 b5, b6, b7, b8, b9, b10, b11, b12, b13, b14, b15, b21, b22, b23, b24, b25, b26, b27, b28, b29, b30, b31, false]) 11 = b21 := bI_SG b5 [nx b18 b5, nx b20 b5, b6, b7, b8, b9, b10, b11, b12, b13, b14, b15, b21, b22, b23, b24, b25, b26, b27, b28, b29, b30, b31, false] 11 (by simp)
  have g14 : bI (SG [b5, nx b18 b5, nx b20 b5, b6, b7, b8, b9, b10, b11, b12, b13, b14, b15, b21, b22, b23, b24, b25, b26, b27, b28, b29, b30, b31, false]) 10 = b22 := bI_SG b5 [nx b18 b5, nx b20 b5, b6, b7, b8, b9, b10, b11, b12, b13, b14, b15, b21, b22, b23, b24, b25, b26, b27, b28, b29, b30, b31, false] 10 (by simp)
  have g15 : bI (SG [b5, nx b18 b5, nx b20 b5, b6, b7, b8, b9, b10, b11, b12, b13, b14, b15, b21, b22, b23, b24, b25, b26, b27, b28, b29, b30, b31, false]) 9 = b23 := bI_SG b5 [nx b18 b5, nx b20 b5, b6, b7, b8, b9, b10, b11, b12, b13, b14, b15, b21, b22, b23, b24, b25, b26, b27, b28, b29, b30, b31, false] 9 (by simp)
  have g16 : bI (SG [b5, nx b18 b5, nx b20 b5, b6, b7, b8, b9, b10, b11, b12, b13, b14, b15, b21, b22, b23, b24, b25, b26, b27, b28, b29, b30, b31, false]) 8 = b24 := bI_SG b5 [nx b18 b5, nx b20 b5, b6, b7, b8, b9, b10, b11, b12, b13, b14, b15, b21, b22, b23, b24, b25, b26, b27, b28, b29, b30, b31, false] 8 (by simp)
  have g17 : bI (SG [b5, nx b18 b5, nx b20 b5, b6, b7, b8, b9, b10, b11, b12, b13, b14, b15, b21, b22, b23, b24, b25, b26, b27, b28, b29, b30, b31, false]) 7 = b25 := bI_SG b5 [nx b18 b5, nx b20 b5, b6, b7, b8, b9, b10, b11, b12, b13, b14, b15, b21, b22, b23, b24, b25, b26, b27, b28, b29, b30, b31, false] 7 (by simp)
  have g18 : bI (SG [b5, nx b18 b5, nx b20 b5, b6, b7, b8, b9, b10, b11, b12, b13, b14, b15, b21, b22, b23, b24, b25, b26, b27, b28, b29, b30, b31, false]) 6 = b26 := bI_SG b5 [nx b18 b5, nx b20 b5, b6, b7, b8, b9, b10, b11, b12, b13, b14, b15, b21, b22, b23, b24, b25, b26, b27, b28, b29, b30, b31, false] 6 (by simp)
  have g19 : bI (SG [b5, nx b18 b5, nx b20 b5, b6, b7, b8, b9, b10, b11, b12, b13, b14, b15, b21, b22, b23, b24, b25, b26, b27, b28, b29, b30, b31, false]) 5 = b27 := bI_SG b5 [nx b18 b5, nx b20 b5, b6, b7, b8, b9, b10, b11, b12, b13, b14, b15, b21, b22, b23, b24, b25, b26, b27, b28, b29, b30, b31, false] 5 (by simp)
  have g20 : bI (SG [b5, nx b18 b5, nx b20 b5, b6, b7, b8, b9, b10, b11, b12, b13, b14, b15, b21, b22, b23, b24, b25, b26, b27, b28, b29, b30, b31, false]) 4 = b28 := bI_SG b5 [nx b18 b5, nx b20 b5, b6, b7, b8, b9, b10, b11, b12, b13, b14, b15, b21, b22, b23, b24, b25, b26, b27, b28, b29, b30, b31, false] 4 (by simp)
  have g21 : bI (SG [b5, nx b18 b5, nx b20 b5, b6, b7, b8, b9, b10, b11, b12, b13, b14, b15, b21, b22, b23, b24, b25, b26, b27, b28, b29, b30, b31, false]) 3 = b29 := bI_SG b5 [nx b18 b5, nx b20 b5, b6, b7, b8, b9, b10, b11, b12, b13, b14, b15, b21, b22, b23, b24, b25, b26, b27, b28, b29, b30, b31, false] 3 (by simp)
  have g22 : bI (SG [b5, nx b18 b5, nx b20 b5, b6, b7, b8, b9, b10, b11, b12, b13, b14, b15, b21, b22, b23, b24, b25, b26, b27, b28, b29, b30, b31, false]) 2 = b30 := bI_SG b5 [nx b18 b5, nx b20 b5, b6, b7, b8, b9, b10, b11, b12, b13, b14, b15, b21, b22, b23, b24, b25, b26, b27, b28, b29, b30, b31, false] 2 (by simp)
  have g23 : bI (SG [b5, nx b18 b5, nx b20 b5, b6, b7, b8, b9, b10, b11, b12, b13, b14, b15, b21, b22, b23, b24, b25, b26, b27, b28, b29, b30, b31, false]) 1 = b31 := bI_SG b5 [nx b18 b5, nx b20 b5, b6, b7, b8, b9, b10, b11, b12, b13, b14, b15, b21, b22, b23, b24, b25, b26, b27, b28, b29, b30, b31, false] 1 (by simp)
  refine ⟨okB_24w _ hev hlt.1 (by omega)
    , by kernel_rfl, by
      have e : ∀ rd rn rm ra imm cond : Int, hl (ltr rd rn rm ra imm cond) ((V_hauberkref02_Bits (24, true)).take 16) = [true, true, true, true, false, bI imm 24, bI imm 21, bI imm 20, bI imm 19, bI imm 18, bI imm 17, bI imm 16, bI imm 15, bI imm 14, bI imm 13, bI imm 12] := by intro rd rn rm ra imm cond; kernel_rfl
      rw [e]
      simp only [g0, g3, g4, g5, g6, g7, g8, g9, g10, g11, g12]
    , by
      have e : ∀ rd rn rm ra imm cond : Int, hl (ltr rd rn rm ra imm cond) ((V_hauberkref02_Bits (24, true)).drop 16) = [true, false, !(bI imm 23 ^^ bI imm 24), true, !(bI imm 22 ^^ bI imm 24), bI imm 11, bI imm 10, bI imm 9, bI imm 8, bI imm 7, bI imm 6, bI imm 5, bI imm 4, bI imm 3, bI imm 2, bI imm 1] := by intro rd rn rm ra imm cond; kernel_rfl
      rw [e]
      simp only [g1, g0, nx_nx, g2, g13, g14, g15, g16, g17, g18, g19, g20, g21, g22, g23]
    ⟩
theorem rr_25 (b4 b5 b6 b7 b8 b9 b10 b11 b12 b13 b14 b15 : Bool) : iRow 25 false [true, true, false, true, b4, b5, b6, b7, b8, b9, b10, b11, b12, b13, b14, b15] = (25, 0, 0, 0, 0, SG [b8, b9, b10, b11, b12, b13, b14, b15, false], H [b4, b5, b6, b7], false, ()) := by
  have e : iRow 25 false [true, true, false, true, b4, b5, b6, b7, b8, b9, b10, b11, b12, b13, b14, b15] = (25, 0, 0, 0, 0, V_hauberkref03_sign (((immN [(8, b8), (7, b9), (6, b10), (5, b11), (4, b12), (3, b13), (2, b14), (1, b15)] : Nat) : Int), 8), H [b4, b5, b6, b7], false, ()) := by kernel_rfl
  have e2 : immN [(8, b8), (7, b9), (6, b10), (5, b11), (4, b12), (3, b13), (2, b14), (1, b15)] = hb [b8, b9, b10, b11, b12, b13, b14, b15, false] 0 := by
    simp only [immN, hb, Bool.toNat_false, Nat.reducePow, Nat.mul_zero, Nat.zero_add, Nat.add_zero]
    omega
  rw [e, e2]
  have e3 : V_hauberkref03_sign (((hb [b8, b9, b10, b11, b12, b13, b14, b15, false] 0 : Nat) : Int), 8) = SG [b8, b9, b10, b11, b12, b13, b14, b15, false] := sign_SG b8 [b9, b10, b11, b12, b13, b14, b15, false]
  rw [e3]
theorem fw_25 (b4 b5 b6 b7 b8 b9 b10 b11 b12 b13 b14 b15 : Bool) (h0 : H [b4, b5, b6, b7] ≤ 13) : okB 25 (0) (0) (0) (0) (SG [b8, b9, b10, b11, b12, b13, b14, b15, false]) (H [b4, b5, b6, b7]) false = true ∧ (V_hauberkref02_Bits (25, false)).length = 16 ∧ hl (ltr (0) (0) (0) (0) (SG [b8, b9, b10, b11, b12, b13, b14, b15, false]) (H [b4, b5, b6, b7])) (V_hauberkref02_Bits (25, false)) = [true, true, false, true, b4, b5, b6, b7, b8, b9, b10, b11, b12, b13, b14, b15] := by
  have := H_nonneg [b4, b5, b6, b7]
  have : H [b4, b5, b6, b7] < 16 := H_lt (l := [b4, b5, b6, b7]) (k := 4) (by simp)
  have := SG_even b8 [b9, b10, b11, b12, b13, b14, b15]
  have hev : SG [b8, b9, b10, b11, b12, b13, b14, b15, false] % 2 = 0 := this
  have hlt : -256 ≤ SG [b8, b9, b10, b11, b12, b13, b14, b15, false] ∧ SG [b8, b9, b10, b11, b12, b13, b14, b15, false] < 256 := SG_in b8 [b9, b10, b11, b12, b13, b14, b15, false] 8 (by simp)
  have g0 : bI (H [b4, b5, b6, b7]) 3 = b4 := bI_H [b4, b5, b6, b7] 3 (by simp)
  have g1 : bI (H [b4, b5, b6, b7]) 2 = b5 := bI_H [b4, b5, b6, b7] 2 (by simp)
  have g2 : bI (H [b4, b5, b6, b7]) 1 = b6 := bI_H [b4, b5, b6, b7] 1 (by simp)
  have g3 : bI (H [b4, b5, b6, b7]) 0 = b7 := bI_H [b4, b5, b6, b7] 0 (by simp)
  have g4 : bI (SG [b8, b9, b10, b11, b12, b13, b14, b15, false]) 8 = b8 := bI_SG b8 [b9, b10, b11, b12, b13, b14, b15, false] 8 (by simp)
  have g5 : bI (SG [b8, b9, b10, b11, b12, b13, b14, b15, false]) 7 = b9 := bI_SG b8 [b9, b10, b11, b12, b13, b14, b15, false] 7 (by simp)
  have g6 : bI (SG [b8, b9, b10, b11, b12, b13, b14, b15, false]) 6 = b10 := bI_SG b8 [b9, b10, b11, b12, b13, b14, b15, false] 6 (by simp)
  have g7 : bI (SG [b8, b9, b10, b11, b12, b13, b14, b15, false]) 5 = b11 := bI_SG b8 [b9, b10, b11, b12, b13, b14, b15, false] 5 (by simp)
  have g8 : bI (SG [b8, b9, b10, b11, b12, b13, b14, b15, false]) 4 = b12 := bI_SG b8 [b9, b10, b11, b12, b13, b14, b15, false] 4 (by simp)
  have g9 : bI (SG [b8, b9, b10, b11, b12, b13, b14, b15, false]) 3 = b13 := bI_SG b8 [b9, b10, b11, b12, b13, b14, b15, false] 3 (by simp)
  have g10 : bI (SG [b8, b9, b10, b11, b12, b13, b14, b15, false]) 2 = b14 := bI_SG b8 [b9, b10, b11, b12, b13, b14, b15, false] 2 (by simp)
  have g11 : bI (SG [b8, b9, b10, b11, b12, b13, b14, b15, false]) 1 = b15 := bI_SG b8 [b9, b10, b11, b12, b13, b14, b15, false] 1 (by simp)
  refine ⟨by
      simp [okB]
      try omega
    , by kernel_rfl, by
      have e : ∀ rd rn rm ra imm cond : Int, hl (ltr rd rn rm ra imm cond) (V_hauberkref02_Bits (25, false)) = [true, true, false, true, bI cond 3, bI cond 2, bI cond 1, bI cond 0, bI imm 8, bI imm 7, bI imm 6, bI imm 5, bI imm 4, bI imm 3, bI imm 2, bI imm 1] := by intro rd rn rm ra imm cond; kernel_rfl
      rw [e]
      simp only [g0, g1, g2, g3, g4, g5, g6, g7, g8, g9, g10, g11]
    ⟩
set_option maxHeartbeats 2000000 in
theorem rr_25w (b5 b6 b7 b8 b9 b10 b11 b12 b13 b14 b15 b18 b20 b21 b22 b23 b24 b25 b26 b27 b28 b29 b30 b31 : Bool) : iRow 25 true [true, true, true, true, false, b5, b6, b7, b8, b9, b10, b11, b12, b13, b14, b15, true, false, b18, false, b20, b21, b22, b23, b24, b25, b26, b27, b28, b29, b30, b31] = (25, 0, 0, 0, 0, SG [b5, b20, b18, b10, b11, b12, b13, b14, b15, b21, b22, b23, b24, b25, b26, b27, b28, b29, b30, b31, false], H [b6, b7, b8, b9], true, ()) := by
  have e : iRow 25 true [true, true, true, true, false, b5, b6, b7, b8, b9, b10, b11, b12, b13, b14, b15, true, false, b18, false, b20, b21, b22, b23, b24, b25, b26, b27, b28, b29, b30, b31] = (25, 0, 0, 0, 0, V_hauberkref03_sign (((immN [(20, b5), (17, b10), (16, b11), (15, b12), (14, b13), (13, b14), (12, b15), (18, b18), (19, b20), (11, b21), (10, b22), (9, b23), (8, b24), (7, b25), (6, b26), (5, b27), (4, b28), (3, b29), (2, b30), (1, b31)] : Nat) : Int), 20), H [b6, b7, b8, b9], true, ()) := by kernel_rfl
  have e2 : immN [(20, b5), (17, b10), (16, b11), (15, b12), (14, b13), (13, b14), (12, b15), (18, b18), (19, b20), (11, b21), (10, b22), (9, b23), (8, b24), (7, b25), (6, b26), (5, b27), (4, b28), (3, b29), (2, b30), (1, b31)] = hb [b5, b20, b18, b10, b11, b12, b13, b14, b15, b21, b22, b23, b24, b25, b26, b27, b28, b29, b30, b31, false] 0 := by
    simp only [immN, hb, Bool.toNat_false, Nat.reducePow, Nat.mul_zero, Nat.zero_add, Nat.add_zero]
    omega
  rw [e, e2]
  have e3 : V_hauberkref03_sign (((hb [b5, b20, b18, b10, b11, b12, b13, b14, b15, b21, b22, b23, b24, b25, b26, b27, b28, b29, b30, b31, false] 0 : Nat) : Int), 20) = SG [b5, b20, b18, b10, b11, b12, b13, b14, b15, b21, b22, b23, b24, b25, b26, b27, b28, b29, b30, b31, false] := sign_SG b5 [b20, b18, b10, b11, b12, b13, b14, b15, b21, b22, b23, b24, b25, b26, b27, b28, b29, b30, b31, false]
  rw [e3]
theorem fw_25w (b5 b6 b7 b8 b9 b10 b11 b12 b13 b14 b15 b18 b20 b21 b22 b23 b24 b25 b26 b27 b28 b29 b30 b31 : Bool) (h0 : H [b6, b7, b8, b9] ≤ 13) : okB 25 (0) (0) (0) (0) (SG [b5, b20, b18, b10, b11, b12, b13, b14, b15, b21, b22, b23, b24, b25, b26, b27, b28, b29, b30, b31, false]) (H [b6, b7, b8, b9]) true = true ∧ (V_hauberkref02_Bits (25, true)).length = 32 ∧ hl (ltr (0) (0) (0) (0) (SG [b5, b20, b18, b10, b11, b12, b13, b14, b15, b21, b22, b23, b24, b25, b26, b27, b28, b29, b30, b31, false]) (H [b6, b7, b8, b9])) ((V_hauberkref02_Bits (25, true)).take 16) = [true, true, true, true, false, b5, b6, b7, b8, b9, b10, b11, b12, b13, b14, b15] ∧ hl (ltr (0) (0) (0) (0) (SG [b5, b20, b18, b10, b11, b12, b13, b14, b15, b21, b22, b23, b24, b25, b26, b27, b28, b29, b30, b31, false]) (H [b6, b7, b8, b9])) ((V_hauberkref02_Bits (25, true)).drop 16) = [true, false, b18, false, b20, b21, b22, b23, b24, b25, b26, b27, b28, b29, b30, b31] := by
  have := H_nonneg [b6, b7, b8, b9]
  have : H [b6, b7, b8, b9] < 16 := H_lt (l := [b6, b7, b8, b9]) (k := 4) (by simp)
  have := SG_even b5 [b20, b18, b10, b11, b12, b13, b14, b15, b21, b22, b23, b24, b25, b26, b27, b28, b29, b30, b31]
  have hev : SG [b5, b20, b18, b10, b11, b12, b13, b14, b15, b21, b22, b23, b24, b25, b26, b27, b28, b29, b30, b31, false] % 2 = 0 := this
  have hlt : -1048576 ≤ SG [b5, b20, b18, b10, b11, b12, b13, b14, b15, b21, b22, b23, b24, b25, b26, b27, b28, b29, b30, b31, false] ∧ SG [b5, b20, b18, b10, b11, b12, b13, b14, b15, b21, b22, b23, b24, b25, b26, b27, b28, b29, b30, b31, false] < 1048576 := SG_in b5 [b20, b18, b10, b11, b12, b13, b14, b15, b21, b22, b23, b24, b25, b26, b27, b28, b29, b30, b31, false] 20 (by simp)
  have g0 : bI (H [b6, b7, b8, b9]) 3 = b6 := bI_H [b6, b7, b8, b9] 3 (by simp)
  have g1 : bI (H [b6, b7, b8, b9]) 2 = b7 := bI_H [b6, b7, b8, b9] 2 (by simp)
  have g2 : bI (H [b6, b7, b8, b9]) 1 = b8 := bI_H [b6, b7, b8, b9] 1 (by simp)
  have g3 : bI (H [b6, b7, b8, b9]) 0 = b9 := bI_H [b6, b7, b8, b9] 0 (by simp)
  have g4 : bI (SG [b5, b20, b18, b10, b11, b12, b13, b14, b15, b21, b22, b23, b24, b25, b26, b27, b28, b29, b30, b31, false]) 20 = b5 := bI_SG b5 [b20, b18, b10, b11, b12, b13, b14, b15, b21, b22, b23, b24, b25, b26, b27, b28, b29, b30, b31, false] 20 (by simp)
  have g5 : bI (SG [b5, b20, b18, b10, b11, b12, b13, b14, b15, b21, b22, b23, b24, b25, b26, b27, b28, b29, b30, b31, false]) 19 = b20 := bI_SG b5 [b20, b18, b10, b11, b12, b13, b14, b15, b21, b22, b23, b24, b25, b26, b27, b28, b29, b30, b31, false] 19 (by simp)
  have g6 : bI (SG [b5, b20, b18, b10, b11, b12, b13, b14, b15, b21, b22, b23, b24, b25, b26, b27, b28, b29, b30, b31, false]) 18 = b18 := bI_SG b5 [b20, b18, b10, b11, b12, b13, b14, b15, b21, b22, b23, b24, b25, b26, b27, b28, b29, b30, b31, false] 18 (by simp)
  have g7 : bI (SG [b5, b20, b18, b10, b11, b12, b13, b14, b15, b21, b22, b23, b24, b25, b26, b27, b28, b29, b30, b31, false]) 17 = b10 := bI_SG b5 [b20, b18, b10, b11, b12, b13, b14, b15, b21, b22, b23, b24, b25, b26, b27, b28, b29, b30, b31, false] 17 (by simp)
  have g8 : bI (SG [b5, b20, b18, b10, b11, b12, b13, b14, b15, b21, b22, b23, b24, b25, b26, b27, b28, b29, b30, b31, false]) 16 = b11 := bI_SG b5 [b20, b18, b10, b11, b12, b13, b14, b15, b21, b22, b23, b24, b25, b26, b27, b28, b29, b30, b31, false] 16 (by simp)
  have g9 : bI (SG [b5, b20, b18, b10, b11, b12, b13, b14, b15, b21, b22, b23, b24, b25, b26, b27, b28, b29, b30, b31, false]) 15 = b12 := bI_SG b5 [b20, b18, b10, b11, b12, b13, b14, b15, b21, b22, b23, b24, b25, b26, b27, b28, b29, b30, b31, false] 15 (by simp)
  have g10 : bI (SG [b5, b20, b18, b10, b11, b12, b13, b14, b15, b21, b22, b23, b24, b25, b26, b27, b28, b29, b30, b31, false]) 14 = b13 := bI_SG b5 [b20, b18, b10, b11, b12, b13, b14, b15, b21, b22, b23, b24, b25, b26, b27, b28, b29, b30, b31, false] 14 (by simp)
  have g11 : bI (SG [b5, b20, b18, b10, b11, b12, b13, b14, b15, b21, b22, b23, b24, b25, b26, b27, b28, b29, b30, b31, false]) 13 = b14 := bI_SG b5 [b20, b18, b10, b11, b12, b13, b14, b15, b21, b22, b23, b24, b25, b26, b27, b28, b29, b30, b31, false] 13 (by simp)
  have g12 : bI (SG [b5, b20, b18, b10, b11, b12, b13, b14, b15, b21, b22, b23, b24, b25, b26, b27, b28, b29, b30, b31, false]) 12 = b15 := bI_SG b5 [b20, b18, b10, b11, b12, b13, b14, b15, b21, b22, b23, b24, b25, b26, b27, b28, b29, b30, b31, false] 12 (by simp)
  have g13 : bI (SG [b5, b20, b18, b10, b11, b12, b13, b14, b15, b21, b22, b23, b24, b25, b26, b27, b28, b29, b30, b31, false]) 11 = b21 := bI_SG b5 [b20, b18, b10, b11, b12, b13, b14, b15, b21, b22, b23, b24, b25, b26, b27, b28, b29, b30, b31, false] 11 (by simp)
  have g14 : bI (SG [b5, b20, b18, b10, b11, b12, b13, b14, b15, b21, b22, b23, b24, b25, b26, b27, b28, b29, b30, b31, false]) 10 = b22 := bI_SG b5 [b20, b18, b10, b11, b12, b13, b14, b15, b21, b22, b23, b24, b25, b26, b27, b28, b29, b30, b31, false] 10 (by simp)
  have g15 : bI (SG [b5, b20, b18, b10, b11, b12, b13, b14, b15, b21, b22, b23, b24, b25, b26, b27, b28, b29, b30, b31, false]) 9 = b23 := bI_SG b5 [b20, b18, b10, b11, b12, b13, b14, b15, b21, b22, b23, b24, b25, b26, b27, b28, b29, b30, b31, false] 9 (by simp)
  have g16 : bI (SG [b5, b20, b18, b10, b11, b12, b13, b14, b15, b21, b22, b23, b24, b25, b26, b27, b28, b29, b30, b31, false]) 8 = b24 := bI_SG b5 [b20, b18, b10, b11, b12, b13, b14, b15, b21, b22, b23, b24, b25, b26, b27, b28, b29, b30, b31, false] 8 (by simp)
  have g17 : bI (SG [b5, b20, b18, b10, b11, b12, b13, b14, b15, b21, b22, b23, b24, b25, b26, b27, b28, b29, b30, b31, false]) 7 = b25 := bI_SG b5 [b20, b18, b10, b11, b12, b13, b14, b15, b21, b22, b23, b24, b25, b26, b27, b28, b29, b30, b31, false] 7 (by simp)
  have g18 : bI (SG [b5, b20, b18, b10, b11, b12, b13, b14, b15, b21, b22, b23, b24, b25, b26, b27, b28, b29, b30, b31, false]) 6 = b26 := bI_SG b5 [b20, b18, b10, b11, b12, b13, b14, b15, b21, b22, b23, b24, b25, b26, b27, b28, b29, b30, b31, false] 6 (by simp)
  have g19 : bI (SG [b5, b20, b18, b10, b11, b12, b13, b14, b15, b21, b22, b23, b24, b25, b26, b27, b28, b29, b30, b31, false]) 5 = b27 := bI_SG b5 [b20, b18, b10, b11, b12, b13, b14, b15, b21, b22, b23, b24, b25, b26, b27, b28, b29, b30, b31, false] 5 (by simp)
  have g20 : bI (SG [b5, b20, b18, b10, b11, b12, b13, b14, b15, b21, b22, b23, b24, b25, b26, b27, b28, b29, b30, b31, false]) 4 = b28 := bI_SG b5 [b20, b18, b10, b11, b12, b13, b14, b15, b21, b22, b23, b24, b25, b26, b27, b28, b29, b30, b31, false] 4 (by simp)
  have g21 : bI (SG [b5, b20, b18, b10, b11, b12, b13, b14, b15, b21, b22, b23, b24, b25, b26, b27, b28, b29, b30, b31, false]) 3 = b29 := bI_SG b5 [b20, b18, b10, b11, b12, b13, b14, b15, b21, b22, b23, b24, b25, b26, b27, b28, b29, b30, b31, false] 3 (by simp)
  have g22 : bI (SG [b5, b20, b18, b10, b11, b12, b13, b14, b15, b21, b22, b23, b24, b25, b26, b27, b28, b29, b30, b31, false]) 2 = b30 := bI_SG b5 [b20, b18, b10, b11, b12, b13, b14, b15, b21, b22, b23, b24, b25, b26, b27, b28, b29, b30, b31, false] 2 (by simp)
  have g23 : bI (SG [b5, b20, b18, b10, b11, b12, b13, b14, b15, b21, b22, b23, b24, b25, b26, b27, b28, b29, b30, b31, false]) 1 = b31 := bI_SG b5 [b20, b18, b10, b11, b12, b13, b14, b15, b21, b22, b23, b24, b25, b26, b27, b28, b29, b30, b31, false] 1 (by simp)
  refine ⟨by
      simp [okB]
      try omega
    , by kernel_rfl, by
      have e : ∀ rd rn rm ra imm cond : Int, hl (ltr rd rn rm ra imm cond) ((V_hauberkref02_Bits (25, true)).take 16) = [true, true, true, true, false, bI imm 20, bI cond 3, bI cond 2, bI cond 1, bI cond 0, bI imm 17, bI imm 16, bI imm 15, bI imm 14, bI imm 13, bI imm 12] := by intro rd rn rm ra imm cond; kernel_rfl
      rw [e]
      simp only [g4, g0, g1, g2, g3, g7, g8, g9, g10, g11, g12]
    , by
      have e : ∀ rd rn rm ra imm cond : Int, hl (ltr rd rn rm ra imm cond) ((V_hauberkref02_Bits (25, true)).drop 16) = [true, false, bI imm 18, false, bI imm 19, bI imm 11, bI imm 10, bI imm 9, bI imm 8, bI imm 7, bI imm 6, bI imm 5, bI imm 4, bI imm 3, bI imm 2, bI imm 1] := by intro rd rn rm ra imm cond; kernel_rfl
      rw [e]
      simp only [g6, g5, g13, g14, g15, g16, g17, g18, g19, g20, g21, g22, g23]
    ⟩
end Go.Av
end
/-! Layer 3: what is decoded out of bits has just these bits. Written by wip/tools/decfw2.py. -/
section
namespace Go.Av
open Go
/-- An instruction that there is, with these bits. -/
def Enc1 (i : tIns.den) (l : List Bool) : Prop := ∃ (op rd rn rm ra imm cond : Int) (w : Bool), i = (op, rd, rn, rm, ra, imm, cond, w, ()) ∧ iRow op w l = i ∧ okB op rd rn rm ra imm cond w = true ∧ (V_hauberkref02_Bits (op, w)).length = 16 ∧ hl (ltr rd rn rm ra imm cond) (V_hauberkref02_Bits (op, w)) = l
def Enc2 (i : tIns.den) (lx ly : List Bool) : Prop := ∃ (op rd rn rm ra imm cond : Int) (w : Bool), i = (op, rd, rn, rm, ra, imm, cond, w, ()) ∧ iRow op w (lx ++ ly) = i ∧ okB op rd rn rm ra imm cond w = true ∧ (V_hauberkref02_Bits (op, w)).length = 32 ∧ hl (ltr rd rn rm ra imm cond) ((V_hauberkref02_Bits (op, w)).take 16) = lx ∧ hl (ltr rd rn rm ra imm cond) ((V_hauberkref02_Bits (op, w)).drop 16) = ly
theorem cond_some' {α : Type} {c : Bool} {a b o : α} (h : (bif c then a else b) = o) : (c = true ∧ a = o) ∨ (c = false ∧ b = o) := by
  cases c
  · exact .inr ⟨rfl, h⟩
  · exact .inl ⟨rfl, h⟩
theorem narrow_fw (x0 x1 x2 x3 x4 x5 x6 x7 x8 x9 x10 x11 x12 x13 x14 x15 : Bool) (i : tIns.den) (h : dNarrow [x0, x1, x2, x3, x4, x5, x6, x7, x8, x9, x10, x11, x12, x13, x14, x15] = some i) : Enc1 i [x0, x1, x2, x3, x4, x5, x6, x7, x8, x9, x10, x11, x12, x13, x14, x15] := by
  unfold dNarrow at h
  rcases cond_some' h with ⟨c, g⟩ | ⟨_, g⟩ <;> clear h <;> have h := g <;> clear g
  · simp [eqC, bitsN, sl] at c
    obtain ⟨rfl, rfl, rfl, rfl, rfl, rfl, rfl, rfl, rfl, rfl, rfl, rfl, rfl, rfl, rfl, rfl⟩ := c
    cases h
    exact ⟨1, _, _, _, _, _, _, false, rfl, rr_1 , fw_1 ⟩
  rcases cond_some' h with ⟨c, g⟩ | ⟨_, g⟩ <;> clear h <;> have h := g <;> clear g
  · simp [eqC, bitsN, sl] at c
    obtain ⟨rfl, rfl, rfl, rfl, rfl, rfl, rfl, rfl⟩ := c
    cases h
    exact ⟨2, _, _, _, _, _, _, false, rfl, rr_2 x8 x9 x10 x11 x12 x13 x14 x15, fw_2 x8 x9 x10 x11 x12 x13 x14 x15⟩
  rcases cond_some' h with ⟨c, g⟩ | ⟨_, g⟩ <;> clear h <;> have h := g <;> clear g
  · simp [eqC, bitsN, sl] at c
    obtain ⟨rfl, rfl, rfl, rfl, rfl, rfl, rfl, rfl, rfl, rfl⟩ := c
    cases h
    exact ⟨19, _, _, _, _, _, _, false, rfl, rr_19 x10 x11 x12 x13 x14 x15, fw_19 x10 x11 x12 x13 x14 x15⟩
  rcases cond_some' h with ⟨c, g⟩ | ⟨_, g⟩ <;> clear h <;> have h := g <;> clear g
  · simp [eqC, bitsN, sl] at c
    obtain ⟨rfl, rfl, rfl, rfl, rfl, rfl, rfl, rfl, rfl, rfl⟩ := c
    cases h
    exact ⟨20, _, _, _, _, _, _, false, rfl, rr_20 x10 x11 x12 x13 x14 x15, fw_20 x10 x11 x12 x13 x14 x15⟩
  rcases cond_some' h with ⟨c, g⟩ | ⟨_, g⟩ <;> clear h <;> have h := g <;> clear g
  · simp [eqC, bitsN, sl] at c
    obtain ⟨rfl, rfl, rfl, rfl, rfl, rfl, rfl, rfl, rfl, rfl⟩ := c
    cases h
    exact ⟨21, _, _, _, _, _, _, false, rfl, rr_21 x10 x11 x12 x13 x14 x15, fw_21 x10 x11 x12 x13 x14 x15⟩
  rcases cond_some' h with ⟨c, g⟩ | ⟨_, g⟩ <;> clear h <;> have h := g <;> clear g
  · simp [eqC, bitsN, sl] at c
    obtain ⟨rfl, rfl, rfl, rfl, rfl, rfl, rfl, rfl, rfl, rfl⟩ := c
    cases h
    exact ⟨22, _, _, _, _, _, _, false, rfl, rr_22 x10 x11 x12 x13 x14 x15, fw_22 x10 x11 x12 x13 x14 x15⟩
  rcases cond_some' h with ⟨c, g⟩ | ⟨_, g⟩ <;> clear h <;> have h := g <;> clear g
  · simp [eqC, bitsN, sl] at c
    obtain ⟨rfl, rfl, rfl, rfl, rfl, rfl, rfl, rfl, rfl, rfl⟩ := c
    cases h
    exact ⟨23, _, _, _, _, _, _, false, rfl, rr_23 x10 x11 x12 x13 x14 x15, fw_23 x10 x11 x12 x13 x14 x15⟩
  rcases cond_some' h with ⟨c, g⟩ | ⟨_, g⟩ <;> clear h <;> have h := g <;> clear g
  · simp [eqC, bitsN, sl] at c
    obtain ⟨rfl, rfl, rfl, rfl, rfl⟩ := c
    cases h
    exact ⟨24, _, _, _, _, _, _, false, rfl, rr_24 x5 x6 x7 x8 x9 x10 x11 x12 x13 x14 x15, fw_24 x5 x6 x7 x8 x9 x10 x11 x12 x13 x14 x15⟩
  rcases cond_some' h with ⟨c, g⟩ | ⟨_, g⟩ <;> clear h <;> have h := g <;> clear g
  · rw [Bool.and_eq_true] at c
    obtain ⟨c, d⟩ := c
    simp [eqC, bitsN, sl] at c
    obtain ⟨rfl, rfl, rfl, rfl⟩ := c
    cases h
    exact ⟨25, _, _, _, _, _, _, false, rfl, rr_25 x4 x5 x6 x7 x8 x9 x10 x11 x12 x13 x14 x15, fw_25 x4 x5 x6 x7 x8 x9 x10 x11 x12 x13 x14 x15 (of_decide_eq_true d)⟩
  · cases h
theorem three_fw (x0 x1 x2 x3 x4 x5 x6 x7 x8 x9 x10 x11 x12 x13 x14 x15 y0 y1 y2 y3 y4 y5 y6 y7 y8 y9 y10 y11 y12 y13 y14 y15 : Bool) (i : tIns.den) (h : dThree [x0, x1, x2, x3, x4, x5, x6, x7, x8, x9, x10, x11, x12, x13, x14, x15] [y0, y1, y2, y3, y4, y5, y6, y7, y8, y9, y10, y11, y12, y13, y14, y15] = some i) : Enc2 i [x0, x1, x2, x3, x4, x5, x6, x7, x8, x9, x10, x11, x12, x13, x14, x15] [y0, y1, y2, y3, y4, y5, y6, y7, y8, y9, y10, y11, y12, y13, y14, y15] := by
  unfold dThree at h
  rcases cond_some' h with ⟨_, g⟩ | ⟨c0, g⟩ <;> clear h <;> have h := g <;> clear g
  · cases h
  simp [eqC, bitsN, sl] at c0
  obtain rfl := c0
  rcases cond_some' h with ⟨c, g⟩ | ⟨_, g⟩ <;> clear h <;> have h := g <;> clear g
  · simp [eqC, bitsN, sl] at c
    obtain ⟨rfl, rfl, rfl, rfl, rfl, rfl, rfl, rfl, rfl, rfl, rfl, rfl, rfl, rfl, rfl, rfl⟩ := c
    rcases cond_some' h with ⟨d, g⟩ | ⟨_, g⟩ <;> clear h <;> have h := g <;> clear g
    · rw [Bool.and_eq_true, Bool.and_eq_true] at d
      rcases cond_some' h with ⟨t, g⟩ | ⟨t, g⟩ <;> clear h <;> have h := g <;> clear g
      · simp [eqC, bitsN, sl] at t
        obtain ⟨rfl, rfl⟩ := t
        cases h
        exact ⟨5, _, _, _, _, _, _, false, rfl, rr_5 y1 y2 y3 y4 y5 y6 y7 y8 y9 y12 y13 y14 y15, fw_5 y1 y2 y3 y4 y5 y6 y7 y8 y9 y12 y13 y14 y15 d.1 d.2.1⟩
      · rcases cond_some' h with ⟨s, g⟩ | ⟨_, g⟩ <;> clear h <;> have h := g <;> clear g
        · have s := of_decide_eq_true s
          cases h
          cases y10 <;> cases y11
          · simp [eqC, bitsN, sl] at t
          · exact ⟨6, _, _, _, _, _, _, false, rfl, rr_6 y1 y2 y3 y4 y5 y6 y7 y8 y9 y12 y13 y14 y15, fw_6 y1 y2 y3 y4 y5 y6 y7 y8 y9 y12 y13 y14 y15 d.1 d.2.1 s⟩
          · exact ⟨7, _, _, _, _, _, _, false, rfl, rr_7 y1 y2 y3 y4 y5 y6 y7 y8 y9 y12 y13 y14 y15, fw_7 y1 y2 y3 y4 y5 y6 y7 y8 y9 y12 y13 y14 y15 d.1 d.2.1 s⟩
          · exact ⟨8, _, _, _, _, _, _, false, rfl, rr_8 y1 y2 y3 y4 y5 y6 y7 y8 y9 y12 y13 y14 y15, fw_8 y1 y2 y3 y4 y5 y6 y7 y8 y9 y12 y13 y14 y15 d.1 d.2.1 s⟩
        · cases h
    · cases h
  rcases cond_some' h with ⟨c, g⟩ | ⟨_, g⟩ <;> clear h <;> have h := g <;> clear g
  · simp [eqC, bitsN, sl] at c
    obtain ⟨rfl, rfl, rfl, rfl, rfl, rfl, rfl, rfl, rfl, rfl, rfl, rfl, rfl, rfl, rfl, rfl⟩ := c
    rcases cond_some' h with ⟨d, g⟩ | ⟨_, g⟩ <;> clear h <;> have h := g <;> clear g
    · rw [Bool.and_eq_true, Bool.and_eq_true] at d
      rcases cond_some' h with ⟨t, g⟩ | ⟨t, g⟩ <;> clear h <;> have h := g <;> clear g
      · simp [eqC, bitsN, sl] at t
        obtain ⟨rfl, rfl⟩ := t
        rcases cond_some' h with ⟨s, g⟩ | ⟨_, g⟩ <;> clear h <;> have h := g <;> clear g
        · simp [eqC, bitsN, sl] at s
          obtain ⟨rfl, rfl, rfl, rfl, rfl⟩ := s
          cases h
          exact ⟨9, _, _, _, _, _, _, false, rfl, rr_9 y4 y5 y6 y7 y12 y13 y14 y15, fw_9 y4 y5 y6 y7 y12 y13 y14 y15 d.1 d.2.1⟩
        · cases h
      · cases h
    · cases h
  rcases cond_some' h with ⟨c, g⟩ | ⟨_, g⟩ <;> clear h <;> have h := g <;> clear g
  · simp [eqC, bitsN, sl] at c
    obtain ⟨rfl, rfl, rfl, rfl, rfl, rfl, rfl, rfl, rfl, rfl, rfl, rfl⟩ := c
    rcases cond_some' h with ⟨d, g⟩ | ⟨_, g⟩ <;> clear h <;> have h := g <;> clear g
    · rw [Bool.and_eq_true, Bool.and_eq_true, Bool.and_eq_true] at d
      rcases cond_some' h with ⟨t, g⟩ | ⟨t, g⟩ <;> clear h <;> have h := g <;> clear g
      · simp [eqC, bitsN, sl] at t
        obtain ⟨rfl, rfl⟩ := t
        rcases cond_some' h with ⟨s, g⟩ | ⟨_, g⟩ <;> clear h <;> have h := g <;> clear g
        · simp [eqC, bitsN, sl] at s
          obtain ⟨rfl, rfl, rfl, rfl, rfl⟩ := s
          cases h
          exact ⟨10, _, _, _, _, _, _, false, rfl, rr_10 x12 x13 x14 x15 y4 y5 y6 y7 y12 y13 y14 y15, fw_10 x12 x13 x14 x15 y4 y5 y6 y7 y12 y13 y14 y15 d.1 d.2.1 d.2.2.1⟩
        · cases h
      · cases h
    · cases h
  rcases cond_some' h with ⟨c, g⟩ | ⟨_, g⟩ <;> clear h <;> have h := g <;> clear g
  · simp [eqC, bitsN, sl] at c
    obtain ⟨rfl, rfl, rfl, rfl, rfl, rfl, rfl, rfl, rfl, rfl, rfl, rfl⟩ := c
    rcases cond_some' h with ⟨d, g⟩ | ⟨_, g⟩ <;> clear h <;> have h := g <;> clear g
    · rw [Bool.and_eq_true, Bool.and_eq_true, Bool.and_eq_true] at d
      rcases cond_some' h with ⟨t, g⟩ | ⟨t, g⟩ <;> clear h <;> have h := g <;> clear g
      · simp [eqC, bitsN, sl] at t
        obtain ⟨rfl, rfl⟩ := t
        rcases cond_some' h with ⟨s, g⟩ | ⟨_, g⟩ <;> clear h <;> have h := g <;> clear g
        · simp [eqC, bitsN, sl] at s
          obtain ⟨rfl, rfl, rfl, rfl, rfl⟩ := s
          cases h
          exact ⟨11, _, _, _, _, _, _, false, rfl, rr_11 x12 x13 x14 x15 y4 y5 y6 y7 y12 y13 y14 y15, fw_11 x12 x13 x14 x15 y4 y5 y6 y7 y12 y13 y14 y15 d.1 d.2.1 d.2.2.1⟩
        · cases h
      · cases h
    · cases h
  rcases cond_some' h with ⟨c, g⟩ | ⟨_, g⟩ <;> clear h <;> have h := g <;> clear g
  · simp [eqC, bitsN, sl] at c
    obtain ⟨rfl, rfl, rfl, rfl, rfl, rfl, rfl, rfl, rfl, rfl, rfl, rfl⟩ := c
    rcases cond_some' h with ⟨d, g⟩ | ⟨_, g⟩ <;> clear h <;> have h := g <;> clear g
    · rw [Bool.and_eq_true, Bool.and_eq_true, Bool.and_eq_true] at d
      rcases cond_some' h with ⟨t, g⟩ | ⟨t, g⟩ <;> clear h <;> have h := g <;> clear g
      · simp [eqC, bitsN, sl] at t
        obtain ⟨rfl, rfl⟩ := t
        rcases cond_some' h with ⟨s, g⟩ | ⟨_, g⟩ <;> clear h <;> have h := g <;> clear g
        · simp [eqC, bitsN, sl] at s
          obtain ⟨rfl, rfl, rfl, rfl, rfl⟩ := s
          cases h
          exact ⟨12, _, _, _, _, _, _, false, rfl, rr_12 x12 x13 x14 x15 y4 y5 y6 y7 y12 y13 y14 y15, fw_12 x12 x13 x14 x15 y4 y5 y6 y7 y12 y13 y14 y15 d.1 d.2.1 d.2.2.1⟩
        · cases h
      · cases h
    · cases h
  rcases cond_some' h with ⟨c, g⟩ | ⟨_, g⟩ <;> clear h <;> have h := g <;> clear g
  · simp [eqC, bitsN, sl] at c
    obtain ⟨rfl, rfl, rfl, rfl, rfl, rfl, rfl, rfl, rfl, rfl, rfl, rfl⟩ := c
    rcases cond_some' h with ⟨d, g⟩ | ⟨_, g⟩ <;> clear h <;> have h := g <;> clear g
    · rw [Bool.and_eq_true, Bool.and_eq_true, Bool.and_eq_true] at d
      rcases cond_some' h with ⟨t, g⟩ | ⟨t, g⟩ <;> clear h <;> have h := g <;> clear g
      · simp [eqC, bitsN, sl] at t
        obtain ⟨rfl, rfl⟩ := t
        rcases cond_some' h with ⟨s, g⟩ | ⟨_, g⟩ <;> clear h <;> have h := g <;> clear g
        · simp [eqC, bitsN, sl] at s
          obtain ⟨rfl, rfl, rfl, rfl, rfl⟩ := s
          cases h
          exact ⟨13, _, _, _, _, _, _, false, rfl, rr_13 x12 x13 x14 x15 y4 y5 y6 y7 y12 y13 y14 y15, fw_13 x12 x13 x14 x15 y4 y5 y6 y7 y12 y13 y14 y15 d.1 d.2.1 d.2.2.1⟩
        · cases h
      · cases h
    · cases h
  rcases cond_some' h with ⟨c, g⟩ | ⟨_, g⟩ <;> clear h <;> have h := g <;> clear g
  · simp [eqC, bitsN, sl] at c
    obtain ⟨rfl, rfl, rfl, rfl, rfl, rfl, rfl, rfl, rfl, rfl, rfl, rfl⟩ := c
    rcases cond_some' h with ⟨d, g⟩ | ⟨_, g⟩ <;> clear h <;> have h := g <;> clear g
    · rw [Bool.and_eq_true, Bool.and_eq_true, Bool.and_eq_true] at d
      rcases cond_some' h with ⟨t, g⟩ | ⟨t, g⟩ <;> clear h <;> have h := g <;> clear g
      · simp [eqC, bitsN, sl] at t
        obtain ⟨rfl, rfl⟩ := t
        rcases cond_some' h with ⟨s, g⟩ | ⟨_, g⟩ <;> clear h <;> have h := g <;> clear g
        · simp [eqC, bitsN, sl] at s
          obtain ⟨rfl, rfl, rfl, rfl, rfl⟩ := s
          cases h
          exact ⟨14, _, _, _, _, _, _, false, rfl, rr_14 x12 x13 x14 x15 y4 y5 y6 y7 y12 y13 y14 y15, fw_14 x12 x13 x14 x15 y4 y5 y6 y7 y12 y13 y14 y15 d.1 d.2.1 d.2.2.1⟩
        · cases h
      · cases h
    · cases h
  rcases cond_some' h with ⟨c, g⟩ | ⟨_, g⟩ <;> clear h <;> have h := g <;> clear g
  · simp [eqC, bitsN, sl] at c
    obtain ⟨rfl, rfl, rfl, rfl, rfl, rfl, rfl, rfl, rfl, rfl, rfl, rfl⟩ := c
    rcases cond_some' h with ⟨d, g⟩ | ⟨_, g⟩ <;> clear h <;> have h := g <;> clear g
    · rw [Bool.and_eq_true, Bool.and_eq_true, Bool.and_eq_true] at d
      rcases cond_some' h with ⟨t, g⟩ | ⟨t, g⟩ <;> clear h <;> have h := g <;> clear g
      · simp [eqC, bitsN, sl] at t
        obtain ⟨rfl, rfl⟩ := t
        rcases cond_some' h with ⟨s, g⟩ | ⟨_, g⟩ <;> clear h <;> have h := g <;> clear g
        · simp [eqC, bitsN, sl] at s
          obtain ⟨rfl, rfl, rfl, rfl, rfl⟩ := s
          cases h
          exact ⟨15, _, _, _, _, _, _, false, rfl, rr_15 x12 x13 x14 x15 y4 y5 y6 y7 y12 y13 y14 y15, fw_15 x12 x13 x14 x15 y4 y5 y6 y7 y12 y13 y14 y15 d.1 d.2.1 d.2.2.1⟩
        · cases h
      · cases h
    · cases h
  cases h
theorem product_fw (x0 x1 x2 x3 x4 x5 x6 x7 x8 x9 x10 x11 x12 x13 x14 x15 y0 y1 y2 y3 y4 y5 y6 y7 y8 y9 y10 y11 y12 y13 y14 y15 : Bool) (i : tIns.den) (h : dProduct [x0, x1, x2, x3, x4, x5, x6, x7, x8, x9, x10, x11, x12, x13, x14, x15] [y0, y1, y2, y3, y4, y5, y6, y7, y8, y9, y10, y11, y12, y13, y14, y15] = some i) : Enc2 i [x0, x1, x2, x3, x4, x5, x6, x7, x8, x9, x10, x11, x12, x13, x14, x15] [y0, y1, y2, y3, y4, y5, y6, y7, y8, y9, y10, y11, y12, y13, y14, y15] := by
  unfold dProduct at h
  rcases cond_some' h with ⟨_, g⟩ | ⟨c0, g⟩ <;> clear h <;> have h := g <;> clear g
  · cases h
  simp [eqC, bitsN, sl] at c0
  obtain ⟨rfl, rfl, rfl, rfl⟩ := c0
  rcases cond_some' h with ⟨c, g⟩ | ⟨_, g⟩ <;> clear h <;> have h := g <;> clear g
  · simp [eqC, bitsN, sl] at c
    obtain ⟨rfl, rfl, rfl, rfl, rfl, rfl, rfl, rfl, rfl, rfl, rfl, rfl⟩ := c
    rcases cond_some' h with ⟨t, g⟩ | ⟨_, g⟩ <;> clear h <;> have h := g <;> clear g
    · simp [eqC, bitsN, sl] at t
      obtain ⟨rfl, rfl, rfl, rfl⟩ := t
      rcases cond_some' h with ⟨d, g⟩ | ⟨_, g⟩ <;> clear h <;> have h := g <;> clear g
      · rw [Bool.and_eq_true, Bool.and_eq_true, Bool.and_eq_true] at d
        cases h
        exact ⟨16, _, _, _, _, _, _, false, rfl, rr_16 x12 x13 x14 x15 y4 y5 y6 y7 y12 y13 y14 y15, fw_16 x12 x13 x14 x15 y4 y5 y6 y7 y12 y13 y14 y15 d.1 d.2.1 d.2.2.1⟩
      · cases h
    · cases h
  rcases cond_some' h with ⟨c, g⟩ | ⟨_, g⟩ <;> clear h <;> have h := g <;> clear g
  · simp [eqC, bitsN, sl] at c
    obtain ⟨rfl, rfl, rfl, rfl, rfl, rfl, rfl, rfl, rfl, rfl, rfl, rfl⟩ := c
    rcases cond_some' h with ⟨t, g⟩ | ⟨_, g⟩ <;> clear h <;> have h := g <;> clear g
    · have t := bne_iff_ne.1 t
      rcases cond_some' h with ⟨d, g⟩ | ⟨_, g⟩ <;> clear h <;> have h := g <;> clear g
      · rw [Bool.and_eq_true, Bool.and_eq_true, Bool.and_eq_true, Bool.and_eq_true] at d
        cases h
        exact ⟨17, _, _, _, _, _, _, false, rfl, rr_17 x12 x13 x14 x15 y0 y1 y2 y3 y4 y5 y6 y7 y12 y13 y14 y15, fw_17 x12 x13 x14 x15 y0 y1 y2 y3 y4 y5 y6 y7 y12 y13 y14 y15 d.1 d.2.2.1 d.2.2.2.1 d.2.1 t⟩
      · cases h
    · cases h
  cases h
theorem plain_fw (x0 x1 x2 x3 x4 x5 x6 x7 x8 x9 x10 x11 x12 x13 x14 x15 y0 y1 y2 y3 y4 y5 y6 y7 y8 y9 y10 y11 y12 y13 y14 y15 : Bool) (i : tIns.den) (h : dPlain [x0, x1, x2, x3, x4, x5, x6, x7, x8, x9, x10, x11, x12, x13, x14, x15] [y0, y1, y2, y3, y4, y5, y6, y7, y8, y9, y10, y11, y12, y13, y14, y15] = some i) : Enc2 i [x0, x1, x2, x3, x4, x5, x6, x7, x8, x9, x10, x11, x12, x13, x14, x15] [y0, y1, y2, y3, y4, y5, y6, y7, y8, y9, y10, y11, y12, y13, y14, y15] := by
  unfold dPlain at h
  rcases cond_some' h with ⟨_, g⟩ | ⟨c0, g⟩ <;> clear h <;> have h := g <;> clear g
  · cases h
  simp [eqC, bitsN, sl] at c0
  obtain rfl := c0
  rcases cond_some' h with ⟨c, g⟩ | ⟨_, g⟩ <;> clear h <;> have h := g <;> clear g
  · simp [eqC, bitsN, sl] at c
    obtain ⟨rfl, rfl, rfl, rfl, rfl, rfl, rfl, rfl, rfl, rfl, rfl, rfl⟩ := c
    rcases cond_some' h with ⟨t, g⟩ | ⟨_, g⟩ <;> clear h <;> have h := g <;> clear g
    · simp [eqC, bitsN, sl] at t
      obtain rfl := t
      rcases cond_some' h with ⟨s, g⟩ | ⟨_, g⟩ <;> clear h <;> have h := g <;> clear g
      · have s := of_decide_eq_true s
        rcases cond_some' h with ⟨d, g⟩ | ⟨_, g⟩ <;> clear h <;> have h := g <;> clear g
        · rw [Bool.and_eq_true, Bool.and_eq_true] at d
          cases h
          exact ⟨18, _, _, _, _, _, _, false, rfl, rr_18 x12 x13 x14 x15 y1 y2 y3 y4 y5 y6 y7 y8 y9 y11 y12 y13 y14 y15, fw_18 x12 x13 x14 x15 y1 y2 y3 y4 y5 y6 y7 y8 y9 y11 y12 y13 y14 y15 d.1 d.2.1 s⟩
        · cases h
      · cases h
    · cases h
  rcases cond_some' h with ⟨c, g⟩ | ⟨_, g⟩ <;> clear h <;> have h := g <;> clear g
  · simp [eqC, bitsN, sl] at c
    obtain ⟨rfl, rfl, rfl, rfl, rfl, rfl, rfl, rfl, rfl, rfl, rfl⟩ := c
    rcases cond_some' h with ⟨d, g⟩ | ⟨_, g⟩ <;> clear h <;> have h := g <;> clear g
    · rw [Bool.and_eq_true] at d
      cases h
      exact ⟨3, _, _, _, _, _, _, false, rfl, rr_3 x5 x12 x13 x14 x15 y1 y2 y3 y4 y5 y6 y7 y8 y9 y10 y11 y12 y13 y14 y15, fw_3 x5 x12 x13 x14 x15 y1 y2 y3 y4 y5 y6 y7 y8 y9 y10 y11 y12 y13 y14 y15 d.1⟩
    · cases h
  rcases cond_some' h with ⟨c, g⟩ | ⟨_, g⟩ <;> clear h <;> have h := g <;> clear g
  · simp [eqC, bitsN, sl] at c
    obtain ⟨rfl, rfl, rfl, rfl, rfl, rfl, rfl, rfl, rfl, rfl, rfl⟩ := c
    rcases cond_some' h with ⟨d, g⟩ | ⟨_, g⟩ <;> clear h <;> have h := g <;> clear g
    · rw [Bool.and_eq_true] at d
      cases h
      exact ⟨4, _, _, _, _, _, _, false, rfl, rr_4 x5 x12 x13 x14 x15 y1 y2 y3 y4 y5 y6 y7 y8 y9 y10 y11 y12 y13 y14 y15, fw_4 x5 x12 x13 x14 x15 y1 y2 y3 y4 y5 y6 y7 y8 y9 y10 y11 y12 y13 y14 y15 d.1⟩
    · cases h
  cases h
theorem branch_fw (x0 x1 x2 x3 x4 x5 x6 x7 x8 x9 x10 x11 x12 x13 x14 x15 y0 y1 y2 y3 y4 y5 y6 y7 y8 y9 y10 y11 y12 y13 y14 y15 : Bool) (i : tIns.den) (h : dBranch [x0, x1, x2, x3, x4, x5, x6, x7, x8, x9, x10, x11, x12, x13, x14, x15] [y0, y1, y2, y3, y4, y5, y6, y7, y8, y9, y10, y11, y12, y13, y14, y15] = some i) : Enc2 i [x0, x1, x2, x3, x4, x5, x6, x7, x8, x9, x10, x11, x12, x13, x14, x15] [y0, y1, y2, y3, y4, y5, y6, y7, y8, y9, y10, y11, y12, y13, y14, y15] := by
  unfold dBranch at h
  rcases cond_some' h with ⟨_, g⟩ | ⟨c0, g⟩ <;> clear h <;> have h := g <;> clear g
  · cases h
  simp [eqC, bitsN, sl] at c0
  obtain ⟨⟨rfl, rfl, rfl, rfl, rfl⟩, rfl, rfl⟩ := c0
  rcases cond_some' h with ⟨c, g⟩ | ⟨c, g⟩ <;> clear h <;> have h := g <;> clear g
  · simp [eqC, bitsN, sl] at c
    obtain rfl := c
    cases h
    exact ⟨24, _, _, _, _, _, _, true, rfl, rr_24w x5 x6 x7 x8 x9 x10 x11 x12 x13 x14 x15 y2 y4 y5 y6 y7 y8 y9 y10 y11 y12 y13 y14 y15, fw_24w x5 x6 x7 x8 x9 x10 x11 x12 x13 x14 x15 y2 y4 y5 y6 y7 y8 y9 y10 y11 y12 y13 y14 y15⟩
  · simp [eqC, bitsN, sl] at c
    obtain rfl := c
    rcases cond_some' h with ⟨d, g⟩ | ⟨_, g⟩ <;> clear h <;> have h := g <;> clear g
    · cases h
      exact ⟨25, _, _, _, _, _, _, true, rfl, rr_25w x5 x6 x7 x8 x9 x10 x11 x12 x13 x14 x15 y2 y4 y5 y6 y7 y8 y9 y10 y11 y12 y13 y14 y15, fw_25w x5 x6 x7 x8 x9 x10 x11 x12 x13 x14 x15 y2 y4 y5 y6 y7 y8 y9 y10 y11 y12 y13 y14 y15 (of_decide_eq_true d)⟩
    · cases h
theorem len16 {l : List Bool} (h : l.length = 16) : ∃ x0 x1 x2 x3 x4 x5 x6 x7 x8 x9 x10 x11 x12 x13 x14 x15 : Bool, l = [x0, x1, x2, x3, x4, x5, x6, x7, x8, x9, x10, x11, x12, x13, x14, x15] := by
  match l, h with
  | [x0, x1, x2, x3, x4, x5, x6, x7, x8, x9, x10, x11, x12, x13, x14, x15], _ => exact ⟨_, _, _, _, _, _, _, _, _, _, _, _, _, _, _, _, rfl⟩
theorem narrow_enc {l : List Bool} (hl : l.length = 16) {i : tIns.den} (h : dNarrow l = some i) : Enc1 i l := by
  obtain ⟨x0, x1, x2, x3, x4, x5, x6, x7, x8, x9, x10, x11, x12, x13, x14, x15, rfl⟩ := len16 hl
  exact narrow_fw _ _ _ _ _ _ _ _ _ _ _ _ _ _ _ _ i h
theorem long_enc {lx ly : List Bool} (hx : lx.length = 16) (hy : ly.length = 16) {i : tIns.den} (h : dLong lx ly = some i) : Enc2 i lx ly := by
  obtain ⟨x0, x1, x2, x3, x4, x5, x6, x7, x8, x9, x10, x11, x12, x13, x14, x15, rfl⟩ := len16 hx
  obtain ⟨y0, y1, y2, y3, y4, y5, y6, y7, y8, y9, y10, y11, y12, y13, y14, y15, rfl⟩ := len16 hy
  unfold dLong at h
  rcases Option.or_eq_some_iff.1 h with h | ⟨_, h⟩
  · exact three_fw _ _ _ _ _ _ _ _ _ _ _ _ _ _ _ _ _ _ _ _ _ _ _ _ _ _ _ _ _ _ _ _ i h
  rcases Option.or_eq_some_iff.1 h with h | ⟨_, h⟩
  · exact product_fw _ _ _ _ _ _ _ _ _ _ _ _ _ _ _ _ _ _ _ _ _ _ _ _ _ _ _ _ _ _ _ _ i h
  rcases Option.or_eq_some_iff.1 h with h | ⟨_, h⟩
  · exact plain_fw _ _ _ _ _ _ _ _ _ _ _ _ _ _ _ _ _ _ _ _ _ _ _ _ _ _ _ _ _ _ _ _ i h
  · exact branch_fw _ _ _ _ _ _ _ _ _ _ _ _ _ _ _ _ _ _ _ _ _ _ _ _ _ _ _ _ _ _ _ _ i h
end Go.Av
end
/-! Layer 3: what is decoded. -/
section
namespace Go.Av
open Go
/-- A text's n-th half, as bits. -/
def hx (s : List UInt8) (k : Nat) : List Bool := bitsN 16 (halfN s k)
theorem hx_len (s : List UInt8) (k : Nat) : (hx s k).length = 16 := bitsN_len ..
theorem hx_H (s : List UInt8) (k : Nat) : H (hx s k) = ((halfN s k : Nat) : Int) := by
  unfold H hx
  rw [bitsN_hb, Nat.mod_eq_of_lt (halfN_lt s k)]
abbrev zI : tIns.den := (0, 0, 0, 0, 0, 0, 0, false, ())
abbrev D4 := tIns.den × Int × Int × Unit
def dOut (n : Int) : Option tIns.den → D4
  | some i => (i, n, 0, ())
  | none => (zI, 0, 7, ())
/-- What is decoded. -/
def dDec (s : List UInt8) : D4 :=
  bif decide (lenI s < 2) then (zI, 0, 3, ())
  else bif Nat.ble 59392 (halfN s 0) then (bif decide (lenI s < 4) then (zI, 0, 3, ()) else dOut 4 (dLong (hx s 0) (hx s 1)))
  else dOut 2 (dNarrow (hx s 0))

theorem op1_V {S : Option D1} {d : Option tIns.den} (h : op1 S = some d) : ∃ p : D1, S = some p ∧ (p.2.1 = true → d = some p.1) ∧ (p.2.1 = false → d = none) := by
  obtain ⟨p, h1, h2⟩ := op1_get h
  refine ⟨p, h1, fun e => ?_, fun e => ?_⟩
  · rw [← h2, e]; rfl
  · rw [← h2, e]; rfl
theorem narrow_V (l : List Bool) (hl : l.length = 16) : G_decode_narrow (H l) = true ∧ ((V_decode_narrow (H l)).2.1 = true → dNarrow l = some (V_decode_narrow (H l)).1) ∧ ((V_decode_narrow (H l)).2.1 = false → dNarrow l = none) := by
  obtain ⟨p, h1, h2, h3⟩ := op1_V (narrow_T l hl)
  have hv : V_decode_narrow (H l) = p := by unfold V_decode_narrow PO.getO; rw [h1]; rfl
  have hg : G_decode_narrow (H l) = true := by unfold G_decode_narrow; rw [h1]; rfl
  rw [hv]
  exact ⟨hg, h2, h3⟩
theorem three_V (lx ly : List Bool) (hx : lx.length = 16) (hy : ly.length = 16) : G_decode_three (H lx, H ly) = true ∧ ((V_decode_three (H lx, H ly)).2.1 = true → dThree lx ly = some (V_decode_three (H lx, H ly)).1) ∧ ((V_decode_three (H lx, H ly)).2.1 = false → dThree lx ly = none) := by
  obtain ⟨p, h1, h2, h3⟩ := op1_V (three_T lx ly hx hy)
  have hv : V_decode_three (H lx, H ly) = p := by unfold V_decode_three PO.getO; rw [h1]; rfl
  have hg : G_decode_three (H lx, H ly) = true := by unfold G_decode_three; rw [h1]; rfl
  rw [hv]
  exact ⟨hg, h2, h3⟩
theorem product_V (lx ly : List Bool) (hx : lx.length = 16) (hy : ly.length = 16) : G_decode_product (H lx, H ly) = true ∧ ((V_decode_product (H lx, H ly)).2.1 = true → dProduct lx ly = some (V_decode_product (H lx, H ly)).1) ∧ ((V_decode_product (H lx, H ly)).2.1 = false → dProduct lx ly = none) := by
  obtain ⟨p, h1, h2, h3⟩ := op1_V (product_T lx ly hx hy)
  have hv : V_decode_product (H lx, H ly) = p := by unfold V_decode_product PO.getO; rw [h1]; rfl
  have hg : G_decode_product (H lx, H ly) = true := by unfold G_decode_product; rw [h1]; rfl
  rw [hv]
  exact ⟨hg, h2, h3⟩
theorem plain_V (lx ly : List Bool) (hx : lx.length = 16) (hy : ly.length = 16) : G_decode_plain (H lx, H ly) = true ∧ ((V_decode_plain (H lx, H ly)).2.1 = true → dPlain lx ly = some (V_decode_plain (H lx, H ly)).1) ∧ ((V_decode_plain (H lx, H ly)).2.1 = false → dPlain lx ly = none) := by
  obtain ⟨p, h1, h2, h3⟩ := op1_V (plain_T lx ly hx hy)
  have hv : V_decode_plain (H lx, H ly) = p := by unfold V_decode_plain PO.getO; rw [h1]; rfl
  have hg : G_decode_plain (H lx, H ly) = true := by unfold G_decode_plain; rw [h1]; rfl
  rw [hv]
  exact ⟨hg, h2, h3⟩
theorem branch_V (lx ly : List Bool) (hx : lx.length = 16) (hy : ly.length = 16) : G_decode_branch (H lx, H ly) = true ∧ ((V_decode_branch (H lx, H ly)).2.1 = true → dBranch lx ly = some (V_decode_branch (H lx, H ly)).1) ∧ ((V_decode_branch (H lx, H ly)).2.1 = false → dBranch lx ly = none) := by
  obtain ⟨p, h1, h2, h3⟩ := op1_V (branch_T lx ly hx hy)
  have hv : V_decode_branch (H lx, H ly) = p := by unfold V_decode_branch PO.getO; rw [h1]; rfl
  have hg : G_decode_branch (H lx, H ly) = true := by unfold G_decode_branch; rw [h1]; rfl
  rw [hv]
  exact ⟨hg, h2, h3⟩
def pk : Option tIns.den → D1
  | some i => (i, true, ())
  | none => (zI, false, ())
theorem long_T (lx ly : List Bool) (hx : lx.length = 16) (hy : ly.length = 16) : (T_decode_long (H lx, H ly)).val = some (pk (dLong lx ly)) := by
  obtain ⟨a1, a2, a3⟩ := three_V lx ly hx hy
  obtain ⟨b1, b2, b3⟩ := product_V lx ly hx hy
  obtain ⟨c1, c2, c3⟩ := plain_V lx ly hx hy
  obtain ⟨d1, d2, d3⟩ := branch_V lx ly hx hy
  unfold T_decode_long dLong PO.val
  rw [a1]
  dsimp only [cond_true, PO.val]
  cases ea : (V_decode_three (H lx, H ly)).2.1
  · rw [a3 ea, b1]
    dsimp only [cond_true, cond_false, PO.val]
    cases eb : (V_decode_product (H lx, H ly)).2.1
    · rw [b3 eb, c1]
      dsimp only [cond_true, cond_false, PO.val]
      cases ec : (V_decode_plain (H lx, H ly)).2.1
      · rw [c3 ec, d1]
        dsimp only [cond_true, cond_false, PO.val]
        cases ed : (V_decode_branch (H lx, H ly)).2.1
        · rw [d3 ed]; rfl
        · rw [d2 ed]; rfl
      · rw [c2 ec]; rfl
    · rw [b2 eb]; rfl
  · rw [a2 ea]; rfl
theorem decode_T (s : List UInt8) : (T_decode_Decode s).val = some (dDec s) := by
  unfold T_decode_Decode dDec PO.val
  cases h2 : decide (lenI s < 2)
  · have h2' := of_decide_eq_false h2
    cases hb : Nat.ble 59392 (halfN s 0)
    · have hs : V_decode_Size s = 2 := by unfold V_decode_Size; rw [h2, hb]; rfl
      have g : G_decode_half (s, 0) = true := by
        simp only [G_decode_half, Bool.or_eq_true, Bool.and_eq_true, beq_iff_eq, decide_eq_true_eq]
        exact .inl ⟨trivial, by omega⟩
      have hv : V_decode_half (s, 0) = H (hx s 0) := (hx_H s 0).symm
      obtain ⟨n1, n2, n3⟩ := narrow_V (hx s 0) (hx_len s 0)
      rw [hs, h2, g, hv, n1]
      dsimp only [cond_true, cond_false, PO.val, Bool.or_false]
      cases e : (V_decode_narrow (H (hx s 0))).2.1
      · rw [n3 e]; rfl
      · rw [n2 e]; rfl
    · have hs : V_decode_Size s = 4 := by unfold V_decode_Size; rw [h2, hb]; rfl
      rw [hs]
      cases h4 : decide (lenI s < 4)
      · have h4' := of_decide_eq_false h4
        have g : G_decode_half (s, 0) = true := by
          simp only [G_decode_half, Bool.or_eq_true, Bool.and_eq_true, beq_iff_eq, decide_eq_true_eq]
          exact .inl ⟨trivial, by omega⟩
        have g1 : G_decode_half (s, 1) = true := by
          simp only [G_decode_half, Bool.or_eq_true, Bool.and_eq_true, beq_iff_eq, decide_eq_true_eq]
          exact .inr ⟨trivial, by omega⟩
        have hv : V_decode_half (s, 0) = H (hx s 0) := (hx_H s 0).symm
        have hv1 : V_decode_half (s, 1) = H (hx s 1) := (hx_H s 1).symm
        have ht := long_T (hx s 0) (hx s 1) (hx_len s 0) (hx_len s 1)
        have gl : G_decode_long (H (hx s 0), H (hx s 1)) = true := by unfold G_decode_long; rw [ht]; rfl
        have vl : V_decode_long (H (hx s 0), H (hx s 1)) = pk (dLong (hx s 0) (hx s 1)) := by unfold V_decode_long PO.getO; rw [ht]; rfl
        rw [g, g1, hv, hv1, gl, vl]
        dsimp only [cond_true, cond_false, PO.val, Bool.or_false]
        cases dLong (hx s 0) (hx s 1) <;> rfl
      · rfl
  · have hs : V_decode_Size s = 0 := by unfold V_decode_Size; rw [h2]; rfl
    rw [hs]
    rfl
theorem decode_G (s : List UInt8) : G_decode_Decode s = true := by unfold G_decode_Decode; rw [decode_T]; rfl
theorem decode_V (s : List UInt8) : V_decode_Decode s = dDec s := by unfold V_decode_Decode PO.getO; rw [decode_T]; rfl

/-! ### An instruction's bytes -/

/-- Does a first half begin one of two? -/
def isL (l : List Bool) : Bool := l.getD 0 false && (l.getD 1 false && (l.getD 2 false && (l.getD 3 false || l.getD 4 false)))
section
variable (op rd rn rm ra imm cond : Int) (w : Bool)
/-- An instruction's first, and second, half as bits. -/
def e1 : List Bool := hl (ltr rd rn rm ra imm cond) ((V_hauberkref02_Bits (op, w)).take 16)
def e2 : List Bool := hl (ltr rd rn rm ra imm cond) ((V_hauberkref02_Bits (op, w)).drop 16)
abbrev theI : tIns.den := (op, rd, rn, rm, ra, imm, cond, w, ())
/-- One half or two. -/
def Two : Prop := ((V_hauberkref02_Bits (op, w)).length = 16 ∧ isL (e1 op rd rn rm ra imm cond w) = false ∧ dNarrow (e1 op rd rn rm ra imm cond w) = some (theI op rd rn rm ra imm cond w)) ∨ ((V_hauberkref02_Bits (op, w)).length = 32 ∧ isL (e1 op rd rn rm ra imm cond w) = true ∧ dLong (e1 op rd rn rm ra imm cond w) (e2 op rd rn rm ra imm cond w) = some (theI op rd rn rm ra imm cond w))
end
set_option maxHeartbeats 1000000 in
theorem two_ok (op rd rn rm ra imm cond : Int) (w : Bool) (h : okB op rd rn rm ra imm cond w = true) : Two op rd rn rm ra imm cond w := by
  rcases op_cases op with rfl | rfl | rfl | rfl | rfl | rfl | rfl | rfl | rfl | rfl | rfl | rfl | rfl | rfl | rfl | rfl | rfl | rfl | rfl | rfl | rfl | rfl | rfl | rfl | rfl | hop
  case inr.inr.inr.inr.inr.inr.inr.inr.inr.inr.inr.inr.inr.inr.inr.inr.inr.inr.inr.inr.inr.inr.inr.inr.inr =>
    exfalso
    have e := fun k hk => op_none (n := op) (k := k) hop hk
    have e2 : bw op 10 16 = false := by unfold bw; rw [Bool.and_eq_false_iff, decide_eq_false_iff_not, decide_eq_false_iff_not]; omega
    simp [okB, e, e2] at h
  case inr.inr.inr.inr.inr.inr.inr.inr.inr.inr.inr.inr.inr.inr.inr.inr.inr.inr.inr.inr.inr.inr.inr.inl =>
    cases w
    · have h : (rd == 0 && (rn == 0 && (rm == 0 && (ra == 0 && (cond == 0 && (imm % 2 == 0 && bw imm (-2048) 2046)))))) = true := h
      simp only [Bool.and_eq_true, beq_iff_eq, decide_eq_true_eq] at h
      obtain ⟨rfl, rfl, rfl, rfl, rfl, h1, h2, h3⟩ := h
      exact .inl ⟨by kernel_rfl, by kernel_rfl, bk_24 imm h1 h2 h3⟩
    · have h : (rd == 0 && (rn == 0 && (rm == 0 && (ra == 0 && (cond == 0 && (imm % 2 == 0 && bw imm (-16777216) 16777214)))))) = true := h
      simp only [Bool.and_eq_true, beq_iff_eq, decide_eq_true_eq] at h
      obtain ⟨rfl, rfl, rfl, rfl, rfl, h1, h2, h3⟩ := h
      exact .inr ⟨by kernel_rfl, by kernel_rfl, bk_24w imm h1 h2 h3⟩
  case inr.inr.inr.inr.inr.inr.inr.inr.inr.inr.inr.inr.inr.inr.inr.inr.inr.inr.inr.inr.inr.inr.inr.inr.inl =>
    cases w
    · have h : (rd == 0 && (rn == 0 && (rm == 0 && (ra == 0 && (bw cond 0 13 && (imm % 2 == 0 && bw imm (-256) 254)))))) = true := h
      simp only [Bool.and_eq_true, beq_iff_eq, decide_eq_true_eq] at h
      obtain ⟨rfl, rfl, rfl, rfl, ⟨c1, c2⟩, h1, h2, h3⟩ := h
      exact .inl ⟨by kernel_rfl, by kernel_rfl, bk_25 imm h1 h2 h3 cond c1 c2⟩
    · have h : (rd == 0 && (rn == 0 && (rm == 0 && (ra == 0 && (bw cond 0 13 && (imm % 2 == 0 && bw imm (-1048576) 1048574)))))) = true := h
      simp only [Bool.and_eq_true, beq_iff_eq, decide_eq_true_eq] at h
      obtain ⟨rfl, rfl, rfl, rfl, ⟨c1, c2⟩, h1, h2, h3⟩ := h
      exact .inr ⟨by kernel_rfl, by kernel_rfl, bk_25w imm h1 h2 h3 cond c1 c2⟩
  all_goals
    cases w
    case true => exact Bool.noConfusion (show false = true from h)
  · have h : (cond == 0 && (rd == 0 && (rn == 0 && (rm == 0 && (ra == 0 && imm == 0))))) = true := h
    simp only [Bool.and_eq_true, beq_iff_eq] at h
    obtain ⟨rfl, rfl, rfl, rfl, rfl, rfl⟩ := h
    exact .inl ⟨by kernel_rfl, by kernel_rfl, bk_1⟩
  · have h : (cond == 0 && (rd == 0 && (rn == 0 && (rm == 0 && (ra == 0 && bw imm 0 255))))) = true := h
    simp only [Bool.and_eq_true, beq_iff_eq, decide_eq_true_eq] at h
    obtain ⟨rfl, rfl, rfl, rfl, rfl, h1, h2⟩ := h
    exact .inl ⟨by kernel_rfl, by kernel_rfl, bk_2 imm h1 h2⟩
  · have h : (cond == 0 && (bw rd 0 12 && (rn == 0 && (rm == 0 && (ra == 0 && bw imm 0 65535))))) = true := h
    simp only [Bool.and_eq_true, beq_iff_eq, decide_eq_true_eq] at h
    obtain ⟨rfl, ⟨d1, d2⟩, rfl, rfl, rfl, h1, h2⟩ := h
    exact .inr ⟨by kernel_rfl, by kernel_rfl, bk_3 rd d1 d2 imm h1 h2⟩
  · have h : (cond == 0 && (bw rd 0 12 && (rn == 0 && (rm == 0 && (ra == 0 && bw imm 0 65535))))) = true := h
    simp only [Bool.and_eq_true, beq_iff_eq, decide_eq_true_eq] at h
    obtain ⟨rfl, ⟨d1, d2⟩, rfl, rfl, rfl, h1, h2⟩ := h
    exact .inr ⟨by kernel_rfl, by kernel_rfl, bk_4 rd d1 d2 imm h1 h2⟩
  · have h : (cond == 0 && (bw rd 0 12 && (rn == 0 && (bw rm 0 12 && (ra == 0 && bw imm 0 31))))) = true := h
    simp only [Bool.and_eq_true, beq_iff_eq, decide_eq_true_eq] at h
    obtain ⟨rfl, ⟨d1, d2⟩, rfl, ⟨m1, m2⟩, rfl, h1, h2⟩ := h
    exact .inr ⟨by kernel_rfl, by kernel_rfl, bk_5 rd d1 d2 rm m1 m2 imm h1 h2⟩
  · have h : (cond == 0 && (bw rd 0 12 && (rn == 0 && (bw rm 0 12 && (ra == 0 && bw imm 1 31))))) = true := h
    simp only [Bool.and_eq_true, beq_iff_eq, decide_eq_true_eq] at h
    obtain ⟨rfl, ⟨d1, d2⟩, rfl, ⟨m1, m2⟩, rfl, h1, h2⟩ := h
    exact .inr ⟨by kernel_rfl, by kernel_rfl, bk_6 rd d1 d2 rm m1 m2 imm h1 h2⟩
  · have h : (cond == 0 && (bw rd 0 12 && (rn == 0 && (bw rm 0 12 && (ra == 0 && bw imm 1 31))))) = true := h
    simp only [Bool.and_eq_true, beq_iff_eq, decide_eq_true_eq] at h
    obtain ⟨rfl, ⟨d1, d2⟩, rfl, ⟨m1, m2⟩, rfl, h1, h2⟩ := h
    exact .inr ⟨by kernel_rfl, by kernel_rfl, bk_7 rd d1 d2 rm m1 m2 imm h1 h2⟩
  · have h : (cond == 0 && (bw rd 0 12 && (rn == 0 && (bw rm 0 12 && (ra == 0 && bw imm 1 31))))) = true := h
    simp only [Bool.and_eq_true, beq_iff_eq, decide_eq_true_eq] at h
    obtain ⟨rfl, ⟨d1, d2⟩, rfl, ⟨m1, m2⟩, rfl, h1, h2⟩ := h
    exact .inr ⟨by kernel_rfl, by kernel_rfl, bk_8 rd d1 d2 rm m1 m2 imm h1 h2⟩
  · have h : (cond == 0 && (bw rd 0 12 && (rn == 0 && (bw rm 0 12 && (ra == 0 && imm == 0))))) = true := h
    simp only [Bool.and_eq_true, beq_iff_eq, decide_eq_true_eq] at h
    obtain ⟨rfl, ⟨d1, d2⟩, rfl, ⟨m1, m2⟩, rfl, rfl⟩ := h
    exact .inr ⟨by kernel_rfl, by kernel_rfl, bk_9 rd d1 d2 rm m1 m2⟩
  · have h : (cond == 0 && (bw rd 0 12 && (bw rn 0 12 && (bw rm 0 12 && (ra == 0 && imm == 0))))) = true := h
    simp only [Bool.and_eq_true, beq_iff_eq, decide_eq_true_eq] at h
    obtain ⟨rfl, ⟨d1, d2⟩, ⟨n1, n2⟩, ⟨m1, m2⟩, rfl, rfl⟩ := h
    exact .inr ⟨by kernel_rfl, by kernel_rfl, bk_10 rd d1 d2 rn n1 n2 rm m1 m2⟩
  · have h : (cond == 0 && (bw rd 0 12 && (bw rn 0 12 && (bw rm 0 12 && (ra == 0 && imm == 0))))) = true := h
    simp only [Bool.and_eq_true, beq_iff_eq, decide_eq_true_eq] at h
    obtain ⟨rfl, ⟨d1, d2⟩, ⟨n1, n2⟩, ⟨m1, m2⟩, rfl, rfl⟩ := h
    exact .inr ⟨by kernel_rfl, by kernel_rfl, bk_11 rd d1 d2 rn n1 n2 rm m1 m2⟩
  · have h : (cond == 0 && (bw rd 0 12 && (bw rn 0 12 && (bw rm 0 12 && (ra == 0 && imm == 0))))) = true := h
    simp only [Bool.and_eq_true, beq_iff_eq, decide_eq_true_eq] at h
    obtain ⟨rfl, ⟨d1, d2⟩, ⟨n1, n2⟩, ⟨m1, m2⟩, rfl, rfl⟩ := h
    exact .inr ⟨by kernel_rfl, by kernel_rfl, bk_12 rd d1 d2 rn n1 n2 rm m1 m2⟩
  · have h : (cond == 0 && (bw rd 0 12 && (bw rn 0 12 && (bw rm 0 12 && (ra == 0 && imm == 0))))) = true := h
    simp only [Bool.and_eq_true, beq_iff_eq, decide_eq_true_eq] at h
    obtain ⟨rfl, ⟨d1, d2⟩, ⟨n1, n2⟩, ⟨m1, m2⟩, rfl, rfl⟩ := h
    exact .inr ⟨by kernel_rfl, by kernel_rfl, bk_13 rd d1 d2 rn n1 n2 rm m1 m2⟩
  · have h : (cond == 0 && (bw rd 0 12 && (bw rn 0 12 && (bw rm 0 12 && (ra == 0 && imm == 0))))) = true := h
    simp only [Bool.and_eq_true, beq_iff_eq, decide_eq_true_eq] at h
    obtain ⟨rfl, ⟨d1, d2⟩, ⟨n1, n2⟩, ⟨m1, m2⟩, rfl, rfl⟩ := h
    exact .inr ⟨by kernel_rfl, by kernel_rfl, bk_14 rd d1 d2 rn n1 n2 rm m1 m2⟩
  · have h : (cond == 0 && (bw rd 0 12 && (bw rn 0 12 && (bw rm 0 12 && (ra == 0 && imm == 0))))) = true := h
    simp only [Bool.and_eq_true, beq_iff_eq, decide_eq_true_eq] at h
    obtain ⟨rfl, ⟨d1, d2⟩, ⟨n1, n2⟩, ⟨m1, m2⟩, rfl, rfl⟩ := h
    exact .inr ⟨by kernel_rfl, by kernel_rfl, bk_15 rd d1 d2 rn n1 n2 rm m1 m2⟩
  · have h : (cond == 0 && (bw rd 0 12 && (bw rn 0 12 && (bw rm 0 12 && (ra == 0 && imm == 0))))) = true := h
    simp only [Bool.and_eq_true, beq_iff_eq, decide_eq_true_eq] at h
    obtain ⟨rfl, ⟨d1, d2⟩, ⟨n1, n2⟩, ⟨m1, m2⟩, rfl, rfl⟩ := h
    exact .inr ⟨by kernel_rfl, by kernel_rfl, bk_16 rd d1 d2 rn n1 n2 rm m1 m2⟩
  · have h : (cond == 0 && (bw rd 0 12 && (bw rn 0 12 && (bw rm 0 12 && (bw ra 0 12 && (imm == 0 && ra != rd)))))) = true := h
    simp only [Bool.and_eq_true, beq_iff_eq, decide_eq_true_eq, bne_iff_ne] at h
    obtain ⟨rfl, ⟨d1, d2⟩, ⟨n1, n2⟩, ⟨m1, m2⟩, ⟨a1, a2⟩, rfl, hne⟩ := h
    exact .inr ⟨by kernel_rfl, by kernel_rfl, bk_17 rd d1 d2 ra a1 a2 rn n1 n2 rm m1 m2 hne⟩
  · have h : (cond == 0 && (bw rd 0 12 && (bw rn 0 12 && (rm == 0 && (bw imm 0 31 && bw ra 1 (32 - imm)))))) = true := h
    simp only [Bool.and_eq_true, beq_iff_eq, decide_eq_true_eq] at h
    obtain ⟨rfl, ⟨d1, d2⟩, ⟨n1, n2⟩, rfl, ⟨h1, h2⟩, a1, a2⟩ := h
    exact .inr ⟨by kernel_rfl, by kernel_rfl, bk_18 rd d1 d2 rn n1 n2 imm h1 h2 ra a1 a2⟩
  · have h : (cond == 0 && (bw rd 0 7 && (bw rn 0 7 && (rm == 0 && (ra == 0 && imm == 0))))) = true := h
    simp only [Bool.and_eq_true, beq_iff_eq, decide_eq_true_eq] at h
    obtain ⟨rfl, ⟨d1, d2⟩, ⟨n1, n2⟩, rfl, rfl, rfl⟩ := h
    exact .inl ⟨by kernel_rfl, by kernel_rfl, bk_19 rd d1 d2 rn n1 n2⟩
  · have h : (cond == 0 && (bw rd 0 7 && (bw rn 0 7 && (rm == 0 && (ra == 0 && imm == 0))))) = true := h
    simp only [Bool.and_eq_true, beq_iff_eq, decide_eq_true_eq] at h
    obtain ⟨rfl, ⟨d1, d2⟩, ⟨n1, n2⟩, rfl, rfl, rfl⟩ := h
    exact .inl ⟨by kernel_rfl, by kernel_rfl, bk_20 rd d1 d2 rn n1 n2⟩
  · have h : (cond == 0 && (bw rd 0 7 && (bw rn 0 7 && (rm == 0 && (ra == 0 && imm == 0))))) = true := h
    simp only [Bool.and_eq_true, beq_iff_eq, decide_eq_true_eq] at h
    obtain ⟨rfl, ⟨d1, d2⟩, ⟨n1, n2⟩, rfl, rfl, rfl⟩ := h
    exact .inl ⟨by kernel_rfl, by kernel_rfl, bk_21 rd d1 d2 rn n1 n2⟩
  · have h : (cond == 0 && (bw rd 0 7 && (bw rn 0 7 && (rm == 0 && (ra == 0 && imm == 0))))) = true := h
    simp only [Bool.and_eq_true, beq_iff_eq, decide_eq_true_eq] at h
    obtain ⟨rfl, ⟨d1, d2⟩, ⟨n1, n2⟩, rfl, rfl, rfl⟩ := h
    exact .inl ⟨by kernel_rfl, by kernel_rfl, bk_22 rd d1 d2 rn n1 n2⟩
  · have h : (cond == 0 && (rd == 0 && (bw rn 0 7 && (bw rm 0 7 && (ra == 0 && imm == 0))))) = true := h
    simp only [Bool.and_eq_true, beq_iff_eq, decide_eq_true_eq] at h
    obtain ⟨rfl, rfl, ⟨n1, n2⟩, ⟨m1, m2⟩, rfl, rfl⟩ := h
    exact .inl ⟨by kernel_rfl, by kernel_rfl, bk_23 rn n1 n2 rm m1 m2⟩
end Go.Av
end
/-! Chapter 27's worlds: memories with words in their rails, and instructions done on them: as they are walked. -/
section
namespace Go.Av
open Go

theorem strInts_bytes (l : List UInt8) : ∀ b ∈ strInts l, 0 ≤ b ∧ b < 256 := by
  intro b hb
  obtain ⟨u, _, rfl⟩ := List.mem_map.1 hb
  have := u.toNat_lt
  omega

theorem bytes4_length (v : Int) : (bytes4 v).length = 4 := by
  unfold bytes4 strInts
  rw [List.length_map]
  rfl

theorem mend_length {α : Type} (xs : List α) (o : Nat) (ys : List α) (n : Nat) (h : o + min ys.length n ≤ xs.length) : (mend xs o ys n).length = xs.length := by
  unfold mend
  simp
  omega

theorem mend_mem {α : Type} {xs ys : List α} {o n : Nat} {b : α} (h : b ∈ mend xs o ys n) : b ∈ xs ∨ b ∈ ys := by
  unfold mend at h
  rcases List.mem_append.1 h with h | h
  · rcases List.mem_append.1 h with h | h
    · exact .inl (List.mem_of_mem_take h)
    · exact .inr (List.mem_of_mem_take h)
  · exact .inl (List.mem_of_mem_drop h)

/-- A store leaves a memory in order. -/
theorem store_wf {y : MemT} (hy : MemWf y) (a n v : Int) : MemWf (storeM y a n v).2 ∧ (storeM y a n v).2.1 = y.1 := by
  unfold storeM
  rcases findM_cases y.1.1 a n true with ⟨e, he, hf⟩ | ⟨j, hj, hn, _, hf⟩
  · rw [hf]
    have hb : (e != 0) = true := by simpa using he
    dsimp only
    rw [hb]
    exact ⟨hy, rfl⟩
  · rw [hf]
    obtain ⟨_, _, _, _, g5, _, _⟩ := acc_ok hy hj hn
    have hl := mend_length y.2 (posM y j a) (bytes4 v) n.toNat (by rw [bytes4_length]; omega)
    refine ⟨⟨hy.regs, hy.len, fun i hi => ?_, fun b hb => ?_⟩, rfl⟩
    · obtain ⟨w1, w2⟩ := hy.wins i hi
      exact ⟨w1, by show _ ≤ (mend y.2 (posM y j a) (bytes4 v) n.toNat).length; rw [hl]; exact w2⟩
    · rcases mend_mem (show b ∈ mend y.2 (posM y j a) (bytes4 v) n.toNat from hb) with h | h
      · exact hy.bytes b h
      · exact strInts_bytes _ b h

theorem wordR_length (r : List Int) : (wordR r).length = r.length := by unfold wordR; simp

theorem regsOf_length (r : List Int) (op rd rn rm ra imm ld : Int) : (regsOf r op rd rn rm ra imm ld).length = r.length := by
  unfold regsOf
  cases op == 17
  · cases makesRd op <;> simp
  · simp

theorem step_len (s : tState.den) (i : tIns.den) (ld : Int) (h : List.length s.1 = 15) : List.length (V_cpu_Step (s, i, ld)).1.1 = 15 := by
  obtain ⟨op, rd, rn, rm, ra, imm, cond, w, u⟩ := i
  have hw : List.length (wState s).1 = 15 := by
    show (wordR s.1).length = 15
    rw [wordR_length, h]
  show List.length (stepV _ s op rd rn rm ra imm cond w ld).1.1 = 15
  unfold stepV
  cases (V_thumb_Check (op, rd, rn, rm, ra, imm, cond, w, u) != 0 || op == 2)
  · show List.length (bif op == 24 || op == 25 then wState s else makesS (wState s) op rd rn rm ra imm ld).1 = 15
    cases op == 24 || op == 25
    · show List.length (makesS (wState s) op rd rn rm ra imm ld).1 = 15
      unfold makesS
      cases op == 23
      · show (regsOf (wState s).1 op rd rn rm ra imm ld).length = 15
        rw [regsOf_length, hw]
      · exact hw
    · exact hw
  · exact hw

theorem accessV_addr (bad : Bool) (op a d : Int) : (show Int from (accessV bad op a d).1.1) = 0 ∨ (show Int from (accessV bad op a d).1.1) = (wn a : Int) := by
  unfold accessV
  cases bad <;> cases op == 19 <;> cases op == 20 <;> cases op == 21 <;> cases op == 22 <;> first | exact .inl rfl | exact .inr rfl

theorem access_addr (st : tState.den) (ins : tIns.den) : (show Int from (V_cpu_Access (st, ins)).1.1) < 9223372036854775808 := by
  obtain ⟨op, rd, rn, rm, ra, imm, cond, w, u⟩ := ins
  have := wn_lt (rg st.1 rn)
  rcases accessV_addr (V_thumb_Check (op, rd, rn, rm, ra, imm, cond, w, u) != 0) op (rg st.1 rn) (rg st.1 rd) with h | h
  · exact Int.lt_of_le_of_lt (Int.le_of_eq h) (by decide)
  · exact Int.lt_of_le_of_lt (Int.le_of_eq h) (by omega)

end Go.Av
end
