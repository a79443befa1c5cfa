/- Texts of the proof, one behind the other. -/
import Derived.Test.YtehcaooipfgklaaAsmLeastK2
/-! Layer 3: an instruction's bits are decoded as it. Written by wip/tools/decback.py. -/
section
namespace Go.Av
open Go
def dLong (lx ly : List Bool) : Option tIns.den := (dThree lx ly).or ((dProduct lx ly).or ((dPlain lx ly).or (dBranch lx ly)))
theorem le12_bis {x : Int} (h0 : 0 ≤ x) (h : x ≤ 12) : le12 (H (bis x 4)) = true := by
  unfold le12
  rw [H_bis_id h0 (by have : ((2 ^ 4 : Nat) : Int) = 16 := rfl; omega)]
  exact dec_true h
theorem bis4 {x : Int} (h0 : 0 ≤ x) (h : x ≤ 12) : H (bis x 4) = x := H_bis_id h0 (by have : ((2 ^ 4 : Nat) : Int) = 16 := rfl; omega)
theorem even_bit {x : Int} (h : x % 2 = 0) : bI x 0 = false := by
  unfold bI
  rw [show x / (2 ^ 0 : Nat) = x by simp, h]
  rfl
theorem bk_1 : dNarrow [true, false, true, true, true, true, true, true, false, false, false, false, false, false, false, false] = some (1, 0, 0, 0, 0, 0, 0, false, ()) := by kernel_rfl
theorem bk_2 (imm : Int) (_0imm : 0 ≤ imm) (_1imm : imm ≤ 255) : dNarrow [true, false, true, true, true, true, true, false, bI imm 7, bI imm 6, bI imm 5, bI imm 4, bI imm 3, bI imm 2, bI imm 1, bI imm 0] = some (2, 0, 0, 0, 0, imm, 0, false, ()) := by
  have e : dNarrow [true, false, true, true, true, true, true, false, bI imm 7, bI imm 6, bI imm 5, bI imm 4, bI imm 3, bI imm 2, bI imm 1, bI imm 0] = some (2, 0, 0, 0, 0, H (bis imm 8), 0, false, ()) := by kernel_rfl
  rw [e, H_bis_id _0imm (by have : ((2 ^ 8 : Nat) : Int) = 256 := rfl; omega)]
theorem bk_3 (rd : Int) (_0rd : 0 ≤ rd) (_1rd : rd ≤ 12) (imm : Int) (_0imm : 0 ≤ imm) (_1imm : imm ≤ 65535) : dLong [true, true, true, true, false, bI imm 11, true, false, false, true, false, false, bI imm 15, bI imm 14, bI imm 13, bI imm 12] [false, bI imm 10, bI imm 9, bI imm 8, bI rd 3, bI rd 2, bI rd 1, bI rd 0, bI imm 7, bI imm 6, bI imm 5, bI imm 4, bI imm 3, bI imm 2, bI imm 1, bI imm 0] = some (3, rd, 0, 0, 0, imm, 0, false, ()) := by
  have nThree : dThree [true, true, true, true, false, bI imm 11, true, false, false, true, false, false, bI imm 15, bI imm 14, bI imm 13, bI imm 12] [false, bI imm 10, bI imm 9, bI imm 8, bI rd 3, bI rd 2, bI rd 1, bI rd 0, bI imm 7, bI imm 6, bI imm 5, bI imm 4, bI imm 3, bI imm 2, bI imm 1, bI imm 0] = none := by kernel_rfl
  have nProduct : dProduct [true, true, true, true, false, bI imm 11, true, false, false, true, false, false, bI imm 15, bI imm 14, bI imm 13, bI imm 12] [false, bI imm 10, bI imm 9, bI imm 8, bI rd 3, bI rd 2, bI rd 1, bI rd 0, bI imm 7, bI imm 6, bI imm 5, bI imm 4, bI imm 3, bI imm 2, bI imm 1, bI imm 0] = none := by
    have e : dProduct [true, true, true, true, false, bI imm 11, true, false, false, true, false, false, bI imm 15, bI imm 14, bI imm 13, bI imm 12] [false, bI imm 10, bI imm 9, bI imm 8, bI rd 3, bI rd 2, bI rd 1, bI rd 0, bI imm 7, bI imm 6, bI imm 5, bI imm 4, bI imm 3, bI imm 2, bI imm 1, bI imm 0] = (bif !eqC (sl [false, bI imm 10, bI imm 9, bI imm 8, bI rd 3, bI rd 2, bI rd 1, bI rd 0, bI imm 7, bI imm 6, bI imm 5, bI imm 4, bI imm 3, bI imm 2, bI imm 1, bI imm 0] 4 4) 0 then none else none) := by kernel_rfl
    rw [e]; exact Bool.cond_self _ _
  have e0 : ∀ L : Bool, dPlain [true, true, true, true, false, L, true, false, false, true, false, false, bI imm 15, bI imm 14, bI imm 13, bI imm 12] [false, bI imm 10, bI imm 9, bI imm 8, bI rd 3, bI rd 2, bI rd 1, bI rd 0, bI imm 7, bI imm 6, bI imm 5, bI imm 4, bI imm 3, bI imm 2, bI imm 1, bI imm 0] = (bif (le12 (H (bis rd 4)) && true) then some (3, H (bis rd 4), 0, 0, 0, H [bI imm 15, bI imm 14, bI imm 13, bI imm 12, L, bI imm 10, bI imm 9, bI imm 8, bI imm 7, bI imm 6, bI imm 5, bI imm 4, bI imm 3, bI imm 2, bI imm 1, bI imm 0], 0, false, ()) else none) := by intro L; cases L <;> kernel_rfl
  have e : dPlain [true, true, true, true, false, bI imm 11, true, false, false, true, false, false, bI imm 15, bI imm 14, bI imm 13, bI imm 12] [false, bI imm 10, bI imm 9, bI imm 8, bI rd 3, bI rd 2, bI rd 1, bI rd 0, bI imm 7, bI imm 6, bI imm 5, bI imm 4, bI imm 3, bI imm 2, bI imm 1, bI imm 0] = (bif (le12 (H (bis rd 4)) && true) then some (3, H (bis rd 4), 0, 0, 0, H (bis imm 16), 0, false, ()) else none) := e0 (bI imm 11)
  unfold dLong
  rw [nThree, nProduct, e, le12_bis _0rd _1rd, bis4 _0rd _1rd, H_bis_id _0imm (by have : ((2 ^ 16 : Nat) : Int) = 65536 := rfl; omega)]
  rfl
theorem bk_4 (rd : Int) (_0rd : 0 ≤ rd) (_1rd : rd ≤ 12) (imm : Int) (_0imm : 0 ≤ imm) (_1imm : imm ≤ 65535) : dLong [true, true, true, true, false, bI imm 11, true, false, true, true, false, false, bI imm 15, bI imm 14, bI imm 13, bI imm 12] [false, bI imm 10, bI imm 9, bI imm 8, bI rd 3, bI rd 2, bI rd 1, bI rd 0, bI imm 7, bI imm 6, bI imm 5, bI imm 4, bI imm 3, bI imm 2, bI imm 1, bI imm 0] = some (4, rd, 0, 0, 0, imm, 0, false, ()) := by
  have nThree : dThree [true, true, true, true, false, bI imm 11, true, false, true, true, false, false, bI imm 15, bI imm 14, bI imm 13, bI imm 12] [false, bI imm 10, bI imm 9, bI imm 8, bI rd 3, bI rd 2, bI rd 1, bI rd 0, bI imm 7, bI imm 6, bI imm 5, bI imm 4, bI imm 3, bI imm 2, bI imm 1, bI imm 0] = none := by kernel_rfl
  have nProduct : dProduct [true, true, true, true, false, bI imm 11, true, false, true, true, false, false, bI imm 15, bI imm 14, bI imm 13, bI imm 12] [false, bI imm 10, bI imm 9, bI imm 8, bI rd 3, bI rd 2, bI rd 1, bI rd 0, bI imm 7, bI imm 6, bI imm 5, bI imm 4, bI imm 3, bI imm 2, bI imm 1, bI imm 0] = none := by
    have e : dProduct [true, true, true, true, false, bI imm 11, true, false, true, true, false, false, bI imm 15, bI imm 14, bI imm 13, bI imm 12] [false, bI imm 10, bI imm 9, bI imm 8, bI rd 3, bI rd 2, bI rd 1, bI rd 0, bI imm 7, bI imm 6, bI imm 5, bI imm 4, bI imm 3, bI imm 2, bI imm 1, bI imm 0] = (bif !eqC (sl [false, bI imm 10, bI imm 9, bI imm 8, bI rd 3, bI rd 2, bI rd 1, bI rd 0, bI imm 7, bI imm 6, bI imm 5, bI imm 4, bI imm 3, bI imm 2, bI imm 1, bI imm 0] 4 4) 0 then none else none) := by kernel_rfl
    rw [e]; exact Bool.cond_self _ _
  have e0 : ∀ L : Bool, dPlain [true, true, true, true, false, L, true, false, true, true, false, false, bI imm 15, bI imm 14, bI imm 13, bI imm 12] [false, bI imm 10, bI imm 9, bI imm 8, bI rd 3, bI rd 2, bI rd 1, bI rd 0, bI imm 7, bI imm 6, bI imm 5, bI imm 4, bI imm 3, bI imm 2, bI imm 1, bI imm 0] = (bif (le12 (H (bis rd 4)) && true) then some (4, H (bis rd 4), 0, 0, 0, H [bI imm 15, bI imm 14, bI imm 13, bI imm 12, L, bI imm 10, bI imm 9, bI imm 8, bI imm 7, bI imm 6, bI imm 5, bI imm 4, bI imm 3, bI imm 2, bI imm 1, bI imm 0], 0, false, ()) else none) := by intro L; cases L <;> kernel_rfl
  have e : dPlain [true, true, true, true, false, bI imm 11, true, false, true, true, false, false, bI imm 15, bI imm 14, bI imm 13, bI imm 12] [false, bI imm 10, bI imm 9, bI imm 8, bI rd 3, bI rd 2, bI rd 1, bI rd 0, bI imm 7, bI imm 6, bI imm 5, bI imm 4, bI imm 3, bI imm 2, bI imm 1, bI imm 0] = (bif (le12 (H (bis rd 4)) && true) then some (4, H (bis rd 4), 0, 0, 0, H (bis imm 16), 0, false, ()) else none) := e0 (bI imm 11)
  unfold dLong
  rw [nThree, nProduct, e, le12_bis _0rd _1rd, bis4 _0rd _1rd, H_bis_id _0imm (by have : ((2 ^ 16 : Nat) : Int) = 65536 := rfl; omega)]
  rfl
theorem bk_5 (rd : Int) (_0rd : 0 ≤ rd) (_1rd : rd ≤ 12) (rm : Int) (_0rm : 0 ≤ rm) (_1rm : rm ≤ 12) (imm : Int) (_0imm : 0 ≤ imm) (_1imm : imm ≤ 31) : dLong [true, true, true, false, true, false, true, false, false, true, false, false, true, true, true, true] [false, bI imm 4, bI imm 3, bI imm 2, bI rd 3, bI rd 2, bI rd 1, bI rd 0, bI imm 1, bI imm 0, false, false, bI rm 3, bI rm 2, bI rm 1, bI rm 0] = some (5, rd, 0, rm, 0, imm, 0, false, ()) := by
  have e : dThree [true, true, true, false, true, false, true, false, false, true, false, false, true, true, true, true] [false, bI imm 4, bI imm 3, bI imm 2, bI rd 3, bI rd 2, bI rd 1, bI rd 0, bI imm 1, bI imm 0, false, false, bI rm 3, bI rm 2, bI rm 1, bI rm 0] = (bif (le12 (H (bis rd 4)) && (le12 (H (bis rm 4)) && true)) then some (5 + H [false, false], H (bis rd 4), 0, H (bis rm 4), 0, H (bis imm 5), 0, false, ()) else none) := by kernel_rfl
  have p : ((2 ^ 5 : Nat) : Int) = 32 := rfl
  unfold dLong
  rw [e, le12_bis _0rd _1rd, le12_bis _0rm _1rm, bis4 _0rd _1rd, bis4 _0rm _1rm, H_bis_id (x := imm) (by omega) (by omega)]
  rfl
theorem bk_6 (rd : Int) (_0rd : 0 ≤ rd) (_1rd : rd ≤ 12) (rm : Int) (_0rm : 0 ≤ rm) (_1rm : rm ≤ 12) (imm : Int) (_0imm : 1 ≤ imm) (_1imm : imm ≤ 31) : dLong [true, true, true, false, true, false, true, false, false, true, false, false, true, true, true, true] [false, bI imm 4, bI imm 3, bI imm 2, bI rd 3, bI rd 2, bI rd 1, bI rd 0, bI imm 1, bI imm 0, false, true, bI rm 3, bI rm 2, bI rm 1, bI rm 0] = some (6, rd, 0, rm, 0, imm, 0, false, ()) := by
  have e : dThree [true, true, true, false, true, false, true, false, false, true, false, false, true, true, true, true] [false, bI imm 4, bI imm 3, bI imm 2, bI rd 3, bI rd 2, bI rd 1, bI rd 0, bI imm 1, bI imm 0, false, true, bI rm 3, bI rm 2, bI rm 1, bI rm 0] = (bif (le12 (H (bis rd 4)) && (le12 (H (bis rm 4)) && true)) then (bif decide (H (bis imm 5) > 0) then some (5 + H [false, true], H (bis rd 4), 0, H (bis rm 4), 0, H (bis imm 5), 0, false, ()) else none) else none) := by kernel_rfl
  have p : ((2 ^ 5 : Nat) : Int) = 32 := rfl
  unfold dLong
  rw [e, le12_bis _0rd _1rd, le12_bis _0rm _1rm, bis4 _0rd _1rd, bis4 _0rm _1rm, H_bis_id (x := imm) (by omega) (by omega)]
  rw [dec_true (p := imm > 0) (by omega)]
  rfl
theorem bk_7 (rd : Int) (_0rd : 0 ≤ rd) (_1rd : rd ≤ 12) (rm : Int) (_0rm : 0 ≤ rm) (_1rm : rm ≤ 12) (imm : Int) (_0imm : 1 ≤ imm) (_1imm : imm ≤ 31) : dLong [true, true, true, false, true, false, true, false, false, true, false, false, true, true, true, true] [false, bI imm 4, bI imm 3, bI imm 2, bI rd 3, bI rd 2, bI rd 1, bI rd 0, bI imm 1, bI imm 0, true, false, bI rm 3, bI rm 2, bI rm 1, bI rm 0] = some (7, rd, 0, rm, 0, imm, 0, false, ()) := by
  have e : dThree [true, true, true, false, true, false, true, false, false, true, false, false, true, true, true, true] [false, bI imm 4, bI imm 3, bI imm 2, bI rd 3, bI rd 2, bI rd 1, bI rd 0, bI imm 1, bI imm 0, true, false, bI rm 3, bI rm 2, bI rm 1, bI rm 0] = (bif (le12 (H (bis rd 4)) && (le12 (H (bis rm 4)) && true)) then (bif decide (H (bis imm 5) > 0) then some (5 + H [true, false], H (bis rd 4), 0, H (bis rm 4), 0, H (bis imm 5), 0, false, ()) else none) else none) := by kernel_rfl
  have p : ((2 ^ 5 : Nat) : Int) = 32 := rfl
  unfold dLong
  rw [e, le12_bis _0rd _1rd, le12_bis _0rm _1rm, bis4 _0rd _1rd, bis4 _0rm _1rm, H_bis_id (x := imm) (by omega) (by omega)]
  rw [dec_true (p := imm > 0) (by omega)]
  rfl
theorem bk_8 (rd : Int) (_0rd : 0 ≤ rd) (_1rd : rd ≤ 12) (rm : Int) (_0rm : 0 ≤ rm) (_1rm : rm ≤ 12) (imm : Int) (_0imm : 1 ≤ imm) (_1imm : imm ≤ 31) : dLong [true, true, true, false, true, false, true, false, false, true, false, false, true, true, true, true] [false, bI imm 4, bI imm 3, bI imm 2, bI rd 3, bI rd 2, bI rd 1, bI rd 0, bI imm 1, bI imm 0, true, true, bI rm 3, bI rm 2, bI rm 1, bI rm 0] = some (8, rd, 0, rm, 0, imm, 0, false, ()) := by
  have e : dThree [true, true, true, false, true, false, true, false, false, true, false, false, true, true, true, true] [false, bI imm 4, bI imm 3, bI imm 2, bI rd 3, bI rd 2, bI rd 1, bI rd 0, bI imm 1, bI imm 0, true, true, bI rm 3, bI rm 2, bI rm 1, bI rm 0] = (bif (le12 (H (bis rd 4)) && (le12 (H (bis rm 4)) && true)) then (bif decide (H (bis imm 5) > 0) then some (5 + H [true, true], H (bis rd 4), 0, H (bis rm 4), 0, H (bis imm 5), 0, false, ()) else none) else none) := by kernel_rfl
  have p : ((2 ^ 5 : Nat) : Int) = 32 := rfl
  unfold dLong
  rw [e, le12_bis _0rd _1rd, le12_bis _0rm _1rm, bis4 _0rd _1rd, bis4 _0rm _1rm, H_bis_id (x := imm) (by omega) (by omega)]
  rw [dec_true (p := imm > 0) (by omega)]
  rfl
theorem bk_9 (rd : Int) (_0rd : 0 ≤ rd) (_1rd : rd ≤ 12) (rm : Int) (_0rm : 0 ≤ rm) (_1rm : rm ≤ 12) : dLong [true, true, true, false, true, false, true, false, false, true, true, false, true, true, true, true] [false, false, false, false, bI rd 3, bI rd 2, bI rd 1, bI rd 0, false, false, false, false, bI rm 3, bI rm 2, bI rm 1, bI rm 0] = some (9, rd, 0, rm, 0, 0, 0, false, ()) := by
  have e : dThree [true, true, true, false, true, false, true, false, false, true, true, false, true, true, true, true] [false, false, false, false, bI rd 3, bI rd 2, bI rd 1, bI rd 0, false, false, false, false, bI rm 3, bI rm 2, bI rm 1, bI rm 0] = (bif (le12 (H (bis rd 4)) && (le12 (H (bis rm 4)) && true)) then some (9, H (bis rd 4), 0, H (bis rm 4), 0, 0, 0, false, ()) else none) := by kernel_rfl
  unfold dLong
  rw [e, le12_bis _0rd _1rd, le12_bis _0rm _1rm, bis4 _0rd _1rd, bis4 _0rm _1rm]
  rfl
theorem bk_10 (rd : Int) (_0rd : 0 ≤ rd) (_1rd : rd ≤ 12) (rn : Int) (_0rn : 0 ≤ rn) (_1rn : rn ≤ 12) (rm : Int) (_0rm : 0 ≤ rm) (_1rm : rm ≤ 12) : dLong [true, true, true, false, true, false, true, false, false, false, false, false, bI rn 3, bI rn 2, bI rn 1, bI rn 0] [false, false, false, false, bI rd 3, bI rd 2, bI rd 1, bI rd 0, false, false, false, false, bI rm 3, bI rm 2, bI rm 1, bI rm 0] = some (10, rd, rn, rm, 0, 0, 0, false, ()) := by
  have e : dThree [true, true, true, false, true, false, true, false, false, false, false, false, bI rn 3, bI rn 2, bI rn 1, bI rn 0] [false, false, false, false, bI rd 3, bI rd 2, bI rd 1, bI rd 0, false, false, false, false, bI rm 3, bI rm 2, bI rm 1, bI rm 0] = (bif (le12 (H (bis rd 4)) && (le12 (H (bis rn 4)) && (le12 (H (bis rm 4)) && true))) then some (10, H (bis rd 4), H (bis rn 4), H (bis rm 4), 0, 0, 0, false, ()) else none) := by kernel_rfl
  unfold dLong
  rw [e, le12_bis _0rd _1rd, le12_bis _0rn _1rn, le12_bis _0rm _1rm, bis4 _0rd _1rd, bis4 _0rn _1rn, bis4 _0rm _1rm]
  rfl
theorem bk_11 (rd : Int) (_0rd : 0 ≤ rd) (_1rd : rd ≤ 12) (rn : Int) (_0rn : 0 ≤ rn) (_1rn : rn ≤ 12) (rm : Int) (_0rm : 0 ≤ rm) (_1rm : rm ≤ 12) : dLong [true, true, true, false, true, false, true, false, false, false, true, false, bI rn 3, bI rn 2, bI rn 1, bI rn 0] [false, false, false, false, bI rd 3, bI rd 2, bI rd 1, bI rd 0, false, false, false, false, bI rm 3, bI rm 2, bI rm 1, bI rm 0] = some (11, rd, rn, rm, 0, 0, 0, false, ()) := by
  have e : dThree [true, true, true, false, true, false, true, false, false, false, true, false, bI rn 3, bI rn 2, bI rn 1, bI rn 0] [false, false, false, false, bI rd 3, bI rd 2, bI rd 1, bI rd 0, false, false, false, false, bI rm 3, bI rm 2, bI rm 1, bI rm 0] = (bif (le12 (H (bis rd 4)) && (le12 (H (bis rn 4)) && (le12 (H (bis rm 4)) && true))) then some (11, H (bis rd 4), H (bis rn 4), H (bis rm 4), 0, 0, 0, false, ()) else none) := by kernel_rfl
  unfold dLong
  rw [e, le12_bis _0rd _1rd, le12_bis _0rn _1rn, le12_bis _0rm _1rm, bis4 _0rd _1rd, bis4 _0rn _1rn, bis4 _0rm _1rm]
  rfl
theorem bk_12 (rd : Int) (_0rd : 0 ≤ rd) (_1rd : rd ≤ 12) (rn : Int) (_0rn : 0 ≤ rn) (_1rn : rn ≤ 12) (rm : Int) (_0rm : 0 ≤ rm) (_1rm : rm ≤ 12) : dLong [true, true, true, false, true, false, true, false, false, true, false, false, bI rn 3, bI rn 2, bI rn 1, bI rn 0] [false, false, false, false, bI rd 3, bI rd 2, bI rd 1, bI rd 0, false, false, false, false, bI rm 3, bI rm 2, bI rm 1, bI rm 0] = some (12, rd, rn, rm, 0, 0, 0, false, ()) := by
  have e : dThree [true, true, true, false, true, false, true, false, false, true, false, false, bI rn 3, bI rn 2, bI rn 1, bI rn 0] [false, false, false, false, bI rd 3, bI rd 2, bI rd 1, bI rd 0, false, false, false, false, bI rm 3, bI rm 2, bI rm 1, bI rm 0] = (bif eqC (bis rn 4) 15 then (bif (le12 (H (bis rd 4)) && (le12 (H (bis rm 4)) && true)) then some (5 + H [false, false], H (bis rd 4), 0, H (bis rm 4), 0, H (sl [false, false, false, false, bI rd 3, bI rd 2, bI rd 1, bI rd 0, false, false, false, false, bI rm 3, bI rm 2, bI rm 1, bI rm 0] 12 3 ++ sl [false, false, false, false, bI rd 3, bI rd 2, bI rd 1, bI rd 0, false, false, false, false, bI rm 3, bI rm 2, bI rm 1, bI rm 0] 6 2), 0, false, ()) else none) else bif (le12 (H (bis rd 4)) && (le12 (H (bis rn 4)) && (le12 (H (bis rm 4)) && true))) then some (12, H (bis rd 4), H (bis rn 4), H (bis rm 4), 0, 0, 0, false, ()) else none) := by kernel_rfl
  have e2 : eqC (bis rn 4) 15 = false := by rw [← eqC_H (bis rn 4) 15 (by rw [bis_len]; decide), bis4 _0rn _1rn, beq_eq_false_iff_ne]; omega
  unfold dLong
  rw [e, e2, le12_bis _0rd _1rd, le12_bis _0rn _1rn, le12_bis _0rm _1rm, bis4 _0rd _1rd, bis4 _0rn _1rn, bis4 _0rm _1rm]
  rfl
theorem bk_13 (rd : Int) (_0rd : 0 ≤ rd) (_1rd : rd ≤ 12) (rn : Int) (_0rn : 0 ≤ rn) (_1rn : rn ≤ 12) (rm : Int) (_0rm : 0 ≤ rm) (_1rm : rm ≤ 12) : dLong [true, true, true, false, true, false, true, false, true, false, false, false, bI rn 3, bI rn 2, bI rn 1, bI rn 0] [false, false, false, false, bI rd 3, bI rd 2, bI rd 1, bI rd 0, false, false, false, false, bI rm 3, bI rm 2, bI rm 1, bI rm 0] = some (13, rd, rn, rm, 0, 0, 0, false, ()) := by
  have e : dThree [true, true, true, false, true, false, true, false, true, false, false, false, bI rn 3, bI rn 2, bI rn 1, bI rn 0] [false, false, false, false, bI rd 3, bI rd 2, bI rd 1, bI rd 0, false, false, false, false, bI rm 3, bI rm 2, bI rm 1, bI rm 0] = (bif (le12 (H (bis rd 4)) && (le12 (H (bis rn 4)) && (le12 (H (bis rm 4)) && true))) then some (13, H (bis rd 4), H (bis rn 4), H (bis rm 4), 0, 0, 0, false, ()) else none) := by kernel_rfl
  unfold dLong
  rw [e, le12_bis _0rd _1rd, le12_bis _0rn _1rn, le12_bis _0rm _1rm, bis4 _0rd _1rd, bis4 _0rn _1rn, bis4 _0rm _1rm]
  rfl
theorem bk_14 (rd : Int) (_0rd : 0 ≤ rd) (_1rd : rd ≤ 12) (rn : Int) (_0rn : 0 ≤ rn) (_1rn : rn ≤ 12) (rm : Int) (_0rm : 0 ≤ rm) (_1rm : rm ≤ 12) : dLong [true, true, true, false, true, false, true, true, false, false, false, false, bI rn 3, bI rn 2, bI rn 1, bI rn 0] [false, false, false, false, bI rd 3, bI rd 2, bI rd 1, bI rd 0, false, false, false, false, bI rm 3, bI rm 2, bI rm 1, bI rm 0] = some (14, rd, rn, rm, 0, 0, 0, false, ()) := by
  have e : dThree [true, true, true, false, true, false, true, true, false, false, false, false, bI rn 3, bI rn 2, bI rn 1, bI rn 0] [false, false, false, false, bI rd 3, bI rd 2, bI rd 1, bI rd 0, false, false, false, false, bI rm 3, bI rm 2, bI rm 1, bI rm 0] = (bif (le12 (H (bis rd 4)) && (le12 (H (bis rn 4)) && (le12 (H (bis rm 4)) && true))) then some (14, H (bis rd 4), H (bis rn 4), H (bis rm 4), 0, 0, 0, false, ()) else none) := by kernel_rfl
  unfold dLong
  rw [e, le12_bis _0rd _1rd, le12_bis _0rn _1rn, le12_bis _0rm _1rm, bis4 _0rd _1rd, bis4 _0rn _1rn, bis4 _0rm _1rm]
  rfl
theorem bk_15 (rd : Int) (_0rd : 0 ≤ rd) (_1rd : rd ≤ 12) (rn : Int) (_0rn : 0 ≤ rn) (_1rn : rn ≤ 12) (rm : Int) (_0rm : 0 ≤ rm) (_1rm : rm ≤ 12) : dLong [true, true, true, false, true, false, true, true, true, false, true, false, bI rn 3, bI rn 2, bI rn 1, bI rn 0] [false, false, false, false, bI rd 3, bI rd 2, bI rd 1, bI rd 0, false, false, false, false, bI rm 3, bI rm 2, bI rm 1, bI rm 0] = some (15, rd, rn, rm, 0, 0, 0, false, ()) := by
  have e : dThree [true, true, true, false, true, false, true, true, true, false, true, false, bI rn 3, bI rn 2, bI rn 1, bI rn 0] [false, false, false, false, bI rd 3, bI rd 2, bI rd 1, bI rd 0, false, false, false, false, bI rm 3, bI rm 2, bI rm 1, bI rm 0] = (bif (le12 (H (bis rd 4)) && (le12 (H (bis rn 4)) && (le12 (H (bis rm 4)) && true))) then some (15, H (bis rd 4), H (bis rn 4), H (bis rm 4), 0, 0, 0, false, ()) else none) := by kernel_rfl
  unfold dLong
  rw [e, le12_bis _0rd _1rd, le12_bis _0rn _1rn, le12_bis _0rm _1rm, bis4 _0rd _1rd, bis4 _0rn _1rn, bis4 _0rm _1rm]
  rfl
theorem bk_16 (rd : Int) (_0rd : 0 ≤ rd) (_1rd : rd ≤ 12) (rn : Int) (_0rn : 0 ≤ rn) (_1rn : rn ≤ 12) (rm : Int) (_0rm : 0 ≤ rm) (_1rm : rm ≤ 12) : dLong [true, true, true, true, true, false, true, true, false, false, false, false, bI rn 3, bI rn 2, bI rn 1, bI rn 0] [true, true, true, true, bI rd 3, bI rd 2, bI rd 1, bI rd 0, false, false, false, false, bI rm 3, bI rm 2, bI rm 1, bI rm 0] = some (16, rd, rn, rm, 0, 0, 0, false, ()) := by
  have nThree : dThree [true, true, true, true, true, false, true, true, false, false, false, false, bI rn 3, bI rn 2, bI rn 1, bI rn 0] [true, true, true, true, bI rd 3, bI rd 2, bI rd 1, bI rd 0, false, false, false, false, bI rm 3, bI rm 2, bI rm 1, bI rm 0] = none := by kernel_rfl
  have e : dProduct [true, true, true, true, true, false, true, true, false, false, false, false, bI rn 3, bI rn 2, bI rn 1, bI rn 0] [true, true, true, true, bI rd 3, bI rd 2, bI rd 1, bI rd 0, false, false, false, false, bI rm 3, bI rm 2, bI rm 1, bI rm 0] = (bif (le12 (H (bis rd 4)) && (le12 (H (bis rn 4)) && (le12 (H (bis rm 4)) && true))) then some (16, H (bis rd 4), H (bis rn 4), H (bis rm 4), 0, 0, 0, false, ()) else none) := by kernel_rfl
  unfold dLong
  rw [nThree, e, le12_bis _0rd _1rd, le12_bis _0rn _1rn, le12_bis _0rm _1rm, bis4 _0rd _1rd, bis4 _0rn _1rn, bis4 _0rm _1rm]
  rfl
theorem bk_17 (rd : Int) (_0rd : 0 ≤ rd) (_1rd : rd ≤ 12) (ra : Int) (_0ra : 0 ≤ ra) (_1ra : ra ≤ 12) (rn : Int) (_0rn : 0 ≤ rn) (_1rn : rn ≤ 12) (rm : Int) (_0rm : 0 ≤ rm) (_1rm : rm ≤ 12) (hne : ra ≠ rd) : dLong [true, true, true, true, true, false, true, true, true, false, true, false, bI rn 3, bI rn 2, bI rn 1, bI rn 0] [bI rd 3, bI rd 2, bI rd 1, bI rd 0, bI ra 3, bI ra 2, bI ra 1, bI ra 0, false, false, false, false, bI rm 3, bI rm 2, bI rm 1, bI rm 0] = some (17, rd, rn, rm, ra, 0, 0, false, ()) := by
  have nThree : dThree [true, true, true, true, true, false, true, true, true, false, true, false, bI rn 3, bI rn 2, bI rn 1, bI rn 0] [bI rd 3, bI rd 2, bI rd 1, bI rd 0, bI ra 3, bI ra 2, bI ra 1, bI ra 0, false, false, false, false, bI rm 3, bI rm 2, bI rm 1, bI rm 0] = none := by
    have e : dThree [true, true, true, true, true, false, true, true, true, false, true, false, bI rn 3, bI rn 2, bI rn 1, bI rn 0] [bI rd 3, bI rd 2, bI rd 1, bI rd 0, bI ra 3, bI ra 2, bI ra 1, bI ra 0, false, false, false, false, bI rm 3, bI rm 2, bI rm 1, bI rm 0] = (bif eqC [bI rd 3] 1 then none else none) := by kernel_rfl
    rw [e]; exact Bool.cond_self _ _
  have e : dProduct [true, true, true, true, true, false, true, true, true, false, true, false, bI rn 3, bI rn 2, bI rn 1, bI rn 0] [bI rd 3, bI rd 2, bI rd 1, bI rd 0, bI ra 3, bI ra 2, bI ra 1, bI ra 0, false, false, false, false, bI rm 3, bI rm 2, bI rm 1, bI rm 0] = (bif (H (bis rd 4) != H (bis ra 4)) then (bif (le12 (H (bis rd 4)) && (le12 (H (bis ra 4)) && (le12 (H (bis rn 4)) && (le12 (H (bis rm 4)) && true)))) then some (17, H (bis rd 4), H (bis rn 4), H (bis rm 4), H (bis ra 4), 0, 0, false, ()) else none) else none) := by kernel_rfl
  unfold dLong
  rw [nThree, e, le12_bis _0rd _1rd, le12_bis _0ra _1ra, le12_bis _0rn _1rn, le12_bis _0rm _1rm, bis4 _0rd _1rd, bis4 _0ra _1ra, bis4 _0rn _1rn, bis4 _0rm _1rm, bne_iff_ne.2 (Ne.symm hne)]
  rfl
theorem bk_18 (rd : Int) (_0rd : 0 ≤ rd) (_1rd : rd ≤ 12) (rn : Int) (_0rn : 0 ≤ rn) (_1rn : rn ≤ 12) (imm : Int) (_0imm : 0 ≤ imm) (_1imm : imm ≤ 31) (ra : Int) (_0ra : 1 ≤ ra) (_1ra : ra ≤ 32 - imm) : dLong [true, true, true, true, false, false, true, true, false, true, true, false, bI rn 3, bI rn 2, bI rn 1, bI rn 0] [false, bI imm 4, bI imm 3, bI imm 2, bI rd 3, bI rd 2, bI rd 1, bI rd 0, bI imm 1, bI imm 0, false, bI (imm + ra - 1) 4, bI (imm + ra - 1) 3, bI (imm + ra - 1) 2, bI (imm + ra - 1) 1, bI (imm + ra - 1) 0] = some (18, rd, rn, 0, ra, imm, 0, false, ()) := by
  have nThree : dThree [true, true, true, true, false, false, true, true, false, true, true, false, bI rn 3, bI rn 2, bI rn 1, bI rn 0] [false, bI imm 4, bI imm 3, bI imm 2, bI rd 3, bI rd 2, bI rd 1, bI rd 0, bI imm 1, bI imm 0, false, bI (imm + ra - 1) 4, bI (imm + ra - 1) 3, bI (imm + ra - 1) 2, bI (imm + ra - 1) 1, bI (imm + ra - 1) 0] = none := by kernel_rfl
  have nProduct : dProduct [true, true, true, true, false, false, true, true, false, true, true, false, bI rn 3, bI rn 2, bI rn 1, bI rn 0] [false, bI imm 4, bI imm 3, bI imm 2, bI rd 3, bI rd 2, bI rd 1, bI rd 0, bI imm 1, bI imm 0, false, bI (imm + ra - 1) 4, bI (imm + ra - 1) 3, bI (imm + ra - 1) 2, bI (imm + ra - 1) 1, bI (imm + ra - 1) 0] = none := by
    have e : dProduct [true, true, true, true, false, false, true, true, false, true, true, false, bI rn 3, bI rn 2, bI rn 1, bI rn 0] [false, bI imm 4, bI imm 3, bI imm 2, bI rd 3, bI rd 2, bI rd 1, bI rd 0, bI imm 1, bI imm 0, false, bI (imm + ra - 1) 4, bI (imm + ra - 1) 3, bI (imm + ra - 1) 2, bI (imm + ra - 1) 1, bI (imm + ra - 1) 0] = (bif !eqC (sl [false, bI imm 4, bI imm 3, bI imm 2, bI rd 3, bI rd 2, bI rd 1, bI rd 0, bI imm 1, bI imm 0, false, bI (imm + ra - 1) 4, bI (imm + ra - 1) 3, bI (imm + ra - 1) 2, bI (imm + ra - 1) 1, bI (imm + ra - 1) 0] 4 4) 0 then none else none) := by kernel_rfl
    rw [e]; exact Bool.cond_self _ _
  have e : dPlain [true, true, true, true, false, false, true, true, false, true, true, false, bI rn 3, bI rn 2, bI rn 1, bI rn 0] [false, bI imm 4, bI imm 3, bI imm 2, bI rd 3, bI rd 2, bI rd 1, bI rd 0, bI imm 1, bI imm 0, false, bI (imm + ra - 1) 4, bI (imm + ra - 1) 3, bI (imm + ra - 1) 2, bI (imm + ra - 1) 1, bI (imm + ra - 1) 0] = (bif decide (H (bis (imm + ra - 1) 5) + 1 - H (bis imm 5) ≥ 1) then (bif (le12 (H (bis rd 4)) && (le12 (H (bis rn 4)) && true)) then some (18, H (bis rd 4), H (bis rn 4), 0, H (bis (imm + ra - 1) 5) + 1 - H (bis imm 5), H (bis imm 5), 0, false, ()) else none) else none) := by kernel_rfl
  have p : ((2 ^ 5 : Nat) : Int) = 32 := rfl
  unfold dLong
  rw [nThree, nProduct, e, le12_bis _0rd _1rd, le12_bis _0rn _1rn, bis4 _0rd _1rd, bis4 _0rn _1rn, H_bis_id (x := imm) (by omega) (by omega), H_bis_id (x := imm + ra - 1) (by omega) (by omega), show imm + ra - 1 + 1 - imm = ra by omega, dec_true (p := ra ≥ 1) (by omega)]
  rfl
theorem bk_19 (rd : Int) (_0rd : 0 ≤ rd) (_1rd : rd ≤ 7) (rn : Int) (_0rn : 0 ≤ rn) (_1rn : rn ≤ 7) : dNarrow [false, true, true, false, true, false, false, false, false, false, bI rn 2, bI rn 1, bI rn 0, bI rd 2, bI rd 1, bI rd 0] = some (19, rd, rn, 0, 0, 0, 0, false, ()) := by
  have e : dNarrow [false, true, true, false, true, false, false, false, false, false, bI rn 2, bI rn 1, bI rn 0, bI rd 2, bI rd 1, bI rd 0] = some (19, H (bis rd 3), H (bis rn 3), 0, 0, 0, 0, false, ()) := by kernel_rfl
  have p : ((2 ^ 3 : Nat) : Int) = 8 := rfl
  rw [e, H_bis_id _0rd (by omega), H_bis_id _0rn (by omega)]
theorem bk_20 (rd : Int) (_0rd : 0 ≤ rd) (_1rd : rd ≤ 7) (rn : Int) (_0rn : 0 ≤ rn) (_1rn : rn ≤ 7) : dNarrow [false, true, true, false, false, false, false, false, false, false, bI rn 2, bI rn 1, bI rn 0, bI rd 2, bI rd 1, bI rd 0] = some (20, rd, rn, 0, 0, 0, 0, false, ()) := by
  have e : dNarrow [false, true, true, false, false, false, false, false, false, false, bI rn 2, bI rn 1, bI rn 0, bI rd 2, bI rd 1, bI rd 0] = some (20, H (bis rd 3), H (bis rn 3), 0, 0, 0, 0, false, ()) := by kernel_rfl
  have p : ((2 ^ 3 : Nat) : Int) = 8 := rfl
  rw [e, H_bis_id _0rd (by omega), H_bis_id _0rn (by omega)]
theorem bk_21 (rd : Int) (_0rd : 0 ≤ rd) (_1rd : rd ≤ 7) (rn : Int) (_0rn : 0 ≤ rn) (_1rn : rn ≤ 7) : dNarrow [false, true, true, true, true, false, false, false, false, false, bI rn 2, bI rn 1, bI rn 0, bI rd 2, bI rd 1, bI rd 0] = some (21, rd, rn, 0, 0, 0, 0, false, ()) := by
  have e : dNarrow [false, true, true, true, true, false, false, false, false, false, bI rn 2, bI rn 1, bI rn 0, bI rd 2, bI rd 1, bI rd 0] = some (21, H (bis rd 3), H (bis rn 3), 0, 0, 0, 0, false, ()) := by kernel_rfl
  have p : ((2 ^ 3 : Nat) : Int) = 8 := rfl
  rw [e, H_bis_id _0rd (by omega), H_bis_id _0rn (by omega)]
theorem bk_22 (rd : Int) (_0rd : 0 ≤ rd) (_1rd : rd ≤ 7) (rn : Int) (_0rn : 0 ≤ rn) (_1rn : rn ≤ 7) : dNarrow [false, true, true, true, false, false, false, false, false, false, bI rn 2, bI rn 1, bI rn 0, bI rd 2, bI rd 1, bI rd 0] = some (22, rd, rn, 0, 0, 0, 0, false, ()) := by
  have e : dNarrow [false, true, true, true, false, false, false, false, false, false, bI rn 2, bI rn 1, bI rn 0, bI rd 2, bI rd 1, bI rd 0] = some (22, H (bis rd 3), H (bis rn 3), 0, 0, 0, 0, false, ()) := by kernel_rfl
  have p : ((2 ^ 3 : Nat) : Int) = 8 := rfl
  rw [e, H_bis_id _0rd (by omega), H_bis_id _0rn (by omega)]
theorem bk_23 (rn : Int) (_0rn : 0 ≤ rn) (_1rn : rn ≤ 7) (rm : Int) (_0rm : 0 ≤ rm) (_1rm : rm ≤ 7) : dNarrow [false, true, false, false, false, false, true, false, true, false, bI rm 2, bI rm 1, bI rm 0, bI rn 2, bI rn 1, bI rn 0] = some (23, 0, rn, rm, 0, 0, 0, false, ()) := by
  have e : dNarrow [false, true, false, false, false, false, true, false, true, false, bI rm 2, bI rm 1, bI rm 0, bI rn 2, bI rn 1, bI rn 0] = some (23, 0, H (bis rn 3), H (bis rm 3), 0, 0, 0, false, ()) := by kernel_rfl
  have p : ((2 ^ 3 : Nat) : Int) = 8 := rfl
  rw [e, H_bis_id _0rn (by omega), H_bis_id _0rm (by omega)]
theorem bk_24 (imm : Int) (h : imm % 2 = 0) (h1 : -2048 ≤ imm) (h2 : imm ≤ 2046) : dNarrow [true, true, true, false, false, bI imm 11, bI imm 10, bI imm 9, bI imm 8, bI imm 7, bI imm 6, bI imm 5, bI imm 4, bI imm 3, bI imm 2, bI imm 1] = some (24, 0, 0, 0, 0, imm, 0, false, ()) := by
  have e : dNarrow [true, true, true, false, false, bI imm 11, bI imm 10, bI imm 9, bI imm 8, bI imm 7, bI imm 6, bI imm 5, bI imm 4, bI imm 3, bI imm 2, bI imm 1] = some (24, 0, 0, 0, 0, SG [bI imm 11, bI imm 10, bI imm 9, bI imm 8, bI imm 7, bI imm 6, bI imm 5, bI imm 4, bI imm 3, bI imm 2, bI imm 1, false], 0, false, ()) := by kernel_rfl
  have p : ((2 ^ 11 : Nat) : Int) = 2048 := rfl
  have e2 : SG [bI imm 11, bI imm 10, bI imm 9, bI imm 8, bI imm 7, bI imm 6, bI imm 5, bI imm 4, bI imm 3, bI imm 2, bI imm 1, false] = imm := by rw [← even_bit h]; exact SG_bis imm 11 (by omega) (by omega)
  rw [e, e2]
theorem bk_24w (imm : Int) (h : imm % 2 = 0) (h1 : -16777216 ≤ imm) (h2 : imm ≤ 16777214) : dLong [true, true, true, true, false, bI imm 24, bI imm 21, bI imm 20, bI imm 19, bI imm 18, bI imm 17, bI imm 16, bI imm 15, bI imm 14, bI imm 13, bI imm 12] [true, false, !(bI imm 23 ^^ bI imm 24), true, !(bI imm 22 ^^ bI imm 24), bI imm 11, bI imm 10, bI imm 9, bI imm 8, bI imm 7, bI imm 6, bI imm 5, bI imm 4, bI imm 3, bI imm 2, bI imm 1] = some (24, 0, 0, 0, 0, imm, 0, true, ()) := by
  have nThree : dThree [true, true, true, true, false, bI imm 24, bI imm 21, bI imm 20, bI imm 19, bI imm 18, bI imm 17, bI imm 16, bI imm 15, bI imm 14, bI imm 13, bI imm 12] [true, false, !(bI imm 23 ^^ bI imm 24), true, !(bI imm 22 ^^ bI imm 24), bI imm 11, bI imm 10, bI imm 9, bI imm 8, bI imm 7, bI imm 6, bI imm 5, bI imm 4, bI imm 3, bI imm 2, bI imm 1] = none := by kernel_rfl
  have nProduct : dProduct [true, true, true, true, false, bI imm 24, bI imm 21, bI imm 20, bI imm 19, bI imm 18, bI imm 17, bI imm 16, bI imm 15, bI imm 14, bI imm 13, bI imm 12] [true, false, !(bI imm 23 ^^ bI imm 24), true, !(bI imm 22 ^^ bI imm 24), bI imm 11, bI imm 10, bI imm 9, bI imm 8, bI imm 7, bI imm 6, bI imm 5, bI imm 4, bI imm 3, bI imm 2, bI imm 1] = none := by
    have e : dProduct [true, true, true, true, false, bI imm 24, bI imm 21, bI imm 20, bI imm 19, bI imm 18, bI imm 17, bI imm 16, bI imm 15, bI imm 14, bI imm 13, bI imm 12] [true, false, !(bI imm 23 ^^ bI imm 24), true, !(bI imm 22 ^^ bI imm 24), bI imm 11, bI imm 10, bI imm 9, bI imm 8, bI imm 7, bI imm 6, bI imm 5, bI imm 4, bI imm 3, bI imm 2, bI imm 1] = (bif !eqC (sl [true, false, !(bI imm 23 ^^ bI imm 24), true, !(bI imm 22 ^^ bI imm 24), bI imm 11, bI imm 10, bI imm 9, bI imm 8, bI imm 7, bI imm 6, bI imm 5, bI imm 4, bI imm 3, bI imm 2, bI imm 1] 4 4) 0 then none else none) := by kernel_rfl
    rw [e]; exact Bool.cond_self _ _
  have nPlain : dPlain [true, true, true, true, false, bI imm 24, bI imm 21, bI imm 20, bI imm 19, bI imm 18, bI imm 17, bI imm 16, bI imm 15, bI imm 14, bI imm 13, bI imm 12] [true, false, !(bI imm 23 ^^ bI imm 24), true, !(bI imm 22 ^^ bI imm 24), bI imm 11, bI imm 10, bI imm 9, bI imm 8, bI imm 7, bI imm 6, bI imm 5, bI imm 4, bI imm 3, bI imm 2, bI imm 1] = none := by kernel_rfl
  have e : dBranch [true, true, true, true, false, bI imm 24, bI imm 21, bI imm 20, bI imm 19, bI imm 18, bI imm 17, bI imm 16, bI imm 15, bI imm 14, bI imm 13, bI imm 12] [true, false, !(bI imm 23 ^^ bI imm 24), true, !(bI imm 22 ^^ bI imm 24), bI imm 11, bI imm 10, bI imm 9, bI imm 8, bI imm 7, bI imm 6, bI imm 5, bI imm 4, bI imm 3, bI imm 2, bI imm 1] = some (24, 0, 0, 0, 0, SG [bI imm 24, !(!(bI imm 23 ^^ bI imm 24) ^^ bI imm 24), !(!(bI imm 22 ^^ bI imm 24) ^^ bI imm 24), bI imm 21, bI imm 20, bI imm 19, bI imm 18, bI imm 17, bI imm 16, bI imm 15, bI imm 14, bI imm 13, bI imm 12, bI imm 11, bI imm 10, bI imm 9, bI imm 8, bI imm 7, bI imm 6, bI imm 5, bI imm 4, bI imm 3, bI imm 2, bI imm 1, false], 0, true, ()) := by kernel_rfl
  have p : ((2 ^ 24 : Nat) : Int) = 16777216 := rfl
  have x1 : ∀ a b : Bool, (!(!(a ^^ b) ^^ b)) = a := by decide
  have e2 : SG [bI imm 24, bI imm 23, bI imm 22, bI imm 21, bI imm 20, bI imm 19, bI imm 18, bI imm 17, bI imm 16, bI imm 15, bI imm 14, bI imm 13, bI imm 12, bI imm 11, bI imm 10, bI imm 9, bI imm 8, bI imm 7, bI imm 6, bI imm 5, bI imm 4, bI imm 3, bI imm 2, bI imm 1, false] = imm := by rw [← even_bit h]; exact SG_bis imm 24 (by omega) (by omega)
  unfold dLong
  rw [nThree, nProduct, nPlain, e, x1, x1, e2]
  rfl
theorem bk_25 (imm : Int) (h : imm % 2 = 0) (h1 : -256 ≤ imm) (h2 : imm ≤ 254) (cond : Int) (c0 : 0 ≤ cond) (c1 : cond ≤ 13) : dNarrow [true, true, false, true, bI cond 3, bI cond 2, bI cond 1, bI cond 0, bI imm 8, bI imm 7, bI imm 6, bI imm 5, bI imm 4, bI imm 3, bI imm 2, bI imm 1] = some (25, 0, 0, 0, 0, imm, cond, false, ()) := by
  have e : dNarrow [true, true, false, true, bI cond 3, bI cond 2, bI cond 1, bI cond 0, bI imm 8, bI imm 7, bI imm 6, bI imm 5, bI imm 4, bI imm 3, bI imm 2, bI imm 1] = (bif decide (H (bis cond 4) ≤ 13) then some (25, 0, 0, 0, 0, SG [bI imm 8, bI imm 7, bI imm 6, bI imm 5, bI imm 4, bI imm 3, bI imm 2, bI imm 1, false], H (bis cond 4), false, ()) else none) := by kernel_rfl
  have p : ((2 ^ 8 : Nat) : Int) = 256 := rfl
  have q : ((2 ^ 4 : Nat) : Int) = 16 := rfl
  have e2 : SG [bI imm 8, bI imm 7, bI imm 6, bI imm 5, bI imm 4, bI imm 3, bI imm 2, bI imm 1, false] = imm := by rw [← even_bit h]; exact SG_bis imm 8 (by omega) (by omega)
  rw [e, e2, H_bis_id c0 (by omega), dec_true c1]
  rfl
theorem bk_25w (imm : Int) (h : imm % 2 = 0) (h1 : -1048576 ≤ imm) (h2 : imm ≤ 1048574) (cond : Int) (c0 : 0 ≤ cond) (c1 : cond ≤ 13) : dLong [true, true, true, true, false, bI imm 20, bI cond 3, bI cond 2, bI cond 1, bI cond 0, bI imm 17, bI imm 16, bI imm 15, bI imm 14, bI imm 13, bI imm 12] [true, false, bI imm 18, false, bI imm 19, bI imm 11, bI imm 10, bI imm 9, bI imm 8, bI imm 7, bI imm 6, bI imm 5, bI imm 4, bI imm 3, bI imm 2, bI imm 1] = some (25, 0, 0, 0, 0, imm, cond, true, ()) := by
  have nThree : dThree [true, true, true, true, false, bI imm 20, bI cond 3, bI cond 2, bI cond 1, bI cond 0, bI imm 17, bI imm 16, bI imm 15, bI imm 14, bI imm 13, bI imm 12] [true, false, bI imm 18, false, bI imm 19, bI imm 11, bI imm 10, bI imm 9, bI imm 8, bI imm 7, bI imm 6, bI imm 5, bI imm 4, bI imm 3, bI imm 2, bI imm 1] = none := by kernel_rfl
  have nProduct : dProduct [true, true, true, true, false, bI imm 20, bI cond 3, bI cond 2, bI cond 1, bI cond 0, bI imm 17, bI imm 16, bI imm 15, bI imm 14, bI imm 13, bI imm 12] [true, false, bI imm 18, false, bI imm 19, bI imm 11, bI imm 10, bI imm 9, bI imm 8, bI imm 7, bI imm 6, bI imm 5, bI imm 4, bI imm 3, bI imm 2, bI imm 1] = none := by
    have e : dProduct [true, true, true, true, false, bI imm 20, bI cond 3, bI cond 2, bI cond 1, bI cond 0, bI imm 17, bI imm 16, bI imm 15, bI imm 14, bI imm 13, bI imm 12] [true, false, bI imm 18, false, bI imm 19, bI imm 11, bI imm 10, bI imm 9, bI imm 8, bI imm 7, bI imm 6, bI imm 5, bI imm 4, bI imm 3, bI imm 2, bI imm 1] = (bif !eqC (sl [true, false, bI imm 18, false, bI imm 19, bI imm 11, bI imm 10, bI imm 9, bI imm 8, bI imm 7, bI imm 6, bI imm 5, bI imm 4, bI imm 3, bI imm 2, bI imm 1] 4 4) 0 then none else none) := by kernel_rfl
    rw [e]; exact Bool.cond_self _ _
  have nPlain : dPlain [true, true, true, true, false, bI imm 20, bI cond 3, bI cond 2, bI cond 1, bI cond 0, bI imm 17, bI imm 16, bI imm 15, bI imm 14, bI imm 13, bI imm 12] [true, false, bI imm 18, false, bI imm 19, bI imm 11, bI imm 10, bI imm 9, bI imm 8, bI imm 7, bI imm 6, bI imm 5, bI imm 4, bI imm 3, bI imm 2, bI imm 1] = none := by kernel_rfl
  have e : dBranch [true, true, true, true, false, bI imm 20, bI cond 3, bI cond 2, bI cond 1, bI cond 0, bI imm 17, bI imm 16, bI imm 15, bI imm 14, bI imm 13, bI imm 12] [true, false, bI imm 18, false, bI imm 19, bI imm 11, bI imm 10, bI imm 9, bI imm 8, bI imm 7, bI imm 6, bI imm 5, bI imm 4, bI imm 3, bI imm 2, bI imm 1] = (bif decide (H (bis cond 4) ≤ 13) then some (25, 0, 0, 0, 0, SG [bI imm 20, bI imm 19, bI imm 18, bI imm 17, bI imm 16, bI imm 15, bI imm 14, bI imm 13, bI imm 12, bI imm 11, bI imm 10, bI imm 9, bI imm 8, bI imm 7, bI imm 6, bI imm 5, bI imm 4, bI imm 3, bI imm 2, bI imm 1, false], H (bis cond 4), true, ()) else none) := by kernel_rfl
  have p : ((2 ^ 20 : Nat) : Int) = 1048576 := rfl
  have q : ((2 ^ 4 : Nat) : Int) = 16 := rfl
  have e2 : SG [bI imm 20, bI imm 19, bI imm 18, bI imm 17, bI imm 16, bI imm 15, bI imm 14, bI imm 13, bI imm 12, bI imm 11, bI imm 10, bI imm 9, bI imm 8, bI imm 7, bI imm 6, bI imm 5, bI imm 4, bI imm 3, bI imm 2, bI imm 1, false] = imm := by rw [← even_bit h]; exact SG_bis imm 20 (by omega) (by omega)
  unfold dLong
  rw [nThree, nProduct, nPlain, e, e2, H_bis_id c0 (by omega), dec_true c1]
  rfl
end Go.Av
end
/-! Layer 3: what the document reads of a row's letters. -/
section
namespace Go.Av
open Go
/-- What has been read. -/
structure Rd where
  x : Bool
  y : Bool
  t : Bool
  d : List Bool
  n : List Bool
  m : List Bool
  a : List Bool
  c : List Bool
  w : List Bool
  imm : List (Nat × Bool)
def Rd.zero : Rd := ⟨false, false, false, [], [], [], [], [], [], []⟩
def isBig (c : UInt8) : Bool := Nat.ble 65 c.toNat && Nat.ble c.toNat 89
def Rd.step (s : Rd) (c : UInt8) (b : Bool) : Rd where
  x := bif c == 120 then b else s.x
  y := bif c == 121 then b else s.y
  t := bif c == 89 then b else s.t
  d := bif c == 100 then s.d ++ [b] else s.d
  n := bif c == 110 then s.n ++ [b] else s.n
  m := bif c == 109 then s.m ++ [b] else s.m
  a := bif c == 97 then s.a ++ [b] else s.a
  c := bif c == 99 then s.c ++ [b] else s.c
  w := bif c == 119 then s.w ++ [b] else s.w
  imm := bif isBig c then s.imm ++ [(c.toNat - 65, b)] else s.imm
def bN (b : Bool) : Int := ((b.toNat : Nat) : Int)
/-- The number of placed bits. -/
def immN : List (Nat × Bool) → Nat
  | [] => 0
  | p :: l => p.2.toNat * 2 ^ p.1 + immN l
/-- The instruction of what has been read. -/
def finR (op : Int) (w : Bool) (s : Rd) : tIns.den :=
  bif op == 18 then (op, H s.d, H s.n, H s.m, w64 (w64 (H s.w + 1) - ((immN s.imm : Nat) : Int)), ((immN s.imm : Nat) : Int), H s.c, w, ())
  else bif op == 24 && w then (op, H s.d, H s.n, H s.m, H s.a, V_hauberkref03_sign (w64 (w64 (((immN s.imm : Nat) : Int) + w64 (Int.tmod (w64 (w64 (bN s.x + bN s.t) + 1)) 2 * V_hauberkref03_power 23)) + w64 (Int.tmod (w64 (w64 (bN s.y + bN s.t) + 1)) 2 * V_hauberkref03_power 22)), 24), H s.c, w, ())
  else bif op == 24 then (op, H s.d, H s.n, H s.m, H s.a, V_hauberkref03_sign (((immN s.imm : Nat) : Int), 11), H s.c, w, ())
  else bif op == 25 && w then (op, H s.d, H s.n, H s.m, H s.a, V_hauberkref03_sign (((immN s.imm : Nat) : Int), 20), H s.c, w, ())
  else bif op == 25 then (op, H s.d, H s.n, H s.m, H s.a, V_hauberkref03_sign (((immN s.imm : Nat) : Int), 8), H s.c, w, ())
  else (op, H s.d, H s.n, H s.m, H s.a, ((immN s.imm : Nat) : Int), H s.c, w, ())
def foldR (p : List UInt8) (l : List Bool) : Rd := (p.zip l).foldl (fun s q => s.step q.1 q.2) Rd.zero
/-- The instruction of a row's bits. -/
def iRow (op : Int) (w : Bool) (l : List Bool) : tIns.den := finR op w (foldR (V_hauberkref02_Bits (op, w)) l)
theorem sign_SG (b : Bool) (r : List Bool) : V_hauberkref03_sign (H (b :: r), (r.length : Int)) = SG (b :: r) := by
  rw [SG_eq]
  have h1 := H_nonneg r
  have h2 := H_lt (l := r) (Nat.le_refl _)
  show (bif decide (H (b :: r) ≥ (2 ^ Int.toNat (r.length : Int) : Nat)) then H (b :: r) - 2 * (2 ^ Int.toNat (r.length : Int) : Nat) else H (b :: r)) = _
  rw [Int.toNat_natCast, Nat.pow_succ, H_cons]
  generalize 2 ^ r.length = q at *
  cases b
  · rw [dec_false (by simp; omega)]
    rfl
  · rw [dec_true (by simp; omega)]
    simp only [cond_true, Bool.toNat_true]
    omega
theorem fin24 (q : Nat) (hq : q < 33554432) (x y t : Bool) : w64 (w64 ((q : Int) + w64 (Int.tmod (w64 (w64 (bN x + bN t) + 1)) 2 * 8388608)) + w64 (Int.tmod (w64 (w64 (bN y + bN t) + 1)) 2 * 4194304)) = ((q + (nx x t).toNat * 8388608 + (nx y t).toNat * 4194304 : Nat) : Int) := by
  have t0 : ∀ x t : Bool, w64 (Int.tmod (w64 (w64 (bN x + bN t) + 1)) 2 * 8388608) = (((nx x t).toNat * 8388608 : Nat) : Int) := by
    intro x t
    cases x <;> cases t <;> rfl
  have t1 : ∀ x t : Bool, w64 (Int.tmod (w64 (w64 (bN x + bN t) + 1)) 2 * 4194304) = (((nx x t).toNat * 4194304 : Nat) : Int) := by
    intro x t
    cases x <;> cases t <;> rfl
  have h0 := Bool.toNat_le (nx x t)
  have h1 := Bool.toNat_le (nx y t)
  rw [t0, t1]
  generalize (nx x t).toNat = a at *
  generalize (nx y t).toNat = b at *
  rw [w64_id (n := (q : Int) + ((a * 8388608 : Nat) : Int)) (by omega) (by omega), w64_id (by omega) (by omega)]
  omega
end Go.Av
end
/-! Layer 3: of bits of each row's form there is an instruction, and these are its bits. Written by wip/tools/decfw.py. -/
section
namespace Go.Av
open Go
theorem le12_iff {x : Int} (h : le12 x = true) : x ≤ 12 := of_decide_eq_true h
theorem SG_even (b : Bool) (r : List Bool) : SG (b :: (r ++ [false])) % 2 = 0 := by
  have h : H (r ++ [false]) = 2 * H r := by
    unfold H
    rw [hb_append]
    show ((hb r 0 * 2 + 0 : Nat) : Int) = _
    omega
  show (H (r ++ [false]) - b.toNat * (2 ^ (r ++ [false]).length : Nat)) % 2 = 0
  rw [h, List.length_append, Nat.pow_add]
  generalize 2 ^ r.length = p
  cases b <;> simp
theorem rr_1 : iRow 1 false [true, false, true, true, true, true, true, true, false, false, false, false, false, false, false, false] = (1, 0, 0, 0, 0, 0, 0, false, ()) := by
  kernel_rfl
theorem SG_in (b : Bool) (r : List Bool) (m : Nat) (h : r.length = m) : -((2 ^ m : Nat) : Int) ≤ SG (b :: r) ∧ SG (b :: r) < (2 ^ m : Nat) := by
  subst h
  have h1 := H_nonneg r
  have h2 := H_lt (l := r) (Nat.le_refl _)
  unfold SG
  cases b
  · simp only [Bool.toNat_false]; constructor <;> omega
  · simp only [Bool.toNat_true]; constructor <;> omega
theorem okB_24w (imm : Int) (h : imm % 2 = 0) (h1 : -16777216 ≤ imm) (h2 : imm ≤ 16777214) : okB 24 0 0 0 0 imm 0 true = true := by
  simp [okB]
  omega
theorem nx_nx (a b : Bool) : (!(nx a b ^^ b)) = a := by cases a <;> cases b <;> rfl
theorem fw_1  : okB 1 (0) (0) (0) (0) (0) (0) false = true ∧ (V_hauberkref02_Bits (1, false)).length = 16 ∧ hl (ltr (0) (0) (0) (0) (0) (0)) (V_hauberkref02_Bits (1, false)) = [true, false, true, true, true, true, true, true, false, false, false, false, false, false, false, false] := by
  refine ⟨by kernel_rfl
    , by kernel_rfl, by
      have e : ∀ rd rn rm ra imm cond : Int, hl (ltr rd rn rm ra imm cond) (V_hauberkref02_Bits (1, false)) = [true, false, true, true, true, true, true, true, false, false, false, false, false, false, false, false] := by intro rd rn rm ra imm cond; kernel_rfl
      rw [e]
    ⟩
theorem rr_2 (b8 b9 b10 b11 b12 b13 b14 b15 : Bool) : iRow 2 false [true, false, true, true, true, true, true, false, b8, b9, b10, b11, b12, b13, b14, b15] = (2, 0, 0, 0, 0, H [b8, b9, b10, b11, b12, b13, b14, b15], 0, false, ()) := by
  have e : iRow 2 false [true, false, true, true, true, true, true, false, b8, b9, b10, b11, b12, b13, b14, b15] = (2, 0, 0, 0, 0, ((immN [(7, b8), (6, b9), (5, b10), (4, b11), (3, b12), (2, b13), (1, b14), (0, b15)] : Nat) : Int), 0, false, ()) := by kernel_rfl
  have e2 : immN [(7, b8), (6, b9), (5, b10), (4, b11), (3, b12), (2, b13), (1, b14), (0, b15)] = hb [b8, b9, b10, b11, b12, b13, b14, b15] 0 := by simp only [immN, hb]; omega
  rw [e, e2]
  rfl
theorem fw_2 (b8 b9 b10 b11 b12 b13 b14 b15 : Bool)  : okB 2 (0) (0) (0) (0) (H [b8, b9, b10, b11, b12, b13, b14, b15]) (0) false = true ∧ (V_hauberkref02_Bits (2, false)).length = 16 ∧ hl (ltr (0) (0) (0) (0) (H [b8, b9, b10, b11, b12, b13, b14, b15]) (0)) (V_hauberkref02_Bits (2, false)) = [true, false, true, true, true, true, true, false, b8, b9, b10, b11, b12, b13, b14, b15] := by
  have := H_nonneg [b8, b9, b10, b11, b12, b13, b14, b15]
  have : H [b8, b9, b10, b11, b12, b13, b14, b15] < 256 := H_lt (l := [b8, b9, b10, b11, b12, b13, b14, b15]) (k := 8) (by simp)
  have g0 : bI (H [b8, b9, b10, b11, b12, b13, b14, b15]) 7 = b8 := bI_H [b8, b9, b10, b11, b12, b13, b14, b15] 7 (by simp)
  have g1 : bI (H [b8, b9, b10, b11, b12, b13, b14, b15]) 6 = b9 := bI_H [b8, b9, b10, b11, b12, b13, b14, b15] 6 (by simp)
  have g2 : bI (H [b8, b9, b10, b11, b12, b13, b14, b15]) 5 = b10 := bI_H [b8, b9, b10, b11, b12, b13, b14, b15] 5 (by simp)
  have g3 : bI (H [b8, b9, b10, b11, b12, b13, b14, b15]) 4 = b11 := bI_H [b8, b9, b10, b11, b12, b13, b14, b15] 4 (by simp)
  have g4 : bI (H [b8, b9, b10, b11, b12, b13, b14, b15]) 3 = b12 := bI_H [b8, b9, b10, b11, b12, b13, b14, b15] 3 (by simp)
  have g5 : bI (H [b8, b9, b10, b11, b12, b13, b14, b15]) 2 = b13 := bI_H [b8, b9, b10, b11, b12, b13, b14, b15] 2 (by simp)
  have g6 : bI (H [b8, b9, b10, b11, b12, b13, b14, b15]) 1 = b14 := bI_H [b8, b9, b10, b11, b12, b13, b14, b15] 1 (by simp)
  have g7 : bI (H [b8, b9, b10, b11, b12, b13, b14, b15]) 0 = b15 := bI_H [b8, b9, b10, b11, b12, b13, b14, b15] 0 (by simp)
  refine ⟨by
      simp [okB]
      try omega
    , by kernel_rfl, by
      have e : ∀ rd rn rm ra imm cond : Int, hl (ltr rd rn rm ra imm cond) (V_hauberkref02_Bits (2, false)) = [true, false, true, true, true, true, true, false, bI imm 7, bI imm 6, bI imm 5, bI imm 4, bI imm 3, bI imm 2, bI imm 1, bI imm 0] := by intro rd rn rm ra imm cond; kernel_rfl
      rw [e]
      simp only [g0, g1, g2, g3, g4, g5, g6, g7]
    ⟩
theorem rr_3 (b5 b12 b13 b14 b15 b17 b18 b19 b20 b21 b22 b23 b24 b25 b26 b27 b28 b29 b30 b31 : Bool) : iRow 3 false [true, true, true, true, false, b5, true, false, false, true, false, false, b12, b13, b14, b15, false, b17, b18, b19, b20, b21, b22, b23, b24, b25, b26, b27, b28, b29, b30, b31] = (3, H [b20, b21, b22, b23], 0, 0, 0, H [b12, b13, b14, b15, b5, b17, b18, b19, b24, b25, b26, b27, b28, b29, b30, b31], 0, false, ()) := by
  have e : iRow 3 false [true, true, true, true, false, b5, true, false, false, true, false, false, b12, b13, b14, b15, false, b17, b18, b19, b20, b21, b22, b23, b24, b25, b26, b27, b28, b29, b30, b31] = (3, H [b20, b21, b22, b23], 0, 0, 0, ((immN [(11, b5), (15, b12), (14, b13), (13, b14), (12, b15), (10, b17), (9, b18), (8, b19), (7, b24), (6, b25), (5, b26), (4, b27), (3, b28), (2, b29), (1, b30), (0, b31)] : Nat) : Int), 0, false, ()) := by kernel_rfl
  have e2 : immN [(11, b5), (15, b12), (14, b13), (13, b14), (12, b15), (10, b17), (9, b18), (8, b19), (7, b24), (6, b25), (5, b26), (4, b27), (3, b28), (2, b29), (1, b30), (0, b31)] = hb [b12, b13, b14, b15, b5, b17, b18, b19, b24, b25, b26, b27, b28, b29, b30, b31] 0 := by simp only [immN, hb]; omega
  rw [e, e2]
  rfl
theorem fw_3 (b5 b12 b13 b14 b15 b17 b18 b19 b20 b21 b22 b23 b24 b25 b26 b27 b28 b29 b30 b31 : Bool) (h0 : le12 (H [b20, b21, b22, b23]) = true) : okB 3 (H [b20, b21, b22, b23]) (0) (0) (0) (H [b12, b13, b14, b15, b5, b17, b18, b19, b24, b25, b26, b27, b28, b29, b30, b31]) (0) false = true ∧ (V_hauberkref02_Bits (3, false)).length = 32 ∧ hl (ltr (H [b20, b21, b22, b23]) (0) (0) (0) (H [b12, b13, b14, b15, b5, b17, b18, b19, b24, b25, b26, b27, b28, b29, b30, b31]) (0)) ((V_hauberkref02_Bits (3, false)).take 16) = [true, true, true, true, false, b5, true, false, false, true, false, false, b12, b13, b14, b15] ∧ hl (ltr (H [b20, b21, b22, b23]) (0) (0) (0) (H [b12, b13, b14, b15, b5, b17, b18, b19, b24, b25, b26, b27, b28, b29, b30, b31]) (0)) ((V_hauberkref02_Bits (3, false)).drop 16) = [false, b17, b18, b19, b20, b21, b22, b23, b24, b25, b26, b27, b28, b29, b30, b31] := by
  have h0 := le12_iff h0
  have := H_nonneg [b20, b21, b22, b23]
  have : H [b20, b21, b22, b23] < 16 := H_lt (l := [b20, b21, b22, b23]) (k := 4) (by simp)
  have := H_nonneg [b12, b13, b14, b15, b5, b17, b18, b19, b24, b25, b26, b27, b28, b29, b30, b31]
  have : H [b12, b13, b14, b15, b5, b17, b18, b19, b24, b25, b26, b27, b28, b29, b30, b31] < 65536 := H_lt (l := [b12, b13, b14, b15, b5, b17, b18, b19, b24, b25, b26, b27, b28, b29, b30, b31]) (k := 16) (by simp)
  have g0 : bI (H [b20, b21, b22, b23]) 3 = b20 := bI_H [b20, b21, b22, b23] 3 (by simp)
  have g1 : bI (H [b20, b21, b22, b23]) 2 = b21 := bI_H [b20, b21, b22, b23] 2 (by simp)
  have g2 : bI (H [b20, b21, b22, b23]) 1 = b22 := bI_H [b20, b21, b22, b23] 1 (by simp)
  have g3 : bI (H [b20, b21, b22, b23]) 0 = b23 := bI_H [b20, b21, b22, b23] 0 (by simp)
  have g4 : bI (H [b12, b13, b14, b15, b5, b17, b18, b19, b24, b25, b26, b27, b28, b29, b30, b31]) 15 = b12 := bI_H [b12, b13, b14, b15, b5, b17, b18, b19, b24, b25, b26, b27, b28, b29, b30, b31] 15 (by simp)
  have g5 : bI (H [b12, b13, b14, b15, b5, b17, b18, b19, b24, b25, b26, b27, b28, b29, b30, b31]) 14 = b13 := bI_H [b12, b13, b14, b15, b5, b17, b18, b19, b24, b25, b26, b27, b28, b29, b30, b31] 14 (by simp)
  have g6 : bI (H [b12, b13, b14, b15, b5, b17, b18, b19, b24, b25, b26, b27, b28, b29, b30, b31]) 13 = b14 := bI_H [b12, b13, b14, b15, b5, b17, b18, b19, b24, b25, b26, b27, b28, b29, b30, b31] 13 (by simp)
  have g7 : bI (H [b12, b13, b14, b15, b5, b17, b18, b19, b24, b25, b26, b27, b28, b29, b30, b31]) 12 = b15 := bI_H [b12, b13, b14, b15, b5, b17, b18, b19, b24, b25, b26, b27, b28, b29, b30, b31] 12 (by simp)
  have g8 : bI (H [b12, b13, b14, b15, b5, b17, b18, b19, b24, b25, b26, b27, b28, b29, b30, b31]) 11 = b5 := bI_H [b12, b13, b14, b15, b5, b17, b18, b19, b24, b25, b26, b27, b28, b29, b30, b31] 11 (by simp)
  have g9 : bI (H [b12, b13, b14, b15, b5, b17, b18, b19, b24, b25, b26, b27, b28, b29, b30, b31]) 10 = b17 := bI_H [b12, b13, b14, b15, b5, b17, b18, b19, b24, b25, b26, b27, b28, b29, b30, b31] 10 (by simp)
  have g10 : bI (H [b12, b13, b14, b15, b5, b17, b18, b19, b24, b25, b26, b27, b28, b29, b30, b31]) 9 = b18 := bI_H [b12, b13, b14, b15, b5, b17, b18, b19, b24, b25, b26, b27, b28, b29, b30, b31] 9 (by simp)
  have g11 : bI (H [b12, b13, b14, b15, b5, b17, b18, b19, b24, b25, b26, b27, b28, b29, b30, b31]) 8 = b19 := bI_H [b12, b13, b14, b15, b5, b17, b18, b19, b24, b25, b26, b27, b28, b29, b30, b31] 8 (by simp)
  have g12 : bI (H [b12, b13, b14, b15, b5, b17, b18, b19, b24, b25, b26, b27, b28, b29, b30, b31]) 7 = b24 := bI_H [b12, b13, b14, b15, b5, b17, b18, b19, b24, b25, b26, b27, b28, b29, b30, b31] 7 (by simp)
  have g13 : bI (H [b12, b13, b14, b15, b5, b17, b18, b19, b24, b25, b26, b27, b28, b29, b30, b31]) 6 = b25 := bI_H [b12, b13, b14, b15, b5, b17, b18, b19, b24, b25, b26, b27, b28, b29, b30, b31] 6 (by simp)
  have g14 : bI (H [b12, b13, b14, b15, b5, b17, b18, b19, b24, b25, b26, b27, b28, b29, b30, b31]) 5 = b26 := bI_H [b12, b13, b14, b15, b5, b17, b18, b19, b24, b25, b26, b27, b28, b29, b30, b31] 5 (by simp)
  have g15 : bI (H [b12, b13, b14, b15, b5, b17, b18, b19, b24, b25, b26, b27, b28, b29, b30, b31]) 4 = b27 := bI_H [b12, b13, b14, b15, b5, b17, b18, b19, b24, b25, b26, b27, b28, b29, b30, b31] 4 (by simp)
  have g16 : bI (H [b12, b13, b14, b15, b5, b17, b18, b19, b24, b25, b26, b27, b28, b29, b30, b31]) 3 = b28 := bI_H [b12, b13, b14, b15, b5, b17, b18, b19, b24, b25, b26, b27, b28, b29, b30, b31] 3 (by simp)
  have g17 : bI (H [b12, b13, b14, b15, b5, b17, b18, b19, b24, b25, b26, b27, b28, b29, b30, b31]) 2 = b29 := bI_H [b12, b13, b14, b15, b5, b17, b18, b19, b24, b25, b26, b27, b28, b29, b30, b31] 2 (by simp)
  have g18 : bI (H [b12, b13, b14, b15, b5, b17, b18, b19, b24, b25, b26, b27, b28, b29, b30, b31]) 1 = b30 := bI_H [b12, b13, b14, b15, b5, b17, b18, b19, b24, b25, b26, b27, b28, b29, b30, b31] 1 (by simp)
  have g19 : bI (H [b12, b13, b14, b15, b5, b17, b18, b19, b24, b25, b26, b27, b28, b29, b30, b31]) 0 = b31 := bI_H [b12, b13, b14, b15, b5, b17, b18, b19, b24, b25, b26, b27, b28, b29, b30, b31] 0 (by simp)
  refine ⟨by
      simp [okB]
      try omega
    , by kernel_rfl, by
      have e : ∀ rd rn rm ra imm cond : Int, hl (ltr rd rn rm ra imm cond) ((V_hauberkref02_Bits (3, false)).take 16) = [true, true, true, true, false, bI imm 11, true, false, false, true, false, false, bI imm 15, bI imm 14, bI imm 13, bI imm 12] := by intro rd rn rm ra imm cond; kernel_rfl
      rw [e]
      simp only [g8, g4, g5, g6, g7]
    , by
      have e : ∀ rd rn rm ra imm cond : Int, hl (ltr rd rn rm ra imm cond) ((V_hauberkref02_Bits (3, false)).drop 16) = [false, bI imm 10, bI imm 9, bI imm 8, bI rd 3, bI rd 2, bI rd 1, bI rd 0, bI imm 7, bI imm 6, bI imm 5, bI imm 4, bI imm 3, bI imm 2, bI imm 1, bI imm 0] := by intro rd rn rm ra imm cond; kernel_rfl
      rw [e]
      simp only [g9, g10, g11, g0, g1, g2, g3, g12, g13, g14, g15, g16, g17, g18, g19]
    ⟩
theorem rr_4 (b5 b12 b13 b14 b15 b17 b18 b19 b20 b21 b22 b23 b24 b25 b26 b27 b28 b29 b30 b31 : Bool) : iRow 4 false [true, true, true, true, false, b5, true, false, true, true, false, false, b12, b13, b14, b15, false, b17, b18, b19, b20, b21, b22, b23, b24, b25, b26, b27, b28, b29, b30, b31] = (4, H [b20, b21, b22, b23], 0, 0, 0, H [b12, b13, b14, b15, b5, b17, b18, b19, b24, b25, b26, b27, b28, b29, b30, b31], 0, false, ()) := by
  have e : iRow 4 false [true, true, true, true, false, b5, true, false, true, true, false, false, b12, b13, b14, b15, false, b17, b18, b19, b20, b21, b22, b23, b24, b25, b26, b27, b28, b29, b30, b31] = (4, H [b20, b21, b22, b23], 0, 0, 0, ((immN [(11, b5), (15, b12), (14, b13), (13, b14), (12, b15), (10, b17), (9, b18), (8, b19), (7, b24), (6, b25), (5, b26), (4, b27), (3, b28), (2, b29), (1, b30), (0, b31)] : Nat) : Int), 0, false, ()) := by kernel_rfl
  have e2 : immN [(11, b5), (15, b12), (14, b13), (13, b14), (12, b15), (10, b17), (9, b18), (8, b19), (7, b24), (6, b25), (5, b26), (4, b27), (3, b28), (2, b29), (1, b30), (0, b31)] = hb [b12, b13, b14, b15, b5, b17, b18, b19, b24, b25, b26, b27, b28, b29, b30, b31] 0 := by simp only [immN, hb]; omega
  rw [e, e2]
  rfl
theorem fw_4 (b5 b12 b13 b14 b15 b17 b18 b19 b20 b21 b22 b23 b24 b25 b26 b27 b28 b29 b30 b31 : Bool) (h0 : le12 (H [b20, b21, b22, b23]) = true) : okB 4 (H [b20, b21, b22, b23]) (0) (0) (0) (H [b12, b13, b14, b15, b5, b17, b18, b19, b24, b25, b26, b27, b28, b29, b30, b31]) (0) false = true ∧ (V_hauberkref02_Bits (4, false)).length = 32 ∧ hl (ltr (H [b20, b21, b22, b23]) (0) (0) (0) (H [b12, b13, b14, b15, b5, b17, b18, b19, b24, b25, b26, b27, b28, b29, b30, b31]) (0)) ((V_hauberkref02_Bits (4, false)).take 16) = [true, true, true, true, false, b5, true, false, true, true, false, false, b12, b13, b14, b15] ∧ hl (ltr (H [b20, b21, b22, b23]) (0) (0) (0) (H [b12, b13, b14, b15, b5, b17, b18, b19, b24, b25, b26, b27, b28, b29, b30, b31]) (0)) ((V_hauberkref02_Bits (4, false)).drop 16) = [false, b17, b18, b19, b20, b21, b22, b23, b24, b25, b26, b27, b28, b29, b30, b31] := by
  have h0 := le12_iff h0
  have := H_nonneg [b20, b21, b22, b23]
  have : H [b20, b21, b22, b23] < 16 := H_lt (l := [b20, b21, b22, b23]) (k := 4) (by simp)
  have := H_nonneg [b12, b13, b14, b15, b5, b17, b18, b19, b24, b25, b26, b27, b28, b29, b30, b31]
  have : H [b12, b13, b14, b15, b5, b17, b18, b19, b24, b25, b26, b27, b28, b29, b30, b31] < 65536 := H_lt (l := [b12, b13, b14, b15, b5, b17, b18, b19, b24, b25, b26, b27, b28, b29, b30, b31]) (k := 16) (by simp)
  have g0 : bI (H [b20, b21, b22, b23]) 3 = b20 := bI_H [b20, b21, b22, b23] 3 (by simp)
  have g1 : bI (H [b20, b21, b22, b23]) 2 = b21 := bI_H [b20, b21, b22, b23] 2 (by simp)
  have g2 : bI (H [b20, b21, b22, b23]) 1 = b22 := bI_H [b20, b21, b22, b23] 1 (by simp)
  have g3 : bI (H [b20, b21, b22, b23]) 0 = b23 := bI_H [b20, b21, b22, b23] 0 (by simp)
  have g4 : bI (H [b12, b13, b14, b15, b5, b17, b18, b19, b24, b25, b26, b27, b28, b29, b30, b31]) 15 = b12 := bI_H [b12, b13, b14, b15, b5, b17, b18, b19, b24, b25, b26, b27, b28, b29, b30, b31] 15 (by simp)
  have g5 : bI (H [b12, b13, b14, b15, b5, b17, b18, b19, b24, b25, b26, b27, b28, b29, b30, b31]) 14 = b13 := bI_H [b12, b13, b14, b15, b5, b17, b18, b19, b24, b25, b26, b27, b28, b29, b30, b31] 14 (by simp)
  have g6 : bI (H [b12, b13, b14, b15, b5, b17, b18, b19, b24, b25, b26, b27, b28, b29, b30, b31]) 13 = b14 := bI_H [b12, b13, b14, b15, b5, b17, b18, b19, b24, b25, b26, b27, b28, b29, b30, b31] 13 (by simp)
  have g7 : bI (H [b12, b13, b14, b15, b5, b17, b18, b19, b24, b25, b26, b27, b28, b29, b30, b31]) 12 = b15 := bI_H [b12, b13, b14, b15, b5, b17, b18, b19, b24, b25, b26, b27, b28, b29, b30, b31] 12 (by simp)
  have g8 : bI (H [b12, b13, b14, b15, b5, b17, b18, b19, b24, b25, b26, b27, b28, b29, b30, b31]) 11 = b5 := bI_H [b12, b13, b14, b15, b5, b17, b18, b19, b24, b25, b26, b27, b28, b29, b30, b31] 11 (by simp)
  have g9 : bI (H [b12, b13, b14, b15, b5, b17, b18, b19, b24, b25, b26, b27, b28, b29, b30, b31]) 10 = b17 := bI_H [b12, b13, b14, b15, b5, b17, b18, b19, b24, b25, b26, b27, b28, b29, b30, b31] 10 (by simp)
  have g10 : bI (H [b12, b13, b14, b15, b5, b17, b18, b19, b24, b25, b26, b27, b28, b29, b30, b31]) 9 = b18 := bI_H [b12, b13, b14, b15, b5, b17, b18, b19, b24, b25, b26, b27, b28, b29, b30, b31] 9 (by simp)
  have g11 : bI (H [b12, b13, b14, b15, b5, b17, b18, b19, b24, b25, b26, b27, b28, b29, b30, b31]) 8 = b19 := bI_H [b12, b13, b14, b15, b5, b17, b18, b19, b24, b25, b26, b27, b28, b29, b30, b31] 8 (by simp)
  have g12 : bI (H [b12, b13, b14, b15, b5, b17, b18, b19, b24, b25, b26, b27, b28, b29, b30, b31]) 7 = b24 := bI_H [b12, b13, b14, b15, b5, b17, b18, b19, b24, b25, b26, b27, b28, b29, b30, b31] 7 (by simp)
  have g13 : bI (H [b12, b13, b14, b15, b5, b17, b18, b19, b24, b25, b26, b27, b28, b29, b30, b31]) 6 = b25 := bI_H [b12, b13, b14, b15, b5, b17, b18, b19, b24, b25, b26, b27, b28, b29, b30, b31] 6 (by simp)
  have g14 : bI (H [b12, b13, b14, b15, b5, b17, b18, b19, b24, b25, b26, b27, b28, b29, b30, b31]) 5 = b26 := bI_H [b12, b13, b14, b15, b5, b17, b18, b19, b24, b25, b26, b27, b28, b29, b30, b31] 5 (by simp)
  have g15 : bI (H [b12, b13, b14, b15, b5, b17, b18, b19, b24, b25, b26, b27, b28, b29, b30, b31]) 4 = b27 := bI_H [b12, b13, b14, b15, b5, b17, b18, b19, b24, b25, b26, b27, b28, b29, b30, b31] 4 (by simp)
  have g16 : bI (H [b12, b13, b14, b15, b5, b17, b18, b19, b24, b25, b26, b27, b28, b29, b30, b31]) 3 = b28 := bI_H [b12, b13, b14, b15, b5, b17, b18, b19, b24, b25, b26, b27, b28, b29, b30, b31] 3 (by simp)
  have g17 : bI (H [b12, b13, b14, b15, b5, b17, b18, b19, b24, b25, b26, b27, b28, b29, b30, b31]) 2 = b29 := bI_H [b12, b13, b14, b15, b5, b17, b18, b19, b24, b25, b26, b27, b28, b29, b30, b31] 2 (by simp)
  have g18 : bI (H [b12, b13, b14, b15, b5, b17, b18, b19, b24, b25, b26, b27, b28, b29, b30, b31]) 1 = b30 := bI_H [b12, b13, b14, b15, b5, b17, b18, b19, b24, b25, b26, b27, b28, b29, b30, b31] 1 (by simp)
  have g19 : bI (H [b12, b13, b14, b15, b5, b17, b18, b19, b24, b25, b26, b27, b28, b29, b30, b31]) 0 = b31 := bI_H [b12, b13, b14, b15, b5, b17, b18, b19, b24, b25, b26, b27, b28, b29, b30, b31] 0 (by simp)
  refine ⟨by
      simp [okB]
      try omega
    , by kernel_rfl, by
      have e : ∀ rd rn rm ra imm cond : Int, hl (ltr rd rn rm ra imm cond) ((V_hauberkref02_Bits (4, false)).take 16) = [true, true, true, true, false, bI imm 11, true, false, true, true, false, false, bI imm 15, bI imm 14, bI imm 13, bI imm 12] := by intro rd rn rm ra imm cond; kernel_rfl
      rw [e]
      simp only [g8, g4, g5, g6, g7]
    , by
      have e : ∀ rd rn rm ra imm cond : Int, hl (ltr rd rn rm ra imm cond) ((V_hauberkref02_Bits (4, false)).drop 16) = [false, bI imm 10, bI imm 9, bI imm 8, bI rd 3, bI rd 2, bI rd 1, bI rd 0, bI imm 7, bI imm 6, bI imm 5, bI imm 4, bI imm 3, bI imm 2, bI imm 1, bI imm 0] := by intro rd rn rm ra imm cond; kernel_rfl
      rw [e]
      simp only [g9, g10, g11, g0, g1, g2, g3, g12, g13, g14, g15, g16, g17, g18, g19]
    ⟩
theorem rr_5 (b17 b18 b19 b20 b21 b22 b23 b24 b25 b28 b29 b30 b31 : Bool) : iRow 5 false [true, true, true, false, true, false, true, false, false, true, false, false, true, true, true, true, false, b17, b18, b19, b20, b21, b22, b23, b24, b25, false, false, b28, b29, b30, b31] = (5, H [b20, b21, b22, b23], 0, H [b28, b29, b30, b31], 0, H [b17, b18, b19, b24, b25], 0, false, ()) := by
  have e : iRow 5 false [true, true, true, false, true, false, true, false, false, true, false, false, true, true, true, true, false, b17, b18, b19, b20, b21, b22, b23, b24, b25, false, false, b28, b29, b30, b31] = (5, H [b20, b21, b22, b23], 0, H [b28, b29, b30, b31], 0, ((immN [(4, b17), (3, b18), (2, b19), (1, b24), (0, b25)] : Nat) : Int), 0, false, ()) := by kernel_rfl
  have e2 : immN [(4, b17), (3, b18), (2, b19), (1, b24), (0, b25)] = hb [b17, b18, b19, b24, b25] 0 := by simp only [immN, hb]; omega
  rw [e, e2]
  rfl
theorem fw_5 (b17 b18 b19 b20 b21 b22 b23 b24 b25 b28 b29 b30 b31 : Bool) (h0 : le12 (H [b20, b21, b22, b23]) = true) (h1 : le12 (H [b28, b29, b30, b31]) = true) : okB 5 (H [b20, b21, b22, b23]) (0) (H [b28, b29, b30, b31]) (0) (H [b17, b18, b19, b24, b25]) (0) false = true ∧ (V_hauberkref02_Bits (5, false)).length = 32 ∧ hl (ltr (H [b20, b21, b22, b23]) (0) (H [b28, b29, b30, b31]) (0) (H [b17, b18, b19, b24, b25]) (0)) ((V_hauberkref02_Bits (5, false)).take 16) = [true, true, true, false, true, false, true, false, false, true, false, false, true, true, true, true] ∧ hl (ltr (H [b20, b21, b22, b23]) (0) (H [b28, b29, b30, b31]) (0) (H [b17, b18, b19, b24, b25]) (0)) ((V_hauberkref02_Bits (5, false)).drop 16) = [false, b17, b18, b19, b20, b21, b22, b23, b24, b25, false, false, b28, b29, b30, b31] := by
  have h0 := le12_iff h0
  have h1 := le12_iff h1
  have := H_nonneg [b20, b21, b22, b23]
  have : H [b20, b21, b22, b23] < 16 := H_lt (l := [b20, b21, b22, b23]) (k := 4) (by simp)
  have := H_nonneg [b28, b29, b30, b31]
  have : H [b28, b29, b30, b31] < 16 := H_lt (l := [b28, b29, b30, b31]) (k := 4) (by simp)
  have := H_nonneg [b17, b18, b19, b24, b25]
  have : H [b17, b18, b19, b24, b25] < 32 := H_lt (l := [b17, b18, b19, b24, b25]) (k := 5) (by simp)
  have g0 : bI (H [b20, b21, b22, b23]) 3 = b20 := bI_H [b20, b21, b22, b23] 3 (by simp)
  have g1 : bI (H [b20, b21, b22, b23]) 2 = b21 := bI_H [b20, b21, b22, b23] 2 (by simp)
  have g2 : bI (H [b20, b21, b22, b23]) 1 = b22 := bI_H [b20, b21, b22, b23] 1 (by simp)
  have g3 : bI (H [b20, b21, b22, b23]) 0 = b23 := bI_H [b20, b21, b22, b23] 0 (by simp)
  have g4 : bI (H [b28, b29, b30, b31]) 3 = b28 := bI_H [b28, b29, b30, b31] 3 (by simp)
  have g5 : bI (H [b28, b29, b30, b31]) 2 = b29 := bI_H [b28, b29, b30, b31] 2 (by simp)
  have g6 : bI (H [b28, b29, b30, b31]) 1 = b30 := bI_H [b28, b29, b30, b31] 1 (by simp)
  have g7 : bI (H [b28, b29, b30, b31]) 0 = b31 := bI_H [b28, b29, b30, b31] 0 (by simp)
  have g8 : bI (H [b17, b18, b19, b24, b25]) 4 = b17 := bI_H [b17, b18, b19, b24, b25] 4 (by simp)
  have g9 : bI (H [b17, b18, b19, b24, b25]) 3 = b18 := bI_H [b17, b18, b19, b24, b25] 3 (by simp)
  have g10 : bI (H [b17, b18, b19, b24, b25]) 2 = b19 := bI_H [b17, b18, b19, b24, b25] 2 (by simp)
  have g11 : bI (H [b17, b18, b19, b24, b25]) 1 = b24 := bI_H [b17, b18, b19, b24, b25] 1 (by simp)
  have g12 : bI (H [b17, b18, b19, b24, b25]) 0 = b25 := bI_H [b17, b18, b19, b24, b25] 0 (by simp)
  refine ⟨by
      simp [okB]
      try omega
    , by kernel_rfl, by
      have e : ∀ rd rn rm ra imm cond : Int, hl (ltr rd rn rm ra imm cond) ((V_hauberkref02_Bits (5, false)).take 16) = [true, true, true, false, true, false, true, false, false, true, false, false, true, true, true, true] := by intro rd rn rm ra imm cond; kernel_rfl
      rw [e]
    , by
      have e : ∀ rd rn rm ra imm cond : Int, hl (ltr rd rn rm ra imm cond) ((V_hauberkref02_Bits (5, false)).drop 16) = [false, bI imm 4, bI imm 3, bI imm 2, bI rd 3, bI rd 2, bI rd 1, bI rd 0, bI imm 1, bI imm 0, false, false, bI rm 3, bI rm 2, bI rm 1, bI rm 0] := by intro rd rn rm ra imm cond; kernel_rfl
      rw [e]
      simp only [g8, g9, g10, g0, g1, g2, g3, g11, g12, g4, g5, g6, g7]
    ⟩
theorem rr_6 (b17 b18 b19 b20 b21 b22 b23 b24 b25 b28 b29 b30 b31 : Bool) : iRow 6 false [true, true, true, false, true, false, true, false, false, true, false, false, true, true, true, true, false, b17, b18, b19, b20, b21, b22, b23, b24, b25, false, true, b28, b29, b30, b31] = (6, H [b20, b21, b22, b23], 0, H [b28, b29, b30, b31], 0, H [b17, b18, b19, b24, b25], 0, false, ()) := by
  have e : iRow 6 false [true, true, true, false, true, false, true, false, false, true, false, false, true, true, true, true, false, b17, b18, b19, b20, b21, b22, b23, b24, b25, false, true, b28, b29, b30, b31] = (6, H [b20, b21, b22, b23], 0, H [b28, b29, b30, b31], 0, ((immN [(4, b17), (3, b18), (2, b19), (1, b24), (0, b25)] : Nat) : Int), 0, false, ()) := by kernel_rfl
  have e2 : immN [(4, b17), (3, b18), (2, b19), (1, b24), (0, b25)] = hb [b17, b18, b19, b24, b25] 0 := by simp only [immN, hb]; omega
  rw [e, e2]
  rfl
theorem fw_6 (b17 b18 b19 b20 b21 b22 b23 b24 b25 b28 b29 b30 b31 : Bool) (h0 : le12 (H [b20, b21, b22, b23]) = true) (h1 : le12 (H [b28, b29, b30, b31]) = true) (h2 : H [b17, b18, b19, b24, b25] > 0) : okB 6 (H [b20, b21, b22, b23]) (0) (H [b28, b29, b30, b31]) (0) (H [b17, b18, b19, b24, b25]) (0) false = true ∧ (V_hauberkref02_Bits (6, false)).length = 32 ∧ hl (ltr (H [b20, b21, b22, b23]) (0) (H [b28, b29, b30, b31]) (0) (H [b17, b18, b19, b24, b25]) (0)) ((V_hauberkref02_Bits (6, false)).take 16) = [true, true, true, false, true, false, true, false, false, true, false, false, true, true, true, true] ∧ hl (ltr (H [b20, b21, b22, b23]) (0) (H [b28, b29, b30, b31]) (0) (H [b17, b18, b19, b24, b25]) (0)) ((V_hauberkref02_Bits (6, false)).drop 16) = [false, b17, b18, b19, b20, b21, b22, b23, b24, b25, false, true, b28, b29, b30, b31] := by
  have h0 := le12_iff h0
  have h1 := le12_iff h1
  have := H_nonneg [b20, b21, b22, b23]
  have : H [b20, b21, b22, b23] < 16 := H_lt (l := [b20, b21, b22, b23]) (k := 4) (by simp)
  have := H_nonneg [b28, b29, b30, b31]
  have : H [b28, b29, b30, b31] < 16 := H_lt (l := [b28, b29, b30, b31]) (k := 4) (by simp)
  have := H_nonneg [b17, b18, b19, b24, b25]
  have : H [b17, b18, b19, b24, b25] < 32 := H_lt (l := [b17, b18, b19, b24, b25]) (k := 5) (by simp)
  have g0 : bI (H [b20, b21, b22, b23]) 3 = b20 := bI_H [b20, b21, b22, b23] 3 (by simp)
  have g1 : bI (H [b20, b21, b22, b23]) 2 = b21 := bI_H [b20, b21, b22, b23] 2 (by simp)
  have g2 : bI (H [b20, b21, b22, b23]) 1 = b22 := bI_H [b20, b21, b22, b23] 1 (by simp)
  have g3 : bI (H [b20, b21, b22, b23]) 0 = b23 := bI_H [b20, b21, b22, b23] 0 (by simp)
  have g4 : bI (H [b28, b29, b30, b31]) 3 = b28 := bI_H [b28, b29, b30, b31] 3 (by simp)
  have g5 : bI (H [b28, b29, b30, b31]) 2 = b29 := bI_H [b28, b29, b30, b31] 2 (by simp)
  have g6 : bI (H [b28, b29, b30, b31]) 1 = b30 := bI_H [b28, b29, b30, b31] 1 (by simp)
  have g7 : bI (H [b28, b29, b30, b31]) 0 = b31 := bI_H [b28, b29, b30, b31] 0 (by simp)
  have g8 : bI (H [b17, b18, b19, b24, b25]) 4 = b17 := bI_H [b17, b18, b19, b24, b25] 4 (by simp)
  have g9 : bI (H [b17, b18, b19, b24, b25]) 3 = b18 := bI_H [b17, b18, b19, b24, b25] 3 (by simp)
  have g10 : bI (H [b17, b18, b19, b24, b25]) 2 = b19 := bI_H [b17, b18, b19, b24, b25] 2 (by simp)
  have g11 : bI (H [b17, b18, b19, b24, b25]) 1 = b24 := bI_H [b17, b18, b19, b24, b25] 1 (by simp)
  have g12 : bI (H [b17, b18, b19, b24, b25]) 0 = b25 := bI_H [b17, b18, b19, b24, b25] 0 (by simp)
  refine ⟨by
      simp [okB]
      try omega
    , by kernel_rfl, by
      have e : ∀ rd rn rm ra imm cond : Int, hl (ltr rd rn rm ra imm cond) ((V_hauberkref02_Bits (6, false)).take 16) = [true, true, true, false, true, false, true, false, false, true, false, false, true, true, true, true] := by intro rd rn rm ra imm cond; kernel_rfl
      rw [e]
    , by
      have e : ∀ rd rn rm ra imm cond : Int, hl (ltr rd rn rm ra imm cond) ((V_hauberkref02_Bits (6, false)).drop 16) = [false, bI imm 4, bI imm 3, bI imm 2, bI rd 3, bI rd 2, bI rd 1, bI rd 0, bI imm 1, bI imm 0, false, true, bI rm 3, bI rm 2, bI rm 1, bI rm 0] := by intro rd rn rm ra imm cond; kernel_rfl
      rw [e]
      simp only [g8, g9, g10, g0, g1, g2, g3, g11, g12, g4, g5, g6, g7]
    ⟩
theorem rr_7 (b17 b18 b19 b20 b21 b22 b23 b24 b25 b28 b29 b30 b31 : Bool) : iRow 7 false [true, true, true, false, true, false, true, false, false, true, false, false, true, true, true, true, false, b17, b18, b19, b20, b21, b22, b23, b24, b25, true, false, b28, b29, b30, b31] = (7, H [b20, b21, b22, b23], 0, H [b28, b29, b30, b31], 0, H [b17, b18, b19, b24, b25], 0, false, ()) := by
  have e : iRow 7 false [true, true, true, false, true, false, true, false, false, true, false, false, true, true, true, true, false, b17, b18, b19, b20, b21, b22, b23, b24, b25, true, false, b28, b29, b30, b31] = (7, H [b20, b21, b22, b23], 0, H [b28, b29, b30, b31], 0, ((immN [(4, b17), (3, b18), (2, b19), (1, b24), (0, b25)] : Nat) : Int), 0, false, ()) := by kernel_rfl
  have e2 : immN [(4, b17), (3, b18), (2, b19), (1, b24), (0, b25)] = hb [b17, b18, b19, b24, b25] 0 := by simp only [immN, hb]; omega
  rw [e, e2]
  rfl
theorem fw_7 (b17 b18 b19 b20 b21 b22 b23 b24 b25 b28 b29 b30 b31 : Bool) (h0 : le12 (H [b20, b21, b22, b23]) = true) (h1 : le12 (H [b28, b29, b30, b31]) = true) (h2 : H [b17, b18, b19, b24, b25] > 0) : okB 7 (H [b20, b21, b22, b23]) (0) (H [b28, b29, b30, b31]) (0) (H [b17, b18, b19, b24, b25]) (0) false = true ∧ (V_hauberkref02_Bits (7, false)).length = 32 ∧ hl (ltr (H [b20, b21, b22, b23]) (0) (H [b28, b29, b30, b31]) (0) (H [b17, b18, b19, b24, b25]) (0)) ((V_hauberkref02_Bits (7, false)).take 16) = [true, true, true, false, true, false, true, false, false, true, false, false, true, true, true, true] ∧ hl (ltr (H [b20, b21, b22, b23]) (0) (H [b28, b29, b30, b31]) (0) (H [b17, b18, b19, b24, b25]) (0)) ((V_hauberkref02_Bits (7, false)).drop 16) = [false, b17, b18, b19, b20, b21, b22, b23, b24, b25, true, false, b28, b29, b30, b31] := by
  have h0 := le12_iff h0
  have h1 := le12_iff h1
  have := H_nonneg [b20, b21, b22, b23]
  have : H [b20, b21, b22, b23] < 16 := H_lt (l := [b20, b21, b22, b23]) (k := 4) (by simp)
  have := H_nonneg [b28, b29, b30, b31]
  have : H [b28, b29, b30, b31] < 16 := H_lt (l := [b28, b29, b30, b31]) (k := 4) (by simp)
  have := H_nonneg [b17, b18, b19, b24, b25]
  have : H [b17, b18, b19, b24, b25] < 32 := H_lt (l := [b17, b18, b19, b24, b25]) (k := 5) (by simp)
  have g0 : bI (H [b20, b21, b22, b23]) 3 = b20 := bI_H [b20, b21, b22, b23] 3 (by simp)
  have g1 : bI (H [b20, b21, b22, b23]) 2 = b21 := bI_H [b20, b21, b22, b23] 2 (by simp)
  have g2 : bI (H [b20, b21, b22, b23]) 1 = b22 := bI_H [b20, b21, b22, b23] 1 (by simp)
  have g3 : bI (H [b20, b21, b22, b23]) 0 = b23 := bI_H [b20, b21, b22, b23] 0 (by simp)
  have g4 : bI (H [b28, b29, b30, b31]) 3 = b28 := bI_H [b28, b29, b30, b31] 3 (by simp)
  have g5 : bI (H [b28, b29, b30, b31]) 2 = b29 := bI_H [b28, b29, b30, b31] 2 (by simp)
  have g6 : bI (H [b28, b29, b30, b31]) 1 = b30 := bI_H [b28, b29, b30, b31] 1 (by simp)
  have g7 : bI (H [b28, b29, b30, b31]) 0 = b31 := bI_H [b28, b29, b30, b31] 0 (by simp)
  have g8 : bI (H [b17, b18, b19, b24, b25]) 4 = b17 := bI_H [b17, b18, b19, b24, b25] 4 (by simp)
  have g9 : bI (H [b17, b18, b19, b24, b25]) 3 = b18 := bI_H [b17, b18, b19, b24, b25] 3 (by simp)
  have g10 : bI (H [b17, b18, b19, b24, b25]) 2 = b19 := bI_H [b17, b18, b19, b24, b25] 2 (by simp)
  have g11 : bI (H [b17, b18, b19, b24, b25]) 1 = b24 := bI_H [b17, b18, b19, b24, b25] 1 (by simp)
  have g12 : bI (H [b17, b18, b19, b24, b25]) 0 = b25 := bI_H [b17, b18, b19, b24, b25] 0 (by simp)
  refine ⟨by
      simp [okB]
      try omega
    , by kernel_rfl, by
      have e : ∀ rd rn rm ra imm cond : Int, hl (ltr rd rn rm ra imm cond) ((V_hauberkref02_Bits (7, false)).take 16) = [true, true, true, false, true, false, true, false, false, true, false, false, true, true, true, true] := by intro rd rn rm ra imm cond; kernel_rfl
      rw [e]
    , by
      have e : ∀ rd rn rm ra imm cond : Int, hl (ltr rd rn rm ra imm cond) ((V_hauberkref02_Bits (7, false)).drop 16) = [false, bI imm 4, bI imm 3, bI imm 2, bI rd 3, bI rd 2, bI rd 1, bI rd 0, bI imm 1, bI imm 0, true, false, bI rm 3, bI rm 2, bI rm 1, bI rm 0] := by intro rd rn rm ra imm cond; kernel_rfl
      rw [e]
      simp only [g8, g9, g10, g0, g1, g2, g3, g11, g12, g4, g5, g6, g7]
    ⟩
theorem rr_8 (b17 b18 b19 b20 b21 b22 b23 b24 b25 b28 b29 b30 b31 : Bool) : iRow 8 false [true, true, true, false, true, false, true, false, false, true, false, false, true, true, true, true, false, b17, b18, b19, b20, b21, b22, b23, b24, b25, true, true, b28, b29, b30, b31] = (8, H [b20, b21, b22, b23], 0, H [b28, b29, b30, b31], 0, H [b17, b18, b19, b24, b25], 0, false, ()) := by
  have e : iRow 8 false [true, true, true, false, true, false, true, false, false, true, false, false, true, true, true, true, false, b17, b18, b19, b20, b21, b22, b23, b24, b25, true, true, b28, b29, b30, b31] = (8, H [b20, b21, b22, b23], 0, H [b28, b29, b30, b31], 0, ((immN [(4, b17), (3, b18), (2, b19), (1, b24), (0, b25)] : Nat) : Int), 0, false, ()) := by kernel_rfl
  have e2 : immN [(4, b17), (3, b18), (2, b19), (1, b24), (0, b25)] = hb [b17, b18, b19, b24, b25] 0 := by simp only [immN, hb]; omega
  rw [e, e2]
  rfl
theorem fw_8 (b17 b18 b19 b20 b21 b22 b23 b24 b25 b28 b29 b30 b31 : Bool) (h0 : le12 (H [b20, b21, b22, b23]) = true) (h1 : le12 (H [b28, b29, b30, b31]) = true) (h2 : H [b17, b18, b19, b24, b25] > 0) : okB 8 (H [b20, b21, b22, b23]) (0) (H [b28, b29, b30, b31]) (0) (H [b17, b18, b19, b24, b25]) (0) false = true ∧ (V_hauberkref02_Bits (8, false)).length = 32 ∧ hl (ltr (H [b20, b21, b22, b23]) (0) (H [b28, b29, b30, b31]) (0) (H [b17, b18, b19, b24, b25]) (0)) ((V_hauberkref02_Bits (8, false)).take 16) = [true, true, true, false, true, false, true, false, false, true, false, false, true, true, true, true] ∧ hl (ltr (H [b20, b21, b22, b23]) (0) (H [b28, b29, b30, b31]) (0) (H [b17, b18, b19, b24, b25]) (0)) ((V_hauberkref02_Bits (8, false)).drop 16) = [false, b17, b18, b19, b20, b21, b22, b23, b24, b25, true, true, b28, b29, b30, b31] := by
  have h0 := le12_iff h0
  have h1 := le12_iff h1
  have := H_nonneg [b20, b21, b22, b23]
  have : H [b20, b21, b22, b23] < 16 := H_lt (l := [b20, b21, b22, b23]) (k := 4) (by simp)
  have := H_nonneg [b28, b29, b30, b31]
  have : H [b28, b29, b30, b31] < 16 := H_lt (l := [b28, b29, b30, b31]) (k := 4) (by simp)
  have := H_nonneg [b17, b18, b19, b24, b25]
  have : H [b17, b18, b19, b24, b25] < 32 := H_lt (l := [b17, b18, b19, b24, b25]) (k := 5) (by simp)
  have g0 : bI (H [b20, b21, b22, b23]) 3 = b20 := bI_H [b20, b21, b22, b23] 3 (by simp)
  have g1 : bI (H [b20, b21, b22, b23]) 2 = b21 := bI_H [b20, b21, b22, b23] 2 (by simp)
  have g2 : bI (H [b20, b21, b22, b23]) 1 = b22 := bI_H [b20, b21, b22, b23] 1 (by simp)
  have g3 : bI (H [b20, b21, b22, b23]) 0 = b23 := bI_H [b20, b21, b22, b23] 0 (by simp)
  have g4 : bI (H [b28, b29, b30, b31]) 3 = b28 := bI_H [b28, b29, b30, b31] 3 (by simp)
  have g5 : bI (H [b28, b29, b30, b31]) 2 = b29 := bI_H [b28, b29, b30, b31] 2 (by simp)
  have g6 : bI (H [b28, b29, b30, b31]) 1 = b30 := bI_H [b28, b29, b30, b31] 1 (by simp)
  have g7 : bI (H [b28, b29, b30, b31]) 0 = b31 := bI_H [b28, b29, b30, b31] 0 (by simp)
  have g8 : bI (H [b17, b18, b19, b24, b25]) 4 = b17 := bI_H [b17, b18, b19, b24, b25] 4 (by simp)
  have g9 : bI (H [b17, b18, b19, b24, b25]) 3 = b18 := bI_H [b17, b18, b19, b24, b25] 3 (by simp)
  have g10 : bI (H [b17, b18, b19, b24, b25]) 2 = b19 := bI_H [b17, b18, b19, b24, b25] 2 (by simp)
  have g11 : bI (H [b17, b18, b19, b24, b25]) 1 = b24 := bI_H [b17, b18, b19, b24, b25] 1 (by simp)
  have g12 : bI (H [b17, b18, b19, b24, b25]) 0 = b25 := bI_H [b17, b18, b19, b24, b25] 0 (by simp)
  refine ⟨by
      simp [okB]
      try omega
    , by kernel_rfl, by
      have e : ∀ rd rn rm ra imm cond : Int, hl (ltr rd rn rm ra imm cond) ((V_hauberkref02_Bits (8, false)).take 16) = [true, true, true, false, true, false, true, false, false, true, false, false, true, true, true, true] := by intro rd rn rm ra imm cond; kernel_rfl
      rw [e]
    , by
      have e : ∀ rd rn rm ra imm cond : Int, hl (ltr rd rn rm ra imm cond) ((V_hauberkref02_Bits (8, false)).drop 16) = [false, bI imm 4, bI imm 3, bI imm 2, bI rd 3, bI rd 2, bI rd 1, bI rd 0, bI imm 1, bI imm 0, true, true, bI rm 3, bI rm 2, bI rm 1, bI rm 0] := by intro rd rn rm ra imm cond; kernel_rfl
      rw [e]
      simp only [g8, g9, g10, g0, g1, g2, g3, g11, g12, g4, g5, g6, g7]
    ⟩
theorem rr_9 (b20 b21 b22 b23 b28 b29 b30 b31 : Bool) : iRow 9 false [true, true, true, false, true, false, true, false, false, true, true, false, true, true, true, true, false, false, false, false, b20, b21, b22, b23, false, false, false, false, b28, b29, b30, b31] = (9, H [b20, b21, b22, b23], 0, H [b28, b29, b30, b31], 0, 0, 0, false, ()) := by
  kernel_rfl
theorem fw_9 (b20 b21 b22 b23 b28 b29 b30 b31 : Bool) (h0 : le12 (H [b20, b21, b22, b23]) = true) (h1 : le12 (H [b28, b29, b30, b31]) = true) : okB 9 (H [b20, b21, b22, b23]) (0) (H [b28, b29, b30, b31]) (0) (0) (0) false = true ∧ (V_hauberkref02_Bits (9, false)).length = 32 ∧ hl (ltr (H [b20, b21, b22, b23]) (0) (H [b28, b29, b30, b31]) (0) (0) (0)) ((V_hauberkref02_Bits (9, false)).take 16) = [true, true, true, false, true, false, true, false, false, true, true, false, true, true, true, true] ∧ hl (ltr (H [b20, b21, b22, b23]) (0) (H [b28, b29, b30, b31]) (0) (0) (0)) ((V_hauberkref02_Bits (9, false)).drop 16) = [false, false, false, false, b20, b21, b22, b23, false, false, false, false, b28, b29, b30, b31] := by
  have h0 := le12_iff h0
  have h1 := le12_iff h1
  have := H_nonneg [b20, b21, b22, b23]
  have : H [b20, b21, b22, b23] < 16 := H_lt (l := [b20, b21, b22, b23]) (k := 4) (by simp)
  have := H_nonneg [b28, b29, b30, b31]
  have : H [b28, b29, b30, b31] < 16 := H_lt (l := [b28, b29, b30, b31]) (k := 4) (by simp)
  have g0 : bI (H [b20, b21, b22, b23]) 3 = b20 := bI_H [b20, b21, b22, b23] 3 (by simp)
  have g1 : bI (H [b20, b21, b22, b23]) 2 = b21 := bI_H [b20, b21, b22, b23] 2 (by simp)
  have g2 : bI (H [b20, b21, b22, b23]) 1 = b22 := bI_H [b20, b21, b22, b23] 1 (by simp)
  have g3 : bI (H [b20, b21, b22, b23]) 0 = b23 := bI_H [b20, b21, b22, b23] 0 (by simp)
  have g4 : bI (H [b28, b29, b30, b31]) 3 = b28 := bI_H [b28, b29, b30, b31] 3 (by simp)
  have g5 : bI (H [b28, b29, b30, b31]) 2 = b29 := bI_H [b28, b29, b30, b31] 2 (by simp)
  have g6 : bI (H [b28, b29, b30, b31]) 1 = b30 := bI_H [b28, b29, b30, b31] 1 (by simp)
  have g7 : bI (H [b28, b29, b30, b31]) 0 = b31 := bI_H [b28, b29, b30, b31] 0 (by simp)
  refine ⟨by
      simp [okB]
      try omega
    , by kernel_rfl, by
      have e : ∀ rd rn rm ra imm cond : Int, hl (ltr rd rn rm ra imm cond) ((V_hauberkref02_Bits (9, false)).take 16) = [true, true, true, false, true, false, true, false, false, true, true, false, true, true, true, true] := by intro rd rn rm ra imm cond; kernel_rfl
      rw [e]
    , by
      have e : ∀ rd rn rm ra imm cond : Int, hl (ltr rd rn rm ra imm cond) ((V_hauberkref02_Bits (9, false)).drop 16) = [false, false, false, false, bI rd 3, bI rd 2, bI rd 1, bI rd 0, false, false, false, false, bI rm 3, bI rm 2, bI rm 1, bI rm 0] := by intro rd rn rm ra imm cond; kernel_rfl
      rw [e]
      simp only [g0, g1, g2, g3, g4, g5, g6, g7]
    ⟩
theorem rr_10 (b12 b13 b14 b15 b20 b21 b22 b23 b28 b29 b30 b31 : Bool) : iRow 10 false [true, true, true, false, true, false, true, false, false, false, false, false, b12, b13, b14, b15, false, false, false, false, b20, b21, b22, b23, false, false, false, false, b28, b29, b30, b31] = (10, H [b20, b21, b22, b23], H [b12, b13, b14, b15], H [b28, b29, b30, b31], 0, 0, 0, false, ()) := by
  kernel_rfl
theorem fw_10 (b12 b13 b14 b15 b20 b21 b22 b23 b28 b29 b30 b31 : Bool) (h0 : le12 (H [b20, b21, b22, b23]) = true) (h1 : le12 (H [b12, b13, b14, b15]) = true) (h2 : le12 (H [b28, b29, b30, b31]) = true) : okB 10 (H [b20, b21, b22, b23]) (H [b12, b13, b14, b15]) (H [b28, b29, b30, b31]) (0) (0) (0) false = true ∧ (V_hauberkref02_Bits (10, false)).length = 32 ∧ hl (ltr (H [b20, b21, b22, b23]) (H [b12, b13, b14, b15]) (H [b28, b29, b30, b31]) (0) (0) (0)) ((V_hauberkref02_Bits (10, false)).take 16) = [true, true, true, false, true, false, true, false, false, false, false, false, b12, b13, b14, b15] ∧ hl (ltr (H [b20, b21, b22, b23]) (H [b12, b13, b14, b15]) (H [b28, b29, b30, b31]) (0) (0) (0)) ((V_hauberkref02_Bits (10, false)).drop 16) = [false, false, false, false, b20, b21, b22, b23, false, false, false, false, b28, b29, b30, b31] := by
  have h0 := le12_iff h0
  have h1 := le12_iff h1
  have h2 := le12_iff h2
  have := H_nonneg [b20, b21, b22, b23]
  have : H [b20, b21, b22, b23] < 16 := H_lt (l := [b20, b21, b22, b23]) (k := 4) (by simp)
  have := H_nonneg [b12, b13, b14, b15]
  have : H [b12, b13, b14, b15] < 16 := H_lt (l := [b12, b13, b14, b15]) (k := 4) (by simp)
  have := H_nonneg [b28, b29, b30, b31]
  have : H [b28, b29, b30, b31] < 16 := H_lt (l := [b28, b29, b30, b31]) (k := 4) (by simp)
  have g0 : bI (H [b20, b21, b22, b23]) 3 = b20 := bI_H [b20, b21, b22, b23] 3 (by simp)
  have g1 : bI (H [b20, b21, b22, b23]) 2 = b21 := bI_H [b20, b21, b22, b23] 2 (by simp)
  have g2 : bI (H [b20, b21, b22, b23]) 1 = b22 := bI_H [b20, b21, b22, b23] 1 (by simp)
  have g3 : bI (H [b20, b21, b22, b23]) 0 = b23 := bI_H [b20, b21, b22, b23] 0 (by simp)
  have g4 : bI (H [b12, b13, b14, b15]) 3 = b12 := bI_H [b12, b13, b14, b15] 3 (by simp)
  have g5 : bI (H [b12, b13, b14, b15]) 2 = b13 := bI_H [b12, b13, b14, b15] 2 (by simp)
  have g6 : bI (H [b12, b13, b14, b15]) 1 = b14 := bI_H [b12, b13, b14, b15] 1 (by simp)
  have g7 : bI (H [b12, b13, b14, b15]) 0 = b15 := bI_H [b12, b13, b14, b15] 0 (by simp)
  have g8 : bI (H [b28, b29, b30, b31]) 3 = b28 := bI_H [b28, b29, b30, b31] 3 (by simp)
  have g9 : bI (H [b28, b29, b30, b31]) 2 = b29 := bI_H [b28, b29, b30, b31] 2 (by simp)
  have g10 : bI (H [b28, b29, b30, b31]) 1 = b30 := bI_H [b28, b29, b30, b31] 1 (by simp)
  have g11 : bI (H [b28, b29, b30, b31]) 0 = b31 := bI_H [b28, b29, b30, b31] 0 (by simp)
  refine ⟨by
      simp [okB]
      try omega
    , by kernel_rfl, by
      have e : ∀ rd rn rm ra imm cond : Int, hl (ltr rd rn rm ra imm cond) ((V_hauberkref02_Bits (10, false)).take 16) = [true, true, true, false, true, false, true, false, false, false, false, false, bI rn 3, bI rn 2, bI rn 1, bI rn 0] := by intro rd rn rm ra imm cond; kernel_rfl
      rw [e]
      simp only [g4, g5, g6, g7]
    , by
      have e : ∀ rd rn rm ra imm cond : Int, hl (ltr rd rn rm ra imm cond) ((V_hauberkref02_Bits (10, false)).drop 16) = [false, false, false, false, bI rd 3, bI rd 2, bI rd 1, bI rd 0, false, false, false, false, bI rm 3, bI rm 2, bI rm 1, bI rm 0] := by intro rd rn rm ra imm cond; kernel_rfl
      rw [e]
      simp only [g0, g1, g2, g3, g8, g9, g10, g11]
    ⟩
theorem rr_11 (b12 b13 b14 b15 b20 b21 b22 b23 b28 b29 b30 b31 : Bool) : iRow 11 false [true, true, true, false, true, false, true, false, false, false, true, false, b12, b13, b14, b15, false, false, false, false, b20, b21, b22, b23, false, false, false, false, b28, b29, b30, b31] = (11, H [b20, b21, b22, b23], H [b12, b13, b14, b15], H [b28, b29, b30, b31], 0, 0, 0, false, ()) := by
  kernel_rfl
theorem fw_11 (b12 b13 b14 b15 b20 b21 b22 b23 b28 b29 b30 b31 : Bool) (h0 : le12 (H [b20, b21, b22, b23]) = true) (h1 : le12 (H [b12, b13, b14, b15]) = true) (h2 : le12 (H [b28, b29, b30, b31]) = true) : okB 11 (H [b20, b21, b22, b23]) (H [b12, b13, b14, b15]) (H [b28, b29, b30, b31]) (0) (0) (0) false = true ∧ (V_hauberkref02_Bits (11, false)).length = 32 ∧ hl (ltr (H [b20, b21, b22, b23]) (H [b12, b13, b14, b15]) (H [b28, b29, b30, b31]) (0) (0) (0)) ((V_hauberkref02_Bits (11, false)).take 16) = [true, true, true, false, true, false, true, false, false, false, true, false, b12, b13, b14, b15] ∧ hl (ltr (H [b20, b21, b22, b23]) (H [b12, b13, b14, b15]) (H [b28, b29, b30, b31]) (0) (0) (0)) ((V_hauberkref02_Bits (11, false)).drop 16) = [false, false, false, false, b20, b21, b22, b23, false, false, false, false, b28, b29, b30, b31] := by
  have h0 := le12_iff h0
  have h1 := le12_iff h1
  have h2 := le12_iff h2
  have := H_nonneg [b20, b21, b22, b23]
  have : H [b20, b21, b22, b23] < 16 := H_lt (l := [b20, b21, b22, b23]) (k := 4) (by simp)
  have := H_nonneg [b12, b13, b14, b15]
  have : H [b12, b13, b14, b15] < 16 := H_lt (l := [b12, b13, b14, b15]) (k := 4) (by simp)
  have := H_nonneg [b28, b29, b30, b31]
  have : H [b28, b29, b30, b31] < 16 := H_lt (l := [b28, b29, b30, b31]) (k := 4) (by simp)
  have g0 : bI (H [b20, b21, b22, b23]) 3 = b20 := bI_H [b20, b21, b22, b23] 3 (by simp)
  have g1 : bI (H [b20, b21, b22, b23]) 2 = b21 := bI_H [b20, b21, b22, b23] 2 (by simp)
  have g2 : bI (H [b20, b21, b22, b23]) 1 = b22 := bI_H [b20, b21, b22, b23] 1 (by simp)
  have g3 : bI (H [b20, b21, b22, b23]) 0 = b23 := bI_H [b20, b21, b22, b23] 0 (by simp)
  have g4 : bI (H [b12, b13, b14, b15]) 3 = b12 := bI_H [b12, b13, b14, b15] 3 (by simp)
  have g5 : bI (H [b12, b13, b14, b15]) 2 = b13 := bI_H [b12, b13, b14, b15] 2 (by simp)
  have g6 : bI (H [b12, b13, b14, b15]) 1 = b14 := bI_H [b12, b13, b14, b15] 1 (by simp)
  have g7 : bI (H [b12, b13, b14, b15]) 0 = b15 := bI_H [b12, b13, b14, b15] 0 (by simp)
  have g8 : bI (H [b28, b29, b30, b31]) 3 = b28 := bI_H [b28, b29, b30, b31] 3 (by simp)
  have g9 : bI (H [b28, b29, b30, b31]) 2 = b29 := bI_H [b28, b29, b30, b31] 2 (by simp)
  have g10 : bI (H [b28, b29, b30, b31]) 1 = b30 := bI_H [b28, b29, b30, b31] 1 (by simp)
  have g11 : bI (H [b28, b29, b30, b31]) 0 = b31 := bI_H [b28, b29, b30, b31] 0 (by simp)
  refine ⟨by
      simp [okB]
      try omega
    , by kernel_rfl, by
      have e : ∀ rd rn rm ra imm cond : Int, hl (ltr rd rn rm ra imm cond) ((V_hauberkref02_Bits (11, false)).take 16) = [true, true, true, false, true, false, true, false, false, false, true, false, bI rn 3, bI rn 2, bI rn 1, bI rn 0] := by intro rd rn rm ra imm cond; kernel_rfl
      rw [e]
      simp only [g4, g5, g6, g7]
    , by
      have e : ∀ rd rn rm ra imm cond : Int, hl (ltr rd rn rm ra imm cond) ((V_hauberkref02_Bits (11, false)).drop 16) = [false, false, false, false, bI rd 3, bI rd 2, bI rd 1, bI rd 0, false, false, false, false, bI rm 3, bI rm 2, bI rm 1, bI rm 0] := by intro rd rn rm ra imm cond; kernel_rfl
      rw [e]
      simp only [g0, g1, g2, g3, g8, g9, g10, g11]
    ⟩
theorem rr_12 (b12 b13 b14 b15 b20 b21 b22 b23 b28 b29 b30 b31 : Bool) : iRow 12 false [true, true, true, false, true, false, true, false, false, true, false, false, b12, b13, b14, b15, false, false, false, false, b20, b21, b22, b23, false, false, false, false, b28, b29, b30, b31] = (12, H [b20, b21, b22, b23], H [b12, b13, b14, b15], H [b28, b29, b30, b31], 0, 0, 0, false, ()) := by
  kernel_rfl
theorem fw_12 (b12 b13 b14 b15 b20 b21 b22 b23 b28 b29 b30 b31 : Bool) (h0 : le12 (H [b20, b21, b22, b23]) = true) (h1 : le12 (H [b12, b13, b14, b15]) = true) (h2 : le12 (H [b28, b29, b30, b31]) = true) : okB 12 (H [b20, b21, b22, b23]) (H [b12, b13, b14, b15]) (H [b28, b29, b30, b31]) (0) (0) (0) false = true ∧ (V_hauberkref02_Bits (12, false)).length = 32 ∧ hl (ltr (H [b20, b21, b22, b23]) (H [b12, b13, b14, b15]) (H [b28, b29, b30, b31]) (0) (0) (0)) ((V_hauberkref02_Bits (12, false)).take 16) = [true, true, true, false, true, false, true, false, false, true, false, false, b12, b13, b14, b15] ∧ hl (ltr (H [b20, b21, b22, b23]) (H [b12, b13, b14, b15]) (H [b28, b29, b30, b31]) (0) (0) (0)) ((V_hauberkref02_Bits (12, false)).drop 16) = [false, false, false, false, b20, b21, b22, b23, false, false, false, false, b28, b29, b30, b31] := by
  have h0 := le12_iff h0
  have h1 := le12_iff h1
  have h2 := le12_iff h2
  have := H_nonneg [b20, b21, b22, b23]
  have : H [b20, b21, b22, b23] < 16 := H_lt (l := [b20, b21, b22, b23]) (k := 4) (by simp)
  have := H_nonneg [b12, b13, b14, b15]
  have : H [b12, b13, b14, b15] < 16 := H_lt (l := [b12, b13, b14, b15]) (k := 4) (by simp)
  have := H_nonneg [b28, b29, b30, b31]
  have : H [b28, b29, b30, b31] < 16 := H_lt (l := [b28, b29, b30, b31]) (k := 4) (by simp)
  have g0 : bI (H [b20, b21, b22, b23]) 3 = b20 := bI_H [b20, b21, b22, b23] 3 (by simp)
  have g1 : bI (H [b20, b21, b22, b23]) 2 = b21 := bI_H [b20, b21, b22, b23] 2 (by simp)
  have g2 : bI (H [b20, b21, b22, b23]) 1 = b22 := bI_H [b20, b21, b22, b23] 1 (by simp)
  have g3 : bI (H [b20, b21, b22, b23]) 0 = b23 := bI_H [b20, b21, b22, b23] 0 (by simp)
  have g4 : bI (H [b12, b13, b14, b15]) 3 = b12 := bI_H [b12, b13, b14, b15] 3 (by simp)
  have g5 : bI (H [b12, b13, b14, b15]) 2 = b13 := bI_H [b12, b13, b14, b15] 2 (by simp)
  have g6 : bI (H [b12, b13, b14, b15]) 1 = b14 := bI_H [b12, b13, b14, b15] 1 (by simp)
  have g7 : bI (H [b12, b13, b14, b15]) 0 = b15 := bI_H [b12, b13, b14, b15] 0 (by simp)
  have g8 : bI (H [b28, b29, b30, b31]) 3 = b28 := bI_H [b28, b29, b30, b31] 3 (by simp)
  have g9 : bI (H [b28, b29, b30, b31]) 2 = b29 := bI_H [b28, b29, b30, b31] 2 (by simp)
  have g10 : bI (H [b28, b29, b30, b31]) 1 = b30 := bI_H [b28, b29, b30, b31] 1 (by simp)
  have g11 : bI (H [b28, b29, b30, b31]) 0 = b31 := bI_H [b28, b29, b30, b31] 0 (by simp)
  refine ⟨by
      simp [okB]
      try omega
    , by kernel_rfl, by
      have e : ∀ rd rn rm ra imm cond : Int, hl (ltr rd rn rm ra imm cond) ((V_hauberkref02_Bits (12, false)).take 16) = [true, true, true, false, true, false, true, false, false, true, false, false, bI rn 3, bI rn 2, bI rn 1, bI rn 0] := by intro rd rn rm ra imm cond; kernel_rfl
      rw [e]
      simp only [g4, g5, g6, g7]
    , by
      have e : ∀ rd rn rm ra imm cond : Int, hl (ltr rd rn rm ra imm cond) ((V_hauberkref02_Bits (12, false)).drop 16) = [false, false, false, false, bI rd 3, bI rd 2, bI rd 1, bI rd 0, false, false, false, false, bI rm 3, bI rm 2, bI rm 1, bI rm 0] := by intro rd rn rm ra imm cond; kernel_rfl
      rw [e]
      simp only [g0, g1, g2, g3, g8, g9, g10, g11]
    ⟩
theorem rr_13 (b12 b13 b14 b15 b20 b21 b22 b23 b28 b29 b30 b31 : Bool) : iRow 13 false [true, true, true, false, true, false, true, false, true, false, false, false, b12, b13, b14, b15, false, false, false, false, b20, b21, b22, b23, false, false, false, false, b28, b29, b30, b31] = (13, H [b20, b21, b22, b23], H [b12, b13, b14, b15], H [b28, b29, b30, b31], 0, 0, 0, false, ()) := by
  kernel_rfl
theorem fw_13 (b12 b13 b14 b15 b20 b21 b22 b23 b28 b29 b30 b31 : Bool) (h0 : le12 (H [b20, b21, b22, b23]) = true) (h1 : le12 (H [b12, b13, b14, b15]) = true) (h2 : le12 (H [b28, b29, b30, b31]) = true) : okB 13 (H [b20, b21, b22, b23]) (H [b12, b13, b14, b15]) (H [b28, b29, b30, b31]) (0) (0) (0) false = true ∧ (V_hauberkref02_Bits (13, false)).length = 32 ∧ hl (ltr (H [b20, b21, b22, b23]) (H [b12, b13, b14, b15]) (H [b28, b29, b30, b31]) (0) (0) (0)) ((V_hauberkref02_Bits (13, false)).take 16) = [true, true, true, false, true, false, true, false, true, false, false, false, b12, b13, b14, b15] ∧ hl (ltr (H [b20, b21, b22, b23]) (H [b12, b13, b14, b15]) (H [b28, b29, b30, b31]) (0) (0) (0)) ((V_hauberkref02_Bits (13, false)).drop 16) = [false, false, false, false, b20, b21, b22, b23, false, false, false, false, b28, b29, b30, b31] := by
  have h0 := le12_iff h0
  have h1 := le12_iff h1
  have h2 := le12_iff h2
  have := H_nonneg [b20, b21, b22, b23]
  have : H [b20, b21, b22, b23] < 16 := H_lt (l := [b20, b21, b22, b23]) (k := 4) (by simp)
  have := H_nonneg [b12, b13, b14, b15]
  have : H [b12, b13, b14, b15] < 16 := H_lt (l := [b12, b13, b14, b15]) (k := 4) (by simp)
  have := H_nonneg [b28, b29, b30, b31]
  have : H [b28, b29, b30, b31] < 16 := H_lt (l := [b28, b29, b30, b31]) (k := 4) (by simp)
  have g0 : bI (H [b20, b21, b22, b23]) 3 = b20 := bI_H [b20, b21, b22, b23] 3 (by simp)
  have g1 : bI (H [b20, b21, b22, b23]) 2 = b21 := bI_H [b20, b21, b22, b23] 2 (by simp)
  have g2 : bI (H [b20, b21, b22, b23]) 1 = b22 := bI_H [b20, b21, b22, b23] 1 (by simp)
  have g3 : bI (H [b20, b21, b22, b23]) 0 = b23 := bI_H [b20, b21, b22, b23] 0 (by simp)
  have g4 : bI (H [b12, b13, b14, b15]) 3 = b12 := bI_H [b12, b13, b14, b15] 3 (by simp)
  have g5 : bI (H [b12, b13, b14, b15]) 2 = b13 := bI_H [b12, b13, b14, b15] 2 (by simp)
  have g6 : bI (H [b12, b13, b14, b15]) 1 = b14 := bI_H [b12, b13, b14, b15] 1 (by simp)
  have g7 : bI (H [b12, b13, b14, b15]) 0 = b15 := bI_H [b12, b13, b14, b15] 0 (by simp)
  have g8 : bI (H [b28, b29, b30, b31]) 3 = b28 := bI_H [b28, b29, b30, b31] 3 (by simp)
  have g9 : bI (H [b28, b29, b30, b31]) 2 = b29 := bI_H [b28, b29, b30, b31] 2 (by simp)
  have g10 : bI (H [b28, b29, b30, b31]) 1 = b30 := bI_H [b28, b29, b30, b31] 1 (by simp)
  have g11 : bI (H [b28, b29, b30, b31]) 0 = b31 := bI_H [b28, b29, b30, b31] 0 (by simp)
  refine ⟨by
      simp [okB]
      try omega
    , by kernel_rfl, by
      have e : ∀ rd rn rm ra imm cond : Int, hl (ltr rd rn rm ra imm cond) ((V_hauberkref02_Bits (13, false)).take 16) = [true, true, true, false, true, false, true, false, true, false, false, false, bI rn 3, bI rn 2, bI rn 1, bI rn 0] := by intro rd rn rm ra imm cond; kernel_rfl
      rw [e]
      simp only [g4, g5, g6, g7]
    , by
      have e : ∀ rd rn rm ra imm cond : Int, hl (ltr rd rn rm ra imm cond) ((V_hauberkref02_Bits (13, false)).drop 16) = [false, false, false, false, bI rd 3, bI rd 2, bI rd 1, bI rd 0, false, false, false, false, bI rm 3, bI rm 2, bI rm 1, bI rm 0] := by intro rd rn rm ra imm cond; kernel_rfl
      rw [e]
      simp only [g0, g1, g2, g3, g8, g9, g10, g11]
    ⟩
theorem rr_14 (b12 b13 b14 b15 b20 b21 b22 b23 b28 b29 b30 b31 : Bool) : iRow 14 false [true, true, true, false, true, false, true, true, false, false, false, false, b12, b13, b14, b15, false, false, false, false, b20, b21, b22, b23, false, false, false, false, b28, b29, b30, b31] = (14, H [b20, b21, b22, b23], H [b12, b13, b14, b15], H [b28, b29, b30, b31], 0, 0, 0, false, ()) := by
  kernel_rfl
theorem fw_14 (b12 b13 b14 b15 b20 b21 b22 b23 b28 b29 b30 b31 : Bool) (h0 : le12 (H [b20, b21, b22, b23]) = true) (h1 : le12 (H [b12, b13, b14, b15]) = true) (h2 : le12 (H [b28, b29, b30, b31]) = true) : okB 14 (H [b20, b21, b22, b23]) (H [b12, b13, b14, b15]) (H [b28, b29, b30, b31]) (0) (0) (0) false = true ∧ (V_hauberkref02_Bits (14, false)).length = 32 ∧ hl (ltr (H [b20, b21, b22, b23]) (H [b12, b13, b14, b15]) (H [b28, b29, b30, b31]) (0) (0) (0)) ((V_hauberkref02_Bits (14, false)).take 16) = [true, true, true, false, true, false, true, true, false, false, false, false, b12, b13, b14, b15] ∧ hl (ltr (H [b20, b21, b22, b23]) (H [b12, b13, b14, b15]) (H [b28, b29, b30, b31]) (0) (0) (0)) ((V_hauberkref02_Bits (14, false)).drop 16) = [false, false, false, false, b20, b21, b22, b23, false, false, false, false, b28, b29, b30, b31] := by
  have h0 := le12_iff h0
  have h1 := le12_iff h1
  have h2 := le12_iff h2
  have := H_nonneg [b20, b21, b22, b23]
  have : H [b20, b21, b22, b23] < 16 := H_lt (l := [b20, b21, b22, b23]) (k := 4) (by simp)
  have := H_nonneg [b12, b13, b14, b15]
  have : H [b12, b13, b14, b15] < 16 := H_lt (l := [b12, b13, b14, b15]) (k := 4) (by simp)
  have := H_nonneg [b28, b29, b30, b31]
  have : H [b28, b29, b30, b31] < 16 := H_lt (l := [b28, b29, b30, b31]) (k := 4) (by simp)
  have g0 : bI (H [b20, b21, b22, b23]) 3 = b20 := bI_H [b20, b21, b22, b23] 3 (by simp)
  have g1 : bI (H [b20, b21, b22, b23]) 2 = b21 := bI_H [b20, b21, b22, b23] 2 (by simp)
  have g2 : bI (H [b20, b21, b22, b23]) 1 = b22 := bI_H [b20, b21, b22, b23] 1 (by simp)
  have g3 : bI (H [b20, b21, b22, b23]) 0 = b23 := bI_H [b20, b21, b22, b23] 0 (by simp)
  have g4 : bI (H [b12, b13, b14, b15]) 3 = b12 := bI_H [b12, b13, b14, b15] 3 (by simp)
  have g5 : bI (H [b12, b13, b14, b15]) 2 = b13 := bI_H [b12, b13, b14, b15] 2 (by simp)
  have g6 : bI (H [b12, b13, b14, b15]) 1 = b14 := bI_H [b12, b13, b14, b15] 1 (by simp)
  have g7 : bI (H [b12, b13, b14, b15]) 0 = b15 := bI_H [b12, b13, b14, b15] 0 (by simp)
  have g8 : bI (H [b28, b29, b30, b31]) 3 = b28 := bI_H [b28, b29, b30, b31] 3 (by simp)
  have g9 : bI (H [b28, b29, b30, b31]) 2 = b29 := bI_H [b28, b29, b30, b31] 2 (by simp)
  have g10 : bI (H [b28, b29, b30, b31]) 1 = b30 := bI_H [b28, b29, b30, b31] 1 (by simp)
  have g11 : bI (H [b28, b29, b30, b31]) 0 = b31 := bI_H [b28, b29, b30, b31] 0 (by simp)
  refine ⟨by
      simp [okB]
      try omega
    , by kernel_rfl, by
      have e : ∀ rd rn rm ra imm cond : Int, hl (ltr rd rn rm ra imm cond) ((V_hauberkref02_Bits (14, false)).take 16) = [true, true, true, false, true, false, true, true, false, false, false, false, bI rn 3, bI rn 2, bI rn 1, bI rn 0] := by intro rd rn rm ra imm cond; kernel_rfl
      rw [e]
      simp only [g4, g5, g6, g7]
    , by
      have e : ∀ rd rn rm ra imm cond : Int, hl (ltr rd rn rm ra imm cond) ((V_hauberkref02_Bits (14, false)).drop 16) = [false, false, false, false, bI rd 3, bI rd 2, bI rd 1, bI rd 0, false, false, false, false, bI rm 3, bI rm 2, bI rm 1, bI rm 0] := by intro rd rn rm ra imm cond; kernel_rfl
      rw [e]
      simp only [g0, g1, g2, g3, g8, g9, g10, g11]
    ⟩
theorem rr_15 (b12 b13 b14 b15 b20 b21 b22 b23 b28 b29 b30 b31 : Bool) : iRow 15 false [true, true, true, false, true, false, true, true, true, false, true, false, b12, b13, b14, b15, false, false, false, false, b20, b21, b22, b23, false, false, false, false, b28, b29, b30, b31] = (15, H [b20, b21, b22, b23], H [b12, b13, b14, b15], H [b28, b29, b30, b31], 0, 0, 0, false, ()) := by
  kernel_rfl
theorem fw_15 (b12 b13 b14 b15 b20 b21 b22 b23 b28 b29 b30 b31 : Bool) (h0 : le12 (H [b20, b21, b22, b23]) = true) (h1 : le12 (H [b12, b13, b14, b15]) = true) (h2 : le12 (H [b28, b29, b30, b31]) = true) : okB 15 (H [b20, b21, b22, b23]) (H [b12, b13, b14, b15]) (H [b28, b29, b30, b31]) (0) (0) (0) false = true ∧ (V_hauberkref02_Bits (15, false)).length = 32 ∧ hl (ltr (H [b20, b21, b22, b23]) (H [b12, b13, b14, b15]) (H [b28, b29, b30, b31]) (0) (0) (0)) ((V_hauberkref02_Bits (15, false)).take 16) = [true, true, true, false, true, false, true, true, true, false, true, false, b12, b13, b14, b15] ∧ hl (ltr (H [b20, b21, b22, b23]) (H [b12, b13, b14, b15]) (H [b28, b29, b30, b31]) (0) (0) (0)) ((V_hauberkref02_Bits (15, false)).drop 16) = [false, false, false, false, b20, b21, b22, b23, false, false, false, false, b28, b29, b30, b31] := by
  have h0 := le12_iff h0
  have h1 := le12_iff h1
  have h2 := le12_iff h2
  have := H_nonneg [b20, b21, b22, b23]
  have : H [b20, b21, b22, b23] < 16 := H_lt (l := [b20, b21, b22, b23]) (k := 4) (by simp)
  have := H_nonneg [b12, b13, b14, b15]
  have : H [b12, b13, b14, b15] < 16 := H_lt (l := [b12, b13, b14, b15]) (k := 4) (by simp)
  have := H_nonneg [b28, b29, b30, b31]
  have : H [b28, b29, b30, b31] < 16 := H_lt (l := [b28, b29, b30, b31]) (k := 4) (by simp)
  have g0 : bI (H [b20, b21, b22, b23]) 3 = b20 := bI_H [b20, b21, b22, b23] 3 (by simp)
  have g1 : bI (H [b20, b21, b22, b23]) 2 = b21 := bI_H [b20, b21, b22, b23] 2 (by simp)
  have g2 : bI (H [b20, b21, b22, b23]) 1 = b22 := bI_H [b20, b21, b22, b23] 1 (by simp)
  have g3 : bI (H [b20, b21, b22, b23]) 0 = b23 := bI_H [b20, b21, b22, b23] 0 (by simp)
  have g4 : bI (H [b12, b13, b14, b15]) 3 = b12 := bI_H [b12, b13, b14, b15] 3 (by simp)
  have g5 : bI (H [b12, b13, b14, b15]) 2 = b13 := bI_H [b12, b13, b14, b15] 2 (by simp)
  have g6 : bI (H [b12, b13, b14, b15]) 1 = b14 := bI_H [b12, b13, b14, b15] 1 (by simp)
  have g7 : bI (H [b12, b13, b14, b15]) 0 = b15 := bI_H [b12, b13, b14, b15] 0 (by simp)
  have g8 : bI (H [b28, b29, b30, b31]) 3 = b28 := bI_H [b28, b29, b30, b31] 3 (by simp)
  have g9 : bI (H [b28, b29, b30, b31]) 2 = b29 := bI_H [b28, b29, b30, b31] 2 (by simp)
  have g10 : bI (H [b28, b29, b30, b31]) 1 = b30 := bI_H [b28, b29, b30, b31] 1 (by simp)
  have g11 : bI (H [b28, b29, b30, b31]) 0 = b31 := bI_H [b28, b29, b30, b31] 0 (by simp)
  refine ⟨by
      simp [okB]
      try omega
    , by kernel_rfl, by
      have e : ∀ rd rn rm ra imm cond : Int, hl (ltr rd rn rm ra imm cond) ((V_hauberkref02_Bits (15, false)).take 16) = [true, true, true, false, true, false, true, true, true, false, true, false, bI rn 3, bI rn 2, bI rn 1, bI rn 0] := by intro rd rn rm ra imm cond; kernel_rfl
      rw [e]
      simp only [g4, g5, g6, g7]
    , by
      have e : ∀ rd rn rm ra imm cond : Int, hl (ltr rd rn rm ra imm cond) ((V_hauberkref02_Bits (15, false)).drop 16) = [false, false, false, false, bI rd 3, bI rd 2, bI rd 1, bI rd 0, false, false, false, false, bI rm 3, bI rm 2, bI rm 1, bI rm 0] := by intro rd rn rm ra imm cond; kernel_rfl
      rw [e]
      simp only [g0, g1, g2, g3, g8, g9, g10, g11]
    ⟩
theorem rr_16 (b12 b13 b14 b15 b20 b21 b22 b23 b28 b29 b30 b31 : Bool) : iRow 16 false [true, true, true, true, true, false, true, true, false, false, false, false, b12, b13, b14, b15, true, true, true, true, b20, b21, b22, b23, false, false, false, false, b28, b29, b30, b31] = (16, H [b20, b21, b22, b23], H [b12, b13, b14, b15], H [b28, b29, b30, b31], 0, 0, 0, false, ()) := by
  kernel_rfl
theorem fw_16 (b12 b13 b14 b15 b20 b21 b22 b23 b28 b29 b30 b31 : Bool) (h0 : le12 (H [b20, b21, b22, b23]) = true) (h1 : le12 (H [b12, b13, b14, b15]) = true) (h2 : le12 (H [b28, b29, b30, b31]) = true) : okB 16 (H [b20, b21, b22, b23]) (H [b12, b13, b14, b15]) (H [b28, b29, b30, b31]) (0) (0) (0) false = true ∧ (V_hauberkref02_Bits (16, false)).length = 32 ∧ hl (ltr (H [b20, b21, b22, b23]) (H [b12, b13, b14, b15]) (H [b28, b29, b30, b31]) (0) (0) (0)) ((V_hauberkref02_Bits (16, false)).take 16) = [true, true, true, true, true, false, true, true, false, false, false, false, b12, b13, b14, b15] ∧ hl (ltr (H [b20, b21, b22, b23]) (H [b12, b13, b14, b15]) (H [b28, b29, b30, b31]) (0) (0) (0)) ((V_hauberkref02_Bits (16, false)).drop 16) = [true, true, true, true, b20, b21, b22, b23, false, false, false, false, b28, b29, b30, b31] := by
  have h0 := le12_iff h0
  have h1 := le12_iff h1
  have h2 := le12_iff h2
  have := H_nonneg [b20, b21, b22, b23]
  have : H [b20, b21, b22, b23] < 16 := H_lt (l := [b20, b21, b22, b23]) (k := 4) (by simp)
  have := H_nonneg [b12, b13, b14, b15]
  have : H [b12, b13, b14, b15] < 16 := H_lt (l := [b12, b13, b14, b15]) (k := 4) (by simp)
  have := H_nonneg [b28, b29, b30, b31]
  have : H [b28, b29, b30, b31] < 16 := H_lt (l := [b28, b29, b30, b31]) (k := 4) (by simp)
  have g0 : bI (H [b20, b21, b22, b23]) 3 = b20 := bI_H [b20, b21, b22, b23] 3 (by simp)
  have g1 : bI (H [b20, b21, b22, b23]) 2 = b21 := bI_H [b20, b21, b22, b23] 2 (by simp)
  have g2 : bI (H [b20, b21, b22, b23]) 1 = b22 := bI_H [b20, b21, b22, b23] 1 (by simp)
  have g3 : bI (H [b20, b21, b22, b23]) 0 = b23 := bI_H [b20, b21, b22, b23] 0 (by simp)
  have g4 : bI (H [b12, b13, b14, b15]) 3 = b12 := bI_H [b12, b13, b14, b15] 3 (by simp)
  have g5 : bI (H [b12, b13, b14, b15]) 2 = b13 := bI_H [b12, b13, b14, b15] 2 (by simp)
  have g6 : bI (H [b12, b13, b14, b15]) 1 = b14 := bI_H [b12, b13, b14, b15] 1 (by simp)
  have g7 : bI (H [b12, b13, b14, b15]) 0 = b15 := bI_H [b12, b13, b14, b15] 0 (by simp)
  have g8 : bI (H [b28, b29, b30, b31]) 3 = b28 := bI_H [b28, b29, b30, b31] 3 (by simp)
  have g9 : bI (H [b28, b29, b30, b31]) 2 = b29 := bI_H [b28, b29, b30, b31] 2 (by simp)
  have g10 : bI (H [b28, b29, b30, b31]) 1 = b30 := bI_H [b28, b29, b30, b31] 1 (by simp)
  have g11 : bI (H [b28, b29, b30, b31]) 0 = b31 := bI_H [b28, b29, b30, b31] 0 (by simp)
  refine ⟨by
      simp [okB]
      try omega
    , by kernel_rfl, by
      have e : ∀ rd rn rm ra imm cond : Int, hl (ltr rd rn rm ra imm cond) ((V_hauberkref02_Bits (16, false)).take 16) = [true, true, true, true, true, false, true, true, false, false, false, false, bI rn 3, bI rn 2, bI rn 1, bI rn 0] := by intro rd rn rm ra imm cond; kernel_rfl
      rw [e]
      simp only [g4, g5, g6, g7]
    , by
      have e : ∀ rd rn rm ra imm cond : Int, hl (ltr rd rn rm ra imm cond) ((V_hauberkref02_Bits (16, false)).drop 16) = [true, true, true, true, bI rd 3, bI rd 2, bI rd 1, bI rd 0, false, false, false, false, bI rm 3, bI rm 2, bI rm 1, bI rm 0] := by intro rd rn rm ra imm cond; kernel_rfl
      rw [e]
      simp only [g0, g1, g2, g3, g8, g9, g10, g11]
    ⟩
theorem rr_17 (b12 b13 b14 b15 b16 b17 b18 b19 b20 b21 b22 b23 b28 b29 b30 b31 : Bool) : iRow 17 false [true, true, true, true, true, false, true, true, true, false, true, false, b12, b13, b14, b15, b16, b17, b18, b19, b20, b21, b22, b23, false, false, false, false, b28, b29, b30, b31] = (17, H [b16, b17, b18, b19], H [b12, b13, b14, b15], H [b28, b29, b30, b31], H [b20, b21, b22, b23], 0, 0, false, ()) := by
  kernel_rfl
theorem fw_17 (b12 b13 b14 b15 b16 b17 b18 b19 b20 b21 b22 b23 b28 b29 b30 b31 : Bool) (h0 : le12 (H [b16, b17, b18, b19]) = true) (h1 : le12 (H [b12, b13, b14, b15]) = true) (h2 : le12 (H [b28, b29, b30, b31]) = true) (h3 : le12 (H [b20, b21, b22, b23]) = true) (h4 : H [b16, b17, b18, b19] ≠ H [b20, b21, b22, b23]) : okB 17 (H [b16, b17, b18, b19]) (H [b12, b13, b14, b15]) (H [b28, b29, b30, b31]) (H [b20, b21, b22, b23]) (0) (0) false = true ∧ (V_hauberkref02_Bits (17, false)).length = 32 ∧ hl (ltr (H [b16, b17, b18, b19]) (H [b12, b13, b14, b15]) (H [b28, b29, b30, b31]) (H [b20, b21, b22, b23]) (0) (0)) ((V_hauberkref02_Bits (17, false)).take 16) = [true, true, true, true, true, false, true, true, true, false, true, false, b12, b13, b14, b15] ∧ hl (ltr (H [b16, b17, b18, b19]) (H [b12, b13, b14, b15]) (H [b28, b29, b30, b31]) (H [b20, b21, b22, b23]) (0) (0)) ((V_hauberkref02_Bits (17, false)).drop 16) = [b16, b17, b18, b19, b20, b21, b22, b23, false, false, false, false, b28, b29, b30, b31] := by
  have h0 := le12_iff h0
  have h1 := le12_iff h1
  have h2 := le12_iff h2
  have h3 := le12_iff h3
  have := H_nonneg [b16, b17, b18, b19]
  have : H [b16, b17, b18, b19] < 16 := H_lt (l := [b16, b17, b18, b19]) (k := 4) (by simp)
  have := H_nonneg [b12, b13, b14, b15]
  have : H [b12, b13, b14, b15] < 16 := H_lt (l := [b12, b13, b14, b15]) (k := 4) (by simp)
  have := H_nonneg [b28, b29, b30, b31]
  have : H [b28, b29, b30, b31] < 16 := H_lt (l := [b28, b29, b30, b31]) (k := 4) (by simp)
  have := H_nonneg [b20, b21, b22, b23]
  have : H [b20, b21, b22, b23] < 16 := H_lt (l := [b20, b21, b22, b23]) (k := 4) (by simp)
  have g0 : bI (H [b16, b17, b18, b19]) 3 = b16 := bI_H [b16, b17, b18, b19] 3 (by simp)
  have g1 : bI (H [b16, b17, b18, b19]) 2 = b17 := bI_H [b16, b17, b18, b19] 2 (by simp)
  have g2 : bI (H [b16, b17, b18, b19]) 1 = b18 := bI_H [b16, b17, b18, b19] 1 (by simp)
  have g3 : bI (H [b16, b17, b18, b19]) 0 = b19 := bI_H [b16, b17, b18, b19] 0 (by simp)
  have g4 : bI (H [b12, b13, b14, b15]) 3 = b12 := bI_H [b12, b13, b14, b15] 3 (by simp)
  have g5 : bI (H [b12, b13, b14, b15]) 2 = b13 := bI_H [b12, b13, b14, b15] 2 (by simp)
  have g6 : bI (H [b12, b13, b14, b15]) 1 = b14 := bI_H [b12, b13, b14, b15] 1 (by simp)
  have g7 : bI (H [b12, b13, b14, b15]) 0 = b15 := bI_H [b12, b13, b14, b15] 0 (by simp)
  have g8 : bI (H [b28, b29, b30, b31]) 3 = b28 := bI_H [b28, b29, b30, b31] 3 (by simp)
  have g9 : bI (H [b28, b29, b30, b31]) 2 = b29 := bI_H [b28, b29, b30, b31] 2 (by simp)
  have g10 : bI (H [b28, b29, b30, b31]) 1 = b30 := bI_H [b28, b29, b30, b31] 1 (by simp)
  have g11 : bI (H [b28, b29, b30, b31]) 0 = b31 := bI_H [b28, b29, b30, b31] 0 (by simp)
  have g12 : bI (H [b20, b21, b22, b23]) 3 = b20 := bI_H [b20, b21, b22, b23] 3 (by simp)
  have g13 : bI (H [b20, b21, b22, b23]) 2 = b21 := bI_H [b20, b21, b22, b23] 2 (by simp)
  have g14 : bI (H [b20, b21, b22, b23]) 1 = b22 := bI_H [b20, b21, b22, b23] 1 (by simp)
  have g15 : bI (H [b20, b21, b22, b23]) 0 = b23 := bI_H [b20, b21, b22, b23] 0 (by simp)
  refine ⟨by
      simp [okB]
      try omega
    , by kernel_rfl, by
      have e : ∀ rd rn rm ra imm cond : Int, hl (ltr rd rn rm ra imm cond) ((V_hauberkref02_Bits (17, false)).take 16) = [true, true, true, true, true, false, true, true, true, false, true, false, bI rn 3, bI rn 2, bI rn 1, bI rn 0] := by intro rd rn rm ra imm cond; kernel_rfl
      rw [e]
      simp only [g4, g5, g6, g7]
    , by
      have e : ∀ rd rn rm ra imm cond : Int, hl (ltr rd rn rm ra imm cond) ((V_hauberkref02_Bits (17, false)).drop 16) = [bI rd 3, bI rd 2, bI rd 1, bI rd 0, bI ra 3, bI ra 2, bI ra 1, bI ra 0, false, false, false, false, bI rm 3, bI rm 2, bI rm 1, bI rm 0] := by intro rd rn rm ra imm cond; kernel_rfl
      rw [e]
      simp only [g0, g1, g2, g3, g12, g13, g14, g15, g8, g9, g10, g11]
    ⟩
theorem rr_18 (b12 b13 b14 b15 b17 b18 b19 b20 b21 b22 b23 b24 b25 b27 b28 b29 b30 b31 : Bool) : iRow 18 false [true, true, true, true, false, false, true, true, false, true, true, false, b12, b13, b14, b15, false, b17, b18, b19, b20, b21, b22, b23, b24, b25, false, b27, b28, b29, b30, b31] = (18, H [b20, b21, b22, b23], H [b12, b13, b14, b15], 0, H [b27, b28, b29, b30, b31] + 1 - H [b17, b18, b19, b24, b25], H [b17, b18, b19, b24, b25], 0, false, ()) := by
  have e : iRow 18 false [true, true, true, true, false, false, true, true, false, true, true, false, b12, b13, b14, b15, false, b17, b18, b19, b20, b21, b22, b23, b24, b25, false, b27, b28, b29, b30, b31] = (18, H [b20, b21, b22, b23], H [b12, b13, b14, b15], 0, w64 (w64 (H [b27, b28, b29, b30, b31] + 1) - ((immN [(4, b17), (3, b18), (2, b19), (1, b24), (0, b25)] : Nat) : Int)), ((immN [(4, b17), (3, b18), (2, b19), (1, b24), (0, b25)] : Nat) : Int), 0, false, ()) := by kernel_rfl
  have e2 : immN [(4, b17), (3, b18), (2, b19), (1, b24), (0, b25)] = hb [b17, b18, b19, b24, b25] 0 := by simp only [immN, hb]; omega
  have h1 := H_nonneg [b17, b18, b19, b24, b25]
  have h2 : H [b17, b18, b19, b24, b25] < 32 := H_lt (l := [b17, b18, b19, b24, b25]) (k := 5) (by simp)
  have h3 := H_nonneg [b27, b28, b29, b30, b31]
  have h4 : H [b27, b28, b29, b30, b31] < 32 := H_lt (l := [b27, b28, b29, b30, b31]) (k := 5) (by simp)
  rw [e, e2]
  show (18, H [b20, b21, b22, b23], H [b12, b13, b14, b15], 0, w64 (w64 (H [b27, b28, b29, b30, b31] + 1) - H [b17, b18, b19, b24, b25]), H [b17, b18, b19, b24, b25], 0, false, ()) = _
  rw [w64_id (n := H [b27, b28, b29, b30, b31] + 1) (by omega) (by omega), w64_id (n := H [b27, b28, b29, b30, b31] + 1 - H [b17, b18, b19, b24, b25]) (by omega) (by omega)]
theorem fw_18 (b12 b13 b14 b15 b17 b18 b19 b20 b21 b22 b23 b24 b25 b27 b28 b29 b30 b31 : Bool) (h0 : le12 (H [b20, b21, b22, b23]) = true) (h1 : le12 (H [b12, b13, b14, b15]) = true) (h2 : H [b27, b28, b29, b30, b31] + 1 - H [b17, b18, b19, b24, b25] ≥ 1) : okB 18 (H [b20, b21, b22, b23]) (H [b12, b13, b14, b15]) (0) (H [b27, b28, b29, b30, b31] + 1 - H [b17, b18, b19, b24, b25]) (H [b17, b18, b19, b24, b25]) (0) false = true ∧ (V_hauberkref02_Bits (18, false)).length = 32 ∧ hl (ltr (H [b20, b21, b22, b23]) (H [b12, b13, b14, b15]) (0) (H [b27, b28, b29, b30, b31] + 1 - H [b17, b18, b19, b24, b25]) (H [b17, b18, b19, b24, b25]) (0)) ((V_hauberkref02_Bits (18, false)).take 16) = [true, true, true, true, false, false, true, true, false, true, true, false, b12, b13, b14, b15] ∧ hl (ltr (H [b20, b21, b22, b23]) (H [b12, b13, b14, b15]) (0) (H [b27, b28, b29, b30, b31] + 1 - H [b17, b18, b19, b24, b25]) (H [b17, b18, b19, b24, b25]) (0)) ((V_hauberkref02_Bits (18, false)).drop 16) = [false, b17, b18, b19, b20, b21, b22, b23, b24, b25, false, b27, b28, b29, b30, b31] := by
  have h0 := le12_iff h0
  have h1 := le12_iff h1
  have := H_nonneg [b20, b21, b22, b23]
  have : H [b20, b21, b22, b23] < 16 := H_lt (l := [b20, b21, b22, b23]) (k := 4) (by simp)
  have := H_nonneg [b12, b13, b14, b15]
  have : H [b12, b13, b14, b15] < 16 := H_lt (l := [b12, b13, b14, b15]) (k := 4) (by simp)
  have := H_nonneg [b17, b18, b19, b24, b25]
  have : H [b17, b18, b19, b24, b25] < 32 := H_lt (l := [b17, b18, b19, b24, b25]) (k := 5) (by simp)
  have := H_nonneg [b27, b28, b29, b30, b31]
  have : H [b27, b28, b29, b30, b31] < 32 := H_lt (l := [b27, b28, b29, b30, b31]) (k := 5) (by simp)
  have g0 : bI (H [b20, b21, b22, b23]) 3 = b20 := bI_H [b20, b21, b22, b23] 3 (by simp)
  have g1 : bI (H [b20, b21, b22, b23]) 2 = b21 := bI_H [b20, b21, b22, b23] 2 (by simp)
  have g2 : bI (H [b20, b21, b22, b23]) 1 = b22 := bI_H [b20, b21, b22, b23] 1 (by simp)
  have g3 : bI (H [b20, b21, b22, b23]) 0 = b23 := bI_H [b20, b21, b22, b23] 0 (by simp)
  have g4 : bI (H [b12, b13, b14, b15]) 3 = b12 := bI_H [b12, b13, b14, b15] 3 (by simp)
  have g5 : bI (H [b12, b13, b14, b15]) 2 = b13 := bI_H [b12, b13, b14, b15] 2 (by simp)
  have g6 : bI (H [b12, b13, b14, b15]) 1 = b14 := bI_H [b12, b13, b14, b15] 1 (by simp)
  have g7 : bI (H [b12, b13, b14, b15]) 0 = b15 := bI_H [b12, b13, b14, b15] 0 (by simp)
  have g8 : bI (H [b17, b18, b19, b24, b25]) 4 = b17 := bI_H [b17, b18, b19, b24, b25] 4 (by simp)
  have g9 : bI (H [b17, b18, b19, b24, b25]) 3 = b18 := bI_H [b17, b18, b19, b24, b25] 3 (by simp)
  have g10 : bI (H [b17, b18, b19, b24, b25]) 2 = b19 := bI_H [b17, b18, b19, b24, b25] 2 (by simp)
  have g11 : bI (H [b17, b18, b19, b24, b25]) 1 = b24 := bI_H [b17, b18, b19, b24, b25] 1 (by simp)
  have g12 : bI (H [b17, b18, b19, b24, b25]) 0 = b25 := bI_H [b17, b18, b19, b24, b25] 0 (by simp)
  have g13 : bI (H [b17, b18, b19, b24, b25] + (H [b27, b28, b29, b30, b31] + 1 - H [b17, b18, b19, b24, b25]) - 1) 4 = b27 := (by rw [show H [b17, b18, b19, b24, b25] + (H [b27, b28, b29, b30, b31] + 1 - H [b17, b18, b19, b24, b25]) - 1 = H [b27, b28, b29, b30, b31] by omega]; exact bI_H [b27, b28, b29, b30, b31] 4 (by simp))
  have g14 : bI (H [b17, b18, b19, b24, b25] + (H [b27, b28, b29, b30, b31] + 1 - H [b17, b18, b19, b24, b25]) - 1) 3 = b28 := (by rw [show H [b17, b18, b19, b24, b25] + (H [b27, b28, b29, b30, b31] + 1 - H [b17, b18, b19, b24, b25]) - 1 = H [b27, b28, b29, b30, b31] by omega]; exact bI_H [b27, b28, b29, b30, b31] 3 (by simp))
  have g15 : bI (H [b17, b18, b19, b24, b25] + (H [b27, b28, b29, b30, b31] + 1 - H [b17, b18, b19, b24, b25]) - 1) 2 = b29 := (by rw [show H [b17, b18, b19, b24, b25] + (H [b27, b28, b29, b30, b31] + 1 - H [b17, b18, b19, b24, b25]) - 1 = H [b27, b28, b29, b30, b31] by omega]; exact bI_H [b27, b28, b29, b30, b31] 2 (by simp))
  have g16 : bI (H [b17, b18, b19, b24, b25] + (H [b27, b28, b29, b30, b31] + 1 - H [b17, b18, b19, b24, b25]) - 1) 1 = b30 := (by rw [show H [b17, b18, b19, b24, b25] + (H [b27, b28, b29, b30, b31] + 1 - H [b17, b18, b19, b24, b25]) - 1 = H [b27, b28, b29, b30, b31] by omega]; exact bI_H [b27, b28, b29, b30, b31] 1 (by simp))
  have g17 : bI (H [b17, b18, b19, b24, b25] + (H [b27, b28, b29, b30, b31] + 1 - H [b17, b18, b19, b24, b25]) - 1) 0 = b31 := (by rw [show H [b17, b18, b19, b24, b25] + (H [b27, b28, b29, b30, b31] + 1 - H [b17, b18, b19, b24, b25]) - 1 = H [b27, b28, b29, b30, b31] by omega]; exact bI_H [b27, b28, b29, b30, b31] 0 (by simp))
  refine ⟨by
      simp [okB]
      try omega
    , by kernel_rfl, by
      have e : ∀ rd rn rm ra imm cond : Int, hl (ltr rd rn rm ra imm cond) ((V_hauberkref02_Bits (18, false)).take 16) = [true, true, true, true, false, false, true, true, false, true, true, false, bI rn 3, bI rn 2, bI rn 1, bI rn 0] := by intro rd rn rm ra imm cond; kernel_rfl
      rw [e]
      simp only [g4, g5, g6, g7]
    , by
      have e : ∀ rd rn rm ra imm cond : Int, hl (ltr rd rn rm ra imm cond) ((V_hauberkref02_Bits (18, false)).drop 16) = [false, bI imm 4, bI imm 3, bI imm 2, bI rd 3, bI rd 2, bI rd 1, bI rd 0, bI imm 1, bI imm 0, false, bI (imm + ra - 1) 4, bI (imm + ra - 1) 3, bI (imm + ra - 1) 2, bI (imm + ra - 1) 1, bI (imm + ra - 1) 0] := by intro rd rn rm ra imm cond; kernel_rfl
      rw [e]
      simp only [g8, g9, g10, g0, g1, g2, g3, g11, g12, g13, g14, g15, g16, g17]
    ⟩
theorem rr_19 (b10 b11 b12 b13 b14 b15 : Bool) : iRow 19 false [false, true, true, false, true, false, false, false, false, false, b10, b11, b12, b13, b14, b15] = (19, H [b13, b14, b15], H [b10, b11, b12], 0, 0, 0, 0, false, ()) := by
  kernel_rfl
theorem fw_19 (b10 b11 b12 b13 b14 b15 : Bool)  : okB 19 (H [b13, b14, b15]) (H [b10, b11, b12]) (0) (0) (0) (0) false = true ∧ (V_hauberkref02_Bits (19, false)).length = 16 ∧ hl (ltr (H [b13, b14, b15]) (H [b10, b11, b12]) (0) (0) (0) (0)) (V_hauberkref02_Bits (19, false)) = [false, true, true, false, true, false, false, false, false, false, b10, b11, b12, b13, b14, b15] := by
  have := H_nonneg [b13, b14, b15]
  have : H [b13, b14, b15] < 8 := H_lt (l := [b13, b14, b15]) (k := 3) (by simp)
  have := H_nonneg [b10, b11, b12]
  have : H [b10, b11, b12] < 8 := H_lt (l := [b10, b11, b12]) (k := 3) (by simp)
  have g0 : bI (H [b13, b14, b15]) 2 = b13 := bI_H [b13, b14, b15] 2 (by simp)
  have g1 : bI (H [b13, b14, b15]) 1 = b14 := bI_H [b13, b14, b15] 1 (by simp)
  have g2 : bI (H [b13, b14, b15]) 0 = b15 := bI_H [b13, b14, b15] 0 (by simp)
  have g3 : bI (H [b10, b11, b12]) 2 = b10 := bI_H [b10, b11, b12] 2 (by simp)
  have g4 : bI (H [b10, b11, b12]) 1 = b11 := bI_H [b10, b11, b12] 1 (by simp)
  have g5 : bI (H [b10, b11, b12]) 0 = b12 := bI_H [b10, b11, b12] 0 (by simp)
  refine ⟨by
      simp [okB]
      try omega
    , by kernel_rfl, by
      have e : ∀ rd rn rm ra imm cond : Int, hl (ltr rd rn rm ra imm cond) (V_hauberkref02_Bits (19, false)) = [false, true, true, false, true, false, false, false, false, false, bI rn 2, bI rn 1, bI rn 0, bI rd 2, bI rd 1, bI rd 0] := by intro rd rn rm ra imm cond; kernel_rfl
      rw [e]
      simp only [g3, g4, g5, g0, g1, g2]
    ⟩
theorem rr_20 (b10 b11 b12 b13 b14 b15 : Bool) : iRow 20 false [false, true, true, false, false, false, false, false, false, false, b10, b11, b12, b13, b14, b15] = (20, H [b13, b14, b15], H [b10, b11, b12], 0, 0, 0, 0, false, ()) := by
  kernel_rfl
theorem fw_20 (b10 b11 b12 b13 b14 b15 : Bool)  : okB 20 (H [b13, b14, b15]) (H [b10, b11, b12]) (0) (0) (0) (0) false = true ∧ (V_hauberkref02_Bits (20, false)).length = 16 ∧ hl (ltr (H [b13, b14, b15]) (H [b10, b11, b12]) (0) (0) (0) (0)) (V_hauberkref02_Bits (20, false)) = [false, true, true, false, false, false, false, false, false, false, b10, b11, b12, b13, b14, b15] := by
  have := H_nonneg [b13, b14, b15]
  have : H [b13, b14, b15] < 8 := H_lt (l := [b13, b14, b15]) (k := 3) (by simp)
  have := H_nonneg [b10, b11, b12]
  have : H [b10, b11, b12] < 8 := H_lt (l := [b10, b11, b12]) (k := 3) (by simp)
  have g0 : bI (H [b13, b14, b15]) 2 = b13 := bI_H [b13, b14, b15] 2 (by simp)
  have g1 : bI (H [b13, b14, b15]) 1 = b14 := bI_H [b13, b14, b15] 1 (by simp)
  have g2 : bI (H [b13, b14, b15]) 0 = b15 := bI_H [b13, b14, b15] 0 (by simp)
  have g3 : bI (H [b10, b11, b12]) 2 = b10 := bI_H [b10, b11, b12] 2 (by simp)
  have g4 : bI (H [b10, b11, b12]) 1 = b11 := bI_H [b10, b11, b12] 1 (by simp)
  have g5 : bI (H [b10, b11, b12]) 0 = b12 := bI_H [b10, b11, b12] 0 (by simp)
  refine ⟨by
      simp [okB]
      try omega
    , by kernel_rfl, by
      have e : ∀ rd rn rm ra imm cond : Int, hl (ltr rd rn rm ra imm cond) (V_hauberkref02_Bits (20, false)) = [false, true, true, false, false, false, false, false, false, false, bI rn 2, bI rn 1, bI rn 0, bI rd 2, bI rd 1, bI rd 0] := by intro rd rn rm ra imm cond; kernel_rfl
      rw [e]
      simp only [g3, g4, g5, g0, g1, g2]
    ⟩
theorem rr_21 (b10 b11 b12 b13 b14 b15 : Bool) : iRow 21 false [false, true, true, true, true, false, false, false, false, false, b10, b11, b12, b13, b14, b15] = (21, H [b13, b14, b15], H [b10, b11, b12], 0, 0, 0, 0, false, ()) := by
  kernel_rfl
theorem fw_21 (b10 b11 b12 b13 b14 b15 : Bool)  : okB 21 (H [b13, b14, b15]) (H [b10, b11, b12]) (0) (0) (0) (0) false = true ∧ (V_hauberkref02_Bits (21, false)).length = 16 ∧ hl (ltr (H [b13, b14, b15]) (H [b10, b11, b12]) (0) (0) (0) (0)) (V_hauberkref02_Bits (21, false)) = [false, true, true, true, true, false, false, false, false, false, b10, b11, b12, b13, b14, b15] := by
  have := H_nonneg [b13, b14, b15]
  have : H [b13, b14, b15] < 8 := H_lt (l := [b13, b14, b15]) (k := 3) (by simp)
  have := H_nonneg [b10, b11, b12]
  have : H [b10, b11, b12] < 8 := H_lt (l := [b10, b11, b12]) (k := 3) (by simp)
  have g0 : bI (H [b13, b14, b15]) 2 = b13 := bI_H [b13, b14, b15] 2 (by simp)
  have g1 : bI (H [b13, b14, b15]) 1 = b14 := bI_H [b13, b14, b15] 1 (by simp)
  have g2 : bI (H [b13, b14, b15]) 0 = b15 := bI_H [b13, b14, b15] 0 (by simp)
  have g3 : bI (H [b10, b11, b12]) 2 = b10 := bI_H [b10, b11, b12] 2 (by simp)
  have g4 : bI (H [b10, b11, b12]) 1 = b11 := bI_H [b10, b11, b12] 1 (by simp)
  have g5 : bI (H [b10, b11, b12]) 0 = b12 := bI_H [b10, b11, b12] 0 (by simp)
  refine ⟨by
      simp [okB]
      try omega
    , by kernel_rfl, by
      have e : ∀ rd rn rm ra imm cond : Int, hl (ltr rd rn rm ra imm cond) (V_hauberkref02_Bits (21, false)) = [false, true, true, true, true, false, false, false, false, false, bI rn 2, bI rn 1, bI rn 0, bI rd 2, bI rd 1, bI rd 0] := by intro rd rn rm ra imm cond; kernel_rfl
      rw [e]
      simp only [g3, g4, g5, g0, g1, g2]
    ⟩
theorem rr_22 (b10 b11 b12 b13 b14 b15 : Bool) : iRow 22 false [false, true, true, true, false, false, false, false, false, false, b10, b11, b12, b13, b14, b15] = (22, H [b13, b14, b15], H [b10, b11, b12], 0, 0, 0, 0, false, ()) := by
  kernel_rfl
theorem fw_22 (b10 b11 b12 b13 b14 b15 : Bool)  : okB 22 (H [b13, b14, b15]) (H [b10, b11, b12]) (0) (0) (0) (0) false = true ∧ (V_hauberkref02_Bits (22, false)).length = 16 ∧ hl (ltr (H [b13, b14, b15]) (H [b10, b11, b12]) (0) (0) (0) (0)) (V_hauberkref02_Bits (22, false)) = [false, true, true, true, false, false, false, false, false, false, b10, b11, b12, b13, b14, b15] := by
  have := H_nonneg [b13, b14, b15]
  have : H [b13, b14, b15] < 8 := H_lt (l := [b13, b14, b15]) (k := 3) (by simp)
  have := H_nonneg [b10, b11, b12]
  have : H [b10, b11, b12] < 8 := H_lt (l := [b10, b11, b12]) (k := 3) (by simp)
  have g0 : bI (H [b13, b14, b15]) 2 = b13 := bI_H [b13, b14, b15] 2 (by simp)
  have g1 : bI (H [b13, b14, b15]) 1 = b14 := bI_H [b13, b14, b15] 1 (by simp)
  have g2 : bI (H [b13, b14, b15]) 0 = b15 := bI_H [b13, b14, b15] 0 (by simp)
  have g3 : bI (H [b10, b11, b12]) 2 = b10 := bI_H [b10, b11, b12] 2 (by simp)
  have g4 : bI (H [b10, b11, b12]) 1 = b11 := bI_H [b10, b11, b12] 1 (by simp)
  have g5 : bI (H [b10, b11, b12]) 0 = b12 := bI_H [b10, b11, b12] 0 (by simp)
  refine ⟨by
      simp [okB]
      try omega
    , by kernel_rfl, by
      have e : ∀ rd rn rm ra imm cond : Int, hl (ltr rd rn rm ra imm cond) (V_hauberkref02_Bits (22, false)) = [false, true, true, true, false, false, false, false, false, false, bI rn 2, bI rn 1, bI rn 0, bI rd 2, bI rd 1, bI rd 0] := by intro rd rn rm ra imm cond; kernel_rfl
      rw [e]
      simp only [g3, g4, g5, g0, g1, g2]
    ⟩
theorem rr_23 (b10 b11 b12 b13 b14 b15 : Bool) : iRow 23 false [false, true, false, false, false, false, true, false, true, false, b10, b11, b12, b13, b14, b15] = (23, 0, H [b13, b14, b15], H [b10, b11, b12], 0, 0, 0, false, ()) := by
  kernel_rfl
theorem fw_23 (b10 b11 b12 b13 b14 b15 : Bool)  : okB 23 (0) (H [b13, b14, b15]) (H [b10, b11, b12]) (0) (0) (0) false = true ∧ (V_hauberkref02_Bits (23, false)).length = 16 ∧ hl (ltr (0) (H [b13, b14, b15]) (H [b10, b11, b12]) (0) (0) (0)) (V_hauberkref02_Bits (23, false)) = [false, true, false, false, false, false, true, false, true, false, b10, b11, b12, b13, b14, b15] := by
  have := H_nonneg [b13, b14, b15]
  have : H [b13, b14, b15] < 8 := H_lt (l := [b13, b14, b15]) (k := 3) (by simp)
  have := H_nonneg [b10, b11, b12]
  have : H [b10, b11, b12] < 8 := H_lt (l := [b10, b11, b12]) (k := 3) (by simp)
  have g0 : bI (H [b13, b14, b15]) 2 = b13 := bI_H [b13, b14, b15] 2 (by simp)
  have g1 : bI (H [b13, b14, b15]) 1 = b14 := bI_H [b13, b14, b15] 1 (by simp)
  have g2 : bI (H [b13, b14, b15]) 0 = b15 := bI_H [b13, b14, b15] 0 (by simp)
  have g3 : bI (H [b10, b11, b12]) 2 = b10 := bI_H [b10, b11, b12] 2 (by simp)
  have g4 : bI (H [b10, b11, b12]) 1 = b11 := bI_H [b10, b11, b12] 1 (by simp)
  have g5 : bI (H [b10, b11, b12]) 0 = b12 := bI_H [b10, b11, b12] 0 (by simp)
  refine ⟨by
      simp [okB]
      try omega
    , by kernel_rfl, by
      have e : ∀ rd rn rm ra imm cond : Int, hl (ltr rd rn rm ra imm cond) (V_hauberkref02_Bits (23, false)) = [false, true, false, false, false, false, true, false, true, false, bI rm 2, bI rm 1, bI rm 0, bI rn 2, bI rn 1, bI rn 0] := by intro rd rn rm ra imm cond; kernel_rfl
      rw [e]
      simp only [g3, g4, g5, g0, g1, g2]
    ⟩
theorem rr_24 (b5 b6 b7 b8 b9 b10 b11 b12 b13 b14 b15 : Bool) : iRow 24 false [true, true, true, false, false, b5, b6, b7, b8, b9, b10, b11, b12, b13, b14, b15] = (24, 0, 0, 0, 0, SG [b5, b6, b7, b8, b9, b10, b11, b12, b13, b14, b15, false], 0, false, ()) := by
  have e : iRow 24 false [true, true, true, false, false, b5, b6, b7, b8, b9, b10, b11, b12, b13, b14, b15] = (24, 0, 0, 0, 0, V_hauberkref03_sign (((immN [(11, b5), (10, b6), (9, b7), (8, b8), (7, b9), (6, b10), (5, b11), (4, b12), (3, b13), (2, b14), (1, b15)] : Nat) : Int), 11), 0, false, ()) := by kernel_rfl
  have e2 : immN [(11, b5), (10, b6), (9, b7), (8, b8), (7, b9), (6, b10), (5, b11), (4, b12), (3, b13), (2, b14), (1, b15)] = hb [b5, b6, b7, b8, b9, b10, b11, b12, b13, b14, b15, false] 0 := by
    simp only [immN, hb, Bool.toNat_false, Nat.reducePow, Nat.mul_zero, Nat.zero_add, Nat.add_zero]
    omega
  rw [e, e2]
  have e3 : V_hauberkref03_sign (((hb [b5, b6, b7, b8, b9, b10, b11, b12, b13, b14, b15, false] 0 : Nat) : Int), 11) = SG [b5, b6, b7, b8, b9, b10, b11, b12, b13, b14, b15, false] := sign_SG b5 [b6, b7, b8, b9, b10, b11, b12, b13, b14, b15, false]
  rw [e3]
theorem fw_24 (b5 b6 b7 b8 b9 b10 b11 b12 b13 b14 b15 : Bool)  : okB 24 (0) (0) (0) (0) (SG [b5, b6, b7, b8, b9, b10, b11, b12, b13, b14, b15, false]) (0) false = true ∧ (V_hauberkref02_Bits (24, false)).length = 16 ∧ hl (ltr (0) (0) (0) (0) (SG [b5, b6, b7, b8, b9, b10, b11, b12, b13, b14, b15, false]) (0)) (V_hauberkref02_Bits (24, false)) = [true, true, true, false, false, b5, b6, b7, b8, b9, b10, b11, b12, b13, b14, b15] := by
  have := SG_even b5 [b6, b7, b8, b9, b10, b11, b12, b13, b14, b15]
  have hev : SG [b5, b6, b7, b8, b9, b10, b11, b12, b13, b14, b15, false] % 2 = 0 := this
  have hlt : -2048 ≤ SG [b5, b6, b7, b8, b9, b10, b11, b12, b13, b14, b15, false] ∧ SG [b5, b6, b7, b8, b9, b10, b11, b12, b13, b14, b15, false] < 2048 := SG_in b5 [b6, b7, b8, b9, b10, b11, b12, b13, b14, b15, false] 11 (by simp)
  have g0 : bI (SG [b5, b6, b7, b8, b9, b10, b11, b12, b13, b14, b15, false]) 11 = b5 := bI_SG b5 [b6, b7, b8, b9, b10, b11, b12, b13, b14, b15, false] 11 (by simp)
  have g1 : bI (SG [b5, b6, b7, b8, b9, b10, b11, b12, b13, b14, b15, false]) 10 = b6 := bI_SG b5 [b6, b7, b8, b9, b10, b11, b12, b13, b14, b15, false] 10 (by simp)
  have g2 : bI (SG [b5, b6, b7, b8, b9, b10, b11, b12, b13, b14, b15, false]) 9 = b7 := bI_SG b5 [b6, b7, b8, b9, b10, b11, b12, b13, b14, b15, false] 9 (by simp)
  have g3 : bI (SG [b5, b6, b7, b8, b9, b10, b11, b12, b13, b14, b15, false]) 8 = b8 := bI_SG b5 [b6, b7, b8, b9, b10, b11, b12, b13, b14, b15, false] 8 (by simp)
  have g4 : bI (SG [b5, b6, b7, b8, b9, b10, b11, b12, b13, b14, b15, false]) 7 = b9 := bI_SG b5 [b6, b7, b8, b9, b10, b11, b12, b13, b14, b15, false] 7 (by simp)
  have g5 : bI (SG [b5, b6, b7, b8, b9, b10, b11, b12, b13, b14, b15, false]) 6 = b10 := bI_SG b5 [b6, b7, b8, b9, b10, b11, b12, b13, b14, b15, false] 6 (by simp)
  have g6 : bI (SG [b5, b6, b7, b8, b9, b10, b11, b12, b13, b14, b15, false]) 5 = b11 := bI_SG b5 [b6, b7, b8, b9, b10, b11, b12, b13, b14, b15, false] 5 (by simp)
  have g7 : bI (SG [b5, b6, b7, b8, b9, b10, b11, b12, b13, b14, b15, false]) 4 = b12 := bI_SG b5 [b6, b7, b8, b9, b10, b11, b12, b13, b14, b15, false] 4 (by simp)
  have g8 : bI (SG [b5, b6, b7, b8, b9, b10, b11, b12, b13, b14, b15, false]) 3 = b13 := bI_SG b5 [b6, b7, b8, b9, b10, b11, b12, b13, b14, b15, false] 3 (by simp)
  have g9 : bI (SG [b5, b6, b7, b8, b9, b10, b11, b12, b13, b14, b15, false]) 2 = b14 := bI_SG b5 [b6, b7, b8, b9, b10, b11, b12, b13, b14, b15, false] 2 (by simp)
  have g10 : bI (SG [b5, b6, b7, b8, b9, b10, b11, b12, b13, b14, b15, false]) 1 = b15 := bI_SG b5 [b6, b7, b8, b9, b10, b11, b12, b13, b14, b15, false] 1 (by simp)
  refine ⟨by
      simp [okB]
      try omega
    , by kernel_rfl, by
      have e : ∀ rd rn rm ra imm cond : Int, hl (ltr rd rn rm ra imm cond) (V_hauberkref02_Bits (24, false)) = [true, true, true, false, false, bI imm 11, bI imm 10, bI imm 9, bI imm 8, bI imm 7, bI imm 6, bI imm 5, bI imm 4, bI imm 3, bI imm 2, bI imm 1] := by intro rd rn rm ra imm cond; kernel_rfl
      rw [e]
      simp only [g0, g1, g2, g3, g4, g5, g6, g7, g8, g9, g10]
    ⟩
theorem rr_24w (b5 b6 b7 b8 b9 b10 b11 b12 b13 b14 b15 b18 b20 b21 b22 b23 b24 b25 b26 b27 b28 b29 b30 b31 : Bool) : iRow 24 true [true, true, true, true, false, b5, b6, b7, b8, b9, b10, b11, b12, b13, b14, b15, true, false, b18, true, b20, b21, b22, b23, b24, b25, b26, b27, b28, b29, b30, b31] = (24, 0, 0, 0, 0, SG [b5, nx b18 b5, nx b20 b5, b6, b7, b8, b9, b10, b11, b12, b13, b14, b15, b21, b22, b23, b24, b25, b26, b27, b28, b29, b30, b31, false], 0, true, ()) := by
  have e : iRow 24 true [true, true, true, true, false, b5, b6, b7, b8, b9, b10, b11, b12, b13, b14, b15, true, false, b18, true, b20, b21, b22, b23, b24, b25, b26, b27, b28, b29, b30, b31] = (24, 0, 0, 0, 0, V_hauberkref03_sign (w64 (w64 (((immN [(24, b5), (21, b6), (20, b7), (19, b8), (18, b9), (17, b10), (16, b11), (15, b12), (14, b13), (13, b14), (12, b15), (11, b21), (10, b22), (9, b23), (8, b24), (7, b25), (6, b26), (5, b27), (4, b28), (3, b29), (2, b30), (1, b31)] : Nat) : Int) + w64 (Int.tmod (w64 (w64 (bN b18 + bN b5) + 1)) 2 * 8388608)) + w64 (Int.tmod (w64 (w64 (bN b20 + bN b5) + 1)) 2 * 4194304)), 24), 0, true, ()) := by kernel_rfl
  have := Bool.toNat_le b5
  have := Bool.toNat_le b6
  have := Bool.toNat_le b7
  have := Bool.toNat_le b8
  have := Bool.toNat_le b9
  have := Bool.toNat_le b10
  have := Bool.toNat_le b11
  have := Bool.toNat_le b12
  have := Bool.toNat_le b13
  have := Bool.toNat_le b14
  have := Bool.toNat_le b15
  have := Bool.toNat_le b21
  have := Bool.toNat_le b22
  have := Bool.toNat_le b23
  have := Bool.toNat_le b24
  have := Bool.toNat_le b25
  have := Bool.toNat_le b26
  have := Bool.toNat_le b27
  have := Bool.toNat_le b28
  have := Bool.toNat_le b29
  have := Bool.toNat_le b30
  have := Bool.toNat_le b31
  have e2 : w64 (w64 (((immN [(24, b5), (21, b6), (20, b7), (19, b8), (18, b9), (17, b10), (16, b11), (15, b12), (14, b13), (13, b14), (12, b15), (11, b21), (10, b22), (9, b23), (8, b24), (7, b25), (6, b26), (5, b27), (4, b28), (3, b29), (2, b30), (1, b31)] : Nat) : Int) + w64 (Int.tmod (w64 (w64 (bN b18 + bN b5) + 1)) 2 * 8388608)) + w64 (Int.tmod (w64 (w64 (bN b20 + bN b5) + 1)) 2 * 4194304)) = ((hb [b5, nx b18 b5, nx b20 b5, b6, b7, b8, b9, b10, b11, b12, b13, b14, b15, b21, b22, b23, b24, b25, b26, b27, b28, b29, b30, b31, false] 0 : Nat) : Int) := by
    rw [fin24 (immN [(24, b5), (21, b6), (20, b7), (19, b8), (18, b9), (17, b10), (16, b11), (15, b12), (14, b13), (13, b14), (12, b15), (11, b21), (10, b22), (9, b23), (8, b24), (7, b25), (6, b26), (5, b27), (4, b28), (3, b29), (2, b30), (1, b31)]) (by simp only [immN]; omega) b18 b20 b5]
    refine congrArg Nat.cast ?_
    simp only [immN, hb, Bool.toNat_false]
    omega
  rw [e, e2]
  have e3 : V_hauberkref03_sign (((hb [b5, nx b18 b5, nx b20 b5, b6, b7, b8, b9, b10, b11, b12, b13, b14, b15, b21, b22, b23, b24, b25, b26, b27, b28, b29, b30, b31, false] 0 : Nat) : Int), 24) = SG [b5, nx b18 b5, nx b20 b5, b6, b7, b8, b9, b10, b11, b12, b13, b14, b15, b21, b22, b23, b24, b25, b26, b27, b28, b29, b30, b31, false] := sign_SG b5 [nx b18 b5, nx b20 b5, b6, b7, b8, b9, b10, b11, b12, b13, b14, b15, b21, b22, b23, b24, b25, b26, b27, b28, b29, b30, b31, false]
  rw [e3]
theorem fw_24w (b5 b6 b7 b8 b9 b10 b11 b12 b13 b14 b15 b18 b20 b21 b22 b23 b24 b25 b26 b27 b28 b29 b30 b31 : Bool)  : okB 24 (0) (0) (0) (0) (SG [b5, nx b18 b5, nx b20 b5, b6, b7, b8, b9, b10, b11, b12, b13, b14, b15, b21, b22, b23, b24, b25, b26, b27, b28, b29, b30, b31, false]) (0) true = true ∧ (V_hauberkref02_Bits (24, true)).length = 32 ∧ hl (ltr (0) (0) (0) (0) (SG [b5, nx b18 b5, nx b20 b5, b6, b7, b8, b9, b10, b11, b12, b13, b14, b15, b21, b22, b23, b24, b25, b26, b27, b28, b29, b30, b31, false]) (0)) ((V_hauberkref02_Bits (24, true)).take 16) = [true, true, true, true, false, b5, b6, b7, b8, b9, b10, b11, b12, b13, b14, b15] ∧ hl (ltr (0) (0) (0) (0) (SG [b5, nx b18 b5, nx b20 b5, b6, b7, b8, b9, b10, b11, b12, b13, b14, b15, b21, b22, b23, b24, b25, b26, b27, b28, b29, b30, b31, false]) (0)) ((V_hauberkref02_Bits (24, true)).drop 16) = [true, false, b18, true, b20, b21, b22, b23, b24, b25, b26, b27, b28, b29, b30, b31] := by
  have := SG_even b5 [nx b18 b5, nx b20 b5, b6, b7, b8, b9, b10, b11, b12, b13, b14, b15, b21, b22, b23, b24, b25, b26, b27, b28, b29, b30, b31]
  have hev : SG [b5, nx b18 b5, nx b20 b5, b6, b7, b8, b9, b10, b11, b12, b13, b14, b15, b21, b22, b23, b24, b25, b26, b27, b28, b29, b30, b31, false] % 2 = 0 := this
  have hlt : -16777216 ≤ SG [b5, nx b18 b5, nx b20 b5, b6, b7, b8, b9, b10, b11, b12, b13, b14, b15, b21, b22, b23, b24, b25, b26, b27, b28, b29, b30, b31, false] ∧ SG [b5, nx b18 b5, nx b20 b5, b6, b7, b8, b9, b10, b11, b12, b13, b14, b15, b21, b22, b23, b24, b25, b26, b27, b28, b29, b30, b31, false] < 16777216 := SG_in b5 [nx b18 b5, nx b20 b5, b6, b7, b8, b9, b10, b11, b12, b13, b14, b15, b21, b22, b23, b24, b25, b26, b27, b28, b29, b30, b31, false] 24 (by simp)
  have g0 : bI (SG [b5, nx b18 b5, nx b20 b5, b6, b7, b8, b9, b10, b11, b12, b13, b14, b15, b21, b22, b23, b24, b25, b26, b27, b28, b29, b30, b31, false]) 24 = b5 := bI_SG b5 [nx b18 b5, nx b20 b5, b6, b7, b8, b9, b10, b11, b12, b13, b14, b15, b21, b22, b23, b24, b25, b26, b27, b28, b29, b30, b31, false] 24 (by simp)
  have g1 : bI (SG [b5, nx b18 b5, nx b20 b5, b6, b7, b8, b9, b10, b11, b12, b13, b14, b15, b21, b22, b23, b24, b25, b26, b27, b28, b29, b30, b31, false]) 23 = nx b18 b5 := bI_SG b5 [nx b18 b5, nx b20 b5, b6, b7, b8, b9, b10, b11, b12, b13, b14, b15, b21, b22, b23, b24, b25, b26, b27, b28, b29, b30, b31, false] 23 (by simp)
  have g2 : bI (SG [b5, nx b18 b5, nx b20 b5, b6, b7, b8, b9, b10, b11, b12, b13, b14, b15, b21, b22, b23, b24, b25, b26, b27, b28, b29, b30, b31, false]) 22 = nx b20 b5 := bI_SG b5 [nx b18 b5, nx b20 b5, b6, b7, b8, b9, b10, b11, b12, b13, b14, b15, b21, b22, b23, b24, b25, b26, b27, b28, b29, b30, b31, false] 22 (by simp)
  have g3 : bI (SG [b5, nx b18 b5, nx b20 b5, b6, b7, b8, b9, b10, b11, b12, b13, b14, b15, b21, b22, b23, b24, b25, b26, b27, b28, b29, b30, b31, false]) 21 = b6 := bI_SG b5 [nx b18 b5, nx b20 b5, b6, b7, b8, b9, b10, b11, b12, b13, b14, b15, b21, b22, b23, b24, b25, b26, b27, b28, b29, b30, b31, false] 21 (by simp)
  have g4 : bI (SG [b5, nx b18 b5, nx b20 b5, b6, b7, b8, b9, b10, b11, b12, b13, b14, b15, b21, b22, b23, b24, b25, b26, b27, b28, b29, b30, b31, false]) 20 = b7 := bI_SG b5 [nx b18 b5, nx b20 b5, b6, b7, b8, b9, b10, b11, b12, b13, b14, b15, b21, b22, b23, b24, b25, b26, b27, b28, b29, b30, b31, false] 20 (by simp)
  have g5 : bI (SG [b5, nx b18 b5, nx b20 b5, b6, b7, b8, b9, b10, b11, b12, b13, b14, b15, b21, b22, b23, b24, b25, b26, b27, b28, b29, b30, b31, false]) 19 = b8 := bI_SG b5 [nx b18 b5, nx b20 b5, b6, b7, b8, b9, b10, b11, b12, b13, b14, b15, b21, b22, b23, b24, b25, b26, b27, b28, b29, b30, b31, false] 19 (by simp)
  have g6 : bI (SG [b5, nx b18 b5, nx b20 b5, b6, b7, b8, b9, b10, b11, b12, b13, b14, b15, b21, b22, b23, b24, b25, b26, b27, b28, b29, b30, b31, false]) 18 = b9 := bI_SG b5 [nx b18 b5, nx b20 b5, b6, b7, b8, b9, b10, b11, b12, b13, b14, b15, b21, b22, b23, b24, b25, b26, b27, b28, b29, b30, b31, false] 18 (by simp)
  have g7 : bI (SG [b5, nx b18 b5, nx b20 b5, b6, b7, b8, b9, b10, b11, b12, b13, b14, b15, b21, b22, b23, b24, b25, b26, b27, b28, b29, b30, b31, false]) 17 = b10 := bI_SG b5 [nx b18 b5, nx b20 b5, b6, b7, b8, b9, b10, b11, b12, b13, b14, b15, b21, b22, b23, b24, b25, b26, b27, b28, b29, b30, b31, false] 17 (by simp)
  have g8 : bI (SG [b5, nx b18 b5, nx b20 b5, b6, b7, b8, b9, b10, b11, b12, b13, b14, b15, b21, b22, b23, b24, b25, b26, b27, b28, b29, b30, b31, false]) 16 = b11 := bI_SG b5 [nx b18 b5, nx b20 b5, b6, b7, b8, b9, b10, b11, b12, b13, b14, b15, b21, b22, b23, b24, b25, b26, b27, b28, b29, b30, b31, false] 16 (by simp)
  have g9 : bI (SG [b5, nx b18 b5, nx b20 b5, b6, b7, b8, b9, b10, b11, b12, b13, b14, b15, b21, b22, b23, b24, b25, b26, b27, b28, b29, b30, b31, false]) 15 = b12 := bI_SG b5 [nx b18 b5, nx b20 b5, b6, b7, b8, b9, b10, b11, b12, b13, b14, b15, b21, b22, b23, b24, b25, b26, b27, b28, b29, b30, b31, false] 15 (by simp)
  have g10 : bI (SG [b5, nx b18 b5, nx b20 b5, b6, b7, b8, b9, b10, b11, b12, b13, b14, b15, b21, b22, b23, b24, b25, b26, b27, b28, b29, b30, b31, false]) 14 = b13 := bI_SG b5 [nx b18 b5, nx b20 b5, b6, b7, b8, b9, b10, b11, b12, b13, b14, b15, b21, b22, b23, b24, b25, b26, b27, b28, b29, b30, b31, false] 14 (by simp)
  have g11 : bI (SG [b5, nx b18 b5, nx b20 b5, b6, b7, b8, b9, b10, b11, b12, b13, b14, b15, b21, b22, b23, b24, b25, b26, b27, b28, b29, b30, b31, false]) 13 = b14 := bI_SG b5 [nx b18 b5, nx b20 b5, b6, b7, b8, b9, b10, b11, b12, b13, b14, b15, b21, b22, b23, b24, b25, b26, b27, b28, b29, b30, b31, false] 13 (by simp)
  have g12 : bI (SG [b5, nx b18 b5, nx b20 b5, b6, b7, b8, b9, b10, b11, b12, b13, b14, b15, b21, b22, b23, b24, b25, b26, b27, b28, b29, b30, b31, false]) 12 = b15 := bI_SG b5 [nx b18 b5, nx b20 b5, b6, b7, b8, b9, b10, b11, b12, b13, b14, b15, b21, b22, b23, b24, b25, b26, b27, b28, b29, b30, b31, false] 12 (by simp)
  have g13 : bI (SG [b5, nx b18 b5, nx b20 b5, b6, b7, b8, b9, b10, b11, b12, b13, b14, b15, b21, b22, b23, b24, b25, b26, b27, b28, b29, b30, b31, false]) 11 = b21 := bI_SG b5 [nx b18 b5, nx b20 b5, b6, b7, b8, b9, b10, b11, b12, b13, b14, b15, b21, b22, b23, b24, b25, b26, b27, b28, b29, b30, b31, false] 11 (by simp)
  have g14 : bI (SG [b5, nx b18 b5, nx b20 b5, b6, b7, b8, b9, b10, b11, b12, b13, b14, b15, b21, b22, b23, b24, b25, b26, b27, b28, b29, b30, b31, false]) 10 = b22 := bI_SG b5 [nx b18 b5, nx b20 b5, b6, b7, b8, b9, b10, b11, b12, b13, b14, b15, b21, b22, b23, b24, b25, b26, b27, b28, b29, b30, b31, false] 10 (by simp)
  have g15 : bI (SG [b5, nx b18 b5, nx b20 b5, b6, b7, b8, b9, b10, b11, b12, b13, b14, b15, b21, b22, b23, b24, b25, b26, b27, b28, b29, b30, b31, false]) 9 = b23 := bI_SG b5 [nx b18 b5, nx b20 b5, b6, b7, b8, b9, b10, b11, b12, b13, b14, b15, b21, b22, b23, b24, b25, b26, b27, b28, b29, b30, b31, false] 9 (by simp)
  have g16 : bI (SG [b5, nx b18 b5, nx b20 b5, b6, b7, b8, b9, b10, b11, b12, b13, b14, b15, b21, b22, b23, b24, b25, b26, b27, b28, b29, b30, b31, false]) 8 = b24 := bI_SG b5 [nx b18 b5, nx b20 b5, b6, b7, b8, b9, b10, b11, b12, b13, b14, b15, b21, b22, b23, b24, b25, b26, b27, b28, b29, b30, b31, false] 8 (by simp)
  have g17 : bI (SG [b5, nx b18 b5, nx b20 b5, b6, b7, b8, b9, b10, b11, b12, b13, b14, b15, b21, b22, b23, b24, b25, b26, b27, b28, b29, b30, b31, false]) 7 = b25 := bI_SG b5 [nx b18 b5, nx b20 b5, b6, b7, b8, b9, b10, b11, b12, b13, b14, b15, b21, b22, b23, b24, b25, b26, b27, b28, b29, b30, b31, false] 7 (by simp)
  have g18 : bI (SG [b5, nx b18 b5, nx b20 b5, b6, b7, b8, b9, b10, b11, b12, b13, b14, b15, b21, b22, b23, b24, b25, b26, b27, b28, b29, b30, b31, false]) 6 = b26 := bI_SG b5 [nx b18 b5, nx b20 b5, b6, b7, b8, b9, b10, b11, b12, b13, b14, b15, b21, b22, b23, b24, b25, b26, b27, b28, b29, b30, b31, false] 6 (by simp)
  have g19 : bI (SG [b5, nx b18 b5, nx b20 b5, b6, b7, b8, b9, b10, b11, b12, b13, b14, b15, b21, b22, b23, b24, b25, b26, b27, b28, b29, b30, b31, false]) 5 = b27 := bI_SG b5 [nx b18 b5, nx b20 b5, b6, b7, b8, b9, b10, b11, b12, b13, b14, b15, b21, b22, b23, b24, b25, b26, b27, b28, b29, b30, b31, false] 5 (by simp)
  have g20 : bI (SG [b5, nx b18 b5, nx b20 b5, b6, b7, b8, b9, b10, b11, b12, b13, b14, b15, b21, b22, b23, b24, b25, b26, b27, b28, b29, b30, b31, false]) 4 = b28 := bI_SG b5 [nx b18 b5, nx b20 b5, b6, b7, b8, b9, b10, b11, b12, b13, b14, b15, b21, b22, b23, b24, b25, b26, b27, b28, b29, b30, b31, false] 4 (by simp)
  have g21 : bI (SG [b5, nx b18 b5, nx b20 b5, b6, b7, b8, b9, b10, b11, b12, b13, b14, b15, b21, b22, b23, b24, b25, b26, b27, b28, b29, b30, b31, false]) 3 = b29 := bI_SG b5 [nx b18 b5, nx b20 b5, b6, b7, b8, b9, b10, b11, b12, b13, b14, b15, b21, b22, b23, b24, b25, b26, b27, b28, b29, b30, b31, false] 3 (by simp)
  have g22 : bI (SG [b5, nx b18 b5, nx b20 b5, b6, b7, b8, b9, b10, b11, b12, b13, b14, b15, b21, b22, b23, b24, b25, b26, b27, b28, b29, b30, b31, false]) 2 = b30 := bI_SG b5 [nx b18 b5, nx b20 b5, b6, b7, b8, b9, b10, b11, b12, b13, b14, b15, b21, b22, b23, b24, b25, b26, b27, b28, b29, b30, b31, false] 2 (by simp)
  have g23 : bI (SG [b5, nx b18 b5, nx b20 b5, b6, b7, b8, b9, b10, b11, b12, b13, b14, b15, b21, b22, b23, b24, b25, b26, b27, b28, b29, b30, b31, false]) 1 = b31 := bI_SG b5 [nx b18 b5, nx b20 b5, b6, b7, b8, b9, b10, b11, b12, b13, b14, b15, b21, b22, b23, b24, b25, b26, b27, b28, b29, b30, b31, false] 1 (by simp)
  refine ⟨okB_24w _ hev hlt.1 (by omega)
    , by kernel_rfl, by
      have e : ∀ rd rn rm ra imm cond : Int, hl (ltr rd rn rm ra imm cond) ((V_hauberkref02_Bits (24, true)).take 16) = [true, true, true, true, false, bI imm 24, bI imm 21, bI imm 20, bI imm 19, bI imm 18, bI imm 17, bI imm 16, bI imm 15, bI imm 14, bI imm 13, bI imm 12] := by intro rd rn rm ra imm cond; kernel_rfl
      rw [e]
      simp only [g0, g3, g4, g5, g6, g7, g8, g9, g10, g11, g12]
    , by
      have e : ∀ rd rn rm ra imm cond : Int, hl (ltr rd rn rm ra imm cond) ((V_hauberkref02_Bits (24, true)).drop 16) = [true, false, !(bI imm 23 ^^ bI imm 24), true, !(bI imm 22 ^^ bI imm 24), bI imm 11, bI imm 10, bI imm 9, bI imm 8, bI imm 7, bI imm 6, bI imm 5, bI imm 4, bI imm 3, bI imm 2, bI imm 1] := by intro rd rn rm ra imm cond; kernel_rfl
      rw [e]
      simp only [g1, g0, nx_nx, g2, g13, g14, g15, g16, g17, g18, g19, g20, g21, g22, g23]
    ⟩
theorem rr_25 (b4 b5 b6 b7 b8 b9 b10 b11 b12 b13 b14 b15 : Bool) : iRow 25 false [true, true, false, true, b4, b5, b6, b7, b8, b9, b10, b11, b12, b13, b14, b15] = (25, 0, 0, 0, 0, SG [b8, b9, b10, b11, b12, b13, b14, b15, false], H [b4, b5, b6, b7], false, ()) := by
  have e : iRow 25 false [true, true, false, true, b4, b5, b6, b7, b8, b9, b10, b11, b12, b13, b14, b15] = (25, 0, 0, 0, 0, V_hauberkref03_sign (((immN [(8, b8), (7, b9), (6, b10), (5, b11), (4, b12), (3, b13), (2, b14), (1, b15)] : Nat) : Int), 8), H [b4, b5, b6, b7], false, ()) := by kernel_rfl
  have e2 : immN [(8, b8), (7, b9), (6, b10), (5, b11), (4, b12), (3, b13), (2, b14), (1, b15)] = hb [b8, b9, b10, b11, b12, b13, b14, b15, false] 0 := by
    simp only [immN, hb, Bool.toNat_false, Nat.reducePow, Nat.mul_zero, Nat.zero_add, Nat.add_zero]
    omega
  rw [e, e2]
  have e3 : V_hauberkref03_sign (((hb [b8, b9, b10, b11, b12, b13, b14, b15, false] 0 : Nat) : Int), 8) = SG [b8, b9, b10, b11, b12, b13, b14, b15, false] := sign_SG b8 [b9, b10, b11, b12, b13, b14, b15, false]
  rw [e3]
theorem fw_25 (b4 b5 b6 b7 b8 b9 b10 b11 b12 b13 b14 b15 : Bool) (h0 : H [b4, b5, b6, b7] ≤ 13) : okB 25 (0) (0) (0) (0) (SG [b8, b9, b10, b11, b12, b13, b14, b15, false]) (H [b4, b5, b6, b7]) false = true ∧ (V_hauberkref02_Bits (25, false)).length = 16 ∧ hl (ltr (0) (0) (0) (0) (SG [b8, b9, b10, b11, b12, b13, b14, b15, false]) (H [b4, b5, b6, b7])) (V_hauberkref02_Bits (25, false)) = [true, true, false, true, b4, b5, b6, b7, b8, b9, b10, b11, b12, b13, b14, b15] := by
  have := H_nonneg [b4, b5, b6, b7]
  have : H [b4, b5, b6, b7] < 16 := H_lt (l := [b4, b5, b6, b7]) (k := 4) (by simp)
  have := SG_even b8 [b9, b10, b11, b12, b13, b14, b15]
  have hev : SG [b8, b9, b10, b11, b12, b13, b14, b15, false] % 2 = 0 := this
  have hlt : -256 ≤ SG [b8, b9, b10, b11, b12, b13, b14, b15, false] ∧ SG [b8, b9, b10, b11, b12, b13, b14, b15, false] < 256 := SG_in b8 [b9, b10, b11, b12, b13, b14, b15, false] 8 (by simp)
  have g0 : bI (H [b4, b5, b6, b7]) 3 = b4 := bI_H [b4, b5, b6, b7] 3 (by simp)
  have g1 : bI (H [b4, b5, b6, b7]) 2 = b5 := bI_H [b4, b5, b6, b7] 2 (by simp)
  have g2 : bI (H [b4, b5, b6, b7]) 1 = b6 := bI_H [b4, b5, b6, b7] 1 (by simp)
  have g3 : bI (H [b4, b5, b6, b7]) 0 = b7 := bI_H [b4, b5, b6, b7] 0 (by simp)
  have g4 : bI (SG [b8, b9, b10, b11, b12, b13, b14, b15, false]) 8 = b8 := bI_SG b8 [b9, b10, b11, b12, b13, b14, b15, false] 8 (by simp)
  have g5 : bI (SG [b8, b9, b10, b11, b12, b13, b14, b15, false]) 7 = b9 := bI_SG b8 [b9, b10, b11, b12, b13, b14, b15, false] 7 (by simp)
  have g6 : bI (SG [b8, b9, b10, b11, b12, b13, b14, b15, false]) 6 = b10 := bI_SG b8 [b9, b10, b11, b12, b13, b14, b15, false] 6 (by simp)
  have g7 : bI (SG [b8, b9, b10, b11, b12, b13, b14, b15, false]) 5 = b11 := bI_SG b8 [b9, b10, b11, b12, b13, b14, b15, false] 5 (by simp)
  have g8 : bI (SG [b8, b9, b10, b11, b12, b13, b14, b15, false]) 4 = b12 := bI_SG b8 [b9, b10, b11, b12, b13, b14, b15, false] 4 (by simp)
  have g9 : bI (SG [b8, b9, b10, b11, b12, b13, b14, b15, false]) 3 = b13 := bI_SG b8 [b9, b10, b11, b12, b13, b14, b15, false] 3 (by simp)
  have g10 : bI (SG [b8, b9, b10, b11, b12, b13, b14, b15, false]) 2 = b14 := bI_SG b8 [b9, b10, b11, b12, b13, b14, b15, false] 2 (by simp)
  have g11 : bI (SG [b8, b9, b10, b11, b12, b13, b14, b15, false]) 1 = b15 := bI_SG b8 [b9, b10, b11, b12, b13, b14, b15, false] 1 (by simp)
  refine ⟨by
      simp [okB]
      try omega
    , by kernel_rfl, by
      have e : ∀ rd rn rm ra imm cond : Int, hl (ltr rd rn rm ra imm cond) (V_hauberkref02_Bits (25, false)) = [true, true, false, true, bI cond 3, bI cond 2, bI cond 1, bI cond 0, bI imm 8, bI imm 7, bI imm 6, bI imm 5, bI imm 4, bI imm 3, bI imm 2, bI imm 1] := by intro rd rn rm ra imm cond; kernel_rfl
      rw [e]
      simp only [g0, g1, g2, g3, g4, g5, g6, g7, g8, g9, g10, g11]
    ⟩
set_option maxHeartbeats 2000000 in
theorem rr_25w (b5 b6 b7 b8 b9 b10 b11 b12 b13 b14 b15 b18 b20 b21 b22 b23 b24 b25 b26 b27 b28 b29 b30 b31 : Bool) : iRow 25 true [true, true, true, true, false, b5, b6, b7, b8, b9, b10, b11, b12, b13, b14, b15, true, false, b18, false, b20, b21, b22, b23, b24, b25, b26, b27, b28, b29, b30, b31] = (25, 0, 0, 0, 0, SG [b5, b20, b18, b10, b11, b12, b13, b14, b15, b21, b22, b23, b24, b25, b26, b27, b28, b29, b30, b31, false], H [b6, b7, b8, b9], true, ()) := by
  have e : iRow 25 true [true, true, true, true, false, b5, b6, b7, b8, b9, b10, b11, b12, b13, b14, b15, true, false, b18, false, b20, b21, b22, b23, b24, b25, b26, b27, b28, b29, b30, b31] = (25, 0, 0, 0, 0, V_hauberkref03_sign (((immN [(20, b5), (17, b10), (16, b11), (15, b12), (14, b13), (13, b14), (12, b15), (18, b18), (19, b20), (11, b21), (10, b22), (9, b23), (8, b24), (7, b25), (6, b26), (5, b27), (4, b28), (3, b29), (2, b30), (1, b31)] : Nat) : Int), 20), H [b6, b7, b8, b9], true, ()) := by kernel_rfl
  have e2 : immN [(20, b5), (17, b10), (16, b11), (15, b12), (14, b13), (13, b14), (12, b15), (18, b18), (19, b20), (11, b21), (10, b22), (9, b23), (8, b24), (7, b25), (6, b26), (5, b27), (4, b28), (3, b29), (2, b30), (1, b31)] = hb [b5, b20, b18, b10, b11, b12, b13, b14, b15, b21, b22, b23, b24, b25, b26, b27, b28, b29, b30, b31, false] 0 := by
    simp only [immN, hb, Bool.toNat_false, Nat.reducePow, Nat.mul_zero, Nat.zero_add, Nat.add_zero]
    omega
  rw [e, e2]
  have e3 : V_hauberkref03_sign (((hb [b5, b20, b18, b10, b11, b12, b13, b14, b15, b21, b22, b23, b24, b25, b26, b27, b28, b29, b30, b31, false] 0 : Nat) : Int), 20) = SG [b5, b20, b18, b10, b11, b12, b13, b14, b15, b21, b22, b23, b24, b25, b26, b27, b28, b29, b30, b31, false] := sign_SG b5 [b20, b18, b10, b11, b12, b13, b14, b15, b21, b22, b23, b24, b25, b26, b27, b28, b29, b30, b31, false]
  rw [e3]
theorem fw_25w (b5 b6 b7 b8 b9 b10 b11 b12 b13 b14 b15 b18 b20 b21 b22 b23 b24 b25 b26 b27 b28 b29 b30 b31 : Bool) (h0 : H [b6, b7, b8, b9] ≤ 13) : okB 25 (0) (0) (0) (0) (SG [b5, b20, b18, b10, b11, b12, b13, b14, b15, b21, b22, b23, b24, b25, b26, b27, b28, b29, b30, b31, false]) (H [b6, b7, b8, b9]) true = true ∧ (V_hauberkref02_Bits (25, true)).length = 32 ∧ hl (ltr (0) (0) (0) (0) (SG [b5, b20, b18, b10, b11, b12, b13, b14, b15, b21, b22, b23, b24, b25, b26, b27, b28, b29, b30, b31, false]) (H [b6, b7, b8, b9])) ((V_hauberkref02_Bits (25, true)).take 16) = [true, true, true, true, false, b5, b6, b7, b8, b9, b10, b11, b12, b13, b14, b15] ∧ hl (ltr (0) (0) (0) (0) (SG [b5, b20, b18, b10, b11, b12, b13, b14, b15, b21, b22, b23, b24, b25, b26, b27, b28, b29, b30, b31, false]) (H [b6, b7, b8, b9])) ((V_hauberkref02_Bits (25, true)).drop 16) = [true, false, b18, false, b20, b21, b22, b23, b24, b25, b26, b27, b28, b29, b30, b31] := by
  have := H_nonneg [b6, b7, b8, b9]
  have : H [b6, b7, b8, b9] < 16 := H_lt (l := [b6, b7, b8, b9]) (k := 4) (by simp)
  have := SG_even b5 [b20, b18, b10, b11, b12, b13, b14, b15, b21, b22, b23, b24, b25, b26, b27, b28, b29, b30, b31]
  have hev : SG [b5, b20, b18, b10, b11, b12, b13, b14, b15, b21, b22, b23, b24, b25, b26, b27, b28, b29, b30, b31, false] % 2 = 0 := this
  have hlt : -1048576 ≤ SG [b5, b20, b18, b10, b11, b12, b13, b14, b15, b21, b22, b23, b24, b25, b26, b27, b28, b29, b30, b31, false] ∧ SG [b5, b20, b18, b10, b11, b12, b13, b14, b15, b21, b22, b23, b24, b25, b26, b27, b28, b29, b30, b31, false] < 1048576 := SG_in b5 [b20, b18, b10, b11, b12, b13, b14, b15, b21, b22, b23, b24, b25, b26, b27, b28, b29, b30, b31, false] 20 (by simp)
  have g0 : bI (H [b6, b7, b8, b9]) 3 = b6 := bI_H [b6, b7, b8, b9] 3 (by simp)
  have g1 : bI (H [b6, b7, b8, b9]) 2 = b7 := bI_H [b6, b7, b8, b9] 2 (by simp)
  have g2 : bI (H [b6, b7, b8, b9]) 1 = b8 := bI_H [b6, b7, b8, b9] 1 (by simp)
  have g3 : bI (H [b6, b7, b8, b9]) 0 = b9 := bI_H [b6, b7, b8, b9] 0 (by simp)
  have g4 : bI (SG [b5, b20, b18, b10, b11, b12, b13, b14, b15, b21, b22, b23, b24, b25, b26, b27, b28, b29, b30, b31, false]) 20 = b5 := bI_SG b5 [b20, b18, b10, b11, b12, b13, b14, b15, b21, b22, b23, b24, b25, b26, b27, b28, b29, b30, b31, false] 20 (by simp)
  have g5 : bI (SG [b5, b20, b18, b10, b11, b12, b13, b14, b15, b21, b22, b23, b24, b25, b26, b27, b28, b29, b30, b31, false]) 19 = b20 := bI_SG b5 [b20, b18, b10, b11, b12, b13, b14, b15, b21, b22, b23, b24, b25, b26, b27, b28, b29, b30, b31, false] 19 (by simp)
  have g6 : bI (SG [b5, b20, b18, b10, b11, b12, b13, b14, b15, b21, b22, b23, b24, b25, b26, b27, b28, b29, b30, b31, false]) 18 = b18 := bI_SG b5 [b20, b18, b10, b11, b12, b13, b14, b15, b21, b22, b23, b24, b25, b26, b27, b28, b29, b30, b31, false] 18 (by simp)
  have g7 : bI (SG [b5, b20, b18, b10, b11, b12, b13, b14, b15, b21, b22, b23, b24, b25, b26, b27, b28, b29, b30, b31, false]) 17 = b10 := bI_SG b5 [b20, b18, b10, b11, b12, b13, b14, b15, b21, b22, b23, b24, b25, b26, b27, b28, b29, b30, b31, false] 17 (by simp)
  have g8 : bI (SG [b5, b20, b18, b10, b11, b12, b13, b14, b15, b21, b22, b23, b24, b25, b26, b27, b28, b29, b30, b31, false]) 16 = b11 := bI_SG b5 [b20, b18, b10, b11, b12, b13, b14, b15, b21, b22, b23, b24, b25, b26, b27, b28, b29, b30, b31, false] 16 (by simp)
  have g9 : bI (SG [b5, b20, b18, b10, b11, b12, b13, b14, b15, b21, b22, b23, b24, b25, b26, b27, b28, b29, b30, b31, false]) 15 = b12 := bI_SG b5 [b20, b18, b10, b11, b12, b13, b14, b15, b21, b22, b23, b24, b25, b26, b27, b28, b29, b30, b31, false] 15 (by simp)
  have g10 : bI (SG [b5, b20, b18, b10, b11, b12, b13, b14, b15, b21, b22, b23, b24, b25, b26, b27, b28, b29, b30, b31, false]) 14 = b13 := bI_SG b5 [b20, b18, b10, b11, b12, b13, b14, b15, b21, b22, b23, b24, b25, b26, b27, b28, b29, b30, b31, false] 14 (by simp)
  have g11 : bI (SG [b5, b20, b18, b10, b11, b12, b13, b14, b15, b21, b22, b23, b24, b25, b26, b27, b28, b29, b30, b31, false]) 13 = b14 := bI_SG b5 [b20, b18, b10, b11, b12, b13, b14, b15, b21, b22, b23, b24, b25, b26, b27, b28, b29, b30, b31, false] 13 (by simp)
  have g12 : bI (SG [b5, b20, b18, b10, b11, b12, b13, b14, b15, b21, b22, b23, b24, b25, b26, b27, b28, b29, b30, b31, false]) 12 = b15 := bI_SG b5 [b20, b18, b10, b11, b12, b13, b14, b15, b21, b22, b23, b24, b25, b26, b27, b28, b29, b30, b31, false] 12 (by simp)
  have g13 : bI (SG [b5, b20, b18, b10, b11, b12, b13, b14, b15, b21, b22, b23, b24, b25, b26, b27, b28, b29, b30, b31, false]) 11 = b21 := bI_SG b5 [b20, b18, b10, b11, b12, b13, b14, b15, b21, b22, b23, b24, b25, b26, b27, b28, b29, b30, b31, false] 11 (by simp)
  have g14 : bI (SG [b5, b20, b18, b10, b11, b12, b13, b14, b15, b21, b22, b23, b24, b25, b26, b27, b28, b29, b30, b31, false]) 10 = b22 := bI_SG b5 [b20, b18, b10, b11, b12, b13, b14, b15, b21, b22, b23, b24, b25, b26, b27, b28, b29, b30, b31, false] 10 (by simp)
  have g15 : bI (SG [b5, b20, b18, b10, b11, b12, b13, b14, b15, b21, b22, b23, b24, b25, b26, b27, b28, b29, b30, b31, false]) 9 = b23 := bI_SG b5 [b20, b18, b10, b11, b12, b13, b14, b15, b21, b22, b23, b24, b25, b26, b27, b28, b29, b30, b31, false] 9 (by simp)
  have g16 : bI (SG [b5, b20, b18, b10, b11, b12, b13, b14, b15, b21, b22, b23, b24, b25, b26, b27, b28, b29, b30, b31, false]) 8 = b24 := bI_SG b5 [b20, b18, b10, b11, b12, b13, b14, b15, b21, b22, b23, b24, b25, b26, b27, b28, b29, b30, b31, false] 8 (by simp)
  have g17 : bI (SG [b5, b20, b18, b10, b11, b12, b13, b14, b15, b21, b22, b23, b24, b25, b26, b27, b28, b29, b30, b31, false]) 7 = b25 := bI_SG b5 [b20, b18, b10, b11, b12, b13, b14, b15, b21, b22, b23, b24, b25, b26, b27, b28, b29, b30, b31, false] 7 (by simp)
  have g18 : bI (SG [b5, b20, b18, b10, b11, b12, b13, b14, b15, b21, b22, b23, b24, b25, b26, b27, b28, b29, b30, b31, false]) 6 = b26 := bI_SG b5 [b20, b18, b10, b11, b12, b13, b14, b15, b21, b22, b23, b24, b25, b26, b27, b28, b29, b30, b31, false] 6 (by simp)
  have g19 : bI (SG [b5, b20, b18, b10, b11, b12, b13, b14, b15, b21, b22, b23, b24, b25, b26, b27, b28, b29, b30, b31, false]) 5 = b27 := bI_SG b5 [b20, b18, b10, b11, b12, b13, b14, b15, b21, b22, b23, b24, b25, b26, b27, b28, b29, b30, b31, false] 5 (by simp)
  have g20 : bI (SG [b5, b20, b18, b10, b11, b12, b13, b14, b15, b21, b22, b23, b24, b25, b26, b27, b28, b29, b30, b31, false]) 4 = b28 := bI_SG b5 [b20, b18, b10, b11, b12, b13, b14, b15, b21, b22, b23, b24, b25, b26, b27, b28, b29, b30, b31, false] 4 (by simp)
  have g21 : bI (SG [b5, b20, b18, b10, b11, b12, b13, b14, b15, b21, b22, b23, b24, b25, b26, b27, b28, b29, b30, b31, false]) 3 = b29 := bI_SG b5 [b20, b18, b10, b11, b12, b13, b14, b15, b21, b22, b23, b24, b25, b26, b27, b28, b29, b30, b31, false] 3 (by simp)
  have g22 : bI (SG [b5, b20, b18, b10, b11, b12, b13, b14, b15, b21, b22, b23, b24, b25, b26, b27, b28, b29, b30, b31, false]) 2 = b30 := bI_SG b5 [b20, b18, b10, b11, b12, b13, b14, b15, b21, b22, b23, b24, b25, b26, b27, b28, b29, b30, b31, false] 2 (by simp)
  have g23 : bI (SG [b5, b20, b18, b10, b11, b12, b13, b14, b15, b21, b22, b23, b24, b25, b26, b27, b28, b29, b30, b31, false]) 1 = b31 := bI_SG b5 [b20, b18, b10, b11, b12, b13, b14, b15, b21, b22, b23, b24, b25, b26, b27, b28, b29, b30, b31, false] 1 (by simp)
  refine ⟨by
      simp [okB]
      try omega
    , by kernel_rfl, by
      have e : ∀ rd rn rm ra imm cond : Int, hl (ltr rd rn rm ra imm cond) ((V_hauberkref02_Bits (25, true)).take 16) = [true, true, true, true, false, bI imm 20, bI cond 3, bI cond 2, bI cond 1, bI cond 0, bI imm 17, bI imm 16, bI imm 15, bI imm 14, bI imm 13, bI imm 12] := by intro rd rn rm ra imm cond; kernel_rfl
      rw [e]
      simp only [g4, g0, g1, g2, g3, g7, g8, g9, g10, g11, g12]
    , by
      have e : ∀ rd rn rm ra imm cond : Int, hl (ltr rd rn rm ra imm cond) ((V_hauberkref02_Bits (25, true)).drop 16) = [true, false, bI imm 18, false, bI imm 19, bI imm 11, bI imm 10, bI imm 9, bI imm 8, bI imm 7, bI imm 6, bI imm 5, bI imm 4, bI imm 3, bI imm 2, bI imm 1] := by intro rd rn rm ra imm cond; kernel_rfl
      rw [e]
      simp only [g6, g5, g13, g14, g15, g16, g17, g18, g19, g20, g21, g22, g23]
    ⟩
end Go.Av
end
/-! Layer 3: what is decoded out of bits has just these bits. Written by wip/tools/decfw2.py. -/
section
namespace Go.Av
open Go
/-- An instruction that there is, with these bits. -/
def Enc1 (i : tIns.den) (l : List Bool) : Prop := ∃ (op rd rn rm ra imm cond : Int) (w : Bool), i = (op, rd, rn, rm, ra, imm, cond, w, ()) ∧ iRow op w l = i ∧ okB op rd rn rm ra imm cond w = true ∧ (V_hauberkref02_Bits (op, w)).length = 16 ∧ hl (ltr rd rn rm ra imm cond) (V_hauberkref02_Bits (op, w)) = l
def Enc2 (i : tIns.den) (lx ly : List Bool) : Prop := ∃ (op rd rn rm ra imm cond : Int) (w : Bool), i = (op, rd, rn, rm, ra, imm, cond, w, ()) ∧ iRow op w (lx ++ ly) = i ∧ okB op rd rn rm ra imm cond w = true ∧ (V_hauberkref02_Bits (op, w)).length = 32 ∧ hl (ltr rd rn rm ra imm cond) ((V_hauberkref02_Bits (op, w)).take 16) = lx ∧ hl (ltr rd rn rm ra imm cond) ((V_hauberkref02_Bits (op, w)).drop 16) = ly
theorem cond_some' {α : Type} {c : Bool} {a b o : α} (h : (bif c then a else b) = o) : (c = true ∧ a = o) ∨ (c = false ∧ b = o) := by
  cases c
  · exact .inr ⟨rfl, h⟩
  · exact .inl ⟨rfl, h⟩
theorem narrow_fw (x0 x1 x2 x3 x4 x5 x6 x7 x8 x9 x10 x11 x12 x13 x14 x15 : Bool) (i : tIns.den) (h : dNarrow [x0, x1, x2, x3, x4, x5, x6, x7, x8, x9, x10, x11, x12, x13, x14, x15] = some i) : Enc1 i [x0, x1, x2, x3, x4, x5, x6, x7, x8, x9, x10, x11, x12, x13, x14, x15] := by
  unfold dNarrow at h
  rcases cond_some' h with ⟨c, g⟩ | ⟨_, g⟩ <;> clear h <;> have h := g <;> clear g
  · simp [eqC, bitsN, sl] at c
    obtain ⟨rfl, rfl, rfl, rfl, rfl, rfl, rfl, rfl, rfl, rfl, rfl, rfl, rfl, rfl, rfl, rfl⟩ := c
    cases h
    exact ⟨1, _, _, _, _, _, _, false, rfl, rr_1 , fw_1 ⟩
  rcases cond_some' h with ⟨c, g⟩ | ⟨_, g⟩ <;> clear h <;> have h := g <;> clear g
  · simp [eqC, bitsN, sl] at c
    obtain ⟨rfl, rfl, rfl, rfl, rfl, rfl, rfl, rfl⟩ := c
    cases h
    exact ⟨2, _, _, _, _, _, _, false, rfl, rr_2 x8 x9 x10 x11 x12 x13 x14 x15, fw_2 x8 x9 x10 x11 x12 x13 x14 x15⟩
  rcases cond_some' h with ⟨c, g⟩ | ⟨_, g⟩ <;> clear h <;> have h := g <;> clear g
  · simp [eqC, bitsN, sl] at c
    obtain ⟨rfl, rfl, rfl, rfl, rfl, rfl, rfl, rfl, rfl, rfl⟩ := c
    cases h
    exact ⟨19, _, _, _, _, _, _, false, rfl, rr_19 x10 x11 x12 x13 x14 x15, fw_19 x10 x11 x12 x13 x14 x15⟩
  rcases cond_some' h with ⟨c, g⟩ | ⟨_, g⟩ <;> clear h <;> have h := g <;> clear g
  · simp [eqC, bitsN, sl] at c
    obtain ⟨rfl, rfl, rfl, rfl, rfl, rfl, rfl, rfl, rfl, rfl⟩ := c
    cases h
    exact ⟨20, _, _, _, _, _, _, false, rfl, rr_20 x10 x11 x12 x13 x14 x15, fw_20 x10 x11 x12 x13 x14 x15⟩
  rcases cond_some' h with ⟨c, g⟩ | ⟨_, g⟩ <;> clear h <;> have h := g <;> clear g
  · simp [eqC, bitsN, sl] at c
    obtain ⟨rfl, rfl, rfl, rfl, rfl, rfl, rfl, rfl, rfl, rfl⟩ := c
    cases h
    exact ⟨21, _, _, _, _, _, _, false, rfl, rr_21 x10 x11 x12 x13 x14 x15, fw_21 x10 x11 x12 x13 x14 x15⟩
  rcases cond_some' h with ⟨c, g⟩ | ⟨_, g⟩ <;> clear h <;> have h := g <;> clear g
  · simp [eqC, bitsN, sl] at c
    obtain ⟨rfl, rfl, rfl, rfl, rfl, rfl, rfl, rfl, rfl, rfl⟩ := c
    cases h
    exact ⟨22, _, _, _, _, _, _, false, rfl, rr_22 x10 x11 x12 x13 x14 x15, fw_22 x10 x11 x12 x13 x14 x15⟩
  rcases cond_some' h with ⟨c, g⟩ | ⟨_, g⟩ <;> clear h <;> have h := g <;> clear g
  · simp [eqC, bitsN, sl] at c
    obtain ⟨rfl, rfl, rfl, rfl, rfl, rfl, rfl, rfl, rfl, rfl⟩ := c
    cases h
    exact ⟨23, _, _, _, _, _, _, false, rfl, rr_23 x10 x11 x12 x13 x14 x15, fw_23 x10 x11 x12 x13 x14 x15⟩
  rcases cond_some' h with ⟨c, g⟩ | ⟨_, g⟩ <;> clear h <;> have h := g <;> clear g
  · simp [eqC, bitsN, sl] at c
    obtain ⟨rfl, rfl, rfl, rfl, rfl⟩ := c
    cases h
    exact ⟨24, _, _, _, _, _, _, false, rfl, rr_24 x5 x6 x7 x8 x9 x10 x11 x12 x13 x14 x15, fw_24 x5 x6 x7 x8 x9 x10 x11 x12 x13 x14 x15⟩
  rcases cond_some' h with ⟨c, g⟩ | ⟨_, g⟩ <;> clear h <;> have h := g <;> clear g
  · rw [Bool.and_eq_true] at c
    obtain ⟨c, d⟩ := c
    simp [eqC, bitsN, sl] at c
    obtain ⟨rfl, rfl, rfl, rfl⟩ := c
    cases h
    exact ⟨25, _, _, _, _, _, _, false, rfl, rr_25 x4 x5 x6 x7 x8 x9 x10 x11 x12 x13 x14 x15, fw_25 x4 x5 x6 x7 x8 x9 x10 x11 x12 x13 x14 x15 (of_decide_eq_true d)⟩
  · cases h
theorem three_fw (x0 x1 x2 x3 x4 x5 x6 x7 x8 x9 x10 x11 x12 x13 x14 x15 y0 y1 y2 y3 y4 y5 y6 y7 y8 y9 y10 y11 y12 y13 y14 y15 : Bool) (i : tIns.den) (h : dThree [x0, x1, x2, x3, x4, x5, x6, x7, x8, x9, x10, x11, x12, x13, x14, x15] [y0, y1, y2, y3, y4, y5, y6, y7, y8, y9, y10, y11, y12, y13, y14, y15] = some i) : Enc2 i [x0, x1, x2, x3, x4, x5, x6, x7, x8, x9, x10, x11, x12, x13, x14, x15] [y0, y1, y2, y3, y4, y5, y6, y7, y8, y9, y10, y11, y12, y13, y14, y15] := by
  unfold dThree at h
  rcases cond_some' h with ⟨_, g⟩ | ⟨c0, g⟩ <;> clear h <;> have h := g <;> clear g
  · cases h
  simp [eqC, bitsN, sl] at c0
  obtain rfl := c0
  rcases cond_some' h with ⟨c, g⟩ | ⟨_, g⟩ <;> clear h <;> have h := g <;> clear g
  · simp [eqC, bitsN, sl] at c
    obtain ⟨rfl, rfl, rfl, rfl, rfl, rfl, rfl, rfl, rfl, rfl, rfl, rfl, rfl, rfl, rfl, rfl⟩ := c
    rcases cond_some' h with ⟨d, g⟩ | ⟨_, g⟩ <;> clear h <;> have h := g <;> clear g
    · rw [Bool.and_eq_true, Bool.and_eq_true] at d
      rcases cond_some' h with ⟨t, g⟩ | ⟨t, g⟩ <;> clear h <;> have h := g <;> clear g
      · simp [eqC, bitsN, sl] at t
        obtain ⟨rfl, rfl⟩ := t
        cases h
        exact ⟨5, _, _, _, _, _, _, false, rfl, rr_5 y1 y2 y3 y4 y5 y6 y7 y8 y9 y12 y13 y14 y15, fw_5 y1 y2 y3 y4 y5 y6 y7 y8 y9 y12 y13 y14 y15 d.1 d.2.1⟩
      · rcases cond_some' h with ⟨s, g⟩ | ⟨_, g⟩ <;> clear h <;> have h := g <;> clear g
        · have s := of_decide_eq_true s
          cases h
          cases y10 <;> cases y11
          · simp [eqC, bitsN, sl] at t
          · exact ⟨6, _, _, _, _, _, _, false, rfl, rr_6 y1 y2 y3 y4 y5 y6 y7 y8 y9 y12 y13 y14 y15, fw_6 y1 y2 y3 y4 y5 y6 y7 y8 y9 y12 y13 y14 y15 d.1 d.2.1 s⟩
          · exact ⟨7, _, _, _, _, _, _, false, rfl, rr_7 y1 y2 y3 y4 y5 y6 y7 y8 y9 y12 y13 y14 y15, fw_7 y1 y2 y3 y4 y5 y6 y7 y8 y9 y12 y13 y14 y15 d.1 d.2.1 s⟩
          · exact ⟨8, _, _, _, _, _, _, false, rfl, rr_8 y1 y2 y3 y4 y5 y6 y7 y8 y9 y12 y13 y14 y15, fw_8 y1 y2 y3 y4 y5 y6 y7 y8 y9 y12 y13 y14 y15 d.1 d.2.1 s⟩
        · cases h
    · cases h
  rcases cond_some' h with ⟨c, g⟩ | ⟨_, g⟩ <;> clear h <;> have h := g <;> clear g
  · simp [eqC, bitsN, sl] at c
    obtain ⟨rfl, rfl, rfl, rfl, rfl, rfl, rfl, rfl, rfl, rfl, rfl, rfl, rfl, rfl, rfl, rfl⟩ := c
    rcases cond_some' h with ⟨d, g⟩ | ⟨_, g⟩ <;> clear h <;> have h := g <;> clear g
    · rw [Bool.and_eq_true, Bool.and_eq_true] at d
      rcases cond_some' h with ⟨t, g⟩ | ⟨t, g⟩ <;> clear h <;> have h := g <;> clear g
      · simp [eqC, bitsN, sl] at t
        obtain ⟨rfl, rfl⟩ := t
        rcases cond_some' h with ⟨s, g⟩ | ⟨_, g⟩ <;> clear h <;> have h := g <;> clear g
        · simp [eqC, bitsN, sl] at s
          obtain ⟨rfl, rfl, rfl, rfl, rfl⟩ := s
          cases h
          exact ⟨9, _, _, _, _, _, _, false, rfl, rr_9 y4 y5 y6 y7 y12 y13 y14 y15, fw_9 y4 y5 y6 y7 y12 y13 y14 y15 d.1 d.2.1⟩
        · cases h
      · cases h
    · cases h
  rcases cond_some' h with ⟨c, g⟩ | ⟨_, g⟩ <;> clear h <;> have h := g <;> clear g
  · simp [eqC, bitsN, sl] at c
    obtain ⟨rfl, rfl, rfl, rfl, rfl, rfl, rfl, rfl, rfl, rfl, rfl, rfl⟩ := c
    rcases cond_some' h with ⟨d, g⟩ | ⟨_, g⟩ <;> clear h <;> have h := g <;> clear g
    · rw [Bool.and_eq_true, Bool.and_eq_true, Bool.and_eq_true] at d
      rcases cond_some' h with ⟨t, g⟩ | ⟨t, g⟩ <;> clear h <;> have h := g <;> clear g
      · simp [eqC, bitsN, sl] at t
        obtain ⟨rfl, rfl⟩ := t
        rcases cond_some' h with ⟨s, g⟩ | ⟨_, g⟩ <;> clear h <;> have h := g <;> clear g
        · simp [eqC, bitsN, sl] at s
          obtain ⟨rfl, rfl, rfl, rfl, rfl⟩ := s
          cases h
          exact ⟨10, _, _, _, _, _, _, false, rfl, rr_10 x12 x13 x14 x15 y4 y5 y6 y7 y12 y13 y14 y15, fw_10 x12 x13 x14 x15 y4 y5 y6 y7 y12 y13 y14 y15 d.1 d.2.1 d.2.2.1⟩
        · cases h
      · cases h
    · cases h
  rcases cond_some' h with ⟨c, g⟩ | ⟨_, g⟩ <;> clear h <;> have h := g <;> clear g
  · simp [eqC, bitsN, sl] at c
    obtain ⟨rfl, rfl, rfl, rfl, rfl, rfl, rfl, rfl, rfl, rfl, rfl, rfl⟩ := c
    rcases cond_some' h with ⟨d, g⟩ | ⟨_, g⟩ <;> clear h <;> have h := g <;> clear g
    · rw [Bool.and_eq_true, Bool.and_eq_true, Bool.and_eq_true] at d
      rcases cond_some' h with ⟨t, g⟩ | ⟨t, g⟩ <;> clear h <;> have h := g <;> clear g
      · simp [eqC, bitsN, sl] at t
        obtain ⟨rfl, rfl⟩ := t
        rcases cond_some' h with ⟨s, g⟩ | ⟨_, g⟩ <;> clear h <;> have h := g <;> clear g
        · simp [eqC, bitsN, sl] at s
          obtain ⟨rfl, rfl, rfl, rfl, rfl⟩ := s
          cases h
          exact ⟨11, _, _, _, _, _, _, false, rfl, rr_11 x12 x13 x14 x15 y4 y5 y6 y7 y12 y13 y14 y15, fw_11 x12 x13 x14 x15 y4 y5 y6 y7 y12 y13 y14 y15 d.1 d.2.1 d.2.2.1⟩
        · cases h
      · cases h
    · cases h
  rcases cond_some' h with ⟨c, g⟩ | ⟨_, g⟩ <;> clear h <;> have h := g <;> clear g
  · simp [eqC, bitsN, sl] at c
    obtain ⟨rfl, rfl, rfl, rfl, rfl, rfl, rfl, rfl, rfl, rfl, rfl, rfl⟩ := c
    rcases cond_some' h with ⟨d, g⟩ | ⟨_, g⟩ <;> clear h <;> have h := g <;> clear g
    · rw [Bool.and_eq_true, Bool.and_eq_true, Bool.and_eq_true] at d
      rcases cond_some' h with ⟨t, g⟩ | ⟨t, g⟩ <;> clear h <;> have h := g <;> clear g
      · simp [eqC, bitsN, sl] at t
        obtain ⟨rfl, rfl⟩ := t
        rcases cond_some' h with ⟨s, g⟩ | ⟨_, g⟩ <;> clear h <;> have h := g <;> clear g
        · simp [eqC, bitsN, sl] at s
          obtain ⟨rfl, rfl, rfl, rfl, rfl⟩ := s
          cases h
          exact ⟨12, _, _, _, _, _, _, false, rfl, rr_12 x12 x13 x14 x15 y4 y5 y6 y7 y12 y13 y14 y15, fw_12 x12 x13 x14 x15 y4 y5 y6 y7 y12 y13 y14 y15 d.1 d.2.1 d.2.2.1⟩
        · cases h
      · cases h
    · cases h
  rcases cond_some' h with ⟨c, g⟩ | ⟨_, g⟩ <;> clear h <;> have h := g <;> clear g
  · simp [eqC, bitsN, sl] at c
    obtain ⟨rfl, rfl, rfl, rfl, rfl, rfl, rfl, rfl, rfl, rfl, rfl, rfl⟩ := c
    rcases cond_some' h with ⟨d, g⟩ | ⟨_, g⟩ <;> clear h <;> have h := g <;> clear g
    · rw [Bool.and_eq_true, Bool.and_eq_true, Bool.and_eq_true] at d
      rcases cond_some' h with ⟨t, g⟩ | ⟨t, g⟩ <;> clear h <;> have h := g <;> clear g
      · simp [eqC, bitsN, sl] at t
        obtain ⟨rfl, rfl⟩ := t
        rcases cond_some' h with ⟨s, g⟩ | ⟨_, g⟩ <;> clear h <;> have h := g <;> clear g
        · simp [eqC, bitsN, sl] at s
          obtain ⟨rfl, rfl, rfl, rfl, rfl⟩ := s
          cases h
          exact ⟨13, _, _, _, _, _, _, false, rfl, rr_13 x12 x13 x14 x15 y4 y5 y6 y7 y12 y13 y14 y15, fw_13 x12 x13 x14 x15 y4 y5 y6 y7 y12 y13 y14 y15 d.1 d.2.1 d.2.2.1⟩
        · cases h
      · cases h
    · cases h
  rcases cond_some' h with ⟨c, g⟩ | ⟨_, g⟩ <;> clear h <;> have h := g <;> clear g
  · simp [eqC, bitsN, sl] at c
    obtain ⟨rfl, rfl, rfl, rfl, rfl, rfl, rfl, rfl, rfl, rfl, rfl, rfl⟩ := c
    rcases cond_some' h with ⟨d, g⟩ | ⟨_, g⟩ <;> clear h <;> have h := g <;> clear g
    · rw [Bool.and_eq_true, Bool.and_eq_true, Bool.and_eq_true] at d
      rcases cond_some' h with ⟨t, g⟩ | ⟨t, g⟩ <;> clear h <;> have h := g <;> clear g
      · simp [eqC, bitsN, sl] at t
        obtain ⟨rfl, rfl⟩ := t
        rcases cond_some' h with ⟨s, g⟩ | ⟨_, g⟩ <;> clear h <;> have h := g <;> clear g
        · simp [eqC, bitsN, sl] at s
          obtain ⟨rfl, rfl, rfl, rfl, rfl⟩ := s
          cases h
          exact ⟨14, _, _, _, _, _, _, false, rfl, rr_14 x12 x13 x14 x15 y4 y5 y6 y7 y12 y13 y14 y15, fw_14 x12 x13 x14 x15 y4 y5 y6 y7 y12 y13 y14 y15 d.1 d.2.1 d.2.2.1⟩
        · cases h
      · cases h
    · cases h
  rcases cond_some' h with ⟨c, g⟩ | ⟨_, g⟩ <;> clear h <;> have h := g <;> clear g
  · simp [eqC, bitsN, sl] at c
    obtain ⟨rfl, rfl, rfl, rfl, rfl, rfl, rfl, rfl, rfl, rfl, rfl, rfl⟩ := c
    rcases cond_some' h with ⟨d, g⟩ | ⟨_, g⟩ <;> clear h <;> have h := g <;> clear g
    · rw [Bool.and_eq_true, Bool.and_eq_true, Bool.and_eq_true] at d
      rcases cond_some' h with ⟨t, g⟩ | ⟨t, g⟩ <;> clear h <;> have h := g <;> clear g
      · simp [eqC, bitsN, sl] at t
        obtain ⟨rfl, rfl⟩ := t
        rcases cond_some' h with ⟨s, g⟩ | ⟨_, g⟩ <;> clear h <;> have h := g <;> clear g
        · simp [eqC, bitsN, sl] at s
          obtain ⟨rfl, rfl, rfl, rfl, rfl⟩ := s
          cases h
          exact ⟨15, _, _, _, _, _, _, false, rfl, rr_15 x12 x13 x14 x15 y4 y5 y6 y7 y12 y13 y14 y15, fw_15 x12 x13 x14 x15 y4 y5 y6 y7 y12 y13 y14 y15 d.1 d.2.1 d.2.2.1⟩
        · cases h
      · cases h
    · cases h
  cases h
theorem product_fw (x0 x1 x2 x3 x4 x5 x6 x7 x8 x9 x10 x11 x12 x13 x14 x15 y0 y1 y2 y3 y4 y5 y6 y7 y8 y9 y10 y11 y12 y13 y14 y15 : Bool) (i : tIns.den) (h : dProduct [x0, x1, x2, x3, x4, x5, x6, x7, x8, x9, x10, x11, x12, x13, x14, x15] [y0, y1, y2, y3, y4, y5, y6, y7, y8, y9, y10, y11, y12, y13, y14, y15] = some i) : Enc2 i [x0, x1, x2, x3, x4, x5, x6, x7, x8, x9, x10, x11, x12, x13, x14, x15] [y0, y1, y2, y3, y4, y5, y6, y7, y8, y9, y10, y11, y12, y13, y14, y15] := by
  unfold dProduct at h
  rcases cond_some' h with ⟨_, g⟩ | ⟨c0, g⟩ <;> clear h <;> have h := g <;> clear g
  · cases h
  simp [eqC, bitsN, sl] at c0
  obtain ⟨rfl, rfl, rfl, rfl⟩ := c0
  rcases cond_some' h with ⟨c, g⟩ | ⟨_, g⟩ <;> clear h <;> have h := g <;> clear g
  · simp [eqC, bitsN, sl] at c
    obtain ⟨rfl, rfl, rfl, rfl, rfl, rfl, rfl, rfl, rfl, rfl, rfl, rfl⟩ := c
    rcases cond_some' h with ⟨t, g⟩ | ⟨_, g⟩ <;> clear h <;> have h := g <;> clear g
    · simp [eqC, bitsN, sl] at t
      obtain ⟨rfl, rfl, rfl, rfl⟩ := t
      rcases cond_some' h with ⟨d, g⟩ | ⟨_, g⟩ <;> clear h <;> have h := g <;> clear g
      · rw [Bool.and_eq_true, Bool.and_eq_true, Bool.and_eq_true] at d
        cases h
        exact ⟨16, _, _, _, _, _, _, false, rfl, rr_16 x12 x13 x14 x15 y4 y5 y6 y7 y12 y13 y14 y15, fw_16 x12 x13 x14 x15 y4 y5 y6 y7 y12 y13 y14 y15 d.1 d.2.1 d.2.2.1⟩
      · cases h
    · cases h
  rcases cond_some' h with ⟨c, g⟩ | ⟨_, g⟩ <;> clear h <;> have h := g <;> clear g
  · simp [eqC, bitsN, sl] at c
    obtain ⟨rfl, rfl, rfl, rfl, rfl, rfl, rfl, rfl, rfl, rfl, rfl, rfl⟩ := c
    rcases cond_some' h with ⟨t, g⟩ | ⟨_, g⟩ <;> clear h <;> have h := g <;> clear g
    · have t := bne_iff_ne.1 t
      rcases cond_some' h with ⟨d, g⟩ | ⟨_, g⟩ <;> clear h <;> have h := g <;> clear g
      · rw [Bool.and_eq_true, Bool.and_eq_true, Bool.and_eq_true, Bool.and_eq_true] at d
        cases h
        exact ⟨17, _, _, _, _, _, _, false, rfl, rr_17 x12 x13 x14 x15 y0 y1 y2 y3 y4 y5 y6 y7 y12 y13 y14 y15, fw_17 x12 x13 x14 x15 y0 y1 y2 y3 y4 y5 y6 y7 y12 y13 y14 y15 d.1 d.2.2.1 d.2.2.2.1 d.2.1 t⟩
      · cases h
    · cases h
  cases h
theorem plain_fw (x0 x1 x2 x3 x4 x5 x6 x7 x8 x9 x10 x11 x12 x13 x14 x15 y0 y1 y2 y3 y4 y5 y6 y7 y8 y9 y10 y11 y12 y13 y14 y15 : Bool) (i : tIns.den) (h : dPlain [x0, x1, x2, x3, x4, x5, x6, x7, x8, x9, x10, x11, x12, x13, x14, x15] [y0, y1, y2, y3, y4, y5, y6, y7, y8, y9, y10, y11, y12, y13, y14, y15] = some i) : Enc2 i [x0, x1, x2, x3, x4, x5, x6, x7, x8, x9, x10, x11, x12, x13, x14, x15] [y0, y1, y2, y3, y4, y5, y6, y7, y8, y9, y10, y11, y12, y13, y14, y15] := by
  unfold dPlain at h
  rcases cond_some' h with ⟨_, g⟩ | ⟨c0, g⟩ <;> clear h <;> have h := g <;> clear g
  · cases h
  simp [eqC, bitsN, sl] at c0
  obtain rfl := c0
  rcases cond_some' h with ⟨c, g⟩ | ⟨_, g⟩ <;> clear h <;> have h := g <;> clear g
  · simp [eqC, bitsN, sl] at c
    obtain ⟨rfl, rfl, rfl, rfl, rfl, rfl, rfl, rfl, rfl, rfl, rfl, rfl⟩ := c
    rcases cond_some' h with ⟨t, g⟩ | ⟨_, g⟩ <;> clear h <;> have h := g <;> clear g
    · simp [eqC, bitsN, sl] at t
      obtain rfl := t
      rcases cond_some' h with ⟨s, g⟩ | ⟨_, g⟩ <;> clear h <;> have h := g <;> clear g
      · have s := of_decide_eq_true s
        rcases cond_some' h with ⟨d, g⟩ | ⟨_, g⟩ <;> clear h <;> have h := g <;> clear g
        · rw [Bool.and_eq_true, Bool.and_eq_true] at d
          cases h
          exact ⟨18, _, _, _, _, _, _, false, rfl, rr_18 x12 x13 x14 x15 y1 y2 y3 y4 y5 y6 y7 y8 y9 y11 y12 y13 y14 y15, fw_18 x12 x13 x14 x15 y1 y2 y3 y4 y5 y6 y7 y8 y9 y11 y12 y13 y14 y15 d.1 d.2.1 s⟩
        · cases h
      · cases h
    · cases h
  rcases cond_some' h with ⟨c, g⟩ | ⟨_, g⟩ <;> clear h <;> have h := g <;> clear g
  · simp [eqC, bitsN, sl] at c
    obtain ⟨rfl, rfl, rfl, rfl, rfl, rfl, rfl, rfl, rfl, rfl, rfl⟩ := c
    rcases cond_some' h with ⟨d, g⟩ | ⟨_, g⟩ <;> clear h <;> have h := g <;> clear g
    · rw [Bool.and_eq_true] at d
      cases h
      exact ⟨3, _, _, _, _, _, _, false, rfl, rr_3 x5 x12 x13 x14 x15 y1 y2 y3 y4 y5 y6 y7 y8 y9 y10 y11 y12 y13 y14 y15, fw_3 x5 x12 x13 x14 x15 y1 y2 y3 y4 y5 y6 y7 y8 y9 y10 y11 y12 y13 y14 y15 d.1⟩
    · cases h
  rcases cond_some' h with ⟨c, g⟩ | ⟨_, g⟩ <;> clear h <;> have h := g <;> clear g
  · simp [eqC, bitsN, sl] at c
    obtain ⟨rfl, rfl, rfl, rfl, rfl, rfl, rfl, rfl, rfl, rfl, rfl⟩ := c
    rcases cond_some' h with ⟨d, g⟩ | ⟨_, g⟩ <;> clear h <;> have h := g <;> clear g
    · rw [Bool.and_eq_true] at d
      cases h
      exact ⟨4, _, _, _, _, _, _, false, rfl, rr_4 x5 x12 x13 x14 x15 y1 y2 y3 y4 y5 y6 y7 y8 y9 y10 y11 y12 y13 y14 y15, fw_4 x5 x12 x13 x14 x15 y1 y2 y3 y4 y5 y6 y7 y8 y9 y10 y11 y12 y13 y14 y15 d.1⟩
    · cases h
  cases h
theorem branch_fw (x0 x1 x2 x3 x4 x5 x6 x7 x8 x9 x10 x11 x12 x13 x14 x15 y0 y1 y2 y3 y4 y5 y6 y7 y8 y9 y10 y11 y12 y13 y14 y15 : Bool) (i : tIns.den) (h : dBranch [x0, x1, x2, x3, x4, x5, x6, x7, x8, x9, x10, x11, x12, x13, x14, x15] [y0, y1, y2, y3, y4, y5, y6, y7, y8, y9, y10, y11, y12, y13, y14, y15] = some i) : Enc2 i [x0, x1, x2, x3, x4, x5, x6, x7, x8, x9, x10, x11, x12, x13, x14, x15] [y0, y1, y2, y3, y4, y5, y6, y7, y8, y9, y10, y11, y12, y13, y14, y15] := by
  unfold dBranch at h
  rcases cond_some' h with ⟨_, g⟩ | ⟨c0, g⟩ <;> clear h <;> have h := g <;> clear g
  · cases h
  simp [eqC, bitsN, sl] at c0
  obtain ⟨⟨rfl, rfl, rfl, rfl, rfl⟩, rfl, rfl⟩ := c0
  rcases cond_some' h with ⟨c, g⟩ | ⟨c, g⟩ <;> clear h <;> have h := g <;> clear g
  · simp [eqC, bitsN, sl] at c
    obtain rfl := c
    cases h
    exact ⟨24, _, _, _, _, _, _, true, rfl, rr_24w x5 x6 x7 x8 x9 x10 x11 x12 x13 x14 x15 y2 y4 y5 y6 y7 y8 y9 y10 y11 y12 y13 y14 y15, fw_24w x5 x6 x7 x8 x9 x10 x11 x12 x13 x14 x15 y2 y4 y5 y6 y7 y8 y9 y10 y11 y12 y13 y14 y15⟩
  · simp [eqC, bitsN, sl] at c
    obtain rfl := c
    rcases cond_some' h with ⟨d, g⟩ | ⟨_, g⟩ <;> clear h <;> have h := g <;> clear g
    · cases h
      exact ⟨25, _, _, _, _, _, _, true, rfl, rr_25w x5 x6 x7 x8 x9 x10 x11 x12 x13 x14 x15 y2 y4 y5 y6 y7 y8 y9 y10 y11 y12 y13 y14 y15, fw_25w x5 x6 x7 x8 x9 x10 x11 x12 x13 x14 x15 y2 y4 y5 y6 y7 y8 y9 y10 y11 y12 y13 y14 y15 (of_decide_eq_true d)⟩
    · cases h
theorem len16 {l : List Bool} (h : l.length = 16) : ∃ x0 x1 x2 x3 x4 x5 x6 x7 x8 x9 x10 x11 x12 x13 x14 x15 : Bool, l = [x0, x1, x2, x3, x4, x5, x6, x7, x8, x9, x10, x11, x12, x13, x14, x15] := by
  match l, h with
  | [x0, x1, x2, x3, x4, x5, x6, x7, x8, x9, x10, x11, x12, x13, x14, x15], _ => exact ⟨_, _, _, _, _, _, _, _, _, _, _, _, _, _, _, _, rfl⟩
theorem narrow_enc {l : List Bool} (hl : l.length = 16) {i : tIns.den} (h : dNarrow l = some i) : Enc1 i l := by
  obtain ⟨x0, x1, x2, x3, x4, x5, x6, x7, x8, x9, x10, x11, x12, x13, x14, x15, rfl⟩ := len16 hl
  exact narrow_fw _ _ _ _ _ _ _ _ _ _ _ _ _ _ _ _ i h
theorem long_enc {lx ly : List Bool} (hx : lx.length = 16) (hy : ly.length = 16) {i : tIns.den} (h : dLong lx ly = some i) : Enc2 i lx ly := by
  obtain ⟨x0, x1, x2, x3, x4, x5, x6, x7, x8, x9, x10, x11, x12, x13, x14, x15, rfl⟩ := len16 hx
  obtain ⟨y0, y1, y2, y3, y4, y5, y6, y7, y8, y9, y10, y11, y12, y13, y14, y15, rfl⟩ := len16 hy
  unfold dLong at h
  rcases Option.or_eq_some_iff.1 h with h | ⟨_, h⟩
  · exact three_fw _ _ _ _ _ _ _ _ _ _ _ _ _ _ _ _ _ _ _ _ _ _ _ _ _ _ _ _ _ _ _ _ i h
  rcases Option.or_eq_some_iff.1 h with h | ⟨_, h⟩
  · exact product_fw _ _ _ _ _ _ _ _ _ _ _ _ _ _ _ _ _ _ _ _ _ _ _ _ _ _ _ _ _ _ _ _ i h
  rcases Option.or_eq_some_iff.1 h with h | ⟨_, h⟩
  · exact plain_fw _ _ _ _ _ _ _ _ _ _ _ _ _ _ _ _ _ _ _ _ _ _ _ _ _ _ _ _ _ _ _ _ i h
  · exact branch_fw _ _ _ _ _ _ _ _ _ _ _ _ _ _ _ _ _ _ _ _ _ _ _ _ _ _ _ _ _ _ _ _ i h
end Go.Av
end
/-! Layer 3: what is decoded. -/
section
namespace Go.Av
open Go
/-- A text's n-th half, as bits. -/
def hx (s : List UInt8) (k : Nat) : List Bool := bitsN 16 (halfN s k)
theorem hx_len (s : List UInt8) (k : Nat) : (hx s k).length = 16 := bitsN_len ..
theorem hx_H (s : List UInt8) (k : Nat) : H (hx s k) = ((halfN s k : Nat) : Int) := by
  unfold H hx
  rw [bitsN_hb, Nat.mod_eq_of_lt (halfN_lt s k)]
abbrev zI : tIns.den := (0, 0, 0, 0, 0, 0, 0, false, ())
abbrev D4 := tIns.den × Int × Int × Unit
def dOut (n : Int) : Option tIns.den → D4
  | some i => (i, n, 0, ())
  | none => (zI, 0, 7, ())
/-- What is decoded. -/
def dDec (s : List UInt8) : D4 :=
  bif decide (lenI s < 2) then (zI, 0, 3, ())
  else bif Nat.ble 59392 (halfN s 0) then (bif decide (lenI s < 4) then (zI, 0, 3, ()) else dOut 4 (dLong (hx s 0) (hx s 1)))
  else dOut 2 (dNarrow (hx s 0))

theorem op1_V {S : Option D1} {d : Option tIns.den} (h : op1 S = some d) : ∃ p : D1, S = some p ∧ (p.2.1 = true → d = some p.1) ∧ (p.2.1 = false → d = none) := by
  obtain ⟨p, h1, h2⟩ := op1_get h
  refine ⟨p, h1, fun e => ?_, fun e => ?_⟩
  · rw [← h2, e]; rfl
  · rw [← h2, e]; rfl
theorem narrow_V (l : List Bool) (hl : l.length = 16) : G_decode_narrow (H l) = true ∧ ((V_decode_narrow (H l)).2.1 = true → dNarrow l = some (V_decode_narrow (H l)).1) ∧ ((V_decode_narrow (H l)).2.1 = false → dNarrow l = none) := by
  obtain ⟨p, h1, h2, h3⟩ := op1_V (narrow_T l hl)
  have hv : V_decode_narrow (H l) = p := by unfold V_decode_narrow PO.getO; rw [h1]; rfl
  have hg : G_decode_narrow (H l) = true := by unfold G_decode_narrow; rw [h1]; rfl
  rw [hv]
  exact ⟨hg, h2, h3⟩
theorem three_V (lx ly : List Bool) (hx : lx.length = 16) (hy : ly.length = 16) : G_decode_three (H lx, H ly) = true ∧ ((V_decode_three (H lx, H ly)).2.1 = true → dThree lx ly = some (V_decode_three (H lx, H ly)).1) ∧ ((V_decode_three (H lx, H ly)).2.1 = false → dThree lx ly = none) := by
  obtain ⟨p, h1, h2, h3⟩ := op1_V (three_T lx ly hx hy)
  have hv : V_decode_three (H lx, H ly) = p := by unfold V_decode_three PO.getO; rw [h1]; rfl
  have hg : G_decode_three (H lx, H ly) = true := by unfold G_decode_three; rw [h1]; rfl
  rw [hv]
  exact ⟨hg, h2, h3⟩
theorem product_V (lx ly : List Bool) (hx : lx.length = 16) (hy : ly.length = 16) : G_decode_product (H lx, H ly) = true ∧ ((V_decode_product (H lx, H ly)).2.1 = true → dProduct lx ly = some (V_decode_product (H lx, H ly)).1) ∧ ((V_decode_product (H lx, H ly)).2.1 = false → dProduct lx ly = none) := by
  obtain ⟨p, h1, h2, h3⟩ := op1_V (product_T lx ly hx hy)
  have hv : V_decode_product (H lx, H ly) = p := by unfold V_decode_product PO.getO; rw [h1]; rfl
  have hg : G_decode_product (H lx, H ly) = true := by unfold G_decode_product; rw [h1]; rfl
  rw [hv]
  exact ⟨hg, h2, h3⟩
theorem plain_V (lx ly : List Bool) (hx : lx.length = 16) (hy : ly.length = 16) : G_decode_plain (H lx, H ly) = true ∧ ((V_decode_plain (H lx, H ly)).2.1 = true → dPlain lx ly = some (V_decode_plain (H lx, H ly)).1) ∧ ((V_decode_plain (H lx, H ly)).2.1 = false → dPlain lx ly = none) := by
  obtain ⟨p, h1, h2, h3⟩ := op1_V (plain_T lx ly hx hy)
  have hv : V_decode_plain (H lx, H ly) = p := by unfold V_decode_plain PO.getO; rw [h1]; rfl
  have hg : G_decode_plain (H lx, H ly) = true := by unfold G_decode_plain; rw [h1]; rfl
  rw [hv]
  exact ⟨hg, h2, h3⟩
theorem branch_V (lx ly : List Bool) (hx : lx.length = 16) (hy : ly.length = 16) : G_decode_branch (H lx, H ly) = true ∧ ((V_decode_branch (H lx, H ly)).2.1 = true → dBranch lx ly = some (V_decode_branch (H lx, H ly)).1) ∧ ((V_decode_branch (H lx, H ly)).2.1 = false → dBranch lx ly = none) := by
  obtain ⟨p, h1, h2, h3⟩ := op1_V (branch_T lx ly hx hy)
  have hv : V_decode_branch (H lx, H ly) = p := by unfold V_decode_branch PO.getO; rw [h1]; rfl
  have hg : G_decode_branch (H lx, H ly) = true := by unfold G_decode_branch; rw [h1]; rfl
  rw [hv]
  exact ⟨hg, h2, h3⟩
def pk : Option tIns.den → D1
  | some i => (i, true, ())
  | none => (zI, false, ())
theorem long_T (lx ly : List Bool) (hx : lx.length = 16) (hy : ly.length = 16) : (T_decode_long (H lx, H ly)).val = some (pk (dLong lx ly)) := by
  obtain ⟨a1, a2, a3⟩ := three_V lx ly hx hy
  obtain ⟨b1, b2, b3⟩ := product_V lx ly hx hy
  obtain ⟨c1, c2, c3⟩ := plain_V lx ly hx hy
  obtain ⟨d1, d2, d3⟩ := branch_V lx ly hx hy
  unfold T_decode_long dLong PO.val
  rw [a1]
  dsimp only [cond_true, PO.val]
  cases ea : (V_decode_three (H lx, H ly)).2.1
  · rw [a3 ea, b1]
    dsimp only [cond_true, cond_false, PO.val]
    cases eb : (V_decode_product (H lx, H ly)).2.1
    · rw [b3 eb, c1]
      dsimp only [cond_true, cond_false, PO.val]
      cases ec : (V_decode_plain (H lx, H ly)).2.1
      · rw [c3 ec, d1]
        dsimp only [cond_true, cond_false, PO.val]
        cases ed : (V_decode_branch (H lx, H ly)).2.1
        · rw [d3 ed]; rfl
        · rw [d2 ed]; rfl
      · rw [c2 ec]; rfl
    · rw [b2 eb]; rfl
  · rw [a2 ea]; rfl
theorem decode_T (s : List UInt8) : (T_decode_Decode s).val = some (dDec s) := by
  unfold T_decode_Decode dDec PO.val
  cases h2 : decide (lenI s < 2)
  · have h2' := of_decide_eq_false h2
    cases hb : Nat.ble 59392 (halfN s 0)
    · have hs : V_decode_Size s = 2 := by unfold V_decode_Size; rw [h2, hb]; rfl
      have g : G_decode_half (s, 0) = true := by
        simp only [G_decode_half, Bool.or_eq_true, Bool.and_eq_true, beq_iff_eq, decide_eq_true_eq]
        exact .inl ⟨trivial, by omega⟩
      have hv : V_decode_half (s, 0) = H (hx s 0) := (hx_H s 0).symm
      obtain ⟨n1, n2, n3⟩ := narrow_V (hx s 0) (hx_len s 0)
      rw [hs, h2, g, hv, n1]
      dsimp only [cond_true, cond_false, PO.val, Bool.or_false]
      cases e : (V_decode_narrow (H (hx s 0))).2.1
      · rw [n3 e]; rfl
      · rw [n2 e]; rfl
    · have hs : V_decode_Size s = 4 := by unfold V_decode_Size; rw [h2, hb]; rfl
      rw [hs]
      cases h4 : decide (lenI s < 4)
      · have h4' := of_decide_eq_false h4
        have g : G_decode_half (s, 0) = true := by
          simp only [G_decode_half, Bool.or_eq_true, Bool.and_eq_true, beq_iff_eq, decide_eq_true_eq]
          exact .inl ⟨trivial, by omega⟩
        have g1 : G_decode_half (s, 1) = true := by
          simp only [G_decode_half, Bool.or_eq_true, Bool.and_eq_true, beq_iff_eq, decide_eq_true_eq]
          exact .inr ⟨trivial, by omega⟩
        have hv : V_decode_half (s, 0) = H (hx s 0) := (hx_H s 0).symm
        have hv1 : V_decode_half (s, 1) = H (hx s 1) := (hx_H s 1).symm
        have ht := long_T (hx s 0) (hx s 1) (hx_len s 0) (hx_len s 1)
        have gl : G_decode_long (H (hx s 0), H (hx s 1)) = true := by unfold G_decode_long; rw [ht]; rfl
        have vl : V_decode_long (H (hx s 0), H (hx s 1)) = pk (dLong (hx s 0) (hx s 1)) := by unfold V_decode_long PO.getO; rw [ht]; rfl
        rw [g, g1, hv, hv1, gl, vl]
        dsimp only [cond_true, cond_false, PO.val, Bool.or_false]
        cases dLong (hx s 0) (hx s 1) <;> rfl
      · rfl
  · have hs : V_decode_Size s = 0 := by unfold V_decode_Size; rw [h2]; rfl
    rw [hs]
    rfl
theorem decode_G (s : List UInt8) : G_decode_Decode s = true := by unfold G_decode_Decode; rw [decode_T]; rfl
theorem decode_V (s : List UInt8) : V_decode_Decode s = dDec s := by unfold V_decode_Decode PO.getO; rw [decode_T]; rfl

/-! ### An instruction's bytes -/

/-- Does a first half begin one of two? -/
def isL (l : List Bool) : Bool := l.getD 0 false && (l.getD 1 false && (l.getD 2 false && (l.getD 3 false || l.getD 4 false)))
theorem isL_ble {l : List Bool} (hl : l.length = 16) : Nat.ble 59392 (hb l 0) = isL l := by
  obtain ⟨x0, x1, x2, x3, x4, x5, x6, x7, x8, x9, x10, x11, x12, x13, x14, x15, rfl⟩ := len16 hl
  have h := hb_shift [x0, x1, x2, x3, x4, x5, x6, x7, x8, x9, x10, x11, x12, x13, x14, x15] 11 (by simp)
  have e : hb ([x0, x1, x2, x3, x4, x5, x6, x7, x8, x9, x10, x11, x12, x13, x14, x15].take ([x0, x1, x2, x3, x4, x5, x6, x7, x8, x9, x10, x11, x12, x13, x14, x15].length - 11)) 0 = hb [x0, x1, x2, x3, x4] 0 := rfl
  rw [e] at h
  show _ = (x0 && (x1 && (x2 && (x3 || x4))))
  have h3 : Nat.ble 59392 (hb [x0, x1, x2, x3, x4, x5, x6, x7, x8, x9, x10, x11, x12, x13, x14, x15] 0) = Nat.ble 29 (hb [x0, x1, x2, x3, x4] 0) := by
    rw [Bool.eq_iff_iff, Nat.ble_eq, Nat.ble_eq, ← h]
    omega
  rw [h3]
  cases x0 <;> cases x1 <;> cases x2 <;> cases x3 <;> cases x4 <;> rfl

section
variable (op rd rn rm ra imm cond : Int) (w : Bool)
/-- An instruction's first, and second, half as bits. -/
def e1 : List Bool := hl (ltr rd rn rm ra imm cond) ((V_hauberkref02_Bits (op, w)).take 16)
def e2 : List Bool := hl (ltr rd rn rm ra imm cond) ((V_hauberkref02_Bits (op, w)).drop 16)
abbrev theI : tIns.den := (op, rd, rn, rm, ra, imm, cond, w, ())
/-- One half or two. -/
def Two : Prop := ((V_hauberkref02_Bits (op, w)).length = 16 ∧ isL (e1 op rd rn rm ra imm cond w) = false ∧ dNarrow (e1 op rd rn rm ra imm cond w) = some (theI op rd rn rm ra imm cond w)) ∨ ((V_hauberkref02_Bits (op, w)).length = 32 ∧ isL (e1 op rd rn rm ra imm cond w) = true ∧ dLong (e1 op rd rn rm ra imm cond w) (e2 op rd rn rm ra imm cond w) = some (theI op rd rn rm ra imm cond w))
end
set_option maxHeartbeats 1000000 in
theorem two_ok (op rd rn rm ra imm cond : Int) (w : Bool) (h : okB op rd rn rm ra imm cond w = true) : Two op rd rn rm ra imm cond w := by
  rcases op_cases op with rfl | rfl | rfl | rfl | rfl | rfl | rfl | rfl | rfl | rfl | rfl | rfl | rfl | rfl | rfl | rfl | rfl | rfl | rfl | rfl | rfl | rfl | rfl | rfl | rfl | hop
  case inr.inr.inr.inr.inr.inr.inr.inr.inr.inr.inr.inr.inr.inr.inr.inr.inr.inr.inr.inr.inr.inr.inr.inr.inr =>
    exfalso
    have e := fun k hk => op_none (n := op) (k := k) hop hk
    have e2 : bw op 10 16 = false := by unfold bw; rw [Bool.and_eq_false_iff, decide_eq_false_iff_not, decide_eq_false_iff_not]; omega
    simp [okB, e, e2] at h
  case inr.inr.inr.inr.inr.inr.inr.inr.inr.inr.inr.inr.inr.inr.inr.inr.inr.inr.inr.inr.inr.inr.inr.inl =>
    cases w
    · have h : (rd == 0 && (rn == 0 && (rm == 0 && (ra == 0 && (cond == 0 && (imm % 2 == 0 && bw imm (-2048) 2046)))))) = true := h
      simp only [Bool.and_eq_true, beq_iff_eq, decide_eq_true_eq] at h
      obtain ⟨rfl, rfl, rfl, rfl, rfl, h1, h2, h3⟩ := h
      exact .inl ⟨by kernel_rfl, by kernel_rfl, bk_24 imm h1 h2 h3⟩
    · have h : (rd == 0 && (rn == 0 && (rm == 0 && (ra == 0 && (cond == 0 && (imm % 2 == 0 && bw imm (-16777216) 16777214)))))) = true := h
      simp only [Bool.and_eq_true, beq_iff_eq, decide_eq_true_eq] at h
      obtain ⟨rfl, rfl, rfl, rfl, rfl, h1, h2, h3⟩ := h
      exact .inr ⟨by kernel_rfl, by kernel_rfl, bk_24w imm h1 h2 h3⟩
  case inr.inr.inr.inr.inr.inr.inr.inr.inr.inr.inr.inr.inr.inr.inr.inr.inr.inr.inr.inr.inr.inr.inr.inr.inl =>
    cases w
    · have h : (rd == 0 && (rn == 0 && (rm == 0 && (ra == 0 && (bw cond 0 13 && (imm % 2 == 0 && bw imm (-256) 254)))))) = true := h
      simp only [Bool.and_eq_true, beq_iff_eq, decide_eq_true_eq] at h
      obtain ⟨rfl, rfl, rfl, rfl, ⟨c1, c2⟩, h1, h2, h3⟩ := h
      exact .inl ⟨by kernel_rfl, by kernel_rfl, bk_25 imm h1 h2 h3 cond c1 c2⟩
    · have h : (rd == 0 && (rn == 0 && (rm == 0 && (ra == 0 && (bw cond 0 13 && (imm % 2 == 0 && bw imm (-1048576) 1048574)))))) = true := h
      simp only [Bool.and_eq_true, beq_iff_eq, decide_eq_true_eq] at h
      obtain ⟨rfl, rfl, rfl, rfl, ⟨c1, c2⟩, h1, h2, h3⟩ := h
      exact .inr ⟨by kernel_rfl, by kernel_rfl, bk_25w imm h1 h2 h3 cond c1 c2⟩
  all_goals
    cases w
    case true => exact Bool.noConfusion (show false = true from h)
  · have h : (cond == 0 && (rd == 0 && (rn == 0 && (rm == 0 && (ra == 0 && imm == 0))))) = true := h
    simp only [Bool.and_eq_true, beq_iff_eq] at h
    obtain ⟨rfl, rfl, rfl, rfl, rfl, rfl⟩ := h
    exact .inl ⟨by kernel_rfl, by kernel_rfl, bk_1⟩
  · have h : (cond == 0 && (rd == 0 && (rn == 0 && (rm == 0 && (ra == 0 && bw imm 0 255))))) = true := h
    simp only [Bool.and_eq_true, beq_iff_eq, decide_eq_true_eq] at h
    obtain ⟨rfl, rfl, rfl, rfl, rfl, h1, h2⟩ := h
    exact .inl ⟨by kernel_rfl, by kernel_rfl, bk_2 imm h1 h2⟩
  · have h : (cond == 0 && (bw rd 0 12 && (rn == 0 && (rm == 0 && (ra == 0 && bw imm 0 65535))))) = true := h
    simp only [Bool.and_eq_true, beq_iff_eq, decide_eq_true_eq] at h
    obtain ⟨rfl, ⟨d1, d2⟩, rfl, rfl, rfl, h1, h2⟩ := h
    exact .inr ⟨by kernel_rfl, by kernel_rfl, bk_3 rd d1 d2 imm h1 h2⟩
  · have h : (cond == 0 && (bw rd 0 12 && (rn == 0 && (rm == 0 && (ra == 0 && bw imm 0 65535))))) = true := h
    simp only [Bool.and_eq_true, beq_iff_eq, decide_eq_true_eq] at h
    obtain ⟨rfl, ⟨d1, d2⟩, rfl, rfl, rfl, h1, h2⟩ := h
    exact .inr ⟨by kernel_rfl, by kernel_rfl, bk_4 rd d1 d2 imm h1 h2⟩
  · have h : (cond == 0 && (bw rd 0 12 && (rn == 0 && (bw rm 0 12 && (ra == 0 && bw imm 0 31))))) = true := h
    simp only [Bool.and_eq_true, beq_iff_eq, decide_eq_true_eq] at h
    obtain ⟨rfl, ⟨d1, d2⟩, rfl, ⟨m1, m2⟩, rfl, h1, h2⟩ := h
    exact .inr ⟨by kernel_rfl, by kernel_rfl, bk_5 rd d1 d2 rm m1 m2 imm h1 h2⟩
  · have h : (cond == 0 && (bw rd 0 12 && (rn == 0 && (bw rm 0 12 && (ra == 0 && bw imm 1 31))))) = true := h
    simp only [Bool.and_eq_true, beq_iff_eq, decide_eq_true_eq] at h
    obtain ⟨rfl, ⟨d1, d2⟩, rfl, ⟨m1, m2⟩, rfl, h1, h2⟩ := h
    exact .inr ⟨by kernel_rfl, by kernel_rfl, bk_6 rd d1 d2 rm m1 m2 imm h1 h2⟩
  · have h : (cond == 0 && (bw rd 0 12 && (rn == 0 && (bw rm 0 12 && (ra == 0 && bw imm 1 31))))) = true := h
    simp only [Bool.and_eq_true, beq_iff_eq, decide_eq_true_eq] at h
    obtain ⟨rfl, ⟨d1, d2⟩, rfl, ⟨m1, m2⟩, rfl, h1, h2⟩ := h
    exact .inr ⟨by kernel_rfl, by kernel_rfl, bk_7 rd d1 d2 rm m1 m2 imm h1 h2⟩
  · have h : (cond == 0 && (bw rd 0 12 && (rn == 0 && (bw rm 0 12 && (ra == 0 && bw imm 1 31))))) = true := h
    simp only [Bool.and_eq_true, beq_iff_eq, decide_eq_true_eq] at h
    obtain ⟨rfl, ⟨d1, d2⟩, rfl, ⟨m1, m2⟩, rfl, h1, h2⟩ := h
    exact .inr ⟨by kernel_rfl, by kernel_rfl, bk_8 rd d1 d2 rm m1 m2 imm h1 h2⟩
  · have h : (cond == 0 && (bw rd 0 12 && (rn == 0 && (bw rm 0 12 && (ra == 0 && imm == 0))))) = true := h
    simp only [Bool.and_eq_true, beq_iff_eq, decide_eq_true_eq] at h
    obtain ⟨rfl, ⟨d1, d2⟩, rfl, ⟨m1, m2⟩, rfl, rfl⟩ := h
    exact .inr ⟨by kernel_rfl, by kernel_rfl, bk_9 rd d1 d2 rm m1 m2⟩
  · have h : (cond == 0 && (bw rd 0 12 && (bw rn 0 12 && (bw rm 0 12 && (ra == 0 && imm == 0))))) = true := h
    simp only [Bool.and_eq_true, beq_iff_eq, decide_eq_true_eq] at h
    obtain ⟨rfl, ⟨d1, d2⟩, ⟨n1, n2⟩, ⟨m1, m2⟩, rfl, rfl⟩ := h
    exact .inr ⟨by kernel_rfl, by kernel_rfl, bk_10 rd d1 d2 rn n1 n2 rm m1 m2⟩
  · have h : (cond == 0 && (bw rd 0 12 && (bw rn 0 12 && (bw rm 0 12 && (ra == 0 && imm == 0))))) = true := h
    simp only [Bool.and_eq_true, beq_iff_eq, decide_eq_true_eq] at h
    obtain ⟨rfl, ⟨d1, d2⟩, ⟨n1, n2⟩, ⟨m1, m2⟩, rfl, rfl⟩ := h
    exact .inr ⟨by kernel_rfl, by kernel_rfl, bk_11 rd d1 d2 rn n1 n2 rm m1 m2⟩
  · have h : (cond == 0 && (bw rd 0 12 && (bw rn 0 12 && (bw rm 0 12 && (ra == 0 && imm == 0))))) = true := h
    simp only [Bool.and_eq_true, beq_iff_eq, decide_eq_true_eq] at h
    obtain ⟨rfl, ⟨d1, d2⟩, ⟨n1, n2⟩, ⟨m1, m2⟩, rfl, rfl⟩ := h
    exact .inr ⟨by kernel_rfl, by kernel_rfl, bk_12 rd d1 d2 rn n1 n2 rm m1 m2⟩
  · have h : (cond == 0 && (bw rd 0 12 && (bw rn 0 12 && (bw rm 0 12 && (ra == 0 && imm == 0))))) = true := h
    simp only [Bool.and_eq_true, beq_iff_eq, decide_eq_true_eq] at h
    obtain ⟨rfl, ⟨d1, d2⟩, ⟨n1, n2⟩, ⟨m1, m2⟩, rfl, rfl⟩ := h
    exact .inr ⟨by kernel_rfl, by kernel_rfl, bk_13 rd d1 d2 rn n1 n2 rm m1 m2⟩
  · have h : (cond == 0 && (bw rd 0 12 && (bw rn 0 12 && (bw rm 0 12 && (ra == 0 && imm == 0))))) = true := h
    simp only [Bool.and_eq_true, beq_iff_eq, decide_eq_true_eq] at h
    obtain ⟨rfl, ⟨d1, d2⟩, ⟨n1, n2⟩, ⟨m1, m2⟩, rfl, rfl⟩ := h
    exact .inr ⟨by kernel_rfl, by kernel_rfl, bk_14 rd d1 d2 rn n1 n2 rm m1 m2⟩
  · have h : (cond == 0 && (bw rd 0 12 && (bw rn 0 12 && (bw rm 0 12 && (ra == 0 && imm == 0))))) = true := h
    simp only [Bool.and_eq_true, beq_iff_eq, decide_eq_true_eq] at h
    obtain ⟨rfl, ⟨d1, d2⟩, ⟨n1, n2⟩, ⟨m1, m2⟩, rfl, rfl⟩ := h
    exact .inr ⟨by kernel_rfl, by kernel_rfl, bk_15 rd d1 d2 rn n1 n2 rm m1 m2⟩
  · have h : (cond == 0 && (bw rd 0 12 && (bw rn 0 12 && (bw rm 0 12 && (ra == 0 && imm == 0))))) = true := h
    simp only [Bool.and_eq_true, beq_iff_eq, decide_eq_true_eq] at h
    obtain ⟨rfl, ⟨d1, d2⟩, ⟨n1, n2⟩, ⟨m1, m2⟩, rfl, rfl⟩ := h
    exact .inr ⟨by kernel_rfl, by kernel_rfl, bk_16 rd d1 d2 rn n1 n2 rm m1 m2⟩
  · have h : (cond == 0 && (bw rd 0 12 && (bw rn 0 12 && (bw rm 0 12 && (bw ra 0 12 && (imm == 0 && ra != rd)))))) = true := h
    simp only [Bool.and_eq_true, beq_iff_eq, decide_eq_true_eq, bne_iff_ne] at h
    obtain ⟨rfl, ⟨d1, d2⟩, ⟨n1, n2⟩, ⟨m1, m2⟩, ⟨a1, a2⟩, rfl, hne⟩ := h
    exact .inr ⟨by kernel_rfl, by kernel_rfl, bk_17 rd d1 d2 ra a1 a2 rn n1 n2 rm m1 m2 hne⟩
  · have h : (cond == 0 && (bw rd 0 12 && (bw rn 0 12 && (rm == 0 && (bw imm 0 31 && bw ra 1 (32 - imm)))))) = true := h
    simp only [Bool.and_eq_true, beq_iff_eq, decide_eq_true_eq] at h
    obtain ⟨rfl, ⟨d1, d2⟩, ⟨n1, n2⟩, rfl, ⟨h1, h2⟩, a1, a2⟩ := h
    exact .inr ⟨by kernel_rfl, by kernel_rfl, bk_18 rd d1 d2 rn n1 n2 imm h1 h2 ra a1 a2⟩
  · have h : (cond == 0 && (bw rd 0 7 && (bw rn 0 7 && (rm == 0 && (ra == 0 && imm == 0))))) = true := h
    simp only [Bool.and_eq_true, beq_iff_eq, decide_eq_true_eq] at h
    obtain ⟨rfl, ⟨d1, d2⟩, ⟨n1, n2⟩, rfl, rfl, rfl⟩ := h
    exact .inl ⟨by kernel_rfl, by kernel_rfl, bk_19 rd d1 d2 rn n1 n2⟩
  · have h : (cond == 0 && (bw rd 0 7 && (bw rn 0 7 && (rm == 0 && (ra == 0 && imm == 0))))) = true := h
    simp only [Bool.and_eq_true, beq_iff_eq, decide_eq_true_eq] at h
    obtain ⟨rfl, ⟨d1, d2⟩, ⟨n1, n2⟩, rfl, rfl, rfl⟩ := h
    exact .inl ⟨by kernel_rfl, by kernel_rfl, bk_20 rd d1 d2 rn n1 n2⟩
  · have h : (cond == 0 && (bw rd 0 7 && (bw rn 0 7 && (rm == 0 && (ra == 0 && imm == 0))))) = true := h
    simp only [Bool.and_eq_true, beq_iff_eq, decide_eq_true_eq] at h
    obtain ⟨rfl, ⟨d1, d2⟩, ⟨n1, n2⟩, rfl, rfl, rfl⟩ := h
    exact .inl ⟨by kernel_rfl, by kernel_rfl, bk_21 rd d1 d2 rn n1 n2⟩
  · have h : (cond == 0 && (bw rd 0 7 && (bw rn 0 7 && (rm == 0 && (ra == 0 && imm == 0))))) = true := h
    simp only [Bool.and_eq_true, beq_iff_eq, decide_eq_true_eq] at h
    obtain ⟨rfl, ⟨d1, d2⟩, ⟨n1, n2⟩, rfl, rfl, rfl⟩ := h
    exact .inl ⟨by kernel_rfl, by kernel_rfl, bk_22 rd d1 d2 rn n1 n2⟩
  · have h : (cond == 0 && (rd == 0 && (bw rn 0 7 && (bw rm 0 7 && (ra == 0 && imm == 0))))) = true := h
    simp only [Bool.and_eq_true, beq_iff_eq, decide_eq_true_eq] at h
    obtain ⟨rfl, rfl, ⟨n1, n2⟩, ⟨m1, m2⟩, rfl, rfl⟩ := h
    exact .inl ⟨by kernel_rfl, by kernel_rfl, bk_23 rn n1 n2 rm m1 m2⟩
end Go.Av
end
/-! Layer 3: an instruction's bytes, and what is decoded out of bytes. -/
section
namespace Go.Av
open Go
section
variable (op rd rn rm ra imm cond : Int) (w : Bool)
theorem e1_len (h : (V_hauberkref02_Bits (op, w)).length = 16 ∨ (V_hauberkref02_Bits (op, w)).length = 32) : (e1 op rd rn rm ra imm cond w).length = 16 := by
  unfold e1; rw [hl_len, List.length_take]; omega
theorem e2_len (h : (V_hauberkref02_Bits (op, w)).length = 32) : (e2 op rd rn rm ra imm cond w).length = 16 := by
  unfold e2; rw [hl_len, List.length_drop]; omega
/-- An instruction's bytes. -/
def eBytes : List UInt8 := bif (V_hauberkref02_Bits (op, w)).length == 16 then by2 (hb (e1 op rd rn rm ra imm cond w) 0) else by2 (hb (e1 op rd rn rm ra imm cond w) 0) ++ by2 (hb (e2 op rd rn rm ra imm cond w) 0)
theorem enc_val (hok : okB op rd rn rm ra imm cond w = true) : (T_thumb_Encode (op, rd, rn, rm, ra, imm, cond, w, ())).val = some (eBytes op rd rn rm ra imm cond w, 0, ()) := by
  have h : V_thumb_Check (op, rd, rn, rm, ra, imm, cond, w, ()) = 0 := (check_iff op rd rn rm ra imm cond w).2 hok
  have hc : (V_thumb_Check (op, rd, rn, rm, ra, imm, cond, w, ()) != (0 : Int)) = false := by rw [h]; rfl
  have hv := bits_val op rd rn rm ra imm cond w h
  have hg : G_thumb_bits (op, rd, rn, rm, ra, imm, cond, w, ()) = true := by unfold G_thumb_bits; rw [hv]; rfl
  have he : V_thumb_bits (op, rd, rn, rm, ra, imm, cond, w, ()) = codeV op rd rn rm ra imm cond w := by unfold V_thumb_bits PO.getO; rw [hv]; rfl
  have hl := code_long op rd rn rm ra imm cond w h
  obtain ⟨hr, hs⟩ := same_bits op rd rn rm ra imm cond w h
  have e1' : (T_thumb_Encode (op, rd, rn, rm, ra, imm, cond, w, ())).val = (bif isLong op w then some (V_thumb_half (codeV op rd rn rm ra imm cond w).1 ++ V_thumb_half (codeV op rd rn rm ra imm cond w).2.1, 0, ()) else some (V_thumb_half (codeV op rd rn rm ra imm cond w).1, 0, ())) := by
    unfold T_thumb_Encode
    dsimp only [PO.val]
    rw [hc, hg, he, hl]
    rfl
  rw [e1']
  rcases hs with ⟨s1, s2, s3⟩ | ⟨s1, s2, s3, s4⟩
  · rw [s1, s3, half_by2 (rowV_lt _ _ _ _ _ _ _ s2 hr), row_hb _ _ _ _ _ _ _ s2 hr]
    unfold eBytes e1
    rw [s2, List.take_of_length_le (by omega)]
    rfl
  · have t1 : ((V_hauberkref02_Bits (op, w)).take 16).length = 16 := by rw [List.length_take]; omega
    have t2 : ((V_hauberkref02_Bits (op, w)).drop 16).length = 16 := by rw [List.length_drop]; omega
    have r1 : rowOf ((V_hauberkref02_Bits (op, w)).take 16) = true := List.all_eq_true.2 fun c hc => List.all_eq_true.1 hr c (List.mem_of_mem_take hc)
    have r2 : rowOf ((V_hauberkref02_Bits (op, w)).drop 16) = true := List.all_eq_true.2 fun c hc => List.all_eq_true.1 hr c (List.mem_of_mem_drop hc)
    rw [s1, s3, s4, half_by2 (rowV_lt _ _ _ _ _ _ _ t1 r1), half_by2 (rowV_lt _ _ _ _ _ _ _ t2 r2), row_hb _ _ _ _ _ _ _ t1 r1, row_hb _ _ _ _ _ _ _ t2 r2]
    unfold eBytes e1 e2
    rw [s2]
    rfl
end
theorem u8_nat {n : Nat} (h : n < 256) : (toByte (n : Int)).toNat = n := by
  show (UInt8.ofNat ((n : Int).toNat)).toNat = n
  rw [Int.toNat_natCast, UInt8.toNat_ofNat']
  omega
theorem halfN_by2 (n : Nat) (h : n < 65536) (s : List UInt8) : halfN (by2 n ++ s) 0 = n := by
  show (toByte ((n % 256 : Nat) : Int)).toNat + 256 * (toByte ((n / 256 : Nat) : Int)).toNat = n
  rw [u8_nat (by omega), u8_nat (by omega)]
  omega
theorem halfN_by2' (m n : Nat) (h : n < 65536) (s : List UInt8) : halfN (by2 m ++ (by2 n ++ s)) 1 = n := by
  show (toByte ((n % 256 : Nat) : Int)).toNat + 256 * (toByte ((n / 256 : Nat) : Int)).toNat = n
  rw [u8_nat (by omega), u8_nat (by omega)]
  omega
theorem hb16 {l : List Bool} (h : l.length = 16) : hb l 0 < 65536 := by have := hb_lt0 l; rw [h] at this; exact this
theorem hx_of {s : List UInt8} {k : Nat} {l : List Bool} (hl : l.length = 16) (h : halfN s k = hb l 0) : hx s k = l := by
  unfold hx
  rw [h, ← hl, bits_hb]
/-- An instruction's bytes, with whatever behind them, are decoded as it. -/
theorem dec_back (op rd rn rm ra imm cond : Int) (w : Bool) (hok : okB op rd rn rm ra imm cond w = true) (s : List UInt8) : dDec (eBytes op rd rn rm ra imm cond w ++ s) = ((op, rd, rn, rm, ra, imm, cond, w, ()), lenI (eBytes op rd rn rm ra imm cond w), 0, ()) := by
  rcases two_ok op rd rn rm ra imm cond w hok with ⟨h1, h2, h3⟩ | ⟨h1, h2, h3⟩
  · have l1 := e1_len op rd rn rm ra imm cond w (.inl h1)
    have hb1 := hb16 l1
    have e : eBytes op rd rn rm ra imm cond w = by2 (hb (e1 op rd rn rm ra imm cond w) 0) := by unfold eBytes; rw [h1]; rfl
    have hh := halfN_by2 _ hb1 s
    have hx0 := hx_of l1 hh
    rw [e]
    unfold dDec
    rw [dec_false (p := lenI (by2 (hb (e1 op rd rn rm ra imm cond w) 0) ++ s) < 2) (by simp only [lenI, List.length_append, by2_len]; omega), hh, isL_ble l1, h2, hx0, h3]
    rfl
  · have l1 := e1_len op rd rn rm ra imm cond w (.inr h1)
    have l2 := e2_len op rd rn rm ra imm cond w h1
    have hb1 := hb16 l1
    have hb2 := hb16 l2
    have e : eBytes op rd rn rm ra imm cond w = by2 (hb (e1 op rd rn rm ra imm cond w) 0) ++ by2 (hb (e2 op rd rn rm ra imm cond w) 0) := by unfold eBytes; rw [h1]; rfl
    have hh := halfN_by2 _ hb1 (by2 (hb (e2 op rd rn rm ra imm cond w) 0) ++ s)
    have hh2 := halfN_by2' (hb (e1 op rd rn rm ra imm cond w) 0) _ hb2 s
    have hx0 := hx_of l1 hh
    have hx1 := hx_of l2 hh2
    rw [e, List.append_assoc]
    unfold dDec
    rw [dec_false (p := lenI (by2 (hb (e1 op rd rn rm ra imm cond w) 0) ++ (by2 (hb (e2 op rd rn rm ra imm cond w) 0) ++ s)) < 2) (by simp only [lenI, List.length_append, by2_len]; omega),
      dec_false (p := lenI (by2 (hb (e1 op rd rn rm ra imm cond w) 0) ++ (by2 (hb (e2 op rd rn rm ra imm cond w) 0) ++ s)) < 4) (by simp only [lenI, List.length_append, by2_len]; omega), hh, isL_ble l1, h2, hx0, hx1, h3]
    rfl
theorem by2_half (a b : UInt8) : by2 (a.toNat + 256 * b.toNat) = [a, b] := by
  have ha := a.toNat_lt
  have hb := b.toNat_lt
  unfold by2
  rw [show (a.toNat + 256 * b.toNat) % 256 = a.toNat by omega, show (a.toNat + 256 * b.toNat) / 256 = b.toNat by omega]
  have key : ∀ x : UInt8, toByte ((x.toNat : Nat) : Int) = x := fun x => by
    show UInt8.ofNat (((x.toNat : Nat) : Int).toNat) = x
    rw [Int.toNat_natCast, UInt8.ofNat_toNat]
  rw [key, key]
theorem take2 {s : List UInt8} (h : 2 ≤ s.length) : by2 (halfN s 0) = s.take 2 := by
  match s, h with
  | a :: b :: r, _ => exact by2_half a b
theorem take4 {s : List UInt8} (h : 4 ≤ s.length) : by2 (halfN s 0) ++ by2 (halfN s 1) = s.take 4 := by
  match s, h with
  | a :: b :: c :: d :: r, _ =>
    have h1 : by2 (halfN (a :: b :: c :: d :: r) 0) = [a, b] := by2_half a b
    have h2 : by2 (halfN (a :: b :: c :: d :: r) 1) = [c, d] := by2_half c d
    rw [h1, h2]
    rfl
theorem hb_hx (s : List UInt8) (k : Nat) : hb (hx s k) 0 = halfN s k := by
  unfold hx
  rw [bitsN_hb, Nat.mod_eq_of_lt (halfN_lt s k)]
/-- What is decoded has just those bytes; else there is an error. -/
theorem dec_only (s : List UInt8) : (∃ op rd rn rm ra imm cond w, okB op rd rn rm ra imm cond w = true ∧ dDec s = ((op, rd, rn, rm, ra, imm, cond, w, ()), lenI (eBytes op rd rn rm ra imm cond w), 0, ()) ∧ lenI (eBytes op rd rn rm ra imm cond w) ≤ lenI s ∧ s.take (eBytes op rd rn rm ra imm cond w).length = eBytes op rd rn rm ra imm cond w) ∨ dDec s = (zI, 0, 3, ()) ∨ dDec s = (zI, 0, 7, ()) := by
  unfold dDec
  cases h2 : decide (lenI s < 2)
  · have h2 : ¬ ((s.length : Nat) : Int) < 2 := of_decide_eq_false h2
    cases hb : Nat.ble 59392 (halfN s 0)
    · cases hd : dNarrow (hx s 0) with
      | none => exact .inr (.inr rfl)
      | some i =>
        obtain ⟨op, rd, rn, rm, ra, imm, cond, w, rfl, _, hok, hlen, hl⟩ := narrow_enc (hx_len s 0) hd
        have e : e1 op rd rn rm ra imm cond w = hx s 0 := by
          unfold e1
          rw [List.take_of_length_le (by omega)]
          exact hl
        have eb : eBytes op rd rn rm ra imm cond w = s.take 2 := by
          unfold eBytes
          rw [hlen, e, hb_hx, ← take2 (by omega)]
          rfl
        have l2 : (s.take 2).length = 2 := by rw [List.length_take]; omega
        refine .inl ⟨op, rd, rn, rm, ra, imm, cond, w, hok, ?_, ?_, ?_⟩
        · rw [eb]
          show ((op, rd, rn, rm, ra, imm, cond, w, ()), (2 : Int), (0 : Int), ()) = ((op, rd, rn, rm, ra, imm, cond, w, ()), (((s.take 2).length : Nat) : Int), (0 : Int), ())
          rw [l2]
          rfl
        · rw [eb]
          show (((s.take 2).length : Nat) : Int) ≤ ((s.length : Nat) : Int)
          omega
        · rw [eb, l2]
    · cases h4 : decide (lenI s < 4)
      · have h4 : ¬ ((s.length : Nat) : Int) < 4 := of_decide_eq_false h4
        cases hd : dLong (hx s 0) (hx s 1) with
        | none => exact .inr (.inr rfl)
        | some i =>
          obtain ⟨op, rd, rn, rm, ra, imm, cond, w, rfl, _, hok, hlen, hl, hl2⟩ := long_enc (hx_len s 0) (hx_len s 1) hd
          have eb : eBytes op rd rn rm ra imm cond w = s.take 4 := by
            unfold eBytes e1 e2
            rw [hlen, hl, hl2, hb_hx, hb_hx, ← take4 (by omega)]
            rfl
          have l4 : (s.take 4).length = 4 := by rw [List.length_take]; omega
          refine .inl ⟨op, rd, rn, rm, ra, imm, cond, w, hok, ?_, ?_, ?_⟩
          · rw [eb]
            show ((op, rd, rn, rm, ra, imm, cond, w, ()), (4 : Int), (0 : Int), ()) = ((op, rd, rn, rm, ra, imm, cond, w, ()), (((s.take 4).length : Nat) : Int), (0 : Int), ())
            rw [l4]
            rfl
          · rw [eb]
            show (((s.take 4).length : Nat) : Int) ≤ ((s.length : Nat) : Int)
            omega
          · rw [eb, l4]
      · exact .inr (.inl rfl)
  · exact .inr (.inl rfl)
theorem eBytes_len {op rd rn rm ra imm cond : Int} {w : Bool} (h : okB op rd rn rm ra imm cond w = true) : (eBytes op rd rn rm ra imm cond w).length = 2 ∨ (eBytes op rd rn rm ra imm cond w).length = 4 := by
  rcases two_ok op rd rn rm ra imm cond w h with ⟨h1, _, _⟩ | ⟨h1, _, _⟩
  · left; unfold eBytes; rw [h1]; rfl
  · right; unfold eBytes; rw [h1]; rfl
end Go.Av
end
/-! All instructions of bytes. -/
section
namespace Go.Av
open Go
/-- The instructions of bytes, one behind the other, and the error that comes first. -/
def seqD : Nat → List UInt8 → List tIns.den × Int
  | 0, _ => ([], 0)
  | n + 1, s => bif s.isEmpty then ([], 0) else bif (dDec s).2.2.1 == 0 then ((dDec s).1 :: (seqD n (s.drop (dDec s).2.1.toNat)).1, (seqD n (s.drop (dDec s).2.1.toNat)).2) else ([], (dDec s).2.2.1)

theorem seqD_nil (n : Nat) : seqD n [] = ([], 0) := by cases n <;> rfl
theorem seqD_err {n : Nat} {s : List UInt8} (hs : s ≠ []) (he : (dDec s).2.2.1 ≠ 0) : seqD (n + 1) s = ([], (dDec s).2.2.1) := by
  cases s with
  | nil => exact (hs rfl).elim
  | cons a s => simp only [seqD, List.isEmpty_cons, cond_false, show ((dDec (a :: s)).2.2.1 == 0) = false from by simpa using he]
theorem seqD_ok {n : Nat} {s : List UInt8} (hs : s ≠ []) (he : (dDec s).2.2.1 = 0) : seqD (n + 1) s = ((dDec s).1 :: (seqD n (s.drop (dDec s).2.1.toNat)).1, (seqD n (s.drop (dDec s).2.1.toNat)).2) := by
  cases s with
  | nil => exact (hs rfl).elim
  | cons a s => simp only [seqD, List.isEmpty_cons, cond_false, show ((dDec (a :: s)).2.2.1 == 0) = true from by simpa using he, cond_true]
theorem dDec_size {s : List UInt8} (he : (dDec s).2.2.1 = 0) : 1 ≤ (dDec s).2.1 ∧ (dDec s).2.1 ≤ (s.length : Nat) := by
  rcases dec_only s with ⟨op, rd, rn, rm, ra, imm, cond, w, hok, e, hle, _⟩ | e | e
  · rw [e]
    refine ⟨?_, hle⟩
    show 1 ≤ lenI (eBytes op rd rn rm ra imm cond w)
    unfold lenI
    rcases eBytes_len hok with h | h <;> omega
  · rw [e] at he; cases he
  · rw [e] at he; cases he

abbrev A_decode_All : List Ty := [.str]
abbrev S_decode_All : Sh := Sh.tup (Sh.pair (Sh.ty (Ty.sl tIns)) (Sh.pair (Sh.ty (Ty.int IntKind.i64)) (Sh.ty Ty.unit)))
def G_decode_All (s : dens A_decode_All) : Bool := Nat.ble (List.length s) 1048576
def V_decode_All (s : dens A_decode_All) : S_decode_All.den := (bif (seqD (List.length s) s).2 == 0 then (seqD (List.length s) s).1 else [], (seqD (List.length s) s).2, ())

theorem ok_decode_All (s : dens A_decode_All) (h : (List.length s) ≤ 1048576) : G_decode_All s = true := by
  unfold G_decode_All
  simpa using h
end Go.Av
end
/-! Layer 4's statements: AsmGoes, AsmLeast. -/
section
namespace Go.Av
open Go
def L_hauberklaw04_AsmGoes_21 : LoopN where
  M := [5, 7, 9, 10, 11, 12, 13, 14, 15, 16]
  T := [87, 88, 89, 90, 91, 92, 93, 94, 95, 96, 97, 98, 99, 100, 101, 102, 103, 104, 105, 106, 107, 108, 109, 110, 111, 112, 113, 114, 115, 116, 117, 118, 119]
  D := [16]
  ss := [.ty (.sl tItem), .ty (.sl tPlace), .ty (.int .i64), .ty (.sl tIns), .ty (.int .i64), .ty (.int .i64), .ty (.int .i64), .box 0 0, .ty .bool, .ty (.int .i64)]
  hs := [.ty tIns]
  es := [.exit 2]
  σ := (Ty.den .bool) × (Ty.den (.int .i64)) × (Sh.den (.ty tIns))
  x0 := fun x y => (x.2.2.2.2.2.2.2.2.1, x.2.2.2.2.2.2.2.2.2, y)
  put := fun x _ s => ((x.1, x.2.1, x.2.2.1, x.2.2.2.1, x.2.2.2.2.1, x.2.2.2.2.2.1, x.2.2.2.2.2.2.1, x.2.2.2.2.2.2.2.1, s.1, s.2.1), s.2.2)
  fuel := fun x _ => List.length x.2.1+1
  turn := fun x _ s =>
  (.ite (decide (s.2.1 < lenI x.2.1))
   (.ite (s.1 || inRange s.2.1 (List.length x.2.1) && (inRange x.2.2.2.2.2.2.1 (List.length x.1) && bif (List.getD x.2.1 (Int.toNat s.2.1) (Ty.dflt tPlace)).1 == (List.getD x.1 (Int.toNat x.2.2.2.2.2.2.1) (Ty.dflt tItem)).2.1 then inRange s.2.1 (List.length x.2.1) else true))
    (.ret (.on (s.1 || (List.getD x.2.1 (Int.toNat s.2.1) (Ty.dflt tPlace)).1 == (List.getD x.1 (Int.toNat x.2.2.2.2.2.2.1) (Ty.dflt tItem)).2.1 && (List.getD x.2.1 (Int.toNat s.2.1) (Ty.dflt tPlace)).2.1 == w64 (w64 (x.2.2.1 + 4) + s.2.2.2.2.2.2.2.1), w64 (s.2.1 + 1), s.2.2)))
    .fail)
   (.ret (.out 0 (s.1, s.2.1, s.2.2))))
def L_hauberklaw04_AsmGoes_9 : LoopN where
  M := [4, 5, 7, 9, 10, 11, 12, 13]
  T := [14, 15, 16, 44, 45, 46, 47, 48, 49, 50, 51, 52, 53, 54, 55, 56, 57, 58, 59, 60, 61, 62, 63, 64, 65, 66, 67, 68, 69, 70, 71, 72, 73, 74, 75, 76, 77, 78, 79, 80, 81, 82, 83, 84, 85, 86, 87, 88, 89, 90, 91, 92, 93, 94, 95, 96, 97, 98, 99, 100, 101, 102, 103, 104, 105, 106, 107, 108, 109, 110, 111, 112, 113, 114, 115, 116, 117, 118, 119, 120, 121, 122, 123, 124, 125, 126, 127, 128, 129, 130, 131, 132, 133, 134, 135, 136, 137, 138, 139, 140, 141, 142, 143, 144, 145, 146, 147]
  D := [5, 7, 9, 13]
  ss := [.ty .bool, .ty (.sl tItem), .ty (.sl tPlace), .ty (.int .i64), .ty (.sl tIns), .ty (.int .i64), .ty (.int .i64), .ty (.int .i64)]
  hs := []
  es := [.exit 0, .ret]
  σ := (Ty.den .bool) × (Ty.den (.int .i64)) × (Ty.den (.int .i64)) × (Ty.den (.int .i64))
  x0 := fun x _ => (x.1, x.2.2.2.1, x.2.2.2.2.2.2.1, x.2.2.2.2.2.2.2)
  put := fun x _ s => ((s.1, x.2.1, x.2.2.1, s.2.1, x.2.2.2.2.1, x.2.2.2.2.2.1, s.2.2.1, s.2.2.2), ())
  fuel := fun x _ => List.length x.2.1+1
  turn := fun x _ s =>
  (.ite (decide (s.2.2.2 < lenI x.2.1))
   (.ite (inRange s.2.2.2 (List.length x.2.1))
    (.ite ((List.getD x.2.1 (Int.toNat s.2.2.2) (Ty.dflt tItem)).1 == 1)
     (.ret (.on (s.1, s.2.1, s.2.2.1, w64 (s.2.2.2 + 1))))
     (.ite (decide (s.2.2.1 ≥ lenI x.2.2.2.2.1))
      (.ret (.out 1 (false, s.2.1, s.2.2.1, s.2.2.2)))
      (.ite (inRange s.2.2.1 (List.length x.2.2.2.2.1))
       (.ite (inRange s.2.2.2 (List.length x.2.1) && bif (List.getD x.2.1 (Int.toNat s.2.2.2) (Ty.dflt tItem)).1 == 0 then inRange s.2.2.2 (List.length x.2.1) else true)
        (.ite ((List.getD x.2.1 (Int.toNat s.2.2.2) (Ty.dflt tItem)).1 == 0 && !Ty.eqb tIns (List.getD x.2.2.2.2.1 (Int.toNat s.2.2.1) (Ty.dflt tIns)) (List.getD x.2.1 (Int.toNat s.2.2.2) (Ty.dflt tItem)).2.2.1)
         (.ret (.out 1 (false, s.2.1, w64 (s.2.2.1 + 1), s.2.2.2)))
         (.ite (inRange s.2.2.2 (List.length x.2.1))
          (.ite ((List.getD x.2.1 (Int.toNat s.2.2.2) (Ty.dflt tItem)).1 == 2)
           (.opt (LoopN.res L_hauberklaw04_AsmGoes_21 (x.2.1, x.2.2.1, s.2.1, x.2.2.2.2.1, x.2.2.2.2.2.1, w64 (s.2.2.1 + 1), s.2.2.2, (), false, 0) (List.getD x.2.2.2.2.1 (Int.toNat s.2.2.1) (Ty.dflt tIns))) fun p0 =>
            (.ite (!p0.2.1 || inRange s.2.2.2 (List.length x.2.1) && (p0.2.2.2.1 != (List.getD x.2.1 (Int.toNat s.2.2.2) (Ty.dflt tItem)).2.2.1.1 || inRange s.2.2.2 (List.length x.2.1)))
             (.ite (!p0.2.1 || (p0.2.2.2.1 != (List.getD x.2.1 (Int.toNat s.2.2.2) (Ty.dflt tItem)).2.2.1.1 || p0.2.2.2.2.2.2.2.2.2.1 != (List.getD x.2.1 (Int.toNat s.2.2.2) (Ty.dflt tItem)).2.2.1.2.2.2.2.2.2.1))
              (.ret (.out 1 (false, s.2.1, w64 (s.2.2.1 + 1), s.2.2.2)))
              (.ret (.on (s.1, w64 (s.2.1 + V_thumb_Size p0.2.2.2), w64 (s.2.2.1 + 1), w64 (s.2.2.2 + 1)))))
             .fail))
           (.ret (.on (s.1, w64 (s.2.1 + V_thumb_Size (List.getD x.2.2.2.2.1 (Int.toNat s.2.2.1) (Ty.dflt tIns))), w64 (s.2.2.1 + 1), w64 (s.2.2.2 + 1)))))
          .fail))
        .fail)
       .fail)))
    .fail)
   (.ret (.out 0 (s.1, s.2.1, s.2.2.1, s.2.2.2))))
def L_hauberklaw04_AsmLeast_14 : LoopN where
  M := [2, 6, 7, 8, 11, 12, 13, 14, 15]
  T := [16, 77, 78, 79, 80, 81, 82, 83, 84, 85, 86, 87, 88, 89, 90, 91, 92, 93, 94, 95, 96, 97, 98, 99, 100, 101, 102, 103, 104, 105, 106, 107, 108, 109, 110, 111, 112, 113, 114, 115, 116, 117, 118, 119, 120]
  D := [13, 14, 15]
  ss := [.ty (.sl .bool), .ty .bool, .ty (.sl tItem), .ty .str, .ty (.sl (.int .i64)), .ty (.int .i64), .ty (.int .i64), .ty (.int .i64), .ty (.int .i64)]
  hs := []
  es := [.exit 2, .ret]
  σ := (Ty.den .bool) × (Ty.den (.int .i64))
  x0 := fun x _ => (x.2.1, x.2.2.2.2.2.2.2.2)
  put := fun x _ s => ((x.1, s.1, x.2.2.1, x.2.2.2.1, x.2.2.2.2.1, x.2.2.2.2.2.1, x.2.2.2.2.2.2.1, x.2.2.2.2.2.2.2.1, s.2), ())
  fuel := fun x _ => List.length x.2.2.1+1
  turn := fun x _ s =>
  (.ite (decide (s.2 < lenI x.2.2.1))
   (.ite (inRange s.2 (List.length x.2.2.1) && bif (List.getD x.2.2.1 (Int.toNat s.2) (Ty.dflt tItem)).1 == 1 then inRange s.2 (List.length x.2.2.1) && inRange x.2.2.2.2.2.1 (List.length x.2.2.1) else true)
    (.ite ((List.getD x.2.2.1 (Int.toNat s.2) (Ty.dflt tItem)).1 == 1 && (List.getD x.2.2.1 (Int.toNat s.2) (Ty.dflt tItem)).2.1 == (List.getD x.2.2.1 (Int.toNat x.2.2.2.2.2.1) (Ty.dflt tItem)).2.1)
     (.ite (inRange s.2 (List.length x.2.2.2.2.1) && inRange x.2.2.2.2.2.1 (List.length x.2.2.2.2.1))
      (.ite (decide (w64 (w64 (List.getD x.2.2.2.2.1 (Int.toNat s.2) (Ty.dflt (Ty.int IntKind.i64)) - List.getD x.2.2.2.2.1 (Int.toNat x.2.2.2.2.2.1) (Ty.dflt (Ty.int IntKind.i64))) - 4) < x.2.2.2.2.2.2.1) || decide (w64 (w64 (List.getD x.2.2.2.2.1 (Int.toNat s.2) (Ty.dflt (Ty.int IntKind.i64)) - List.getD x.2.2.2.2.1 (Int.toNat x.2.2.2.2.2.1) (Ty.dflt (Ty.int IntKind.i64))) - 4) > x.2.2.2.2.2.2.2.1))
       (.ret (.out 1 (true, s.2)))
       (.ret (.on (s.1, w64 (s.2 + 1)))))
      .fail)
     (.ret (.on (s.1, w64 (s.2 + 1)))))
    .fail)
   (.ret (.out 0 (s.1, s.2))))
def L_hauberklaw04_AsmLeast_9 : LoopN where
  M := [2, 6, 7, 8, 11, 12]
  T := [13, 14, 15, 16, 43, 44, 45, 46, 47, 48, 49, 50, 51, 52, 53, 54, 55, 56, 57, 58, 59, 60, 61, 62, 63, 64, 65, 66, 67, 68, 69, 70, 71, 72, 73, 74, 75, 76, 77, 78, 79, 80, 81, 82, 83, 84, 85, 86, 87, 88, 89, 90, 91, 92, 93, 94, 95, 96, 97, 98, 99, 100, 101, 102, 103, 104, 105, 106, 107, 108, 109, 110, 111, 112, 113, 114, 115, 116, 117, 118, 119, 120]
  D := [11, 12]
  ss := [.ty (.sl .bool), .ty .bool, .ty (.sl tItem), .ty .str, .ty (.sl (.int .i64)), .ty (.int .i64)]
  hs := []
  es := [.exit 0, .ret]
  σ := (Ty.den .bool) × (Ty.den (.int .i64))
  x0 := fun x _ => (x.2.1, x.2.2.2.2.2)
  put := fun x _ s => ((x.1, s.1, x.2.2.1, x.2.2.2.1, x.2.2.2.2.1, s.2), ())
  fuel := fun x _ => List.length x.2.2.1+1
  turn := fun x _ s =>
  (.ite (decide (s.2 < lenI x.2.2.1))
   (.ite (inRange s.2 (List.length x.2.2.1) && ((List.getD x.2.2.1 (Int.toNat s.2) (Ty.dflt tItem)).1 != 2 || bif decide (s.2 < lenI x.1) then inRange s.2 (List.length x.1) else true))
    (.ite ((List.getD x.2.2.1 (Int.toNat s.2) (Ty.dflt tItem)).1 != 2 || decide (s.2 < lenI x.1) && List.getD x.1 (Int.toNat s.2) (Ty.dflt Ty.bool))
     (.ret (.on (s.1, w64 (s.2 + 1))))
     (.ite (inRange s.2 (List.length x.2.2.1) && true)
      (.opt (LoopN.res L_hauberklaw04_AsmLeast_14 (x.1, s.1, x.2.2.1, x.2.2.2.1, x.2.2.2.2.1, s.2, (V_thumb_Reach ((List.getD x.2.2.1 (Int.toNat s.2) (Ty.dflt tItem)).2.2.1.1, false)).1, (V_thumb_Reach ((List.getD x.2.2.1 (Int.toNat s.2) (Ty.dflt tItem)).2.2.1.1, false)).2.1, 0) ()) fun p0 =>
       (.ite (way p0.1)
        (.ret (.on (p0.2.1, w64 (s.2 + 1))))
        (.ret (.out 1 (p0.2.1, s.2)))))
      .fail))
    .fail)
   (.ret (.out 0 (s.1, s.2))))
def L_hauberklaw04_AsmLeast_23 : LoopN where
  M := [2, 6, 7, 17, 18, 19, 20]
  T := [126, 127, 128, 129, 130, 131, 132, 133, 134, 135, 136, 137, 138, 139, 140, 141, 142, 143, 144, 145, 146, 147, 148, 149, 150, 151, 152, 153, 154, 155, 156, 157, 158, 159, 160, 161, 162, 163, 164, 165, 166, 167, 168, 169, 170, 171]
  D := [2, 7, 17, 19, 20]
  ss := [.ty (.sl .bool), .ty .bool, .ty (.sl tItem), .ty (.sl tIns), .ty (.int .i64), .ty (.int .i64), .ty (.int .i64)]
  hs := []
  es := [.exit 4, .ret]
  σ := (Ty.den .bool) × (Ty.den (.int .i64)) × (Ty.den (.int .i64))
  x0 := fun x _ => (x.2.1, x.2.2.2.2.2.1, x.2.2.2.2.2.2)
  put := fun x _ s => ((x.1, s.1, x.2.2.1, x.2.2.2.1, x.2.2.2.2.1, s.2.1, s.2.2), ())
  fuel := fun x _ => List.length x.2.2.1+1
  turn := fun x _ s =>
  (.ite (decide (s.2.2 < lenI x.2.2.1) && decide (s.2.1 < lenI x.2.2.2.1))
   (.ite (inRange s.2.2 (List.length x.2.2.1))
    (.ite ((List.getD x.2.2.1 (Int.toNat s.2.2) (Ty.dflt tItem)).1 == 1)
     (.ret (.on (s.1, s.2.1, w64 (s.2.2 + 1))))
     (.ite (inRange s.2.1 (List.length x.2.2.2.1) && bif (List.getD x.2.2.2.1 (Int.toNat s.2.1) (Ty.dflt tIns)).2.2.2.2.2.2.2.1 then inRange s.2.2 (List.length x.2.2.1) && bif (List.getD x.2.2.1 (Int.toNat s.2.2) (Ty.dflt tItem)).1 == 2 then bif decide (s.2.2 < lenI x.1) then inRange s.2.2 (List.length x.1) else true else true else true)
      (.ite ((List.getD x.2.2.2.1 (Int.toNat s.2.1) (Ty.dflt tIns)).2.2.2.2.2.2.2.1 && ((List.getD x.2.2.1 (Int.toNat s.2.2) (Ty.dflt tItem)).1 == 2 && bif decide (s.2.2 < lenI x.1) then !List.getD x.1 (Int.toNat s.2.2) (Ty.dflt Ty.bool) else true))
       (.ret (.out 1 (false, s.2.1, s.2.2)))
       (.ret (.on (s.1, w64 (s.2.1 + 1), w64 (s.2.2 + 1)))))
      .fail))
    .fail)
   (.ret (.out 0 (s.1, s.2.1, s.2.2))))
/-- hauberklaw04.AsmLeast -/
abbrev A_hauberklaw04_AsmLeast : List Ty := [(.sl tRun), (.int .i64), (.sl .bool)]
abbrev S_hauberklaw04_AsmLeast : Sh := Sh.ty Ty.bool
def K_hauberklaw04_AsmLeast_0 (x : dens [(.sl tRun), (.int .i64), (.sl .bool)]) := lenI (V_asm_Lay (V_hauberklaw04_Items x.1, x.2)) != w64 (lenI (V_hauberklaw04_Items x.1) + 1)
def K_hauberklaw04_AsmLeast_1 (x : dens [(.sl tRun), (.int .i64), (.sl .bool)]) := LoopN.res L_hauberklaw04_AsmLeast_9 (x.2.2, false, V_hauberklaw04_Items x.1, (V_asm_Assemble (V_hauberklaw04_Items x.1, x.2.1)).1, V_asm_Lay (V_hauberklaw04_Items x.1, x.2), 0) ()
def T_hauberklaw04_AsmLeast (x : dens A_hauberklaw04_AsmLeast) : PO (Sh.den S_hauberklaw04_AsmLeast) :=
  (.ite (G_hauberklaw04_Items x.1)
   (.ite (G_asm_Assemble (V_hauberklaw04_Items x.1, x.2.1))
    (.ite ((V_asm_Assemble (V_hauberklaw04_Items x.1, x.2.1)).2.2.1 != 0)
     (.ret (true))
     (.ite (G_asm_Lay (V_hauberklaw04_Items x.1, x.2))
      (.ite (K_hauberklaw04_AsmLeast_0 x)
       (.ret (false))
       (.opt (K_hauberklaw04_AsmLeast_1 x) fun p0 =>
        (.ite (way p0.1)
         (.ite (G_decode_All (V_asm_Assemble (V_hauberklaw04_Items x.1, x.2.1)).1)
          (.opt (LoopN.res L_hauberklaw04_AsmLeast_23 (x.2.2, p0.2.1, V_hauberklaw04_Items x.1, (V_decode_All (V_asm_Assemble (V_hauberklaw04_Items x.1, x.2.1)).1).1, (V_decode_All (V_asm_Assemble (V_hauberklaw04_Items x.1, x.2.1)).1).2.1, 0, 0) ()) fun p1 =>
           (.ite (way p1.1)
            (.ite ((V_decode_All (V_asm_Assemble (V_hauberklaw04_Items x.1, x.2.1)).1).2.1 == 0 || true)
             (.ret ((V_decode_All (V_asm_Assemble (V_hauberklaw04_Items x.1, x.2.1)).1).2.1 == 0 && true))
             .fail)
            (.ret (p1.2.1))))
          .fail)
         (.ret (p0.2.1)))))
      .fail))
    .fail)
   .fail)
end Go.Av
end
