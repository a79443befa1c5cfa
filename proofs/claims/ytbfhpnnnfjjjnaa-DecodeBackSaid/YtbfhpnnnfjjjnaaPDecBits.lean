/- Layer 3: the decoder on lists of bits. Written by wip/tools/decbits.py. -/
import Derived.Test.YtbfhpnnnfjjjnaaPHBits
namespace Go.Av
open Go
theorem sl_length (l : List Bool) (a m : Nat) : (sl l a m).length = min m (l.length - a) := by
  unfold sl; rw [List.length_drop, List.length_take]; omega
theorem signed_H_ (l : List Bool) (m : Nat) (hm : 0 < m) (h : l.length = m) : V_decode_signed (H l, (m : Int)) = SG l := by
  match l with
  | [] => simp at h; omega
  | b :: r => rw [← h]; exact signed_H b r
theorem SG_lt (l : List Bool) (m : Nat) (h : l.length ≤ m) : -((2 ^ m : Nat) : Int) ≤ SG l ∧ SG l < (2 ^ m : Nat) := by
  match l with
  | [] => have := Nat.two_pow_pos m; exact ⟨by show _ ≤ (0 : Int); omega, by show (0 : Int) < _; omega⟩
  | b :: r =>
    have h1 := H_nonneg r
    have h2 := H_lt (l := r) (Nat.le_refl _)
    have h3 : 2 ^ (r.length + 1) ≤ 2 ^ m := pow_lt h
    rw [Nat.pow_succ] at h3
    unfold SG
    cases b
    · simp only [Bool.toNat_false]; constructor <;> omega
    · simp only [Bool.toNat_true]; constructor <;> omega
theorem twice_SG (l : List Bool) (m : Nat) (hm : 0 < m) (h2 : m ≤ 24) (h : l.length = m) : w64 (2 * SG l) = SG (l ++ [false]) := by
  have hb := SG_lt l 24 (by omega)
  rw [w64_id (by omega) (by omega)]
  rcases SG_twice l with e | e
  · exact e
  · subst e; simp at h; omega
theorem gsigned_H (l : List Bool) (m : Nat) (h1 : 1 ≤ m) (h2 : m ≤ 24) (h : l.length = m) : G_decode_signed (H l, (m : Int)) = true := by
  have hb := H_nonneg l
  have hc := H_lt (l := l) (k := 24) (by omega)
  show (decide ((1 : Int) ≤ (m : Int)) && (decide ((m : Int) ≤ 24) && (decide (0 ≤ H l) && decide (H l < 33554432)))) = true
  rw [dec_true (by omega), dec_true (by omega), dec_true (by omega), dec_true (by omega)]
  rfl
/-- Are bits alike? -/
def nx (j s : Bool) : Bool := !(j ^^ s)
theorem bx_H : ∀ (a b : List Bool), a.length = 1 → b.length = 1 → bxor IntKind.i64 (bxor IntKind.i64 1 (H a)) (H b) = H (List.zipWith nx a b)
  | [false], [false], _, _ => rfl
  | [true], [false], _, _ => rfl
  | [false], [true], _, _ => rfl
  | [true], [true], _, _ => rfl
theorem w_small (z : Int) (h1 : -1000000 ≤ z) (h2 : z ≤ 1000000) : w64 z = z := w64_id (by omega) (by omega)
/-- May a register be? -/
def le12 (v : Int) : Bool := decide (v ≤ 12)
abbrev D1 := tIns.den × Bool × Unit
/-- What is decoded, if it is. -/
def op1 (o : Option D1) : Option (Option tIns.den) := o.map fun p => bif p.2.1 then some p.1 else none
theorem op1_step (c : Bool) {a b : Option D1} {a' b' : Option tIns.den} (h1 : op1 a = some a') (h2 : op1 b = some b') : op1 (bif c then a else b) = some (bif c then a' else b') := by cases c <;> assumption
theorem op1_get {o : Option D1} {d : Option tIns.den} (h : op1 o = some d) : ∃ p : D1, o = some p ∧ (bif p.2.1 then some p.1 else none) = d := by
  cases o with
  | none => cases h
  | some p => exact ⟨p, rfl, Option.some.inj h⟩
def dNarrow (l : List Bool) : Option tIns.den :=
 (bif (eqC l 48896) then
 (some (1, 0, 0, 0, 0, 0, 0, false, ())) else
 (bif (eqC (l.take 8) 190) then
 (some (2, 0, 0, 0, 0, H (sl l 0 8), 0, false, ())) else
 (bif (eqC (l.take 10) 416) then
 (some (19, H (sl l 0 3), H (sl l 3 3), 0, 0, 0, 0, false, ())) else
 (bif (eqC (l.take 10) 384) then
 (some (20, H (sl l 0 3), H (sl l 3 3), 0, 0, 0, 0, false, ())) else
 (bif (eqC (l.take 10) 480) then
 (some (21, H (sl l 0 3), H (sl l 3 3), 0, 0, 0, 0, false, ())) else
 (bif (eqC (l.take 10) 448) then
 (some (22, H (sl l 0 3), H (sl l 3 3), 0, 0, 0, 0, false, ())) else
 (bif (eqC (l.take 10) 266) then
 (some (23, 0, H (sl l 0 3), H (sl l 3 3), 0, 0, 0, false, ())) else
 (bif (eqC (l.take 5) 28) then
 (some (24, 0, 0, 0, 0, SG (sl l 0 11 ++ [false]), 0, false, ())) else
 (bif (eqC (l.take 4) 13 && decide (H (sl l 8 4) ≤ 13)) then
 (some (25, 0, 0, 0, 0, SG (sl l 0 8 ++ [false]), H (sl l 8 4), false, ())) else
 none)))))))))
theorem narrow_T (l : List Bool) (hl : l.length = 16) : op1 (T_decode_narrow (H l)).val = some (dNarrow l) := by
  have g1 : G_decode_some (H l, 0, 3) = true := rfl
  have g2 : G_decode_some (H l, 3, 3) = true := rfl
  have g3 : G_decode_some (H l, 0, 8) = true := rfl
  have g4 : G_decode_some (H l, 0, 11) = true := rfl
  have g5 : G_decode_some (H l, 8, 4) = true := rfl
  have g6 : V_decode_some (H l, 0, 8) = H (sl l 0 8) := some_H l 0 8 (by omega)
  have g7 : V_decode_some (H l, 0, 3) = H (sl l 0 3) := some_H l 0 3 (by omega)
  have g8 : V_decode_some (H l, 3, 3) = H (sl l 3 3) := some_H l 3 3 (by omega)
  have g9 : V_decode_some (H l, 0, 11) = H (sl l 0 11) := some_H l 0 11 (by omega)
  have g10 : V_decode_some (H l, 8, 4) = H (sl l 8 4) := some_H l 8 4 (by omega)
  have g11 : (ishr IntKind.i64 (H l) 8 == 190) = eqC (l.take 8) 190 := (by have := shr_H l 8 190 (by omega) (by omega) (by rw [hl]; decide); rw [hl] at this; exact this)
  have g12 : (ishr IntKind.i64 (H l) 6 == 416) = eqC (l.take 10) 416 := (by have := shr_H l 6 416 (by omega) (by omega) (by rw [hl]; decide); rw [hl] at this; exact this)
  have g13 : (ishr IntKind.i64 (H l) 6 == 384) = eqC (l.take 10) 384 := (by have := shr_H l 6 384 (by omega) (by omega) (by rw [hl]; decide); rw [hl] at this; exact this)
  have g14 : (ishr IntKind.i64 (H l) 6 == 480) = eqC (l.take 10) 480 := (by have := shr_H l 6 480 (by omega) (by omega) (by rw [hl]; decide); rw [hl] at this; exact this)
  have g15 : (ishr IntKind.i64 (H l) 6 == 448) = eqC (l.take 10) 448 := (by have := shr_H l 6 448 (by omega) (by omega) (by rw [hl]; decide); rw [hl] at this; exact this)
  have g16 : (ishr IntKind.i64 (H l) 6 == 266) = eqC (l.take 10) 266 := (by have := shr_H l 6 266 (by omega) (by omega) (by rw [hl]; decide); rw [hl] at this; exact this)
  have g17 : (ishr IntKind.i64 (H l) 11 == 28) = eqC (l.take 5) 28 := (by have := shr_H l 11 28 (by omega) (by omega) (by rw [hl]; decide); rw [hl] at this; exact this)
  have g18 : (ishr IntKind.i64 (H l) 12 == 13) = eqC (l.take 4) 13 := (by have := shr_H l 12 13 (by omega) (by omega) (by rw [hl]; decide); rw [hl] at this; exact this)
  have g19 : (H l == 48896) = eqC l 48896 := eqC_H l 48896 (by rw [hl]; decide)
  have g20 : V_decode_signed (H (sl l 0 11), 11) = SG (sl l 0 11) := signed_H_ (sl l 0 11) 11 (by omega) (by simp [sl_length, hl])
  have g21 : G_decode_signed (H (sl l 0 11), 11) = true := gsigned_H _ 11 (by omega) (by omega) (by simp [sl_length, hl])
  have g22 : w64 (2 * SG (sl l 0 11)) = SG (sl l 0 11 ++ [false]) := twice_SG (sl l 0 11) 11 (by omega) (by omega) (by simp [sl_length, hl])
  have g23 : V_decode_signed (H (sl l 0 8), 8) = SG (sl l 0 8) := signed_H_ (sl l 0 8) 8 (by omega) (by simp [sl_length, hl])
  have g24 : G_decode_signed (H (sl l 0 8), 8) = true := gsigned_H _ 8 (by omega) (by omega) (by simp [sl_length, hl])
  have g25 : w64 (2 * SG (sl l 0 8)) = SG (sl l 0 8 ++ [false]) := twice_SG (sl l 0 8) 8 (by omega) (by omega) (by simp [sl_length, hl])
  simp only [T_decode_narrow, PO.val, g1, g2, g3, g4, g5, g6, g7, g8, g9, g10, g11, g12, g13, g14, g15, g16, g17, g18, g19, g20, g21, g22, g23, g24, g25, bne, Bool.and_self, cond_true, cond_false, Bool.cond_self]
  unfold dNarrow
  repeat' (first | refine op1_step _ ?_ ?_ | rfl)
def dThree (lx ly : List Bool) : Option tIns.den :=
 (bif (eqC (ly.take 1) 1) then
 none else
 (bif (eqC lx 59983) then
 (bif ((le12 (H (sl ly 8 4)) && (le12 (H (sl ly 0 4)) && true))) then
 (bif (eqC (sl ly 4 2) 0) then
 (some ((5 + H (sl ly 4 2)), H (sl ly 8 4), 0, H (sl ly 0 4), 0, H (sl ly 12 3 ++ sl ly 6 2), 0, false, ())) else
 (bif (decide (H (sl ly 12 3 ++ sl ly 6 2) > 0)) then some ((5 + H (sl ly 4 2)), H (sl ly 8 4), 0, H (sl ly 0 4), 0, H (sl ly 12 3 ++ sl ly 6 2), 0, false, ()) else none)) else
 none) else
 (bif (eqC lx 60015) then
 (bif ((le12 (H (sl ly 8 4)) && (le12 (H (sl ly 0 4)) && true))) then
 (bif (eqC (sl ly 4 2) 0) then
 (bif (eqC (sl ly 12 3 ++ sl ly 6 2) 0) then some (9, H (sl ly 8 4), 0, H (sl ly 0 4), 0, 0, 0, false, ()) else none) else
 none) else
 none) else
 (bif (eqC (List.zipWith (· && ·) (bitsN 16 65520) lx) 59904) then
 (bif ((le12 (H (sl ly 8 4)) && (le12 (H (sl lx 0 4)) && (le12 (H (sl ly 0 4)) && true)))) then
 (bif (eqC (sl ly 4 2) 0) then
 (bif (eqC (sl ly 12 3 ++ sl ly 6 2) 0) then some (10, H (sl ly 8 4), H (sl lx 0 4), H (sl ly 0 4), 0, 0, 0, false, ()) else none) else
 none) else
 none) else
 (bif (eqC (List.zipWith (· && ·) (bitsN 16 65520) lx) 59936) then
 (bif ((le12 (H (sl ly 8 4)) && (le12 (H (sl lx 0 4)) && (le12 (H (sl ly 0 4)) && true)))) then
 (bif (eqC (sl ly 4 2) 0) then
 (bif (eqC (sl ly 12 3 ++ sl ly 6 2) 0) then some (11, H (sl ly 8 4), H (sl lx 0 4), H (sl ly 0 4), 0, 0, 0, false, ()) else none) else
 none) else
 none) else
 (bif (eqC (List.zipWith (· && ·) (bitsN 16 65520) lx) 59968) then
 (bif ((le12 (H (sl ly 8 4)) && (le12 (H (sl lx 0 4)) && (le12 (H (sl ly 0 4)) && true)))) then
 (bif (eqC (sl ly 4 2) 0) then
 (bif (eqC (sl ly 12 3 ++ sl ly 6 2) 0) then some (12, H (sl ly 8 4), H (sl lx 0 4), H (sl ly 0 4), 0, 0, 0, false, ()) else none) else
 none) else
 none) else
 (bif (eqC (List.zipWith (· && ·) (bitsN 16 65520) lx) 60032) then
 (bif ((le12 (H (sl ly 8 4)) && (le12 (H (sl lx 0 4)) && (le12 (H (sl ly 0 4)) && true)))) then
 (bif (eqC (sl ly 4 2) 0) then
 (bif (eqC (sl ly 12 3 ++ sl ly 6 2) 0) then some (13, H (sl ly 8 4), H (sl lx 0 4), H (sl ly 0 4), 0, 0, 0, false, ()) else none) else
 none) else
 none) else
 (bif (eqC (List.zipWith (· && ·) (bitsN 16 65520) lx) 60160) then
 (bif ((le12 (H (sl ly 8 4)) && (le12 (H (sl lx 0 4)) && (le12 (H (sl ly 0 4)) && true)))) then
 (bif (eqC (sl ly 4 2) 0) then
 (bif (eqC (sl ly 12 3 ++ sl ly 6 2) 0) then some (14, H (sl ly 8 4), H (sl lx 0 4), H (sl ly 0 4), 0, 0, 0, false, ()) else none) else
 none) else
 none) else
 (bif (eqC (List.zipWith (· && ·) (bitsN 16 65520) lx) 60320) then
 (bif ((le12 (H (sl ly 8 4)) && (le12 (H (sl lx 0 4)) && (le12 (H (sl ly 0 4)) && true)))) then
 (bif (eqC (sl ly 4 2) 0) then
 (bif (eqC (sl ly 12 3 ++ sl ly 6 2) 0) then some (15, H (sl ly 8 4), H (sl lx 0 4), H (sl ly 0 4), 0, 0, 0, false, ()) else none) else
 none) else
 none) else
 none)))))))))
theorem three_T (lx ly : List Bool) (hlx : lx.length = 16) (hly : ly.length = 16) : op1 (T_decode_three (H lx, H ly)).val = some (dThree lx ly) := by
  have g1 : G_decode_some (H ly, 8, 4) = true := rfl
  have g2 : G_decode_some (H lx, 0, 4) = true := rfl
  have g3 : G_decode_some (H ly, 0, 4) = true := rfl
  have g4 : G_decode_some (H ly, 12, 3) = true := rfl
  have g5 : G_decode_some (H ly, 6, 2) = true := rfl
  have g6 : G_decode_some (H ly, 4, 2) = true := rfl
  have g7 : ∀ a : Int, G_decode_regs [a] = true := fun _ => rfl
  have g8 : ∀ a b : Int, G_decode_regs [a, b] = true := fun _ _ => rfl
  have g9 : ∀ a b c : Int, G_decode_regs [a, b, c] = true := fun _ _ _ => rfl
  have g10 : ∀ a b c d : Int, G_decode_regs [a, b, c, d] = true := fun _ _ _ _ => rfl
  have g11 : V_decode_some (H ly, 8, 4) = H (sl ly 8 4) := some_H ly 8 4 (by omega)
  have g12 : V_decode_some (H ly, 0, 4) = H (sl ly 0 4) := some_H ly 0 4 (by omega)
  have g13 : V_decode_some (H ly, 4, 2) = H (sl ly 4 2) := some_H ly 4 2 (by omega)
  have g14 : V_decode_some (H ly, 12, 3) = H (sl ly 12 3) := some_H ly 12 3 (by omega)
  have g15 : V_decode_some (H ly, 6, 2) = H (sl ly 6 2) := some_H ly 6 2 (by omega)
  have g16 : V_decode_some (H lx, 0, 4) = H (sl lx 0 4) := some_H lx 0 4 (by omega)
  have g17 : (ishr IntKind.i64 (H ly) 15 == 1) = eqC (ly.take 1) 1 := (by have := shr_H ly 15 1 (by omega) (by omega) (by rw [hly]; decide); rw [hly] at this; exact this)
  have g18 : (bnot IntKind.i64 (H lx) 15 == 59904) = eqC (List.zipWith (· && ·) (bitsN 16 65520) lx) 59904 := (by rw [show bnot IntKind.i64 (H lx) 15 = H (List.zipWith (· && ·) (bitsN 16 65520) lx) from bnot_H lx 15 hlx (by omega)]; exact eqC_H (List.zipWith (· && ·) (bitsN 16 65520) lx) 59904 (by rw [List.length_zipWith, bitsN_len, hlx]; decide))
  have g19 : (bnot IntKind.i64 (H lx) 15 == 59936) = eqC (List.zipWith (· && ·) (bitsN 16 65520) lx) 59936 := (by rw [show bnot IntKind.i64 (H lx) 15 = H (List.zipWith (· && ·) (bitsN 16 65520) lx) from bnot_H lx 15 hlx (by omega)]; exact eqC_H (List.zipWith (· && ·) (bitsN 16 65520) lx) 59936 (by rw [List.length_zipWith, bitsN_len, hlx]; decide))
  have g20 : (bnot IntKind.i64 (H lx) 15 == 59968) = eqC (List.zipWith (· && ·) (bitsN 16 65520) lx) 59968 := (by rw [show bnot IntKind.i64 (H lx) 15 = H (List.zipWith (· && ·) (bitsN 16 65520) lx) from bnot_H lx 15 hlx (by omega)]; exact eqC_H (List.zipWith (· && ·) (bitsN 16 65520) lx) 59968 (by rw [List.length_zipWith, bitsN_len, hlx]; decide))
  have g21 : (bnot IntKind.i64 (H lx) 15 == 60032) = eqC (List.zipWith (· && ·) (bitsN 16 65520) lx) 60032 := (by rw [show bnot IntKind.i64 (H lx) 15 = H (List.zipWith (· && ·) (bitsN 16 65520) lx) from bnot_H lx 15 hlx (by omega)]; exact eqC_H (List.zipWith (· && ·) (bitsN 16 65520) lx) 60032 (by rw [List.length_zipWith, bitsN_len, hlx]; decide))
  have g22 : (bnot IntKind.i64 (H lx) 15 == 60160) = eqC (List.zipWith (· && ·) (bitsN 16 65520) lx) 60160 := (by rw [show bnot IntKind.i64 (H lx) 15 = H (List.zipWith (· && ·) (bitsN 16 65520) lx) from bnot_H lx 15 hlx (by omega)]; exact eqC_H (List.zipWith (· && ·) (bitsN 16 65520) lx) 60160 (by rw [List.length_zipWith, bitsN_len, hlx]; decide))
  have g23 : (bnot IntKind.i64 (H lx) 15 == 60320) = eqC (List.zipWith (· && ·) (bitsN 16 65520) lx) 60320 := (by rw [show bnot IntKind.i64 (H lx) 15 = H (List.zipWith (· && ·) (bitsN 16 65520) lx) from bnot_H lx 15 hlx (by omega)]; exact eqC_H (List.zipWith (· && ·) (bitsN 16 65520) lx) 60320 (by rw [List.length_zipWith, bitsN_len, hlx]; decide))
  have g24 : (H lx == 59983) = eqC lx 59983 := eqC_H lx 59983 (by rw [hlx]; decide)
  have g25 : (H lx == 60015) = eqC lx 60015 := eqC_H lx 60015 (by rw [hlx]; decide)
  have g26 : bor IntKind.i64 (ishl IntKind.i64 (H (sl ly 12 3)) 2) (H (sl ly 6 2)) = H (sl ly 12 3 ++ sl ly 6 2) := bor2 (sl ly 12 3) (sl ly 6 2) 2 (by simp [sl_length, hlx, hly]) (by simp [sl_length, hlx, hly])
  have g27 : V_decode_regs [H (sl ly 8 4), H (sl ly 0 4)] = (le12 (H (sl ly 8 4)) && (le12 (H (sl ly 0 4)) && true)) := rfl
  have g28 : V_decode_regs [H (sl ly 8 4), H (sl lx 0 4), H (sl ly 0 4)] = (le12 (H (sl ly 8 4)) && (le12 (H (sl lx 0 4)) && (le12 (H (sl ly 0 4)) && true))) := rfl
  have g29 : (H (sl ly 4 2) == 0) = eqC (sl ly 4 2) 0 := eqC_H (sl ly 4 2) 0 (by rw [show (sl ly 4 2).length = 2 by simp [sl_length, hlx, hly]]; decide)
  have g30 : (H (sl ly 12 3 ++ sl ly 6 2) == 0) = eqC (sl ly 12 3 ++ sl ly 6 2) 0 := eqC_H (sl ly 12 3 ++ sl ly 6 2) 0 (by rw [show (sl ly 12 3 ++ sl ly 6 2).length = 5 by simp [sl_length, hlx, hly]]; decide)
  have g31 : w64 (5 + H (sl ly 4 2)) = (5 + H (sl ly 4 2)) := w_small _ (by have := H_nonneg (sl ly 4 2); omega) (by have := H_lt (l := sl ly 4 2) (k := 4) (by simp [sl_length, hlx, hly]); omega)
  simp only [T_decode_three, PO.val, g1, g2, g3, g4, g5, g6, g7, g8, g9, g10, g11, g12, g13, g14, g15, g16, g17, g18, g19, g20, g21, g22, g23, g24, g25, g26, g27, g28, g29, g30, g31, bne, Bool.and_self, cond_true, cond_false, Bool.cond_self]
  unfold dThree
  repeat' (first | refine op1_step _ ?_ ?_ | rfl)
def dProduct (lx ly : List Bool) : Option tIns.den :=
 (bif (!eqC (sl ly 4 4) 0) then
 none else
 (bif (eqC (List.zipWith (· && ·) (bitsN 16 65520) lx) 64256) then
 (bif (eqC (sl ly 12 4) 15) then
 (bif ((le12 (H (sl ly 8 4)) && (le12 (H (sl lx 0 4)) && (le12 (H (sl ly 0 4)) && true)))) then some (16, H (sl ly 8 4), H (sl lx 0 4), H (sl ly 0 4), 0, 0, 0, false, ()) else none) else
 none) else
 (bif (eqC (List.zipWith (· && ·) (bitsN 16 65520) lx) 64416) then
 (bif (H (sl ly 12 4) != H (sl ly 8 4)) then
 (bif ((le12 (H (sl ly 12 4)) && (le12 (H (sl ly 8 4)) && (le12 (H (sl lx 0 4)) && (le12 (H (sl ly 0 4)) && true))))) then some (17, H (sl ly 12 4), H (sl lx 0 4), H (sl ly 0 4), H (sl ly 8 4), 0, 0, false, ()) else none) else
 none) else
 none)))
theorem product_T (lx ly : List Bool) (hlx : lx.length = 16) (hly : ly.length = 16) : op1 (T_decode_product (H lx, H ly)).val = some (dProduct lx ly) := by
  have g1 : G_decode_some (H lx, 0, 4) = true := rfl
  have g2 : G_decode_some (H ly, 0, 4) = true := rfl
  have g3 : G_decode_some (H ly, 12, 4) = true := rfl
  have g4 : G_decode_some (H ly, 8, 4) = true := rfl
  have g5 : G_decode_some (H ly, 4, 4) = true := rfl
  have g6 : ∀ a : Int, G_decode_regs [a] = true := fun _ => rfl
  have g7 : ∀ a b : Int, G_decode_regs [a, b] = true := fun _ _ => rfl
  have g8 : ∀ a b c : Int, G_decode_regs [a, b, c] = true := fun _ _ _ => rfl
  have g9 : ∀ a b c d : Int, G_decode_regs [a, b, c, d] = true := fun _ _ _ _ => rfl
  have g10 : V_decode_some (H ly, 4, 4) = H (sl ly 4 4) := some_H ly 4 4 (by omega)
  have g11 : V_decode_some (H ly, 12, 4) = H (sl ly 12 4) := some_H ly 12 4 (by omega)
  have g12 : V_decode_some (H ly, 8, 4) = H (sl ly 8 4) := some_H ly 8 4 (by omega)
  have g13 : V_decode_some (H lx, 0, 4) = H (sl lx 0 4) := some_H lx 0 4 (by omega)
  have g14 : V_decode_some (H ly, 0, 4) = H (sl ly 0 4) := some_H ly 0 4 (by omega)
  have g15 : (bnot IntKind.i64 (H lx) 15 == 64256) = eqC (List.zipWith (· && ·) (bitsN 16 65520) lx) 64256 := (by rw [show bnot IntKind.i64 (H lx) 15 = H (List.zipWith (· && ·) (bitsN 16 65520) lx) from bnot_H lx 15 hlx (by omega)]; exact eqC_H (List.zipWith (· && ·) (bitsN 16 65520) lx) 64256 (by rw [List.length_zipWith, bitsN_len, hlx]; decide))
  have g16 : (bnot IntKind.i64 (H lx) 15 == 64416) = eqC (List.zipWith (· && ·) (bitsN 16 65520) lx) 64416 := (by rw [show bnot IntKind.i64 (H lx) 15 = H (List.zipWith (· && ·) (bitsN 16 65520) lx) from bnot_H lx 15 hlx (by omega)]; exact eqC_H (List.zipWith (· && ·) (bitsN 16 65520) lx) 64416 (by rw [List.length_zipWith, bitsN_len, hlx]; decide))
  have g17 : V_decode_regs [H (sl ly 8 4), H (sl lx 0 4), H (sl ly 0 4)] = (le12 (H (sl ly 8 4)) && (le12 (H (sl lx 0 4)) && (le12 (H (sl ly 0 4)) && true))) := rfl
  have g18 : V_decode_regs [H (sl ly 12 4), H (sl ly 8 4), H (sl lx 0 4), H (sl ly 0 4)] = (le12 (H (sl ly 12 4)) && (le12 (H (sl ly 8 4)) && (le12 (H (sl lx 0 4)) && (le12 (H (sl ly 0 4)) && true)))) := rfl
  have g19 : (H (sl ly 4 4) == 0) = eqC (sl ly 4 4) 0 := eqC_H (sl ly 4 4) 0 (by rw [show (sl ly 4 4).length = 4 by simp [sl_length, hlx, hly]]; decide)
  have g20 : (H (sl ly 12 4) == 15) = eqC (sl ly 12 4) 15 := eqC_H (sl ly 12 4) 15 (by rw [show (sl ly 12 4).length = 4 by simp [sl_length, hlx, hly]]; decide)
  simp only [T_decode_product, PO.val, g1, g2, g3, g4, g5, g6, g7, g8, g9, g10, g11, g12, g13, g14, g15, g16, g17, g18, g19, g20, bne, Bool.and_self, cond_true, cond_false, Bool.cond_self]
  unfold dProduct
  repeat' (first | refine op1_step _ ?_ ?_ | rfl)
def dPlain (lx ly : List Bool) : Option tIns.den :=
 (bif (eqC (ly.take 1) 1) then
 none else
 (bif (eqC (List.zipWith (· && ·) (bitsN 16 65520) lx) 62304) then
 (bif (eqC (sl ly 5 1) 0) then
 (bif (decide ((H (sl ly 0 5) + 1 - H (sl ly 12 3 ++ sl ly 6 2)) ≥ 1)) then
 (bif ((le12 (H (sl ly 8 4)) && (le12 (H (sl lx 0 4)) && true))) then some (18, H (sl ly 8 4), H (sl lx 0 4), 0, (H (sl ly 0 5) + 1 - H (sl ly 12 3 ++ sl ly 6 2)), H (sl ly 12 3 ++ sl ly 6 2), 0, false, ()) else none) else
 none) else
 none) else
 (bif (eqC (List.zipWith (· && ·) (bitsN 16 64496) lx) 62016) then
 (bif ((le12 (H (sl ly 8 4)) && true)) then some (3, H (sl ly 8 4), 0, 0, 0, H (sl lx 0 4 ++ sl lx 10 1 ++ sl ly 12 3 ++ sl ly 0 8), 0, false, ()) else none) else
 (bif (eqC (List.zipWith (· && ·) (bitsN 16 64496) lx) 62144) then
 (bif ((le12 (H (sl ly 8 4)) && true)) then some (4, H (sl ly 8 4), 0, 0, 0, H (sl lx 0 4 ++ sl lx 10 1 ++ sl ly 12 3 ++ sl ly 0 8), 0, false, ()) else none) else
 none))))
theorem plain_T (lx ly : List Bool) (hlx : lx.length = 16) (hly : ly.length = 16) : op1 (T_decode_plain (H lx, H ly)).val = some (dPlain lx ly) := by
  have g1 : G_decode_some (H ly, 8, 4) = true := rfl
  have g2 : G_decode_some (H lx, 0, 4) = true := rfl
  have g3 : G_decode_some (H ly, 12, 3) = true := rfl
  have g4 : G_decode_some (H ly, 6, 2) = true := rfl
  have g5 : G_decode_some (H ly, 0, 5) = true := rfl
  have g6 : G_decode_some (H ly, 5, 1) = true := rfl
  have g7 : G_decode_some (H lx, 10, 1) = true := rfl
  have g8 : G_decode_some (H ly, 0, 8) = true := rfl
  have g9 : ∀ a : Int, G_decode_regs [a] = true := fun _ => rfl
  have g10 : ∀ a b : Int, G_decode_regs [a, b] = true := fun _ _ => rfl
  have g11 : ∀ a b c : Int, G_decode_regs [a, b, c] = true := fun _ _ _ => rfl
  have g12 : ∀ a b c d : Int, G_decode_regs [a, b, c, d] = true := fun _ _ _ _ => rfl
  have g13 : V_decode_some (H ly, 5, 1) = H (sl ly 5 1) := some_H ly 5 1 (by omega)
  have g14 : V_decode_some (H ly, 0, 5) = H (sl ly 0 5) := some_H ly 0 5 (by omega)
  have g15 : V_decode_some (H ly, 12, 3) = H (sl ly 12 3) := some_H ly 12 3 (by omega)
  have g16 : V_decode_some (H ly, 6, 2) = H (sl ly 6 2) := some_H ly 6 2 (by omega)
  have g17 : V_decode_some (H ly, 8, 4) = H (sl ly 8 4) := some_H ly 8 4 (by omega)
  have g18 : V_decode_some (H lx, 0, 4) = H (sl lx 0 4) := some_H lx 0 4 (by omega)
  have g19 : V_decode_some (H lx, 10, 1) = H (sl lx 10 1) := some_H lx 10 1 (by omega)
  have g20 : V_decode_some (H ly, 0, 8) = H (sl ly 0 8) := some_H ly 0 8 (by omega)
  have g21 : (ishr IntKind.i64 (H ly) 15 == 1) = eqC (ly.take 1) 1 := (by have := shr_H ly 15 1 (by omega) (by omega) (by rw [hly]; decide); rw [hly] at this; exact this)
  have g22 : (bnot IntKind.i64 (H lx) 15 == 62304) = eqC (List.zipWith (· && ·) (bitsN 16 65520) lx) 62304 := (by rw [show bnot IntKind.i64 (H lx) 15 = H (List.zipWith (· && ·) (bitsN 16 65520) lx) from bnot_H lx 15 hlx (by omega)]; exact eqC_H (List.zipWith (· && ·) (bitsN 16 65520) lx) 62304 (by rw [List.length_zipWith, bitsN_len, hlx]; decide))
  have g23 : (bnot IntKind.i64 (H lx) 1039 == 62016) = eqC (List.zipWith (· && ·) (bitsN 16 64496) lx) 62016 := (by rw [show bnot IntKind.i64 (H lx) 1039 = H (List.zipWith (· && ·) (bitsN 16 64496) lx) from bnot_H lx 1039 hlx (by omega)]; exact eqC_H (List.zipWith (· && ·) (bitsN 16 64496) lx) 62016 (by rw [List.length_zipWith, bitsN_len, hlx]; decide))
  have g24 : (bnot IntKind.i64 (H lx) 1039 == 62144) = eqC (List.zipWith (· && ·) (bitsN 16 64496) lx) 62144 := (by rw [show bnot IntKind.i64 (H lx) 1039 = H (List.zipWith (· && ·) (bitsN 16 64496) lx) from bnot_H lx 1039 hlx (by omega)]; exact eqC_H (List.zipWith (· && ·) (bitsN 16 64496) lx) 62144 (by rw [List.length_zipWith, bitsN_len, hlx]; decide))
  have g25 : bor IntKind.i64 (ishl IntKind.i64 (H (sl ly 12 3)) 2) (H (sl ly 6 2)) = H (sl ly 12 3 ++ sl ly 6 2) := bor2 (sl ly 12 3) (sl ly 6 2) 2 (by simp [sl_length, hlx, hly]) (by simp [sl_length, hlx, hly])
  have g26 : bor IntKind.i64 (ishl IntKind.i64 (H (sl lx 0 4)) 12) (ishl IntKind.i64 (H (sl lx 10 1)) 11) = ishl IntKind.i64 (H (sl lx 0 4 ++ sl lx 10 1)) 11 := bor2' (sl lx 0 4) (sl lx 10 1) 12 11 (by simp [sl_length, hlx, hly]) (by simp [sl_length, hlx, hly])
  have g27 : bor IntKind.i64 (ishl IntKind.i64 (H (sl lx 0 4 ++ sl lx 10 1)) 11) (ishl IntKind.i64 (H (sl ly 12 3)) 8) = ishl IntKind.i64 (H (sl lx 0 4 ++ sl lx 10 1 ++ sl ly 12 3)) 8 := bor2' (sl lx 0 4 ++ sl lx 10 1) (sl ly 12 3) 11 8 (by simp [sl_length, hlx, hly]) (by simp [sl_length, hlx, hly])
  have g28 : bor IntKind.i64 (ishl IntKind.i64 (H (sl lx 0 4 ++ sl lx 10 1 ++ sl ly 12 3)) 8) (H (sl ly 0 8)) = H (sl lx 0 4 ++ sl lx 10 1 ++ sl ly 12 3 ++ sl ly 0 8) := bor2 (sl lx 0 4 ++ sl lx 10 1 ++ sl ly 12 3) (sl ly 0 8) 8 (by simp [sl_length, hlx, hly]) (by simp [sl_length, hlx, hly])
  have g29 : V_decode_regs [H (sl ly 8 4), H (sl lx 0 4)] = (le12 (H (sl ly 8 4)) && (le12 (H (sl lx 0 4)) && true)) := rfl
  have g30 : V_decode_regs [H (sl ly 8 4)] = (le12 (H (sl ly 8 4)) && true) := rfl
  have g31 : (H (sl ly 5 1) == 0) = eqC (sl ly 5 1) 0 := eqC_H (sl ly 5 1) 0 (by rw [show (sl ly 5 1).length = 1 by simp [sl_length, hlx, hly]]; decide)
  have g32 : w64 (H (sl ly 0 5) + 1) = H (sl ly 0 5) + 1 := w_small _ (by have := H_nonneg (sl ly 0 5); omega) (by have := H_lt (l := sl ly 0 5) (k := 8) (by simp [sl_length, hlx, hly]); omega)
  have g33 : w64 (H (sl ly 0 5) + 1 - H (sl ly 12 3 ++ sl ly 6 2)) = (H (sl ly 0 5) + 1 - H (sl ly 12 3 ++ sl ly 6 2)) := w_small _ (by have := H_nonneg (sl ly 0 5); have := H_lt (l := sl ly 12 3 ++ sl ly 6 2) (k := 8) (by simp [sl_length, hlx, hly]); omega) (by have := H_nonneg (sl ly 12 3 ++ sl ly 6 2); have := H_lt (l := sl ly 0 5) (k := 8) (by simp [sl_length, hlx, hly]); omega)
  simp only [T_decode_plain, PO.val, g1, g2, g3, g4, g5, g6, g7, g8, g9, g10, g11, g12, g13, g14, g15, g16, g17, g18, g19, g20, g21, g22, g23, g24, g25, g26, g27, g28, g29, g30, g31, g32, g33, bne, Bool.and_self, cond_true, cond_false, Bool.cond_self]
  unfold dPlain
  repeat' (first | refine op1_step _ ?_ ?_ | rfl)
def dBranch (lx ly : List Bool) : Option tIns.den :=
 (bif (!eqC (lx.take 5) 30 || !eqC (ly.take 2) 2) then
 none else
 (bif (eqC (sl ly 12 1) 1) then
 (some (24, 0, 0, 0, 0, SG (sl lx 10 1 ++ List.zipWith nx (sl ly 13 1) (sl lx 10 1) ++ List.zipWith nx (sl ly 11 1) (sl lx 10 1) ++ sl lx 0 10 ++ sl ly 0 11 ++ [false]), 0, true, ())) else
 (bif (decide (H (sl lx 6 4) ≤ 13)) then some (25, 0, 0, 0, 0, SG (sl lx 10 1 ++ sl ly 11 1 ++ sl ly 13 1 ++ sl lx 0 6 ++ sl ly 0 11 ++ [false]), H (sl lx 6 4), true, ()) else none)))
theorem branch_T (lx ly : List Bool) (hlx : lx.length = 16) (hly : ly.length = 16) : op1 (T_decode_branch (H lx, H ly)).val = some (dBranch lx ly) := by
  have g1 : G_decode_some (H lx, 10, 1) = true := rfl
  have g2 : G_decode_some (H ly, 13, 1) = true := rfl
  have g3 : G_decode_some (H ly, 11, 1) = true := rfl
  have g4 : G_decode_some (H ly, 0, 11) = true := rfl
  have g5 : G_decode_some (H ly, 12, 1) = true := rfl
  have g6 : G_decode_some (H lx, 0, 10) = true := rfl
  have g7 : G_decode_some (H lx, 6, 4) = true := rfl
  have g8 : G_decode_some (H lx, 0, 6) = true := rfl
  have g9 : V_decode_some (H ly, 12, 1) = H (sl ly 12 1) := some_H ly 12 1 (by omega)
  have g10 : V_decode_some (H lx, 10, 1) = H (sl lx 10 1) := some_H lx 10 1 (by omega)
  have g11 : V_decode_some (H ly, 13, 1) = H (sl ly 13 1) := some_H ly 13 1 (by omega)
  have g12 : V_decode_some (H ly, 11, 1) = H (sl ly 11 1) := some_H ly 11 1 (by omega)
  have g13 : V_decode_some (H lx, 0, 10) = H (sl lx 0 10) := some_H lx 0 10 (by omega)
  have g14 : V_decode_some (H ly, 0, 11) = H (sl ly 0 11) := some_H ly 0 11 (by omega)
  have g15 : V_decode_some (H lx, 6, 4) = H (sl lx 6 4) := some_H lx 6 4 (by omega)
  have g16 : V_decode_some (H lx, 0, 6) = H (sl lx 0 6) := some_H lx 0 6 (by omega)
  have g17 : (ishr IntKind.i64 (H lx) 11 == 30) = eqC (lx.take 5) 30 := (by have := shr_H lx 11 30 (by omega) (by omega) (by rw [hlx]; decide); rw [hlx] at this; exact this)
  have g18 : (ishr IntKind.i64 (H ly) 14 == 2) = eqC (ly.take 2) 2 := (by have := shr_H ly 14 2 (by omega) (by omega) (by rw [hly]; decide); rw [hly] at this; exact this)
  have g19 : bxor IntKind.i64 (bxor IntKind.i64 1 (H (sl ly 13 1))) (H (sl lx 10 1)) = H (List.zipWith nx (sl ly 13 1) (sl lx 10 1)) := bx_H _ _ (sl_len _ _ _ (by omega)) (sl_len _ _ _ (by omega))
  have g20 : bxor IntKind.i64 (bxor IntKind.i64 1 (H (sl ly 11 1))) (H (sl lx 10 1)) = H (List.zipWith nx (sl ly 11 1) (sl lx 10 1)) := bx_H _ _ (sl_len _ _ _ (by omega)) (sl_len _ _ _ (by omega))
  have g21 : bor IntKind.i64 (ishl IntKind.i64 (H (sl lx 10 1)) 23) (ishl IntKind.i64 (H (List.zipWith nx (sl ly 13 1) (sl lx 10 1))) 22) = ishl IntKind.i64 (H (sl lx 10 1 ++ List.zipWith nx (sl ly 13 1) (sl lx 10 1))) 22 := bor2' (sl lx 10 1) (List.zipWith nx (sl ly 13 1) (sl lx 10 1)) 23 22 (by simp [sl_length, hlx, hly]) (by simp [sl_length, hlx, hly])
  have g22 : bor IntKind.i64 (ishl IntKind.i64 (H (sl lx 10 1 ++ List.zipWith nx (sl ly 13 1) (sl lx 10 1))) 22) (ishl IntKind.i64 (H (List.zipWith nx (sl ly 11 1) (sl lx 10 1))) 21) = ishl IntKind.i64 (H (sl lx 10 1 ++ List.zipWith nx (sl ly 13 1) (sl lx 10 1) ++ List.zipWith nx (sl ly 11 1) (sl lx 10 1))) 21 := bor2' (sl lx 10 1 ++ List.zipWith nx (sl ly 13 1) (sl lx 10 1)) (List.zipWith nx (sl ly 11 1) (sl lx 10 1)) 22 21 (by simp [sl_length, hlx, hly]) (by simp [sl_length, hlx, hly])
  have g23 : bor IntKind.i64 (ishl IntKind.i64 (H (sl lx 10 1 ++ List.zipWith nx (sl ly 13 1) (sl lx 10 1) ++ List.zipWith nx (sl ly 11 1) (sl lx 10 1))) 21) (ishl IntKind.i64 (H (sl lx 0 10)) 11) = ishl IntKind.i64 (H (sl lx 10 1 ++ List.zipWith nx (sl ly 13 1) (sl lx 10 1) ++ List.zipWith nx (sl ly 11 1) (sl lx 10 1) ++ sl lx 0 10)) 11 := bor2' (sl lx 10 1 ++ List.zipWith nx (sl ly 13 1) (sl lx 10 1) ++ List.zipWith nx (sl ly 11 1) (sl lx 10 1)) (sl lx 0 10) 21 11 (by simp [sl_length, hlx, hly]) (by simp [sl_length, hlx, hly])
  have g24 : bor IntKind.i64 (ishl IntKind.i64 (H (sl lx 10 1 ++ List.zipWith nx (sl ly 13 1) (sl lx 10 1) ++ List.zipWith nx (sl ly 11 1) (sl lx 10 1) ++ sl lx 0 10)) 11) (H (sl ly 0 11)) = H (sl lx 10 1 ++ List.zipWith nx (sl ly 13 1) (sl lx 10 1) ++ List.zipWith nx (sl ly 11 1) (sl lx 10 1) ++ sl lx 0 10 ++ sl ly 0 11) := bor2 (sl lx 10 1 ++ List.zipWith nx (sl ly 13 1) (sl lx 10 1) ++ List.zipWith nx (sl ly 11 1) (sl lx 10 1) ++ sl lx 0 10) (sl ly 0 11) 11 (by simp [sl_length, hlx, hly]) (by simp [sl_length, hlx, hly])
  have g25 : bor IntKind.i64 (ishl IntKind.i64 (H (sl lx 10 1)) 19) (ishl IntKind.i64 (H (sl ly 11 1)) 18) = ishl IntKind.i64 (H (sl lx 10 1 ++ sl ly 11 1)) 18 := bor2' (sl lx 10 1) (sl ly 11 1) 19 18 (by simp [sl_length, hlx, hly]) (by simp [sl_length, hlx, hly])
  have g26 : bor IntKind.i64 (ishl IntKind.i64 (H (sl lx 10 1 ++ sl ly 11 1)) 18) (ishl IntKind.i64 (H (sl ly 13 1)) 17) = ishl IntKind.i64 (H (sl lx 10 1 ++ sl ly 11 1 ++ sl ly 13 1)) 17 := bor2' (sl lx 10 1 ++ sl ly 11 1) (sl ly 13 1) 18 17 (by simp [sl_length, hlx, hly]) (by simp [sl_length, hlx, hly])
  have g27 : bor IntKind.i64 (ishl IntKind.i64 (H (sl lx 10 1 ++ sl ly 11 1 ++ sl ly 13 1)) 17) (ishl IntKind.i64 (H (sl lx 0 6)) 11) = ishl IntKind.i64 (H (sl lx 10 1 ++ sl ly 11 1 ++ sl ly 13 1 ++ sl lx 0 6)) 11 := bor2' (sl lx 10 1 ++ sl ly 11 1 ++ sl ly 13 1) (sl lx 0 6) 17 11 (by simp [sl_length, hlx, hly]) (by simp [sl_length, hlx, hly])
  have g28 : bor IntKind.i64 (ishl IntKind.i64 (H (sl lx 10 1 ++ sl ly 11 1 ++ sl ly 13 1 ++ sl lx 0 6)) 11) (H (sl ly 0 11)) = H (sl lx 10 1 ++ sl ly 11 1 ++ sl ly 13 1 ++ sl lx 0 6 ++ sl ly 0 11) := bor2 (sl lx 10 1 ++ sl ly 11 1 ++ sl ly 13 1 ++ sl lx 0 6) (sl ly 0 11) 11 (by simp [sl_length, hlx, hly]) (by simp [sl_length, hlx, hly])
  have g29 : (H (sl ly 12 1) == 1) = eqC (sl ly 12 1) 1 := eqC_H (sl ly 12 1) 1 (by rw [show (sl ly 12 1).length = 1 by simp [sl_length, hlx, hly]]; decide)
  have g30 : V_decode_signed (H (sl lx 10 1 ++ List.zipWith nx (sl ly 13 1) (sl lx 10 1) ++ List.zipWith nx (sl ly 11 1) (sl lx 10 1) ++ sl lx 0 10 ++ sl ly 0 11), 24) = SG (sl lx 10 1 ++ List.zipWith nx (sl ly 13 1) (sl lx 10 1) ++ List.zipWith nx (sl ly 11 1) (sl lx 10 1) ++ sl lx 0 10 ++ sl ly 0 11) := signed_H_ (sl lx 10 1 ++ List.zipWith nx (sl ly 13 1) (sl lx 10 1) ++ List.zipWith nx (sl ly 11 1) (sl lx 10 1) ++ sl lx 0 10 ++ sl ly 0 11) 24 (by omega) (by simp [sl_length, hlx, hly])
  have g31 : G_decode_signed (H (sl lx 10 1 ++ List.zipWith nx (sl ly 13 1) (sl lx 10 1) ++ List.zipWith nx (sl ly 11 1) (sl lx 10 1) ++ sl lx 0 10 ++ sl ly 0 11), 24) = true := gsigned_H _ 24 (by omega) (by omega) (by simp [sl_length, hlx, hly])
  have g32 : w64 (2 * SG (sl lx 10 1 ++ List.zipWith nx (sl ly 13 1) (sl lx 10 1) ++ List.zipWith nx (sl ly 11 1) (sl lx 10 1) ++ sl lx 0 10 ++ sl ly 0 11)) = SG (sl lx 10 1 ++ List.zipWith nx (sl ly 13 1) (sl lx 10 1) ++ List.zipWith nx (sl ly 11 1) (sl lx 10 1) ++ sl lx 0 10 ++ sl ly 0 11 ++ [false]) := twice_SG (sl lx 10 1 ++ List.zipWith nx (sl ly 13 1) (sl lx 10 1) ++ List.zipWith nx (sl ly 11 1) (sl lx 10 1) ++ sl lx 0 10 ++ sl ly 0 11) 24 (by omega) (by omega) (by simp [sl_length, hlx, hly])
  have g33 : V_decode_signed (H (sl lx 10 1 ++ sl ly 11 1 ++ sl ly 13 1 ++ sl lx 0 6 ++ sl ly 0 11), 20) = SG (sl lx 10 1 ++ sl ly 11 1 ++ sl ly 13 1 ++ sl lx 0 6 ++ sl ly 0 11) := signed_H_ (sl lx 10 1 ++ sl ly 11 1 ++ sl ly 13 1 ++ sl lx 0 6 ++ sl ly 0 11) 20 (by omega) (by simp [sl_length, hlx, hly])
  have g34 : G_decode_signed (H (sl lx 10 1 ++ sl ly 11 1 ++ sl ly 13 1 ++ sl lx 0 6 ++ sl ly 0 11), 20) = true := gsigned_H _ 20 (by omega) (by omega) (by simp [sl_length, hlx, hly])
  have g35 : w64 (2 * SG (sl lx 10 1 ++ sl ly 11 1 ++ sl ly 13 1 ++ sl lx 0 6 ++ sl ly 0 11)) = SG (sl lx 10 1 ++ sl ly 11 1 ++ sl ly 13 1 ++ sl lx 0 6 ++ sl ly 0 11 ++ [false]) := twice_SG (sl lx 10 1 ++ sl ly 11 1 ++ sl ly 13 1 ++ sl lx 0 6 ++ sl ly 0 11) 20 (by omega) (by omega) (by simp [sl_length, hlx, hly])
  simp only [T_decode_branch, PO.val, g1, g2, g3, g4, g5, g6, g7, g8, g9, g10, g11, g12, g13, g14, g15, g16, g17, g18, g19, g20, g21, g22, g23, g24, g25, g26, g27, g28, g29, g30, g31, g32, g33, g34, g35, bne, Bool.and_self, cond_true, cond_false, Bool.cond_self]
  unfold dBranch
  repeat' (first | refine op1_step _ ?_ ?_ | rfl)
end Go.Av
