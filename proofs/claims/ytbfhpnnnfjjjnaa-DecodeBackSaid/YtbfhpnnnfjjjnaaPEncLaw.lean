/- Layer 2: instructions' bits, and how many bytes there are. -/
import Derived.Test.YtbfhpnnnfjjjnaaPEnc
import Derived.Test.YtbfhpnnnfjjjnaaPRef02Law
namespace Go.Av
open Go

/-- Has an instruction 32 bits? -/
def isLong (op : Int) (w : Bool) : Bool := w || (decide (3 ≤ op) && decide (op ≤ 18))

theorem put_ok (b : Nat) (l : List tpart.den) (hb : b < 281474976710656) (hl : (decide (List.length l ≤ 5) && List.all l partOk) = true) : G_thumb_put ((b : Int), l) = true := by
  have h1 : decide ((0 : Int) ≤ (b : Int)) = true := dec_true (by omega)
  have h2 : decide ((b : Int) < 281474976710656) = true := dec_true (by omega)
  show ((decide ((0 : Int) ≤ (b : Int)) && decide ((b : Int) < 281474976710656)) && (decide (List.length l ≤ 5) && List.all l partOk)) = true
  rw [h1, h2, hl]
  rfl
theorem put_ok0 (l : List tpart.den) (hl : (decide (List.length l ≤ 5) && List.all l partOk) = true) : G_thumb_put (0, l) = true := put_ok 0 l (by omega) hl

section
variable (first : Nat) (op rd rn rm ra imm cond : Int) (w : Bool) (kind : Int)

theorem shifted_val (h : first < 281474976710656) : (T_thumb_shifted ((first : Int), (op, rd, rn, rm, ra, imm, cond, w, ()), kind)).val =
    some (V_thumb_put ((first : Int), [(rn, 0, 4, 0, ())]), V_thumb_put (0, [(imm, 2, 3, 12, ()), (rd, 0, 4, 8, ()), (imm, 0, 2, 6, ()), (kind, 0, 2, 4, ()), (rm, 0, 4, 0, ())]), true, ()) := by
  have h1 : G_thumb_put ((first : Int), [(rn, 0, 4, 0, ())]) = true := put_ok first _ h rfl
  have h2 : G_thumb_put (0, [(imm, 2, 3, 12, ()), (rd, 0, 4, 8, ()), (imm, 0, 2, 6, ()), (kind, 0, 2, 4, ()), (rm, 0, 4, 0, ())]) = true := put_ok0 _ rfl
  show (bif G_thumb_put (0, [(imm, 2, 3, 12, ()), (rd, 0, 4, 8, ()), (imm, 0, 2, 6, ()), (kind, 0, 2, 4, ()), (rm, 0, 4, 0, ())]) then (bif G_thumb_put ((first : Int), [(rn, 0, 4, 0, ())]) then _ else _) else _) = _
  rw [h1, h2]
  rfl

theorem move_val (h : first < 281474976710656) : (T_thumb_move ((first : Int), (op, rd, rn, rm, ra, imm, cond, w, ()))).val =
    some (V_thumb_put ((first : Int), [(imm, 11, 1, 10, ()), (imm, 12, 4, 0, ())]), V_thumb_put (0, [(imm, 8, 3, 12, ()), (rd, 0, 4, 8, ()), (imm, 0, 8, 0, ())]), true, ()) := by
  have h1 : G_thumb_put ((first : Int), [(imm, 11, 1, 10, ()), (imm, 12, 4, 0, ())]) = true := put_ok first _ h rfl
  have h2 : G_thumb_put (0, [(imm, 8, 3, 12, ()), (rd, 0, 4, 8, ()), (imm, 0, 8, 0, ())]) = true := put_ok0 _ rfl
  show (bif G_thumb_put ((first : Int), [(imm, 11, 1, 10, ()), (imm, 12, 4, 0, ())]) then (bif G_thumb_put (0, [(imm, 8, 3, 12, ()), (rd, 0, 4, 8, ()), (imm, 0, 8, 0, ())]) then _ else _) else _) = _
  rw [h1, h2]
  rfl

theorem short_val (a b : Int) (h : first < 281474976710656) : (T_thumb_short ((first : Int), a, b)).val = some (V_thumb_put ((first : Int), [(a, 0, 3, 0, ()), (b, 0, 3, 3, ())]), 0, false, ()) := by
  have h1 : G_thumb_put ((first : Int), [(a, 0, 3, 0, ()), (b, 0, 3, 3, ())]) = true := put_ok first _ h rfl
  show (bif G_thumb_put ((first : Int), [(a, 0, 3, 0, ()), (b, 0, 3, 3, ())]) then _ else _) = _
  rw [h1]
  rfl

/-- The low eleven bits of a branch's distance. -/
def lowN : Nat := fldN imm 1 11 0
theorem lowN_lt : lowN imm < 2048 := by
  unfold lowN fldN
  have h := mod_pow_nat (imm / (2 ^ (1 : Int).toNat : Nat)) 11
  have e : (11 : Int).toNat = 11 := rfl
  have e0 : (0 : Int).toNat = 0 := rfl
  rw [e, e0]
  omega
theorem put_low : V_thumb_put (0, [(imm, 1, 11, 0, ())]) = (lowN imm : Int) := by
  show ((0 ||| fldN imm 1 11 0 : Nat) : Int) = _
  rw [Nat.zero_or]
  rfl

/-- A wide branch's bits. -/
def wideV : tSpot.den :=
  bif op == 25 then (V_thumb_put (61440, [(band .i64 (ishr .i64 imm 24) 1, 0, 1, 10, ()), (cond, 0, 4, 6, ()), (imm, 12, 6, 0, ())]), V_thumb_put (((lowN imm ||| 32768 : Nat) : Int), [(imm, 18, 1, 13, ()), (imm, 19, 1, 11, ())]), true, ())
  else (V_thumb_put (61440, [(band .i64 (ishr .i64 imm 24) 1, 0, 1, 10, ()), (imm, 12, 10, 0, ())]), V_thumb_put (((lowN imm ||| 36864 : Nat) : Int), [(bxor .i64 (icompl .i64 (ishr .i64 imm 23)) (band .i64 (ishr .i64 imm 24) 1), 0, 1, 13, ()), (bxor .i64 (icompl .i64 (ishr .i64 imm 22)) (band .i64 (ishr .i64 imm 24) 1), 0, 1, 11, ())]), true, ())

theorem wide_val : (T_thumb_wide (op, rd, rn, rm, ra, imm, cond, w, ())).val = some (wideV op imm cond) := by
  have hl := lowN_lt imm
  have o1 : lowN imm ||| 32768 < 2 ^ 48 := Nat.or_lt_two_pow (by omega) (by omega)
  have o2 : lowN imm ||| 36864 < 2 ^ 48 := Nat.or_lt_two_pow (by omega) (by omega)
  have e1 : bor .i64 (V_thumb_put (0, [(imm, 1, 11, 0, ())])) 32768 = ((lowN imm ||| 32768 : Nat) : Int) := by
    rw [put_low]; exact bor_nat (b := 32768) (by omega) (by omega)
  have e2 : bor .i64 (V_thumb_put (0, [(imm, 1, 11, 0, ())])) 36864 = ((lowN imm ||| 36864 : Nat) : Int) := by
    rw [put_low]; exact bor_nat (b := 36864) (by omega) (by omega)
  have g0 : G_thumb_put (0, [(imm, 1, 11, 0, ())]) = true := put_ok0 _ rfl
  have g1 : G_thumb_put (61440, [(band .i64 (ishr .i64 imm 24) 1, 0, 1, 10, ()), (cond, 0, 4, 6, ()), (imm, 12, 6, 0, ())]) = true := put_ok 61440 _ (by omega) rfl
  have g2 : G_thumb_put (61440, [(band .i64 (ishr .i64 imm 24) 1, 0, 1, 10, ()), (imm, 12, 10, 0, ())]) = true := put_ok 61440 _ (by omega) rfl
  have g3 := put_ok (lowN imm ||| 32768) [(imm, 18, 1, 13, ()), (imm, 19, 1, 11, ())] o1 rfl
  have g4 := put_ok (lowN imm ||| 36864) [(bxor .i64 (icompl .i64 (ishr .i64 imm 23)) (band .i64 (ishr .i64 imm 24) 1), 0, 1, 13, ()), (bxor .i64 (icompl .i64 (ishr .i64 imm 22)) (band .i64 (ishr .i64 imm 24) 1), 0, 1, 11, ())] o2 rfl
  simp only [T_thumb_wide, PO.val]
  rw [e1, e2, g0, g1, g2, g3, g4]
  unfold wideV
  cases op == 25
  · rfl
  · rfl
end

/-- An instruction's bits, if it is one. -/
def codeV (op rd rn rm ra imm cond : Int) (w : Bool) : tSpot.den :=
  bif op == 1 then (48896, 0, false, ())
  else bif op == 2 then (bor .i64 48640 imm, 0, false, ())
  else bif op == 3 then (V_thumb_put (62016, [(imm, 11, 1, 10, ()), (imm, 12, 4, 0, ())]), V_thumb_put (0, [(imm, 8, 3, 12, ()), (rd, 0, 4, 8, ()), (imm, 0, 8, 0, ())]), true, ())
  else bif op == 4 then (V_thumb_put (62144, [(imm, 11, 1, 10, ()), (imm, 12, 4, 0, ())]), V_thumb_put (0, [(imm, 8, 3, 12, ()), (rd, 0, 4, 8, ()), (imm, 0, 8, 0, ())]), true, ())
  else bif decide (op ≤ 16) && decide (5 ≤ op) then
    (V_thumb_put (bif decide (op ≤ 8) then 59983 else bif op == 9 then 60015 else bif op == 10 then 59904 else bif op == 11 then 59936 else bif op == 12 then 59968 else bif op == 13 then 60032 else bif op == 14 then 60160 else bif op == 15 then 60320 else 64256, [(rn, 0, 4, 0, ())]),
     (bif op == 16 then bor .i64 (V_thumb_put (0, [(imm, 2, 3, 12, ()), (rd, 0, 4, 8, ()), (imm, 0, 2, 6, ()), (0, 0, 2, 4, ()), (rm, 0, 4, 0, ())])) 61440
      else V_thumb_put (0, [(imm, 2, 3, 12, ()), (rd, 0, 4, 8, ()), (imm, 0, 2, 6, ()), (bif decide (op ≤ 8) then op - 5 else 0, 0, 2, 4, ()), (rm, 0, 4, 0, ())])), true, ())
  else bif op == 17 then (bor .i64 64416 rn, bor .i64 (bor .i64 (ishl .i64 rd 12) (ishl .i64 ra 8)) rm, true, ())
  else bif op == 18 then (bor .i64 62304 rn, V_thumb_put (imm + ra - 1, [(imm, 2, 3, 12, ()), (rd, 0, 4, 8, ()), (imm, 0, 2, 6, ())]), true, ())
  else bif op == 23 then (V_thumb_put (17024, [(rn, 0, 3, 0, ()), (rm, 0, 3, 3, ())]), 0, false, ())
  else bif decide (op ≤ 22) then (V_thumb_put (bif op == 19 then 26624 else bif op == 20 then 24576 else bif op == 21 then 30720 else 28672, [(rd, 0, 3, 0, ()), (rn, 0, 3, 3, ())]), 0, false, ())
  else bif w then wideV op imm cond
  else bif op == 24 then (V_thumb_put (57344, [(imm, 1, 11, 0, ())]), 0, false, ())
  else (V_thumb_put (53248, [(cond, 0, 4, 8, ()), (imm, 1, 8, 0, ())]), 0, false, ())

theorem check_bfi {rd rn rm ra imm cond : Int} {w : Bool} (h : V_thumb_Check (18, rd, rn, rm, ra, imm, cond, w, ()) = 0) : 0 ≤ imm ∧ imm ≤ 31 ∧ 1 ≤ ra ∧ ra ≤ 32 - imm := by
  have hw := left_same imm
  simp [V_thumb_Check, T_thumb_Check, V_thumb_formOf, T_thumb_formOf, V_thumb_field, T_thumb_field, V_thumb_within, T_thumb_within, PO.getO, PO.val] at h
  grind

theorem bits_1 (rd rn rm ra imm cond : Int) (w : Bool) (_ : V_thumb_Check (1, rd, rn, rm, ra, imm, cond, w, ()) = 0) : (T_thumb_bits (1, rd, rn, rm, ra, imm, cond, w, ())).val = some (codeV 1 rd rn rm ra imm cond w) := by
  rfl
theorem bits_2 (rd rn rm ra imm cond : Int) (w : Bool) (_ : V_thumb_Check (2, rd, rn, rm, ra, imm, cond, w, ()) = 0) : (T_thumb_bits (2, rd, rn, rm, ra, imm, cond, w, ())).val = some (codeV 2 rd rn rm ra imm cond w) := by
  rfl
theorem bits_3 (rd rn rm ra imm cond : Int) (w : Bool) (_ : V_thumb_Check (3, rd, rn, rm, ra, imm, cond, w, ()) = 0) : (T_thumb_bits (3, rd, rn, rm, ra, imm, cond, w, ())).val = some (codeV 3 rd rn rm ra imm cond w) := by
  have e : (T_thumb_move (62016, 3, rd, rn, rm, ra, imm, cond, w, ())).val = _ := move_val 62016 3 rd rn rm ra imm cond w (by omega)
  refine Eq.trans (b := (bif (PO.val (T_thumb_move (62016, 3, rd, rn, rm, ra, imm, cond, w, ()))).isSome then some ((PO.val (T_thumb_move (62016, 3, rd, rn, rm, ra, imm, cond, w, ()))).getD default) else none)) rfl ?_
  rw [e]
  rfl
theorem bits_4 (rd rn rm ra imm cond : Int) (w : Bool) (_ : V_thumb_Check (4, rd, rn, rm, ra, imm, cond, w, ()) = 0) : (T_thumb_bits (4, rd, rn, rm, ra, imm, cond, w, ())).val = some (codeV 4 rd rn rm ra imm cond w) := by
  have e : (T_thumb_move (62144, 4, rd, rn, rm, ra, imm, cond, w, ())).val = _ := move_val 62144 4 rd rn rm ra imm cond w (by omega)
  refine Eq.trans (b := (bif (PO.val (T_thumb_move (62144, 4, rd, rn, rm, ra, imm, cond, w, ()))).isSome then some ((PO.val (T_thumb_move (62144, 4, rd, rn, rm, ra, imm, cond, w, ()))).getD default) else none)) rfl ?_
  rw [e]
  rfl
theorem bits_5 (rd rn rm ra imm cond : Int) (w : Bool) (_ : V_thumb_Check (5, rd, rn, rm, ra, imm, cond, w, ()) = 0) : (T_thumb_bits (5, rd, rn, rm, ra, imm, cond, w, ())).val = some (codeV 5 rd rn rm ra imm cond w) := by
  have e : (T_thumb_shifted (59983, (5, rd, rn, rm, ra, imm, cond, w, ()), (w64 (5 - 5)))).val = _ := shifted_val 59983 5 rd rn rm ra imm cond w (w64 (5 - 5)) (by omega)
  refine Eq.trans (b := (bif (PO.val (T_thumb_shifted (59983, (5, rd, rn, rm, ra, imm, cond, w, ()), (w64 (5 - 5))))).isSome then some ((PO.val (T_thumb_shifted (59983, (5, rd, rn, rm, ra, imm, cond, w, ()), (w64 (5 - 5))))).getD default) else none)) rfl ?_
  rw [e]
  rfl
theorem bits_6 (rd rn rm ra imm cond : Int) (w : Bool) (_ : V_thumb_Check (6, rd, rn, rm, ra, imm, cond, w, ()) = 0) : (T_thumb_bits (6, rd, rn, rm, ra, imm, cond, w, ())).val = some (codeV 6 rd rn rm ra imm cond w) := by
  have e : (T_thumb_shifted (59983, (6, rd, rn, rm, ra, imm, cond, w, ()), (w64 (6 - 5)))).val = _ := shifted_val 59983 6 rd rn rm ra imm cond w (w64 (6 - 5)) (by omega)
  refine Eq.trans (b := (bif (PO.val (T_thumb_shifted (59983, (6, rd, rn, rm, ra, imm, cond, w, ()), (w64 (6 - 5))))).isSome then some ((PO.val (T_thumb_shifted (59983, (6, rd, rn, rm, ra, imm, cond, w, ()), (w64 (6 - 5))))).getD default) else none)) rfl ?_
  rw [e]
  rfl
theorem bits_7 (rd rn rm ra imm cond : Int) (w : Bool) (_ : V_thumb_Check (7, rd, rn, rm, ra, imm, cond, w, ()) = 0) : (T_thumb_bits (7, rd, rn, rm, ra, imm, cond, w, ())).val = some (codeV 7 rd rn rm ra imm cond w) := by
  have e : (T_thumb_shifted (59983, (7, rd, rn, rm, ra, imm, cond, w, ()), (w64 (7 - 5)))).val = _ := shifted_val 59983 7 rd rn rm ra imm cond w (w64 (7 - 5)) (by omega)
  refine Eq.trans (b := (bif (PO.val (T_thumb_shifted (59983, (7, rd, rn, rm, ra, imm, cond, w, ()), (w64 (7 - 5))))).isSome then some ((PO.val (T_thumb_shifted (59983, (7, rd, rn, rm, ra, imm, cond, w, ()), (w64 (7 - 5))))).getD default) else none)) rfl ?_
  rw [e]
  rfl
theorem bits_8 (rd rn rm ra imm cond : Int) (w : Bool) (_ : V_thumb_Check (8, rd, rn, rm, ra, imm, cond, w, ()) = 0) : (T_thumb_bits (8, rd, rn, rm, ra, imm, cond, w, ())).val = some (codeV 8 rd rn rm ra imm cond w) := by
  have e : (T_thumb_shifted (59983, (8, rd, rn, rm, ra, imm, cond, w, ()), (w64 (8 - 5)))).val = _ := shifted_val 59983 8 rd rn rm ra imm cond w (w64 (8 - 5)) (by omega)
  refine Eq.trans (b := (bif (PO.val (T_thumb_shifted (59983, (8, rd, rn, rm, ra, imm, cond, w, ()), (w64 (8 - 5))))).isSome then some ((PO.val (T_thumb_shifted (59983, (8, rd, rn, rm, ra, imm, cond, w, ()), (w64 (8 - 5))))).getD default) else none)) rfl ?_
  rw [e]
  rfl
theorem bits_9 (rd rn rm ra imm cond : Int) (w : Bool) (_ : V_thumb_Check (9, rd, rn, rm, ra, imm, cond, w, ()) = 0) : (T_thumb_bits (9, rd, rn, rm, ra, imm, cond, w, ())).val = some (codeV 9 rd rn rm ra imm cond w) := by
  have e : (T_thumb_shifted (60015, (9, rd, rn, rm, ra, imm, cond, w, ()), 0)).val = _ := shifted_val 60015 9 rd rn rm ra imm cond w 0 (by omega)
  refine Eq.trans (b := (bif (PO.val (T_thumb_shifted (60015, (9, rd, rn, rm, ra, imm, cond, w, ()), 0))).isSome then some ((PO.val (T_thumb_shifted (60015, (9, rd, rn, rm, ra, imm, cond, w, ()), 0))).getD default) else none)) rfl ?_
  rw [e]
  rfl
theorem bits_10 (rd rn rm ra imm cond : Int) (w : Bool) (_ : V_thumb_Check (10, rd, rn, rm, ra, imm, cond, w, ()) = 0) : (T_thumb_bits (10, rd, rn, rm, ra, imm, cond, w, ())).val = some (codeV 10 rd rn rm ra imm cond w) := by
  have e : (T_thumb_shifted (59904, (10, rd, rn, rm, ra, imm, cond, w, ()), 0)).val = _ := shifted_val 59904 10 rd rn rm ra imm cond w 0 (by omega)
  refine Eq.trans (b := (bif (PO.val (T_thumb_shifted (59904, (10, rd, rn, rm, ra, imm, cond, w, ()), 0))).isSome then some ((PO.val (T_thumb_shifted (59904, (10, rd, rn, rm, ra, imm, cond, w, ()), 0))).getD default) else none)) rfl ?_
  rw [e]
  rfl
theorem bits_11 (rd rn rm ra imm cond : Int) (w : Bool) (_ : V_thumb_Check (11, rd, rn, rm, ra, imm, cond, w, ()) = 0) : (T_thumb_bits (11, rd, rn, rm, ra, imm, cond, w, ())).val = some (codeV 11 rd rn rm ra imm cond w) := by
  have e : (T_thumb_shifted (59936, (11, rd, rn, rm, ra, imm, cond, w, ()), 0)).val = _ := shifted_val 59936 11 rd rn rm ra imm cond w 0 (by omega)
  refine Eq.trans (b := (bif (PO.val (T_thumb_shifted (59936, (11, rd, rn, rm, ra, imm, cond, w, ()), 0))).isSome then some ((PO.val (T_thumb_shifted (59936, (11, rd, rn, rm, ra, imm, cond, w, ()), 0))).getD default) else none)) rfl ?_
  rw [e]
  rfl
theorem bits_12 (rd rn rm ra imm cond : Int) (w : Bool) (_ : V_thumb_Check (12, rd, rn, rm, ra, imm, cond, w, ()) = 0) : (T_thumb_bits (12, rd, rn, rm, ra, imm, cond, w, ())).val = some (codeV 12 rd rn rm ra imm cond w) := by
  have e : (T_thumb_shifted (59968, (12, rd, rn, rm, ra, imm, cond, w, ()), 0)).val = _ := shifted_val 59968 12 rd rn rm ra imm cond w 0 (by omega)
  refine Eq.trans (b := (bif (PO.val (T_thumb_shifted (59968, (12, rd, rn, rm, ra, imm, cond, w, ()), 0))).isSome then some ((PO.val (T_thumb_shifted (59968, (12, rd, rn, rm, ra, imm, cond, w, ()), 0))).getD default) else none)) rfl ?_
  rw [e]
  rfl
theorem bits_13 (rd rn rm ra imm cond : Int) (w : Bool) (_ : V_thumb_Check (13, rd, rn, rm, ra, imm, cond, w, ()) = 0) : (T_thumb_bits (13, rd, rn, rm, ra, imm, cond, w, ())).val = some (codeV 13 rd rn rm ra imm cond w) := by
  have e : (T_thumb_shifted (60032, (13, rd, rn, rm, ra, imm, cond, w, ()), 0)).val = _ := shifted_val 60032 13 rd rn rm ra imm cond w 0 (by omega)
  refine Eq.trans (b := (bif (PO.val (T_thumb_shifted (60032, (13, rd, rn, rm, ra, imm, cond, w, ()), 0))).isSome then some ((PO.val (T_thumb_shifted (60032, (13, rd, rn, rm, ra, imm, cond, w, ()), 0))).getD default) else none)) rfl ?_
  rw [e]
  rfl
theorem bits_14 (rd rn rm ra imm cond : Int) (w : Bool) (_ : V_thumb_Check (14, rd, rn, rm, ra, imm, cond, w, ()) = 0) : (T_thumb_bits (14, rd, rn, rm, ra, imm, cond, w, ())).val = some (codeV 14 rd rn rm ra imm cond w) := by
  have e : (T_thumb_shifted (60160, (14, rd, rn, rm, ra, imm, cond, w, ()), 0)).val = _ := shifted_val 60160 14 rd rn rm ra imm cond w 0 (by omega)
  refine Eq.trans (b := (bif (PO.val (T_thumb_shifted (60160, (14, rd, rn, rm, ra, imm, cond, w, ()), 0))).isSome then some ((PO.val (T_thumb_shifted (60160, (14, rd, rn, rm, ra, imm, cond, w, ()), 0))).getD default) else none)) rfl ?_
  rw [e]
  rfl
theorem bits_15 (rd rn rm ra imm cond : Int) (w : Bool) (_ : V_thumb_Check (15, rd, rn, rm, ra, imm, cond, w, ()) = 0) : (T_thumb_bits (15, rd, rn, rm, ra, imm, cond, w, ())).val = some (codeV 15 rd rn rm ra imm cond w) := by
  have e : (T_thumb_shifted (60320, (15, rd, rn, rm, ra, imm, cond, w, ()), 0)).val = _ := shifted_val 60320 15 rd rn rm ra imm cond w 0 (by omega)
  refine Eq.trans (b := (bif (PO.val (T_thumb_shifted (60320, (15, rd, rn, rm, ra, imm, cond, w, ()), 0))).isSome then some ((PO.val (T_thumb_shifted (60320, (15, rd, rn, rm, ra, imm, cond, w, ()), 0))).getD default) else none)) rfl ?_
  rw [e]
  rfl
theorem bits_16 (rd rn rm ra imm cond : Int) (w : Bool) (_ : V_thumb_Check (16, rd, rn, rm, ra, imm, cond, w, ()) = 0) : (T_thumb_bits (16, rd, rn, rm, ra, imm, cond, w, ())).val = some (codeV 16 rd rn rm ra imm cond w) := by
  have b : (T_thumb_bits (16, rd, rn, rm, ra, imm, cond, w, ())).val = (bif (PO.val (T_thumb_others (16, rd, rn, rm, ra, imm, cond, w, ()))).isSome then some ((PO.val (T_thumb_others (16, rd, rn, rm, ra, imm, cond, w, ()))).getD default) else none) := rfl
  have e : (T_thumb_shifted (64256, (16, rd, rn, rm, ra, imm, cond, w, ()), 0)).val = _ := shifted_val 64256 16 rd rn rm ra imm cond w 0 (by omega)
  have o : (T_thumb_others (16, rd, rn, rm, ra, imm, cond, w, ())).val = some (V_thumb_put (64256, [(rn, 0, 4, 0, ())]), bor .i64 (V_thumb_put (0, [(imm, 2, 3, 12, ()), (rd, 0, 4, 8, ()), (imm, 0, 2, 6, ()), (0, 0, 2, 4, ()), (rm, 0, 4, 0, ())])) 61440, true, ()) := by
    refine Eq.trans (b := (bif (PO.val (T_thumb_shifted (64256, (16, rd, rn, rm, ra, imm, cond, w, ()), 0))).isSome then some (((PO.val (T_thumb_shifted (64256, (16, rd, rn, rm, ra, imm, cond, w, ()), 0))).getD default).1, bor .i64 ((PO.val (T_thumb_shifted (64256, (16, rd, rn, rm, ra, imm, cond, w, ()), 0))).getD default).2.1 61440, ((PO.val (T_thumb_shifted (64256, (16, rd, rn, rm, ra, imm, cond, w, ()), 0))).getD default).2.2) else none)) rfl ?_
    rw [e]
    rfl
  have c : codeV 16 rd rn rm ra imm cond w = (V_thumb_put (64256, [(rn, 0, 4, 0, ())]), bor .i64 (V_thumb_put (0, [(imm, 2, 3, 12, ()), (rd, 0, 4, 8, ()), (imm, 0, 2, 6, ()), (0, 0, 2, 4, ()), (rm, 0, 4, 0, ())])) 61440, true, ()) := rfl
  rw [b, o, c]
  rfl
theorem bits_17 (rd rn rm ra imm cond : Int) (w : Bool) (_ : V_thumb_Check (17, rd, rn, rm, ra, imm, cond, w, ()) = 0) : (T_thumb_bits (17, rd, rn, rm, ra, imm, cond, w, ())).val = some (codeV 17 rd rn rm ra imm cond w) := by
  have b : (T_thumb_bits (17, rd, rn, rm, ra, imm, cond, w, ())).val = (bif (PO.val (T_thumb_others (17, rd, rn, rm, ra, imm, cond, w, ()))).isSome then some ((PO.val (T_thumb_others (17, rd, rn, rm, ra, imm, cond, w, ()))).getD default) else none) := rfl
  have o : (T_thumb_others (17, rd, rn, rm, ra, imm, cond, w, ())).val = some (bor .i64 64416 rn, bor .i64 (bor .i64 (ishl .i64 rd 12) (ishl .i64 ra 8)) rm, true, ()) := rfl
  have c : codeV 17 rd rn rm ra imm cond w = (bor .i64 64416 rn, bor .i64 (bor .i64 (ishl .i64 rd 12) (ishl .i64 ra 8)) rm, true, ()) := rfl
  rw [b, o, c]
  rfl
theorem bits_18 (rd rn rm ra imm cond : Int) (w : Bool) (h : V_thumb_Check (18, rd, rn, rm, ra, imm, cond, w, ()) = 0) : (T_thumb_bits (18, rd, rn, rm, ra, imm, cond, w, ())).val = some (codeV 18 rd rn rm ra imm cond w) := by
  have b : (T_thumb_bits (18, rd, rn, rm, ra, imm, cond, w, ())).val = (bif (PO.val (T_thumb_others (18, rd, rn, rm, ra, imm, cond, w, ()))).isSome then some ((PO.val (T_thumb_others (18, rd, rn, rm, ra, imm, cond, w, ()))).getD default) else none) := rfl
  obtain ⟨c1, c2, c3, c4⟩ := check_bfi h
  have hs : w64 (w64 (imm + ra) - 1) = imm + ra - 1 := by rw [w64_id (n := imm + ra) (by omega) (by omega), w64_id (by omega) (by omega)]
  obtain ⟨n, hn⟩ := Int.eq_ofNat_of_zero_le (show 0 ≤ imm + ra - 1 by omega)
  have g := put_ok n [(imm, 2, 3, 12, ()), (rd, 0, 4, 8, ()), (imm, 0, 2, 6, ())] (by omega) rfl
  have o : (T_thumb_others (18, rd, rn, rm, ra, imm, cond, w, ())).val = some (bor .i64 62304 rn, V_thumb_put (imm + ra - 1, [(imm, 2, 3, 12, ()), (rd, 0, 4, 8, ()), (imm, 0, 2, 6, ())]), true, ()) := by
    refine Eq.trans (b := (bif G_thumb_put (w64 (w64 (imm + ra) - 1), [(imm, 2, 3, 12, ()), (rd, 0, 4, 8, ()), (imm, 0, 2, 6, ())]) then some (bor .i64 62304 rn, V_thumb_put (w64 (w64 (imm + ra) - 1), [(imm, 2, 3, 12, ()), (rd, 0, 4, 8, ()), (imm, 0, 2, 6, ())]), true, ()) else none)) rfl ?_
    rw [hs, hn, g]
    rfl
  have c : codeV 18 rd rn rm ra imm cond w = (bor .i64 62304 rn, V_thumb_put (imm + ra - 1, [(imm, 2, 3, 12, ()), (rd, 0, 4, 8, ()), (imm, 0, 2, 6, ())]), true, ()) := rfl
  rw [b, o, c]
  rfl
theorem bits_19 (rd rn rm ra imm cond : Int) (w : Bool) (_ : V_thumb_Check (19, rd, rn, rm, ra, imm, cond, w, ()) = 0) : (T_thumb_bits (19, rd, rn, rm, ra, imm, cond, w, ())).val = some (codeV 19 rd rn rm ra imm cond w) := by
  have b : (T_thumb_bits (19, rd, rn, rm, ra, imm, cond, w, ())).val = (bif (PO.val (T_thumb_others (19, rd, rn, rm, ra, imm, cond, w, ()))).isSome then some ((PO.val (T_thumb_others (19, rd, rn, rm, ra, imm, cond, w, ()))).getD default) else none) := rfl
  have e : (T_thumb_short (26624, rd, rn)).val = some (V_thumb_put (26624, [(rd, 0, 3, 0, ()), (rn, 0, 3, 3, ())]), 0, false, ()) := short_val 26624 rd rn (by omega)
  have o : (T_thumb_others (19, rd, rn, rm, ra, imm, cond, w, ())).val = some (V_thumb_put (26624, [(rd, 0, 3, 0, ()), (rn, 0, 3, 3, ())]), 0, false, ()) := by
    refine Eq.trans (b := (bif (PO.val (T_thumb_short (26624, rd, rn))).isSome then some ((PO.val (T_thumb_short (26624, rd, rn))).getD default) else none)) rfl ?_
    rw [e]
    rfl
  have c : codeV 19 rd rn rm ra imm cond w = (V_thumb_put (26624, [(rd, 0, 3, 0, ()), (rn, 0, 3, 3, ())]), 0, false, ()) := rfl
  rw [b, o, c]
  rfl
theorem bits_20 (rd rn rm ra imm cond : Int) (w : Bool) (_ : V_thumb_Check (20, rd, rn, rm, ra, imm, cond, w, ()) = 0) : (T_thumb_bits (20, rd, rn, rm, ra, imm, cond, w, ())).val = some (codeV 20 rd rn rm ra imm cond w) := by
  have b : (T_thumb_bits (20, rd, rn, rm, ra, imm, cond, w, ())).val = (bif (PO.val (T_thumb_others (20, rd, rn, rm, ra, imm, cond, w, ()))).isSome then some ((PO.val (T_thumb_others (20, rd, rn, rm, ra, imm, cond, w, ()))).getD default) else none) := rfl
  have e : (T_thumb_short (24576, rd, rn)).val = some (V_thumb_put (24576, [(rd, 0, 3, 0, ()), (rn, 0, 3, 3, ())]), 0, false, ()) := short_val 24576 rd rn (by omega)
  have o : (T_thumb_others (20, rd, rn, rm, ra, imm, cond, w, ())).val = some (V_thumb_put (24576, [(rd, 0, 3, 0, ()), (rn, 0, 3, 3, ())]), 0, false, ()) := by
    refine Eq.trans (b := (bif (PO.val (T_thumb_short (24576, rd, rn))).isSome then some ((PO.val (T_thumb_short (24576, rd, rn))).getD default) else none)) rfl ?_
    rw [e]
    rfl
  have c : codeV 20 rd rn rm ra imm cond w = (V_thumb_put (24576, [(rd, 0, 3, 0, ()), (rn, 0, 3, 3, ())]), 0, false, ()) := rfl
  rw [b, o, c]
  rfl
theorem bits_21 (rd rn rm ra imm cond : Int) (w : Bool) (_ : V_thumb_Check (21, rd, rn, rm, ra, imm, cond, w, ()) = 0) : (T_thumb_bits (21, rd, rn, rm, ra, imm, cond, w, ())).val = some (codeV 21 rd rn rm ra imm cond w) := by
  have b : (T_thumb_bits (21, rd, rn, rm, ra, imm, cond, w, ())).val = (bif (PO.val (T_thumb_others (21, rd, rn, rm, ra, imm, cond, w, ()))).isSome then some ((PO.val (T_thumb_others (21, rd, rn, rm, ra, imm, cond, w, ()))).getD default) else none) := rfl
  have e : (T_thumb_short (30720, rd, rn)).val = some (V_thumb_put (30720, [(rd, 0, 3, 0, ()), (rn, 0, 3, 3, ())]), 0, false, ()) := short_val 30720 rd rn (by omega)
  have o : (T_thumb_others (21, rd, rn, rm, ra, imm, cond, w, ())).val = some (V_thumb_put (30720, [(rd, 0, 3, 0, ()), (rn, 0, 3, 3, ())]), 0, false, ()) := by
    refine Eq.trans (b := (bif (PO.val (T_thumb_short (30720, rd, rn))).isSome then some ((PO.val (T_thumb_short (30720, rd, rn))).getD default) else none)) rfl ?_
    rw [e]
    rfl
  have c : codeV 21 rd rn rm ra imm cond w = (V_thumb_put (30720, [(rd, 0, 3, 0, ()), (rn, 0, 3, 3, ())]), 0, false, ()) := rfl
  rw [b, o, c]
  rfl
theorem bits_22 (rd rn rm ra imm cond : Int) (w : Bool) (_ : V_thumb_Check (22, rd, rn, rm, ra, imm, cond, w, ()) = 0) : (T_thumb_bits (22, rd, rn, rm, ra, imm, cond, w, ())).val = some (codeV 22 rd rn rm ra imm cond w) := by
  have b : (T_thumb_bits (22, rd, rn, rm, ra, imm, cond, w, ())).val = (bif (PO.val (T_thumb_others (22, rd, rn, rm, ra, imm, cond, w, ()))).isSome then some ((PO.val (T_thumb_others (22, rd, rn, rm, ra, imm, cond, w, ()))).getD default) else none) := rfl
  have e : (T_thumb_short (28672, rd, rn)).val = some (V_thumb_put (28672, [(rd, 0, 3, 0, ()), (rn, 0, 3, 3, ())]), 0, false, ()) := short_val 28672 rd rn (by omega)
  have o : (T_thumb_others (22, rd, rn, rm, ra, imm, cond, w, ())).val = some (V_thumb_put (28672, [(rd, 0, 3, 0, ()), (rn, 0, 3, 3, ())]), 0, false, ()) := by
    refine Eq.trans (b := (bif (PO.val (T_thumb_short (28672, rd, rn))).isSome then some ((PO.val (T_thumb_short (28672, rd, rn))).getD default) else none)) rfl ?_
    rw [e]
    rfl
  have c : codeV 22 rd rn rm ra imm cond w = (V_thumb_put (28672, [(rd, 0, 3, 0, ()), (rn, 0, 3, 3, ())]), 0, false, ()) := rfl
  rw [b, o, c]
  rfl
theorem bits_23 (rd rn rm ra imm cond : Int) (w : Bool) (_ : V_thumb_Check (23, rd, rn, rm, ra, imm, cond, w, ()) = 0) : (T_thumb_bits (23, rd, rn, rm, ra, imm, cond, w, ())).val = some (codeV 23 rd rn rm ra imm cond w) := by
  have b : (T_thumb_bits (23, rd, rn, rm, ra, imm, cond, w, ())).val = (bif (PO.val (T_thumb_others (23, rd, rn, rm, ra, imm, cond, w, ()))).isSome then some ((PO.val (T_thumb_others (23, rd, rn, rm, ra, imm, cond, w, ()))).getD default) else none) := rfl
  have e : (T_thumb_short (17024, rn, rm)).val = some (V_thumb_put (17024, [(rn, 0, 3, 0, ()), (rm, 0, 3, 3, ())]), 0, false, ()) := short_val 17024 rn rm (by omega)
  have o : (T_thumb_others (23, rd, rn, rm, ra, imm, cond, w, ())).val = some (V_thumb_put (17024, [(rn, 0, 3, 0, ()), (rm, 0, 3, 3, ())]), 0, false, ()) := by
    refine Eq.trans (b := (bif (PO.val (T_thumb_short (17024, rn, rm))).isSome then some ((PO.val (T_thumb_short (17024, rn, rm))).getD default) else none)) rfl ?_
    rw [e]
    rfl
  have c : codeV 23 rd rn rm ra imm cond w = (V_thumb_put (17024, [(rn, 0, 3, 0, ()), (rm, 0, 3, 3, ())]), 0, false, ()) := rfl
  rw [b, o, c]
  rfl
theorem bits_24 (rd rn rm ra imm cond : Int) (w : Bool) (_ : V_thumb_Check (24, rd, rn, rm, ra, imm, cond, w, ()) = 0) : (T_thumb_bits (24, rd, rn, rm, ra, imm, cond, w, ())).val = some (codeV 24 rd rn rm ra imm cond w) := by
  have b : (T_thumb_bits (24, rd, rn, rm, ra, imm, cond, w, ())).val = (bif (PO.val (T_thumb_others (24, rd, rn, rm, ra, imm, cond, w, ()))).isSome then some ((PO.val (T_thumb_others (24, rd, rn, rm, ra, imm, cond, w, ()))).getD default) else none) := rfl
  have e : (T_thumb_wide (24, rd, rn, rm, ra, imm, cond, w, ())).val = some (wideV 24 imm cond) := wide_val 24 rd rn rm ra imm cond w
  have g : G_thumb_put (57344, [(imm, 1, 11, 0, ())]) = true := put_ok 57344 [(imm, 1, 11, 0, ())] (by omega) rfl
  have o : (T_thumb_others (24, rd, rn, rm, ra, imm, cond, w, ())).val = some (bif w then wideV 24 imm cond else (V_thumb_put (57344, [(imm, 1, 11, 0, ())]), 0, false, ())) := by
    refine Eq.trans (b := (bif w then (bif (PO.val (T_thumb_wide (24, rd, rn, rm, ra, imm, cond, w, ()))).isSome then some ((PO.val (T_thumb_wide (24, rd, rn, rm, ra, imm, cond, w, ()))).getD default) else none) else (bif G_thumb_put (57344, [(imm, 1, 11, 0, ())]) then some (V_thumb_put (57344, [(imm, 1, 11, 0, ())]), 0, false, ()) else none))) rfl ?_
    rw [e, g]
    cases w <;> rfl
  have c : codeV 24 rd rn rm ra imm cond w = (bif w then wideV 24 imm cond else (V_thumb_put (57344, [(imm, 1, 11, 0, ())]), 0, false, ())) := rfl
  rw [b, o, c]
  rfl
theorem bits_25 (rd rn rm ra imm cond : Int) (w : Bool) (_ : V_thumb_Check (25, rd, rn, rm, ra, imm, cond, w, ()) = 0) : (T_thumb_bits (25, rd, rn, rm, ra, imm, cond, w, ())).val = some (codeV 25 rd rn rm ra imm cond w) := by
  have b : (T_thumb_bits (25, rd, rn, rm, ra, imm, cond, w, ())).val = (bif (PO.val (T_thumb_others (25, rd, rn, rm, ra, imm, cond, w, ()))).isSome then some ((PO.val (T_thumb_others (25, rd, rn, rm, ra, imm, cond, w, ()))).getD default) else none) := rfl
  have e : (T_thumb_wide (25, rd, rn, rm, ra, imm, cond, w, ())).val = some (wideV 25 imm cond) := wide_val 25 rd rn rm ra imm cond w
  have g : G_thumb_put (53248, [(cond, 0, 4, 8, ()), (imm, 1, 8, 0, ())]) = true := put_ok 53248 [(cond, 0, 4, 8, ()), (imm, 1, 8, 0, ())] (by omega) rfl
  have o : (T_thumb_others (25, rd, rn, rm, ra, imm, cond, w, ())).val = some (bif w then wideV 25 imm cond else (V_thumb_put (53248, [(cond, 0, 4, 8, ()), (imm, 1, 8, 0, ())]), 0, false, ())) := by
    refine Eq.trans (b := (bif w then (bif (PO.val (T_thumb_wide (25, rd, rn, rm, ra, imm, cond, w, ()))).isSome then some ((PO.val (T_thumb_wide (25, rd, rn, rm, ra, imm, cond, w, ()))).getD default) else none) else (bif G_thumb_put (53248, [(cond, 0, 4, 8, ()), (imm, 1, 8, 0, ())]) then some (V_thumb_put (53248, [(cond, 0, 4, 8, ()), (imm, 1, 8, 0, ())]), 0, false, ()) else none))) rfl ?_
    rw [e, g]
    cases w <;> rfl
  have c : codeV 25 rd rn rm ra imm cond w = (bif w then wideV 25 imm cond else (V_thumb_put (53248, [(cond, 0, 4, 8, ()), (imm, 1, 8, 0, ())]), 0, false, ())) := rfl
  rw [b, o, c]
  rfl
theorem bits_val (op rd rn rm ra imm cond : Int) (w : Bool) (h : V_thumb_Check (op, rd, rn, rm, ra, imm, cond, w, ()) = 0) : (T_thumb_bits (op, rd, rn, rm, ra, imm, cond, w, ())).val = some (codeV op rd rn rm ra imm cond w) := by
  rcases op_cases op with rfl | rfl | rfl | rfl | rfl | rfl | rfl | rfl | rfl | rfl | rfl | rfl | rfl | rfl | rfl | rfl | rfl | rfl | rfl | rfl | rfl | rfl | rfl | rfl | rfl | hop
  case inr.inr.inr.inr.inr.inr.inr.inr.inr.inr.inr.inr.inr.inr.inr.inr.inr.inr.inr.inr.inr.inr.inr.inr.inr =>
    exfalso
    have e := fun k hk => op_none (n := op) (k := k) hop hk
    simp [V_thumb_Check, T_thumb_Check, V_thumb_formOf, T_thumb_formOf, PO.getO, PO.val, e] at h
  · exact bits_1 rd rn rm ra imm cond w h
  · exact bits_2 rd rn rm ra imm cond w h
  · exact bits_3 rd rn rm ra imm cond w h
  · exact bits_4 rd rn rm ra imm cond w h
  · exact bits_5 rd rn rm ra imm cond w h
  · exact bits_6 rd rn rm ra imm cond w h
  · exact bits_7 rd rn rm ra imm cond w h
  · exact bits_8 rd rn rm ra imm cond w h
  · exact bits_9 rd rn rm ra imm cond w h
  · exact bits_10 rd rn rm ra imm cond w h
  · exact bits_11 rd rn rm ra imm cond w h
  · exact bits_12 rd rn rm ra imm cond w h
  · exact bits_13 rd rn rm ra imm cond w h
  · exact bits_14 rd rn rm ra imm cond w h
  · exact bits_15 rd rn rm ra imm cond w h
  · exact bits_16 rd rn rm ra imm cond w h
  · exact bits_17 rd rn rm ra imm cond w h
  · exact bits_18 rd rn rm ra imm cond w h
  · exact bits_19 rd rn rm ra imm cond w h
  · exact bits_20 rd rn rm ra imm cond w h
  · exact bits_21 rd rn rm ra imm cond w h
  · exact bits_22 rd rn rm ra imm cond w h
  · exact bits_23 rd rn rm ra imm cond w h
  · exact bits_24 rd rn rm ra imm cond w h
  · exact bits_25 rd rn rm ra imm cond w h

theorem code_long (op rd rn rm ra imm cond : Int) (w : Bool) (h : V_thumb_Check (op, rd, rn, rm, ra, imm, cond, w, ()) = 0) : (codeV op rd rn rm ra imm cond w).2.2.1 = isLong op w := by
  have hwide : ∀ op : Int, (wideV op imm cond).2.2.1 = true := fun op => by unfold wideV; cases op == 25 <;> rfl
  rcases op_cases op with rfl | rfl | rfl | rfl | rfl | rfl | rfl | rfl | rfl | rfl | rfl | rfl | rfl | rfl | rfl | rfl | rfl | rfl | rfl | rfl | rfl | rfl | rfl | rfl | rfl | hop
  case inr.inr.inr.inr.inr.inr.inr.inr.inr.inr.inr.inr.inr.inr.inr.inr.inr.inr.inr.inr.inr.inr.inr.inr.inr =>
    exfalso
    have e := fun k hk => op_none (n := op) (k := k) hop hk
    simp [V_thumb_Check, T_thumb_Check, V_thumb_formOf, T_thumb_formOf, PO.getO, PO.val, e] at h
  all_goals
    have hw : w = false ∨ w = true := by cases w <;> simp
    rcases hw with rfl | rfl
    · rfl
    · first
      | (exfalso; simp [V_thumb_Check, T_thumb_Check, PO.getO, PO.val] at h; done)
      | rfl
      | exact hwide _

end Go.Av
