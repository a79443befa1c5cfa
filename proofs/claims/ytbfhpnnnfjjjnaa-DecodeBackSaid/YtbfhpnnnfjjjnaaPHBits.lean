/- Numbers as lists of bits, the greatest first. -/
import Derived.Test.YtbfhpnnnfjjjnaaPDec
import Derived.Test.YtbfhpnnnfjjjnaaPOne
namespace Go.Av
open Go

/-- The number of bits, as Go's number. -/
def H (l : List Bool) : Int := ((hb l 0 : Nat) : Int)
theorem hb_lt0 (l : List Bool) : hb l 0 < 2 ^ l.length := by
  have := hb_lt l 0 0 (by omega)
  rwa [Nat.zero_add] at this
theorem H_nonneg (l : List Bool) : 0 ≤ H l := by unfold H; omega
theorem H_lt {l : List Bool} {k : Nat} (h : l.length ≤ k) : H l < (2 ^ k : Nat) := by
  have h1 := hb_lt0 l
  have h2 : 2 ^ l.length ≤ 2 ^ k := pow_lt h
  unfold H; omega
theorem hb_tb (l : List Bool) (j : Nat) : (hb l 0).testBit j = (decide (j < l.length) && l.getD (l.length - 1 - j) false) := by
  rw [hb_bit]
  by_cases h : j < l.length
  · rw [if_pos h, decide_eq_true h, Bool.true_and]
  · rw [if_neg h, decide_eq_false h, Bool.false_and, Nat.zero_testBit]
theorem hb_shift (l : List Bool) (a : Nat) (h : a ≤ l.length) : hb l 0 / 2 ^ a = hb (l.take (l.length - a)) 0 := by
  refine Nat.eq_of_testBit_eq fun j => ?_
  rw [Nat.testBit_div_two_pow, hb_tb, hb_tb, List.length_take, Nat.min_eq_left (Nat.sub_le ..)]
  by_cases hj : j < l.length - a
  · rw [decide_eq_true hj, decide_eq_true (show j + a < l.length by omega), Bool.true_and, Bool.true_and, List.getD_eq_getElem?_getD, List.getD_eq_getElem?_getD, List.getElem?_take, if_pos (by omega)]
    congr 2; omega
  · rw [decide_eq_false hj, decide_eq_false (show ¬ j + a < l.length by omega), Bool.false_and, Bool.false_and]
theorem hb_low (l : List Bool) (m : Nat) (h : m ≤ l.length) : hb l 0 % 2 ^ m = hb (l.drop (l.length - m)) 0 := by
  refine Nat.eq_of_testBit_eq fun j => ?_
  rw [Nat.testBit_mod_two_pow, hb_tb, hb_tb, List.length_drop]
  by_cases hj : j < m
  · rw [decide_eq_true hj, decide_eq_true (show j < l.length by omega), decide_eq_true (show j < l.length - (l.length - m) by omega), Bool.true_and, Bool.true_and, Bool.true_and, List.getD_eq_getElem?_getD, List.getD_eq_getElem?_getD, List.getElem?_drop]
    congr 2; omega
  · rw [decide_eq_false hj, decide_eq_false (show ¬ j < l.length - (l.length - m) by omega), Bool.false_and, Bool.false_and]
/-- The bits from a place on. -/
def sl (l : List Bool) (a m : Nat) : List Bool := (l.take (l.length - a)).drop (l.length - a - m)
theorem sl_len (l : List Bool) (a m : Nat) (h : a + m ≤ l.length) : (sl l a m).length = m := by
  unfold sl; rw [List.length_drop, List.length_take]; omega
theorem hb_field (l : List Bool) (a m : Nat) (h : a + m ≤ l.length) : hb l 0 / 2 ^ a % 2 ^ m = hb (sl l a m) 0 := by
  have hl : (l.take (l.length - a)).length = l.length - a := by rw [List.length_take]; omega
  rw [hb_shift l a (by omega), hb_low _ m (by omega), hl]
  rfl
theorem some_H (l : List Bool) (a m : Nat) (h : a + m ≤ l.length) : V_decode_some (H l, (a : Int), (m : Int)) = H (sl l a m) := by
  show H l / (2 ^ (a : Int).toNat : Nat) % (2 ^ (m : Int).toNat : Nat) = H (sl l a m)
  rw [Int.toNat_natCast, Int.toNat_natCast]
  unfold H
  rw [← hb_field l a m h]
  norm_cast
theorem bitsN_hb : ∀ (m n : Nat), hb (bitsN m n) 0 = n % 2 ^ m := by
  intro m n
  refine Nat.eq_of_testBit_eq fun j => ?_
  have key : ∀ (m : Nat) (i : Nat), i < m → (bitsN m n).getD i false = n.testBit (m - 1 - i) := by
    intro m
    induction m with
    | zero => intro i h; omega
    | succ m ih =>
      intro i h
      cases i with
      | zero =>
        show (n / 2 ^ m % 2 == 1) = _
        rw [Nat.testBit_eq_decide_div_mod_eq, show m + 1 - 1 - 0 = m by omega, Bool.eq_iff_iff, beq_iff_eq, decide_eq_true_eq]
      | succ i =>
        show (bitsN m n).getD i false = _
        rw [ih i (by omega)]
        congr 1; omega
  rw [hb_tb, Nat.testBit_mod_two_pow, bitsN_len]
  by_cases hj : j < m
  · rw [decide_eq_true hj, Bool.true_and, Bool.true_and, key m _ (by omega)]
    congr 1; omega
  · rw [decide_eq_false hj, Bool.false_and, Bool.false_and]
theorem bits_hb (l : List Bool) : bitsN l.length (hb l 0) = l :=
  (hb_inj _ _ 0 0 (bitsN_len ..) (by rw [bitsN_hb, Nat.mod_eq_of_lt (hb_lt0 l)])).2
/-- Are bits those of a number? -/
def eqC (l : List Bool) (c : Nat) : Bool := l == bitsN l.length c
theorem eqC_H (l : List Bool) (c : Nat) (hc : c < 2 ^ l.length) : (H l == (c : Int)) = eqC l c := by
  unfold eqC H
  rw [Bool.eq_iff_iff, beq_iff_eq, beq_iff_eq]
  constructor
  · intro h
    have h : hb l 0 = c := by omega
    rw [← h, bits_hb]
  · intro h
    rw [h, bitsN_hb, Nat.mod_eq_of_lt hc]
theorem shr_H (l : List Bool) (k c : Nat) (hk : k ≤ l.length) (hk2 : k < 64) (hc : c < 2 ^ (l.length - k)) : (ishr .i64 (H l) (k : Int) == (c : Int)) = eqC (l.take (l.length - k)) c := by
  have e : ishr .i64 (H l) (k : Int) = H (l.take (l.length - k)) := by
    rw [ishr_i64 _ _ hk2]
    unfold H
    rw [← hb_shift l k hk]
    norm_cast
  rw [e, eqC_H _ _ (by rw [List.length_take, Nat.min_eq_left (Nat.sub_le ..)]; exact hc)]
theorem hb_append (a b : List Bool) : hb (a ++ b) 0 = hb a 0 * 2 ^ b.length + hb b 0 := by
  have key : ∀ (b : List Bool) (n : Nat), hb b n = n * 2 ^ b.length + hb b 0 := by
    intro b
    induction b with
    | nil => intro n; simp [hb]
    | cons x b ih =>
      intro n
      show hb b (2 * n + x.toNat) = _ + hb b (2 * 0 + x.toNat)
      rw [Nat.mul_zero, Nat.zero_add, ih (2 * n + x.toNat), ih x.toNat, List.length_cons, Nat.pow_succ]
      generalize 2 ^ b.length = p
      rw [Nat.add_mul, Nat.mul_comm 2 n, Nat.mul_assoc, Nat.mul_comm 2 p]
      omega
  have h2 : ∀ (a : List Bool) (n : Nat), hb (a ++ b) n = hb b (hb a n) := by
    intro a
    induction a with
    | nil => intro n; rfl
    | cons x a ih => intro n; exact ih _
  rw [h2, key]
/-- A field laid on. -/
theorem bor_cat (h k : Nat) (l : List Bool) (hk : k + l.length ≤ 62) (hh : h * 2 ^ (k + l.length) < 4611686018427387904) :
    bor .i64 ((h * 2 ^ (k + l.length) : Nat) : Int) (ishl .i64 (H l) (k : Int)) = (((h * 2 ^ l.length + hb l 0) * 2 ^ k : Nat) : Int) := by
  have h1 := hb_lt0 l
  have hp : 2 ^ (k + l.length) ≤ 2 ^ 62 := pow_lt hk
  have h2 : hb l 0 * 2 ^ k < 2 ^ (k + l.length) := by rw [Nat.pow_add, Nat.mul_comm (2 ^ k)]; exact Nat.mul_lt_mul_of_pos_right h1 (Nat.two_pow_pos k)
  unfold H
  rw [ishl_small _ k (by omega) (by omega), bor_nat (by omega) (by omega), Nat.mul_comm h, ← Nat.two_pow_add_eq_or_of_lt h2, Nat.pow_add, Nat.add_mul, Nat.mul_comm (2 ^ k), Nat.mul_comm h, Nat.mul_assoc, Nat.mul_assoc, Nat.mul_comm h]
theorem bor_end (h : Nat) (l : List Bool) (hk : l.length ≤ 62) (hh : h * 2 ^ l.length < 4611686018427387904) :
    bor .i64 ((h * 2 ^ l.length : Nat) : Int) (H l) = ((h * 2 ^ l.length + hb l 0 : Nat) : Int) := by
  have h1 := hb_lt0 l
  have hp : 2 ^ l.length ≤ 2 ^ 62 := pow_lt hk
  unfold H
  rw [bor_nat (by omega) (by omega), Nat.mul_comm h, Nat.two_pow_add_eq_or_of_lt h1]
theorem ishl_H (l : List Bool) (k : Nat) (hk : l.length + k ≤ 61) : ishl .i64 (H l) (k : Int) = ((hb l 0 * 2 ^ k : Nat) : Int) := by
  have h1 := hb_lt0 l
  have h2 : hb l 0 * 2 ^ k < 2 ^ (l.length + k) := by rw [Nat.pow_add]; exact Nat.mul_lt_mul_of_pos_right h1 (Nat.two_pow_pos k)
  have hp : 2 ^ (l.length + k) ≤ 2 ^ 61 := pow_lt hk
  exact ishl_small _ _ (by omega) (by omega)
theorem bor2 (a b : List Bool) (k : Nat) (hb' : b.length = k) (hk : a.length + k ≤ 61) : bor .i64 (ishl .i64 (H a) (k : Int)) (H b) = H (a ++ b) := by
  subst hb'
  have h1 := hb_lt0 a
  have h2 : hb a 0 * 2 ^ b.length < 2 ^ (a.length + b.length) := by rw [Nat.pow_add]; exact Nat.mul_lt_mul_of_pos_right h1 (Nat.two_pow_pos _)
  have hp : 2 ^ (a.length + b.length) ≤ 2 ^ 61 := pow_lt hk
  rw [ishl_H _ _ hk, bor_end _ _ (by omega) (by omega)]
  unfold H
  rw [hb_append]
theorem bor2' (a b : List Bool) (k j : Nat) (hb' : b.length + j = k) (hk : a.length + k ≤ 61) : bor .i64 (ishl .i64 (H a) (k : Int)) (ishl .i64 (H b) (j : Int)) = ishl .i64 (H (a ++ b)) (j : Int) := by
  subst hb'
  have h1 := hb_lt0 a
  have h2 : hb a 0 * 2 ^ (b.length + j) < 2 ^ (a.length + (b.length + j)) := by rw [Nat.pow_add 2 a.length]; exact Nat.mul_lt_mul_of_pos_right h1 (Nat.two_pow_pos _)
  have hp : 2 ^ (a.length + (b.length + j)) ≤ 2 ^ 61 := pow_lt hk
  rw [ishl_H _ _ hk, Nat.add_comm b.length j, bor_cat _ _ _ (by omega) (by rw [Nat.add_comm j]; omega), ishl_H _ _ (by rw [List.length_append]; omega), hb_append]
theorem hb_and (a b : List Bool) (h : a.length = b.length) : hb (List.zipWith (· && ·) a b) 0 = hb a 0 &&& hb b 0 := by
  refine Nat.eq_of_testBit_eq fun j => ?_
  rw [Nat.testBit_and, hb_tb, hb_tb, hb_tb, List.length_zipWith, h, Nat.min_self]
  by_cases hj : j < b.length
  · rw [decide_eq_true hj, Bool.true_and, Bool.true_and, Bool.true_and, List.getD_eq_getElem?_getD, List.getD_eq_getElem?_getD, List.getD_eq_getElem?_getD, List.getElem?_zipWith,
      List.getElem?_eq_getElem (show b.length - 1 - j < a.length by omega), List.getElem?_eq_getElem (show b.length - 1 - j < b.length by omega)]
    rfl
  · rw [decide_eq_false hj, Bool.false_and, Bool.false_and, Bool.false_and]
theorem bnot_H (l : List Bool) (m : Nat) (hl : l.length = 16) (hm : m < 65536) : bnot .i64 (H l) (m : Int) = H (List.zipWith (· && ·) (bitsN 16 (65535 - m)) l) := by
  have h1 := hb_lt0 l
  rw [hl] at h1
  have h1 : hb l 0 < 65536 := h1
  have e : (BitVec.ofInt 64 ((hb l 0 : Nat) : Int) &&& ~~~(BitVec.ofInt 64 (m : Int))).toNat = hb (List.zipWith (· && ·) (bitsN 16 (65535 - m)) l) 0 := by
    rw [BitVec.toNat_and, BitVec.toNat_not, ofInt_nat (by omega), ofInt_nat (by omega), hb_and _ _ (by rw [bitsN_len, hl]), bitsN_hb]
    refine Nat.eq_of_testBit_eq fun j => ?_
    rw [Nat.testBit_and, Nat.testBit_and]
    by_cases hj : j < 16
    · rw [Bool.and_comm]
      congr 1
      rw [show 2 ^ 64 - 1 - m = (65535 - m) + 2 ^ 16 * 281474976710655 by omega, show (65535 - m) % 2 ^ 16 = 65535 - m by omega, Nat.add_comm, Nat.testBit_two_pow_mul_add _ (by omega), if_pos hj]
    · have : (hb l 0).testBit j = false := by rw [hb_tb, hl, decide_eq_false hj, Bool.false_and]
      rw [this, Bool.false_and, Bool.and_false]
  have e2 : bnot .i64 (H l) (m : Int) = w64 (((BitVec.ofInt 64 ((hb l 0 : Nat) : Int) &&& ~~~(BitVec.ofInt 64 (m : Int))).toNat : Nat) : Int) := rfl
  rw [e2, e]
  have h3 := hb_lt0 (List.zipWith (· && ·) (bitsN 16 (65535 - m)) l)
  rw [List.length_zipWith, bitsN_len, hl] at h3
  rw [w64_nat (Nat.lt_of_lt_of_le h3 (by decide))]
  rfl
theorem bI_H (l : List Bool) (k : Nat) (h : k < l.length) : bI (H l) k = l.getD (l.length - 1 - k) false := by
  unfold H
  rw [← bI_nat, hb_tb, decide_eq_true h, Bool.true_and]

/-- A number's bits, the greatest first. -/
def bis (x : Int) : Nat → List Bool
  | 0 => []
  | m + 1 => bI x m :: bis x m
theorem bis_len (x : Int) : ∀ m, (bis x m).length = m
  | 0 => rfl
  | m + 1 => congrArg (· + 1) (bis_len x m)
theorem bis_getD (x : Int) : ∀ (m i : Nat), i < m → (bis x m).getD i false = bI x (m - 1 - i)
  | m + 1, 0, _ => by show bI x m = _; congr 1
  | m + 1, i + 1, h => by
    show (bis x m).getD i false = _
    rw [bis_getD x m i (by omega)]
    congr 1; omega
theorem H_bis (x : Int) (m : Nat) : H (bis x m) = x % (2 ^ m : Nat) := by
  have hb := mod_pow_nat x m
  have h1 : H (bis x m) < (2 ^ m : Nat) := H_lt (Nat.le_of_eq (bis_len x m))
  refine bits_inj m (H_nonneg _) h1 hb.1 hb.2 fun k hk => ?_
  rw [bI_H _ _ (by rw [bis_len]; exact hk), bis_len, bis_getD _ _ _ (by omega), bI_mod _ hk]
  congr 1; omega
theorem H_bis_id {x : Int} {m : Nat} (h0 : 0 ≤ x) (h : x < (2 ^ m : Nat)) : H (bis x m) = x := by
  rw [H_bis, Int.emod_eq_of_lt h0 h]

/-- A number with a sign. -/
def SG : List Bool → Int
  | [] => 0
  | b :: r => H r - b.toNat * (2 ^ r.length : Nat)
theorem H_cons (b : Bool) (r : List Bool) : H (b :: r) = b.toNat * (2 ^ r.length : Nat) + H r := by
  have := hb_append [b] r
  unfold H
  rw [show b :: r = [b] ++ r from rfl, this, show hb [b] 0 = b.toNat by cases b <;> rfl, Int.natCast_add, Int.natCast_mul]
theorem SG_eq (b : Bool) (r : List Bool) : SG (b :: r) = bif b then H (b :: r) - (2 ^ (r.length + 1) : Nat) else H (b :: r) := by
  unfold SG
  rw [H_cons, Nat.pow_succ]
  cases b
  · simp
  · simp only [Bool.toNat_true, cond_true]; omega
theorem signed_H (b : Bool) (r : List Bool) : V_decode_signed (H (b :: r), ((r.length + 1 : Nat) : Int)) = SG (b :: r) := by
  rw [SG_eq]
  show (bif H (b :: r) / (2 ^ (((r.length + 1 : Nat) : Int) - 1).toNat : Nat) == 1 then H (b :: r) - (2 ^ ((r.length + 1 : Nat) : Int).toNat : Nat) else H (b :: r)) = _
  rw [show (((r.length + 1 : Nat) : Int) - 1).toNat = r.length by omega, Int.toNat_natCast]
  have e : (H (b :: r) / (2 ^ r.length : Nat) == 1) = b := by
    have h := hb_shift (b :: r) r.length (by simp)
    have e2 : (b :: r).length - r.length = 1 := by simp
    rw [e2] at h
    have e3 : H (b :: r) / (2 ^ r.length : Nat) = ((hb [b] 0 : Nat) : Int) := by
      unfold H
      rw [show hb [b] 0 = hb (b :: r) 0 / 2 ^ r.length from h.symm]
      norm_cast
    rw [e3]
    cases b <;> rfl
  rw [e]
theorem SG_twice : ∀ l : List Bool, 2 * SG l = SG (l ++ [false]) ∨ l = []
  | [] => .inr rfl
  | b :: r => .inl (by
    show 2 * (H r - b.toNat * (2 ^ r.length : Nat)) = H (r ++ [false]) - b.toNat * (2 ^ (r ++ [false]).length : Nat)
    have h : H (r ++ [false]) = 2 * H r := by
      unfold H
      rw [hb_append]
      show ((hb r 0 * 2 + 0 : Nat) : Int) = _
      omega
    rw [h, List.length_append, Nat.pow_add]
    generalize 2 ^ r.length = p
    cases b <;> simp <;> omega)
theorem bI_SG (b : Bool) (r : List Bool) (k : Nat) (h : k < r.length + 1) : bI (SG (b :: r)) k = (b :: r).getD (r.length - k) false := by
  have e : SG (b :: r) % (2 ^ (r.length + 1) : Nat) = H (b :: r) % (2 ^ (r.length + 1) : Nat) := by
    rw [SG_eq]
    cases b
    · rfl
    · exact Int.sub_emod_right ..
  rw [← bI_mod (SG (b :: r)) h, e, bI_mod _ h, bI_H _ _ (by simpa using h)]
  congr 1
theorem SG_bis (x : Int) (m : Nat) (h1 : -(2 ^ m : Nat) ≤ x) (h2 : x < (2 ^ m : Nat)) : SG (bis x (m + 1)) = x := by
  show H (bis x m) - (bI x m).toNat * (2 ^ (bis x m).length : Nat) = x
  rw [H_bis, bis_len]
  unfold bI
  have hp := Nat.two_pow_pos m
  by_cases hx : x < 0
  · have hd : x / (2 ^ m : Nat) = -1 := by
      have e1 : (x + (2 ^ m : Nat)) / (2 ^ m : Nat) = 0 := Int.ediv_eq_zero_of_lt (by omega) (by omega)
      rw [Int.add_ediv_of_dvd_right (Int.dvd_refl _), Int.ediv_self (by omega)] at e1
      omega
    have hm := Int.emod_add_mul_ediv x (2 ^ m : Nat)
    rw [hd] at hm ⊢
    simp only [show ((-1 : Int) % 2 == 1) = true from rfl, Bool.toNat_true]
    omega
  · have hd : x / (2 ^ m : Nat) = 0 := Int.ediv_eq_zero_of_lt (by omega) h2
    rw [hd, Int.emod_eq_of_lt (by omega) h2]
    simp
end Go.Av
