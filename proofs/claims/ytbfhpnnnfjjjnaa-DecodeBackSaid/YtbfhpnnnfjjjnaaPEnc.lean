/- Layer 2: instructions' bits. -/
import Derived.Test.YtbfhpnnnfjjjnaaPThumb
import Derived.Test.YtbfhpnnnfjjjnaaPWord
namespace Go.Av
open Go
abbrev tpart : Ty := .pair (.int .i64) (.pair (.int .i64) (.pair (.int .i64) (.pair (.int .i64) .unit)))
theorem w64_nat {k : Nat} (h : k < 9223372036854775808) : w64 (k : Int) = k := w64_id (by omega) (by omega)
/-- Some bits of a number, at a place. -/
def fldN (n from_ many at_ : Int) : Nat := (n / (2 ^ from_.toNat : Nat) % (2 ^ many.toNat : Nat)).toNat * 2 ^ at_.toNat
def partOk (p : tpart.den) : Bool := (decide (0 ≤ p.2.1) && decide (p.2.1 < 64)) && ((decide (0 ≤ p.2.2.1) && decide (p.2.2.1 ≤ 32)) && (decide (0 ≤ p.2.2.2.1) && decide (p.2.2.2.1 ≤ 16)))
def partN (p : tpart.den) : Nat := fldN p.1 p.2.1 p.2.2.1 p.2.2.2.1
theorem bor_nat {a b : Nat} (ha : a < 9223372036854775808) (hb : b < 9223372036854775808) : bor .i64 (a : Int) (b : Int) = ((a ||| b : Nat) : Int) := by
  show w64 (BitVec.ofInt 64 (a : Int) ||| BitVec.ofInt 64 (b : Int)).toNat = _
  rw [BitVec.toNat_or, ofInt_nat (by omega), ofInt_nat (by omega)]
  have : a ||| b < 2 ^ 63 := Nat.or_lt_two_pow ha hb
  exact w64_id (by omega) (by omega)
theorem mod_pow_nat (n : Int) (k : Nat) : 0 ≤ n % (2 ^ k : Nat) ∧ n % (2 ^ k : Nat) < (2 ^ k : Nat) := by
  have := Nat.two_pow_pos k
  exact ⟨Int.emod_nonneg _ (by omega), Int.emod_lt_of_pos _ (by omega)⟩
theorem fldN_lt (n f : Int) {m a : Nat} (hm : m ≤ 32) (ha : a ≤ 16) : fldN n f (m : Int) (a : Int) < 281474976710656 := by
  unfold fldN
  rw [Int.toNat_natCast, Int.toNat_natCast]
  have h := mod_pow_nat (n / (2 ^ f.toNat : Nat)) m
  have h1 : (n / (2 ^ f.toNat : Nat) % (2 ^ m : Nat)).toNat < 2 ^ m := by omega
  have h2 : 2 ^ m ≤ 2 ^ 32 := pow_lt hm
  have h3 : 2 ^ a ≤ 2 ^ 16 := pow_lt ha
  have h4 := Nat.mul_lt_mul_of_lt_of_le (Nat.lt_of_lt_of_le h1 h2) h3 (by omega)
  exact h4
theorem fld_val (n : Int) {f m a : Nat} (hf : f < 64) (hm : m ≤ 32) (ha : a ≤ 16) : ishl .i64 (band .i64 (ishr .i64 n (f : Int)) (w64 (ishl .i64 1 (m : Int) - 1))) (a : Int) = (fldN n (f : Int) (m : Int) (a : Int) : Int) := by
  have hl := fldN_lt n (f : Int) hm ha
  have h1 : 2 ^ m ≤ 2 ^ 32 := pow_lt hm
  have h2 : ishl .i64 1 (m : Int) = ((2 ^ m : Nat) : Int) := by
    rw [ishl_nat _ _ (by omega), Int.one_mul, show (2 : Int) ^ m = ((2 ^ m : Nat) : Int) by simp]
    exact w64_nat (by omega)
  have hp := Nat.two_pow_pos m
  have h3 : w64 (((2 ^ m : Nat) : Int) - 1) = ((2 ^ m : Nat) : Int) - 1 := by
    generalize 2 ^ m = q at *
    exact w64_id (by omega) (by omega)
  rw [h2, h3, ishr_i64 _ _ hf, band_low _ _ (by omega), ishl_nat _ _ (by omega)]
  unfold fldN at hl ⊢
  rw [Int.toNat_natCast, Int.toNat_natCast, Int.toNat_natCast] at *
  have h := mod_pow_nat (n / (2 ^ f : Nat)) m
  obtain ⟨q, hq⟩ : ∃ q : Nat, n / (2 ^ f : Nat) % (2 ^ m : Nat) = (q : Int) := ⟨(n / (2 ^ f : Nat) % (2 ^ m : Nat)).toNat, by omega⟩
  rw [hq] at hl ⊢
  rw [Int.toNat_natCast] at hl ⊢
  rw [show (q : Int) * 2 ^ a = ((q * 2 ^ a : Nat) : Int) by simp]
  exact w64_id (by omega) (by omega)
theorem part_val (p : tpart.den) (h : partOk p = true) : ishl .i64 (band .i64 (ishr .i64 p.1 p.2.1) (w64 (ishl .i64 1 p.2.2.1 - 1))) p.2.2.2.1 = (partN p : Int) ∧ partN p < 281474976710656 ∧ decide (p.2.1 < 0) = false ∧ decide (p.2.2.1 < 0) = false ∧ decide (p.2.2.2.1 < 0) = false := by
  obtain ⟨n, f, m, a, u⟩ := p
  simp only [partOk, Bool.and_eq_true, decide_eq_true_eq] at h
  obtain ⟨⟨h1, h2⟩, ⟨h3, h4⟩, h5, h6⟩ := h
  dsimp only [Ty.den] at *
  obtain ⟨f, rfl⟩ := Int.eq_ofNat_of_zero_le h1
  obtain ⟨m, rfl⟩ := Int.eq_ofNat_of_zero_le h3
  obtain ⟨a, rfl⟩ := Int.eq_ofNat_of_zero_le h5
  exact ⟨fld_val n (by omega) (by omega) (by omega), fldN_lt n _ (by omega) (by omega), dec_false (by omega), dec_false (by omega), dec_false (by omega)⟩
theorem or_part {b : Nat} (p : tpart.den) (h : partOk p = true) (hb : b < 281474976710656) : bor .i64 (b : Int) (ishl .i64 (band .i64 (ishr .i64 p.1 p.2.1) (w64 (ishl .i64 1 p.2.2.1 - 1))) p.2.2.2.1) = ((b ||| partN p : Nat) : Int) ∧ b ||| partN p < 281474976710656 := by
  obtain ⟨h1, h2, _⟩ := part_val p h
  exact ⟨by rw [h1, bor_nat (by omega) (by omega)], Nat.or_lt_two_pow (n := 48) hb h2⟩
/-- thumb.put -/
abbrev A_thumb_put : List Ty := [(.int .i64), (.sl tpart)]
abbrev S_thumb_put : Sh := Sh.ty (Ty.int IntKind.i64)
def T_thumb_put (x : dens A_thumb_put) : PO (Sh.den S_thumb_put) :=
  (.ite (decide (0 < lenI x.2))
   (.ite (inRange 0 (List.length x.2))
    (.ite (!decide ((List.getD x.2 (Int.toNat 0) (Ty.dflt tpart)).2.1 < 0) && (!decide ((List.getD x.2 (Int.toNat 0) (Ty.dflt tpart)).2.2.1 < 0) && !decide ((List.getD x.2 (Int.toNat 0) (Ty.dflt tpart)).2.2.2.1 < 0)))
     (.ite (decide (1 < lenI x.2))
      (.ite (inRange 1 (List.length x.2))
       (.ite (!decide ((List.getD x.2 (Int.toNat 1) (Ty.dflt tpart)).2.1 < 0) && (!decide ((List.getD x.2 (Int.toNat 1) (Ty.dflt tpart)).2.2.1 < 0) && !decide ((List.getD x.2 (Int.toNat 1) (Ty.dflt tpart)).2.2.2.1 < 0)))
        (.ite (decide (2 < lenI x.2))
         (.ite (inRange 2 (List.length x.2))
          (.ite (!decide ((List.getD x.2 (Int.toNat 2) (Ty.dflt tpart)).2.1 < 0) && (!decide ((List.getD x.2 (Int.toNat 2) (Ty.dflt tpart)).2.2.1 < 0) && !decide ((List.getD x.2 (Int.toNat 2) (Ty.dflt tpart)).2.2.2.1 < 0)))
           (.ite (decide (3 < lenI x.2))
            (.ite (inRange 3 (List.length x.2))
             (.ite (!decide ((List.getD x.2 (Int.toNat 3) (Ty.dflt tpart)).2.1 < 0) && (!decide ((List.getD x.2 (Int.toNat 3) (Ty.dflt tpart)).2.2.1 < 0) && !decide ((List.getD x.2 (Int.toNat 3) (Ty.dflt tpart)).2.2.2.1 < 0)))
              (.ite (decide (4 < lenI x.2))
               (.ite (inRange 4 (List.length x.2))
                (.ite (!decide ((List.getD x.2 (Int.toNat 4) (Ty.dflt tpart)).2.1 < 0) && (!decide ((List.getD x.2 (Int.toNat 4) (Ty.dflt tpart)).2.2.1 < 0) && !decide ((List.getD x.2 (Int.toNat 4) (Ty.dflt tpart)).2.2.2.1 < 0)))
                 (.ite (decide (5 < lenI x.2))
                  (.ite (inRange 5 (List.length x.2))
                   (.ite (!decide ((List.getD x.2 (Int.toNat 5) (Ty.dflt tpart)).2.1 < 0) && (!decide ((List.getD x.2 (Int.toNat 5) (Ty.dflt tpart)).2.2.1 < 0) && !decide ((List.getD x.2 (Int.toNat 5) (Ty.dflt tpart)).2.2.2.1 < 0)))
                    .fail
                    .fail)
                   .fail)
                  (.ret (bor IntKind.i64 (bor IntKind.i64 (bor IntKind.i64 (bor IntKind.i64 (bor IntKind.i64 x.1 (ishl IntKind.i64 (band IntKind.i64 (ishr IntKind.i64 (List.getD x.2 (Int.toNat 0) (Ty.dflt tpart)).1 (List.getD x.2 (Int.toNat 0) (Ty.dflt tpart)).2.1) (w64 (ishl IntKind.i64 1 (List.getD x.2 (Int.toNat 0) (Ty.dflt tpart)).2.2.1 - 1))) (List.getD x.2 (Int.toNat 0) (Ty.dflt tpart)).2.2.2.1)) (ishl IntKind.i64 (band IntKind.i64 (ishr IntKind.i64 (List.getD x.2 (Int.toNat 1) (Ty.dflt tpart)).1 (List.getD x.2 (Int.toNat 1) (Ty.dflt tpart)).2.1) (w64 (ishl IntKind.i64 1 (List.getD x.2 (Int.toNat 1) (Ty.dflt tpart)).2.2.1 - 1))) (List.getD x.2 (Int.toNat 1) (Ty.dflt tpart)).2.2.2.1)) (ishl IntKind.i64 (band IntKind.i64 (ishr IntKind.i64 (List.getD x.2 (Int.toNat 2) (Ty.dflt tpart)).1 (List.getD x.2 (Int.toNat 2) (Ty.dflt tpart)).2.1) (w64 (ishl IntKind.i64 1 (List.getD x.2 (Int.toNat 2) (Ty.dflt tpart)).2.2.1 - 1))) (List.getD x.2 (Int.toNat 2) (Ty.dflt tpart)).2.2.2.1)) (ishl IntKind.i64 (band IntKind.i64 (ishr IntKind.i64 (List.getD x.2 (Int.toNat 3) (Ty.dflt tpart)).1 (List.getD x.2 (Int.toNat 3) (Ty.dflt tpart)).2.1) (w64 (ishl IntKind.i64 1 (List.getD x.2 (Int.toNat 3) (Ty.dflt tpart)).2.2.1 - 1))) (List.getD x.2 (Int.toNat 3) (Ty.dflt tpart)).2.2.2.1)) (ishl IntKind.i64 (band IntKind.i64 (ishr IntKind.i64 (List.getD x.2 (Int.toNat 4) (Ty.dflt tpart)).1 (List.getD x.2 (Int.toNat 4) (Ty.dflt tpart)).2.1) (w64 (ishl IntKind.i64 1 (List.getD x.2 (Int.toNat 4) (Ty.dflt tpart)).2.2.1 - 1))) (List.getD x.2 (Int.toNat 4) (Ty.dflt tpart)).2.2.2.1))))
                 .fail)
                .fail)
               (.ret (bor IntKind.i64 (bor IntKind.i64 (bor IntKind.i64 (bor IntKind.i64 x.1 (ishl IntKind.i64 (band IntKind.i64 (ishr IntKind.i64 (List.getD x.2 (Int.toNat 0) (Ty.dflt tpart)).1 (List.getD x.2 (Int.toNat 0) (Ty.dflt tpart)).2.1) (w64 (ishl IntKind.i64 1 (List.getD x.2 (Int.toNat 0) (Ty.dflt tpart)).2.2.1 - 1))) (List.getD x.2 (Int.toNat 0) (Ty.dflt tpart)).2.2.2.1)) (ishl IntKind.i64 (band IntKind.i64 (ishr IntKind.i64 (List.getD x.2 (Int.toNat 1) (Ty.dflt tpart)).1 (List.getD x.2 (Int.toNat 1) (Ty.dflt tpart)).2.1) (w64 (ishl IntKind.i64 1 (List.getD x.2 (Int.toNat 1) (Ty.dflt tpart)).2.2.1 - 1))) (List.getD x.2 (Int.toNat 1) (Ty.dflt tpart)).2.2.2.1)) (ishl IntKind.i64 (band IntKind.i64 (ishr IntKind.i64 (List.getD x.2 (Int.toNat 2) (Ty.dflt tpart)).1 (List.getD x.2 (Int.toNat 2) (Ty.dflt tpart)).2.1) (w64 (ishl IntKind.i64 1 (List.getD x.2 (Int.toNat 2) (Ty.dflt tpart)).2.2.1 - 1))) (List.getD x.2 (Int.toNat 2) (Ty.dflt tpart)).2.2.2.1)) (ishl IntKind.i64 (band IntKind.i64 (ishr IntKind.i64 (List.getD x.2 (Int.toNat 3) (Ty.dflt tpart)).1 (List.getD x.2 (Int.toNat 3) (Ty.dflt tpart)).2.1) (w64 (ishl IntKind.i64 1 (List.getD x.2 (Int.toNat 3) (Ty.dflt tpart)).2.2.1 - 1))) (List.getD x.2 (Int.toNat 3) (Ty.dflt tpart)).2.2.2.1))))
              .fail)
             .fail)
            (.ret (bor IntKind.i64 (bor IntKind.i64 (bor IntKind.i64 x.1 (ishl IntKind.i64 (band IntKind.i64 (ishr IntKind.i64 (List.getD x.2 (Int.toNat 0) (Ty.dflt tpart)).1 (List.getD x.2 (Int.toNat 0) (Ty.dflt tpart)).2.1) (w64 (ishl IntKind.i64 1 (List.getD x.2 (Int.toNat 0) (Ty.dflt tpart)).2.2.1 - 1))) (List.getD x.2 (Int.toNat 0) (Ty.dflt tpart)).2.2.2.1)) (ishl IntKind.i64 (band IntKind.i64 (ishr IntKind.i64 (List.getD x.2 (Int.toNat 1) (Ty.dflt tpart)).1 (List.getD x.2 (Int.toNat 1) (Ty.dflt tpart)).2.1) (w64 (ishl IntKind.i64 1 (List.getD x.2 (Int.toNat 1) (Ty.dflt tpart)).2.2.1 - 1))) (List.getD x.2 (Int.toNat 1) (Ty.dflt tpart)).2.2.2.1)) (ishl IntKind.i64 (band IntKind.i64 (ishr IntKind.i64 (List.getD x.2 (Int.toNat 2) (Ty.dflt tpart)).1 (List.getD x.2 (Int.toNat 2) (Ty.dflt tpart)).2.1) (w64 (ishl IntKind.i64 1 (List.getD x.2 (Int.toNat 2) (Ty.dflt tpart)).2.2.1 - 1))) (List.getD x.2 (Int.toNat 2) (Ty.dflt tpart)).2.2.2.1))))
           .fail)
          .fail)
         (.ret (bor IntKind.i64 (bor IntKind.i64 x.1 (ishl IntKind.i64 (band IntKind.i64 (ishr IntKind.i64 (List.getD x.2 (Int.toNat 0) (Ty.dflt tpart)).1 (List.getD x.2 (Int.toNat 0) (Ty.dflt tpart)).2.1) (w64 (ishl IntKind.i64 1 (List.getD x.2 (Int.toNat 0) (Ty.dflt tpart)).2.2.1 - 1))) (List.getD x.2 (Int.toNat 0) (Ty.dflt tpart)).2.2.2.1)) (ishl IntKind.i64 (band IntKind.i64 (ishr IntKind.i64 (List.getD x.2 (Int.toNat 1) (Ty.dflt tpart)).1 (List.getD x.2 (Int.toNat 1) (Ty.dflt tpart)).2.1) (w64 (ishl IntKind.i64 1 (List.getD x.2 (Int.toNat 1) (Ty.dflt tpart)).2.2.1 - 1))) (List.getD x.2 (Int.toNat 1) (Ty.dflt tpart)).2.2.2.1))))
        .fail)
       .fail)
      (.ret (bor IntKind.i64 x.1 (ishl IntKind.i64 (band IntKind.i64 (ishr IntKind.i64 (List.getD x.2 (Int.toNat 0) (Ty.dflt tpart)).1 (List.getD x.2 (Int.toNat 0) (Ty.dflt tpart)).2.1) (w64 (ishl IntKind.i64 1 (List.getD x.2 (Int.toNat 0) (Ty.dflt tpart)).2.2.1 - 1))) (List.getD x.2 (Int.toNat 0) (Ty.dflt tpart)).2.2.2.1))))
     .fail)
    .fail)
   (.ret (x.1)))
def G_thumb_put (x : dens A_thumb_put) : Bool := (decide ((0 : Int) ≤ x.1) && decide ((x.1 : Int) < 281474976710656)) && (decide (List.length x.2 ≤ 5) && List.all x.2 partOk)
def V_thumb_put (x : dens A_thumb_put) : Sh.den S_thumb_put := ((List.foldl (fun b p => b ||| partN p) (Int.toNat x.1) x.2 : Nat) : Int)
theorem ok_thumb_put (x : dens A_thumb_put) (h : G_thumb_put x = true) : (T_thumb_put x).val = some (V_thumb_put x) := by
  obtain ⟨n, l⟩ := x
  simp only [G_thumb_put, Bool.and_eq_true, decide_eq_true_eq] at h
  obtain ⟨⟨h1, h2⟩, h3, h4⟩ := h
  dsimp only [Ty.den] at *
  obtain ⟨b, rfl⟩ := Int.eq_ofNat_of_zero_le h1
  unfold V_thumb_put
  match l, h3, h4 with
  | [], _, _ => simp [T_thumb_put, PO.val, lenI]
  | [p], _, h4 =>
    simp only [List.all_cons, List.all_nil, Bool.and_true] at h4
    obtain ⟨e1, l1⟩ := or_part p h4 (show b < 281474976710656 by omega)
    obtain ⟨_, _, p1, p2, p3⟩ := part_val p h4
    simp [T_thumb_put, PO.val, lenI, inRange, p1, p2, p3, e1]
  | [p, q], _, h4 =>
    simp only [List.all_cons, List.all_nil, Bool.and_true, Bool.and_eq_true] at h4
    obtain ⟨hp, hq⟩ := h4
    obtain ⟨e1, l1⟩ := or_part p hp (show b < 281474976710656 by omega)
    obtain ⟨_, _, p1, p2, p3⟩ := part_val p hp
    obtain ⟨e2, l2⟩ := or_part q hq l1
    obtain ⟨_, _, q1, q2, q3⟩ := part_val q hq
    simp [T_thumb_put, PO.val, lenI, inRange, p1, p2, p3, e1, q1, q2, q3, e2]
  | [p, q, r], _, h4 =>
    simp only [List.all_cons, List.all_nil, Bool.and_true, Bool.and_eq_true] at h4
    obtain ⟨hp, hq, hr⟩ := h4
    obtain ⟨e1, l1⟩ := or_part p hp (show b < 281474976710656 by omega)
    obtain ⟨_, _, p1, p2, p3⟩ := part_val p hp
    obtain ⟨e2, l2⟩ := or_part q hq l1
    obtain ⟨_, _, q1, q2, q3⟩ := part_val q hq
    obtain ⟨e3, l3⟩ := or_part r hr l2
    obtain ⟨_, _, r1, r2, r3⟩ := part_val r hr
    simp [T_thumb_put, PO.val, lenI, inRange, p1, p2, p3, e1, q1, q2, q3, e2, r1, r2, r3, e3]
  | [p, q, r, s], _, h4 =>
    simp only [List.all_cons, List.all_nil, Bool.and_true, Bool.and_eq_true] at h4
    obtain ⟨hp, hq, hr, hs⟩ := h4
    obtain ⟨e1, l1⟩ := or_part p hp (show b < 281474976710656 by omega)
    obtain ⟨_, _, p1, p2, p3⟩ := part_val p hp
    obtain ⟨e2, l2⟩ := or_part q hq l1
    obtain ⟨_, _, q1, q2, q3⟩ := part_val q hq
    obtain ⟨e3, l3⟩ := or_part r hr l2
    obtain ⟨_, _, r1, r2, r3⟩ := part_val r hr
    obtain ⟨e4, l4⟩ := or_part s hs l3
    obtain ⟨_, _, s1, s2, s3⟩ := part_val s hs
    simp [T_thumb_put, PO.val, lenI, inRange, p1, p2, p3, e1, q1, q2, q3, e2, r1, r2, r3, e3, s1, s2, s3, e4]
  | [p, q, r, s, t], _, h4 =>
    simp only [List.all_cons, List.all_nil, Bool.and_true, Bool.and_eq_true] at h4
    obtain ⟨hp, hq, hr, hs, ht⟩ := h4
    obtain ⟨e1, l1⟩ := or_part p hp (show b < 281474976710656 by omega)
    obtain ⟨_, _, p1, p2, p3⟩ := part_val p hp
    obtain ⟨e2, l2⟩ := or_part q hq l1
    obtain ⟨_, _, q1, q2, q3⟩ := part_val q hq
    obtain ⟨e3, l3⟩ := or_part r hr l2
    obtain ⟨_, _, r1, r2, r3⟩ := part_val r hr
    obtain ⟨e4, l4⟩ := or_part s hs l3
    obtain ⟨_, _, s1, s2, s3⟩ := part_val s hs
    obtain ⟨e5, l5⟩ := or_part t ht l4
    obtain ⟨_, _, t1, t2, t3⟩ := part_val t ht
    simp [T_thumb_put, PO.val, lenI, inRange, p1, p2, p3, e1, q1, q2, q3, e2, r1, r2, r3, e3, s1, s2, s3, e4, t1, t2, t3, e5]
  | _ :: _ :: _ :: _ :: _ :: _ :: _, h3, _ => simp at h3
/-- thumb.shifted -/
abbrev A_thumb_shifted : List Ty := [(.int .i64), tIns, (.int .i64)]
abbrev S_thumb_shifted : Sh := Sh.ty tSpot
def T_thumb_shifted (x : dens A_thumb_shifted) : PO (Sh.den S_thumb_shifted) :=
  (.ite (G_thumb_put (0, [(x.2.1.2.2.2.2.2.1, 2, 3, 12, ()), (x.2.1.2.1, 0, 4, 8, ()), (x.2.1.2.2.2.2.2.1, 0, 2, 6, ()), (x.2.2, 0, 2, 4, ()), (x.2.1.2.2.2.1, 0, 4, 0, ())]))
   (.ite (G_thumb_put (x.1, [(x.2.1.2.2.1, 0, 4, 0, ())]))
    (.ret ((V_thumb_put (x.1, [(x.2.1.2.2.1, 0, 4, 0, ())]), V_thumb_put (0, [(x.2.1.2.2.2.2.2.1, 2, 3, 12, ()), (x.2.1.2.1, 0, 4, 8, ()), (x.2.1.2.2.2.2.2.1, 0, 2, 6, ()), (x.2.2, 0, 2, 4, ()), (x.2.1.2.2.2.1, 0, 4, 0, ())]), true, ())))
    .fail)
   .fail)
def G_thumb_shifted (x : dens A_thumb_shifted) : Bool := (T_thumb_shifted x).val.isSome
def V_thumb_shifted (x : dens A_thumb_shifted) : Sh.den S_thumb_shifted := (T_thumb_shifted x).getO default
theorem ok_thumb_shifted (x : dens A_thumb_shifted) (h : G_thumb_shifted x = true) : (T_thumb_shifted x).val = some (V_thumb_shifted x) := PO.getO_ok default h
/-- thumb.move -/
abbrev A_thumb_move : List Ty := [(.int .i64), tIns]
abbrev S_thumb_move : Sh := Sh.ty tSpot
def T_thumb_move (x : dens A_thumb_move) : PO (Sh.den S_thumb_move) :=
  (.ite (G_thumb_put (x.1, [(x.2.2.2.2.2.2.1, 11, 1, 10, ()), (x.2.2.2.2.2.2.1, 12, 4, 0, ())]))
   (.ite (G_thumb_put (0, [(x.2.2.2.2.2.2.1, 8, 3, 12, ()), (x.2.2.1, 0, 4, 8, ()), (x.2.2.2.2.2.2.1, 0, 8, 0, ())]))
    (.ret ((V_thumb_put (x.1, [(x.2.2.2.2.2.2.1, 11, 1, 10, ()), (x.2.2.2.2.2.2.1, 12, 4, 0, ())]), V_thumb_put (0, [(x.2.2.2.2.2.2.1, 8, 3, 12, ()), (x.2.2.1, 0, 4, 8, ()), (x.2.2.2.2.2.2.1, 0, 8, 0, ())]), true, ())))
    .fail)
   .fail)
def G_thumb_move (x : dens A_thumb_move) : Bool := (T_thumb_move x).val.isSome
def V_thumb_move (x : dens A_thumb_move) : Sh.den S_thumb_move := (T_thumb_move x).getO default
theorem ok_thumb_move (x : dens A_thumb_move) (h : G_thumb_move x = true) : (T_thumb_move x).val = some (V_thumb_move x) := PO.getO_ok default h
/-- thumb.short -/
abbrev A_thumb_short : List Ty := [(.int .i64), (.int .i64), (.int .i64)]
abbrev S_thumb_short : Sh := Sh.ty tSpot
def T_thumb_short (x : dens A_thumb_short) : PO (Sh.den S_thumb_short) :=
  (.ite (G_thumb_put (x.1, [(x.2.1, 0, 3, 0, ()), (x.2.2, 0, 3, 3, ())]))
   (.ret ((V_thumb_put (x.1, [(x.2.1, 0, 3, 0, ()), (x.2.2, 0, 3, 3, ())]), 0, false, ())))
   .fail)
def G_thumb_short (x : dens A_thumb_short) : Bool := (T_thumb_short x).val.isSome
def V_thumb_short (x : dens A_thumb_short) : Sh.den S_thumb_short := (T_thumb_short x).getO default
theorem ok_thumb_short (x : dens A_thumb_short) (h : G_thumb_short x = true) : (T_thumb_short x).val = some (V_thumb_short x) := PO.getO_ok default h
/-- thumb.wide -/
abbrev A_thumb_wide : List Ty := [tIns]
abbrev S_thumb_wide : Sh := Sh.ty tSpot
def T_thumb_wide (x : dens A_thumb_wide) : PO (Sh.den S_thumb_wide) :=
  (.ite (G_thumb_put (0, [(x.2.2.2.2.2.1, 1, 11, 0, ())]))
   (.ite (x.1 == 25)
    (.ite (G_thumb_put (61440, [(band IntKind.i64 (ishr IntKind.i64 x.2.2.2.2.2.1 24) 1, 0, 1, 10, ()), (x.2.2.2.2.2.2.1, 0, 4, 6, ()), (x.2.2.2.2.2.1, 12, 6, 0, ())]))
     (.ite (G_thumb_put (bor IntKind.i64 (V_thumb_put (0, [(x.2.2.2.2.2.1, 1, 11, 0, ())])) 32768, [(x.2.2.2.2.2.1, 18, 1, 13, ()), (x.2.2.2.2.2.1, 19, 1, 11, ())]))
      (.ret ((V_thumb_put (61440, [(band IntKind.i64 (ishr IntKind.i64 x.2.2.2.2.2.1 24) 1, 0, 1, 10, ()), (x.2.2.2.2.2.2.1, 0, 4, 6, ()), (x.2.2.2.2.2.1, 12, 6, 0, ())]), V_thumb_put (bor IntKind.i64 (V_thumb_put (0, [(x.2.2.2.2.2.1, 1, 11, 0, ())])) 32768, [(x.2.2.2.2.2.1, 18, 1, 13, ()), (x.2.2.2.2.2.1, 19, 1, 11, ())]), true, ())))
      .fail)
     .fail)
    (.ite (G_thumb_put (61440, [(band IntKind.i64 (ishr IntKind.i64 x.2.2.2.2.2.1 24) 1, 0, 1, 10, ()), (x.2.2.2.2.2.1, 12, 10, 0, ())]))
     (.ite (G_thumb_put (bor IntKind.i64 (V_thumb_put (0, [(x.2.2.2.2.2.1, 1, 11, 0, ())])) 36864, [(bxor IntKind.i64 (icompl IntKind.i64 (ishr IntKind.i64 x.2.2.2.2.2.1 23)) (band IntKind.i64 (ishr IntKind.i64 x.2.2.2.2.2.1 24) 1), 0, 1, 13, ()), (bxor IntKind.i64 (icompl IntKind.i64 (ishr IntKind.i64 x.2.2.2.2.2.1 22)) (band IntKind.i64 (ishr IntKind.i64 x.2.2.2.2.2.1 24) 1), 0, 1, 11, ())]))
      (.ret ((V_thumb_put (61440, [(band IntKind.i64 (ishr IntKind.i64 x.2.2.2.2.2.1 24) 1, 0, 1, 10, ()), (x.2.2.2.2.2.1, 12, 10, 0, ())]), V_thumb_put (bor IntKind.i64 (V_thumb_put (0, [(x.2.2.2.2.2.1, 1, 11, 0, ())])) 36864, [(bxor IntKind.i64 (icompl IntKind.i64 (ishr IntKind.i64 x.2.2.2.2.2.1 23)) (band IntKind.i64 (ishr IntKind.i64 x.2.2.2.2.2.1 24) 1), 0, 1, 13, ()), (bxor IntKind.i64 (icompl IntKind.i64 (ishr IntKind.i64 x.2.2.2.2.2.1 22)) (band IntKind.i64 (ishr IntKind.i64 x.2.2.2.2.2.1 24) 1), 0, 1, 11, ())]), true, ())))
      .fail)
     .fail))
   .fail)
def G_thumb_wide (x : dens A_thumb_wide) : Bool := (T_thumb_wide x).val.isSome
def V_thumb_wide (x : dens A_thumb_wide) : Sh.den S_thumb_wide := (T_thumb_wide x).getO default
theorem ok_thumb_wide (x : dens A_thumb_wide) (h : G_thumb_wide x = true) : (T_thumb_wide x).val = some (V_thumb_wide x) := PO.getO_ok default h
/-- thumb.others -/
abbrev A_thumb_others : List Ty := [tIns]
abbrev S_thumb_others : Sh := Sh.ty tSpot
def T_thumb_others (x : dens A_thumb_others) : PO (Sh.den S_thumb_others) :=
  (.ite (x.1 == 16)
   (.ite (G_thumb_shifted (64256, x, 0))
    (.ret (((V_thumb_shifted (64256, x, 0)).1, bor IntKind.i64 (V_thumb_shifted (64256, x, 0)).2.1 61440, (V_thumb_shifted (64256, x, 0)).2.2)))
    .fail)
   (.ite (x.1 == 17)
    (.ret ((bor IntKind.i64 64416 x.2.2.1, bor IntKind.i64 (bor IntKind.i64 (ishl IntKind.i64 x.2.1 12) (ishl IntKind.i64 x.2.2.2.2.1 8)) x.2.2.2.1, true, ())))
    (.ite (x.1 == 18)
     (.ite (G_thumb_put (w64 (w64 (x.2.2.2.2.2.1 + x.2.2.2.2.1) - 1), [(x.2.2.2.2.2.1, 2, 3, 12, ()), (x.2.1, 0, 4, 8, ()), (x.2.2.2.2.2.1, 0, 2, 6, ())]))
      (.ret ((bor IntKind.i64 62304 x.2.2.1, V_thumb_put (w64 (w64 (x.2.2.2.2.2.1 + x.2.2.2.2.1) - 1), [(x.2.2.2.2.2.1, 2, 3, 12, ()), (x.2.1, 0, 4, 8, ()), (x.2.2.2.2.2.1, 0, 2, 6, ())]), true, ())))
      .fail)
     (.ite (x.1 == 19)
      (.ite (G_thumb_short (26624, x.2.1, x.2.2.1))
       (.ret (V_thumb_short (26624, x.2.1, x.2.2.1)))
       .fail)
      (.ite (x.1 == 20)
       (.ite (G_thumb_short (24576, x.2.1, x.2.2.1))
        (.ret (V_thumb_short (24576, x.2.1, x.2.2.1)))
        .fail)
       (.ite (x.1 == 21)
        (.ite (G_thumb_short (30720, x.2.1, x.2.2.1))
         (.ret (V_thumb_short (30720, x.2.1, x.2.2.1)))
         .fail)
        (.ite (x.1 == 22)
         (.ite (G_thumb_short (28672, x.2.1, x.2.2.1))
          (.ret (V_thumb_short (28672, x.2.1, x.2.2.1)))
          .fail)
         (.ite (x.1 == 23)
          (.ite (G_thumb_short (17024, x.2.2.1, x.2.2.2.1))
           (.ret (V_thumb_short (17024, x.2.2.1, x.2.2.2.1)))
           .fail)
          (.ite (x.2.2.2.2.2.2.2.1)
           (.ite (G_thumb_wide x)
            (.ret (V_thumb_wide x))
            .fail)
           (.ite (x.1 == 24)
            (.ite (G_thumb_put (57344, [(x.2.2.2.2.2.1, 1, 11, 0, ())]))
             (.ret ((V_thumb_put (57344, [(x.2.2.2.2.2.1, 1, 11, 0, ())]), 0, false, ())))
             .fail)
            (.ite (G_thumb_put (53248, [(x.2.2.2.2.2.2.1, 0, 4, 8, ()), (x.2.2.2.2.2.1, 1, 8, 0, ())]))
             (.ret ((V_thumb_put (53248, [(x.2.2.2.2.2.2.1, 0, 4, 8, ()), (x.2.2.2.2.2.1, 1, 8, 0, ())]), 0, false, ())))
             .fail)))))))))))
def G_thumb_others (x : dens A_thumb_others) : Bool := (T_thumb_others x).val.isSome
def V_thumb_others (x : dens A_thumb_others) : Sh.den S_thumb_others := (T_thumb_others x).getO default
theorem ok_thumb_others (x : dens A_thumb_others) (h : G_thumb_others x = true) : (T_thumb_others x).val = some (V_thumb_others x) := PO.getO_ok default h
/-- thumb.bits -/
abbrev A_thumb_bits : List Ty := [tIns]
abbrev S_thumb_bits : Sh := Sh.ty tSpot
def T_thumb_bits (x : dens A_thumb_bits) : PO (Sh.den S_thumb_bits) :=
  (.ite (x.1 == 1)
   (.ret ((48896, 0, false, ())))
   (.ite (x.1 == 2)
    (.ret ((bor IntKind.i64 48640 x.2.2.2.2.2.1, 0, false, ())))
    (.ite (x.1 == 3)
     (.ite (G_thumb_move (62016, x))
      (.ret (V_thumb_move (62016, x)))
      .fail)
     (.ite (x.1 == 4)
      (.ite (G_thumb_move (62144, x))
       (.ret (V_thumb_move (62144, x)))
       .fail)
      (.ite (bif x.1 == 5 then x.1 == 5 else bif x.1 == 6 then x.1 == 6 else bif x.1 == 7 then x.1 == 7 else x.1 == 8)
       (.ite (G_thumb_shifted (59983, x, w64 (x.1 - 5)))
        (.ret (V_thumb_shifted (59983, x, w64 (x.1 - 5))))
        .fail)
       (.ite (x.1 == 9)
        (.ite (G_thumb_shifted (60015, x, 0))
         (.ret (V_thumb_shifted (60015, x, 0)))
         .fail)
        (.ite (x.1 == 10)
         (.ite (G_thumb_shifted (59904, x, 0))
          (.ret (V_thumb_shifted (59904, x, 0)))
          .fail)
         (.ite (x.1 == 11)
          (.ite (G_thumb_shifted (59936, x, 0))
           (.ret (V_thumb_shifted (59936, x, 0)))
           .fail)
          (.ite (x.1 == 12)
           (.ite (G_thumb_shifted (59968, x, 0))
            (.ret (V_thumb_shifted (59968, x, 0)))
            .fail)
           (.ite (x.1 == 13)
            (.ite (G_thumb_shifted (60032, x, 0))
             (.ret (V_thumb_shifted (60032, x, 0)))
             .fail)
            (.ite (x.1 == 14)
             (.ite (G_thumb_shifted (60160, x, 0))
              (.ret (V_thumb_shifted (60160, x, 0)))
              .fail)
             (.ite (x.1 == 15)
              (.ite (G_thumb_shifted (60320, x, 0))
               (.ret (V_thumb_shifted (60320, x, 0)))
               .fail)
              (.ite (G_thumb_others x)
               (.ret (V_thumb_others x))
               .fail)))))))))))))
def G_thumb_bits (x : dens A_thumb_bits) : Bool := (T_thumb_bits x).val.isSome
def V_thumb_bits (x : dens A_thumb_bits) : Sh.den S_thumb_bits := (T_thumb_bits x).getO default
theorem ok_thumb_bits (x : dens A_thumb_bits) (h : G_thumb_bits x = true) : (T_thumb_bits x).val = some (V_thumb_bits x) := PO.getO_ok default h
end Go.Av
