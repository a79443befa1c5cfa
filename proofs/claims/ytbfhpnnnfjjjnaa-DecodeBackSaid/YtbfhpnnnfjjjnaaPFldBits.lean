/- Layer 2: bits of instructions' fields. -/
import Derived.Test.YtbfhpnnnfjjjnaaPEncB
import Derived.Test.YtbfhpnnnfjjjnaaPRefEncLaw
namespace Go.Av
open Go

/-- A bit of a number. -/
def bI (x : Int) (k : Nat) : Bool := x / (2 ^ k : Nat) % 2 == 1

theorem mod_bit (z : Int) {k m : Nat} (h : k < m) : z % (2 ^ m : Nat) / (2 ^ k : Nat) % 2 = z / (2 ^ k : Nat) % 2 := by
  obtain ⟨d, rfl⟩ : ∃ d, m = k + 1 + d := ⟨m - k - 1, by omega⟩
  have hk : ((2 ^ k : Nat) : Int) ≠ 0 := by have := Nat.two_pow_pos k; omega
  rw [Int.emod_def z]
  have e : z - (2 ^ (k + 1 + d) : Nat) * (z / (2 ^ (k + 1 + d) : Nat)) = z + (2 ^ k : Nat) * (-(2 * ((2 ^ d : Nat) * (z / (2 ^ (k + 1 + d) : Nat))))) := by
    generalize z / ((2 ^ (k + 1 + d) : Nat) : Int) = q
    rw [show (2 ^ (k + 1 + d) : Nat) = 2 ^ k * (2 * 2 ^ d) by rw [Nat.pow_add, Nat.pow_add, Nat.pow_one, Nat.mul_assoc]]
    rw [Int.sub_eq_add_neg, Int.natCast_mul, Int.natCast_mul, Int.mul_neg, Int.mul_assoc, Int.mul_assoc]
    rfl
  rw [e, Int.add_mul_ediv_left _ _ hk]
  generalize ((2 ^ d : Nat) : Int) * _ = t
  omega
theorem bI_mod (z : Int) {k m : Nat} (h : k < m) : bI (z % (2 ^ m : Nat)) k = bI z k := by
  unfold bI; rw [mod_bit z h]
theorem bI_nat (n k : Nat) : n.testBit k = bI (n : Int) k := by
  unfold bI
  rw [Nat.testBit_eq_decide_div_mod_eq, ← Int.natCast_ediv]
  rw [Bool.eq_iff_iff, decide_eq_true_eq, beq_iff_eq]
  omega
theorem bI_div (n : Int) (f k : Nat) : bI (n / (2 ^ f : Nat)) k = bI n (f + k) := by
  unfold bI
  rw [Nat.pow_add, Int.natCast_mul, Int.ediv_ediv_of_nonneg (Int.natCast_nonneg _)]
theorem fldN_bit (n : Int) (f m a j : Nat) : (fldN n (f : Int) (m : Int) (a : Int)).testBit j = (decide (a ≤ j) && (decide (j - a < m) && bI n (f + (j - a)))) := by
  unfold fldN
  rw [Int.toNat_natCast, Int.toNat_natCast, Int.toNat_natCast, Nat.testBit_mul_two_pow]
  by_cases h : j ≥ a
  · rw [decide_eq_true h, Bool.true_and, Bool.true_and]
    have hb := mod_pow_nat (n / (2 ^ f : Nat)) m
    by_cases hm : j - a < m
    · rw [decide_eq_true hm, Bool.true_and, bI_nat, Int.toNat_of_nonneg hb.1, bI_mod _ hm, bI_div]
    · rw [decide_eq_false hm, Bool.false_and]
      refine Nat.testBit_lt_two_pow ?_
      have : 2 ^ m ≤ 2 ^ (j - a) := pow_lt (by omega)
      omega
  · rw [decide_eq_false h]
    rfl
theorem bit64_bI (x : Int) {n : Nat} (h : n < 64) : bit64 x n = (bI x n).toNat := by
  unfold bit64
  rw [bt_eq, bI_nat, Int.toNat_of_nonneg (by omega)]
  have := bI_mod x h
  exact congrArg Bool.toNat this
theorem bI_imm25 (imm : Int) {k : Nat} (h : k < 25) : bI (imm25 imm) k = bI imm k := by
  have e : imm25 imm % (2 ^ 25 : Nat) = imm % (2 ^ 25 : Nat) := by
    unfold imm25
    cases decide (imm < 0)
    · rfl
    · show (imm + 33554432) % 33554432 = imm % 33554432
      omega
  rw [← bI_mod (imm25 imm) h, e, bI_mod imm h]

/-- A part's bits. -/
def pbit (p : tpart.den) (j : Nat) : Bool := decide (p.2.2.2.1.toNat ≤ j) && (decide (j - p.2.2.2.1.toNat < p.2.2.1.toNat) && bI p.1 (p.2.1.toNat + (j - p.2.2.2.1.toNat)))
theorem partN_bit (p : tpart.den) (j : Nat) : (partN p).testBit j = pbit p j := by
  have h := fldN_bit p.1 p.2.1.toNat p.2.2.1.toNat p.2.2.2.1.toNat j
  have e : fldN p.1 p.2.1 p.2.2.1 p.2.2.2.1 = fldN p.1 (p.2.1.toNat : Int) (p.2.2.1.toNat : Int) (p.2.2.2.1.toNat : Int) := by
    unfold fldN
    rw [Int.toNat_natCast, Int.toNat_natCast, Int.toNat_natCast]
  exact (congrArg (fun n => n.testBit j) e).trans h
theorem parts_bit (l : List tpart.den) (b j : Nat) : (List.foldl (fun b p => b ||| partN p) b l).testBit j = (b.testBit j || l.any fun p => pbit p j) := by
  induction l generalizing b with
  | nil => simp
  | cons p l ih =>
    rw [List.foldl_cons, ih, Nat.testBit_or, partN_bit, List.any_cons, Bool.or_assoc]

/-- Bits, the greatest first. -/
def hb : List Bool → Nat → Nat
  | [], n => n
  | b :: l, n => hb l (2 * n + b.toNat)
theorem hb_lt : ∀ (l : List Bool) (n k : Nat), n < 2 ^ k → hb l n < 2 ^ (k + l.length)
  | [], _, _, h => h
  | b :: l, n, k, h => by
    unfold hb
    have := hb_lt l (2 * n + b.toNat) (k + 1) (by rw [Nat.pow_succ]; cases b <;> simp <;> omega)
    rw [List.length_cons]
    rw [show k + (l.length + 1) = k + 1 + l.length by omega]
    exact this
theorem hb_bit : ∀ (l : List Bool) (n j : Nat), (hb l n).testBit j = if j < l.length then l.getD (l.length - 1 - j) false else n.testBit (j - l.length)
  | [], n, j => by simp [hb]
  | b :: l, n, j => by
    unfold hb
    rw [hb_bit l, List.length_cons]
    by_cases h : j < l.length
    · rw [if_pos h, if_pos (by omega), show l.length + 1 - 1 - j = l.length - 1 - j + 1 by omega]
      rfl
    · rw [if_neg h]
      by_cases h2 : j = l.length
      · subst h2
        rw [if_pos (by omega), Nat.sub_self, show l.length + 1 - 1 - l.length = 0 by omega]
        cases b <;> simp [Nat.testBit_zero] <;> omega
      · rw [if_neg (by omega), show j - l.length = j - (l.length + 1) + 1 by omega, Nat.testBit_succ]
        congr 1
        cases b <;> simp <;> omega
/-- The letters' bits, each with those letters that follow. -/
def hl (g : UInt8 → Nat → Bool) : List UInt8 → List Bool
  | [] => []
  | c :: l => g c (fol c l) :: hl g l
theorem hor_hb (fld : UInt8 → Nat → Nat) (g : UInt8 → Nat → Bool) : ∀ (l : List UInt8) (n : Nat), (∀ c ∈ l, ∀ f, f ≤ l.length → fld c f = (g c f).toNat) → hor fld l n = hb (hl g l) n
  | [], _, _ => rfl
  | c :: l, n, h => by
    unfold hor hl hb
    rw [h c (List.mem_cons_self ..) (fol c l) (by have := fol_le c l; rw [List.length_cons]; omega)]
    exact hor_hb fld g l _ fun c hc f hf => h c (List.mem_cons_of_mem _ hc) f (by rw [List.length_cons]; omega)
theorem eq_16 {a b : Nat} (ha : a < 65536) (hb : b < 65536) (h : ∀ j, j < 16 → a.testBit j = b.testBit j) : a = b := by
  refine Nat.eq_of_testBit_eq fun j => ?_
  by_cases hj : j < 16
  · exact h j hj
  · have : 2 ^ 16 ≤ 2 ^ j := pow_lt (by omega)
    rw [Nat.testBit_lt_two_pow (by omega), Nat.testBit_lt_two_pow (by omega)]
end Go.Av
