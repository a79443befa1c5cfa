/- Layer 2: unlike instructions have unlike bytes. -/
import Derived.Test.YtbfhpnnnfjjjnaaPEncEq
namespace Go.Av
open Go
theorem hb_inj : ∀ (l m : List Bool) (a b : Nat), l.length = m.length → hb l a = hb m b → a = b ∧ l = m
  | [], [], _, _, _, h => ⟨h, rfl⟩
  | x :: l, y :: m, a, b, hlen, h => by
    unfold hb at h
    obtain ⟨h1, h2⟩ := hb_inj l m _ _ (Nat.succ.inj hlen) h
    refine ⟨?_, ?_⟩
    · cases x <;> cases y <;> simp at h1 <;> omega
    · rw [h2, show x = y by cases x <;> cases y <;> simp at h1 ⊢ <;> omega]
theorem u8_toByte {n : Nat} (h : n < 256) : u8I (toByte (n : Int)) = (n : Int) := by
  show (((UInt8.ofNat ((n : Int).toNat)).toNat : Nat) : Int) = _
  rw [Int.toNat_natCast, UInt8.toNat_ofNat']
  omega
theorem by2_inj {a b : Nat} (ha : a < 65536) (hb : b < 65536) (h : by2 a = by2 b) : a = b := by
  unfold by2 at h
  injection h with h1 h2
  injection h2 with h2 _
  have e1 := congrArg u8I h1
  have e2 := congrArg u8I h2
  rw [u8_toByte (by omega), u8_toByte (by omega)] at e1 e2
  omega
/-- Numbers with the same low bits, within bounds. -/
theorem bits_inj (m : Nat) : ∀ {x y : Int}, 0 ≤ x → x < (2 ^ m : Nat) → 0 ≤ y → y < (2 ^ m : Nat) → (∀ k, k < m → bI x k = bI y k) → x = y := by
  intro x y h1 h2 h3 h4 h
  obtain ⟨a, rfl⟩ := Int.eq_ofNat_of_zero_le h1
  obtain ⟨b, rfl⟩ := Int.eq_ofNat_of_zero_le h3
  have e : a = b := by
    refine Nat.eq_of_testBit_eq fun j => ?_
    by_cases hj : j < m
    · rw [bI_nat, bI_nat]; exact h j hj
    · have : 2 ^ m ≤ 2 ^ j := pow_lt (by omega)
      rw [Nat.testBit_lt_two_pow (by omega), Nat.testBit_lt_two_pow (by omega)]
  rw [e]
/-- Do two rows have unlike fixed letters at a place? -/
def unlike : List UInt8 → List UInt8 → Bool
  | a :: l, b :: m => (a == 48 && b == 49) || ((a == 49 && b == 48) || unlike l m)
  | _, _ => false
theorem unlike_ne {g g' : UInt8 → Nat → Bool} (h0 : ∀ f, g 48 f = false) (h1 : ∀ f, g 49 f = true) (h0' : ∀ f, g' 48 f = false) (h1' : ∀ f, g' 49 f = true) : ∀ l m : List UInt8, unlike l m = true → hl g l = hl g' m → False
  | [], _, h, _ => by simp [unlike] at h
  | _ :: _, [], h, _ => by simp [unlike] at h
  | a :: l, b :: m, h, e => by
    unfold hl at e
    injection e with e1 e2
    unfold unlike at h
    rw [Bool.or_eq_true, Bool.or_eq_true, Bool.and_eq_true, Bool.and_eq_true, beq_iff_eq, beq_iff_eq, beq_iff_eq, beq_iff_eq] at h
    rcases h with ⟨rfl, rfl⟩ | ⟨rfl, rfl⟩ | h
    · rw [h0, h1'] at e1; exact Bool.noConfusion e1
    · rw [h1, h0'] at e1; exact Bool.noConfusion e1
    · exact unlike_ne h0 h1 h0' h1' l m h e2
/-- Are an operation's rows told apart from another one's? -/
def apart (a b : List UInt8) : Bool := unlike (a.take 16) (b.take 16) || (a.length == 32 && (b.length == 32 && unlike (a.drop 16) (b.drop 16)))
def opsL : List (Int × Bool) := [1, 2, 3, 4, 5, 6, 7, 8, 9, 10, 11, 12, 13, 14, 15, 16, 17, 18, 19, 20, 21, 22, 23, 24, 25].flatMap fun n => [(n, false), (n, true)]
theorem apart_all : (opsL.all fun p => opsL.all fun q => p == q || ((p.1 == 5 && q.1 == 12) || ((p.1 == 12 && q.1 == 5) || (V_hauberkref02_Bits p == [] || (V_hauberkref02_Bits q == [] || apart (V_hauberkref02_Bits p) (V_hauberkref02_Bits q)))))) = true := by decide +kernel
end Go.Av
