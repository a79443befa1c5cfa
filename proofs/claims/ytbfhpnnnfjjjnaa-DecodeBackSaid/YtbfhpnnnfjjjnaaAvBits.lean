/- Plain laws of the words that the walks leave: numbers' bits, lists that are the same. -/
import Derived.Test.YtbfhpnnnfjjjnaaAvLoops
namespace Go.Av
open Go

theorem u64_wrap (n : Int) : IntKind.u64.wrap n = n % 18446744073709551616 := by
  simp [IntKind.wrap, IntKind.bits, IntKind.signed]

theorem u32_wrap (n : Int) : IntKind.u32.wrap n = n % 4294967296 := by
  simp [IntKind.wrap, IntKind.bits, IntKind.signed]

theorem u8_wrap (n : Int) : IntKind.u8.wrap n = n % 256 := by
  simp [IntKind.wrap, IntKind.bits, IntKind.signed]

theorem ofInt_toNat (w : Nat) (n : Int) : ((BitVec.ofInt w n).toNat : Int) = n % (2 ^ w : Nat) := by
  rw [BitVec.toNat_ofInt]
  have : (0 : Int) ≤ n % (2 ^ w : Nat) := Int.emod_nonneg _ (by
    have := Nat.two_pow_pos w
    omega)
  omega

/-- The low bits of a number. -/
theorem band_low (n : Int) (k : Nat) (hk : k < 64) : band .i64 n ((2 ^ k : Nat) - 1) = n % (2 ^ k : Nat) := by
  have hp : 0 < 2 ^ k := Nat.two_pow_pos k
  have hle : 2 ^ k ≤ 2 ^ 63 := Nat.pow_le_pow_right (by omega) (by omega)
  have e1 : BitVec.ofInt 64 ((2 ^ k : Nat) - 1) = BitVec.ofNat 64 (2 ^ k - 1) := by
    apply BitVec.eq_of_toNat_eq
    have := ofInt_toNat 64 ((2 ^ k : Nat) - 1)
    rw [Int.emod_eq_of_lt (by omega) (by omega)] at this
    rw [BitVec.toNat_ofNat, Nat.mod_eq_of_lt (by omega)]
    omega
  show IntKind.i64.wrap (BitVec.ofInt 64 n &&& BitVec.ofInt 64 ((2 ^ k : Nat) - 1)).toNat = _
  rw [e1, BitVec.toNat_and, BitVec.toNat_ofNat, Nat.mod_eq_of_lt (by omega), Nat.and_two_pow_sub_one_eq_mod]
  have h1 := ofInt_toNat 64 n
  have h2 : (((BitVec.ofInt 64 n).toNat % 2 ^ k : Nat) : Int) = n % (2 ^ k : Nat) := by
    rw [Int.natCast_emod, h1]
    exact Int.emod_emod_of_dvd n (by exact_mod_cast Nat.pow_dvd_pow 2 (show k ≤ 64 by omega))
  rw [h2]
  have h3 : (0 : Int) ≤ n % (2 ^ k : Nat) := Int.emod_nonneg _ (by omega)
  have h4 : n % (2 ^ k : Nat) < (2 ^ k : Nat) := Int.emod_lt_of_pos _ (by omega)
  exact wrap_i64 _ (by omega) (by omega)

theorem band_16 (n : Int) : band .i64 n 65535 = n % 65536 := band_low n 16 (by omega)

theorem ishr_i64 (n : Int) (k : Nat) (hk : k < 64) : ishr .i64 n k = n / (2 ^ k : Nat) := by
  unfold ishr
  have : min (k : Int).toNat IntKind.i64.bits = k := by simp [IntKind.bits]; omega
  rw [this, Int.fdiv_eq_ediv_of_nonneg _ (by exact_mod_cast Nat.zero_le _)]
  norm_cast

theorem ishr_16 (n : Int) : ishr .i64 n 16 = n / 65536 := ishr_i64 n 16 (by omega)

theorem tmod_pos (a b : Int) (ha : 0 ≤ a) : a.tmod b = a % b := Int.tmod_eq_emod_of_nonneg ha
theorem tdiv_pos (a b : Int) (ha : 0 ≤ a) : a.tdiv b = a / b := Int.tdiv_eq_ediv_of_nonneg ha

/-! ### The same -/

/-- Types of which Go's comparison is equality. -/
def Ty.cmp : Ty → Bool
  | .unit | .int _ | .bool | .str => true
  | .func => false
  | .pair a b => a.cmp && b.cmp
  | .arr _ e => e.cmp
  | .sl _ => false

theorem eqb_go_refl {α : Type} {f : α → α → Bool} (h : ∀ a, f a a = true) : ∀ l : List α, Ty.eqb.go f l l = true
  | [] => rfl
  | a :: l => by simp [Ty.eqb.go, h a, eqb_go_refl h l]

theorem eqb_refl : ∀ (t : Ty) (x : t.den), t.eqb x x = true
  | .unit, _ => rfl
  | .pair a b, x => by simp [Ty.eqb, eqb_refl a x.1, eqb_refl b x.2]
  | .arr _ e, x => eqb_go_refl (eqb_refl e) x
  | .int _, x => by simp [Ty.eqb]
  | .bool, x => by simp [Ty.eqb]
  | .str, x => by simp [Ty.eqb]
  | .func, _ => rfl
  | .sl _, _ => rfl

theorem eqL_refl {e : Ty} : ∀ a : List e.den, eqL e a a = true
  | [] => rfl
  | x :: a => by simp [eqL, eqb_refl, eqL_refl a]

theorem i64_wf {n : Int} (h : (Lit.int .i64 n).wf = true) : -9223372036854775808 ≤ n ∧ n < 9223372036854775808 := by
  simp [Lit.wf, IntKind.min, IntKind.max, IntKind.bits, IntKind.signed] at h
  omega

end Go.Av
