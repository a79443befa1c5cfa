/- Layer 1: words. -/
import Derived.Test.YtbfhpnnnfjjjnaaPBase
namespace Go.Av
open Go
/-- A word. -/
def wn (n : Int) : Nat := (n % 4294967296).toNat

theorem wn_int (n : Int) : (wn n : Int) = n % 4294967296 := by unfold wn; omega
theorem wn_lt (n : Int) : wn n < 4294967296 := by unfold wn; omega
theorem wn_nat {k : Nat} (h : k < 4294967296) : wn (k : Int) = k := by unfold wn; omega
theorem wn_wn (n : Int) : wn (wn n : Int) = wn n := wn_nat (wn_lt n)
theorem band_32 (n : Int) : band .i64 n 4294967295 = n % 4294967296 := band_low n 32 (by omega)
theorem band_31 (n : Int) : band .i64 n 31 = n % 32 := band_low n 5 (by omega)
theorem band_one (n : Int) : band .i64 n 1 = n % 2 := band_low n 1 (by omega)
theorem mod64 (n : Int) : n % 18446744073709551616 % 4294967296 = n % 4294967296 := Int.emod_emod_of_dvd n (by decide)
theorem w64_mod (n : Int) : w64 n % 4294967296 = n % 4294967296 := by
  rw [w64_eq]; split <;> omega
/-- A number's word, out of an operation on bits. -/
theorem wn_w64 (n : Nat) : wn (w64 (n : Int)) = n % 4294967296 := by unfold wn; rw [w64_mod]; omega
theorem ofInt_mod (n : Int) : (BitVec.ofInt 64 n).toNat % 4294967296 = wn n := by
  have := ofInt_toNat 64 n
  unfold wn
  omega
/-- word.Wrap -/
abbrev A_word_Wrap : List Ty := [(.int .i64)]
abbrev S_word_Wrap : Sh := Sh.ty (Ty.int IntKind.i64)
def T_word_Wrap (x : dens A_word_Wrap) : PO (Sh.den S_word_Wrap) :=
  (.ret (band IntKind.i64 x 4294967295))
def G_word_Wrap (_ : dens A_word_Wrap) : Bool := true
def V_word_Wrap (x : dens A_word_Wrap) : Sh.den S_word_Wrap := (wn x : Int)
theorem ok_word_Wrap (x : dens A_word_Wrap) (_ : G_word_Wrap x = true) : (T_word_Wrap x).val = some (V_word_Wrap x) := by
  show some _ = some _
  rw [band_32, V_word_Wrap, wn_int]
/-- How far a word is shifted. -/
def kk (n : Int) : Nat := (n % 32).toNat
theorem kk_int (n : Int) : (kk n : Int) = n % 32 := by unfold kk; omega
theorem kk_lt (n : Int) : kk n < 32 := by unfold kk; omega
/-- word.many -/
abbrev A_word_many : List Ty := [(.int .i64)]
abbrev S_word_many : Sh := Sh.ty (Ty.int IntKind.i64)
def T_word_many (x : dens A_word_many) : PO (Sh.den S_word_many) :=
  (.ret (band IntKind.i64 x 31))
def G_word_many (_ : dens A_word_many) : Bool := true
def V_word_many (x : dens A_word_many) : Sh.den S_word_many := (kk x : Int)
theorem ok_word_many (x : dens A_word_many) (_ : G_word_many x = true) : (T_word_many x).val = some (V_word_many x) := by
  show some _ = some _
  rw [band_31, V_word_many, kk_int]
/-- word.Add -/
abbrev A_word_Add : List Ty := [(.int .i64), (.int .i64)]
abbrev S_word_Add : Sh := Sh.ty (Ty.int IntKind.i64)
def T_word_Add (x : dens A_word_Add) : PO (Sh.den S_word_Add) :=
  (.ret (V_word_Wrap (w64 (x.1 + x.2))))
def G_word_Add (_ : dens A_word_Add) : Bool := true
def V_word_Add (x : dens A_word_Add) : Sh.den S_word_Add := (wn (x.1 + x.2) : Int)
theorem ok_word_Add (x : dens A_word_Add) (_ : G_word_Add x = true) : (T_word_Add x).val = some (V_word_Add x) := by
  show some _ = some _
  rw [V_word_Wrap, V_word_Add, wn_int, wn_int, w64_mod]
/-- word.Sub -/
abbrev A_word_Sub : List Ty := [(.int .i64), (.int .i64)]
abbrev S_word_Sub : Sh := Sh.ty (Ty.int IntKind.i64)
def T_word_Sub (x : dens A_word_Sub) : PO (Sh.den S_word_Sub) :=
  (.ret (V_word_Wrap (w64 (x.1 - x.2))))
def G_word_Sub (_ : dens A_word_Sub) : Bool := true
def V_word_Sub (x : dens A_word_Sub) : Sh.den S_word_Sub := (wn (x.1 - x.2) : Int)
theorem ok_word_Sub (x : dens A_word_Sub) (_ : G_word_Sub x = true) : (T_word_Sub x).val = some (V_word_Sub x) := by
  show some _ = some _
  rw [V_word_Wrap, V_word_Sub, wn_int, wn_int, w64_mod]
/-- word.product -/
abbrev A_word_product : List Ty := [(.int .i64), (.int .i64)]
abbrev S_word_product : Sh := Sh.ty (Ty.int IntKind.u64)
def T_word_product (x : dens A_word_product) : PO (Sh.den S_word_product) :=
  (.ret (IntKind.wrap IntKind.u64 (IntKind.wrap IntKind.u64 (V_word_Wrap x.1) * IntKind.wrap IntKind.u64 (V_word_Wrap x.2))))
def G_word_product (_ : dens A_word_product) : Bool := true
def V_word_product (x : dens A_word_product) : Sh.den S_word_product := ((wn x.1 * wn x.2 : Nat) : Int)
theorem ok_word_product (x : dens A_word_product) (_ : G_word_product x = true) : (T_word_product x).val = some (V_word_product x) := by
  show some _ = some _
  have h1 := wn_lt x.1
  have h2 := wn_lt x.2
  have h3 : wn x.1 * wn x.2 ≤ 4294967295 * 4294967295 := Nat.mul_le_mul (by omega) (by omega)
  rw [V_word_product]
  simp only [V_word_Wrap, u64_wrap]
  rw [Int.emod_eq_of_lt (a := (wn x.1 : Int)) (by omega) (by omega), Int.emod_eq_of_lt (a := (wn x.2 : Int)) (by omega) (by omega)]
  have e : (wn x.1 : Int) * (wn x.2 : Int) = ((wn x.1 * wn x.2 : Nat) : Int) := by simp
  rw [e, Int.emod_eq_of_lt (by omega) (by omega)]
theorem wn_eq {a b : Int} (h : a % 4294967296 = b % 4294967296) : wn a = wn b := by unfold wn; rw [h]
theorem mul_lt (a b : Int) : wn a * wn b ≤ 18446744065119617025 := by
  have h1 := wn_lt a
  have h2 := wn_lt b
  exact Nat.mul_le_mul (show wn a ≤ 4294967295 by omega) (show wn b ≤ 4294967295 by omega)
theorem ofInt_nat {m : Nat} (h : m < 18446744073709551616) : (BitVec.ofInt 64 (m : Int)).toNat = m := by
  have := ofInt_toNat 64 m
  omega
theorem band_u64 {m : Nat} (h : m < 18446744073709551616) : band .u64 (m : Int) 4294967295 = ((m % 4294967296 : Nat) : Int) := by
  show IntKind.u64.wrap (BitVec.ofInt 64 (m : Int) &&& BitVec.ofInt 64 4294967295).toNat = _
  rw [BitVec.toNat_and, ofInt_nat h, show (BitVec.ofInt 64 4294967295).toNat = 2 ^ 32 - 1 from by decide, Nat.and_two_pow_sub_one_eq_mod, u64_wrap]
  omega
theorem and_wn (a b : Int) : wn (band .i64 a b) = wn a &&& wn b := by
  show wn (w64 (BitVec.ofInt 64 a &&& BitVec.ofInt 64 b).toNat) = _
  rw [wn_w64, BitVec.toNat_and, show (4294967296 : Nat) = 2 ^ 32 from rfl, Nat.and_mod_two_pow, ← ofInt_mod a, ← ofInt_mod b]
theorem or_wn (a b : Int) : wn (bor .i64 a b) = wn a ||| wn b := by
  show wn (w64 (BitVec.ofInt 64 a ||| BitVec.ofInt 64 b).toNat) = _
  rw [wn_w64, BitVec.toNat_or, show (4294967296 : Nat) = 2 ^ 32 from rfl, Nat.or_mod_two_pow, ← ofInt_mod a, ← ofInt_mod b]
theorem xor_wn (a b : Int) : wn (bxor .i64 a b) = wn a ^^^ wn b := by
  show wn (w64 (BitVec.ofInt 64 a ^^^ BitVec.ofInt 64 b).toNat) = _
  rw [wn_w64, BitVec.toNat_xor, show (4294967296 : Nat) = 2 ^ 32 from rfl, Nat.xor_mod_two_pow, ← ofInt_mod a, ← ofInt_mod b]
theorem not_wn (a : Int) : wn (icompl .i64 a) = 4294967295 - wn a := by
  have e : icompl .i64 a = w64 (BitVec.ofInt 64 (-1) ^^^ BitVec.ofInt 64 a).toNat := by
    unfold icompl
    rw [if_pos (by rfl)]
    rfl
  rw [e, show BitVec.ofInt 64 (-1) = BitVec.allOnes 64 from by decide, BitVec.allOnes_xor, wn_w64, BitVec.toNat_not, ← ofInt_mod a]
  have := (BitVec.ofInt 64 a).isLt
  omega
theorem bnot_wn (a b : Int) : wn (bnot .i64 a b) = wn a &&& (4294967295 - wn b) := by
  show wn (w64 (BitVec.ofInt 64 a &&& ~~~(BitVec.ofInt 64 b)).toNat) = _
  rw [wn_w64, BitVec.toNat_and, show (4294967296 : Nat) = 2 ^ 32 from rfl, Nat.and_mod_two_pow, BitVec.toNat_not, ← ofInt_mod a, ← ofInt_mod b]
  have := (BitVec.ofInt 64 b).isLt
  congr 1
  omega
theorem ishl_nat (a : Int) (k : Nat) (hk : k ≤ 64) : ishl .i64 a (k : Int) = w64 (a * 2 ^ k) := by
  unfold ishl
  have : min (k : Int).toNat IntKind.i64.bits = k := by simp [IntKind.bits]; omega
  rw [this]
theorem pow_lt {k n : Nat} (h : k ≤ n) : 2 ^ k ≤ 2 ^ n := Nat.pow_le_pow_right (by omega) h
theorem shl_wn (a : Nat) (k : Nat) (hk : k ≤ 64) : wn (ishl .i64 (a : Int) (k : Int)) = a * 2 ^ k % 4294967296 := by
  rw [ishl_nat _ _ hk, show (a : Int) * 2 ^ k = ((a * 2 ^ k : Nat) : Int) by simp, wn_w64]
/-- word.Mul -/
abbrev A_word_Mul : List Ty := [(.int .i64), (.int .i64)]
abbrev S_word_Mul : Sh := Sh.ty (Ty.int IntKind.i64)
def T_word_Mul (x : dens A_word_Mul) : PO (Sh.den S_word_Mul) :=
  (.ret (w64 (band IntKind.u64 (V_word_product (x.1, x.2)) 4294967295)))
def G_word_Mul (_ : dens A_word_Mul) : Bool := true
def V_word_Mul (x : dens A_word_Mul) : Sh.den S_word_Mul := ((wn x.1 * wn x.2 % 4294967296 : Nat) : Int)
theorem ok_word_Mul (x : dens A_word_Mul) (_ : G_word_Mul x = true) : (T_word_Mul x).val = some (V_word_Mul x) := by
  show some _ = some _
  have h := mul_lt x.1 x.2
  simp only [V_word_product, V_word_Mul]
  rw [band_u64 (by omega), w64_id (by omega) (by omega)]
/-- word.High -/
abbrev A_word_High : List Ty := [(.int .i64), (.int .i64)]
abbrev S_word_High : Sh := Sh.ty (Ty.int IntKind.i64)
def T_word_High (x : dens A_word_High) : PO (Sh.den S_word_High) :=
  (.ret (w64 (ishr IntKind.u64 (V_word_product (x.1, x.2)) 32)))
def G_word_High (_ : dens A_word_High) : Bool := true
def V_word_High (x : dens A_word_High) : Sh.den S_word_High := ((wn x.1 * wn x.2 / 4294967296 : Nat) : Int)
theorem ok_word_High (x : dens A_word_High) (_ : G_word_High x = true) : (T_word_High x).val = some (V_word_High x) := by
  show some _ = some _
  have h := mul_lt x.1 x.2
  simp only [V_word_product, V_word_High]
  have e : ishr .u64 ((wn x.1 * wn x.2 : Nat) : Int) 32 = ((wn x.1 * wn x.2 / 4294967296 : Nat) : Int) := by
    unfold ishr
    rw [show min (32 : Int).toNat IntKind.u64.bits = 32 from rfl, Int.fdiv_eq_ediv_of_nonneg _ (by omega)]
    omega
  rw [e, w64_id (by omega) (by omega)]
/-- word.Not -/
abbrev A_word_Not : List Ty := [(.int .i64)]
abbrev S_word_Not : Sh := Sh.ty (Ty.int IntKind.i64)
def T_word_Not (x : dens A_word_Not) : PO (Sh.den S_word_Not) :=
  (.ret (V_word_Wrap (icompl IntKind.i64 x)))
def G_word_Not (_ : dens A_word_Not) : Bool := true
def V_word_Not (x : dens A_word_Not) : Sh.den S_word_Not := ((4294967295 - wn x : Nat) : Int)
theorem ok_word_Not (x : dens A_word_Not) (_ : G_word_Not x = true) : (T_word_Not x).val = some (V_word_Not x) := by
  show some _ = some _
  rw [V_word_Wrap, V_word_Not, not_wn]
/-- word.And -/
abbrev A_word_And : List Ty := [(.int .i64), (.int .i64)]
abbrev S_word_And : Sh := Sh.ty (Ty.int IntKind.i64)
def T_word_And (x : dens A_word_And) : PO (Sh.den S_word_And) :=
  (.ret (V_word_Wrap (band IntKind.i64 x.1 x.2)))
def G_word_And (_ : dens A_word_And) : Bool := true
def V_word_And (x : dens A_word_And) : Sh.den S_word_And := ((wn x.1 &&& wn x.2 : Nat) : Int)
theorem ok_word_And (x : dens A_word_And) (_ : G_word_And x = true) : (T_word_And x).val = some (V_word_And x) := by
  show some _ = some _
  rw [V_word_Wrap, V_word_And, and_wn]
/-- word.Or -/
abbrev A_word_Or : List Ty := [(.int .i64), (.int .i64)]
abbrev S_word_Or : Sh := Sh.ty (Ty.int IntKind.i64)
def T_word_Or (x : dens A_word_Or) : PO (Sh.den S_word_Or) :=
  (.ret (V_word_Wrap (bor IntKind.i64 x.1 x.2)))
def G_word_Or (_ : dens A_word_Or) : Bool := true
def V_word_Or (x : dens A_word_Or) : Sh.den S_word_Or := ((wn x.1 ||| wn x.2 : Nat) : Int)
theorem ok_word_Or (x : dens A_word_Or) (_ : G_word_Or x = true) : (T_word_Or x).val = some (V_word_Or x) := by
  show some _ = some _
  rw [V_word_Wrap, V_word_Or, or_wn]
/-- word.Xor -/
abbrev A_word_Xor : List Ty := [(.int .i64), (.int .i64)]
abbrev S_word_Xor : Sh := Sh.ty (Ty.int IntKind.i64)
def T_word_Xor (x : dens A_word_Xor) : PO (Sh.den S_word_Xor) :=
  (.ret (V_word_Wrap (bxor IntKind.i64 x.1 x.2)))
def G_word_Xor (_ : dens A_word_Xor) : Bool := true
def V_word_Xor (x : dens A_word_Xor) : Sh.den S_word_Xor := ((wn x.1 ^^^ wn x.2 : Nat) : Int)
theorem ok_word_Xor (x : dens A_word_Xor) (_ : G_word_Xor x = true) : (T_word_Xor x).val = some (V_word_Xor x) := by
  show some _ = some _
  rw [V_word_Wrap, V_word_Xor, xor_wn]
/-- word.Shl -/
abbrev A_word_Shl : List Ty := [(.int .i64), (.int .i64)]
abbrev S_word_Shl : Sh := Sh.ty (Ty.int IntKind.i64)
def T_word_Shl (x : dens A_word_Shl) : PO (Sh.den S_word_Shl) :=
  (.ite (!decide (V_word_many x.2 < 0) && true)
   (.ret (V_word_Wrap (ishl IntKind.i64 (V_word_Wrap x.1) (V_word_many x.2))))
   .fail)
def G_word_Shl (_ : dens A_word_Shl) : Bool := true
def V_word_Shl (x : dens A_word_Shl) : Sh.den S_word_Shl := ((wn x.1 * 2 ^ kk x.2 % 4294967296 : Nat) : Int)
theorem ok_word_Shl (x : dens A_word_Shl) (_ : G_word_Shl x = true) : (T_word_Shl x).val = some (V_word_Shl x) := by
  obtain ⟨a, n⟩ := x
  have hk := kk_lt n
  have hd : decide ((kk n : Int) < 0) = false := dec_false (by omega)
  show (bif !decide ((kk n : Int) < 0) && true then some ((wn (ishl .i64 (wn a : Int) (kk n : Int)) : Nat) : Int) else none) = some ((wn a * 2 ^ kk n % 4294967296 : Nat) : Int)
  rw [hd, shl_wn _ _ (by omega)]
  rfl
/-- word.Shr -/
abbrev A_word_Shr : List Ty := [(.int .i64), (.int .i64)]
abbrev S_word_Shr : Sh := Sh.ty (Ty.int IntKind.i64)
def T_word_Shr (x : dens A_word_Shr) : PO (Sh.den S_word_Shr) :=
  (.ite (!decide (V_word_many x.2 < 0))
   (.ret (ishr IntKind.i64 (V_word_Wrap x.1) (V_word_many x.2)))
   .fail)
def G_word_Shr (_ : dens A_word_Shr) : Bool := true
def V_word_Shr (x : dens A_word_Shr) : Sh.den S_word_Shr := ((wn x.1 / 2 ^ kk x.2 : Nat) : Int)
theorem ok_word_Shr (x : dens A_word_Shr) (_ : G_word_Shr x = true) : (T_word_Shr x).val = some (V_word_Shr x) := by
  obtain ⟨a, n⟩ := x
  have hk := kk_lt n
  have hd : decide ((kk n : Int) < 0) = false := dec_false (by omega)
  show (bif !decide ((kk n : Int) < 0) then some (ishr .i64 (wn a : Int) (kk n : Int)) else none) = some ((wn a / 2 ^ kk n : Nat) : Int)
  rw [hd, ishr_i64 _ _ (by omega)]
  simp
/-- word.Sar -/
abbrev A_word_Sar : List Ty := [(.int .i64), (.int .i64)]
abbrev S_word_Sar : Sh := Sh.ty (Ty.int IntKind.i64)
def T_word_Sar (x : dens A_word_Sar) : PO (Sh.den S_word_Sar) :=
  (.ite (!decide (V_word_many x.2 < 0) && true)
   (.ret (V_word_Wrap (ishr IntKind.i64 (w64 (IntKind.wrap IntKind.i32 (IntKind.wrap IntKind.u32 (V_word_Wrap x.1)))) (V_word_many x.2))))
   .fail)
/-- A word's number with a sign. -/
def sw (m : Nat) : Int := if 2147483648 ≤ m then (m : Int) - 4294967296 else m
def G_word_Sar (_ : dens A_word_Sar) : Bool := true
def V_word_Sar (x : dens A_word_Sar) : Sh.den S_word_Sar := (wn (sw (wn x.1) / (2 ^ kk x.2 : Nat)) : Int)
theorem ok_word_Sar (x : dens A_word_Sar) (_ : G_word_Sar x = true) : (T_word_Sar x).val = some (V_word_Sar x) := by
  obtain ⟨a, n⟩ := x
  have hk := kk_lt n
  have hl := wn_lt a
  have e : w64 (IntKind.i32.wrap (IntKind.u32.wrap (wn a : Int))) = sw (wn a) := by
    rw [u32_wrap, i32_eq, Int.emod_emod_of_dvd _ (by decide), Int.emod_eq_of_lt (by omega) (by omega)]
    unfold sw
    split
    · rw [if_pos (by omega), w64_id (by omega) (by omega)]
    · rw [if_neg (by omega), w64_id (by omega) (by omega)]
  have hd : decide ((kk n : Int) < 0) = false := dec_false (by omega)
  show (bif !decide ((kk n : Int) < 0) && true then some ((wn (ishr .i64 (w64 (IntKind.i32.wrap (IntKind.u32.wrap (wn a : Int)))) (kk n : Int)) : Nat) : Int) else none) = some ((wn (sw (wn a) / (2 ^ kk n : Nat)) : Nat) : Int)
  rw [hd, e, ishr_i64 _ _ (by omega)]
  rfl
/-- word.Ror -/
abbrev A_word_Ror : List Ty := [(.int .i64), (.int .i64)]
abbrev S_word_Ror : Sh := Sh.ty (Ty.int IntKind.i64)
def T_word_Ror (x : dens A_word_Ror) : PO (Sh.den S_word_Ror) :=
  (.ite (G_word_Shr (x.1, x.2) && (!decide (w64 (32 - V_word_many x.2) < 0) && true))
   (.ret (V_word_Or (V_word_Shr (x.1, x.2), V_word_Wrap (ishl IntKind.i64 (V_word_Wrap x.1) (w64 (32 - V_word_many x.2))))))
   .fail)
def G_word_Ror (_ : dens A_word_Ror) : Bool := true
def V_word_Ror (x : dens A_word_Ror) : Sh.den S_word_Ror := ((wn x.1 / 2 ^ kk x.2 + wn x.1 % 2 ^ kk x.2 * 2 ^ (32 - kk x.2) : Nat) : Int)
theorem ror_nat (m k : Nat) (hm : m < 4294967296) (hk : k < 32) : m / 2 ^ k ||| m * 2 ^ (32 - k) % 4294967296 = m / 2 ^ k + m % 2 ^ k * 2 ^ (32 - k) := by
  have h0 : 2 ^ 32 = 2 ^ k * 2 ^ (32 - k) := by rw [← Nat.pow_add]; congr 1; omega
  have h1 : m * 2 ^ (32 - k) % 4294967296 = m % 2 ^ k * 2 ^ (32 - k) := by
    rw [show (4294967296 : Nat) = 2 ^ 32 from rfl, h0, Nat.mul_mod_mul_right]
  have h2 : m / 2 ^ k < 2 ^ (32 - k) := by
    rw [Nat.div_lt_iff_lt_mul (Nat.two_pow_pos k), Nat.mul_comm, ← h0]
    omega
  rw [h1, Nat.or_comm, Nat.mul_comm (m % 2 ^ k), ← Nat.two_pow_add_eq_or_of_lt h2, Nat.add_comm]
theorem ok_word_Ror (x : dens A_word_Ror) (_ : G_word_Ror x = true) : (T_word_Ror x).val = some (V_word_Ror x) := by
  obtain ⟨a, n⟩ := x
  have hk := kk_lt n
  have hl := wn_lt a
  have e1 : w64 (32 - (kk n : Int)) = ((32 - kk n : Nat) : Int) := by
    rw [w64_id (by omega) (by omega)]; omega
  have hd : decide (w64 (32 - (kk n : Int)) < 0) = false := dec_false (by rw [e1]; omega)
  have h1 : wn a / 2 ^ kk n < 4294967296 := Nat.lt_of_le_of_lt (Nat.div_le_self _ _) hl
  show (bif true && (!decide (w64 (32 - (kk n : Int)) < 0) && true) then some ((wn ((wn a / 2 ^ kk n : Nat) : Int) ||| wn ((wn (ishl .i64 (wn a : Int) (w64 (32 - (kk n : Int)))) : Nat) : Int) : Nat) : Int) else none) = some ((wn a / 2 ^ kk n + wn a % 2 ^ kk n * 2 ^ (32 - kk n) : Nat) : Int)
  rw [hd, e1, shl_wn _ _ (by omega), wn_nat h1, wn_nat (Nat.mod_lt _ (by omega)), ror_nat _ _ hl hk]
  rfl
/-- word.Select -/
abbrev A_word_Select : List Ty := [(.int .i64), (.int .i64), (.int .i64)]
abbrev S_word_Select : Sh := Sh.ty (Ty.int IntKind.i64)
def T_word_Select (x : dens A_word_Select) : PO (Sh.den S_word_Select) :=
  (.ret (V_word_Or (band IntKind.i64 x.2.1 x.1, bnot IntKind.i64 x.2.2 x.1)))
def G_word_Select (_ : dens A_word_Select) : Bool := true
def V_word_Select (x : dens A_word_Select) : Sh.den S_word_Select := (((wn x.2.1 &&& wn x.1) ||| (wn x.2.2 &&& (4294967295 - wn x.1)) : Nat) : Int)
theorem ok_word_Select (x : dens A_word_Select) (_ : G_word_Select x = true) : (T_word_Select x).val = some (V_word_Select x) := by
  show some _ = some _
  rw [V_word_Or, V_word_Select, and_wn, bnot_wn]
/-- word.Bit -/
abbrev A_word_Bit : List Ty := [(.int .i64), (.int .i64)]
abbrev S_word_Bit : Sh := Sh.ty (Ty.int IntKind.i64)
def T_word_Bit (x : dens A_word_Bit) : PO (Sh.den S_word_Bit) :=
  (.ite (G_word_Shr (x.1, x.2))
   (.ret (band IntKind.i64 (V_word_Shr (x.1, x.2)) 1))
   .fail)
def G_word_Bit (_ : dens A_word_Bit) : Bool := true
def V_word_Bit (x : dens A_word_Bit) : Sh.den S_word_Bit := ((wn x.1 / 2 ^ kk x.2 % 2 : Nat) : Int)
theorem ok_word_Bit (x : dens A_word_Bit) (_ : G_word_Bit x = true) : (T_word_Bit x).val = some (V_word_Bit x) := by
  show some _ = some _
  simp only [V_word_Shr, V_word_Bit]
  rw [band_one]
  simp
/-- hauberkref01.Wrap -/
abbrev A_hauberkref01_Wrap : List Ty := [(.int .i64)]
abbrev S_hauberkref01_Wrap : Sh := Sh.ty (Ty.int IntKind.i64)
def T_hauberkref01_Wrap (x : dens A_hauberkref01_Wrap) : PO (Sh.den S_hauberkref01_Wrap) :=
  (.ret (w64 (Int.tmod (IntKind.wrap IntKind.u64 x) 4294967296)))
def G_hauberkref01_Wrap (_ : dens A_hauberkref01_Wrap) : Bool := true
def V_hauberkref01_Wrap (x : dens A_hauberkref01_Wrap) : Sh.den S_hauberkref01_Wrap := (wn x : Int)
theorem ok_hauberkref01_Wrap (x : dens A_hauberkref01_Wrap) (_ : G_hauberkref01_Wrap x = true) : (T_hauberkref01_Wrap x).val = some (V_hauberkref01_Wrap x) := by
  show some _ = some _
  have h1 : (0 : Int) ≤ x % 18446744073709551616 := Int.emod_nonneg _ (by omega)
  rw [u64_wrap, tmod_pos _ _ h1, mod64, V_hauberkref01_Wrap, wn_int]
  exact congrArg some (w64_id (by omega) (by omega))
/-- hauberkref01.many -/
abbrev A_hauberkref01_many : List Ty := [(.int .i64)]
abbrev S_hauberkref01_many : Sh := Sh.ty (Ty.int IntKind.i64)
def T_hauberkref01_many (x : dens A_hauberkref01_many) : PO (Sh.den S_hauberkref01_many) :=
  (.ret (w64 (Int.tmod (IntKind.wrap IntKind.u64 x) 32)))
def G_hauberkref01_many (_ : dens A_hauberkref01_many) : Bool := true
def V_hauberkref01_many (x : dens A_hauberkref01_many) : Sh.den S_hauberkref01_many := (kk x : Int)
theorem ok_hauberkref01_many (x : dens A_hauberkref01_many) (_ : G_hauberkref01_many x = true) : (T_hauberkref01_many x).val = some (V_hauberkref01_many x) := by
  show some _ = some _
  have h1 : (0 : Int) ≤ x % 18446744073709551616 := Int.emod_nonneg _ (by omega)
  have h2 : x % 18446744073709551616 % 32 = x % 32 := Int.emod_emod_of_dvd x (by decide)
  rw [u64_wrap, tmod_pos _ _ h1, h2, V_hauberkref01_many, kk_int]
  exact congrArg some (w64_id (by omega) (by omega))
def L_hauberkref01_power_3 : LoopN where
  M := [0, 3, 4]
  T := [5, 6, 7, 8, 9, 10, 11]
  D := [0, 4]
  ss := [.ty (.int .i64), .ty (.int .i64), .ty (.int .i64)]
  hs := []
  es := [.exit 0]
  σ := (Ty.den (.int .i64)) × (Ty.den (.int .i64))
  x0 := fun x _ => (x.2.1, x.2.2)
  put := fun x _ s => ((x.1, s.1, s.2), ())
  fuel := fun x _ => Int.toNat x.1+1
  turn := fun x _ s =>
  (.ite (decide (s.2 < x.1))
   (.ret (.on (w64 (s.1 * 2), w64 (s.2 + 1))))
   (.ret (.out 0 (s.1, s.2))))
/-- hauberkref01.power -/
abbrev A_hauberkref01_power : List Ty := [(.int .i64)]
abbrev S_hauberkref01_power : Sh := Sh.ty (Ty.int IntKind.i64)
def T_hauberkref01_power (x : dens A_hauberkref01_power) : PO (Sh.den S_hauberkref01_power) :=
  (.opt (LoopN.res L_hauberkref01_power_3 (x, 1, 0) ()) fun p0 =>
   (.ret (p0.2.1)))
def G_hauberkref01_power (x : dens A_hauberkref01_power) : Bool := decide ((x : Int) ≤ 62)
def V_hauberkref01_power (x : dens A_hauberkref01_power) : Sh.den S_hauberkref01_power := ((2 ^ Int.toNat x : Nat) : Int)
theorem power_run (n : Nat) (hn : n ≤ 62) : runL (L_hauberkref01_power_3.turn ((n : Int), 1, 0) ()) (n + 1) (1, 0) = some (0, ((2 ^ n : Nat) : Int), (n : Int)) := by
  refine runL_count (σ := Int × Int) (fun i => (((2 ^ i : Nat) : Int), (i : Int))) (0, ((2 ^ n : Nat) : Int), (n : Int)) (n := n) (fun i hi => ?_) ?_ n 0 (by omega) _ (by omega)
  · have h1 : decide ((i : Int) < (n : Int)) = true := dec_true (by omega)
    have h2 : 2 ^ (i + 1) ≤ 2 ^ 62 := pow_lt (by omega)
    have h3 : ((2 ^ i : Nat) : Int) * 2 = ((2 ^ (i + 1) : Nat) : Int) := by rw [Nat.pow_succ]; simp
    simp only [L_hauberkref01_power_3, PO.val, h1, cond_true]
    rw [h3]
    generalize 2 ^ (i + 1) = q at h2 ⊢
    rw [w64_id (by omega) (by omega), w64_id (by omega) (by omega)]
    rfl
  · simp only [L_hauberkref01_power_3, PO.val, dec_false (show ¬ (n : Int) < (n : Int) by omega), cond_false]
theorem power_val (x : Int) (hx : x ≤ 62) : (T_hauberkref01_power x).val = some (((2 ^ Int.toNat x : Nat) : Int)) := by
  unfold T_hauberkref01_power PO.val
  by_cases hneg : x < 0
  · have e : Int.toNat x = 0 := by omega
    have : LoopN.res L_hauberkref01_power_3 (x, 1, 0) () = some (0, (1 : Int), (0 : Int)) := by
      show runL _ (Int.toNat x + 1) (1, 0) = _
      rw [e]
      refine runL_out ?_
      simp only [L_hauberkref01_power_3, PO.val, dec_false (show ¬ (0 : Int) < x by omega), cond_false]
    rw [this, e]
    rfl
  · obtain ⟨n, rfl⟩ : ∃ n : Nat, x = (n : Int) := ⟨Int.toNat x, by omega⟩
    have : LoopN.res L_hauberkref01_power_3 ((n : Int), 1, 0) () = some (0, ((2 ^ n : Nat) : Int), (n : Int)) := by
      show runL _ (Int.toNat (n : Int) + 1) (1, 0) = _
      rw [Int.toNat_natCast]
      exact power_run n (by omega)
    rw [this]
    rfl
theorem ok_hauberkref01_power (x : dens A_hauberkref01_power) (h : G_hauberkref01_power x = true) : (T_hauberkref01_power x).val = some (V_hauberkref01_power x) := power_val x (of_decide_eq_true h)
end Go.Av
