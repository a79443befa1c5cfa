/- Layer 1: words, by the document: the other operations. -/
import Derived.Test.YtbfhpnnnfjjjnaaPRef01
namespace Go.Av
open Go
/-- hauberkref01.Not -/
abbrev A_hauberkref01_Not : List Ty := [(.int .i64)]
abbrev S_hauberkref01_Not : Sh := Sh.ty (Ty.int IntKind.i64)
def T_hauberkref01_Not (x : dens A_hauberkref01_Not) : PO (Sh.den S_hauberkref01_Not) :=
  (.ret (V_hauberkref01_three (0, x, 0, 0)))
def G_hauberkref01_Not (_ : dens A_hauberkref01_Not) : Bool := true
def V_hauberkref01_Not (x : dens A_hauberkref01_Not) : Sh.den S_hauberkref01_Not := ((4294967295 - wn x : Nat) : Int)
theorem ok_hauberkref01_Not (x : dens A_hauberkref01_Not) (_ : G_hauberkref01_Not x = true) : (T_hauberkref01_Not x).val = some (V_hauberkref01_Not x) := rfl
/-- hauberkref01.And -/
abbrev A_hauberkref01_And : List Ty := [(.int .i64), (.int .i64)]
abbrev S_hauberkref01_And : Sh := Sh.ty (Ty.int IntKind.i64)
def T_hauberkref01_And (x : dens A_hauberkref01_And) : PO (Sh.den S_hauberkref01_And) :=
  (.ret (V_hauberkref01_three (0, x.1, x.2, 1)))
def G_hauberkref01_And (_ : dens A_hauberkref01_And) : Bool := true
def V_hauberkref01_And (x : dens A_hauberkref01_And) : Sh.den S_hauberkref01_And := ((wn x.1 &&& wn x.2 : Nat) : Int)
theorem ok_hauberkref01_And (x : dens A_hauberkref01_And) (_ : G_hauberkref01_And x = true) : (T_hauberkref01_And x).val = some (V_hauberkref01_And x) := rfl
/-- hauberkref01.Or -/
abbrev A_hauberkref01_Or : List Ty := [(.int .i64), (.int .i64)]
abbrev S_hauberkref01_Or : Sh := Sh.ty (Ty.int IntKind.i64)
def T_hauberkref01_Or (x : dens A_hauberkref01_Or) : PO (Sh.den S_hauberkref01_Or) :=
  (.ret (V_hauberkref01_three (0, x.1, x.2, 2)))
def G_hauberkref01_Or (_ : dens A_hauberkref01_Or) : Bool := true
def V_hauberkref01_Or (x : dens A_hauberkref01_Or) : Sh.den S_hauberkref01_Or := ((wn x.1 ||| wn x.2 : Nat) : Int)
theorem ok_hauberkref01_Or (x : dens A_hauberkref01_Or) (_ : G_hauberkref01_Or x = true) : (T_hauberkref01_Or x).val = some (V_hauberkref01_Or x) := rfl
/-- hauberkref01.Xor -/
abbrev A_hauberkref01_Xor : List Ty := [(.int .i64), (.int .i64)]
abbrev S_hauberkref01_Xor : Sh := Sh.ty (Ty.int IntKind.i64)
def T_hauberkref01_Xor (x : dens A_hauberkref01_Xor) : PO (Sh.den S_hauberkref01_Xor) :=
  (.ret (V_hauberkref01_three (0, x.1, x.2, 3)))
def G_hauberkref01_Xor (_ : dens A_hauberkref01_Xor) : Bool := true
def V_hauberkref01_Xor (x : dens A_hauberkref01_Xor) : Sh.den S_hauberkref01_Xor := ((wn x.1 ^^^ wn x.2 : Nat) : Int)
theorem ok_hauberkref01_Xor (x : dens A_hauberkref01_Xor) (_ : G_hauberkref01_Xor x = true) : (T_hauberkref01_Xor x).val = some (V_hauberkref01_Xor x) := rfl
/-- hauberkref01.Shl -/
abbrev A_hauberkref01_Shl : List Ty := [(.int .i64), (.int .i64)]
abbrev S_hauberkref01_Shl : Sh := Sh.ty (Ty.int IntKind.i64)
def T_hauberkref01_Shl (x : dens A_hauberkref01_Shl) : PO (Sh.den S_hauberkref01_Shl) :=
  (.ite (G_hauberkref01_power (V_hauberkref01_many x.2) && true)
   (.ret (V_hauberkref01_Mul (x.1, V_hauberkref01_power (V_hauberkref01_many x.2))))
   .fail)
theorem pow_kk_lt (n : Int) : 2 ^ kk n < 4294967296 := Nat.pow_lt_pow_right (by omega) (kk_lt n)
def G_hauberkref01_Shl (_ : dens A_hauberkref01_Shl) : Bool := true
def V_hauberkref01_Shl (x : dens A_hauberkref01_Shl) : Sh.den S_hauberkref01_Shl := ((wn x.1 * 2 ^ kk x.2 % 4294967296 : Nat) : Int)
theorem ok_hauberkref01_Shl (x : dens A_hauberkref01_Shl) (_ : G_hauberkref01_Shl x = true) : (T_hauberkref01_Shl x).val = some (V_hauberkref01_Shl x) := by
  obtain ⟨a, n⟩ := x
  show (bif G_hauberkref01_power (V_hauberkref01_many n) && true then some ((wn a * wn (V_hauberkref01_power (V_hauberkref01_many n)) % 4294967296 : Nat) : Int) else none) = some ((wn a * 2 ^ kk n % 4294967296 : Nat) : Int)
  rw [pow_kk_ok, pow_kk, wn_nat (pow_kk_lt n)]
  rfl
/-- hauberkref01.Shr -/
abbrev A_hauberkref01_Shr : List Ty := [(.int .i64), (.int .i64)]
abbrev S_hauberkref01_Shr : Sh := Sh.ty (Ty.int IntKind.i64)
def T_hauberkref01_Shr (x : dens A_hauberkref01_Shr) : PO (Sh.den S_hauberkref01_Shr) :=
  (.ite (G_hauberkref01_power (V_hauberkref01_many x.2) && !V_hauberkref01_power (V_hauberkref01_many x.2) == 0)
   (.ret (w64 (Int.tdiv (V_hauberkref01_Wrap x.1) (V_hauberkref01_power (V_hauberkref01_many x.2)))))
   .fail)
def G_hauberkref01_Shr (_ : dens A_hauberkref01_Shr) : Bool := true
def V_hauberkref01_Shr (x : dens A_hauberkref01_Shr) : Sh.den S_hauberkref01_Shr := ((wn x.1 / 2 ^ kk x.2 : Nat) : Int)
theorem ok_hauberkref01_Shr (x : dens A_hauberkref01_Shr) (_ : G_hauberkref01_Shr x = true) : (T_hauberkref01_Shr x).val = some (V_hauberkref01_Shr x) := by
  obtain ⟨a, n⟩ := x
  have hl := wn_lt a
  have hd : wn a / 2 ^ kk n ≤ wn a := Nat.div_le_self _ _
  show (bif G_hauberkref01_power (V_hauberkref01_many n) && !(V_hauberkref01_power (V_hauberkref01_many n) == (0 : Int)) then some (w64 (Int.tdiv (wn a : Int) (V_hauberkref01_power (V_hauberkref01_many n)))) else none) = some ((wn a / 2 ^ kk n : Nat) : Int)
  rw [pow_kk_ok, pow_kk, pow_kk_ne, tdiv_pos _ _ (by omega), ← Int.natCast_ediv]
  generalize wn a / 2 ^ kk n = q at hd
  rw [w64_id (by omega) (by omega)]
  rfl
/-- hauberkref01.Flip -/
abbrev A_hauberkref01_Flip : List Ty := [(.int .i64), (.int .i64)]
abbrev S_hauberkref01_Flip : Sh := Sh.ty (Ty.int IntKind.i64)
def T_hauberkref01_Flip (x : dens A_hauberkref01_Flip) : PO (Sh.den S_hauberkref01_Flip) :=
  (.ite (G_hauberkref01_power (V_hauberkref01_many x.2))
   (.ite (V_hauberkref01_Bit (x.1, x.2) == 1)
    (.ret (w64 (V_hauberkref01_Wrap x.1 - V_hauberkref01_power (V_hauberkref01_many x.2))))
    (.ret (w64 (V_hauberkref01_Wrap x.1 + V_hauberkref01_power (V_hauberkref01_many x.2)))))
   .fail)
/-- A number with one bit turned. -/
def flip (m j : Nat) : Nat := bif bt m j == 1 then m - 2 ^ j else m + 2 ^ j
def G_hauberkref01_Flip (_ : dens A_hauberkref01_Flip) : Bool := true
def V_hauberkref01_Flip (x : dens A_hauberkref01_Flip) : Sh.den S_hauberkref01_Flip := (flip (wn x.1) (kk x.2) : Int)
theorem bt_pow_le {m j : Nat} (h : bt m j = 1) : 2 ^ j ≤ m := by
  refine Nat.le_of_not_lt fun hlt => ?_
  unfold bt at h
  rw [Nat.div_eq_of_lt hlt] at h
  cases h
theorem ok_hauberkref01_Flip (x : dens A_hauberkref01_Flip) (_ : G_hauberkref01_Flip x = true) : (T_hauberkref01_Flip x).val = some (V_hauberkref01_Flip x) := by
  obtain ⟨a, n⟩ := x
  have hl := wn_lt a
  have hp := pow_kk_lt n
  show (bif G_hauberkref01_power (V_hauberkref01_many n) then (bif ((bt (wn a) (kk n) : Nat) : Int) == 1 then some (w64 ((wn a : Int) - V_hauberkref01_power (V_hauberkref01_many n))) else some (w64 ((wn a : Int) + V_hauberkref01_power (V_hauberkref01_many n)))) else none) = some ((flip (wn a) (kk n) : Nat) : Int)
  rw [pow_kk_ok, pow_kk]
  have hb := bt_le (wn a) (kk n)
  have h1 : bt (wn a) (kk n) = 0 ∨ bt (wn a) (kk n) = 1 := by omega
  unfold flip
  rcases h1 with h1 | h1
  · rw [h1]
    generalize 2 ^ kk n = q at *
    show some (w64 ((wn a : Int) + (q : Int))) = some ((wn a + q : Nat) : Int)
    rw [w64_id (by omega) (by omega)]
    rfl
  · have hle := bt_pow_le h1
    rw [h1]
    generalize 2 ^ kk n = q at *
    show some (w64 ((wn a : Int) - (q : Int))) = some ((wn a - q : Nat) : Int)
    rw [w64_id (by omega) (by omega), Int.ofNat_sub hle]
end Go.Av
