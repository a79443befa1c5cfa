/- Layer 1: words, by the document. -/
import Derived.Test.YtbfhpnnnfjjjnaaPWord
namespace Go.Av
open Go
/-- hauberkref01.Add -/
abbrev A_hauberkref01_Add : List Ty := [(.int .i64), (.int .i64)]
abbrev S_hauberkref01_Add : Sh := Sh.ty (Ty.int IntKind.i64)
def T_hauberkref01_Add (x : dens A_hauberkref01_Add) : PO (Sh.den S_hauberkref01_Add) :=
  (.ret (V_hauberkref01_Wrap (w64 (V_hauberkref01_Wrap x.1 + V_hauberkref01_Wrap x.2))))
def G_hauberkref01_Add (_ : dens A_hauberkref01_Add) : Bool := true
def V_hauberkref01_Add (x : dens A_hauberkref01_Add) : Sh.den S_hauberkref01_Add := (wn (x.1 + x.2) : Int)
theorem ok_hauberkref01_Add (x : dens A_hauberkref01_Add) (_ : G_hauberkref01_Add x = true) : (T_hauberkref01_Add x).val = some (V_hauberkref01_Add x) := by
  obtain ⟨a, b⟩ := x
  show some ((wn (w64 ((wn a : Int) + (wn b : Int))) : Nat) : Int) = some ((wn (a + b) : Nat) : Int)
  rw [show wn (w64 ((wn a : Int) + (wn b : Int))) = wn (a + b) from wn_eq (by rw [w64_mod, wn_int, wn_int]; omega)]
/-- hauberkref01.Sub -/
abbrev A_hauberkref01_Sub : List Ty := [(.int .i64), (.int .i64)]
abbrev S_hauberkref01_Sub : Sh := Sh.ty (Ty.int IntKind.i64)
def T_hauberkref01_Sub (x : dens A_hauberkref01_Sub) : PO (Sh.den S_hauberkref01_Sub) :=
  (.ret (V_hauberkref01_Wrap (w64 (w64 (V_hauberkref01_Wrap x.1 + 4294967296) - V_hauberkref01_Wrap x.2))))
def G_hauberkref01_Sub (_ : dens A_hauberkref01_Sub) : Bool := true
def V_hauberkref01_Sub (x : dens A_hauberkref01_Sub) : Sh.den S_hauberkref01_Sub := (wn (x.1 - x.2) : Int)
theorem ok_hauberkref01_Sub (x : dens A_hauberkref01_Sub) (_ : G_hauberkref01_Sub x = true) : (T_hauberkref01_Sub x).val = some (V_hauberkref01_Sub x) := by
  obtain ⟨a, b⟩ := x
  show some ((wn (w64 (w64 ((wn a : Int) + 4294967296) - (wn b : Int))) : Nat) : Int) = some ((wn (a - b) : Nat) : Int)
  have ha := wn_lt a
  rw [show wn (w64 (w64 ((wn a : Int) + 4294967296) - (wn b : Int))) = wn (a - b) from wn_eq (by rw [w64_mod, w64_id (by omega) (by omega), wn_int, wn_int]; omega)]
theorem u64_nat {m : Nat} (h : m < 18446744073709551616) : IntKind.u64.wrap (m : Int) = m := by rw [u64_wrap, Int.emod_eq_of_lt (by omega) (by omega)]
theorem prod_u64 (a b : Int) : IntKind.u64.wrap (IntKind.u64.wrap (wn a : Int) * IntKind.u64.wrap (wn b : Int)) = ((wn a * wn b : Nat) : Int) := by
  have h1 := wn_lt a
  have h2 := wn_lt b
  have h3 := mul_lt a b
  rw [u64_nat (by omega), u64_nat (by omega), show (wn a : Int) * (wn b : Int) = ((wn a * wn b : Nat) : Int) by simp, u64_nat (by omega)]
/-- hauberkref01.Mul -/
abbrev A_hauberkref01_Mul : List Ty := [(.int .i64), (.int .i64)]
abbrev S_hauberkref01_Mul : Sh := Sh.ty (Ty.int IntKind.i64)
def T_hauberkref01_Mul (x : dens A_hauberkref01_Mul) : PO (Sh.den S_hauberkref01_Mul) :=
  (.ret (w64 (Int.tmod (IntKind.wrap IntKind.u64 (IntKind.wrap IntKind.u64 (V_hauberkref01_Wrap x.1) * IntKind.wrap IntKind.u64 (V_hauberkref01_Wrap x.2))) 4294967296)))
def G_hauberkref01_Mul (_ : dens A_hauberkref01_Mul) : Bool := true
def V_hauberkref01_Mul (x : dens A_hauberkref01_Mul) : Sh.den S_hauberkref01_Mul := ((wn x.1 * wn x.2 % 4294967296 : Nat) : Int)
theorem ok_hauberkref01_Mul (x : dens A_hauberkref01_Mul) (_ : G_hauberkref01_Mul x = true) : (T_hauberkref01_Mul x).val = some (V_hauberkref01_Mul x) := by
  obtain ⟨a, b⟩ := x
  show some (w64 (Int.tmod (IntKind.u64.wrap (IntKind.u64.wrap (wn a : Int) * IntKind.u64.wrap (wn b : Int))) 4294967296)) = some ((wn a * wn b % 4294967296 : Nat) : Int)
  rw [prod_u64, tmod_pos _ _ (by omega), w64_id (by omega) (by omega)]
  congr 1
/-- hauberkref01.High -/
abbrev A_hauberkref01_High : List Ty := [(.int .i64), (.int .i64)]
abbrev S_hauberkref01_High : Sh := Sh.ty (Ty.int IntKind.i64)
def T_hauberkref01_High (x : dens A_hauberkref01_High) : PO (Sh.den S_hauberkref01_High) :=
  (.ret (w64 (IntKind.wrap IntKind.u64 (Int.tdiv (IntKind.wrap IntKind.u64 (IntKind.wrap IntKind.u64 (V_hauberkref01_Wrap x.1) * IntKind.wrap IntKind.u64 (V_hauberkref01_Wrap x.2))) 4294967296))))
def G_hauberkref01_High (_ : dens A_hauberkref01_High) : Bool := true
def V_hauberkref01_High (x : dens A_hauberkref01_High) : Sh.den S_hauberkref01_High := ((wn x.1 * wn x.2 / 4294967296 : Nat) : Int)
theorem ok_hauberkref01_High (x : dens A_hauberkref01_High) (_ : G_hauberkref01_High x = true) : (T_hauberkref01_High x).val = some (V_hauberkref01_High x) := by
  obtain ⟨a, b⟩ := x
  have h3 := mul_lt a b
  have e1 : ((wn a * wn b : Nat) : Int) / 4294967296 = ((wn a * wn b / 4294967296 : Nat) : Int) := by omega
  show some (w64 (IntKind.u64.wrap (Int.tdiv (IntKind.u64.wrap (IntKind.u64.wrap (wn a : Int) * IntKind.u64.wrap (wn b : Int))) 4294967296))) = some ((wn a * wn b / 4294967296 : Nat) : Int)
  rw [prod_u64, tdiv_pos _ _ (by omega), e1, u64_nat (by omega), w64_id (by omega) (by omega)]
theorem pow_kk (n : Int) : V_hauberkref01_power (V_hauberkref01_many n) = ((2 ^ kk n : Nat) : Int) := by
  show ((2 ^ Int.toNat (kk n : Int) : Nat) : Int) = _
  rw [Int.toNat_natCast]
theorem pow_kk_ok (n : Int) : G_hauberkref01_power (V_hauberkref01_many n) = true := by
  have := kk_lt n
  exact dec_true (show (kk n : Int) ≤ 62 by omega)
theorem pow_kk_ne (n : Int) : (((2 ^ kk n : Nat) : Int) == 0) = false := by
  have := Nat.two_pow_pos (kk n)
  rw [beq_eq_false_iff_ne]
  omega
/-- A bit of a number. -/
def bt (m j : Nat) : Nat := m / 2 ^ j % 2
theorem bt_eq (m j : Nat) : bt m j = (m.testBit j).toNat := (Nat.toNat_testBit m j).symm
theorem bt_le (m j : Nat) : bt m j ≤ 1 := by unfold bt; omega
/-- hauberkref01.Bit -/
abbrev A_hauberkref01_Bit : List Ty := [(.int .i64), (.int .i64)]
abbrev S_hauberkref01_Bit : Sh := Sh.ty (Ty.int IntKind.i64)
def T_hauberkref01_Bit (x : dens A_hauberkref01_Bit) : PO (Sh.den S_hauberkref01_Bit) :=
  (.ite (G_hauberkref01_power (V_hauberkref01_many x.2) && !V_hauberkref01_power (V_hauberkref01_many x.2) == 0)
   (.ret (Int.tmod (w64 (Int.tdiv (V_hauberkref01_Wrap x.1) (V_hauberkref01_power (V_hauberkref01_many x.2)))) 2))
   .fail)
def G_hauberkref01_Bit (_ : dens A_hauberkref01_Bit) : Bool := true
def V_hauberkref01_Bit (x : dens A_hauberkref01_Bit) : Sh.den S_hauberkref01_Bit := (bt (wn x.1) (kk x.2) : Int)
theorem ok_hauberkref01_Bit (x : dens A_hauberkref01_Bit) (_ : G_hauberkref01_Bit x = true) : (T_hauberkref01_Bit x).val = some (V_hauberkref01_Bit x) := by
  obtain ⟨a, n⟩ := x
  have hl := wn_lt a
  have hd : wn a / 2 ^ kk n ≤ wn a := Nat.div_le_self _ _
  show (bif G_hauberkref01_power (V_hauberkref01_many n) && !(V_hauberkref01_power (V_hauberkref01_many n) == (0 : Int)) then some (Int.tmod (w64 (Int.tdiv (wn a : Int) (V_hauberkref01_power (V_hauberkref01_many n)))) 2) else none) = some ((bt (wn a) (kk n) : Nat) : Int)
  rw [pow_kk_ok, pow_kk, pow_kk_ne, tdiv_pos _ _ (by omega), ← Int.natCast_ediv]
  unfold bt
  generalize wn a / 2 ^ kk n = q at hd
  rw [w64_id (by omega) (by omega), tmod_pos _ _ (by omega)]
  rfl
def L_hauberkref01_three_3 : LoopN where
  M := [0, 1, 2, 3, 9, 10]
  T := [11, 12, 13, 14, 15, 16, 17, 18, 19, 20, 21, 22, 23, 24, 25, 26, 27, 28, 29, 30, 31, 32, 33, 34, 35, 36, 37, 38, 39, 40, 41, 42, 43, 44, 45, 46, 47, 48, 49, 50, 51, 52, 53, 54]
  D := [0, 1, 2, 3, 10]
  ss := [.ty (.int .i64), .ty (.int .i64), .ty (.int .i64), .ty (.int .i64), .ty (.int .i64), .ty (.int .i64)]
  hs := []
  es := [.exit 0]
  σ := (Ty.den (.int .i64)) × (Ty.den (.int .i64))
  x0 := fun x _ => (x.2.2.2.2.1, x.2.2.2.2.2)
  put := fun x _ s => ((x.1, x.2.1, x.2.2.1, x.2.2.2.1, s.1, s.2), ())
  fuel := fun _ _ => 40
  turn := fun x _ s =>
  (.ite (decide (s.2 ≥ 0))
   (.ite (G_hauberkref01_Bit (x.2.1, s.2) && G_hauberkref01_Bit (x.2.2.1, s.2))
    (.ite (x.2.2.2.1 == 0 || (x.2.2.2.1 == 1 || (x.2.2.2.1 == 2 || (x.2.2.2.1 == 3 || G_hauberkref01_Bit (x.1, s.2)))))
     (.ret (.on (w64 (w64 (2 * s.1) + bif x.2.2.2.1 == 0 then w64 (1 - V_hauberkref01_Bit (x.2.1, s.2)) else bif x.2.2.2.1 == 1 then w64 (V_hauberkref01_Bit (x.2.1, s.2) * V_hauberkref01_Bit (x.2.2.1, s.2)) else bif x.2.2.2.1 == 2 then imax (V_hauberkref01_Bit (x.2.1, s.2)) (V_hauberkref01_Bit (x.2.2.1, s.2)) else bif x.2.2.2.1 == 3 then Int.tmod (w64 (V_hauberkref01_Bit (x.2.1, s.2) + V_hauberkref01_Bit (x.2.2.1, s.2))) 2 else bif V_hauberkref01_Bit (x.1, s.2) == 1 then V_hauberkref01_Bit (x.2.1, s.2) else V_hauberkref01_Bit (x.2.2.1, s.2)), w64 (s.2 - 1))))
     .fail)
    .fail)
   (.ret (.out 0 (s.1, s.2))))
/-- hauberkref01.three -/
abbrev A_hauberkref01_three : List Ty := [(.int .i64), (.int .i64), (.int .i64), (.int .i64)]
abbrev S_hauberkref01_three : Sh := Sh.ty (Ty.int IntKind.i64)
def T_hauberkref01_three (x : dens A_hauberkref01_three) : PO (Sh.den S_hauberkref01_three) :=
  (.opt (LoopN.res L_hauberkref01_three_3 (x.1, x.2.1, x.2.2.1, x.2.2.2, 0, 31) ()) fun p0 =>
   (.ret (p0.2.1)))
/-- An operation on words' bits, by its number. -/
def bits3 (m a b : Nat) (kind : Int) : Nat :=
  bif kind == 0 then 4294967295 - a else bif kind == 1 then a &&& b else bif kind == 2 then a ||| b else bif kind == 3 then a ^^^ b else (a &&& m) ||| (b &&& (4294967295 - m))
theorem bt_not {a j : Nat} (ha : a < 4294967296) (hj : j < 32) : bt (4294967295 - a) j = 1 - bt a j := by
  have h : (4294967295 - a).testBit j = !a.testBit j := by
    rw [show 4294967295 - a = 2 ^ 32 - (a + 1) by omega, Nat.testBit_two_pow_sub_succ (by omega), decide_eq_true hj, Bool.true_and]
  rw [bt_eq, bt_eq, h]
  cases a.testBit j <;> rfl
theorem bt_bits3 {m a b j : Nat} (hm : m < 4294967296) (ha : a < 4294967296) (hj : j < 32) (kind : Int) :
    bt (bits3 m a b kind) j = bif kind == 0 then 1 - bt a j else bif kind == 1 then bt a j * bt b j else bif kind == 2 then max (bt a j) (bt b j) else bif kind == 3 then (bt a j + bt b j) % 2 else bif bt m j == 1 then bt a j else bt b j := by
  unfold bits3
  cases kind == 0
  · cases kind == 1
    · cases kind == 2
      · cases kind == 3
        · simp only [cond_false]
          have hn := bt_not hm hj
          have h1 : bt ((a &&& m) ||| (b &&& (4294967295 - m))) j = ((a.testBit j && m.testBit j) || (b.testBit j && (4294967295 - m).testBit j)).toNat := by
            rw [bt_eq, Nat.testBit_or, Nat.testBit_and, Nat.testBit_and]
          rw [bt_eq, bt_eq] at hn
          rw [h1, bt_eq a, bt_eq b, bt_eq m]
          revert hn
          cases m.testBit j <;> cases a.testBit j <;> cases b.testBit j <;> cases (4294967295 - m).testBit j <;> simp
        · simp only [cond_false, cond_true]
          rw [bt_eq, bt_eq, bt_eq, Nat.testBit_xor]
          cases a.testBit j <;> cases b.testBit j <;> rfl
      · simp only [cond_false, cond_true]
        rw [bt_eq, bt_eq, bt_eq, Nat.testBit_or]
        cases a.testBit j <;> cases b.testBit j <;> rfl
    · simp only [cond_false, cond_true]
      rw [bt_eq, bt_eq, bt_eq, Nat.testBit_and]
      cases a.testBit j <;> cases b.testBit j <;> rfl
  · simp only [cond_true]
    exact bt_not ha hj
theorem bits3_lt {m a b : Nat} (ha : a < 4294967296) (hb : b < 4294967296) (kind : Int) : bits3 m a b kind < 4294967296 := by
  unfold bits3
  cases kind == 0
  · cases kind == 1
    · cases kind == 2
      · cases kind == 3
        · have h1 : a &&& m ≤ a := Nat.and_le_left
          have h2 : b &&& (4294967295 - m) ≤ b := Nat.and_le_left
          exact Nat.or_lt_two_pow (n := 32) (by omega) (by omega)
        · exact Nat.xor_lt_two_pow (n := 32) ha hb
      · exact Nat.or_lt_two_pow (n := 32) ha hb
    · have h1 : a &&& b ≤ a := Nat.and_le_left
      simp only [cond_false, cond_true]
      omega
  · simp only [cond_true]
    omega
theorem div_bt (f j : Nat) : f / 2 ^ j = 2 * (f / 2 ^ (j + 1)) + bt f j := by
  unfold bt
  rw [Nat.pow_succ, ← Nat.div_div_eq_div_mul]
  omega
theorem three_run (m a b kind : Int) : runL (L_hauberkref01_three_3.turn (m, a, b, kind, 0, 31) ()) 40 (0, 31) = some (0, ((bits3 (wn m) (wn a) (wn b) kind : Nat) : Int), -1) := by
  have hF := bits3_lt (m := wn m) (wn_lt a) (wn_lt b) kind
  have h0 : bits3 (wn m) (wn a) (wn b) kind / 2 ^ 32 = 0 := Nat.div_eq_of_lt hF
  have key := runL_count (σ := Int × Int) (turn := L_hauberkref01_three_3.turn (m, a, b, kind, 0, 31) ()) (fun i => (((bits3 (wn m) (wn a) (wn b) kind / 2 ^ (32 - i) : Nat) : Int), 31 - (i : Int))) (0, ((bits3 (wn m) (wn a) (wn b) kind : Nat) : Int), -1) (n := 32) (fun i hi => ?_) ?_ 32 0 (by omega) 40 (by omega)
  · simp [h0] at key
    exact key
  · have hk : kk (31 - (i : Int)) = 31 - i := by unfold kk; omega
    have hd := div_bt (bits3 (wn m) (wn a) (wn b) kind) (31 - i)
    rw [show 31 - i + 1 = 32 - i by omega] at hd
    have hb := bt_bits3 (b := wn b) (wn_lt m) (wn_lt a) (show 31 - i < 32 by omega) kind
    have hle : bits3 (wn m) (wn a) (wn b) kind / 2 ^ (32 - i) ≤ bits3 (wn m) (wn a) (wn b) kind := Nat.div_le_self _ _
    have ha1 := bt_le (wn a) (31 - i)
    have hb1 := bt_le (wn b) (31 - i)
    have hm1 := bt_le (wn m) (31 - i)
    have e : (bif kind == 0 then w64 (1 - (bt (wn a) (31 - i) : Int)) else bif kind == 1 then w64 ((bt (wn a) (31 - i) : Int) * (bt (wn b) (31 - i) : Int)) else bif kind == 2 then imax (bt (wn a) (31 - i) : Int) (bt (wn b) (31 - i) : Int) else bif kind == 3 then Int.tmod (w64 ((bt (wn a) (31 - i) : Int) + (bt (wn b) (31 - i) : Int))) 2 else bif (bt (wn m) (31 - i) : Int) == 1 then (bt (wn a) (31 - i) : Int) else (bt (wn b) (31 - i) : Int)) = ((bt (bits3 (wn m) (wn a) (wn b) kind) (31 - i) : Nat) : Int) := by
      rw [hb]
      generalize bt (wn a) (31 - i) = p at *
      generalize bt (wn b) (31 - i) = q at *
      generalize bt (wn m) (31 - i) = r at *
      have hp : p = 0 ∨ p = 1 := by omega
      have hq : q = 0 ∨ q = 1 := by omega
      have hr : r = 0 ∨ r = 1 := by omega
      rcases hp with rfl | rfl <;> rcases hq with rfl | rfl <;> rcases hr with rfl | rfl <;> cases kind == 0 <;> cases kind == 1 <;> cases kind == 2 <;> cases kind == 3 <;> rfl
    have hbl := bt_le (bits3 (wn m) (wn a) (wn b) kind) (31 - i)
    have hs : decide (31 - (i : Int) ≥ 0) = true := dec_true (by omega)
    simp only [L_hauberkref01_three_3, PO.val, hs, cond_true, V_hauberkref01_Bit, G_hauberkref01_Bit, Bool.and_self, Bool.or_true, hk]
    rw [e, show 32 - (i + 1) = 31 - i by omega, hd]
    generalize bt (bits3 (wn m) (wn a) (wn b) kind) (31 - i) = q at *
    generalize bits3 (wn m) (wn a) (wn b) kind / 2 ^ (32 - i) = p at *
    rw [w64_id (n := 2 * (p : Int)) (by omega) (by omega), w64_id (by omega) (by omega), w64_id (by omega) (by omega)]
    refine congrArg (fun z => some (TL.on z)) (Prod.ext ?_ ?_)
    · show 2 * (p : Int) + (q : Int) = ((2 * p + q : Nat) : Int)
      omega
    · show 31 - (i : Int) - 1 = 31 - ((i + 1 : Nat) : Int)
      omega
  · have hs : decide ((31 : Int) - ((32 : Nat) : Int) ≥ 0) = false := dec_false (by omega)
    simp only [L_hauberkref01_three_3, PO.val, hs, cond_false]
    simp
def G_hauberkref01_three (_ : dens A_hauberkref01_three) : Bool := true
def V_hauberkref01_three (x : dens A_hauberkref01_three) : Sh.den S_hauberkref01_three := (bits3 (wn x.1) (wn x.2.1) (wn x.2.2.1) x.2.2.2 : Int)
theorem ok_hauberkref01_three (x : dens A_hauberkref01_three) (_ : G_hauberkref01_three x = true) : (T_hauberkref01_three x).val = some (V_hauberkref01_three x) := by
  obtain ⟨m, a, b, kind⟩ := x
  unfold T_hauberkref01_three PO.val
  have : LoopN.res L_hauberkref01_three_3 (m, a, b, kind, 0, 31) () = some (0, ((bits3 (wn m) (wn a) (wn b) kind : Nat) : Int), -1) := three_run m a b kind
  rw [this]
  rfl
def L_hauberkref01_Sar_3 : LoopN where
  M := [1, 5, 6]
  T := [9, 10, 11, 12, 13, 14, 15, 16, 17, 18, 19, 20]
  D := [1, 6]
  ss := [.ty (.int .i64), .ty (.int .i64), .ty (.int .i64)]
  hs := []
  es := [.exit 0]
  σ := (Ty.den (.int .i64)) × (Ty.den (.int .i64))
  x0 := fun x _ => (x.2.1, x.2.2)
  put := fun x _ s => ((x.1, s.1, s.2), ())
  fuel := fun _ _ => 40
  turn := fun x _ s =>
  (.ite (decide (s.2 < V_hauberkref01_many x.1))
   (.ret (.on (w64 (w64 (Int.tdiv s.1 2) + w64 (w64 (Int.tdiv s.1 2147483648) * 2147483648)), w64 (s.2 + 1))))
   (.ret (.out 0 (s.1, s.2))))
/-- hauberkref01.Sar -/
abbrev A_hauberkref01_Sar : List Ty := [(.int .i64), (.int .i64)]
abbrev S_hauberkref01_Sar : Sh := Sh.ty (Ty.int IntKind.i64)
def T_hauberkref01_Sar (x : dens A_hauberkref01_Sar) : PO (Sh.den S_hauberkref01_Sar) :=
  (.opt (LoopN.res L_hauberkref01_Sar_3 (x.2, V_hauberkref01_Wrap x.1, 0) ()) fun p0 =>
   (.ret (p0.2.1)))
theorem sw_range {m : Nat} (h : m < 4294967296) : -2147483648 ≤ sw m ∧ sw m < 2147483648 := by unfold sw; split <;> omega
theorem sw_wn {m : Nat} (h : m < 4294967296) : wn (sw m) = m := by unfold sw wn; split <;> omega
theorem div_range {q : Int} (h : -2147483648 ≤ q ∧ q < 2147483648) (k : Nat) : -2147483648 ≤ q / (2 ^ k : Nat) ∧ q / (2 ^ k : Nat) < 2147483648 := by
  induction k with
  | zero => simpa using h
  | succ k ih =>
    have e : q / ((2 ^ (k + 1) : Nat) : Int) = q / ((2 ^ k : Nat) : Int) / 2 := by
      rw [Nat.pow_succ, Int.natCast_mul, Int.ediv_ediv_of_nonneg (Int.natCast_nonneg _)]
      rfl
    rw [e]
    omega
theorem sar_step {q : Int} (h : -2147483648 ≤ q ∧ q < 2147483648) : wn q / 2 + wn q / 2147483648 * 2147483648 = wn (q / 2) := by unfold wn; omega
theorem sar_run (a n : Int) : runL (L_hauberkref01_Sar_3.turn (n, (wn a : Int), 0) ()) 40 ((wn a : Int), 0) = some (0, ((wn (sw (wn a) / (2 ^ kk n : Nat)) : Nat) : Int), (kk n : Int)) := by
  have hk := kk_lt n
  have key := runL_count (σ := Int × Int) (turn := L_hauberkref01_Sar_3.turn (n, (wn a : Int), 0) ()) (fun i => (((wn (sw (wn a) / (2 ^ i : Nat)) : Nat) : Int), (i : Int))) (0, ((wn (sw (wn a) / (2 ^ kk n : Nat)) : Nat) : Int), (kk n : Int)) (n := kk n) (fun i hi => ?_) ?_ (kk n) 0 (by omega) 40 (by omega)
  · simp [sw_wn (wn_lt a)] at key
    simp
    exact key
  · have h1 : decide ((i : Int) < (kk n : Int)) = true := dec_true (by omega)
    have hr := div_range (sw_range (wn_lt a)) i
    have e : sw (wn a) / ((2 ^ (i + 1) : Nat) : Int) = sw (wn a) / ((2 ^ i : Nat) : Int) / 2 := by
      rw [Nat.pow_succ, Int.natCast_mul, Int.ediv_ediv_of_nonneg (Int.natCast_nonneg _)]
      rfl
    have hst := sar_step hr
    rw [e, ← hst]
    have hl := wn_lt (sw (wn a) / ((2 ^ i : Nat) : Int))
    show (bif decide ((i : Int) < (kk n : Int)) then _ else _) = _
    rw [h1]
    show some (TL.on (w64 (w64 (Int.tdiv ((wn (sw (wn a) / ((2 ^ i : Nat) : Int)) : Nat) : Int) 2) + w64 (w64 (Int.tdiv ((wn (sw (wn a) / ((2 ^ i : Nat) : Int)) : Nat) : Int) 2147483648) * 2147483648)), w64 ((i : Int) + 1))) = _
    generalize wn (sw (wn a) / ((2 ^ i : Nat) : Int)) = p at *
    rw [tdiv_pos _ _ (by omega), tdiv_pos _ _ (by omega), w64_id (n := (p : Int) / 2) (by omega) (by omega), w64_id (n := (p : Int) / 2147483648) (by omega) (by omega), w64_id (n := (p : Int) / 2147483648 * 2147483648) (by omega) (by omega), w64_id (by omega) (by omega), w64_id (by omega) (by omega)]
    congr 2
  · show (bif decide ((kk n : Int) < (kk n : Int)) then _ else _) = _
    rw [dec_false (by omega)]
    rfl
def G_hauberkref01_Sar (_ : dens A_hauberkref01_Sar) : Bool := true
def V_hauberkref01_Sar (x : dens A_hauberkref01_Sar) : Sh.den S_hauberkref01_Sar := (wn (sw (wn x.1) / (2 ^ kk x.2 : Nat)) : Int)
theorem ok_hauberkref01_Sar (x : dens A_hauberkref01_Sar) (_ : G_hauberkref01_Sar x = true) : (T_hauberkref01_Sar x).val = some (V_hauberkref01_Sar x) := by
  obtain ⟨a, n⟩ := x
  unfold T_hauberkref01_Sar PO.val
  have : LoopN.res L_hauberkref01_Sar_3 (n, (wn a : Int), 0) () = some (0, ((wn (sw (wn a) / (2 ^ kk n : Nat)) : Nat) : Int), (kk n : Int)) := sar_run a n
  rw [show LoopN.res L_hauberkref01_Sar_3 ((a, n).2, V_hauberkref01_Wrap (a, n).1, 0) () = _ from this]
  rfl
def L_hauberkref01_Ror_3 : LoopN where
  M := [1, 5, 6]
  T := [9, 10, 11, 12, 13, 14, 15, 16, 17, 18, 19, 20]
  D := [1, 6]
  ss := [.ty (.int .i64), .ty (.int .i64), .ty (.int .i64)]
  hs := []
  es := [.exit 0]
  σ := (Ty.den (.int .i64)) × (Ty.den (.int .i64))
  x0 := fun x _ => (x.2.1, x.2.2)
  put := fun x _ s => ((x.1, s.1, s.2), ())
  fuel := fun _ _ => 40
  turn := fun x _ s =>
  (.ite (decide (s.2 < V_hauberkref01_many x.1))
   (.ret (.on (w64 (w64 (Int.tdiv s.1 2) + w64 (Int.tmod s.1 2 * 2147483648)), w64 (s.2 + 1))))
   (.ret (.out 0 (s.1, s.2))))
/-- hauberkref01.Ror -/
abbrev A_hauberkref01_Ror : List Ty := [(.int .i64), (.int .i64)]
abbrev S_hauberkref01_Ror : Sh := Sh.ty (Ty.int IntKind.i64)
def T_hauberkref01_Ror (x : dens A_hauberkref01_Ror) : PO (Sh.den S_hauberkref01_Ror) :=
  (.opt (LoopN.res L_hauberkref01_Ror_3 (x.2, V_hauberkref01_Wrap x.1, 0) ()) fun p0 =>
   (.ret (p0.2.1)))
def rorN (m k : Nat) : Nat := m / 2 ^ k + m % 2 ^ k * 2 ^ (32 - k)
theorem ror_step (m : Nat) {k : Nat} (hk : k < 32) : rorN m k / 2 + rorN m k % 2 * 2147483648 = rorN m (k + 1) := by
  unfold rorN
  have h1 : m / 2 ^ (k + 1) = m / 2 ^ k / 2 := by rw [Nat.pow_succ, Nat.div_div_eq_div_mul]
  have h2 : m % 2 ^ (k + 1) = m % 2 ^ k + 2 ^ k * (m / 2 ^ k % 2) := by rw [Nat.pow_succ, Nat.mod_mul]
  obtain ⟨j, hj⟩ : ∃ j, 32 - k = j + 1 := ⟨31 - k, by omega⟩
  have h4 : 2 ^ k * 2 ^ j = 2147483648 := by rw [← Nat.pow_add, show k + j = 31 by omega]
  rw [h1, h2, hj, show 32 - (k + 1) = j by omega, Nat.add_mul, Nat.mul_right_comm, h4, Nat.pow_succ, ← Nat.mul_assoc]
  generalize m % 2 ^ k * 2 ^ j = p
  generalize m / 2 ^ k = q
  omega
theorem rorN_lt {m k : Nat} (hm : m < 4294967296) (hk : k ≤ 32) : rorN m k < 4294967296 := by
  induction k with
  | zero => simpa [rorN, Nat.mod_one] using hm
  | succ k ih =>
    rw [← ror_step m (by omega)]
    have := ih (by omega)
    omega
theorem ror_run (a n : Int) : runL (L_hauberkref01_Ror_3.turn (n, (wn a : Int), 0) ()) 40 ((wn a : Int), 0) = some (0, ((rorN (wn a) (kk n) : Nat) : Int), (kk n : Int)) := by
  have hk := kk_lt n
  have key := runL_count (σ := Int × Int) (turn := L_hauberkref01_Ror_3.turn (n, (wn a : Int), 0) ()) (fun i => (((rorN (wn a) i : Nat) : Int), (i : Int))) (0, ((rorN (wn a) (kk n) : Nat) : Int), (kk n : Int)) (n := kk n) (fun i hi => ?_) ?_ (kk n) 0 (by omega) 40 (by omega)
  · rw [show rorN (wn a) 0 = wn a by simp [rorN, Nat.mod_one]] at key
    exact key
  · have h1 : decide ((i : Int) < (kk n : Int)) = true := dec_true (by omega)
    have hst := ror_step (wn a) (show i < 32 by omega)
    have hl := rorN_lt (wn_lt a) (show i ≤ 32 by omega)
    rw [← hst]
    show (bif decide ((i : Int) < (kk n : Int)) then _ else _) = _
    rw [h1]
    show some (TL.on (w64 (w64 (Int.tdiv ((rorN (wn a) i : Nat) : Int) 2) + w64 (Int.tmod ((rorN (wn a) i : Nat) : Int) 2 * 2147483648)), w64 ((i : Int) + 1))) = _
    generalize rorN (wn a) i = p at *
    rw [tdiv_pos _ _ (by omega), tmod_pos _ _ (by omega), w64_id (n := (p : Int) / 2) (by omega) (by omega), w64_id (n := (p : Int) % 2 * 2147483648) (by omega) (by omega), w64_id (by omega) (by omega), w64_id (by omega) (by omega)]
    rfl
  · show (bif decide ((kk n : Int) < (kk n : Int)) then _ else _) = _
    rw [dec_false (by omega)]
    rfl
def G_hauberkref01_Ror (_ : dens A_hauberkref01_Ror) : Bool := true
def V_hauberkref01_Ror (x : dens A_hauberkref01_Ror) : Sh.den S_hauberkref01_Ror := ((wn x.1 / 2 ^ kk x.2 + wn x.1 % 2 ^ kk x.2 * 2 ^ (32 - kk x.2) : Nat) : Int)
theorem ok_hauberkref01_Ror (x : dens A_hauberkref01_Ror) (_ : G_hauberkref01_Ror x = true) : (T_hauberkref01_Ror x).val = some (V_hauberkref01_Ror x) := by
  obtain ⟨a, n⟩ := x
  unfold T_hauberkref01_Ror PO.val
  have : LoopN.res L_hauberkref01_Ror_3 (n, (wn a : Int), 0) () = some (0, ((rorN (wn a) (kk n) : Nat) : Int), (kk n : Int)) := ror_run a n
  rw [show LoopN.res L_hauberkref01_Ror_3 ((a, n).2, V_hauberkref01_Wrap (a, n).1, 0) () = _ from this]
  rfl
end Go.Av
