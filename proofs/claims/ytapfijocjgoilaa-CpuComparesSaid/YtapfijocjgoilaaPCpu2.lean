/- Layer 8: what an instruction does: its parts. -/
import Derived.Test.YtapfijocjgoilaaPCpu
namespace Go.Av
open Go
/-- Bits of a number put into another one, at a place. -/
def insN (m f a k : Nat) : Nat := 2 ^ a * (2 ^ k * (m / 2 ^ (a + k)) + f % 2 ^ k) + m % 2 ^ a
theorem insN_bit (m f a k j : Nat) : (insN m f a k).testBit j = if j < a then m.testBit j else if j < a + k then f.testBit (j - a) else m.testBit j := by
  unfold insN
  rw [Nat.testBit_two_pow_mul_add _ (Nat.mod_lt _ (Nat.two_pow_pos a))]
  split
  · rename_i h
    rw [Nat.testBit_mod_two_pow, decide_eq_true h, Bool.true_and]
  · rename_i h
    rw [Nat.testBit_two_pow_mul_add _ (Nat.mod_lt _ (Nat.two_pow_pos k))]
    split
    · rename_i h2
      rw [if_pos (by omega), Nat.testBit_mod_two_pow, decide_eq_true h2, Bool.true_and]
    · rename_i h2
      rw [if_neg (by omega), Nat.testBit_div_two_pow]
      congr 1
      omega
theorem insN_lt {m f a k : Nat} (hm : m < 4294967296) (h : a + k ≤ 32) : insN m f a k < 4294967296 := by
  refine Nat.lt_pow_two_of_testBit (n := 32) _ fun j hj => ?_
  rw [insN_bit, if_neg (by omega), if_neg (by omega)]
  exact Nat.testBit_lt_two_pow (Nat.lt_of_lt_of_le hm (Nat.pow_le_pow_right (n := 2) (by omega) hj))
theorem mask_bit (a k j : Nat) : ((2 ^ k - 1) * 2 ^ a).testBit j = (decide (a ≤ j) && decide (j < a + k)) := by
  rw [Nat.testBit_mul_two_pow, Nat.testBit_two_pow_sub_one]
  by_cases h : a ≤ j
  · rw [show decide (j - a < k) = decide (j < a + k) from decide_eq_decide.2 (by omega)]
  · rw [dec_false h]; rfl
theorem mask_lt {a k : Nat} (h : a + k ≤ 32) : (2 ^ k - 1) * 2 ^ a < 4294967296 := by
  refine Nat.lt_pow_two_of_testBit (n := 32) _ fun j hj => ?_
  rw [mask_bit, dec_false (show ¬ j < a + k by omega), Bool.and_false]
theorem select_ins {m f a k : Nat} (hm : m < 4294967296) (h : a + k ≤ 32) : (f * 2 ^ a % 4294967296 &&& (2 ^ k - 1) * 2 ^ a) ||| (m &&& (4294967295 - (2 ^ k - 1) * 2 ^ a)) = insN m f a k := by
  refine Nat.eq_of_testBit_eq fun j => ?_
  rw [insN_bit, Nat.testBit_or, Nat.testBit_and, Nat.testBit_and, mask_bit, show 4294967295 - (2 ^ k - 1) * 2 ^ a = 2 ^ 32 - ((2 ^ k - 1) * 2 ^ a + 1) by omega, Nat.testBit_two_pow_sub_succ (mask_lt h), mask_bit, show (4294967296 : Nat) = 2 ^ 32 from rfl, Nat.testBit_mod_two_pow, Nat.testBit_mul_two_pow]
  by_cases h32 : j < 32
  · by_cases ha : j < a
    · simp [ha, h32, show ¬ a ≤ j by omega]
    · by_cases hk : j < a + k
      · simp [ha, h32, hk, show a ≤ j by omega]
      · simp [ha, h32, hk, show a ≤ j by omega]
  · have hz : m.testBit j = false := Nat.testBit_lt_two_pow (Nat.lt_of_lt_of_le hm (Nat.pow_le_pow_right (n := 2) (by omega) (show 32 ≤ j by omega)))
    have ha : ¬ j < a := by omega
    have hk : ¬ j < a + k := by omega
    simp [h32, hz, ha, hk]
/-- cpu.insert -/
abbrev A_cpu_insert : List Ty := [(.int .i64), (.int .i64), (.int .i64), (.int .i64)]
abbrev S_cpu_insert : Sh := Sh.ty (Ty.int IntKind.i64)
def T_cpu_insert (x : dens A_cpu_insert) : PO (Sh.den S_cpu_insert) :=
  (.ite (!decide (x.2.2.2 < 0) && (!decide (x.2.2.1 < 0) && true))
   (.ret (V_word_Select (V_word_Wrap (ishl IntKind.i64 (w64 (ishl IntKind.i64 1 x.2.2.2 - 1)) x.2.2.1), V_word_Shl (x.2.1, x.2.2.1), x.1)))
   .fail)
def G_cpu_insert (x : dens A_cpu_insert) : Bool := decide ((0 : Int) ≤ x.2.2.1) && (decide ((0 : Int) ≤ x.2.2.2) && (decide ((x.2.2.1 : Int) + x.2.2.2 ≤ 32) && decide ((x.2.2.1 : Int) < 32)))
def V_cpu_insert (x : dens A_cpu_insert) : Sh.den S_cpu_insert := (insN (wn x.1) (wn x.2.1) (Int.toNat x.2.2.1) (Int.toNat x.2.2.2) : Int)
theorem insert_val (m f : Int) (a k : Nat) (h : a + k ≤ 32) (ha : a < 32) : (T_cpu_insert (m, f, (a : Int), (k : Int))).val = some ((insN (wn m) (wn f) a k : Nat) : Int) := by
  have h1 : decide ((k : Int) < 0) = false := dec_false (by omega)
  have h2 : decide ((a : Int) < 0) = false := dec_false (by omega)
  have hp : 2 ^ k ≤ 2 ^ 32 := pow_lt (by omega)
  have hk1 : ishl .i64 1 (k : Int) = ((2 ^ k : Nat) : Int) := by
    rw [ishl_nat _ _ (by omega), Int.one_mul, show (2 : Int) ^ k = ((2 ^ k : Nat) : Int) by simp]
    exact w64_nat (by omega)
  have hpos := Nat.two_pow_pos k
  have hm1 : w64 (((2 ^ k : Nat) : Int) - 1) = ((2 ^ k - 1 : Nat) : Int) := by
    generalize 2 ^ k = q at *
    rw [w64_id (by omega) (by omega)]
    omega
  have hml := mask_lt h
  have hkk : kk (a : Int) = a := by unfold kk; omega
  show (bif !decide ((k : Int) < 0) && (!decide ((a : Int) < 0) && true) then some (((wn ((wn f * 2 ^ kk (a : Int) % 4294967296 : Nat) : Int) &&& wn ((wn (ishl .i64 (w64 (ishl .i64 1 (k : Int) - 1)) (a : Int)) : Nat) : Int)) ||| (wn m &&& (4294967295 - wn ((wn (ishl .i64 (w64 (ishl .i64 1 (k : Int) - 1)) (a : Int)) : Nat) : Int))) : Nat) : Int) else none) = _
  rw [h1, h2, hk1, hm1, shl_wn _ _ (by omega), hkk, Nat.mod_eq_of_lt hml, wn_nat (Nat.mod_lt _ (by omega)), wn_nat hml, select_ins (wn_lt m) h]
  rfl
theorem ok_cpu_insert (x : dens A_cpu_insert) (h : G_cpu_insert x = true) : (T_cpu_insert x).val = some (V_cpu_insert x) := by
  obtain ⟨m, f, a, k⟩ := x
  simp only [G_cpu_insert, Bool.and_eq_true, decide_eq_true_eq] at h
  obtain ⟨h1, h2, h3, h4⟩ := h
  obtain ⟨a, rfl⟩ := Int.eq_ofNat_of_zero_le h1
  obtain ⟨k, rfl⟩ := Int.eq_ofNat_of_zero_le h2
  have h3' : (a : Int) + (k : Int) ≤ 32 := h3
  have h4' : (a : Int) < 32 := h4
  exact insert_val m f a k (by omega) (by omega)
/-- cpu.shifted -/
abbrev A_cpu_shifted : List Ty := [(.int .i64), (.int .i64), (.int .i64)]
abbrev S_cpu_shifted : Sh := Sh.ty (Ty.int IntKind.i64)
def T_cpu_shifted (x : dens A_cpu_shifted) : PO (Sh.den S_cpu_shifted) :=
  (.ite (x.1 == 5)
   (.ret (V_word_Shl (x.2.1, x.2.2)))
   (.ite (x.1 == 6)
    (.ret (V_word_Shr (x.2.1, x.2.2)))
    (.ite (x.1 == 7)
     (.ret (V_word_Sar (x.2.1, x.2.2)))
     (.ret (V_word_Ror (x.2.1, x.2.2))))))
def G_cpu_shifted (_ : dens A_cpu_shifted) : Bool := true
def V_cpu_shifted (x : dens A_cpu_shifted) : Sh.den S_cpu_shifted := (T_cpu_shifted x).getO default
theorem ok_cpu_shifted (x : dens A_cpu_shifted) (_ : G_cpu_shifted x = true) : (T_cpu_shifted x).val = some (V_cpu_shifted x) := PO.sure_ok default (by simp [T_cpu_shifted, PO.sure])
/-- cpu.two -/
abbrev A_cpu_two : List Ty := [(.int .i64), (.int .i64), (.int .i64)]
abbrev S_cpu_two : Sh := Sh.ty (Ty.int IntKind.i64)
def T_cpu_two (x : dens A_cpu_two) : PO (Sh.den S_cpu_two) :=
  (.ite (x.1 == 10)
   (.ret (V_word_And (x.2.1, x.2.2)))
   (.ite (x.1 == 11)
    (.ret (V_word_And (x.2.1, V_word_Not x.2.2)))
    (.ite (x.1 == 12)
     (.ret (V_word_Or (x.2.1, x.2.2)))
     (.ite (x.1 == 13)
      (.ret (V_word_Xor (x.2.1, x.2.2)))
      (.ite (x.1 == 14)
       (.ret (V_word_Add (x.2.1, x.2.2)))
       (.ite (x.1 == 15)
        (.ret (V_word_Sub (x.2.1, x.2.2)))
        (.ret (V_word_Mul (x.2.1, x.2.2)))))))))
def G_cpu_two (_ : dens A_cpu_two) : Bool := true
def V_cpu_two (x : dens A_cpu_two) : Sh.den S_cpu_two := (T_cpu_two x).getO default
theorem ok_cpu_two (x : dens A_cpu_two) (_ : G_cpu_two x = true) : (T_cpu_two x).val = some (V_cpu_two x) := PO.sure_ok default (by simp [T_cpu_two, PO.sure])
/-- cpu.compare -/
abbrev A_cpu_compare : List Ty := [tState, (.int .i64), (.int .i64)]
abbrev S_cpu_compare : Sh := Sh.ty tState
def T_cpu_compare (x : dens A_cpu_compare) : PO (Sh.den S_cpu_compare) :=
  (.ret ((x.1.1, x.1.2.1, V_word_Bit (V_word_Sub (x.2.1, x.2.2), 31) == 1, V_word_Sub (x.2.1, x.2.2) == 0, decide (x.2.1 ≥ x.2.2), V_word_Bit (V_word_And (V_word_Xor (x.2.1, x.2.2), V_word_Xor (x.2.1, V_word_Sub (x.2.1, x.2.2))), 31) == 1, x.1.2.2.2.2.2.2)))
def G_cpu_compare (_ : dens A_cpu_compare) : Bool := true
def V_cpu_compare (x : dens A_cpu_compare) : Sh.den S_cpu_compare := (T_cpu_compare x).getO default
theorem ok_cpu_compare (x : dens A_cpu_compare) (_ : G_cpu_compare x = true) : (T_cpu_compare x).val = some (V_cpu_compare x) := PO.sure_ok default (by simp [T_cpu_compare, PO.sure])
/-- hauberkref08.signed -/
abbrev A_hauberkref08_signed : List Ty := [(.int .i64)]
abbrev S_hauberkref08_signed : Sh := Sh.ty (Ty.int IntKind.i64)
def T_hauberkref08_signed (x : dens A_hauberkref08_signed) : PO (Sh.den S_hauberkref08_signed) :=
  (.ite (decide (x ≥ 2147483648))
   (.ret (w64 (x - 4294967296)))
   (.ret (x)))
def G_hauberkref08_signed (_ : dens A_hauberkref08_signed) : Bool := true
def V_hauberkref08_signed (x : dens A_hauberkref08_signed) : Sh.den S_hauberkref08_signed := (T_hauberkref08_signed x).getO default
theorem ok_hauberkref08_signed (x : dens A_hauberkref08_signed) (_ : G_hauberkref08_signed x = true) : (T_hauberkref08_signed x).val = some (V_hauberkref08_signed x) := PO.sure_ok default (by simp [T_hauberkref08_signed, PO.sure])
def L_hauberkref08_put_2 : LoopN where
  M := [0, 1, 2, 3, 9]
  T := [10, 11, 12, 13, 14, 15, 16, 17, 18, 19, 20, 21, 22, 23, 24, 25, 26, 27, 28]
  D := [1, 2, 3, 9]
  ss := [.ty (.int .i64), .ty (.int .i64), .ty (.int .i64), .ty (.int .i64), .ty (.int .i64)]
  hs := []
  es := [.exit 0]
  σ := (Ty.den (.int .i64)) × (Ty.den (.int .i64))
  x0 := fun x _ => (x.1, x.2.2.2.2)
  put := fun x _ s => ((s.1, x.2.1, x.2.2.1, x.2.2.2.1, s.2), ())
  fuel := fun _ _ => 40
  turn := fun x _ s =>
  (.ite (decide (s.2 < x.2.2.2.1))
   (.ite (V_hauberkref01_Bit (s.1, w64 (x.2.2.1 + s.2)) != V_hauberkref01_Bit (x.2.1, s.2) || true)
    (.ret (.on (bif V_hauberkref01_Bit (s.1, w64 (x.2.2.1 + s.2)) != V_hauberkref01_Bit (x.2.1, s.2) then V_hauberkref01_Flip (s.1, w64 (x.2.2.1 + s.2)) else s.1, w64 (s.2 + 1))))
    .fail)
   (.ret (.out 0 (s.1, s.2))))
/-- hauberkref08.put -/
abbrev A_hauberkref08_put : List Ty := [(.int .i64), (.int .i64), (.int .i64), (.int .i64)]
abbrev S_hauberkref08_put : Sh := Sh.ty (Ty.int IntKind.i64)
def T_hauberkref08_put (x : dens A_hauberkref08_put) : PO (Sh.den S_hauberkref08_put) :=
  (.opt (LoopN.res L_hauberkref08_put_2 (x.1, x.2.1, x.2.2.1, x.2.2.2, 0) ()) fun p0 =>
   (.ret (p0.2.1)))
theorem insN_zero (m f a : Nat) : insN m f a 0 = m := by
  unfold insN
  rw [Nat.pow_zero, Nat.one_mul, Nat.mod_one, Nat.add_zero, Nat.add_zero]
  exact Nat.div_add_mod m (2 ^ a)
theorem insN_bt (m f a k : Nat) : bt (insN m f a k) (a + k) = bt m (a + k) := by
  rw [bt_eq, bt_eq, insN_bit, if_neg (by omega), if_neg (by omega)]
theorem insN_step (m f a k : Nat) : insN m f a (k + 1) = bif bt (insN m f a k) (a + k) != bt f k then flip (insN m f a k) (a + k) else insN m f a k := by
  have e1 : m / 2 ^ (a + k) = 2 * (m / 2 ^ (a + (k + 1))) + bt m (a + k) := div_bt m (a + k)
  have e2 : f % 2 ^ (k + 1) = f % 2 ^ k + 2 ^ k * bt f k := by unfold bt; rw [Nat.pow_succ, Nat.mod_mul]
  have hb := bt_le m (a + k)
  have hf := bt_le f k
  have key : insN m f a (k + 1) + 2 ^ (a + k) * bt m (a + k) = insN m f a k + 2 ^ (a + k) * bt f k := by
    have e3 : 2 ^ (a + k) = 2 ^ a * 2 ^ k := Nat.pow_add 2 a k
    unfold insN
    rw [e1, e2]
    generalize m / 2 ^ (a + (k + 1)) = q
    rw [Nat.pow_succ, e3]
    grind
  have hbt := insN_bt m f a k
  have hle : bt (insN m f a k) (a + k) = 1 → 2 ^ (a + k) ≤ insN m f a k := bt_pow_le
  unfold flip
  rw [hbt] at hle ⊢
  have h1 : bt m (a + k) = 0 ∨ bt m (a + k) = 1 := by omega
  have h2 : bt f k = 0 ∨ bt f k = 1 := by omega
  rcases h1 with h1 | h1 <;> rcases h2 with h2 | h2
  · rw [h1, h2] at key ⊢
    simpa using key
  · rw [h1, h2] at key ⊢
    simpa using key
  · have := hle h1
    rw [h1, h2] at key ⊢
    simp at key ⊢
    omega
  · rw [h1, h2] at key ⊢
    simpa using key
def G_hauberkref08_put (x : dens A_hauberkref08_put) : Bool := (decide ((0 : Int) ≤ x.1) && decide ((x.1 : Int) < 4294967296)) && (decide ((0 : Int) ≤ x.2.2.1) && (decide ((0 : Int) ≤ x.2.2.2) && decide ((x.2.2.1 : Int) + x.2.2.2 ≤ 32)))
def V_hauberkref08_put (x : dens A_hauberkref08_put) : Sh.den S_hauberkref08_put := (insN (wn x.1) (wn x.2.1) (Int.toNat x.2.2.1) (Int.toNat x.2.2.2) : Int)
theorem put_run (m : Nat) (f : Int) (a k : Nat) (hm : m < 4294967296) (h : a + k ≤ 32) : runL (L_hauberkref08_put_2.turn ((m : Int), f, (a : Int), (k : Int), 0) ()) 40 ((m : Int), 0) = some (0, ((insN m (wn f) a k : Nat) : Int), (k : Int)) := by
  have key := runL_count (σ := Int × Int) (turn := L_hauberkref08_put_2.turn ((m : Int), f, (a : Int), (k : Int), 0) ()) (fun i => (((insN m (wn f) a i : Nat) : Int), (i : Int))) (0, ((insN m (wn f) a k : Nat) : Int), (k : Int)) (n := k) (fun i hi => ?_) ?_ k 0 (by omega) 40 (by omega)
  · simp only [insN_zero] at key
    exact key
  · have h1 : decide ((i : Int) < (k : Int)) = true := dec_true (by omega)
    have hl := insN_lt (f := wn f) hm (show a + i ≤ 32 by omega)
    have e1 : w64 ((a : Int) + (i : Int)) = ((a + i : Nat) : Int) := by rw [w64_id (by omega) (by omega)]; omega
    have k1 : kk ((a + i : Nat) : Int) = a + i := by unfold kk; omega
    have k2 : kk (i : Int) = i := by unfold kk; omega
    show (bif decide ((i : Int) < (k : Int)) then (bif ((((bt (wn ((insN m (wn f) a i : Nat) : Int)) (kk (w64 ((a : Int) + (i : Int)))) : Nat) : Int)) != ((bt (wn f) (kk (i : Int)) : Nat) : Int)) || true then some (TL.on ((bif (((bt (wn ((insN m (wn f) a i : Nat) : Int)) (kk (w64 ((a : Int) + (i : Int)))) : Nat) : Int)) != ((bt (wn f) (kk (i : Int)) : Nat) : Int) then ((flip (wn ((insN m (wn f) a i : Nat) : Int)) (kk (w64 ((a : Int) + (i : Int)))) : Nat) : Int) else ((insN m (wn f) a i : Nat) : Int)), w64 ((i : Int) + 1))) else none) else _) = _
    rw [h1, e1, k1, k2, wn_nat hl, Bool.or_true, w64_id (n := (i : Int) + 1) (by omega) (by omega), insN_step]
    have e : ((((bt (insN m (wn f) a i) (a + i) : Nat) : Int)) != ((bt (wn f) i : Nat) : Int)) = (bt (insN m (wn f) a i) (a + i) != bt (wn f) i) := by
      rw [Bool.eq_iff_iff]
      simp only [bne_iff_ne, ne_eq]
      omega
    rw [e]
    cases bt (insN m (wn f) a i) (a + i) != bt (wn f) i <;> rfl
  · show (bif decide ((k : Int) < (k : Int)) then _ else _) = _
    rw [dec_false (by omega)]
    rfl
theorem ok_hauberkref08_put (x : dens A_hauberkref08_put) (h : G_hauberkref08_put x = true) : (T_hauberkref08_put x).val = some (V_hauberkref08_put x) := by
  obtain ⟨m, f, a, k⟩ := x
  simp only [G_hauberkref08_put, Bool.and_eq_true, decide_eq_true_eq] at h
  obtain ⟨⟨h0, hm⟩, h1, h2, h3⟩ := h
  obtain ⟨m, rfl⟩ := Int.eq_ofNat_of_zero_le h0
  obtain ⟨a, rfl⟩ := Int.eq_ofNat_of_zero_le h1
  obtain ⟨k, rfl⟩ := Int.eq_ofNat_of_zero_le h2
  have hm0 : (m : Int) < 4294967296 := hm
  have hm' : m < 4294967296 := by omega
  have h3' : (a : Int) + (k : Int) ≤ 32 := h3
  have hr : LoopN.res L_hauberkref08_put_2 ((m : Int), f, (a : Int), (k : Int), 0) () = some (0, ((insN m (wn f) a k : Nat) : Int), (k : Int)) := put_run m f a k hm' (by omega)
  have hv : V_hauberkref08_put ((m : Int), f, (a : Int), (k : Int)) = ((insN m (wn f) a k : Nat) : Int) := by
    show ((insN (wn (m : Int)) (wn f) (Int.toNat (a : Int)) (Int.toNat (k : Int)) : Nat) : Int) = _
    rw [wn_nat hm', Int.toNat_natCast, Int.toNat_natCast]
  unfold T_hauberkref08_put PO.val
  rw [hr, hv]
  rfl
end Go.Av
