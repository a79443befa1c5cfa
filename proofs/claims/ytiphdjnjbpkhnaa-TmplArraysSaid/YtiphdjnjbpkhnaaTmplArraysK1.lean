/- Texts of the proof, one behind the other. -/
import Derived.Test.YtiphdjnjbpkhnaaAvClaim
/-! Words that all plain texts share. -/
section
namespace Go.Av
open Go
abbrev tI : Ty := .int .i64

theorem dec_true {p : Prop} [Decidable p] (h : p) : decide p = true := decide_eq_true h
theorem dec_false {p : Prop} [Decidable p] (h : ¬ p) : decide p = false := decide_eq_false h

theorem w64_id {n : Int} (h1 : -9223372036854775808 ≤ n) (h2 : n < 9223372036854775808) : w64 n = n := wrap_i64 n h1 (by omega)

theorem inR {i n : Nat} (h : i < n) : inRange (i : Int) n = true := by
  simp [inRange]
  omega

/-- A loop that counts from i to n: what holds of each turn's state. -/
theorem runL_count {σ : Type} {turn : σ → PO (TL σ)} (st : Nat → σ) (r : Nat × σ) {n : Nat} (hon : ∀ i, i < n → (turn (st i)).val = some (.on (st (i + 1)))) (hout : (turn (st n)).val = some (.out r.1 r.2)) :
    ∀ (k i : Nat), i + k = n → ∀ f, k < f → runL turn f (st i) = some r
  | 0, i, h, f, hf => by
    obtain ⟨f, rfl⟩ : ∃ g, f = g + 1 := ⟨f - 1, by omega⟩
    have : i = n := by omega
    subst this
    rw [runL_out hout]
  | k + 1, i, h, f, hf => by
    obtain ⟨f, rfl⟩ : ∃ g, f = g + 1 := ⟨f - 1, by omega⟩
    have hv := hon i (by omega)
    rw [runL_on hv]
    exact runL_count st r hon hout k (i + 1) (by omega) f (by omega)

theorem getD_nat {α : Type} (l : List α) (i : Nat) (d : α) : l.getD (Int.toNat (i : Int)) d = l.getD i d := by simp

/-! ### Lists that are held against one another -/

/-- A turn that holds element against element. -/
def sameTurn (e : Ty) (a b : List e.den) (s : Bool × Int) : PO (TL (Bool × Int)) :=
  (.ite (decide (s.2 < lenI a))
   (.ite (inRange s.2 (List.length a) && inRange s.2 (List.length b))
    (.ite (!Ty.eqb e (List.getD a (Int.toNat s.2) (Ty.dflt e)) (List.getD b (Int.toNat s.2) (Ty.dflt e)))
     (.ret (.out 1 (false, s.2)))
     (.ret (.on (s.1, w64 (s.2 + 1)))))
    .fail)
   (.ret (.out 0 (s.1, s.2))))

theorem eqL_refl' (e : Ty) (l : List e.den) : eqL e l l = true := eqL_refl l
theorem getD_in {α : Type} (l : List α) (d : α) {i : Nat} (hi : i < l.length) : l.getD i d = l[i] := by
  rw [List.getD_eq_getElem?_getD, List.getElem?_eq_getElem hi]; rfl

/-- A turn that looks for a letter. -/
def hasTurn (l : List UInt8) (c : Int) (s : Bool × Int) : PO (TL (Bool × Int)) :=
  (.ite (decide (s.2 < lenI l))
   (.ite (inRange s.2 (List.length l))
    (.ite (u8I (List.getD l (Int.toNat s.2) 0) == c)
     (.ret (.out 1 (true, s.2)))
     (.ret (.on (s.1, w64 (s.2 + 1)))))
    .fail)
   (.ret (.out 0 (s.1, s.2))))

theorem has_from (l : List UInt8) (c : Int) (hl : List.length l < 4611686018427387904) : ∀ (k i : Nat), i + k = l.length → ∀ f, k < f →
    ∃ o st, runL (hasTurn l c) f (false, (i : Int)) = some (o, st) ∧ (PO.ite (way o) (.ret false) (.ret st.1)).val = some ((l.drop i).any fun b => u8I b == c)
  | 0, i, h, f, hf => by
    obtain ⟨f, rfl⟩ : ∃ g, f = g + 1 := ⟨f - 1, by omega⟩
    have e : (hasTurn l c (false, (i : Int))).val = some (.out 0 (false, (i : Int))) := by
      simp only [hasTurn, PO.val, dec_false (show ¬ (i : Int) < lenI l by simp only [lenI]; omega), cond_false]
    exact ⟨0, _, runL_out e, by rw [List.drop_of_length_le (by omega)]; rfl⟩
  | k + 1, i, h, f, hf => by
    obtain ⟨f, rfl⟩ : ∃ g, f = g + 1 := ⟨f - 1, by omega⟩
    have hi : i < l.length := by omega
    have h1 : decide ((i : Int) < lenI l) = true := dec_true (by simp only [lenI]; omega)
    rw [List.drop_eq_getElem_cons hi, List.any_cons]
    cases hb : (u8I l[i] == c)
    · have e : (hasTurn l c (false, (i : Int))).val = some (.on (false, ((i + 1 : Nat) : Int))) := by
        simp only [hasTurn, PO.val, h1, inR hi, cond_true, getD_nat, getD_in l _ hi, hb, cond_false]
        rw [w64_id (by omega) (by omega)]
        simp
      obtain ⟨o, st, g1, g2⟩ := has_from l c hl k (i + 1) (by omega) f (by omega)
      exact ⟨o, st, (runL_on e).trans g1, by rw [Bool.false_or]; exact g2⟩
    · have e : (hasTurn l c (false, (i : Int))).val = some (.out 1 (true, (i : Int))) := by
        simp only [hasTurn, PO.val, h1, inR hi, cond_true, getD_nat, getD_in l _ hi, hb]
      exact ⟨1, _, runL_out e, rfl⟩

theorem has_run (l : List UInt8) (c : Int) (t : Bool × Int → PO (TL (Bool × Int))) (ht : ∀ s, t s = hasTurn l c s) (hl : List.length l < 4611686018427387904) :
    ∃ o st, runL t (l.length + 1) (false, 0) = some (o, st) ∧ (PO.ite (way o) (.ret false) (.ret st.1)).val = some (l.any fun b => u8I b == c) := by
  rw [show t = hasTurn l c from funext ht]
  exact has_from l c hl l.length 0 (by omega) _ (by omega)

theorem w64_eq (n : Int) : w64 n = if 9223372036854775808 ≤ n % 18446744073709551616 then n % 18446744073709551616 - 18446744073709551616 else n % 18446744073709551616 := by
  have h : w64 n = if (true && decide (n % 18446744073709551616 ≥ 9223372036854775808)) = true then n % 18446744073709551616 - 18446744073709551616 else n % 18446744073709551616 := rfl
  rw [h]
  simp only [Bool.true_and, decide_eq_true_eq, ge_iff_le]

theorem i32_eq (n : Int) : IntKind.i32.wrap n = if 2147483648 ≤ n % 4294967296 then n % 4294967296 - 4294967296 else n % 4294967296 := by
  have h : IntKind.i32.wrap n = if (true && decide (n % 4294967296 ≥ 2147483648)) = true then n % 4294967296 - 4294967296 else n % 4294967296 := rfl
  rw [h]
  simp only [Bool.true_and, decide_eq_true_eq, ge_iff_le]
theorem val_yes {α : Type} {b : Bool} {p q : PO α} (h : b = true) : (PO.ite b p q).val = p.val := by subst h; rfl
theorem val_no {α : Type} {b : Bool} {p q : PO α} (h : b = false) : (PO.ite b p q).val = q.val := by subst h; rfl
theorem val_opt {α β : Type} {o : Option β} {r : β} {k : β → PO α} (h : o = some r) : (PO.opt o k).val = (k r).val := by subst h; rfl
end Go.Av
end
/-! Layer 1: words. -/
section
namespace Go.Av
open Go
/-- A word. -/
def wn (n : Int) : Nat := (n % 4294967296).toNat

theorem wn_int (n : Int) : (wn n : Int) = n % 4294967296 := by unfold wn; omega
theorem wn_lt (n : Int) : wn n < 4294967296 := by unfold wn; omega
theorem wn_nat {k : Nat} (h : k < 4294967296) : wn (k : Int) = k := by unfold wn; omega
theorem wn_wn (n : Int) : wn (wn n : Int) = wn n := wn_nat (wn_lt n)
theorem band_32 (n : Int) : band .i64 n 4294967295 = n % 4294967296 := band_low n 32 (by omega)
theorem band_31 (n : Int) : band .i64 n 31 = n % 32 := band_low n 5 (by omega)
theorem band_one (n : Int) : band .i64 n 1 = n % 2 := band_low n 1 (by omega)
theorem mod64 (n : Int) : n % 18446744073709551616 % 4294967296 = n % 4294967296 := Int.emod_emod_of_dvd n (by decide)
theorem w64_mod (n : Int) : w64 n % 4294967296 = n % 4294967296 := by
  rw [w64_eq]; split <;> omega
/-- A number's word, out of an operation on bits. -/
theorem wn_w64 (n : Nat) : wn (w64 (n : Int)) = n % 4294967296 := by unfold wn; rw [w64_mod]; omega
theorem ofInt_mod (n : Int) : (BitVec.ofInt 64 n).toNat % 4294967296 = wn n := by
  have := ofInt_toNat 64 n
  unfold wn
  omega
/-- word.Wrap -/
abbrev A_word_Wrap : List Ty := [(.int .i64)]
abbrev S_word_Wrap : Sh := Sh.ty (Ty.int IntKind.i64)
def T_word_Wrap (x : dens A_word_Wrap) : PO (Sh.den S_word_Wrap) :=
  (.ret (band IntKind.i64 x 4294967295))
def G_word_Wrap (_ : dens A_word_Wrap) : Bool := true
def V_word_Wrap (x : dens A_word_Wrap) : Sh.den S_word_Wrap := (wn x : Int)
theorem ok_word_Wrap (x : dens A_word_Wrap) (_ : G_word_Wrap x = true) : (T_word_Wrap x).val = some (V_word_Wrap x) := by
  show some _ = some _
  rw [band_32, V_word_Wrap, wn_int]
/-- How far a word is shifted. -/
def kk (n : Int) : Nat := (n % 32).toNat
theorem kk_int (n : Int) : (kk n : Int) = n % 32 := by unfold kk; omega
theorem kk_lt (n : Int) : kk n < 32 := by unfold kk; omega
/-- word.many -/
abbrev A_word_many : List Ty := [(.int .i64)]
abbrev S_word_many : Sh := Sh.ty (Ty.int IntKind.i64)
def T_word_many (x : dens A_word_many) : PO (Sh.den S_word_many) :=
  (.ret (band IntKind.i64 x 31))
def G_word_many (_ : dens A_word_many) : Bool := true
def V_word_many (x : dens A_word_many) : Sh.den S_word_many := (kk x : Int)
theorem ok_word_many (x : dens A_word_many) (_ : G_word_many x = true) : (T_word_many x).val = some (V_word_many x) := by
  show some _ = some _
  rw [band_31, V_word_many, kk_int]
/-- word.Add -/
abbrev A_word_Add : List Ty := [(.int .i64), (.int .i64)]
abbrev S_word_Add : Sh := Sh.ty (Ty.int IntKind.i64)
def T_word_Add (x : dens A_word_Add) : PO (Sh.den S_word_Add) :=
  (.ret (V_word_Wrap (w64 (x.1 + x.2))))
def G_word_Add (_ : dens A_word_Add) : Bool := true
def V_word_Add (x : dens A_word_Add) : Sh.den S_word_Add := (wn (x.1 + x.2) : Int)
theorem ok_word_Add (x : dens A_word_Add) (_ : G_word_Add x = true) : (T_word_Add x).val = some (V_word_Add x) := by
  show some _ = some _
  rw [V_word_Wrap, V_word_Add, wn_int, wn_int, w64_mod]
/-- word.Sub -/
abbrev A_word_Sub : List Ty := [(.int .i64), (.int .i64)]
abbrev S_word_Sub : Sh := Sh.ty (Ty.int IntKind.i64)
def T_word_Sub (x : dens A_word_Sub) : PO (Sh.den S_word_Sub) :=
  (.ret (V_word_Wrap (w64 (x.1 - x.2))))
def G_word_Sub (_ : dens A_word_Sub) : Bool := true
def V_word_Sub (x : dens A_word_Sub) : Sh.den S_word_Sub := (wn (x.1 - x.2) : Int)
theorem ok_word_Sub (x : dens A_word_Sub) (_ : G_word_Sub x = true) : (T_word_Sub x).val = some (V_word_Sub x) := by
  show some _ = some _
  rw [V_word_Wrap, V_word_Sub, wn_int, wn_int, w64_mod]
/-- word.product -/
abbrev A_word_product : List Ty := [(.int .i64), (.int .i64)]
abbrev S_word_product : Sh := Sh.ty (Ty.int IntKind.u64)
def T_word_product (x : dens A_word_product) : PO (Sh.den S_word_product) :=
  (.ret (IntKind.wrap IntKind.u64 (IntKind.wrap IntKind.u64 (V_word_Wrap x.1) * IntKind.wrap IntKind.u64 (V_word_Wrap x.2))))
def G_word_product (_ : dens A_word_product) : Bool := true
def V_word_product (x : dens A_word_product) : Sh.den S_word_product := ((wn x.1 * wn x.2 : Nat) : Int)
theorem ok_word_product (x : dens A_word_product) (_ : G_word_product x = true) : (T_word_product x).val = some (V_word_product x) := by
  show some _ = some _
  have h1 := wn_lt x.1
  have h2 := wn_lt x.2
  have h3 : wn x.1 * wn x.2 ≤ 4294967295 * 4294967295 := Nat.mul_le_mul (by omega) (by omega)
  rw [V_word_product]
  simp only [V_word_Wrap, u64_wrap]
  rw [Int.emod_eq_of_lt (a := (wn x.1 : Int)) (by omega) (by omega), Int.emod_eq_of_lt (a := (wn x.2 : Int)) (by omega) (by omega)]
  have e : (wn x.1 : Int) * (wn x.2 : Int) = ((wn x.1 * wn x.2 : Nat) : Int) := by simp
  rw [e, Int.emod_eq_of_lt (by omega) (by omega)]
theorem wn_eq {a b : Int} (h : a % 4294967296 = b % 4294967296) : wn a = wn b := by unfold wn; rw [h]
theorem mul_lt (a b : Int) : wn a * wn b ≤ 18446744065119617025 := by
  have h1 := wn_lt a
  have h2 := wn_lt b
  exact Nat.mul_le_mul (show wn a ≤ 4294967295 by omega) (show wn b ≤ 4294967295 by omega)
theorem ofInt_nat {m : Nat} (h : m < 18446744073709551616) : (BitVec.ofInt 64 (m : Int)).toNat = m := by
  have := ofInt_toNat 64 m
  omega
theorem band_u64 {m : Nat} (h : m < 18446744073709551616) : band .u64 (m : Int) 4294967295 = ((m % 4294967296 : Nat) : Int) := by
  show IntKind.u64.wrap (BitVec.ofInt 64 (m : Int) &&& BitVec.ofInt 64 4294967295).toNat = _
  rw [BitVec.toNat_and, ofInt_nat h, show (BitVec.ofInt 64 4294967295).toNat = 2 ^ 32 - 1 from by decide, Nat.and_two_pow_sub_one_eq_mod, u64_wrap]
  omega
theorem and_wn (a b : Int) : wn (band .i64 a b) = wn a &&& wn b := by
  show wn (w64 (BitVec.ofInt 64 a &&& BitVec.ofInt 64 b).toNat) = _
  rw [wn_w64, BitVec.toNat_and, show (4294967296 : Nat) = 2 ^ 32 from rfl, Nat.and_mod_two_pow, ← ofInt_mod a, ← ofInt_mod b]
theorem or_wn (a b : Int) : wn (bor .i64 a b) = wn a ||| wn b := by
  show wn (w64 (BitVec.ofInt 64 a ||| BitVec.ofInt 64 b).toNat) = _
  rw [wn_w64, BitVec.toNat_or, show (4294967296 : Nat) = 2 ^ 32 from rfl, Nat.or_mod_two_pow, ← ofInt_mod a, ← ofInt_mod b]
theorem xor_wn (a b : Int) : wn (bxor .i64 a b) = wn a ^^^ wn b := by
  show wn (w64 (BitVec.ofInt 64 a ^^^ BitVec.ofInt 64 b).toNat) = _
  rw [wn_w64, BitVec.toNat_xor, show (4294967296 : Nat) = 2 ^ 32 from rfl, Nat.xor_mod_two_pow, ← ofInt_mod a, ← ofInt_mod b]
theorem not_wn (a : Int) : wn (icompl .i64 a) = 4294967295 - wn a := by
  have e : icompl .i64 a = w64 (BitVec.ofInt 64 (-1) ^^^ BitVec.ofInt 64 a).toNat := by
    unfold icompl
    rw [if_pos (by rfl)]
    rfl
  rw [e, show BitVec.ofInt 64 (-1) = BitVec.allOnes 64 from by decide, BitVec.allOnes_xor, wn_w64, BitVec.toNat_not, ← ofInt_mod a]
  have := (BitVec.ofInt 64 a).isLt
  omega
theorem bnot_wn (a b : Int) : wn (bnot .i64 a b) = wn a &&& (4294967295 - wn b) := by
  show wn (w64 (BitVec.ofInt 64 a &&& ~~~(BitVec.ofInt 64 b)).toNat) = _
  rw [wn_w64, BitVec.toNat_and, show (4294967296 : Nat) = 2 ^ 32 from rfl, Nat.and_mod_two_pow, BitVec.toNat_not, ← ofInt_mod a, ← ofInt_mod b]
  have := (BitVec.ofInt 64 b).isLt
  congr 1
  omega
theorem ishl_nat (a : Int) (k : Nat) (hk : k ≤ 64) : ishl .i64 a (k : Int) = w64 (a * 2 ^ k) := by
  unfold ishl
  have : min (k : Int).toNat IntKind.i64.bits = k := by simp [IntKind.bits]; omega
  rw [this]
theorem pow_lt {k n : Nat} (h : k ≤ n) : 2 ^ k ≤ 2 ^ n := Nat.pow_le_pow_right (by omega) h
theorem shl_wn (a : Nat) (k : Nat) (hk : k ≤ 64) : wn (ishl .i64 (a : Int) (k : Int)) = a * 2 ^ k % 4294967296 := by
  rw [ishl_nat _ _ hk, show (a : Int) * 2 ^ k = ((a * 2 ^ k : Nat) : Int) by simp, wn_w64]
/-- word.Mul -/
abbrev A_word_Mul : List Ty := [(.int .i64), (.int .i64)]
abbrev S_word_Mul : Sh := Sh.ty (Ty.int IntKind.i64)
def T_word_Mul (x : dens A_word_Mul) : PO (Sh.den S_word_Mul) :=
  (.ret (w64 (band IntKind.u64 (V_word_product (x.1, x.2)) 4294967295)))
def G_word_Mul (_ : dens A_word_Mul) : Bool := true
def V_word_Mul (x : dens A_word_Mul) : Sh.den S_word_Mul := ((wn x.1 * wn x.2 % 4294967296 : Nat) : Int)
theorem ok_word_Mul (x : dens A_word_Mul) (_ : G_word_Mul x = true) : (T_word_Mul x).val = some (V_word_Mul x) := by
  show some _ = some _
  have h := mul_lt x.1 x.2
  simp only [V_word_product, V_word_Mul]
  rw [band_u64 (by omega), w64_id (by omega) (by omega)]
/-- word.High -/
abbrev A_word_High : List Ty := [(.int .i64), (.int .i64)]
abbrev S_word_High : Sh := Sh.ty (Ty.int IntKind.i64)
def T_word_High (x : dens A_word_High) : PO (Sh.den S_word_High) :=
  (.ret (w64 (ishr IntKind.u64 (V_word_product (x.1, x.2)) 32)))
def G_word_High (_ : dens A_word_High) : Bool := true
def V_word_High (x : dens A_word_High) : Sh.den S_word_High := ((wn x.1 * wn x.2 / 4294967296 : Nat) : Int)
theorem ok_word_High (x : dens A_word_High) (_ : G_word_High x = true) : (T_word_High x).val = some (V_word_High x) := by
  show some _ = some _
  have h := mul_lt x.1 x.2
  simp only [V_word_product, V_word_High]
  have e : ishr .u64 ((wn x.1 * wn x.2 : Nat) : Int) 32 = ((wn x.1 * wn x.2 / 4294967296 : Nat) : Int) := by
    unfold ishr
    rw [show min (32 : Int).toNat IntKind.u64.bits = 32 from rfl, Int.fdiv_eq_ediv_of_nonneg _ (by omega)]
    omega
  rw [e, w64_id (by omega) (by omega)]
/-- word.Not -/
abbrev A_word_Not : List Ty := [(.int .i64)]
abbrev S_word_Not : Sh := Sh.ty (Ty.int IntKind.i64)
def T_word_Not (x : dens A_word_Not) : PO (Sh.den S_word_Not) :=
  (.ret (V_word_Wrap (icompl IntKind.i64 x)))
def G_word_Not (_ : dens A_word_Not) : Bool := true
def V_word_Not (x : dens A_word_Not) : Sh.den S_word_Not := ((4294967295 - wn x : Nat) : Int)
theorem ok_word_Not (x : dens A_word_Not) (_ : G_word_Not x = true) : (T_word_Not x).val = some (V_word_Not x) := by
  show some _ = some _
  rw [V_word_Wrap, V_word_Not, not_wn]
/-- word.And -/
abbrev A_word_And : List Ty := [(.int .i64), (.int .i64)]
abbrev S_word_And : Sh := Sh.ty (Ty.int IntKind.i64)
def T_word_And (x : dens A_word_And) : PO (Sh.den S_word_And) :=
  (.ret (V_word_Wrap (band IntKind.i64 x.1 x.2)))
def G_word_And (_ : dens A_word_And) : Bool := true
def V_word_And (x : dens A_word_And) : Sh.den S_word_And := ((wn x.1 &&& wn x.2 : Nat) : Int)
theorem ok_word_And (x : dens A_word_And) (_ : G_word_And x = true) : (T_word_And x).val = some (V_word_And x) := by
  show some _ = some _
  rw [V_word_Wrap, V_word_And, and_wn]
/-- word.Or -/
abbrev A_word_Or : List Ty := [(.int .i64), (.int .i64)]
abbrev S_word_Or : Sh := Sh.ty (Ty.int IntKind.i64)
def T_word_Or (x : dens A_word_Or) : PO (Sh.den S_word_Or) :=
  (.ret (V_word_Wrap (bor IntKind.i64 x.1 x.2)))
def G_word_Or (_ : dens A_word_Or) : Bool := true
def V_word_Or (x : dens A_word_Or) : Sh.den S_word_Or := ((wn x.1 ||| wn x.2 : Nat) : Int)
theorem ok_word_Or (x : dens A_word_Or) (_ : G_word_Or x = true) : (T_word_Or x).val = some (V_word_Or x) := by
  show some _ = some _
  rw [V_word_Wrap, V_word_Or, or_wn]
/-- word.Xor -/
abbrev A_word_Xor : List Ty := [(.int .i64), (.int .i64)]
abbrev S_word_Xor : Sh := Sh.ty (Ty.int IntKind.i64)
def T_word_Xor (x : dens A_word_Xor) : PO (Sh.den S_word_Xor) :=
  (.ret (V_word_Wrap (bxor IntKind.i64 x.1 x.2)))
def G_word_Xor (_ : dens A_word_Xor) : Bool := true
def V_word_Xor (x : dens A_word_Xor) : Sh.den S_word_Xor := ((wn x.1 ^^^ wn x.2 : Nat) : Int)
theorem ok_word_Xor (x : dens A_word_Xor) (_ : G_word_Xor x = true) : (T_word_Xor x).val = some (V_word_Xor x) := by
  show some _ = some _
  rw [V_word_Wrap, V_word_Xor, xor_wn]
/-- word.Shl -/
abbrev A_word_Shl : List Ty := [(.int .i64), (.int .i64)]
abbrev S_word_Shl : Sh := Sh.ty (Ty.int IntKind.i64)
def T_word_Shl (x : dens A_word_Shl) : PO (Sh.den S_word_Shl) :=
  (.ite (!decide (V_word_many x.2 < 0) && true)
   (.ret (V_word_Wrap (ishl IntKind.i64 (V_word_Wrap x.1) (V_word_many x.2))))
   .fail)
def G_word_Shl (_ : dens A_word_Shl) : Bool := true
def V_word_Shl (x : dens A_word_Shl) : Sh.den S_word_Shl := ((wn x.1 * 2 ^ kk x.2 % 4294967296 : Nat) : Int)
theorem ok_word_Shl (x : dens A_word_Shl) (_ : G_word_Shl x = true) : (T_word_Shl x).val = some (V_word_Shl x) := by
  obtain ⟨a, n⟩ := x
  have hk := kk_lt n
  have hd : decide ((kk n : Int) < 0) = false := dec_false (by omega)
  show (bif !decide ((kk n : Int) < 0) && true then some ((wn (ishl .i64 (wn a : Int) (kk n : Int)) : Nat) : Int) else none) = some ((wn a * 2 ^ kk n % 4294967296 : Nat) : Int)
  rw [hd, shl_wn _ _ (by omega)]
  rfl
/-- word.Shr -/
abbrev A_word_Shr : List Ty := [(.int .i64), (.int .i64)]
abbrev S_word_Shr : Sh := Sh.ty (Ty.int IntKind.i64)
def T_word_Shr (x : dens A_word_Shr) : PO (Sh.den S_word_Shr) :=
  (.ite (!decide (V_word_many x.2 < 0))
   (.ret (ishr IntKind.i64 (V_word_Wrap x.1) (V_word_many x.2)))
   .fail)
def G_word_Shr (_ : dens A_word_Shr) : Bool := true
def V_word_Shr (x : dens A_word_Shr) : Sh.den S_word_Shr := ((wn x.1 / 2 ^ kk x.2 : Nat) : Int)
theorem ok_word_Shr (x : dens A_word_Shr) (_ : G_word_Shr x = true) : (T_word_Shr x).val = some (V_word_Shr x) := by
  obtain ⟨a, n⟩ := x
  have hk := kk_lt n
  have hd : decide ((kk n : Int) < 0) = false := dec_false (by omega)
  show (bif !decide ((kk n : Int) < 0) then some (ishr .i64 (wn a : Int) (kk n : Int)) else none) = some ((wn a / 2 ^ kk n : Nat) : Int)
  rw [hd, ishr_i64 _ _ (by omega)]
  simp
/-- word.Sar -/
abbrev A_word_Sar : List Ty := [(.int .i64), (.int .i64)]
abbrev S_word_Sar : Sh := Sh.ty (Ty.int IntKind.i64)
def T_word_Sar (x : dens A_word_Sar) : PO (Sh.den S_word_Sar) :=
  (.ite (!decide (V_word_many x.2 < 0) && true)
   (.ret (V_word_Wrap (ishr IntKind.i64 (w64 (IntKind.wrap IntKind.i32 (IntKind.wrap IntKind.u32 (V_word_Wrap x.1)))) (V_word_many x.2))))
   .fail)
/-- A word's number with a sign. -/
def sw (m : Nat) : Int := if 2147483648 ≤ m then (m : Int) - 4294967296 else m
def G_word_Sar (_ : dens A_word_Sar) : Bool := true
def V_word_Sar (x : dens A_word_Sar) : Sh.den S_word_Sar := (wn (sw (wn x.1) / (2 ^ kk x.2 : Nat)) : Int)
theorem ok_word_Sar (x : dens A_word_Sar) (_ : G_word_Sar x = true) : (T_word_Sar x).val = some (V_word_Sar x) := by
  obtain ⟨a, n⟩ := x
  have hk := kk_lt n
  have hl := wn_lt a
  have e : w64 (IntKind.i32.wrap (IntKind.u32.wrap (wn a : Int))) = sw (wn a) := by
    rw [u32_wrap, i32_eq, Int.emod_emod_of_dvd _ (by decide), Int.emod_eq_of_lt (by omega) (by omega)]
    unfold sw
    split
    · rw [if_pos (by omega), w64_id (by omega) (by omega)]
    · rw [if_neg (by omega), w64_id (by omega) (by omega)]
  have hd : decide ((kk n : Int) < 0) = false := dec_false (by omega)
  show (bif !decide ((kk n : Int) < 0) && true then some ((wn (ishr .i64 (w64 (IntKind.i32.wrap (IntKind.u32.wrap (wn a : Int)))) (kk n : Int)) : Nat) : Int) else none) = some ((wn (sw (wn a) / (2 ^ kk n : Nat)) : Nat) : Int)
  rw [hd, e, ishr_i64 _ _ (by omega)]
  rfl
/-- word.Ror -/
abbrev A_word_Ror : List Ty := [(.int .i64), (.int .i64)]
abbrev S_word_Ror : Sh := Sh.ty (Ty.int IntKind.i64)
def T_word_Ror (x : dens A_word_Ror) : PO (Sh.den S_word_Ror) :=
  (.ite (G_word_Shr (x.1, x.2) && (!decide (w64 (32 - V_word_many x.2) < 0) && true))
   (.ret (V_word_Or (V_word_Shr (x.1, x.2), V_word_Wrap (ishl IntKind.i64 (V_word_Wrap x.1) (w64 (32 - V_word_many x.2))))))
   .fail)
def G_word_Ror (_ : dens A_word_Ror) : Bool := true
def V_word_Ror (x : dens A_word_Ror) : Sh.den S_word_Ror := ((wn x.1 / 2 ^ kk x.2 + wn x.1 % 2 ^ kk x.2 * 2 ^ (32 - kk x.2) : Nat) : Int)
theorem ror_nat (m k : Nat) (hm : m < 4294967296) (hk : k < 32) : m / 2 ^ k ||| m * 2 ^ (32 - k) % 4294967296 = m / 2 ^ k + m % 2 ^ k * 2 ^ (32 - k) := by
  have h0 : 2 ^ 32 = 2 ^ k * 2 ^ (32 - k) := by rw [← Nat.pow_add]; congr 1; omega
  have h1 : m * 2 ^ (32 - k) % 4294967296 = m % 2 ^ k * 2 ^ (32 - k) := by
    rw [show (4294967296 : Nat) = 2 ^ 32 from rfl, h0, Nat.mul_mod_mul_right]
  have h2 : m / 2 ^ k < 2 ^ (32 - k) := by
    rw [Nat.div_lt_iff_lt_mul (Nat.two_pow_pos k), Nat.mul_comm, ← h0]
    omega
  rw [h1, Nat.or_comm, Nat.mul_comm (m % 2 ^ k), ← Nat.two_pow_add_eq_or_of_lt h2, Nat.add_comm]
theorem ok_word_Ror (x : dens A_word_Ror) (_ : G_word_Ror x = true) : (T_word_Ror x).val = some (V_word_Ror x) := by
  obtain ⟨a, n⟩ := x
  have hk := kk_lt n
  have hl := wn_lt a
  have e1 : w64 (32 - (kk n : Int)) = ((32 - kk n : Nat) : Int) := by
    rw [w64_id (by omega) (by omega)]; omega
  have hd : decide (w64 (32 - (kk n : Int)) < 0) = false := dec_false (by rw [e1]; omega)
  have h1 : wn a / 2 ^ kk n < 4294967296 := Nat.lt_of_le_of_lt (Nat.div_le_self _ _) hl
  show (bif true && (!decide (w64 (32 - (kk n : Int)) < 0) && true) then some ((wn ((wn a / 2 ^ kk n : Nat) : Int) ||| wn ((wn (ishl .i64 (wn a : Int) (w64 (32 - (kk n : Int)))) : Nat) : Int) : Nat) : Int) else none) = some ((wn a / 2 ^ kk n + wn a % 2 ^ kk n * 2 ^ (32 - kk n) : Nat) : Int)
  rw [hd, e1, shl_wn _ _ (by omega), wn_nat h1, wn_nat (Nat.mod_lt _ (by omega)), ror_nat _ _ hl hk]
  rfl
/-- word.Select -/
abbrev A_word_Select : List Ty := [(.int .i64), (.int .i64), (.int .i64)]
abbrev S_word_Select : Sh := Sh.ty (Ty.int IntKind.i64)
def T_word_Select (x : dens A_word_Select) : PO (Sh.den S_word_Select) :=
  (.ret (V_word_Or (band IntKind.i64 x.2.1 x.1, bnot IntKind.i64 x.2.2 x.1)))
def G_word_Select (_ : dens A_word_Select) : Bool := true
def V_word_Select (x : dens A_word_Select) : Sh.den S_word_Select := (((wn x.2.1 &&& wn x.1) ||| (wn x.2.2 &&& (4294967295 - wn x.1)) : Nat) : Int)
theorem ok_word_Select (x : dens A_word_Select) (_ : G_word_Select x = true) : (T_word_Select x).val = some (V_word_Select x) := by
  show some _ = some _
  rw [V_word_Or, V_word_Select, and_wn, bnot_wn]
/-- word.Bit -/
abbrev A_word_Bit : List Ty := [(.int .i64), (.int .i64)]
abbrev S_word_Bit : Sh := Sh.ty (Ty.int IntKind.i64)
def T_word_Bit (x : dens A_word_Bit) : PO (Sh.den S_word_Bit) :=
  (.ite (G_word_Shr (x.1, x.2))
   (.ret (band IntKind.i64 (V_word_Shr (x.1, x.2)) 1))
   .fail)
def G_word_Bit (_ : dens A_word_Bit) : Bool := true
def V_word_Bit (x : dens A_word_Bit) : Sh.den S_word_Bit := ((wn x.1 / 2 ^ kk x.2 % 2 : Nat) : Int)
theorem ok_word_Bit (x : dens A_word_Bit) (_ : G_word_Bit x = true) : (T_word_Bit x).val = some (V_word_Bit x) := by
  show some _ = some _
  simp only [V_word_Shr, V_word_Bit]
  rw [band_one]
  simp
/-- hauberkref01.Wrap -/
abbrev A_hauberkref01_Wrap : List Ty := [(.int .i64)]
abbrev S_hauberkref01_Wrap : Sh := Sh.ty (Ty.int IntKind.i64)
def T_hauberkref01_Wrap (x : dens A_hauberkref01_Wrap) : PO (Sh.den S_hauberkref01_Wrap) :=
  (.ret (w64 (Int.tmod (IntKind.wrap IntKind.u64 x) 4294967296)))
def G_hauberkref01_Wrap (_ : dens A_hauberkref01_Wrap) : Bool := true
def V_hauberkref01_Wrap (x : dens A_hauberkref01_Wrap) : Sh.den S_hauberkref01_Wrap := (wn x : Int)
theorem ok_hauberkref01_Wrap (x : dens A_hauberkref01_Wrap) (_ : G_hauberkref01_Wrap x = true) : (T_hauberkref01_Wrap x).val = some (V_hauberkref01_Wrap x) := by
  show some _ = some _
  have h1 : (0 : Int) ≤ x % 18446744073709551616 := Int.emod_nonneg _ (by omega)
  rw [u64_wrap, tmod_pos _ _ h1, mod64, V_hauberkref01_Wrap, wn_int]
  exact congrArg some (w64_id (by omega) (by omega))
/-- hauberkref01.many -/
abbrev A_hauberkref01_many : List Ty := [(.int .i64)]
abbrev S_hauberkref01_many : Sh := Sh.ty (Ty.int IntKind.i64)
def T_hauberkref01_many (x : dens A_hauberkref01_many) : PO (Sh.den S_hauberkref01_many) :=
  (.ret (w64 (Int.tmod (IntKind.wrap IntKind.u64 x) 32)))
def G_hauberkref01_many (_ : dens A_hauberkref01_many) : Bool := true
def V_hauberkref01_many (x : dens A_hauberkref01_many) : Sh.den S_hauberkref01_many := (kk x : Int)
theorem ok_hauberkref01_many (x : dens A_hauberkref01_many) (_ : G_hauberkref01_many x = true) : (T_hauberkref01_many x).val = some (V_hauberkref01_many x) := by
  show some _ = some _
  have h1 : (0 : Int) ≤ x % 18446744073709551616 := Int.emod_nonneg _ (by omega)
  have h2 : x % 18446744073709551616 % 32 = x % 32 := Int.emod_emod_of_dvd x (by decide)
  rw [u64_wrap, tmod_pos _ _ h1, h2, V_hauberkref01_many, kk_int]
  exact congrArg some (w64_id (by omega) (by omega))
def L_hauberkref01_power_3 : LoopN where
  M := [0, 3, 4]
  T := [5, 6, 7, 8, 9, 10, 11]
  D := [0, 4]
  ss := [.ty (.int .i64), .ty (.int .i64), .ty (.int .i64)]
  hs := []
  es := [.exit 0]
  σ := (Ty.den (.int .i64)) × (Ty.den (.int .i64))
  x0 := fun x _ => (x.2.1, x.2.2)
  put := fun x _ s => ((x.1, s.1, s.2), ())
  fuel := fun x _ => Int.toNat x.1+1
  turn := fun x _ s =>
  (.ite (decide (s.2 < x.1))
   (.ret (.on (w64 (s.1 * 2), w64 (s.2 + 1))))
   (.ret (.out 0 (s.1, s.2))))
/-- hauberkref01.power -/
abbrev A_hauberkref01_power : List Ty := [(.int .i64)]
abbrev S_hauberkref01_power : Sh := Sh.ty (Ty.int IntKind.i64)
def T_hauberkref01_power (x : dens A_hauberkref01_power) : PO (Sh.den S_hauberkref01_power) :=
  (.opt (LoopN.res L_hauberkref01_power_3 (x, 1, 0) ()) fun p0 =>
   (.ret (p0.2.1)))
def G_hauberkref01_power (x : dens A_hauberkref01_power) : Bool := decide ((x : Int) ≤ 62)
def V_hauberkref01_power (x : dens A_hauberkref01_power) : Sh.den S_hauberkref01_power := ((2 ^ Int.toNat x : Nat) : Int)
theorem power_run (n : Nat) (hn : n ≤ 62) : runL (L_hauberkref01_power_3.turn ((n : Int), 1, 0) ()) (n + 1) (1, 0) = some (0, ((2 ^ n : Nat) : Int), (n : Int)) := by
  refine runL_count (σ := Int × Int) (fun i => (((2 ^ i : Nat) : Int), (i : Int))) (0, ((2 ^ n : Nat) : Int), (n : Int)) (n := n) (fun i hi => ?_) ?_ n 0 (by omega) _ (by omega)
  · have h1 : decide ((i : Int) < (n : Int)) = true := dec_true (by omega)
    have h2 : 2 ^ (i + 1) ≤ 2 ^ 62 := pow_lt (by omega)
    have h3 : ((2 ^ i : Nat) : Int) * 2 = ((2 ^ (i + 1) : Nat) : Int) := by rw [Nat.pow_succ]; simp
    simp only [L_hauberkref01_power_3, PO.val, h1, cond_true]
    rw [h3]
    generalize 2 ^ (i + 1) = q at h2 ⊢
    rw [w64_id (by omega) (by omega), w64_id (by omega) (by omega)]
    rfl
  · simp only [L_hauberkref01_power_3, PO.val, dec_false (show ¬ (n : Int) < (n : Int) by omega), cond_false]
theorem power_val (x : Int) (hx : x ≤ 62) : (T_hauberkref01_power x).val = some (((2 ^ Int.toNat x : Nat) : Int)) := by
  unfold T_hauberkref01_power PO.val
  by_cases hneg : x < 0
  · have e : Int.toNat x = 0 := by omega
    have : LoopN.res L_hauberkref01_power_3 (x, 1, 0) () = some (0, (1 : Int), (0 : Int)) := by
      show runL _ (Int.toNat x + 1) (1, 0) = _
      rw [e]
      refine runL_out ?_
      simp only [L_hauberkref01_power_3, PO.val, dec_false (show ¬ (0 : Int) < x by omega), cond_false]
    rw [this, e]
    rfl
  · obtain ⟨n, rfl⟩ : ∃ n : Nat, x = (n : Int) := ⟨Int.toNat x, by omega⟩
    have : LoopN.res L_hauberkref01_power_3 ((n : Int), 1, 0) () = some (0, ((2 ^ n : Nat) : Int), (n : Int)) := by
      show runL _ (Int.toNat (n : Int) + 1) (1, 0) = _
      rw [Int.toNat_natCast]
      exact power_run n (by omega)
    rw [this]
    rfl
theorem ok_hauberkref01_power (x : dens A_hauberkref01_power) (h : G_hauberkref01_power x = true) : (T_hauberkref01_power x).val = some (V_hauberkref01_power x) := power_val x (of_decide_eq_true h)
end Go.Av
end
/-! Layers 5 and 7: which addresses there are, and the bytes that a machine has: as they are walked. -/
section
namespace Go.Av
open Go

/-- What a memory has: its regions, and windows of one row of bytes (box 1). -/
abbrev shMemB (b : Nat) : Sh := .pair (.ty (.sl tRegion)) (.pair (.wsl none b (.int .u8)) (.ty .unit))
abbrev shMemO : Sh := .pair (.ty (.sl tRegion)) (.pair (.wsl (some 0) 1 (.int .u8)) (.ty .unit))
abbrev shMem : Sh := shMemB 1

/-- memmap.Check -/
abbrev A_memmap_Check : List Ty := [tSizes, (.int .i64)]
abbrev S_memmap_Check : Sh := Sh.ty (Ty.int IntKind.i64)
def T_memmap_Check (x : dens A_memmap_Check) : PO (Sh.den S_memmap_Check) :=
  (.ite (decide (x.1.1 < 0) || Int.tmod x.1.1 4 != 0)
   (.ret (2))
   (.ite (decide (x.1.2.1 < 0) || Int.tmod x.1.2.1 4 != 0)
    (.ret (2))
    (.ite (decide (x.1.2.2.1 < 0) || Int.tmod x.1.2.2.1 4 != 0)
     (.ret (2))
     (.ite (decide (x.2 < 0) || decide (x.1.2.2.1 < 4))
      (.ret (2))
      (.ite (decide (x.2 > 262144) || decide (x.1.1 > 65536) || decide (x.1.2.1 > 65536) || decide (x.1.2.2.1 > 65536))
       (.ret (5))
       (.ret (0)))))))
def G_memmap_Check (_ : dens A_memmap_Check) : Bool := true
def V_memmap_Check (x : dens A_memmap_Check) : Sh.den S_memmap_Check := (T_memmap_Check x).getO default
theorem ok_memmap_Check (x : dens A_memmap_Check) (_ : G_memmap_Check x = true) : (T_memmap_Check x).val = some (V_memmap_Check x) := PO.sure_ok default (by simp [T_memmap_Check, PO.sure])
/-- memmap.has -/
abbrev A_memmap_has : List Ty := [tRegion, (.int .i64), (.int .i64)]
abbrev S_memmap_has : Sh := Sh.ty Ty.bool
def T_memmap_has (x : dens A_memmap_has) : PO (Sh.den S_memmap_has) :=
  (.ret (decide (x.2.1 ≥ x.1.1) && (decide (x.1.2.1 ≥ x.2.2) && decide (w64 (x.2.1 - x.1.1) ≤ w64 (x.1.2.1 - x.2.2)))))
def G_memmap_has (_ : dens A_memmap_has) : Bool := true
def V_memmap_has (x : dens A_memmap_has) : Sh.den S_memmap_has := (T_memmap_has x).getO default
theorem ok_memmap_has (x : dens A_memmap_has) (_ : G_memmap_has x = true) : (T_memmap_has x).val = some (V_memmap_has x) := PO.sure_ok default (by simp [T_memmap_has, PO.sure])
def L_memmap_Find_6 : LoopN where
  M := [1, 2, 3, 8, 9, 24, 25, 26]
  T := [10, 11, 27, 28, 29, 30, 31, 32, 33, 34, 35, 36, 37, 38, 39, 40, 41, 42, 43]
  D := [1, 2, 3, 24, 25, 26]
  ss := [.ty (.int .i64), .ty (.int .i64), .ty .bool, .ty (.int .i64), .ty (.int .i64), .ty (.sl tRegion), .ty (.int .i64), .ty (.int .i64)]
  hs := []
  es := [.exit 1, .ret]
  σ := (Ty.den (.int .i64)) × (Ty.den (.int .i64)) × (Ty.den (.int .i64))
  x0 := fun x _ => (x.2.2.2.1, x.2.2.2.2.1, x.2.2.2.2.2.2.2)
  put := fun x _ s => ((x.1, x.2.1, x.2.2.1, s.1, s.2.1, x.2.2.2.2.2.1, x.2.2.2.2.2.2.1, s.2.2), ())
  fuel := fun x _ => List.length x.2.2.2.2.2.1 + 1
  turn := fun x _ s =>
  (.ite (decide (s.2.2 < x.2.2.2.2.2.2.1))
   (.ite (inRange s.2.2 (List.length x.2.2.2.2.2.1))
    (.ite (!V_memmap_has (List.getD x.2.2.2.2.2.1 (Int.toNat s.2.2) (Ty.dflt tRegion), x.1, x.2.1))
     (.ret (.on (s.1, s.2.1, w64 (s.2.2 + 1))))
     (.ite (x.2.2.1 && !(List.getD x.2.2.2.2.2.1 (Int.toNat s.2.2) (Ty.dflt tRegion)).2.2.1)
      (.ret (.out 0 (s.1, s.2.1, s.2.2)))
      (.ret (.out 1 (s.2.2, 0, s.2.2)))))
    .fail)
   (.ret (.out 0 (s.1, s.2.1, s.2.2))))
/-- Has a region so many bytes from an address on? -/
def hasB (r : Int × Int × Bool × Unit) (a n : Int) : Bool := decide (r.1 ≤ a ∧ n ≤ r.2.1 ∧ a - r.1 ≤ r.2.1 - n)

def RegOk (r : Int × Int × Bool × Unit) : Prop := 0 ≤ r.1 ∧ 0 ≤ r.2.1 ∧ r.1 < 4611686018427387904 ∧ r.2.1 < 4611686018427387904

theorem has_eq (r : Int × Int × Bool × Unit) (a n : Int) (h : RegOk r) (hn : 0 ≤ n) (ha : a < 9223372036854775808) : V_memmap_has (r, a, n) = hasB r a n := by
  obtain ⟨h1, h2, h3, h4⟩ := h
  show (decide (a ≥ r.1) && (decide (r.2.1 ≥ n) && decide (w64 (a - r.1) ≤ w64 (r.2.1 - n)))) = _
  unfold hasB
  by_cases c1 : r.1 ≤ a
  · by_cases c2 : n ≤ r.2.1
    · rw [w64_id (n := a - r.1) (by omega) (by omega), w64_id (n := r.2.1 - n) (by omega) (by omega)]
      simp [c1, c2]
    · simp [c2]
  · simp [c1]

/-- The region of an access. -/
def findX (a n : Int) (w : Bool) : List (Int × Int × Bool × Unit) → Option Nat
  | [] => none
  | r :: l => bif hasB r a n then (bif w && !r.2.2.1 then none else some 0) else (findX a n w l).map (· + 1)

theorem find_from (l : List (Int × Int × Bool × Unit)) (a n : Int) (w : Bool) (hl : l.length < 4611686018427387904) (hr : ∀ r ∈ l, RegOk r) (hn : 0 ≤ n) (ha : a < 9223372036854775808) :
    ∀ (k i : Nat), i + k = l.length → ∀ f, k < f → ∃ p, runL (L_memmap_Find_6.turn (a, n, w, 0, 0, l, lenI l, 0) ()) f ((0 : Int), (0 : Int), (i : Int)) = some p ∧
      match findX a n w (l.drop i) with
      | some j => p.1 = 1 ∧ p.2.1 = ((i + j : Nat) : Int) ∧ p.2.2.1 = 0
      | none => p.1 = 0
  | 0, i, hi, f, hf => by
    obtain ⟨f, rfl⟩ : ∃ g, f = g + 1 := ⟨f - 1, by omega⟩
    rw [List.drop_of_length_le (by omega)]
    refine ⟨_, runL_out (c := 0) (s' := ((0 : Int), (0 : Int), (i : Int))) ?_, rfl⟩
    exact val_no (dec_false (by show ¬ ((i : Int) < ((l.length : Nat) : Int)); omega))
  | k + 1, i, hi, f, hf => by
    obtain ⟨f, rfl⟩ : ∃ g, f = g + 1 := ⟨f - 1, by omega⟩
    have hlt : i < l.length := by omega
    have hd : l.drop i = l[i] :: l.drop (i + 1) := List.drop_eq_getElem_cons hlt
    have hg : List.getD l (Int.toNat (i : Int)) (Ty.dflt tRegion) = l[i] := by rw [Int.toNat_natCast]; exact getD_in l _ hlt
    have t1 : (L_memmap_Find_6.turn (a, n, w, 0, 0, l, lenI l, 0) () ((0 : Int), (0 : Int), (i : Int))).val =
        (PO.ite (!V_memmap_has (l[i], a, n)) (PO.ret (TL.on ((0 : Int), (0 : Int), w64 ((i : Int) + 1))))
          (PO.ite (w && !(l[i]).2.2.1) (PO.ret (TL.out 0 ((0 : Int), (0 : Int), (i : Int)))) (PO.ret (TL.out 1 ((i : Int), (0 : Int), (i : Int)))))).val := by
      refine (val_yes (dec_true (by show ((i : Int) < ((l.length : Nat) : Int)); omega))).trans ((val_yes (inR hlt)).trans ?_)
      show (PO.ite (!V_memmap_has (List.getD l (Int.toNat (i : Int)) (Ty.dflt tRegion), a, n)) _ (PO.ite (w && !(List.getD l (Int.toNat (i : Int)) (Ty.dflt tRegion)).2.2.1) _ _)).val = _
      rw [hg]
      rfl
    rw [has_eq _ a n (hr _ (List.getElem_mem hlt)) hn ha] at t1
    cases hh : hasB l[i] a n with
    | false =>
      rw [hh] at t1
      obtain ⟨p, h1, h2⟩ := find_from l a n w hl hr hn ha k (i + 1) (by omega) f (by omega)
      refine ⟨p, (runL_on (t1.trans (by rw [w64_id (by omega) (by omega)]; rfl))).trans h1, ?_⟩
      rw [hd]
      simp only [findX, hh, cond_false]
      cases hf2 : findX a n w (l.drop (i + 1)) with
      | none => rw [hf2] at h2; exact h2
      | some j =>
        rw [hf2] at h2
        obtain ⟨q1, q2, q3⟩ := h2
        exact ⟨q1, by rw [q2]; show ((i + 1 + j : Nat) : Int) = ((i + (j + 1) : Nat) : Int); congr 1; omega, q3⟩
    | true =>
      rw [hh] at t1
      rw [hd]
      simp only [findX, hh, cond_true]
      cases hw : (w && !(l[i]).2.2.1) with
      | true =>
        rw [hw] at t1
        exact ⟨_, runL_out (t1.trans rfl), rfl⟩
      | false =>
        rw [hw] at t1
        exact ⟨_, runL_out (t1.trans rfl), rfl, by simp, rfl⟩

/-- Where an access is, or its error. -/
def findM (l : List (Int × Int × Bool × Unit)) (a n : Int) (w : Bool) : Int × Int × Unit :=
  bif n != 1 && n != 4 then (0, 2, ()) else bif a.tmod n != 0 then (0, 8, ()) else match findX a n w l with
    | none => (0, 8, ())
    | some j => ((j : Int), 0, ())

instance (r : Int × Int × Bool × Unit) : Decidable (RegOk r) := by unfold RegOk; infer_instance
def RegsOk (l : List (Int × Int × Bool × Unit)) : Prop := l.length < 4611686018427387904 ∧ ∀ r ∈ l, RegOk r
instance (l : List (Int × Int × Bool × Unit)) : Decidable (RegsOk l) := by unfold RegsOk; infer_instance
/-- memmap.Find -/
abbrev A_memmap_Find : List Ty := [(.sl tRegion), (.int .i64), (.int .i64), .bool]
abbrev S_memmap_Find : Sh := Sh.tup (Sh.pair (Sh.ty (Ty.int IntKind.i64)) (Sh.pair (Sh.ty (Ty.int IntKind.i64)) (Sh.ty Ty.unit)))
def T_memmap_Find (x : dens A_memmap_Find) : PO (Sh.den S_memmap_Find) :=
  (.ite (x.2.2.1 != 1 && x.2.2.1 != 4)
   (.ret ((0, 2, ())))
   (.ite (!x.2.2.1 == 0)
    (.ite (Int.tmod x.2.1 x.2.2.1 != 0)
     (.ret ((0, 8, ())))
     (.opt (LoopN.res L_memmap_Find_6 (x.2.1, x.2.2.1, x.2.2.2, 0, 0, x.1, lenI x.1, 0) ()) fun p0 =>
      (.ite (way p0.1)
       (.ret ((0, 8, ())))
       (.ret ((p0.2.1, p0.2.2.1, ()))))))
    .fail))
def G_memmap_Find (x : dens A_memmap_Find) : Bool := decide (RegsOk x.1 ∧ (show Int from x.2.1) < 9223372036854775808)
def V_memmap_Find (x : dens A_memmap_Find) : Sh.den S_memmap_Find := findM x.1 x.2.1 x.2.2.1 x.2.2.2
theorem ok_find (l : List (Int × Int × Bool × Unit)) (a n : Int) (w : Bool) (h1 : l.length < 4611686018427387904) (h2 : ∀ r ∈ l, RegOk r) (h3 : a < 9223372036854775808) : (T_memmap_Find (l, a, n, w)).val = some (findM l a n w) := by
  show (PO.ite (n != 1 && n != 4) _ _).val = some (findM l a n w)
  unfold findM
  cases c1 : (n != 1 && n != 4) with
  | true => rfl
  | false =>
    have hn : n = 1 ∨ n = 4 := by
      simp only [Bool.and_eq_false_iff, bne_eq_false_iff_eq] at c1
      exact c1
    have hn0 : 0 ≤ n := by omega
    refine (val_no rfl).trans ((val_yes (by show (!(n == 0)) = true; rcases hn with rfl | rfl <;> rfl)).trans ?_)
    cases c2 : (a.tmod n != 0) with
    | true => exact val_yes rfl
    | false =>
      refine (val_no rfl).trans ?_
      obtain ⟨p, e1, e2⟩ := find_from l a n w h1 h2 hn0 h3 l.length 0 (Nat.zero_add _) (l.length + 1) (Nat.lt_succ_self _)
      refine (val_opt (r := p) e1).trans ?_
      rw [List.drop_zero] at e2
      show (PO.ite (way p.1) _ _).val = _
      cases e : findX a n w l with
      | none => rw [e] at e2; exact val_yes (by rw [show p.1 = 0 from e2]; rfl)
      | some j =>
        rw [e] at e2
        obtain ⟨q1, q2, q3⟩ := e2
        refine (val_no (by rw [q1]; rfl)).trans ?_
        show some (p.2.1, p.2.2.1, ()) = _
        rw [q2, q3]
        simp
theorem ok_memmap_Find (x : dens A_memmap_Find) (h : G_memmap_Find x = true) : (T_memmap_Find x).val = some (V_memmap_Find x) :=
  have h' := of_decide_eq_true h
  ok_find x.1 x.2.1 x.2.2.1 x.2.2.2 h'.1.1 h'.1.2 h'.2
/-- word.Bytes -/
abbrev A_word_Bytes : List Ty := [(.int .i64)]
abbrev S_word_Bytes : Sh := Sh.ty Ty.str
def T_word_Bytes (x : dens A_word_Bytes) : PO (Sh.den S_word_Bytes) :=
  (.ret (bytesOf (shown (List.set (List.set (List.set (List.set [0, 0, 0, 0] (Int.toNat 0) (IntKind.wrap IntKind.u8 (ishr IntKind.i64 (V_word_Wrap x) 0))) (Int.toNat 1) (IntKind.wrap IntKind.u8 (ishr IntKind.i64 (V_word_Wrap x) 8))) (Int.toNat 2) (IntKind.wrap IntKind.u8 (ishr IntKind.i64 (V_word_Wrap x) 16))) (Int.toNat 3) (IntKind.wrap IntKind.u8 (ishr IntKind.i64 (V_word_Wrap x) 24))) (0, 4))))
def G_word_Bytes (_ : dens A_word_Bytes) : Bool := true
def V_word_Bytes (x : dens A_word_Bytes) : Sh.den S_word_Bytes := (T_word_Bytes x).getO default
theorem ok_word_Bytes (x : dens A_word_Bytes) (_ : G_word_Bytes x = true) : (T_word_Bytes x).val = some (V_word_Bytes x) := PO.sure_ok default (by simp [T_word_Bytes, PO.sure])
/-- What a memory comes to: regions, windows, the row of bytes. -/
abbrev MemT : Type := (List (Int × Int × Bool × Unit) × List (Nat × Nat) × Unit) × List Int

abbrev rDef : Int × Int × Bool × Unit := (0, 0, false, ())

structure MemWf (y : MemT) : Prop where
  regs : RegsOk y.1.1
  len : y.1.1.length = y.1.2.1.length
  wins : ∀ i, i < y.1.1.length → ((y.1.2.1.getD i (0, 0)).2 : Int) = (y.1.1.getD i rDef).2.1 ∧ (y.1.2.1.getD i (0, 0)).1 + (y.1.2.1.getD i (0, 0)).2 ≤ y.2.length
  bytes : ∀ b ∈ y.2, 0 ≤ b ∧ b < 256

instance (y : MemT) : Decidable (MemWf y) :=
  if h : RegsOk y.1.1 ∧ y.1.1.length = y.1.2.1.length ∧ (∀ i, i < y.1.1.length → ((y.1.2.1.getD i (0, 0)).2 : Int) = (y.1.1.getD i rDef).2.1 ∧ (y.1.2.1.getD i (0, 0)).1 + (y.1.2.1.getD i (0, 0)).2 ≤ y.2.length) ∧ ∀ b ∈ y.2, 0 ≤ b ∧ b < 256
  then isTrue ⟨h.1, h.2.1, h.2.2.1, h.2.2.2⟩ else isFalse fun h' => h ⟨h'.regs, h'.len, h'.wins, h'.bytes⟩

/-- Where the byte of an address lies, in a region. -/
def posM (y : MemT) (j : Nat) (a : Int) : Nat := (y.1.2.1.getD j (0, 0)).1 + (a - (y.1.1.getD j rDef).1).toNat

/-- A number of bytes, the least first. -/
def leV : List Int → Int
  | [] => 0
  | b :: l => b + 256 * leV l

theorem findX_spec {a n : Int} {w : Bool} : ∀ {l : List (Int × Int × Bool × Unit)} {j : Nat}, findX a n w l = some j → j < l.length ∧ hasB (l.getD j rDef) a n = true ∧ (w = true → (l.getD j rDef).2.2.1 = true)
  | [], _, h => by cases h
  | r :: l, j, h => by
    simp only [findX] at h
    cases hh : hasB r a n with
    | true =>
      rw [hh] at h
      cases hw : (w && !r.2.2.1) with
      | true => rw [hw] at h; cases h
      | false =>
        rw [hw] at h
        cases h
        refine ⟨Nat.succ_pos _, hh, fun hw' => ?_⟩
        rw [hw'] at hw
        simpa using hw
    | false =>
      rw [hh] at h
      simp only [cond_false] at h
      obtain ⟨k, h1, h2⟩ := Option.map_eq_some_iff.1 h
      subst h2
      obtain ⟨g1, g2, g3⟩ := findX_spec h1
      exact ⟨by simpa using g1, g2, g3⟩

theorem acc_ok {y : MemT} (hy : MemWf y) {a n : Int} {w : Bool} {j : Nat} (hj : findX a n w y.1.1 = some j) (hn : n = 1 ∨ n = 4) :
    j < y.1.1.length ∧ j < y.1.2.1.length ∧ 0 ≤ a - (y.1.1.getD j rDef).1 ∧ a - (y.1.1.getD j rDef).1 + n ≤ ((y.1.2.1.getD j (0, 0)).2 : Int) ∧ posM y j a + n.toNat ≤ y.2.length ∧
      w64 (a - (y.1.1.getD j rDef).1) = a - (y.1.1.getD j rDef).1 ∧ w64 (w64 (a - (y.1.1.getD j rDef).1) + n) = a - (y.1.1.getD j rDef).1 + n := by
  obtain ⟨h1, h2, _⟩ := findX_spec hj
  have hl : j < y.1.2.1.length := by rw [← hy.len]; exact h1
  obtain ⟨w1, w2⟩ := hy.wins j h1
  have hr : RegOk (y.1.1.getD j rDef) := by rw [getD_in y.1.1 rDef h1]; exact hy.regs.2 _ (List.getElem_mem h1)
  unfold posM
  generalize y.1.1.getD j rDef = r at *
  generalize y.1.2.1.getD j (0, 0) = W at *
  obtain ⟨rb, rl, rw', u⟩ := r
  obtain ⟨q1, q2, q3, q4⟩ := hr
  simp only [hasB, decide_eq_true_eq] at h2
  dsimp only at q1 q2 q3 q4 w1 h2 ⊢
  obtain ⟨c1, c2, c3⟩ := h2
  have e1 : w64 (a - rb) = a - rb := w64_id (by omega) (by omega)
  refine ⟨h1, hl, by omega, by omega, by omega, e1, ?_⟩
  rw [e1]
  exact w64_id (by omega) (by omega)

theorem ishl_sm (b k : Nat) (hk : k ≤ 62) (h : b * 2 ^ k < 4611686018427387904) : ishl .i64 (b : Int) (k : Int) = ((b * 2 ^ k : Nat) : Int) := by
  rw [ishl_nat _ _ (by omega)]
  have : (b : Int) * 2 ^ k = ((b * 2 ^ k : Nat) : Int) := by push_cast; rfl
  rw [this]
  exact w64_id (by omega) (by omega)

theorem bor_natM {a b : Nat} (ha : a < 9223372036854775808) (hb : b < 9223372036854775808) : bor .i64 (a : Int) (b : Int) = ((a ||| b : Nat) : Int) := by
  show w64 (BitVec.ofInt 64 (a : Int) ||| BitVec.ofInt 64 (b : Int)).toNat = _
  rw [BitVec.toNat_or, ofInt_nat (by omega), ofInt_nat (by omega)]
  have : a ||| b < 2 ^ 63 := Nat.or_lt_two_pow ha hb
  exact w64_id (by omega) (by omega)

theorem bor_sm (a b k : Nat) (hk : k ≤ 62) (ha : a < 2 ^ k) (h : b * 2 ^ k < 4611686018427387904) : bor .i64 (a : Int) (ishl .i64 (b : Int) (k : Int)) = ((b * 2 ^ k + a : Nat) : Int) := by
  have hp : (2 : Nat) ^ k ≤ 2 ^ 62 := Nat.pow_le_pow_right (by omega) hk
  rw [ishl_sm b k hk h, bor_natM (by omega) (by omega), Nat.or_comm, Nat.mul_comm b, Nat.two_pow_add_eq_or_of_lt ha]

def L_memory_Memory_Load_6 : LoopN where
  M := [10, 23, 24, 25]
  T := [11, 12, 26, 27, 28, 29, 30, 31, 32, 33, 34, 35, 36, 37]
  D := [23, 24, 25]
  ss := [.ty (.int .i64), .win 0 (.int .u8), .ty (.int .i64), .ty (.int .i64)]
  hs := [.rowc (.int .u8)]
  es := [.exit 0]
  σ := (Ty.den (.int .i64)) × (Ty.den (.int .i64)) × (Sh.den (.rowc (.int .u8)))
  x0 := fun x y => (x.1, x.2.2.2, y)
  put := fun x _ s => ((s.1, x.2.1, x.2.2.1, s.2.1), s.2.2)
  fuel := fun x _ => x.2.1.2+1
  turn := fun x _ s =>
  (.ite (decide (s.2.1 < x.2.2.1))
   (.ite (inRange s.2.1 x.2.1.2)
    (.ite (!decide (w64 (8 * s.2.1) < 0))
     (.ret (.on (bor IntKind.i64 s.1 (ishl IntKind.i64 (w64 (List.getD s.2.2 (nplus x.2.1.1 s.2.1) (Ty.dflt (Ty.int IntKind.u8)))) (w64 (8 * s.2.1))), w64 (s.2.1 + 1), s.2.2)))
     .fail)
    .fail)
   (.ret (.out 0 (s.1, s.2.1, s.2.2))))
theorem load_from (o m : Nat) (X : List Int) (hX : ∀ b ∈ X, 0 ≤ b ∧ b < 256) (ho : o + m ≤ X.length) (hm : m ≤ 4) : ∀ (k i : Nat), i + k = m → ∀ f, k < f → ∀ v : Nat, v < 2 ^ (8 * i) →
    runL (L_memory_Memory_Load_6.turn ((0 : Int), ((o, m) : Nat × Nat), (m : Int), (0 : Int)) X) f ((v : Int), (i : Int), X) = some (0, ((v : Int) + 2 ^ (8 * i) * leV ((X.drop (o + i)).take k), (m : Int), X))
  | 0, i, hi, f, hf, v, hv => by
    obtain ⟨f, rfl⟩ : ∃ g, f = g + 1 := ⟨f - 1, by omega⟩
    have him : i = m := by omega
    subst him
    refine (runL_out (c := 0) (s' := ((v : Int), (i : Int), X)) ?_).trans ?_
    · exact val_no (dec_false (by show ¬ ((i : Int) < (i : Int)); omega))
    · rw [List.take_zero]
      simp [leV]
  | k + 1, i, hi, f, hf, v, hv => by
    obtain ⟨f, rfl⟩ : ∃ g, f = g + 1 := ⟨f - 1, by omega⟩
    have hlt : o + i < X.length := by omega
    have hg : List.getD X (nplus o (i : Int)) (Ty.dflt (Ty.int IntKind.u8)) = X[o + i] := by
      rw [show nplus o (i : Int) = o + i by simp [nplus]]
      exact getD_in X _ hlt
    obtain ⟨b0, b1⟩ := hX _ (List.getElem_mem hlt)
    obtain ⟨bn, hbn⟩ : ∃ bn : Nat, X[o + i] = (bn : Int) := ⟨X[o + i].toNat, by omega⟩
    have h8 : (2 : Nat) ^ (8 * i) ≤ 2 ^ 24 := Nat.pow_le_pow_right (by omega) (by omega)
    have hp8 : (2 : Nat) ^ (8 * (i + 1)) = 2 ^ (8 * i) * 256 := by rw [show 8 * (i + 1) = 8 * i + 8 by omega, Nat.pow_add]
    have hmul : bn * 2 ^ (8 * i) ≤ 255 * 2 ^ (8 * i) := Nat.mul_le_mul_right _ (by omega)
    have e8 : w64 (8 * (i : Int)) = ((8 * i : Nat) : Int) := by rw [w64_id (by omega) (by omega)]; push_cast; rfl
    refine (runL_on (s' := (((bn * 2 ^ (8 * i) + v : Nat) : Int), ((i + 1 : Nat) : Int), X)) ?_).trans ?_
    · refine (val_yes (dec_true (by show ((i : Int) < (m : Int)); omega))).trans ((val_yes (inR (show i < m by omega))).trans ((val_yes ?_).trans ?_))
      · show (!decide (w64 (8 * (i : Int)) < 0)) = true
        rw [e8]
        simp
        omega
      · show some (TL.on (bor IntKind.i64 (v : Int) (ishl IntKind.i64 (w64 (List.getD X (nplus o (i : Int)) (Ty.dflt (Ty.int IntKind.u8)))) (w64 (8 * (i : Int)))), w64 ((i : Int) + 1), X)) = _
        rw [hg, hbn, w64_id (n := (bn : Int)) (by omega) (by omega), e8, bor_sm v bn (8 * i) (by omega) hv (by omega), w64_id (by omega) (by omega)]
        rfl
    · have := load_from o m X hX ho hm k (i + 1) (by omega) f (by omega) (bn * 2 ^ (8 * i) + v) (by rw [hp8]; omega)
      refine this.trans ?_
      rw [List.drop_eq_getElem_cons hlt, List.take_succ_cons, hbn]
      simp only [leV]
      congr 3
      rw [show (2 : Int) ^ (8 * (i + 1)) = 2 ^ (8 * i) * 256 by rw [show 8 * (i + 1) = 8 * i + 8 by omega, Int.pow_add]; rfl]
      push_cast
      generalize (2 : Int) ^ (8 * i) = p
      rw [show o + i + 1 = o + (i + 1) by omega]
      generalize leV _ = q
      grind

/-- What a load comes to. -/
def loadM (y : MemT) (a n : Int) : Int × Int × Unit :=
  match findM y.1.1 a n false with
  | (j, e, _) => bif e != 0 then (0, e, ()) else (leV ((y.2.drop (posM y j.toNat a)).take n.toNat), 0, ())

theorem findM_cases (l : List (Int × Int × Bool × Unit)) (a n : Int) (w : Bool) : (∃ e, e ≠ 0 ∧ findM l a n w = (0, e, ())) ∨ ∃ j, findX a n w l = some j ∧ (n = 1 ∨ n = 4) ∧ a.tmod n = 0 ∧ findM l a n w = ((j : Int), 0, ()) := by
  unfold findM
  cases c1 : (n != 1 && n != 4) with
  | true => exact .inl ⟨2, by decide, rfl⟩
  | false =>
    have hn : n = 1 ∨ n = 4 := by simpa only [Bool.and_eq_false_iff, bne_eq_false_iff_eq] using c1
    cases c2 : (a.tmod n != 0) with
    | true => exact .inl ⟨8, by decide, rfl⟩
    | false =>
      cases e : findX a n w l with
      | none => exact .inl ⟨8, by decide, rfl⟩
      | some j => exact .inr ⟨j, rfl, hn, by simpa only [bne_eq_false_iff_eq] using c2, rfl⟩
/-- (*memory.Memory).Load -/
abbrev SS_memory_Memory_Load : List Sh := [.box 0 0, .ty (.int .i64), .ty (.int .i64)]
abbrev HS_memory_Memory_Load : List Sh := [shMem, .rowc (.int .u8)]
abbrev S_memory_Memory_Load : Sh := Sh.tup (Sh.pair (Sh.ty (Ty.int IntKind.i64)) (Sh.pair (Sh.ty (Ty.int IntKind.i64)) (Sh.ty Ty.unit)))
abbrev HT_memory_Memory_Load : List Sh := [Sh.pair (Sh.ty (Ty.sl tSpot)) (Sh.pair (Sh.wsl none 1 (Ty.int IntKind.u8)) (Sh.ty Ty.unit)), Sh.rowc (Ty.int IntKind.u8)]
def T_memory_Memory_Load (x : shDens SS_memory_Memory_Load) (y : shDens HS_memory_Memory_Load) : PO (Sh.den S_memory_Memory_Load × shDens HT_memory_Memory_Load) :=
  (.ite (G_memmap_Find (y.1.1, x.2.1, x.2.2, false))
   (.ite ((V_memmap_Find (y.1.1, x.2.1, x.2.2, false)).2.1 != 0)
    (.ite ((V_memmap_Find (y.1.1, x.2.1, x.2.2, false)).2.1 != 0)
     (.ret ((0, (V_memmap_Find (y.1.1, x.2.1, x.2.2, false)).2.1, ()), (y.1, y.2)))
     .fail)
    (.ite (inRange (V_memmap_Find (y.1.1, x.2.1, x.2.2, false)).1 (List.length y.1.1))
     (.ite (inRange (V_memmap_Find (y.1.1, x.2.1, x.2.2, false)).1 (List.length y.1.2.1) && (decide (0 ≤ w64 (w64 (x.2.1 - (List.getD y.1.1 (Int.toNat (V_memmap_Find (y.1.1, x.2.1, x.2.2, false)).1) (Ty.dflt tRegion)).1) + x.2.2)) && decide (w64 (w64 (x.2.1 - (List.getD y.1.1 (Int.toNat (V_memmap_Find (y.1.1, x.2.1, x.2.2, false)).1) (Ty.dflt tRegion)).1) + x.2.2) ≤ Int.ofNat (wAt y.1.2.1 (V_memmap_Find (y.1.1, x.2.1, x.2.2, false)).1).2) && decide (0 ≤ w64 (x.2.1 - (List.getD y.1.1 (Int.toNat (V_memmap_Find (y.1.1, x.2.1, x.2.2, false)).1) (Ty.dflt tRegion)).1)) && decide (w64 (x.2.1 - (List.getD y.1.1 (Int.toNat (V_memmap_Find (y.1.1, x.2.1, x.2.2, false)).1) (Ty.dflt tRegion)).1) ≤ w64 (w64 (x.2.1 - (List.getD y.1.1 (Int.toNat (V_memmap_Find (y.1.1, x.2.1, x.2.2, false)).1) (Ty.dflt tRegion)).1) + x.2.2))))
      (.opt (LoopN.res L_memory_Memory_Load_6 (0, (nplus (wAt y.1.2.1 (V_memmap_Find (y.1.1, x.2.1, x.2.2, false)).1).1 (w64 (x.2.1 - (List.getD y.1.1 (Int.toNat (V_memmap_Find (y.1.1, x.2.1, x.2.2, false)).1) (Ty.dflt tRegion)).1)), nspan (w64 (x.2.1 - (List.getD y.1.1 (Int.toNat (V_memmap_Find (y.1.1, x.2.1, x.2.2, false)).1) (Ty.dflt tRegion)).1)) (w64 (w64 (x.2.1 - (List.getD y.1.1 (Int.toNat (V_memmap_Find (y.1.1, x.2.1, x.2.2, false)).1) (Ty.dflt tRegion)).1) + x.2.2))), Int.ofNat (nspan (w64 (x.2.1 - (List.getD y.1.1 (Int.toNat (V_memmap_Find (y.1.1, x.2.1, x.2.2, false)).1) (Ty.dflt tRegion)).1)) (w64 (w64 (x.2.1 - (List.getD y.1.1 (Int.toNat (V_memmap_Find (y.1.1, x.2.1, x.2.2, false)).1) (Ty.dflt tRegion)).1) + x.2.2))), 0) y.2) fun p0 =>
       (.ret ((p0.2.1, 0, ()), (y.1, p0.2.2.2))))
      .fail)
     .fail))
   .fail)
theorem ok_load (y : MemT) (a n : Int) (hy : MemWf y) (ha : a < 9223372036854775808) : (T_memory_Memory_Load ((), a, n) y).val = some (loadM y a n, y) := by
  have hG : G_memmap_Find (y.1.1, a, n, false) = true := decide_eq_true ⟨hy.regs, ha⟩
  refine (val_yes hG).trans ?_
  rcases findM_cases y.1.1 a n false with ⟨e, he, hf⟩ | ⟨j, hj, hn, _, hf⟩
  · have hV : V_memmap_Find (y.1.1, a, n, false) = (0, e, ()) := hf
    rw [hV]
    have hb : (e != 0) = true := by simpa using he
    refine (val_yes hb).trans ((val_yes hb).trans ?_)
    unfold loadM
    rw [hf]
    simp only [hb, cond_true]
    rfl
  · have hV : V_memmap_Find (y.1.1, a, n, false) = ((j : Int), 0, ()) := hf
    rw [hV]
    obtain ⟨g1, g2, g3, g4, g5, g6, g7⟩ := acc_ok hy hj hn
    have hgd : List.getD y.1.1 (Int.toNat (j : Int)) (Ty.dflt tRegion) = y.1.1.getD j rDef := by rw [Int.toNat_natCast]; rfl
    have hwa : wAt y.1.2.1 (j : Int) = y.1.2.1.getD j (0, 0) := by unfold wAt; rw [Int.toNat_natCast]
    refine (val_no rfl).trans ((val_yes (inR g1)).trans ?_)
    dsimp only
    rw [hgd, hwa, g7, g6]
    have hn4 : n.toNat ≤ 4 ∧ 0 ≤ n := by omega
    have hsp : nspan (a - (y.1.1.getD j rDef).1) (a - (y.1.1.getD j rDef).1 + n) = n.toNat := by unfold nspan; omega
    have hnp : nplus (y.1.2.1.getD j (0, 0)).1 (a - (y.1.1.getD j rDef).1) = posM y j a := rfl
    rw [hsp, hnp]
    refine (val_yes ?_).trans ?_
    · rw [inR g2]
      simp only [Bool.true_and, Bool.and_eq_true, decide_eq_true_eq]
      exact ⟨⟨⟨by omega, g4⟩, by omega⟩, by omega⟩
    · have := load_from (posM y j a) n.toNat y.2 hy.bytes g5 hn4.1 n.toNat 0 (by omega) (n.toNat + 1) (by omega) 0 (by simp)
      refine (val_opt (r := _) this).trans ?_
      unfold loadM
      rw [hf]
      simp
      rfl
def G_memory_Memory_Load (x : shDens SS_memory_Memory_Load) (y : shDens HS_memory_Memory_Load) : Bool := decide (MemWf y ∧ (show Int from x.2.1) < 9223372036854775808)
def V_memory_Memory_Load (x : shDens SS_memory_Memory_Load) (y : shDens HS_memory_Memory_Load) : Sh.den S_memory_Memory_Load × shDens HT_memory_Memory_Load := (loadM y x.2.1 x.2.2, y)
theorem ok_memory_Memory_Load (x : shDens SS_memory_Memory_Load) (y : shDens HS_memory_Memory_Load) (h : G_memory_Memory_Load x y = true) : (T_memory_Memory_Load x y).val = some (V_memory_Memory_Load x y) :=
  have h' := of_decide_eq_true h
  ok_load y x.2.1 x.2.2 h'.1 h'.2
/-- (*memory.Memory).Store -/
abbrev SS_memory_Memory_Store : List Sh := [.box 0 0, .ty (.int .i64), .ty (.int .i64), .ty (.int .i64)]
abbrev HS_memory_Memory_Store : List Sh := [shMem, .rowc (.int .u8)]
abbrev S_memory_Memory_Store : Sh := Sh.ty (Ty.int IntKind.i64)
abbrev HT_memory_Memory_Store : List Sh := [Sh.pair (Sh.ty (Ty.sl tSpot)) (Sh.pair (Sh.wsl none 1 (Ty.int IntKind.u8)) (Sh.ty Ty.unit)), Sh.rowc (Ty.int IntKind.u8)]
def T_memory_Memory_Store (x : shDens SS_memory_Memory_Store) (y : shDens HS_memory_Memory_Store) : PO (Sh.den S_memory_Memory_Store × shDens HT_memory_Memory_Store) :=
  (.ite (G_memmap_Find (y.1.1, x.2.1, x.2.2.1, true))
   (.ite ((V_memmap_Find (y.1.1, x.2.1, x.2.2.1, true)).2.1 != 0)
    (.ite ((V_memmap_Find (y.1.1, x.2.1, x.2.2.1, true)).2.1 != 0)
     (.ret ((V_memmap_Find (y.1.1, x.2.1, x.2.2.1, true)).2.1, (y.1, y.2)))
     .fail)
    (.ite (inRange (V_memmap_Find (y.1.1, x.2.1, x.2.2.1, true)).1 (List.length y.1.1))
     (.ite (inRange (V_memmap_Find (y.1.1, x.2.1, x.2.2.1, true)).1 (List.length y.1.2.1) && (decide (0 ≤ w64 (w64 (x.2.1 - (List.getD y.1.1 (Int.toNat (V_memmap_Find (y.1.1, x.2.1, x.2.2.1, true)).1) (Ty.dflt tRegion)).1) + x.2.2.1)) && decide (w64 (w64 (x.2.1 - (List.getD y.1.1 (Int.toNat (V_memmap_Find (y.1.1, x.2.1, x.2.2.1, true)).1) (Ty.dflt tRegion)).1) + x.2.2.1) ≤ Int.ofNat (wAt y.1.2.1 (V_memmap_Find (y.1.1, x.2.1, x.2.2.1, true)).1).2) && decide (0 ≤ w64 (x.2.1 - (List.getD y.1.1 (Int.toNat (V_memmap_Find (y.1.1, x.2.1, x.2.2.1, true)).1) (Ty.dflt tRegion)).1)) && decide (w64 (x.2.1 - (List.getD y.1.1 (Int.toNat (V_memmap_Find (y.1.1, x.2.1, x.2.2.1, true)).1) (Ty.dflt tRegion)).1) ≤ w64 (w64 (x.2.1 - (List.getD y.1.1 (Int.toNat (V_memmap_Find (y.1.1, x.2.1, x.2.2.1, true)).1) (Ty.dflt tRegion)).1) + x.2.2.1))))
      (.ret (0, (y.1, mend y.2 (nplus (wAt y.1.2.1 (V_memmap_Find (y.1.1, x.2.1, x.2.2.1, true)).1).1 (w64 (x.2.1 - (List.getD y.1.1 (Int.toNat (V_memmap_Find (y.1.1, x.2.1, x.2.2.1, true)).1) (Ty.dflt tRegion)).1))) (strInts (V_word_Bytes x.2.2.2)) (nspan (w64 (x.2.1 - (List.getD y.1.1 (Int.toNat (V_memmap_Find (y.1.1, x.2.1, x.2.2.1, true)).1) (Ty.dflt tRegion)).1)) (w64 (w64 (x.2.1 - (List.getD y.1.1 (Int.toNat (V_memmap_Find (y.1.1, x.2.1, x.2.2.1, true)).1) (Ty.dflt tRegion)).1) + x.2.2.1))))))
      .fail)
     .fail))
   .fail)
/-- A word's bytes, the least first. -/
def bytes4 (v : Int) : List Int := strInts (V_word_Bytes v)

/-- What a store comes to. -/
def storeM (y : MemT) (a n v : Int) : Int × MemT :=
  match findM y.1.1 a n true with
  | (j, e, _) => bif e != 0 then (e, y) else (0, (y.1, mend y.2 (posM y j.toNat a) (bytes4 v) n.toNat))

theorem ok_store (y : MemT) (a n v : Int) (hy : MemWf y) (ha : a < 9223372036854775808) : (T_memory_Memory_Store ((), a, n, v) y).val = some (storeM y a n v) := by
  have hG : G_memmap_Find (y.1.1, a, n, true) = true := decide_eq_true ⟨hy.regs, ha⟩
  refine (val_yes hG).trans ?_
  rcases findM_cases y.1.1 a n true with ⟨e, he, hf⟩ | ⟨j, hj, hn, _, hf⟩
  · have hV : V_memmap_Find (y.1.1, a, n, true) = (0, e, ()) := hf
    rw [hV]
    have hb : (e != 0) = true := by simpa using he
    refine (val_yes hb).trans ((val_yes hb).trans ?_)
    unfold storeM
    rw [hf]
    simp only [hb, cond_true]
    rfl
  · have hV : V_memmap_Find (y.1.1, a, n, true) = ((j : Int), 0, ()) := hf
    rw [hV]
    obtain ⟨g1, g2, g3, g4, g5, g6, g7⟩ := acc_ok hy hj hn
    have hgd : List.getD y.1.1 (Int.toNat (j : Int)) (Ty.dflt tRegion) = y.1.1.getD j rDef := by rw [Int.toNat_natCast]; rfl
    have hwa : wAt y.1.2.1 (j : Int) = y.1.2.1.getD j (0, 0) := by unfold wAt; rw [Int.toNat_natCast]
    refine (val_no rfl).trans ((val_yes (inR g1)).trans ?_)
    dsimp only
    rw [hgd, hwa, g7, g6]
    have hn4 : n.toNat ≤ 4 ∧ 0 ≤ n := by omega
    have hsp : nspan (a - (y.1.1.getD j rDef).1) (a - (y.1.1.getD j rDef).1 + n) = n.toNat := by unfold nspan; omega
    have hnp : nplus (y.1.2.1.getD j (0, 0)).1 (a - (y.1.1.getD j rDef).1) = posM y j a := rfl
    rw [hsp, hnp]
    refine (val_yes ?_).trans ?_
    · rw [inR g2]
      simp only [Bool.true_and, Bool.and_eq_true, decide_eq_true_eq]
      exact ⟨⟨⟨by omega, g4⟩, by omega⟩, by omega⟩
    · unfold storeM
      rw [hf]
      rfl
def G_memory_Memory_Store (x : shDens SS_memory_Memory_Store) (y : shDens HS_memory_Memory_Store) : Bool := decide (MemWf y ∧ (show Int from x.2.1) < 9223372036854775808)
def V_memory_Memory_Store (x : shDens SS_memory_Memory_Store) (y : shDens HS_memory_Memory_Store) : Sh.den S_memory_Memory_Store × shDens HT_memory_Memory_Store := storeM y x.2.1 x.2.2.1 x.2.2.2
theorem ok_memory_Memory_Store (x : shDens SS_memory_Memory_Store) (y : shDens HS_memory_Memory_Store) (h : G_memory_Memory_Store x y = true) : (T_memory_Memory_Store x y).val = some (V_memory_Memory_Store x y) :=
  have h' := of_decide_eq_true h
  ok_store y x.2.1 x.2.2.1 x.2.2.2 h'.1 h'.2
/-- (*memory.Memory).Region -/
abbrev SS_memory_Memory_Region : List Sh := [.box 0 0, .ty (.int .i64)]
abbrev HS_memory_Memory_Region : List Sh := [shMem, .rowc (.int .u8)]
abbrev S_memory_Memory_Region : Sh := Sh.tup (Sh.pair (Sh.ty Ty.str) (Sh.pair (Sh.ty (Ty.int IntKind.i64)) (Sh.ty Ty.unit)))
abbrev HT_memory_Memory_Region : List Sh := [Sh.pair (Sh.ty (Ty.sl tSpot)) (Sh.pair (Sh.wsl none 1 (Ty.int IntKind.u8)) (Sh.ty Ty.unit)), Sh.rowc (Ty.int IntKind.u8)]
def T_memory_Memory_Region (x : shDens SS_memory_Memory_Region) (y : shDens HS_memory_Memory_Region) : PO (Sh.den S_memory_Memory_Region × shDens HT_memory_Memory_Region) :=
  (.ite (decide (x.2 < 0) || decide (x.2 ≥ lenI y.1.2.1))
   (.ret (([], 2, ()), (y.1, y.2)))
   (.ite (inRange x.2 (List.length y.1.2.1))
    (.ret ((bytesOf (shown y.2 (wAt y.1.2.1 x.2)), 0, ()), (y.1, y.2)))
    .fail))
/-- What a region shows. -/
def regionM (y : MemT) (k : Int) : List UInt8 × Int × Unit := bif decide (k < 0) || decide (k ≥ lenI y.1.2.1) then ([], 2, ()) else (bytesOf (shown y.2 (wAt y.1.2.1 k)), 0, ())
def G_memory_Memory_Region (_ : shDens SS_memory_Memory_Region) (_ : shDens HS_memory_Memory_Region) : Bool := true
def V_memory_Memory_Region (x : shDens SS_memory_Memory_Region) (y : shDens HS_memory_Memory_Region) : Sh.den S_memory_Memory_Region × shDens HT_memory_Memory_Region := (regionM y x.2, y)
theorem ok_memory_Memory_Region (x : shDens SS_memory_Memory_Region) (y : shDens HS_memory_Memory_Region) (_ : G_memory_Memory_Region x y = true) : (T_memory_Memory_Region x y).val = some (V_memory_Memory_Region x y) := by
  obtain ⟨⟨⟩, k⟩ := x
  show (PO.ite (decide ((k : Int) < 0) || decide ((k : Int) ≥ lenI y.1.2.1)) _ _).val = some (regionM y k, y)
  unfold regionM
  cases c : (decide ((k : Int) < 0) || decide ((k : Int) ≥ lenI y.1.2.1)) with
  | true => rfl
  | false =>
    simp only [Bool.or_eq_false_iff, decide_eq_false_iff_not] at c
    refine (val_no rfl).trans ((val_yes ?_).trans rfl)
    show inRange k (List.length y.1.2.1) = true
    have h1 : ¬ ((k : Int) < 0) := c.1
    have h2 : ¬ ((k : Int) ≥ ((List.length y.1.2.1 : Nat) : Int)) := c.2
    simp only [inRange, Bool.and_eq_true, decide_eq_true_eq]
    exact ⟨Int.not_lt.1 h1, Int.not_le.1 h2⟩
/-- memmap.Regions -/
abbrev A_memmap_Regions : List Ty := [tSizes, (.int .i64)]
abbrev S_memmap_Regions : Sh := Sh.tup (Sh.pair (Sh.osl 32 tSpot) (Sh.pair (Sh.ty (Ty.int IntKind.i64)) (Sh.ty Ty.unit)))
def T_memmap_Regions (x : dens A_memmap_Regions) : PO (Sh.den S_memmap_Regions) :=
  (.ite (V_memmap_Check x != 0)
   (.ret (([], V_memmap_Check x, ())))
   (.ret (([(0, x.2, false, ()), (536936448, x.1.1, true, ()), (537001984, x.1.2.1, true, ()), (537133056, x.1.2.2.1, true, ()), (537395200, x.1.2.2.1, true, ()), (537919488, 4, true, ()), (538968064, 4, true, ())], 0, ()))))
def G_memmap_Regions (_ : dens A_memmap_Regions) : Bool := true
def V_memmap_Regions (x : dens A_memmap_Regions) : Sh.den S_memmap_Regions := (T_memmap_Regions x).getO default
theorem ok_memmap_Regions (x : dens A_memmap_Regions) (_ : G_memmap_Regions x = true) : (T_memmap_Regions x).val = some (V_memmap_Regions x) := PO.sure_ok default (by simp [T_memmap_Regions, PO.sure])
def L_memory_New_8 : LoopN where
  M := [1, 2, 8, 10, 32, 33, 34]
  T := [12, 35, 36, 37, 38, 39, 40, 41, 42]
  D := [32, 33, 34]
  ss := [.ty .str, .ty .str, .ty (.sl tRegion), .ty (.int .i64), .ty (.sl tRegion), .ty (.int .i64), .ty (.int .i64)]
  hs := []
  es := [.exit 0]
  σ := (Ty.den (.int .i64)) × (Ty.den (.int .i64))
  x0 := fun x _ => (x.2.2.2.1, x.2.2.2.2.2.2)
  put := fun x _ s => ((x.1, x.2.1, x.2.2.1, s.1, x.2.2.2.2.1, x.2.2.2.2.2.1, s.2), ())
  fuel := fun x _ => List.length x.2.2.2.2.1 + 1
  turn := fun x _ s =>
  (.ite (decide (s.2 < x.2.2.2.2.2.1))
   (.ite (inRange s.2 (List.length x.2.2.2.2.1))
    (.ret (.on (w64 (s.1 + (List.getD x.2.2.2.2.1 (Int.toNat s.2) (Ty.dflt tRegion)).2.1), w64 (s.2 + 1))))
    .fail)
   (.ret (.out 0 (s.1, s.2))))
def L_memory_New_15 : LoopN where
  M := [1, 2, 13, 14, 48, 49, 50]
  T := [16, 51, 52, 53, 54, 55, 56, 57, 58, 59, 60, 61, 62, 63, 64, 65, 66, 67, 68, 69, 70, 71]
  D := [14, 48, 49, 50]
  ss := [.ty .str, .ty .str, .box 0 0, .win 1 (.int .u8), .ty (.sl tRegion), .ty (.int .i64), .ty (.int .i64)]
  hs := [shMemO, .rowc (.int .u8)]
  es := [.exit 2]
  σ := (Sh.den (.win 1 (.int .u8))) × (Ty.den (.int .i64)) × (Sh.den (shMemO)) × (Sh.den (.rowc (.int .u8)))
  x0 := fun x y => (x.2.2.2.1, x.2.2.2.2.2.2, y.1, y.2)
  put := fun x _ s => ((x.1, x.2.1, x.2.2.1, s.1, x.2.2.2.2.1, x.2.2.2.2.2.1, s.2.1), (s.2.2.1, s.2.2.2))
  fuel := fun x _ => List.length x.2.2.2.2.1+1
  turn := fun x _ s =>
  (.ite (decide (s.2.1 < x.2.2.2.2.2.1))
   (.ite (inRange s.2.1 (List.length x.2.2.2.2.1))
    (.ite (decide (0 ≤ (List.getD x.2.2.2.2.1 (Int.toNat s.2.1) (Ty.dflt tRegion)).2.1) && decide ((List.getD x.2.2.2.2.1 (Int.toNat s.2.1) (Ty.dflt tRegion)).2.1 ≤ Int.ofNat s.1.2) && true && decide (0 ≤ (List.getD x.2.2.2.2.1 (Int.toNat s.2.1) (Ty.dflt tRegion)).2.1))
     (.ite (wroom s.2.2.1.2.1 [(nplus s.1.1 0, nspan 0 (List.getD x.2.2.2.2.1 (Int.toNat s.2.1) (Ty.dflt tRegion)).2.1)] 24)
      (.ite (decide (Int.ofNat s.1.2 ≤ Int.ofNat s.1.2) && decide (0 ≤ (List.getD x.2.2.2.2.1 (Int.toNat s.2.1) (Ty.dflt tRegion)).2.1) && decide ((List.getD x.2.2.2.2.1 (Int.toNat s.2.1) (Ty.dflt tRegion)).2.1 ≤ Int.ofNat s.1.2))
       (.ret (.on ((nplus s.1.1 (List.getD x.2.2.2.2.1 (Int.toNat s.2.1) (Ty.dflt tRegion)).2.1, nspan (List.getD x.2.2.2.2.1 (Int.toNat s.2.1) (Ty.dflt tRegion)).2.1 (Int.ofNat s.1.2)), w64 (s.2.1 + 1), (s.2.2.1.1, s.2.2.1.2.1 ++ [(nplus s.1.1 0, nspan 0 (List.getD x.2.2.2.2.1 (Int.toNat s.2.1) (Ty.dflt tRegion)).2.1)], s.2.2.1.2.2), s.2.2.2)))
       .fail)
      .fail)
     .fail)
    .fail)
   (.ret (.out 0 (s.1, s.2.1, s.2.2.1, s.2.2.2))))

/-! ### A new memory -/
/-- How long all regions are. -/
def sumL : List (Int × Int × Bool × Unit) → Nat
  | [] => 0
  | r :: l => r.2.1.toNat + sumL l

/-- Regions' windows, one behind the other. -/
def winsOf (o : Nat) : List (Int × Int × Bool × Unit) → List (Nat × Nat)
  | [] => []
  | r :: l => (o, r.2.1.toNat) :: winsOf (o + r.2.1.toNat) l

theorem winsOf_length : ∀ (l : List (Int × Int × Bool × Unit)) (o : Nat), (winsOf o l).length = l.length
  | [], _ => rfl
  | _ :: l, o => by simp [winsOf, winsOf_length l]

theorem winsOf_get : ∀ (l : List (Int × Int × Bool × Unit)) (o i : Nat), i < l.length → ((winsOf o l).getD i (0, 0)).2 = (l.getD i rDef).2.1.toNat ∧ ((winsOf o l).getD i (0, 0)).1 + ((winsOf o l).getD i (0, 0)).2 ≤ o + sumL l
  | [], _, _, h => by cases h
  | r :: l, o, 0, _ => ⟨rfl, by simp only [winsOf, sumL, List.getD_cons_zero]; omega⟩
  | r :: l, o, i + 1, h => by
    obtain ⟨h1, h2⟩ := winsOf_get l (o + r.2.1.toNat) i (by simpa using h)
    exact ⟨h1, by simp only [winsOf, sumL, List.getD_cons_succ]; omega⟩

theorem sum_from (a b : List UInt8) (l : List (Int × Int × Bool × Unit)) (hl : l.length < 1048576) (hr : ∀ r ∈ l, 0 ≤ r.2.1) (hs : sumL l < 1099511627776) :
    ∀ (k i : Nat), i + k = l.length → ∀ f, k < f → ∀ v : Nat, v + sumL (l.drop i) < 1099511627776 → runL (L_memory_New_8.turn (a, b, l, 0, l, lenI l, 0) ()) f ((v : Int), (i : Int)) = some (0, ((v + sumL (l.drop i) : Nat) : Int), (l.length : Int))
  | 0, i, hi, f, hf, v, hv => by
    obtain ⟨f, rfl⟩ : ∃ g, f = g + 1 := ⟨f - 1, by omega⟩
    have hil : i = l.length := by omega
    subst hil
    refine (runL_out (c := 0) (s' := ((v : Int), (l.length : Int))) ?_).trans ?_
    · exact val_no (dec_false (by show ¬ ((l.length : Int) < ((List.length l : Nat) : Int)); omega))
    · rw [List.drop_length]
      rfl
  | k + 1, i, hi, f, hf, v, hv => by
    obtain ⟨f, rfl⟩ : ∃ g, f = g + 1 := ⟨f - 1, by omega⟩
    have hlt : i < l.length := by omega
    have hd : l.drop i = l[i] :: l.drop (i + 1) := List.drop_eq_getElem_cons hlt
    have hg : List.getD l (Int.toNat (i : Int)) (Ty.dflt tRegion) = l[i] := by rw [Int.toNat_natCast]; exact getD_in l _ hlt
    have h0 := hr _ (List.getElem_mem hlt)
    rw [hd] at hv ⊢
    simp only [sumL] at hv ⊢
    refine (runL_on (s' := (((v + (l[i]).2.1.toNat : Nat) : Int), ((i + 1 : Nat) : Int))) ?_).trans ?_
    · refine (val_yes (dec_true (by show ((i : Int) < ((List.length l : Nat) : Int)); omega))).trans ((val_yes (inR hlt)).trans ?_)
      show some (TL.on (w64 ((v : Int) + (List.getD l (Int.toNat (i : Int)) (Ty.dflt tRegion)).2.1), w64 ((i : Int) + 1))) = _
      rw [hg, w64_id (n := (i : Int) + 1) (by omega) (by omega), w64_id (n := (v : Int) + (l[i]).2.1) (by omega) (by omega)]
      congr 3
      omega
    · refine (sum_from a b l hl hr hs k (i + 1) (by omega) f (by omega) (v + (l[i]).2.1.toNat) (by omega)).trans ?_
      congr 3
      omega

theorem wins_from (a b : List UInt8) (l : List (Int × Int × Bool × Unit)) (X : List Int) (hl : l.length < 1048576) (hr : ∀ r ∈ l, 0 ≤ r.2.1) (y0 : MemT) (x0 : Nat × Nat) :
    ∀ (k i : Nat), i + k = l.length → ∀ f, k < f → ∀ (o m : Nat) (W : List (Nat × Nat)), W.length = i → m = sumL (l.drop i) → runL (L_memory_New_15.turn (a, b, (), x0, l, lenI l, 0) y0) f ((o, m), (i : Int), (l, W, ()), X) = some (0, ((o + m, 0), (l.length : Int), (l, W ++ winsOf o (l.drop i), ()), X))
  | 0, i, hi, f, hf, o, m, W, hW, hm => by
    obtain ⟨f, rfl⟩ : ∃ g, f = g + 1 := ⟨f - 1, by omega⟩
    have hil : i = l.length := by omega
    subst hil
    rw [List.drop_length] at hm
    have : m = 0 := hm
    subst this
    refine (runL_out (c := 0) (s' := ((o, 0), (l.length : Int), (l, W, ()), X)) ?_).trans ?_
    · exact val_no (dec_false (by show ¬ ((l.length : Int) < ((List.length l : Nat) : Int)); omega))
    · rw [List.drop_length]
      simp [winsOf]
  | k + 1, i, hi, f, hf, o, m, W, hW, hm => by
    obtain ⟨f, rfl⟩ : ∃ g, f = g + 1 := ⟨f - 1, by omega⟩
    have hlt : i < l.length := by omega
    have hd : l.drop i = l[i] :: l.drop (i + 1) := List.drop_eq_getElem_cons hlt
    have hg : List.getD l (Int.toNat (i : Int)) (Ty.dflt tRegion) = l[i] := by rw [Int.toNat_natCast]; exact getD_in l _ hlt
    have h0 := hr _ (List.getElem_mem hlt)
    rw [hd] at hm ⊢
    simp only [sumL] at hm
    simp only [winsOf]
    obtain ⟨n, hn⟩ : ∃ n : Nat, (l[i]).2.1 = (n : Int) := ⟨(l[i]).2.1.toNat, by omega⟩
    rw [hn] at hm ⊢
    rw [Int.toNat_natCast] at hm ⊢
    refine (runL_on (s' := ((o + n, m - n), ((i + 1 : Nat) : Int), (l, W ++ [(o, n)], ()), X)) ?_).trans ?_
    · refine (val_yes (dec_true (by show ((i : Int) < ((List.length l : Nat) : Int)); omega))).trans ((val_yes (inR hlt)).trans ?_)
      dsimp only
      rw [hg, hn]
      refine (val_yes ?_).trans ((val_yes ?_).trans ((val_yes ?_).trans ?_))
      · simp only [Bool.and_true, Bool.and_eq_true, decide_eq_true_eq]
        refine ⟨⟨Int.natCast_nonneg n, ?_⟩, Int.natCast_nonneg n⟩
        show (n : Int) ≤ (m : Int)
        omega
      · unfold wroom
        rw [Nat.ble_eq]
        simp
        omega
      · simp only [Bool.and_eq_true, decide_eq_true_eq]
        refine ⟨⟨Int.le_refl _, Int.natCast_nonneg n⟩, ?_⟩
        show (n : Int) ≤ (m : Int)
        omega
      · rw [w64_id (n := (i : Int) + 1) (by omega) (by omega)]
        have e1 : nplus o (n : Int) = o + n := by simp [nplus]
        have e2 : nspan (n : Int) (Int.ofNat m) = m - n := by simp [nspan]
        have e3 : nplus o 0 = o := by simp [nplus]
        have e4 : nspan 0 (n : Int) = n := by simp [nspan]
        rw [e1, e2, e3, e4]
        rfl
    · refine (wins_from a b l X hl hr y0 x0 k (i + 1) (by omega) f (by omega) (o + n) (m - n) (W ++ [(o, n)]) (by simp [hW]) (by omega)).trans ?_
      rw [List.append_assoc, show o + n + (m - n) = o + m by omega]
      rfl

theorem res_8 (a b : List UInt8) (l : List (Int × Int × Bool × Unit)) (hl : l.length < 1048576) (hr : ∀ r ∈ l, 0 ≤ r.2.1) (hs : sumL l < 1099511627776) :
    LoopN.res L_memory_New_8 (a, b, l, 0, l, lenI l, 0) () = some (0, ((sumL l : Nat) : Int), (l.length : Int)) := by
  refine (sum_from a b l hl hr hs l.length 0 (Nat.zero_add _) (l.length + 1) (Nat.lt_succ_self _) 0 (by rw [List.drop_zero]; omega)).trans ?_
  rw [List.drop_zero, Nat.zero_add]

theorem res_15 (a b : List UInt8) (l : List (Int × Int × Bool × Unit)) (X : List Int) (hl : l.length < 1048576) (hr : ∀ r ∈ l, 0 ≤ r.2.1) :
    LoopN.res L_memory_New_15 (a, b, (), (0, sumL l), l, lenI l, 0) ((l, [], ()), X) = some (0, ((sumL l, 0), (l.length : Int), (l, winsOf 0 l, ()), X)) := by
  refine (wins_from a b l X hl hr ((l, [], ()), X) (0, sumL l) l.length 0 (Nat.zero_add _) (l.length + 1) (Nat.lt_succ_self _) 0 (sumL l) [] rfl (by rw [List.drop_zero])).trans ?_
  rw [List.drop_zero, Nat.zero_add, List.nil_append]

/-- A memory that is new: regions, windows one behind the other, the first two filled. -/
def newM (l : List (Int × Int × Bool × Unit)) (fl inp : List UInt8) : MemT :=
  ((l, winsOf 0 l, ()), mend (mend (zeros ((sumL l : Nat) : Int) 0) (wAt (winsOf 0 l) 0).1 (strInts fl) (wAt (winsOf 0 l) 0).2) (wAt (winsOf 0 l) 1).1 (strInts inp) (wAt (winsOf 0 l) 1).2)

theorem newM_wf (l : List (Int × Int × Bool × Unit)) (fl inp : List UInt8) (h : RegsOk l) (h2 : 2 ≤ l.length) : MemWf (newM l fl inp) := by
  have hz : (zeros ((sumL l : Nat) : Int) (0 : Int)).length = sumL l := by simp [zeros]
  have w : ∀ i, i < l.length → (wAt (winsOf 0 l) (i : Int)).1 + (wAt (winsOf 0 l) (i : Int)).2 ≤ sumL l := fun i hi => by
    have := (winsOf_get l 0 i hi).2
    unfold wAt
    rw [Int.toNat_natCast]
    omega
  have w0 := w 0 (by omega)
  have w1 := w 1 (by omega)
  have l1 : (mend (zeros ((sumL l : Nat) : Int) (0 : Int)) (wAt (winsOf 0 l) 0).1 (strInts fl) (wAt (winsOf 0 l) 0).2).length = sumL l := by
    unfold mend
    simp only [List.length_append, List.length_take, List.length_drop, hz]
    have := w0
    change (wAt (winsOf 0 l) 0).1 + (wAt (winsOf 0 l) 0).2 ≤ sumL l at this
    omega
  have l2 : (newM l fl inp).2.length = sumL l := by
    show (mend _ (wAt (winsOf 0 l) 1).1 (strInts inp) (wAt (winsOf 0 l) 1).2).length = sumL l
    unfold mend at l1 ⊢
    simp only [List.length_append, List.length_take, List.length_drop] at l1 ⊢
    have := w1
    change (wAt (winsOf 0 l) 1).1 + (wAt (winsOf 0 l) 1).2 ≤ sumL l at this
    omega
  refine ⟨h, (winsOf_length l 0).symm, fun i hi => ?_, fun b hb => ?_⟩
  · obtain ⟨g1, g2⟩ := winsOf_get l 0 i hi
    refine ⟨?_, ?_⟩
    · show (((winsOf 0 l).getD i (0, 0)).2 : Int) = (l.getD i rDef).2.1
      rw [g1]
      have hr : RegOk (l.getD i rDef) := by rw [getD_in l rDef hi]; exact h.2 _ (List.getElem_mem hi)
      exact Int.toNat_of_nonneg hr.2.1
    · rw [l2]
      show ((winsOf 0 l).getD i (0, 0)).1 + ((winsOf 0 l).getD i (0, 0)).2 ≤ sumL l
      omega
  · have sb : ∀ (l : List UInt8), ∀ b ∈ strInts l, 0 ≤ b ∧ b < 256 := fun l b hb => by
      obtain ⟨u, _, rfl⟩ := List.mem_map.1 hb
      have := u.toNat_lt
      omega
    have mm : ∀ {xs ys : List Int} {o n : Nat} {b : Int}, b ∈ mend xs o ys n → b ∈ xs ∨ b ∈ ys := fun h => by
      unfold mend at h
      rcases List.mem_append.1 h with h | h
      · rcases List.mem_append.1 h with h | h
        · exact .inl (List.mem_of_mem_take h)
        · exact .inr (List.mem_of_mem_take h)
      · exact .inl (List.mem_of_mem_drop h)
    rcases mm (show b ∈ mend _ _ _ _ from hb) with h | h
    · rcases mm h with h | h
      · have : b = 0 := List.eq_of_mem_replicate h
        omega
      · exact sb _ b h
    · exact sb _ b h
end Go.Av
end
/-! What is read of a memory that is shown, not changed. -/
section
namespace Go.Av
open Go

/-- A memory as fixed data. -/
abbrev tMem : Ty := .pair (.sl tRegion) (.pair (.sl (.sl (.int .u8))) .unit)

/-- hauberklaw27.Bytes -/
abbrev SS_hauberklaw27_Bytes : List Sh := [.ref tMem 0, .ty (.int .i64)]
abbrev S_hauberklaw27_Bytes : Sh := Sh.ty Ty.str
def T_hauberklaw27_Bytes (x : shDens SS_hauberklaw27_Bytes) : PO (Sh.den S_hauberklaw27_Bytes) :=
  (.ite (decide (x.2 < 0) || decide (x.2 ≥ lenI x.1.2.1))
   (.ret ([]))
   (.ite (inRange x.2 (List.length x.1.2.1))
    (.ret (List.map toByte (List.getD x.1.2.1 (Int.toNat x.2) (Ty.dflt (Ty.sl (Ty.int IntKind.u8))))))
    .fail))
/-- A region's bytes. -/
def bytesR (rows : List (List Int)) (k : Int) : List UInt8 := bif decide (k < 0) || decide (k ≥ lenI rows) then [] else List.map toByte (rows.getD (Int.toNat k) [])
theorem ok_bytes (l : List tRegion.den) (rows : List (List Int)) (k : Int) : (T_hauberklaw27_Bytes ((l, rows, ()), k)).val = some (bytesR rows k) := by
  show (PO.ite (decide (k < 0) || decide (k ≥ lenI rows)) _ _).val = some (bytesR rows k)
  unfold bytesR
  cases c : (decide (k < 0) || decide (k ≥ lenI rows)) with
  | true => rfl
  | false =>
    simp only [Bool.or_eq_false_iff, decide_eq_false_iff_not] at c
    refine (val_no rfl).trans ((val_yes ?_).trans rfl)
    show inRange k (List.length rows) = true
    have h2 : ¬ (k ≥ ((List.length rows : Nat) : Int)) := c.2
    simp only [inRange, Bool.and_eq_true, decide_eq_true_eq]
    exact ⟨Int.not_lt.1 c.1, Int.not_le.1 h2⟩
def G_hauberklaw27_Bytes (_ : shDens SS_hauberklaw27_Bytes) : Bool := true
def V_hauberklaw27_Bytes (x : shDens SS_hauberklaw27_Bytes) : Sh.den S_hauberklaw27_Bytes := bytesR x.1.2.1 x.2
theorem ok_hauberklaw27_Bytes (x : shDens SS_hauberklaw27_Bytes) (_ : G_hauberklaw27_Bytes x = true) : (T_hauberklaw27_Bytes x).val = some (V_hauberklaw27_Bytes x) := ok_bytes x.1.1 x.1.2.1 x.2
end Go.Av
end
/-! Layer 2: instructions. -/
section
namespace Go.Av
open Go
/-- thumb.within -/
abbrev A_thumb_within : List Ty := [(.int .i64), (.int .i64), (.int .i64)]
abbrev S_thumb_within : Sh := Sh.ty Ty.bool
def T_thumb_within (x : dens A_thumb_within) : PO (Sh.den S_thumb_within) :=
  (.ret (decide (x.1 ≥ x.2.1) && decide (x.1 ≤ x.2.2)))
def G_thumb_within (_ : dens A_thumb_within) : Bool := true
def V_thumb_within (x : dens A_thumb_within) : Sh.den S_thumb_within := (T_thumb_within x).getO default
theorem ok_thumb_within (x : dens A_thumb_within) (_ : G_thumb_within x = true) : (T_thumb_within x).val = some (V_thumb_within x) := PO.sure_ok default (by simp [T_thumb_within, PO.sure])
/-- thumb.field -/
abbrev A_thumb_field : List Ty := [(.int .i64), (.int .i64)]
abbrev S_thumb_field : Sh := Sh.ty Ty.bool
def T_thumb_field (x : dens A_thumb_field) : PO (Sh.den S_thumb_field) :=
  (.ite (x.2 == -1)
   (.ret (x.1 == 0))
   (.ret (V_thumb_within (x.1, 0, x.2))))
def G_thumb_field (_ : dens A_thumb_field) : Bool := true
def V_thumb_field (x : dens A_thumb_field) : Sh.den S_thumb_field := (T_thumb_field x).getO default
theorem ok_thumb_field (x : dens A_thumb_field) (_ : G_thumb_field x = true) : (T_thumb_field x).val = some (V_thumb_field x) := PO.sure_ok default (by simp [T_thumb_field, PO.sure])
/-- thumb.formOf -/
abbrev A_thumb_formOf : List Ty := [(.int .i64)]
abbrev S_thumb_formOf : Sh := Sh.tup (Sh.pair (Sh.ty tOp) (Sh.pair (Sh.ty Ty.bool) (Sh.ty Ty.unit)))
def T_thumb_formOf (x : dens A_thumb_formOf) : PO (Sh.den S_thumb_formOf) :=
  (.ite (x == 1)
   (.ret (((-1, -1, -1, -1, 0, 0, ()), true, ())))
   (.ite (x == 2)
    (.ret (((-1, -1, -1, -1, 0, 255, ()), true, ())))
    (.ite (bif x == 3 then x == 3 else x == 4)
     (.ret (((12, -1, -1, -1, 0, 65535, ()), true, ())))
     (.ite (x == 5)
      (.ret (((12, -1, 12, -1, 0, 31, ()), true, ())))
      (.ite (bif x == 6 then x == 6 else bif x == 7 then x == 7 else x == 8)
       (.ret (((12, -1, 12, -1, 1, 31, ()), true, ())))
       (.ite (x == 9)
        (.ret (((12, -1, 12, -1, 0, 0, ()), true, ())))
        (.ite (bif x == 10 then x == 10 else bif x == 11 then x == 11 else bif x == 12 then x == 12 else bif x == 13 then x == 13 else bif x == 14 then x == 14 else bif x == 15 then x == 15 else x == 16)
         (.ret (((12, 12, 12, -1, 0, 0, ()), true, ())))
         (.ite (x == 17)
          (.ret (((12, 12, 12, 12, 0, 0, ()), true, ())))
          (.ite (x == 18)
           (.ret (((12, 12, -1, 32, 0, 31, ()), true, ())))
           (.ite (bif x == 19 then x == 19 else bif x == 20 then x == 20 else bif x == 21 then x == 21 else x == 22)
            (.ret (((7, 7, -1, -1, 0, 0, ()), true, ())))
            (.ite (x == 23)
             (.ret (((-1, 7, 7, -1, 0, 0, ()), true, ())))
             (.ret (((0, 0, 0, 0, 0, 0, ()), false, ()))))))))))))))
def G_thumb_formOf (_ : dens A_thumb_formOf) : Bool := true
def V_thumb_formOf (x : dens A_thumb_formOf) : Sh.den S_thumb_formOf := (T_thumb_formOf x).getO default
theorem ok_thumb_formOf (x : dens A_thumb_formOf) (_ : G_thumb_formOf x = true) : (T_thumb_formOf x).val = some (V_thumb_formOf x) := PO.sure_ok default (by simp [T_thumb_formOf, PO.sure])
/-- thumb.Reach -/
abbrev A_thumb_Reach : List Ty := [(.int .i64), .bool]
abbrev S_thumb_Reach : Sh := Sh.tup (Sh.pair (Sh.ty (Ty.int IntKind.i64)) (Sh.pair (Sh.ty (Ty.int IntKind.i64)) (Sh.ty Ty.unit)))
def T_thumb_Reach (x : dens A_thumb_Reach) : PO (Sh.den S_thumb_Reach) :=
  (.ite (x.1 == 24)
   (.ret ((w64 (0 - bif x.2 then 16777216 else 2048), w64 ((bif x.2 then 16777216 else 2048) - 2), ())))
   (.ite (x.1 == 25)
    (.ret ((w64 (0 - bif x.2 then 1048576 else 256), w64 ((bif x.2 then 1048576 else 256) - 2), ())))
    (.ret ((0, 0, ())))))
def G_thumb_Reach (_ : dens A_thumb_Reach) : Bool := true
def V_thumb_Reach (x : dens A_thumb_Reach) : Sh.den S_thumb_Reach := (T_thumb_Reach x).getO default
theorem ok_thumb_Reach (x : dens A_thumb_Reach) (_ : G_thumb_Reach x = true) : (T_thumb_Reach x).val = some (V_thumb_Reach x) := PO.sure_ok default (by simp [T_thumb_Reach, PO.sure])
/-- thumb.branch -/
abbrev A_thumb_branch : List Ty := [tIns]
abbrev S_thumb_branch : Sh := Sh.ty (Ty.int IntKind.i64)
def T_thumb_branch (x : dens A_thumb_branch) : PO (Sh.den S_thumb_branch) :=
  (.ite (x.2.1 != 0 || (x.2.2.1 != 0 || (x.2.2.2.1 != 0 || (x.2.2.2.2.1 != 0 || bif x.1 == 24 then x.2.2.2.2.2.2.1 != 0 || true else true))))
   (.ite (x.2.1 != 0 || (x.2.2.1 != 0 || (x.2.2.2.1 != 0 || (x.2.2.2.2.1 != 0 || bif x.1 == 24 then x.2.2.2.2.2.2.1 != 0 || !V_thumb_within (x.2.2.2.2.2.2.1, 0, 13) else !V_thumb_within (x.2.2.2.2.2.2.1, 0, 13)))))
    (.ret (2))
    (.ite (band IntKind.i64 x.2.2.2.2.2.1 1 != 0 || true)
     (.ite (band IntKind.i64 x.2.2.2.2.2.1 1 != 0 || !V_thumb_within (x.2.2.2.2.2.1, (V_thumb_Reach (x.1, x.2.2.2.2.2.2.2.1)).1, (V_thumb_Reach (x.1, x.2.2.2.2.2.2.2.1)).2.1))
      (.ret (6))
      (.ret (0)))
     .fail))
   .fail)
def G_thumb_branch (_ : dens A_thumb_branch) : Bool := true
def V_thumb_branch (x : dens A_thumb_branch) : Sh.den S_thumb_branch := (T_thumb_branch x).getO default
theorem ok_thumb_branch (x : dens A_thumb_branch) (_ : G_thumb_branch x = true) : (T_thumb_branch x).val = some (V_thumb_branch x) := PO.tots_ok default (by simp [T_thumb_branch, PO.tots])
/-- thumb.Check -/
abbrev A_thumb_Check : List Ty := [tIns]
abbrev S_thumb_Check : Sh := Sh.ty (Ty.int IntKind.i64)
def T_thumb_Check (x : dens A_thumb_Check) : PO (Sh.den S_thumb_Check) :=
  (.ite (x.1 == 24 || x.1 == 25)
   (.ret (V_thumb_branch x))
   (.ite (!(V_thumb_formOf x.1).2.1 || (x.2.2.2.2.2.2.2.1 || (x.2.2.2.2.2.2.1 != 0 || true)))
    (.ite (!(V_thumb_formOf x.1).2.1 || (x.2.2.2.2.2.2.2.1 || (x.2.2.2.2.2.2.1 != 0 || !V_thumb_within (x.2.2.2.2.2.1, (V_thumb_formOf x.1).1.2.2.2.2.1, (V_thumb_formOf x.1).1.2.2.2.2.2.1))))
     (.ret (2))
     (.ite (!V_thumb_field (x.2.1, (V_thumb_formOf x.1).1.1) || (!V_thumb_field (x.2.2.1, (V_thumb_formOf x.1).1.2.1) || (!V_thumb_field (x.2.2.2.1, (V_thumb_formOf x.1).1.2.2.1) || true)))
      (.ite (!V_thumb_field (x.2.1, (V_thumb_formOf x.1).1.1) || (!V_thumb_field (x.2.2.1, (V_thumb_formOf x.1).1.2.1) || (!V_thumb_field (x.2.2.2.1, (V_thumb_formOf x.1).1.2.2.1) || !V_thumb_field (x.2.2.2.2.1, (V_thumb_formOf x.1).1.2.2.2.1))))
       (.ret (2))
       (.ite (bif x.1 == 17 then x.2.2.2.2.1 == x.2.1 || (x.1 == 18 || true) else x.1 == 18 || true)
        (.ite (bif x.1 == 17 then x.2.2.2.2.1 == x.2.1 || x.1 == 18 && !V_thumb_within (x.2.2.2.2.1, 1, w64 (32 - x.2.2.2.2.2.1)) else x.1 == 18 && !V_thumb_within (x.2.2.2.2.1, 1, w64 (32 - x.2.2.2.2.2.1)))
         (.ret (2))
         (.ret (0)))
        .fail))
      .fail))
    .fail))
def G_thumb_Check (_ : dens A_thumb_Check) : Bool := true
def V_thumb_Check (x : dens A_thumb_Check) : Sh.den S_thumb_Check := (T_thumb_Check x).getO default
theorem ok_thumb_Check (x : dens A_thumb_Check) (_ : G_thumb_Check x = true) : (T_thumb_Check x).val = some (V_thumb_Check x) := PO.tots_ok default (by simp [T_thumb_Check, PO.tots])
/-- dup.Safe -/
abbrev A_dup_Safe : List Ty := [tIns]
abbrev S_dup_Safe : Sh := Sh.ty Ty.bool
def T_dup_Safe (x : dens A_dup_Safe) : PO (Sh.den S_dup_Safe) :=
  (.ite (V_thumb_Check x != 0)
   (.ret (false))
   (.ite (bif x.1 == 24 then x.1 == 24 else bif x.1 == 25 then x.1 == 25 else x.1 == 2)
    (.ret (false))
    (.ite (bif x.1 == 5 then x.1 == 5 else bif x.1 == 6 then x.1 == 6 else bif x.1 == 7 then x.1 == 7 else bif x.1 == 8 then x.1 == 8 else x.1 == 9)
     (.ret (x.2.1 != x.2.2.2.1))
     (.ite (bif x.1 == 10 then x.1 == 10 else bif x.1 == 11 then x.1 == 11 else bif x.1 == 12 then x.1 == 12 else bif x.1 == 13 then x.1 == 13 else bif x.1 == 14 then x.1 == 14 else bif x.1 == 15 then x.1 == 15 else x.1 == 16)
      (.ret (x.2.1 != x.2.2.1 && x.2.1 != x.2.2.2.1))
      (.ite (x.1 == 17)
       (.ret (x.2.1 != x.2.2.1 && (x.2.1 != x.2.2.2.1 && (x.2.2.2.2.1 != x.2.2.1 && x.2.2.2.2.1 != x.2.2.2.1))))
       (.ite (bif x.1 == 18 then x.1 == 18 else bif x.1 == 19 then x.1 == 19 else x.1 == 21)
        (.ret (x.2.1 != x.2.2.1))
        (.ret (true))))))))
def G_dup_Safe (_ : dens A_dup_Safe) : Bool := true
def V_dup_Safe (x : dens A_dup_Safe) : Sh.den S_dup_Safe := (T_dup_Safe x).getO default
theorem ok_dup_Safe (x : dens A_dup_Safe) (_ : G_dup_Safe x = true) : (T_dup_Safe x).val = some (V_dup_Safe x) := PO.sure_ok default (by simp [T_dup_Safe, PO.sure])
end Go.Av
end
/-! Layer 2: instructions, by the document's table of bits. -/
section
namespace Go.Av
open Go
/-- hauberkref02.more -/
abbrev A_hauberkref02_more : List Ty := [(.int .i64)]
abbrev S_hauberkref02_more : Sh := Sh.ty Ty.str
def T_hauberkref02_more (x : dens A_hauberkref02_more) : PO (Sh.den S_hauberkref02_more) :=
  (.ite (x == 13)
   (.ret ([49, 49, 49, 48, 49, 48, 49, 48, 49, 48, 48, 48, 110, 110, 110, 110, 48, 48, 48, 48, 100, 100, 100, 100, 48, 48, 48, 48, 109, 109, 109, 109]))
   (.ite (x == 14)
    (.ret ([49, 49, 49, 48, 49, 48, 49, 49, 48, 48, 48, 48, 110, 110, 110, 110, 48, 48, 48, 48, 100, 100, 100, 100, 48, 48, 48, 48, 109, 109, 109, 109]))
    (.ite (x == 15)
     (.ret ([49, 49, 49, 48, 49, 48, 49, 49, 49, 48, 49, 48, 110, 110, 110, 110, 48, 48, 48, 48, 100, 100, 100, 100, 48, 48, 48, 48, 109, 109, 109, 109]))
     (.ite (x == 16)
      (.ret ([49, 49, 49, 49, 49, 48, 49, 49, 48, 48, 48, 48, 110, 110, 110, 110, 49, 49, 49, 49, 100, 100, 100, 100, 48, 48, 48, 48, 109, 109, 109, 109]))
      (.ite (x == 17)
       (.ret ([49, 49, 49, 49, 49, 48, 49, 49, 49, 48, 49, 48, 110, 110, 110, 110, 100, 100, 100, 100, 97, 97, 97, 97, 48, 48, 48, 48, 109, 109, 109, 109]))
       (.ite (x == 18)
        (.ret ([49, 49, 49, 49, 48, 48, 49, 49, 48, 49, 49, 48, 110, 110, 110, 110, 48, 69, 68, 67, 100, 100, 100, 100, 66, 65, 48, 119, 119, 119, 119, 119]))
        (.ite (x == 19)
         (.ret ([48, 49, 49, 48, 49, 48, 48, 48, 48, 48, 110, 110, 110, 100, 100, 100]))
         (.ite (x == 20)
          (.ret ([48, 49, 49, 48, 48, 48, 48, 48, 48, 48, 110, 110, 110, 100, 100, 100]))
          (.ite (x == 21)
           (.ret ([48, 49, 49, 49, 49, 48, 48, 48, 48, 48, 110, 110, 110, 100, 100, 100]))
           (.ite (x == 22)
            (.ret ([48, 49, 49, 49, 48, 48, 48, 48, 48, 48, 110, 110, 110, 100, 100, 100]))
            (.ite (x == 23)
             (.ret ([48, 49, 48, 48, 48, 48, 49, 48, 49, 48, 109, 109, 109, 110, 110, 110]))
             (.ite (x == 24)
              (.ret ([49, 49, 49, 48, 48, 76, 75, 74, 73, 72, 71, 70, 69, 68, 67, 66]))
              (.ite (x == 25)
               (.ret ([49, 49, 48, 49, 99, 99, 99, 99, 73, 72, 71, 70, 69, 68, 67, 66]))
               (.ret ([])))))))))))))))
def G_hauberkref02_more (_ : dens A_hauberkref02_more) : Bool := true
def V_hauberkref02_more (x : dens A_hauberkref02_more) : Sh.den S_hauberkref02_more := (T_hauberkref02_more x).getO default
theorem ok_hauberkref02_more (x : dens A_hauberkref02_more) (_ : G_hauberkref02_more x = true) : (T_hauberkref02_more x).val = some (V_hauberkref02_more x) := PO.sure_ok default (by simp [T_hauberkref02_more, PO.sure])
/-- hauberkref02.Bits -/
abbrev A_hauberkref02_Bits : List Ty := [(.int .i64), .bool]
abbrev S_hauberkref02_Bits : Sh := Sh.ty Ty.str
def T_hauberkref02_Bits (x : dens A_hauberkref02_Bits) : PO (Sh.den S_hauberkref02_Bits) :=
  (.ite (x.2)
   (.ite (x.1 == 24)
    (.ret ([49, 49, 49, 49, 48, 89, 86, 85, 84, 83, 82, 81, 80, 79, 78, 77, 49, 48, 120, 49, 121, 76, 75, 74, 73, 72, 71, 70, 69, 68, 67, 66]))
    (.ite (x.1 == 25)
     (.ret ([49, 49, 49, 49, 48, 85, 99, 99, 99, 99, 82, 81, 80, 79, 78, 77, 49, 48, 83, 48, 84, 76, 75, 74, 73, 72, 71, 70, 69, 68, 67, 66]))
     (.ret ([]))))
   (.ite (x.1 == 1)
    (.ret ([49, 48, 49, 49, 49, 49, 49, 49, 48, 48, 48, 48, 48, 48, 48, 48]))
    (.ite (x.1 == 2)
     (.ret ([49, 48, 49, 49, 49, 49, 49, 48, 72, 71, 70, 69, 68, 67, 66, 65]))
     (.ite (x.1 == 3)
      (.ret ([49, 49, 49, 49, 48, 76, 49, 48, 48, 49, 48, 48, 80, 79, 78, 77, 48, 75, 74, 73, 100, 100, 100, 100, 72, 71, 70, 69, 68, 67, 66, 65]))
      (.ite (x.1 == 4)
       (.ret ([49, 49, 49, 49, 48, 76, 49, 48, 49, 49, 48, 48, 80, 79, 78, 77, 48, 75, 74, 73, 100, 100, 100, 100, 72, 71, 70, 69, 68, 67, 66, 65]))
       (.ite (x.1 == 5)
        (.ret ([49, 49, 49, 48, 49, 48, 49, 48, 48, 49, 48, 48, 49, 49, 49, 49, 48, 69, 68, 67, 100, 100, 100, 100, 66, 65, 48, 48, 109, 109, 109, 109]))
        (.ite (x.1 == 6)
         (.ret ([49, 49, 49, 48, 49, 48, 49, 48, 48, 49, 48, 48, 49, 49, 49, 49, 48, 69, 68, 67, 100, 100, 100, 100, 66, 65, 48, 49, 109, 109, 109, 109]))
         (.ite (x.1 == 7)
          (.ret ([49, 49, 49, 48, 49, 48, 49, 48, 48, 49, 48, 48, 49, 49, 49, 49, 48, 69, 68, 67, 100, 100, 100, 100, 66, 65, 49, 48, 109, 109, 109, 109]))
          (.ite (x.1 == 8)
           (.ret ([49, 49, 49, 48, 49, 48, 49, 48, 48, 49, 48, 48, 49, 49, 49, 49, 48, 69, 68, 67, 100, 100, 100, 100, 66, 65, 49, 49, 109, 109, 109, 109]))
           (.ite (x.1 == 9)
            (.ret ([49, 49, 49, 48, 49, 48, 49, 48, 48, 49, 49, 48, 49, 49, 49, 49, 48, 48, 48, 48, 100, 100, 100, 100, 48, 48, 48, 48, 109, 109, 109, 109]))
            (.ite (x.1 == 10)
             (.ret ([49, 49, 49, 48, 49, 48, 49, 48, 48, 48, 48, 48, 110, 110, 110, 110, 48, 48, 48, 48, 100, 100, 100, 100, 48, 48, 48, 48, 109, 109, 109, 109]))
             (.ite (x.1 == 11)
              (.ret ([49, 49, 49, 48, 49, 48, 49, 48, 48, 48, 49, 48, 110, 110, 110, 110, 48, 48, 48, 48, 100, 100, 100, 100, 48, 48, 48, 48, 109, 109, 109, 109]))
              (.ite (x.1 == 12)
               (.ret ([49, 49, 49, 48, 49, 48, 49, 48, 48, 49, 48, 48, 110, 110, 110, 110, 48, 48, 48, 48, 100, 100, 100, 100, 48, 48, 48, 48, 109, 109, 109, 109]))
               (.ret (V_hauberkref02_more x.1)))))))))))))))
def G_hauberkref02_Bits (_ : dens A_hauberkref02_Bits) : Bool := true
def V_hauberkref02_Bits (x : dens A_hauberkref02_Bits) : Sh.den S_hauberkref02_Bits := (T_hauberkref02_Bits x).getO default
theorem ok_hauberkref02_Bits (x : dens A_hauberkref02_Bits) (_ : G_hauberkref02_Bits x = true) : (T_hauberkref02_Bits x).val = some (V_hauberkref02_Bits x) := PO.sure_ok default (by simp [T_hauberkref02_Bits, PO.sure])
def L_hauberkref02_has_2 : LoopN where
  M := [0, 1, 4, 5]
  T := [6, 7, 8, 9, 10, 11, 12, 13, 14, 15, 16]
  D := [0, 1, 5]
  ss := [.ty .str, .ty (.int .u8), .ty .bool, .ty (.int .i64)]
  hs := []
  es := [.exit 0, .ret]
  σ := (Ty.den .bool) × (Ty.den (.int .i64))
  x0 := fun x _ => (x.2.2.1, x.2.2.2)
  put := fun x _ s => ((x.1, x.2.1, s.1, s.2), ())
  fuel := fun x _ => List.length x.1+1
  turn := fun x _ s =>
  (.ite (decide (s.2 < lenI x.1))
   (.ite (inRange s.2 (List.length x.1))
    (.ite (u8I (List.getD x.1 (Int.toNat s.2) 0) == x.2.1)
     (.ret (.out 1 (true, s.2)))
     (.ret (.on (s.1, w64 (s.2 + 1)))))
    .fail)
   (.ret (.out 0 (s.1, s.2))))
/-- hauberkref02.has -/
abbrev A_hauberkref02_has : List Ty := [.str, (.int .u8)]
abbrev S_hauberkref02_has : Sh := Sh.ty Ty.bool
def T_hauberkref02_has (x : dens A_hauberkref02_has) : PO (Sh.den S_hauberkref02_has) :=
  (.opt (LoopN.res L_hauberkref02_has_2 (x.1, x.2, false, 0) ()) fun p0 =>
   (.ite (way p0.1)
    (.ret (false))
    (.ret (p0.2.1))))
def G_hauberkref02_has (x : dens A_hauberkref02_has) : Bool := decide (List.length x.1 < 4611686018427387904)
def V_hauberkref02_has (x : dens A_hauberkref02_has) : Sh.den S_hauberkref02_has := List.any x.1 fun b => u8I b == x.2
theorem ok_hauberkref02_has (x : dens A_hauberkref02_has) (h : G_hauberkref02_has x = true) : (T_hauberkref02_has x).val = some (V_hauberkref02_has x) := by
  obtain ⟨s, c⟩ := x
  have hs : List.length s < 4611686018427387904 := of_decide_eq_true h
  obtain ⟨o, st, h1, h2⟩ := has_run s c (L_hauberkref02_has_2.turn (s, c, false, 0) ()) (fun _ => rfl) hs
  have h1' : LoopN.res L_hauberkref02_has_2 (s, c, false, 0) () = some (o, st) := h1
  unfold T_hauberkref02_has PO.val
  rw [h1']
  exact h2
/-- hauberkref02.reg -/
abbrev A_hauberkref02_reg : List Ty := [.str, (.int .u8), (.int .i64)]
abbrev S_hauberkref02_reg : Sh := Sh.ty Ty.bool
def T_hauberkref02_reg (x : dens A_hauberkref02_reg) : PO (Sh.den S_hauberkref02_reg) :=
  (.ite (G_hauberkref02_has (x.1, x.2.1))
   (.ite (!V_hauberkref02_has (x.1, x.2.1))
    (.ret (x.2.2 == 0))
    (.ret (decide (x.2.2 ≥ 0) && decide (x.2.2 ≤ bif lenI x.1 == 16 then 7 else 12))))
   .fail)
def G_hauberkref02_reg (x : dens A_hauberkref02_reg) : Bool := (T_hauberkref02_reg x).val.isSome
def V_hauberkref02_reg (x : dens A_hauberkref02_reg) : Sh.den S_hauberkref02_reg := (T_hauberkref02_reg x).getO default
theorem ok_hauberkref02_reg (x : dens A_hauberkref02_reg) (h : G_hauberkref02_reg x = true) : (T_hauberkref02_reg x).val = some (V_hauberkref02_reg x) := PO.getO_ok default h
/-- hauberkref02.Reach -/
abbrev A_hauberkref02_Reach : List Ty := [(.int .i64), .bool]
abbrev S_hauberkref02_Reach : Sh := Sh.tup (Sh.pair (Sh.ty (Ty.int IntKind.i64)) (Sh.pair (Sh.ty (Ty.int IntKind.i64)) (Sh.ty Ty.unit)))
def T_hauberkref02_Reach (x : dens A_hauberkref02_Reach) : PO (Sh.den S_hauberkref02_Reach) :=
  (.ret ((w64 (0 - bif x.1 == 24 && !x.2 then 2048 else bif x.1 == 24 then 16777216 else bif x.1 == 25 && !x.2 then 256 else bif x.1 == 25 then 1048576 else 0), imax 0 (w64 ((bif x.1 == 24 && !x.2 then 2048 else bif x.1 == 24 then 16777216 else bif x.1 == 25 && !x.2 then 256 else bif x.1 == 25 then 1048576 else 0) - 2)), ())))
def G_hauberkref02_Reach (_ : dens A_hauberkref02_Reach) : Bool := true
def V_hauberkref02_Reach (x : dens A_hauberkref02_Reach) : Sh.den S_hauberkref02_Reach := (T_hauberkref02_Reach x).getO default
theorem ok_hauberkref02_Reach (x : dens A_hauberkref02_Reach) (_ : G_hauberkref02_Reach x = true) : (T_hauberkref02_Reach x).val = some (V_hauberkref02_Reach x) := PO.sure_ok default (by simp [T_hauberkref02_Reach, PO.sure])
/-- hauberkref02.number -/
abbrev A_hauberkref02_number : List Ty := [tIns]
abbrev S_hauberkref02_number : Sh := Sh.ty Ty.bool
def T_hauberkref02_number (x : dens A_hauberkref02_number) : PO (Sh.den S_hauberkref02_number) :=
  (.ite (x.1 == 2)
   (.ret (decide (x.2.2.2.2.2.1 ≥ 0) && decide (x.2.2.2.2.2.1 ≤ 255)))
   (.ite (bif x.1 == 3 then x.1 == 3 else x.1 == 4)
    (.ret (decide (x.2.2.2.2.2.1 ≥ 0) && decide (x.2.2.2.2.2.1 ≤ 65535)))
    (.ite (bif x.1 == 5 then x.1 == 5 else x.1 == 18)
     (.ret (decide (x.2.2.2.2.2.1 ≥ 0) && decide (x.2.2.2.2.2.1 ≤ 31)))
     (.ite (bif x.1 == 6 then x.1 == 6 else bif x.1 == 7 then x.1 == 7 else x.1 == 8)
      (.ret (decide (x.2.2.2.2.2.1 ≥ 1) && decide (x.2.2.2.2.2.1 ≤ 31)))
      (.ite (bif x.1 == 24 then x.1 == 24 else x.1 == 25)
       (.ret (true))
       (.ret (decide (x.2.2.2.2.2.1 ≥ 0) && decide (x.2.2.2.2.2.1 ≤ 0))))))))
def G_hauberkref02_number (_ : dens A_hauberkref02_number) : Bool := true
def V_hauberkref02_number (x : dens A_hauberkref02_number) : Sh.den S_hauberkref02_number := (T_hauberkref02_number x).getO default
theorem ok_hauberkref02_number (x : dens A_hauberkref02_number) (_ : G_hauberkref02_number x = true) : (T_hauberkref02_number x).val = some (V_hauberkref02_number x) := PO.sure_ok default (by simp [T_hauberkref02_number, PO.sure])
/-- hauberkref02.Check -/
abbrev A_hauberkref02_Check : List Ty := [tIns]
abbrev S_hauberkref02_Check : Sh := Sh.ty (Ty.int IntKind.i64)
def T_hauberkref02_Check (x : dens A_hauberkref02_Check) : PO (Sh.den S_hauberkref02_Check) :=
  (.ite (V_hauberkref02_Bits (x.1, x.2.2.2.2.2.2.2.1) == [] || (!V_hauberkref02_number x || G_hauberkref02_reg (V_hauberkref02_Bits (x.1, x.2.2.2.2.2.2.2.1), 100, x.2.1) && (!V_hauberkref02_reg (V_hauberkref02_Bits (x.1, x.2.2.2.2.2.2.2.1), 100, x.2.1) || G_hauberkref02_reg (V_hauberkref02_Bits (x.1, x.2.2.2.2.2.2.2.1), 110, x.2.2.1) && (!V_hauberkref02_reg (V_hauberkref02_Bits (x.1, x.2.2.2.2.2.2.2.1), 110, x.2.2.1) || G_hauberkref02_reg (V_hauberkref02_Bits (x.1, x.2.2.2.2.2.2.2.1), 109, x.2.2.2.1) && (!V_hauberkref02_reg (V_hauberkref02_Bits (x.1, x.2.2.2.2.2.2.2.1), 109, x.2.2.2.1) || G_hauberkref02_reg (V_hauberkref02_Bits (x.1, x.2.2.2.2.2.2.2.1), 97, bif x.1 == 18 then 0 else x.2.2.2.2.1))))))
   (.ite (V_hauberkref02_Bits (x.1, x.2.2.2.2.2.2.2.1) == [] || (!V_hauberkref02_number x || (!V_hauberkref02_reg (V_hauberkref02_Bits (x.1, x.2.2.2.2.2.2.2.1), 100, x.2.1) || (!V_hauberkref02_reg (V_hauberkref02_Bits (x.1, x.2.2.2.2.2.2.2.1), 110, x.2.2.1) || (!V_hauberkref02_reg (V_hauberkref02_Bits (x.1, x.2.2.2.2.2.2.2.1), 109, x.2.2.2.1) || !V_hauberkref02_reg (V_hauberkref02_Bits (x.1, x.2.2.2.2.2.2.2.1), 97, bif x.1 == 18 then 0 else x.2.2.2.2.1))))))
    (.ret (2))
    (.ite (bif x.1 == 18 then decide (x.2.2.2.2.1 < 1) || (decide (x.2.2.2.2.1 > w64 (32 - x.2.2.2.2.2.1)) || x.1 == 17 && x.2.2.2.2.1 == x.2.1) else x.1 == 17 && x.2.2.2.2.1 == x.2.1)
     (.ret (2))
     (.ite (bif x.1 == 25 then decide (x.2.2.2.2.2.2.1 < 0) || (decide (x.2.2.2.2.2.2.1 > 13) || x.1 != 25 && x.2.2.2.2.2.2.1 != 0) else x.1 != 25 && x.2.2.2.2.2.2.1 != 0)
      (.ret (2))
      (.ite (bif x.1 == 24 then Int.tmod x.2.2.2.2.2.1 2 != 0 || (decide (x.2.2.2.2.2.1 < (V_hauberkref02_Reach (x.1, x.2.2.2.2.2.2.2.1)).1) || decide (x.2.2.2.2.2.1 > (V_hauberkref02_Reach (x.1, x.2.2.2.2.2.2.2.1)).2.1)) else x.1 == 25 && (Int.tmod x.2.2.2.2.2.1 2 != 0 || (decide (x.2.2.2.2.2.1 < (V_hauberkref02_Reach (x.1, x.2.2.2.2.2.2.2.1)).1) || decide (x.2.2.2.2.2.1 > (V_hauberkref02_Reach (x.1, x.2.2.2.2.2.2.2.1)).2.1))))
       (.ret (6))
       (.ret (0))))))
   .fail)
def G_hauberkref02_Check (x : dens A_hauberkref02_Check) : Bool := (T_hauberkref02_Check x).val.isSome
def V_hauberkref02_Check (x : dens A_hauberkref02_Check) : Sh.den S_hauberkref02_Check := (T_hauberkref02_Check x).getO default
theorem ok_hauberkref02_Check (x : dens A_hauberkref02_Check) (h : G_hauberkref02_Check x = true) : (T_hauberkref02_Check x).val = some (V_hauberkref02_Check x) := PO.getO_ok default h
end Go.Av
end
/-! Layer 2: that there is an instruction, by the table of bits, is what the program says. -/
section
namespace Go.Av
open Go

theorem op_cases (n : Int) : n = 1 ∨ n = 2 ∨ n = 3 ∨ n = 4 ∨ n = 5 ∨ n = 6 ∨ n = 7 ∨ n = 8 ∨ n = 9 ∨ n = 10 ∨ n = 11 ∨ n = 12 ∨ n = 13 ∨ n = 14 ∨ n = 15 ∨ n = 16 ∨ n = 17 ∨ n = 18 ∨ n = 19 ∨ n = 20 ∨ n = 21 ∨ n = 22 ∨ n = 23 ∨ n = 24 ∨ n = 25 ∨ (n < 1 ∨ 25 < n) := by omega

theorem op_none {n k : Int} (h : n < 1 ∨ 25 < n) (hk : 1 ≤ k ∧ k ≤ 25) : (n == k) = false := by
  rw [beq_eq_false_iff_ne]
  omega

theorem bits_none {n : Int} (h : n < 1 ∨ 25 < n) (w : Bool) : V_hauberkref02_Bits (n, w) = [] := by
  have e := fun k hk => op_none (n := n) (k := k) h hk
  cases w <;> simp [V_hauberkref02_Bits, T_hauberkref02_Bits, V_hauberkref02_more, T_hauberkref02_more, PO.getO, PO.val, e]

theorem bits_len (n : Int) (w : Bool) : (V_hauberkref02_Bits (n, w)).length ≤ 32 := by
  rcases op_cases n with rfl | rfl | rfl | rfl | rfl | rfl | rfl | rfl | rfl | rfl | rfl | rfl | rfl | rfl | rfl | rfl | rfl | rfl | rfl | rfl | rfl | rfl | rfl | rfl | rfl | h
  case inr.inr.inr.inr.inr.inr.inr.inr.inr.inr.inr.inr.inr.inr.inr.inr.inr.inr.inr.inr.inr.inr.inr.inr.inr => rw [bits_none h]; simp
  all_goals (cases w <;> decide)

theorem has_ok (n : Int) (w : Bool) (c : Int) : G_hauberkref02_has (V_hauberkref02_Bits (n, w), c) = true := by
  have := bits_len n w
  exact dec_true (show List.length (V_hauberkref02_Bits (n, w)) < _ by omega)

theorem reg_val (n : Int) (w : Bool) (c r : Int) : (T_hauberkref02_reg (V_hauberkref02_Bits (n, w), c, r)).val = some (bif List.any (V_hauberkref02_Bits (n, w)) (fun b => u8I b == c) then decide (r ≥ 0) && decide (r ≤ bif (lenI (V_hauberkref02_Bits (n, w)) == 16) then 7 else 12) else r == 0) := by
  simp only [T_hauberkref02_reg, PO.val, V_hauberkref02_has]
  rw [has_ok]
  cases List.any (V_hauberkref02_Bits (n, w)) (fun b => u8I b == c) <;> rfl

theorem reg_ok (n : Int) (w : Bool) (c r : Int) : G_hauberkref02_reg (V_hauberkref02_Bits (n, w), c, r) = true := by
  rw [G_hauberkref02_reg, reg_val]; rfl

theorem reg_eq (n : Int) (w : Bool) (c r : Int) : V_hauberkref02_reg (V_hauberkref02_Bits (n, w), c, r) = (bif List.any (V_hauberkref02_Bits (n, w)) (fun b => u8I b == c) then decide (r ≥ 0) && decide (r ≤ bif (lenI (V_hauberkref02_Bits (n, w)) == 16) then 7 else 12) else r == 0) := by
  rw [V_hauberkref02_reg, PO.getO, reg_val]; rfl

theorem some_cond {α : Type} (b : Bool) (x y : Option α) (hx : x.isSome = true) (hy : y.isSome = true) : (bif b then x else y).isSome = true := by
  cases b <;> assumption

theorem check_ok (x : tIns.den) : G_hauberkref02_Check x = true := by
  obtain ⟨op, rd, rn, rm, ra, imm, cond, w, u⟩ := x
  unfold G_hauberkref02_Check T_hauberkref02_Check
  simp only [PO.val]
  rw [reg_ok, reg_ok, reg_ok, reg_ok]
  simp only [Bool.or_true, Bool.and_true, cond_true]
  repeat' (first | rfl | apply some_cond)

theorem even_i64 (n : Int) : (band .i64 n 1 != 0) = (Int.tmod n 2 != 0) := by
  have h : band .i64 n 1 = n % 2 := band_low n 1 (by omega)
  rw [h, Bool.eq_iff_iff]
  simp only [bne_iff_ne, ne_eq]
  exact not_congr ((Int.dvd_iff_emod_eq_zero (a := 2) (b := n)).symm.trans Int.dvd_iff_tmod_eq_zero)

theorem left_same (imm : Int) (h1 : 0 ≤ imm) (h2 : imm ≤ 31) : w64 (32 - imm) = 32 - imm := w64_id (by omega) (by omega)

set_option maxHeartbeats 4000000 in
theorem check_same (x : tIns.den) : V_thumb_Check x = V_hauberkref02_Check x := by
  obtain ⟨op, rd, rn, rm, ra, imm, cond, w, u⟩ := x
  have hw := left_same imm
  have w1 : w64 (-2048) = -2048 := rfl
  have w2 : w64 2046 = 2046 := rfl
  have w3 : w64 (-16777216) = -16777216 := rfl
  have w4 : w64 16777214 = 16777214 := rfl
  have w5 : w64 (-256) = -256 := rfl
  have w6 : w64 254 = 254 := rfl
  have w7 : w64 (-1048576) = -1048576 := rfl
  have w8 : w64 1048574 = 1048574 := rfl
  have m1 : imax 0 2046 = 2046 := rfl
  have m2 : imax 0 16777214 = 16777214 := rfl
  have m3 : imax 0 254 = 254 := rfl
  have m4 : imax 0 1048574 = 1048574 := rfl
  unfold V_hauberkref02_Check T_hauberkref02_Check
  dsimp only [PO.getO, PO.val]
  rw [reg_ok, reg_ok, reg_ok, reg_ok, reg_eq, reg_eq, reg_eq, reg_eq]
  rcases op_cases op with rfl | rfl | rfl | rfl | rfl | rfl | rfl | rfl | rfl | rfl | rfl | rfl | rfl | rfl | rfl | rfl | rfl | rfl | rfl | rfl | rfl | rfl | rfl | rfl | rfl | hop
  case inr.inr.inr.inr.inr.inr.inr.inr.inr.inr.inr.inr.inr.inr.inr.inr.inr.inr.inr.inr.inr.inr.inr.inr.inr =>
    rw [bits_none hop]
    have e := fun k hk => op_none (n := op) (k := k) hop hk
    simp [V_thumb_Check, T_thumb_Check, V_thumb_formOf, T_thumb_formOf, PO.getO, PO.val, e]
  all_goals
    cases w <;>
    simp [V_hauberkref02_Bits, T_hauberkref02_Bits, V_hauberkref02_more, T_hauberkref02_more, V_thumb_Check, T_thumb_Check, V_thumb_formOf, T_thumb_formOf, V_thumb_field, T_thumb_field, V_thumb_within, T_thumb_within, PO.getO, PO.val, V_hauberkref02_number, T_hauberkref02_number, u8I, lenI, V_thumb_branch, T_thumb_branch, V_thumb_Reach, T_thumb_Reach, V_hauberkref02_Reach, T_hauberkref02_Reach, even_i64, w1, w2, w3, w4, w5, w6, w7, w8, m1, m2, m3, m4] <;> grind
end Go.Av
end
/-! Layer 2: instructions' bits. -/
section
namespace Go.Av
open Go
abbrev tpart : Ty := .pair (.int .i64) (.pair (.int .i64) (.pair (.int .i64) (.pair (.int .i64) .unit)))
theorem w64_nat {k : Nat} (h : k < 9223372036854775808) : w64 (k : Int) = k := w64_id (by omega) (by omega)
/-- Some bits of a number, at a place. -/
def fldN (n from_ many at_ : Int) : Nat := (n / (2 ^ from_.toNat : Nat) % (2 ^ many.toNat : Nat)).toNat * 2 ^ at_.toNat
def partOk (p : tpart.den) : Bool := (decide (0 ≤ p.2.1) && decide (p.2.1 < 64)) && ((decide (0 ≤ p.2.2.1) && decide (p.2.2.1 ≤ 32)) && (decide (0 ≤ p.2.2.2.1) && decide (p.2.2.2.1 ≤ 16)))
def partN (p : tpart.den) : Nat := fldN p.1 p.2.1 p.2.2.1 p.2.2.2.1
theorem bor_nat {a b : Nat} (ha : a < 9223372036854775808) (hb : b < 9223372036854775808) : bor .i64 (a : Int) (b : Int) = ((a ||| b : Nat) : Int) := by
  show w64 (BitVec.ofInt 64 (a : Int) ||| BitVec.ofInt 64 (b : Int)).toNat = _
  rw [BitVec.toNat_or, ofInt_nat (by omega), ofInt_nat (by omega)]
  have : a ||| b < 2 ^ 63 := Nat.or_lt_two_pow ha hb
  exact w64_id (by omega) (by omega)
theorem mod_pow_nat (n : Int) (k : Nat) : 0 ≤ n % (2 ^ k : Nat) ∧ n % (2 ^ k : Nat) < (2 ^ k : Nat) := by
  have := Nat.two_pow_pos k
  exact ⟨Int.emod_nonneg _ (by omega), Int.emod_lt_of_pos _ (by omega)⟩
theorem fldN_lt (n f : Int) {m a : Nat} (hm : m ≤ 32) (ha : a ≤ 16) : fldN n f (m : Int) (a : Int) < 281474976710656 := by
  unfold fldN
  rw [Int.toNat_natCast, Int.toNat_natCast]
  have h := mod_pow_nat (n / (2 ^ f.toNat : Nat)) m
  have h1 : (n / (2 ^ f.toNat : Nat) % (2 ^ m : Nat)).toNat < 2 ^ m := by omega
  have h2 : 2 ^ m ≤ 2 ^ 32 := pow_lt hm
  have h3 : 2 ^ a ≤ 2 ^ 16 := pow_lt ha
  have h4 := Nat.mul_lt_mul_of_lt_of_le (Nat.lt_of_lt_of_le h1 h2) h3 (by omega)
  exact h4
theorem fld_val (n : Int) {f m a : Nat} (hf : f < 64) (hm : m ≤ 32) (ha : a ≤ 16) : ishl .i64 (band .i64 (ishr .i64 n (f : Int)) (w64 (ishl .i64 1 (m : Int) - 1))) (a : Int) = (fldN n (f : Int) (m : Int) (a : Int) : Int) := by
  have hl := fldN_lt n (f : Int) hm ha
  have h1 : 2 ^ m ≤ 2 ^ 32 := pow_lt hm
  have h2 : ishl .i64 1 (m : Int) = ((2 ^ m : Nat) : Int) := by
    rw [ishl_nat _ _ (by omega), Int.one_mul, show (2 : Int) ^ m = ((2 ^ m : Nat) : Int) by simp]
    exact w64_nat (by omega)
  have hp := Nat.two_pow_pos m
  have h3 : w64 (((2 ^ m : Nat) : Int) - 1) = ((2 ^ m : Nat) : Int) - 1 := by
    generalize 2 ^ m = q at *
    exact w64_id (by omega) (by omega)
  rw [h2, h3, ishr_i64 _ _ hf, band_low _ _ (by omega), ishl_nat _ _ (by omega)]
  unfold fldN at hl ⊢
  rw [Int.toNat_natCast, Int.toNat_natCast, Int.toNat_natCast] at *
  have h := mod_pow_nat (n / (2 ^ f : Nat)) m
  obtain ⟨q, hq⟩ : ∃ q : Nat, n / (2 ^ f : Nat) % (2 ^ m : Nat) = (q : Int) := ⟨(n / (2 ^ f : Nat) % (2 ^ m : Nat)).toNat, by omega⟩
  rw [hq] at hl ⊢
  rw [Int.toNat_natCast] at hl ⊢
  rw [show (q : Int) * 2 ^ a = ((q * 2 ^ a : Nat) : Int) by simp]
  exact w64_id (by omega) (by omega)
theorem part_val (p : tpart.den) (h : partOk p = true) : ishl .i64 (band .i64 (ishr .i64 p.1 p.2.1) (w64 (ishl .i64 1 p.2.2.1 - 1))) p.2.2.2.1 = (partN p : Int) ∧ partN p < 281474976710656 ∧ decide (p.2.1 < 0) = false ∧ decide (p.2.2.1 < 0) = false ∧ decide (p.2.2.2.1 < 0) = false := by
  obtain ⟨n, f, m, a, u⟩ := p
  simp only [partOk, Bool.and_eq_true, decide_eq_true_eq] at h
  obtain ⟨⟨h1, h2⟩, ⟨h3, h4⟩, h5, h6⟩ := h
  dsimp only [Ty.den] at *
  obtain ⟨f, rfl⟩ := Int.eq_ofNat_of_zero_le h1
  obtain ⟨m, rfl⟩ := Int.eq_ofNat_of_zero_le h3
  obtain ⟨a, rfl⟩ := Int.eq_ofNat_of_zero_le h5
  exact ⟨fld_val n (by omega) (by omega) (by omega), fldN_lt n _ (by omega) (by omega), dec_false (by omega), dec_false (by omega), dec_false (by omega)⟩
theorem or_part {b : Nat} (p : tpart.den) (h : partOk p = true) (hb : b < 281474976710656) : bor .i64 (b : Int) (ishl .i64 (band .i64 (ishr .i64 p.1 p.2.1) (w64 (ishl .i64 1 p.2.2.1 - 1))) p.2.2.2.1) = ((b ||| partN p : Nat) : Int) ∧ b ||| partN p < 281474976710656 := by
  obtain ⟨h1, h2, _⟩ := part_val p h
  exact ⟨by rw [h1, bor_nat (by omega) (by omega)], Nat.or_lt_two_pow (n := 48) hb h2⟩
/-- thumb.put -/
abbrev A_thumb_put : List Ty := [(.int .i64), (.sl tpart)]
abbrev S_thumb_put : Sh := Sh.ty (Ty.int IntKind.i64)
def T_thumb_put (x : dens A_thumb_put) : PO (Sh.den S_thumb_put) :=
  (.ite (decide (0 < lenI x.2))
   (.ite (inRange 0 (List.length x.2))
    (.ite (!decide ((List.getD x.2 (Int.toNat 0) (Ty.dflt tpart)).2.1 < 0) && (!decide ((List.getD x.2 (Int.toNat 0) (Ty.dflt tpart)).2.2.1 < 0) && !decide ((List.getD x.2 (Int.toNat 0) (Ty.dflt tpart)).2.2.2.1 < 0)))
     (.ite (decide (1 < lenI x.2))
      (.ite (inRange 1 (List.length x.2))
       (.ite (!decide ((List.getD x.2 (Int.toNat 1) (Ty.dflt tpart)).2.1 < 0) && (!decide ((List.getD x.2 (Int.toNat 1) (Ty.dflt tpart)).2.2.1 < 0) && !decide ((List.getD x.2 (Int.toNat 1) (Ty.dflt tpart)).2.2.2.1 < 0)))
        (.ite (decide (2 < lenI x.2))
         (.ite (inRange 2 (List.length x.2))
          (.ite (!decide ((List.getD x.2 (Int.toNat 2) (Ty.dflt tpart)).2.1 < 0) && (!decide ((List.getD x.2 (Int.toNat 2) (Ty.dflt tpart)).2.2.1 < 0) && !decide ((List.getD x.2 (Int.toNat 2) (Ty.dflt tpart)).2.2.2.1 < 0)))
           (.ite (decide (3 < lenI x.2))
            (.ite (inRange 3 (List.length x.2))
             (.ite (!decide ((List.getD x.2 (Int.toNat 3) (Ty.dflt tpart)).2.1 < 0) && (!decide ((List.getD x.2 (Int.toNat 3) (Ty.dflt tpart)).2.2.1 < 0) && !decide ((List.getD x.2 (Int.toNat 3) (Ty.dflt tpart)).2.2.2.1 < 0)))
              (.ite (decide (4 < lenI x.2))
               (.ite (inRange 4 (List.length x.2))
                (.ite (!decide ((List.getD x.2 (Int.toNat 4) (Ty.dflt tpart)).2.1 < 0) && (!decide ((List.getD x.2 (Int.toNat 4) (Ty.dflt tpart)).2.2.1 < 0) && !decide ((List.getD x.2 (Int.toNat 4) (Ty.dflt tpart)).2.2.2.1 < 0)))
                 (.ite (decide (5 < lenI x.2))
                  (.ite (inRange 5 (List.length x.2))
                   (.ite (!decide ((List.getD x.2 (Int.toNat 5) (Ty.dflt tpart)).2.1 < 0) && (!decide ((List.getD x.2 (Int.toNat 5) (Ty.dflt tpart)).2.2.1 < 0) && !decide ((List.getD x.2 (Int.toNat 5) (Ty.dflt tpart)).2.2.2.1 < 0)))
                    .fail
                    .fail)
                   .fail)
                  (.ret (bor IntKind.i64 (bor IntKind.i64 (bor IntKind.i64 (bor IntKind.i64 (bor IntKind.i64 x.1 (ishl IntKind.i64 (band IntKind.i64 (ishr IntKind.i64 (List.getD x.2 (Int.toNat 0) (Ty.dflt tpart)).1 (List.getD x.2 (Int.toNat 0) (Ty.dflt tpart)).2.1) (w64 (ishl IntKind.i64 1 (List.getD x.2 (Int.toNat 0) (Ty.dflt tpart)).2.2.1 - 1))) (List.getD x.2 (Int.toNat 0) (Ty.dflt tpart)).2.2.2.1)) (ishl IntKind.i64 (band IntKind.i64 (ishr IntKind.i64 (List.getD x.2 (Int.toNat 1) (Ty.dflt tpart)).1 (List.getD x.2 (Int.toNat 1) (Ty.dflt tpart)).2.1) (w64 (ishl IntKind.i64 1 (List.getD x.2 (Int.toNat 1) (Ty.dflt tpart)).2.2.1 - 1))) (List.getD x.2 (Int.toNat 1) (Ty.dflt tpart)).2.2.2.1)) (ishl IntKind.i64 (band IntKind.i64 (ishr IntKind.i64 (List.getD x.2 (Int.toNat 2) (Ty.dflt tpart)).1 (List.getD x.2 (Int.toNat 2) (Ty.dflt tpart)).2.1) (w64 (ishl IntKind.i64 1 (List.getD x.2 (Int.toNat 2) (Ty.dflt tpart)).2.2.1 - 1))) (List.getD x.2 (Int.toNat 2) (Ty.dflt tpart)).2.2.2.1)) (ishl IntKind.i64 (band IntKind.i64 (ishr IntKind.i64 (List.getD x.2 (Int.toNat 3) (Ty.dflt tpart)).1 (List.getD x.2 (Int.toNat 3) (Ty.dflt tpart)).2.1) (w64 (ishl IntKind.i64 1 (List.getD x.2 (Int.toNat 3) (Ty.dflt tpart)).2.2.1 - 1))) (List.getD x.2 (Int.toNat 3) (Ty.dflt tpart)).2.2.2.1)) (ishl IntKind.i64 (band IntKind.i64 (ishr IntKind.i64 (List.getD x.2 (Int.toNat 4) (Ty.dflt tpart)).1 (List.getD x.2 (Int.toNat 4) (Ty.dflt tpart)).2.1) (w64 (ishl IntKind.i64 1 (List.getD x.2 (Int.toNat 4) (Ty.dflt tpart)).2.2.1 - 1))) (List.getD x.2 (Int.toNat 4) (Ty.dflt tpart)).2.2.2.1))))
                 .fail)
                .fail)
               (.ret (bor IntKind.i64 (bor IntKind.i64 (bor IntKind.i64 (bor IntKind.i64 x.1 (ishl IntKind.i64 (band IntKind.i64 (ishr IntKind.i64 (List.getD x.2 (Int.toNat 0) (Ty.dflt tpart)).1 (List.getD x.2 (Int.toNat 0) (Ty.dflt tpart)).2.1) (w64 (ishl IntKind.i64 1 (List.getD x.2 (Int.toNat 0) (Ty.dflt tpart)).2.2.1 - 1))) (List.getD x.2 (Int.toNat 0) (Ty.dflt tpart)).2.2.2.1)) (ishl IntKind.i64 (band IntKind.i64 (ishr IntKind.i64 (List.getD x.2 (Int.toNat 1) (Ty.dflt tpart)).1 (List.getD x.2 (Int.toNat 1) (Ty.dflt tpart)).2.1) (w64 (ishl IntKind.i64 1 (List.getD x.2 (Int.toNat 1) (Ty.dflt tpart)).2.2.1 - 1))) (List.getD x.2 (Int.toNat 1) (Ty.dflt tpart)).2.2.2.1)) (ishl IntKind.i64 (band IntKind.i64 (ishr IntKind.i64 (List.getD x.2 (Int.toNat 2) (Ty.dflt tpart)).1 (List.getD x.2 (Int.toNat 2) (Ty.dflt tpart)).2.1) (w64 (ishl IntKind.i64 1 (List.getD x.2 (Int.toNat 2) (Ty.dflt tpart)).2.2.1 - 1))) (List.getD x.2 (Int.toNat 2) (Ty.dflt tpart)).2.2.2.1)) (ishl IntKind.i64 (band IntKind.i64 (ishr IntKind.i64 (List.getD x.2 (Int.toNat 3) (Ty.dflt tpart)).1 (List.getD x.2 (Int.toNat 3) (Ty.dflt tpart)).2.1) (w64 (ishl IntKind.i64 1 (List.getD x.2 (Int.toNat 3) (Ty.dflt tpart)).2.2.1 - 1))) (List.getD x.2 (Int.toNat 3) (Ty.dflt tpart)).2.2.2.1))))
              .fail)
             .fail)
            (.ret (bor IntKind.i64 (bor IntKind.i64 (bor IntKind.i64 x.1 (ishl IntKind.i64 (band IntKind.i64 (ishr IntKind.i64 (List.getD x.2 (Int.toNat 0) (Ty.dflt tpart)).1 (List.getD x.2 (Int.toNat 0) (Ty.dflt tpart)).2.1) (w64 (ishl IntKind.i64 1 (List.getD x.2 (Int.toNat 0) (Ty.dflt tpart)).2.2.1 - 1))) (List.getD x.2 (Int.toNat 0) (Ty.dflt tpart)).2.2.2.1)) (ishl IntKind.i64 (band IntKind.i64 (ishr IntKind.i64 (List.getD x.2 (Int.toNat 1) (Ty.dflt tpart)).1 (List.getD x.2 (Int.toNat 1) (Ty.dflt tpart)).2.1) (w64 (ishl IntKind.i64 1 (List.getD x.2 (Int.toNat 1) (Ty.dflt tpart)).2.2.1 - 1))) (List.getD x.2 (Int.toNat 1) (Ty.dflt tpart)).2.2.2.1)) (ishl IntKind.i64 (band IntKind.i64 (ishr IntKind.i64 (List.getD x.2 (Int.toNat 2) (Ty.dflt tpart)).1 (List.getD x.2 (Int.toNat 2) (Ty.dflt tpart)).2.1) (w64 (ishl IntKind.i64 1 (List.getD x.2 (Int.toNat 2) (Ty.dflt tpart)).2.2.1 - 1))) (List.getD x.2 (Int.toNat 2) (Ty.dflt tpart)).2.2.2.1))))
           .fail)
          .fail)
         (.ret (bor IntKind.i64 (bor IntKind.i64 x.1 (ishl IntKind.i64 (band IntKind.i64 (ishr IntKind.i64 (List.getD x.2 (Int.toNat 0) (Ty.dflt tpart)).1 (List.getD x.2 (Int.toNat 0) (Ty.dflt tpart)).2.1) (w64 (ishl IntKind.i64 1 (List.getD x.2 (Int.toNat 0) (Ty.dflt tpart)).2.2.1 - 1))) (List.getD x.2 (Int.toNat 0) (Ty.dflt tpart)).2.2.2.1)) (ishl IntKind.i64 (band IntKind.i64 (ishr IntKind.i64 (List.getD x.2 (Int.toNat 1) (Ty.dflt tpart)).1 (List.getD x.2 (Int.toNat 1) (Ty.dflt tpart)).2.1) (w64 (ishl IntKind.i64 1 (List.getD x.2 (Int.toNat 1) (Ty.dflt tpart)).2.2.1 - 1))) (List.getD x.2 (Int.toNat 1) (Ty.dflt tpart)).2.2.2.1))))
        .fail)
       .fail)
      (.ret (bor IntKind.i64 x.1 (ishl IntKind.i64 (band IntKind.i64 (ishr IntKind.i64 (List.getD x.2 (Int.toNat 0) (Ty.dflt tpart)).1 (List.getD x.2 (Int.toNat 0) (Ty.dflt tpart)).2.1) (w64 (ishl IntKind.i64 1 (List.getD x.2 (Int.toNat 0) (Ty.dflt tpart)).2.2.1 - 1))) (List.getD x.2 (Int.toNat 0) (Ty.dflt tpart)).2.2.2.1))))
     .fail)
    .fail)
   (.ret (x.1)))
def G_thumb_put (x : dens A_thumb_put) : Bool := (decide ((0 : Int) ≤ x.1) && decide ((x.1 : Int) < 281474976710656)) && (decide (List.length x.2 ≤ 5) && List.all x.2 partOk)
def V_thumb_put (x : dens A_thumb_put) : Sh.den S_thumb_put := ((List.foldl (fun b p => b ||| partN p) (Int.toNat x.1) x.2 : Nat) : Int)
theorem ok_thumb_put (x : dens A_thumb_put) (h : G_thumb_put x = true) : (T_thumb_put x).val = some (V_thumb_put x) := by
  obtain ⟨n, l⟩ := x
  simp only [G_thumb_put, Bool.and_eq_true, decide_eq_true_eq] at h
  obtain ⟨⟨h1, h2⟩, h3, h4⟩ := h
  dsimp only [Ty.den] at *
  obtain ⟨b, rfl⟩ := Int.eq_ofNat_of_zero_le h1
  unfold V_thumb_put
  match l, h3, h4 with
  | [], _, _ => simp [T_thumb_put, PO.val, lenI]
  | [p], _, h4 =>
    simp only [List.all_cons, List.all_nil, Bool.and_true] at h4
    obtain ⟨e1, l1⟩ := or_part p h4 (show b < 281474976710656 by omega)
    obtain ⟨_, _, p1, p2, p3⟩ := part_val p h4
    simp [T_thumb_put, PO.val, lenI, inRange, p1, p2, p3, e1]
  | [p, q], _, h4 =>
    simp only [List.all_cons, List.all_nil, Bool.and_true, Bool.and_eq_true] at h4
    obtain ⟨hp, hq⟩ := h4
    obtain ⟨e1, l1⟩ := or_part p hp (show b < 281474976710656 by omega)
    obtain ⟨_, _, p1, p2, p3⟩ := part_val p hp
    obtain ⟨e2, l2⟩ := or_part q hq l1
    obtain ⟨_, _, q1, q2, q3⟩ := part_val q hq
    simp [T_thumb_put, PO.val, lenI, inRange, p1, p2, p3, e1, q1, q2, q3, e2]
  | [p, q, r], _, h4 =>
    simp only [List.all_cons, List.all_nil, Bool.and_true, Bool.and_eq_true] at h4
    obtain ⟨hp, hq, hr⟩ := h4
    obtain ⟨e1, l1⟩ := or_part p hp (show b < 281474976710656 by omega)
    obtain ⟨_, _, p1, p2, p3⟩ := part_val p hp
    obtain ⟨e2, l2⟩ := or_part q hq l1
    obtain ⟨_, _, q1, q2, q3⟩ := part_val q hq
    obtain ⟨e3, l3⟩ := or_part r hr l2
    obtain ⟨_, _, r1, r2, r3⟩ := part_val r hr
    simp [T_thumb_put, PO.val, lenI, inRange, p1, p2, p3, e1, q1, q2, q3, e2, r1, r2, r3, e3]
  | [p, q, r, s], _, h4 =>
    simp only [List.all_cons, List.all_nil, Bool.and_true, Bool.and_eq_true] at h4
    obtain ⟨hp, hq, hr, hs⟩ := h4
    obtain ⟨e1, l1⟩ := or_part p hp (show b < 281474976710656 by omega)
    obtain ⟨_, _, p1, p2, p3⟩ := part_val p hp
    obtain ⟨e2, l2⟩ := or_part q hq l1
    obtain ⟨_, _, q1, q2, q3⟩ := part_val q hq
    obtain ⟨e3, l3⟩ := or_part r hr l2
    obtain ⟨_, _, r1, r2, r3⟩ := part_val r hr
    obtain ⟨e4, l4⟩ := or_part s hs l3
    obtain ⟨_, _, s1, s2, s3⟩ := part_val s hs
    simp [T_thumb_put, PO.val, lenI, inRange, p1, p2, p3, e1, q1, q2, q3, e2, r1, r2, r3, e3, s1, s2, s3, e4]
  | [p, q, r, s, t], _, h4 =>
    simp only [List.all_cons, List.all_nil, Bool.and_true, Bool.and_eq_true] at h4
    obtain ⟨hp, hq, hr, hs, ht⟩ := h4
    obtain ⟨e1, l1⟩ := or_part p hp (show b < 281474976710656 by omega)
    obtain ⟨_, _, p1, p2, p3⟩ := part_val p hp
    obtain ⟨e2, l2⟩ := or_part q hq l1
    obtain ⟨_, _, q1, q2, q3⟩ := part_val q hq
    obtain ⟨e3, l3⟩ := or_part r hr l2
    obtain ⟨_, _, r1, r2, r3⟩ := part_val r hr
    obtain ⟨e4, l4⟩ := or_part s hs l3
    obtain ⟨_, _, s1, s2, s3⟩ := part_val s hs
    obtain ⟨e5, l5⟩ := or_part t ht l4
    obtain ⟨_, _, t1, t2, t3⟩ := part_val t ht
    simp [T_thumb_put, PO.val, lenI, inRange, p1, p2, p3, e1, q1, q2, q3, e2, r1, r2, r3, e3, s1, s2, s3, e4, t1, t2, t3, e5]
  | _ :: _ :: _ :: _ :: _ :: _ :: _, h3, _ => simp at h3
/-- thumb.shifted -/
abbrev A_thumb_shifted : List Ty := [(.int .i64), tIns, (.int .i64)]
abbrev S_thumb_shifted : Sh := Sh.ty tSpot
def T_thumb_shifted (x : dens A_thumb_shifted) : PO (Sh.den S_thumb_shifted) :=
  (.ite (G_thumb_put (0, [(x.2.1.2.2.2.2.2.1, 2, 3, 12, ()), (x.2.1.2.1, 0, 4, 8, ()), (x.2.1.2.2.2.2.2.1, 0, 2, 6, ()), (x.2.2, 0, 2, 4, ()), (x.2.1.2.2.2.1, 0, 4, 0, ())]))
   (.ite (G_thumb_put (x.1, [(x.2.1.2.2.1, 0, 4, 0, ())]))
    (.ret ((V_thumb_put (x.1, [(x.2.1.2.2.1, 0, 4, 0, ())]), V_thumb_put (0, [(x.2.1.2.2.2.2.2.1, 2, 3, 12, ()), (x.2.1.2.1, 0, 4, 8, ()), (x.2.1.2.2.2.2.2.1, 0, 2, 6, ()), (x.2.2, 0, 2, 4, ()), (x.2.1.2.2.2.1, 0, 4, 0, ())]), true, ())))
    .fail)
   .fail)
def G_thumb_shifted (x : dens A_thumb_shifted) : Bool := (T_thumb_shifted x).val.isSome
def V_thumb_shifted (x : dens A_thumb_shifted) : Sh.den S_thumb_shifted := (T_thumb_shifted x).getO default
theorem ok_thumb_shifted (x : dens A_thumb_shifted) (h : G_thumb_shifted x = true) : (T_thumb_shifted x).val = some (V_thumb_shifted x) := PO.getO_ok default h
/-- thumb.move -/
abbrev A_thumb_move : List Ty := [(.int .i64), tIns]
abbrev S_thumb_move : Sh := Sh.ty tSpot
def T_thumb_move (x : dens A_thumb_move) : PO (Sh.den S_thumb_move) :=
  (.ite (G_thumb_put (x.1, [(x.2.2.2.2.2.2.1, 11, 1, 10, ()), (x.2.2.2.2.2.2.1, 12, 4, 0, ())]))
   (.ite (G_thumb_put (0, [(x.2.2.2.2.2.2.1, 8, 3, 12, ()), (x.2.2.1, 0, 4, 8, ()), (x.2.2.2.2.2.2.1, 0, 8, 0, ())]))
    (.ret ((V_thumb_put (x.1, [(x.2.2.2.2.2.2.1, 11, 1, 10, ()), (x.2.2.2.2.2.2.1, 12, 4, 0, ())]), V_thumb_put (0, [(x.2.2.2.2.2.2.1, 8, 3, 12, ()), (x.2.2.1, 0, 4, 8, ()), (x.2.2.2.2.2.2.1, 0, 8, 0, ())]), true, ())))
    .fail)
   .fail)
def G_thumb_move (x : dens A_thumb_move) : Bool := (T_thumb_move x).val.isSome
def V_thumb_move (x : dens A_thumb_move) : Sh.den S_thumb_move := (T_thumb_move x).getO default
theorem ok_thumb_move (x : dens A_thumb_move) (h : G_thumb_move x = true) : (T_thumb_move x).val = some (V_thumb_move x) := PO.getO_ok default h
/-- thumb.short -/
abbrev A_thumb_short : List Ty := [(.int .i64), (.int .i64), (.int .i64)]
abbrev S_thumb_short : Sh := Sh.ty tSpot
def T_thumb_short (x : dens A_thumb_short) : PO (Sh.den S_thumb_short) :=
  (.ite (G_thumb_put (x.1, [(x.2.1, 0, 3, 0, ()), (x.2.2, 0, 3, 3, ())]))
   (.ret ((V_thumb_put (x.1, [(x.2.1, 0, 3, 0, ()), (x.2.2, 0, 3, 3, ())]), 0, false, ())))
   .fail)
def G_thumb_short (x : dens A_thumb_short) : Bool := (T_thumb_short x).val.isSome
def V_thumb_short (x : dens A_thumb_short) : Sh.den S_thumb_short := (T_thumb_short x).getO default
theorem ok_thumb_short (x : dens A_thumb_short) (h : G_thumb_short x = true) : (T_thumb_short x).val = some (V_thumb_short x) := PO.getO_ok default h
/-- thumb.wide -/
abbrev A_thumb_wide : List Ty := [tIns]
abbrev S_thumb_wide : Sh := Sh.ty tSpot
def T_thumb_wide (x : dens A_thumb_wide) : PO (Sh.den S_thumb_wide) :=
  (.ite (G_thumb_put (0, [(x.2.2.2.2.2.1, 1, 11, 0, ())]))
   (.ite (x.1 == 25)
    (.ite (G_thumb_put (61440, [(band IntKind.i64 (ishr IntKind.i64 x.2.2.2.2.2.1 24) 1, 0, 1, 10, ()), (x.2.2.2.2.2.2.1, 0, 4, 6, ()), (x.2.2.2.2.2.1, 12, 6, 0, ())]))
     (.ite (G_thumb_put (bor IntKind.i64 (V_thumb_put (0, [(x.2.2.2.2.2.1, 1, 11, 0, ())])) 32768, [(x.2.2.2.2.2.1, 18, 1, 13, ()), (x.2.2.2.2.2.1, 19, 1, 11, ())]))
      (.ret ((V_thumb_put (61440, [(band IntKind.i64 (ishr IntKind.i64 x.2.2.2.2.2.1 24) 1, 0, 1, 10, ()), (x.2.2.2.2.2.2.1, 0, 4, 6, ()), (x.2.2.2.2.2.1, 12, 6, 0, ())]), V_thumb_put (bor IntKind.i64 (V_thumb_put (0, [(x.2.2.2.2.2.1, 1, 11, 0, ())])) 32768, [(x.2.2.2.2.2.1, 18, 1, 13, ()), (x.2.2.2.2.2.1, 19, 1, 11, ())]), true, ())))
      .fail)
     .fail)
    (.ite (G_thumb_put (61440, [(band IntKind.i64 (ishr IntKind.i64 x.2.2.2.2.2.1 24) 1, 0, 1, 10, ()), (x.2.2.2.2.2.1, 12, 10, 0, ())]))
     (.ite (G_thumb_put (bor IntKind.i64 (V_thumb_put (0, [(x.2.2.2.2.2.1, 1, 11, 0, ())])) 36864, [(bxor IntKind.i64 (icompl IntKind.i64 (ishr IntKind.i64 x.2.2.2.2.2.1 23)) (band IntKind.i64 (ishr IntKind.i64 x.2.2.2.2.2.1 24) 1), 0, 1, 13, ()), (bxor IntKind.i64 (icompl IntKind.i64 (ishr IntKind.i64 x.2.2.2.2.2.1 22)) (band IntKind.i64 (ishr IntKind.i64 x.2.2.2.2.2.1 24) 1), 0, 1, 11, ())]))
      (.ret ((V_thumb_put (61440, [(band IntKind.i64 (ishr IntKind.i64 x.2.2.2.2.2.1 24) 1, 0, 1, 10, ()), (x.2.2.2.2.2.1, 12, 10, 0, ())]), V_thumb_put (bor IntKind.i64 (V_thumb_put (0, [(x.2.2.2.2.2.1, 1, 11, 0, ())])) 36864, [(bxor IntKind.i64 (icompl IntKind.i64 (ishr IntKind.i64 x.2.2.2.2.2.1 23)) (band IntKind.i64 (ishr IntKind.i64 x.2.2.2.2.2.1 24) 1), 0, 1, 13, ()), (bxor IntKind.i64 (icompl IntKind.i64 (ishr IntKind.i64 x.2.2.2.2.2.1 22)) (band IntKind.i64 (ishr IntKind.i64 x.2.2.2.2.2.1 24) 1), 0, 1, 11, ())]), true, ())))
      .fail)
     .fail))
   .fail)
def G_thumb_wide (x : dens A_thumb_wide) : Bool := (T_thumb_wide x).val.isSome
def V_thumb_wide (x : dens A_thumb_wide) : Sh.den S_thumb_wide := (T_thumb_wide x).getO default
theorem ok_thumb_wide (x : dens A_thumb_wide) (h : G_thumb_wide x = true) : (T_thumb_wide x).val = some (V_thumb_wide x) := PO.getO_ok default h
/-- thumb.others -/
abbrev A_thumb_others : List Ty := [tIns]
abbrev S_thumb_others : Sh := Sh.ty tSpot
def T_thumb_others (x : dens A_thumb_others) : PO (Sh.den S_thumb_others) :=
  (.ite (x.1 == 16)
   (.ite (G_thumb_shifted (64256, x, 0))
    (.ret (((V_thumb_shifted (64256, x, 0)).1, bor IntKind.i64 (V_thumb_shifted (64256, x, 0)).2.1 61440, (V_thumb_shifted (64256, x, 0)).2.2)))
    .fail)
   (.ite (x.1 == 17)
    (.ret ((bor IntKind.i64 64416 x.2.2.1, bor IntKind.i64 (bor IntKind.i64 (ishl IntKind.i64 x.2.1 12) (ishl IntKind.i64 x.2.2.2.2.1 8)) x.2.2.2.1, true, ())))
    (.ite (x.1 == 18)
     (.ite (G_thumb_put (w64 (w64 (x.2.2.2.2.2.1 + x.2.2.2.2.1) - 1), [(x.2.2.2.2.2.1, 2, 3, 12, ()), (x.2.1, 0, 4, 8, ()), (x.2.2.2.2.2.1, 0, 2, 6, ())]))
      (.ret ((bor IntKind.i64 62304 x.2.2.1, V_thumb_put (w64 (w64 (x.2.2.2.2.2.1 + x.2.2.2.2.1) - 1), [(x.2.2.2.2.2.1, 2, 3, 12, ()), (x.2.1, 0, 4, 8, ()), (x.2.2.2.2.2.1, 0, 2, 6, ())]), true, ())))
      .fail)
     (.ite (x.1 == 19)
      (.ite (G_thumb_short (26624, x.2.1, x.2.2.1))
       (.ret (V_thumb_short (26624, x.2.1, x.2.2.1)))
       .fail)
      (.ite (x.1 == 20)
       (.ite (G_thumb_short (24576, x.2.1, x.2.2.1))
        (.ret (V_thumb_short (24576, x.2.1, x.2.2.1)))
        .fail)
       (.ite (x.1 == 21)
        (.ite (G_thumb_short (30720, x.2.1, x.2.2.1))
         (.ret (V_thumb_short (30720, x.2.1, x.2.2.1)))
         .fail)
        (.ite (x.1 == 22)
         (.ite (G_thumb_short (28672, x.2.1, x.2.2.1))
          (.ret (V_thumb_short (28672, x.2.1, x.2.2.1)))
          .fail)
         (.ite (x.1 == 23)
          (.ite (G_thumb_short (17024, x.2.2.1, x.2.2.2.1))
           (.ret (V_thumb_short (17024, x.2.2.1, x.2.2.2.1)))
           .fail)
          (.ite (x.2.2.2.2.2.2.2.1)
           (.ite (G_thumb_wide x)
            (.ret (V_thumb_wide x))
            .fail)
           (.ite (x.1 == 24)
            (.ite (G_thumb_put (57344, [(x.2.2.2.2.2.1, 1, 11, 0, ())]))
             (.ret ((V_thumb_put (57344, [(x.2.2.2.2.2.1, 1, 11, 0, ())]), 0, false, ())))
             .fail)
            (.ite (G_thumb_put (53248, [(x.2.2.2.2.2.2.1, 0, 4, 8, ()), (x.2.2.2.2.2.1, 1, 8, 0, ())]))
             (.ret ((V_thumb_put (53248, [(x.2.2.2.2.2.2.1, 0, 4, 8, ()), (x.2.2.2.2.2.1, 1, 8, 0, ())]), 0, false, ())))
             .fail)))))))))))
def G_thumb_others (x : dens A_thumb_others) : Bool := (T_thumb_others x).val.isSome
def V_thumb_others (x : dens A_thumb_others) : Sh.den S_thumb_others := (T_thumb_others x).getO default
theorem ok_thumb_others (x : dens A_thumb_others) (h : G_thumb_others x = true) : (T_thumb_others x).val = some (V_thumb_others x) := PO.getO_ok default h
/-- thumb.bits -/
abbrev A_thumb_bits : List Ty := [tIns]
abbrev S_thumb_bits : Sh := Sh.ty tSpot
def T_thumb_bits (x : dens A_thumb_bits) : PO (Sh.den S_thumb_bits) :=
  (.ite (x.1 == 1)
   (.ret ((48896, 0, false, ())))
   (.ite (x.1 == 2)
    (.ret ((bor IntKind.i64 48640 x.2.2.2.2.2.1, 0, false, ())))
    (.ite (x.1 == 3)
     (.ite (G_thumb_move (62016, x))
      (.ret (V_thumb_move (62016, x)))
      .fail)
     (.ite (x.1 == 4)
      (.ite (G_thumb_move (62144, x))
       (.ret (V_thumb_move (62144, x)))
       .fail)
      (.ite (bif x.1 == 5 then x.1 == 5 else bif x.1 == 6 then x.1 == 6 else bif x.1 == 7 then x.1 == 7 else x.1 == 8)
       (.ite (G_thumb_shifted (59983, x, w64 (x.1 - 5)))
        (.ret (V_thumb_shifted (59983, x, w64 (x.1 - 5))))
        .fail)
       (.ite (x.1 == 9)
        (.ite (G_thumb_shifted (60015, x, 0))
         (.ret (V_thumb_shifted (60015, x, 0)))
         .fail)
        (.ite (x.1 == 10)
         (.ite (G_thumb_shifted (59904, x, 0))
          (.ret (V_thumb_shifted (59904, x, 0)))
          .fail)
         (.ite (x.1 == 11)
          (.ite (G_thumb_shifted (59936, x, 0))
           (.ret (V_thumb_shifted (59936, x, 0)))
           .fail)
          (.ite (x.1 == 12)
           (.ite (G_thumb_shifted (59968, x, 0))
            (.ret (V_thumb_shifted (59968, x, 0)))
            .fail)
           (.ite (x.1 == 13)
            (.ite (G_thumb_shifted (60032, x, 0))
             (.ret (V_thumb_shifted (60032, x, 0)))
             .fail)
            (.ite (x.1 == 14)
             (.ite (G_thumb_shifted (60160, x, 0))
              (.ret (V_thumb_shifted (60160, x, 0)))
              .fail)
             (.ite (x.1 == 15)
              (.ite (G_thumb_shifted (60320, x, 0))
               (.ret (V_thumb_shifted (60320, x, 0)))
               .fail)
              (.ite (G_thumb_others x)
               (.ret (V_thumb_others x))
               .fail)))))))))))))
def G_thumb_bits (x : dens A_thumb_bits) : Bool := (T_thumb_bits x).val.isSome
def V_thumb_bits (x : dens A_thumb_bits) : Sh.den S_thumb_bits := (T_thumb_bits x).getO default
theorem ok_thumb_bits (x : dens A_thumb_bits) (h : G_thumb_bits x = true) : (T_thumb_bits x).val = some (V_thumb_bits x) := PO.getO_ok default h
end Go.Av
end
/-! Layer 2: instructions' bits, and how many bytes there are. -/
section
namespace Go.Av
open Go

/-- Has an instruction 32 bits? -/
def isLong (op : Int) (w : Bool) : Bool := w || (decide (3 ≤ op) && decide (op ≤ 18))

theorem put_ok (b : Nat) (l : List tpart.den) (hb : b < 281474976710656) (hl : (decide (List.length l ≤ 5) && List.all l partOk) = true) : G_thumb_put ((b : Int), l) = true := by
  have h1 : decide ((0 : Int) ≤ (b : Int)) = true := dec_true (by omega)
  have h2 : decide ((b : Int) < 281474976710656) = true := dec_true (by omega)
  show ((decide ((0 : Int) ≤ (b : Int)) && decide ((b : Int) < 281474976710656)) && (decide (List.length l ≤ 5) && List.all l partOk)) = true
  rw [h1, h2, hl]
  rfl
theorem put_ok0 (l : List tpart.den) (hl : (decide (List.length l ≤ 5) && List.all l partOk) = true) : G_thumb_put (0, l) = true := put_ok 0 l (by omega) hl

section
variable (first : Nat) (op rd rn rm ra imm cond : Int) (w : Bool) (kind : Int)

theorem shifted_val (h : first < 281474976710656) : (T_thumb_shifted ((first : Int), (op, rd, rn, rm, ra, imm, cond, w, ()), kind)).val =
    some (V_thumb_put ((first : Int), [(rn, 0, 4, 0, ())]), V_thumb_put (0, [(imm, 2, 3, 12, ()), (rd, 0, 4, 8, ()), (imm, 0, 2, 6, ()), (kind, 0, 2, 4, ()), (rm, 0, 4, 0, ())]), true, ()) := by
  have h1 : G_thumb_put ((first : Int), [(rn, 0, 4, 0, ())]) = true := put_ok first _ h rfl
  have h2 : G_thumb_put (0, [(imm, 2, 3, 12, ()), (rd, 0, 4, 8, ()), (imm, 0, 2, 6, ()), (kind, 0, 2, 4, ()), (rm, 0, 4, 0, ())]) = true := put_ok0 _ rfl
  show (bif G_thumb_put (0, [(imm, 2, 3, 12, ()), (rd, 0, 4, 8, ()), (imm, 0, 2, 6, ()), (kind, 0, 2, 4, ()), (rm, 0, 4, 0, ())]) then (bif G_thumb_put ((first : Int), [(rn, 0, 4, 0, ())]) then _ else _) else _) = _
  rw [h1, h2]
  rfl

theorem move_val (h : first < 281474976710656) : (T_thumb_move ((first : Int), (op, rd, rn, rm, ra, imm, cond, w, ()))).val =
    some (V_thumb_put ((first : Int), [(imm, 11, 1, 10, ()), (imm, 12, 4, 0, ())]), V_thumb_put (0, [(imm, 8, 3, 12, ()), (rd, 0, 4, 8, ()), (imm, 0, 8, 0, ())]), true, ()) := by
  have h1 : G_thumb_put ((first : Int), [(imm, 11, 1, 10, ()), (imm, 12, 4, 0, ())]) = true := put_ok first _ h rfl
  have h2 : G_thumb_put (0, [(imm, 8, 3, 12, ()), (rd, 0, 4, 8, ()), (imm, 0, 8, 0, ())]) = true := put_ok0 _ rfl
  show (bif G_thumb_put ((first : Int), [(imm, 11, 1, 10, ()), (imm, 12, 4, 0, ())]) then (bif G_thumb_put (0, [(imm, 8, 3, 12, ()), (rd, 0, 4, 8, ()), (imm, 0, 8, 0, ())]) then _ else _) else _) = _
  rw [h1, h2]
  rfl

theorem short_val (a b : Int) (h : first < 281474976710656) : (T_thumb_short ((first : Int), a, b)).val = some (V_thumb_put ((first : Int), [(a, 0, 3, 0, ()), (b, 0, 3, 3, ())]), 0, false, ()) := by
  have h1 : G_thumb_put ((first : Int), [(a, 0, 3, 0, ()), (b, 0, 3, 3, ())]) = true := put_ok first _ h rfl
  show (bif G_thumb_put ((first : Int), [(a, 0, 3, 0, ()), (b, 0, 3, 3, ())]) then _ else _) = _
  rw [h1]
  rfl

/-- The low eleven bits of a branch's distance. -/
def lowN : Nat := fldN imm 1 11 0
theorem lowN_lt : lowN imm < 2048 := by
  unfold lowN fldN
  have h := mod_pow_nat (imm / (2 ^ (1 : Int).toNat : Nat)) 11
  have e : (11 : Int).toNat = 11 := rfl
  have e0 : (0 : Int).toNat = 0 := rfl
  rw [e, e0]
  omega
theorem put_low : V_thumb_put (0, [(imm, 1, 11, 0, ())]) = (lowN imm : Int) := by
  show ((0 ||| fldN imm 1 11 0 : Nat) : Int) = _
  rw [Nat.zero_or]
  rfl

/-- A wide branch's bits. -/
def wideV : tSpot.den :=
  bif op == 25 then (V_thumb_put (61440, [(band .i64 (ishr .i64 imm 24) 1, 0, 1, 10, ()), (cond, 0, 4, 6, ()), (imm, 12, 6, 0, ())]), V_thumb_put (((lowN imm ||| 32768 : Nat) : Int), [(imm, 18, 1, 13, ()), (imm, 19, 1, 11, ())]), true, ())
  else (V_thumb_put (61440, [(band .i64 (ishr .i64 imm 24) 1, 0, 1, 10, ()), (imm, 12, 10, 0, ())]), V_thumb_put (((lowN imm ||| 36864 : Nat) : Int), [(bxor .i64 (icompl .i64 (ishr .i64 imm 23)) (band .i64 (ishr .i64 imm 24) 1), 0, 1, 13, ()), (bxor .i64 (icompl .i64 (ishr .i64 imm 22)) (band .i64 (ishr .i64 imm 24) 1), 0, 1, 11, ())]), true, ())

theorem wide_val : (T_thumb_wide (op, rd, rn, rm, ra, imm, cond, w, ())).val = some (wideV op imm cond) := by
  have hl := lowN_lt imm
  have o1 : lowN imm ||| 32768 < 2 ^ 48 := Nat.or_lt_two_pow (by omega) (by omega)
  have o2 : lowN imm ||| 36864 < 2 ^ 48 := Nat.or_lt_two_pow (by omega) (by omega)
  have e1 : bor .i64 (V_thumb_put (0, [(imm, 1, 11, 0, ())])) 32768 = ((lowN imm ||| 32768 : Nat) : Int) := by
    rw [put_low]; exact bor_nat (b := 32768) (by omega) (by omega)
  have e2 : bor .i64 (V_thumb_put (0, [(imm, 1, 11, 0, ())])) 36864 = ((lowN imm ||| 36864 : Nat) : Int) := by
    rw [put_low]; exact bor_nat (b := 36864) (by omega) (by omega)
  have g0 : G_thumb_put (0, [(imm, 1, 11, 0, ())]) = true := put_ok0 _ rfl
  have g1 : G_thumb_put (61440, [(band .i64 (ishr .i64 imm 24) 1, 0, 1, 10, ()), (cond, 0, 4, 6, ()), (imm, 12, 6, 0, ())]) = true := put_ok 61440 _ (by omega) rfl
  have g2 : G_thumb_put (61440, [(band .i64 (ishr .i64 imm 24) 1, 0, 1, 10, ()), (imm, 12, 10, 0, ())]) = true := put_ok 61440 _ (by omega) rfl
  have g3 := put_ok (lowN imm ||| 32768) [(imm, 18, 1, 13, ()), (imm, 19, 1, 11, ())] o1 rfl
  have g4 := put_ok (lowN imm ||| 36864) [(bxor .i64 (icompl .i64 (ishr .i64 imm 23)) (band .i64 (ishr .i64 imm 24) 1), 0, 1, 13, ()), (bxor .i64 (icompl .i64 (ishr .i64 imm 22)) (band .i64 (ishr .i64 imm 24) 1), 0, 1, 11, ())] o2 rfl
  simp only [T_thumb_wide, PO.val]
  rw [e1, e2, g0, g1, g2, g3, g4]
  unfold wideV
  cases op == 25
  · rfl
  · rfl
end

/-- An instruction's bits, if it is one. -/
def codeV (op rd rn rm ra imm cond : Int) (w : Bool) : tSpot.den :=
  bif op == 1 then (48896, 0, false, ())
  else bif op == 2 then (bor .i64 48640 imm, 0, false, ())
  else bif op == 3 then (V_thumb_put (62016, [(imm, 11, 1, 10, ()), (imm, 12, 4, 0, ())]), V_thumb_put (0, [(imm, 8, 3, 12, ()), (rd, 0, 4, 8, ()), (imm, 0, 8, 0, ())]), true, ())
  else bif op == 4 then (V_thumb_put (62144, [(imm, 11, 1, 10, ()), (imm, 12, 4, 0, ())]), V_thumb_put (0, [(imm, 8, 3, 12, ()), (rd, 0, 4, 8, ()), (imm, 0, 8, 0, ())]), true, ())
  else bif decide (op ≤ 16) && decide (5 ≤ op) then
    (V_thumb_put (bif decide (op ≤ 8) then 59983 else bif op == 9 then 60015 else bif op == 10 then 59904 else bif op == 11 then 59936 else bif op == 12 then 59968 else bif op == 13 then 60032 else bif op == 14 then 60160 else bif op == 15 then 60320 else 64256, [(rn, 0, 4, 0, ())]),
     (bif op == 16 then bor .i64 (V_thumb_put (0, [(imm, 2, 3, 12, ()), (rd, 0, 4, 8, ()), (imm, 0, 2, 6, ()), (0, 0, 2, 4, ()), (rm, 0, 4, 0, ())])) 61440
      else V_thumb_put (0, [(imm, 2, 3, 12, ()), (rd, 0, 4, 8, ()), (imm, 0, 2, 6, ()), (bif decide (op ≤ 8) then op - 5 else 0, 0, 2, 4, ()), (rm, 0, 4, 0, ())])), true, ())
  else bif op == 17 then (bor .i64 64416 rn, bor .i64 (bor .i64 (ishl .i64 rd 12) (ishl .i64 ra 8)) rm, true, ())
  else bif op == 18 then (bor .i64 62304 rn, V_thumb_put (imm + ra - 1, [(imm, 2, 3, 12, ()), (rd, 0, 4, 8, ()), (imm, 0, 2, 6, ())]), true, ())
  else bif op == 23 then (V_thumb_put (17024, [(rn, 0, 3, 0, ()), (rm, 0, 3, 3, ())]), 0, false, ())
  else bif decide (op ≤ 22) then (V_thumb_put (bif op == 19 then 26624 else bif op == 20 then 24576 else bif op == 21 then 30720 else 28672, [(rd, 0, 3, 0, ()), (rn, 0, 3, 3, ())]), 0, false, ())
  else bif w then wideV op imm cond
  else bif op == 24 then (V_thumb_put (57344, [(imm, 1, 11, 0, ())]), 0, false, ())
  else (V_thumb_put (53248, [(cond, 0, 4, 8, ()), (imm, 1, 8, 0, ())]), 0, false, ())

theorem check_bfi {rd rn rm ra imm cond : Int} {w : Bool} (h : V_thumb_Check (18, rd, rn, rm, ra, imm, cond, w, ()) = 0) : 0 ≤ imm ∧ imm ≤ 31 ∧ 1 ≤ ra ∧ ra ≤ 32 - imm := by
  have hw := left_same imm
  simp [V_thumb_Check, T_thumb_Check, V_thumb_formOf, T_thumb_formOf, V_thumb_field, T_thumb_field, V_thumb_within, T_thumb_within, PO.getO, PO.val] at h
  grind

theorem bits_1 (rd rn rm ra imm cond : Int) (w : Bool) (_ : V_thumb_Check (1, rd, rn, rm, ra, imm, cond, w, ()) = 0) : (T_thumb_bits (1, rd, rn, rm, ra, imm, cond, w, ())).val = some (codeV 1 rd rn rm ra imm cond w) := by
  rfl
theorem bits_2 (rd rn rm ra imm cond : Int) (w : Bool) (_ : V_thumb_Check (2, rd, rn, rm, ra, imm, cond, w, ()) = 0) : (T_thumb_bits (2, rd, rn, rm, ra, imm, cond, w, ())).val = some (codeV 2 rd rn rm ra imm cond w) := by
  rfl
theorem bits_3 (rd rn rm ra imm cond : Int) (w : Bool) (_ : V_thumb_Check (3, rd, rn, rm, ra, imm, cond, w, ()) = 0) : (T_thumb_bits (3, rd, rn, rm, ra, imm, cond, w, ())).val = some (codeV 3 rd rn rm ra imm cond w) := by
  have e : (T_thumb_move (62016, 3, rd, rn, rm, ra, imm, cond, w, ())).val = _ := move_val 62016 3 rd rn rm ra imm cond w (by omega)
  refine Eq.trans (b := (bif (PO.val (T_thumb_move (62016, 3, rd, rn, rm, ra, imm, cond, w, ()))).isSome then some ((PO.val (T_thumb_move (62016, 3, rd, rn, rm, ra, imm, cond, w, ()))).getD default) else none)) rfl ?_
  rw [e]
  rfl
theorem bits_4 (rd rn rm ra imm cond : Int) (w : Bool) (_ : V_thumb_Check (4, rd, rn, rm, ra, imm, cond, w, ()) = 0) : (T_thumb_bits (4, rd, rn, rm, ra, imm, cond, w, ())).val = some (codeV 4 rd rn rm ra imm cond w) := by
  have e : (T_thumb_move (62144, 4, rd, rn, rm, ra, imm, cond, w, ())).val = _ := move_val 62144 4 rd rn rm ra imm cond w (by omega)
  refine Eq.trans (b := (bif (PO.val (T_thumb_move (62144, 4, rd, rn, rm, ra, imm, cond, w, ()))).isSome then some ((PO.val (T_thumb_move (62144, 4, rd, rn, rm, ra, imm, cond, w, ()))).getD default) else none)) rfl ?_
  rw [e]
  rfl
theorem bits_5 (rd rn rm ra imm cond : Int) (w : Bool) (_ : V_thumb_Check (5, rd, rn, rm, ra, imm, cond, w, ()) = 0) : (T_thumb_bits (5, rd, rn, rm, ra, imm, cond, w, ())).val = some (codeV 5 rd rn rm ra imm cond w) := by
  have e : (T_thumb_shifted (59983, (5, rd, rn, rm, ra, imm, cond, w, ()), (w64 (5 - 5)))).val = _ := shifted_val 59983 5 rd rn rm ra imm cond w (w64 (5 - 5)) (by omega)
  refine Eq.trans (b := (bif (PO.val (T_thumb_shifted (59983, (5, rd, rn, rm, ra, imm, cond, w, ()), (w64 (5 - 5))))).isSome then some ((PO.val (T_thumb_shifted (59983, (5, rd, rn, rm, ra, imm, cond, w, ()), (w64 (5 - 5))))).getD default) else none)) rfl ?_
  rw [e]
  rfl
theorem bits_6 (rd rn rm ra imm cond : Int) (w : Bool) (_ : V_thumb_Check (6, rd, rn, rm, ra, imm, cond, w, ()) = 0) : (T_thumb_bits (6, rd, rn, rm, ra, imm, cond, w, ())).val = some (codeV 6 rd rn rm ra imm cond w) := by
  have e : (T_thumb_shifted (59983, (6, rd, rn, rm, ra, imm, cond, w, ()), (w64 (6 - 5)))).val = _ := shifted_val 59983 6 rd rn rm ra imm cond w (w64 (6 - 5)) (by omega)
  refine Eq.trans (b := (bif (PO.val (T_thumb_shifted (59983, (6, rd, rn, rm, ra, imm, cond, w, ()), (w64 (6 - 5))))).isSome then some ((PO.val (T_thumb_shifted (59983, (6, rd, rn, rm, ra, imm, cond, w, ()), (w64 (6 - 5))))).getD default) else none)) rfl ?_
  rw [e]
  rfl
theorem bits_7 (rd rn rm ra imm cond : Int) (w : Bool) (_ : V_thumb_Check (7, rd, rn, rm, ra, imm, cond, w, ()) = 0) : (T_thumb_bits (7, rd, rn, rm, ra, imm, cond, w, ())).val = some (codeV 7 rd rn rm ra imm cond w) := by
  have e : (T_thumb_shifted (59983, (7, rd, rn, rm, ra, imm, cond, w, ()), (w64 (7 - 5)))).val = _ := shifted_val 59983 7 rd rn rm ra imm cond w (w64 (7 - 5)) (by omega)
  refine Eq.trans (b := (bif (PO.val (T_thumb_shifted (59983, (7, rd, rn, rm, ra, imm, cond, w, ()), (w64 (7 - 5))))).isSome then some ((PO.val (T_thumb_shifted (59983, (7, rd, rn, rm, ra, imm, cond, w, ()), (w64 (7 - 5))))).getD default) else none)) rfl ?_
  rw [e]
  rfl
theorem bits_8 (rd rn rm ra imm cond : Int) (w : Bool) (_ : V_thumb_Check (8, rd, rn, rm, ra, imm, cond, w, ()) = 0) : (T_thumb_bits (8, rd, rn, rm, ra, imm, cond, w, ())).val = some (codeV 8 rd rn rm ra imm cond w) := by
  have e : (T_thumb_shifted (59983, (8, rd, rn, rm, ra, imm, cond, w, ()), (w64 (8 - 5)))).val = _ := shifted_val 59983 8 rd rn rm ra imm cond w (w64 (8 - 5)) (by omega)
  refine Eq.trans (b := (bif (PO.val (T_thumb_shifted (59983, (8, rd, rn, rm, ra, imm, cond, w, ()), (w64 (8 - 5))))).isSome then some ((PO.val (T_thumb_shifted (59983, (8, rd, rn, rm, ra, imm, cond, w, ()), (w64 (8 - 5))))).getD default) else none)) rfl ?_
  rw [e]
  rfl
theorem bits_9 (rd rn rm ra imm cond : Int) (w : Bool) (_ : V_thumb_Check (9, rd, rn, rm, ra, imm, cond, w, ()) = 0) : (T_thumb_bits (9, rd, rn, rm, ra, imm, cond, w, ())).val = some (codeV 9 rd rn rm ra imm cond w) := by
  have e : (T_thumb_shifted (60015, (9, rd, rn, rm, ra, imm, cond, w, ()), 0)).val = _ := shifted_val 60015 9 rd rn rm ra imm cond w 0 (by omega)
  refine Eq.trans (b := (bif (PO.val (T_thumb_shifted (60015, (9, rd, rn, rm, ra, imm, cond, w, ()), 0))).isSome then some ((PO.val (T_thumb_shifted (60015, (9, rd, rn, rm, ra, imm, cond, w, ()), 0))).getD default) else none)) rfl ?_
  rw [e]
  rfl
theorem bits_10 (rd rn rm ra imm cond : Int) (w : Bool) (_ : V_thumb_Check (10, rd, rn, rm, ra, imm, cond, w, ()) = 0) : (T_thumb_bits (10, rd, rn, rm, ra, imm, cond, w, ())).val = some (codeV 10 rd rn rm ra imm cond w) := by
  have e : (T_thumb_shifted (59904, (10, rd, rn, rm, ra, imm, cond, w, ()), 0)).val = _ := shifted_val 59904 10 rd rn rm ra imm cond w 0 (by omega)
  refine Eq.trans (b := (bif (PO.val (T_thumb_shifted (59904, (10, rd, rn, rm, ra, imm, cond, w, ()), 0))).isSome then some ((PO.val (T_thumb_shifted (59904, (10, rd, rn, rm, ra, imm, cond, w, ()), 0))).getD default) else none)) rfl ?_
  rw [e]
  rfl
theorem bits_11 (rd rn rm ra imm cond : Int) (w : Bool) (_ : V_thumb_Check (11, rd, rn, rm, ra, imm, cond, w, ()) = 0) : (T_thumb_bits (11, rd, rn, rm, ra, imm, cond, w, ())).val = some (codeV 11 rd rn rm ra imm cond w) := by
  have e : (T_thumb_shifted (59936, (11, rd, rn, rm, ra, imm, cond, w, ()), 0)).val = _ := shifted_val 59936 11 rd rn rm ra imm cond w 0 (by omega)
  refine Eq.trans (b := (bif (PO.val (T_thumb_shifted (59936, (11, rd, rn, rm, ra, imm, cond, w, ()), 0))).isSome then some ((PO.val (T_thumb_shifted (59936, (11, rd, rn, rm, ra, imm, cond, w, ()), 0))).getD default) else none)) rfl ?_
  rw [e]
  rfl
theorem bits_12 (rd rn rm ra imm cond : Int) (w : Bool) (_ : V_thumb_Check (12, rd, rn, rm, ra, imm, cond, w, ()) = 0) : (T_thumb_bits (12, rd, rn, rm, ra, imm, cond, w, ())).val = some (codeV 12 rd rn rm ra imm cond w) := by
  have e : (T_thumb_shifted (59968, (12, rd, rn, rm, ra, imm, cond, w, ()), 0)).val = _ := shifted_val 59968 12 rd rn rm ra imm cond w 0 (by omega)
  refine Eq.trans (b := (bif (PO.val (T_thumb_shifted (59968, (12, rd, rn, rm, ra, imm, cond, w, ()), 0))).isSome then some ((PO.val (T_thumb_shifted (59968, (12, rd, rn, rm, ra, imm, cond, w, ()), 0))).getD default) else none)) rfl ?_
  rw [e]
  rfl
theorem bits_13 (rd rn rm ra imm cond : Int) (w : Bool) (_ : V_thumb_Check (13, rd, rn, rm, ra, imm, cond, w, ()) = 0) : (T_thumb_bits (13, rd, rn, rm, ra, imm, cond, w, ())).val = some (codeV 13 rd rn rm ra imm cond w) := by
  have e : (T_thumb_shifted (60032, (13, rd, rn, rm, ra, imm, cond, w, ()), 0)).val = _ := shifted_val 60032 13 rd rn rm ra imm cond w 0 (by omega)
  refine Eq.trans (b := (bif (PO.val (T_thumb_shifted (60032, (13, rd, rn, rm, ra, imm, cond, w, ()), 0))).isSome then some ((PO.val (T_thumb_shifted (60032, (13, rd, rn, rm, ra, imm, cond, w, ()), 0))).getD default) else none)) rfl ?_
  rw [e]
  rfl
theorem bits_14 (rd rn rm ra imm cond : Int) (w : Bool) (_ : V_thumb_Check (14, rd, rn, rm, ra, imm, cond, w, ()) = 0) : (T_thumb_bits (14, rd, rn, rm, ra, imm, cond, w, ())).val = some (codeV 14 rd rn rm ra imm cond w) := by
  have e : (T_thumb_shifted (60160, (14, rd, rn, rm, ra, imm, cond, w, ()), 0)).val = _ := shifted_val 60160 14 rd rn rm ra imm cond w 0 (by omega)
  refine Eq.trans (b := (bif (PO.val (T_thumb_shifted (60160, (14, rd, rn, rm, ra, imm, cond, w, ()), 0))).isSome then some ((PO.val (T_thumb_shifted (60160, (14, rd, rn, rm, ra, imm, cond, w, ()), 0))).getD default) else none)) rfl ?_
  rw [e]
  rfl
theorem bits_15 (rd rn rm ra imm cond : Int) (w : Bool) (_ : V_thumb_Check (15, rd, rn, rm, ra, imm, cond, w, ()) = 0) : (T_thumb_bits (15, rd, rn, rm, ra, imm, cond, w, ())).val = some (codeV 15 rd rn rm ra imm cond w) := by
  have e : (T_thumb_shifted (60320, (15, rd, rn, rm, ra, imm, cond, w, ()), 0)).val = _ := shifted_val 60320 15 rd rn rm ra imm cond w 0 (by omega)
  refine Eq.trans (b := (bif (PO.val (T_thumb_shifted (60320, (15, rd, rn, rm, ra, imm, cond, w, ()), 0))).isSome then some ((PO.val (T_thumb_shifted (60320, (15, rd, rn, rm, ra, imm, cond, w, ()), 0))).getD default) else none)) rfl ?_
  rw [e]
  rfl
theorem bits_16 (rd rn rm ra imm cond : Int) (w : Bool) (_ : V_thumb_Check (16, rd, rn, rm, ra, imm, cond, w, ()) = 0) : (T_thumb_bits (16, rd, rn, rm, ra, imm, cond, w, ())).val = some (codeV 16 rd rn rm ra imm cond w) := by
  have b : (T_thumb_bits (16, rd, rn, rm, ra, imm, cond, w, ())).val = (bif (PO.val (T_thumb_others (16, rd, rn, rm, ra, imm, cond, w, ()))).isSome then some ((PO.val (T_thumb_others (16, rd, rn, rm, ra, imm, cond, w, ()))).getD default) else none) := rfl
  have e : (T_thumb_shifted (64256, (16, rd, rn, rm, ra, imm, cond, w, ()), 0)).val = _ := shifted_val 64256 16 rd rn rm ra imm cond w 0 (by omega)
  have o : (T_thumb_others (16, rd, rn, rm, ra, imm, cond, w, ())).val = some (V_thumb_put (64256, [(rn, 0, 4, 0, ())]), bor .i64 (V_thumb_put (0, [(imm, 2, 3, 12, ()), (rd, 0, 4, 8, ()), (imm, 0, 2, 6, ()), (0, 0, 2, 4, ()), (rm, 0, 4, 0, ())])) 61440, true, ()) := by
    refine Eq.trans (b := (bif (PO.val (T_thumb_shifted (64256, (16, rd, rn, rm, ra, imm, cond, w, ()), 0))).isSome then some (((PO.val (T_thumb_shifted (64256, (16, rd, rn, rm, ra, imm, cond, w, ()), 0))).getD default).1, bor .i64 ((PO.val (T_thumb_shifted (64256, (16, rd, rn, rm, ra, imm, cond, w, ()), 0))).getD default).2.1 61440, ((PO.val (T_thumb_shifted (64256, (16, rd, rn, rm, ra, imm, cond, w, ()), 0))).getD default).2.2) else none)) rfl ?_
    rw [e]
    rfl
  have c : codeV 16 rd rn rm ra imm cond w = (V_thumb_put (64256, [(rn, 0, 4, 0, ())]), bor .i64 (V_thumb_put (0, [(imm, 2, 3, 12, ()), (rd, 0, 4, 8, ()), (imm, 0, 2, 6, ()), (0, 0, 2, 4, ()), (rm, 0, 4, 0, ())])) 61440, true, ()) := rfl
  rw [b, o, c]
  rfl
theorem bits_17 (rd rn rm ra imm cond : Int) (w : Bool) (_ : V_thumb_Check (17, rd, rn, rm, ra, imm, cond, w, ()) = 0) : (T_thumb_bits (17, rd, rn, rm, ra, imm, cond, w, ())).val = some (codeV 17 rd rn rm ra imm cond w) := by
  have b : (T_thumb_bits (17, rd, rn, rm, ra, imm, cond, w, ())).val = (bif (PO.val (T_thumb_others (17, rd, rn, rm, ra, imm, cond, w, ()))).isSome then some ((PO.val (T_thumb_others (17, rd, rn, rm, ra, imm, cond, w, ()))).getD default) else none) := rfl
  have o : (T_thumb_others (17, rd, rn, rm, ra, imm, cond, w, ())).val = some (bor .i64 64416 rn, bor .i64 (bor .i64 (ishl .i64 rd 12) (ishl .i64 ra 8)) rm, true, ()) := rfl
  have c : codeV 17 rd rn rm ra imm cond w = (bor .i64 64416 rn, bor .i64 (bor .i64 (ishl .i64 rd 12) (ishl .i64 ra 8)) rm, true, ()) := rfl
  rw [b, o, c]
  rfl
theorem bits_18 (rd rn rm ra imm cond : Int) (w : Bool) (h : V_thumb_Check (18, rd, rn, rm, ra, imm, cond, w, ()) = 0) : (T_thumb_bits (18, rd, rn, rm, ra, imm, cond, w, ())).val = some (codeV 18 rd rn rm ra imm cond w) := by
  have b : (T_thumb_bits (18, rd, rn, rm, ra, imm, cond, w, ())).val = (bif (PO.val (T_thumb_others (18, rd, rn, rm, ra, imm, cond, w, ()))).isSome then some ((PO.val (T_thumb_others (18, rd, rn, rm, ra, imm, cond, w, ()))).getD default) else none) := rfl
  obtain ⟨c1, c2, c3, c4⟩ := check_bfi h
  have hs : w64 (w64 (imm + ra) - 1) = imm + ra - 1 := by rw [w64_id (n := imm + ra) (by omega) (by omega), w64_id (by omega) (by omega)]
  obtain ⟨n, hn⟩ := Int.eq_ofNat_of_zero_le (show 0 ≤ imm + ra - 1 by omega)
  have g := put_ok n [(imm, 2, 3, 12, ()), (rd, 0, 4, 8, ()), (imm, 0, 2, 6, ())] (by omega) rfl
  have o : (T_thumb_others (18, rd, rn, rm, ra, imm, cond, w, ())).val = some (bor .i64 62304 rn, V_thumb_put (imm + ra - 1, [(imm, 2, 3, 12, ()), (rd, 0, 4, 8, ()), (imm, 0, 2, 6, ())]), true, ()) := by
    refine Eq.trans (b := (bif G_thumb_put (w64 (w64 (imm + ra) - 1), [(imm, 2, 3, 12, ()), (rd, 0, 4, 8, ()), (imm, 0, 2, 6, ())]) then some (bor .i64 62304 rn, V_thumb_put (w64 (w64 (imm + ra) - 1), [(imm, 2, 3, 12, ()), (rd, 0, 4, 8, ()), (imm, 0, 2, 6, ())]), true, ()) else none)) rfl ?_
    rw [hs, hn, g]
    rfl
  have c : codeV 18 rd rn rm ra imm cond w = (bor .i64 62304 rn, V_thumb_put (imm + ra - 1, [(imm, 2, 3, 12, ()), (rd, 0, 4, 8, ()), (imm, 0, 2, 6, ())]), true, ()) := rfl
  rw [b, o, c]
  rfl
theorem bits_19 (rd rn rm ra imm cond : Int) (w : Bool) (_ : V_thumb_Check (19, rd, rn, rm, ra, imm, cond, w, ()) = 0) : (T_thumb_bits (19, rd, rn, rm, ra, imm, cond, w, ())).val = some (codeV 19 rd rn rm ra imm cond w) := by
  have b : (T_thumb_bits (19, rd, rn, rm, ra, imm, cond, w, ())).val = (bif (PO.val (T_thumb_others (19, rd, rn, rm, ra, imm, cond, w, ()))).isSome then some ((PO.val (T_thumb_others (19, rd, rn, rm, ra, imm, cond, w, ()))).getD default) else none) := rfl
  have e : (T_thumb_short (26624, rd, rn)).val = some (V_thumb_put (26624, [(rd, 0, 3, 0, ()), (rn, 0, 3, 3, ())]), 0, false, ()) := short_val 26624 rd rn (by omega)
  have o : (T_thumb_others (19, rd, rn, rm, ra, imm, cond, w, ())).val = some (V_thumb_put (26624, [(rd, 0, 3, 0, ()), (rn, 0, 3, 3, ())]), 0, false, ()) := by
    refine Eq.trans (b := (bif (PO.val (T_thumb_short (26624, rd, rn))).isSome then some ((PO.val (T_thumb_short (26624, rd, rn))).getD default) else none)) rfl ?_
    rw [e]
    rfl
  have c : codeV 19 rd rn rm ra imm cond w = (V_thumb_put (26624, [(rd, 0, 3, 0, ()), (rn, 0, 3, 3, ())]), 0, false, ()) := rfl
  rw [b, o, c]
  rfl
theorem bits_20 (rd rn rm ra imm cond : Int) (w : Bool) (_ : V_thumb_Check (20, rd, rn, rm, ra, imm, cond, w, ()) = 0) : (T_thumb_bits (20, rd, rn, rm, ra, imm, cond, w, ())).val = some (codeV 20 rd rn rm ra imm cond w) := by
  have b : (T_thumb_bits (20, rd, rn, rm, ra, imm, cond, w, ())).val = (bif (PO.val (T_thumb_others (20, rd, rn, rm, ra, imm, cond, w, ()))).isSome then some ((PO.val (T_thumb_others (20, rd, rn, rm, ra, imm, cond, w, ()))).getD default) else none) := rfl
  have e : (T_thumb_short (24576, rd, rn)).val = some (V_thumb_put (24576, [(rd, 0, 3, 0, ()), (rn, 0, 3, 3, ())]), 0, false, ()) := short_val 24576 rd rn (by omega)
  have o : (T_thumb_others (20, rd, rn, rm, ra, imm, cond, w, ())).val = some (V_thumb_put (24576, [(rd, 0, 3, 0, ()), (rn, 0, 3, 3, ())]), 0, false, ()) := by
    refine Eq.trans (b := (bif (PO.val (T_thumb_short (24576, rd, rn))).isSome then some ((PO.val (T_thumb_short (24576, rd, rn))).getD default) else none)) rfl ?_
    rw [e]
    rfl
  have c : codeV 20 rd rn rm ra imm cond w = (V_thumb_put (24576, [(rd, 0, 3, 0, ()), (rn, 0, 3, 3, ())]), 0, false, ()) := rfl
  rw [b, o, c]
  rfl
theorem bits_21 (rd rn rm ra imm cond : Int) (w : Bool) (_ : V_thumb_Check (21, rd, rn, rm, ra, imm, cond, w, ()) = 0) : (T_thumb_bits (21, rd, rn, rm, ra, imm, cond, w, ())).val = some (codeV 21 rd rn rm ra imm cond w) := by
  have b : (T_thumb_bits (21, rd, rn, rm, ra, imm, cond, w, ())).val = (bif (PO.val (T_thumb_others (21, rd, rn, rm, ra, imm, cond, w, ()))).isSome then some ((PO.val (T_thumb_others (21, rd, rn, rm, ra, imm, cond, w, ()))).getD default) else none) := rfl
  have e : (T_thumb_short (30720, rd, rn)).val = some (V_thumb_put (30720, [(rd, 0, 3, 0, ()), (rn, 0, 3, 3, ())]), 0, false, ()) := short_val 30720 rd rn (by omega)
  have o : (T_thumb_others (21, rd, rn, rm, ra, imm, cond, w, ())).val = some (V_thumb_put (30720, [(rd, 0, 3, 0, ()), (rn, 0, 3, 3, ())]), 0, false, ()) := by
    refine Eq.trans (b := (bif (PO.val (T_thumb_short (30720, rd, rn))).isSome then some ((PO.val (T_thumb_short (30720, rd, rn))).getD default) else none)) rfl ?_
    rw [e]
    rfl
  have c : codeV 21 rd rn rm ra imm cond w = (V_thumb_put (30720, [(rd, 0, 3, 0, ()), (rn, 0, 3, 3, ())]), 0, false, ()) := rfl
  rw [b, o, c]
  rfl
theorem bits_22 (rd rn rm ra imm cond : Int) (w : Bool) (_ : V_thumb_Check (22, rd, rn, rm, ra, imm, cond, w, ()) = 0) : (T_thumb_bits (22, rd, rn, rm, ra, imm, cond, w, ())).val = some (codeV 22 rd rn rm ra imm cond w) := by
  have b : (T_thumb_bits (22, rd, rn, rm, ra, imm, cond, w, ())).val = (bif (PO.val (T_thumb_others (22, rd, rn, rm, ra, imm, cond, w, ()))).isSome then some ((PO.val (T_thumb_others (22, rd, rn, rm, ra, imm, cond, w, ()))).getD default) else none) := rfl
  have e : (T_thumb_short (28672, rd, rn)).val = some (V_thumb_put (28672, [(rd, 0, 3, 0, ()), (rn, 0, 3, 3, ())]), 0, false, ()) := short_val 28672 rd rn (by omega)
  have o : (T_thumb_others (22, rd, rn, rm, ra, imm, cond, w, ())).val = some (V_thumb_put (28672, [(rd, 0, 3, 0, ()), (rn, 0, 3, 3, ())]), 0, false, ()) := by
    refine Eq.trans (b := (bif (PO.val (T_thumb_short (28672, rd, rn))).isSome then some ((PO.val (T_thumb_short (28672, rd, rn))).getD default) else none)) rfl ?_
    rw [e]
    rfl
  have c : codeV 22 rd rn rm ra imm cond w = (V_thumb_put (28672, [(rd, 0, 3, 0, ()), (rn, 0, 3, 3, ())]), 0, false, ()) := rfl
  rw [b, o, c]
  rfl
theorem bits_23 (rd rn rm ra imm cond : Int) (w : Bool) (_ : V_thumb_Check (23, rd, rn, rm, ra, imm, cond, w, ()) = 0) : (T_thumb_bits (23, rd, rn, rm, ra, imm, cond, w, ())).val = some (codeV 23 rd rn rm ra imm cond w) := by
  have b : (T_thumb_bits (23, rd, rn, rm, ra, imm, cond, w, ())).val = (bif (PO.val (T_thumb_others (23, rd, rn, rm, ra, imm, cond, w, ()))).isSome then some ((PO.val (T_thumb_others (23, rd, rn, rm, ra, imm, cond, w, ()))).getD default) else none) := rfl
  have e : (T_thumb_short (17024, rn, rm)).val = some (V_thumb_put (17024, [(rn, 0, 3, 0, ()), (rm, 0, 3, 3, ())]), 0, false, ()) := short_val 17024 rn rm (by omega)
  have o : (T_thumb_others (23, rd, rn, rm, ra, imm, cond, w, ())).val = some (V_thumb_put (17024, [(rn, 0, 3, 0, ()), (rm, 0, 3, 3, ())]), 0, false, ()) := by
    refine Eq.trans (b := (bif (PO.val (T_thumb_short (17024, rn, rm))).isSome then some ((PO.val (T_thumb_short (17024, rn, rm))).getD default) else none)) rfl ?_
    rw [e]
    rfl
  have c : codeV 23 rd rn rm ra imm cond w = (V_thumb_put (17024, [(rn, 0, 3, 0, ()), (rm, 0, 3, 3, ())]), 0, false, ()) := rfl
  rw [b, o, c]
  rfl
theorem bits_24 (rd rn rm ra imm cond : Int) (w : Bool) (_ : V_thumb_Check (24, rd, rn, rm, ra, imm, cond, w, ()) = 0) : (T_thumb_bits (24, rd, rn, rm, ra, imm, cond, w, ())).val = some (codeV 24 rd rn rm ra imm cond w) := by
  have b : (T_thumb_bits (24, rd, rn, rm, ra, imm, cond, w, ())).val = (bif (PO.val (T_thumb_others (24, rd, rn, rm, ra, imm, cond, w, ()))).isSome then some ((PO.val (T_thumb_others (24, rd, rn, rm, ra, imm, cond, w, ()))).getD default) else none) := rfl
  have e : (T_thumb_wide (24, rd, rn, rm, ra, imm, cond, w, ())).val = some (wideV 24 imm cond) := wide_val 24 rd rn rm ra imm cond w
  have g : G_thumb_put (57344, [(imm, 1, 11, 0, ())]) = true := put_ok 57344 [(imm, 1, 11, 0, ())] (by omega) rfl
  have o : (T_thumb_others (24, rd, rn, rm, ra, imm, cond, w, ())).val = some (bif w then wideV 24 imm cond else (V_thumb_put (57344, [(imm, 1, 11, 0, ())]), 0, false, ())) := by
    refine Eq.trans (b := (bif w then (bif (PO.val (T_thumb_wide (24, rd, rn, rm, ra, imm, cond, w, ()))).isSome then some ((PO.val (T_thumb_wide (24, rd, rn, rm, ra, imm, cond, w, ()))).getD default) else none) else (bif G_thumb_put (57344, [(imm, 1, 11, 0, ())]) then some (V_thumb_put (57344, [(imm, 1, 11, 0, ())]), 0, false, ()) else none))) rfl ?_
    rw [e, g]
    cases w <;> rfl
  have c : codeV 24 rd rn rm ra imm cond w = (bif w then wideV 24 imm cond else (V_thumb_put (57344, [(imm, 1, 11, 0, ())]), 0, false, ())) := rfl
  rw [b, o, c]
  rfl
theorem bits_25 (rd rn rm ra imm cond : Int) (w : Bool) (_ : V_thumb_Check (25, rd, rn, rm, ra, imm, cond, w, ()) = 0) : (T_thumb_bits (25, rd, rn, rm, ra, imm, cond, w, ())).val = some (codeV 25 rd rn rm ra imm cond w) := by
  have b : (T_thumb_bits (25, rd, rn, rm, ra, imm, cond, w, ())).val = (bif (PO.val (T_thumb_others (25, rd, rn, rm, ra, imm, cond, w, ()))).isSome then some ((PO.val (T_thumb_others (25, rd, rn, rm, ra, imm, cond, w, ()))).getD default) else none) := rfl
  have e : (T_thumb_wide (25, rd, rn, rm, ra, imm, cond, w, ())).val = some (wideV 25 imm cond) := wide_val 25 rd rn rm ra imm cond w
  have g : G_thumb_put (53248, [(cond, 0, 4, 8, ()), (imm, 1, 8, 0, ())]) = true := put_ok 53248 [(cond, 0, 4, 8, ()), (imm, 1, 8, 0, ())] (by omega) rfl
  have o : (T_thumb_others (25, rd, rn, rm, ra, imm, cond, w, ())).val = some (bif w then wideV 25 imm cond else (V_thumb_put (53248, [(cond, 0, 4, 8, ()), (imm, 1, 8, 0, ())]), 0, false, ())) := by
    refine Eq.trans (b := (bif w then (bif (PO.val (T_thumb_wide (25, rd, rn, rm, ra, imm, cond, w, ()))).isSome then some ((PO.val (T_thumb_wide (25, rd, rn, rm, ra, imm, cond, w, ()))).getD default) else none) else (bif G_thumb_put (53248, [(cond, 0, 4, 8, ()), (imm, 1, 8, 0, ())]) then some (V_thumb_put (53248, [(cond, 0, 4, 8, ()), (imm, 1, 8, 0, ())]), 0, false, ()) else none))) rfl ?_
    rw [e, g]
    cases w <;> rfl
  have c : codeV 25 rd rn rm ra imm cond w = (bif w then wideV 25 imm cond else (V_thumb_put (53248, [(cond, 0, 4, 8, ()), (imm, 1, 8, 0, ())]), 0, false, ())) := rfl
  rw [b, o, c]
  rfl
theorem bits_val (op rd rn rm ra imm cond : Int) (w : Bool) (h : V_thumb_Check (op, rd, rn, rm, ra, imm, cond, w, ()) = 0) : (T_thumb_bits (op, rd, rn, rm, ra, imm, cond, w, ())).val = some (codeV op rd rn rm ra imm cond w) := by
  rcases op_cases op with rfl | rfl | rfl | rfl | rfl | rfl | rfl | rfl | rfl | rfl | rfl | rfl | rfl | rfl | rfl | rfl | rfl | rfl | rfl | rfl | rfl | rfl | rfl | rfl | rfl | hop
  case inr.inr.inr.inr.inr.inr.inr.inr.inr.inr.inr.inr.inr.inr.inr.inr.inr.inr.inr.inr.inr.inr.inr.inr.inr =>
    exfalso
    have e := fun k hk => op_none (n := op) (k := k) hop hk
    simp [V_thumb_Check, T_thumb_Check, V_thumb_formOf, T_thumb_formOf, PO.getO, PO.val, e] at h
  · exact bits_1 rd rn rm ra imm cond w h
  · exact bits_2 rd rn rm ra imm cond w h
  · exact bits_3 rd rn rm ra imm cond w h
  · exact bits_4 rd rn rm ra imm cond w h
  · exact bits_5 rd rn rm ra imm cond w h
  · exact bits_6 rd rn rm ra imm cond w h
  · exact bits_7 rd rn rm ra imm cond w h
  · exact bits_8 rd rn rm ra imm cond w h
  · exact bits_9 rd rn rm ra imm cond w h
  · exact bits_10 rd rn rm ra imm cond w h
  · exact bits_11 rd rn rm ra imm cond w h
  · exact bits_12 rd rn rm ra imm cond w h
  · exact bits_13 rd rn rm ra imm cond w h
  · exact bits_14 rd rn rm ra imm cond w h
  · exact bits_15 rd rn rm ra imm cond w h
  · exact bits_16 rd rn rm ra imm cond w h
  · exact bits_17 rd rn rm ra imm cond w h
  · exact bits_18 rd rn rm ra imm cond w h
  · exact bits_19 rd rn rm ra imm cond w h
  · exact bits_20 rd rn rm ra imm cond w h
  · exact bits_21 rd rn rm ra imm cond w h
  · exact bits_22 rd rn rm ra imm cond w h
  · exact bits_23 rd rn rm ra imm cond w h
  · exact bits_24 rd rn rm ra imm cond w h
  · exact bits_25 rd rn rm ra imm cond w h

theorem code_long (op rd rn rm ra imm cond : Int) (w : Bool) (h : V_thumb_Check (op, rd, rn, rm, ra, imm, cond, w, ()) = 0) : (codeV op rd rn rm ra imm cond w).2.2.1 = isLong op w := by
  have hwide : ∀ op : Int, (wideV op imm cond).2.2.1 = true := fun op => by unfold wideV; cases op == 25 <;> rfl
  rcases op_cases op with rfl | rfl | rfl | rfl | rfl | rfl | rfl | rfl | rfl | rfl | rfl | rfl | rfl | rfl | rfl | rfl | rfl | rfl | rfl | rfl | rfl | rfl | rfl | rfl | rfl | hop
  case inr.inr.inr.inr.inr.inr.inr.inr.inr.inr.inr.inr.inr.inr.inr.inr.inr.inr.inr.inr.inr.inr.inr.inr.inr =>
    exfalso
    have e := fun k hk => op_none (n := op) (k := k) hop hk
    simp [V_thumb_Check, T_thumb_Check, V_thumb_formOf, T_thumb_formOf, PO.getO, PO.val, e] at h
  all_goals
    have hw : w = false ∨ w = true := by cases w <;> simp
    rcases hw with rfl | rfl
    · rfl
    · first
      | (exfalso; simp [V_thumb_Check, T_thumb_Check, PO.getO, PO.val] at h; done)
      | rfl
      | exact hwide _

end Go.Av
end
/-! Layer 2: how many bytes an instruction has. -/
section
namespace Go.Av
open Go
/-- thumb.Size -/
abbrev A_thumb_Size : List Ty := [tIns]
abbrev S_thumb_Size : Sh := Sh.ty (Ty.int IntKind.i64)
def T_thumb_Size (x : dens A_thumb_Size) : PO (Sh.den S_thumb_Size) :=
  (.ite (V_thumb_Check x != 0)
   (.ret (0))
   (.ite (G_thumb_bits x)
    (.ite ((V_thumb_bits x).2.2.1)
     (.ret (4))
     (.ret (2)))
    .fail))
def G_thumb_Size (_ : dens A_thumb_Size) : Bool := true
def V_thumb_Size (x : dens A_thumb_Size) : Sh.den S_thumb_Size := bif V_thumb_Check x != 0 then 0 else bif isLong x.1 x.2.2.2.2.2.2.2.1 then 4 else 2
theorem size_val (x : tIns.den) : (T_thumb_Size x).val = some (bif V_thumb_Check x != 0 then 0 else bif isLong x.1 x.2.2.2.2.2.2.2.1 then 4 else 2) := by
  obtain ⟨op, rd, rn, rm, ra, imm, cond, w, u⟩ := x
  show (bif V_thumb_Check (op, rd, rn, rm, ra, imm, cond, w, ()) != 0 then some 0 else (bif (T_thumb_bits (op, rd, rn, rm, ra, imm, cond, w, ())).val.isSome then (bif ((T_thumb_bits (op, rd, rn, rm, ra, imm, cond, w, ())).val.getD default).2.2.1 then some 4 else some 2) else none)) = some (bif V_thumb_Check (op, rd, rn, rm, ra, imm, cond, w, ()) != 0 then 0 else bif isLong op w then 4 else 2)
  cases hc : (V_thumb_Check (op, rd, rn, rm, ra, imm, cond, w, ()) != (0 : Int))
  · have h : V_thumb_Check (op, rd, rn, rm, ra, imm, cond, w, ()) = 0 := by simpa using hc
    rw [bits_val op rd rn rm ra imm cond w h]
    show (bif (codeV op rd rn rm ra imm cond w).2.2.1 then some 4 else some 2) = some (bif isLong op w then 4 else 2)
    rw [code_long op rd rn rm ra imm cond w h]
    cases isLong op w <;> rfl
  · rfl
theorem ok_thumb_Size (x : dens A_thumb_Size) (_ : G_thumb_Size x = true) : (T_thumb_Size x).val = some (V_thumb_Size x) := size_val x
end Go.Av
end
/-! Layer 2: how many bytes an instruction has, by the document. -/
section
namespace Go.Av
open Go
/-- hauberkref02.Size -/
abbrev A_hauberkref02_Size : List Ty := [tIns]
abbrev S_hauberkref02_Size : Sh := Sh.ty (Ty.int IntKind.i64)
def T_hauberkref02_Size (x : dens A_hauberkref02_Size) : PO (Sh.den S_hauberkref02_Size) :=
  (.ite (G_hauberkref02_Check x)
   (.ite (V_hauberkref02_Check x != 0)
    (.ret (0))
    (.ret (w64 (Int.tdiv (lenI (V_hauberkref02_Bits (x.1, x.2.2.2.2.2.2.2.1))) 8))))
   .fail)
theorem ref_size_val (x : tIns.den) : (T_hauberkref02_Size x).val = some (bif V_thumb_Check x != 0 then 0 else bif isLong x.1 x.2.2.2.2.2.2.2.1 then 4 else 2) := by
  unfold T_hauberkref02_Size
  dsimp only [PO.val]
  rw [check_ok, ← check_same]
  cases hc : (V_thumb_Check x != (0 : Int))
  · obtain ⟨op, rd, rn, rm, ra, imm, cond, w, u⟩ := x
    have h : V_thumb_Check (op, rd, rn, rm, ra, imm, cond, w, ()) = 0 := by simpa using hc
    show some (w64 (Int.tdiv (lenI (V_hauberkref02_Bits (op, w))) 8)) = some (bif isLong op w then 4 else 2)
    rcases op_cases op with rfl | rfl | rfl | rfl | rfl | rfl | rfl | rfl | rfl | rfl | rfl | rfl | rfl | rfl | rfl | rfl | rfl | rfl | rfl | rfl | rfl | rfl | rfl | rfl | rfl | hop
    case inr.inr.inr.inr.inr.inr.inr.inr.inr.inr.inr.inr.inr.inr.inr.inr.inr.inr.inr.inr.inr.inr.inr.inr.inr =>
      exfalso
      have e := fun k hk => op_none (n := op) (k := k) hop hk
      simp [V_thumb_Check, T_thumb_Check, V_thumb_formOf, T_thumb_formOf, PO.getO, PO.val, e] at h
    all_goals
      have hw : w = false ∨ w = true := by cases w <;> simp
      rcases hw with rfl | rfl
      · rfl
      · first
        | (exfalso; simp [V_thumb_Check, T_thumb_Check, PO.getO, PO.val] at h; done)
        | rfl
  · rfl
def G_hauberkref02_Size (_ : dens A_hauberkref02_Size) : Bool := true
def V_hauberkref02_Size (x : dens A_hauberkref02_Size) : Sh.den S_hauberkref02_Size := bif V_thumb_Check x != 0 then 0 else bif isLong x.1 x.2.2.2.2.2.2.2.1 then 4 else 2
theorem ok_hauberkref02_Size (x : dens A_hauberkref02_Size) (_ : G_hauberkref02_Size x = true) : (T_hauberkref02_Size x).val = some (V_hauberkref02_Size x) := ref_size_val x
end Go.Av
end
/-! Layer 1: words, by the document. -/
section
namespace Go.Av
open Go
/-- hauberkref01.Add -/
abbrev A_hauberkref01_Add : List Ty := [(.int .i64), (.int .i64)]
abbrev S_hauberkref01_Add : Sh := Sh.ty (Ty.int IntKind.i64)
def T_hauberkref01_Add (x : dens A_hauberkref01_Add) : PO (Sh.den S_hauberkref01_Add) :=
  (.ret (V_hauberkref01_Wrap (w64 (V_hauberkref01_Wrap x.1 + V_hauberkref01_Wrap x.2))))
def G_hauberkref01_Add (_ : dens A_hauberkref01_Add) : Bool := true
def V_hauberkref01_Add (x : dens A_hauberkref01_Add) : Sh.den S_hauberkref01_Add := (wn (x.1 + x.2) : Int)
theorem ok_hauberkref01_Add (x : dens A_hauberkref01_Add) (_ : G_hauberkref01_Add x = true) : (T_hauberkref01_Add x).val = some (V_hauberkref01_Add x) := by
  obtain ⟨a, b⟩ := x
  show some ((wn (w64 ((wn a : Int) + (wn b : Int))) : Nat) : Int) = some ((wn (a + b) : Nat) : Int)
  rw [show wn (w64 ((wn a : Int) + (wn b : Int))) = wn (a + b) from wn_eq (by rw [w64_mod, wn_int, wn_int]; omega)]
/-- hauberkref01.Sub -/
abbrev A_hauberkref01_Sub : List Ty := [(.int .i64), (.int .i64)]
abbrev S_hauberkref01_Sub : Sh := Sh.ty (Ty.int IntKind.i64)
def T_hauberkref01_Sub (x : dens A_hauberkref01_Sub) : PO (Sh.den S_hauberkref01_Sub) :=
  (.ret (V_hauberkref01_Wrap (w64 (w64 (V_hauberkref01_Wrap x.1 + 4294967296) - V_hauberkref01_Wrap x.2))))
def G_hauberkref01_Sub (_ : dens A_hauberkref01_Sub) : Bool := true
def V_hauberkref01_Sub (x : dens A_hauberkref01_Sub) : Sh.den S_hauberkref01_Sub := (wn (x.1 - x.2) : Int)
theorem ok_hauberkref01_Sub (x : dens A_hauberkref01_Sub) (_ : G_hauberkref01_Sub x = true) : (T_hauberkref01_Sub x).val = some (V_hauberkref01_Sub x) := by
  obtain ⟨a, b⟩ := x
  show some ((wn (w64 (w64 ((wn a : Int) + 4294967296) - (wn b : Int))) : Nat) : Int) = some ((wn (a - b) : Nat) : Int)
  have ha := wn_lt a
  rw [show wn (w64 (w64 ((wn a : Int) + 4294967296) - (wn b : Int))) = wn (a - b) from wn_eq (by rw [w64_mod, w64_id (by omega) (by omega), wn_int, wn_int]; omega)]
theorem u64_nat {m : Nat} (h : m < 18446744073709551616) : IntKind.u64.wrap (m : Int) = m := by rw [u64_wrap, Int.emod_eq_of_lt (by omega) (by omega)]
theorem prod_u64 (a b : Int) : IntKind.u64.wrap (IntKind.u64.wrap (wn a : Int) * IntKind.u64.wrap (wn b : Int)) = ((wn a * wn b : Nat) : Int) := by
  have h1 := wn_lt a
  have h2 := wn_lt b
  have h3 := mul_lt a b
  rw [u64_nat (by omega), u64_nat (by omega), show (wn a : Int) * (wn b : Int) = ((wn a * wn b : Nat) : Int) by simp, u64_nat (by omega)]
/-- hauberkref01.Mul -/
abbrev A_hauberkref01_Mul : List Ty := [(.int .i64), (.int .i64)]
abbrev S_hauberkref01_Mul : Sh := Sh.ty (Ty.int IntKind.i64)
def T_hauberkref01_Mul (x : dens A_hauberkref01_Mul) : PO (Sh.den S_hauberkref01_Mul) :=
  (.ret (w64 (Int.tmod (IntKind.wrap IntKind.u64 (IntKind.wrap IntKind.u64 (V_hauberkref01_Wrap x.1) * IntKind.wrap IntKind.u64 (V_hauberkref01_Wrap x.2))) 4294967296)))
def G_hauberkref01_Mul (_ : dens A_hauberkref01_Mul) : Bool := true
def V_hauberkref01_Mul (x : dens A_hauberkref01_Mul) : Sh.den S_hauberkref01_Mul := ((wn x.1 * wn x.2 % 4294967296 : Nat) : Int)
theorem ok_hauberkref01_Mul (x : dens A_hauberkref01_Mul) (_ : G_hauberkref01_Mul x = true) : (T_hauberkref01_Mul x).val = some (V_hauberkref01_Mul x) := by
  obtain ⟨a, b⟩ := x
  show some (w64 (Int.tmod (IntKind.u64.wrap (IntKind.u64.wrap (wn a : Int) * IntKind.u64.wrap (wn b : Int))) 4294967296)) = some ((wn a * wn b % 4294967296 : Nat) : Int)
  rw [prod_u64, tmod_pos _ _ (by omega), w64_id (by omega) (by omega)]
  congr 1
/-- hauberkref01.High -/
abbrev A_hauberkref01_High : List Ty := [(.int .i64), (.int .i64)]
abbrev S_hauberkref01_High : Sh := Sh.ty (Ty.int IntKind.i64)
def T_hauberkref01_High (x : dens A_hauberkref01_High) : PO (Sh.den S_hauberkref01_High) :=
  (.ret (w64 (IntKind.wrap IntKind.u64 (Int.tdiv (IntKind.wrap IntKind.u64 (IntKind.wrap IntKind.u64 (V_hauberkref01_Wrap x.1) * IntKind.wrap IntKind.u64 (V_hauberkref01_Wrap x.2))) 4294967296))))
def G_hauberkref01_High (_ : dens A_hauberkref01_High) : Bool := true
def V_hauberkref01_High (x : dens A_hauberkref01_High) : Sh.den S_hauberkref01_High := ((wn x.1 * wn x.2 / 4294967296 : Nat) : Int)
theorem ok_hauberkref01_High (x : dens A_hauberkref01_High) (_ : G_hauberkref01_High x = true) : (T_hauberkref01_High x).val = some (V_hauberkref01_High x) := by
  obtain ⟨a, b⟩ := x
  have h3 := mul_lt a b
  have e1 : ((wn a * wn b : Nat) : Int) / 4294967296 = ((wn a * wn b / 4294967296 : Nat) : Int) := by omega
  show some (w64 (IntKind.u64.wrap (Int.tdiv (IntKind.u64.wrap (IntKind.u64.wrap (wn a : Int) * IntKind.u64.wrap (wn b : Int))) 4294967296))) = some ((wn a * wn b / 4294967296 : Nat) : Int)
  rw [prod_u64, tdiv_pos _ _ (by omega), e1, u64_nat (by omega), w64_id (by omega) (by omega)]
theorem pow_kk (n : Int) : V_hauberkref01_power (V_hauberkref01_many n) = ((2 ^ kk n : Nat) : Int) := by
  show ((2 ^ Int.toNat (kk n : Int) : Nat) : Int) = _
  rw [Int.toNat_natCast]
theorem pow_kk_ok (n : Int) : G_hauberkref01_power (V_hauberkref01_many n) = true := by
  have := kk_lt n
  exact dec_true (show (kk n : Int) ≤ 62 by omega)
theorem pow_kk_ne (n : Int) : (((2 ^ kk n : Nat) : Int) == 0) = false := by
  have := Nat.two_pow_pos (kk n)
  rw [beq_eq_false_iff_ne]
  omega
/-- A bit of a number. -/
def bt (m j : Nat) : Nat := m / 2 ^ j % 2
theorem bt_eq (m j : Nat) : bt m j = (m.testBit j).toNat := (Nat.toNat_testBit m j).symm
theorem bt_le (m j : Nat) : bt m j ≤ 1 := by unfold bt; omega
/-- hauberkref01.Bit -/
abbrev A_hauberkref01_Bit : List Ty := [(.int .i64), (.int .i64)]
abbrev S_hauberkref01_Bit : Sh := Sh.ty (Ty.int IntKind.i64)
def T_hauberkref01_Bit (x : dens A_hauberkref01_Bit) : PO (Sh.den S_hauberkref01_Bit) :=
  (.ite (G_hauberkref01_power (V_hauberkref01_many x.2) && !V_hauberkref01_power (V_hauberkref01_many x.2) == 0)
   (.ret (Int.tmod (w64 (Int.tdiv (V_hauberkref01_Wrap x.1) (V_hauberkref01_power (V_hauberkref01_many x.2)))) 2))
   .fail)
def G_hauberkref01_Bit (_ : dens A_hauberkref01_Bit) : Bool := true
def V_hauberkref01_Bit (x : dens A_hauberkref01_Bit) : Sh.den S_hauberkref01_Bit := (bt (wn x.1) (kk x.2) : Int)
theorem ok_hauberkref01_Bit (x : dens A_hauberkref01_Bit) (_ : G_hauberkref01_Bit x = true) : (T_hauberkref01_Bit x).val = some (V_hauberkref01_Bit x) := by
  obtain ⟨a, n⟩ := x
  have hl := wn_lt a
  have hd : wn a / 2 ^ kk n ≤ wn a := Nat.div_le_self _ _
  show (bif G_hauberkref01_power (V_hauberkref01_many n) && !(V_hauberkref01_power (V_hauberkref01_many n) == (0 : Int)) then some (Int.tmod (w64 (Int.tdiv (wn a : Int) (V_hauberkref01_power (V_hauberkref01_many n)))) 2) else none) = some ((bt (wn a) (kk n) : Nat) : Int)
  rw [pow_kk_ok, pow_kk, pow_kk_ne, tdiv_pos _ _ (by omega), ← Int.natCast_ediv]
  unfold bt
  generalize wn a / 2 ^ kk n = q at hd
  rw [w64_id (by omega) (by omega), tmod_pos _ _ (by omega)]
  rfl
def L_hauberkref01_three_3 : LoopN where
  M := [0, 1, 2, 3, 9, 10]
  T := [11, 12, 13, 14, 15, 16, 17, 18, 19, 20, 21, 22, 23, 24, 25, 26, 27, 28, 29, 30, 31, 32, 33, 34, 35, 36, 37, 38, 39, 40, 41, 42, 43, 44, 45, 46, 47, 48, 49, 50, 51, 52, 53, 54]
  D := [0, 1, 2, 3, 10]
  ss := [.ty (.int .i64), .ty (.int .i64), .ty (.int .i64), .ty (.int .i64), .ty (.int .i64), .ty (.int .i64)]
  hs := []
  es := [.exit 0]
  σ := (Ty.den (.int .i64)) × (Ty.den (.int .i64))
  x0 := fun x _ => (x.2.2.2.2.1, x.2.2.2.2.2)
  put := fun x _ s => ((x.1, x.2.1, x.2.2.1, x.2.2.2.1, s.1, s.2), ())
  fuel := fun _ _ => 40
  turn := fun x _ s =>
  (.ite (decide (s.2 ≥ 0))
   (.ite (G_hauberkref01_Bit (x.2.1, s.2) && G_hauberkref01_Bit (x.2.2.1, s.2))
    (.ite (x.2.2.2.1 == 0 || (x.2.2.2.1 == 1 || (x.2.2.2.1 == 2 || (x.2.2.2.1 == 3 || G_hauberkref01_Bit (x.1, s.2)))))
     (.ret (.on (w64 (w64 (2 * s.1) + bif x.2.2.2.1 == 0 then w64 (1 - V_hauberkref01_Bit (x.2.1, s.2)) else bif x.2.2.2.1 == 1 then w64 (V_hauberkref01_Bit (x.2.1, s.2) * V_hauberkref01_Bit (x.2.2.1, s.2)) else bif x.2.2.2.1 == 2 then imax (V_hauberkref01_Bit (x.2.1, s.2)) (V_hauberkref01_Bit (x.2.2.1, s.2)) else bif x.2.2.2.1 == 3 then Int.tmod (w64 (V_hauberkref01_Bit (x.2.1, s.2) + V_hauberkref01_Bit (x.2.2.1, s.2))) 2 else bif V_hauberkref01_Bit (x.1, s.2) == 1 then V_hauberkref01_Bit (x.2.1, s.2) else V_hauberkref01_Bit (x.2.2.1, s.2)), w64 (s.2 - 1))))
     .fail)
    .fail)
   (.ret (.out 0 (s.1, s.2))))
/-- hauberkref01.three -/
abbrev A_hauberkref01_three : List Ty := [(.int .i64), (.int .i64), (.int .i64), (.int .i64)]
abbrev S_hauberkref01_three : Sh := Sh.ty (Ty.int IntKind.i64)
def T_hauberkref01_three (x : dens A_hauberkref01_three) : PO (Sh.den S_hauberkref01_three) :=
  (.opt (LoopN.res L_hauberkref01_three_3 (x.1, x.2.1, x.2.2.1, x.2.2.2, 0, 31) ()) fun p0 =>
   (.ret (p0.2.1)))
/-- An operation on words' bits, by its number. -/
def bits3 (m a b : Nat) (kind : Int) : Nat :=
  bif kind == 0 then 4294967295 - a else bif kind == 1 then a &&& b else bif kind == 2 then a ||| b else bif kind == 3 then a ^^^ b else (a &&& m) ||| (b &&& (4294967295 - m))
theorem bt_not {a j : Nat} (ha : a < 4294967296) (hj : j < 32) : bt (4294967295 - a) j = 1 - bt a j := by
  have h : (4294967295 - a).testBit j = !a.testBit j := by
    rw [show 4294967295 - a = 2 ^ 32 - (a + 1) by omega, Nat.testBit_two_pow_sub_succ (by omega), decide_eq_true hj, Bool.true_and]
  rw [bt_eq, bt_eq, h]
  cases a.testBit j <;> rfl
theorem bt_bits3 {m a b j : Nat} (hm : m < 4294967296) (ha : a < 4294967296) (hj : j < 32) (kind : Int) :
    bt (bits3 m a b kind) j = bif kind == 0 then 1 - bt a j else bif kind == 1 then bt a j * bt b j else bif kind == 2 then max (bt a j) (bt b j) else bif kind == 3 then (bt a j + bt b j) % 2 else bif bt m j == 1 then bt a j else bt b j := by
  unfold bits3
  cases kind == 0
  · cases kind == 1
    · cases kind == 2
      · cases kind == 3
        · simp only [cond_false]
          have hn := bt_not hm hj
          have h1 : bt ((a &&& m) ||| (b &&& (4294967295 - m))) j = ((a.testBit j && m.testBit j) || (b.testBit j && (4294967295 - m).testBit j)).toNat := by
            rw [bt_eq, Nat.testBit_or, Nat.testBit_and, Nat.testBit_and]
          rw [bt_eq, bt_eq] at hn
          rw [h1, bt_eq a, bt_eq b, bt_eq m]
          revert hn
          cases m.testBit j <;> cases a.testBit j <;> cases b.testBit j <;> cases (4294967295 - m).testBit j <;> simp
        · simp only [cond_false, cond_true]
          rw [bt_eq, bt_eq, bt_eq, Nat.testBit_xor]
          cases a.testBit j <;> cases b.testBit j <;> rfl
      · simp only [cond_false, cond_true]
        rw [bt_eq, bt_eq, bt_eq, Nat.testBit_or]
        cases a.testBit j <;> cases b.testBit j <;> rfl
    · simp only [cond_false, cond_true]
      rw [bt_eq, bt_eq, bt_eq, Nat.testBit_and]
      cases a.testBit j <;> cases b.testBit j <;> rfl
  · simp only [cond_true]
    exact bt_not ha hj
theorem bits3_lt {m a b : Nat} (ha : a < 4294967296) (hb : b < 4294967296) (kind : Int) : bits3 m a b kind < 4294967296 := by
  unfold bits3
  cases kind == 0
  · cases kind == 1
    · cases kind == 2
      · cases kind == 3
        · have h1 : a &&& m ≤ a := Nat.and_le_left
          have h2 : b &&& (4294967295 - m) ≤ b := Nat.and_le_left
          exact Nat.or_lt_two_pow (n := 32) (by omega) (by omega)
        · exact Nat.xor_lt_two_pow (n := 32) ha hb
      · exact Nat.or_lt_two_pow (n := 32) ha hb
    · have h1 : a &&& b ≤ a := Nat.and_le_left
      simp only [cond_false, cond_true]
      omega
  · simp only [cond_true]
    omega
theorem div_bt (f j : Nat) : f / 2 ^ j = 2 * (f / 2 ^ (j + 1)) + bt f j := by
  unfold bt
  rw [Nat.pow_succ, ← Nat.div_div_eq_div_mul]
  omega
theorem three_run (m a b kind : Int) : runL (L_hauberkref01_three_3.turn (m, a, b, kind, 0, 31) ()) 40 (0, 31) = some (0, ((bits3 (wn m) (wn a) (wn b) kind : Nat) : Int), -1) := by
  have hF := bits3_lt (m := wn m) (wn_lt a) (wn_lt b) kind
  have h0 : bits3 (wn m) (wn a) (wn b) kind / 2 ^ 32 = 0 := Nat.div_eq_of_lt hF
  have key := runL_count (σ := Int × Int) (turn := L_hauberkref01_three_3.turn (m, a, b, kind, 0, 31) ()) (fun i => (((bits3 (wn m) (wn a) (wn b) kind / 2 ^ (32 - i) : Nat) : Int), 31 - (i : Int))) (0, ((bits3 (wn m) (wn a) (wn b) kind : Nat) : Int), -1) (n := 32) (fun i hi => ?_) ?_ 32 0 (by omega) 40 (by omega)
  · simp [h0] at key
    exact key
  · have hk : kk (31 - (i : Int)) = 31 - i := by unfold kk; omega
    have hd := div_bt (bits3 (wn m) (wn a) (wn b) kind) (31 - i)
    rw [show 31 - i + 1 = 32 - i by omega] at hd
    have hb := bt_bits3 (b := wn b) (wn_lt m) (wn_lt a) (show 31 - i < 32 by omega) kind
    have hle : bits3 (wn m) (wn a) (wn b) kind / 2 ^ (32 - i) ≤ bits3 (wn m) (wn a) (wn b) kind := Nat.div_le_self _ _
    have ha1 := bt_le (wn a) (31 - i)
    have hb1 := bt_le (wn b) (31 - i)
    have hm1 := bt_le (wn m) (31 - i)
    have e : (bif kind == 0 then w64 (1 - (bt (wn a) (31 - i) : Int)) else bif kind == 1 then w64 ((bt (wn a) (31 - i) : Int) * (bt (wn b) (31 - i) : Int)) else bif kind == 2 then imax (bt (wn a) (31 - i) : Int) (bt (wn b) (31 - i) : Int) else bif kind == 3 then Int.tmod (w64 ((bt (wn a) (31 - i) : Int) + (bt (wn b) (31 - i) : Int))) 2 else bif (bt (wn m) (31 - i) : Int) == 1 then (bt (wn a) (31 - i) : Int) else (bt (wn b) (31 - i) : Int)) = ((bt (bits3 (wn m) (wn a) (wn b) kind) (31 - i) : Nat) : Int) := by
      rw [hb]
      generalize bt (wn a) (31 - i) = p at *
      generalize bt (wn b) (31 - i) = q at *
      generalize bt (wn m) (31 - i) = r at *
      have hp : p = 0 ∨ p = 1 := by omega
      have hq : q = 0 ∨ q = 1 := by omega
      have hr : r = 0 ∨ r = 1 := by omega
      rcases hp with rfl | rfl <;> rcases hq with rfl | rfl <;> rcases hr with rfl | rfl <;> cases kind == 0 <;> cases kind == 1 <;> cases kind == 2 <;> cases kind == 3 <;> rfl
    have hbl := bt_le (bits3 (wn m) (wn a) (wn b) kind) (31 - i)
    have hs : decide (31 - (i : Int) ≥ 0) = true := dec_true (by omega)
    simp only [L_hauberkref01_three_3, PO.val, hs, cond_true, V_hauberkref01_Bit, G_hauberkref01_Bit, Bool.and_self, Bool.or_true, hk]
    rw [e, show 32 - (i + 1) = 31 - i by omega, hd]
    generalize bt (bits3 (wn m) (wn a) (wn b) kind) (31 - i) = q at *
    generalize bits3 (wn m) (wn a) (wn b) kind / 2 ^ (32 - i) = p at *
    rw [w64_id (n := 2 * (p : Int)) (by omega) (by omega), w64_id (by omega) (by omega), w64_id (by omega) (by omega)]
    refine congrArg (fun z => some (TL.on z)) (Prod.ext ?_ ?_)
    · show 2 * (p : Int) + (q : Int) = ((2 * p + q : Nat) : Int)
      omega
    · show 31 - (i : Int) - 1 = 31 - ((i + 1 : Nat) : Int)
      omega
  · have hs : decide ((31 : Int) - ((32 : Nat) : Int) ≥ 0) = false := dec_false (by omega)
    simp only [L_hauberkref01_three_3, PO.val, hs, cond_false]
    simp
def G_hauberkref01_three (_ : dens A_hauberkref01_three) : Bool := true
def V_hauberkref01_three (x : dens A_hauberkref01_three) : Sh.den S_hauberkref01_three := (bits3 (wn x.1) (wn x.2.1) (wn x.2.2.1) x.2.2.2 : Int)
theorem ok_hauberkref01_three (x : dens A_hauberkref01_three) (_ : G_hauberkref01_three x = true) : (T_hauberkref01_three x).val = some (V_hauberkref01_three x) := by
  obtain ⟨m, a, b, kind⟩ := x
  unfold T_hauberkref01_three PO.val
  have : LoopN.res L_hauberkref01_three_3 (m, a, b, kind, 0, 31) () = some (0, ((bits3 (wn m) (wn a) (wn b) kind : Nat) : Int), -1) := three_run m a b kind
  rw [this]
  rfl
def L_hauberkref01_Sar_3 : LoopN where
  M := [1, 5, 6]
  T := [9, 10, 11, 12, 13, 14, 15, 16, 17, 18, 19, 20]
  D := [1, 6]
  ss := [.ty (.int .i64), .ty (.int .i64), .ty (.int .i64)]
  hs := []
  es := [.exit 0]
  σ := (Ty.den (.int .i64)) × (Ty.den (.int .i64))
  x0 := fun x _ => (x.2.1, x.2.2)
  put := fun x _ s => ((x.1, s.1, s.2), ())
  fuel := fun _ _ => 40
  turn := fun x _ s =>
  (.ite (decide (s.2 < V_hauberkref01_many x.1))
   (.ret (.on (w64 (w64 (Int.tdiv s.1 2) + w64 (w64 (Int.tdiv s.1 2147483648) * 2147483648)), w64 (s.2 + 1))))
   (.ret (.out 0 (s.1, s.2))))
/-- hauberkref01.Sar -/
abbrev A_hauberkref01_Sar : List Ty := [(.int .i64), (.int .i64)]
abbrev S_hauberkref01_Sar : Sh := Sh.ty (Ty.int IntKind.i64)
def T_hauberkref01_Sar (x : dens A_hauberkref01_Sar) : PO (Sh.den S_hauberkref01_Sar) :=
  (.opt (LoopN.res L_hauberkref01_Sar_3 (x.2, V_hauberkref01_Wrap x.1, 0) ()) fun p0 =>
   (.ret (p0.2.1)))
theorem sw_range {m : Nat} (h : m < 4294967296) : -2147483648 ≤ sw m ∧ sw m < 2147483648 := by unfold sw; split <;> omega
theorem sw_wn {m : Nat} (h : m < 4294967296) : wn (sw m) = m := by unfold sw wn; split <;> omega
theorem div_range {q : Int} (h : -2147483648 ≤ q ∧ q < 2147483648) (k : Nat) : -2147483648 ≤ q / (2 ^ k : Nat) ∧ q / (2 ^ k : Nat) < 2147483648 := by
  induction k with
  | zero => simpa using h
  | succ k ih =>
    have e : q / ((2 ^ (k + 1) : Nat) : Int) = q / ((2 ^ k : Nat) : Int) / 2 := by
      rw [Nat.pow_succ, Int.natCast_mul, Int.ediv_ediv_of_nonneg (Int.natCast_nonneg _)]
      rfl
    rw [e]
    omega
theorem sar_step {q : Int} (h : -2147483648 ≤ q ∧ q < 2147483648) : wn q / 2 + wn q / 2147483648 * 2147483648 = wn (q / 2) := by unfold wn; omega
theorem sar_run (a n : Int) : runL (L_hauberkref01_Sar_3.turn (n, (wn a : Int), 0) ()) 40 ((wn a : Int), 0) = some (0, ((wn (sw (wn a) / (2 ^ kk n : Nat)) : Nat) : Int), (kk n : Int)) := by
  have hk := kk_lt n
  have key := runL_count (σ := Int × Int) (turn := L_hauberkref01_Sar_3.turn (n, (wn a : Int), 0) ()) (fun i => (((wn (sw (wn a) / (2 ^ i : Nat)) : Nat) : Int), (i : Int))) (0, ((wn (sw (wn a) / (2 ^ kk n : Nat)) : Nat) : Int), (kk n : Int)) (n := kk n) (fun i hi => ?_) ?_ (kk n) 0 (by omega) 40 (by omega)
  · simp [sw_wn (wn_lt a)] at key
    simp
    exact key
  · have h1 : decide ((i : Int) < (kk n : Int)) = true := dec_true (by omega)
    have hr := div_range (sw_range (wn_lt a)) i
    have e : sw (wn a) / ((2 ^ (i + 1) : Nat) : Int) = sw (wn a) / ((2 ^ i : Nat) : Int) / 2 := by
      rw [Nat.pow_succ, Int.natCast_mul, Int.ediv_ediv_of_nonneg (Int.natCast_nonneg _)]
      rfl
    have hst := sar_step hr
    rw [e, ← hst]
    have hl := wn_lt (sw (wn a) / ((2 ^ i : Nat) : Int))
    show (bif decide ((i : Int) < (kk n : Int)) then _ else _) = _
    rw [h1]
    show some (TL.on (w64 (w64 (Int.tdiv ((wn (sw (wn a) / ((2 ^ i : Nat) : Int)) : Nat) : Int) 2) + w64 (w64 (Int.tdiv ((wn (sw (wn a) / ((2 ^ i : Nat) : Int)) : Nat) : Int) 2147483648) * 2147483648)), w64 ((i : Int) + 1))) = _
    generalize wn (sw (wn a) / ((2 ^ i : Nat) : Int)) = p at *
    rw [tdiv_pos _ _ (by omega), tdiv_pos _ _ (by omega), w64_id (n := (p : Int) / 2) (by omega) (by omega), w64_id (n := (p : Int) / 2147483648) (by omega) (by omega), w64_id (n := (p : Int) / 2147483648 * 2147483648) (by omega) (by omega), w64_id (by omega) (by omega), w64_id (by omega) (by omega)]
    congr 2
  · show (bif decide ((kk n : Int) < (kk n : Int)) then _ else _) = _
    rw [dec_false (by omega)]
    rfl
def G_hauberkref01_Sar (_ : dens A_hauberkref01_Sar) : Bool := true
def V_hauberkref01_Sar (x : dens A_hauberkref01_Sar) : Sh.den S_hauberkref01_Sar := (wn (sw (wn x.1) / (2 ^ kk x.2 : Nat)) : Int)
theorem ok_hauberkref01_Sar (x : dens A_hauberkref01_Sar) (_ : G_hauberkref01_Sar x = true) : (T_hauberkref01_Sar x).val = some (V_hauberkref01_Sar x) := by
  obtain ⟨a, n⟩ := x
  unfold T_hauberkref01_Sar PO.val
  have : LoopN.res L_hauberkref01_Sar_3 (n, (wn a : Int), 0) () = some (0, ((wn (sw (wn a) / (2 ^ kk n : Nat)) : Nat) : Int), (kk n : Int)) := sar_run a n
  rw [show LoopN.res L_hauberkref01_Sar_3 ((a, n).2, V_hauberkref01_Wrap (a, n).1, 0) () = _ from this]
  rfl
def L_hauberkref01_Ror_3 : LoopN where
  M := [1, 5, 6]
  T := [9, 10, 11, 12, 13, 14, 15, 16, 17, 18, 19, 20]
  D := [1, 6]
  ss := [.ty (.int .i64), .ty (.int .i64), .ty (.int .i64)]
  hs := []
  es := [.exit 0]
  σ := (Ty.den (.int .i64)) × (Ty.den (.int .i64))
  x0 := fun x _ => (x.2.1, x.2.2)
  put := fun x _ s => ((x.1, s.1, s.2), ())
  fuel := fun _ _ => 40
  turn := fun x _ s =>
  (.ite (decide (s.2 < V_hauberkref01_many x.1))
   (.ret (.on (w64 (w64 (Int.tdiv s.1 2) + w64 (Int.tmod s.1 2 * 2147483648)), w64 (s.2 + 1))))
   (.ret (.out 0 (s.1, s.2))))
/-- hauberkref01.Ror -/
abbrev A_hauberkref01_Ror : List Ty := [(.int .i64), (.int .i64)]
abbrev S_hauberkref01_Ror : Sh := Sh.ty (Ty.int IntKind.i64)
def T_hauberkref01_Ror (x : dens A_hauberkref01_Ror) : PO (Sh.den S_hauberkref01_Ror) :=
  (.opt (LoopN.res L_hauberkref01_Ror_3 (x.2, V_hauberkref01_Wrap x.1, 0) ()) fun p0 =>
   (.ret (p0.2.1)))
def rorN (m k : Nat) : Nat := m / 2 ^ k + m % 2 ^ k * 2 ^ (32 - k)
theorem ror_step (m : Nat) {k : Nat} (hk : k < 32) : rorN m k / 2 + rorN m k % 2 * 2147483648 = rorN m (k + 1) := by
  unfold rorN
  have h1 : m / 2 ^ (k + 1) = m / 2 ^ k / 2 := by rw [Nat.pow_succ, Nat.div_div_eq_div_mul]
  have h2 : m % 2 ^ (k + 1) = m % 2 ^ k + 2 ^ k * (m / 2 ^ k % 2) := by rw [Nat.pow_succ, Nat.mod_mul]
  obtain ⟨j, hj⟩ : ∃ j, 32 - k = j + 1 := ⟨31 - k, by omega⟩
  have h4 : 2 ^ k * 2 ^ j = 2147483648 := by rw [← Nat.pow_add, show k + j = 31 by omega]
  rw [h1, h2, hj, show 32 - (k + 1) = j by omega, Nat.add_mul, Nat.mul_right_comm, h4, Nat.pow_succ, ← Nat.mul_assoc]
  generalize m % 2 ^ k * 2 ^ j = p
  generalize m / 2 ^ k = q
  omega
theorem rorN_lt {m k : Nat} (hm : m < 4294967296) (hk : k ≤ 32) : rorN m k < 4294967296 := by
  induction k with
  | zero => simpa [rorN, Nat.mod_one] using hm
  | succ k ih =>
    rw [← ror_step m (by omega)]
    have := ih (by omega)
    omega
theorem ror_run (a n : Int) : runL (L_hauberkref01_Ror_3.turn (n, (wn a : Int), 0) ()) 40 ((wn a : Int), 0) = some (0, ((rorN (wn a) (kk n) : Nat) : Int), (kk n : Int)) := by
  have hk := kk_lt n
  have key := runL_count (σ := Int × Int) (turn := L_hauberkref01_Ror_3.turn (n, (wn a : Int), 0) ()) (fun i => (((rorN (wn a) i : Nat) : Int), (i : Int))) (0, ((rorN (wn a) (kk n) : Nat) : Int), (kk n : Int)) (n := kk n) (fun i hi => ?_) ?_ (kk n) 0 (by omega) 40 (by omega)
  · rw [show rorN (wn a) 0 = wn a by simp [rorN, Nat.mod_one]] at key
    exact key
  · have h1 : decide ((i : Int) < (kk n : Int)) = true := dec_true (by omega)
    have hst := ror_step (wn a) (show i < 32 by omega)
    have hl := rorN_lt (wn_lt a) (show i ≤ 32 by omega)
    rw [← hst]
    show (bif decide ((i : Int) < (kk n : Int)) then _ else _) = _
    rw [h1]
    show some (TL.on (w64 (w64 (Int.tdiv ((rorN (wn a) i : Nat) : Int) 2) + w64 (Int.tmod ((rorN (wn a) i : Nat) : Int) 2 * 2147483648)), w64 ((i : Int) + 1))) = _
    generalize rorN (wn a) i = p at *
    rw [tdiv_pos _ _ (by omega), tmod_pos _ _ (by omega), w64_id (n := (p : Int) / 2) (by omega) (by omega), w64_id (n := (p : Int) % 2 * 2147483648) (by omega) (by omega), w64_id (by omega) (by omega), w64_id (by omega) (by omega)]
    rfl
  · show (bif decide ((kk n : Int) < (kk n : Int)) then _ else _) = _
    rw [dec_false (by omega)]
    rfl
def G_hauberkref01_Ror (_ : dens A_hauberkref01_Ror) : Bool := true
def V_hauberkref01_Ror (x : dens A_hauberkref01_Ror) : Sh.den S_hauberkref01_Ror := ((wn x.1 / 2 ^ kk x.2 + wn x.1 % 2 ^ kk x.2 * 2 ^ (32 - kk x.2) : Nat) : Int)
theorem ok_hauberkref01_Ror (x : dens A_hauberkref01_Ror) (_ : G_hauberkref01_Ror x = true) : (T_hauberkref01_Ror x).val = some (V_hauberkref01_Ror x) := by
  obtain ⟨a, n⟩ := x
  unfold T_hauberkref01_Ror PO.val
  have : LoopN.res L_hauberkref01_Ror_3 (n, (wn a : Int), 0) () = some (0, ((rorN (wn a) (kk n) : Nat) : Int), (kk n : Int)) := ror_run a n
  rw [show LoopN.res L_hauberkref01_Ror_3 ((a, n).2, V_hauberkref01_Wrap (a, n).1, 0) () = _ from this]
  rfl
end Go.Av
end
/-! Layer 1: words, by the document: the other operations. -/
section
namespace Go.Av
open Go
/-- hauberkref01.Not -/
abbrev A_hauberkref01_Not : List Ty := [(.int .i64)]
abbrev S_hauberkref01_Not : Sh := Sh.ty (Ty.int IntKind.i64)
def T_hauberkref01_Not (x : dens A_hauberkref01_Not) : PO (Sh.den S_hauberkref01_Not) :=
  (.ret (V_hauberkref01_three (0, x, 0, 0)))
def G_hauberkref01_Not (_ : dens A_hauberkref01_Not) : Bool := true
def V_hauberkref01_Not (x : dens A_hauberkref01_Not) : Sh.den S_hauberkref01_Not := ((4294967295 - wn x : Nat) : Int)
theorem ok_hauberkref01_Not (x : dens A_hauberkref01_Not) (_ : G_hauberkref01_Not x = true) : (T_hauberkref01_Not x).val = some (V_hauberkref01_Not x) := rfl
/-- hauberkref01.And -/
abbrev A_hauberkref01_And : List Ty := [(.int .i64), (.int .i64)]
abbrev S_hauberkref01_And : Sh := Sh.ty (Ty.int IntKind.i64)
def T_hauberkref01_And (x : dens A_hauberkref01_And) : PO (Sh.den S_hauberkref01_And) :=
  (.ret (V_hauberkref01_three (0, x.1, x.2, 1)))
def G_hauberkref01_And (_ : dens A_hauberkref01_And) : Bool := true
def V_hauberkref01_And (x : dens A_hauberkref01_And) : Sh.den S_hauberkref01_And := ((wn x.1 &&& wn x.2 : Nat) : Int)
theorem ok_hauberkref01_And (x : dens A_hauberkref01_And) (_ : G_hauberkref01_And x = true) : (T_hauberkref01_And x).val = some (V_hauberkref01_And x) := rfl
/-- hauberkref01.Or -/
abbrev A_hauberkref01_Or : List Ty := [(.int .i64), (.int .i64)]
abbrev S_hauberkref01_Or : Sh := Sh.ty (Ty.int IntKind.i64)
def T_hauberkref01_Or (x : dens A_hauberkref01_Or) : PO (Sh.den S_hauberkref01_Or) :=
  (.ret (V_hauberkref01_three (0, x.1, x.2, 2)))
def G_hauberkref01_Or (_ : dens A_hauberkref01_Or) : Bool := true
def V_hauberkref01_Or (x : dens A_hauberkref01_Or) : Sh.den S_hauberkref01_Or := ((wn x.1 ||| wn x.2 : Nat) : Int)
theorem ok_hauberkref01_Or (x : dens A_hauberkref01_Or) (_ : G_hauberkref01_Or x = true) : (T_hauberkref01_Or x).val = some (V_hauberkref01_Or x) := rfl
/-- hauberkref01.Xor -/
abbrev A_hauberkref01_Xor : List Ty := [(.int .i64), (.int .i64)]
abbrev S_hauberkref01_Xor : Sh := Sh.ty (Ty.int IntKind.i64)
def T_hauberkref01_Xor (x : dens A_hauberkref01_Xor) : PO (Sh.den S_hauberkref01_Xor) :=
  (.ret (V_hauberkref01_three (0, x.1, x.2, 3)))
def G_hauberkref01_Xor (_ : dens A_hauberkref01_Xor) : Bool := true
def V_hauberkref01_Xor (x : dens A_hauberkref01_Xor) : Sh.den S_hauberkref01_Xor := ((wn x.1 ^^^ wn x.2 : Nat) : Int)
theorem ok_hauberkref01_Xor (x : dens A_hauberkref01_Xor) (_ : G_hauberkref01_Xor x = true) : (T_hauberkref01_Xor x).val = some (V_hauberkref01_Xor x) := rfl
/-- hauberkref01.Shl -/
abbrev A_hauberkref01_Shl : List Ty := [(.int .i64), (.int .i64)]
abbrev S_hauberkref01_Shl : Sh := Sh.ty (Ty.int IntKind.i64)
def T_hauberkref01_Shl (x : dens A_hauberkref01_Shl) : PO (Sh.den S_hauberkref01_Shl) :=
  (.ite (G_hauberkref01_power (V_hauberkref01_many x.2) && true)
   (.ret (V_hauberkref01_Mul (x.1, V_hauberkref01_power (V_hauberkref01_many x.2))))
   .fail)
theorem pow_kk_lt (n : Int) : 2 ^ kk n < 4294967296 := Nat.pow_lt_pow_right (by omega) (kk_lt n)
def G_hauberkref01_Shl (_ : dens A_hauberkref01_Shl) : Bool := true
def V_hauberkref01_Shl (x : dens A_hauberkref01_Shl) : Sh.den S_hauberkref01_Shl := ((wn x.1 * 2 ^ kk x.2 % 4294967296 : Nat) : Int)
theorem ok_hauberkref01_Shl (x : dens A_hauberkref01_Shl) (_ : G_hauberkref01_Shl x = true) : (T_hauberkref01_Shl x).val = some (V_hauberkref01_Shl x) := by
  obtain ⟨a, n⟩ := x
  show (bif G_hauberkref01_power (V_hauberkref01_many n) && true then some ((wn a * wn (V_hauberkref01_power (V_hauberkref01_many n)) % 4294967296 : Nat) : Int) else none) = some ((wn a * 2 ^ kk n % 4294967296 : Nat) : Int)
  rw [pow_kk_ok, pow_kk, wn_nat (pow_kk_lt n)]
  rfl
/-- hauberkref01.Shr -/
abbrev A_hauberkref01_Shr : List Ty := [(.int .i64), (.int .i64)]
abbrev S_hauberkref01_Shr : Sh := Sh.ty (Ty.int IntKind.i64)
def T_hauberkref01_Shr (x : dens A_hauberkref01_Shr) : PO (Sh.den S_hauberkref01_Shr) :=
  (.ite (G_hauberkref01_power (V_hauberkref01_many x.2) && !V_hauberkref01_power (V_hauberkref01_many x.2) == 0)
   (.ret (w64 (Int.tdiv (V_hauberkref01_Wrap x.1) (V_hauberkref01_power (V_hauberkref01_many x.2)))))
   .fail)
def G_hauberkref01_Shr (_ : dens A_hauberkref01_Shr) : Bool := true
def V_hauberkref01_Shr (x : dens A_hauberkref01_Shr) : Sh.den S_hauberkref01_Shr := ((wn x.1 / 2 ^ kk x.2 : Nat) : Int)
theorem ok_hauberkref01_Shr (x : dens A_hauberkref01_Shr) (_ : G_hauberkref01_Shr x = true) : (T_hauberkref01_Shr x).val = some (V_hauberkref01_Shr x) := by
  obtain ⟨a, n⟩ := x
  have hl := wn_lt a
  have hd : wn a / 2 ^ kk n ≤ wn a := Nat.div_le_self _ _
  show (bif G_hauberkref01_power (V_hauberkref01_many n) && !(V_hauberkref01_power (V_hauberkref01_many n) == (0 : Int)) then some (w64 (Int.tdiv (wn a : Int) (V_hauberkref01_power (V_hauberkref01_many n)))) else none) = some ((wn a / 2 ^ kk n : Nat) : Int)
  rw [pow_kk_ok, pow_kk, pow_kk_ne, tdiv_pos _ _ (by omega), ← Int.natCast_ediv]
  generalize wn a / 2 ^ kk n = q at hd
  rw [w64_id (by omega) (by omega)]
  rfl
/-- hauberkref01.Flip -/
abbrev A_hauberkref01_Flip : List Ty := [(.int .i64), (.int .i64)]
abbrev S_hauberkref01_Flip : Sh := Sh.ty (Ty.int IntKind.i64)
def T_hauberkref01_Flip (x : dens A_hauberkref01_Flip) : PO (Sh.den S_hauberkref01_Flip) :=
  (.ite (G_hauberkref01_power (V_hauberkref01_many x.2))
   (.ite (V_hauberkref01_Bit (x.1, x.2) == 1)
    (.ret (w64 (V_hauberkref01_Wrap x.1 - V_hauberkref01_power (V_hauberkref01_many x.2))))
    (.ret (w64 (V_hauberkref01_Wrap x.1 + V_hauberkref01_power (V_hauberkref01_many x.2)))))
   .fail)
/-- A number with one bit turned. -/
def flip (m j : Nat) : Nat := bif bt m j == 1 then m - 2 ^ j else m + 2 ^ j
def G_hauberkref01_Flip (_ : dens A_hauberkref01_Flip) : Bool := true
def V_hauberkref01_Flip (x : dens A_hauberkref01_Flip) : Sh.den S_hauberkref01_Flip := (flip (wn x.1) (kk x.2) : Int)
theorem bt_pow_le {m j : Nat} (h : bt m j = 1) : 2 ^ j ≤ m := by
  refine Nat.le_of_not_lt fun hlt => ?_
  unfold bt at h
  rw [Nat.div_eq_of_lt hlt] at h
  cases h
theorem ok_hauberkref01_Flip (x : dens A_hauberkref01_Flip) (_ : G_hauberkref01_Flip x = true) : (T_hauberkref01_Flip x).val = some (V_hauberkref01_Flip x) := by
  obtain ⟨a, n⟩ := x
  have hl := wn_lt a
  have hp := pow_kk_lt n
  show (bif G_hauberkref01_power (V_hauberkref01_many n) then (bif ((bt (wn a) (kk n) : Nat) : Int) == 1 then some (w64 ((wn a : Int) - V_hauberkref01_power (V_hauberkref01_many n))) else some (w64 ((wn a : Int) + V_hauberkref01_power (V_hauberkref01_many n)))) else none) = some ((flip (wn a) (kk n) : Nat) : Int)
  rw [pow_kk_ok, pow_kk]
  have hb := bt_le (wn a) (kk n)
  have h1 : bt (wn a) (kk n) = 0 ∨ bt (wn a) (kk n) = 1 := by omega
  unfold flip
  rcases h1 with h1 | h1
  · rw [h1]
    generalize 2 ^ kk n = q at *
    show some (w64 ((wn a : Int) + (q : Int))) = some ((wn a + q : Nat) : Int)
    rw [w64_id (by omega) (by omega)]
    rfl
  · have hle := bt_pow_le h1
    rw [h1]
    generalize 2 ^ kk n = q at *
    show some (w64 ((wn a : Int) - (q : Int))) = some ((wn a - q : Nat) : Int)
    rw [w64_id (by omega) (by omega), Int.ofNat_sub hle]
end Go.Av
end
/-! Layer 8: what an instruction does. -/
section
namespace Go.Av
open Go
/-- Registers, as words. -/
def wordR (l : List Int) : List Int := l.map fun n => (wn n : Int)
theorem wordR_len (l : List Int) : (wordR l).length = l.length := by simp [wordR]
def wordSt (l : List Int) (k : Nat) : List Int := (wordR l).take k ++ l.drop k
theorem wordSt_get (l : List Int) {k : Nat} (h : k < l.length) : (wordSt l k).getD k 0 = l[k] := by
  unfold wordSt
  have h1 : ((wordR l).take k).length = k := by rw [List.length_take, wordR_len]; omega
  rw [List.getD_eq_getElem?_getD, List.getElem?_append_right (by omega), h1, Nat.sub_self, List.getElem?_drop, Nat.add_zero, List.getElem?_eq_getElem h]
  rfl
theorem wordSt_step (l : List Int) {k : Nat} (h : k < l.length) : (wordSt l k).set k (wn l[k] : Int) = wordSt l (k + 1) := by
  unfold wordSt
  have h1 : ((wordR l).take k).length = k := by rw [List.length_take, wordR_len]; omega
  rw [List.set_append_right _ _ (by omega), h1, Nat.sub_self, List.drop_eq_getElem_cons h, List.set_cons_zero, List.take_succ_eq_append_getElem (by rw [wordR_len]; omega), List.append_assoc]
  simp [wordR]
theorem wordSt_end (l : List Int) {k : Nat} (h : l.length ≤ k) : wordSt l k = wordR l := by
  unfold wordSt
  rw [List.take_of_length_le (by rw [wordR_len]; omega), List.drop_of_length_le h, List.append_nil]
theorem wordSt_zero (l : List Int) : wordSt l 0 = l := by simp [wordSt]
/-- cpu.Holds -/
abbrev A_cpu_Holds : List Ty := [tState, (.int .i64)]
abbrev S_cpu_Holds : Sh := Sh.ty Ty.bool
def T_cpu_Holds (x : dens A_cpu_Holds) : PO (Sh.den S_cpu_Holds) :=
  (.ite (decide (x.2 < 0) || decide (x.2 > 13))
   (.ret (false))
   (.ret ((bif ishr IntKind.i64 x.2 1 == 0 then x.1.2.2.2.1 else bif ishr IntKind.i64 x.2 1 == 1 then x.1.2.2.2.2.1 else bif ishr IntKind.i64 x.2 1 == 2 then x.1.2.2.1 else bif ishr IntKind.i64 x.2 1 == 3 then x.1.2.2.2.2.2.1 else bif ishr IntKind.i64 x.2 1 == 4 then x.1.2.2.2.2.1 && !x.1.2.2.2.1 else bif ishr IntKind.i64 x.2 1 == 5 then x.1.2.2.1 == x.1.2.2.2.2.2.1 else ishr IntKind.i64 x.2 1 == 6 && (!x.1.2.2.2.1 && x.1.2.2.1 == x.1.2.2.2.2.2.1)) == (band IntKind.i64 x.2 1 == 0))))
def G_cpu_Holds (_ : dens A_cpu_Holds) : Bool := true
def V_cpu_Holds (x : dens A_cpu_Holds) : Sh.den S_cpu_Holds := (T_cpu_Holds x).getO default
theorem ok_cpu_Holds (x : dens A_cpu_Holds) (_ : G_cpu_Holds x = true) : (T_cpu_Holds x).val = some (V_cpu_Holds x) := PO.sure_ok default (by simp [T_cpu_Holds, PO.sure])
/-- hauberkref08.Holds -/
abbrev A_hauberkref08_Holds : List Ty := [tState, (.int .i64)]
abbrev S_hauberkref08_Holds : Sh := Sh.ty Ty.bool
def T_hauberkref08_Holds (x : dens A_hauberkref08_Holds) : PO (Sh.den S_hauberkref08_Holds) :=
  (.ite (x.2 == 0)
   (.ret (x.1.2.2.2.1))
   (.ite (x.2 == 1)
    (.ret (!x.1.2.2.2.1))
    (.ite (x.2 == 2)
     (.ret (x.1.2.2.2.2.1))
     (.ite (x.2 == 3)
      (.ret (!x.1.2.2.2.2.1))
      (.ite (x.2 == 4)
       (.ret (x.1.2.2.1))
       (.ite (x.2 == 5)
        (.ret (!x.1.2.2.1))
        (.ite (x.2 == 6)
         (.ret (x.1.2.2.2.2.2.1))
         (.ite (x.2 == 7)
          (.ret (!x.1.2.2.2.2.2.1))
          (.ite (x.2 == 8)
           (.ret (x.1.2.2.2.2.1 && !x.1.2.2.2.1))
           (.ite (x.2 == 9)
            (.ret (!x.1.2.2.2.2.1 || x.1.2.2.2.1))
            (.ite (x.2 == 10)
             (.ret (x.1.2.2.1 == x.1.2.2.2.2.2.1))
             (.ite (x.2 == 11)
              (.ret (!x.1.2.2.1 == x.1.2.2.2.2.2.1))
              (.ite (x.2 == 12)
               (.ret (!x.1.2.2.2.1 && x.1.2.2.1 == x.1.2.2.2.2.2.1))
               (.ite (x.2 == 13)
                (.ret (x.1.2.2.2.1 || !x.1.2.2.1 == x.1.2.2.2.2.2.1))
                (.ret (false))))))))))))))))
def G_hauberkref08_Holds (_ : dens A_hauberkref08_Holds) : Bool := true
def V_hauberkref08_Holds (x : dens A_hauberkref08_Holds) : Sh.den S_hauberkref08_Holds := (T_hauberkref08_Holds x).getO default
theorem ok_hauberkref08_Holds (x : dens A_hauberkref08_Holds) (_ : G_hauberkref08_Holds x = true) : (T_hauberkref08_Holds x).val = some (V_hauberkref08_Holds x) := PO.sure_ok default (by simp [T_hauberkref08_Holds, PO.sure])
/-- hauberkref08.Taken -/
abbrev A_hauberkref08_Taken : List Ty := [tState, tIns]
abbrev S_hauberkref08_Taken : Sh := Sh.ty Ty.bool
def T_hauberkref08_Taken (x : dens A_hauberkref08_Taken) : PO (Sh.den S_hauberkref08_Taken) :=
  (.ite (x.2.1 == 24 || (x.2.1 == 25 || true))
   (.ret (x.2.1 == 24 || x.2.1 == 25 && V_hauberkref08_Holds (x.1, x.2.2.2.2.2.2.2.1)))
   .fail)
def G_hauberkref08_Taken (_ : dens A_hauberkref08_Taken) : Bool := true
def V_hauberkref08_Taken (x : dens A_hauberkref08_Taken) : Sh.den S_hauberkref08_Taken := (T_hauberkref08_Taken x).getO default
theorem ok_hauberkref08_Taken (x : dens A_hauberkref08_Taken) (_ : G_hauberkref08_Taken x = true) : (T_hauberkref08_Taken x).val = some (V_hauberkref08_Taken x) := PO.tots_ok default (by simp [T_hauberkref08_Taken, PO.tots])
/-- cpu.goes -/
abbrev A_cpu_goes : List Ty := [tState, tIns]
abbrev S_cpu_goes : Sh := Sh.ty Ty.bool
def T_cpu_goes (x : dens A_cpu_goes) : PO (Sh.den S_cpu_goes) :=
  (.ite (x.2.1 == 24 || (x.2.1 == 25 || true))
   (.ret (x.2.1 == 24 || x.2.1 == 25 && V_cpu_Holds (x.1, x.2.2.2.2.2.2.2.1)))
   .fail)
def G_cpu_goes (_ : dens A_cpu_goes) : Bool := true
def V_cpu_goes (x : dens A_cpu_goes) : Sh.den S_cpu_goes := (T_cpu_goes x).getO default
theorem ok_cpu_goes (x : dens A_cpu_goes) (_ : G_cpu_goes x = true) : (T_cpu_goes x).val = some (V_cpu_goes x) := PO.tots_ok default (by simp [T_cpu_goes, PO.tots])
def L_cpu_words_2 : LoopN where
  M := [1, 2, 6, 7]
  T := [3, 4, 8, 9, 10, 11, 12, 13, 14, 15, 16]
  D := [6, 7]
  ss := [.box 0 0, .box 1 0, .ty (.arr 15 (.int .i64)), .ty (.int .i64)]
  hs := [.ty tState, .ty tState]
  es := [.exit 0]
  σ := (Ty.den (.int .i64)) × (Sh.den (.ty tState)) × (Sh.den (.ty tState))
  x0 := fun x y => (x.2.2.2, y.1, y.2)
  put := fun x _ s => ((x.1, x.2.1, x.2.2.1, s.1), (s.2.1, s.2.2))
  fuel := fun _ _ => 20
  turn := fun x _ s =>
  (.ite (decide (s.1 < 15))
   (.ite (inRange s.1 15)
    (.ite (inRange s.1 15)
     (.ret (.on (w64 (s.1 + 1), (List.set s.2.1.1 (Int.toNat s.1) (V_word_Wrap (List.getD x.2.2.1 (Int.toNat s.1) (Ty.dflt (Ty.int IntKind.i64)))), s.2.1.2), s.2.2)))
     .fail)
    .fail)
   (.ret (.out 0 (s.1, s.2.1, s.2.2))))
def L_hauberkref08_Words_2 : LoopN where
  M := [1, 2, 3]
  T := [4, 5, 6, 7, 8, 9, 10, 11, 12, 13, 14, 15]
  D := [3]
  ss := [.box 0 0, .box 1 0, .ty (.int .i64)]
  hs := [.ty tState, .ty tState]
  es := [.exit 0]
  σ := (Ty.den (.int .i64)) × (Sh.den (.ty tState)) × (Sh.den (.ty tState))
  x0 := fun x y => (x.2.2, y.1, y.2)
  put := fun x _ s => ((x.1, x.2.1, s.1), (s.2.1, s.2.2))
  fuel := fun _ _ => 20
  turn := fun _ _ s =>
  (.ite (decide (s.1 < 15))
   (.ite (inRange s.1 15)
    (.ite (inRange s.1 15)
     (.ret (.on (w64 (s.1 + 1), (List.set s.2.1.1 (Int.toNat s.1) (V_hauberkref01_Wrap (List.getD s.2.1.1 (Int.toNat s.1) (Ty.dflt (Ty.int IntKind.i64)))), s.2.1.2), s.2.2)))
     .fail)
    .fail)
   (.ret (.out 0 (s.1, s.2.1, s.2.2))))
/-- cpu.words -/
abbrev A_cpu_words : List Ty := [tState]
abbrev S_cpu_words : Sh := Sh.ty tState
def T_cpu_words (x : dens A_cpu_words) : PO (Sh.den S_cpu_words) :=
  (.opt (LoopN.res L_cpu_words_2 ((), (), x.1, 0) (x, [0, 0, 0, 0, 0, 0, 0, 0, 0, 0, 0, 0, 0, 0, 0], 0, false, false, false, false, ())) fun p0 =>
   (.ret ((p0.2.2.1.1, V_word_Wrap p0.2.2.1.2.1, p0.2.2.1.2.2))))
theorem words_run (r : List Int) (t u : tState.den) (hr : r.length = 15) (ht : t.1 = r) : runL (L_cpu_words_2.turn ((), (), r, 0) (t, u)) 20 (0, t, u) = some (0, 15, (wordR r, t.2), u) := by
  have key := runL_count (σ := Int × tState.den × tState.den) (turn := L_cpu_words_2.turn ((), (), r, 0) (t, u)) (fun i => ((i : Int), (wordSt r i, t.2), u)) (0, 15, (wordR r, t.2), u) (n := 15) (fun i hi => ?_) ?_ 15 0 (by omega) 20 (by omega)
  · simp only [wordSt_zero] at key
    rw [← ht] at key ⊢
    exact key
  · have h1 : decide ((i : Int) < 15) = true := dec_true (by omega)
    have hi' : i < r.length := by omega
    show (bif decide ((i : Int) < 15) then (bif inRange (i : Int) 15 then (bif inRange (i : Int) 15 then some (TL.on (w64 ((i : Int) + 1), ((wordSt r i).set (Int.toNat (i : Int)) (wn (r.getD (Int.toNat (i : Int)) 0) : Int), t.2), u)) else none) else none) else _) = _
    rw [h1, inR hi, Int.toNat_natCast, getD_in r _ hi', wordSt_step r hi', w64_id (by omega) (by omega)]
    rfl
  · show (bif decide (((15 : Nat) : Int) < 15) then _ else _) = _
    rw [dec_false (by omega), wordSt_end r (by omega)]
    rfl
def G_cpu_words (x : dens A_cpu_words) : Bool := decide (List.length x.1 = 15)
def V_cpu_words (x : dens A_cpu_words) : Sh.den S_cpu_words := (wordR x.1, (wn x.2.1 : Int), x.2.2)
theorem ok_cpu_words (x : dens A_cpu_words) (h : G_cpu_words x = true) : (T_cpu_words x).val = some (V_cpu_words x) := by
  have h15 : List.length x.1 = 15 := of_decide_eq_true h
  unfold T_cpu_words PO.val
  have : LoopN.res L_cpu_words_2 ((), (), x.1, 0) (x, [0, 0, 0, 0, 0, 0, 0, 0, 0, 0, 0, 0, 0, 0, 0], 0, false, false, false, false, ()) = some (0, (15 : Int), (wordR x.1, x.2), ([0, 0, 0, 0, 0, 0, 0, 0, 0, 0, 0, 0, 0, 0, 0], 0, false, false, false, false, ())) := words_run x.1 x _ h15 rfl
  rw [this]
  rfl
/-- hauberkref08.Words -/
abbrev A_hauberkref08_Words : List Ty := [tState]
abbrev S_hauberkref08_Words : Sh := Sh.ty tState
def T_hauberkref08_Words (x : dens A_hauberkref08_Words) : PO (Sh.den S_hauberkref08_Words) :=
  (.opt (LoopN.res L_hauberkref08_Words_2 ((), (), 0) (x, [0, 0, 0, 0, 0, 0, 0, 0, 0, 0, 0, 0, 0, 0, 0], 0, false, false, false, false, ())) fun p0 =>
   (.ret ((p0.2.2.1.1, V_hauberkref01_Wrap p0.2.2.1.2.1, p0.2.2.1.2.2))))
theorem ref_words_run (r : List Int) (t u : tState.den) (hr : r.length = 15) (ht : t.1 = r) : runL (L_hauberkref08_Words_2.turn ((), (), 0) (t, u)) 20 (0, t, u) = some (0, 15, (wordR r, t.2), u) := by
  have key := runL_count (σ := Int × tState.den × tState.den) (turn := L_hauberkref08_Words_2.turn ((), (), 0) (t, u)) (fun i => ((i : Int), (wordSt r i, t.2), u)) (0, 15, (wordR r, t.2), u) (n := 15) (fun i hi => ?_) ?_ 15 0 (by omega) 20 (by omega)
  · simp only [wordSt_zero] at key
    rw [← ht] at key ⊢
    exact key
  · have h1 : decide ((i : Int) < 15) = true := dec_true (by omega)
    have hi' : i < r.length := by omega
    show (bif decide ((i : Int) < 15) then (bif inRange (i : Int) 15 then (bif inRange (i : Int) 15 then some (TL.on (w64 ((i : Int) + 1), ((wordSt r i).set (Int.toNat (i : Int)) (wn ((wordSt r i).getD (Int.toNat (i : Int)) 0) : Int), t.2), u)) else none) else none) else _) = _
    rw [h1, inR hi, Int.toNat_natCast, wordSt_get r hi', wordSt_step r hi', w64_id (by omega) (by omega)]
    rfl
  · show (bif decide (((15 : Nat) : Int) < 15) then _ else _) = _
    rw [dec_false (by omega), wordSt_end r (by omega)]
    rfl
def G_hauberkref08_Words (x : dens A_hauberkref08_Words) : Bool := decide (List.length x.1 = 15)
def V_hauberkref08_Words (x : dens A_hauberkref08_Words) : Sh.den S_hauberkref08_Words := (wordR x.1, (wn x.2.1 : Int), x.2.2)
theorem ok_hauberkref08_Words (x : dens A_hauberkref08_Words) (h : G_hauberkref08_Words x = true) : (T_hauberkref08_Words x).val = some (V_hauberkref08_Words x) := by
  have h15 : List.length x.1 = 15 := of_decide_eq_true h
  unfold T_hauberkref08_Words PO.val
  have : LoopN.res L_hauberkref08_Words_2 ((), (), 0) (x, [0, 0, 0, 0, 0, 0, 0, 0, 0, 0, 0, 0, 0, 0, 0], 0, false, false, false, false, ()) = some (0, (15 : Int), (wordR x.1, x.2), ([0, 0, 0, 0, 0, 0, 0, 0, 0, 0, 0, 0, 0, 0, 0], 0, false, false, false, false, ())) := ref_words_run x.1 x _ h15 rfl
  rw [this]
  rfl
end Go.Av
end
/-! Layer 8: what an instruction does: its parts. -/
section
namespace Go.Av
open Go
/-- Bits of a number put into another one, at a place. -/
def insN (m f a k : Nat) : Nat := 2 ^ a * (2 ^ k * (m / 2 ^ (a + k)) + f % 2 ^ k) + m % 2 ^ a
theorem insN_bit (m f a k j : Nat) : (insN m f a k).testBit j = if j < a then m.testBit j else if j < a + k then f.testBit (j - a) else m.testBit j := by
  unfold insN
  rw [Nat.testBit_two_pow_mul_add _ (Nat.mod_lt _ (Nat.two_pow_pos a))]
  split
  · rename_i h
    rw [Nat.testBit_mod_two_pow, decide_eq_true h, Bool.true_and]
  · rename_i h
    rw [Nat.testBit_two_pow_mul_add _ (Nat.mod_lt _ (Nat.two_pow_pos k))]
    split
    · rename_i h2
      rw [if_pos (by omega), Nat.testBit_mod_two_pow, decide_eq_true h2, Bool.true_and]
    · rename_i h2
      rw [if_neg (by omega), Nat.testBit_div_two_pow]
      congr 1
      omega
theorem insN_lt {m f a k : Nat} (hm : m < 4294967296) (h : a + k ≤ 32) : insN m f a k < 4294967296 := by
  refine Nat.lt_pow_two_of_testBit (n := 32) _ fun j hj => ?_
  rw [insN_bit, if_neg (by omega), if_neg (by omega)]
  exact Nat.testBit_lt_two_pow (Nat.lt_of_lt_of_le hm (Nat.pow_le_pow_right (n := 2) (by omega) hj))
theorem mask_bit (a k j : Nat) : ((2 ^ k - 1) * 2 ^ a).testBit j = (decide (a ≤ j) && decide (j < a + k)) := by
  rw [Nat.testBit_mul_two_pow, Nat.testBit_two_pow_sub_one]
  by_cases h : a ≤ j
  · rw [show decide (j - a < k) = decide (j < a + k) from decide_eq_decide.2 (by omega)]
  · rw [dec_false h]; rfl
theorem mask_lt {a k : Nat} (h : a + k ≤ 32) : (2 ^ k - 1) * 2 ^ a < 4294967296 := by
  refine Nat.lt_pow_two_of_testBit (n := 32) _ fun j hj => ?_
  rw [mask_bit, dec_false (show ¬ j < a + k by omega), Bool.and_false]
theorem select_ins {m f a k : Nat} (hm : m < 4294967296) (h : a + k ≤ 32) : (f * 2 ^ a % 4294967296 &&& (2 ^ k - 1) * 2 ^ a) ||| (m &&& (4294967295 - (2 ^ k - 1) * 2 ^ a)) = insN m f a k := by
  refine Nat.eq_of_testBit_eq fun j => ?_
  rw [insN_bit, Nat.testBit_or, Nat.testBit_and, Nat.testBit_and, mask_bit, show 4294967295 - (2 ^ k - 1) * 2 ^ a = 2 ^ 32 - ((2 ^ k - 1) * 2 ^ a + 1) by omega, Nat.testBit_two_pow_sub_succ (mask_lt h), mask_bit, show (4294967296 : Nat) = 2 ^ 32 from rfl, Nat.testBit_mod_two_pow, Nat.testBit_mul_two_pow]
  by_cases h32 : j < 32
  · by_cases ha : j < a
    · simp [ha, h32, show ¬ a ≤ j by omega]
    · by_cases hk : j < a + k
      · simp [ha, h32, hk, show a ≤ j by omega]
      · simp [ha, h32, hk, show a ≤ j by omega]
  · have hz : m.testBit j = false := Nat.testBit_lt_two_pow (Nat.lt_of_lt_of_le hm (Nat.pow_le_pow_right (n := 2) (by omega) (show 32 ≤ j by omega)))
    have ha : ¬ j < a := by omega
    have hk : ¬ j < a + k := by omega
    simp [h32, hz, ha, hk]
/-- cpu.insert -/
abbrev A_cpu_insert : List Ty := [(.int .i64), (.int .i64), (.int .i64), (.int .i64)]
abbrev S_cpu_insert : Sh := Sh.ty (Ty.int IntKind.i64)
def T_cpu_insert (x : dens A_cpu_insert) : PO (Sh.den S_cpu_insert) :=
  (.ite (!decide (x.2.2.2 < 0) && (!decide (x.2.2.1 < 0) && true))
   (.ret (V_word_Select (V_word_Wrap (ishl IntKind.i64 (w64 (ishl IntKind.i64 1 x.2.2.2 - 1)) x.2.2.1), V_word_Shl (x.2.1, x.2.2.1), x.1)))
   .fail)
def G_cpu_insert (x : dens A_cpu_insert) : Bool := decide ((0 : Int) ≤ x.2.2.1) && (decide ((0 : Int) ≤ x.2.2.2) && (decide ((x.2.2.1 : Int) + x.2.2.2 ≤ 32) && decide ((x.2.2.1 : Int) < 32)))
def V_cpu_insert (x : dens A_cpu_insert) : Sh.den S_cpu_insert := (insN (wn x.1) (wn x.2.1) (Int.toNat x.2.2.1) (Int.toNat x.2.2.2) : Int)
theorem insert_val (m f : Int) (a k : Nat) (h : a + k ≤ 32) (ha : a < 32) : (T_cpu_insert (m, f, (a : Int), (k : Int))).val = some ((insN (wn m) (wn f) a k : Nat) : Int) := by
  have h1 : decide ((k : Int) < 0) = false := dec_false (by omega)
  have h2 : decide ((a : Int) < 0) = false := dec_false (by omega)
  have hp : 2 ^ k ≤ 2 ^ 32 := pow_lt (by omega)
  have hk1 : ishl .i64 1 (k : Int) = ((2 ^ k : Nat) : Int) := by
    rw [ishl_nat _ _ (by omega), Int.one_mul, show (2 : Int) ^ k = ((2 ^ k : Nat) : Int) by simp]
    exact w64_nat (by omega)
  have hpos := Nat.two_pow_pos k
  have hm1 : w64 (((2 ^ k : Nat) : Int) - 1) = ((2 ^ k - 1 : Nat) : Int) := by
    generalize 2 ^ k = q at *
    rw [w64_id (by omega) (by omega)]
    omega
  have hml := mask_lt h
  have hkk : kk (a : Int) = a := by unfold kk; omega
  show (bif !decide ((k : Int) < 0) && (!decide ((a : Int) < 0) && true) then some (((wn ((wn f * 2 ^ kk (a : Int) % 4294967296 : Nat) : Int) &&& wn ((wn (ishl .i64 (w64 (ishl .i64 1 (k : Int) - 1)) (a : Int)) : Nat) : Int)) ||| (wn m &&& (4294967295 - wn ((wn (ishl .i64 (w64 (ishl .i64 1 (k : Int) - 1)) (a : Int)) : Nat) : Int))) : Nat) : Int) else none) = _
  rw [h1, h2, hk1, hm1, shl_wn _ _ (by omega), hkk, Nat.mod_eq_of_lt hml, wn_nat (Nat.mod_lt _ (by omega)), wn_nat hml, select_ins (wn_lt m) h]
  rfl
theorem ok_cpu_insert (x : dens A_cpu_insert) (h : G_cpu_insert x = true) : (T_cpu_insert x).val = some (V_cpu_insert x) := by
  obtain ⟨m, f, a, k⟩ := x
  simp only [G_cpu_insert, Bool.and_eq_true, decide_eq_true_eq] at h
  obtain ⟨h1, h2, h3, h4⟩ := h
  obtain ⟨a, rfl⟩ := Int.eq_ofNat_of_zero_le h1
  obtain ⟨k, rfl⟩ := Int.eq_ofNat_of_zero_le h2
  have h3' : (a : Int) + (k : Int) ≤ 32 := h3
  have h4' : (a : Int) < 32 := h4
  exact insert_val m f a k (by omega) (by omega)
/-- cpu.shifted -/
abbrev A_cpu_shifted : List Ty := [(.int .i64), (.int .i64), (.int .i64)]
abbrev S_cpu_shifted : Sh := Sh.ty (Ty.int IntKind.i64)
def T_cpu_shifted (x : dens A_cpu_shifted) : PO (Sh.den S_cpu_shifted) :=
  (.ite (x.1 == 5)
   (.ret (V_word_Shl (x.2.1, x.2.2)))
   (.ite (x.1 == 6)
    (.ret (V_word_Shr (x.2.1, x.2.2)))
    (.ite (x.1 == 7)
     (.ret (V_word_Sar (x.2.1, x.2.2)))
     (.ret (V_word_Ror (x.2.1, x.2.2))))))
def G_cpu_shifted (_ : dens A_cpu_shifted) : Bool := true
def V_cpu_shifted (x : dens A_cpu_shifted) : Sh.den S_cpu_shifted := (T_cpu_shifted x).getO default
theorem ok_cpu_shifted (x : dens A_cpu_shifted) (_ : G_cpu_shifted x = true) : (T_cpu_shifted x).val = some (V_cpu_shifted x) := PO.sure_ok default (by simp [T_cpu_shifted, PO.sure])
/-- cpu.two -/
abbrev A_cpu_two : List Ty := [(.int .i64), (.int .i64), (.int .i64)]
abbrev S_cpu_two : Sh := Sh.ty (Ty.int IntKind.i64)
def T_cpu_two (x : dens A_cpu_two) : PO (Sh.den S_cpu_two) :=
  (.ite (x.1 == 10)
   (.ret (V_word_And (x.2.1, x.2.2)))
   (.ite (x.1 == 11)
    (.ret (V_word_And (x.2.1, V_word_Not x.2.2)))
    (.ite (x.1 == 12)
     (.ret (V_word_Or (x.2.1, x.2.2)))
     (.ite (x.1 == 13)
      (.ret (V_word_Xor (x.2.1, x.2.2)))
      (.ite (x.1 == 14)
       (.ret (V_word_Add (x.2.1, x.2.2)))
       (.ite (x.1 == 15)
        (.ret (V_word_Sub (x.2.1, x.2.2)))
        (.ret (V_word_Mul (x.2.1, x.2.2)))))))))
def G_cpu_two (_ : dens A_cpu_two) : Bool := true
def V_cpu_two (x : dens A_cpu_two) : Sh.den S_cpu_two := (T_cpu_two x).getO default
theorem ok_cpu_two (x : dens A_cpu_two) (_ : G_cpu_two x = true) : (T_cpu_two x).val = some (V_cpu_two x) := PO.sure_ok default (by simp [T_cpu_two, PO.sure])
/-- cpu.compare -/
abbrev A_cpu_compare : List Ty := [tState, (.int .i64), (.int .i64)]
abbrev S_cpu_compare : Sh := Sh.ty tState
def T_cpu_compare (x : dens A_cpu_compare) : PO (Sh.den S_cpu_compare) :=
  (.ret ((x.1.1, x.1.2.1, V_word_Bit (V_word_Sub (x.2.1, x.2.2), 31) == 1, V_word_Sub (x.2.1, x.2.2) == 0, decide (x.2.1 ≥ x.2.2), V_word_Bit (V_word_And (V_word_Xor (x.2.1, x.2.2), V_word_Xor (x.2.1, V_word_Sub (x.2.1, x.2.2))), 31) == 1, x.1.2.2.2.2.2.2)))
def G_cpu_compare (_ : dens A_cpu_compare) : Bool := true
def V_cpu_compare (x : dens A_cpu_compare) : Sh.den S_cpu_compare := (T_cpu_compare x).getO default
theorem ok_cpu_compare (x : dens A_cpu_compare) (_ : G_cpu_compare x = true) : (T_cpu_compare x).val = some (V_cpu_compare x) := PO.sure_ok default (by simp [T_cpu_compare, PO.sure])
/-- hauberkref08.signed -/
abbrev A_hauberkref08_signed : List Ty := [(.int .i64)]
abbrev S_hauberkref08_signed : Sh := Sh.ty (Ty.int IntKind.i64)
def T_hauberkref08_signed (x : dens A_hauberkref08_signed) : PO (Sh.den S_hauberkref08_signed) :=
  (.ite (decide (x ≥ 2147483648))
   (.ret (w64 (x - 4294967296)))
   (.ret (x)))
def G_hauberkref08_signed (_ : dens A_hauberkref08_signed) : Bool := true
def V_hauberkref08_signed (x : dens A_hauberkref08_signed) : Sh.den S_hauberkref08_signed := (T_hauberkref08_signed x).getO default
theorem ok_hauberkref08_signed (x : dens A_hauberkref08_signed) (_ : G_hauberkref08_signed x = true) : (T_hauberkref08_signed x).val = some (V_hauberkref08_signed x) := PO.sure_ok default (by simp [T_hauberkref08_signed, PO.sure])
def L_hauberkref08_put_2 : LoopN where
  M := [0, 1, 2, 3, 9]
  T := [10, 11, 12, 13, 14, 15, 16, 17, 18, 19, 20, 21, 22, 23, 24, 25, 26, 27, 28]
  D := [1, 2, 3, 9]
  ss := [.ty (.int .i64), .ty (.int .i64), .ty (.int .i64), .ty (.int .i64), .ty (.int .i64)]
  hs := []
  es := [.exit 0]
  σ := (Ty.den (.int .i64)) × (Ty.den (.int .i64))
  x0 := fun x _ => (x.1, x.2.2.2.2)
  put := fun x _ s => ((s.1, x.2.1, x.2.2.1, x.2.2.2.1, s.2), ())
  fuel := fun _ _ => 40
  turn := fun x _ s =>
  (.ite (decide (s.2 < x.2.2.2.1))
   (.ite (V_hauberkref01_Bit (s.1, w64 (x.2.2.1 + s.2)) != V_hauberkref01_Bit (x.2.1, s.2) || true)
    (.ret (.on (bif V_hauberkref01_Bit (s.1, w64 (x.2.2.1 + s.2)) != V_hauberkref01_Bit (x.2.1, s.2) then V_hauberkref01_Flip (s.1, w64 (x.2.2.1 + s.2)) else s.1, w64 (s.2 + 1))))
    .fail)
   (.ret (.out 0 (s.1, s.2))))
/-- hauberkref08.put -/
abbrev A_hauberkref08_put : List Ty := [(.int .i64), (.int .i64), (.int .i64), (.int .i64)]
abbrev S_hauberkref08_put : Sh := Sh.ty (Ty.int IntKind.i64)
def T_hauberkref08_put (x : dens A_hauberkref08_put) : PO (Sh.den S_hauberkref08_put) :=
  (.opt (LoopN.res L_hauberkref08_put_2 (x.1, x.2.1, x.2.2.1, x.2.2.2, 0) ()) fun p0 =>
   (.ret (p0.2.1)))
theorem insN_zero (m f a : Nat) : insN m f a 0 = m := by
  unfold insN
  rw [Nat.pow_zero, Nat.one_mul, Nat.mod_one, Nat.add_zero, Nat.add_zero]
  exact Nat.div_add_mod m (2 ^ a)
theorem insN_bt (m f a k : Nat) : bt (insN m f a k) (a + k) = bt m (a + k) := by
  rw [bt_eq, bt_eq, insN_bit, if_neg (by omega), if_neg (by omega)]
theorem insN_step (m f a k : Nat) : insN m f a (k + 1) = bif bt (insN m f a k) (a + k) != bt f k then flip (insN m f a k) (a + k) else insN m f a k := by
  have e1 : m / 2 ^ (a + k) = 2 * (m / 2 ^ (a + (k + 1))) + bt m (a + k) := div_bt m (a + k)
  have e2 : f % 2 ^ (k + 1) = f % 2 ^ k + 2 ^ k * bt f k := by unfold bt; rw [Nat.pow_succ, Nat.mod_mul]
  have hb := bt_le m (a + k)
  have hf := bt_le f k
  have key : insN m f a (k + 1) + 2 ^ (a + k) * bt m (a + k) = insN m f a k + 2 ^ (a + k) * bt f k := by
    have e3 : 2 ^ (a + k) = 2 ^ a * 2 ^ k := Nat.pow_add 2 a k
    unfold insN
    rw [e1, e2]
    generalize m / 2 ^ (a + (k + 1)) = q
    rw [Nat.pow_succ, e3]
    grind
  have hbt := insN_bt m f a k
  have hle : bt (insN m f a k) (a + k) = 1 → 2 ^ (a + k) ≤ insN m f a k := bt_pow_le
  unfold flip
  rw [hbt] at hle ⊢
  have h1 : bt m (a + k) = 0 ∨ bt m (a + k) = 1 := by omega
  have h2 : bt f k = 0 ∨ bt f k = 1 := by omega
  rcases h1 with h1 | h1 <;> rcases h2 with h2 | h2
  · rw [h1, h2] at key ⊢
    simpa using key
  · rw [h1, h2] at key ⊢
    simpa using key
  · have := hle h1
    rw [h1, h2] at key ⊢
    simp at key ⊢
    omega
  · rw [h1, h2] at key ⊢
    simpa using key
def G_hauberkref08_put (x : dens A_hauberkref08_put) : Bool := (decide ((0 : Int) ≤ x.1) && decide ((x.1 : Int) < 4294967296)) && (decide ((0 : Int) ≤ x.2.2.1) && (decide ((0 : Int) ≤ x.2.2.2) && decide ((x.2.2.1 : Int) + x.2.2.2 ≤ 32)))
def V_hauberkref08_put (x : dens A_hauberkref08_put) : Sh.den S_hauberkref08_put := (insN (wn x.1) (wn x.2.1) (Int.toNat x.2.2.1) (Int.toNat x.2.2.2) : Int)
theorem put_run (m : Nat) (f : Int) (a k : Nat) (hm : m < 4294967296) (h : a + k ≤ 32) : runL (L_hauberkref08_put_2.turn ((m : Int), f, (a : Int), (k : Int), 0) ()) 40 ((m : Int), 0) = some (0, ((insN m (wn f) a k : Nat) : Int), (k : Int)) := by
  have key := runL_count (σ := Int × Int) (turn := L_hauberkref08_put_2.turn ((m : Int), f, (a : Int), (k : Int), 0) ()) (fun i => (((insN m (wn f) a i : Nat) : Int), (i : Int))) (0, ((insN m (wn f) a k : Nat) : Int), (k : Int)) (n := k) (fun i hi => ?_) ?_ k 0 (by omega) 40 (by omega)
  · simp only [insN_zero] at key
    exact key
  · have h1 : decide ((i : Int) < (k : Int)) = true := dec_true (by omega)
    have hl := insN_lt (f := wn f) hm (show a + i ≤ 32 by omega)
    have e1 : w64 ((a : Int) + (i : Int)) = ((a + i : Nat) : Int) := by rw [w64_id (by omega) (by omega)]; omega
    have k1 : kk ((a + i : Nat) : Int) = a + i := by unfold kk; omega
    have k2 : kk (i : Int) = i := by unfold kk; omega
    show (bif decide ((i : Int) < (k : Int)) then (bif ((((bt (wn ((insN m (wn f) a i : Nat) : Int)) (kk (w64 ((a : Int) + (i : Int)))) : Nat) : Int)) != ((bt (wn f) (kk (i : Int)) : Nat) : Int)) || true then some (TL.on ((bif (((bt (wn ((insN m (wn f) a i : Nat) : Int)) (kk (w64 ((a : Int) + (i : Int)))) : Nat) : Int)) != ((bt (wn f) (kk (i : Int)) : Nat) : Int) then ((flip (wn ((insN m (wn f) a i : Nat) : Int)) (kk (w64 ((a : Int) + (i : Int)))) : Nat) : Int) else ((insN m (wn f) a i : Nat) : Int)), w64 ((i : Int) + 1))) else none) else _) = _
    rw [h1, e1, k1, k2, wn_nat hl, Bool.or_true, w64_id (n := (i : Int) + 1) (by omega) (by omega), insN_step]
    have e : ((((bt (insN m (wn f) a i) (a + i) : Nat) : Int)) != ((bt (wn f) i : Nat) : Int)) = (bt (insN m (wn f) a i) (a + i) != bt (wn f) i) := by
      rw [Bool.eq_iff_iff]
      simp only [bne_iff_ne, ne_eq]
      omega
    rw [e]
    cases bt (insN m (wn f) a i) (a + i) != bt (wn f) i <;> rfl
  · show (bif decide ((k : Int) < (k : Int)) then _ else _) = _
    rw [dec_false (by omega)]
    rfl
theorem ok_hauberkref08_put (x : dens A_hauberkref08_put) (h : G_hauberkref08_put x = true) : (T_hauberkref08_put x).val = some (V_hauberkref08_put x) := by
  obtain ⟨m, f, a, k⟩ := x
  simp only [G_hauberkref08_put, Bool.and_eq_true, decide_eq_true_eq] at h
  obtain ⟨⟨h0, hm⟩, h1, h2, h3⟩ := h
  obtain ⟨m, rfl⟩ := Int.eq_ofNat_of_zero_le h0
  obtain ⟨a, rfl⟩ := Int.eq_ofNat_of_zero_le h1
  obtain ⟨k, rfl⟩ := Int.eq_ofNat_of_zero_le h2
  have hm0 : (m : Int) < 4294967296 := hm
  have hm' : m < 4294967296 := by omega
  have h3' : (a : Int) + (k : Int) ≤ 32 := h3
  have hr : LoopN.res L_hauberkref08_put_2 ((m : Int), f, (a : Int), (k : Int), 0) () = some (0, ((insN m (wn f) a k : Nat) : Int), (k : Int)) := put_run m f a k hm' (by omega)
  have hv : V_hauberkref08_put ((m : Int), f, (a : Int), (k : Int)) = ((insN m (wn f) a k : Nat) : Int) := by
    show ((insN (wn (m : Int)) (wn f) (Int.toNat (a : Int)) (Int.toNat (k : Int)) : Nat) : Int) = _
    rw [wn_nat hm', Int.toNat_natCast, Int.toNat_natCast]
  unfold T_hauberkref08_put PO.val
  rw [hr, hv]
  rfl
end Go.Av
end
/-! Layer 2: what is known of an instruction that there is. -/
section
namespace Go.Av
open Go
theorem bad2 (A : Bool) (x : Option Int) : (bif A then some 2 else x).getD 0 = 0 ↔ A = false ∧ x.getD 0 = 0 := by cases A <;> simp
theorem bad6 (A : Bool) (x : Option Int) : (bif A then some 6 else x).getD 0 = 0 ↔ A = false ∧ x.getD 0 = 0 := by cases A <;> simp

set_option maxHeartbeats 1000000 in
/-- What is known of an instruction that there is. -/
theorem check_bounds {op rd rn rm ra imm cond : Int} {w : Bool} (h : V_thumb_Check (op, rd, rn, rm, ra, imm, cond, w, ()) = 0) :
    (1 ≤ op ∧ op ≤ 25) ∧ (0 ≤ rd ∧ rd ≤ 12) ∧ (0 ≤ rn ∧ rn ≤ 12) ∧ (0 ≤ rm ∧ rm ≤ 12) ∧ (op = 17 → 0 ≤ ra ∧ ra ≤ 12 ∧ ra ≠ rd) ∧ (op ≠ 24 → op ≠ 25 → 0 ≤ imm ∧ imm ≤ 65535 ∧ w = false ∧ cond = 0) ∧ (5 ≤ op → op ≤ 23 → imm ≤ 31) ∧ (op = 18 → 1 ≤ ra ∧ ra ≤ 32 - imm) ∧ (6 ≤ op → op ≤ 8 → 1 ≤ imm) := by
  have hw := left_same imm
  rcases op_cases op with rfl | rfl | rfl | rfl | rfl | rfl | rfl | rfl | rfl | rfl | rfl | rfl | rfl | rfl | rfl | rfl | rfl | rfl | rfl | rfl | rfl | rfl | rfl | rfl | rfl | hop
  case inr.inr.inr.inr.inr.inr.inr.inr.inr.inr.inr.inr.inr.inr.inr.inr.inr.inr.inr.inr.inr.inr.inr.inr.inr =>
    exfalso
    have e := fun k hk => op_none (n := op) (k := k) hop hk
    simp [V_thumb_Check, T_thumb_Check, V_thumb_formOf, T_thumb_formOf, PO.getO, PO.val, e] at h
  all_goals
    simp [V_thumb_Check, T_thumb_Check, V_thumb_formOf, T_thumb_formOf, V_thumb_field, T_thumb_field, V_thumb_within, T_thumb_within, PO.getO, PO.val, V_thumb_branch, T_thumb_branch, V_thumb_Reach, T_thumb_Reach] at h ⊢
    simp only [bad2, bad6, Bool.or_eq_false_iff, Bool.not_eq_false', decide_eq_true_eq, bne_eq_false_iff_eq, beq_iff_eq] at h
    grind

theorem wrap_a : IntKind.i64.wrap (-1048576) = -1048576 := rfl
theorem wrap_b : IntKind.i64.wrap 1048574 = 1048574 := rfl
set_option maxHeartbeats 1000000 in
/-- More of what is known of an instruction that there is. -/
theorem check_more {op rd rn rm ra imm cond : Int} {w : Bool} (h : V_thumb_Check (op, rd, rn, rm, ra, imm, cond, w, ()) = 0) :
    (op = 2 → imm ≤ 255) ∧ (9 ≤ op → op ≤ 17 → imm = 0) := by
  have hw := left_same imm
  rcases op_cases op with rfl | rfl | rfl | rfl | rfl | rfl | rfl | rfl | rfl | rfl | rfl | rfl | rfl | rfl | rfl | rfl | rfl | rfl | rfl | rfl | rfl | rfl | rfl | rfl | rfl | hop
  case inr.inr.inr.inr.inr.inr.inr.inr.inr.inr.inr.inr.inr.inr.inr.inr.inr.inr.inr.inr.inr.inr.inr.inr.inr =>
    exfalso
    have e := fun k hk => op_none (n := op) (k := k) hop hk
    simp [V_thumb_Check, T_thumb_Check, V_thumb_formOf, T_thumb_formOf, PO.getO, PO.val, e] at h
  case inr.inr.inr.inr.inr.inr.inr.inr.inr.inr.inr.inr.inr.inr.inr.inr.inr.inr.inr.inr.inr.inr.inr.inl => omega
  case inr.inr.inr.inr.inr.inr.inr.inr.inr.inr.inr.inr.inr.inr.inr.inr.inr.inr.inr.inr.inr.inr.inr.inr.inl => omega
  all_goals
    simp [V_thumb_Check, T_thumb_Check, V_thumb_formOf, T_thumb_formOf, V_thumb_field, T_thumb_field, V_thumb_within, T_thumb_within, PO.getO, PO.val] at h ⊢
    try simp only [bad2, Bool.or_eq_false_iff, Bool.not_eq_false', decide_eq_true_eq, bne_eq_false_iff_eq, beq_iff_eq] at h
    try grind
theorem check_25 {rd rn rm ra imm cond : Int} (h : V_thumb_Check (25, rd, rn, rm, ra, imm, cond, true, ()) = 0) : -1048576 ≤ imm ∧ imm < 1048576 := by
  simp [V_thumb_Check, T_thumb_Check, V_thumb_within, T_thumb_within, PO.getO, PO.val, V_thumb_branch, T_thumb_branch, V_thumb_Reach, T_thumb_Reach, wrap_a, wrap_b] at h
  simp only [bad2, bad6, Bool.or_eq_false_iff, Bool.not_eq_false', decide_eq_true_eq, bne_eq_false_iff_eq] at h
  grind
end Go.Av
end
