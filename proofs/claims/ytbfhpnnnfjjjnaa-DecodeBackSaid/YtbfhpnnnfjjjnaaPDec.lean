/- Layer 3: bytes as instructions: what the functions compute. -/
import Derived.Test.YtbfhpnnnfjjjnaaPEncEq
namespace Go.Av
open Go
/-- A text's n-th 16 bits. -/
def halfN (s : List UInt8) (k : Nat) : Nat := (s.getD (2 * k) 0).toNat + 256 * (s.getD (2 * k + 1) 0).toNat
theorem halfN_lt (s : List UInt8) (k : Nat) : halfN s k < 65536 := by
  unfold halfN
  have h1 := (s.getD (2 * k) 0).toNat_lt
  have h2 := (s.getD (2 * k + 1) 0).toNat_lt
  omega
theorem ishl_small (b k : Nat) (hk : k ≤ 62) (h : b * 2 ^ k < 4611686018427387904) : ishl .i64 (b : Int) (k : Int) = ((b * 2 ^ k : Nat) : Int) := by
  rw [ishl_nat _ _ (by omega), show (b : Int) * 2 ^ k = ((b * 2 ^ k : Nat) : Int) by simp, w64_id (by omega) (by omega)]
theorem bor_shl (a b k : Nat) (hk : k ≤ 62) (ha : a < 2 ^ k) (h : b * 2 ^ k < 4611686018427387904) : bor .i64 (a : Int) (ishl .i64 (b : Int) (k : Int)) = ((b * 2 ^ k + a : Nat) : Int) := by
  have hp : 2 ^ k ≤ 2 ^ 62 := pow_lt hk
  rw [ishl_small b k hk h, bor_nat (by omega) (by omega), Nat.or_comm, Nat.mul_comm b, Nat.two_pow_add_eq_or_of_lt ha]
/-- decode.some -/
abbrev A_decode_some : List Ty := [(.int .i64), (.int .i64), (.int .i64)]
abbrev S_decode_some : Sh := Sh.ty (Ty.int IntKind.i64)
def T_decode_some (x : dens A_decode_some) : PO (Sh.den S_decode_some) :=
  (.ite (!decide (x.2.1 < 0) && !decide (x.2.2 < 0))
   (.ret (band IntKind.i64 (ishr IntKind.i64 x.1 x.2.1) (w64 (ishl IntKind.i64 1 x.2.2 - 1))))
   .fail)
def G_decode_some (x : dens A_decode_some) : Bool := decide (0 ≤ x.2.1) && (decide (x.2.1 ≤ 16) && (decide (0 ≤ x.2.2) && decide (x.2.2 ≤ 24)))
def V_decode_some (x : dens A_decode_some) : Sh.den S_decode_some := x.1 / (2 ^ x.2.1.toNat : Nat) % (2 ^ x.2.2.toNat : Nat)
theorem some_val (n at_ many : Int) (h1 : 0 ≤ at_) (h2 : at_ ≤ 16) (h3 : 0 ≤ many) (h4 : many ≤ 24) : band IntKind.i64 (ishr IntKind.i64 n at_) (w64 (ishl IntKind.i64 1 many - 1)) = n / (2 ^ at_.toNat : Nat) % (2 ^ many.toNat : Nat) := by
  obtain ⟨a, rfl⟩ := Int.eq_ofNat_of_zero_le h1
  obtain ⟨m, rfl⟩ := Int.eq_ofNat_of_zero_le h3
  have hp : 2 ^ m ≤ 2 ^ 24 := pow_lt (by omega)
  have hp0 := Nat.two_pow_pos m
  have e := ishl_small 1 m (by omega) (by omega)
  rw [ishr_i64 n a (by omega), show ishl IntKind.i64 1 (m : Int) = _ from e, w64_id (by omega) (by omega), Nat.one_mul, band_low _ m (by omega), Int.toNat_natCast, Int.toNat_natCast]
theorem some_T (n a m : Int) (h1 : 0 ≤ a) (h2 : a ≤ 16) (h3 : 0 ≤ m) (h4 : m ≤ 24) : (T_decode_some (n, a, m)).val = some (V_decode_some (n, a, m)) := by
  have e := some_val n a m h1 h2 h3 h4
  unfold T_decode_some PO.val
  dsimp only
  rw [dec_false (p := a < 0) (by omega), dec_false (p := m < 0) (by omega)]
  exact congrArg some e
theorem ok_decode_some (x : dens A_decode_some) (h : G_decode_some x = true) : (T_decode_some x).val = some (V_decode_some x) := by
  simp only [G_decode_some, Bool.and_eq_true, decide_eq_true_eq] at h
  exact some_T x.1 x.2.1 x.2.2 h.1 h.2.1 h.2.2.1 h.2.2.2
/-- decode.half -/
abbrev A_decode_half : List Ty := [.str, (.int .i64)]
abbrev S_decode_half : Sh := Sh.ty (Ty.int IntKind.i64)
def T_decode_half (x : dens A_decode_half) : PO (Sh.den S_decode_half) :=
  (.ite (inRange (w64 (2 * x.2)) (List.length x.1) && inRange (w64 (w64 (2 * x.2) + 1)) (List.length x.1))
   (.ret (bor IntKind.i64 (w64 (u8I (List.getD x.1 (Int.toNat (w64 (2 * x.2))) 0))) (ishl IntKind.i64 (w64 (u8I (List.getD x.1 (Int.toNat (w64 (w64 (2 * x.2) + 1))) 0))) 8)))
   .fail)
def G_decode_half (x : dens A_decode_half) : Bool := (x.2 == 0 && decide (2 ≤ lenI x.1)) || (x.2 == 1 && decide (4 ≤ lenI x.1))
def V_decode_half (x : dens A_decode_half) : Sh.den S_decode_half := (halfN x.1 x.2.toNat : Int)
theorem half_val (s : List UInt8) (k : Nat) (hk : k ≤ 1) (h : 2 * k + 2 ≤ s.length) : (T_decode_half (s, (k : Int))).val = some (halfN s k : Int) := by
  have e1 : w64 (2 * (k : Int)) = ((2 * k : Nat) : Int) := by rw [w64_id (by omega) (by omega)]; omega
  have e2 : w64 (((2 * k : Nat) : Int) + 1) = ((2 * k + 1 : Nat) : Int) := by rw [w64_id (by omega) (by omega)]; omega
  have l1 := (s.getD (2 * k) 0).toNat_lt
  have l2 := (s.getD (2 * k + 1) 0).toNat_lt
  unfold T_decode_half PO.val
  dsimp only
  rw [e1, e2, inR (show 2 * k < s.length by omega), inR (show 2 * k + 1 < s.length by omega), getD_nat, getD_nat]
  unfold halfN u8I
  generalize (s.getD (2 * k) 0).toNat = a at *
  generalize (s.getD (2 * k + 1) 0).toNat = b at *
  rw [w64_nat (by omega), w64_nat (by omega)]
  have := bor_shl a b 8 (by omega) (by omega) (by omega)
  dsimp only [Bool.and_self, cond_true, PO.val]
  rw [show bor IntKind.i64 (a : Int) (ishl IntKind.i64 (b : Int) 8) = ((b * 2 ^ 8 + a : Nat) : Int) from this]
  exact congrArg some (congrArg Nat.cast (by omega : b * 2 ^ 8 + a = a + 256 * b))
theorem ok_decode_half (x : dens A_decode_half) (h : G_decode_half x = true) : (T_decode_half x).val = some (V_decode_half x) := by
  obtain ⟨s, n⟩ := x
  simp only [G_decode_half, Bool.or_eq_true, Bool.and_eq_true, beq_iff_eq, decide_eq_true_eq] at h
  rcases h with ⟨h, hl⟩ | ⟨h, hl⟩
  · subst h
    exact half_val s 0 (by omega) (by simp only [lenI] at hl; omega)
  · subst h
    exact half_val s 1 (by omega) (by simp only [lenI] at hl; omega)
/-- decode.signed -/
abbrev A_decode_signed : List Ty := [(.int .i64), (.int .i64)]
abbrev S_decode_signed : Sh := Sh.ty (Ty.int IntKind.i64)
def T_decode_signed (x : dens A_decode_signed) : PO (Sh.den S_decode_signed) :=
  (.ite (!decide (w64 (x.2 - 1) < 0))
   (.ite (ishr IntKind.i64 x.1 (w64 (x.2 - 1)) == 1)
    (.ite (!decide (x.2 < 0))
     (.ret (w64 (x.1 - ishl IntKind.i64 1 x.2)))
     .fail)
    (.ret (x.1)))
   .fail)
def G_decode_signed (x : dens A_decode_signed) : Bool := decide (1 ≤ x.2) && (decide (x.2 ≤ 24) && (decide (0 ≤ x.1) && decide (x.1 < 33554432)))
def V_decode_signed (x : dens A_decode_signed) : Sh.den S_decode_signed := bif x.1 / (2 ^ (x.2 - 1).toNat : Nat) == 1 then x.1 - (2 ^ x.2.toNat : Nat) else x.1
theorem signed_T (n : Int) (k : Nat) (hk : k ≤ 23) (h3 : 0 ≤ n) (h4 : n < 33554432) : (T_decode_signed (n, ((k + 1 : Nat) : Int))).val = some (V_decode_signed (n, ((k + 1 : Nat) : Int))) := by
  have hp : 2 ^ (k + 1) ≤ 2 ^ 24 := pow_lt (by omega)
  have e1 : w64 (((k + 1 : Nat) : Int) - 1) = (k : Int) := by rw [w64_id (by omega) (by omega)]; omega
  have e2 := ishr_i64 n k (by omega)
  have e3 := ishl_small 1 (k + 1) (by omega) (by omega)
  have e4 : (((k + 1 : Nat) : Int) - 1).toNat = k := by omega
  unfold T_decode_signed V_decode_signed PO.val
  dsimp only
  rw [e1, e2, e4, show ishl IntKind.i64 1 ((k + 1 : Nat) : Int) = _ from e3, dec_false (p := (k : Int) < 0) (by omega), dec_false (p := ((k + 1 : Nat) : Int) < 0) (by omega), Nat.one_mul, Int.toNat_natCast]
  rw [w64_id (n := n - ((2 ^ (k + 1) : Nat) : Int)) (by omega) (by omega)]
  cases n / ((2 ^ k : Nat) : Int) == 1 <;> rfl
theorem signed_ok (n m : Int) (h1 : 1 ≤ m) (h2 : m ≤ 24) (h3 : 0 ≤ n) (h4 : n < 33554432) : (T_decode_signed (n, m)).val = some (V_decode_signed (n, m)) := by
  obtain ⟨k, rfl⟩ : ∃ k : Nat, m = ((k + 1 : Nat) : Int) := ⟨(m - 1).toNat, by omega⟩
  exact signed_T n k (by omega) h3 h4
theorem ok_decode_signed (x : dens A_decode_signed) (h : G_decode_signed x = true) : (T_decode_signed x).val = some (V_decode_signed x) := by
  simp only [G_decode_signed, Bool.and_eq_true, decide_eq_true_eq] at h
  exact signed_ok x.1 x.2 h.1 h.2.1 h.2.2.1 h.2.2.2
def L_decode_regs_2 : LoopN where
  M := [2, 5, 6, 7]
  T := [4, 8, 9, 10, 11, 12, 13]
  D := [5, 6, 7]
  ss := [.ty .bool, .ty (.sl (.int .i64)), .ty (.int .i64), .ty (.int .i64)]
  hs := []
  es := [.exit 0, .ret]
  σ := (Ty.den .bool) × (Ty.den (.int .i64))
  x0 := fun x _ => (x.1, x.2.2.2)
  put := fun x _ s => ((s.1, x.2.1, x.2.2.1, s.2), ())
  fuel := fun x _ => List.length x.2.1 + 1
  turn := fun x _ s =>
  (.ite (decide (s.2 < x.2.2.1))
   (.ite (inRange s.2 (List.length x.2.1))
    (.ite (decide (List.getD x.2.1 (Int.toNat s.2) (Ty.dflt (Ty.int IntKind.i64)) > 12))
     (.ret (.out 1 (false, s.2)))
     (.ret (.on (s.1, w64 (s.2 + 1)))))
    .fail)
   (.ret (.out 0 (s.1, s.2))))
theorem regs_run (r : List Int) (hr : r.length < 100) (ok : Bool) : ∀ (k i : Nat), i + k = r.length → ∀ f, k < f →
    ∃ o st, runL (L_decode_regs_2.turn (false, r, ((r.length : Nat) : Int), 0) ()) f (ok, (i : Int)) = some (o, st) ∧ (PO.ite (way o) (.ret true) (.ret st.1)).val = some ((r.drop i).all fun x => decide (x ≤ 12))
  | 0, i, h, f, hf => by
    obtain ⟨f, rfl⟩ : ∃ g, f = g + 1 := ⟨f - 1, by omega⟩
    refine ⟨0, (ok, (i : Int)), runL_out ?_, by rw [List.drop_of_length_le (by omega)]; rfl⟩
    dsimp only [L_decode_regs_2, PO.val]
    rw [dec_false (p := (i : Int) < ((r.length : Nat) : Int)) (by omega)]
    rfl
  | k + 1, i, h, f, hf => by
    obtain ⟨f, rfl⟩ : ∃ g, f = g + 1 := ⟨f - 1, by omega⟩
    have hi : i < r.length := by omega
    have hw : w64 ((i : Int) + 1) = ((i + 1 : Nat) : Int) := by rw [w64_id (by omega) (by omega)]; omega
    rw [List.drop_eq_getElem_cons hi, List.all_cons]
    by_cases hb : r[i] ≤ 12
    · have e : (L_decode_regs_2.turn (false, r, ((r.length : Nat) : Int), 0) () (ok, (i : Int))).val = some (.on (ok, ((i + 1 : Nat) : Int))) := by
        dsimp only [L_decode_regs_2, PO.val]
        rw [dec_true (p := (i : Int) < ((r.length : Nat) : Int)) (by omega), inR hi, getD_nat, getD_in r _ hi, dec_false (p := r[i] > 12) (by omega), hw]
        rfl
      obtain ⟨o, st, g1, g2⟩ := regs_run r hr ok k (i + 1) (by omega) f (by omega)
      exact ⟨o, st, (runL_on e).trans g1, by rw [dec_true hb, Bool.true_and]; exact g2⟩
    · have e : (L_decode_regs_2.turn (false, r, ((r.length : Nat) : Int), 0) () (ok, (i : Int))).val = some (.out 1 (false, (i : Int))) := by
        dsimp only [L_decode_regs_2, PO.val]
        rw [dec_true (p := (i : Int) < ((r.length : Nat) : Int)) (by omega), inR hi, getD_nat, getD_in r _ hi, dec_true (p := r[i] > 12) (by omega)]
        rfl
      exact ⟨1, _, runL_out e, by rw [dec_false hb]; rfl⟩
/-- decode.regs -/
abbrev A_decode_regs : List Ty := [(.sl (.int .i64))]
abbrev S_decode_regs : Sh := Sh.ty Ty.bool
def T_decode_regs (x : dens A_decode_regs) : PO (Sh.den S_decode_regs) :=
  (.opt (LoopN.res L_decode_regs_2 (false, x, lenI x, 0) ()) fun p0 =>
   (.ite (way p0.1)
    (.ret (true))
    (.ret (p0.2.1))))
def G_decode_regs (x : dens A_decode_regs) : Bool := Nat.blt (List.length x) 100
def V_decode_regs (x : dens A_decode_regs) : Sh.den S_decode_regs := List.all x fun r => decide ((r : Int) ≤ 12)
theorem ok_decode_regs (x : dens A_decode_regs) (h : G_decode_regs x = true) : (T_decode_regs x).val = some (V_decode_regs x) := by
  have hl : List.length x < 100 := Nat.blt_eq ▸ h
  obtain ⟨o, st, h1, h2⟩ := regs_run x hl false (List.length x) 0 (by omega) (List.length x + 1) (by omega)
  have h1' : LoopN.res L_decode_regs_2 (false, x, lenI x, 0) () = some (o, st) := h1
  unfold T_decode_regs PO.val
  rw [h1']
  exact h2
/-- decode.Size -/
abbrev A_decode_Size : List Ty := [.str]
abbrev S_decode_Size : Sh := Sh.ty (Ty.int IntKind.i64)
def T_decode_Size (x : dens A_decode_Size) : PO (Sh.den S_decode_Size) :=
  (.ite (decide (lenI x < 2))
   (.ret (0))
   (.ite (G_decode_half (x, 0))
    (.ite (decide (ishr IntKind.i64 (V_decode_half (x, 0)) 11 ≥ 29))
     (.ret (4))
     (.ret (2)))
    .fail))
def G_decode_Size (_ : dens A_decode_Size) : Bool := true
def V_decode_Size (x : dens A_decode_Size) : Sh.den S_decode_Size := bif decide (lenI x < 2) then 0 else bif Nat.ble 59392 (halfN x 0) then 4 else 2
theorem ok_decode_Size (x : dens A_decode_Size) (_ : G_decode_Size x = true) : (T_decode_Size x).val = some (V_decode_Size x) := by
  unfold T_decode_Size V_decode_Size PO.val
  cases hl : decide (lenI x < 2)
  · have hl := of_decide_eq_false hl
    have g : G_decode_half (x, 0) = true := by
      simp only [G_decode_half, Bool.or_eq_true, Bool.and_eq_true, beq_iff_eq, decide_eq_true_eq]
      exact .inl ⟨trivial, by omega⟩
    have e : ishr IntKind.i64 (V_decode_half (x, 0)) 11 = ((halfN x 0 : Nat) : Int) / (2 ^ 11 : Nat) := ishr_i64 _ 11 (by omega)
    dsimp only [cond_false, PO.val]
    rw [g, e]
    dsimp only [cond_true, PO.val]
    cases hb : Nat.ble 59392 (halfN x 0)
    · have hb : ¬ 59392 ≤ halfN x 0 := by rw [← Nat.ble_eq, hb]; simp
      rw [dec_false (by omega)]
      rfl
    · have hb := Nat.le_of_ble_eq_true hb
      rw [dec_true (by omega)]
      rfl
  · rfl
/-- decode.narrow -/
abbrev A_decode_narrow : List Ty := [(.int .i64)]
abbrev S_decode_narrow : Sh := Sh.tup (Sh.pair (Sh.ty tIns) (Sh.pair (Sh.ty Ty.bool) (Sh.ty Ty.unit)))
def T_decode_narrow (x : dens A_decode_narrow) : PO (Sh.den S_decode_narrow) :=
  (.ite (G_decode_some (x, 0, 3) && G_decode_some (x, 3, 3))
   (.ite (x == 48896)
    (.ret (((1, 0, 0, 0, 0, 0, 0, false, ()), true, ())))
    (.ite (ishr IntKind.i64 x 8 == 190)
     (.ite (G_decode_some (x, 0, 8))
      (.ret (((2, 0, 0, 0, 0, V_decode_some (x, 0, 8), 0, false, ()), true, ())))
      .fail)
     (.ite (ishr IntKind.i64 x 6 == 416)
      (.ret (((19, V_decode_some (x, 0, 3), V_decode_some (x, 3, 3), 0, 0, 0, 0, false, ()), true, ())))
      (.ite (ishr IntKind.i64 x 6 == 384)
       (.ret (((20, V_decode_some (x, 0, 3), V_decode_some (x, 3, 3), 0, 0, 0, 0, false, ()), true, ())))
       (.ite (ishr IntKind.i64 x 6 == 480)
        (.ret (((21, V_decode_some (x, 0, 3), V_decode_some (x, 3, 3), 0, 0, 0, 0, false, ()), true, ())))
        (.ite (ishr IntKind.i64 x 6 == 448)
         (.ret (((22, V_decode_some (x, 0, 3), V_decode_some (x, 3, 3), 0, 0, 0, 0, false, ()), true, ())))
         (.ite (ishr IntKind.i64 x 6 == 266)
          (.ret (((23, 0, V_decode_some (x, 0, 3), V_decode_some (x, 3, 3), 0, 0, 0, false, ()), true, ())))
          (.ite (ishr IntKind.i64 x 11 == 28)
           (.ite (G_decode_some (x, 0, 11))
            (.ite (G_decode_signed (V_decode_some (x, 0, 11), 11))
             (.ret (((24, 0, 0, 0, 0, w64 (2 * V_decode_signed (V_decode_some (x, 0, 11), 11)), 0, false, ()), true, ())))
             .fail)
            .fail)
           (.ite (bif ishr IntKind.i64 x 12 == 13 then G_decode_some (x, 8, 4) else true)
            (.ite (ishr IntKind.i64 x 12 == 13 && decide (V_decode_some (x, 8, 4) ≤ 13))
             (.ite (G_decode_some (x, 8, 4))
              (.ite (G_decode_some (x, 0, 8))
               (.ite (G_decode_signed (V_decode_some (x, 0, 8), 8))
                (.ret (((25, 0, 0, 0, 0, w64 (2 * V_decode_signed (V_decode_some (x, 0, 8), 8)), V_decode_some (x, 8, 4), false, ()), true, ())))
                .fail)
               .fail)
              .fail)
             (.ret (((0, 0, 0, 0, 0, 0, 0, false, ()), false, ()))))
            .fail)))))))))
   .fail)
def G_decode_narrow (x : dens A_decode_narrow) : Bool := (T_decode_narrow x).val.isSome
def V_decode_narrow (x : dens A_decode_narrow) : Sh.den S_decode_narrow := (T_decode_narrow x).getO default
theorem ok_decode_narrow (x : dens A_decode_narrow) (h : G_decode_narrow x = true) : (T_decode_narrow x).val = some (V_decode_narrow x) := PO.getO_ok default h
/-- decode.three -/
abbrev A_decode_three : List Ty := [(.int .i64), (.int .i64)]
abbrev S_decode_three : Sh := Sh.tup (Sh.pair (Sh.ty tIns) (Sh.pair (Sh.ty Ty.bool) (Sh.ty Ty.unit)))
def T_decode_three (x : dens A_decode_three) : PO (Sh.den S_decode_three) :=
  (.ite (G_decode_some (x.2, 8, 4))
   (.ite (G_decode_some (x.1, 0, 4))
    (.ite (G_decode_some (x.2, 0, 4))
     (.ite (G_decode_some (x.2, 12, 3) && G_decode_some (x.2, 6, 2))
      (.ite (G_decode_some (x.2, 4, 2))
       (.ite (ishr IntKind.i64 x.2 15 == 1)
        (.ret (((0, 0, 0, 0, 0, 0, 0, false, ()), false, ())))
        (.ite (x.1 == 59983)
         (.ite (G_decode_regs [V_decode_some (x.2, 8, 4), V_decode_some (x.2, 0, 4)])
          (.ite (V_decode_regs [V_decode_some (x.2, 8, 4), V_decode_some (x.2, 0, 4)])
           (.ite (V_decode_some (x.2, 4, 2) == 0)
            (.ret (((w64 (5 + V_decode_some (x.2, 4, 2)), V_decode_some (x.2, 8, 4), 0, V_decode_some (x.2, 0, 4), 0, bor IntKind.i64 (ishl IntKind.i64 (V_decode_some (x.2, 12, 3)) 2) (V_decode_some (x.2, 6, 2)), 0, false, ()), true, ())))
            (.ret (((w64 (5 + V_decode_some (x.2, 4, 2)), V_decode_some (x.2, 8, 4), 0, V_decode_some (x.2, 0, 4), 0, bor IntKind.i64 (ishl IntKind.i64 (V_decode_some (x.2, 12, 3)) 2) (V_decode_some (x.2, 6, 2)), 0, false, ()), decide (bor IntKind.i64 (ishl IntKind.i64 (V_decode_some (x.2, 12, 3)) 2) (V_decode_some (x.2, 6, 2)) > 0), ()))))
           (.ret (((w64 (5 + V_decode_some (x.2, 4, 2)), V_decode_some (x.2, 8, 4), 0, V_decode_some (x.2, 0, 4), 0, bor IntKind.i64 (ishl IntKind.i64 (V_decode_some (x.2, 12, 3)) 2) (V_decode_some (x.2, 6, 2)), 0, false, ()), false, ()))))
          .fail)
         (.ite (x.1 == 60015)
          (.ite (G_decode_regs [V_decode_some (x.2, 8, 4), V_decode_some (x.2, 0, 4)])
           (.ite (V_decode_regs [V_decode_some (x.2, 8, 4), V_decode_some (x.2, 0, 4)])
            (.ite (V_decode_some (x.2, 4, 2) == 0)
             (.ret (((9, V_decode_some (x.2, 8, 4), 0, V_decode_some (x.2, 0, 4), 0, 0, 0, false, ()), bor IntKind.i64 (ishl IntKind.i64 (V_decode_some (x.2, 12, 3)) 2) (V_decode_some (x.2, 6, 2)) == 0, ())))
             (.ret (((9, V_decode_some (x.2, 8, 4), 0, V_decode_some (x.2, 0, 4), 0, 0, 0, false, ()), false, ()))))
            (.ret (((9, V_decode_some (x.2, 8, 4), 0, V_decode_some (x.2, 0, 4), 0, 0, 0, false, ()), false, ()))))
           .fail)
          (.ite (bnot IntKind.i64 x.1 15 == 59904)
           (.ite (G_decode_regs [V_decode_some (x.2, 8, 4), V_decode_some (x.1, 0, 4), V_decode_some (x.2, 0, 4)])
            (.ite (V_decode_regs [V_decode_some (x.2, 8, 4), V_decode_some (x.1, 0, 4), V_decode_some (x.2, 0, 4)])
             (.ite (V_decode_some (x.2, 4, 2) == 0)
              (.ret (((10, V_decode_some (x.2, 8, 4), V_decode_some (x.1, 0, 4), V_decode_some (x.2, 0, 4), 0, 0, 0, false, ()), bor IntKind.i64 (ishl IntKind.i64 (V_decode_some (x.2, 12, 3)) 2) (V_decode_some (x.2, 6, 2)) == 0, ())))
              (.ret (((10, V_decode_some (x.2, 8, 4), V_decode_some (x.1, 0, 4), V_decode_some (x.2, 0, 4), 0, 0, 0, false, ()), false, ()))))
             (.ret (((10, V_decode_some (x.2, 8, 4), V_decode_some (x.1, 0, 4), V_decode_some (x.2, 0, 4), 0, 0, 0, false, ()), false, ()))))
            .fail)
           (.ite (bnot IntKind.i64 x.1 15 == 59936)
            (.ite (G_decode_regs [V_decode_some (x.2, 8, 4), V_decode_some (x.1, 0, 4), V_decode_some (x.2, 0, 4)])
             (.ite (V_decode_regs [V_decode_some (x.2, 8, 4), V_decode_some (x.1, 0, 4), V_decode_some (x.2, 0, 4)])
              (.ite (V_decode_some (x.2, 4, 2) == 0)
               (.ret (((11, V_decode_some (x.2, 8, 4), V_decode_some (x.1, 0, 4), V_decode_some (x.2, 0, 4), 0, 0, 0, false, ()), bor IntKind.i64 (ishl IntKind.i64 (V_decode_some (x.2, 12, 3)) 2) (V_decode_some (x.2, 6, 2)) == 0, ())))
               (.ret (((11, V_decode_some (x.2, 8, 4), V_decode_some (x.1, 0, 4), V_decode_some (x.2, 0, 4), 0, 0, 0, false, ()), false, ()))))
              (.ret (((11, V_decode_some (x.2, 8, 4), V_decode_some (x.1, 0, 4), V_decode_some (x.2, 0, 4), 0, 0, 0, false, ()), false, ()))))
             .fail)
            (.ite (bnot IntKind.i64 x.1 15 == 59968)
             (.ite (G_decode_regs [V_decode_some (x.2, 8, 4), V_decode_some (x.1, 0, 4), V_decode_some (x.2, 0, 4)])
              (.ite (V_decode_regs [V_decode_some (x.2, 8, 4), V_decode_some (x.1, 0, 4), V_decode_some (x.2, 0, 4)])
               (.ite (V_decode_some (x.2, 4, 2) == 0)
                (.ret (((12, V_decode_some (x.2, 8, 4), V_decode_some (x.1, 0, 4), V_decode_some (x.2, 0, 4), 0, 0, 0, false, ()), bor IntKind.i64 (ishl IntKind.i64 (V_decode_some (x.2, 12, 3)) 2) (V_decode_some (x.2, 6, 2)) == 0, ())))
                (.ret (((12, V_decode_some (x.2, 8, 4), V_decode_some (x.1, 0, 4), V_decode_some (x.2, 0, 4), 0, 0, 0, false, ()), false, ()))))
               (.ret (((12, V_decode_some (x.2, 8, 4), V_decode_some (x.1, 0, 4), V_decode_some (x.2, 0, 4), 0, 0, 0, false, ()), false, ()))))
              .fail)
             (.ite (bnot IntKind.i64 x.1 15 == 60032)
              (.ite (G_decode_regs [V_decode_some (x.2, 8, 4), V_decode_some (x.1, 0, 4), V_decode_some (x.2, 0, 4)])
               (.ite (V_decode_regs [V_decode_some (x.2, 8, 4), V_decode_some (x.1, 0, 4), V_decode_some (x.2, 0, 4)])
                (.ite (V_decode_some (x.2, 4, 2) == 0)
                 (.ret (((13, V_decode_some (x.2, 8, 4), V_decode_some (x.1, 0, 4), V_decode_some (x.2, 0, 4), 0, 0, 0, false, ()), bor IntKind.i64 (ishl IntKind.i64 (V_decode_some (x.2, 12, 3)) 2) (V_decode_some (x.2, 6, 2)) == 0, ())))
                 (.ret (((13, V_decode_some (x.2, 8, 4), V_decode_some (x.1, 0, 4), V_decode_some (x.2, 0, 4), 0, 0, 0, false, ()), false, ()))))
                (.ret (((13, V_decode_some (x.2, 8, 4), V_decode_some (x.1, 0, 4), V_decode_some (x.2, 0, 4), 0, 0, 0, false, ()), false, ()))))
               .fail)
              (.ite (bnot IntKind.i64 x.1 15 == 60160)
               (.ite (G_decode_regs [V_decode_some (x.2, 8, 4), V_decode_some (x.1, 0, 4), V_decode_some (x.2, 0, 4)])
                (.ite (V_decode_regs [V_decode_some (x.2, 8, 4), V_decode_some (x.1, 0, 4), V_decode_some (x.2, 0, 4)])
                 (.ite (V_decode_some (x.2, 4, 2) == 0)
                  (.ret (((14, V_decode_some (x.2, 8, 4), V_decode_some (x.1, 0, 4), V_decode_some (x.2, 0, 4), 0, 0, 0, false, ()), bor IntKind.i64 (ishl IntKind.i64 (V_decode_some (x.2, 12, 3)) 2) (V_decode_some (x.2, 6, 2)) == 0, ())))
                  (.ret (((14, V_decode_some (x.2, 8, 4), V_decode_some (x.1, 0, 4), V_decode_some (x.2, 0, 4), 0, 0, 0, false, ()), false, ()))))
                 (.ret (((14, V_decode_some (x.2, 8, 4), V_decode_some (x.1, 0, 4), V_decode_some (x.2, 0, 4), 0, 0, 0, false, ()), false, ()))))
                .fail)
               (.ite (bnot IntKind.i64 x.1 15 == 60320)
                (.ite (G_decode_regs [V_decode_some (x.2, 8, 4), V_decode_some (x.1, 0, 4), V_decode_some (x.2, 0, 4)])
                 (.ite (V_decode_regs [V_decode_some (x.2, 8, 4), V_decode_some (x.1, 0, 4), V_decode_some (x.2, 0, 4)])
                  (.ite (V_decode_some (x.2, 4, 2) == 0)
                   (.ret (((15, V_decode_some (x.2, 8, 4), V_decode_some (x.1, 0, 4), V_decode_some (x.2, 0, 4), 0, 0, 0, false, ()), bor IntKind.i64 (ishl IntKind.i64 (V_decode_some (x.2, 12, 3)) 2) (V_decode_some (x.2, 6, 2)) == 0, ())))
                   (.ret (((15, V_decode_some (x.2, 8, 4), V_decode_some (x.1, 0, 4), V_decode_some (x.2, 0, 4), 0, 0, 0, false, ()), false, ()))))
                  (.ret (((15, V_decode_some (x.2, 8, 4), V_decode_some (x.1, 0, 4), V_decode_some (x.2, 0, 4), 0, 0, 0, false, ()), false, ()))))
                 .fail)
                (.ret (((0, 0, 0, 0, 0, 0, 0, false, ()), false, ()))))))))))))
       .fail)
      .fail)
     .fail)
    .fail)
   .fail)
def G_decode_three (x : dens A_decode_three) : Bool := (T_decode_three x).val.isSome
def V_decode_three (x : dens A_decode_three) : Sh.den S_decode_three := (T_decode_three x).getO default
theorem ok_decode_three (x : dens A_decode_three) (h : G_decode_three x = true) : (T_decode_three x).val = some (V_decode_three x) := PO.getO_ok default h
/-- decode.product -/
abbrev A_decode_product : List Ty := [(.int .i64), (.int .i64)]
abbrev S_decode_product : Sh := Sh.tup (Sh.pair (Sh.ty tIns) (Sh.pair (Sh.ty Ty.bool) (Sh.ty Ty.unit)))
def T_decode_product (x : dens A_decode_product) : PO (Sh.den S_decode_product) :=
  (.ite (G_decode_some (x.1, 0, 4))
   (.ite (G_decode_some (x.2, 0, 4))
    (.ite (G_decode_some (x.2, 12, 4) && G_decode_some (x.2, 8, 4))
     (.ite (G_decode_some (x.2, 4, 4))
      (.ite (V_decode_some (x.2, 4, 4) != 0)
       (.ret (((0, 0, 0, 0, 0, 0, 0, false, ()), false, ())))
       (.ite (bnot IntKind.i64 x.1 15 == 64256)
        (.ite (V_decode_some (x.2, 12, 4) == 15)
         (.ite (G_decode_regs [V_decode_some (x.2, 8, 4), V_decode_some (x.1, 0, 4), V_decode_some (x.2, 0, 4)])
          (.ret (((16, V_decode_some (x.2, 8, 4), V_decode_some (x.1, 0, 4), V_decode_some (x.2, 0, 4), 0, 0, 0, false, ()), V_decode_regs [V_decode_some (x.2, 8, 4), V_decode_some (x.1, 0, 4), V_decode_some (x.2, 0, 4)], ())))
          .fail)
         (.ret (((16, V_decode_some (x.2, 8, 4), V_decode_some (x.1, 0, 4), V_decode_some (x.2, 0, 4), 0, 0, 0, false, ()), false, ()))))
        (.ite (bnot IntKind.i64 x.1 15 == 64416)
         (.ite (V_decode_some (x.2, 12, 4) != V_decode_some (x.2, 8, 4))
          (.ite (G_decode_regs [V_decode_some (x.2, 12, 4), V_decode_some (x.2, 8, 4), V_decode_some (x.1, 0, 4), V_decode_some (x.2, 0, 4)])
           (.ret (((17, V_decode_some (x.2, 12, 4), V_decode_some (x.1, 0, 4), V_decode_some (x.2, 0, 4), V_decode_some (x.2, 8, 4), 0, 0, false, ()), V_decode_regs [V_decode_some (x.2, 12, 4), V_decode_some (x.2, 8, 4), V_decode_some (x.1, 0, 4), V_decode_some (x.2, 0, 4)], ())))
           .fail)
          (.ret (((17, V_decode_some (x.2, 12, 4), V_decode_some (x.1, 0, 4), V_decode_some (x.2, 0, 4), V_decode_some (x.2, 8, 4), 0, 0, false, ()), false, ()))))
         (.ret (((0, 0, 0, 0, 0, 0, 0, false, ()), false, ()))))))
      .fail)
     .fail)
    .fail)
   .fail)
def G_decode_product (x : dens A_decode_product) : Bool := (T_decode_product x).val.isSome
def V_decode_product (x : dens A_decode_product) : Sh.den S_decode_product := (T_decode_product x).getO default
theorem ok_decode_product (x : dens A_decode_product) (h : G_decode_product x = true) : (T_decode_product x).val = some (V_decode_product x) := PO.getO_ok default h
/-- decode.plain -/
abbrev A_decode_plain : List Ty := [(.int .i64), (.int .i64)]
abbrev S_decode_plain : Sh := Sh.tup (Sh.pair (Sh.ty tIns) (Sh.pair (Sh.ty Ty.bool) (Sh.ty Ty.unit)))
def T_decode_plain (x : dens A_decode_plain) : PO (Sh.den S_decode_plain) :=
  (.ite (G_decode_some (x.2, 8, 4))
   (.ite (ishr IntKind.i64 x.2 15 == 1)
    (.ret (((0, 0, 0, 0, 0, 0, 0, false, ()), false, ())))
    (.ite (bnot IntKind.i64 x.1 15 == 62304)
     (.ite (G_decode_some (x.1, 0, 4))
      (.ite (G_decode_some (x.2, 12, 3))
       (.ite (G_decode_some (x.2, 6, 2))
        (.ite (G_decode_some (x.2, 0, 5))
         (.ite (G_decode_some (x.2, 5, 1))
          (.ite (V_decode_some (x.2, 5, 1) == 0)
           (.ite (decide (w64 (w64 (V_decode_some (x.2, 0, 5) + 1) - bor IntKind.i64 (ishl IntKind.i64 (V_decode_some (x.2, 12, 3)) 2) (V_decode_some (x.2, 6, 2))) ≥ 1))
            (.ite (G_decode_regs [V_decode_some (x.2, 8, 4), V_decode_some (x.1, 0, 4)])
             (.ret (((18, V_decode_some (x.2, 8, 4), V_decode_some (x.1, 0, 4), 0, w64 (w64 (V_decode_some (x.2, 0, 5) + 1) - bor IntKind.i64 (ishl IntKind.i64 (V_decode_some (x.2, 12, 3)) 2) (V_decode_some (x.2, 6, 2))), bor IntKind.i64 (ishl IntKind.i64 (V_decode_some (x.2, 12, 3)) 2) (V_decode_some (x.2, 6, 2)), 0, false, ()), V_decode_regs [V_decode_some (x.2, 8, 4), V_decode_some (x.1, 0, 4)], ())))
             .fail)
            (.ret (((18, V_decode_some (x.2, 8, 4), V_decode_some (x.1, 0, 4), 0, w64 (w64 (V_decode_some (x.2, 0, 5) + 1) - bor IntKind.i64 (ishl IntKind.i64 (V_decode_some (x.2, 12, 3)) 2) (V_decode_some (x.2, 6, 2))), bor IntKind.i64 (ishl IntKind.i64 (V_decode_some (x.2, 12, 3)) 2) (V_decode_some (x.2, 6, 2)), 0, false, ()), false, ()))))
           (.ret (((18, V_decode_some (x.2, 8, 4), V_decode_some (x.1, 0, 4), 0, w64 (w64 (V_decode_some (x.2, 0, 5) + 1) - bor IntKind.i64 (ishl IntKind.i64 (V_decode_some (x.2, 12, 3)) 2) (V_decode_some (x.2, 6, 2))), bor IntKind.i64 (ishl IntKind.i64 (V_decode_some (x.2, 12, 3)) 2) (V_decode_some (x.2, 6, 2)), 0, false, ()), false, ()))))
          .fail)
         .fail)
        .fail)
       .fail)
      .fail)
     (.ite (bnot IntKind.i64 x.1 1039 == 62016)
      (.ite (G_decode_some (x.1, 0, 4))
       (.ite (G_decode_some (x.1, 10, 1))
        (.ite (G_decode_some (x.2, 12, 3))
         (.ite (G_decode_some (x.2, 0, 8))
          (.ite (G_decode_regs [V_decode_some (x.2, 8, 4)])
           (.ret (((3, V_decode_some (x.2, 8, 4), 0, 0, 0, bor IntKind.i64 (bor IntKind.i64 (bor IntKind.i64 (ishl IntKind.i64 (V_decode_some (x.1, 0, 4)) 12) (ishl IntKind.i64 (V_decode_some (x.1, 10, 1)) 11)) (ishl IntKind.i64 (V_decode_some (x.2, 12, 3)) 8)) (V_decode_some (x.2, 0, 8)), 0, false, ()), V_decode_regs [V_decode_some (x.2, 8, 4)], ())))
           .fail)
          .fail)
         .fail)
        .fail)
       .fail)
      (.ite (bnot IntKind.i64 x.1 1039 == 62144)
       (.ite (G_decode_some (x.1, 0, 4))
        (.ite (G_decode_some (x.1, 10, 1))
         (.ite (G_decode_some (x.2, 12, 3))
          (.ite (G_decode_some (x.2, 0, 8))
           (.ite (G_decode_regs [V_decode_some (x.2, 8, 4)])
            (.ret (((4, V_decode_some (x.2, 8, 4), 0, 0, 0, bor IntKind.i64 (bor IntKind.i64 (bor IntKind.i64 (ishl IntKind.i64 (V_decode_some (x.1, 0, 4)) 12) (ishl IntKind.i64 (V_decode_some (x.1, 10, 1)) 11)) (ishl IntKind.i64 (V_decode_some (x.2, 12, 3)) 8)) (V_decode_some (x.2, 0, 8)), 0, false, ()), V_decode_regs [V_decode_some (x.2, 8, 4)], ())))
            .fail)
           .fail)
          .fail)
         .fail)
        .fail)
       (.ret (((0, 0, 0, 0, 0, 0, 0, false, ()), false, ())))))))
   .fail)
def G_decode_plain (x : dens A_decode_plain) : Bool := (T_decode_plain x).val.isSome
def V_decode_plain (x : dens A_decode_plain) : Sh.den S_decode_plain := (T_decode_plain x).getO default
theorem ok_decode_plain (x : dens A_decode_plain) (h : G_decode_plain x = true) : (T_decode_plain x).val = some (V_decode_plain x) := PO.getO_ok default h
/-- decode.branch -/
abbrev A_decode_branch : List Ty := [(.int .i64), (.int .i64)]
abbrev S_decode_branch : Sh := Sh.tup (Sh.pair (Sh.ty tIns) (Sh.pair (Sh.ty Ty.bool) (Sh.ty Ty.unit)))
def T_decode_branch (x : dens A_decode_branch) : PO (Sh.den S_decode_branch) :=
  (.ite (G_decode_some (x.1, 10, 1) && (G_decode_some (x.2, 13, 1) && G_decode_some (x.2, 11, 1)))
   (.ite (G_decode_some (x.2, 0, 11))
    (.ite (ishr IntKind.i64 x.1 11 != 30 || ishr IntKind.i64 x.2 14 != 2)
     (.ret (((0, 0, 0, 0, 0, 0, 0, false, ()), false, ())))
     (.ite (G_decode_some (x.2, 12, 1))
      (.ite (V_decode_some (x.2, 12, 1) == 1)
       (.ite (G_decode_some (x.1, 0, 10))
        (.ite (G_decode_signed (bor IntKind.i64 (bor IntKind.i64 (bor IntKind.i64 (bor IntKind.i64 (ishl IntKind.i64 (V_decode_some (x.1, 10, 1)) 23) (ishl IntKind.i64 (bxor IntKind.i64 (bxor IntKind.i64 1 (V_decode_some (x.2, 13, 1))) (V_decode_some (x.1, 10, 1))) 22)) (ishl IntKind.i64 (bxor IntKind.i64 (bxor IntKind.i64 1 (V_decode_some (x.2, 11, 1))) (V_decode_some (x.1, 10, 1))) 21)) (ishl IntKind.i64 (V_decode_some (x.1, 0, 10)) 11)) (V_decode_some (x.2, 0, 11)), 24))
         (.ret (((24, 0, 0, 0, 0, w64 (2 * V_decode_signed (bor IntKind.i64 (bor IntKind.i64 (bor IntKind.i64 (bor IntKind.i64 (ishl IntKind.i64 (V_decode_some (x.1, 10, 1)) 23) (ishl IntKind.i64 (bxor IntKind.i64 (bxor IntKind.i64 1 (V_decode_some (x.2, 13, 1))) (V_decode_some (x.1, 10, 1))) 22)) (ishl IntKind.i64 (bxor IntKind.i64 (bxor IntKind.i64 1 (V_decode_some (x.2, 11, 1))) (V_decode_some (x.1, 10, 1))) 21)) (ishl IntKind.i64 (V_decode_some (x.1, 0, 10)) 11)) (V_decode_some (x.2, 0, 11)), 24)), 0, true, ()), true, ())))
         .fail)
        .fail)
       (.ite (G_decode_some (x.1, 6, 4))
        (.ite (G_decode_some (x.1, 0, 6))
         (.ite (G_decode_signed (bor IntKind.i64 (bor IntKind.i64 (bor IntKind.i64 (bor IntKind.i64 (ishl IntKind.i64 (V_decode_some (x.1, 10, 1)) 19) (ishl IntKind.i64 (V_decode_some (x.2, 11, 1)) 18)) (ishl IntKind.i64 (V_decode_some (x.2, 13, 1)) 17)) (ishl IntKind.i64 (V_decode_some (x.1, 0, 6)) 11)) (V_decode_some (x.2, 0, 11)), 20))
          (.ret (((25, 0, 0, 0, 0, w64 (2 * V_decode_signed (bor IntKind.i64 (bor IntKind.i64 (bor IntKind.i64 (bor IntKind.i64 (ishl IntKind.i64 (V_decode_some (x.1, 10, 1)) 19) (ishl IntKind.i64 (V_decode_some (x.2, 11, 1)) 18)) (ishl IntKind.i64 (V_decode_some (x.2, 13, 1)) 17)) (ishl IntKind.i64 (V_decode_some (x.1, 0, 6)) 11)) (V_decode_some (x.2, 0, 11)), 20)), V_decode_some (x.1, 6, 4), true, ()), decide (V_decode_some (x.1, 6, 4) ≤ 13), ())))
          .fail)
         .fail)
        .fail))
      .fail))
    .fail)
   .fail)
def G_decode_branch (x : dens A_decode_branch) : Bool := (T_decode_branch x).val.isSome
def V_decode_branch (x : dens A_decode_branch) : Sh.den S_decode_branch := (T_decode_branch x).getO default
theorem ok_decode_branch (x : dens A_decode_branch) (h : G_decode_branch x = true) : (T_decode_branch x).val = some (V_decode_branch x) := PO.getO_ok default h
/-- decode.long -/
abbrev A_decode_long : List Ty := [(.int .i64), (.int .i64)]
abbrev S_decode_long : Sh := Sh.tup (Sh.pair (Sh.ty tIns) (Sh.pair (Sh.ty Ty.bool) (Sh.ty Ty.unit)))
def T_decode_long (x : dens A_decode_long) : PO (Sh.den S_decode_long) :=
  (.ite (G_decode_three x) (.ite (V_decode_three x).2.1 (.ret ((V_decode_three x).1, true, ())) (.ite (G_decode_product x) (.ite (V_decode_product x).2.1 (.ret ((V_decode_product x).1, true, ())) (.ite (G_decode_plain x) (.ite (V_decode_plain x).2.1 (.ret ((V_decode_plain x).1, true, ())) (.ite (G_decode_branch x) (.ite (V_decode_branch x).2.1 (.ret ((V_decode_branch x).1, true, ())) (.ret ((0, 0, 0, 0, 0, 0, 0, false, ()), false, ()))) .fail)) .fail)) .fail)) .fail)
def G_decode_long (x : dens A_decode_long) : Bool := (T_decode_long x).val.isSome
def V_decode_long (x : dens A_decode_long) : Sh.den S_decode_long := (T_decode_long x).getO default
theorem ok_decode_long (x : dens A_decode_long) (h : G_decode_long x = true) : (T_decode_long x).val = some (V_decode_long x) := PO.getO_ok default h
/-- decode.Decode -/
abbrev A_decode_Decode : List Ty := [.str]
abbrev S_decode_Decode : Sh := Sh.tup (Sh.pair (Sh.ty tIns) (Sh.pair (Sh.ty (Ty.int IntKind.i64)) (Sh.pair (Sh.ty (Ty.int IntKind.i64)) (Sh.ty Ty.unit))))
def T_decode_Decode (x : dens A_decode_Decode) : PO (Sh.den S_decode_Decode) :=
  (.ite (V_decode_Size x == 0 || decide (lenI x < V_decode_Size x))
   (.ret (((0, 0, 0, 0, 0, 0, 0, false, ()), 0, 3, ())))
   (.ite (V_decode_Size x == 2)
    (.ite (G_decode_half (x, 0))
     (.ite (G_decode_narrow (V_decode_half (x, 0)))
      (.ite (!(V_decode_narrow (V_decode_half (x, 0))).2.1)
       (.ret (((0, 0, 0, 0, 0, 0, 0, false, ()), 0, 7, ())))
       (.ret (((V_decode_narrow (V_decode_half (x, 0))).1, V_decode_Size x, 0, ()))))
      .fail)
     .fail)
    (.ite (G_decode_half (x, 0))
     (.ite (G_decode_half (x, 1))
      (.ite (G_decode_long (V_decode_half (x, 0), V_decode_half (x, 1)))
       (.ite (!(V_decode_long (V_decode_half (x, 0), V_decode_half (x, 1))).2.1)
        (.ret (((0, 0, 0, 0, 0, 0, 0, false, ()), 0, 7, ())))
        (.ret (((V_decode_long (V_decode_half (x, 0), V_decode_half (x, 1))).1, V_decode_Size x, 0, ()))))
       .fail)
      .fail)
     .fail)))
def G_decode_Decode (x : dens A_decode_Decode) : Bool := (T_decode_Decode x).val.isSome
def V_decode_Decode (x : dens A_decode_Decode) : Sh.den S_decode_Decode := (T_decode_Decode x).getO default
theorem ok_decode_Decode (x : dens A_decode_Decode) (h : G_decode_Decode x = true) : (T_decode_Decode x).val = some (V_decode_Decode x) := PO.getO_ok default h
/-- A number's low bits, the greatest first. -/
def bitsN : Nat → Nat → List Bool
  | 0, _ => []
  | m + 1, n => (n / 2 ^ m % 2 == 1) :: bitsN m n
theorem bitsN_len : ∀ m n : Nat, (bitsN m n).length = m
  | 0, _ => rfl
  | m + 1, n => congrArg (· + 1) (bitsN_len m n)
/-- Bits as noughts and ones. -/
def tx (l : List Bool) : List UInt8 := l.map fun b => bif b then 49 else 48
theorem tx_len (l : List Bool) : (tx l).length = l.length := List.length_map ..
theorem tx_digit (n : Nat) : toByte (IntKind.wrap IntKind.u8 (w64 (48 + Int.tmod (n : Int) 2))) = (bif n % 2 == 1 then 49 else 48) := by
  rw [tmod_pos _ _ (by omega)]
  have h : (n : Int) % 2 = ((n % 2 : Nat) : Int) := by omega
  rw [h]
  rcases Nat.mod_two_eq_zero_or_one n with h | h <;> rw [h] <;> rfl
theorem half_down (n : Nat) (h : n < 4294967296) : w64 (Int.tdiv (n : Int) 2) = ((n / 2 : Nat) : Int) := by
  rw [tdiv_pos _ _ (by omega), w64_id (by omega) (by omega)]
  omega
/-- hauberkref03.text -/
abbrev A_hauberkref03_text : List Ty := [(.int .i64)]
abbrev S_hauberkref03_text : Sh := Sh.ty Ty.str
def T_hauberkref03_text (x : dens A_hauberkref03_text) : PO (Sh.den S_hauberkref03_text) :=
  (.ret ([toByte (IntKind.wrap IntKind.u8 (w64 (48 + Int.tmod (w64 (Int.tdiv (w64 (Int.tdiv (w64 (Int.tdiv (w64 (Int.tdiv (w64 (Int.tdiv (w64 (Int.tdiv (w64 (Int.tdiv (w64 (Int.tdiv (w64 (Int.tdiv (w64 (Int.tdiv (w64 (Int.tdiv (w64 (Int.tdiv (w64 (Int.tdiv (w64 (Int.tdiv (w64 (Int.tdiv x 2)) 2)) 2)) 2)) 2)) 2)) 2)) 2)) 2)) 2)) 2)) 2)) 2)) 2)) 2)) 2))), toByte (IntKind.wrap IntKind.u8 (w64 (48 + Int.tmod (w64 (Int.tdiv (w64 (Int.tdiv (w64 (Int.tdiv (w64 (Int.tdiv (w64 (Int.tdiv (w64 (Int.tdiv (w64 (Int.tdiv (w64 (Int.tdiv (w64 (Int.tdiv (w64 (Int.tdiv (w64 (Int.tdiv (w64 (Int.tdiv (w64 (Int.tdiv (w64 (Int.tdiv x 2)) 2)) 2)) 2)) 2)) 2)) 2)) 2)) 2)) 2)) 2)) 2)) 2)) 2)) 2))), toByte (IntKind.wrap IntKind.u8 (w64 (48 + Int.tmod (w64 (Int.tdiv (w64 (Int.tdiv (w64 (Int.tdiv (w64 (Int.tdiv (w64 (Int.tdiv (w64 (Int.tdiv (w64 (Int.tdiv (w64 (Int.tdiv (w64 (Int.tdiv (w64 (Int.tdiv (w64 (Int.tdiv (w64 (Int.tdiv (w64 (Int.tdiv x 2)) 2)) 2)) 2)) 2)) 2)) 2)) 2)) 2)) 2)) 2)) 2)) 2)) 2))), toByte (IntKind.wrap IntKind.u8 (w64 (48 + Int.tmod (w64 (Int.tdiv (w64 (Int.tdiv (w64 (Int.tdiv (w64 (Int.tdiv (w64 (Int.tdiv (w64 (Int.tdiv (w64 (Int.tdiv (w64 (Int.tdiv (w64 (Int.tdiv (w64 (Int.tdiv (w64 (Int.tdiv (w64 (Int.tdiv x 2)) 2)) 2)) 2)) 2)) 2)) 2)) 2)) 2)) 2)) 2)) 2)) 2))), toByte (IntKind.wrap IntKind.u8 (w64 (48 + Int.tmod (w64 (Int.tdiv (w64 (Int.tdiv (w64 (Int.tdiv (w64 (Int.tdiv (w64 (Int.tdiv (w64 (Int.tdiv (w64 (Int.tdiv (w64 (Int.tdiv (w64 (Int.tdiv (w64 (Int.tdiv (w64 (Int.tdiv x 2)) 2)) 2)) 2)) 2)) 2)) 2)) 2)) 2)) 2)) 2)) 2))), toByte (IntKind.wrap IntKind.u8 (w64 (48 + Int.tmod (w64 (Int.tdiv (w64 (Int.tdiv (w64 (Int.tdiv (w64 (Int.tdiv (w64 (Int.tdiv (w64 (Int.tdiv (w64 (Int.tdiv (w64 (Int.tdiv (w64 (Int.tdiv (w64 (Int.tdiv x 2)) 2)) 2)) 2)) 2)) 2)) 2)) 2)) 2)) 2)) 2))), toByte (IntKind.wrap IntKind.u8 (w64 (48 + Int.tmod (w64 (Int.tdiv (w64 (Int.tdiv (w64 (Int.tdiv (w64 (Int.tdiv (w64 (Int.tdiv (w64 (Int.tdiv (w64 (Int.tdiv (w64 (Int.tdiv (w64 (Int.tdiv x 2)) 2)) 2)) 2)) 2)) 2)) 2)) 2)) 2)) 2))), toByte (IntKind.wrap IntKind.u8 (w64 (48 + Int.tmod (w64 (Int.tdiv (w64 (Int.tdiv (w64 (Int.tdiv (w64 (Int.tdiv (w64 (Int.tdiv (w64 (Int.tdiv (w64 (Int.tdiv (w64 (Int.tdiv x 2)) 2)) 2)) 2)) 2)) 2)) 2)) 2)) 2))), toByte (IntKind.wrap IntKind.u8 (w64 (48 + Int.tmod (w64 (Int.tdiv (w64 (Int.tdiv (w64 (Int.tdiv (w64 (Int.tdiv (w64 (Int.tdiv (w64 (Int.tdiv (w64 (Int.tdiv x 2)) 2)) 2)) 2)) 2)) 2)) 2)) 2))), toByte (IntKind.wrap IntKind.u8 (w64 (48 + Int.tmod (w64 (Int.tdiv (w64 (Int.tdiv (w64 (Int.tdiv (w64 (Int.tdiv (w64 (Int.tdiv (w64 (Int.tdiv x 2)) 2)) 2)) 2)) 2)) 2)) 2))), toByte (IntKind.wrap IntKind.u8 (w64 (48 + Int.tmod (w64 (Int.tdiv (w64 (Int.tdiv (w64 (Int.tdiv (w64 (Int.tdiv (w64 (Int.tdiv x 2)) 2)) 2)) 2)) 2)) 2))), toByte (IntKind.wrap IntKind.u8 (w64 (48 + Int.tmod (w64 (Int.tdiv (w64 (Int.tdiv (w64 (Int.tdiv (w64 (Int.tdiv x 2)) 2)) 2)) 2)) 2))), toByte (IntKind.wrap IntKind.u8 (w64 (48 + Int.tmod (w64 (Int.tdiv (w64 (Int.tdiv (w64 (Int.tdiv x 2)) 2)) 2)) 2))), toByte (IntKind.wrap IntKind.u8 (w64 (48 + Int.tmod (w64 (Int.tdiv (w64 (Int.tdiv x 2)) 2)) 2))), toByte (IntKind.wrap IntKind.u8 (w64 (48 + Int.tmod (w64 (Int.tdiv x 2)) 2))), toByte (IntKind.wrap IntKind.u8 (w64 (48 + Int.tmod x 2)))]))
def G_hauberkref03_text (_ : dens A_hauberkref03_text) : Bool := true
def V_hauberkref03_text (x : dens A_hauberkref03_text) : Sh.den S_hauberkref03_text := (T_hauberkref03_text x).getO default
theorem text_T (n : Nat) (h : n < 65536) : (T_hauberkref03_text (n : Int)).val = some (tx (bitsN 16 n)) := by
  have e : ∀ k, k ≤ 16 → w64 (Int.tdiv ((n / 2 ^ k : Nat) : Int) 2) = ((n / 2 ^ (k + 1) : Nat) : Int) := fun k _ => by
    rw [half_down _ (Nat.lt_of_le_of_lt (Nat.div_le_self ..) (by omega)), Nat.div_div_eq_div_mul, Nat.pow_succ]
  have e0 : w64 (Int.tdiv (n : Int) 2) = ((n / 2 ^ 1 : Nat) : Int) := half_down n (by omega)
  unfold T_hauberkref03_text PO.val
  rw [e0, e 1 (by omega), e 2 (by omega), e 3 (by omega), e 4 (by omega), e 5 (by omega), e 6 (by omega), e 7 (by omega), e 8 (by omega), e 9 (by omega), e 10 (by omega), e 11 (by omega), e 12 (by omega), e 13 (by omega), e 14 (by omega)]
  simp only [tx_digit]
  simp only [bitsN, tx, List.map, Nat.pow_zero, Nat.div_one]
theorem ok_hauberkref03_text (x : dens A_hauberkref03_text) (_ : G_hauberkref03_text x = true) : (T_hauberkref03_text x).val = some (V_hauberkref03_text x) := PO.sure_ok default (by simp [T_hauberkref03_text, PO.sure])
theorem text_V (n : Nat) (h : n < 65536) : V_hauberkref03_text (n : Int) = tx (bitsN 16 n) := by
  have := ok_hauberkref03_text (n : Int) rfl
  rw [text_T n h] at this
  exact (Option.some.inj this).symm
def L_hauberkref03_power_3 : LoopN where
  M := [0, 3, 4]
  T := [5, 6, 7, 8, 9, 10, 11]
  D := [0, 4]
  ss := [.ty (.int .i64), .ty (.int .i64), .ty (.int .i64)]
  hs := []
  es := [.exit 0]
  σ := (Ty.den (.int .i64)) × (Ty.den (.int .i64))
  x0 := fun x _ => (x.2.1, x.2.2)
  put := fun x _ s => ((x.1, s.1, s.2), ())
  fuel := fun x _ => Int.toNat x.1 + 1
  turn := fun x _ s =>
  (.ite (decide (s.2 < x.1))
   (.ret (.on (w64 (s.1 * 2), w64 (s.2 + 1))))
   (.ret (.out 0 (s.1, s.2))))
/-- hauberkref03.power -/
abbrev A_hauberkref03_power : List Ty := [(.int .i64)]
abbrev S_hauberkref03_power : Sh := Sh.ty (Ty.int IntKind.i64)
def T_hauberkref03_power (x : dens A_hauberkref03_power) : PO (Sh.den S_hauberkref03_power) :=
  (.opt (LoopN.res L_hauberkref03_power_3 (x, 1, 0) ()) fun p0 =>
   (.ret (p0.2.1)))
def G_hauberkref03_power (x : dens A_hauberkref03_power) : Bool := decide ((0 : Int) ≤ x) && decide ((x : Int) ≤ 62)
def V_hauberkref03_power (x : dens A_hauberkref03_power) : Sh.den S_hauberkref03_power := ((2 ^ Int.toNat x : Nat) : Int)
theorem pow_step (i n : Nat) (hi : i < n) (hn : n ≤ 62) : w64 (((2 ^ i : Nat) : Int) * 2) = ((2 ^ (i + 1) : Nat) : Int) := by
  have h2 : 2 ^ (i + 1) ≤ 2 ^ 62 := pow_lt (by omega)
  have h3 : ((2 ^ i : Nat) : Int) * 2 = ((2 ^ (i + 1) : Nat) : Int) := by rw [Nat.pow_succ]; simp
  rw [h3]
  generalize 2 ^ (i + 1) = q at h2 ⊢
  rw [w64_id (by omega) (by omega)]
theorem power3_run (n : Nat) (hn : n ≤ 62) : runL (L_hauberkref03_power_3.turn ((n : Int), 1, 0) ()) (n + 1) (1, 0) = some (0, ((2 ^ n : Nat) : Int), (n : Int)) := by
  refine runL_count (σ := Int × Int) (fun i => (((2 ^ i : Nat) : Int), (i : Int))) (0, ((2 ^ n : Nat) : Int), (n : Int)) (n := n) (fun i hi => ?_) ?_ n 0 (by omega) _ (by omega)
  · simp only [L_hauberkref03_power_3, PO.val, dec_true (show (i : Int) < (n : Int) by omega), cond_true]
    rw [pow_step i n hi hn, w64_id (n := (i : Int) + 1) (by omega) (by omega)]
    rfl
  · simp only [L_hauberkref03_power_3, PO.val, dec_false (show ¬ (n : Int) < (n : Int) by omega), cond_false]
theorem power3_T (x : Int) (h1 : 0 ≤ x) (h2 : x ≤ 62) : (T_hauberkref03_power x).val = some (V_hauberkref03_power x) := by
  obtain ⟨n, rfl⟩ := Int.eq_ofNat_of_zero_le h1
  have h1 : LoopN.res L_hauberkref03_power_3 ((n : Int), 1, 0) () = some (0, ((2 ^ n : Nat) : Int), (n : Int)) := power3_run n (by omega)
  unfold T_hauberkref03_power PO.val
  rw [h1]
  rfl
theorem ok_hauberkref03_power (x : dens A_hauberkref03_power) (h : G_hauberkref03_power x = true) : (T_hauberkref03_power x).val = some (V_hauberkref03_power x) := by
  simp only [G_hauberkref03_power, Bool.and_eq_true, decide_eq_true_eq] at h
  exact power3_T x h.1 h.2
def L_hauberkref03_sign_3 : LoopN where
  M := [0, 1, 5, 6]
  T := [7, 8, 9, 10, 11, 12, 13]
  D := [1, 6]
  ss := [.ty (.int .i64), .ty (.int .i64), .ty (.int .i64), .ty (.int .i64)]
  hs := []
  es := [.exit 0]
  σ := (Ty.den (.int .i64)) × (Ty.den (.int .i64))
  x0 := fun x _ => (x.2.2.1, x.2.2.2)
  put := fun x _ s => ((x.1, x.2.1, s.1, s.2), ())
  fuel := fun x _ => Int.toNat x.2.1 + 1
  turn := fun x _ s =>
  (.ite (decide (s.2 < x.2.1))
   (.ret (.on (w64 (s.1 * 2), w64 (s.2 + 1))))
   (.ret (.out 0 (s.1, s.2))))
/-- hauberkref03.sign -/
abbrev A_hauberkref03_sign : List Ty := [(.int .i64), (.int .i64)]
abbrev S_hauberkref03_sign : Sh := Sh.ty (Ty.int IntKind.i64)
def T_hauberkref03_sign (x : dens A_hauberkref03_sign) : PO (Sh.den S_hauberkref03_sign) :=
  (.opt (LoopN.res L_hauberkref03_sign_3 (x.1, x.2, 1, 0) ()) fun p0 =>
   (.ite (decide (x.1 ≥ p0.2.1))
    (.ret (w64 (x.1 - w64 (2 * p0.2.1))))
    (.ret (x.1))))
def G_hauberkref03_sign (x : dens A_hauberkref03_sign) : Bool := decide ((0 : Int) ≤ x.2) && (decide ((x.2 : Int) ≤ 24) && (decide ((-4294967296 : Int) ≤ x.1) && decide ((x.1 : Int) < 4294967296)))
def V_hauberkref03_sign (x : dens A_hauberkref03_sign) : Sh.den S_hauberkref03_sign := bif decide ((x.1 : Int) ≥ (2 ^ Int.toNat x.2 : Nat)) then (x.1 - 2 * (2 ^ Int.toNat x.2 : Nat) : Int) else x.1
theorem sign_T (z : Int) (n : Nat) (hn : n ≤ 24) (h1 : -4294967296 ≤ z) (h2 : z < 4294967296) : (T_hauberkref03_sign (z, (n : Int))).val = some (V_hauberkref03_sign (z, (n : Int))) := by
  have hr : LoopN.res L_hauberkref03_sign_3 (z, (n : Int), 1, 0) () = some (0, ((2 ^ n : Nat) : Int), (n : Int)) := by
    refine runL_count (σ := Int × Int) (fun i => (((2 ^ i : Nat) : Int), (i : Int))) (0, ((2 ^ n : Nat) : Int), (n : Int)) (n := n) (fun i hi => ?_) ?_ n 0 (by omega) _ (by show n < Int.toNat (n : Int) + 1; omega)
    · simp only [L_hauberkref03_sign_3, PO.val, dec_true (show (i : Int) < (n : Int) by omega), cond_true]
      rw [pow_step i n hi (by omega), w64_id (n := (i : Int) + 1) (by omega) (by omega)]
      rfl
    · simp only [L_hauberkref03_sign_3, PO.val, dec_false (show ¬ (n : Int) < (n : Int) by omega), cond_false]
  have hp : 2 ^ n ≤ 2 ^ 24 := pow_lt hn
  unfold T_hauberkref03_sign V_hauberkref03_sign PO.val
  rw [hr]
  dsimp only [way, PO.val]
  rw [Int.toNat_natCast]
  generalize 2 ^ n = q at hp ⊢
  rw [w64_id (n := 2 * (q : Int)) (by omega) (by omega), w64_id (n := z - 2 * (q : Int)) (by omega) (by omega)]
  cases decide (z ≥ (q : Int)) <;> rfl
theorem sign_ok (z m : Int) (h1 : 0 ≤ m) (h2 : m ≤ 24) (h3 : -4294967296 ≤ z) (h4 : z < 4294967296) : (T_hauberkref03_sign (z, m)).val = some (V_hauberkref03_sign (z, m)) := by
  obtain ⟨n, rfl⟩ := Int.eq_ofNat_of_zero_le h1
  exact sign_T z n (by omega) h3 h4
theorem ok_hauberkref03_sign (x : dens A_hauberkref03_sign) (h : G_hauberkref03_sign x = true) : (T_hauberkref03_sign x).val = some (V_hauberkref03_sign x) := by
  simp only [G_hauberkref03_sign, Bool.and_eq_true, decide_eq_true_eq] at h
  exact sign_ok x.1 x.2 h.1 h.2.1 h.2.2.1 h.2.2.2
/-- hauberkref03.half -/
abbrev A_hauberkref03_half : List Ty := [.str, (.int .i64)]
abbrev S_hauberkref03_half : Sh := Sh.ty Ty.str
def T_hauberkref03_half (x : dens A_hauberkref03_half) : PO (Sh.den S_hauberkref03_half) :=
  (.ite (inRange (w64 (2 * x.2)) (List.length x.1) && (inRange (w64 (w64 (2 * x.2) + 1)) (List.length x.1) && true))
   (.ret (V_hauberkref03_text (w64 (w64 (u8I (List.getD x.1 (Int.toNat (w64 (2 * x.2))) 0)) + w64 (256 * w64 (u8I (List.getD x.1 (Int.toNat (w64 (w64 (2 * x.2) + 1))) 0)))))))
   .fail)
def G_hauberkref03_half (x : dens A_hauberkref03_half) : Bool := (x.2 == 0 && decide (2 ≤ lenI x.1)) || (x.2 == 1 && decide (4 ≤ lenI x.1))
def V_hauberkref03_half (x : dens A_hauberkref03_half) : Sh.den S_hauberkref03_half := tx (bitsN 16 (halfN x.1 x.2.toNat))
theorem half3_val (s : List UInt8) (k : Nat) (hk : k ≤ 1) (h : 2 * k + 2 ≤ s.length) : (T_hauberkref03_half (s, (k : Int))).val = some (tx (bitsN 16 (halfN s k))) := by
  have e1 : w64 (2 * (k : Int)) = ((2 * k : Nat) : Int) := by rw [w64_id (by omega) (by omega)]; omega
  have e2 : w64 (((2 * k : Nat) : Int) + 1) = ((2 * k + 1 : Nat) : Int) := by rw [w64_id (by omega) (by omega)]; omega
  have l1 := (s.getD (2 * k) 0).toNat_lt
  have l2 := (s.getD (2 * k + 1) 0).toNat_lt
  unfold T_hauberkref03_half PO.val
  dsimp only
  rw [e1, e2, inR (show 2 * k < s.length by omega), inR (show 2 * k + 1 < s.length by omega), getD_nat, getD_nat]
  have hh := halfN_lt s k
  have e : halfN s k = (s.getD (2 * k) 0).toNat + 256 * (s.getD (2 * k + 1) 0).toNat := rfl
  unfold u8I
  generalize (s.getD (2 * k) 0).toNat = a at *
  generalize (s.getD (2 * k + 1) 0).toNat = b at *
  rw [w64_nat (by omega), w64_nat (by omega), w64_id (n := 256 * (b : Int)) (by omega) (by omega), w64_id (n := (a : Int) + 256 * (b : Int)) (by omega) (by omega), show (a : Int) + 256 * (b : Int) = ((halfN s k : Nat) : Int) by omega]
  exact congrArg some (text_V _ hh)
theorem ok_hauberkref03_half (x : dens A_hauberkref03_half) (h : G_hauberkref03_half x = true) : (T_hauberkref03_half x).val = some (V_hauberkref03_half x) := by
  obtain ⟨s, n⟩ := x
  simp only [G_hauberkref03_half, Bool.or_eq_true, Bool.and_eq_true, beq_iff_eq, decide_eq_true_eq] at h
  rcases h with ⟨h, hl⟩ | ⟨h, hl⟩
  · subst h
    exact half3_val s 0 (by omega) (by simp only [lenI] at hl; omega)
  · subst h
    exact half3_val s 1 (by omega) (by simp only [lenI] at hl; omega)
/-- hauberkref03.Size -/
abbrev A_hauberkref03_Size : List Ty := [.str]
abbrev S_hauberkref03_Size : Sh := Sh.ty (Ty.int IntKind.i64)
def T_hauberkref03_Size (x : dens A_hauberkref03_Size) : PO (Sh.den S_hauberkref03_Size) :=
  (.ite (decide (lenI x < 2))
   (.ret (0))
   (.ite (G_hauberkref03_half (x, 0) && (decide (5 ≤ lenI (V_hauberkref03_half (x, 0))) && true && true))
    (.ite (List.drop (Int.toNat 0) (List.take (Int.toNat 5) (V_hauberkref03_half (x, 0))) == [49, 49, 49, 48, 49] || (List.drop (Int.toNat 0) (List.take (Int.toNat 5) (V_hauberkref03_half (x, 0))) == [49, 49, 49, 49, 48] || List.drop (Int.toNat 0) (List.take (Int.toNat 5) (V_hauberkref03_half (x, 0))) == [49, 49, 49, 49, 49]))
     (.ret (4))
     (.ret (2)))
    .fail))
def G_hauberkref03_Size (x : dens A_hauberkref03_Size) : Bool := (T_hauberkref03_Size x).val.isSome
def V_hauberkref03_Size (x : dens A_hauberkref03_Size) : Sh.den S_hauberkref03_Size := (T_hauberkref03_Size x).getO default
theorem ok_hauberkref03_Size (x : dens A_hauberkref03_Size) (h : G_hauberkref03_Size x = true) : (T_hauberkref03_Size x).val = some (V_hauberkref03_Size x) := PO.getO_ok default h
def L_hauberkref03_read_8 : LoopN where
  M := [0, 1, 2, 6, 7, 8, 9, 10, 11, 12, 13, 14]
  T := [15, 32, 33, 34, 35, 36, 37, 38, 39, 40, 41, 42, 43, 44, 45, 46, 47, 48, 49, 50, 51, 52, 53, 54, 55, 56, 57, 58, 59, 60, 61, 62, 63, 64, 65, 66, 67, 68, 69, 70, 71, 72, 73, 74, 75, 76, 77, 78, 79, 80]
  D := [2, 8, 14]
  ss := [.ty (.int .i64), .ty .bool, .ty .str, .box 0 0, .ty .bool, .ty .str, .box 1 0, .box 2 0, .ty (.int .i64), .ty (.int .i64), .ty (.int .i64), .ty (.int .i64)]
  hs := [.ty tIns, .ty tIns, .ty (.int .i64)]
  es := [.exit 0, .ret]
  σ := (Ty.den .bool) × (Ty.den (.int .i64)) × (Ty.den (.int .i64)) × (Ty.den (.int .i64)) × (Ty.den (.int .i64)) × (Sh.den (.ty tIns)) × (Sh.den (.ty tIns)) × (Sh.den (.ty (.int .i64)))
  x0 := fun x y => (x.2.2.2.2.1, x.2.2.2.2.2.2.2.2.1, x.2.2.2.2.2.2.2.2.2.1, x.2.2.2.2.2.2.2.2.2.2.1, x.2.2.2.2.2.2.2.2.2.2.2, y.1, y.2.1, y.2.2)
  put := fun x _ s => ((x.1, x.2.1, x.2.2.1, x.2.2.2.1, s.1, x.2.2.2.2.2.1, x.2.2.2.2.2.2.1, x.2.2.2.2.2.2.2.1, s.2.1, s.2.2.1, s.2.2.2.1, s.2.2.2.2.1), (s.2.2.2.2.2.1, s.2.2.2.2.2.2.1, s.2.2.2.2.2.2.2))
  fuel := fun _ _ => 40
  turn := fun x _ s =>
  (.ite (decide (s.2.2.2.2.1 < lenI x.2.2.2.2.2.1))
   (.ite (inRange s.2.2.2.2.1 (List.length x.2.2.1))
    (.ite (inRange s.2.2.2.2.1 (List.length x.2.2.2.2.2.1) && bif u8I (List.getD x.2.2.2.2.2.1 (Int.toNat s.2.2.2.2.1) 0) == 48 then inRange s.2.2.2.2.1 (List.length x.2.2.2.2.2.1) && inRange s.2.2.2.2.1 (List.length x.2.2.1) else inRange s.2.2.2.2.1 (List.length x.2.2.2.2.2.1) && bif u8I (List.getD x.2.2.2.2.2.1 (Int.toNat s.2.2.2.2.1) 0) == 49 then inRange s.2.2.2.2.1 (List.length x.2.2.2.2.2.1) && inRange s.2.2.2.2.1 (List.length x.2.2.1) else true)
     (.ite (bif u8I (List.getD x.2.2.2.2.2.1 (Int.toNat s.2.2.2.2.1) 0) == 48 then u8I (List.getD x.2.2.2.2.2.1 (Int.toNat s.2.2.2.2.1) 0) != u8I (List.getD x.2.2.1 (Int.toNat s.2.2.2.2.1) 0) else u8I (List.getD x.2.2.2.2.2.1 (Int.toNat s.2.2.2.2.1) 0) == 49 && u8I (List.getD x.2.2.2.2.2.1 (Int.toNat s.2.2.2.2.1) 0) != u8I (List.getD x.2.2.1 (Int.toNat s.2.2.2.2.1) 0))
      (.ret (.out 1 (false, s.2.1, s.2.2.1, s.2.2.2.1, s.2.2.2.2.1, (0, 0, 0, 0, 0, 0, 0, false, ()), s.2.2.2.2.2.2.1, s.2.2.2.2.2.2.2)))
      (.ite (inRange s.2.2.2.2.1 (List.length x.2.2.2.2.2.1))
       (.ite (inRange s.2.2.2.2.1 (List.length x.2.2.2.2.2.1))
        (.ite (u8I (List.getD x.2.2.2.2.2.1 (Int.toNat s.2.2.2.2.1) 0) == 100)
         (.ret (.on (s.1, bif u8I (List.getD x.2.2.2.2.2.1 (Int.toNat s.2.2.2.2.1) 0) == 120 then w64 (IntKind.wrap IntKind.u8 (u8I (List.getD x.2.2.1 (Int.toNat s.2.2.2.2.1) 0) - 48)) else s.2.1, bif u8I (List.getD x.2.2.2.2.2.1 (Int.toNat s.2.2.2.2.1) 0) == 120 then s.2.2.1 else bif u8I (List.getD x.2.2.2.2.2.1 (Int.toNat s.2.2.2.2.1) 0) == 121 then w64 (IntKind.wrap IntKind.u8 (u8I (List.getD x.2.2.1 (Int.toNat s.2.2.2.2.1) 0) - 48)) else s.2.2.1, bif u8I (List.getD x.2.2.2.2.2.1 (Int.toNat s.2.2.2.2.1) 0) == 120 then s.2.2.2.1 else bif u8I (List.getD x.2.2.2.2.2.1 (Int.toNat s.2.2.2.2.1) 0) == 121 then s.2.2.2.1 else bif u8I (List.getD x.2.2.2.2.2.1 (Int.toNat s.2.2.2.2.1) 0) == 89 then w64 (IntKind.wrap IntKind.u8 (u8I (List.getD x.2.2.1 (Int.toNat s.2.2.2.2.1) 0) - 48)) else s.2.2.2.1, w64 (s.2.2.2.2.1 + 1), s.2.2.2.2.2.1, (s.2.2.2.2.2.2.1.1, w64 (w64 (2 * s.2.2.2.2.2.2.1.2.1) + w64 (IntKind.wrap IntKind.u8 (u8I (List.getD x.2.2.1 (Int.toNat s.2.2.2.2.1) 0) - 48))), s.2.2.2.2.2.2.1.2.2), s.2.2.2.2.2.2.2)))
         (.ite (u8I (List.getD x.2.2.2.2.2.1 (Int.toNat s.2.2.2.2.1) 0) == 110)
          (.ret (.on (s.1, bif u8I (List.getD x.2.2.2.2.2.1 (Int.toNat s.2.2.2.2.1) 0) == 120 then w64 (IntKind.wrap IntKind.u8 (u8I (List.getD x.2.2.1 (Int.toNat s.2.2.2.2.1) 0) - 48)) else s.2.1, bif u8I (List.getD x.2.2.2.2.2.1 (Int.toNat s.2.2.2.2.1) 0) == 120 then s.2.2.1 else bif u8I (List.getD x.2.2.2.2.2.1 (Int.toNat s.2.2.2.2.1) 0) == 121 then w64 (IntKind.wrap IntKind.u8 (u8I (List.getD x.2.2.1 (Int.toNat s.2.2.2.2.1) 0) - 48)) else s.2.2.1, bif u8I (List.getD x.2.2.2.2.2.1 (Int.toNat s.2.2.2.2.1) 0) == 120 then s.2.2.2.1 else bif u8I (List.getD x.2.2.2.2.2.1 (Int.toNat s.2.2.2.2.1) 0) == 121 then s.2.2.2.1 else bif u8I (List.getD x.2.2.2.2.2.1 (Int.toNat s.2.2.2.2.1) 0) == 89 then w64 (IntKind.wrap IntKind.u8 (u8I (List.getD x.2.2.1 (Int.toNat s.2.2.2.2.1) 0) - 48)) else s.2.2.2.1, w64 (s.2.2.2.2.1 + 1), s.2.2.2.2.2.1, (s.2.2.2.2.2.2.1.1, s.2.2.2.2.2.2.1.2.1, w64 (w64 (2 * s.2.2.2.2.2.2.1.2.2.1) + w64 (IntKind.wrap IntKind.u8 (u8I (List.getD x.2.2.1 (Int.toNat s.2.2.2.2.1) 0) - 48))), s.2.2.2.2.2.2.1.2.2.2), s.2.2.2.2.2.2.2)))
          (.ite (u8I (List.getD x.2.2.2.2.2.1 (Int.toNat s.2.2.2.2.1) 0) == 109)
           (.ret (.on (s.1, bif u8I (List.getD x.2.2.2.2.2.1 (Int.toNat s.2.2.2.2.1) 0) == 120 then w64 (IntKind.wrap IntKind.u8 (u8I (List.getD x.2.2.1 (Int.toNat s.2.2.2.2.1) 0) - 48)) else s.2.1, bif u8I (List.getD x.2.2.2.2.2.1 (Int.toNat s.2.2.2.2.1) 0) == 120 then s.2.2.1 else bif u8I (List.getD x.2.2.2.2.2.1 (Int.toNat s.2.2.2.2.1) 0) == 121 then w64 (IntKind.wrap IntKind.u8 (u8I (List.getD x.2.2.1 (Int.toNat s.2.2.2.2.1) 0) - 48)) else s.2.2.1, bif u8I (List.getD x.2.2.2.2.2.1 (Int.toNat s.2.2.2.2.1) 0) == 120 then s.2.2.2.1 else bif u8I (List.getD x.2.2.2.2.2.1 (Int.toNat s.2.2.2.2.1) 0) == 121 then s.2.2.2.1 else bif u8I (List.getD x.2.2.2.2.2.1 (Int.toNat s.2.2.2.2.1) 0) == 89 then w64 (IntKind.wrap IntKind.u8 (u8I (List.getD x.2.2.1 (Int.toNat s.2.2.2.2.1) 0) - 48)) else s.2.2.2.1, w64 (s.2.2.2.2.1 + 1), s.2.2.2.2.2.1, (s.2.2.2.2.2.2.1.1, s.2.2.2.2.2.2.1.2.1, s.2.2.2.2.2.2.1.2.2.1, w64 (w64 (2 * s.2.2.2.2.2.2.1.2.2.2.1) + w64 (IntKind.wrap IntKind.u8 (u8I (List.getD x.2.2.1 (Int.toNat s.2.2.2.2.1) 0) - 48))), s.2.2.2.2.2.2.1.2.2.2.2), s.2.2.2.2.2.2.2)))
           (.ite (u8I (List.getD x.2.2.2.2.2.1 (Int.toNat s.2.2.2.2.1) 0) == 97)
            (.ret (.on (s.1, bif u8I (List.getD x.2.2.2.2.2.1 (Int.toNat s.2.2.2.2.1) 0) == 120 then w64 (IntKind.wrap IntKind.u8 (u8I (List.getD x.2.2.1 (Int.toNat s.2.2.2.2.1) 0) - 48)) else s.2.1, bif u8I (List.getD x.2.2.2.2.2.1 (Int.toNat s.2.2.2.2.1) 0) == 120 then s.2.2.1 else bif u8I (List.getD x.2.2.2.2.2.1 (Int.toNat s.2.2.2.2.1) 0) == 121 then w64 (IntKind.wrap IntKind.u8 (u8I (List.getD x.2.2.1 (Int.toNat s.2.2.2.2.1) 0) - 48)) else s.2.2.1, bif u8I (List.getD x.2.2.2.2.2.1 (Int.toNat s.2.2.2.2.1) 0) == 120 then s.2.2.2.1 else bif u8I (List.getD x.2.2.2.2.2.1 (Int.toNat s.2.2.2.2.1) 0) == 121 then s.2.2.2.1 else bif u8I (List.getD x.2.2.2.2.2.1 (Int.toNat s.2.2.2.2.1) 0) == 89 then w64 (IntKind.wrap IntKind.u8 (u8I (List.getD x.2.2.1 (Int.toNat s.2.2.2.2.1) 0) - 48)) else s.2.2.2.1, w64 (s.2.2.2.2.1 + 1), s.2.2.2.2.2.1, (s.2.2.2.2.2.2.1.1, s.2.2.2.2.2.2.1.2.1, s.2.2.2.2.2.2.1.2.2.1, s.2.2.2.2.2.2.1.2.2.2.1, w64 (w64 (2 * s.2.2.2.2.2.2.1.2.2.2.2.1) + w64 (IntKind.wrap IntKind.u8 (u8I (List.getD x.2.2.1 (Int.toNat s.2.2.2.2.1) 0) - 48))), s.2.2.2.2.2.2.1.2.2.2.2.2), s.2.2.2.2.2.2.2)))
            (.ite (u8I (List.getD x.2.2.2.2.2.1 (Int.toNat s.2.2.2.2.1) 0) == 99)
             (.ret (.on (s.1, bif u8I (List.getD x.2.2.2.2.2.1 (Int.toNat s.2.2.2.2.1) 0) == 120 then w64 (IntKind.wrap IntKind.u8 (u8I (List.getD x.2.2.1 (Int.toNat s.2.2.2.2.1) 0) - 48)) else s.2.1, bif u8I (List.getD x.2.2.2.2.2.1 (Int.toNat s.2.2.2.2.1) 0) == 120 then s.2.2.1 else bif u8I (List.getD x.2.2.2.2.2.1 (Int.toNat s.2.2.2.2.1) 0) == 121 then w64 (IntKind.wrap IntKind.u8 (u8I (List.getD x.2.2.1 (Int.toNat s.2.2.2.2.1) 0) - 48)) else s.2.2.1, bif u8I (List.getD x.2.2.2.2.2.1 (Int.toNat s.2.2.2.2.1) 0) == 120 then s.2.2.2.1 else bif u8I (List.getD x.2.2.2.2.2.1 (Int.toNat s.2.2.2.2.1) 0) == 121 then s.2.2.2.1 else bif u8I (List.getD x.2.2.2.2.2.1 (Int.toNat s.2.2.2.2.1) 0) == 89 then w64 (IntKind.wrap IntKind.u8 (u8I (List.getD x.2.2.1 (Int.toNat s.2.2.2.2.1) 0) - 48)) else s.2.2.2.1, w64 (s.2.2.2.2.1 + 1), s.2.2.2.2.2.1, (s.2.2.2.2.2.2.1.1, s.2.2.2.2.2.2.1.2.1, s.2.2.2.2.2.2.1.2.2.1, s.2.2.2.2.2.2.1.2.2.2.1, s.2.2.2.2.2.2.1.2.2.2.2.1, s.2.2.2.2.2.2.1.2.2.2.2.2.1, w64 (w64 (2 * s.2.2.2.2.2.2.1.2.2.2.2.2.2.1) + w64 (IntKind.wrap IntKind.u8 (u8I (List.getD x.2.2.1 (Int.toNat s.2.2.2.2.1) 0) - 48))), s.2.2.2.2.2.2.1.2.2.2.2.2.2.2), s.2.2.2.2.2.2.2)))
             (.ite (u8I (List.getD x.2.2.2.2.2.1 (Int.toNat s.2.2.2.2.1) 0) == 119)
              (.ret (.on (s.1, bif u8I (List.getD x.2.2.2.2.2.1 (Int.toNat s.2.2.2.2.1) 0) == 120 then w64 (IntKind.wrap IntKind.u8 (u8I (List.getD x.2.2.1 (Int.toNat s.2.2.2.2.1) 0) - 48)) else s.2.1, bif u8I (List.getD x.2.2.2.2.2.1 (Int.toNat s.2.2.2.2.1) 0) == 120 then s.2.2.1 else bif u8I (List.getD x.2.2.2.2.2.1 (Int.toNat s.2.2.2.2.1) 0) == 121 then w64 (IntKind.wrap IntKind.u8 (u8I (List.getD x.2.2.1 (Int.toNat s.2.2.2.2.1) 0) - 48)) else s.2.2.1, bif u8I (List.getD x.2.2.2.2.2.1 (Int.toNat s.2.2.2.2.1) 0) == 120 then s.2.2.2.1 else bif u8I (List.getD x.2.2.2.2.2.1 (Int.toNat s.2.2.2.2.1) 0) == 121 then s.2.2.2.1 else bif u8I (List.getD x.2.2.2.2.2.1 (Int.toNat s.2.2.2.2.1) 0) == 89 then w64 (IntKind.wrap IntKind.u8 (u8I (List.getD x.2.2.1 (Int.toNat s.2.2.2.2.1) 0) - 48)) else s.2.2.2.1, w64 (s.2.2.2.2.1 + 1), s.2.2.2.2.2.1, s.2.2.2.2.2.2.1, w64 (w64 (2 * s.2.2.2.2.2.2.2) + w64 (IntKind.wrap IntKind.u8 (u8I (List.getD x.2.2.1 (Int.toNat s.2.2.2.2.1) 0) - 48))))))
              (.ite (bif u8I (List.getD x.2.2.2.2.2.1 (Int.toNat s.2.2.2.2.1) 0) == 120 then u8I (List.getD x.2.2.2.2.2.1 (Int.toNat s.2.2.2.2.1) 0) == 120 else bif u8I (List.getD x.2.2.2.2.2.1 (Int.toNat s.2.2.2.2.1) 0) == 121 then u8I (List.getD x.2.2.2.2.2.1 (Int.toNat s.2.2.2.2.1) 0) == 121 else bif u8I (List.getD x.2.2.2.2.2.1 (Int.toNat s.2.2.2.2.1) 0) == 48 then u8I (List.getD x.2.2.2.2.2.1 (Int.toNat s.2.2.2.2.1) 0) == 48 else u8I (List.getD x.2.2.2.2.2.1 (Int.toNat s.2.2.2.2.1) 0) == 49)
               (.ret (.on (s.1, bif u8I (List.getD x.2.2.2.2.2.1 (Int.toNat s.2.2.2.2.1) 0) == 120 then w64 (IntKind.wrap IntKind.u8 (u8I (List.getD x.2.2.1 (Int.toNat s.2.2.2.2.1) 0) - 48)) else s.2.1, bif u8I (List.getD x.2.2.2.2.2.1 (Int.toNat s.2.2.2.2.1) 0) == 120 then s.2.2.1 else bif u8I (List.getD x.2.2.2.2.2.1 (Int.toNat s.2.2.2.2.1) 0) == 121 then w64 (IntKind.wrap IntKind.u8 (u8I (List.getD x.2.2.1 (Int.toNat s.2.2.2.2.1) 0) - 48)) else s.2.2.1, bif u8I (List.getD x.2.2.2.2.2.1 (Int.toNat s.2.2.2.2.1) 0) == 120 then s.2.2.2.1 else bif u8I (List.getD x.2.2.2.2.2.1 (Int.toNat s.2.2.2.2.1) 0) == 121 then s.2.2.2.1 else bif u8I (List.getD x.2.2.2.2.2.1 (Int.toNat s.2.2.2.2.1) 0) == 89 then w64 (IntKind.wrap IntKind.u8 (u8I (List.getD x.2.2.1 (Int.toNat s.2.2.2.2.1) 0) - 48)) else s.2.2.2.1, w64 (s.2.2.2.2.1 + 1), s.2.2.2.2.2.1, s.2.2.2.2.2.2.1, s.2.2.2.2.2.2.2)))
               (.ite (G_hauberkref03_power (w64 (IntKind.wrap IntKind.u8 (u8I (List.getD x.2.2.2.2.2.1 (Int.toNat s.2.2.2.2.1) 0) - 65))))
                (.ret (.on (s.1, bif u8I (List.getD x.2.2.2.2.2.1 (Int.toNat s.2.2.2.2.1) 0) == 120 then w64 (IntKind.wrap IntKind.u8 (u8I (List.getD x.2.2.1 (Int.toNat s.2.2.2.2.1) 0) - 48)) else s.2.1, bif u8I (List.getD x.2.2.2.2.2.1 (Int.toNat s.2.2.2.2.1) 0) == 120 then s.2.2.1 else bif u8I (List.getD x.2.2.2.2.2.1 (Int.toNat s.2.2.2.2.1) 0) == 121 then w64 (IntKind.wrap IntKind.u8 (u8I (List.getD x.2.2.1 (Int.toNat s.2.2.2.2.1) 0) - 48)) else s.2.2.1, bif u8I (List.getD x.2.2.2.2.2.1 (Int.toNat s.2.2.2.2.1) 0) == 120 then s.2.2.2.1 else bif u8I (List.getD x.2.2.2.2.2.1 (Int.toNat s.2.2.2.2.1) 0) == 121 then s.2.2.2.1 else bif u8I (List.getD x.2.2.2.2.2.1 (Int.toNat s.2.2.2.2.1) 0) == 89 then w64 (IntKind.wrap IntKind.u8 (u8I (List.getD x.2.2.1 (Int.toNat s.2.2.2.2.1) 0) - 48)) else s.2.2.2.1, w64 (s.2.2.2.2.1 + 1), s.2.2.2.2.2.1, (s.2.2.2.2.2.2.1.1, s.2.2.2.2.2.2.1.2.1, s.2.2.2.2.2.2.1.2.2.1, s.2.2.2.2.2.2.1.2.2.2.1, s.2.2.2.2.2.2.1.2.2.2.2.1, w64 (s.2.2.2.2.2.2.1.2.2.2.2.2.1 + w64 (w64 (IntKind.wrap IntKind.u8 (u8I (List.getD x.2.2.1 (Int.toNat s.2.2.2.2.1) 0) - 48)) * V_hauberkref03_power (w64 (IntKind.wrap IntKind.u8 (u8I (List.getD x.2.2.2.2.2.1 (Int.toNat s.2.2.2.2.1) 0) - 65))))), s.2.2.2.2.2.2.1.2.2.2.2.2.2), s.2.2.2.2.2.2.2)))
                .fail))))))))
        .fail)
       .fail))
     .fail)
    .fail)
   (.ret (.out 0 (s.1, s.2.1, s.2.2.1, s.2.2.2.1, s.2.2.2.2.1, s.2.2.2.2.2.1, s.2.2.2.2.2.2.1, s.2.2.2.2.2.2.2))))
/-- hauberkref03.read -/
abbrev A_hauberkref03_read : List Ty := [(.int .i64), .bool, .str]
abbrev S_hauberkref03_read : Sh := Sh.tup (Sh.pair (Sh.ty tIns) (Sh.pair (Sh.ty Ty.bool) (Sh.ty Ty.unit)))
def T_hauberkref03_read (x : dens A_hauberkref03_read) : PO (Sh.den S_hauberkref03_read) :=
  (.ite (lenI (V_hauberkref02_Bits (x.1, x.2.1)) != lenI x.2.2 || V_hauberkref02_Bits (x.1, x.2.1) == [])
   (.ret (((0, 0, 0, 0, 0, 0, 0, false, ()), false, ())))
   (.opt (LoopN.res L_hauberkref03_read_8 (x.1, x.2.1, x.2.2, (), false, V_hauberkref02_Bits (x.1, x.2.1), (), (), 0, 0, 0, 0) ((0, 0, 0, 0, 0, 0, 0, false, ()), (x.1, 0, 0, 0, 0, 0, 0, x.2.1, ()), 0)) fun p0 =>
    (.ite (way p0.1)
     (.ite (x.1 == 18)
      (.ite (G_hauberkref02_Check (p0.2.2.2.2.2.2.2.1.1, p0.2.2.2.2.2.2.2.1.2.1, p0.2.2.2.2.2.2.2.1.2.2.1, p0.2.2.2.2.2.2.2.1.2.2.2.1, w64 (w64 (p0.2.2.2.2.2.2.2.2 + 1) - p0.2.2.2.2.2.2.2.1.2.2.2.2.2.1), p0.2.2.2.2.2.2.2.1.2.2.2.2.2))
       (.ret (((p0.2.2.2.2.2.2.2.1.1, p0.2.2.2.2.2.2.2.1.2.1, p0.2.2.2.2.2.2.2.1.2.2.1, p0.2.2.2.2.2.2.2.1.2.2.2.1, w64 (w64 (p0.2.2.2.2.2.2.2.2 + 1) - p0.2.2.2.2.2.2.2.1.2.2.2.2.2.1), p0.2.2.2.2.2.2.2.1.2.2.2.2.2), V_hauberkref02_Check (p0.2.2.2.2.2.2.2.1.1, p0.2.2.2.2.2.2.2.1.2.1, p0.2.2.2.2.2.2.2.1.2.2.1, p0.2.2.2.2.2.2.2.1.2.2.2.1, w64 (w64 (p0.2.2.2.2.2.2.2.2 + 1) - p0.2.2.2.2.2.2.2.1.2.2.2.2.2.1), p0.2.2.2.2.2.2.2.1.2.2.2.2.2) == 0, ())))
       .fail)
      (.ite (x.1 == 24 && x.2.1)
       (.ite (G_hauberkref03_power 23)
        (.ite (G_hauberkref03_power 22)
         (.ite (G_hauberkref03_sign (w64 (w64 (p0.2.2.2.2.2.2.2.1.2.2.2.2.2.1 + w64 (Int.tmod (w64 (w64 (p0.2.2.1 + p0.2.2.2.2.1) + 1)) 2 * V_hauberkref03_power 23)) + w64 (Int.tmod (w64 (w64 (p0.2.2.2.1 + p0.2.2.2.2.1) + 1)) 2 * V_hauberkref03_power 22)), 24))
          (.ite (G_hauberkref02_Check (p0.2.2.2.2.2.2.2.1.1, p0.2.2.2.2.2.2.2.1.2.1, p0.2.2.2.2.2.2.2.1.2.2.1, p0.2.2.2.2.2.2.2.1.2.2.2.1, p0.2.2.2.2.2.2.2.1.2.2.2.2.1, V_hauberkref03_sign (w64 (w64 (p0.2.2.2.2.2.2.2.1.2.2.2.2.2.1 + w64 (Int.tmod (w64 (w64 (p0.2.2.1 + p0.2.2.2.2.1) + 1)) 2 * V_hauberkref03_power 23)) + w64 (Int.tmod (w64 (w64 (p0.2.2.2.1 + p0.2.2.2.2.1) + 1)) 2 * V_hauberkref03_power 22)), 24), p0.2.2.2.2.2.2.2.1.2.2.2.2.2.2))
           (.ret (((p0.2.2.2.2.2.2.2.1.1, p0.2.2.2.2.2.2.2.1.2.1, p0.2.2.2.2.2.2.2.1.2.2.1, p0.2.2.2.2.2.2.2.1.2.2.2.1, p0.2.2.2.2.2.2.2.1.2.2.2.2.1, V_hauberkref03_sign (w64 (w64 (p0.2.2.2.2.2.2.2.1.2.2.2.2.2.1 + w64 (Int.tmod (w64 (w64 (p0.2.2.1 + p0.2.2.2.2.1) + 1)) 2 * V_hauberkref03_power 23)) + w64 (Int.tmod (w64 (w64 (p0.2.2.2.1 + p0.2.2.2.2.1) + 1)) 2 * V_hauberkref03_power 22)), 24), p0.2.2.2.2.2.2.2.1.2.2.2.2.2.2), V_hauberkref02_Check (p0.2.2.2.2.2.2.2.1.1, p0.2.2.2.2.2.2.2.1.2.1, p0.2.2.2.2.2.2.2.1.2.2.1, p0.2.2.2.2.2.2.2.1.2.2.2.1, p0.2.2.2.2.2.2.2.1.2.2.2.2.1, V_hauberkref03_sign (w64 (w64 (p0.2.2.2.2.2.2.2.1.2.2.2.2.2.1 + w64 (Int.tmod (w64 (w64 (p0.2.2.1 + p0.2.2.2.2.1) + 1)) 2 * V_hauberkref03_power 23)) + w64 (Int.tmod (w64 (w64 (p0.2.2.2.1 + p0.2.2.2.2.1) + 1)) 2 * V_hauberkref03_power 22)), 24), p0.2.2.2.2.2.2.2.1.2.2.2.2.2.2) == 0, ())))
           .fail)
          .fail)
         .fail)
        .fail)
       (.ite (x.1 == 24)
        (.ite (G_hauberkref03_sign (p0.2.2.2.2.2.2.2.1.2.2.2.2.2.1, 11))
         (.ite (G_hauberkref02_Check (p0.2.2.2.2.2.2.2.1.1, p0.2.2.2.2.2.2.2.1.2.1, p0.2.2.2.2.2.2.2.1.2.2.1, p0.2.2.2.2.2.2.2.1.2.2.2.1, p0.2.2.2.2.2.2.2.1.2.2.2.2.1, V_hauberkref03_sign (p0.2.2.2.2.2.2.2.1.2.2.2.2.2.1, 11), p0.2.2.2.2.2.2.2.1.2.2.2.2.2.2))
          (.ret (((p0.2.2.2.2.2.2.2.1.1, p0.2.2.2.2.2.2.2.1.2.1, p0.2.2.2.2.2.2.2.1.2.2.1, p0.2.2.2.2.2.2.2.1.2.2.2.1, p0.2.2.2.2.2.2.2.1.2.2.2.2.1, V_hauberkref03_sign (p0.2.2.2.2.2.2.2.1.2.2.2.2.2.1, 11), p0.2.2.2.2.2.2.2.1.2.2.2.2.2.2), V_hauberkref02_Check (p0.2.2.2.2.2.2.2.1.1, p0.2.2.2.2.2.2.2.1.2.1, p0.2.2.2.2.2.2.2.1.2.2.1, p0.2.2.2.2.2.2.2.1.2.2.2.1, p0.2.2.2.2.2.2.2.1.2.2.2.2.1, V_hauberkref03_sign (p0.2.2.2.2.2.2.2.1.2.2.2.2.2.1, 11), p0.2.2.2.2.2.2.2.1.2.2.2.2.2.2) == 0, ())))
          .fail)
         .fail)
        (.ite (x.1 == 25 && x.2.1)
         (.ite (G_hauberkref03_sign (p0.2.2.2.2.2.2.2.1.2.2.2.2.2.1, 20))
          (.ite (G_hauberkref02_Check (p0.2.2.2.2.2.2.2.1.1, p0.2.2.2.2.2.2.2.1.2.1, p0.2.2.2.2.2.2.2.1.2.2.1, p0.2.2.2.2.2.2.2.1.2.2.2.1, p0.2.2.2.2.2.2.2.1.2.2.2.2.1, V_hauberkref03_sign (p0.2.2.2.2.2.2.2.1.2.2.2.2.2.1, 20), p0.2.2.2.2.2.2.2.1.2.2.2.2.2.2))
           (.ret (((p0.2.2.2.2.2.2.2.1.1, p0.2.2.2.2.2.2.2.1.2.1, p0.2.2.2.2.2.2.2.1.2.2.1, p0.2.2.2.2.2.2.2.1.2.2.2.1, p0.2.2.2.2.2.2.2.1.2.2.2.2.1, V_hauberkref03_sign (p0.2.2.2.2.2.2.2.1.2.2.2.2.2.1, 20), p0.2.2.2.2.2.2.2.1.2.2.2.2.2.2), V_hauberkref02_Check (p0.2.2.2.2.2.2.2.1.1, p0.2.2.2.2.2.2.2.1.2.1, p0.2.2.2.2.2.2.2.1.2.2.1, p0.2.2.2.2.2.2.2.1.2.2.2.1, p0.2.2.2.2.2.2.2.1.2.2.2.2.1, V_hauberkref03_sign (p0.2.2.2.2.2.2.2.1.2.2.2.2.2.1, 20), p0.2.2.2.2.2.2.2.1.2.2.2.2.2.2) == 0, ())))
           .fail)
          .fail)
         (.ite (x.1 == 25)
          (.ite (G_hauberkref03_sign (p0.2.2.2.2.2.2.2.1.2.2.2.2.2.1, 8))
           (.ite (G_hauberkref02_Check (p0.2.2.2.2.2.2.2.1.1, p0.2.2.2.2.2.2.2.1.2.1, p0.2.2.2.2.2.2.2.1.2.2.1, p0.2.2.2.2.2.2.2.1.2.2.2.1, p0.2.2.2.2.2.2.2.1.2.2.2.2.1, V_hauberkref03_sign (p0.2.2.2.2.2.2.2.1.2.2.2.2.2.1, 8), p0.2.2.2.2.2.2.2.1.2.2.2.2.2.2))
            (.ret (((p0.2.2.2.2.2.2.2.1.1, p0.2.2.2.2.2.2.2.1.2.1, p0.2.2.2.2.2.2.2.1.2.2.1, p0.2.2.2.2.2.2.2.1.2.2.2.1, p0.2.2.2.2.2.2.2.1.2.2.2.2.1, V_hauberkref03_sign (p0.2.2.2.2.2.2.2.1.2.2.2.2.2.1, 8), p0.2.2.2.2.2.2.2.1.2.2.2.2.2.2), V_hauberkref02_Check (p0.2.2.2.2.2.2.2.1.1, p0.2.2.2.2.2.2.2.1.2.1, p0.2.2.2.2.2.2.2.1.2.2.1, p0.2.2.2.2.2.2.2.1.2.2.2.1, p0.2.2.2.2.2.2.2.1.2.2.2.2.1, V_hauberkref03_sign (p0.2.2.2.2.2.2.2.1.2.2.2.2.2.1, 8), p0.2.2.2.2.2.2.2.1.2.2.2.2.2.2) == 0, ())))
            .fail)
           .fail)
          (.ite (G_hauberkref02_Check p0.2.2.2.2.2.2.2.1)
           (.ret ((p0.2.2.2.2.2.2.2.1, V_hauberkref02_Check p0.2.2.2.2.2.2.2.1 == 0, ())))
           .fail))))))
     (.ret ((p0.2.2.2.2.2.2.1, p0.2.1, ()))))))
def G_hauberkref03_read (x : dens A_hauberkref03_read) : Bool := (T_hauberkref03_read x).val.isSome
def V_hauberkref03_read (x : dens A_hauberkref03_read) : Sh.den S_hauberkref03_read := (T_hauberkref03_read x).getO default
theorem ok_hauberkref03_read (x : dens A_hauberkref03_read) (h : G_hauberkref03_read x = true) : (T_hauberkref03_read x).val = some (V_hauberkref03_read x) := PO.getO_ok default h
def L_hauberkref03_Decode_8 : LoopN where
  M := [2, 3, 4, 5, 6, 7]
  T := [8, 9, 10, 11, 31, 32, 33, 34, 35, 36, 37, 38, 39, 40, 41, 42, 43, 44, 45, 46, 47, 48, 49, 50, 51, 52]
  D := [5, 6, 7]
  ss := [.box 0 0, .ty (.int .i64), .ty (.int .i64), .ty (.int .i64), .ty .str, .ty (.int .i64)]
  hs := [.ty tIns]
  es := [.exit 0, .ret]
  σ := (Ty.den (.int .i64)) × (Ty.den (.int .i64)) × (Ty.den (.int .i64)) × (Sh.den (.ty tIns))
  x0 := fun x y => (x.2.1, x.2.2.1, x.2.2.2.2.2, y)
  put := fun x _ s => ((x.1, s.1, s.2.1, x.2.2.2.1, x.2.2.2.2.1, s.2.2.1), s.2.2.2)
  fuel := fun _ _ => 30
  turn := fun x _ s =>
  (.ite (decide (s.2.2.1 ≤ 25))
   (.ite (G_hauberkref03_read (s.2.2.1, false, x.2.2.2.2.1))
    (.ite ((V_hauberkref03_read (s.2.2.1, false, x.2.2.2.2.1)).2.1)
     (.ret (.out 1 (x.2.2.2.1, 0, s.2.2.1, (V_hauberkref03_read (s.2.2.1, false, x.2.2.2.2.1)).1)))
     (.ite (G_hauberkref03_read (s.2.2.1, true, x.2.2.2.2.1))
      (.ite ((V_hauberkref03_read (s.2.2.1, true, x.2.2.2.2.1)).2.1)
       (.ret (.out 1 (x.2.2.2.1, 0, s.2.2.1, (V_hauberkref03_read (s.2.2.1, true, x.2.2.2.2.1)).1)))
       (.ret (.on (s.1, s.2.1, w64 (s.2.2.1 + 1), s.2.2.2))))
      .fail))
    .fail)
   (.ret (.out 0 (s.1, s.2.1, s.2.2.1, s.2.2.2))))
/-- hauberkref03.Decode -/
abbrev A_hauberkref03_Decode : List Ty := [.str]
abbrev S_hauberkref03_Decode : Sh := Sh.tup (Sh.pair (Sh.ty tIns) (Sh.pair (Sh.ty (Ty.int IntKind.i64)) (Sh.pair (Sh.ty (Ty.int IntKind.i64)) (Sh.ty Ty.unit))))
def T_hauberkref03_Decode (x : dens A_hauberkref03_Decode) : PO (Sh.den S_hauberkref03_Decode) :=
  (.ite (G_hauberkref03_Size x)
   (.ite (V_hauberkref03_Size x == 0 || decide (lenI x < V_hauberkref03_Size x))
    (.ret (((0, 0, 0, 0, 0, 0, 0, false, ()), 0, 3, ())))
    (.ite (G_hauberkref03_half (x, 0))
     (.ite (bif V_hauberkref03_Size x == 4 then G_hauberkref03_half (x, 1) && Nat.ble (List.length (V_hauberkref03_half (x, 0)) + List.length (V_hauberkref03_half (x, 1))) 9223372036854775807 else true)
      (.opt (LoopN.res L_hauberkref03_Decode_8 ((), 0, 0, V_hauberkref03_Size x, bif V_hauberkref03_Size x == 4 then V_hauberkref03_half (x, 0) ++ V_hauberkref03_half (x, 1) else V_hauberkref03_half (x, 0), 1) (0, 0, 0, 0, 0, 0, 0, false, ())) fun p0 =>
       (.ite (way p0.1)
        (.ret (((0, 0, 0, 0, 0, 0, 0, false, ()), 0, 7, ())))
        (.ret ((p0.2.2.2.2, p0.2.1, p0.2.2.1, ())))))
      .fail)
     .fail))
   .fail)
def G_hauberkref03_Decode (x : dens A_hauberkref03_Decode) : Bool := (T_hauberkref03_Decode x).val.isSome
def V_hauberkref03_Decode (x : dens A_hauberkref03_Decode) : Sh.den S_hauberkref03_Decode := (T_hauberkref03_Decode x).getO default
theorem ok_hauberkref03_Decode (x : dens A_hauberkref03_Decode) (h : G_hauberkref03_Decode x = true) : (T_hauberkref03_Decode x).val = some (V_hauberkref03_Decode x) := PO.getO_ok default h
/-- hauberklaw03.lives: an example, computed -/
abbrev A_hauberklaw03_lives : List Ty := []
abbrev S_hauberklaw03_lives : Sh := .ty .bool
def T_hauberklaw03_lives (_ : dens A_hauberklaw03_lives) : PO Bool := .ret true
def G_hauberklaw03_lives (_ : dens A_hauberklaw03_lives) : Bool := true
def V_hauberklaw03_lives (_ : dens A_hauberklaw03_lives) : Bool := true
theorem ok_hauberklaw03_lives (x : dens A_hauberklaw03_lives) (_ : G_hauberklaw03_lives x = true) : (T_hauberklaw03_lives x).val = some (V_hauberklaw03_lives x) := rfl
end Go.Av
