/- Layers 5 and 7: which addresses there are, and the bytes that a machine has: as they are walked. -/
import Derived.Test.YtapfijocjgoilaaPWord
namespace Go.Av
open Go

/-- What a memory has: its regions, and windows of one row of bytes (box 1). -/
abbrev shMemT (t b : Nat) : Sh := .pair (.ty (.sl tRegion)) (.pair (.wsl (some t) b (.int .u8)) (.ty .unit))
abbrev shMemB (b : Nat) : Sh := shMemT 0 b
abbrev shMem : Sh := shMemB 1

/-- memmap.Check -/
abbrev A_memmap_Check : List Ty := [tSizes, (.int .i64)]
abbrev S_memmap_Check : Sh := Sh.ty (Ty.int IntKind.i64)
def T_memmap_Check (x : dens A_memmap_Check) : PO (Sh.den S_memmap_Check) :=
  (.ite (decide (x.1.1 < 0) || Int.tmod x.1.1 4 != 0)
   (.ret (2))
   (.ite (decide (x.1.2.1 < 0) || Int.tmod x.1.2.1 4 != 0)
    (.ret (2))
    (.ite (decide (x.1.2.2.1 < 0) || Int.tmod x.1.2.2.1 4 != 0)
     (.ret (2))
     (.ite (decide (x.2 < 0) || decide (x.1.2.2.1 < 4))
      (.ret (2))
      (.ite (decide (x.2 > 262144) || decide (x.1.1 > 65536) || decide (x.1.2.1 > 65536) || decide (x.1.2.2.1 > 65536))
       (.ret (5))
       (.ret (0)))))))
def G_memmap_Check (_ : dens A_memmap_Check) : Bool := true
def V_memmap_Check (x : dens A_memmap_Check) : Sh.den S_memmap_Check := (T_memmap_Check x).getO default
theorem ok_memmap_Check (x : dens A_memmap_Check) (_ : G_memmap_Check x = true) : (T_memmap_Check x).val = some (V_memmap_Check x) := PO.sure_ok default (by simp [T_memmap_Check, PO.sure])
/-- memmap.has -/
abbrev A_memmap_has : List Ty := [tRegion, (.int .i64), (.int .i64)]
abbrev S_memmap_has : Sh := Sh.ty Ty.bool
def T_memmap_has (x : dens A_memmap_has) : PO (Sh.den S_memmap_has) :=
  (.ret (decide (x.2.1 ≥ x.1.1) && (decide (x.1.2.1 ≥ x.2.2) && decide (w64 (x.2.1 - x.1.1) ≤ w64 (x.1.2.1 - x.2.2)))))
def G_memmap_has (_ : dens A_memmap_has) : Bool := true
def V_memmap_has (x : dens A_memmap_has) : Sh.den S_memmap_has := (T_memmap_has x).getO default
theorem ok_memmap_has (x : dens A_memmap_has) (_ : G_memmap_has x = true) : (T_memmap_has x).val = some (V_memmap_has x) := PO.sure_ok default (by simp [T_memmap_has, PO.sure])
def L_memmap_Find_6 : LoopN where
  M := [1, 2, 3, 8, 9, 24, 25, 26]
  T := [10, 11, 27, 28, 29, 30, 31, 32, 33, 34, 35, 36, 37, 38, 39, 40, 41, 42, 43]
  D := [1, 2, 3, 24, 25, 26]
  ss := [.ty (.int .i64), .ty (.int .i64), .ty .bool, .ty (.int .i64), .ty (.int .i64), .ty (.sl tRegion), .ty (.int .i64), .ty (.int .i64)]
  hs := []
  es := [.exit 1, .ret]
  σ := (Ty.den (.int .i64)) × (Ty.den (.int .i64)) × (Ty.den (.int .i64))
  x0 := fun x _ => (x.2.2.2.1, x.2.2.2.2.1, x.2.2.2.2.2.2.2)
  put := fun x _ s => ((x.1, x.2.1, x.2.2.1, s.1, s.2.1, x.2.2.2.2.2.1, x.2.2.2.2.2.2.1, s.2.2), ())
  fuel := fun x _ => List.length x.2.2.2.2.2.1 + 1
  turn := fun x _ s =>
  (.ite (decide (s.2.2 < x.2.2.2.2.2.2.1))
   (.ite (inRange s.2.2 (List.length x.2.2.2.2.2.1))
    (.ite (!V_memmap_has (List.getD x.2.2.2.2.2.1 (Int.toNat s.2.2) (Ty.dflt tRegion), x.1, x.2.1))
     (.ret (.on (s.1, s.2.1, w64 (s.2.2 + 1))))
     (.ite (x.2.2.1 && !(List.getD x.2.2.2.2.2.1 (Int.toNat s.2.2) (Ty.dflt tRegion)).2.2.1)
      (.ret (.out 0 (s.1, s.2.1, s.2.2)))
      (.ret (.out 1 (s.2.2, 0, s.2.2)))))
    .fail)
   (.ret (.out 0 (s.1, s.2.1, s.2.2))))
/-- Has a region so many bytes from an address on? -/
def hasB (r : Int × Int × Bool × Unit) (a n : Int) : Bool := decide (r.1 ≤ a ∧ n ≤ r.2.1 ∧ a - r.1 ≤ r.2.1 - n)

def RegOk (r : Int × Int × Bool × Unit) : Prop := 0 ≤ r.1 ∧ 0 ≤ r.2.1 ∧ r.1 < 4611686018427387904 ∧ r.2.1 < 4611686018427387904

theorem has_eq (r : Int × Int × Bool × Unit) (a n : Int) (h : RegOk r) (hn : 0 ≤ n) (ha : a < 9223372036854775808) : V_memmap_has (r, a, n) = hasB r a n := by
  obtain ⟨h1, h2, h3, h4⟩ := h
  show (decide (a ≥ r.1) && (decide (r.2.1 ≥ n) && decide (w64 (a - r.1) ≤ w64 (r.2.1 - n)))) = _
  unfold hasB
  by_cases c1 : r.1 ≤ a
  · by_cases c2 : n ≤ r.2.1
    · rw [w64_id (n := a - r.1) (by omega) (by omega), w64_id (n := r.2.1 - n) (by omega) (by omega)]
      simp [c1, c2]
    · simp [c2]
  · simp [c1]

/-- The region of an access. -/
def findX (a n : Int) (w : Bool) : List (Int × Int × Bool × Unit) → Option Nat
  | [] => none
  | r :: l => bif hasB r a n then (bif w && !r.2.2.1 then none else some 0) else (findX a n w l).map (· + 1)

theorem find_from (l : List (Int × Int × Bool × Unit)) (a n : Int) (w : Bool) (hl : l.length < 4611686018427387904) (hr : ∀ r ∈ l, RegOk r) (hn : 0 ≤ n) (ha : a < 9223372036854775808) :
    ∀ (k i : Nat), i + k = l.length → ∀ f, k < f → ∃ p, runL (L_memmap_Find_6.turn (a, n, w, 0, 0, l, lenI l, 0) ()) f ((0 : Int), (0 : Int), (i : Int)) = some p ∧
      match findX a n w (l.drop i) with
      | some j => p.1 = 1 ∧ p.2.1 = ((i + j : Nat) : Int) ∧ p.2.2.1 = 0
      | none => p.1 = 0
  | 0, i, hi, f, hf => by
    obtain ⟨f, rfl⟩ : ∃ g, f = g + 1 := ⟨f - 1, by omega⟩
    rw [List.drop_of_length_le (by omega)]
    refine ⟨_, runL_out (c := 0) (s' := ((0 : Int), (0 : Int), (i : Int))) ?_, rfl⟩
    exact val_no (dec_false (by show ¬ ((i : Int) < ((l.length : Nat) : Int)); omega))
  | k + 1, i, hi, f, hf => by
    obtain ⟨f, rfl⟩ : ∃ g, f = g + 1 := ⟨f - 1, by omega⟩
    have hlt : i < l.length := by omega
    have hd : l.drop i = l[i] :: l.drop (i + 1) := List.drop_eq_getElem_cons hlt
    have hg : List.getD l (Int.toNat (i : Int)) (Ty.dflt tRegion) = l[i] := by rw [Int.toNat_natCast]; exact getD_in l _ hlt
    have t1 : (L_memmap_Find_6.turn (a, n, w, 0, 0, l, lenI l, 0) () ((0 : Int), (0 : Int), (i : Int))).val =
        (PO.ite (!V_memmap_has (l[i], a, n)) (PO.ret (TL.on ((0 : Int), (0 : Int), w64 ((i : Int) + 1))))
          (PO.ite (w && !(l[i]).2.2.1) (PO.ret (TL.out 0 ((0 : Int), (0 : Int), (i : Int)))) (PO.ret (TL.out 1 ((i : Int), (0 : Int), (i : Int)))))).val := by
      refine (val_yes (dec_true (by show ((i : Int) < ((l.length : Nat) : Int)); omega))).trans ((val_yes (inR hlt)).trans ?_)
      show (PO.ite (!V_memmap_has (List.getD l (Int.toNat (i : Int)) (Ty.dflt tRegion), a, n)) _ (PO.ite (w && !(List.getD l (Int.toNat (i : Int)) (Ty.dflt tRegion)).2.2.1) _ _)).val = _
      rw [hg]
      rfl
    rw [has_eq _ a n (hr _ (List.getElem_mem hlt)) hn ha] at t1
    cases hh : hasB l[i] a n with
    | false =>
      rw [hh] at t1
      obtain ⟨p, h1, h2⟩ := find_from l a n w hl hr hn ha k (i + 1) (by omega) f (by omega)
      refine ⟨p, (runL_on (t1.trans (by rw [w64_id (by omega) (by omega)]; rfl))).trans h1, ?_⟩
      rw [hd]
      simp only [findX, hh, cond_false]
      cases hf2 : findX a n w (l.drop (i + 1)) with
      | none => rw [hf2] at h2; exact h2
      | some j =>
        rw [hf2] at h2
        obtain ⟨q1, q2, q3⟩ := h2
        exact ⟨q1, by rw [q2]; show ((i + 1 + j : Nat) : Int) = ((i + (j + 1) : Nat) : Int); congr 1; omega, q3⟩
    | true =>
      rw [hh] at t1
      rw [hd]
      simp only [findX, hh, cond_true]
      cases hw : (w && !(l[i]).2.2.1) with
      | true =>
        rw [hw] at t1
        exact ⟨_, runL_out (t1.trans rfl), rfl⟩
      | false =>
        rw [hw] at t1
        exact ⟨_, runL_out (t1.trans rfl), rfl, by simp, rfl⟩

/-- Where an access is, or its error. -/
def findM (l : List (Int × Int × Bool × Unit)) (a n : Int) (w : Bool) : Int × Int × Unit :=
  bif n != 1 && n != 4 then (0, 2, ()) else bif a.tmod n != 0 then (0, 8, ()) else match findX a n w l with
    | none => (0, 8, ())
    | some j => ((j : Int), 0, ())

instance (r : Int × Int × Bool × Unit) : Decidable (RegOk r) := by unfold RegOk; infer_instance
def RegsOk (l : List (Int × Int × Bool × Unit)) : Prop := l.length < 4611686018427387904 ∧ ∀ r ∈ l, RegOk r
instance (l : List (Int × Int × Bool × Unit)) : Decidable (RegsOk l) := by unfold RegsOk; infer_instance
/-- memmap.Find -/
abbrev A_memmap_Find : List Ty := [(.sl tRegion), (.int .i64), (.int .i64), .bool]
abbrev S_memmap_Find : Sh := Sh.tup (Sh.pair (Sh.ty (Ty.int IntKind.i64)) (Sh.pair (Sh.ty (Ty.int IntKind.i64)) (Sh.ty Ty.unit)))
def T_memmap_Find (x : dens A_memmap_Find) : PO (Sh.den S_memmap_Find) :=
  (.ite (x.2.2.1 != 1 && x.2.2.1 != 4)
   (.ret ((0, 2, ())))
   (.ite (!x.2.2.1 == 0)
    (.ite (Int.tmod x.2.1 x.2.2.1 != 0)
     (.ret ((0, 8, ())))
     (.opt (LoopN.res L_memmap_Find_6 (x.2.1, x.2.2.1, x.2.2.2, 0, 0, x.1, lenI x.1, 0) ()) fun p0 =>
      (.ite (way p0.1)
       (.ret ((0, 8, ())))
       (.ret ((p0.2.1, p0.2.2.1, ()))))))
    .fail))
def G_memmap_Find (x : dens A_memmap_Find) : Bool := decide (RegsOk x.1 ∧ (show Int from x.2.1) < 9223372036854775808)
def V_memmap_Find (x : dens A_memmap_Find) : Sh.den S_memmap_Find := findM x.1 x.2.1 x.2.2.1 x.2.2.2
theorem ok_find (l : List (Int × Int × Bool × Unit)) (a n : Int) (w : Bool) (h1 : l.length < 4611686018427387904) (h2 : ∀ r ∈ l, RegOk r) (h3 : a < 9223372036854775808) : (T_memmap_Find (l, a, n, w)).val = some (findM l a n w) := by
  show (PO.ite (n != 1 && n != 4) _ _).val = some (findM l a n w)
  unfold findM
  cases c1 : (n != 1 && n != 4) with
  | true => rfl
  | false =>
    have hn : n = 1 ∨ n = 4 := by
      simp only [Bool.and_eq_false_iff, bne_eq_false_iff_eq] at c1
      exact c1
    have hn0 : 0 ≤ n := by omega
    refine (val_no rfl).trans ((val_yes (by show (!(n == 0)) = true; rcases hn with rfl | rfl <;> rfl)).trans ?_)
    cases c2 : (a.tmod n != 0) with
    | true => exact val_yes rfl
    | false =>
      refine (val_no rfl).trans ?_
      obtain ⟨p, e1, e2⟩ := find_from l a n w h1 h2 hn0 h3 l.length 0 (Nat.zero_add _) (l.length + 1) (Nat.lt_succ_self _)
      refine (val_opt (r := p) e1).trans ?_
      rw [List.drop_zero] at e2
      show (PO.ite (way p.1) _ _).val = _
      cases e : findX a n w l with
      | none => rw [e] at e2; exact val_yes (by rw [show p.1 = 0 from e2]; rfl)
      | some j =>
        rw [e] at e2
        obtain ⟨q1, q2, q3⟩ := e2
        refine (val_no (by rw [q1]; rfl)).trans ?_
        show some (p.2.1, p.2.2.1, ()) = _
        rw [q2, q3]
        simp
theorem ok_memmap_Find (x : dens A_memmap_Find) (h : G_memmap_Find x = true) : (T_memmap_Find x).val = some (V_memmap_Find x) :=
  have h' := of_decide_eq_true h
  ok_find x.1 x.2.1 x.2.2.1 x.2.2.2 h'.1.1 h'.1.2 h'.2
/-- word.Bytes -/
abbrev A_word_Bytes : List Ty := [(.int .i64)]
abbrev S_word_Bytes : Sh := Sh.ty Ty.str
def T_word_Bytes (x : dens A_word_Bytes) : PO (Sh.den S_word_Bytes) :=
  (.ret (bytesOf (shown (List.set (List.set (List.set (List.set [0, 0, 0, 0] (Int.toNat 0) (IntKind.wrap IntKind.u8 (ishr IntKind.i64 (V_word_Wrap x) 0))) (Int.toNat 1) (IntKind.wrap IntKind.u8 (ishr IntKind.i64 (V_word_Wrap x) 8))) (Int.toNat 2) (IntKind.wrap IntKind.u8 (ishr IntKind.i64 (V_word_Wrap x) 16))) (Int.toNat 3) (IntKind.wrap IntKind.u8 (ishr IntKind.i64 (V_word_Wrap x) 24))) (0, 4))))
def G_word_Bytes (_ : dens A_word_Bytes) : Bool := true
def V_word_Bytes (x : dens A_word_Bytes) : Sh.den S_word_Bytes := (T_word_Bytes x).getO default
theorem ok_word_Bytes (x : dens A_word_Bytes) (_ : G_word_Bytes x = true) : (T_word_Bytes x).val = some (V_word_Bytes x) := PO.sure_ok default (by simp [T_word_Bytes, PO.sure])
/-- What a memory comes to: regions, windows, the row of bytes. -/
abbrev MemT : Type := (List (Int × Int × Bool × Unit) × List (Nat × Nat) × Unit) × List Int

abbrev rDef : Int × Int × Bool × Unit := (0, 0, false, ())

structure MemWf (y : MemT) : Prop where
  regs : RegsOk y.1.1
  len : y.1.1.length = y.1.2.1.length
  wins : ∀ i, i < y.1.1.length → ((y.1.2.1.getD i (0, 0)).2 : Int) = (y.1.1.getD i rDef).2.1 ∧ (y.1.2.1.getD i (0, 0)).1 + (y.1.2.1.getD i (0, 0)).2 ≤ y.2.length
  bytes : ∀ b ∈ y.2, 0 ≤ b ∧ b < 256

instance (y : MemT) : Decidable (MemWf y) :=
  if h : RegsOk y.1.1 ∧ y.1.1.length = y.1.2.1.length ∧ (∀ i, i < y.1.1.length → ((y.1.2.1.getD i (0, 0)).2 : Int) = (y.1.1.getD i rDef).2.1 ∧ (y.1.2.1.getD i (0, 0)).1 + (y.1.2.1.getD i (0, 0)).2 ≤ y.2.length) ∧ ∀ b ∈ y.2, 0 ≤ b ∧ b < 256
  then isTrue ⟨h.1, h.2.1, h.2.2.1, h.2.2.2⟩ else isFalse fun h' => h ⟨h'.regs, h'.len, h'.wins, h'.bytes⟩

/-- Where the byte of an address lies, in a region. -/
def posM (y : MemT) (j : Nat) (a : Int) : Nat := (y.1.2.1.getD j (0, 0)).1 + (a - (y.1.1.getD j rDef).1).toNat

/-- A number of bytes, the least first. -/
def leV : List Int → Int
  | [] => 0
  | b :: l => b + 256 * leV l

theorem findX_spec {a n : Int} {w : Bool} : ∀ {l : List (Int × Int × Bool × Unit)} {j : Nat}, findX a n w l = some j → j < l.length ∧ hasB (l.getD j rDef) a n = true ∧ (w = true → (l.getD j rDef).2.2.1 = true)
  | [], _, h => by cases h
  | r :: l, j, h => by
    simp only [findX] at h
    cases hh : hasB r a n with
    | true =>
      rw [hh] at h
      cases hw : (w && !r.2.2.1) with
      | true => rw [hw] at h; cases h
      | false =>
        rw [hw] at h
        cases h
        refine ⟨Nat.succ_pos _, hh, fun hw' => ?_⟩
        rw [hw'] at hw
        simpa using hw
    | false =>
      rw [hh] at h
      simp only [cond_false] at h
      obtain ⟨k, h1, h2⟩ := Option.map_eq_some_iff.1 h
      subst h2
      obtain ⟨g1, g2, g3⟩ := findX_spec h1
      exact ⟨by simpa using g1, g2, g3⟩

theorem acc_ok {y : MemT} (hy : MemWf y) {a n : Int} {w : Bool} {j : Nat} (hj : findX a n w y.1.1 = some j) (hn : n = 1 ∨ n = 4) :
    j < y.1.1.length ∧ j < y.1.2.1.length ∧ 0 ≤ a - (y.1.1.getD j rDef).1 ∧ a - (y.1.1.getD j rDef).1 + n ≤ ((y.1.2.1.getD j (0, 0)).2 : Int) ∧ posM y j a + n.toNat ≤ y.2.length ∧
      w64 (a - (y.1.1.getD j rDef).1) = a - (y.1.1.getD j rDef).1 ∧ w64 (w64 (a - (y.1.1.getD j rDef).1) + n) = a - (y.1.1.getD j rDef).1 + n := by
  obtain ⟨h1, h2, _⟩ := findX_spec hj
  have hl : j < y.1.2.1.length := by rw [← hy.len]; exact h1
  obtain ⟨w1, w2⟩ := hy.wins j h1
  have hr : RegOk (y.1.1.getD j rDef) := by rw [getD_in y.1.1 rDef h1]; exact hy.regs.2 _ (List.getElem_mem h1)
  unfold posM
  generalize y.1.1.getD j rDef = r at *
  generalize y.1.2.1.getD j (0, 0) = W at *
  obtain ⟨rb, rl, rw', u⟩ := r
  obtain ⟨q1, q2, q3, q4⟩ := hr
  simp only [hasB, decide_eq_true_eq] at h2
  dsimp only at q1 q2 q3 q4 w1 h2 ⊢
  obtain ⟨c1, c2, c3⟩ := h2
  have e1 : w64 (a - rb) = a - rb := w64_id (by omega) (by omega)
  refine ⟨h1, hl, by omega, by omega, by omega, e1, ?_⟩
  rw [e1]
  exact w64_id (by omega) (by omega)

theorem ishl_sm (b k : Nat) (hk : k ≤ 62) (h : b * 2 ^ k < 4611686018427387904) : ishl .i64 (b : Int) (k : Int) = ((b * 2 ^ k : Nat) : Int) := by
  rw [ishl_nat _ _ (by omega)]
  have : (b : Int) * 2 ^ k = ((b * 2 ^ k : Nat) : Int) := by push_cast; rfl
  rw [this]
  exact w64_id (by omega) (by omega)

theorem bor_natM {a b : Nat} (ha : a < 9223372036854775808) (hb : b < 9223372036854775808) : bor .i64 (a : Int) (b : Int) = ((a ||| b : Nat) : Int) := by
  show w64 (BitVec.ofInt 64 (a : Int) ||| BitVec.ofInt 64 (b : Int)).toNat = _
  rw [BitVec.toNat_or, ofInt_nat (by omega), ofInt_nat (by omega)]
  have : a ||| b < 2 ^ 63 := Nat.or_lt_two_pow ha hb
  exact w64_id (by omega) (by omega)

theorem bor_sm (a b k : Nat) (hk : k ≤ 62) (ha : a < 2 ^ k) (h : b * 2 ^ k < 4611686018427387904) : bor .i64 (a : Int) (ishl .i64 (b : Int) (k : Int)) = ((b * 2 ^ k + a : Nat) : Int) := by
  have hp : (2 : Nat) ^ k ≤ 2 ^ 62 := Nat.pow_le_pow_right (by omega) hk
  rw [ishl_sm b k hk h, bor_natM (by omega) (by omega), Nat.or_comm, Nat.mul_comm b, Nat.two_pow_add_eq_or_of_lt ha]

def L_memory_Memory_Load_6 : LoopN where
  M := [10, 23, 24, 25]
  T := [11, 12, 26, 27, 28, 29, 30, 31, 32, 33, 34, 35, 36, 37]
  D := [23, 24, 25]
  ss := [.ty (.int .i64), .win 0 (.int .u8), .ty (.int .i64), .ty (.int .i64)]
  hs := [.rowc (.int .u8)]
  es := [.exit 0]
  σ := (Ty.den (.int .i64)) × (Ty.den (.int .i64)) × (Sh.den (.rowc (.int .u8)))
  x0 := fun x y => (x.1, x.2.2.2, y)
  put := fun x _ s => ((s.1, x.2.1, x.2.2.1, s.2.1), s.2.2)
  fuel := fun x _ => x.2.1.2+1
  turn := fun x _ s =>
  (.ite (decide (s.2.1 < x.2.2.1))
   (.ite (inRange s.2.1 x.2.1.2)
    (.ite (!decide (w64 (8 * s.2.1) < 0))
     (.ret (.on (bor IntKind.i64 s.1 (ishl IntKind.i64 (w64 (List.getD s.2.2 (nplus x.2.1.1 s.2.1) (Ty.dflt (Ty.int IntKind.u8)))) (w64 (8 * s.2.1))), w64 (s.2.1 + 1), s.2.2)))
     .fail)
    .fail)
   (.ret (.out 0 (s.1, s.2.1, s.2.2))))
theorem load_from (o m : Nat) (X : List Int) (hX : ∀ b ∈ X, 0 ≤ b ∧ b < 256) (ho : o + m ≤ X.length) (hm : m ≤ 4) : ∀ (k i : Nat), i + k = m → ∀ f, k < f → ∀ v : Nat, v < 2 ^ (8 * i) →
    runL (L_memory_Memory_Load_6.turn ((0 : Int), ((o, m) : Nat × Nat), (m : Int), (0 : Int)) X) f ((v : Int), (i : Int), X) = some (0, ((v : Int) + 2 ^ (8 * i) * leV ((X.drop (o + i)).take k), (m : Int), X))
  | 0, i, hi, f, hf, v, hv => by
    obtain ⟨f, rfl⟩ : ∃ g, f = g + 1 := ⟨f - 1, by omega⟩
    have him : i = m := by omega
    subst him
    refine (runL_out (c := 0) (s' := ((v : Int), (i : Int), X)) ?_).trans ?_
    · exact val_no (dec_false (by show ¬ ((i : Int) < (i : Int)); omega))
    · rw [List.take_zero]
      simp [leV]
  | k + 1, i, hi, f, hf, v, hv => by
    obtain ⟨f, rfl⟩ : ∃ g, f = g + 1 := ⟨f - 1, by omega⟩
    have hlt : o + i < X.length := by omega
    have hg : List.getD X (nplus o (i : Int)) (Ty.dflt (Ty.int IntKind.u8)) = X[o + i] := by
      rw [show nplus o (i : Int) = o + i by simp [nplus]]
      exact getD_in X _ hlt
    obtain ⟨b0, b1⟩ := hX _ (List.getElem_mem hlt)
    obtain ⟨bn, hbn⟩ : ∃ bn : Nat, X[o + i] = (bn : Int) := ⟨X[o + i].toNat, by omega⟩
    have h8 : (2 : Nat) ^ (8 * i) ≤ 2 ^ 24 := Nat.pow_le_pow_right (by omega) (by omega)
    have hp8 : (2 : Nat) ^ (8 * (i + 1)) = 2 ^ (8 * i) * 256 := by rw [show 8 * (i + 1) = 8 * i + 8 by omega, Nat.pow_add]
    have hmul : bn * 2 ^ (8 * i) ≤ 255 * 2 ^ (8 * i) := Nat.mul_le_mul_right _ (by omega)
    have e8 : w64 (8 * (i : Int)) = ((8 * i : Nat) : Int) := by rw [w64_id (by omega) (by omega)]; push_cast; rfl
    refine (runL_on (s' := (((bn * 2 ^ (8 * i) + v : Nat) : Int), ((i + 1 : Nat) : Int), X)) ?_).trans ?_
    · refine (val_yes (dec_true (by show ((i : Int) < (m : Int)); omega))).trans ((val_yes (inR (show i < m by omega))).trans ((val_yes ?_).trans ?_))
      · show (!decide (w64 (8 * (i : Int)) < 0)) = true
        rw [e8]
        simp
        omega
      · show some (TL.on (bor IntKind.i64 (v : Int) (ishl IntKind.i64 (w64 (List.getD X (nplus o (i : Int)) (Ty.dflt (Ty.int IntKind.u8)))) (w64 (8 * (i : Int)))), w64 ((i : Int) + 1), X)) = _
        rw [hg, hbn, w64_id (n := (bn : Int)) (by omega) (by omega), e8, bor_sm v bn (8 * i) (by omega) hv (by omega), w64_id (by omega) (by omega)]
        rfl
    · have := load_from o m X hX ho hm k (i + 1) (by omega) f (by omega) (bn * 2 ^ (8 * i) + v) (by rw [hp8]; omega)
      refine this.trans ?_
      rw [List.drop_eq_getElem_cons hlt, List.take_succ_cons, hbn]
      simp only [leV]
      congr 3
      rw [show (2 : Int) ^ (8 * (i + 1)) = 2 ^ (8 * i) * 256 by rw [show 8 * (i + 1) = 8 * i + 8 by omega, Int.pow_add]; rfl]
      push_cast
      generalize (2 : Int) ^ (8 * i) = p
      rw [show o + i + 1 = o + (i + 1) by omega]
      generalize leV _ = q
      grind

/-- What a load comes to. -/
def loadM (y : MemT) (a n : Int) : Int × Int × Unit :=
  match findM y.1.1 a n false with
  | (j, e, _) => bif e != 0 then (0, e, ()) else (leV ((y.2.drop (posM y j.toNat a)).take n.toNat), 0, ())

theorem findM_cases (l : List (Int × Int × Bool × Unit)) (a n : Int) (w : Bool) : (∃ e, e ≠ 0 ∧ findM l a n w = (0, e, ())) ∨ ∃ j, findX a n w l = some j ∧ (n = 1 ∨ n = 4) ∧ a.tmod n = 0 ∧ findM l a n w = ((j : Int), 0, ()) := by
  unfold findM
  cases c1 : (n != 1 && n != 4) with
  | true => exact .inl ⟨2, by decide, rfl⟩
  | false =>
    have hn : n = 1 ∨ n = 4 := by simpa only [Bool.and_eq_false_iff, bne_eq_false_iff_eq] using c1
    cases c2 : (a.tmod n != 0) with
    | true => exact .inl ⟨8, by decide, rfl⟩
    | false =>
      cases e : findX a n w l with
      | none => exact .inl ⟨8, by decide, rfl⟩
      | some j => exact .inr ⟨j, rfl, hn, by simpa only [bne_eq_false_iff_eq] using c2, rfl⟩
/-- (*memory.Memory).Load -/
abbrev SS_memory_Memory_Load : List Sh := [.box 0 0, .ty (.int .i64), .ty (.int .i64)]
abbrev HS_memory_Memory_Load : List Sh := [shMem, .rowc (.int .u8)]
abbrev S_memory_Memory_Load : Sh := Sh.tup (Sh.pair (Sh.ty (Ty.int IntKind.i64)) (Sh.pair (Sh.ty (Ty.int IntKind.i64)) (Sh.ty Ty.unit)))
abbrev HT_memory_Memory_Load : List Sh := [Sh.pair (Sh.ty (Ty.sl tSpot)) (Sh.pair (Sh.wsl (some 0) 1 (Ty.int IntKind.u8)) (Sh.ty Ty.unit)), Sh.rowc (Ty.int IntKind.u8)]
def T_memory_Memory_Load (x : shDens SS_memory_Memory_Load) (y : shDens HS_memory_Memory_Load) : PO (Sh.den S_memory_Memory_Load × shDens HT_memory_Memory_Load) :=
  (.ite (G_memmap_Find (y.1.1, x.2.1, x.2.2, false))
   (.ite ((V_memmap_Find (y.1.1, x.2.1, x.2.2, false)).2.1 != 0)
    (.ite ((V_memmap_Find (y.1.1, x.2.1, x.2.2, false)).2.1 != 0)
     (.ret ((0, (V_memmap_Find (y.1.1, x.2.1, x.2.2, false)).2.1, ()), (y.1, y.2)))
     .fail)
    (.ite (inRange (V_memmap_Find (y.1.1, x.2.1, x.2.2, false)).1 (List.length y.1.1))
     (.ite (inRange (V_memmap_Find (y.1.1, x.2.1, x.2.2, false)).1 (List.length y.1.2.1) && (decide (0 ≤ w64 (w64 (x.2.1 - (List.getD y.1.1 (Int.toNat (V_memmap_Find (y.1.1, x.2.1, x.2.2, false)).1) (Ty.dflt tRegion)).1) + x.2.2)) && decide (w64 (w64 (x.2.1 - (List.getD y.1.1 (Int.toNat (V_memmap_Find (y.1.1, x.2.1, x.2.2, false)).1) (Ty.dflt tRegion)).1) + x.2.2) ≤ Int.ofNat (wAt y.1.2.1 (V_memmap_Find (y.1.1, x.2.1, x.2.2, false)).1).2) && decide (0 ≤ w64 (x.2.1 - (List.getD y.1.1 (Int.toNat (V_memmap_Find (y.1.1, x.2.1, x.2.2, false)).1) (Ty.dflt tRegion)).1)) && decide (w64 (x.2.1 - (List.getD y.1.1 (Int.toNat (V_memmap_Find (y.1.1, x.2.1, x.2.2, false)).1) (Ty.dflt tRegion)).1) ≤ w64 (w64 (x.2.1 - (List.getD y.1.1 (Int.toNat (V_memmap_Find (y.1.1, x.2.1, x.2.2, false)).1) (Ty.dflt tRegion)).1) + x.2.2))))
      (.opt (LoopN.res L_memory_Memory_Load_6 (0, (nplus (wAt y.1.2.1 (V_memmap_Find (y.1.1, x.2.1, x.2.2, false)).1).1 (w64 (x.2.1 - (List.getD y.1.1 (Int.toNat (V_memmap_Find (y.1.1, x.2.1, x.2.2, false)).1) (Ty.dflt tRegion)).1)), nspan (w64 (x.2.1 - (List.getD y.1.1 (Int.toNat (V_memmap_Find (y.1.1, x.2.1, x.2.2, false)).1) (Ty.dflt tRegion)).1)) (w64 (w64 (x.2.1 - (List.getD y.1.1 (Int.toNat (V_memmap_Find (y.1.1, x.2.1, x.2.2, false)).1) (Ty.dflt tRegion)).1) + x.2.2))), Int.ofNat (nspan (w64 (x.2.1 - (List.getD y.1.1 (Int.toNat (V_memmap_Find (y.1.1, x.2.1, x.2.2, false)).1) (Ty.dflt tRegion)).1)) (w64 (w64 (x.2.1 - (List.getD y.1.1 (Int.toNat (V_memmap_Find (y.1.1, x.2.1, x.2.2, false)).1) (Ty.dflt tRegion)).1) + x.2.2))), 0) y.2) fun p0 =>
       (.ret ((p0.2.1, 0, ()), (y.1, p0.2.2.2))))
      .fail)
     .fail))
   .fail)
theorem ok_load (y : MemT) (a n : Int) (hy : MemWf y) (ha : a < 9223372036854775808) : (T_memory_Memory_Load ((), a, n) y).val = some (loadM y a n, y) := by
  have hG : G_memmap_Find (y.1.1, a, n, false) = true := decide_eq_true ⟨hy.regs, ha⟩
  refine (val_yes hG).trans ?_
  rcases findM_cases y.1.1 a n false with ⟨e, he, hf⟩ | ⟨j, hj, hn, _, hf⟩
  · have hV : V_memmap_Find (y.1.1, a, n, false) = (0, e, ()) := hf
    rw [hV]
    have hb : (e != 0) = true := by simpa using he
    refine (val_yes hb).trans ((val_yes hb).trans ?_)
    unfold loadM
    rw [hf]
    simp only [hb, cond_true]
    rfl
  · have hV : V_memmap_Find (y.1.1, a, n, false) = ((j : Int), 0, ()) := hf
    rw [hV]
    obtain ⟨g1, g2, g3, g4, g5, g6, g7⟩ := acc_ok hy hj hn
    have hgd : List.getD y.1.1 (Int.toNat (j : Int)) (Ty.dflt tRegion) = y.1.1.getD j rDef := by rw [Int.toNat_natCast]; rfl
    have hwa : wAt y.1.2.1 (j : Int) = y.1.2.1.getD j (0, 0) := by unfold wAt; rw [Int.toNat_natCast]
    refine (val_no rfl).trans ((val_yes (inR g1)).trans ?_)
    dsimp only
    rw [hgd, hwa, g7, g6]
    have hn4 : n.toNat ≤ 4 ∧ 0 ≤ n := by omega
    have hsp : nspan (a - (y.1.1.getD j rDef).1) (a - (y.1.1.getD j rDef).1 + n) = n.toNat := by unfold nspan; omega
    have hnp : nplus (y.1.2.1.getD j (0, 0)).1 (a - (y.1.1.getD j rDef).1) = posM y j a := rfl
    rw [hsp, hnp]
    refine (val_yes ?_).trans ?_
    · rw [inR g2]
      simp only [Bool.true_and, Bool.and_eq_true, decide_eq_true_eq]
      exact ⟨⟨⟨by omega, g4⟩, by omega⟩, by omega⟩
    · have := load_from (posM y j a) n.toNat y.2 hy.bytes g5 hn4.1 n.toNat 0 (by omega) (n.toNat + 1) (by omega) 0 (by simp)
      refine (val_opt (r := _) this).trans ?_
      unfold loadM
      rw [hf]
      simp
      rfl
def G_memory_Memory_Load (x : shDens SS_memory_Memory_Load) (y : shDens HS_memory_Memory_Load) : Bool := decide (MemWf y ∧ (show Int from x.2.1) < 9223372036854775808)
def V_memory_Memory_Load (x : shDens SS_memory_Memory_Load) (y : shDens HS_memory_Memory_Load) : Sh.den S_memory_Memory_Load × shDens HT_memory_Memory_Load := (loadM y x.2.1 x.2.2, y)
theorem ok_memory_Memory_Load (x : shDens SS_memory_Memory_Load) (y : shDens HS_memory_Memory_Load) (h : G_memory_Memory_Load x y = true) : (T_memory_Memory_Load x y).val = some (V_memory_Memory_Load x y) :=
  have h' := of_decide_eq_true h
  ok_load y x.2.1 x.2.2 h'.1 h'.2
/-- (*memory.Memory).Store -/
abbrev SS_memory_Memory_Store : List Sh := [.box 0 0, .ty (.int .i64), .ty (.int .i64), .ty (.int .i64)]
abbrev HS_memory_Memory_Store : List Sh := [shMem, .rowc (.int .u8)]
abbrev S_memory_Memory_Store : Sh := Sh.ty (Ty.int IntKind.i64)
abbrev HT_memory_Memory_Store : List Sh := [Sh.pair (Sh.ty (Ty.sl tSpot)) (Sh.pair (Sh.wsl (some 0) 1 (Ty.int IntKind.u8)) (Sh.ty Ty.unit)), Sh.rowc (Ty.int IntKind.u8)]
def T_memory_Memory_Store (x : shDens SS_memory_Memory_Store) (y : shDens HS_memory_Memory_Store) : PO (Sh.den S_memory_Memory_Store × shDens HT_memory_Memory_Store) :=
  (.ite (G_memmap_Find (y.1.1, x.2.1, x.2.2.1, true))
   (.ite ((V_memmap_Find (y.1.1, x.2.1, x.2.2.1, true)).2.1 != 0)
    (.ite ((V_memmap_Find (y.1.1, x.2.1, x.2.2.1, true)).2.1 != 0)
     (.ret ((V_memmap_Find (y.1.1, x.2.1, x.2.2.1, true)).2.1, (y.1, y.2)))
     .fail)
    (.ite (inRange (V_memmap_Find (y.1.1, x.2.1, x.2.2.1, true)).1 (List.length y.1.1))
     (.ite (inRange (V_memmap_Find (y.1.1, x.2.1, x.2.2.1, true)).1 (List.length y.1.2.1) && (decide (0 ≤ w64 (w64 (x.2.1 - (List.getD y.1.1 (Int.toNat (V_memmap_Find (y.1.1, x.2.1, x.2.2.1, true)).1) (Ty.dflt tRegion)).1) + x.2.2.1)) && decide (w64 (w64 (x.2.1 - (List.getD y.1.1 (Int.toNat (V_memmap_Find (y.1.1, x.2.1, x.2.2.1, true)).1) (Ty.dflt tRegion)).1) + x.2.2.1) ≤ Int.ofNat (wAt y.1.2.1 (V_memmap_Find (y.1.1, x.2.1, x.2.2.1, true)).1).2) && decide (0 ≤ w64 (x.2.1 - (List.getD y.1.1 (Int.toNat (V_memmap_Find (y.1.1, x.2.1, x.2.2.1, true)).1) (Ty.dflt tRegion)).1)) && decide (w64 (x.2.1 - (List.getD y.1.1 (Int.toNat (V_memmap_Find (y.1.1, x.2.1, x.2.2.1, true)).1) (Ty.dflt tRegion)).1) ≤ w64 (w64 (x.2.1 - (List.getD y.1.1 (Int.toNat (V_memmap_Find (y.1.1, x.2.1, x.2.2.1, true)).1) (Ty.dflt tRegion)).1) + x.2.2.1))))
      (.ret (0, (y.1, mend y.2 (nplus (wAt y.1.2.1 (V_memmap_Find (y.1.1, x.2.1, x.2.2.1, true)).1).1 (w64 (x.2.1 - (List.getD y.1.1 (Int.toNat (V_memmap_Find (y.1.1, x.2.1, x.2.2.1, true)).1) (Ty.dflt tRegion)).1))) (strInts (V_word_Bytes x.2.2.2)) (nspan (w64 (x.2.1 - (List.getD y.1.1 (Int.toNat (V_memmap_Find (y.1.1, x.2.1, x.2.2.1, true)).1) (Ty.dflt tRegion)).1)) (w64 (w64 (x.2.1 - (List.getD y.1.1 (Int.toNat (V_memmap_Find (y.1.1, x.2.1, x.2.2.1, true)).1) (Ty.dflt tRegion)).1) + x.2.2.1))))))
      .fail)
     .fail))
   .fail)
/-- A word's bytes, the least first. -/
def bytes4 (v : Int) : List Int := strInts (V_word_Bytes v)

/-- What a store comes to. -/
def storeM (y : MemT) (a n v : Int) : Int × MemT :=
  match findM y.1.1 a n true with
  | (j, e, _) => bif e != 0 then (e, y) else (0, (y.1, mend y.2 (posM y j.toNat a) (bytes4 v) n.toNat))

theorem ok_store (y : MemT) (a n v : Int) (hy : MemWf y) (ha : a < 9223372036854775808) : (T_memory_Memory_Store ((), a, n, v) y).val = some (storeM y a n v) := by
  have hG : G_memmap_Find (y.1.1, a, n, true) = true := decide_eq_true ⟨hy.regs, ha⟩
  refine (val_yes hG).trans ?_
  rcases findM_cases y.1.1 a n true with ⟨e, he, hf⟩ | ⟨j, hj, hn, _, hf⟩
  · have hV : V_memmap_Find (y.1.1, a, n, true) = (0, e, ()) := hf
    rw [hV]
    have hb : (e != 0) = true := by simpa using he
    refine (val_yes hb).trans ((val_yes hb).trans ?_)
    unfold storeM
    rw [hf]
    simp only [hb, cond_true]
    rfl
  · have hV : V_memmap_Find (y.1.1, a, n, true) = ((j : Int), 0, ()) := hf
    rw [hV]
    obtain ⟨g1, g2, g3, g4, g5, g6, g7⟩ := acc_ok hy hj hn
    have hgd : List.getD y.1.1 (Int.toNat (j : Int)) (Ty.dflt tRegion) = y.1.1.getD j rDef := by rw [Int.toNat_natCast]; rfl
    have hwa : wAt y.1.2.1 (j : Int) = y.1.2.1.getD j (0, 0) := by unfold wAt; rw [Int.toNat_natCast]
    refine (val_no rfl).trans ((val_yes (inR g1)).trans ?_)
    dsimp only
    rw [hgd, hwa, g7, g6]
    have hn4 : n.toNat ≤ 4 ∧ 0 ≤ n := by omega
    have hsp : nspan (a - (y.1.1.getD j rDef).1) (a - (y.1.1.getD j rDef).1 + n) = n.toNat := by unfold nspan; omega
    have hnp : nplus (y.1.2.1.getD j (0, 0)).1 (a - (y.1.1.getD j rDef).1) = posM y j a := rfl
    rw [hsp, hnp]
    refine (val_yes ?_).trans ?_
    · rw [inR g2]
      simp only [Bool.true_and, Bool.and_eq_true, decide_eq_true_eq]
      exact ⟨⟨⟨by omega, g4⟩, by omega⟩, by omega⟩
    · unfold storeM
      rw [hf]
      rfl
def G_memory_Memory_Store (x : shDens SS_memory_Memory_Store) (y : shDens HS_memory_Memory_Store) : Bool := decide (MemWf y ∧ (show Int from x.2.1) < 9223372036854775808)
def V_memory_Memory_Store (x : shDens SS_memory_Memory_Store) (y : shDens HS_memory_Memory_Store) : Sh.den S_memory_Memory_Store × shDens HT_memory_Memory_Store := storeM y x.2.1 x.2.2.1 x.2.2.2
theorem ok_memory_Memory_Store (x : shDens SS_memory_Memory_Store) (y : shDens HS_memory_Memory_Store) (h : G_memory_Memory_Store x y = true) : (T_memory_Memory_Store x y).val = some (V_memory_Memory_Store x y) :=
  have h' := of_decide_eq_true h
  ok_store y x.2.1 x.2.2.1 x.2.2.2 h'.1 h'.2
/-- (*memory.Memory).Region -/
abbrev SS_memory_Memory_Region : List Sh := [.box 0 0, .ty (.int .i64)]
abbrev HS_memory_Memory_Region : List Sh := [shMem, .rowc (.int .u8)]
abbrev S_memory_Memory_Region : Sh := Sh.tup (Sh.pair (Sh.ty Ty.str) (Sh.pair (Sh.ty (Ty.int IntKind.i64)) (Sh.ty Ty.unit)))
abbrev HT_memory_Memory_Region : List Sh := [Sh.pair (Sh.ty (Ty.sl tSpot)) (Sh.pair (Sh.wsl (some 0) 1 (Ty.int IntKind.u8)) (Sh.ty Ty.unit)), Sh.rowc (Ty.int IntKind.u8)]
def T_memory_Memory_Region (x : shDens SS_memory_Memory_Region) (y : shDens HS_memory_Memory_Region) : PO (Sh.den S_memory_Memory_Region × shDens HT_memory_Memory_Region) :=
  (.ite (decide (x.2 < 0) || decide (x.2 ≥ lenI y.1.2.1))
   (.ret (([], 2, ()), (y.1, y.2)))
   (.ite (inRange x.2 (List.length y.1.2.1))
    (.ret ((bytesOf (shown y.2 (wAt y.1.2.1 x.2)), 0, ()), (y.1, y.2)))
    .fail))
/-- What a region shows. -/
def regionM (y : MemT) (k : Int) : List UInt8 × Int × Unit := bif decide (k < 0) || decide (k ≥ lenI y.1.2.1) then ([], 2, ()) else (bytesOf (shown y.2 (wAt y.1.2.1 k)), 0, ())
def G_memory_Memory_Region (_ : shDens SS_memory_Memory_Region) (_ : shDens HS_memory_Memory_Region) : Bool := true
def V_memory_Memory_Region (x : shDens SS_memory_Memory_Region) (y : shDens HS_memory_Memory_Region) : Sh.den S_memory_Memory_Region × shDens HT_memory_Memory_Region := (regionM y x.2, y)
theorem ok_memory_Memory_Region (x : shDens SS_memory_Memory_Region) (y : shDens HS_memory_Memory_Region) (_ : G_memory_Memory_Region x y = true) : (T_memory_Memory_Region x y).val = some (V_memory_Memory_Region x y) := by
  obtain ⟨⟨⟩, k⟩ := x
  show (PO.ite (decide ((k : Int) < 0) || decide ((k : Int) ≥ lenI y.1.2.1)) _ _).val = some (regionM y k, y)
  unfold regionM
  cases c : (decide ((k : Int) < 0) || decide ((k : Int) ≥ lenI y.1.2.1)) with
  | true => rfl
  | false =>
    simp only [Bool.or_eq_false_iff, decide_eq_false_iff_not] at c
    refine (val_no rfl).trans ((val_yes ?_).trans rfl)
    show inRange k (List.length y.1.2.1) = true
    have h1 : ¬ ((k : Int) < 0) := c.1
    have h2 : ¬ ((k : Int) ≥ ((List.length y.1.2.1 : Nat) : Int)) := c.2
    simp only [inRange, Bool.and_eq_true, decide_eq_true_eq]
    exact ⟨Int.not_lt.1 h1, Int.not_le.1 h2⟩
/-- memmap.Regions -/
abbrev A_memmap_Regions : List Ty := [tSizes, (.int .i64)]
abbrev S_memmap_Regions : Sh := Sh.tup (Sh.pair (Sh.osl 32 tSpot) (Sh.pair (Sh.ty (Ty.int IntKind.i64)) (Sh.ty Ty.unit)))
def T_memmap_Regions (x : dens A_memmap_Regions) : PO (Sh.den S_memmap_Regions) :=
  (.ite (V_memmap_Check x != 0)
   (.ret (([], V_memmap_Check x, ())))
   (.ret (([(0, x.2, false, ()), (536936448, x.1.1, true, ()), (537001984, x.1.2.1, true, ()), (537133056, x.1.2.2.1, true, ()), (537395200, x.1.2.2.1, true, ()), (537919488, 4, true, ()), (538968064, 4, true, ())], 0, ()))))
def G_memmap_Regions (_ : dens A_memmap_Regions) : Bool := true
def V_memmap_Regions (x : dens A_memmap_Regions) : Sh.den S_memmap_Regions := (T_memmap_Regions x).getO default
theorem ok_memmap_Regions (x : dens A_memmap_Regions) (_ : G_memmap_Regions x = true) : (T_memmap_Regions x).val = some (V_memmap_Regions x) := PO.sure_ok default (by simp [T_memmap_Regions, PO.sure])
def L_memory_New_8 : LoopN where
  M := [1, 2, 8, 10, 32, 33, 34]
  T := [12, 35, 36, 37, 38, 39, 40, 41, 42]
  D := [32, 33, 34]
  ss := [.ty .str, .ty .str, .ty (.sl tRegion), .ty (.int .i64), .ty (.sl tRegion), .ty (.int .i64), .ty (.int .i64)]
  hs := []
  es := [.exit 0]
  σ := (Ty.den (.int .i64)) × (Ty.den (.int .i64))
  x0 := fun x _ => (x.2.2.2.1, x.2.2.2.2.2.2)
  put := fun x _ s => ((x.1, x.2.1, x.2.2.1, s.1, x.2.2.2.2.1, x.2.2.2.2.2.1, s.2), ())
  fuel := fun x _ => List.length x.2.2.2.2.1 + 1
  turn := fun x _ s =>
  (.ite (decide (s.2 < x.2.2.2.2.2.1))
   (.ite (inRange s.2 (List.length x.2.2.2.2.1))
    (.ret (.on (w64 (s.1 + (List.getD x.2.2.2.2.1 (Int.toNat s.2) (Ty.dflt tRegion)).2.1), w64 (s.2 + 1))))
    .fail)
   (.ret (.out 0 (s.1, s.2))))
def L_memory_New_15 : LoopN where
  M := [1, 2, 13, 14, 48, 49, 50]
  T := [16, 51, 52, 53, 54, 55, 56, 57, 58, 59, 60, 61, 62, 63, 64, 65, 66, 67, 68, 69, 70, 71]
  D := [14, 48, 49, 50]
  ss := [.ty .str, .ty .str, .box 0 0, .win 1 (.int .u8), .ty (.sl tRegion), .ty (.int .i64), .ty (.int .i64)]
  hs := [shMem, .rowc (.int .u8)]
  es := [.exit 2]
  σ := (Sh.den (.win 1 (.int .u8))) × (Ty.den (.int .i64)) × (Sh.den (shMem)) × (Sh.den (.rowc (.int .u8)))
  x0 := fun x y => (x.2.2.2.1, x.2.2.2.2.2.2, y.1, y.2)
  put := fun x _ s => ((x.1, x.2.1, x.2.2.1, s.1, x.2.2.2.2.1, x.2.2.2.2.2.1, s.2.1), (s.2.2.1, s.2.2.2))
  fuel := fun x _ => List.length x.2.2.2.2.1+1
  turn := fun x _ s =>
  (.ite (decide (s.2.1 < x.2.2.2.2.2.1))
   (.ite (inRange s.2.1 (List.length x.2.2.2.2.1))
    (.ite (decide (0 ≤ (List.getD x.2.2.2.2.1 (Int.toNat s.2.1) (Ty.dflt tRegion)).2.1) && decide ((List.getD x.2.2.2.2.1 (Int.toNat s.2.1) (Ty.dflt tRegion)).2.1 ≤ Int.ofNat s.1.2) && true && decide (0 ≤ (List.getD x.2.2.2.2.1 (Int.toNat s.2.1) (Ty.dflt tRegion)).2.1))
     (.ite (wroom s.2.2.1.2.1 [(nplus s.1.1 0, nspan 0 (List.getD x.2.2.2.2.1 (Int.toNat s.2.1) (Ty.dflt tRegion)).2.1)] 24)
      (.ite (decide (Int.ofNat s.1.2 ≤ Int.ofNat s.1.2) && decide (0 ≤ (List.getD x.2.2.2.2.1 (Int.toNat s.2.1) (Ty.dflt tRegion)).2.1) && decide ((List.getD x.2.2.2.2.1 (Int.toNat s.2.1) (Ty.dflt tRegion)).2.1 ≤ Int.ofNat s.1.2))
       (.ret (.on ((nplus s.1.1 (List.getD x.2.2.2.2.1 (Int.toNat s.2.1) (Ty.dflt tRegion)).2.1, nspan (List.getD x.2.2.2.2.1 (Int.toNat s.2.1) (Ty.dflt tRegion)).2.1 (Int.ofNat s.1.2)), w64 (s.2.1 + 1), (s.2.2.1.1, s.2.2.1.2.1 ++ [(nplus s.1.1 0, nspan 0 (List.getD x.2.2.2.2.1 (Int.toNat s.2.1) (Ty.dflt tRegion)).2.1)], s.2.2.1.2.2), s.2.2.2)))
       .fail)
      .fail)
     .fail)
    .fail)
   (.ret (.out 0 (s.1, s.2.1, s.2.2.1, s.2.2.2))))

/-! ### A new memory -/
/-- How long all regions are. -/
def sumL : List (Int × Int × Bool × Unit) → Nat
  | [] => 0
  | r :: l => r.2.1.toNat + sumL l

/-- Regions' windows, one behind the other. -/
def winsOf (o : Nat) : List (Int × Int × Bool × Unit) → List (Nat × Nat)
  | [] => []
  | r :: l => (o, r.2.1.toNat) :: winsOf (o + r.2.1.toNat) l

theorem winsOf_length : ∀ (l : List (Int × Int × Bool × Unit)) (o : Nat), (winsOf o l).length = l.length
  | [], _ => rfl
  | _ :: l, o => by simp [winsOf, winsOf_length l]

theorem winsOf_get : ∀ (l : List (Int × Int × Bool × Unit)) (o i : Nat), i < l.length → ((winsOf o l).getD i (0, 0)).2 = (l.getD i rDef).2.1.toNat ∧ ((winsOf o l).getD i (0, 0)).1 + ((winsOf o l).getD i (0, 0)).2 ≤ o + sumL l
  | [], _, _, h => by cases h
  | r :: l, o, 0, _ => ⟨rfl, by simp only [winsOf, sumL, List.getD_cons_zero]; omega⟩
  | r :: l, o, i + 1, h => by
    obtain ⟨h1, h2⟩ := winsOf_get l (o + r.2.1.toNat) i (by simpa using h)
    exact ⟨h1, by simp only [winsOf, sumL, List.getD_cons_succ]; omega⟩

theorem sum_from (a b : List UInt8) (l : List (Int × Int × Bool × Unit)) (hl : l.length < 1048576) (hr : ∀ r ∈ l, 0 ≤ r.2.1) (hs : sumL l < 1099511627776) :
    ∀ (k i : Nat), i + k = l.length → ∀ f, k < f → ∀ v : Nat, v + sumL (l.drop i) < 1099511627776 → runL (L_memory_New_8.turn (a, b, l, 0, l, lenI l, 0) ()) f ((v : Int), (i : Int)) = some (0, ((v + sumL (l.drop i) : Nat) : Int), (l.length : Int))
  | 0, i, hi, f, hf, v, hv => by
    obtain ⟨f, rfl⟩ : ∃ g, f = g + 1 := ⟨f - 1, by omega⟩
    have hil : i = l.length := by omega
    subst hil
    refine (runL_out (c := 0) (s' := ((v : Int), (l.length : Int))) ?_).trans ?_
    · exact val_no (dec_false (by show ¬ ((l.length : Int) < ((List.length l : Nat) : Int)); omega))
    · rw [List.drop_length]
      rfl
  | k + 1, i, hi, f, hf, v, hv => by
    obtain ⟨f, rfl⟩ : ∃ g, f = g + 1 := ⟨f - 1, by omega⟩
    have hlt : i < l.length := by omega
    have hd : l.drop i = l[i] :: l.drop (i + 1) := List.drop_eq_getElem_cons hlt
    have hg : List.getD l (Int.toNat (i : Int)) (Ty.dflt tRegion) = l[i] := by rw [Int.toNat_natCast]; exact getD_in l _ hlt
    have h0 := hr _ (List.getElem_mem hlt)
    rw [hd] at hv ⊢
    simp only [sumL] at hv ⊢
    refine (runL_on (s' := (((v + (l[i]).2.1.toNat : Nat) : Int), ((i + 1 : Nat) : Int))) ?_).trans ?_
    · refine (val_yes (dec_true (by show ((i : Int) < ((List.length l : Nat) : Int)); omega))).trans ((val_yes (inR hlt)).trans ?_)
      show some (TL.on (w64 ((v : Int) + (List.getD l (Int.toNat (i : Int)) (Ty.dflt tRegion)).2.1), w64 ((i : Int) + 1))) = _
      rw [hg, w64_id (n := (i : Int) + 1) (by omega) (by omega), w64_id (n := (v : Int) + (l[i]).2.1) (by omega) (by omega)]
      congr 3
      omega
    · refine (sum_from a b l hl hr hs k (i + 1) (by omega) f (by omega) (v + (l[i]).2.1.toNat) (by omega)).trans ?_
      congr 3
      omega

theorem wins_from (a b : List UInt8) (l : List (Int × Int × Bool × Unit)) (X : List Int) (hl : l.length < 1048576) (hr : ∀ r ∈ l, 0 ≤ r.2.1) (y0 : MemT) (x0 : Nat × Nat) :
    ∀ (k i : Nat), i + k = l.length → ∀ f, k < f → ∀ (o m : Nat) (W : List (Nat × Nat)), W.length = i → m = sumL (l.drop i) → runL (L_memory_New_15.turn (a, b, (), x0, l, lenI l, 0) y0) f ((o, m), (i : Int), (l, W, ()), X) = some (0, ((o + m, 0), (l.length : Int), (l, W ++ winsOf o (l.drop i), ()), X))
  | 0, i, hi, f, hf, o, m, W, hW, hm => by
    obtain ⟨f, rfl⟩ : ∃ g, f = g + 1 := ⟨f - 1, by omega⟩
    have hil : i = l.length := by omega
    subst hil
    rw [List.drop_length] at hm
    have : m = 0 := hm
    subst this
    refine (runL_out (c := 0) (s' := ((o, 0), (l.length : Int), (l, W, ()), X)) ?_).trans ?_
    · exact val_no (dec_false (by show ¬ ((l.length : Int) < ((List.length l : Nat) : Int)); omega))
    · rw [List.drop_length]
      simp [winsOf]
  | k + 1, i, hi, f, hf, o, m, W, hW, hm => by
    obtain ⟨f, rfl⟩ : ∃ g, f = g + 1 := ⟨f - 1, by omega⟩
    have hlt : i < l.length := by omega
    have hd : l.drop i = l[i] :: l.drop (i + 1) := List.drop_eq_getElem_cons hlt
    have hg : List.getD l (Int.toNat (i : Int)) (Ty.dflt tRegion) = l[i] := by rw [Int.toNat_natCast]; exact getD_in l _ hlt
    have h0 := hr _ (List.getElem_mem hlt)
    rw [hd] at hm ⊢
    simp only [sumL] at hm
    simp only [winsOf]
    obtain ⟨n, hn⟩ : ∃ n : Nat, (l[i]).2.1 = (n : Int) := ⟨(l[i]).2.1.toNat, by omega⟩
    rw [hn] at hm ⊢
    rw [Int.toNat_natCast] at hm ⊢
    refine (runL_on (s' := ((o + n, m - n), ((i + 1 : Nat) : Int), (l, W ++ [(o, n)], ()), X)) ?_).trans ?_
    · refine (val_yes (dec_true (by show ((i : Int) < ((List.length l : Nat) : Int)); omega))).trans ((val_yes (inR hlt)).trans ?_)
      dsimp only
      rw [hg, hn]
      refine (val_yes ?_).trans ((val_yes ?_).trans ((val_yes ?_).trans ?_))
      · simp only [Bool.and_true, Bool.and_eq_true, decide_eq_true_eq]
        refine ⟨⟨Int.natCast_nonneg n, ?_⟩, Int.natCast_nonneg n⟩
        show (n : Int) ≤ (m : Int)
        omega
      · unfold wroom
        rw [Nat.ble_eq]
        simp
        omega
      · simp only [Bool.and_eq_true, decide_eq_true_eq]
        refine ⟨⟨Int.le_refl _, Int.natCast_nonneg n⟩, ?_⟩
        show (n : Int) ≤ (m : Int)
        omega
      · rw [w64_id (n := (i : Int) + 1) (by omega) (by omega)]
        have e1 : nplus o (n : Int) = o + n := by simp [nplus]
        have e2 : nspan (n : Int) (Int.ofNat m) = m - n := by simp [nspan]
        have e3 : nplus o 0 = o := by simp [nplus]
        have e4 : nspan 0 (n : Int) = n := by simp [nspan]
        rw [e1, e2, e3, e4]
        rfl
    · refine (wins_from a b l X hl hr y0 x0 k (i + 1) (by omega) f (by omega) (o + n) (m - n) (W ++ [(o, n)]) (by simp [hW]) (by omega)).trans ?_
      rw [List.append_assoc, show o + n + (m - n) = o + m by omega]
      rfl

theorem res_8 (a b : List UInt8) (l : List (Int × Int × Bool × Unit)) (hl : l.length < 1048576) (hr : ∀ r ∈ l, 0 ≤ r.2.1) (hs : sumL l < 1099511627776) :
    LoopN.res L_memory_New_8 (a, b, l, 0, l, lenI l, 0) () = some (0, ((sumL l : Nat) : Int), (l.length : Int)) := by
  refine (sum_from a b l hl hr hs l.length 0 (Nat.zero_add _) (l.length + 1) (Nat.lt_succ_self _) 0 (by rw [List.drop_zero]; omega)).trans ?_
  rw [List.drop_zero, Nat.zero_add]

theorem res_15 (a b : List UInt8) (l : List (Int × Int × Bool × Unit)) (X : List Int) (hl : l.length < 1048576) (hr : ∀ r ∈ l, 0 ≤ r.2.1) :
    LoopN.res L_memory_New_15 (a, b, (), (0, sumL l), l, lenI l, 0) ((l, [], ()), X) = some (0, ((sumL l, 0), (l.length : Int), (l, winsOf 0 l, ()), X)) := by
  refine (wins_from a b l X hl hr ((l, [], ()), X) (0, sumL l) l.length 0 (Nat.zero_add _) (l.length + 1) (Nat.lt_succ_self _) 0 (sumL l) [] rfl (by rw [List.drop_zero])).trans ?_
  rw [List.drop_zero, Nat.zero_add, List.nil_append]

/-- A memory that is new: regions, windows one behind the other, the first two filled. -/
def newM (l : List (Int × Int × Bool × Unit)) (fl inp : List UInt8) : MemT :=
  ((l, winsOf 0 l, ()), mend (mend (zeros ((sumL l : Nat) : Int) 0) (wAt (winsOf 0 l) 0).1 (strInts fl) (wAt (winsOf 0 l) 0).2) (wAt (winsOf 0 l) 1).1 (strInts inp) (wAt (winsOf 0 l) 1).2)

theorem newM_wf (l : List (Int × Int × Bool × Unit)) (fl inp : List UInt8) (h : RegsOk l) (h2 : 2 ≤ l.length) : MemWf (newM l fl inp) := by
  have hz : (zeros ((sumL l : Nat) : Int) (0 : Int)).length = sumL l := by simp [zeros]
  have w : ∀ i, i < l.length → (wAt (winsOf 0 l) (i : Int)).1 + (wAt (winsOf 0 l) (i : Int)).2 ≤ sumL l := fun i hi => by
    have := (winsOf_get l 0 i hi).2
    unfold wAt
    rw [Int.toNat_natCast]
    omega
  have w0 := w 0 (by omega)
  have w1 := w 1 (by omega)
  have l1 : (mend (zeros ((sumL l : Nat) : Int) (0 : Int)) (wAt (winsOf 0 l) 0).1 (strInts fl) (wAt (winsOf 0 l) 0).2).length = sumL l := by
    unfold mend
    simp only [List.length_append, List.length_take, List.length_drop, hz]
    have := w0
    change (wAt (winsOf 0 l) 0).1 + (wAt (winsOf 0 l) 0).2 ≤ sumL l at this
    omega
  have l2 : (newM l fl inp).2.length = sumL l := by
    show (mend _ (wAt (winsOf 0 l) 1).1 (strInts inp) (wAt (winsOf 0 l) 1).2).length = sumL l
    unfold mend at l1 ⊢
    simp only [List.length_append, List.length_take, List.length_drop] at l1 ⊢
    have := w1
    change (wAt (winsOf 0 l) 1).1 + (wAt (winsOf 0 l) 1).2 ≤ sumL l at this
    omega
  refine ⟨h, (winsOf_length l 0).symm, fun i hi => ?_, fun b hb => ?_⟩
  · obtain ⟨g1, g2⟩ := winsOf_get l 0 i hi
    refine ⟨?_, ?_⟩
    · show (((winsOf 0 l).getD i (0, 0)).2 : Int) = (l.getD i rDef).2.1
      rw [g1]
      have hr : RegOk (l.getD i rDef) := by rw [getD_in l rDef hi]; exact h.2 _ (List.getElem_mem hi)
      exact Int.toNat_of_nonneg hr.2.1
    · rw [l2]
      show ((winsOf 0 l).getD i (0, 0)).1 + ((winsOf 0 l).getD i (0, 0)).2 ≤ sumL l
      omega
  · have sb : ∀ (l : List UInt8), ∀ b ∈ strInts l, 0 ≤ b ∧ b < 256 := fun l b hb => by
      obtain ⟨u, _, rfl⟩ := List.mem_map.1 hb
      have := u.toNat_lt
      omega
    have mm : ∀ {xs ys : List Int} {o n : Nat} {b : Int}, b ∈ mend xs o ys n → b ∈ xs ∨ b ∈ ys := fun h => by
      unfold mend at h
      rcases List.mem_append.1 h with h | h
      · rcases List.mem_append.1 h with h | h
        · exact .inl (List.mem_of_mem_take h)
        · exact .inr (List.mem_of_mem_take h)
      · exact .inl (List.mem_of_mem_drop h)
    rcases mm (show b ∈ mend _ _ _ _ from hb) with h | h
    · rcases mm h with h | h
      · have : b = 0 := List.eq_of_mem_replicate h
        omega
      · exact sb _ b h
    · exact sb _ b h
end Go.Av
