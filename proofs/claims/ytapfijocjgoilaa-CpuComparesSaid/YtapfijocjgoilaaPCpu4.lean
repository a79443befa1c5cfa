/- Layer 8: what an instruction does: a step. -/
import Derived.Test.YtapfijocjgoilaaPCpu3
namespace Go.Av
open Go
/-! ### Conditions -/
theorem cond_cases (c : Int) : c = 0 ∨ c = 1 ∨ c = 2 ∨ c = 3 ∨ c = 4 ∨ c = 5 ∨ c = 6 ∨ c = 7 ∨ c = 8 ∨ c = 9 ∨ c = 10 ∨ c = 11 ∨ c = 12 ∨ c = 13 ∨ (c < 0 ∨ 13 < c) := by omega

theorem holds_val (r : List Int) (pc : Int) (n z cf v : Bool) (c : Int) : V_cpu_Holds ((r, pc, n, z, cf, v, ()), c) = bif decide (c < 0) || decide (c > 13) then false else ((bif c / 2 == 0 then z else bif c / 2 == 1 then cf else bif c / 2 == 2 then n else bif c / 2 == 3 then v else bif c / 2 == 4 then cf && !z else bif c / 2 == 5 then n == v else c / 2 == 6 && (!z && n == v)) == (c % 2 == 0)) := by
  have h1 : ishr .i64 c 1 = c / 2 := ishr_i64 c 1 (by omega)
  have h2 : band .i64 c 1 = c % 2 := band_one c
  have e : V_cpu_Holds ((r, pc, n, z, cf, v, ()), c) = (bif decide (c < 0) || decide (c > 13) then some false else some ((bif ishr .i64 c 1 == 0 then z else bif ishr .i64 c 1 == 1 then cf else bif ishr .i64 c 1 == 2 then n else bif ishr .i64 c 1 == 3 then v else bif ishr .i64 c 1 == 4 then cf && !z else bif ishr .i64 c 1 == 5 then n == v else ishr .i64 c 1 == 6 && (!z && n == v)) == (band .i64 c 1 == 0))).getD default := rfl
  rw [e, h1, h2]
  cases decide (c < 0) || decide (c > 13) <;> rfl

theorem holds_same (s : tState.den) (c : Int) : V_cpu_Holds (s, c) = V_hauberkref08_Holds (s, c) := by
  obtain ⟨r, pc, n, z, cf, v, u⟩ := s
  rw [holds_val]
  rcases cond_cases c with rfl | rfl | rfl | rfl | rfl | rfl | rfl | rfl | rfl | rfl | rfl | rfl | rfl | rfl | h
  case inr.inr.inr.inr.inr.inr.inr.inr.inr.inr.inr.inr.inr.inr =>
    have e : ∀ k : Int, 0 ≤ k → k ≤ 13 → (c == k) = false := fun k h1 h2 => by rw [beq_eq_false_iff_ne]; omega
    have h1 : (decide (c < 0) || decide (c > 13)) = true := by
      rw [Bool.or_eq_true, decide_eq_true_eq, decide_eq_true_eq]; exact h
    rw [h1]
    simp [V_hauberkref08_Holds, T_hauberkref08_Holds, PO.getO, PO.val, e]
  all_goals cases n <;> cases z <;> cases cf <;> cases v <;> rfl

/-! ### Comparisons -/
def cmpV (a b : Int) : Bool := decide (sw (wn a) - sw (wn b) < -2147483648) || decide (sw (wn a) - sw (wn b) > 2147483647)

theorem bt31 (m : Nat) (h : m < 4294967296) : bt m 31 = if 2147483648 ≤ m then 1 else 0 := by
  unfold bt
  split <;> omega

theorem overflow_bit (a b : Nat) (ha : a < 4294967296) (hb : b < 4294967296) : (bt ((a ^^^ b) &&& (a ^^^ wn ((a : Int) - b))) 31 == 1) = cmpV (a : Int) (b : Int) := by
  have hd := wn_lt ((a : Int) - b)
  have e : bt ((a ^^^ b) &&& (a ^^^ wn ((a : Int) - b))) 31 = ((a.testBit 31 ^^ b.testBit 31) && (a.testBit 31 ^^ (wn ((a : Int) - b)).testBit 31)).toNat := by
    rw [bt_eq, Nat.testBit_and, Nat.testBit_xor, Nat.testBit_xor]
  have h1 : ∀ m : Nat, m < 4294967296 → m.testBit 31 = decide (2147483648 ≤ m) := fun m hm => by
    have := bt31 m hm
    rw [bt_eq] at this
    cases ht : m.testBit 31
    · rw [ht] at this; split at this
      · cases this
      · rename_i h; exact (dec_false h).symm
    · rw [ht] at this; split at this
      · rename_i h; exact (dec_true h).symm
      · cases this
  rw [e, h1 a ha, h1 b hb, h1 _ hd]
  unfold cmpV
  rw [wn_nat ha, wn_nat hb]
  have hw : wn ((a : Int) - b) = if b ≤ a then a - b else a + 4294967296 - b := by unfold wn; split <;> omega
  rw [hw, Bool.eq_iff_iff]
  unfold sw
  by_cases x1 : 2147483648 ≤ a <;> by_cases x2 : 2147483648 ≤ b <;> by_cases x3 : b ≤ a <;> simp [x1, x2, x3] <;> omega

/-- Flags behind a comparison of words. -/
theorem compare_val (s : tState.den) (a b : Nat) (ha : a < 4294967296) (hb : b < 4294967296) : V_cpu_compare (s, (a : Int), (b : Int)) = (s.1, s.2.1, decide (2147483648 ≤ wn ((a : Int) - b)), a == b, decide (b ≤ a), cmpV a b, s.2.2.2.2.2.2) := by
  have hd := wn_lt ((a : Int) - b)
  have k31 : kk 31 = 31 := rfl
  have e1 : (((wn ((wn ((a : Int) - b) : Nat) : Int) / 2 ^ kk 31 % 2 : Nat) : Int) == 1) = decide (2147483648 ≤ wn ((a : Int) - b)) := by
    rw [k31, wn_nat hd, Bool.eq_iff_iff, beq_iff_eq, decide_eq_true_eq]
    omega
  have e2 : (((wn ((a : Int) - b) : Nat) : Int) == 0) = (a == b) := by
    rw [Bool.eq_iff_iff, beq_iff_eq, beq_iff_eq]
    unfold wn
    omega
  have e3 : decide ((a : Int) ≥ (b : Int)) = decide (b ≤ a) := decide_eq_decide.2 (by omega)
  have x1 : a ^^^ b < 4294967296 := Nat.xor_lt_two_pow (n := 32) ha hb
  have x2 : a ^^^ wn ((a : Int) - b) < 4294967296 := Nat.xor_lt_two_pow (n := 32) ha hd
  have x3 : (a ^^^ b) &&& (a ^^^ wn ((a : Int) - b)) < 4294967296 := Nat.lt_of_le_of_lt Nat.and_le_left x1
  have e4 : (((wn ((wn ((wn (a : Int) ^^^ wn (b : Int) : Nat) : Int) &&& wn ((wn (a : Int) ^^^ wn ((wn ((a : Int) - b) : Nat) : Int) : Nat) : Int) : Nat) : Int) / 2 ^ kk 31 % 2 : Nat) : Int) == 1) = cmpV a b := by
    rw [wn_nat ha, wn_nat hb, wn_nat hd, wn_nat x1, wn_nat x2, wn_nat x3, k31, ← overflow_bit a b ha hb, Bool.eq_iff_iff, beq_iff_eq, beq_iff_eq]
    unfold bt
    omega
  show (s.1, s.2.1, (((wn ((wn ((a : Int) - b) : Nat) : Int) / 2 ^ kk 31 % 2 : Nat) : Int) == 1), (((wn ((a : Int) - b) : Nat) : Int) == 0), decide ((a : Int) ≥ (b : Int)), (((wn ((wn ((wn (a : Int) ^^^ wn (b : Int) : Nat) : Int) &&& wn ((wn (a : Int) ^^^ wn ((wn ((a : Int) - b) : Nat) : Int) : Nat) : Int) : Nat) : Int) / 2 ^ kk 31 % 2 : Nat) : Int) == 1), s.2.2.2.2.2.2) = _
  rw [e1, e2, e3, e4]

/-! ### A step -/
/-- A state of words. -/
def wState (s : tState.den) : tState.den := (wordR s.1, (wn s.2.1 : Int), s.2.2)
def goesV (s : tState.den) (op cond : Int) : Bool := op == 24 || op == 25 && V_cpu_Holds (s, cond)
/-- How far on the next instruction lies. -/
def farV (s : tState.den) (op imm cond : Int) (w : Bool) : Int := bif goesV s op cond then 4 + imm else bif isLong op w then 4 else 2
def stepV (bad : Bool) (s : tState.den) (op rd rn rm ra imm cond : Int) (w : Bool) (ld : Int) : (tState.den × Bool × Unit) :=
  bif bad || op == 2 then (wState s, false, ())
  else (((bif op == 24 || op == 25 then wState s else makesS (wState s) op rd rn rm ra imm ld).1, (wn (wn s.2.1 + farV (wState s) op imm cond w) : Int), (bif op == 24 || op == 25 then wState s else makesS (wState s) op rd rn rm ra imm ld).2.2), true, ())

theorem makesS_pc (s : tState.den) (op rd rn rm ra imm ld : Int) : (makesS s op rd rn rm ra imm ld).2.1 = s.2.1 := by
  unfold makesS
  cases op == 23 <;> rfl
theorem wn_far (a b : Int) : wn (w64 (a + w64 b)) = wn (a + b) := wn_eq (by rw [w64_mod, Int.add_emod, w64_mod, ← Int.add_emod])
theorem wn_far' (a b : Int) : wn (w64 (a + b)) = wn (a + b) := wn_eq (by rw [w64_mod])
/-- cpu.Step -/
abbrev A_cpu_Step : List Ty := [tState, tIns, (.int .i64)]
abbrev S_cpu_Step : Sh := Sh.tup (Sh.pair (Sh.ty tState) (Sh.pair (Sh.ty Ty.bool) (Sh.ty Ty.unit)))
def T_cpu_Step (x : dens A_cpu_Step) : PO (Sh.den S_cpu_Step) :=
  (.ite (G_cpu_words x.1)
   (.ite (V_thumb_Check x.2.1 != 0 || x.2.1.1 == 2)
    (.ret ((V_cpu_words x.1, false, ())))
    (.ite (x.2.1.1 != 24 && x.2.1.1 != 25)
     (.ite (G_cpu_makes (V_cpu_words x.1, x.2.1, x.2.2))
      (.ret ((((V_cpu_makes (V_cpu_words x.1, x.2.1, x.2.2)).1, V_word_Wrap (w64 ((V_cpu_makes (V_cpu_words x.1, x.2.1, x.2.2)).2.1 + bif V_cpu_goes (V_cpu_words x.1, x.2.1) then w64 (4 + x.2.1.2.2.2.2.2.1) else V_thumb_Size x.2.1)), (V_cpu_makes (V_cpu_words x.1, x.2.1, x.2.2)).2.2), true, ())))
      .fail)
     (.ret ((((V_cpu_words x.1).1, V_word_Wrap (w64 ((V_cpu_words x.1).2.1 + bif V_cpu_goes (V_cpu_words x.1, x.2.1) then w64 (4 + x.2.1.2.2.2.2.2.1) else V_thumb_Size x.2.1)), (V_cpu_words x.1).2.2), true, ())))))
   .fail)
theorem step_val (s : tState.den) (op rd rn rm ra imm cond : Int) (w : Bool) (ld : Int) (hs : List.length s.1 = 15) : (T_cpu_Step (s, (op, rd, rn, rm, ra, imm, cond, w, ()), ld)).val = some (stepV (V_thumb_Check (op, rd, rn, rm, ra, imm, cond, w, ()) != 0) s op rd rn rm ra imm cond w ld) := by
  have g : G_cpu_words s = true := dec_true hs
  have hg : V_cpu_goes (wState s, (op, rd, rn, rm, ra, imm, cond, w, ())) = goesV (wState s) op cond := by
    unfold V_cpu_goes T_cpu_goes PO.getO PO.val goesV
    cases op == 24 <;> cases op == 25 <;> rfl
  have e : (T_cpu_Step (s, (op, rd, rn, rm, ra, imm, cond, w, ()), ld)).val = (bif G_cpu_words s then (bif V_thumb_Check (op, rd, rn, rm, ra, imm, cond, w, ()) != 0 || op == 2 then some (wState s, false, ()) else
      (bif op != 24 && op != 25 then (bif V_thumb_Check (op, rd, rn, rm, ra, imm, cond, w, ()) == 0 then some ((((makesS (wState s) op rd rn rm ra imm ld).1, (wn (w64 ((makesS (wState s) op rd rn rm ra imm ld).2.1 + bif V_cpu_goes (wState s, (op, rd, rn, rm, ra, imm, cond, w, ())) then w64 (4 + imm) else (bif V_thumb_Check (op, rd, rn, rm, ra, imm, cond, w, ()) != 0 then 0 else bif isLong op w then 4 else 2))) : Int), (makesS (wState s) op rd rn rm ra imm ld).2.2), true, ())) else none)
        else some ((((wState s).1, (wn (w64 ((wState s).2.1 + bif V_cpu_goes (wState s, (op, rd, rn, rm, ra, imm, cond, w, ())) then w64 (4 + imm) else (bif V_thumb_Check (op, rd, rn, rm, ra, imm, cond, w, ()) != 0 then 0 else bif isLong op w then 4 else 2))) : Int), (wState s).2.2), true, ())))) else none) := rfl
  rw [e, g, hg]
  unfold stepV farV
  cases hc : (V_thumb_Check (op, rd, rn, rm, ra, imm, cond, w, ()) != (0 : Int))
  · have h : (V_thumb_Check (op, rd, rn, rm, ra, imm, cond, w, ()) == (0 : Int)) = true := by simpa using hc
    rw [h, makesS_pc]
    cases op == 2
    · have ho : (op != 24 && op != 25) = !(op == 24 || op == 25) := by simp [bne]
      rw [ho]
      cases goesV (wState s) op cond
      · cases op == 24 || op == 25
        · simp only [Bool.or_self, cond_false, cond_true, Bool.not_false, wn_far']
          rfl
        · simp only [Bool.or_self, cond_false, cond_true, Bool.not_true, wn_far']
          rfl
      · cases op == 24 || op == 25
        · simp only [Bool.or_self, cond_false, cond_true, Bool.not_false, wn_far]
          rfl
        · simp only [Bool.or_self, cond_false, cond_true, Bool.not_true, wn_far]
          rfl
    · rfl
  · rfl
def G_cpu_Step (x : dens A_cpu_Step) : Bool := decide (List.length x.1.1 = 15)
def V_cpu_Step (x : dens A_cpu_Step) : Sh.den S_cpu_Step := stepV (V_thumb_Check x.2.1 != 0) x.1 x.2.1.1 x.2.1.2.1 x.2.1.2.2.1 x.2.1.2.2.2.1 x.2.1.2.2.2.2.1 x.2.1.2.2.2.2.2.1 x.2.1.2.2.2.2.2.2.1 x.2.1.2.2.2.2.2.2.2.1 x.2.2
theorem ok_cpu_Step (x : dens A_cpu_Step) (h : G_cpu_Step x = true) : (T_cpu_Step x).val = some (V_cpu_Step x) := by
  obtain ⟨s, ⟨op, rd, rn, rm, ra, imm, cond, w, u⟩, ld⟩ := x
  exact step_val s op rd rn rm ra imm cond w ld (of_decide_eq_true h)
/-- cpu.Cycles -/
abbrev A_cpu_Cycles : List Ty := [tState, tIns]
abbrev S_cpu_Cycles : Sh := Sh.ty (Ty.int IntKind.i64)
def T_cpu_Cycles (x : dens A_cpu_Cycles) : PO (Sh.den S_cpu_Cycles) :=
  (.ite (V_thumb_Check x.2 != 0)
   (.ret (0))
   (.ite (G_cpu_Access (x.1, x.2))
    (.ite ((V_cpu_Access (x.1, x.2)).2.1)
     (.ret (2))
     (.ite (x.2.1 == 17)
      (.ret (4))
      (.ite (V_cpu_goes (x.1, x.2))
       (.ret (3))
       (.ret (1)))))
    .fail))
def cyclesV (bad : Bool) (s : tState.den) (op cond : Int) : Int :=
  bif bad then 0 else bif op == 19 || (op == 20 || (op == 21 || op == 22)) then 2 else bif op == 17 then 4 else bif goesV s op cond then 3 else 1
theorem access_is (bad : Bool) (op a d : Int) : (accessV bad op a d).2.1 = (!bad && (op == 19 || (op == 20 || (op == 21 || op == 22)))) := by
  unfold accessV
  cases bad
  · cases op == 19
    · cases op == 20
      · cases op == 21
        · cases op == 22 <;> rfl
        · rfl
      · rfl
    · rfl
  · rfl
theorem goes_eq (s : tState.den) (op rd rn rm ra imm cond : Int) (w : Bool) : V_cpu_goes (s, (op, rd, rn, rm, ra, imm, cond, w, ())) = goesV s op cond := by
  unfold V_cpu_goes T_cpu_goes PO.getO PO.val goesV
  cases op == 24 <;> cases op == 25 <;> rfl
theorem taken_eq (s : tState.den) (op rd rn rm ra imm cond : Int) (w : Bool) : V_hauberkref08_Taken (s, (op, rd, rn, rm, ra, imm, cond, w, ())) = goesV s op cond := by
  have h := holds_same s cond
  unfold V_hauberkref08_Taken T_hauberkref08_Taken PO.getO PO.val goesV
  rw [h]
  cases op == 24 <;> cases op == 25 <;> rfl
def G_cpu_Cycles (x : dens A_cpu_Cycles) : Bool := decide (List.length x.1.1 = 15)
def V_cpu_Cycles (x : dens A_cpu_Cycles) : Sh.den S_cpu_Cycles := cyclesV (V_thumb_Check x.2 != 0) x.1 x.2.1 x.2.2.2.2.2.2.2.1
theorem cycles_val (s : tState.den) (op rd rn rm ra imm cond : Int) (w : Bool) (hs : List.length s.1 = 15) : (T_cpu_Cycles (s, (op, rd, rn, rm, ra, imm, cond, w, ()))).val = some (cyclesV (V_thumb_Check (op, rd, rn, rm, ra, imm, cond, w, ()) != 0) s op cond) := by
  have g : G_cpu_Access (s, (op, rd, rn, rm, ra, imm, cond, w, ())) = true := dec_true hs
  have e : (T_cpu_Cycles (s, (op, rd, rn, rm, ra, imm, cond, w, ()))).val = (bif V_thumb_Check (op, rd, rn, rm, ra, imm, cond, w, ()) != 0 then some 0 else (bif G_cpu_Access (s, (op, rd, rn, rm, ra, imm, cond, w, ())) then (bif (accessV (V_thumb_Check (op, rd, rn, rm, ra, imm, cond, w, ()) != 0) op (rg s.1 rn) (rg s.1 rd)).2.1 then some 2 else (bif op == 17 then some 4 else (bif V_cpu_goes (s, (op, rd, rn, rm, ra, imm, cond, w, ())) then some 3 else some 1))) else none)) := rfl
  rw [e, g, access_is, goes_eq]
  unfold cyclesV
  cases (V_thumb_Check (op, rd, rn, rm, ra, imm, cond, w, ()) != (0 : Int))
  · cases op == 19 || (op == 20 || (op == 21 || op == 22)) <;> cases op == 17 <;> cases goesV s op cond <;> rfl
  · rfl
theorem ok_cpu_Cycles (x : dens A_cpu_Cycles) (h : G_cpu_Cycles x = true) : (T_cpu_Cycles x).val = some (V_cpu_Cycles x) := by
  obtain ⟨s, op, rd, rn, rm, ra, imm, cond, w, u⟩ := x
  exact cycles_val s op rd rn rm ra imm cond w (of_decide_eq_true h)
/-- hauberkref08.Step -/
abbrev A_hauberkref08_Step : List Ty := [tState, tIns, (.int .i64)]
abbrev S_hauberkref08_Step : Sh := Sh.tup (Sh.pair (Sh.ty tState) (Sh.pair (Sh.ty Ty.bool) (Sh.ty Ty.unit)))
def T_hauberkref08_Step (x : dens A_hauberkref08_Step) : PO (Sh.den S_hauberkref08_Step) :=
  (.ite (G_hauberkref08_Words x.1)
   (.ite (G_hauberkref02_Check x.2.1)
    (.ite (V_hauberkref02_Check x.2.1 != 0 || x.2.1.1 == 2)
     (.ret ((V_hauberkref08_Words x.1, false, ())))
     (.ite (V_hauberkref08_Taken (V_hauberkref08_Words x.1, x.2.1))
      (.ite (inRange x.2.1.2.2.1 15 && inRange x.2.1.2.2.2.1 15)
       (.ite (x.2.1.1 == 23)
        (.ite (decide (w64 (V_hauberkref08_signed (List.getD (V_hauberkref08_Words x.1).1 (Int.toNat x.2.1.2.2.1) (Ty.dflt (Ty.int IntKind.i64))) - V_hauberkref08_signed (List.getD (V_hauberkref08_Words x.1).1 (Int.toNat x.2.1.2.2.2.1) (Ty.dflt (Ty.int IntKind.i64)))) < -2147483648))
         (.ret ((((V_hauberkref08_Words x.1).1, V_hauberkref01_Wrap (w64 (w64 ((V_hauberkref08_Words x.1).2.1 + 4) + x.2.1.2.2.2.2.2.1)), V_hauberkref01_Bit (V_hauberkref01_Sub (List.getD (V_hauberkref08_Words x.1).1 (Int.toNat x.2.1.2.2.1) (Ty.dflt (Ty.int IntKind.i64)), List.getD (V_hauberkref08_Words x.1).1 (Int.toNat x.2.1.2.2.2.1) (Ty.dflt (Ty.int IntKind.i64))), 31) == 1, List.getD (V_hauberkref08_Words x.1).1 (Int.toNat x.2.1.2.2.1) (Ty.dflt (Ty.int IntKind.i64)) == List.getD (V_hauberkref08_Words x.1).1 (Int.toNat x.2.1.2.2.2.1) (Ty.dflt (Ty.int IntKind.i64)), decide (List.getD (V_hauberkref08_Words x.1).1 (Int.toNat x.2.1.2.2.1) (Ty.dflt (Ty.int IntKind.i64)) ≥ List.getD (V_hauberkref08_Words x.1).1 (Int.toNat x.2.1.2.2.2.1) (Ty.dflt (Ty.int IntKind.i64))), true, (V_hauberkref08_Words x.1).2.2.2.2.2.2), true, ())))
         (.ret ((((V_hauberkref08_Words x.1).1, V_hauberkref01_Wrap (w64 (w64 ((V_hauberkref08_Words x.1).2.1 + 4) + x.2.1.2.2.2.2.2.1)), V_hauberkref01_Bit (V_hauberkref01_Sub (List.getD (V_hauberkref08_Words x.1).1 (Int.toNat x.2.1.2.2.1) (Ty.dflt (Ty.int IntKind.i64)), List.getD (V_hauberkref08_Words x.1).1 (Int.toNat x.2.1.2.2.2.1) (Ty.dflt (Ty.int IntKind.i64))), 31) == 1, List.getD (V_hauberkref08_Words x.1).1 (Int.toNat x.2.1.2.2.1) (Ty.dflt (Ty.int IntKind.i64)) == List.getD (V_hauberkref08_Words x.1).1 (Int.toNat x.2.1.2.2.2.1) (Ty.dflt (Ty.int IntKind.i64)), decide (List.getD (V_hauberkref08_Words x.1).1 (Int.toNat x.2.1.2.2.1) (Ty.dflt (Ty.int IntKind.i64)) ≥ List.getD (V_hauberkref08_Words x.1).1 (Int.toNat x.2.1.2.2.2.1) (Ty.dflt (Ty.int IntKind.i64))), decide (w64 (V_hauberkref08_signed (List.getD (V_hauberkref08_Words x.1).1 (Int.toNat x.2.1.2.2.1) (Ty.dflt (Ty.int IntKind.i64))) - V_hauberkref08_signed (List.getD (V_hauberkref08_Words x.1).1 (Int.toNat x.2.1.2.2.2.1) (Ty.dflt (Ty.int IntKind.i64)))) > 2147483647), (V_hauberkref08_Words x.1).2.2.2.2.2.2), true, ()))))
        (.ite (x.2.1.1 == 24 || (x.2.1.1 == 25 || x.2.1.1 == 1))
         (.ret ((((V_hauberkref08_Words x.1).1, V_hauberkref01_Wrap (w64 (w64 ((V_hauberkref08_Words x.1).2.1 + 4) + x.2.1.2.2.2.2.2.1)), (V_hauberkref08_Words x.1).2.2), true, ())))
         (.ite (inRange x.2.1.2.1 15)
          (.ite (G_hauberkref08_value (x.2.1, List.getD (V_hauberkref08_Words x.1).1 (Int.toNat x.2.1.2.1) (Ty.dflt (Ty.int IntKind.i64)), List.getD (V_hauberkref08_Words x.1).1 (Int.toNat x.2.1.2.2.1) (Ty.dflt (Ty.int IntKind.i64)), List.getD (V_hauberkref08_Words x.1).1 (Int.toNat x.2.1.2.2.2.1) (Ty.dflt (Ty.int IntKind.i64)), x.2.2))
           (.ite (inRange x.2.1.2.1 15)
            (.ite (x.2.1.1 == 17)
             (.ite (inRange x.2.1.2.2.2.2.1 15)
              (.ret (((List.set (List.set (V_hauberkref08_Words x.1).1 (Int.toNat x.2.1.2.1) (V_hauberkref08_value (x.2.1, List.getD (V_hauberkref08_Words x.1).1 (Int.toNat x.2.1.2.1) (Ty.dflt (Ty.int IntKind.i64)), List.getD (V_hauberkref08_Words x.1).1 (Int.toNat x.2.1.2.2.1) (Ty.dflt (Ty.int IntKind.i64)), List.getD (V_hauberkref08_Words x.1).1 (Int.toNat x.2.1.2.2.2.1) (Ty.dflt (Ty.int IntKind.i64)), x.2.2))) (Int.toNat x.2.1.2.2.2.2.1) (V_hauberkref01_High (List.getD (V_hauberkref08_Words x.1).1 (Int.toNat x.2.1.2.2.1) (Ty.dflt (Ty.int IntKind.i64)), List.getD (V_hauberkref08_Words x.1).1 (Int.toNat x.2.1.2.2.2.1) (Ty.dflt (Ty.int IntKind.i64)))), V_hauberkref01_Wrap (w64 (w64 ((V_hauberkref08_Words x.1).2.1 + 4) + x.2.1.2.2.2.2.2.1)), (V_hauberkref08_Words x.1).2.2), true, ())))
              .fail)
             (.ret (((List.set (V_hauberkref08_Words x.1).1 (Int.toNat x.2.1.2.1) (V_hauberkref08_value (x.2.1, List.getD (V_hauberkref08_Words x.1).1 (Int.toNat x.2.1.2.1) (Ty.dflt (Ty.int IntKind.i64)), List.getD (V_hauberkref08_Words x.1).1 (Int.toNat x.2.1.2.2.1) (Ty.dflt (Ty.int IntKind.i64)), List.getD (V_hauberkref08_Words x.1).1 (Int.toNat x.2.1.2.2.2.1) (Ty.dflt (Ty.int IntKind.i64)), x.2.2)), V_hauberkref01_Wrap (w64 (w64 ((V_hauberkref08_Words x.1).2.1 + 4) + x.2.1.2.2.2.2.2.1)), (V_hauberkref08_Words x.1).2.2), true, ()))))
            .fail)
           .fail)
          .fail)))
       .fail)
      (.ite (inRange x.2.1.2.2.1 15 && inRange x.2.1.2.2.2.1 15)
       (.ite (x.2.1.1 == 23)
        (.ite (decide (w64 (V_hauberkref08_signed (List.getD (V_hauberkref08_Words x.1).1 (Int.toNat x.2.1.2.2.1) (Ty.dflt (Ty.int IntKind.i64))) - V_hauberkref08_signed (List.getD (V_hauberkref08_Words x.1).1 (Int.toNat x.2.1.2.2.2.1) (Ty.dflt (Ty.int IntKind.i64)))) < -2147483648))
         (.ret ((((V_hauberkref08_Words x.1).1, V_hauberkref01_Wrap (w64 ((V_hauberkref08_Words x.1).2.1 + V_hauberkref02_Size x.2.1)), V_hauberkref01_Bit (V_hauberkref01_Sub (List.getD (V_hauberkref08_Words x.1).1 (Int.toNat x.2.1.2.2.1) (Ty.dflt (Ty.int IntKind.i64)), List.getD (V_hauberkref08_Words x.1).1 (Int.toNat x.2.1.2.2.2.1) (Ty.dflt (Ty.int IntKind.i64))), 31) == 1, List.getD (V_hauberkref08_Words x.1).1 (Int.toNat x.2.1.2.2.1) (Ty.dflt (Ty.int IntKind.i64)) == List.getD (V_hauberkref08_Words x.1).1 (Int.toNat x.2.1.2.2.2.1) (Ty.dflt (Ty.int IntKind.i64)), decide (List.getD (V_hauberkref08_Words x.1).1 (Int.toNat x.2.1.2.2.1) (Ty.dflt (Ty.int IntKind.i64)) ≥ List.getD (V_hauberkref08_Words x.1).1 (Int.toNat x.2.1.2.2.2.1) (Ty.dflt (Ty.int IntKind.i64))), true, (V_hauberkref08_Words x.1).2.2.2.2.2.2), true, ())))
         (.ret ((((V_hauberkref08_Words x.1).1, V_hauberkref01_Wrap (w64 ((V_hauberkref08_Words x.1).2.1 + V_hauberkref02_Size x.2.1)), V_hauberkref01_Bit (V_hauberkref01_Sub (List.getD (V_hauberkref08_Words x.1).1 (Int.toNat x.2.1.2.2.1) (Ty.dflt (Ty.int IntKind.i64)), List.getD (V_hauberkref08_Words x.1).1 (Int.toNat x.2.1.2.2.2.1) (Ty.dflt (Ty.int IntKind.i64))), 31) == 1, List.getD (V_hauberkref08_Words x.1).1 (Int.toNat x.2.1.2.2.1) (Ty.dflt (Ty.int IntKind.i64)) == List.getD (V_hauberkref08_Words x.1).1 (Int.toNat x.2.1.2.2.2.1) (Ty.dflt (Ty.int IntKind.i64)), decide (List.getD (V_hauberkref08_Words x.1).1 (Int.toNat x.2.1.2.2.1) (Ty.dflt (Ty.int IntKind.i64)) ≥ List.getD (V_hauberkref08_Words x.1).1 (Int.toNat x.2.1.2.2.2.1) (Ty.dflt (Ty.int IntKind.i64))), decide (w64 (V_hauberkref08_signed (List.getD (V_hauberkref08_Words x.1).1 (Int.toNat x.2.1.2.2.1) (Ty.dflt (Ty.int IntKind.i64))) - V_hauberkref08_signed (List.getD (V_hauberkref08_Words x.1).1 (Int.toNat x.2.1.2.2.2.1) (Ty.dflt (Ty.int IntKind.i64)))) > 2147483647), (V_hauberkref08_Words x.1).2.2.2.2.2.2), true, ()))))
        (.ite (x.2.1.1 == 24 || (x.2.1.1 == 25 || x.2.1.1 == 1))
         (.ret ((((V_hauberkref08_Words x.1).1, V_hauberkref01_Wrap (w64 ((V_hauberkref08_Words x.1).2.1 + V_hauberkref02_Size x.2.1)), (V_hauberkref08_Words x.1).2.2), true, ())))
         (.ite (inRange x.2.1.2.1 15)
          (.ite (G_hauberkref08_value (x.2.1, List.getD (V_hauberkref08_Words x.1).1 (Int.toNat x.2.1.2.1) (Ty.dflt (Ty.int IntKind.i64)), List.getD (V_hauberkref08_Words x.1).1 (Int.toNat x.2.1.2.2.1) (Ty.dflt (Ty.int IntKind.i64)), List.getD (V_hauberkref08_Words x.1).1 (Int.toNat x.2.1.2.2.2.1) (Ty.dflt (Ty.int IntKind.i64)), x.2.2))
           (.ite (inRange x.2.1.2.1 15)
            (.ite (x.2.1.1 == 17)
             (.ite (inRange x.2.1.2.2.2.2.1 15)
              (.ret (((List.set (List.set (V_hauberkref08_Words x.1).1 (Int.toNat x.2.1.2.1) (V_hauberkref08_value (x.2.1, List.getD (V_hauberkref08_Words x.1).1 (Int.toNat x.2.1.2.1) (Ty.dflt (Ty.int IntKind.i64)), List.getD (V_hauberkref08_Words x.1).1 (Int.toNat x.2.1.2.2.1) (Ty.dflt (Ty.int IntKind.i64)), List.getD (V_hauberkref08_Words x.1).1 (Int.toNat x.2.1.2.2.2.1) (Ty.dflt (Ty.int IntKind.i64)), x.2.2))) (Int.toNat x.2.1.2.2.2.2.1) (V_hauberkref01_High (List.getD (V_hauberkref08_Words x.1).1 (Int.toNat x.2.1.2.2.1) (Ty.dflt (Ty.int IntKind.i64)), List.getD (V_hauberkref08_Words x.1).1 (Int.toNat x.2.1.2.2.2.1) (Ty.dflt (Ty.int IntKind.i64)))), V_hauberkref01_Wrap (w64 ((V_hauberkref08_Words x.1).2.1 + V_hauberkref02_Size x.2.1)), (V_hauberkref08_Words x.1).2.2), true, ())))
              .fail)
             (.ret (((List.set (V_hauberkref08_Words x.1).1 (Int.toNat x.2.1.2.1) (V_hauberkref08_value (x.2.1, List.getD (V_hauberkref08_Words x.1).1 (Int.toNat x.2.1.2.1) (Ty.dflt (Ty.int IntKind.i64)), List.getD (V_hauberkref08_Words x.1).1 (Int.toNat x.2.1.2.2.1) (Ty.dflt (Ty.int IntKind.i64)), List.getD (V_hauberkref08_Words x.1).1 (Int.toNat x.2.1.2.2.2.1) (Ty.dflt (Ty.int IntKind.i64)), x.2.2)), V_hauberkref01_Wrap (w64 ((V_hauberkref08_Words x.1).2.1 + V_hauberkref02_Size x.2.1)), (V_hauberkref08_Words x.1).2.2), true, ()))))
            .fail)
           .fail)
          .fail)))
       .fail)))
    .fail)
   .fail)
theorem wordR_reg (l : List Int) (k : Int) : rg (wordR l) k = (wn (rg l k) : Int) := wordR_get l _
theorem signed_eq {m : Nat} : V_hauberkref08_signed (m : Int) = bif decide ((m : Int) ≥ 2147483648) then w64 ((m : Int) - 4294967296) else (m : Int) := by
  unfold V_hauberkref08_signed T_hauberkref08_signed PO.getO PO.val
  cases decide ((m : Int) ≥ 2147483648) <;> rfl
theorem signed_sw {m : Nat} (h : m < 4294967296) : V_hauberkref08_signed (m : Int) = sw m := by
  rw [signed_eq]
  unfold sw
  by_cases h1 : 2147483648 ≤ m
  · rw [dec_true (by omega), if_pos h1, cond_true, w64_id (by omega) (by omega)]
  · rw [dec_false (by omega), if_neg h1, cond_false]
theorem wn_jump (a b : Int) : wn (w64 (w64 (a + 4) + b)) = wn (a + (4 + b)) := wn_eq (by rw [w64_mod, Int.add_emod, w64_mod, ← Int.add_emod]; congr 1; omega)

theorem wn_jump' (a b : Int) : wn (w64 (a + 4) + b) = wn (a + (4 + b)) := wn_eq (by rw [Int.add_emod, w64_mod, ← Int.add_emod]; congr 1; omega)

/-- The state behind an instruction of the document's, at the place of the next one. -/
def refPut (s : tState.den) (pc op rd rn rm ra imm ld : Int) : (tState.den × Bool × Unit) := (((makesS s op rd rn rm ra imm ld).1, pc, (makesS s op rd rn rm ra imm ld).2.2), true, ())

set_option maxHeartbeats 4000000 in
theorem ref_step_val (s : tState.den) (op rd rn rm ra imm cond : Int) (w : Bool) (ld : Int) (hs : List.length s.1 = 15) : (T_hauberkref08_Step (s, (op, rd, rn, rm, ra, imm, cond, w, ()), ld)).val = some (stepV (V_thumb_Check (op, rd, rn, rm, ra, imm, cond, w, ()) != 0) s op rd rn rm ra imm cond w ld) := by
  have hck := check_same (op, rd, rn, rm, ra, imm, cond, w, ())
  have hco := check_ok (op, rd, rn, rm, ra, imm, cond, w, ())
  have g : G_hauberkref08_Words s = true := dec_true hs
  have hw : V_hauberkref08_Words s = wState s := rfl
  have htk := taken_eq (wState s) op rd rn rm ra imm cond w
  have hsz : V_hauberkref02_Size (op, rd, rn, rm, ra, imm, cond, w, ()) = (bif V_thumb_Check (op, rd, rn, rm, ra, imm, cond, w, ()) != 0 then 0 else bif isLong op w then 4 else 2) := rfl
  cases hc : (V_thumb_Check (op, rd, rn, rm, ra, imm, cond, w, ()) != (0 : Int))
  · have h : V_thumb_Check (op, rd, rn, rm, ra, imm, cond, w, ()) = 0 := by simpa using hc
    rw [hc, cond_false] at hsz
    rw [hck] at hc
    obtain ⟨hop, hrd, hrn, hrm, h17, _⟩ := check_bounds h
    have i1 := inR15 hrd
    have i2 := inR15 hrn
    have i3 := inR15 hrm
    have hreg : ∀ k : Int, List.getD (wState s).1 (Int.toNat k) 0 = (wn (rg s.1 k) : Int) := fun k => wordR_get s.1 _
    have hreg' : ∀ k : Int, rg (wState s).1 k = (wn (rg s.1 k) : Int) := fun k => wordR_reg s.1 _
    have hpc : (wState s).2.1 = (wn s.2.1 : Int) := rfl
    have hgv : ∀ n m l : Int, G_hauberkref08_value ((op, rd, rn, rm, ra, imm, cond, w, ()), (wn (rg s.1 rd) : Int), n, m, l) = true := fun n m l => by
      have := wn_lt (rg s.1 rd)
      simp only [G_hauberkref08_value, Bool.and_eq_true, decide_eq_true_eq, beq_iff_eq]
      exact ⟨⟨by show (0 : Int) ≤ _; omega, by show (_ : Int) < _; omega⟩, h⟩
    have hvv : ∀ d n m l : Int, V_hauberkref08_value ((op, rd, rn, rm, ra, imm, cond, w, ()), d, n, m, l) = vOf op imm ra d n m l := fun _ _ _ _ => rfl
    simp only [T_hauberkref08_Step, PO.val, g, hco, hc, hw, htk, i1, i2, i3, dflt_i64, hreg, hpc, hsz, hgv, hvv, Bool.false_or, cond_true, Bool.and_self, V_hauberkref01_Wrap, wn_jump, wn_far']
    by_cases h23 : op = 23
    · subst h23
      have hn := wn_lt (rg s.1 rn)
      have hm := wn_lt (rg s.1 rm)
      have hcmp := compare_val (wState s) (wn (rg s.1 rn)) (wn (rg s.1 rm)) hn hm
      have hst : stepV false s 23 rd rn rm ra imm cond w ld = (((V_cpu_compare (wState s, (wn (rg s.1 rn) : Int), (wn (rg s.1 rm) : Int))).1, (wn (wn s.2.1 + (bif isLong 23 w then 4 else 2)) : Int), (V_cpu_compare (wState s, (wn (rg s.1 rn) : Int), (wn (rg s.1 rm) : Int))).2.2), true, ()) := by
        unfold stepV makesS farV goesV
        simp only [hreg']
        rfl
      rw [hst, hcmp]
      have r1 := sw_range hn
      have r2 := sw_range hm
      have hov : w64 (V_hauberkref08_signed ((wn (rg s.1 rn) : Nat) : Int) - V_hauberkref08_signed ((wn (rg s.1 rm) : Nat) : Int)) = sw (wn (rg s.1 rn)) - sw (wn (rg s.1 rm)) := by
        rw [signed_sw hn, signed_sw hm, w64_id (by omega) (by omega)]
      have hbit : (V_hauberkref01_Bit (V_hauberkref01_Sub (((wn (rg s.1 rn) : Nat) : Int), ((wn (rg s.1 rm) : Nat) : Int)), 31) == (1 : Int)) = decide (2147483648 ≤ wn (((wn (rg s.1 rn) : Nat) : Int) - ((wn (rg s.1 rm) : Nat) : Int))) := by
        have hd := wn_lt (((wn (rg s.1 rn) : Nat) : Int) - ((wn (rg s.1 rm) : Nat) : Int))
        show ((((bt (wn ((wn (((wn (rg s.1 rn) : Nat) : Int) - ((wn (rg s.1 rm) : Nat) : Int)) : Nat) : Int)) (kk 31)) : Nat) : Int) == (1 : Int)) = _
        rw [wn_nat hd, show kk 31 = 31 from rfl, bt31 _ hd, Bool.eq_iff_iff, beq_iff_eq, decide_eq_true_eq]
        split <;> simp_all
      have hz : ((((wn (rg s.1 rn) : Nat) : Int)) == (((wn (rg s.1 rm) : Nat) : Int))) = (wn (rg s.1 rn) == wn (rg s.1 rm)) := by
        rw [Bool.eq_iff_iff, beq_iff_eq, beq_iff_eq]; omega
      have hge : decide ((((wn (rg s.1 rn) : Nat) : Int)) ≥ (((wn (rg s.1 rm) : Nat) : Int))) = decide (wn (rg s.1 rm) ≤ wn (rg s.1 rn)) := decide_eq_decide.2 (by omega)
      have hgo : goesV (wState s) 23 cond = false := rfl
      rw [hgo]
      simp only [hov, hbit, hz, hge, cond_false]
      unfold cmpV
      rw [wn_wn, wn_wn]
      cases decide (sw (wn (rg s.1 rn)) - sw (wn (rg s.1 rm)) < -2147483648)
      · rfl
      · rfl
    · have b23 : (op == 23) = false := beq_eq_false_iff_ne.2 h23
      have hlen : (wState s).1.length = 15 := by
        show (wordR s.1).length = 15
        rw [wordR_len, hs]
      have hself : List.set (wState s).1 rd.toNat (wn (rg s.1 rd) : Int) = (wState s).1 := by
        rw [← hreg']
        unfold rg
        rw [getD_in _ _ (show rd.toNat < (wState s).1.length by omega)]
        exact List.set_getElem_self _
      have hhigh : V_hauberkref01_High (((wn (rg s.1 rn) : Nat) : Int), ((wn (rg s.1 rm) : Nat) : Int)) = ((wn (rg s.1 rn) * wn (rg s.1 rm) / 4294967296 : Nat) : Int) := by
        show ((wn ((wn (rg s.1 rn) : Nat) : Int) * wn ((wn (rg s.1 rm) : Nat) : Int) / 4294967296 : Nat) : Int) = _
        rw [wn_wn, wn_wn]
      simp only [b23, cond_false, wn_jump', hhigh]
      unfold stepV farV makesS regsOf
      simp only [hreg', b23, cond_false]
      generalize goesV (wState s) op cond = gv
      rcases op_cases op with rfl | rfl | rfl | rfl | rfl | rfl | rfl | rfl | rfl | rfl | rfl | rfl | rfl | rfl | rfl | rfl | rfl | rfl | rfl | rfl | rfl | rfl | rfl | rfl | rfl | hx
      case inr.inr.inr.inr.inr.inr.inr.inr.inr.inr.inr.inr.inr.inr.inr.inr.inr.inr.inr.inr.inr.inr.inr.inr.inr => omega
      case inr.inr.inr.inr.inr.inr.inr.inr.inr.inr.inr.inr.inr.inr.inr.inr.inl =>
        have i4 := inR15 ⟨(h17 rfl).1, (h17 rfl).2.1⟩
        rw [i4, wn_wn, wn_wn]
        have hv : vOf 17 imm ra (wn (rg s.1 rd) : Int) (wn (rg s.1 rn) : Int) (wn (rg s.1 rm) : Int) ld = ((wn (rg s.1 rn) * wn (rg s.1 rm) % 4294967296 : Nat) : Int) := by
          show ((wn ((wn (rg s.1 rn) : Nat) : Int) * wn ((wn (rg s.1 rm) : Nat) : Int) % 4294967296 : Nat) : Int) = _
          rw [wn_wn, wn_wn]
        rw [hv]
        cases gv <;> rfl
      case inr.inr.inr.inr.inr.inr.inr.inr.inr.inr.inr.inr.inr.inr.inr.inr.inr.inr.inr.inl =>
        have hv : vOf 20 imm ra (wn (rg s.1 rd) : Int) (wn (rg s.1 rn) : Int) (wn (rg s.1 rm) : Int) ld = (wn (rg s.1 rd) : Int) := rfl
        rw [hv, hself]
        cases gv <;> rfl
      case inr.inr.inr.inr.inr.inr.inr.inr.inr.inr.inr.inr.inr.inr.inr.inr.inr.inr.inr.inr.inr.inl =>
        have hv : vOf 22 imm ra (wn (rg s.1 rd) : Int) (wn (rg s.1 rn) : Int) (wn (rg s.1 rm) : Int) ld = (wn (rg s.1 rd) : Int) := rfl
        rw [hv, hself]
        cases gv <;> rfl
      case inr.inr.inr.inr.inr.inr.inr.inr.inr.inr.inr.inr.inr.inr.inr.inr.inr.inr.inr.inr.inr.inr.inl => exact absurd rfl h23
      all_goals cases gv <;> rfl
  · rw [hck] at hc
    simp only [T_hauberkref08_Step, PO.val, g, hco, hc, hw]
    rfl
def G_hauberkref08_Step (x : dens A_hauberkref08_Step) : Bool := decide (List.length x.1.1 = 15)
def V_hauberkref08_Step (x : dens A_hauberkref08_Step) : Sh.den S_hauberkref08_Step := stepV (V_thumb_Check x.2.1 != 0) x.1 x.2.1.1 x.2.1.2.1 x.2.1.2.2.1 x.2.1.2.2.2.1 x.2.1.2.2.2.2.1 x.2.1.2.2.2.2.2.1 x.2.1.2.2.2.2.2.2.1 x.2.1.2.2.2.2.2.2.2.1 x.2.2
theorem ok_hauberkref08_Step (x : dens A_hauberkref08_Step) (h : G_hauberkref08_Step x = true) : (T_hauberkref08_Step x).val = some (V_hauberkref08_Step x) := by
  obtain ⟨s, ⟨op, rd, rn, rm, ra, imm, cond, w, u⟩, ld⟩ := x
  exact ref_step_val s op rd rn rm ra imm cond w ld (of_decide_eq_true h)
/-- hauberkref08.Cycles -/
abbrev A_hauberkref08_Cycles : List Ty := [tState, tIns]
abbrev S_hauberkref08_Cycles : Sh := Sh.ty (Ty.int IntKind.i64)
def T_hauberkref08_Cycles (x : dens A_hauberkref08_Cycles) : PO (Sh.den S_hauberkref08_Cycles) :=
  (.ite (G_hauberkref02_Check x.2)
   (.ite (V_hauberkref02_Check x.2 != 0)
    (.ret (0))
    (.ite ((V_hauberkref08_Access (x.1, x.2)).2.1)
     (.ret (2))
     (.ite (x.2.1 == 17)
      (.ret (4))
      (.ite (V_hauberkref08_Taken (x.1, x.2))
       (.ret (3))
       (.ret (1))))))
   .fail)
def G_hauberkref08_Cycles (_ : dens A_hauberkref08_Cycles) : Bool := true
def V_hauberkref08_Cycles (x : dens A_hauberkref08_Cycles) : Sh.den S_hauberkref08_Cycles := cyclesV (V_thumb_Check x.2 != 0) x.1 x.2.1 x.2.2.2.2.2.2.2.1
theorem ok_hauberkref08_Cycles (x : dens A_hauberkref08_Cycles) (_ : G_hauberkref08_Cycles x = true) : (T_hauberkref08_Cycles x).val = some (V_hauberkref08_Cycles x) := by
  obtain ⟨s, op, rd, rn, rm, ra, imm, cond, w, u⟩ := x
  have hck := check_same (op, rd, rn, rm, ra, imm, cond, w, ())
  have hco := check_ok (op, rd, rn, rm, ra, imm, cond, w, ())
  have hac : (V_hauberkref08_Access (s, (op, rd, rn, rm, ra, imm, cond, w, ()))).2.1 = (!(V_thumb_Check (op, rd, rn, rm, ra, imm, cond, w, ()) != (0 : Int)) && (op == 19 || (op == 20 || (op == 21 || op == 22)))) := access_is _ _ _ _
  have htk := taken_eq s op rd rn rm ra imm cond w
  have hv : V_hauberkref08_Cycles (s, op, rd, rn, rm, ra, imm, cond, w, ()) = cyclesV (V_thumb_Check (op, rd, rn, rm, ra, imm, cond, w, ()) != 0) s op cond := rfl
  rw [hv]
  unfold T_hauberkref08_Cycles cyclesV
  dsimp only [PO.val, G_hauberkref08_Access]
  rw [hco, ← hck, hac, htk]
  cases (V_thumb_Check (op, rd, rn, rm, ra, imm, cond, w, ()) != (0 : Int))
  · cases op == 19 || (op == 20 || (op == 21 || op == 22)) <;> cases op == 17 <;> cases goesV s op cond <;> rfl
  · rfl
end Go.Av
