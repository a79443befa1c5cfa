/- Layer 8: what an instruction does: steps. -/
import Derived.Test.YtapfijocjgoilaaPCpu2
import Derived.Test.YtapfijocjgoilaaPCheckB
namespace Go.Av
open Go
theorem dflt_i64 : Ty.dflt (.int .i64) = (0 : Int) := rfl

theorem inR15 {n : Int} (h : 0 ≤ n ∧ n ≤ 12) : inRange n 15 = true := by
  unfold inRange
  rw [dec_true h.1, dec_true (show n < ((15 : Nat) : Int) by omega)]
  rfl

/-- What an operation makes for its register Rd. -/
def vOf (op imm ra d n m ld : Int) : Int :=
  bif op == 3 then imm
  else bif op == 4 then (insN (wn d) (wn imm) 16 16 : Nat)
  else bif op == 5 then (wn m * 2 ^ kk imm % 4294967296 : Nat)
  else bif op == 6 then (wn m / 2 ^ kk imm : Nat)
  else bif op == 7 then (wn (sw (wn m) / (2 ^ kk imm : Nat)) : Nat)
  else bif op == 8 then (wn m / 2 ^ kk imm + wn m % 2 ^ kk imm * 2 ^ (32 - kk imm) : Nat)
  else bif op == 9 then (4294967295 - wn m : Nat)
  else bif op == 10 then (wn n &&& wn m : Nat)
  else bif op == 11 then (wn n &&& wn ((4294967295 - wn m : Nat) : Int) : Nat)
  else bif op == 12 then (wn n ||| wn m : Nat)
  else bif op == 13 then (wn n ^^^ wn m : Nat)
  else bif op == 14 then (wn (n + m) : Nat)
  else bif op == 15 then (wn (n - m) : Nat)
  else bif op == 16 || op == 17 then (wn n * wn m % 4294967296 : Nat)
  else bif op == 18 then (insN (wn d) (wn n) imm.toNat ra.toNat : Nat)
  else bif op == 19 then (wn ld : Nat)
  else bif op == 21 then (wn ld % 256 : Nat)
  else d

/-- Has an operation a register Rd that it makes? -/
def makesRd (op : Int) : Bool := decide (3 ≤ op) && decide (op ≤ 19) || op == 21

/-- A register's word. -/
def rg (l : List Int) (k : Int) : Int := l.getD (Int.toNat k) 0

/-- What an operation makes of registers. -/
def regsOf (r : List Int) (op rd rn rm ra imm ld : Int) : List Int :=
  bif op == 17 then (r.set rd.toNat (wn (rg r rn) * wn (rg r rm) % 4294967296 : Nat)).set ra.toNat (wn (rg r rn) * wn (rg r rm) / 4294967296 : Nat)
  else bif makesRd op then r.set rd.toNat (vOf op imm ra (rg r rd) (rg r rn) (rg r rm) ld)
  else r

/-- What an operation makes of a state. -/
def makesS (s : tState.den) (op rd rn rm ra imm ld : Int) : tState.den :=
  bif op == 23 then V_cpu_compare (s, rg s.1 rn, rg s.1 rm) else (regsOf s.1 op rd rn rm ra imm ld, s.2)

theorem wn_byte (n : Int) : (wn (band .i64 n 255) : Int) = ((wn n % 256 : Nat) : Int) := by
  have h : band .i64 n 255 = n % 256 := band_low n 8 (by omega)
  rw [h]
  unfold wn
  omega
/-- cpu.makes -/
abbrev A_cpu_makes : List Ty := [tState, tIns, (.int .i64)]
abbrev S_cpu_makes : Sh := Sh.ty tState
def T_cpu_makes (x : dens A_cpu_makes) : PO (Sh.den S_cpu_makes) :=
  (.ite (inRange x.2.1.2.2.1 15 && inRange x.2.1.2.2.2.1 15)
   (.ite (x.2.1.1 == 3)
    (.ite (inRange x.2.1.2.1 15)
     (.ret ((List.set x.1.1 (Int.toNat x.2.1.2.1) x.2.1.2.2.2.2.2.1, x.1.2)))
     .fail)
    (.ite (x.2.1.1 == 4)
     (.ite (inRange x.2.1.2.1 15)
      (.ite (G_cpu_insert (List.getD x.1.1 (Int.toNat x.2.1.2.1) (Ty.dflt (Ty.int IntKind.i64)), x.2.1.2.2.2.2.2.1, 16, 16))
       (.ite (inRange x.2.1.2.1 15)
        (.ret ((List.set x.1.1 (Int.toNat x.2.1.2.1) (V_cpu_insert (List.getD x.1.1 (Int.toNat x.2.1.2.1) (Ty.dflt (Ty.int IntKind.i64)), x.2.1.2.2.2.2.2.1, 16, 16)), x.1.2)))
        .fail)
       .fail)
      .fail)
     (.ite (bif x.2.1.1 == 5 then x.2.1.1 == 5 else bif x.2.1.1 == 6 then x.2.1.1 == 6 else bif x.2.1.1 == 7 then x.2.1.1 == 7 else x.2.1.1 == 8)
      (.ite (inRange x.2.1.2.1 15)
       (.ret ((List.set x.1.1 (Int.toNat x.2.1.2.1) (V_cpu_shifted (x.2.1.1, List.getD x.1.1 (Int.toNat x.2.1.2.2.2.1) (Ty.dflt (Ty.int IntKind.i64)), x.2.1.2.2.2.2.2.1)), x.1.2)))
       .fail)
      (.ite (x.2.1.1 == 9)
       (.ite (inRange x.2.1.2.1 15)
        (.ret ((List.set x.1.1 (Int.toNat x.2.1.2.1) (V_word_Not (List.getD x.1.1 (Int.toNat x.2.1.2.2.2.1) (Ty.dflt (Ty.int IntKind.i64)))), x.1.2)))
        .fail)
       (.ite (bif x.2.1.1 == 10 then x.2.1.1 == 10 else bif x.2.1.1 == 11 then x.2.1.1 == 11 else bif x.2.1.1 == 12 then x.2.1.1 == 12 else bif x.2.1.1 == 13 then x.2.1.1 == 13 else bif x.2.1.1 == 14 then x.2.1.1 == 14 else bif x.2.1.1 == 15 then x.2.1.1 == 15 else x.2.1.1 == 16)
        (.ite (inRange x.2.1.2.1 15)
         (.ret ((List.set x.1.1 (Int.toNat x.2.1.2.1) (V_cpu_two (x.2.1.1, List.getD x.1.1 (Int.toNat x.2.1.2.2.1) (Ty.dflt (Ty.int IntKind.i64)), List.getD x.1.1 (Int.toNat x.2.1.2.2.2.1) (Ty.dflt (Ty.int IntKind.i64)))), x.1.2)))
         .fail)
        (.ite (x.2.1.1 == 17)
         (.ite (inRange x.2.1.2.1 15)
          (.ite (inRange x.2.1.2.2.2.2.1 15)
           (.ret ((List.set (List.set x.1.1 (Int.toNat x.2.1.2.1) (V_word_Mul (List.getD x.1.1 (Int.toNat x.2.1.2.2.1) (Ty.dflt (Ty.int IntKind.i64)), List.getD x.1.1 (Int.toNat x.2.1.2.2.2.1) (Ty.dflt (Ty.int IntKind.i64))))) (Int.toNat x.2.1.2.2.2.2.1) (V_word_High (List.getD x.1.1 (Int.toNat x.2.1.2.2.1) (Ty.dflt (Ty.int IntKind.i64)), List.getD x.1.1 (Int.toNat x.2.1.2.2.2.1) (Ty.dflt (Ty.int IntKind.i64)))), x.1.2)))
           .fail)
          .fail)
         (.ite (x.2.1.1 == 18)
          (.ite (inRange x.2.1.2.1 15)
           (.ite (G_cpu_insert (List.getD x.1.1 (Int.toNat x.2.1.2.1) (Ty.dflt (Ty.int IntKind.i64)), List.getD x.1.1 (Int.toNat x.2.1.2.2.1) (Ty.dflt (Ty.int IntKind.i64)), x.2.1.2.2.2.2.2.1, x.2.1.2.2.2.2.1))
            (.ite (inRange x.2.1.2.1 15)
             (.ret ((List.set x.1.1 (Int.toNat x.2.1.2.1) (V_cpu_insert (List.getD x.1.1 (Int.toNat x.2.1.2.1) (Ty.dflt (Ty.int IntKind.i64)), List.getD x.1.1 (Int.toNat x.2.1.2.2.1) (Ty.dflt (Ty.int IntKind.i64)), x.2.1.2.2.2.2.2.1, x.2.1.2.2.2.2.1)), x.1.2)))
             .fail)
            .fail)
           .fail)
          (.ite (x.2.1.1 == 21)
           (.ite (inRange x.2.1.2.1 15)
            (.ret ((List.set x.1.1 (Int.toNat x.2.1.2.1) (V_word_Wrap (band IntKind.i64 x.2.2 255)), x.1.2)))
            .fail)
           (.ite (x.2.1.1 == 19)
            (.ite (inRange x.2.1.2.1 15)
             (.ret ((List.set x.1.1 (Int.toNat x.2.1.2.1) (V_word_Wrap x.2.2), x.1.2)))
             .fail)
            (.ite (x.2.1.1 == 23)
             (.ret (V_cpu_compare (x.1, List.getD x.1.1 (Int.toNat x.2.1.2.2.1) (Ty.dflt (Ty.int IntKind.i64)), List.getD x.1.1 (Int.toNat x.2.1.2.2.2.1) (Ty.dflt (Ty.int IntKind.i64)))))
             (.ret (x.1))))))))))))
   .fail)
set_option maxHeartbeats 1000000 in
theorem makes_val (s : tState.den) (op rd rn rm ra imm cond ld : Int) (w : Bool) (h : V_thumb_Check (op, rd, rn, rm, ra, imm, cond, w, ()) = 0) : (T_cpu_makes (s, (op, rd, rn, rm, ra, imm, cond, w, ()), ld)).val = some (makesS s op rd rn rm ra imm ld) := by
  obtain ⟨hop, hrd, hrn, hrm, h17, himm, h31, h18, _⟩ := check_bounds h
  have i1 := inR15 hrd
  have i2 := inR15 hrn
  have i3 := inR15 hrm
  have hb := wn_byte ld
  rcases op_cases op with rfl | rfl | rfl | rfl | rfl | rfl | rfl | rfl | rfl | rfl | rfl | rfl | rfl | rfl | rfl | rfl | rfl | rfl | rfl | rfl | rfl | rfl | rfl | rfl | rfl | hx
  case inr.inr.inr.inr.inr.inr.inr.inr.inr.inr.inr.inr.inr.inr.inr.inr.inr.inr.inr.inr.inr.inr.inr.inr.inr => omega
  case inr.inr.inr.inr.inr.inr.inr.inr.inr.inr.inr.inr.inr.inr.inr.inr.inl =>
    have i4 := inR15 ⟨(h17 rfl).1, (h17 rfl).2.1⟩
    simp [T_cpu_makes, PO.val, i1, i2, i3, i4, makesS, regsOf, rg, V_word_Mul, V_word_High, dflt_i64]
  case inr.inr.inr.inr.inr.inr.inr.inr.inr.inr.inr.inr.inr.inr.inr.inr.inr.inl =>
    obtain ⟨a1, a2, _⟩ := himm (by omega) (by omega)
    obtain ⟨a3, a4⟩ := h18 rfl
    have a5 := h31 (by omega) (by omega)
    have g : ∀ m f : Int, G_cpu_insert (m, f, imm, ra) = true := fun m f => by
      simp only [G_cpu_insert, Bool.and_eq_true, decide_eq_true_eq]
      exact ⟨a1, by show (0 : Int) ≤ ra; omega, by show imm + ra ≤ 32; omega, by show imm < 32; omega⟩
    simp [T_cpu_makes, PO.val, i1, i2, i3, g, makesS, regsOf, makesRd, vOf, rg, V_cpu_insert, dflt_i64]
  all_goals
    first
    | (have g : ∀ m : Int, G_cpu_insert (m, imm, 16, 16) = true := fun _ => rfl
       simp [T_cpu_makes, PO.val, i1, i2, i3, g, makesS, regsOf, makesRd, vOf, rg, V_cpu_insert, V_cpu_shifted, T_cpu_shifted, V_cpu_two, T_cpu_two, PO.getO, V_word_Shl, V_word_Shr, V_word_Sar, V_word_Ror, V_word_Not, V_word_And, V_word_Or, V_word_Xor, V_word_Add, V_word_Sub, V_word_Mul, V_word_Wrap, hb, dflt_i64]; done)
def G_cpu_makes (x : dens A_cpu_makes) : Bool := V_thumb_Check x.2.1 == 0
def V_cpu_makes (x : dens A_cpu_makes) : Sh.den S_cpu_makes := makesS x.1 x.2.1.1 x.2.1.2.1 x.2.1.2.2.1 x.2.1.2.2.2.1 x.2.1.2.2.2.2.1 x.2.1.2.2.2.2.2.1 x.2.2
theorem ok_cpu_makes (x : dens A_cpu_makes) (h : G_cpu_makes x = true) : (T_cpu_makes x).val = some (V_cpu_makes x) := by
  obtain ⟨s, ⟨op, rd, rn, rm, ra, imm, cond, w, u⟩, ld⟩ := x
  exact makes_val s op rd rn rm ra imm cond ld w (by simpa [G_cpu_makes] using h)
/-- cpu.Access -/
abbrev A_cpu_Access : List Ty := [tState, tIns]
abbrev S_cpu_Access : Sh := Sh.tup (Sh.pair (Sh.ty tAccess) (Sh.pair (Sh.ty Ty.bool) (Sh.ty Ty.unit)))
def T_cpu_Access (x : dens A_cpu_Access) : PO (Sh.den S_cpu_Access) :=
  (.ite (V_thumb_Check x.2 != 0)
   (.ret (((0, 0, 0, false, ()), false, ())))
   (.ite (G_cpu_words x.1)
    (.ite (inRange x.2.2.2.1 15)
     (.ite (x.2.1 == 19)
      (.ret (((List.getD (V_cpu_words x.1).1 (Int.toNat x.2.2.2.1) (Ty.dflt (Ty.int IntKind.i64)), 4, 0, false, ()), true, ())))
      (.ite (x.2.1 == 21)
       (.ret (((List.getD (V_cpu_words x.1).1 (Int.toNat x.2.2.2.1) (Ty.dflt (Ty.int IntKind.i64)), 1, 0, false, ()), true, ())))
       (.ite (x.2.1 == 20)
        (.ite (inRange x.2.2.1 15)
         (.ret (((List.getD (V_cpu_words x.1).1 (Int.toNat x.2.2.2.1) (Ty.dflt (Ty.int IntKind.i64)), 4, List.getD (V_cpu_words x.1).1 (Int.toNat x.2.2.1) (Ty.dflt (Ty.int IntKind.i64)), true, ()), true, ())))
         .fail)
        (.ite (x.2.1 == 22)
         (.ite (inRange x.2.2.1 15)
          (.ret (((List.getD (V_cpu_words x.1).1 (Int.toNat x.2.2.2.1) (Ty.dflt (Ty.int IntKind.i64)), 1, band IntKind.i64 (List.getD (V_cpu_words x.1).1 (Int.toNat x.2.2.1) (Ty.dflt (Ty.int IntKind.i64))) 255, true, ()), true, ())))
          .fail)
         (.ret (((0, 0, 0, false, ()), false, ())))))))
     .fail)
    .fail))
theorem wordR_get (l : List Int) (k : Nat) : (wordR l).getD k 0 = (wn (l.getD k 0) : Int) := by
  unfold wordR
  rw [List.getD_eq_getElem?_getD, List.getD_eq_getElem?_getD, List.getElem?_map]
  cases l[k]? <;> rfl
/-- What an instruction reads or writes. -/
def accessV (bad : Bool) (op a d : Int) : (tAccess.den × Bool × Unit) :=
  bif bad then ((0, 0, 0, false, ()), false, ())
  else bif op == 19 then ((wn a, 4, 0, false, ()), true, ())
  else bif op == 20 then ((wn a, 4, wn d, true, ()), true, ())
  else bif op == 21 then ((wn a, 1, 0, false, ()), true, ())
  else bif op == 22 then ((wn a, 1, (wn d % 256 : Nat), true, ()), true, ())
  else ((0, 0, 0, false, ()), false, ())
theorem band_byte (m : Nat) : band .i64 (m : Int) 255 = ((m % 256 : Nat) : Int) := by
  have h : band .i64 (m : Int) 255 = (m : Int) % 256 := band_low m 8 (by omega)
  rw [h]
  omega
def G_cpu_Access (x : dens A_cpu_Access) : Bool := decide (List.length x.1.1 = 15)
def V_cpu_Access (x : dens A_cpu_Access) : Sh.den S_cpu_Access := accessV (V_thumb_Check x.2 != 0) x.2.1 (rg x.1.1 x.2.2.2.1) (rg x.1.1 x.2.2.1)
theorem access_val (s : tState.den) (op rd rn rm ra imm cond : Int) (w : Bool) (hs : List.length s.1 = 15) : (T_cpu_Access (s, (op, rd, rn, rm, ra, imm, cond, w, ()))).val = some (accessV (V_thumb_Check (op, rd, rn, rm, ra, imm, cond, w, ()) != 0) op (rg s.1 rn) (rg s.1 rd)) := by
  cases hc : (V_thumb_Check (op, rd, rn, rm, ra, imm, cond, w, ()) != (0 : Int))
  · have h : V_thumb_Check (op, rd, rn, rm, ra, imm, cond, w, ()) = 0 := by simpa using hc
    obtain ⟨hop, hrd, hrn, _⟩ := check_bounds h
    have i1 := inR15 hrd
    have i2 := inR15 hrn
    have g : G_cpu_words s = true := dec_true hs
    have e1 : ∀ k : Int, List.getD (V_cpu_words s).1 (Int.toNat k) 0 = (wn (rg s.1 k) : Int) := fun k => wordR_get s.1 _
    simp only [T_cpu_Access, PO.val, hc, i1, i2, g, dflt_i64]
    rw [e1, e1, band_byte]
    unfold accessV
    by_cases h19 : op = 19
    · subst h19; rfl
    · by_cases h20 : op = 20
      · subst h20; rfl
      · by_cases h21 : op = 21
        · subst h21; rfl
        · by_cases h22 : op = 22
          · subst h22; rfl
          · have b19 : (op == 19) = false := beq_eq_false_iff_ne.2 h19
            have b20 : (op == 20) = false := beq_eq_false_iff_ne.2 h20
            have b21 : (op == 21) = false := beq_eq_false_iff_ne.2 h21
            have b22 : (op == 22) = false := beq_eq_false_iff_ne.2 h22
            simp [b19, b20, b21, b22]
  · simp [T_cpu_Access, PO.val, hc, accessV]
theorem ok_cpu_Access (x : dens A_cpu_Access) (h : G_cpu_Access x = true) : (T_cpu_Access x).val = some (V_cpu_Access x) := by
  obtain ⟨s, op, rd, rn, rm, ra, imm, cond, w, u⟩ := x
  exact access_val s op rd rn rm ra imm cond w (of_decide_eq_true h)
/-- hauberkref08.value -/
abbrev A_hauberkref08_value : List Ty := [tIns, (.int .i64), (.int .i64), (.int .i64), (.int .i64)]
abbrev S_hauberkref08_value : Sh := Sh.ty (Ty.int IntKind.i64)
def T_hauberkref08_value (x : dens A_hauberkref08_value) : PO (Sh.den S_hauberkref08_value) :=
  (.ite (x.1.1 == 3)
   (.ret (x.1.2.2.2.2.2.1))
   (.ite (x.1.1 == 4)
    (.ret (w64 (Int.tmod x.2.1 65536 + w64 (65536 * x.1.2.2.2.2.2.1))))
    (.ite (x.1.1 == 5)
     (.ret (V_hauberkref01_Shl (x.2.2.2.1, x.1.2.2.2.2.2.1)))
     (.ite (x.1.1 == 6)
      (.ret (V_hauberkref01_Shr (x.2.2.2.1, x.1.2.2.2.2.2.1)))
      (.ite (x.1.1 == 7)
       (.ret (V_hauberkref01_Sar (x.2.2.2.1, x.1.2.2.2.2.2.1)))
       (.ite (x.1.1 == 8)
        (.ret (V_hauberkref01_Ror (x.2.2.2.1, x.1.2.2.2.2.2.1)))
        (.ite (x.1.1 == 9)
         (.ret (V_hauberkref01_Not x.2.2.2.1))
         (.ite (x.1.1 == 10)
          (.ret (V_hauberkref01_And (x.2.2.1, x.2.2.2.1)))
          (.ite (x.1.1 == 11)
           (.ret (V_hauberkref01_And (x.2.2.1, V_hauberkref01_Not x.2.2.2.1)))
           (.ite (x.1.1 == 12)
            (.ret (V_hauberkref01_Or (x.2.2.1, x.2.2.2.1)))
            (.ite (x.1.1 == 13)
             (.ret (V_hauberkref01_Xor (x.2.2.1, x.2.2.2.1)))
             (.ite (x.1.1 == 14)
              (.ret (V_hauberkref01_Add (x.2.2.1, x.2.2.2.1)))
              (.ite (x.1.1 == 15)
               (.ret (V_hauberkref01_Sub (x.2.2.1, x.2.2.2.1)))
               (.ite (bif x.1.1 == 16 then x.1.1 == 16 else x.1.1 == 17)
                (.ret (V_hauberkref01_Mul (x.2.2.1, x.2.2.2.1)))
                (.ite (x.1.1 == 18)
                 (.ite (G_hauberkref08_put (x.2.1, x.2.2.1, x.1.2.2.2.2.2.1, x.1.2.2.2.2.1))
                  (.ret (V_hauberkref08_put (x.2.1, x.2.2.1, x.1.2.2.2.2.2.1, x.1.2.2.2.2.1)))
                  .fail)
                 (.ite (x.1.1 == 19)
                  (.ret (V_hauberkref01_Wrap x.2.2.2.2))
                  (.ite (x.1.1 == 21)
                   (.ret (Int.tmod (V_hauberkref01_Wrap x.2.2.2.2) 256))
                   (.ret (x.2.1)))))))))))))))))))
set_option maxHeartbeats 1000000 in
theorem value_val (op rd rn rm ra imm cond : Int) (w : Bool) (d n m ld : Int) (hd : 0 ≤ d ∧ d < 4294967296) (h : V_thumb_Check (op, rd, rn, rm, ra, imm, cond, w, ()) = 0) : (T_hauberkref08_value ((op, rd, rn, rm, ra, imm, cond, w, ()), d, n, m, ld)).val = some (vOf op imm ra d n m ld) := by
  obtain ⟨hop, hrd, hrn, hrm, h17, himm, h31, h18, _⟩ := check_bounds h
  rcases op_cases op with rfl | rfl | rfl | rfl | rfl | rfl | rfl | rfl | rfl | rfl | rfl | rfl | rfl | rfl | rfl | rfl | rfl | rfl | rfl | rfl | rfl | rfl | rfl | rfl | rfl | hx
  case inr.inr.inr.inr.inr.inr.inr.inr.inr.inr.inr.inr.inr.inr.inr.inr.inr.inr.inr.inr.inr.inr.inr.inr.inr => omega
  case inr.inr.inr.inl =>
    obtain ⟨a1, a2, _⟩ := himm (by omega) (by omega)
    show some (w64 (Int.tmod d 65536 + w64 (65536 * imm))) = some ((insN (wn d) (wn imm) 16 16 : Nat) : Int)
    rw [tmod_pos _ _ hd.1, w64_id (n := 65536 * imm) (by omega) (by omega), w64_id (by omega) (by omega)]
    have e : insN (wn d) (wn imm) 16 16 = wn imm % 65536 * 65536 + wn d % 65536 := by
      have := wn_lt d
      unfold insN
      omega
    rw [e]
    have e1 : (wn imm : Int) = imm := by rw [wn_int, Int.emod_eq_of_lt (by omega) (by omega)]
    have e2 : (wn d : Int) = d := by rw [wn_int, Int.emod_eq_of_lt (by omega) (by omega)]
    exact congrArg some (by omega)
  case inr.inr.inr.inr.inr.inr.inr.inr.inr.inr.inr.inr.inr.inr.inr.inr.inr.inl =>
    obtain ⟨a1, a2, _⟩ := himm (by omega) (by omega)
    obtain ⟨a3, a4⟩ := h18 rfl
    have g : G_hauberkref08_put (d, n, imm, ra) = true := by
      simp only [G_hauberkref08_put, Bool.and_eq_true, decide_eq_true_eq]
      exact ⟨⟨hd.1, hd.2⟩, a1, by show (0 : Int) ≤ ra; omega, by show imm + ra ≤ 32; omega⟩
    show (bif G_hauberkref08_put (d, n, imm, ra) then some (V_hauberkref08_put (d, n, imm, ra)) else none) = _
    rw [g]
    rfl
  case inr.inr.inr.inr.inr.inr.inr.inr.inr.inr.inr.inr.inr.inr.inr.inr.inr.inr.inr.inr.inl =>
    show some (Int.tmod ((wn ld : Nat) : Int) 256) = some ((wn ld % 256 : Nat) : Int)
    rw [tmod_pos _ _ (by omega)]
    exact congrArg some (by omega)
  all_goals rfl
def G_hauberkref08_value (x : dens A_hauberkref08_value) : Bool := (decide ((0 : Int) ≤ x.2.1) && decide ((x.2.1 : Int) < 4294967296)) && V_thumb_Check x.1 == 0
def V_hauberkref08_value (x : dens A_hauberkref08_value) : Sh.den S_hauberkref08_value := vOf x.1.1 x.1.2.2.2.2.2.1 x.1.2.2.2.2.1 x.2.1 x.2.2.1 x.2.2.2.1 x.2.2.2.2
theorem ok_hauberkref08_value (x : dens A_hauberkref08_value) (h : G_hauberkref08_value x = true) : (T_hauberkref08_value x).val = some (V_hauberkref08_value x) := by
  obtain ⟨⟨op, rd, rn, rm, ra, imm, cond, w, u⟩, d, n, m, ld⟩ := x
  simp only [G_hauberkref08_value, Bool.and_eq_true, decide_eq_true_eq, beq_iff_eq] at h
  exact value_val op rd rn rm ra imm cond w d n m ld h.1 h.2
/-- hauberkref08.Access -/
abbrev A_hauberkref08_Access : List Ty := [tState, tIns]
abbrev S_hauberkref08_Access : Sh := Sh.tup (Sh.pair (Sh.ty tAccess) (Sh.pair (Sh.ty Ty.bool) (Sh.ty Ty.unit)))
def T_hauberkref08_Access (x : dens A_hauberkref08_Access) : PO (Sh.den S_hauberkref08_Access) :=
  (.ite (G_hauberkref02_Check x.2)
   (.ite (V_hauberkref02_Check x.2 != 0 || !(x.2.1 == 19 || x.2.1 == 21) && !(x.2.1 == 20 || x.2.1 == 22))
    (.ret (((0, 0, 0, false, ()), false, ())))
    (.ite (inRange x.2.2.2.1 15)
     (.ite (x.2.1 == 20 || x.2.1 == 22)
      (.ite (inRange x.2.2.1 15)
       (.ite (x.2.1 == 21 || x.2.1 == 22)
        (.ret (((V_hauberkref01_Wrap (List.getD x.1.1 (Int.toNat x.2.2.2.1) (Ty.dflt (Ty.int IntKind.i64))), 1, Int.tmod (V_hauberkref01_Wrap (List.getD x.1.1 (Int.toNat x.2.2.1) (Ty.dflt (Ty.int IntKind.i64)))) 256, x.2.1 == 20 || x.2.1 == 22, ()), true, ())))
        (.ret (((V_hauberkref01_Wrap (List.getD x.1.1 (Int.toNat x.2.2.2.1) (Ty.dflt (Ty.int IntKind.i64))), 4, V_hauberkref01_Wrap (List.getD x.1.1 (Int.toNat x.2.2.1) (Ty.dflt (Ty.int IntKind.i64))), x.2.1 == 20 || x.2.1 == 22, ()), true, ()))))
       .fail)
      (.ite (x.2.1 == 21 || x.2.1 == 22)
       (.ret (((V_hauberkref01_Wrap (List.getD x.1.1 (Int.toNat x.2.2.2.1) (Ty.dflt (Ty.int IntKind.i64))), 1, 0, x.2.1 == 20 || x.2.1 == 22, ()), true, ())))
       (.ret (((V_hauberkref01_Wrap (List.getD x.1.1 (Int.toNat x.2.2.2.1) (Ty.dflt (Ty.int IntKind.i64))), 4, 0, x.2.1 == 20 || x.2.1 == 22, ()), true, ())))))
     .fail))
   .fail)
def G_hauberkref08_Access (_ : dens A_hauberkref08_Access) : Bool := true
def V_hauberkref08_Access (x : dens A_hauberkref08_Access) : Sh.den S_hauberkref08_Access := accessV (V_thumb_Check x.2 != 0) x.2.1 (rg x.1.1 x.2.2.2.1) (rg x.1.1 x.2.2.1)
theorem ref_access_val (s : tState.den) (op rd rn rm ra imm cond : Int) (w : Bool) : (T_hauberkref08_Access (s, (op, rd, rn, rm, ra, imm, cond, w, ()))).val = some (accessV (V_thumb_Check (op, rd, rn, rm, ra, imm, cond, w, ()) != 0) op (rg s.1 rn) (rg s.1 rd)) := by
  have hck := check_same (op, rd, rn, rm, ra, imm, cond, w, ())
  have hco := check_ok (op, rd, rn, rm, ra, imm, cond, w, ())
  have t1 : ∀ n : Int, Int.tmod ((wn n : Nat) : Int) 256 = ((wn n % 256 : Nat) : Int) := fun n => by rw [tmod_pos _ _ (by omega)]; omega
  cases hc : (V_thumb_Check (op, rd, rn, rm, ra, imm, cond, w, ()) != (0 : Int))
  · have h : V_thumb_Check (op, rd, rn, rm, ra, imm, cond, w, ()) = 0 := by simpa using hc
    obtain ⟨hop, hrd, hrn, _⟩ := check_bounds h
    have i1 := inR15 hrd
    have i2 := inR15 hrn
    rw [hck] at hc
    simp only [T_hauberkref08_Access, PO.val, hc, hco, i1, i2, dflt_i64, V_hauberkref01_Wrap, t1]
    unfold accessV
    by_cases h19 : op = 19
    · subst h19; rfl
    · by_cases h20 : op = 20
      · subst h20; rfl
      · by_cases h21 : op = 21
        · subst h21; rfl
        · by_cases h22 : op = 22
          · subst h22; rfl
          · have b19 : (op == 19) = false := beq_eq_false_iff_ne.2 h19
            have b20 : (op == 20) = false := beq_eq_false_iff_ne.2 h20
            have b21 : (op == 21) = false := beq_eq_false_iff_ne.2 h21
            have b22 : (op == 22) = false := beq_eq_false_iff_ne.2 h22
            simp [b19, b20, b21, b22]
  · rw [hck] at hc
    simp [T_hauberkref08_Access, PO.val, hc, hco, accessV]
theorem ok_hauberkref08_Access (x : dens A_hauberkref08_Access) (_ : G_hauberkref08_Access x = true) : (T_hauberkref08_Access x).val = some (V_hauberkref08_Access x) := by
  obtain ⟨s, op, rd, rn, rm, ra, imm, cond, w, u⟩ := x
  exact ref_access_val s op rd rn rm ra imm cond w
end Go.Av
