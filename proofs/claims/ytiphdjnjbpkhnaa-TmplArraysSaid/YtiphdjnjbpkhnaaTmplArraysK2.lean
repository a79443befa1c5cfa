/- Texts of the proof, one behind the other. -/
import Derived.Test.YtiphdjnjbpkhnaaTmplArraysK1
/-! Layer 8: what an instruction does: steps. -/
section
namespace Go.Av
open Go
theorem dflt_i64 : Ty.dflt (.int .i64) = (0 : Int) := rfl

theorem inR15 {n : Int} (h : 0 ≤ n ∧ n ≤ 12) : inRange n 15 = true := by
  unfold inRange
  rw [dec_true h.1, dec_true (show n < ((15 : Nat) : Int) by omega)]
  rfl

/-- What an operation makes for its register Rd. -/
def vOf (op imm ra d n m ld : Int) : Int :=
  bif op == 3 then imm
  else bif op == 4 then (insN (wn d) (wn imm) 16 16 : Nat)
  else bif op == 5 then (wn m * 2 ^ kk imm % 4294967296 : Nat)
  else bif op == 6 then (wn m / 2 ^ kk imm : Nat)
  else bif op == 7 then (wn (sw (wn m) / (2 ^ kk imm : Nat)) : Nat)
  else bif op == 8 then (wn m / 2 ^ kk imm + wn m % 2 ^ kk imm * 2 ^ (32 - kk imm) : Nat)
  else bif op == 9 then (4294967295 - wn m : Nat)
  else bif op == 10 then (wn n &&& wn m : Nat)
  else bif op == 11 then (wn n &&& wn ((4294967295 - wn m : Nat) : Int) : Nat)
  else bif op == 12 then (wn n ||| wn m : Nat)
  else bif op == 13 then (wn n ^^^ wn m : Nat)
  else bif op == 14 then (wn (n + m) : Nat)
  else bif op == 15 then (wn (n - m) : Nat)
  else bif op == 16 || op == 17 then (wn n * wn m % 4294967296 : Nat)
  else bif op == 18 then (insN (wn d) (wn n) imm.toNat ra.toNat : Nat)
  else bif op == 19 then (wn ld : Nat)
  else bif op == 21 then (wn ld % 256 : Nat)
  else d

/-- Has an operation a register Rd that it makes? -/
def makesRd (op : Int) : Bool := decide (3 ≤ op) && decide (op ≤ 19) || op == 21

/-- A register's word. -/
def rg (l : List Int) (k : Int) : Int := l.getD (Int.toNat k) 0

/-- What an operation makes of registers. -/
def regsOf (r : List Int) (op rd rn rm ra imm ld : Int) : List Int :=
  bif op == 17 then (r.set rd.toNat (wn (rg r rn) * wn (rg r rm) % 4294967296 : Nat)).set ra.toNat (wn (rg r rn) * wn (rg r rm) / 4294967296 : Nat)
  else bif makesRd op then r.set rd.toNat (vOf op imm ra (rg r rd) (rg r rn) (rg r rm) ld)
  else r

/-- What an operation makes of a state. -/
def makesS (s : tState.den) (op rd rn rm ra imm ld : Int) : tState.den :=
  bif op == 23 then V_cpu_compare (s, rg s.1 rn, rg s.1 rm) else (regsOf s.1 op rd rn rm ra imm ld, s.2)

theorem wn_byte (n : Int) : (wn (band .i64 n 255) : Int) = ((wn n % 256 : Nat) : Int) := by
  have h : band .i64 n 255 = n % 256 := band_low n 8 (by omega)
  rw [h]
  unfold wn
  omega
/-- cpu.makes -/
abbrev A_cpu_makes : List Ty := [tState, tIns, (.int .i64)]
abbrev S_cpu_makes : Sh := Sh.ty tState
def T_cpu_makes (x : dens A_cpu_makes) : PO (Sh.den S_cpu_makes) :=
  (.ite (inRange x.2.1.2.2.1 15 && inRange x.2.1.2.2.2.1 15)
   (.ite (x.2.1.1 == 3)
    (.ite (inRange x.2.1.2.1 15)
     (.ret ((List.set x.1.1 (Int.toNat x.2.1.2.1) x.2.1.2.2.2.2.2.1, x.1.2)))
     .fail)
    (.ite (x.2.1.1 == 4)
     (.ite (inRange x.2.1.2.1 15)
      (.ite (G_cpu_insert (List.getD x.1.1 (Int.toNat x.2.1.2.1) (Ty.dflt (Ty.int IntKind.i64)), x.2.1.2.2.2.2.2.1, 16, 16))
       (.ite (inRange x.2.1.2.1 15)
        (.ret ((List.set x.1.1 (Int.toNat x.2.1.2.1) (V_cpu_insert (List.getD x.1.1 (Int.toNat x.2.1.2.1) (Ty.dflt (Ty.int IntKind.i64)), x.2.1.2.2.2.2.2.1, 16, 16)), x.1.2)))
        .fail)
       .fail)
      .fail)
     (.ite (bif x.2.1.1 == 5 then x.2.1.1 == 5 else bif x.2.1.1 == 6 then x.2.1.1 == 6 else bif x.2.1.1 == 7 then x.2.1.1 == 7 else x.2.1.1 == 8)
      (.ite (inRange x.2.1.2.1 15)
       (.ret ((List.set x.1.1 (Int.toNat x.2.1.2.1) (V_cpu_shifted (x.2.1.1, List.getD x.1.1 (Int.toNat x.2.1.2.2.2.1) (Ty.dflt (Ty.int IntKind.i64)), x.2.1.2.2.2.2.2.1)), x.1.2)))
       .fail)
      (.ite (x.2.1.1 == 9)
       (.ite (inRange x.2.1.2.1 15)
        (.ret ((List.set x.1.1 (Int.toNat x.2.1.2.1) (V_word_Not (List.getD x.1.1 (Int.toNat x.2.1.2.2.2.1) (Ty.dflt (Ty.int IntKind.i64)))), x.1.2)))
        .fail)
       (.ite (bif x.2.1.1 == 10 then x.2.1.1 == 10 else bif x.2.1.1 == 11 then x.2.1.1 == 11 else bif x.2.1.1 == 12 then x.2.1.1 == 12 else bif x.2.1.1 == 13 then x.2.1.1 == 13 else bif x.2.1.1 == 14 then x.2.1.1 == 14 else bif x.2.1.1 == 15 then x.2.1.1 == 15 else x.2.1.1 == 16)
        (.ite (inRange x.2.1.2.1 15)
         (.ret ((List.set x.1.1 (Int.toNat x.2.1.2.1) (V_cpu_two (x.2.1.1, List.getD x.1.1 (Int.toNat x.2.1.2.2.1) (Ty.dflt (Ty.int IntKind.i64)), List.getD x.1.1 (Int.toNat x.2.1.2.2.2.1) (Ty.dflt (Ty.int IntKind.i64)))), x.1.2)))
         .fail)
        (.ite (x.2.1.1 == 17)
         (.ite (inRange x.2.1.2.1 15)
          (.ite (inRange x.2.1.2.2.2.2.1 15)
           (.ret ((List.set (List.set x.1.1 (Int.toNat x.2.1.2.1) (V_word_Mul (List.getD x.1.1 (Int.toNat x.2.1.2.2.1) (Ty.dflt (Ty.int IntKind.i64)), List.getD x.1.1 (Int.toNat x.2.1.2.2.2.1) (Ty.dflt (Ty.int IntKind.i64))))) (Int.toNat x.2.1.2.2.2.2.1) (V_word_High (List.getD x.1.1 (Int.toNat x.2.1.2.2.1) (Ty.dflt (Ty.int IntKind.i64)), List.getD x.1.1 (Int.toNat x.2.1.2.2.2.1) (Ty.dflt (Ty.int IntKind.i64)))), x.1.2)))
           .fail)
          .fail)
         (.ite (x.2.1.1 == 18)
          (.ite (inRange x.2.1.2.1 15)
           (.ite (G_cpu_insert (List.getD x.1.1 (Int.toNat x.2.1.2.1) (Ty.dflt (Ty.int IntKind.i64)), List.getD x.1.1 (Int.toNat x.2.1.2.2.1) (Ty.dflt (Ty.int IntKind.i64)), x.2.1.2.2.2.2.2.1, x.2.1.2.2.2.2.1))
            (.ite (inRange x.2.1.2.1 15)
             (.ret ((List.set x.1.1 (Int.toNat x.2.1.2.1) (V_cpu_insert (List.getD x.1.1 (Int.toNat x.2.1.2.1) (Ty.dflt (Ty.int IntKind.i64)), List.getD x.1.1 (Int.toNat x.2.1.2.2.1) (Ty.dflt (Ty.int IntKind.i64)), x.2.1.2.2.2.2.2.1, x.2.1.2.2.2.2.1)), x.1.2)))
             .fail)
            .fail)
           .fail)
          (.ite (x.2.1.1 == 21)
           (.ite (inRange x.2.1.2.1 15)
            (.ret ((List.set x.1.1 (Int.toNat x.2.1.2.1) (V_word_Wrap (band IntKind.i64 x.2.2 255)), x.1.2)))
            .fail)
           (.ite (x.2.1.1 == 19)
            (.ite (inRange x.2.1.2.1 15)
             (.ret ((List.set x.1.1 (Int.toNat x.2.1.2.1) (V_word_Wrap x.2.2), x.1.2)))
             .fail)
            (.ite (x.2.1.1 == 23)
             (.ret (V_cpu_compare (x.1, List.getD x.1.1 (Int.toNat x.2.1.2.2.1) (Ty.dflt (Ty.int IntKind.i64)), List.getD x.1.1 (Int.toNat x.2.1.2.2.2.1) (Ty.dflt (Ty.int IntKind.i64)))))
             (.ret (x.1))))))))))))
   .fail)
set_option maxHeartbeats 1000000 in
theorem makes_val (s : tState.den) (op rd rn rm ra imm cond ld : Int) (w : Bool) (h : V_thumb_Check (op, rd, rn, rm, ra, imm, cond, w, ()) = 0) : (T_cpu_makes (s, (op, rd, rn, rm, ra, imm, cond, w, ()), ld)).val = some (makesS s op rd rn rm ra imm ld) := by
  obtain ⟨hop, hrd, hrn, hrm, h17, himm, h31, h18, _⟩ := check_bounds h
  have i1 := inR15 hrd
  have i2 := inR15 hrn
  have i3 := inR15 hrm
  have hb := wn_byte ld
  rcases op_cases op with rfl | rfl | rfl | rfl | rfl | rfl | rfl | rfl | rfl | rfl | rfl | rfl | rfl | rfl | rfl | rfl | rfl | rfl | rfl | rfl | rfl | rfl | rfl | rfl | rfl | hx
  case inr.inr.inr.inr.inr.inr.inr.inr.inr.inr.inr.inr.inr.inr.inr.inr.inr.inr.inr.inr.inr.inr.inr.inr.inr => omega
  case inr.inr.inr.inr.inr.inr.inr.inr.inr.inr.inr.inr.inr.inr.inr.inr.inl =>
    have i4 := inR15 ⟨(h17 rfl).1, (h17 rfl).2.1⟩
    simp [T_cpu_makes, PO.val, i1, i2, i3, i4, makesS, regsOf, rg, V_word_Mul, V_word_High, dflt_i64]
  case inr.inr.inr.inr.inr.inr.inr.inr.inr.inr.inr.inr.inr.inr.inr.inr.inr.inl =>
    obtain ⟨a1, a2, _⟩ := himm (by omega) (by omega)
    obtain ⟨a3, a4⟩ := h18 rfl
    have a5 := h31 (by omega) (by omega)
    have g : ∀ m f : Int, G_cpu_insert (m, f, imm, ra) = true := fun m f => by
      simp only [G_cpu_insert, Bool.and_eq_true, decide_eq_true_eq]
      exact ⟨a1, by show (0 : Int) ≤ ra; omega, by show imm + ra ≤ 32; omega, by show imm < 32; omega⟩
    simp [T_cpu_makes, PO.val, i1, i2, i3, g, makesS, regsOf, makesRd, vOf, rg, V_cpu_insert, dflt_i64]
  all_goals
    first
    | (have g : ∀ m : Int, G_cpu_insert (m, imm, 16, 16) = true := fun _ => rfl
       simp [T_cpu_makes, PO.val, i1, i2, i3, g, makesS, regsOf, makesRd, vOf, rg, V_cpu_insert, V_cpu_shifted, T_cpu_shifted, V_cpu_two, T_cpu_two, PO.getO, V_word_Shl, V_word_Shr, V_word_Sar, V_word_Ror, V_word_Not, V_word_And, V_word_Or, V_word_Xor, V_word_Add, V_word_Sub, V_word_Mul, V_word_Wrap, hb, dflt_i64]; done)
def G_cpu_makes (x : dens A_cpu_makes) : Bool := V_thumb_Check x.2.1 == 0
def V_cpu_makes (x : dens A_cpu_makes) : Sh.den S_cpu_makes := makesS x.1 x.2.1.1 x.2.1.2.1 x.2.1.2.2.1 x.2.1.2.2.2.1 x.2.1.2.2.2.2.1 x.2.1.2.2.2.2.2.1 x.2.2
theorem ok_cpu_makes (x : dens A_cpu_makes) (h : G_cpu_makes x = true) : (T_cpu_makes x).val = some (V_cpu_makes x) := by
  obtain ⟨s, ⟨op, rd, rn, rm, ra, imm, cond, w, u⟩, ld⟩ := x
  exact makes_val s op rd rn rm ra imm cond ld w (by simpa [G_cpu_makes] using h)
/-- cpu.Access -/
abbrev A_cpu_Access : List Ty := [tState, tIns]
abbrev S_cpu_Access : Sh := Sh.tup (Sh.pair (Sh.ty tAccess) (Sh.pair (Sh.ty Ty.bool) (Sh.ty Ty.unit)))
def T_cpu_Access (x : dens A_cpu_Access) : PO (Sh.den S_cpu_Access) :=
  (.ite (V_thumb_Check x.2 != 0)
   (.ret (((0, 0, 0, false, ()), false, ())))
   (.ite (G_cpu_words x.1)
    (.ite (inRange x.2.2.2.1 15)
     (.ite (x.2.1 == 19)
      (.ret (((List.getD (V_cpu_words x.1).1 (Int.toNat x.2.2.2.1) (Ty.dflt (Ty.int IntKind.i64)), 4, 0, false, ()), true, ())))
      (.ite (x.2.1 == 21)
       (.ret (((List.getD (V_cpu_words x.1).1 (Int.toNat x.2.2.2.1) (Ty.dflt (Ty.int IntKind.i64)), 1, 0, false, ()), true, ())))
       (.ite (x.2.1 == 20)
        (.ite (inRange x.2.2.1 15)
         (.ret (((List.getD (V_cpu_words x.1).1 (Int.toNat x.2.2.2.1) (Ty.dflt (Ty.int IntKind.i64)), 4, List.getD (V_cpu_words x.1).1 (Int.toNat x.2.2.1) (Ty.dflt (Ty.int IntKind.i64)), true, ()), true, ())))
         .fail)
        (.ite (x.2.1 == 22)
         (.ite (inRange x.2.2.1 15)
          (.ret (((List.getD (V_cpu_words x.1).1 (Int.toNat x.2.2.2.1) (Ty.dflt (Ty.int IntKind.i64)), 1, band IntKind.i64 (List.getD (V_cpu_words x.1).1 (Int.toNat x.2.2.1) (Ty.dflt (Ty.int IntKind.i64))) 255, true, ()), true, ())))
          .fail)
         (.ret (((0, 0, 0, false, ()), false, ())))))))
     .fail)
    .fail))
theorem wordR_get (l : List Int) (k : Nat) : (wordR l).getD k 0 = (wn (l.getD k 0) : Int) := by
  unfold wordR
  rw [List.getD_eq_getElem?_getD, List.getD_eq_getElem?_getD, List.getElem?_map]
  cases l[k]? <;> rfl
/-- What an instruction reads or writes. -/
def accessV (bad : Bool) (op a d : Int) : (tAccess.den × Bool × Unit) :=
  bif bad then ((0, 0, 0, false, ()), false, ())
  else bif op == 19 then ((wn a, 4, 0, false, ()), true, ())
  else bif op == 20 then ((wn a, 4, wn d, true, ()), true, ())
  else bif op == 21 then ((wn a, 1, 0, false, ()), true, ())
  else bif op == 22 then ((wn a, 1, (wn d % 256 : Nat), true, ()), true, ())
  else ((0, 0, 0, false, ()), false, ())
theorem band_byte (m : Nat) : band .i64 (m : Int) 255 = ((m % 256 : Nat) : Int) := by
  have h : band .i64 (m : Int) 255 = (m : Int) % 256 := band_low m 8 (by omega)
  rw [h]
  omega
def G_cpu_Access (x : dens A_cpu_Access) : Bool := decide (List.length x.1.1 = 15)
def V_cpu_Access (x : dens A_cpu_Access) : Sh.den S_cpu_Access := accessV (V_thumb_Check x.2 != 0) x.2.1 (rg x.1.1 x.2.2.2.1) (rg x.1.1 x.2.2.1)
theorem access_val (s : tState.den) (op rd rn rm ra imm cond : Int) (w : Bool) (hs : List.length s.1 = 15) : (T_cpu_Access (s, (op, rd, rn, rm, ra, imm, cond, w, ()))).val = some (accessV (V_thumb_Check (op, rd, rn, rm, ra, imm, cond, w, ()) != 0) op (rg s.1 rn) (rg s.1 rd)) := by
  cases hc : (V_thumb_Check (op, rd, rn, rm, ra, imm, cond, w, ()) != (0 : Int))
  · have h : V_thumb_Check (op, rd, rn, rm, ra, imm, cond, w, ()) = 0 := by simpa using hc
    obtain ⟨hop, hrd, hrn, _⟩ := check_bounds h
    have i1 := inR15 hrd
    have i2 := inR15 hrn
    have g : G_cpu_words s = true := dec_true hs
    have e1 : ∀ k : Int, List.getD (V_cpu_words s).1 (Int.toNat k) 0 = (wn (rg s.1 k) : Int) := fun k => wordR_get s.1 _
    simp only [T_cpu_Access, PO.val, hc, i1, i2, g, dflt_i64]
    rw [e1, e1, band_byte]
    unfold accessV
    by_cases h19 : op = 19
    · subst h19; rfl
    · by_cases h20 : op = 20
      · subst h20; rfl
      · by_cases h21 : op = 21
        · subst h21; rfl
        · by_cases h22 : op = 22
          · subst h22; rfl
          · have b19 : (op == 19) = false := beq_eq_false_iff_ne.2 h19
            have b20 : (op == 20) = false := beq_eq_false_iff_ne.2 h20
            have b21 : (op == 21) = false := beq_eq_false_iff_ne.2 h21
            have b22 : (op == 22) = false := beq_eq_false_iff_ne.2 h22
            simp [b19, b20, b21, b22]
  · simp [T_cpu_Access, PO.val, hc, accessV]
theorem ok_cpu_Access (x : dens A_cpu_Access) (h : G_cpu_Access x = true) : (T_cpu_Access x).val = some (V_cpu_Access x) := by
  obtain ⟨s, op, rd, rn, rm, ra, imm, cond, w, u⟩ := x
  exact access_val s op rd rn rm ra imm cond w (of_decide_eq_true h)
/-- hauberkref08.value -/
abbrev A_hauberkref08_value : List Ty := [tIns, (.int .i64), (.int .i64), (.int .i64), (.int .i64)]
abbrev S_hauberkref08_value : Sh := Sh.ty (Ty.int IntKind.i64)
def T_hauberkref08_value (x : dens A_hauberkref08_value) : PO (Sh.den S_hauberkref08_value) :=
  (.ite (x.1.1 == 3)
   (.ret (x.1.2.2.2.2.2.1))
   (.ite (x.1.1 == 4)
    (.ret (w64 (Int.tmod x.2.1 65536 + w64 (65536 * x.1.2.2.2.2.2.1))))
    (.ite (x.1.1 == 5)
     (.ret (V_hauberkref01_Shl (x.2.2.2.1, x.1.2.2.2.2.2.1)))
     (.ite (x.1.1 == 6)
      (.ret (V_hauberkref01_Shr (x.2.2.2.1, x.1.2.2.2.2.2.1)))
      (.ite (x.1.1 == 7)
       (.ret (V_hauberkref01_Sar (x.2.2.2.1, x.1.2.2.2.2.2.1)))
       (.ite (x.1.1 == 8)
        (.ret (V_hauberkref01_Ror (x.2.2.2.1, x.1.2.2.2.2.2.1)))
        (.ite (x.1.1 == 9)
         (.ret (V_hauberkref01_Not x.2.2.2.1))
         (.ite (x.1.1 == 10)
          (.ret (V_hauberkref01_And (x.2.2.1, x.2.2.2.1)))
          (.ite (x.1.1 == 11)
           (.ret (V_hauberkref01_And (x.2.2.1, V_hauberkref01_Not x.2.2.2.1)))
           (.ite (x.1.1 == 12)
            (.ret (V_hauberkref01_Or (x.2.2.1, x.2.2.2.1)))
            (.ite (x.1.1 == 13)
             (.ret (V_hauberkref01_Xor (x.2.2.1, x.2.2.2.1)))
             (.ite (x.1.1 == 14)
              (.ret (V_hauberkref01_Add (x.2.2.1, x.2.2.2.1)))
              (.ite (x.1.1 == 15)
               (.ret (V_hauberkref01_Sub (x.2.2.1, x.2.2.2.1)))
               (.ite (bif x.1.1 == 16 then x.1.1 == 16 else x.1.1 == 17)
                (.ret (V_hauberkref01_Mul (x.2.2.1, x.2.2.2.1)))
                (.ite (x.1.1 == 18)
                 (.ite (G_hauberkref08_put (x.2.1, x.2.2.1, x.1.2.2.2.2.2.1, x.1.2.2.2.2.1))
                  (.ret (V_hauberkref08_put (x.2.1, x.2.2.1, x.1.2.2.2.2.2.1, x.1.2.2.2.2.1)))
                  .fail)
                 (.ite (x.1.1 == 19)
                  (.ret (V_hauberkref01_Wrap x.2.2.2.2))
                  (.ite (x.1.1 == 21)
                   (.ret (Int.tmod (V_hauberkref01_Wrap x.2.2.2.2) 256))
                   (.ret (x.2.1)))))))))))))))))))
set_option maxHeartbeats 1000000 in
theorem value_val (op rd rn rm ra imm cond : Int) (w : Bool) (d n m ld : Int) (hd : 0 ≤ d ∧ d < 4294967296) (h : V_thumb_Check (op, rd, rn, rm, ra, imm, cond, w, ()) = 0) : (T_hauberkref08_value ((op, rd, rn, rm, ra, imm, cond, w, ()), d, n, m, ld)).val = some (vOf op imm ra d n m ld) := by
  obtain ⟨hop, hrd, hrn, hrm, h17, himm, h31, h18, _⟩ := check_bounds h
  rcases op_cases op with rfl | rfl | rfl | rfl | rfl | rfl | rfl | rfl | rfl | rfl | rfl | rfl | rfl | rfl | rfl | rfl | rfl | rfl | rfl | rfl | rfl | rfl | rfl | rfl | rfl | hx
  case inr.inr.inr.inr.inr.inr.inr.inr.inr.inr.inr.inr.inr.inr.inr.inr.inr.inr.inr.inr.inr.inr.inr.inr.inr => omega
  case inr.inr.inr.inl =>
    obtain ⟨a1, a2, _⟩ := himm (by omega) (by omega)
    show some (w64 (Int.tmod d 65536 + w64 (65536 * imm))) = some ((insN (wn d) (wn imm) 16 16 : Nat) : Int)
    rw [tmod_pos _ _ hd.1, w64_id (n := 65536 * imm) (by omega) (by omega), w64_id (by omega) (by omega)]
    have e : insN (wn d) (wn imm) 16 16 = wn imm % 65536 * 65536 + wn d % 65536 := by
      have := wn_lt d
      unfold insN
      omega
    rw [e]
    have e1 : (wn imm : Int) = imm := by rw [wn_int, Int.emod_eq_of_lt (by omega) (by omega)]
    have e2 : (wn d : Int) = d := by rw [wn_int, Int.emod_eq_of_lt (by omega) (by omega)]
    exact congrArg some (by omega)
  case inr.inr.inr.inr.inr.inr.inr.inr.inr.inr.inr.inr.inr.inr.inr.inr.inr.inl =>
    obtain ⟨a1, a2, _⟩ := himm (by omega) (by omega)
    obtain ⟨a3, a4⟩ := h18 rfl
    have g : G_hauberkref08_put (d, n, imm, ra) = true := by
      simp only [G_hauberkref08_put, Bool.and_eq_true, decide_eq_true_eq]
      exact ⟨⟨hd.1, hd.2⟩, a1, by show (0 : Int) ≤ ra; omega, by show imm + ra ≤ 32; omega⟩
    show (bif G_hauberkref08_put (d, n, imm, ra) then some (V_hauberkref08_put (d, n, imm, ra)) else none) = _
    rw [g]
    rfl
  case inr.inr.inr.inr.inr.inr.inr.inr.inr.inr.inr.inr.inr.inr.inr.inr.inr.inr.inr.inr.inl =>
    show some (Int.tmod ((wn ld : Nat) : Int) 256) = some ((wn ld % 256 : Nat) : Int)
    rw [tmod_pos _ _ (by omega)]
    exact congrArg some (by omega)
  all_goals rfl
def G_hauberkref08_value (x : dens A_hauberkref08_value) : Bool := (decide ((0 : Int) ≤ x.2.1) && decide ((x.2.1 : Int) < 4294967296)) && V_thumb_Check x.1 == 0
def V_hauberkref08_value (x : dens A_hauberkref08_value) : Sh.den S_hauberkref08_value := vOf x.1.1 x.1.2.2.2.2.2.1 x.1.2.2.2.2.1 x.2.1 x.2.2.1 x.2.2.2.1 x.2.2.2.2
theorem ok_hauberkref08_value (x : dens A_hauberkref08_value) (h : G_hauberkref08_value x = true) : (T_hauberkref08_value x).val = some (V_hauberkref08_value x) := by
  obtain ⟨⟨op, rd, rn, rm, ra, imm, cond, w, u⟩, d, n, m, ld⟩ := x
  simp only [G_hauberkref08_value, Bool.and_eq_true, decide_eq_true_eq, beq_iff_eq] at h
  exact value_val op rd rn rm ra imm cond w d n m ld h.1 h.2
/-- hauberkref08.Access -/
abbrev A_hauberkref08_Access : List Ty := [tState, tIns]
abbrev S_hauberkref08_Access : Sh := Sh.tup (Sh.pair (Sh.ty tAccess) (Sh.pair (Sh.ty Ty.bool) (Sh.ty Ty.unit)))
def T_hauberkref08_Access (x : dens A_hauberkref08_Access) : PO (Sh.den S_hauberkref08_Access) :=
  (.ite (G_hauberkref02_Check x.2)
   (.ite (V_hauberkref02_Check x.2 != 0 || !(x.2.1 == 19 || x.2.1 == 21) && !(x.2.1 == 20 || x.2.1 == 22))
    (.ret (((0, 0, 0, false, ()), false, ())))
    (.ite (inRange x.2.2.2.1 15)
     (.ite (x.2.1 == 20 || x.2.1 == 22)
      (.ite (inRange x.2.2.1 15)
       (.ite (x.2.1 == 21 || x.2.1 == 22)
        (.ret (((V_hauberkref01_Wrap (List.getD x.1.1 (Int.toNat x.2.2.2.1) (Ty.dflt (Ty.int IntKind.i64))), 1, Int.tmod (V_hauberkref01_Wrap (List.getD x.1.1 (Int.toNat x.2.2.1) (Ty.dflt (Ty.int IntKind.i64)))) 256, x.2.1 == 20 || x.2.1 == 22, ()), true, ())))
        (.ret (((V_hauberkref01_Wrap (List.getD x.1.1 (Int.toNat x.2.2.2.1) (Ty.dflt (Ty.int IntKind.i64))), 4, V_hauberkref01_Wrap (List.getD x.1.1 (Int.toNat x.2.2.1) (Ty.dflt (Ty.int IntKind.i64))), x.2.1 == 20 || x.2.1 == 22, ()), true, ()))))
       .fail)
      (.ite (x.2.1 == 21 || x.2.1 == 22)
       (.ret (((V_hauberkref01_Wrap (List.getD x.1.1 (Int.toNat x.2.2.2.1) (Ty.dflt (Ty.int IntKind.i64))), 1, 0, x.2.1 == 20 || x.2.1 == 22, ()), true, ())))
       (.ret (((V_hauberkref01_Wrap (List.getD x.1.1 (Int.toNat x.2.2.2.1) (Ty.dflt (Ty.int IntKind.i64))), 4, 0, x.2.1 == 20 || x.2.1 == 22, ()), true, ())))))
     .fail))
   .fail)
def G_hauberkref08_Access (_ : dens A_hauberkref08_Access) : Bool := true
def V_hauberkref08_Access (x : dens A_hauberkref08_Access) : Sh.den S_hauberkref08_Access := accessV (V_thumb_Check x.2 != 0) x.2.1 (rg x.1.1 x.2.2.2.1) (rg x.1.1 x.2.2.1)
theorem ref_access_val (s : tState.den) (op rd rn rm ra imm cond : Int) (w : Bool) : (T_hauberkref08_Access (s, (op, rd, rn, rm, ra, imm, cond, w, ()))).val = some (accessV (V_thumb_Check (op, rd, rn, rm, ra, imm, cond, w, ()) != 0) op (rg s.1 rn) (rg s.1 rd)) := by
  have hck := check_same (op, rd, rn, rm, ra, imm, cond, w, ())
  have hco := check_ok (op, rd, rn, rm, ra, imm, cond, w, ())
  have t1 : ∀ n : Int, Int.tmod ((wn n : Nat) : Int) 256 = ((wn n % 256 : Nat) : Int) := fun n => by rw [tmod_pos _ _ (by omega)]; omega
  cases hc : (V_thumb_Check (op, rd, rn, rm, ra, imm, cond, w, ()) != (0 : Int))
  · have h : V_thumb_Check (op, rd, rn, rm, ra, imm, cond, w, ()) = 0 := by simpa using hc
    obtain ⟨hop, hrd, hrn, _⟩ := check_bounds h
    have i1 := inR15 hrd
    have i2 := inR15 hrn
    rw [hck] at hc
    simp only [T_hauberkref08_Access, PO.val, hc, hco, i1, i2, dflt_i64, V_hauberkref01_Wrap, t1]
    unfold accessV
    by_cases h19 : op = 19
    · subst h19; rfl
    · by_cases h20 : op = 20
      · subst h20; rfl
      · by_cases h21 : op = 21
        · subst h21; rfl
        · by_cases h22 : op = 22
          · subst h22; rfl
          · have b19 : (op == 19) = false := beq_eq_false_iff_ne.2 h19
            have b20 : (op == 20) = false := beq_eq_false_iff_ne.2 h20
            have b21 : (op == 21) = false := beq_eq_false_iff_ne.2 h21
            have b22 : (op == 22) = false := beq_eq_false_iff_ne.2 h22
            simp [b19, b20, b21, b22]
  · rw [hck] at hc
    simp [T_hauberkref08_Access, PO.val, hc, hco, accessV]
theorem ok_hauberkref08_Access (x : dens A_hauberkref08_Access) (_ : G_hauberkref08_Access x = true) : (T_hauberkref08_Access x).val = some (V_hauberkref08_Access x) := by
  obtain ⟨s, op, rd, rn, rm, ra, imm, cond, w, u⟩ := x
  exact ref_access_val s op rd rn rm ra imm cond w
end Go.Av
end
/-! Layer 8: what an instruction does: a step. -/
section
namespace Go.Av
open Go
/-! ### Conditions -/
theorem cond_cases (c : Int) : c = 0 ∨ c = 1 ∨ c = 2 ∨ c = 3 ∨ c = 4 ∨ c = 5 ∨ c = 6 ∨ c = 7 ∨ c = 8 ∨ c = 9 ∨ c = 10 ∨ c = 11 ∨ c = 12 ∨ c = 13 ∨ (c < 0 ∨ 13 < c) := by omega

theorem holds_val (r : List Int) (pc : Int) (n z cf v : Bool) (c : Int) : V_cpu_Holds ((r, pc, n, z, cf, v, ()), c) = bif decide (c < 0) || decide (c > 13) then false else ((bif c / 2 == 0 then z else bif c / 2 == 1 then cf else bif c / 2 == 2 then n else bif c / 2 == 3 then v else bif c / 2 == 4 then cf && !z else bif c / 2 == 5 then n == v else c / 2 == 6 && (!z && n == v)) == (c % 2 == 0)) := by
  have h1 : ishr .i64 c 1 = c / 2 := ishr_i64 c 1 (by omega)
  have h2 : band .i64 c 1 = c % 2 := band_one c
  have e : V_cpu_Holds ((r, pc, n, z, cf, v, ()), c) = (bif decide (c < 0) || decide (c > 13) then some false else some ((bif ishr .i64 c 1 == 0 then z else bif ishr .i64 c 1 == 1 then cf else bif ishr .i64 c 1 == 2 then n else bif ishr .i64 c 1 == 3 then v else bif ishr .i64 c 1 == 4 then cf && !z else bif ishr .i64 c 1 == 5 then n == v else ishr .i64 c 1 == 6 && (!z && n == v)) == (band .i64 c 1 == 0))).getD default := rfl
  rw [e, h1, h2]
  cases decide (c < 0) || decide (c > 13) <;> rfl

theorem holds_same (s : tState.den) (c : Int) : V_cpu_Holds (s, c) = V_hauberkref08_Holds (s, c) := by
  obtain ⟨r, pc, n, z, cf, v, u⟩ := s
  rw [holds_val]
  rcases cond_cases c with rfl | rfl | rfl | rfl | rfl | rfl | rfl | rfl | rfl | rfl | rfl | rfl | rfl | rfl | h
  case inr.inr.inr.inr.inr.inr.inr.inr.inr.inr.inr.inr.inr.inr =>
    have e : ∀ k : Int, 0 ≤ k → k ≤ 13 → (c == k) = false := fun k h1 h2 => by rw [beq_eq_false_iff_ne]; omega
    have h1 : (decide (c < 0) || decide (c > 13)) = true := by
      rw [Bool.or_eq_true, decide_eq_true_eq, decide_eq_true_eq]; exact h
    rw [h1]
    simp [V_hauberkref08_Holds, T_hauberkref08_Holds, PO.getO, PO.val, e]
  all_goals cases n <;> cases z <;> cases cf <;> cases v <;> rfl

/-! ### Comparisons -/
def cmpV (a b : Int) : Bool := decide (sw (wn a) - sw (wn b) < -2147483648) || decide (sw (wn a) - sw (wn b) > 2147483647)

theorem bt31 (m : Nat) (h : m < 4294967296) : bt m 31 = if 2147483648 ≤ m then 1 else 0 := by
  unfold bt
  split <;> omega

theorem overflow_bit (a b : Nat) (ha : a < 4294967296) (hb : b < 4294967296) : (bt ((a ^^^ b) &&& (a ^^^ wn ((a : Int) - b))) 31 == 1) = cmpV (a : Int) (b : Int) := by
  have hd := wn_lt ((a : Int) - b)
  have e : bt ((a ^^^ b) &&& (a ^^^ wn ((a : Int) - b))) 31 = ((a.testBit 31 ^^ b.testBit 31) && (a.testBit 31 ^^ (wn ((a : Int) - b)).testBit 31)).toNat := by
    rw [bt_eq, Nat.testBit_and, Nat.testBit_xor, Nat.testBit_xor]
  have h1 : ∀ m : Nat, m < 4294967296 → m.testBit 31 = decide (2147483648 ≤ m) := fun m hm => by
    have := bt31 m hm
    rw [bt_eq] at this
    cases ht : m.testBit 31
    · rw [ht] at this; split at this
      · cases this
      · rename_i h; exact (dec_false h).symm
    · rw [ht] at this; split at this
      · rename_i h; exact (dec_true h).symm
      · cases this
  rw [e, h1 a ha, h1 b hb, h1 _ hd]
  unfold cmpV
  rw [wn_nat ha, wn_nat hb]
  have hw : wn ((a : Int) - b) = if b ≤ a then a - b else a + 4294967296 - b := by unfold wn; split <;> omega
  rw [hw, Bool.eq_iff_iff]
  unfold sw
  by_cases x1 : 2147483648 ≤ a <;> by_cases x2 : 2147483648 ≤ b <;> by_cases x3 : b ≤ a <;> simp [x1, x2, x3] <;> omega

/-- Flags behind a comparison of words. -/
theorem compare_val (s : tState.den) (a b : Nat) (ha : a < 4294967296) (hb : b < 4294967296) : V_cpu_compare (s, (a : Int), (b : Int)) = (s.1, s.2.1, decide (2147483648 ≤ wn ((a : Int) - b)), a == b, decide (b ≤ a), cmpV a b, s.2.2.2.2.2.2) := by
  have hd := wn_lt ((a : Int) - b)
  have k31 : kk 31 = 31 := rfl
  have e1 : (((wn ((wn ((a : Int) - b) : Nat) : Int) / 2 ^ kk 31 % 2 : Nat) : Int) == 1) = decide (2147483648 ≤ wn ((a : Int) - b)) := by
    rw [k31, wn_nat hd, Bool.eq_iff_iff, beq_iff_eq, decide_eq_true_eq]
    omega
  have e2 : (((wn ((a : Int) - b) : Nat) : Int) == 0) = (a == b) := by
    rw [Bool.eq_iff_iff, beq_iff_eq, beq_iff_eq]
    unfold wn
    omega
  have e3 : decide ((a : Int) ≥ (b : Int)) = decide (b ≤ a) := decide_eq_decide.2 (by omega)
  have x1 : a ^^^ b < 4294967296 := Nat.xor_lt_two_pow (n := 32) ha hb
  have x2 : a ^^^ wn ((a : Int) - b) < 4294967296 := Nat.xor_lt_two_pow (n := 32) ha hd
  have x3 : (a ^^^ b) &&& (a ^^^ wn ((a : Int) - b)) < 4294967296 := Nat.lt_of_le_of_lt Nat.and_le_left x1
  have e4 : (((wn ((wn ((wn (a : Int) ^^^ wn (b : Int) : Nat) : Int) &&& wn ((wn (a : Int) ^^^ wn ((wn ((a : Int) - b) : Nat) : Int) : Nat) : Int) : Nat) : Int) / 2 ^ kk 31 % 2 : Nat) : Int) == 1) = cmpV a b := by
    rw [wn_nat ha, wn_nat hb, wn_nat hd, wn_nat x1, wn_nat x2, wn_nat x3, k31, ← overflow_bit a b ha hb, Bool.eq_iff_iff, beq_iff_eq, beq_iff_eq]
    unfold bt
    omega
  show (s.1, s.2.1, (((wn ((wn ((a : Int) - b) : Nat) : Int) / 2 ^ kk 31 % 2 : Nat) : Int) == 1), (((wn ((a : Int) - b) : Nat) : Int) == 0), decide ((a : Int) ≥ (b : Int)), (((wn ((wn ((wn (a : Int) ^^^ wn (b : Int) : Nat) : Int) &&& wn ((wn (a : Int) ^^^ wn ((wn ((a : Int) - b) : Nat) : Int) : Nat) : Int) : Nat) : Int) / 2 ^ kk 31 % 2 : Nat) : Int) == 1), s.2.2.2.2.2.2) = _
  rw [e1, e2, e3, e4]

/-! ### A step -/
/-- A state of words. -/
def wState (s : tState.den) : tState.den := (wordR s.1, (wn s.2.1 : Int), s.2.2)
def goesV (s : tState.den) (op cond : Int) : Bool := op == 24 || op == 25 && V_cpu_Holds (s, cond)
/-- How far on the next instruction lies. -/
def farV (s : tState.den) (op imm cond : Int) (w : Bool) : Int := bif goesV s op cond then 4 + imm else bif isLong op w then 4 else 2
def stepV (bad : Bool) (s : tState.den) (op rd rn rm ra imm cond : Int) (w : Bool) (ld : Int) : (tState.den × Bool × Unit) :=
  bif bad || op == 2 then (wState s, false, ())
  else (((bif op == 24 || op == 25 then wState s else makesS (wState s) op rd rn rm ra imm ld).1, (wn (wn s.2.1 + farV (wState s) op imm cond w) : Int), (bif op == 24 || op == 25 then wState s else makesS (wState s) op rd rn rm ra imm ld).2.2), true, ())

theorem makesS_pc (s : tState.den) (op rd rn rm ra imm ld : Int) : (makesS s op rd rn rm ra imm ld).2.1 = s.2.1 := by
  unfold makesS
  cases op == 23 <;> rfl
theorem wn_far (a b : Int) : wn (w64 (a + w64 b)) = wn (a + b) := wn_eq (by rw [w64_mod, Int.add_emod, w64_mod, ← Int.add_emod])
theorem wn_far' (a b : Int) : wn (w64 (a + b)) = wn (a + b) := wn_eq (by rw [w64_mod])
/-- cpu.Step -/
abbrev A_cpu_Step : List Ty := [tState, tIns, (.int .i64)]
abbrev S_cpu_Step : Sh := Sh.tup (Sh.pair (Sh.ty tState) (Sh.pair (Sh.ty Ty.bool) (Sh.ty Ty.unit)))
def T_cpu_Step (x : dens A_cpu_Step) : PO (Sh.den S_cpu_Step) :=
  (.ite (G_cpu_words x.1)
   (.ite (V_thumb_Check x.2.1 != 0 || x.2.1.1 == 2)
    (.ret ((V_cpu_words x.1, false, ())))
    (.ite (x.2.1.1 != 24 && x.2.1.1 != 25)
     (.ite (G_cpu_makes (V_cpu_words x.1, x.2.1, x.2.2))
      (.ret ((((V_cpu_makes (V_cpu_words x.1, x.2.1, x.2.2)).1, V_word_Wrap (w64 ((V_cpu_makes (V_cpu_words x.1, x.2.1, x.2.2)).2.1 + bif V_cpu_goes (V_cpu_words x.1, x.2.1) then w64 (4 + x.2.1.2.2.2.2.2.1) else V_thumb_Size x.2.1)), (V_cpu_makes (V_cpu_words x.1, x.2.1, x.2.2)).2.2), true, ())))
      .fail)
     (.ret ((((V_cpu_words x.1).1, V_word_Wrap (w64 ((V_cpu_words x.1).2.1 + bif V_cpu_goes (V_cpu_words x.1, x.2.1) then w64 (4 + x.2.1.2.2.2.2.2.1) else V_thumb_Size x.2.1)), (V_cpu_words x.1).2.2), true, ())))))
   .fail)
theorem step_val (s : tState.den) (op rd rn rm ra imm cond : Int) (w : Bool) (ld : Int) (hs : List.length s.1 = 15) : (T_cpu_Step (s, (op, rd, rn, rm, ra, imm, cond, w, ()), ld)).val = some (stepV (V_thumb_Check (op, rd, rn, rm, ra, imm, cond, w, ()) != 0) s op rd rn rm ra imm cond w ld) := by
  have g : G_cpu_words s = true := dec_true hs
  have hg : V_cpu_goes (wState s, (op, rd, rn, rm, ra, imm, cond, w, ())) = goesV (wState s) op cond := by
    unfold V_cpu_goes T_cpu_goes PO.getO PO.val goesV
    cases op == 24 <;> cases op == 25 <;> rfl
  have e : (T_cpu_Step (s, (op, rd, rn, rm, ra, imm, cond, w, ()), ld)).val = (bif G_cpu_words s then (bif V_thumb_Check (op, rd, rn, rm, ra, imm, cond, w, ()) != 0 || op == 2 then some (wState s, false, ()) else
      (bif op != 24 && op != 25 then (bif V_thumb_Check (op, rd, rn, rm, ra, imm, cond, w, ()) == 0 then some ((((makesS (wState s) op rd rn rm ra imm ld).1, (wn (w64 ((makesS (wState s) op rd rn rm ra imm ld).2.1 + bif V_cpu_goes (wState s, (op, rd, rn, rm, ra, imm, cond, w, ())) then w64 (4 + imm) else (bif V_thumb_Check (op, rd, rn, rm, ra, imm, cond, w, ()) != 0 then 0 else bif isLong op w then 4 else 2))) : Int), (makesS (wState s) op rd rn rm ra imm ld).2.2), true, ())) else none)
        else some ((((wState s).1, (wn (w64 ((wState s).2.1 + bif V_cpu_goes (wState s, (op, rd, rn, rm, ra, imm, cond, w, ())) then w64 (4 + imm) else (bif V_thumb_Check (op, rd, rn, rm, ra, imm, cond, w, ()) != 0 then 0 else bif isLong op w then 4 else 2))) : Int), (wState s).2.2), true, ())))) else none) := rfl
  rw [e, g, hg]
  unfold stepV farV
  cases hc : (V_thumb_Check (op, rd, rn, rm, ra, imm, cond, w, ()) != (0 : Int))
  · have h : (V_thumb_Check (op, rd, rn, rm, ra, imm, cond, w, ()) == (0 : Int)) = true := by simpa using hc
    rw [h, makesS_pc]
    cases op == 2
    · have ho : (op != 24 && op != 25) = !(op == 24 || op == 25) := by simp [bne]
      rw [ho]
      cases goesV (wState s) op cond
      · cases op == 24 || op == 25
        · simp only [Bool.or_self, cond_false, cond_true, Bool.not_false, wn_far']
          rfl
        · simp only [Bool.or_self, cond_false, cond_true, Bool.not_true, wn_far']
          rfl
      · cases op == 24 || op == 25
        · simp only [Bool.or_self, cond_false, cond_true, Bool.not_false, wn_far]
          rfl
        · simp only [Bool.or_self, cond_false, cond_true, Bool.not_true, wn_far]
          rfl
    · rfl
  · rfl
def G_cpu_Step (x : dens A_cpu_Step) : Bool := decide (List.length x.1.1 = 15)
def V_cpu_Step (x : dens A_cpu_Step) : Sh.den S_cpu_Step := stepV (V_thumb_Check x.2.1 != 0) x.1 x.2.1.1 x.2.1.2.1 x.2.1.2.2.1 x.2.1.2.2.2.1 x.2.1.2.2.2.2.1 x.2.1.2.2.2.2.2.1 x.2.1.2.2.2.2.2.2.1 x.2.1.2.2.2.2.2.2.2.1 x.2.2
theorem ok_cpu_Step (x : dens A_cpu_Step) (h : G_cpu_Step x = true) : (T_cpu_Step x).val = some (V_cpu_Step x) := by
  obtain ⟨s, ⟨op, rd, rn, rm, ra, imm, cond, w, u⟩, ld⟩ := x
  exact step_val s op rd rn rm ra imm cond w ld (of_decide_eq_true h)
/-- cpu.Cycles -/
abbrev A_cpu_Cycles : List Ty := [tState, tIns]
abbrev S_cpu_Cycles : Sh := Sh.ty (Ty.int IntKind.i64)
def T_cpu_Cycles (x : dens A_cpu_Cycles) : PO (Sh.den S_cpu_Cycles) :=
  (.ite (V_thumb_Check x.2 != 0)
   (.ret (0))
   (.ite (G_cpu_Access (x.1, x.2))
    (.ite ((V_cpu_Access (x.1, x.2)).2.1)
     (.ret (2))
     (.ite (x.2.1 == 17)
      (.ret (4))
      (.ite (V_cpu_goes (x.1, x.2))
       (.ret (3))
       (.ret (1)))))
    .fail))
def cyclesV (bad : Bool) (s : tState.den) (op cond : Int) : Int :=
  bif bad then 0 else bif op == 19 || (op == 20 || (op == 21 || op == 22)) then 2 else bif op == 17 then 4 else bif goesV s op cond then 3 else 1
theorem access_is (bad : Bool) (op a d : Int) : (accessV bad op a d).2.1 = (!bad && (op == 19 || (op == 20 || (op == 21 || op == 22)))) := by
  unfold accessV
  cases bad
  · cases op == 19
    · cases op == 20
      · cases op == 21
        · cases op == 22 <;> rfl
        · rfl
      · rfl
    · rfl
  · rfl
theorem goes_eq (s : tState.den) (op rd rn rm ra imm cond : Int) (w : Bool) : V_cpu_goes (s, (op, rd, rn, rm, ra, imm, cond, w, ())) = goesV s op cond := by
  unfold V_cpu_goes T_cpu_goes PO.getO PO.val goesV
  cases op == 24 <;> cases op == 25 <;> rfl
theorem taken_eq (s : tState.den) (op rd rn rm ra imm cond : Int) (w : Bool) : V_hauberkref08_Taken (s, (op, rd, rn, rm, ra, imm, cond, w, ())) = goesV s op cond := by
  have h := holds_same s cond
  unfold V_hauberkref08_Taken T_hauberkref08_Taken PO.getO PO.val goesV
  rw [h]
  cases op == 24 <;> cases op == 25 <;> rfl
def G_cpu_Cycles (x : dens A_cpu_Cycles) : Bool := decide (List.length x.1.1 = 15)
def V_cpu_Cycles (x : dens A_cpu_Cycles) : Sh.den S_cpu_Cycles := cyclesV (V_thumb_Check x.2 != 0) x.1 x.2.1 x.2.2.2.2.2.2.2.1
theorem cycles_val (s : tState.den) (op rd rn rm ra imm cond : Int) (w : Bool) (hs : List.length s.1 = 15) : (T_cpu_Cycles (s, (op, rd, rn, rm, ra, imm, cond, w, ()))).val = some (cyclesV (V_thumb_Check (op, rd, rn, rm, ra, imm, cond, w, ()) != 0) s op cond) := by
  have g : G_cpu_Access (s, (op, rd, rn, rm, ra, imm, cond, w, ())) = true := dec_true hs
  have e : (T_cpu_Cycles (s, (op, rd, rn, rm, ra, imm, cond, w, ()))).val = (bif V_thumb_Check (op, rd, rn, rm, ra, imm, cond, w, ()) != 0 then some 0 else (bif G_cpu_Access (s, (op, rd, rn, rm, ra, imm, cond, w, ())) then (bif (accessV (V_thumb_Check (op, rd, rn, rm, ra, imm, cond, w, ()) != 0) op (rg s.1 rn) (rg s.1 rd)).2.1 then some 2 else (bif op == 17 then some 4 else (bif V_cpu_goes (s, (op, rd, rn, rm, ra, imm, cond, w, ())) then some 3 else some 1))) else none)) := rfl
  rw [e, g, access_is, goes_eq]
  unfold cyclesV
  cases (V_thumb_Check (op, rd, rn, rm, ra, imm, cond, w, ()) != (0 : Int))
  · cases op == 19 || (op == 20 || (op == 21 || op == 22)) <;> cases op == 17 <;> cases goesV s op cond <;> rfl
  · rfl
theorem ok_cpu_Cycles (x : dens A_cpu_Cycles) (h : G_cpu_Cycles x = true) : (T_cpu_Cycles x).val = some (V_cpu_Cycles x) := by
  obtain ⟨s, op, rd, rn, rm, ra, imm, cond, w, u⟩ := x
  exact cycles_val s op rd rn rm ra imm cond w (of_decide_eq_true h)
/-- hauberkref08.Step -/
abbrev A_hauberkref08_Step : List Ty := [tState, tIns, (.int .i64)]
abbrev S_hauberkref08_Step : Sh := Sh.tup (Sh.pair (Sh.ty tState) (Sh.pair (Sh.ty Ty.bool) (Sh.ty Ty.unit)))
def T_hauberkref08_Step (x : dens A_hauberkref08_Step) : PO (Sh.den S_hauberkref08_Step) :=
  (.ite (G_hauberkref08_Words x.1)
   (.ite (G_hauberkref02_Check x.2.1)
    (.ite (V_hauberkref02_Check x.2.1 != 0 || x.2.1.1 == 2)
     (.ret ((V_hauberkref08_Words x.1, false, ())))
     (.ite (V_hauberkref08_Taken (V_hauberkref08_Words x.1, x.2.1))
      (.ite (inRange x.2.1.2.2.1 15 && inRange x.2.1.2.2.2.1 15)
       (.ite (x.2.1.1 == 23)
        (.ite (decide (w64 (V_hauberkref08_signed (List.getD (V_hauberkref08_Words x.1).1 (Int.toNat x.2.1.2.2.1) (Ty.dflt (Ty.int IntKind.i64))) - V_hauberkref08_signed (List.getD (V_hauberkref08_Words x.1).1 (Int.toNat x.2.1.2.2.2.1) (Ty.dflt (Ty.int IntKind.i64)))) < -2147483648))
         (.ret ((((V_hauberkref08_Words x.1).1, V_hauberkref01_Wrap (w64 (w64 ((V_hauberkref08_Words x.1).2.1 + 4) + x.2.1.2.2.2.2.2.1)), V_hauberkref01_Bit (V_hauberkref01_Sub (List.getD (V_hauberkref08_Words x.1).1 (Int.toNat x.2.1.2.2.1) (Ty.dflt (Ty.int IntKind.i64)), List.getD (V_hauberkref08_Words x.1).1 (Int.toNat x.2.1.2.2.2.1) (Ty.dflt (Ty.int IntKind.i64))), 31) == 1, List.getD (V_hauberkref08_Words x.1).1 (Int.toNat x.2.1.2.2.1) (Ty.dflt (Ty.int IntKind.i64)) == List.getD (V_hauberkref08_Words x.1).1 (Int.toNat x.2.1.2.2.2.1) (Ty.dflt (Ty.int IntKind.i64)), decide (List.getD (V_hauberkref08_Words x.1).1 (Int.toNat x.2.1.2.2.1) (Ty.dflt (Ty.int IntKind.i64)) ≥ List.getD (V_hauberkref08_Words x.1).1 (Int.toNat x.2.1.2.2.2.1) (Ty.dflt (Ty.int IntKind.i64))), true, (V_hauberkref08_Words x.1).2.2.2.2.2.2), true, ())))
         (.ret ((((V_hauberkref08_Words x.1).1, V_hauberkref01_Wrap (w64 (w64 ((V_hauberkref08_Words x.1).2.1 + 4) + x.2.1.2.2.2.2.2.1)), V_hauberkref01_Bit (V_hauberkref01_Sub (List.getD (V_hauberkref08_Words x.1).1 (Int.toNat x.2.1.2.2.1) (Ty.dflt (Ty.int IntKind.i64)), List.getD (V_hauberkref08_Words x.1).1 (Int.toNat x.2.1.2.2.2.1) (Ty.dflt (Ty.int IntKind.i64))), 31) == 1, List.getD (V_hauberkref08_Words x.1).1 (Int.toNat x.2.1.2.2.1) (Ty.dflt (Ty.int IntKind.i64)) == List.getD (V_hauberkref08_Words x.1).1 (Int.toNat x.2.1.2.2.2.1) (Ty.dflt (Ty.int IntKind.i64)), decide (List.getD (V_hauberkref08_Words x.1).1 (Int.toNat x.2.1.2.2.1) (Ty.dflt (Ty.int IntKind.i64)) ≥ List.getD (V_hauberkref08_Words x.1).1 (Int.toNat x.2.1.2.2.2.1) (Ty.dflt (Ty.int IntKind.i64))), decide (w64 (V_hauberkref08_signed (List.getD (V_hauberkref08_Words x.1).1 (Int.toNat x.2.1.2.2.1) (Ty.dflt (Ty.int IntKind.i64))) - V_hauberkref08_signed (List.getD (V_hauberkref08_Words x.1).1 (Int.toNat x.2.1.2.2.2.1) (Ty.dflt (Ty.int IntKind.i64)))) > 2147483647), (V_hauberkref08_Words x.1).2.2.2.2.2.2), true, ()))))
        (.ite (x.2.1.1 == 24 || (x.2.1.1 == 25 || x.2.1.1 == 1))
         (.ret ((((V_hauberkref08_Words x.1).1, V_hauberkref01_Wrap (w64 (w64 ((V_hauberkref08_Words x.1).2.1 + 4) + x.2.1.2.2.2.2.2.1)), (V_hauberkref08_Words x.1).2.2), true, ())))
         (.ite (inRange x.2.1.2.1 15)
          (.ite (G_hauberkref08_value (x.2.1, List.getD (V_hauberkref08_Words x.1).1 (Int.toNat x.2.1.2.1) (Ty.dflt (Ty.int IntKind.i64)), List.getD (V_hauberkref08_Words x.1).1 (Int.toNat x.2.1.2.2.1) (Ty.dflt (Ty.int IntKind.i64)), List.getD (V_hauberkref08_Words x.1).1 (Int.toNat x.2.1.2.2.2.1) (Ty.dflt (Ty.int IntKind.i64)), x.2.2))
           (.ite (inRange x.2.1.2.1 15)
            (.ite (x.2.1.1 == 17)
             (.ite (inRange x.2.1.2.2.2.2.1 15)
              (.ret (((List.set (List.set (V_hauberkref08_Words x.1).1 (Int.toNat x.2.1.2.1) (V_hauberkref08_value (x.2.1, List.getD (V_hauberkref08_Words x.1).1 (Int.toNat x.2.1.2.1) (Ty.dflt (Ty.int IntKind.i64)), List.getD (V_hauberkref08_Words x.1).1 (Int.toNat x.2.1.2.2.1) (Ty.dflt (Ty.int IntKind.i64)), List.getD (V_hauberkref08_Words x.1).1 (Int.toNat x.2.1.2.2.2.1) (Ty.dflt (Ty.int IntKind.i64)), x.2.2))) (Int.toNat x.2.1.2.2.2.2.1) (V_hauberkref01_High (List.getD (V_hauberkref08_Words x.1).1 (Int.toNat x.2.1.2.2.1) (Ty.dflt (Ty.int IntKind.i64)), List.getD (V_hauberkref08_Words x.1).1 (Int.toNat x.2.1.2.2.2.1) (Ty.dflt (Ty.int IntKind.i64)))), V_hauberkref01_Wrap (w64 (w64 ((V_hauberkref08_Words x.1).2.1 + 4) + x.2.1.2.2.2.2.2.1)), (V_hauberkref08_Words x.1).2.2), true, ())))
              .fail)
             (.ret (((List.set (V_hauberkref08_Words x.1).1 (Int.toNat x.2.1.2.1) (V_hauberkref08_value (x.2.1, List.getD (V_hauberkref08_Words x.1).1 (Int.toNat x.2.1.2.1) (Ty.dflt (Ty.int IntKind.i64)), List.getD (V_hauberkref08_Words x.1).1 (Int.toNat x.2.1.2.2.1) (Ty.dflt (Ty.int IntKind.i64)), List.getD (V_hauberkref08_Words x.1).1 (Int.toNat x.2.1.2.2.2.1) (Ty.dflt (Ty.int IntKind.i64)), x.2.2)), V_hauberkref01_Wrap (w64 (w64 ((V_hauberkref08_Words x.1).2.1 + 4) + x.2.1.2.2.2.2.2.1)), (V_hauberkref08_Words x.1).2.2), true, ()))))
            .fail)
           .fail)
          .fail)))
       .fail)
      (.ite (inRange x.2.1.2.2.1 15 && inRange x.2.1.2.2.2.1 15)
       (.ite (x.2.1.1 == 23)
        (.ite (decide (w64 (V_hauberkref08_signed (List.getD (V_hauberkref08_Words x.1).1 (Int.toNat x.2.1.2.2.1) (Ty.dflt (Ty.int IntKind.i64))) - V_hauberkref08_signed (List.getD (V_hauberkref08_Words x.1).1 (Int.toNat x.2.1.2.2.2.1) (Ty.dflt (Ty.int IntKind.i64)))) < -2147483648))
         (.ret ((((V_hauberkref08_Words x.1).1, V_hauberkref01_Wrap (w64 ((V_hauberkref08_Words x.1).2.1 + V_hauberkref02_Size x.2.1)), V_hauberkref01_Bit (V_hauberkref01_Sub (List.getD (V_hauberkref08_Words x.1).1 (Int.toNat x.2.1.2.2.1) (Ty.dflt (Ty.int IntKind.i64)), List.getD (V_hauberkref08_Words x.1).1 (Int.toNat x.2.1.2.2.2.1) (Ty.dflt (Ty.int IntKind.i64))), 31) == 1, List.getD (V_hauberkref08_Words x.1).1 (Int.toNat x.2.1.2.2.1) (Ty.dflt (Ty.int IntKind.i64)) == List.getD (V_hauberkref08_Words x.1).1 (Int.toNat x.2.1.2.2.2.1) (Ty.dflt (Ty.int IntKind.i64)), decide (List.getD (V_hauberkref08_Words x.1).1 (Int.toNat x.2.1.2.2.1) (Ty.dflt (Ty.int IntKind.i64)) ≥ List.getD (V_hauberkref08_Words x.1).1 (Int.toNat x.2.1.2.2.2.1) (Ty.dflt (Ty.int IntKind.i64))), true, (V_hauberkref08_Words x.1).2.2.2.2.2.2), true, ())))
         (.ret ((((V_hauberkref08_Words x.1).1, V_hauberkref01_Wrap (w64 ((V_hauberkref08_Words x.1).2.1 + V_hauberkref02_Size x.2.1)), V_hauberkref01_Bit (V_hauberkref01_Sub (List.getD (V_hauberkref08_Words x.1).1 (Int.toNat x.2.1.2.2.1) (Ty.dflt (Ty.int IntKind.i64)), List.getD (V_hauberkref08_Words x.1).1 (Int.toNat x.2.1.2.2.2.1) (Ty.dflt (Ty.int IntKind.i64))), 31) == 1, List.getD (V_hauberkref08_Words x.1).1 (Int.toNat x.2.1.2.2.1) (Ty.dflt (Ty.int IntKind.i64)) == List.getD (V_hauberkref08_Words x.1).1 (Int.toNat x.2.1.2.2.2.1) (Ty.dflt (Ty.int IntKind.i64)), decide (List.getD (V_hauberkref08_Words x.1).1 (Int.toNat x.2.1.2.2.1) (Ty.dflt (Ty.int IntKind.i64)) ≥ List.getD (V_hauberkref08_Words x.1).1 (Int.toNat x.2.1.2.2.2.1) (Ty.dflt (Ty.int IntKind.i64))), decide (w64 (V_hauberkref08_signed (List.getD (V_hauberkref08_Words x.1).1 (Int.toNat x.2.1.2.2.1) (Ty.dflt (Ty.int IntKind.i64))) - V_hauberkref08_signed (List.getD (V_hauberkref08_Words x.1).1 (Int.toNat x.2.1.2.2.2.1) (Ty.dflt (Ty.int IntKind.i64)))) > 2147483647), (V_hauberkref08_Words x.1).2.2.2.2.2.2), true, ()))))
        (.ite (x.2.1.1 == 24 || (x.2.1.1 == 25 || x.2.1.1 == 1))
         (.ret ((((V_hauberkref08_Words x.1).1, V_hauberkref01_Wrap (w64 ((V_hauberkref08_Words x.1).2.1 + V_hauberkref02_Size x.2.1)), (V_hauberkref08_Words x.1).2.2), true, ())))
         (.ite (inRange x.2.1.2.1 15)
          (.ite (G_hauberkref08_value (x.2.1, List.getD (V_hauberkref08_Words x.1).1 (Int.toNat x.2.1.2.1) (Ty.dflt (Ty.int IntKind.i64)), List.getD (V_hauberkref08_Words x.1).1 (Int.toNat x.2.1.2.2.1) (Ty.dflt (Ty.int IntKind.i64)), List.getD (V_hauberkref08_Words x.1).1 (Int.toNat x.2.1.2.2.2.1) (Ty.dflt (Ty.int IntKind.i64)), x.2.2))
           (.ite (inRange x.2.1.2.1 15)
            (.ite (x.2.1.1 == 17)
             (.ite (inRange x.2.1.2.2.2.2.1 15)
              (.ret (((List.set (List.set (V_hauberkref08_Words x.1).1 (Int.toNat x.2.1.2.1) (V_hauberkref08_value (x.2.1, List.getD (V_hauberkref08_Words x.1).1 (Int.toNat x.2.1.2.1) (Ty.dflt (Ty.int IntKind.i64)), List.getD (V_hauberkref08_Words x.1).1 (Int.toNat x.2.1.2.2.1) (Ty.dflt (Ty.int IntKind.i64)), List.getD (V_hauberkref08_Words x.1).1 (Int.toNat x.2.1.2.2.2.1) (Ty.dflt (Ty.int IntKind.i64)), x.2.2))) (Int.toNat x.2.1.2.2.2.2.1) (V_hauberkref01_High (List.getD (V_hauberkref08_Words x.1).1 (Int.toNat x.2.1.2.2.1) (Ty.dflt (Ty.int IntKind.i64)), List.getD (V_hauberkref08_Words x.1).1 (Int.toNat x.2.1.2.2.2.1) (Ty.dflt (Ty.int IntKind.i64)))), V_hauberkref01_Wrap (w64 ((V_hauberkref08_Words x.1).2.1 + V_hauberkref02_Size x.2.1)), (V_hauberkref08_Words x.1).2.2), true, ())))
              .fail)
             (.ret (((List.set (V_hauberkref08_Words x.1).1 (Int.toNat x.2.1.2.1) (V_hauberkref08_value (x.2.1, List.getD (V_hauberkref08_Words x.1).1 (Int.toNat x.2.1.2.1) (Ty.dflt (Ty.int IntKind.i64)), List.getD (V_hauberkref08_Words x.1).1 (Int.toNat x.2.1.2.2.1) (Ty.dflt (Ty.int IntKind.i64)), List.getD (V_hauberkref08_Words x.1).1 (Int.toNat x.2.1.2.2.2.1) (Ty.dflt (Ty.int IntKind.i64)), x.2.2)), V_hauberkref01_Wrap (w64 ((V_hauberkref08_Words x.1).2.1 + V_hauberkref02_Size x.2.1)), (V_hauberkref08_Words x.1).2.2), true, ()))))
            .fail)
           .fail)
          .fail)))
       .fail)))
    .fail)
   .fail)
theorem wordR_reg (l : List Int) (k : Int) : rg (wordR l) k = (wn (rg l k) : Int) := wordR_get l _
theorem signed_eq {m : Nat} : V_hauberkref08_signed (m : Int) = bif decide ((m : Int) ≥ 2147483648) then w64 ((m : Int) - 4294967296) else (m : Int) := by
  unfold V_hauberkref08_signed T_hauberkref08_signed PO.getO PO.val
  cases decide ((m : Int) ≥ 2147483648) <;> rfl
theorem signed_sw {m : Nat} (h : m < 4294967296) : V_hauberkref08_signed (m : Int) = sw m := by
  rw [signed_eq]
  unfold sw
  by_cases h1 : 2147483648 ≤ m
  · rw [dec_true (by omega), if_pos h1, cond_true, w64_id (by omega) (by omega)]
  · rw [dec_false (by omega), if_neg h1, cond_false]
theorem wn_jump (a b : Int) : wn (w64 (w64 (a + 4) + b)) = wn (a + (4 + b)) := wn_eq (by rw [w64_mod, Int.add_emod, w64_mod, ← Int.add_emod]; congr 1; omega)

theorem wn_jump' (a b : Int) : wn (w64 (a + 4) + b) = wn (a + (4 + b)) := wn_eq (by rw [Int.add_emod, w64_mod, ← Int.add_emod]; congr 1; omega)

/-- The state behind an instruction of the document's, at the place of the next one. -/
def refPut (s : tState.den) (pc op rd rn rm ra imm ld : Int) : (tState.den × Bool × Unit) := (((makesS s op rd rn rm ra imm ld).1, pc, (makesS s op rd rn rm ra imm ld).2.2), true, ())

set_option maxHeartbeats 4000000 in
theorem ref_step_val (s : tState.den) (op rd rn rm ra imm cond : Int) (w : Bool) (ld : Int) (hs : List.length s.1 = 15) : (T_hauberkref08_Step (s, (op, rd, rn, rm, ra, imm, cond, w, ()), ld)).val = some (stepV (V_thumb_Check (op, rd, rn, rm, ra, imm, cond, w, ()) != 0) s op rd rn rm ra imm cond w ld) := by
  have hck := check_same (op, rd, rn, rm, ra, imm, cond, w, ())
  have hco := check_ok (op, rd, rn, rm, ra, imm, cond, w, ())
  have g : G_hauberkref08_Words s = true := dec_true hs
  have hw : V_hauberkref08_Words s = wState s := rfl
  have htk := taken_eq (wState s) op rd rn rm ra imm cond w
  have hsz : V_hauberkref02_Size (op, rd, rn, rm, ra, imm, cond, w, ()) = (bif V_thumb_Check (op, rd, rn, rm, ra, imm, cond, w, ()) != 0 then 0 else bif isLong op w then 4 else 2) := rfl
  cases hc : (V_thumb_Check (op, rd, rn, rm, ra, imm, cond, w, ()) != (0 : Int))
  · have h : V_thumb_Check (op, rd, rn, rm, ra, imm, cond, w, ()) = 0 := by simpa using hc
    rw [hc, cond_false] at hsz
    rw [hck] at hc
    obtain ⟨hop, hrd, hrn, hrm, h17, _⟩ := check_bounds h
    have i1 := inR15 hrd
    have i2 := inR15 hrn
    have i3 := inR15 hrm
    have hreg : ∀ k : Int, List.getD (wState s).1 (Int.toNat k) 0 = (wn (rg s.1 k) : Int) := fun k => wordR_get s.1 _
    have hreg' : ∀ k : Int, rg (wState s).1 k = (wn (rg s.1 k) : Int) := fun k => wordR_reg s.1 _
    have hpc : (wState s).2.1 = (wn s.2.1 : Int) := rfl
    have hgv : ∀ n m l : Int, G_hauberkref08_value ((op, rd, rn, rm, ra, imm, cond, w, ()), (wn (rg s.1 rd) : Int), n, m, l) = true := fun n m l => by
      have := wn_lt (rg s.1 rd)
      simp only [G_hauberkref08_value, Bool.and_eq_true, decide_eq_true_eq, beq_iff_eq]
      exact ⟨⟨by show (0 : Int) ≤ _; omega, by show (_ : Int) < _; omega⟩, h⟩
    have hvv : ∀ d n m l : Int, V_hauberkref08_value ((op, rd, rn, rm, ra, imm, cond, w, ()), d, n, m, l) = vOf op imm ra d n m l := fun _ _ _ _ => rfl
    simp only [T_hauberkref08_Step, PO.val, g, hco, hc, hw, htk, i1, i2, i3, dflt_i64, hreg, hpc, hsz, hgv, hvv, Bool.false_or, cond_true, Bool.and_self, V_hauberkref01_Wrap, wn_jump, wn_far']
    by_cases h23 : op = 23
    · subst h23
      have hn := wn_lt (rg s.1 rn)
      have hm := wn_lt (rg s.1 rm)
      have hcmp := compare_val (wState s) (wn (rg s.1 rn)) (wn (rg s.1 rm)) hn hm
      have hst : stepV false s 23 rd rn rm ra imm cond w ld = (((V_cpu_compare (wState s, (wn (rg s.1 rn) : Int), (wn (rg s.1 rm) : Int))).1, (wn (wn s.2.1 + (bif isLong 23 w then 4 else 2)) : Int), (V_cpu_compare (wState s, (wn (rg s.1 rn) : Int), (wn (rg s.1 rm) : Int))).2.2), true, ()) := by
        unfold stepV makesS farV goesV
        simp only [hreg']
        rfl
      rw [hst, hcmp]
      have r1 := sw_range hn
      have r2 := sw_range hm
      have hov : w64 (V_hauberkref08_signed ((wn (rg s.1 rn) : Nat) : Int) - V_hauberkref08_signed ((wn (rg s.1 rm) : Nat) : Int)) = sw (wn (rg s.1 rn)) - sw (wn (rg s.1 rm)) := by
        rw [signed_sw hn, signed_sw hm, w64_id (by omega) (by omega)]
      have hbit : (V_hauberkref01_Bit (V_hauberkref01_Sub (((wn (rg s.1 rn) : Nat) : Int), ((wn (rg s.1 rm) : Nat) : Int)), 31) == (1 : Int)) = decide (2147483648 ≤ wn (((wn (rg s.1 rn) : Nat) : Int) - ((wn (rg s.1 rm) : Nat) : Int))) := by
        have hd := wn_lt (((wn (rg s.1 rn) : Nat) : Int) - ((wn (rg s.1 rm) : Nat) : Int))
        show ((((bt (wn ((wn (((wn (rg s.1 rn) : Nat) : Int) - ((wn (rg s.1 rm) : Nat) : Int)) : Nat) : Int)) (kk 31)) : Nat) : Int) == (1 : Int)) = _
        rw [wn_nat hd, show kk 31 = 31 from rfl, bt31 _ hd, Bool.eq_iff_iff, beq_iff_eq, decide_eq_true_eq]
        split <;> simp_all
      have hz : ((((wn (rg s.1 rn) : Nat) : Int)) == (((wn (rg s.1 rm) : Nat) : Int))) = (wn (rg s.1 rn) == wn (rg s.1 rm)) := by
        rw [Bool.eq_iff_iff, beq_iff_eq, beq_iff_eq]; omega
      have hge : decide ((((wn (rg s.1 rn) : Nat) : Int)) ≥ (((wn (rg s.1 rm) : Nat) : Int))) = decide (wn (rg s.1 rm) ≤ wn (rg s.1 rn)) := decide_eq_decide.2 (by omega)
      have hgo : goesV (wState s) 23 cond = false := rfl
      rw [hgo]
      simp only [hov, hbit, hz, hge, cond_false]
      unfold cmpV
      rw [wn_wn, wn_wn]
      cases decide (sw (wn (rg s.1 rn)) - sw (wn (rg s.1 rm)) < -2147483648)
      · rfl
      · rfl
    · have b23 : (op == 23) = false := beq_eq_false_iff_ne.2 h23
      have hlen : (wState s).1.length = 15 := by
        show (wordR s.1).length = 15
        rw [wordR_len, hs]
      have hself : List.set (wState s).1 rd.toNat (wn (rg s.1 rd) : Int) = (wState s).1 := by
        rw [← hreg']
        unfold rg
        rw [getD_in _ _ (show rd.toNat < (wState s).1.length by omega)]
        exact List.set_getElem_self _
      have hhigh : V_hauberkref01_High (((wn (rg s.1 rn) : Nat) : Int), ((wn (rg s.1 rm) : Nat) : Int)) = ((wn (rg s.1 rn) * wn (rg s.1 rm) / 4294967296 : Nat) : Int) := by
        show ((wn ((wn (rg s.1 rn) : Nat) : Int) * wn ((wn (rg s.1 rm) : Nat) : Int) / 4294967296 : Nat) : Int) = _
        rw [wn_wn, wn_wn]
      simp only [b23, cond_false, wn_jump', hhigh]
      unfold stepV farV makesS regsOf
      simp only [hreg', b23, cond_false]
      generalize goesV (wState s) op cond = gv
      rcases op_cases op with rfl | rfl | rfl | rfl | rfl | rfl | rfl | rfl | rfl | rfl | rfl | rfl | rfl | rfl | rfl | rfl | rfl | rfl | rfl | rfl | rfl | rfl | rfl | rfl | rfl | hx
      case inr.inr.inr.inr.inr.inr.inr.inr.inr.inr.inr.inr.inr.inr.inr.inr.inr.inr.inr.inr.inr.inr.inr.inr.inr => omega
      case inr.inr.inr.inr.inr.inr.inr.inr.inr.inr.inr.inr.inr.inr.inr.inr.inl =>
        have i4 := inR15 ⟨(h17 rfl).1, (h17 rfl).2.1⟩
        rw [i4, wn_wn, wn_wn]
        have hv : vOf 17 imm ra (wn (rg s.1 rd) : Int) (wn (rg s.1 rn) : Int) (wn (rg s.1 rm) : Int) ld = ((wn (rg s.1 rn) * wn (rg s.1 rm) % 4294967296 : Nat) : Int) := by
          show ((wn ((wn (rg s.1 rn) : Nat) : Int) * wn ((wn (rg s.1 rm) : Nat) : Int) % 4294967296 : Nat) : Int) = _
          rw [wn_wn, wn_wn]
        rw [hv]
        cases gv <;> rfl
      case inr.inr.inr.inr.inr.inr.inr.inr.inr.inr.inr.inr.inr.inr.inr.inr.inr.inr.inr.inl =>
        have hv : vOf 20 imm ra (wn (rg s.1 rd) : Int) (wn (rg s.1 rn) : Int) (wn (rg s.1 rm) : Int) ld = (wn (rg s.1 rd) : Int) := rfl
        rw [hv, hself]
        cases gv <;> rfl
      case inr.inr.inr.inr.inr.inr.inr.inr.inr.inr.inr.inr.inr.inr.inr.inr.inr.inr.inr.inr.inr.inl =>
        have hv : vOf 22 imm ra (wn (rg s.1 rd) : Int) (wn (rg s.1 rn) : Int) (wn (rg s.1 rm) : Int) ld = (wn (rg s.1 rd) : Int) := rfl
        rw [hv, hself]
        cases gv <;> rfl
      case inr.inr.inr.inr.inr.inr.inr.inr.inr.inr.inr.inr.inr.inr.inr.inr.inr.inr.inr.inr.inr.inr.inl => exact absurd rfl h23
      all_goals cases gv <;> rfl
  · rw [hck] at hc
    simp only [T_hauberkref08_Step, PO.val, g, hco, hc, hw]
    rfl
def G_hauberkref08_Step (x : dens A_hauberkref08_Step) : Bool := decide (List.length x.1.1 = 15)
def V_hauberkref08_Step (x : dens A_hauberkref08_Step) : Sh.den S_hauberkref08_Step := stepV (V_thumb_Check x.2.1 != 0) x.1 x.2.1.1 x.2.1.2.1 x.2.1.2.2.1 x.2.1.2.2.2.1 x.2.1.2.2.2.2.1 x.2.1.2.2.2.2.2.1 x.2.1.2.2.2.2.2.2.1 x.2.1.2.2.2.2.2.2.2.1 x.2.2
theorem ok_hauberkref08_Step (x : dens A_hauberkref08_Step) (h : G_hauberkref08_Step x = true) : (T_hauberkref08_Step x).val = some (V_hauberkref08_Step x) := by
  obtain ⟨s, ⟨op, rd, rn, rm, ra, imm, cond, w, u⟩, ld⟩ := x
  exact ref_step_val s op rd rn rm ra imm cond w ld (of_decide_eq_true h)
/-- hauberkref08.Cycles -/
abbrev A_hauberkref08_Cycles : List Ty := [tState, tIns]
abbrev S_hauberkref08_Cycles : Sh := Sh.ty (Ty.int IntKind.i64)
def T_hauberkref08_Cycles (x : dens A_hauberkref08_Cycles) : PO (Sh.den S_hauberkref08_Cycles) :=
  (.ite (G_hauberkref02_Check x.2)
   (.ite (V_hauberkref02_Check x.2 != 0)
    (.ret (0))
    (.ite ((V_hauberkref08_Access (x.1, x.2)).2.1)
     (.ret (2))
     (.ite (x.2.1 == 17)
      (.ret (4))
      (.ite (V_hauberkref08_Taken (x.1, x.2))
       (.ret (3))
       (.ret (1))))))
   .fail)
def G_hauberkref08_Cycles (_ : dens A_hauberkref08_Cycles) : Bool := true
def V_hauberkref08_Cycles (x : dens A_hauberkref08_Cycles) : Sh.den S_hauberkref08_Cycles := cyclesV (V_thumb_Check x.2 != 0) x.1 x.2.1 x.2.2.2.2.2.2.2.1
theorem ok_hauberkref08_Cycles (x : dens A_hauberkref08_Cycles) (_ : G_hauberkref08_Cycles x = true) : (T_hauberkref08_Cycles x).val = some (V_hauberkref08_Cycles x) := by
  obtain ⟨s, op, rd, rn, rm, ra, imm, cond, w, u⟩ := x
  have hck := check_same (op, rd, rn, rm, ra, imm, cond, w, ())
  have hco := check_ok (op, rd, rn, rm, ra, imm, cond, w, ())
  have hac : (V_hauberkref08_Access (s, (op, rd, rn, rm, ra, imm, cond, w, ()))).2.1 = (!(V_thumb_Check (op, rd, rn, rm, ra, imm, cond, w, ()) != (0 : Int)) && (op == 19 || (op == 20 || (op == 21 || op == 22)))) := access_is _ _ _ _
  have htk := taken_eq s op rd rn rm ra imm cond w
  have hv : V_hauberkref08_Cycles (s, op, rd, rn, rm, ra, imm, cond, w, ()) = cyclesV (V_thumb_Check (op, rd, rn, rm, ra, imm, cond, w, ()) != 0) s op cond := rfl
  rw [hv]
  unfold T_hauberkref08_Cycles cyclesV
  dsimp only [PO.val, G_hauberkref08_Access]
  rw [hco, ← hck, hac, htk]
  cases (V_thumb_Check (op, rd, rn, rm, ra, imm, cond, w, ()) != (0 : Int))
  · cases op == 19 || (op == 20 || (op == 21 || op == 22)) <;> cases op == 17 <;> cases goesV s op cond <;> rfl
  · rfl
end Go.Av
end
/-! Chapter 27's worlds: memories with words in their rails, and instructions done on them: as they are walked. -/
section
namespace Go.Av
open Go

def L_hauberklaw27_World_5 : LoopN where
  M := [0, 5, 7]
  T := [20, 21, 22, 23, 24, 25, 26, 27, 28, 29, 30, 31, 32, 33, 34, 35, 36, 37, 38, 39, 40, 41, 42, 43, 44, 45, 46, 47, 48]
  D := [0, 7]
  ss := [.ty (.sl (.int .i64)), .box 0 0, .ty (.int .i64)]
  hs := [shMem, .rowc (.int .u8)]
  es := [.exit 0]
  σ := (Ty.den (.int .i64)) × (Sh.den (shMem)) × (Sh.den (.rowc (.int .u8)))
  x0 := fun x y => (x.2.2, y.1, y.2)
  put := fun x _ s => ((x.1, x.2.1, s.1), (s.2.1, s.2.2))
  fuel := fun x _ => List.length x.1+1
  turn := fun x _ s =>
  (.ite (decide (s.1 < lenI x.1) && decide (s.1 < 64))
   (.ite (inRange s.1 (List.length x.1))
    (.ite (G_memory_Memory_Store ((), w64 (537133056 + w64 (4 * s.1)), 4, List.getD x.1 (Int.toNat s.1) (Ty.dflt (Ty.int IntKind.i64))) s.2)
     (.ite (inRange s.1 (List.length x.1))
      (.ite (G_memory_Memory_Store ((), w64 (537395200 + w64 (4 * s.1)), 4, bxor IntKind.i64 (List.getD x.1 (Int.toNat s.1) (Ty.dflt (Ty.int IntKind.i64))) 1515870810) (V_memory_Memory_Store ((), w64 (537133056 + w64 (4 * s.1)), 4, List.getD x.1 (Int.toNat s.1) (Ty.dflt (Ty.int IntKind.i64))) s.2).2)
       (.ret (.on (w64 (s.1 + 1), (V_memory_Memory_Store ((), w64 (537395200 + w64 (4 * s.1)), 4, bxor IntKind.i64 (List.getD x.1 (Int.toNat s.1) (Ty.dflt (Ty.int IntKind.i64))) 1515870810) (V_memory_Memory_Store ((), w64 (537133056 + w64 (4 * s.1)), 4, List.getD x.1 (Int.toNat s.1) (Ty.dflt (Ty.int IntKind.i64))) s.2).2).2.1, (V_memory_Memory_Store ((), w64 (537395200 + w64 (4 * s.1)), 4, bxor IntKind.i64 (List.getD x.1 (Int.toNat s.1) (Ty.dflt (Ty.int IntKind.i64))) 1515870810) (V_memory_Memory_Store ((), w64 (537133056 + w64 (4 * s.1)), 4, List.getD x.1 (Int.toNat s.1) (Ty.dflt (Ty.int IntKind.i64))) s.2).2).2.2)))
       .fail)
      .fail)
     .fail)
    .fail)
   (.ret (.out 0 (s.1, s.2.1, s.2.2))))
theorem strInts_bytes (l : List UInt8) : ∀ b ∈ strInts l, 0 ≤ b ∧ b < 256 := by
  intro b hb
  obtain ⟨u, _, rfl⟩ := List.mem_map.1 hb
  have := u.toNat_lt
  omega

theorem bytes4_length (v : Int) : (bytes4 v).length = 4 := by
  unfold bytes4 strInts
  rw [List.length_map]
  rfl

theorem mend_length {α : Type} (xs : List α) (o : Nat) (ys : List α) (n : Nat) (h : o + min ys.length n ≤ xs.length) : (mend xs o ys n).length = xs.length := by
  unfold mend
  simp
  omega

theorem mend_mem {α : Type} {xs ys : List α} {o n : Nat} {b : α} (h : b ∈ mend xs o ys n) : b ∈ xs ∨ b ∈ ys := by
  unfold mend at h
  rcases List.mem_append.1 h with h | h
  · rcases List.mem_append.1 h with h | h
    · exact .inl (List.mem_of_mem_take h)
    · exact .inr (List.mem_of_mem_take h)
  · exact .inl (List.mem_of_mem_drop h)

/-- A store leaves a memory in order. -/
theorem store_wf {y : MemT} (hy : MemWf y) (a n v : Int) : MemWf (storeM y a n v).2 ∧ (storeM y a n v).2.1 = y.1 := by
  unfold storeM
  rcases findM_cases y.1.1 a n true with ⟨e, he, hf⟩ | ⟨j, hj, hn, _, hf⟩
  · rw [hf]
    have hb : (e != 0) = true := by simpa using he
    dsimp only
    rw [hb]
    exact ⟨hy, rfl⟩
  · rw [hf]
    obtain ⟨_, _, _, _, g5, _, _⟩ := acc_ok hy hj hn
    have hl := mend_length y.2 (posM y j a) (bytes4 v) n.toNat (by rw [bytes4_length]; omega)
    refine ⟨⟨hy.regs, hy.len, fun i hi => ?_, fun b hb => ?_⟩, rfl⟩
    · obtain ⟨w1, w2⟩ := hy.wins i hi
      exact ⟨w1, by show _ ≤ (mend y.2 (posM y j a) (bytes4 v) n.toNat).length; rw [hl]; exact w2⟩
    · rcases mend_mem (show b ∈ mend y.2 (posM y j a) (bytes4 v) n.toNat from hb) with h | h
      · exact hy.bytes b h
      · exact strInts_bytes _ b h

/-! ### Worlds -/
/-- Words laid into both rails. -/
def wordsM (words : List Int) : Nat → Nat → MemT → MemT
  | 0, _, m => m
  | k + 1, i, m => wordsM words k (i + 1) (storeM (storeM m (537133056 + 4 * i) 4 (words.getD i 0)).2 (537395200 + 4 * i) 4 (bxor .i64 (words.getD i 0) 1515870810)).2

/-- The regions of chapter 27's worlds. -/
def regs27 : List (Int × Int × Bool × Unit) := (V_memmap_Regions ((16, 16, 256, ()), 4)).1

def worldM (words : List Int) (inp : List UInt8) : MemT := wordsM words (min words.length 64) 0 (newM regs27 [1, 2, 3, 4] inp)

theorem wordsM_wf (words : List Int) : ∀ (k i : Nat) (m : MemT), MemWf m → MemWf (wordsM words k i m) ∧ (wordsM words k i m).1 = m.1
  | 0, _, _, h => ⟨h, rfl⟩
  | k + 1, i, m, h => by
    obtain ⟨a1, a2⟩ := store_wf h (537133056 + 4 * i) 4 (words.getD i 0)
    obtain ⟨b1, b2⟩ := store_wf a1 (537395200 + 4 * i) 4 (bxor .i64 (words.getD i 0) 1515870810)
    obtain ⟨c1, c2⟩ := wordsM_wf words k (i + 1) _ b1
    exact ⟨c1, c2.trans (b2.trans a2)⟩

theorem words_from (words : List Int) (y0 : MemT) : ∀ (k i : Nat), i + k = min words.length 64 → ∀ f, k < f → ∀ m : MemT, MemWf m →
    runL (L_hauberklaw27_World_5.turn (words, (), 0) y0) f ((i : Int), m.1, m.2) = some (0, ((min words.length 64 : Nat) : Int), (wordsM words k i m).1, (wordsM words k i m).2)
  | 0, i, hi, f, hf, m, hm => by
    obtain ⟨f, rfl⟩ : ∃ g, f = g + 1 := ⟨f - 1, by omega⟩
    have : i = min words.length 64 := by omega
    rw [← this]
    refine runL_out (c := 0) (s' := ((i : Int), m.1, m.2)) ?_
    refine val_no ?_
    show (decide ((i : Int) < ((List.length words : Nat) : Int)) && decide ((i : Int) < 64)) = false
    simp only [Bool.and_eq_false_iff, decide_eq_false_iff_not]
    omega
  | k + 1, i, hi, f, hf, m, hm => by
    obtain ⟨f, rfl⟩ : ∃ g, f = g + 1 := ⟨f - 1, by omega⟩
    have hlt : i < words.length := by omega
    have hg : List.getD words (Int.toNat (i : Int)) (Ty.dflt (Ty.int IntKind.i64)) = words.getD i 0 := by rw [Int.toNat_natCast]; rfl
    have e1 : w64 (537133056 + w64 (4 * (i : Int))) = 537133056 + 4 * i := by rw [w64_id (n := 4 * (i : Int)) (by omega) (by omega), w64_id (by omega) (by omega)]
    have e2 : w64 (537395200 + w64 (4 * (i : Int))) = 537395200 + 4 * i := by rw [w64_id (n := 4 * (i : Int)) (by omega) (by omega), w64_id (by omega) (by omega)]
    obtain ⟨a1, a2⟩ := store_wf hm (537133056 + 4 * i) 4 (words.getD i 0)
    obtain ⟨b1, b2⟩ := store_wf a1 (537395200 + 4 * i) 4 (bxor .i64 (words.getD i 0) 1515870810)
    have g1 : G_memory_Memory_Store ((), 537133056 + 4 * (i : Int), 4, words.getD i 0) m = true := decide_eq_true ⟨hm, (show (537133056 + 4 * (i : Int) : Int) < 9223372036854775808 by omega)⟩
    have g2 : G_memory_Memory_Store ((), 537395200 + 4 * (i : Int), 4, bxor .i64 (words.getD i 0) 1515870810) (storeM m (537133056 + 4 * i) 4 (words.getD i 0)).2 = true := decide_eq_true ⟨a1, (show (537395200 + 4 * (i : Int) : Int) < 9223372036854775808 by omega)⟩
    refine (runL_on (s' := (((i + 1 : Nat) : Int), (storeM (storeM m (537133056 + 4 * i) 4 (words.getD i 0)).2 (537395200 + 4 * i) 4 (bxor .i64 (words.getD i 0) 1515870810)).2.1, (storeM (storeM m (537133056 + 4 * i) 4 (words.getD i 0)).2 (537395200 + 4 * i) 4 (bxor .i64 (words.getD i 0) 1515870810)).2.2)) ?_).trans ?_
    · refine (val_yes ?_).trans ((val_yes (inR hlt)).trans ?_)
      · show (decide ((i : Int) < ((List.length words : Nat) : Int)) && decide ((i : Int) < 64)) = true
        simp only [Bool.and_eq_true, decide_eq_true_eq]
        omega
      · dsimp only
        rw [hg, e1, e2]
        refine (val_yes g1).trans ((val_yes (inR hlt)).trans ((val_yes g2).trans ?_))
        rw [w64_id (n := (i : Int) + 1) (by omega) (by omega)]
        rfl
    · exact words_from words y0 k (i + 1) (by omega) f (by omega) _ b1
/-- hauberklaw27.World -/
abbrev SS_hauberklaw27_World : List Sh := [.ty (.sl (.int .i64)), .ty .str]
abbrev HS_hauberklaw27_World : List Sh := []
abbrev S_hauberklaw27_World : Sh := Sh.box 0 0
abbrev HT_hauberklaw27_World : List Sh := [shMem, .rowc (.int .u8)]
def T_hauberklaw27_World (x : shDens SS_hauberklaw27_World) (_ : shDens HS_hauberklaw27_World) : PO R :=
  (.ite ((V_memmap_Regions ((16, 16, 256, ()), 4)).2.1 != 0)
   (.ite ((V_memmap_Regions ((16, 16, 256, ()), 4)).2.1 != 0 || true)
    (.ret (⟨.lit (.pointer none), ()⟩, [], 64))
    .fail)
   (.ite (lenI x.2 != 16)
    (.ret (⟨.lit (.pointer none), ()⟩, [], 64))
    (.opt (LoopN.res L_memory_New_8 ([1, 2, 3, 4], x.2, (V_memmap_Regions ((16, 16, 256, ()), 4)).1, 0, (V_memmap_Regions ((16, 16, 256, ()), 4)).1, lenI (V_memmap_Regions ((16, 16, 256, ()), 4)).1, 0) ()) fun p0 =>
     (.ite (roomOk p0.2.1 1)
      (.opt (LoopN.res L_memory_New_15 ([1, 2, 3, 4], x.2, (), (0, nspan 0 p0.2.1), (V_memmap_Regions ((16, 16, 256, ()), 4)).1, lenI (V_memmap_Regions ((16, 16, 256, ()), 4)).1, 0) (((V_memmap_Regions ((16, 16, 256, ()), 4)).1, [], ()), zeros p0.2.1 0)) fun p1 =>
       (.ite (inRange 0 (List.length p1.2.2.2.1.2.1))
        (.ite (inRange 1 (List.length p1.2.2.2.1.2.1))
         (.opt (LoopN.res L_hauberklaw27_World_5 (x.1, (), 0) (p1.2.2.2.1, mend (mend p1.2.2.2.2 (wAt p1.2.2.2.1.2.1 0).1 (strInts [1, 2, 3, 4]) (wAt p1.2.2.2.1.2.1 0).2) (wAt p1.2.2.2.1.2.1 1).1 (strInts x.2) (wAt p1.2.2.2.1.2.1 1).2)) fun p2 =>
          (.ret (⟨.box 0 0, ()⟩, enum 0 (savs HT_hauberklaw27_World (p2.2.2.1, p2.2.2.2)), 64)))
         .fail)
        .fail))
      .fail))))
theorem regs27_ok : RegsOk regs27 ∧ regs27.length = 7 ∧ sumL regs27 = 556 := by
  have e : regs27 = [(0, 4, false, ()), (536936448, 16, true, ()), (537001984, 16, true, ()), (537133056, 256, true, ()), (537395200, 256, true, ()), (537919488, 4, true, ()), (538968064, 4, true, ())] := by decide +kernel
  rw [e]
  exact ⟨by decide, rfl, rfl⟩
theorem ok_world (words : List Int) (inp : List UInt8) (h : inp.length = 16) : (T_hauberklaw27_World (words, inp) ()).val = some (⟨.box 0 0, ()⟩, enum 0 (savs HT_hauberklaw27_World (worldM words inp)), 64) := by
  obtain ⟨r1, r2, r3⟩ := regs27_ok
  have r4 : ∀ r ∈ regs27, 0 ≤ r.2.1 := fun r hr => (r1.2 r hr).2.1
  have e0 : ((V_memmap_Regions ((16, 16, 256, ()), 4)).2.1 != 0) = false := by decide +kernel
  refine (val_no e0).trans ((val_no ?_).trans ?_)
  · show (((List.length inp : Nat) : Int) != 16) = false
    rw [h]
    rfl
  · refine (val_opt (r := _) (res_8 [1, 2, 3, 4] inp regs27 (by omega) r4 (by omega))).trans ?_
    dsimp only
    rw [r3]
    refine (val_yes (by decide)).trans ?_
    have e15 := res_15 [1, 2, 3, 4] inp regs27 (zeros ((556 : Nat) : Int) 0) (by omega) r4
    rw [r3] at e15
    refine (val_opt (r := _) e15).trans ?_
    have hw : (winsOf 0 regs27).length = 7 := by rw [winsOf_length, r2]
    refine (val_yes ?_).trans ((val_yes ?_).trans ?_)
    · show inRange 0 (winsOf 0 regs27).length = true
      rw [hw]
      rfl
    · show inRange 1 (winsOf 0 regs27).length = true
      rw [hw]
      rfl
    · have hn : newM regs27 [1, 2, 3, 4] inp = ((regs27, winsOf 0 regs27, ()), mend (mend (zeros ((556 : Nat) : Int) 0) (wAt (winsOf 0 regs27) 0).1 (strInts [1, 2, 3, 4]) (wAt (winsOf 0 regs27) 0).2) (wAt (winsOf 0 regs27) 1).1 (strInts inp) (wAt (winsOf 0 regs27) 1).2) := by unfold newM; rw [r3]
      have hwf := newM_wf regs27 [1, 2, 3, 4] inp r1 (by omega)
      have := words_from words (newM regs27 [1, 2, 3, 4] inp) (min words.length 64) 0 (Nat.zero_add _) (words.length + 1) (by omega) (newM regs27 [1, 2, 3, 4] inp) hwf
      rw [hn] at this
      refine (val_opt (r := _) this).trans ?_
      unfold worldM
      rw [hn]
      rfl
def G_hauberklaw27_World (x : shDens SS_hauberklaw27_World) (_ : shDens HS_hauberklaw27_World) : Bool := List.length x.2 == 16
def V_hauberklaw27_World (x : shDens SS_hauberklaw27_World) (_ : shDens HS_hauberklaw27_World) : Sh.den S_hauberklaw27_World × shDens HT_hauberklaw27_World := ((), worldM x.1 x.2)
theorem ok_hauberklaw27_World (x : shDens SS_hauberklaw27_World) (y : shDens HS_hauberklaw27_World) (h : G_hauberklaw27_World x y = true) : (T_hauberklaw27_World x y).val = some (⟨S_hauberklaw27_World, (V_hauberklaw27_World x y).1⟩, enum 0 (savs HT_hauberklaw27_World (V_hauberklaw27_World x y).2), 64) :=
  ok_world x.1 x.2 (by simpa [G_hauberklaw27_World] using h)
/-- hauberklaw27.hit -/
abbrev A_hauberklaw27_hit : List Ty := [tState, tFault, (.int .i64)]
abbrev S_hauberklaw27_hit : Sh := Sh.ty tState
def T_hauberklaw27_hit (x : dens A_hauberklaw27_hit) : PO (Sh.den S_hauberklaw27_hit) :=
  (.ite (x.2.1.2.1 != x.2.2 || (decide (x.2.1.2.2.1 < 0) || (decide (x.2.1.2.2.1 > 14) || (decide (x.2.1.2.2.2.1 < 0) || (decide (x.2.1.2.2.2.1 > 31) || x.2.1.1 != 2)))))
   (.ret (x.1))
   (.ite (inRange x.2.1.2.2.1 15)
    (.ite (!decide (x.2.1.2.2.2.1 < 0))
     (.ite (inRange x.2.1.2.2.1 15)
      (.ret ((List.set x.1.1 (Int.toNat x.2.1.2.2.1) (bxor IntKind.i64 (List.getD x.1.1 (Int.toNat x.2.1.2.2.1) (Ty.dflt (Ty.int IntKind.i64))) (ishl IntKind.i64 1 x.2.1.2.2.2.1)), x.1.2)))
      .fail)
     .fail)
    .fail))
/-- A register turned, if a fault is one of registers and is due. -/
def hitV (s : tState.den) (f : tFault.den) (at_ : Int) : tState.den :=
  bif f.2.1 != at_ || (decide (f.2.2.1 < 0) || (decide (f.2.2.1 > 14) || (decide (f.2.2.2.1 < 0) || (decide (f.2.2.2.1 > 31) || f.1 != 2)))) then s
  else (s.1.set (Int.toNat f.2.2.1) (bxor .i64 (s.1.getD (Int.toNat f.2.2.1) 0) (ishl .i64 1 f.2.2.2.1)), s.2)
theorem ok_hit (s : tState.den) (k p r b : Int) (at_ : Int) : (T_hauberklaw27_hit (s, (k, p, r, b, ()), at_)).val = some (hitV s (k, p, r, b, ()) at_) := by
  unfold hitV
  show (PO.ite (p != at_ || (decide (r < 0) || (decide (r > 14) || (decide (b < 0) || (decide (b > 31) || k != 2))))) _ _).val = some (bif (p != at_ || (decide (r < 0) || (decide (r > 14) || (decide (b < 0) || (decide (b > 31) || k != 2))))) then _ else _)
  cases c : (p != at_ || (decide (r < 0) || (decide (r > 14) || (decide (b < 0) || (decide (b > 31) || k != 2))))) with
  | true => rfl
  | false =>
    simp only [Bool.or_eq_false_iff, decide_eq_false_iff_not] at c
    obtain ⟨_, c1, c2, c3, _⟩ := c
    have hr : inRange r 15 = true := by simp only [inRange, Bool.and_eq_true, decide_eq_true_eq]; omega
    exact (val_no rfl).trans ((val_yes hr).trans ((val_yes (by show (!decide (b < 0)) = true; simp [c3])).trans ((val_yes hr).trans rfl)))
def G_hauberklaw27_hit (_ : dens A_hauberklaw27_hit) : Bool := true
def V_hauberklaw27_hit (x : dens A_hauberklaw27_hit) : Sh.den S_hauberklaw27_hit := hitV x.1 x.2.1 x.2.2
theorem ok_hauberklaw27_hit (x : dens A_hauberklaw27_hit) (_ : G_hauberklaw27_hit x = true) : (T_hauberklaw27_hit x).val = some (V_hauberklaw27_hit x) := by
  obtain ⟨s, ⟨k, p, r, b, u⟩, at_⟩ := x
  exact ok_hit s k p r b at_
/-- What a turn of a world's run knows: whether it went on, counters, memory, state, fault, result, bytes. -/
abbrev GoT : Type := Bool × Int × Int × (List (Int × Int × Bool × Unit) × List (Nat × Nat) × Unit) × tState.den × tFault.den × tState.den × List Int

/-- An instruction's step, behind its access. -/
def goFin (n : Nat) (i at_ k : Int) (f : tFault.den) (res : tState.den) (on : Bool) (st : tState.den) (ins : tIns.den) (mem : MemT) (ld : Int) : PO (TL GoT) :=
  .ite (inRange i n)
   (.ite (G_cpu_Step (st, ins, ld))
    (.ite (!(V_cpu_Step (st, ins, ld)).2.1)
     (.ret (.out 1 (false, w64 (at_ + 1), k, mem.1, st, f, (V_cpu_Step (st, ins, ld)).1, mem.2)))
     (.ret (.on (on, w64 (at_ + 1), w64 (k + 1), mem.1, (V_cpu_Step (st, ins, ld)).1, f, res, mem.2))))
    .fail)
   .fail

/-- What it loads, and its step. -/
def goLd (n : Nat) (i at_ k : Int) (f : tFault.den) (res : tState.den) (on : Bool) (st : tState.den) (ins : tIns.den) (mem : MemT) : PO (TL GoT) :=
  .ite ((V_cpu_Access (st, ins)).2.1 && !(V_cpu_Access (st, ins)).1.2.2.2.1)
   (.ite (G_memory_Memory_Load ((), (V_cpu_Access (st, ins)).1.1, (V_cpu_Access (st, ins)).1.2.1) mem)
    (.ite ((V_memory_Memory_Load ((), (V_cpu_Access (st, ins)).1.1, (V_cpu_Access (st, ins)).1.2.1) mem).1.2.1 != 0)
     (.ret (.out 1 (false, w64 (at_ + 1), k, (V_memory_Memory_Load ((), (V_cpu_Access (st, ins)).1.1, (V_cpu_Access (st, ins)).1.2.1) mem).2.1, st, f, st, (V_memory_Memory_Load ((), (V_cpu_Access (st, ins)).1.1, (V_cpu_Access (st, ins)).1.2.1) mem).2.2)))
     (goFin n i at_ k f res on st ins (V_memory_Memory_Load ((), (V_cpu_Access (st, ins)).1.1, (V_cpu_Access (st, ins)).1.2.1) mem).2 (V_memory_Memory_Load ((), (V_cpu_Access (st, ins)).1.1, (V_cpu_Access (st, ins)).1.2.1) mem).1.1))
    .fail)
   (goFin n i at_ k f res on st ins mem 0)

/-- What it stores, or loads, and its step. -/
def goSt (n : Nat) (i at_ k : Int) (f : tFault.den) (res : tState.den) (on : Bool) (st : tState.den) (ins : tIns.den) (mem : MemT) : PO (TL GoT) :=
  .ite (inRange i n)
   (.ite (G_cpu_Access (st, ins))
    (.ite ((V_cpu_Access (st, ins)).2.1)
     (.ite ((V_cpu_Access (st, ins)).1.2.2.2.1)
      (.ite (G_memory_Memory_Store ((), (V_cpu_Access (st, ins)).1.1, (V_cpu_Access (st, ins)).1.2.1, (V_cpu_Access (st, ins)).1.2.2.1) mem)
       (.ite ((V_memory_Memory_Store ((), (V_cpu_Access (st, ins)).1.1, (V_cpu_Access (st, ins)).1.2.1, (V_cpu_Access (st, ins)).1.2.2.1) mem).1 != 0)
        (.ret (.out 1 (false, w64 (at_ + 1), k, (V_memory_Memory_Store ((), (V_cpu_Access (st, ins)).1.1, (V_cpu_Access (st, ins)).1.2.1, (V_cpu_Access (st, ins)).1.2.2.1) mem).2.1, st, f, st, (V_memory_Memory_Store ((), (V_cpu_Access (st, ins)).1.1, (V_cpu_Access (st, ins)).1.2.1, (V_cpu_Access (st, ins)).1.2.2.1) mem).2.2)))
        (goLd n i at_ k f res on st ins (V_memory_Memory_Store ((), (V_cpu_Access (st, ins)).1.1, (V_cpu_Access (st, ins)).1.2.1, (V_cpu_Access (st, ins)).1.2.2.1) mem).2))
       .fail)
      (goLd n i at_ k f res on st ins mem))
     (goLd n i at_ k f res on st ins mem))
    .fail)
   .fail

theorem wordR_length (r : List Int) : (wordR r).length = r.length := by unfold wordR; simp

theorem regsOf_length (r : List Int) (op rd rn rm ra imm ld : Int) : (regsOf r op rd rn rm ra imm ld).length = r.length := by
  unfold regsOf
  cases op == 17
  · cases makesRd op <;> simp
  · simp

theorem step_len (s : tState.den) (i : tIns.den) (ld : Int) (h : List.length s.1 = 15) : List.length (V_cpu_Step (s, i, ld)).1.1 = 15 := by
  obtain ⟨op, rd, rn, rm, ra, imm, cond, w, u⟩ := i
  have hw : List.length (wState s).1 = 15 := by
    show (wordR s.1).length = 15
    rw [wordR_length, h]
  show List.length (stepV _ s op rd rn rm ra imm cond w ld).1.1 = 15
  unfold stepV
  cases (V_thumb_Check (op, rd, rn, rm, ra, imm, cond, w, u) != 0 || op == 2)
  · show List.length (bif op == 24 || op == 25 then wState s else makesS (wState s) op rd rn rm ra imm ld).1 = 15
    cases op == 24 || op == 25
    · show List.length (makesS (wState s) op rd rn rm ra imm ld).1 = 15
      unfold makesS
      cases op == 23
      · show (regsOf (wState s).1 op rd rn rm ra imm ld).length = 15
        rw [regsOf_length, hw]
      · exact hw
    · exact hw
  · exact hw

theorem hit_len (s : tState.den) (f : tFault.den) (a : Int) (h : List.length s.1 = 15) : List.length (hitV s f a).1 = 15 := by
  unfold hitV
  cases (f.2.1 != a || (decide (f.2.2.1 < 0) || (decide (f.2.2.1 > 14) || (decide (f.2.2.2.1 < 0) || (decide (f.2.2.2.1 > 31) || f.1 != 2)))))
  · show (List.set s.1 _ _).length = 15
    rw [List.length_set, h]
  · exact h

/-- One instruction done: does it go on, the state, the memory. -/
def finM (st : tState.den) (ins : tIns.den) (mem : MemT) (ld : Int) : Bool × tState.den × MemT := ((V_cpu_Step (st, ins, ld)).2.1, (V_cpu_Step (st, ins, ld)).1, mem)
def doOne (st : tState.den) (ins : tIns.den) (mem : MemT) : Bool × tState.den × MemT :=
  match V_cpu_Access (st, ins) with
  | ((a, n, v, w, _), is, _) => bif is then
      bif w then (bif (storeM mem a n v).1 != 0 then (false, st, mem) else finM st ins (storeM mem a n v).2 0)
      else (bif (loadM mem a n).2.1 != 0 then (false, st, mem) else finM st ins mem (loadM mem a n).1)
    else finM st ins mem 0

theorem doOne_wf {st : tState.den} {ins : tIns.den} {mem : MemT} (hs : List.length st.1 = 15) (hm : MemWf mem) : List.length (doOne st ins mem).2.1.1 = 15 ∧ MemWf (doOne st ins mem).2.2 ∧ (doOne st ins mem).2.2.1 = mem.1 := by
  unfold doOne
  obtain ⟨⟨a, n, v, w, u⟩, is, u'⟩ := V_cpu_Access (st, ins)
  cases is
  · exact ⟨step_len _ _ _ hs, hm, rfl⟩
  · cases w
    · simp only [cond_true, cond_false]
      cases (loadM mem a n).2.1 != 0
      · exact ⟨step_len _ _ _ hs, hm, rfl⟩
      · exact ⟨hs, hm, rfl⟩
    · simp only [cond_true]
      cases (storeM mem a n v).1 != 0
      · exact ⟨step_len _ _ _ hs, (store_wf hm a n v).1, (store_wf hm a n v).2⟩
      · exact ⟨hs, hm, rfl⟩

theorem store_same {mem : MemT} {a n v : Int} (h : ((storeM mem a n v).1 != 0) = true) : (storeM mem a n v).2 = mem := by
  unfold storeM at h ⊢
  rcases findM_cases mem.1.1 a n true with ⟨e, he, hf⟩ | ⟨j, hj, hn, _, hf⟩
  · rw [hf]
    have hb : (e != 0) = true := by simpa using he
    simp only [hb, cond_true]
  · rw [hf] at h
    cases h

theorem accessV_addr (bad : Bool) (op a d : Int) : (show Int from (accessV bad op a d).1.1) = 0 ∨ (show Int from (accessV bad op a d).1.1) = (wn a : Int) := by
  unfold accessV
  cases bad <;> cases op == 19 <;> cases op == 20 <;> cases op == 21 <;> cases op == 22 <;> first | exact .inl rfl | exact .inr rfl

theorem access_addr (st : tState.den) (ins : tIns.den) : (show Int from (V_cpu_Access (st, ins)).1.1) < 9223372036854775808 := by
  obtain ⟨op, rd, rn, rm, ra, imm, cond, w, u⟩ := ins
  have := wn_lt (rg st.1 rn)
  rcases accessV_addr (V_thumb_Check (op, rd, rn, rm, ra, imm, cond, w, u) != 0) op (rg st.1 rn) (rg st.1 rd) with h | h
  · exact Int.lt_of_le_of_lt (Int.le_of_eq h) (by decide)
  · exact Int.lt_of_le_of_lt (Int.le_of_eq h) (by omega)

/-- What a turn leaves. -/
def goOut (at_ k : Int) (f : tFault.den) (res : tState.den) (on : Bool) (st : tState.den) (r : Bool × tState.den × MemT) : TL GoT :=
  bif r.1 then .on (on, w64 (at_ + 1), w64 (k + 1), r.2.2.1, r.2.1, f, res, r.2.2.2) else .out 1 (false, w64 (at_ + 1), k, r.2.2.1, st, f, r.2.1, r.2.2.2)

theorem goFin_val {n : Nat} {i at_ k : Int} {f : tFault.den} {res : tState.den} {on : Bool} {st : tState.den} {ins : tIns.den} {mem : MemT} {ld : Int} (hi : inRange i n = true) (hs : List.length st.1 = 15) :
    (goFin n i at_ k f res on st ins mem ld).val = some (goOut at_ k f res on st (finM st ins mem ld)) := by
  unfold goFin
  refine (val_yes hi).trans ((val_yes (dec_true hs)).trans ?_)
  unfold finM goOut
  generalize V_cpu_Step (st, ins, ld) = r
  obtain ⟨st', o, u⟩ := r
  cases o <;> rfl

theorem goSt_val {n : Nat} {i at_ k : Int} {f : tFault.den} {res : tState.den} {on : Bool} {st : tState.den} {ins : tIns.den} {mem : MemT} (hi : inRange i n = true) (hs : List.length st.1 = 15) (hm : MemWf mem) :
    (goSt n i at_ k f res on st ins mem).val = some (goOut at_ k f res on st (doOne st ins mem)) := by
  have ha := access_addr st ins
  unfold goSt
  refine (val_yes hi).trans ((val_yes (dec_true hs)).trans ?_)
  unfold goLd doOne
  generalize V_cpu_Access (st, ins) = acc at *
  obtain ⟨⟨a, m, v, w, u⟩, is, u'⟩ := acc
  have hld : G_memory_Memory_Load ((), a, m) mem = true := decide_eq_true ⟨hm, ha⟩
  have hst : G_memory_Memory_Store ((), a, m, v) mem = true := decide_eq_true ⟨hm, ha⟩
  cases is with
  | false =>
    refine (val_no rfl).trans ((val_no rfl).trans ?_)
    exact goFin_val hi hs
  | true =>
    refine (val_yes rfl).trans ?_
    cases w with
    | false =>
      refine (val_no rfl).trans ((val_yes rfl).trans ((val_yes hld).trans ?_))
      show (PO.ite ((loadM mem a m).2.1 != 0) (.ret (.out 1 (false, w64 (at_ + 1), k, mem.1, st, f, st, mem.2))) (goFin n i at_ k f res on st ins mem (loadM mem a m).1)).val = some (goOut at_ k f res on st (bif ((loadM mem a m).2.1 != 0) then (false, st, mem) else finM st ins mem (loadM mem a m).1))
      cases (loadM mem a m).2.1 != 0 with
      | true => rfl
      | false => exact (val_no rfl).trans (goFin_val hi hs)
    | true =>
      refine (val_yes rfl).trans ((val_yes hst).trans ?_)
      show (PO.ite ((storeM mem a m v).1 != 0) (.ret (.out 1 (false, w64 (at_ + 1), k, (storeM mem a m v).2.1, st, f, st, (storeM mem a m v).2.2))) _).val = some (goOut at_ k f res on st (bif ((storeM mem a m v).1 != 0) then (false, st, mem) else finM st ins (storeM mem a m v).2 0))
      cases hb : (storeM mem a m v).1 != 0 with
      | true => rw [store_same hb]; rfl
      | false => exact (val_no rfl).trans ((val_no rfl).trans (goFin_val hi hs))

/-- An instruction done so many times, with a fault: does it go on, the count, the state, the memory. -/
def goK (f : tFault.den) (ins : tIns.den) : Nat → Int → tState.den → MemT → Bool × Int × tState.den × MemT
  | 0, at_, st, mem => (true, at_, st, mem)
  | m + 1, at_, st, mem => bif f.1 == 1 && f.2.1 == at_ then goK f ins m (at_ + 1) (hitV st f at_) mem
    else bif (doOne (hitV st f at_) ins mem).1 then goK f ins m (at_ + 1) (doOne (hitV st f at_) ins mem).2.1 (doOne (hitV st f at_) ins mem).2.2
    else (false, at_ + 1, (doOne (hitV st f at_) ins mem).2)

theorem goK_wf (f : tFault.den) (ins : tIns.den) : ∀ (m : Nat) (at_ : Int) (st : tState.den) (mem : MemT), List.length st.1 = 15 → MemWf mem →
    List.length (goK f ins m at_ st mem).2.2.1.1 = 15 ∧ MemWf (goK f ins m at_ st mem).2.2.2 ∧ (goK f ins m at_ st mem).2.2.2.1 = mem.1 ∧ ((goK f ins m at_ st mem).1 = true → (goK f ins m at_ st mem).2.1 = at_ + m)
  | 0, at_, st, mem, hs, hm => ⟨hs, hm, rfl, fun _ => by simp [goK]⟩
  | m + 1, at_, st, mem, hs, hm => by
    have hh := hit_len st f at_ hs
    obtain ⟨d1, d2, d3⟩ := doOne_wf (ins := ins) hh hm
    simp only [goK]
    cases f.1 == 1 && f.2.1 == at_
    · simp only [cond_false]
      cases (doOne (hitV st f at_) ins mem).1
      · exact ⟨d1, d2, d3, fun h => by cases h⟩
      · obtain ⟨q1, q2, q3, q4⟩ := goK_wf f ins m (at_ + 1) _ _ d1 d2
        exact ⟨q1, q2, q3.trans d3, fun h => (q4 h).trans (by push_cast; omega)⟩
    · obtain ⟨q1, q2, q3, q4⟩ := goK_wf f ins m (at_ + 1) _ _ hh hm
      exact ⟨q1, q2, q3, fun h => (q4 h).trans (by push_cast; omega)⟩
def L_hauberklaw27_Go_6 : LoopN where
  M := [0, 2, 3, 6, 9, 10, 11, 12, 13, 14]
  T := [15, 16, 17, 18, 19, 20, 21, 28, 29, 30, 31, 32, 33, 34, 35, 36, 37, 38, 39, 40, 41, 42, 43, 44, 45, 46, 47, 48, 49, 50, 51, 52, 53, 54, 55, 56, 57, 58, 59, 60, 61, 62, 63, 64, 65, 66, 67, 68, 69, 70, 71, 72, 73, 74, 75, 76, 77, 78, 79, 80, 81, 82, 83, 84, 85, 86, 87, 88, 89, 90, 91, 92, 93, 94, 95, 96, 97, 98, 99, 100, 101, 102, 103, 104, 105, 106, 107, 108]
  D := [14]
  ss := [.box 0 0, .ty (.sl tIns), .ty (.int .i64), .box 1 0, .box 2 0, .box 3 0, .ty .bool, .ty (.int .i64), .ty (.int .i64), .ty (.int .i64)]
  hs := [shMemB 4, .ty tState, .ty tFault, .ty tState, .rowc (.int .u8)]
  es := [.exit 2, .ret]
  σ := (Ty.den .bool) × (Ty.den (.int .i64)) × (Ty.den (.int .i64)) × (Sh.den (shMemB 4)) × (Sh.den (.ty tState)) × (Sh.den (.ty tFault)) × (Sh.den (.ty tState)) × (Sh.den (.rowc (.int .u8)))
  x0 := fun x y => (x.2.2.2.2.2.2.1, x.2.2.2.2.2.2.2.1, x.2.2.2.2.2.2.2.2.2, y.1, y.2.1, y.2.2.1, y.2.2.2.1, y.2.2.2.2)
  put := fun x _ s => ((x.1, x.2.1, x.2.2.1, x.2.2.2.1, x.2.2.2.2.1, x.2.2.2.2.2.1, s.1, s.2.1, x.2.2.2.2.2.2.2.2.1, s.2.2.1), (s.2.2.2.1, s.2.2.2.2.1, s.2.2.2.2.2.1, s.2.2.2.2.2.2.1, s.2.2.2.2.2.2.2))
  fuel := fun x _ => Int.toNat x.2.2.1+1
  turn := fun x _ s =>
  (.ite (decide (s.2.2.1 < x.2.2.1))
   (.ite (s.2.2.2.2.2.1.1 == 1 && s.2.2.2.2.2.1.2.1 == s.2.1)
    (.ret (.on (s.1, w64 (s.2.1 + 1), w64 (s.2.2.1 + 1), s.2.2.2.1, V_hauberklaw27_hit (s.2.2.2.2.1, s.2.2.2.2.2.1, s.2.1), s.2.2.2.2.2.1, s.2.2.2.2.2.2.1, s.2.2.2.2.2.2.2)))
    (goSt (List.length x.2.1) x.2.2.2.2.2.2.2.2.1 s.2.1 s.2.2.1 s.2.2.2.2.2.1 s.2.2.2.2.2.2.1 s.1 (V_hauberklaw27_hit (s.2.2.2.2.1, s.2.2.2.2.2.1, s.2.1)) (List.getD x.2.1 (Int.toNat x.2.2.2.2.2.2.2.2.1) (Ty.dflt tIns)) (s.2.2.2.1, s.2.2.2.2.2.2.2)))
   (.ret (.out 0 (s.1, s.2.1, s.2.2.1, s.2.2.2.1, s.2.2.2.2.1, s.2.2.2.2.2.1, s.2.2.2.2.2.2.1, s.2.2.2.2.2.2.2))))
theorem goK_loop (l : List tIns.den) (times : Nat) (f : tFault.den) (res : tState.den) (i : Nat) (hi : i < l.length) (ht : times < 4611686018427387904) :
    ∀ (m k : Nat), k + m = times → ∀ g, m < g → ∀ (at_ : Int) (st : tState.den) (mem : MemT), 0 ≤ at_ → at_ + m < 4611686018427387904 → List.length st.1 = 15 → MemWf mem →
      ∃ p : Nat × GoT, runL (L_hauberklaw27_Go_6.turn ((), l, (times : Int), (), (), (), false, 0, (i : Int), 0) (mem.1, st, f, res, mem.2)) g (false, at_, (k : Int), mem.1, st, f, res, mem.2) = some p ∧
        bif (goK f (l.getD i tIns.dflt) m at_ st mem).1 then p = (0, (false, (goK f (l.getD i tIns.dflt) m at_ st mem).2.1, (times : Int), (goK f (l.getD i tIns.dflt) m at_ st mem).2.2.2.1, (goK f (l.getD i tIns.dflt) m at_ st mem).2.2.1, f, res, (goK f (l.getD i tIns.dflt) m at_ st mem).2.2.2.2))
        else p.1 = 1 ∧ p.2.1 = false ∧ (p.2.2.2.2.1, p.2.2.2.2.2.2.2.2) = (goK f (l.getD i tIns.dflt) m at_ st mem).2.2.2 ∧ p.2.2.2.2.2.2.2.1 = (goK f (l.getD i tIns.dflt) m at_ st mem).2.2.1
  | 0, k, hk, g, hg, at_, st, mem, h0, h1, hs, hm => by
    obtain ⟨g, rfl⟩ : ∃ j, g = j + 1 := ⟨g - 1, by omega⟩
    have : k = times := by omega
    subst this
    refine ⟨_, runL_out (c := 0) (s' := (false, at_, (k : Int), mem.1, st, f, res, mem.2)) ?_, rfl⟩
    exact val_no (dec_false (by show ¬ ((k : Int) < (k : Int)); omega))
  | m + 1, k, hk, g, hg, at_, st, mem, h0, h1, hs, hm => by
    obtain ⟨g, rfl⟩ : ∃ j, g = j + 1 := ⟨g - 1, by omega⟩
    have hlt : decide ((k : Int) < (times : Int)) = true := dec_true (by omega)
    have hh := hit_len st f at_ hs
    have wa : w64 (at_ + 1) = at_ + 1 := w64_id (by omega) (by omega)
    have wk : w64 ((k : Int) + 1) = ((k + 1 : Nat) : Int) := by rw [w64_id (by omega) (by omega)]; push_cast; rfl
    simp only [goK]
    cases hsk : (f.1 == 1 && f.2.1 == at_) with
    | true =>
      obtain ⟨p, e1, e2⟩ := goK_loop l times f res i hi ht m (k + 1) (by omega) g (by omega) (at_ + 1) (hitV st f at_) mem (by omega) (by omega) hh hm
      refine ⟨p, (runL_on (s' := (false, at_ + 1, ((k + 1 : Nat) : Int), mem.1, hitV st f at_, f, res, mem.2)) ?_).trans e1, e2⟩
      refine (val_yes hlt).trans ((val_yes hsk).trans ?_)
      show some (TL.on (false, w64 (at_ + 1), w64 ((k : Int) + 1), mem.1, hitV st f at_, f, res, mem.2)) = _
      rw [wa, wk]
    | false =>
      have hv : (L_hauberklaw27_Go_6.turn ((), l, (times : Int), (), (), (), false, 0, (i : Int), 0) (mem.1, st, f, res, mem.2) (false, at_, (k : Int), mem.1, st, f, res, mem.2)).val =
          some (goOut at_ k f res false (hitV st f at_) (doOne (hitV st f at_) (l.getD i tIns.dflt) mem)) := by
        refine (val_yes hlt).trans ((val_no hsk).trans ?_)
        have := goSt_val (n := l.length) (i := (i : Int)) (at_ := at_) (k := (k : Int)) (f := f) (res := res) (on := false) (st := hitV st f at_) (ins := l.getD i tIns.dflt) (mem := mem) (inR hi) hh hm
        refine Eq.trans ?_ this
        show (goSt (List.length l) (i : Int) at_ k f res false (hitV st f at_) (List.getD l (Int.toNat (i : Int)) (Ty.dflt tIns)) (mem.1, mem.2)).val = _
        rw [Int.toNat_natCast]
      obtain ⟨d1, d2, _⟩ := doOne_wf (ins := l.getD i tIns.dflt) hh hm
      simp only [cond_false]
      generalize doOne (hitV st f at_) (l.getD i tIns.dflt) mem = r at *
      obtain ⟨o, st', mem'⟩ := r
      cases o with
      | false =>
        refine ⟨_, runL_out hv, ?_⟩
        exact ⟨rfl, rfl, rfl, rfl⟩
      | true =>
        obtain ⟨p, e1, e2⟩ := goK_loop l times f res i hi ht m (k + 1) (by omega) g (by omega) (at_ + 1) st' mem' (by omega) (by omega) d1 d2
        refine ⟨p, (runL_on (s' := (false, at_ + 1, ((k + 1 : Nat) : Int), mem'.1, st', f, res, mem'.2)) ?_).trans e1, e2⟩
        refine hv.trans ?_
        show some (TL.on (false, w64 (at_ + 1), w64 ((k : Int) + 1), mem'.1, st', f, res, mem'.2)) = _
        rw [wa, wk]
def L_hauberklaw27_Go_3 : LoopN where
  M := [0, 2, 3, 6, 9, 10, 11, 12, 13]
  T := [14, 15, 16, 17, 18, 19, 20, 21, 22, 23, 24, 25, 26, 27, 28, 29, 30, 31, 32, 33, 34, 35, 36, 37, 38, 39, 40, 41, 42, 43, 44, 45, 46, 47, 48, 49, 50, 51, 52, 53, 54, 55, 56, 57, 58, 59, 60, 61, 62, 63, 64, 65, 66, 67, 68, 69, 70, 71, 72, 73, 74, 75, 76, 77, 78, 79, 80, 81, 82, 83, 84, 85, 86, 87, 88, 89, 90, 91, 92, 93, 94, 95, 96, 97, 98, 99, 100, 101, 102, 103, 104, 105, 106, 107, 108]
  D := [0, 2, 3, 9, 12, 13]
  ss := [.box 0 0, .ty (.sl tIns), .ty (.int .i64), .box 1 0, .box 2 0, .box 3 0, .ty .bool, .ty (.int .i64), .ty (.int .i64)]
  hs := [shMemB 4, .ty tState, .ty tFault, .ty tState, .rowc (.int .u8)]
  es := [.exit 0, .ret]
  σ := (Ty.den .bool) × (Ty.den (.int .i64)) × (Ty.den (.int .i64)) × (Sh.den (shMemB 4)) × (Sh.den (.ty tState)) × (Sh.den (.ty tFault)) × (Sh.den (.ty tState)) × (Sh.den (.rowc (.int .u8)))
  x0 := fun x y => (x.2.2.2.2.2.2.1, x.2.2.2.2.2.2.2.1, x.2.2.2.2.2.2.2.2, y.1, y.2.1, y.2.2.1, y.2.2.2.1, y.2.2.2.2)
  put := fun x _ s => ((x.1, x.2.1, x.2.2.1, x.2.2.2.1, x.2.2.2.2.1, x.2.2.2.2.2.1, s.1, s.2.1, s.2.2.1), (s.2.2.2.1, s.2.2.2.2.1, s.2.2.2.2.2.1, s.2.2.2.2.2.2.1, s.2.2.2.2.2.2.2))
  fuel := fun x _ => List.length x.2.1+1
  turn := fun x _ s =>
  (.ite (decide (s.2.2.1 < lenI x.2.1))
   (.opt (LoopN.res L_hauberklaw27_Go_6 ((), x.2.1, x.2.2.1, (), (), (), s.1, s.2.1, s.2.2.1, 0) s.2.2.2) fun p0 =>
    (.ite (way p0.1)
     (.ret (.on (p0.2.1, p0.2.2.1, w64 (s.2.2.1 + 1), p0.2.2.2.2.1, p0.2.2.2.2.2.1, p0.2.2.2.2.2.2.1, p0.2.2.2.2.2.2.2.1, p0.2.2.2.2.2.2.2.2)))
     (.ret (.out 1 (p0.2.1, p0.2.2.1, s.2.2.1, p0.2.2.2.2.1, p0.2.2.2.2.2.1, p0.2.2.2.2.2.2.1, p0.2.2.2.2.2.2.2.1, p0.2.2.2.2.2.2.2.2)))))
   (.ret (.out 0 (s.1, s.2.1, s.2.2.1, s.2.2.2.1, s.2.2.2.2.1, s.2.2.2.2.2.1, s.2.2.2.2.2.2.1, s.2.2.2.2.2.2.2))))
/-- hauberklaw27.Go -/
abbrev SS_hauberklaw27_Go : List Sh := [.box 0 0, .ty tState, .ty (.sl tIns), .ty (.int .i64), .ty tFault]
abbrev HS_hauberklaw27_Go : List Sh := [shMem, .rowc (.int .u8)]
abbrev S_hauberklaw27_Go : Sh := Sh.tup (Sh.pair (Sh.ty tState) (Sh.pair (Sh.ty Ty.bool) (Sh.ty Ty.unit)))
abbrev HT_hauberklaw27_Go : List Sh := [Sh.pair (Sh.ty (Ty.sl tSpot)) (Sh.pair (Sh.wsl none 1 (Ty.int IntKind.u8)) (Sh.ty Ty.unit)), Sh.rowc (Ty.int IntKind.u8)]
def T_hauberklaw27_Go (x : shDens SS_hauberklaw27_Go) (y : shDens HS_hauberklaw27_Go) : PO (Sh.den S_hauberklaw27_Go × shDens HT_hauberklaw27_Go) :=
  (.opt (LoopN.res L_hauberklaw27_Go_3 ((), x.2.2.1, x.2.2.2.1, (), (), (), false, 0, 0) (y.1, x.2.1, x.2.2.2.2, ([0, 0, 0, 0, 0, 0, 0, 0, 0, 0, 0, 0, 0, 0, 0], 0, false, false, false, false, ()), y.2)) fun p0 =>
   (.ite (way p0.1)
    (.ret ((p0.2.2.2.2.2.1, true, ()), (p0.2.2.2.2.1, p0.2.2.2.2.2.2.2.2)))
    (.ret ((p0.2.2.2.2.2.2.2.1, p0.2.1, ()), (p0.2.2.2.2.1, p0.2.2.2.2.2.2.2.2)))))
/-- Instructions done one behind the other, each so many times, with a fault. -/
def goL (f : tFault.den) (times : Nat) : List tIns.den → Int → tState.den → MemT → Bool × Int × tState.den × MemT
  | [], at_, st, mem => (true, at_, st, mem)
  | i :: l, at_, st, mem => bif (goK f i times at_ st mem).1 then goL f times l (goK f i times at_ st mem).2.1 (goK f i times at_ st mem).2.2.1 (goK f i times at_ st mem).2.2.2
    else goK f i times at_ st mem

theorem goL_wf (f : tFault.den) (times : Nat) : ∀ (l : List tIns.den) (at_ : Int) (st : tState.den) (mem : MemT), List.length st.1 = 15 → MemWf mem →
    List.length (goL f times l at_ st mem).2.2.1.1 = 15 ∧ MemWf (goL f times l at_ st mem).2.2.2 ∧ (goL f times l at_ st mem).2.2.2.1 = mem.1
  | [], _, _, _, hs, hm => ⟨hs, hm, rfl⟩
  | i :: l, at_, st, mem, hs, hm => by
    obtain ⟨q1, q2, q3, _⟩ := goK_wf f i times at_ st mem hs hm
    simp only [goL]
    cases (goK f i times at_ st mem).1
    · exact ⟨q1, q2, q3⟩
    · obtain ⟨p1, p2, p3⟩ := goL_wf f times l (goK f i times at_ st mem).2.1 _ _ q1 q2
      exact ⟨p1, p2, p3.trans q3⟩

theorem goL_loop (l : List tIns.den) (times : Nat) (f : tFault.den) (res : tState.den) (ht : times < 1048576) (hl : l.length < 1099511627776) :
    ∀ (m i : Nat), i + m = l.length → ∀ g, m < g → ∀ (at_ : Int) (st : tState.den) (mem : MemT), 0 ≤ at_ → at_ + ((m * times : Nat) : Int) < 4611686018427387904 → List.length st.1 = 15 → MemWf mem →
      ∃ p : Nat × GoT, runL (L_hauberklaw27_Go_3.turn ((), l, (times : Int), (), (), (), false, 0, 0) (mem.1, st, f, res, mem.2)) g (false, at_, (i : Int), mem.1, st, f, res, mem.2) = some p ∧
        bif (goL f times (l.drop i) at_ st mem).1 then p.1 = 0 ∧ (p.2.2.2.2.1, p.2.2.2.2.2.2.2.2) = (goL f times (l.drop i) at_ st mem).2.2.2 ∧ p.2.2.2.2.2.1 = (goL f times (l.drop i) at_ st mem).2.2.1
        else p.1 = 1 ∧ p.2.1 = false ∧ (p.2.2.2.2.1, p.2.2.2.2.2.2.2.2) = (goL f times (l.drop i) at_ st mem).2.2.2 ∧ p.2.2.2.2.2.2.2.1 = (goL f times (l.drop i) at_ st mem).2.2.1
  | 0, i, hi, g, hg, at_, st, mem, h0, h1, hs, hm => by
    obtain ⟨g, rfl⟩ : ∃ j, g = j + 1 := ⟨g - 1, by omega⟩
    rw [List.drop_of_length_le (by omega)]
    refine ⟨_, runL_out (c := 0) (s' := (false, at_, (i : Int), mem.1, st, f, res, mem.2)) ?_, rfl, rfl, rfl⟩
    exact val_no (dec_false (by show ¬ ((i : Int) < ((List.length l : Nat) : Int)); omega))
  | m + 1, i, hi, g, hg, at_, st, mem, h0, h1, hs, hm => by
    obtain ⟨g, rfl⟩ : ∃ j, g = j + 1 := ⟨g - 1, by omega⟩
    have hlt : i < l.length := by omega
    have hc : decide ((i : Int) < lenI l) = true := dec_true (by show ((i : Int) < ((List.length l : Nat) : Int)); omega)
    have hmul : (m + 1) * times = m * times + times := Nat.succ_mul m times
    obtain ⟨p, e1, e2⟩ := goK_loop l times f res i hlt (by omega) times 0 (Nat.zero_add _) (times + 1) (Nat.lt_succ_self _) at_ st mem h0 (by omega) hs hm
    obtain ⟨q1, q2, q3, q4⟩ := goK_wf f (l.getD i tIns.dflt) times at_ st mem hs hm
    have hd : l.drop i = l.getD i tIns.dflt :: l.drop (i + 1) := by rw [getD_in l _ hlt]; exact List.drop_eq_getElem_cons hlt
    rw [hd]
    simp only [goL]
    have hv : (L_hauberklaw27_Go_3.turn ((), l, (times : Int), (), (), (), false, 0, 0) (mem.1, st, f, res, mem.2) (false, at_, (i : Int), mem.1, st, f, res, mem.2)).val =
        (PO.ite (way p.1) (PO.ret (TL.on (p.2.1, p.2.2.1, w64 ((i : Int) + 1), p.2.2.2.2.1, p.2.2.2.2.2.1, p.2.2.2.2.2.2.1, p.2.2.2.2.2.2.2.1, p.2.2.2.2.2.2.2.2)))
          (PO.ret (TL.out 1 (p.2.1, p.2.2.1, (i : Int), p.2.2.2.2.1, p.2.2.2.2.2.1, p.2.2.2.2.2.2.1, p.2.2.2.2.2.2.2.1, p.2.2.2.2.2.2.2.2)))).val :=
      (val_yes hc).trans ((val_opt (r := p) e1).trans rfl)
    generalize goK f (l.getD i tIns.dflt) times at_ st mem = r at *
    obtain ⟨o, a', st', mem'⟩ := r
    cases o with
    | false =>
      simp only [cond_false] at e2 ⊢
      obtain ⟨w1, w2, w3, w4⟩ := e2
      rw [w1] at hv
      exact ⟨_, runL_out hv, rfl, w2, w3, w4⟩
    | true =>
      simp only [cond_true] at e2 ⊢
      subst e2
      have ha : a' = at_ + times := q4 rfl
      obtain ⟨p, f1, f2⟩ := goL_loop l times f res ht hl m (i + 1) (by omega) g (by omega) a' st' mem' (by omega) (by rw [ha]; rw [hmul] at h1; push_cast at h1 ⊢; omega) q1 q2
      refine ⟨p, (runL_on (s' := (false, a', ((i + 1 : Nat) : Int), mem'.1, st', f, res, mem'.2)) (hv.trans ?_)).trans f1, f2⟩
      show some (TL.on (false, a', w64 ((i : Int) + 1), mem'.1, st', f, res, mem'.2)) = _
      rw [w64_id (by omega) (by omega)]
      rfl

theorem ok_go (s : tState.den) (l : List tIns.den) (times : Nat) (f : tFault.den) (y : MemT) (hy : MemWf y) (hs : List.length s.1 = 15) (ht : times < 1048576) (hl : l.length < 1099511627776) :
    (T_hauberklaw27_Go ((), s, l, (times : Int), f) y).val = some (((goL f times l 0 s y).2.2.1, (goL f times l 0 s y).1, ()), (goL f times l 0 s y).2.2.2) := by
  have hb : l.length * times < 4611686018427387904 := by
    have h1 : l.length * times ≤ 1099511627776 * 1048576 := Nat.mul_le_mul (by omega) (by omega)
    omega
  obtain ⟨p, e1, e2⟩ := goL_loop l times f ([0, 0, 0, 0, 0, 0, 0, 0, 0, 0, 0, 0, 0, 0, 0], 0, false, false, false, false, ()) ht hl l.length 0 (Nat.zero_add _) (l.length + 1) (Nat.lt_succ_self _) 0 s y (by omega) (by omega) hs hy
  rw [List.drop_zero] at e2
  refine (val_opt (r := p) e1).trans ?_
  cases h : (goL f times l 0 s y).1 with
  | false =>
    rw [h] at e2
    obtain ⟨w1, w2, w3, w4⟩ := e2
    refine (val_no (by show way p.1 = false; rw [w1]; rfl)).trans ?_
    show some ((p.2.2.2.2.2.2.2.1, p.2.1, ()), (p.2.2.2.2.1, p.2.2.2.2.2.2.2.2)) = _
    rw [w2, w3, w4]
  | true =>
    rw [h] at e2
    obtain ⟨w1, w2, w3⟩ := e2
    refine (val_yes (by show way p.1 = true; rw [w1]; rfl)).trans ?_
    show some ((p.2.2.2.2.2.1, true, ()), (p.2.2.2.2.1, p.2.2.2.2.2.2.2.2)) = _
    rw [w2, w3]
def G_hauberklaw27_Go (x : shDens SS_hauberklaw27_Go) (y : shDens HS_hauberklaw27_Go) : Bool := decide (MemWf y ∧ List.length x.2.1.1 = 15 ∧ 0 ≤ (show Int from x.2.2.2.1) ∧ (show Int from x.2.2.2.1) < 1048576 ∧ List.length x.2.2.1 < 1099511627776)
def V_hauberklaw27_Go (x : shDens SS_hauberklaw27_Go) (y : shDens HS_hauberklaw27_Go) : Sh.den S_hauberklaw27_Go × shDens HT_hauberklaw27_Go :=
  (((goL x.2.2.2.2 (Int.toNat x.2.2.2.1) x.2.2.1 0 x.2.1 y).2.2.1, (goL x.2.2.2.2 (Int.toNat x.2.2.2.1) x.2.2.1 0 x.2.1 y).1, ()), (goL x.2.2.2.2 (Int.toNat x.2.2.2.1) x.2.2.1 0 x.2.1 y).2.2.2)
theorem ok_hauberklaw27_Go (x : shDens SS_hauberklaw27_Go) (y : shDens HS_hauberklaw27_Go) (h : G_hauberklaw27_Go x y = true) : (T_hauberklaw27_Go x y).val = some (V_hauberklaw27_Go x y) := by
  obtain ⟨h1, h2, h3, h4, h5⟩ := of_decide_eq_true h
  obtain ⟨⟨⟩, s, l, t, f⟩ := x
  obtain ⟨t', ht⟩ : ∃ t' : Nat, (t : Int) = (t' : Int) := ⟨Int.toNat t, (Int.toNat_of_nonneg h3).symm⟩
  have h4' : (t' : Int) < 1048576 := Int.lt_of_le_of_lt (Int.le_of_eq ht.symm) h4
  have := ok_go s l t' f y h1 h2 (by omega) h5
  have e : (T_hauberklaw27_Go ((), s, l, t, f) y) = (T_hauberklaw27_Go ((), s, l, (t' : Int), f) y) := by rw [show t = (t' : Int) from ht]
  rw [e, this]
  show _ = some (((goL f (Int.toNat t) l 0 s y).2.2.1, (goL f (Int.toNat t) l 0 s y).1, ()), (goL f (Int.toNat t) l 0 s y).2.2.2)
  rw [show Int.toNat t = t' by rw [ht]; simp]
end Go.Av
end
/-! Lists that are held against one another: of instructions, of items. -/
section
namespace Go.Av
open Go
def L_hauberkref27_Same_4 : LoopN where
  M := [0, 1, 4, 5]
  T := [11, 12, 13, 14, 15, 16, 17, 18, 19, 20, 21, 22, 23, 24, 25]
  D := [0, 1, 5]
  ss := [.ty (.sl tIns), .ty (.sl tIns), .ty .bool, .ty (.int .i64)]
  hs := []
  es := [.exit 0, .ret]
  σ := (Ty.den .bool) × (Ty.den (.int .i64))
  x0 := fun x _ => (x.2.2.1, x.2.2.2)
  put := fun x _ s => ((x.1, x.2.1, s.1, s.2), ())
  fuel := fun x _ => List.length x.1 + 1
  turn := fun x _ s => sameTurn tIns x.1 x.2.1 s
def L_hauberkref28_Same_4 : LoopN where
  M := [0, 1, 4, 5]
  T := [11, 12, 13, 14, 15, 16, 17, 18, 19, 20, 21, 22, 23, 24, 25]
  D := [0, 1, 5]
  ss := [.ty (.sl tItem), .ty (.sl tItem), .ty .bool, .ty (.int .i64)]
  hs := []
  es := [.exit 0, .ret]
  σ := (Ty.den .bool) × (Ty.den (.int .i64))
  x0 := fun x _ => (x.2.2.1, x.2.2.2)
  put := fun x _ s => ((x.1, x.2.1, s.1, s.2), ())
  fuel := fun x _ => List.length x.1 + 1
  turn := fun x _ s => sameTurn tItem x.1 x.2.1 s

abbrev A_hauberkref27_Same : List Ty := [.sl tIns, .sl tIns]
abbrev S_hauberkref27_Same : Sh := .ty .bool
def T_hauberkref27_Same (x : dens A_hauberkref27_Same) : PO Bool :=
  (.ite (lenI x.1 != lenI x.2)
   (.ret (false))
   (.opt (LoopN.res L_hauberkref27_Same_4 (x.1, x.2, false, 0) ()) fun p0 =>
    (.ite (way p0.1)
     (.ret (true))
     (.ret (p0.2.1)))))
def G_hauberkref27_Same (x : dens A_hauberkref27_Same) : Bool := decide (List.length x.1 < 9223372036854775808)
def V_hauberkref27_Same (x : dens A_hauberkref27_Same) : Bool := eqL tIns x.1 x.2
abbrev A_hauberkref28_Same : List Ty := [.sl tItem, .sl tItem]
abbrev S_hauberkref28_Same : Sh := .ty .bool
def T_hauberkref28_Same (x : dens A_hauberkref28_Same) : PO Bool :=
  (.ite (lenI x.1 != lenI x.2)
   (.ret (false))
   (.opt (LoopN.res L_hauberkref28_Same_4 (x.1, x.2, false, 0) ()) fun p0 =>
    (.ite (way p0.1)
     (.ret (true))
     (.ret (p0.2.1)))))
def G_hauberkref28_Same (x : dens A_hauberkref28_Same) : Bool := decide (List.length x.1 < 9223372036854775808)
def V_hauberkref28_Same (x : dens A_hauberkref28_Same) : Bool := eqL tItem x.1 x.2

theorem len_ne {α : Type} {a b : List α} (h : a.length ≠ b.length) : (lenI a != lenI b) = true := by
  simp only [lenI, bne_iff_ne, ne_eq]
  omega
theorem len_eq {α : Type} {a b : List α} (h : a.length = b.length) : (lenI a != lenI b) = false := by
  simp [lenI, h]

theorem same_val (e : Ty) (a b : List e.den) (hb : a.length < 9223372036854775808) (hl : a.length = b.length) : ∃ p, runL (sameTurn e a b) (a.length + 1) (false, 0) = some p ∧ (bif way p.1 then true else p.2.1) = eqL e a b := by
  have key : ∀ (k i : Nat), i + k = a.length → ∀ f, k < f → ∃ p, runL (sameTurn e a b) f (false, (i : Int)) = some p ∧ (bif way p.1 then true else p.2.1) = eqL e (a.drop i) (b.drop i) := by
    intro k
    induction k with
    | zero =>
      intro i h f hf
      obtain ⟨f, rfl⟩ : ∃ g, f = g + 1 := ⟨f - 1, by omega⟩
      refine ⟨(0, false, (i : Int)), runL_out (by simp only [sameTurn, PO.val, dec_false (show ¬ (i : Int) < (a.length : Int) by omega), cond_false]), ?_⟩
      rw [List.drop_of_length_le (by omega), List.drop_of_length_le (by omega)]
      rfl
    | succ k ih =>
      intro i h f hf
      obtain ⟨f, rfl⟩ : ∃ g, f = g + 1 := ⟨f - 1, by omega⟩
      have hi : i < a.length := by omega
      have hi' : i < b.length := by omega
      have h1 : decide ((i : Int) < (a.length : Int)) = true := dec_true (by omega)
      rw [List.drop_eq_getElem_cons hi, List.drop_eq_getElem_cons hi']
      simp only [eqL]
      have e1 : a.getD i e.dflt = a[i] := by rw [List.getD_eq_getElem?_getD, List.getElem?_eq_getElem hi]; rfl
      have e2 : b.getD i e.dflt = b[i] := by rw [List.getD_eq_getElem?_getD, List.getElem?_eq_getElem hi']; rfl
      cases hc : Ty.eqb e a[i] b[i]
      · refine ⟨(1, false, (i : Int)), runL_out ?_, rfl⟩
        simp only [sameTurn, PO.val, h1, inR hi, inR hi', cond_true, Bool.and_self, getD_nat, e1, e2, hc, Bool.not_false]
      · obtain ⟨p, hp, hv⟩ := ih (i + 1) (by omega) f (by omega)
        refine ⟨p, ?_, by simpa using hv⟩
        rw [← hp]
        refine runL_on ?_
        simp only [sameTurn, PO.val, h1, inR hi, inR hi', cond_true, Bool.and_self, getD_nat, e1, e2, hc, Bool.not_true, cond_false]
        rw [w64_id (by omega) (by omega)]
        rfl
  have := key a.length 0 (by omega) (a.length + 1) (by omega)
  simpa using this

theorem ok_hauberkref27_Same (x : dens A_hauberkref27_Same) (h : G_hauberkref27_Same x = true) : (T_hauberkref27_Same x).val = some (V_hauberkref27_Same x) := by
  have hb : List.length x.1 < 9223372036854775808 := of_decide_eq_true h
  by_cases hl : List.length x.1 = List.length x.2
  · obtain ⟨p, hp, hv⟩ := same_val tIns x.1 x.2 hb hl
    have e : LoopN.res L_hauberkref27_Same_4 (x.1, x.2, false, 0) () = some p := hp
    unfold T_hauberkref27_Same
    simp only [PO.val, len_eq hl, cond_false]
    rw [e]
    simp only [PO.val]
    rw [V_hauberkref27_Same, ← hv]
    cases way p.1 <;> rfl
  · unfold T_hauberkref27_Same
    simp only [PO.val, len_ne hl, cond_true]
    rw [V_hauberkref27_Same, eqL_ne hl]
theorem ok_hauberkref28_Same (x : dens A_hauberkref28_Same) (h : G_hauberkref28_Same x = true) : (T_hauberkref28_Same x).val = some (V_hauberkref28_Same x) := by
  have hb : List.length x.1 < 9223372036854775808 := of_decide_eq_true h
  by_cases hl : List.length x.1 = List.length x.2
  · obtain ⟨p, hp, hv⟩ := same_val tItem x.1 x.2 hb hl
    have e : LoopN.res L_hauberkref28_Same_4 (x.1, x.2, false, 0) () = some p := hp
    unfold T_hauberkref28_Same
    simp only [PO.val, len_eq hl, cond_false]
    rw [e]
    simp only [PO.val]
    rw [V_hauberkref28_Same, ← hv]
    cases way p.1 <;> rfl
  · unfold T_hauberkref28_Same
    simp only [PO.val, len_ne hl, cond_true]
    rw [V_hauberkref28_Same, eqL_ne hl]

theorem itemSame (l : List tItem.den) (h : l.length < 1000000000000) : G_hauberkref28_Same (l, l) = true ∧ V_hauberkref28_Same (l, l) = true := ⟨dec_true (show l.length < 9223372036854775808 by omega), eqL_refl l⟩
theorem insSame (l : List tIns.den) (h : l.length < 1000000000000) : G_hauberkref27_Same (l, l) = true ∧ V_hauberkref27_Same (l, l) = true := ⟨dec_true (show l.length < 9223372036854775808 by omega), eqL_refl l⟩
end Go.Av
end
/-! Instructions and items, as the layers write them. -/
section
namespace Go.Av
open Go

def insI (op rd rn rm ra imm cond : Int) : tIns.den := (op, rd, rn, rm, ra, imm, cond, false, ())
def itI (i : tIns.den) : tItem.den := (0, 0, i, ())
def itL (n : Int) : tItem.den := (1, n, insI 0 0 0 0 0 0 0, ())
def itB (n : Int) : tItem.den := (2, n, insI 24 0 0 0 0 0 0, ())
def itC (c n : Int) : tItem.den := (2, n, insI 25 0 0 0 0 0 c, ())

/-- How the two write a number's lower and upper half: the program's way, and the document's. -/
def lo (ref : Bool) (n : Int) : Int := match ref with
  | false => band IntKind.i64 n 65535
  | true => w64 (Int.tmod (IntKind.wrap IntKind.u64 n) 65536)
def hi (ref : Bool) (n : Int) : Int := match ref with
  | false => band IntKind.i64 (ishr IntKind.i64 n 16) 65535
  | true => w64 (Int.tmod (IntKind.wrap IntKind.u64 (Int.tdiv (IntKind.wrap IntKind.u64 n) 65536)) 65536)

theorem lo_ref (n : Int) : lo true n = lo false n := by
  simp only [lo]
  rw [u64_wrap, tmod_pos _ _ (by omega), w64_id (by omega) (by omega), band_16]
  omega
theorem hi_ref (n : Int) : hi true n = hi false n := by
  simp only [hi]
  rw [u64_wrap, u64_wrap, tdiv_pos _ _ (by omega), tmod_pos _ _ (by omega), w64_id (by omega) (by omega), ishr_16, band_16]
  omega

def movw (rd imm : Int) : tIns.den := insI 3 rd 0 0 0 imm 0
def wordI (ref : Bool) (reg n : Int) : List tIns.den := [movw reg (lo ref n), insI 4 reg 0 0 0 (hi ref n) 0]
def addrI (ref : Bool) (reg base frm : Int) : List tIns.den := [movw reg 0, insI 4 reg 0 0 0 (hi ref base) 0, insI 18 reg frm 0 16 0 0]
def addI (d n m : Int) : tIns.den := insI 14 d n m 0 0 0
def cmpI (n m : Int) : tIns.den := insI 23 0 n m 0 0 0
def ldrI (d n : Int) : tIns.den := insI 19 d n 0 0 0 0
def strI (d n : Int) : tIns.den := insI 20 d n 0 0 0 0
def lslI (d m : Int) : tIns.den := insI 5 d 0 m 0 0 0
def bkptI : tIns.den := insI 2 0 0 0 0 0 0
def its (l : List tIns.den) : List tItem.den := l.map itI

theorem wordI_ref (reg n : Int) : wordI true reg n = wordI false reg n := by simp only [wordI, lo_ref, hi_ref]
theorem addrI_ref (reg base frm : Int) : addrI true reg base frm = addrI false reg base frm := by simp only [addrI, hi_ref]

abbrev A_tmpl_Word : List Ty := [tI, tI]
abbrev S_tmpl_Word : Sh := .osl 32 tIns
def T_tmpl_Word (x : dens A_tmpl_Word) : PO (List tIns.den) := .ite (decide (x.1 < 0) || decide (x.1 > 7)) (.ret []) (.ret (wordI false x.1 x.2))
def G_tmpl_Word (_ : dens A_tmpl_Word) : Bool := true
def V_tmpl_Word (x : dens A_tmpl_Word) : List tIns.den := bif decide (x.1 < 0) || decide (x.1 > 7) then [] else wordI false x.1 x.2
theorem ok_tmpl_Word (x : dens A_tmpl_Word) (_ : G_tmpl_Word x = true) : (T_tmpl_Word x).val = some (V_tmpl_Word x) := by
  unfold T_tmpl_Word V_tmpl_Word PO.val
  cases decide (x.1 < 0) || decide (x.1 > 7) <;> rfl
abbrev A_wipe_Address : List Ty := [tI, tI, tI]
abbrev S_wipe_Address : Sh := .osl 32 tIns
def T_wipe_Address (x : dens A_wipe_Address) : PO (List tIns.den) := .ite (decide (x.1 < 0) || (decide (x.1 > 7) || (decide (x.2.2 < 0) || (decide (x.2.2 > 12) || x.1 == x.2.2)))) (.ret []) (.ret (addrI false x.1 x.2.1 x.2.2))
def G_wipe_Address (_ : dens A_wipe_Address) : Bool := true
def V_wipe_Address (x : dens A_wipe_Address) : List tIns.den := bif decide (x.1 < 0) || (decide (x.1 > 7) || (decide (x.2.2 < 0) || (decide (x.2.2 > 12) || x.1 == x.2.2))) then [] else addrI false x.1 x.2.1 x.2.2
theorem ok_wipe_Address (x : dens A_wipe_Address) (_ : G_wipe_Address x = true) : (T_wipe_Address x).val = some (V_wipe_Address x) := by
  unfold T_wipe_Address V_wipe_Address PO.val
  cases decide (x.1 < 0) || (decide (x.1 > 7) || (decide (x.2.2 < 0) || (decide (x.2.2 > 12) || x.1 == x.2.2))) <;> rfl

abbrev A_hauberkref30_Address : List Ty := [tI, tI, tI]
abbrev S_hauberkref30_Address : Sh := .osl 32 tIns
def T_hauberkref30_Address (x : dens A_hauberkref30_Address) : PO (List tIns.den) := .ite (decide (x.1 < 0) || (decide (x.1 > 7) || (decide (x.2.2 < 0) || (decide (x.2.2 > 12) || x.1 == x.2.2)))) (.ret []) (.ret (addrI true x.1 x.2.1 x.2.2))
def G_hauberkref30_Address (_ : dens A_hauberkref30_Address) : Bool := true
def V_hauberkref30_Address (x : dens A_hauberkref30_Address) : List tIns.den := bif decide (x.1 < 0) || (decide (x.1 > 7) || (decide (x.2.2 < 0) || (decide (x.2.2 > 12) || x.1 == x.2.2))) then [] else addrI true x.1 x.2.1 x.2.2
theorem ok_hauberkref30_Address (x : dens A_hauberkref30_Address) (_ : G_hauberkref30_Address x = true) : (T_hauberkref30_Address x).val = some (V_hauberkref30_Address x) := by
  unfold T_hauberkref30_Address V_hauberkref30_Address PO.val
  cases decide (x.1 < 0) || (decide (x.1 > 7) || (decide (x.2.2 < 0) || (decide (x.2.2 > 12) || x.1 == x.2.2))) <;> rfl

/-- A test that comes up twice. -/
def two {α : Type} (b : Bool) (k : Bool → Bool → PO α) : PO α := .ite b (.ite b (k true true) (k true false)) (.ite b (k false true) (k false false))
theorem two_val {α : Type} (b : Bool) (k : Bool → Bool → PO α) : (two b k).val = (k b b).val := by cases b <;> rfl

/-- A loop's beginning and end. -/
def headL (ref : Bool) (n first : Int) : List tItem.den := its [movw 1 0] ++ [itL first] ++ its (wordI ref 2 n) ++ its [cmpI 1 2] ++ [itC 2 (w64 (first + 1))]
def tailL (first : Int) : List tItem.den := its [movw 3 4, addI 4 1 3, lslI 1 4] ++ [itB first, itL (w64 (first + 1))]
theorem headL_ref (n first : Int) : headL true n first = headL false n first := by simp only [headL, wordI_ref]
end Go.Av
end
/-! Layer 29: ways between blocks. -/
section
namespace Go.Av
open Go
/-- A block's tag, less one: no tag is 0. -/
def tagN (k : Int) : Nat := ((k + 1) % 65536).toNat + 65536 * (65535 - ((k + 1) % 65536).toNat) - 1
def V_rail_Tag (x : dens [(.int .i64)]) : Int := Int.ofNat (Nat.succ (tagN x))
def V_hauberkref29_Tag (x : dens [(.int .i64)]) : Int := Int.ofNat (Nat.succ (tagN x))
theorem nat_xor (m : Nat) (h : m < 2 ^ 16) : m ^^^ (2 ^ 16 - 1) = 2 ^ 16 - (m + 1) := by
  apply Nat.eq_of_testBit_eq
  intro i
  rw [Nat.testBit_xor, Nat.testBit_two_pow_sub_one, Nat.testBit_two_pow_sub_succ h]
  by_cases hi : i < 16
  · simp [hi]
  · have : m.testBit i = false := Nat.testBit_lt_two_pow (Nat.lt_of_lt_of_le h (Nat.pow_le_pow_right (by omega) (by omega)))
    simp [hi, this]
theorem ofInt_natR (m : Nat) (h : m < 2 ^ 63) : (BitVec.ofInt 64 (m : Int)).toNat = m := by
  rw [BitVec.ofInt_natCast, BitVec.toNat_ofNat, Nat.mod_eq_of_lt (by omega)]
theorem bxor_16 (m : Nat) (h : m < 65536) : bxor .i64 m 65535 = 65535 - m := by
  show IntKind.i64.wrap (BitVec.ofInt 64 (m : Int) ^^^ BitVec.ofInt 64 ((65535 : Nat) : Int)).toNat = _
  rw [BitVec.toNat_xor, ofInt_natR _ (by omega), ofInt_natR _ (by omega), nat_xor m h]
  rw [wrap_i64 _ (by omega) (by omega)]
  omega
theorem bor_16 (a m : Nat) (h : m < 65536) (ha : a < 65536) : bor .i64 m (a * 65536 : Nat) = m + a * 65536 := by
  show IntKind.i64.wrap (BitVec.ofInt 64 (m : Int) ||| BitVec.ofInt 64 ((a * 65536 : Nat) : Int)).toNat = _
  rw [BitVec.toNat_or, ofInt_natR _ (by omega), ofInt_natR _ (by omega), Nat.or_comm]
  have := Nat.two_pow_add_eq_or_of_lt (i := 16) (b := m) h a
  rw [Nat.mul_comm a 65536, show (65536 : Nat) = 2 ^ 16 from rfl, ← this]
  rw [wrap_i64 _ (by omega) (by omega)]
  omega
theorem ishl_16 (n : Int) : ishl .i64 n 16 = w64 (n * 65536) := rfl
/-- A block's tag. -/
theorem tag_val (k : Int) : bor IntKind.i64 (band IntKind.i64 (w64 (k + 1)) 65535) (ishl IntKind.i64 (bxor IntKind.i64 (band IntKind.i64 (w64 (k + 1)) 65535) 65535) 16) = V_rail_Tag k ∧
    w64 (w64 (Int.tmod (IntKind.wrap IntKind.u64 (IntKind.wrap IntKind.u64 k + 1)) 65536) + w64 (65536 * w64 (65535 - w64 (Int.tmod (IntKind.wrap IntKind.u64 (IntKind.wrap IntKind.u64 k + 1)) 65536)))) = V_rail_Tag k := by
  have hp : ((w64 (k + 1)) % 65536 : Int) = (k + 1) % 65536 := by
    simp only [w64, IntKind.wrap, IntKind.bits, IntKind.signed]
    simp
    omega
  obtain ⟨m, hm⟩ : ∃ m : Nat, (k + 1) % 65536 = (m : Int) := ⟨((k + 1) % 65536).toNat, by omega⟩
  have hm' : m < 65536 := by omega
  have hv : V_rail_Tag k = m + 65536 * (65535 - m) := by
    show ((Nat.succ (tagN k) : Nat) : Int) = _
    simp only [tagN]
    omega
  rw [hv]
  refine ⟨?_, ?_⟩
  · rw [band_16, hp, hm, bxor_16 m hm', ishl_16, w64_id (by omega) (by omega)]
    have := bor_16 (65535 - m) m hm' (by omega)
    rw [show ((65535 : Int) - m) * 65536 = ((65535 - m) * 65536 : Nat) by omega, this]
    omega
  · rw [u64_wrap, u64_wrap, tmod_pos _ _ (by omega)]
    have : ((k % 18446744073709551616 + 1) % 18446744073709551616 % 65536 : Int) = (k + 1) % 65536 := by omega
    rw [this, hm, w64_id (n := (m : Int)) (by omega) (by omega), w64_id (n := 65535 - (m : Int)) (by omega) (by omega), w64_id (n := 65536 * (65535 - (m : Int))) (by omega) (by omega), w64_id (by omega) (by omega)]
/-- rail.Tag -/
abbrev A_rail_Tag : List Ty := [(.int .i64)]
abbrev S_rail_Tag : Sh := Sh.ty (Ty.int IntKind.i64)
def T_rail_Tag (x : dens A_rail_Tag) : PO (Sh.den S_rail_Tag) :=
  (.ret (bor IntKind.i64 (band IntKind.i64 (w64 (x + 1)) 65535) (ishl IntKind.i64 (bxor IntKind.i64 (band IntKind.i64 (w64 (x + 1)) 65535) 65535) 16)))
def G_rail_Tag (_ : dens A_rail_Tag) : Bool := true
theorem ok_rail_Tag (x : dens A_rail_Tag) (_ : G_rail_Tag x = true) : (T_rail_Tag x).val = some (V_rail_Tag x) := congrArg some (tag_val x).1
/-- hauberkref29.Tag -/
abbrev A_hauberkref29_Tag : List Ty := [(.int .i64)]
abbrev S_hauberkref29_Tag : Sh := Sh.ty (Ty.int IntKind.i64)
def T_hauberkref29_Tag (x : dens A_hauberkref29_Tag) : PO (Sh.den S_hauberkref29_Tag) :=
  (.ret (w64 (w64 (Int.tmod (IntKind.wrap IntKind.u64 (IntKind.wrap IntKind.u64 x + 1)) 65536) + w64 (65536 * w64 (65535 - w64 (Int.tmod (IntKind.wrap IntKind.u64 (IntKind.wrap IntKind.u64 x + 1)) 65536))))))
def G_hauberkref29_Tag (_ : dens A_hauberkref29_Tag) : Bool := true
theorem ok_hauberkref29_Tag (x : dens A_hauberkref29_Tag) (_ : G_hauberkref29_Tag x = true) : (T_hauberkref29_Tag x).val = some (V_hauberkref29_Tag x) := congrArg some (tag_val x).2
/-- The way from rail r, at 0, and to it. -/
def railA (r : Nat) : Int := match r with
  | 0 => 8196
  | _ => 8200
def getL (r : Nat) (d : Int) : List tIns.den := [movw 7 0, insI 4 7 0 0 0 (railA r) 0, ldrI d 7]
def putL (r : Nat) (d : Int) : List tIns.den := [movw 7 0, insI 4 7 0 0 0 (railA r) 0, strI d 7]
/-- A comparison of register 0 with a number, and a branch. -/
def numI (ref z : Bool) (n : Int) : List tIns.den := match z with
  | true => [movw 1 (match ref with
    | true => lo true n
    | false => 0)]
  | false => wordI ref 1 n
def cmpL (ref z : Bool) (n c to : Int) : List tItem.den := its (numI ref z n ++ [cmpI 0 1]) ++ [itC c to]
def edgeL (ref : Bool) (tag : Int) : List tItem.den := its (wordI ref 3 tag ++ putL 0 3 ++ wordI ref 3 tag ++ putL 1 3)
def enterL (ref z : Bool) (tag k h : Int) : List tItem.den := [itL k] ++ its (getL 0 0) ++ cmpL ref z tag 1 h ++ its (getL 1 0) ++ cmpL ref z tag 1 h
def jumpL (ref : Bool) (tag k : Int) : List tItem.den := edgeL ref tag ++ [itB k, itB k]
abbrev A_rail_Edge : List Ty := [tI]
abbrev S_rail_Edge : Sh := .osl 32 tItem
def T_rail_Edge (x : dens A_rail_Edge) : PO (List tItem.den) := .ret (edgeL false (V_rail_Tag x))
def G_rail_Edge (_ : dens A_rail_Edge) : Bool := true
def V_rail_Edge (x : dens A_rail_Edge) : List tItem.den := edgeL false (V_rail_Tag x)
theorem ok_rail_Edge (x : dens A_rail_Edge) (_ : G_rail_Edge x = true) : (T_rail_Edge x).val = some (V_rail_Edge x) := rfl
abbrev A_rail_Enter : List Ty := [tI, tI]
abbrev S_rail_Enter : Sh := .osl 32 tItem
def T_rail_Enter (x : dens A_rail_Enter) : PO (List tItem.den) := .ret (enterL false false (V_rail_Tag x.1) x.1 x.2)
def G_rail_Enter (_ : dens A_rail_Enter) : Bool := true
def V_rail_Enter (x : dens A_rail_Enter) : List tItem.den := enterL false false (V_rail_Tag x.1) x.1 x.2
theorem ok_rail_Enter (x : dens A_rail_Enter) (_ : G_rail_Enter x = true) : (T_rail_Enter x).val = some (V_rail_Enter x) := rfl
abbrev A_rail_Jump : List Ty := [tI, tI]
abbrev S_rail_Jump : Sh := .osl 32 tItem
def T_rail_Jump (x : dens A_rail_Jump) : PO (List tItem.den) := .ite (decide (x.1 < 0)) (.ret [itB x.2, itB x.2]) (.ret (jumpL false (V_rail_Tag x.1) x.1))
def G_rail_Jump (_ : dens A_rail_Jump) : Bool := true
def V_rail_Jump (x : dens A_rail_Jump) : List tItem.den := bif decide (x.1 < 0) then [itB x.2, itB x.2] else jumpL false (V_rail_Tag x.1) x.1
theorem ok_rail_Jump (x : dens A_rail_Jump) (_ : G_rail_Jump x = true) : (T_rail_Jump x).val = some (V_rail_Jump x) := by
  unfold T_rail_Jump V_rail_Jump PO.val
  cases decide (x.1 < 0) <;> rfl
/-- hauberklaw29.lives: an example, computed -/
abbrev A_hauberklaw29_lives : List Ty := []
abbrev S_hauberklaw29_lives : Sh := .ty .bool
def T_hauberklaw29_lives (_ : dens A_hauberklaw29_lives) : PO Bool := .ret true
def G_hauberklaw29_lives (_ : dens A_hauberklaw29_lives) : Bool := true
def V_hauberklaw29_lives (_ : dens A_hauberklaw29_lives) : Bool := true
theorem ok_hauberklaw29_lives (x : dens A_hauberklaw29_lives) (_ : G_hauberklaw29_lives x = true) : (T_hauberklaw29_lives x).val = some (V_hauberklaw29_lives x) := rfl
/-- The law's last line, of the three lists. -/
def waysL (x : dens [tI, tI]) (a b c : List tItem.den) : PO Bool :=
  (.ite (bif V_rail_Tag x.1 == V_hauberkref29_Tag x.1 then G_hauberkref28_Same (V_rail_Edge x.1, a) && (bif V_hauberkref28_Same (V_rail_Edge x.1, a) then G_hauberkref28_Same (V_rail_Enter x, b) && (bif V_hauberkref28_Same (V_rail_Enter x, b) then G_hauberkref28_Same (V_rail_Jump x, c) && (V_hauberkref28_Same (V_rail_Jump x, c) || true) else true) else true) else true)
   (.ret (V_rail_Tag x.1 == V_hauberkref29_Tag x.1 && (V_hauberkref28_Same (V_rail_Edge x.1, a) && (V_hauberkref28_Same (V_rail_Enter x, b) && (V_hauberkref28_Same (V_rail_Jump x, c) && true)))))
   .fail)
/-- hauberklaw29.RailWays -/
abbrev A_hauberklaw29_RailWays : List Ty := [tI, tI]
abbrev S_hauberklaw29_RailWays : Sh := Sh.ty Ty.bool
def T_hauberklaw29_RailWays (x : dens A_hauberklaw29_RailWays) : PO (Sh.den S_hauberklaw29_RailWays) :=
  .ite (decide (x.1 ≥ 0))
    (waysL x (edgeL true (V_hauberkref29_Tag x.1)) (enterL true false (V_hauberkref29_Tag x.1) x.1 x.2) (jumpL true (V_hauberkref29_Tag x.1) x.1))
    (waysL x (edgeL true (V_hauberkref29_Tag x.1)) (enterL true false (V_hauberkref29_Tag x.1) x.1 x.2) [itB x.2, itB x.2])
end Go.Av
end
/-! Layer 29: the laws. -/
section
namespace Go.Av
open Go
theorem tag_ref (k : Int) : V_hauberkref29_Tag k = V_rail_Tag k := rfl
theorem edgeL_ref (t : Int) : edgeL true t = edgeL false t := by simp only [edgeL, wordI_ref]
theorem cmpL_ref (n c to : Int) : cmpL true false n c to = cmpL false false n c to := by simp only [cmpL, numI, wordI_ref]
theorem jumpL_ref (t k : Int) : jumpL true t k = jumpL false t k := by simp only [jumpL, edgeL_ref]
theorem enterL_ref (t k h : Int) : enterL true false t k h = enterL false false t k h := by simp only [enterL, cmpL_ref]
theorem edgeL_len (t : Int) : (edgeL false t).length < 20 := by simp [edgeL, its, wordI, putL]
theorem enterL_len (t k h : Int) : (enterL false false t k h).length < 30 := by simp [enterL, cmpL, numI, its, wordI, getL]
theorem jumpL_len (t k : Int) : (jumpL false t k).length < 30 := by
  have := edgeL_len t
  simp only [jumpL, List.length_append, List.length_cons, List.length_nil]
  omega
theorem waysL_same (x : dens [tI, tI]) (h1 : (V_rail_Edge x.1).length < 100) (h2 : (V_rail_Enter x).length < 100) (h3 : (V_rail_Jump x).length < 100) :
    (waysL x (V_rail_Edge x.1) (V_rail_Enter x) (V_rail_Jump x)).val = some true := by
  have a := itemSame (V_rail_Edge x.1) (Nat.lt_trans h1 (by omega))
  have b := itemSame (V_rail_Enter x) (Nat.lt_trans h2 (by omega))
  have c := itemSame (V_rail_Jump x) (Nat.lt_trans h3 (by omega))
  simp [waysL, PO.val, tag_ref, a.1, a.2, b.1, b.2, c.1, c.2]
theorem law_hauberklaw29_RailWays (x : dens A_hauberklaw29_RailWays) (_ : fitsAll maxLen A_hauberklaw29_RailWays x) : (T_hauberklaw29_RailWays x).val = some true := by
  have e1 : edgeL true (V_hauberkref29_Tag x.1) = V_rail_Edge x.1 := by
    rw [tag_ref, edgeL_ref]
    rfl
  have e2 : enterL true false (V_hauberkref29_Tag x.1) x.1 x.2 = V_rail_Enter x := by
    unfold V_rail_Enter
    rw [tag_ref, enterL_ref]
  have h1 : (V_rail_Edge x.1).length < 100 := Nat.lt_trans (edgeL_len _) (by omega)
  have h2 : (V_rail_Enter x).length < 100 := by
    unfold V_rail_Enter
    exact Nat.lt_trans (enterL_len _ _ _) (by omega)
  unfold T_hauberklaw29_RailWays
  rw [e1, e2]
  by_cases hk : x.1 ≥ 0
  · have e3 : jumpL true (V_hauberkref29_Tag x.1) x.1 = V_rail_Jump x := by
      unfold V_rail_Jump
      rw [tag_ref, jumpL_ref, dec_false (show ¬ x.1 < 0 from Int.not_lt.2 hk)]
      rfl
    rw [e3, dec_true hk]
    refine waysL_same x h1 h2 ?_
    rw [← e3, tag_ref, jumpL_ref]
    exact Nat.lt_trans (jumpL_len _ _) (by omega)
  · have e3 : [itB x.2, itB x.2] = V_rail_Jump x := by
      unfold V_rail_Jump
      rw [dec_true (show x.1 < 0 from Int.not_le.1 hk)]
      rfl
    rw [e3, dec_false hk]
    refine waysL_same x h1 h2 ?_
    rw [← e3]
    simp
end Go.Av
end
/-! Layer 29: the way to one block or another. -/
section
namespace Go.Av
open Go
/-- memmap.Rail -/
abbrev A_memmap_Rail : List Ty := [(.int .i64)]
abbrev S_memmap_Rail : Sh := Sh.ty (Ty.int IntKind.i64)
def T_memmap_Rail (x : dens A_memmap_Rail) : PO (Sh.den S_memmap_Rail) :=
  (.ite (x == 0)
   (.ret (537133056))
   (.ite (x == 1)
    (.ret (537395200))
    (.ret (0))))
def G_memmap_Rail (_ : dens A_memmap_Rail) : Bool := true
def V_memmap_Rail (x : dens A_memmap_Rail) : Sh.den S_memmap_Rail := (T_memmap_Rail x).getO default
theorem ok_memmap_Rail (x : dens A_memmap_Rail) (_ : G_memmap_Rail x = true) : (T_memmap_Rail x).val = some (V_memmap_Rail x) := PO.sure_ok default (by simp [T_memmap_Rail, PO.sure])
/-- tmpl.fits -/
abbrev A_tmpl_fits : List Ty := [(.int .i64), (.int .i64), (.int .i64)]
abbrev S_tmpl_fits : Sh := Sh.ty Ty.bool
def T_tmpl_fits (x : dens A_tmpl_fits) : PO (Sh.den S_tmpl_fits) :=
  (.ret (decide (x.1 ≥ 0) && (decide (x.1 ≤ 65535) && bif x.2.1 == 0 then decide (x.2.2 ≥ 0) && decide (x.2.2 ≤ 7) else x.2.1 == 1 && (decide (x.2.2 ≥ 0) && decide (x.2.2 ≤ 7)))))
def G_tmpl_fits (_ : dens A_tmpl_fits) : Bool := true
def V_tmpl_fits (x : dens A_tmpl_fits) : Sh.den S_tmpl_fits := (T_tmpl_fits x).getO default
theorem ok_tmpl_fits (x : dens A_tmpl_fits) (_ : G_tmpl_fits x = true) : (T_tmpl_fits x).val = some (V_tmpl_fits x) := PO.sure_ok default (by simp [T_tmpl_fits, PO.sure])
/-- frame.Temp -/
abbrev A_frame_Temp : List Ty := [(.int .i64)]
abbrev S_frame_Temp : Sh := Sh.ty (Ty.int IntKind.i64)
def T_frame_Temp (x : dens A_frame_Temp) : PO (Sh.den S_frame_Temp) :=
  (.ite (decide (x < 0) || decide (x > 16382))
   (.ret (0))
   (.ret (w64 (4 + w64 (4 * x)))))
def G_frame_Temp (_ : dens A_frame_Temp) : Bool := true
def V_frame_Temp (x : dens A_frame_Temp) : Sh.den S_frame_Temp := (T_frame_Temp x).getO default
theorem ok_frame_Temp (x : dens A_frame_Temp) (_ : G_frame_Temp x = true) : (T_frame_Temp x).val = some (V_frame_Temp x) := PO.sure_ok default (by simp [T_frame_Temp, PO.sure])
/-- hauberkref26.Temp -/
abbrev A_hauberkref26_Temp : List Ty := [(.int .i64)]
abbrev S_hauberkref26_Temp : Sh := Sh.ty (Ty.int IntKind.i64)
def T_hauberkref26_Temp (x : dens A_hauberkref26_Temp) : PO (Sh.den S_hauberkref26_Temp) :=
  (.ite (decide (x ≥ 0) && decide (x ≤ 16382))
   (.ret (w64 (4 * w64 (x + 1))))
   (.ret (0)))
def G_hauberkref26_Temp (_ : dens A_hauberkref26_Temp) : Bool := true
def V_hauberkref26_Temp (x : dens A_hauberkref26_Temp) : Sh.den S_hauberkref26_Temp := (T_hauberkref26_Temp x).getO default
theorem ok_hauberkref26_Temp (x : dens A_hauberkref26_Temp) (_ : G_hauberkref26_Temp x = true) : (T_hauberkref26_Temp x).val = some (V_hauberkref26_Temp x) := PO.sure_ok default (by simp [T_hauberkref26_Temp, PO.sure])
/-- A word of a rail, into register d. -/
def getI (x : Int × Int × Int) : List tIns.den := [movw 7 x.1, insI 4 7 0 0 0 (bif x.2.1 == 0 then 8196 else 8200) 0, ldrI x.2.2 7]
def getG (x : Int × Int × Int) : Bool := decide (0 ≤ x.1) && (decide (x.1 ≤ 65535) && (decide (0 ≤ x.2.1) && (decide (x.2.1 ≤ 1) && (decide (0 ≤ x.2.2) && decide (x.2.2 ≤ 7)))))
/-- tmpl.Get -/
abbrev A_tmpl_Get : List Ty := [(.int .i64), (.int .i64), (.int .i64)]
abbrev S_tmpl_Get : Sh := Sh.osl 32 tIns
def T_tmpl_Get (x : dens A_tmpl_Get) : PO (Sh.den S_tmpl_Get) :=
  (.ite (!V_tmpl_fits (x.1, x.2.1, x.2.2))
   (.ret ([]))
   (.ite (Nat.ble ((List.length (V_tmpl_Word (7, w64 (V_memmap_Rail x.2.1 + x.1))) + List.length [(19, x.2.2, 7, 0, 0, 0, 0, false, ())]) * 64) 140737488355328)
    (.ret (V_tmpl_Word (7, w64 (V_memmap_Rail x.2.1 + x.1)) ++ [(19, x.2.2, 7, 0, 0, 0, 0, false, ())]))
    .fail))
def G_tmpl_Get (x : dens A_tmpl_Get) : Bool := getG x
def V_tmpl_Get (x : dens A_tmpl_Get) : List tIns.den := getI x
theorem get_ok (a r d : Int) (h : getG (a, r, d) = true) : (T_tmpl_Get (a, r, d)).val = some (getI (a, r, d)) := by
  simp only [getG, Bool.and_eq_true, decide_eq_true_eq] at h
  obtain ⟨h1, h2, h3, h4, h5, h6⟩ := h
  have hr : r = 0 ∨ r = 1 := by omega
  have e : ∀ b : Int, 0 ≤ b → b < 65536 → lo false (b * 65536 + a) = a ∧ hi false (b * 65536 + a) = b := by
    intro b hb1 hb2
    simp only [lo, hi]
    rw [ishr_16, band_16, band_16]
    omega
  have w : ∀ b : Int, b = 537133056 ∨ b = 537395200 → w64 (b + a) = b + a := fun b hb => w64_id (by omega) (by omega)
  have d1 : decide (a ≥ 0) = true := dec_true h1
  have d2 : decide (a ≤ 65535) = true := dec_true h2
  have d3 : decide (d ≥ 0) = true := dec_true h5
  have d4 : decide (d ≤ 7) = true := dec_true h6
  rcases hr with rfl | rfl
  · have e1 := e 8196 (by omega) (by omega)
    have hf : V_tmpl_fits (a, 0, d) = true := by simp [V_tmpl_fits, T_tmpl_fits, PO.getO, PO.val, d1, d2, d3, d4]
    have hm : V_memmap_Rail 0 = 537133056 := rfl
    have hw : V_tmpl_Word (7, 537133056 + a) = [movw 7 a, insI 4 7 0 0 0 8196 0] := by
      show wordI false 7 (8196 * 65536 + a) = _
      simp only [wordI, e1.1, e1.2]
    simp only [T_tmpl_Get, hf, hm, w _ (Or.inl rfl), hw]
    rfl
  · have e1 := e 8200 (by omega) (by omega)
    have hf : V_tmpl_fits (a, 1, d) = true := by simp [V_tmpl_fits, T_tmpl_fits, PO.getO, PO.val, d1, d2, d3, d4]
    have hm : V_memmap_Rail 1 = 537395200 := rfl
    have hw : V_tmpl_Word (7, 537395200 + a) = [movw 7 a, insI 4 7 0 0 0 8200 0] := by
      show wordI false 7 (8200 * 65536 + a) = _
      simp only [wordI, e1.1, e1.2]
    simp only [T_tmpl_Get, hf, hm, w _ (Or.inr rfl), hw]
    rfl
theorem ok_tmpl_Get (x : dens A_tmpl_Get) (h : G_tmpl_Get x = true) : (T_tmpl_Get x).val = some (V_tmpl_Get x) := get_ok x.1 x.2.1 x.2.2 h
/-- hauberkref27.rail -/
abbrev A_hauberkref27_rail : List Ty := [(.int .i64)]
abbrev S_hauberkref27_rail : Sh := Sh.ty (Ty.int IntKind.i64)
def T_hauberkref27_rail (x : dens A_hauberkref27_rail) : PO (Sh.den S_hauberkref27_rail) :=
  (.ite (x == 0)
   (.ret (8196))
   (.ret (8200)))
def G_hauberkref27_rail (_ : dens A_hauberkref27_rail) : Bool := true
def V_hauberkref27_rail (x : dens A_hauberkref27_rail) : Sh.den S_hauberkref27_rail := (T_hauberkref27_rail x).getO default
theorem ok_hauberkref27_rail (x : dens A_hauberkref27_rail) (_ : G_hauberkref27_rail x = true) : (T_hauberkref27_rail x).val = some (V_hauberkref27_rail x) := PO.sure_ok default (by simp [T_hauberkref27_rail, PO.sure])
/-- hauberkref27.Get -/
abbrev A_hauberkref27_Get : List Ty := [(.int .i64), (.int .i64), (.int .i64)]
abbrev S_hauberkref27_Get : Sh := Sh.osl 32 tIns
def T_hauberkref27_Get (x : dens A_hauberkref27_Get) : PO (Sh.den S_hauberkref27_Get) :=
  (.ite (decide (x.1 < 0) || (decide (x.1 > 65535) || (decide (x.2.1 < 0) || (decide (x.2.1 > 1) || (decide (x.2.2 < 0) || decide (x.2.2 > 7))))))
   (.ret ([]))
   (.ret ([movw 7 x.1, insI 4 7 0 0 0 (V_hauberkref27_rail x.2.1) 0, ldrI x.2.2 7])))
def G_hauberkref27_Get (x : dens A_hauberkref27_Get) : Bool := getG x
def V_hauberkref27_Get (x : dens A_hauberkref27_Get) : List tIns.den := getI x
theorem getR_ok (a r d : Int) (h : getG (a, r, d) = true) : (T_hauberkref27_Get (a, r, d)).val = some (getI (a, r, d)) := by
  simp only [getG, Bool.and_eq_true, decide_eq_true_eq] at h
  obtain ⟨h1, h2, h3, h4, h5, h6⟩ := h
  have hr : r = 0 ∨ r = 1 := by omega
  have d1 : decide (a < 0) = false := dec_false (by omega)
  have d2 : decide (a > 65535) = false := dec_false (by omega)
  have d3 : decide (d < 0) = false := dec_false (by omega)
  have d4 : decide (d > 7) = false := dec_false (by omega)
  rcases hr with rfl | rfl
  · simp only [T_hauberkref27_Get, d1, d2, d3, d4]
    rfl
  · simp only [T_hauberkref27_Get, d1, d2, d3, d4]
    rfl
theorem ok_hauberkref27_Get (x : dens A_hauberkref27_Get) (h : G_hauberkref27_Get x = true) : (T_hauberkref27_Get x).val = some (V_hauberkref27_Get x) := getR_ok x.1 x.2.1 x.2.2 h
/-- The whole way. -/
def branchL (ref : Bool) (at' x h : Int) (jn jy : List tItem.den) : List tItem.den :=
  its (getI (at', 0, 0)) ++ cmpL ref false 4294967295 0 x ++ cmpL ref true 0 1 h ++ its (getI (at', 1, 0)) ++ cmpL ref true 0 1 h ++ jn ++ [itL x] ++ its (getI (at', 1, 0)) ++ cmpL ref false 4294967295 1 h ++ jy
def jmpL (ref : Bool) (k : Int) : List tItem.den := jumpL ref (V_rail_Tag k) k
abbrev A_hauberklaw29_RailBranch : List Ty := [tTerm, tI, tI]
abbrev S_hauberklaw29_RailBranch : Sh := Sh.ty Ty.bool
/-- The law's last line. -/
def sameP (l r : List tItem.den) (e : Bool) : PO Bool := .ite (G_hauberkref28_Same (l, r) && bif V_hauberkref28_Same (l, r) then e || true else true) (.ret (V_hauberkref28_Same (l, r) && (e && true))) .fail
def mayB (x : dens A_hauberklaw29_RailBranch) : Bool := x.1.1 == 2 && (decide (x.1.2.1 ≥ 0) && decide (x.1.2.1 ≤ 16382))
def yesR (x : dens A_hauberklaw29_RailBranch) (l : List tItem.den) (e : Int) (jn : List tItem.den) : PO Bool :=
  .ite (G_hauberkref27_Get (V_hauberkref26_Temp x.1.2.1, 1, 0))
   (.ite (decide (x.1.2.2.1 ≥ 0)) (sameP l (branchL true (V_hauberkref26_Temp x.1.2.1) x.2.1 x.2.2 jn (jmpL true x.1.2.2.1)) (e == 0)) (sameP l (branchL true (V_hauberkref26_Temp x.1.2.1) x.2.1 x.2.2 jn [itB x.2.2, itB x.2.2]) (e == 0))) .fail
/-- Behind the program's answer: the document's. -/
def restP (x : dens A_hauberklaw29_RailBranch) (l : List tItem.den) (e : Int) : PO Bool :=
  .ite (!mayB x) (.ite (bif lenI l == 0 then e == 2 || true else true) (.ret (lenI l == 0 && (e == 2 && true))) .fail)
   (.ite (G_hauberkref27_Get (V_hauberkref26_Temp x.1.2.1, 0, 0))
    (.ite (G_hauberkref27_Get (V_hauberkref26_Temp x.1.2.1, 1, 0))
     (.ite (decide (x.1.2.2.2.1 ≥ 0)) (yesR x l e (jmpL true x.1.2.2.2.1)) (yesR x l e [itB x.2.2, itB x.2.2]))
     .fail)
    .fail)
/-- rail.Branch -/
abbrev A_rail_Branch : List Ty := [tTerm, tI, tI]
abbrev S_rail_Branch : Sh := .tup (.pair (.osl 32 tItem) (.pair (.ty (.int .i64)) (.ty .unit)))
def wayB (k h : Int) : List tItem.den := bif decide (k < 0) then [itB h, itB h] else jmpL false k
def yesT (x : dens A_rail_Branch) (jn : List tItem.den) : PO (Sh.den S_rail_Branch) :=
  .ite (G_tmpl_Get (V_frame_Temp x.1.2.1, 1, 0))
   (.ite (decide (x.1.2.2.1 < 0)) (.ret (branchL false (V_frame_Temp x.1.2.1) x.2.1 x.2.2 jn [itB x.2.2, itB x.2.2], 0, ())) (.ret (branchL false (V_frame_Temp x.1.2.1) x.2.1 x.2.2 jn (jmpL false x.1.2.2.1), 0, ()))) .fail
def badB (x : dens A_rail_Branch) : Bool := x.1.1 != 2 || (decide (x.1.2.1 < 0) || decide (x.1.2.1 ≥ 16383))
def T_rail_Branch (x : dens A_rail_Branch) : PO (Sh.den S_rail_Branch) :=
  .ite (badB x) (.ret ([], 2, ()))
   (.ite (G_tmpl_Get (V_frame_Temp x.1.2.1, 0, 0))
    (.ite (G_tmpl_Get (V_frame_Temp x.1.2.1, 1, 0))
     (.ite (decide (x.1.2.2.2.1 < 0)) (yesT x [itB x.2.2, itB x.2.2]) (yesT x (jmpL false x.1.2.2.2.1)))
     .fail)
    .fail)
def G_rail_Branch (_ : dens A_rail_Branch) : Bool := true
def V_rail_Branch (x : dens A_rail_Branch) : Sh.den S_rail_Branch := bif badB x then ([], 2, ()) else (branchL false (V_frame_Temp x.1.2.1) x.2.1 x.2.2 (wayB x.1.2.2.2.1 x.2.2) (wayB x.1.2.2.1 x.2.2), 0, ())
theorem val_ite {α : Type} (b : Bool) (p q : PO α) : (PO.ite b p q).val = bif b then p.val else q.val := by cases b <;> rfl
theorem temp_fr (a : Int) (h1 : 0 ≤ a) (h2 : a ≤ 16382) : V_frame_Temp a = 4 * (a + 1) := by
  have d1 : decide (a < 0) = false := dec_false (by omega)
  have d2 : decide (a > 16382) = false := dec_false (by omega)
  have e : V_frame_Temp a = w64 (4 + w64 (4 * a)) := by simp [V_frame_Temp, T_frame_Temp, PO.getO, PO.val, d1, d2]
  rw [e, w64_id (n := 4 * a) (by omega) (by omega), w64_id (by omega) (by omega)]
  show (4 + 4 * a : Int) = 4 * (a + 1)
  omega
theorem getG_ok (a r : Int) (h1 : 0 ≤ a) (h2 : a ≤ 65535) (hr : 0 ≤ r) (hr' : r ≤ 1) : getG (a, r, 0) = true := by
  simp [getG, h1, h2, hr, hr']
theorem get_temp (a r : Int) (h1 : 0 ≤ a) (h2 : a ≤ 16382) (hr : 0 ≤ r) (hr' : r ≤ 1) : getG (4 * (a + 1), r, 0) = true := getG_ok _ _ (by omega) (by omega) hr hr'
theorem in_range (a : Int) (h1 : decide (a < 0) = false) (h2 : decide (a ≥ 16383) = false) : 0 ≤ a ∧ a ≤ 16382 := by
  have := of_decide_eq_false h1
  have := of_decide_eq_false h2
  omega
theorem ok_rail_Branch (x : dens A_rail_Branch) (_ : G_rail_Branch x = true) : (T_rail_Branch x).val = some (V_rail_Branch x) := by
  unfold T_rail_Branch V_rail_Branch
  rw [val_ite]
  cases hb : badB x with
  | true => rfl
  | false =>
    have hb' := hb
    simp only [badB, Bool.or_eq_false_iff] at hb'
    obtain ⟨k0, k1⟩ := in_range x.1.2.1 hb'.2.1 hb'.2.2
    have g0 : G_tmpl_Get (4 * (x.1.2.1 + 1), 0, 0) = true := get_temp x.1.2.1 0 k0 k1 (by decide) (by decide)
    have g1 : G_tmpl_Get (4 * (x.1.2.1 + 1), 1, 0) = true := get_temp x.1.2.1 1 k0 k1 (by decide) (by decide)
    simp only [yesT, val_ite, temp_fr _ k0 k1, g0, g1, wayB, cond_false, cond_true]
    cases decide (x.1.2.2.2.1 < 0) <;> cases decide (x.1.2.2.1 < 0) <;> simp only [cond_false, cond_true, PO.val]
/-- hauberklaw29.RailBranch -/
def T_hauberklaw29_RailBranch (x : dens A_hauberklaw29_RailBranch) : PO (Sh.den S_hauberklaw29_RailBranch) := restP x (V_rail_Branch x).1 (V_rail_Branch x).2.1
end Go.Av
end
/-! Layer 27: operations as instructions: what the functions compute. -/
section
namespace Go.Av
open Go
/-- ir.formOf -/
abbrev A_ir_formOf : List Ty := [(.int .i64)]
abbrev S_ir_formOf : Sh := Sh.ty (Ty.pair Ty.bool tAccess)
def T_ir_formOf (x : dens A_ir_formOf) : PO (Sh.den S_ir_formOf) :=
  (.ite (x == 1)
   (.ret ((true, 0, 0, 4294967295, true, ())))
   (.ite (bif x == 2 then x == 2 else x == 10)
    (.ret ((true, 1, 0, 0, true, ())))
    (.ite (bif x == 3 then x == 3 else bif x == 4 then x == 4 else bif x == 5 then x == 5 else bif x == 6 then x == 6 else bif x == 7 then x == 7 else bif x == 8 then x == 8 else bif x == 9 then x == 9 else bif x == 14 then x == 14 else bif x == 15 then x == 15 else x == 16)
     (.ret ((true, 2, 0, 0, true, ())))
     (.ite (bif x == 11 then x == 11 else bif x == 12 then x == 12 else x == 13)
      (.ret ((true, 1, 0, 31, true, ())))
      (.ite (x == 17)
       (.ret ((true, 3, 0, 0, true, ())))
       (.ite (x == 18)
        (.ret ((true, 1, 0, 1048576, true, ())))
        (.ite (x == 19)
         (.ret ((false, 2, 0, 1048576, true, ())))
         (.ret ((false, 0, 0, 0, false, ()))))))))))
def G_ir_formOf (_ : dens A_ir_formOf) : Bool := true
def V_ir_formOf (x : dens A_ir_formOf) : Sh.den S_ir_formOf := (T_ir_formOf x).getO default
theorem ok_ir_formOf (x : dens A_ir_formOf) (_ : G_ir_formOf x = true) : (T_ir_formOf x).val = some (V_ir_formOf x) := PO.sure_ok default (by simp [T_ir_formOf, PO.sure])
/-- ir.Makes -/
abbrev A_ir_Makes : List Ty := [tOp]
abbrev S_ir_Makes : Sh := Sh.ty Ty.bool
def T_ir_Makes (x : dens A_ir_Makes) : PO (Sh.den S_ir_Makes) :=
  (.ret ((V_ir_formOf x.1).1))
def G_ir_Makes (_ : dens A_ir_Makes) : Bool := true
def V_ir_Makes (x : dens A_ir_Makes) : Sh.den S_ir_Makes := (T_ir_Makes x).getO default
theorem ok_ir_Makes (x : dens A_ir_Makes) (_ : G_ir_Makes x = true) : (T_ir_Makes x).val = some (V_ir_Makes x) := PO.sure_ok default (by simp [T_ir_Makes, PO.sure])
def srcOk (o : Option (Sh.den S_ir_formOf)) : Prop := 0 ≤ (o.getD default).2.1 ∧ (o.getD default).2.1 ≤ 3
theorem srcOk_cond {c : Bool} {a b : Option (Sh.den S_ir_formOf)} (h1 : srcOk a) (h2 : srcOk b) : srcOk (bif c then a else b) := by cases c <;> assumption
theorem form_ok (k : Int) : srcOk (T_ir_formOf k).val := by
  unfold T_ir_formOf
  simp only [PO.val]
  repeat' (first | refine srcOk_cond ?_ ?_ | exact ⟨by decide, by decide⟩)
theorem form_src (k : Int) : 0 ≤ (V_ir_formOf k).2.1 ∧ (V_ir_formOf k).2.1 ≤ 3 := form_ok k
/-- ir.Uses -/
abbrev A_ir_Uses : List Ty := [tOp]
abbrev S_ir_Uses : Sh := Sh.ty (Ty.sl (Ty.int IntKind.i64))
def T_ir_Uses (x : dens A_ir_Uses) : PO (Sh.den S_ir_Uses) :=
  (.ite (decide (0 ≤ (V_ir_formOf x.1).2.1) && decide ((V_ir_formOf x.1).2.1 ≤ 3) && true && decide (0 ≤ (V_ir_formOf x.1).2.1))
   (.ret (List.drop (Int.toNat 0) (List.take (Int.toNat (V_ir_formOf x.1).2.1) [x.2.2.1, x.2.2.2.1, x.2.2.2.2.1])))
   .fail)
def G_ir_Uses (_ : dens A_ir_Uses) : Bool := true
def V_ir_Uses (x : dens A_ir_Uses) : Sh.den S_ir_Uses := List.take (Int.toNat (V_ir_formOf x.1).2.1) [x.2.2.1, x.2.2.2.1, x.2.2.2.2.1]
theorem ok_ir_Uses (x : dens A_ir_Uses) (_ : G_ir_Uses x = true) : (T_ir_Uses x).val = some (V_ir_Uses x) := by
  obtain ⟨h1, h2⟩ := form_src x.1
  unfold T_ir_Uses PO.val
  rw [dec_true h1, dec_true h2]
  rfl
/-- hauberkref17.letters -/
abbrev A_hauberkref17_letters : List Ty := [(.int .i64)]
abbrev S_hauberkref17_letters : Sh := Sh.ty Ty.str
def T_hauberkref17_letters (x : dens A_hauberkref17_letters) : PO (Sh.den S_hauberkref17_letters) :=
  (.ite (decide (x < 1) || decide (x > 19))
   (.ret ([]))
   (.ite (inRange x 20)
    (.ret (List.getD [[], [100, 110], [100, 97], [100, 97, 98], [100, 97, 98], [100, 97, 98], [100, 97, 98], [100, 97, 98], [100, 97, 98], [100, 97, 98], [100, 97], [100, 97, 115], [100, 97, 115], [100, 97, 115], [100, 97, 98], [100, 97, 98], [100, 97, 98], [100, 97, 98, 99], [100, 97, 114], [97, 98, 114]] (Int.toNat x) (Ty.dflt Ty.str)))
    .fail))
def G_hauberkref17_letters (_ : dens A_hauberkref17_letters) : Bool := true
def V_hauberkref17_letters (x : dens A_hauberkref17_letters) : Sh.den S_hauberkref17_letters := (T_hauberkref17_letters x).getO default
theorem letters_T (x : Int) : (T_hauberkref17_letters x).val = some (V_hauberkref17_letters x) := by
  refine PO.getO_ok default ?_
  unfold T_hauberkref17_letters PO.val
  by_cases h : x < 1 ∨ x > 19
  · have : (decide (x < 1) || decide (x > 19)) = true := by rw [Bool.or_eq_true, decide_eq_true_eq, decide_eq_true_eq]; exact h
    rw [this]
    rfl
  · have : (decide (x < 1) || decide (x > 19)) = false := by rw [Bool.or_eq_false_iff, decide_eq_false_iff_not, decide_eq_false_iff_not]; omega
    have h2 : inRange x 20 = true := by
      unfold inRange
      rw [dec_true (p := 0 ≤ x) (by omega), dec_true (p := x < (20 : Nat)) (by omega)]
      rfl
    rw [this]
    dsimp only [cond_false, PO.val]
    rw [h2]
    rfl
theorem ok_hauberkref17_letters (x : dens A_hauberkref17_letters) (_ : G_hauberkref17_letters x = true) : (T_hauberkref17_letters x).val = some (V_hauberkref17_letters x) := letters_T x
def L_hauberkref17_has_2 : LoopN where
  M := [0, 1, 4, 5]
  T := [6, 7, 8, 9, 10, 11, 12, 13, 14, 15, 16]
  D := [0, 1, 5]
  ss := [.ty .str, .ty (.int .u8), .ty .bool, .ty (.int .i64)]
  hs := []
  es := [.exit 0, .ret]
  σ := (Ty.den .bool) × (Ty.den (.int .i64))
  x0 := fun x _ => (x.2.2.1, x.2.2.2)
  put := fun x _ s => ((x.1, x.2.1, s.1, s.2), ())
  fuel := fun x _ => List.length x.1 + 1
  turn := fun x _ s =>
  (.ite (decide (s.2 < lenI x.1))
   (.ite (inRange s.2 (List.length x.1))
    (.ite (u8I (List.getD x.1 (Int.toNat s.2) 0) == x.2.1)
     (.ret (.out 1 (true, s.2)))
     (.ret (.on (s.1, w64 (s.2 + 1)))))
    .fail)
   (.ret (.out 0 (s.1, s.2))))
/-- hauberkref17.has -/
abbrev A_hauberkref17_has : List Ty := [.str, (.int .u8)]
abbrev S_hauberkref17_has : Sh := Sh.ty Ty.bool
def T_hauberkref17_has (x : dens A_hauberkref17_has) : PO (Sh.den S_hauberkref17_has) :=
  (.opt (LoopN.res L_hauberkref17_has_2 (x.1, x.2, false, 0) ()) fun p0 =>
   (.ite (way p0.1)
    (.ret (false))
    (.ret (p0.2.1))))
def G_hauberkref17_has (x : dens A_hauberkref17_has) : Bool := decide (List.length x.1 < 4611686018427387904)
def V_hauberkref17_has (x : dens A_hauberkref17_has) : Sh.den S_hauberkref17_has := List.any x.1 fun b => u8I b == x.2
theorem ok_hauberkref17_has (x : dens A_hauberkref17_has) (h : G_hauberkref17_has x = true) : (T_hauberkref17_has x).val = some (V_hauberkref17_has x) := by
  obtain ⟨s, c⟩ := x
  have hs : List.length s < 4611686018427387904 := of_decide_eq_true h
  obtain ⟨o, st, h1, h2⟩ := has_run s c (L_hauberkref17_has_2.turn (s, c, false, 0) ()) (fun _ => rfl) hs
  have h1' : LoopN.res L_hauberkref17_has_2 (s, c, false, 0) () = some (o, st) := h1
  unfold T_hauberkref17_has PO.val
  rw [h1']
  exact h2
/-- hauberkref17.Uses -/
abbrev A_hauberkref17_Uses : List Ty := [tOp]
abbrev S_hauberkref17_Uses : Sh := Sh.osl 32 (Ty.int IntKind.i64)
def T_hauberkref17_Uses (x : dens A_hauberkref17_Uses) : PO (Sh.den S_hauberkref17_Uses) :=
  (.ite (G_hauberkref17_has (V_hauberkref17_letters x.1, 97))
   (.ite (V_hauberkref17_has (V_hauberkref17_letters x.1, 97))
    (.ite (G_hauberkref17_has (V_hauberkref17_letters x.1, 98))
     (.ite (V_hauberkref17_has (V_hauberkref17_letters x.1, 98))
      (.ite (G_hauberkref17_has (V_hauberkref17_letters x.1, 99))
       (.ite (V_hauberkref17_has (V_hauberkref17_letters x.1, 99))
        (.ret ([x.2.2.1, x.2.2.2.1, x.2.2.2.2.1]))
        (.ret ([x.2.2.1, x.2.2.2.1])))
       .fail)
      (.ite (G_hauberkref17_has (V_hauberkref17_letters x.1, 99))
       (.ite (V_hauberkref17_has (V_hauberkref17_letters x.1, 99))
        (.ret ([x.2.2.1, x.2.2.2.2.1]))
        (.ret ([x.2.2.1])))
       .fail))
     .fail)
    (.ite (G_hauberkref17_has (V_hauberkref17_letters x.1, 98))
     (.ite (V_hauberkref17_has (V_hauberkref17_letters x.1, 98))
      (.ite (G_hauberkref17_has (V_hauberkref17_letters x.1, 99))
       (.ite (V_hauberkref17_has (V_hauberkref17_letters x.1, 99))
        (.ret ([x.2.2.2.1, x.2.2.2.2.1]))
        (.ret ([x.2.2.2.1])))
       .fail)
      (.ite (G_hauberkref17_has (V_hauberkref17_letters x.1, 99))
       (.ite (V_hauberkref17_has (V_hauberkref17_letters x.1, 99))
        (.ret ([x.2.2.2.2.1]))
        (.ret ([])))
       .fail))
     .fail))
   .fail)
def G_hauberkref17_Uses (x : dens A_hauberkref17_Uses) : Bool := (T_hauberkref17_Uses x).val.isSome
def V_hauberkref17_Uses (x : dens A_hauberkref17_Uses) : Sh.den S_hauberkref17_Uses := (T_hauberkref17_Uses x).getO default
theorem ok_hauberkref17_Uses (x : dens A_hauberkref17_Uses) (h : G_hauberkref17_Uses x = true) : (T_hauberkref17_Uses x).val = some (V_hauberkref17_Uses x) := PO.getO_ok default h
/-- hauberkref17.Makes -/
abbrev A_hauberkref17_Makes : List Ty := [tOp]
abbrev S_hauberkref17_Makes : Sh := Sh.ty Ty.bool
def T_hauberkref17_Makes (x : dens A_hauberkref17_Makes) : PO (Sh.den S_hauberkref17_Makes) :=
  (.ite (G_hauberkref17_has (V_hauberkref17_letters x.1, 100))
   (.ret (V_hauberkref17_has (V_hauberkref17_letters x.1, 100)))
   .fail)
def G_hauberkref17_Makes (x : dens A_hauberkref17_Makes) : Bool := (T_hauberkref17_Makes x).val.isSome
def V_hauberkref17_Makes (x : dens A_hauberkref17_Makes) : Sh.den S_hauberkref17_Makes := (T_hauberkref17_Makes x).getO default
theorem ok_hauberkref17_Makes (x : dens A_hauberkref17_Makes) (h : G_hauberkref17_Makes x = true) : (T_hauberkref17_Makes x).val = some (V_hauberkref17_Makes x) := PO.getO_ok default h
/-- A word of a rail, out of register d. -/
def putI (x : Int × Int × Int) : List tIns.den := [movw 7 x.1, insI 4 7 0 0 0 (bif x.2.1 == 0 then 8196 else 8200) 0, (20, x.2.2, 7, 0, 0, 0, 0, false, ())]
/-- tmpl.Put -/
abbrev A_tmpl_Put : List Ty := [(.int .i64), (.int .i64), (.int .i64)]
abbrev S_tmpl_Put : Sh := Sh.osl 32 tIns
def T_tmpl_Put (x : dens A_tmpl_Put) : PO (Sh.den S_tmpl_Put) :=
  (.ite (!V_tmpl_fits (x.1, x.2.1, x.2.2))
   (.ret ([]))
   (.ite (Nat.ble ((List.length (V_tmpl_Word (7, w64 (V_memmap_Rail x.2.1 + x.1))) + List.length [(20, x.2.2, 7, 0, 0, 0, 0, false, ())]) * 64) 140737488355328)
    (.ret (V_tmpl_Word (7, w64 (V_memmap_Rail x.2.1 + x.1)) ++ [(20, x.2.2, 7, 0, 0, 0, 0, false, ())]))
    .fail))
def G_tmpl_Put (x : dens A_tmpl_Put) : Bool := getG x
def V_tmpl_Put (x : dens A_tmpl_Put) : List tIns.den := putI x
theorem put_ok' (a r d : Int) (h : getG (a, r, d) = true) : (T_tmpl_Put (a, r, d)).val = some (putI (a, r, d)) := by
  simp only [getG, Bool.and_eq_true, decide_eq_true_eq] at h
  obtain ⟨h1, h2, h3, h4, h5, h6⟩ := h
  have hr : r = 0 ∨ r = 1 := by omega
  have e : ∀ b : Int, 0 ≤ b → b < 65536 → lo false (b * 65536 + a) = a ∧ hi false (b * 65536 + a) = b := by
    intro b hb1 hb2
    simp only [lo, hi]
    rw [ishr_16, band_16, band_16]
    omega
  have w : ∀ b : Int, b = 537133056 ∨ b = 537395200 → w64 (b + a) = b + a := fun b hb => w64_id (by omega) (by omega)
  have d1 : decide (a ≥ 0) = true := dec_true h1
  have d2 : decide (a ≤ 65535) = true := dec_true h2
  have d3 : decide (d ≥ 0) = true := dec_true h5
  have d4 : decide (d ≤ 7) = true := dec_true h6
  rcases hr with rfl | rfl
  · have e1 := e 8196 (by omega) (by omega)
    have hf : V_tmpl_fits (a, 0, d) = true := by simp [V_tmpl_fits, T_tmpl_fits, PO.getO, PO.val, d1, d2, d3, d4]
    have hm : V_memmap_Rail 0 = 537133056 := rfl
    have hw : V_tmpl_Word (7, 537133056 + a) = [movw 7 a, insI 4 7 0 0 0 8196 0] := by
      show wordI false 7 (8196 * 65536 + a) = _
      simp only [wordI, e1.1, e1.2]
    simp only [T_tmpl_Put, hf, hm, w _ (Or.inl rfl), hw]
    rfl
  · have e1 := e 8200 (by omega) (by omega)
    have hf : V_tmpl_fits (a, 1, d) = true := by simp [V_tmpl_fits, T_tmpl_fits, PO.getO, PO.val, d1, d2, d3, d4]
    have hm : V_memmap_Rail 1 = 537395200 := rfl
    have hw : V_tmpl_Word (7, 537395200 + a) = [movw 7 a, insI 4 7 0 0 0 8200 0] := by
      show wordI false 7 (8200 * 65536 + a) = _
      simp only [wordI, e1.1, e1.2]
    simp only [T_tmpl_Put, hf, hm, w _ (Or.inr rfl), hw]
    rfl
theorem ok_tmpl_Put (x : dens A_tmpl_Put) (h : G_tmpl_Put x = true) : (T_tmpl_Put x).val = some (V_tmpl_Put x) := put_ok' x.1 x.2.1 x.2.2 h
/-- tmpl.temp -/
abbrev A_tmpl_temp : List Ty := [(.int .i64)]
abbrev S_tmpl_temp : Sh := Sh.ty Ty.bool
def T_tmpl_temp (x : dens A_tmpl_temp) : PO (Sh.den S_tmpl_temp) :=
  (.ret (decide (x ≥ 0) && decide (x < 16383)))
def G_tmpl_temp (_ : dens A_tmpl_temp) : Bool := true
def V_tmpl_temp (x : dens A_tmpl_temp) : Sh.den S_tmpl_temp := (T_tmpl_temp x).getO default
theorem ok_tmpl_temp (x : dens A_tmpl_temp) (_ : G_tmpl_temp x = true) : (T_tmpl_temp x).val = some (V_tmpl_temp x) := PO.sure_ok default (by simp [T_tmpl_temp, PO.sure])
/-- tmpl.spot -/
abbrev A_tmpl_spot : List Ty := [tOp, tSpot]
abbrev S_tmpl_spot : Sh := Sh.ty Ty.bool
def T_tmpl_spot (x : dens A_tmpl_spot) : PO (Sh.den S_tmpl_spot) :=
  (.ret (bif x.2.1 == 1 then decide (x.2.2.1 ≥ 0) && (decide (x.2.2.1 ≤ 65535) && bif x.2.2.2.1 then !x.1.1 == 19 else true) else x.2.1 == 4 && (decide (x.2.2.1 ≥ 0) && (decide (x.2.2.1 ≤ 65535) && bif x.2.2.2.1 then !x.1.1 == 19 else true))))
def G_tmpl_spot (_ : dens A_tmpl_spot) : Bool := true
def V_tmpl_spot (x : dens A_tmpl_spot) : Sh.den S_tmpl_spot := (T_tmpl_spot x).getO default
theorem ok_tmpl_spot (x : dens A_tmpl_spot) (_ : G_tmpl_spot x = true) : (T_tmpl_spot x).val = some (V_tmpl_spot x) := PO.sure_ok default (by simp [T_tmpl_spot, PO.sure])
/-- tmpl.pairs -/
abbrev A_tmpl_pairs : List Ty := [(.int .i64)]
abbrev S_tmpl_pairs : Sh := Sh.ty (Ty.int IntKind.i64)
def T_tmpl_pairs (x : dens A_tmpl_pairs) : PO (Sh.den S_tmpl_pairs) :=
  (.ite (x == 3)
   (.ret (14))
   (.ite (x == 4)
    (.ret (15))
    (.ite (x == 5)
     (.ret (16))
     (.ite (x == 7)
      (.ret (10))
      (.ite (x == 8)
       (.ret (12))
       (.ite (x == 9)
        (.ret (13))
        (.ret (0))))))))
def G_tmpl_pairs (_ : dens A_tmpl_pairs) : Bool := true
def V_tmpl_pairs (x : dens A_tmpl_pairs) : Sh.den S_tmpl_pairs := (T_tmpl_pairs x).getO default
theorem ok_tmpl_pairs (x : dens A_tmpl_pairs) (_ : G_tmpl_pairs x = true) : (T_tmpl_pairs x).val = some (V_tmpl_pairs x) := PO.sure_ok default (by simp [T_tmpl_pairs, PO.sure])
/-- tmpl.three -/
abbrev A_tmpl_three : List Ty := [(.int .i64), (.int .i64), (.int .i64), (.int .i64)]
abbrev S_tmpl_three : Sh := Sh.ty tIns
def T_tmpl_three (x : dens A_tmpl_three) : PO (Sh.den S_tmpl_three) :=
  (.ret ((x.1, x.2.1, x.2.2.1, x.2.2.2, 0, 0, 0, false, ())))
def G_tmpl_three (_ : dens A_tmpl_three) : Bool := true
def V_tmpl_three (x : dens A_tmpl_three) : Sh.den S_tmpl_three := (T_tmpl_three x).getO default
theorem ok_tmpl_three (x : dens A_tmpl_three) (_ : G_tmpl_three x = true) : (T_tmpl_three x).val = some (V_tmpl_three x) := PO.sure_ok default (by simp [T_tmpl_three, PO.sure])
/-- tmpl.shift -/
abbrev A_tmpl_shift : List Ty := [(.int .i64), (.int .i64), (.int .i64), (.int .i64)]
abbrev S_tmpl_shift : Sh := Sh.ty tIns
def T_tmpl_shift (x : dens A_tmpl_shift) : PO (Sh.den S_tmpl_shift) :=
  (.ret ((bif x.2.2.2 == 0 then 5 else x.1, x.2.1, 0, x.2.2.1, 0, x.2.2.2, 0, false, ())))
def G_tmpl_shift (_ : dens A_tmpl_shift) : Bool := true
def V_tmpl_shift (x : dens A_tmpl_shift) : Sh.den S_tmpl_shift := (T_tmpl_shift x).getO default
theorem ok_tmpl_shift (x : dens A_tmpl_shift) (_ : G_tmpl_shift x = true) : (T_tmpl_shift x).val = some (V_tmpl_shift x) := PO.sure_ok default (by simp [T_tmpl_shift, PO.sure])
/-- tmpl.array -/
abbrev A_tmpl_array : List Ty := [tOp, tSpot, (.int .i64)]
abbrev S_tmpl_array : Sh := Sh.osl 32 tIns
def T_tmpl_array (x : dens A_tmpl_array) : PO (Sh.den S_tmpl_array) :=
  (.ite (x.1.1 == 19)
   (.ite (x.2.1.1 == 1)
    (.ret ([V_tmpl_shift (5, 4, 0, bif x.2.1.1 == 4 then 2 else 0), (3, 5, 0, 0, 0, x.2.1.2.1, 0, false, ()), V_tmpl_three (14, 6, 4, 5), (3, 5, 0, 0, 0, 0, 0, false, ()), (4, 5, 0, 0, 0, ishr IntKind.i64 (bif x.2.1.2.2.1 then 536936448 else V_memmap_Rail x.2.2) 16, 0, false, ()), (18, 5, 6, 0, 16, 0, 0, false, ()), (22, 1, 5, 0, 0, 0, 0, false, ())]))
    (.ret ([V_tmpl_shift (5, 4, 0, bif x.2.1.1 == 4 then 2 else 0), (3, 5, 0, 0, 0, x.2.1.2.1, 0, false, ()), V_tmpl_three (14, 6, 4, 5), (3, 5, 0, 0, 0, 0, 0, false, ()), (4, 5, 0, 0, 0, ishr IntKind.i64 (bif x.2.1.2.2.1 then 536936448 else V_memmap_Rail x.2.2) 16, 0, false, ()), (18, 5, 6, 0, 16, 0, 0, false, ()), (20, 1, 5, 0, 0, 0, 0, false, ())])))
   (.ite (x.2.1.1 == 1)
    (.ret ([V_tmpl_shift (5, 4, 0, bif x.2.1.1 == 4 then 2 else 0), (3, 5, 0, 0, 0, x.2.1.2.1, 0, false, ()), V_tmpl_three (14, 6, 4, 5), (3, 5, 0, 0, 0, 0, 0, false, ()), (4, 5, 0, 0, 0, ishr IntKind.i64 (bif x.2.1.2.2.1 then 536936448 else V_memmap_Rail x.2.2) 16, 0, false, ()), (18, 5, 6, 0, 16, 0, 0, false, ()), (21, 3, 5, 0, 0, 0, 0, false, ())]))
    (.ret ([V_tmpl_shift (5, 4, 0, bif x.2.1.1 == 4 then 2 else 0), (3, 5, 0, 0, 0, x.2.1.2.1, 0, false, ()), V_tmpl_three (14, 6, 4, 5), (3, 5, 0, 0, 0, 0, 0, false, ()), (4, 5, 0, 0, 0, ishr IntKind.i64 (bif x.2.1.2.2.1 then 536936448 else V_memmap_Rail x.2.2) 16, 0, false, ()), (18, 5, 6, 0, 16, 0, 0, false, ()), (19, 3, 5, 0, 0, 0, 0, false, ())]))))
def G_tmpl_array (_ : dens A_tmpl_array) : Bool := true
def V_tmpl_array (x : dens A_tmpl_array) : Sh.den S_tmpl_array := (T_tmpl_array x).getO default
theorem ok_tmpl_array (x : dens A_tmpl_array) (_ : G_tmpl_array x = true) : (T_tmpl_array x).val = some (V_tmpl_array x) := PO.sure_ok default (by simp [T_tmpl_array, PO.sure])
/-- tmpl.inner -/
abbrev A_tmpl_inner : List Ty := [tOp, tSpot, (.int .i64)]
abbrev S_tmpl_inner : Sh := Sh.osl 32 tIns
def T_tmpl_inner (x : dens A_tmpl_inner) : PO (Sh.den S_tmpl_inner) :=
  (.ite (x.1.1 == 1)
   (.ret (V_tmpl_Word (3, x.1.2.2.2.2.2.1)))
   (.ite (x.1.1 == 2)
    (.ret ([V_tmpl_shift (5, 3, 0, 0)]))
    (.ite (x.1.1 == 6)
     (.ret ([(17, 4, 0, 1, 3, 0, 0, false, ())]))
     (.ite (x.1.1 == 10)
      (.ret ([(9, 3, 0, 0, 0, 0, 0, false, ())]))
      (.ite (x.1.1 == 11)
       (.ret ([V_tmpl_shift (5, 3, 0, x.1.2.2.2.2.2.1)]))
       (.ite (x.1.1 == 12)
        (.ret ([V_tmpl_shift (6, 3, 0, x.1.2.2.2.2.2.1)]))
        (.ite (x.1.1 == 13)
         (.ret ([V_tmpl_shift (8, 3, 0, x.1.2.2.2.2.2.1)]))
         (.ite (x.1.1 == 14)
          (.ret ([V_tmpl_three (11, 4, 1, 0), (9, 5, 0, 0, 0, 0, 0, false, ()), V_tmpl_three (12, 6, 5, 1), V_tmpl_three (15, 5, 0, 1), V_tmpl_three (10, 2, 6, 5), V_tmpl_three (12, 6, 4, 2), V_tmpl_shift (7, 3, 6, 31)]))
          (.ite (x.1.1 == 15)
           (.ret ([V_tmpl_three (13, 4, 0, 1), (3, 5, 0, 0, 0, 0, 0, false, ()), V_tmpl_three (15, 6, 5, 4), V_tmpl_three (12, 2, 4, 6), V_tmpl_shift (6, 4, 2, 31), (3, 5, 0, 0, 0, 1, 0, false, ()), V_tmpl_three (15, 3, 4, 5)]))
           (.ite (x.1.1 == 16)
            (.ret ([V_tmpl_three (10, 4, 0, 1), V_tmpl_three (14, 5, 0, 1), V_tmpl_three (12, 6, 0, 1), V_tmpl_three (11, 2, 6, 5), V_tmpl_three (12, 6, 4, 2), V_tmpl_shift (6, 3, 6, 31)]))
            (.ite (x.1.1 == 17)
             (.ret ([V_tmpl_three (10, 4, 0, 2), V_tmpl_three (11, 5, 1, 2), V_tmpl_three (12, 3, 4, 5)]))
             (.ite (bif x.1.1 == 18 then x.1.1 == 18 else x.1.1 == 19)
              (.ret (V_tmpl_array (x.1, x.2.1, x.2.2)))
              (.ret ([V_tmpl_three (V_tmpl_pairs x.1.1, 3, 0, 1)]))))))))))))))
def G_tmpl_inner (_ : dens A_tmpl_inner) : Bool := true
def V_tmpl_inner (x : dens A_tmpl_inner) : Sh.den S_tmpl_inner := (T_tmpl_inner x).getO default
theorem ok_tmpl_inner (x : dens A_tmpl_inner) (_ : G_tmpl_inner x = true) : (T_tmpl_inner x).val = some (V_tmpl_inner x) := PO.sure_ok default (by simp [T_tmpl_inner, PO.sure])
/-- hauberkref27.op -/
abbrev A_hauberkref27_op : List Ty := [.str]
abbrev S_hauberkref27_op : Sh := Sh.ty (Ty.int IntKind.i64)
def T_hauberkref27_op (x : dens A_hauberkref27_op) : PO (Sh.den S_hauberkref27_op) :=
  (.ite ([108, 115, 108] == x)
   (.ret (5))
   (.ite ([108, 115, 114] == x)
    (.ret (6))
    (.ite ([97, 115, 114] == x)
     (.ret (7))
     (.ite ([114, 111, 114] == x)
      (.ret (8))
      (.ite ([109, 118, 110] == x)
       (.ret (9))
       (.ite ([97, 110, 100] == x)
        (.ret (10))
        (.ite ([98, 105, 99] == x)
         (.ret (11))
         (.ite ([111, 114, 114] == x)
          (.ret (12))
          (.ite ([101, 111, 114] == x)
           (.ret (13))
           (.ite ([97, 100, 100] == x)
            (.ret (14))
            (.ite ([115, 117, 98] == x)
             (.ret (15))
             (.ite ([109, 117, 108] == x)
              (.ret (16))
              (.ite ([109, 111, 118, 119] == x)
               (.ret (3))
               (.ret (0)))))))))))))))
def G_hauberkref27_op (_ : dens A_hauberkref27_op) : Bool := true
def V_hauberkref27_op (x : dens A_hauberkref27_op) : Sh.den S_hauberkref27_op := (T_hauberkref27_op x).getO default
theorem ok_hauberkref27_op (x : dens A_hauberkref27_op) (_ : G_hauberkref27_op x = true) : (T_hauberkref27_op x).val = some (V_hauberkref27_op x) := PO.sure_ok default (by simp [T_hauberkref27_op, PO.sure])
def L_hauberkref27_one_7 : LoopN where
  M := [0, 1, 4, 5, 6, 7, 8]
  T := [20, 21, 22, 23, 24, 25, 26, 27, 28, 29, 30, 31, 32, 33, 34, 35, 36, 37, 38, 39, 40, 41, 42, 43, 44, 45, 46, 47, 48, 49, 50, 51, 52, 53, 54, 55]
  D := [8]
  ss := [.ty (.sl .str), .ty (.int .i64), .box 0 0, .box 1 0, .ty (.int .i64), .ty (.int .i64), .ty (.int .i64)]
  hs := [.ty tIns, .ty tIns]
  es := [.exit 2]
  σ := (Ty.den (.int .i64)) × (Ty.den (.int .i64)) × (Sh.den (.ty tIns)) × (Sh.den (.ty tIns))
  x0 := fun x y => (x.2.2.2.2.2.1, x.2.2.2.2.2.2, y.1, y.2)
  put := fun x _ s => ((x.1, x.2.1, x.2.2.1, x.2.2.2.1, x.2.2.2.2.1, s.1, s.2.1), (s.2.2.1, s.2.2.2))
  fuel := fun _ _ => 40
  turn := fun x _ s =>
  (.ite (inRange x.2.2.2.2.1 (List.length x.1))
   (.ite (decide (s.2.1 < lenI (List.getD x.1 (Int.toNat x.2.2.2.2.1) (Ty.dflt Ty.str))))
    (.ite (inRange x.2.2.2.2.1 (List.length x.1) && (inRange s.2.1 (List.length (List.getD x.1 (Int.toNat x.2.2.2.2.1) (Ty.dflt Ty.str))) && bif decide (u8I (List.getD (List.getD x.1 (Int.toNat x.2.2.2.2.1) (Ty.dflt Ty.str)) (Int.toNat s.2.1) 0) ≥ 48) then inRange x.2.2.2.2.1 (List.length x.1) && inRange s.2.1 (List.length (List.getD x.1 (Int.toNat x.2.2.2.2.1) (Ty.dflt Ty.str))) else true))
     (.ite (bif decide (u8I (List.getD (List.getD x.1 (Int.toNat x.2.2.2.2.1) (Ty.dflt Ty.str)) (Int.toNat s.2.1) 0) ≥ 48) && decide (u8I (List.getD (List.getD x.1 (Int.toNat x.2.2.2.2.1) (Ty.dflt Ty.str)) (Int.toNat s.2.1) 0) ≤ 57) then inRange x.2.2.2.2.1 (List.length x.1) && inRange s.2.1 (List.length (List.getD x.1 (Int.toNat x.2.2.2.2.1) (Ty.dflt Ty.str))) else true)
      (.ret (.on (bif decide (u8I (List.getD (List.getD x.1 (Int.toNat x.2.2.2.2.1) (Ty.dflt Ty.str)) (Int.toNat s.2.1) 0) ≥ 48) && decide (u8I (List.getD (List.getD x.1 (Int.toNat x.2.2.2.2.1) (Ty.dflt Ty.str)) (Int.toNat s.2.1) 0) ≤ 57) then w64 (w64 (10 * s.1) + w64 (IntKind.wrap IntKind.u8 (u8I (List.getD (List.getD x.1 (Int.toNat x.2.2.2.2.1) (Ty.dflt Ty.str)) (Int.toNat s.2.1) 0) - 48))) else s.1, w64 (s.2.1 + 1), s.2.2.1, s.2.2.2)))
      .fail)
     .fail)
    (.ret (.out 0 (s.1, s.2.1, s.2.2.1, s.2.2.2))))
   .fail)
def L_hauberkref27_one_3 : LoopN where
  M := [0, 1, 4, 5, 6]
  T := [7, 8, 14, 15, 16, 17, 18, 19, 20, 21, 22, 23, 24, 25, 26, 27, 28, 29, 30, 31, 32, 33, 34, 35, 36, 37, 38, 39, 40, 41, 42, 43, 44, 45, 46, 47, 48, 49, 50, 51, 52, 53, 54, 55, 56, 57, 58, 59, 60, 61, 62, 63, 64, 65, 66, 67, 68, 69, 70, 71, 72, 73, 74, 75, 76, 77, 78, 79]
  D := [0, 1, 6]
  ss := [.ty (.sl .str), .ty (.int .i64), .box 0 0, .box 1 0, .ty (.int .i64)]
  hs := [.ty tIns, .ty tIns]
  es := [.exit 0]
  σ := (Ty.den (.int .i64)) × (Sh.den (.ty tIns)) × (Sh.den (.ty tIns))
  x0 := fun x y => (x.2.2.2.2, y.1, y.2)
  put := fun x _ s => ((x.1, x.2.1, x.2.2.1, x.2.2.2.1, s.1), (s.2.1, s.2.2))
  fuel := fun _ _ => 10
  turn := fun x _ s =>
  (.ite (decide (s.1 < lenI x.1))
   (.opt (LoopN.res L_hauberkref27_one_7 (x.1, x.2.1, (), (), s.1, 0, 0) (s.2.1, s.2.2)) fun p0 =>
    (.ite (inRange s.1 (List.length x.1))
     (.ite (List.getD x.1 (Int.toNat s.1) (Ty.dflt Ty.str) == [115])
      (.ite (x.2.1 == 0)
       (.ite (s.1 == 1)
        (.ret (.on (w64 (s.1 + 1), p0.2.2.2.1, (5, x.2.1, p0.2.2.2.2.2.2))))
        (.ite (s.1 == 2)
         (.ret (.on (w64 (s.1 + 1), p0.2.2.2.1, (5, p0.2.2.2.2.2.1, x.2.1, p0.2.2.2.2.2.2.2))))
         (.ite (s.1 == 3)
          (.ret (.on (w64 (s.1 + 1), p0.2.2.2.1, (5, p0.2.2.2.2.2.1, p0.2.2.2.2.2.2.1, x.2.1, p0.2.2.2.2.2.2.2.2))))
          (.ret (.on (w64 (s.1 + 1), p0.2.2.2.1, (5, p0.2.2.2.2.2.1, p0.2.2.2.2.2.2.1, p0.2.2.2.2.2.2.2.1, p0.2.2.2.2.2.2.2.2.1, x.2.1, p0.2.2.2.2.2.2.2.2.2.2)))))))
       (.ite (s.1 == 1)
        (.ret (.on (w64 (s.1 + 1), p0.2.2.2.1, (p0.2.2.2.2.1, x.2.1, p0.2.2.2.2.2.2))))
        (.ite (s.1 == 2)
         (.ret (.on (w64 (s.1 + 1), p0.2.2.2.1, (p0.2.2.2.2.1, p0.2.2.2.2.2.1, x.2.1, p0.2.2.2.2.2.2.2))))
         (.ite (s.1 == 3)
          (.ret (.on (w64 (s.1 + 1), p0.2.2.2.1, (p0.2.2.2.2.1, p0.2.2.2.2.2.1, p0.2.2.2.2.2.2.1, x.2.1, p0.2.2.2.2.2.2.2.2))))
          (.ret (.on (w64 (s.1 + 1), p0.2.2.2.1, (p0.2.2.2.2.1, p0.2.2.2.2.2.1, p0.2.2.2.2.2.2.1, p0.2.2.2.2.2.2.2.1, p0.2.2.2.2.2.2.2.2.1, x.2.1, p0.2.2.2.2.2.2.2.2.2.2))))))))
      (.ite (s.1 == 1)
       (.ret (.on (w64 (s.1 + 1), p0.2.2.2.1, (p0.2.2.2.2.1, p0.2.1, p0.2.2.2.2.2.2))))
       (.ite (s.1 == 2)
        (.ret (.on (w64 (s.1 + 1), p0.2.2.2.1, (p0.2.2.2.2.1, p0.2.2.2.2.2.1, p0.2.1, p0.2.2.2.2.2.2.2))))
        (.ite (s.1 == 3)
         (.ret (.on (w64 (s.1 + 1), p0.2.2.2.1, (p0.2.2.2.2.1, p0.2.2.2.2.2.1, p0.2.2.2.2.2.2.1, p0.2.1, p0.2.2.2.2.2.2.2.2))))
         (.ret (.on (w64 (s.1 + 1), p0.2.2.2.1, (p0.2.2.2.2.1, p0.2.2.2.2.2.1, p0.2.2.2.2.2.2.1, p0.2.2.2.2.2.2.2.1, p0.2.2.2.2.2.2.2.2.1, p0.2.1, p0.2.2.2.2.2.2.2.2.2.2))))))))
     .fail))
   (.ret (.out 0 (s.1, s.2.1, s.2.2))))
/-- hauberkref27.one -/
abbrev A_hauberkref27_one : List Ty := [(.sl .str), (.int .i64)]
abbrev S_hauberkref27_one : Sh := Sh.ty tIns
def T_hauberkref27_one (x : dens A_hauberkref27_one) : PO (Sh.den S_hauberkref27_one) :=
  (.ite (inRange 0 (List.length x.1))
   (.opt (LoopN.res L_hauberkref27_one_3 (x.1, x.2, (), (), 1) ((0, 0, 0, 0, 0, 0, 0, false, ()), V_hauberkref27_op (List.getD x.1 (Int.toNat 0) (Ty.dflt Ty.str)), 0, 0, 0, 0, 0, 0, false, ())) fun p0 =>
    (.ret (p0.2.2.2)))
   .fail)
def G_hauberkref27_one (x : dens A_hauberkref27_one) : Bool := (T_hauberkref27_one x).val.isSome
def V_hauberkref27_one (x : dens A_hauberkref27_one) : Sh.den S_hauberkref27_one := (T_hauberkref27_one x).getO default
theorem ok_hauberkref27_one (x : dens A_hauberkref27_one) (h : G_hauberkref27_one x = true) : (T_hauberkref27_one x).val = some (V_hauberkref27_one x) := PO.getO_ok default h
def L_hauberkref27_read_5 : LoopN where
  M := [0, 1, 5, 6, 7, 8]
  T := [9, 10, 11, 12, 13, 14, 15, 16, 17, 18, 19, 20, 21, 22, 23, 24, 25, 26, 27, 28, 29, 30, 31, 32, 33, 34, 35, 36, 37, 38, 39, 40, 41, 42, 43, 44, 45]
  D := [0, 1, 6, 7, 8]
  ss := [.ty .str, .ty (.int .i64), .osl 0 tIns, .osl 1 .str, .ty .str, .ty (.int .i64)]
  hs := []
  es := [.exit 0]
  σ := (List (Ty.den tIns)) × (List (Ty.den .str)) × (Ty.den .str) × (Ty.den (.int .i64))
  x0 := fun x _ => (x.2.2.1, x.2.2.2.1, x.2.2.2.2.1, x.2.2.2.2.2)
  put := fun x _ s => ((x.1, x.2.1, s.1, s.2.1, s.2.2.1, s.2.2.2), ())
  fuel := fun _ _ => 200
  turn := fun x _ s =>
  (.ite (decide (s.2.2.2 < lenI x.1))
   (.ite (inRange s.2.2.2 (List.length x.1) && bif u8I (List.getD x.1 (Int.toNat s.2.2.2) 0) != 32 then inRange s.2.2.2 (List.length x.1) else true)
    (.ite (u8I (List.getD x.1 (Int.toNat s.2.2.2) 0) != 32 && u8I (List.getD x.1 (Int.toNat s.2.2.2) 0) != 59)
     (.ite (decide (0 ≤ w64 (s.2.2.2 + 1)) && decide (w64 (s.2.2.2 + 1) ≤ lenI x.1) && decide (0 ≤ s.2.2.2) && decide (s.2.2.2 ≤ w64 (s.2.2.2 + 1)) && Nat.ble (List.length s.2.2.1 + List.length (List.drop (Int.toNat s.2.2.2) (List.take (Int.toNat (w64 (s.2.2.2 + 1))) x.1))) 9223372036854775807)
      (.ret (.on (s.1, s.2.1, s.2.2.1 ++ List.drop (Int.toNat s.2.2.2) (List.take (Int.toNat (w64 (s.2.2.2 + 1))) x.1), w64 (s.2.2.2 + 1))))
      .fail)
     (.ite (Nat.ble ((List.length s.2.1 + List.length [s.2.2.1]) * 16) 140737488355328)
      (.ite (inRange s.2.2.2 (List.length x.1))
       (.ite (u8I (List.getD x.1 (Int.toNat s.2.2.2) 0) == 59)
        (.ite (G_hauberkref27_one (s.2.1 ++ [s.2.2.1], x.2.1))
         (.ite (Nat.ble ((List.length s.1 + List.length [V_hauberkref27_one (s.2.1 ++ [s.2.2.1], x.2.1)]) * 64) 140737488355328)
          (.ret (.on (s.1 ++ [V_hauberkref27_one (s.2.1 ++ [s.2.2.1], x.2.1)], [], [], w64 (s.2.2.2 + 1))))
          .fail)
         .fail)
        (.ret (.on (s.1, s.2.1 ++ [s.2.2.1], [], w64 (s.2.2.2 + 1)))))
       .fail)
      .fail))
    .fail)
   (.ret (.out 0 (s.1, s.2.1, s.2.2.1, s.2.2.2))))
/-- hauberkref27.read -/
abbrev A_hauberkref27_read : List Ty := [.str, (.int .i64)]
abbrev S_hauberkref27_read : Sh := Sh.osl 32 tIns
def T_hauberkref27_read (x : dens A_hauberkref27_read) : PO (Sh.den S_hauberkref27_read) :=
  (.opt (LoopN.res L_hauberkref27_read_5 (x.1, x.2, [], [], [], 0) ()) fun p0 =>
   (.ret (p0.2.1)))
def G_hauberkref27_read (x : dens A_hauberkref27_read) : Bool := (T_hauberkref27_read x).val.isSome
def V_hauberkref27_read (x : dens A_hauberkref27_read) : Sh.den S_hauberkref27_read := (T_hauberkref27_read x).getO default
theorem ok_hauberkref27_read (x : dens A_hauberkref27_read) (h : G_hauberkref27_read x = true) : (T_hauberkref27_read x).val = some (V_hauberkref27_read x) := PO.getO_ok default h
def L_tmpl_may_2 : LoopN where
  M := [2, 3, 4, 6, 10, 11, 12]
  T := [8, 13, 14, 15, 16, 17, 18, 19]
  D := [10, 11, 12]
  ss := [.ty (.int .i64), .box 0 0, .box 1 0, .ty .bool, .ty (.sl (.int .i64)), .ty (.int .i64), .ty (.int .i64)]
  hs := [.ty tOp, .ty tSpot]
  es := [.exit 0, .ret]
  σ := (Ty.den .bool) × (Ty.den (.int .i64)) × (Sh.den (.ty tOp)) × (Sh.den (.ty tSpot))
  x0 := fun x y => (x.2.2.2.1, x.2.2.2.2.2.2, y.1, y.2)
  put := fun x _ s => ((x.1, x.2.1, x.2.2.1, s.1, x.2.2.2.2.1, x.2.2.2.2.2.1, s.2.1), (s.2.2.1, s.2.2.2))
  fuel := fun _ _ => 5
  turn := fun x _ s =>
  (.ite (decide (s.2.1 < x.2.2.2.2.2.1))
   (.ite (inRange s.2.1 (List.length x.2.2.2.2.1))
    (.ite (!V_tmpl_temp (List.getD x.2.2.2.2.1 (Int.toNat s.2.1) (Ty.dflt (Ty.int IntKind.i64))))
     (.ret (.out 1 (false, s.2.1, s.2.2.1, s.2.2.2)))
     (.ret (.on (s.1, w64 (s.2.1 + 1), s.2.2.1, s.2.2.2))))
    .fail)
   (.ret (.out 0 (s.1, s.2.1, s.2.2.1, s.2.2.2))))
/-- tmpl.may -/
abbrev A_tmpl_may : List Ty := [tOp, tSpot, (.int .i64)]
abbrev S_tmpl_may : Sh := Sh.ty Ty.bool
def T_tmpl_may (x : dens A_tmpl_may) : PO (Sh.den S_tmpl_may) :=
  (.opt (LoopN.res L_tmpl_may_2 (x.2.2, (), (), false, V_ir_Uses x.1, lenI (V_ir_Uses x.1), 0) (x.1, x.2.1)) fun p0 =>
   (.ite (way p0.1)
    (.ite (V_ir_Makes p0.2.2.2.1 || true)
     (.ite (bif V_ir_Makes p0.2.2.2.1 then !V_tmpl_temp p0.2.2.2.1.2.1 || x.2.2 != 0 && x.2.2 != 1 else x.2.2 != 0 && x.2.2 != 1)
      (.ret (false))
      (.ite (p0.2.2.2.1.1 == 1)
       (.ret (decide (p0.2.2.2.1.2.2.2.2.2.1 ≥ 0) && decide (p0.2.2.2.1.2.2.2.2.2.1 ≤ 4294967295)))
       (.ite (bif p0.2.2.2.1.1 == 11 then p0.2.2.2.1.1 == 11 else bif p0.2.2.2.1.1 == 12 then p0.2.2.2.1.1 == 12 else p0.2.2.2.1.1 == 13)
        (.ret (decide (p0.2.2.2.1.2.2.2.2.2.1 ≥ 0) && decide (p0.2.2.2.1.2.2.2.2.2.1 < 32)))
        (.ite (bif p0.2.2.2.1.1 == 18 then p0.2.2.2.1.1 == 18 else p0.2.2.2.1.1 == 19)
         (.ret (V_tmpl_spot (p0.2.2.2.1, p0.2.2.2.2)))
         (.ret (V_ir_Makes p0.2.2.2.1))))))
     .fail)
    (.ret (p0.2.1))))
def G_tmpl_may (x : dens A_tmpl_may) : Bool := (T_tmpl_may x).val.isSome
def V_tmpl_may (x : dens A_tmpl_may) : Sh.den S_tmpl_may := (T_tmpl_may x).getO default
theorem ok_tmpl_may (x : dens A_tmpl_may) (h : G_tmpl_may x = true) : (T_tmpl_may x).val = some (V_tmpl_may x) := PO.getO_ok default h
/-- hauberkref27.lines -/
abbrev A_hauberkref27_lines : List Ty := [(.int .i64)]
abbrev S_hauberkref27_lines : Sh := Sh.ty Ty.str
def T_hauberkref27_lines (x : dens A_hauberkref27_lines) : PO (Sh.den S_hauberkref27_lines) :=
  (.ite (x == 2)
   (.ret ([108, 115, 108, 32, 51, 32, 46, 32, 48, 32, 35, 48, 59]))
   (.ite (x == 3)
    (.ret ([97, 100, 100, 32, 51, 32, 48, 32, 49, 59]))
    (.ite (x == 4)
     (.ret ([115, 117, 98, 32, 51, 32, 48, 32, 49, 59]))
     (.ite (x == 5)
      (.ret ([109, 117, 108, 32, 51, 32, 48, 32, 49, 59]))
      (.ite (x == 7)
       (.ret ([97, 110, 100, 32, 51, 32, 48, 32, 49, 59]))
       (.ite (x == 8)
        (.ret ([111, 114, 114, 32, 51, 32, 48, 32, 49, 59]))
        (.ite (x == 9)
         (.ret ([101, 111, 114, 32, 51, 32, 48, 32, 49, 59]))
         (.ite (x == 10)
          (.ret ([109, 118, 110, 32, 51, 32, 46, 32, 48, 59]))
          (.ite (x == 11)
           (.ret ([108, 115, 108, 32, 51, 32, 46, 32, 48, 32, 115, 59]))
           (.ite (x == 12)
            (.ret ([108, 115, 114, 32, 51, 32, 46, 32, 48, 32, 115, 59]))
            (.ite (x == 13)
             (.ret ([114, 111, 114, 32, 51, 32, 46, 32, 48, 32, 115, 59]))
             (.ite (x == 14)
              (.ret ([98, 105, 99, 32, 52, 32, 49, 32, 48, 59, 109, 118, 110, 32, 53, 32, 46, 32, 48, 59, 111, 114, 114, 32, 54, 32, 53, 32, 49, 59, 115, 117, 98, 32, 53, 32, 48, 32, 49, 59, 97, 110, 100, 32, 50, 32, 54, 32, 53, 59, 111, 114, 114, 32, 54, 32, 52, 32, 50, 59, 97, 115, 114, 32, 51, 32, 46, 32, 54, 32, 35, 51, 49, 59]))
              (.ite (x == 15)
               (.ret ([101, 111, 114, 32, 52, 32, 48, 32, 49, 59, 109, 111, 118, 119, 32, 53, 32, 46, 32, 46, 32, 35, 48, 59, 115, 117, 98, 32, 54, 32, 53, 32, 52, 59, 111, 114, 114, 32, 50, 32, 52, 32, 54, 59, 108, 115, 114, 32, 52, 32, 46, 32, 50, 32, 35, 51, 49, 59, 109, 111, 118, 119, 32, 53, 32, 46, 32, 46, 32, 35, 49, 59, 115, 117, 98, 32, 51, 32, 52, 32, 53, 59]))
               (.ite (x == 16)
                (.ret ([97, 110, 100, 32, 52, 32, 48, 32, 49, 59, 97, 100, 100, 32, 53, 32, 48, 32, 49, 59, 111, 114, 114, 32, 54, 32, 48, 32, 49, 59, 98, 105, 99, 32, 50, 32, 54, 32, 53, 59, 111, 114, 114, 32, 54, 32, 52, 32, 50, 59, 108, 115, 114, 32, 51, 32, 46, 32, 54, 32, 35, 51, 49, 59]))
                (.ite (x == 17)
                 (.ret ([97, 110, 100, 32, 52, 32, 48, 32, 50, 59, 98, 105, 99, 32, 53, 32, 49, 32, 50, 59, 111, 114, 114, 32, 51, 32, 52, 32, 53, 59]))
                 (.ret ([])))))))))))))))))
def G_hauberkref27_lines (_ : dens A_hauberkref27_lines) : Bool := true
def V_hauberkref27_lines (x : dens A_hauberkref27_lines) : Sh.den S_hauberkref27_lines := (T_hauberkref27_lines x).getO default
theorem ok_hauberkref27_lines (x : dens A_hauberkref27_lines) (_ : G_hauberkref27_lines x = true) : (T_hauberkref27_lines x).val = some (V_hauberkref27_lines x) := PO.sure_ok default (by simp [T_hauberkref27_lines, PO.sure])
/-- hauberkref27.Word -/
abbrev A_hauberkref27_Word : List Ty := [(.int .i64), (.int .i64)]
abbrev S_hauberkref27_Word : Sh := Sh.osl 32 tIns
def T_hauberkref27_Word (x : dens A_hauberkref27_Word) : PO (Sh.den S_hauberkref27_Word) :=
  (.ite (decide (x.1 < 0) || decide (x.1 > 7))
   (.ret ([]))
   (.ret ([(3, x.1, 0, 0, 0, w64 (Int.tmod (IntKind.wrap IntKind.u64 x.2) 65536), 0, false, ()), (4, x.1, 0, 0, 0, w64 (Int.tmod (IntKind.wrap IntKind.u64 (Int.tdiv (IntKind.wrap IntKind.u64 x.2) 65536)) 65536), 0, false, ())])))
def G_hauberkref27_Word (_ : dens A_hauberkref27_Word) : Bool := true
def V_hauberkref27_Word (x : dens A_hauberkref27_Word) : Sh.den S_hauberkref27_Word := (T_hauberkref27_Word x).getO default
theorem ok_hauberkref27_Word (x : dens A_hauberkref27_Word) (_ : G_hauberkref27_Word x = true) : (T_hauberkref27_Word x).val = some (V_hauberkref27_Word x) := PO.sure_ok default (by simp [T_hauberkref27_Word, PO.sure])
/-- hauberkref27.moved -/
abbrev A_hauberkref27_moved : List Ty := [(.int .i64), (.int .i64), (.int .i64), (.int .i64)]
abbrev S_hauberkref27_moved : Sh := Sh.osl 32 tIns
def T_hauberkref27_moved (x : dens A_hauberkref27_moved) : PO (Sh.den S_hauberkref27_moved) :=
  (.ite (decide (x.2.1 < 0) || (decide (x.2.1 > 65535) || (decide (x.2.2.1 < 0) || (decide (x.2.2.1 > 1) || (decide (x.2.2.2 < 0) || decide (x.2.2.2 > 7))))))
   (.ret ([]))
   (.ret ([(3, 7, 0, 0, 0, x.2.1, 0, false, ()), (4, 7, 0, 0, 0, V_hauberkref27_rail x.2.2.1, 0, false, ()), (x.1, x.2.2.2, 7, 0, 0, 0, 0, false, ())])))
def G_hauberkref27_moved (_ : dens A_hauberkref27_moved) : Bool := true
def V_hauberkref27_moved (x : dens A_hauberkref27_moved) : Sh.den S_hauberkref27_moved := (T_hauberkref27_moved x).getO default
theorem ok_hauberkref27_moved (x : dens A_hauberkref27_moved) (_ : G_hauberkref27_moved x = true) : (T_hauberkref27_moved x).val = some (V_hauberkref27_moved x) := PO.sure_ok default (by simp [T_hauberkref27_moved, PO.sure])
/-- hauberkref27.Put -/
abbrev A_hauberkref27_Put : List Ty := [(.int .i64), (.int .i64), (.int .i64)]
abbrev S_hauberkref27_Put : Sh := Sh.osl 32 tIns
def T_hauberkref27_Put (x : dens A_hauberkref27_Put) : PO (Sh.den S_hauberkref27_Put) :=
  (.ret (V_hauberkref27_moved (20, x.1, x.2.1, x.2.2)))
def G_hauberkref27_Put (_ : dens A_hauberkref27_Put) : Bool := true
def V_hauberkref27_Put (x : dens A_hauberkref27_Put) : Sh.den S_hauberkref27_Put := (T_hauberkref27_Put x).getO default
theorem ok_hauberkref27_Put (x : dens A_hauberkref27_Put) (_ : G_hauberkref27_Put x = true) : (T_hauberkref27_Put x).val = some (V_hauberkref27_Put x) := PO.sure_ok default (by simp [T_hauberkref27_Put, PO.sure])
/-- hauberkref27.element -/
abbrev A_hauberkref27_element : List Ty := [tOp, tSpot, (.int .i64)]
abbrev S_hauberkref27_element : Sh := Sh.osl 32 tIns
def T_hauberkref27_element (x : dens A_hauberkref27_element) : PO (Sh.den S_hauberkref27_element) :=
  (.ite (x.1.1 == 18 && x.2.1.1 == 4)
   (.ret ([(5, 4, 0, 0, 0, bif x.2.1.1 == 4 then 2 else 0, 0, false, ()), (3, 5, 0, 0, 0, x.2.1.2.1, 0, false, ()), (14, 6, 4, 5, 0, 0, 0, false, ()), (3, 5, 0, 0, 0, 0, 0, false, ()), (4, 5, 0, 0, 0, bif x.2.1.2.2.1 then 8193 else V_hauberkref27_rail x.2.2, 0, false, ()), (18, 5, 6, 0, 16, 0, 0, false, ()), (19, 3, 5, 0, 0, 0, 0, false, ())]))
   (.ite (x.1.1 == 18)
    (.ret ([(5, 4, 0, 0, 0, bif x.2.1.1 == 4 then 2 else 0, 0, false, ()), (3, 5, 0, 0, 0, x.2.1.2.1, 0, false, ()), (14, 6, 4, 5, 0, 0, 0, false, ()), (3, 5, 0, 0, 0, 0, 0, false, ()), (4, 5, 0, 0, 0, bif x.2.1.2.2.1 then 8193 else V_hauberkref27_rail x.2.2, 0, false, ()), (18, 5, 6, 0, 16, 0, 0, false, ()), (21, 3, 5, 0, 0, 0, 0, false, ())]))
    (.ite (x.2.1.1 == 4)
     (.ret ([(5, 4, 0, 0, 0, bif x.2.1.1 == 4 then 2 else 0, 0, false, ()), (3, 5, 0, 0, 0, x.2.1.2.1, 0, false, ()), (14, 6, 4, 5, 0, 0, 0, false, ()), (3, 5, 0, 0, 0, 0, 0, false, ()), (4, 5, 0, 0, 0, bif x.2.1.2.2.1 then 8193 else V_hauberkref27_rail x.2.2, 0, false, ()), (18, 5, 6, 0, 16, 0, 0, false, ()), (20, 1, 5, 0, 0, 0, 0, false, ())]))
     (.ret ([(5, 4, 0, 0, 0, bif x.2.1.1 == 4 then 2 else 0, 0, false, ()), (3, 5, 0, 0, 0, x.2.1.2.1, 0, false, ()), (14, 6, 4, 5, 0, 0, 0, false, ()), (3, 5, 0, 0, 0, 0, 0, false, ()), (4, 5, 0, 0, 0, bif x.2.1.2.2.1 then 8193 else V_hauberkref27_rail x.2.2, 0, false, ()), (18, 5, 6, 0, 16, 0, 0, false, ()), (22, 1, 5, 0, 0, 0, 0, false, ())])))))
def G_hauberkref27_element (_ : dens A_hauberkref27_element) : Bool := true
def V_hauberkref27_element (x : dens A_hauberkref27_element) : Sh.den S_hauberkref27_element := (T_hauberkref27_element x).getO default
theorem ok_hauberkref27_element (x : dens A_hauberkref27_element) (_ : G_hauberkref27_element x = true) : (T_hauberkref27_element x).val = some (V_hauberkref27_element x) := PO.sure_ok default (by simp [T_hauberkref27_element, PO.sure])
def L_hauberkref27_May_7 : LoopN where
  M := [3, 4, 6, 7, 8]
  T := [34, 35, 36, 37, 38, 39, 40, 41, 42, 43, 44, 45, 46, 47, 48, 49, 50, 51]
  D := [7, 8]
  ss := [.box 0 0, .box 1 0, .ty .bool, .ty (.sl (.int .i64)), .ty (.int .i64)]
  hs := [.ty tOp, .ty tSpot]
  es := [.exit 0, .ret]
  σ := (Ty.den .bool) × (Ty.den (.int .i64)) × (Sh.den (.ty tOp)) × (Sh.den (.ty tSpot))
  x0 := fun x y => (x.2.2.1, x.2.2.2.2, y.1, y.2)
  put := fun x _ s => ((x.1, x.2.1, s.1, x.2.2.2.1, s.2.1), (s.2.2.1, s.2.2.2))
  fuel := fun _ _ => 6
  turn := fun x _ s =>
  (.ite (decide (s.2.1 < lenI x.2.2.2.1))
   (.ite (inRange s.2.1 (List.length x.2.2.2.1) && (decide (List.getD x.2.2.2.1 (Int.toNat s.2.1) (Ty.dflt (Ty.int IntKind.i64)) < 0) || inRange s.2.1 (List.length x.2.2.2.1)))
    (.ite (decide (List.getD x.2.2.2.1 (Int.toNat s.2.1) (Ty.dflt (Ty.int IntKind.i64)) < 0) || decide (List.getD x.2.2.2.1 (Int.toNat s.2.1) (Ty.dflt (Ty.int IntKind.i64)) > 16382))
     (.ret (.out 1 (false, s.2.1, s.2.2.1, s.2.2.2)))
     (.ret (.on (s.1, w64 (s.2.1 + 1), s.2.2.1, s.2.2.2))))
    .fail)
   (.ret (.out 0 (s.1, s.2.1, s.2.2.1, s.2.2.2))))
/-- hauberkref27.May -/
abbrev A_hauberkref27_May : List Ty := [tOp, tSpot, (.int .i64)]
abbrev S_hauberkref27_May : Sh := Sh.ty Ty.bool
def T_hauberkref27_May (x : dens A_hauberkref27_May) : PO (Sh.den S_hauberkref27_May) :=
  (.ite (decide (x.1.1 < 1) || (decide (x.1.1 > 19) || (decide (x.2.2 < 0) || decide (x.2.2 > 1))))
   (.ret (false))
   (.ite (G_hauberkref17_Uses x.1)
    (.ite (G_hauberkref17_Makes x.1)
     (.ite (V_hauberkref17_Makes x.1)
      (.ite (Nat.ble ((List.length (V_hauberkref17_Uses x.1) + List.length [x.1.2.1]) * 8) 140737488355328)
       (.opt (LoopN.res L_hauberkref27_May_7 ((), (), false, V_hauberkref17_Uses x.1 ++ [x.1.2.1], 0) (x.1, x.2.1)) fun p0 =>
        (.ite (way p0.1)
         (.ite (p0.2.2.2.1.1 == 1)
          (.ret (decide (p0.2.2.2.1.2.2.2.2.2.1 ≥ 0) && decide (p0.2.2.2.1.2.2.2.2.2.1 < 4294967296)))
          (.ite (decide (p0.2.2.2.1.1 ≥ 11) && decide (p0.2.2.2.1.1 ≤ 13))
           (.ret (decide (p0.2.2.2.1.2.2.2.2.2.1 ≥ 0) && decide (p0.2.2.2.1.2.2.2.2.2.1 < 32)))
           (.ite (p0.2.2.2.1.1 == 18 || p0.2.2.2.1.1 == 19)
            (.ret (bif p0.2.2.2.2.1 == 1 then decide (p0.2.2.2.2.2.1 ≥ 0) && (decide (p0.2.2.2.2.2.1 < 65536) && (!p0.2.2.2.2.2.2.1 || p0.2.2.2.1.1 == 18)) else p0.2.2.2.2.1 == 4 && (decide (p0.2.2.2.2.2.1 ≥ 0) && (decide (p0.2.2.2.2.2.1 < 65536) && (!p0.2.2.2.2.2.2.1 || p0.2.2.2.1.1 == 18)))))
            (.ret (true)))))
         (.ret (p0.2.1))))
       .fail)
      (.opt (LoopN.res L_hauberkref27_May_7 ((), (), false, V_hauberkref17_Uses x.1, 0) (x.1, x.2.1)) fun p0 =>
       (.ite (way p0.1)
        (.ite (p0.2.2.2.1.1 == 1)
         (.ret (decide (p0.2.2.2.1.2.2.2.2.2.1 ≥ 0) && decide (p0.2.2.2.1.2.2.2.2.2.1 < 4294967296)))
         (.ite (decide (p0.2.2.2.1.1 ≥ 11) && decide (p0.2.2.2.1.1 ≤ 13))
          (.ret (decide (p0.2.2.2.1.2.2.2.2.2.1 ≥ 0) && decide (p0.2.2.2.1.2.2.2.2.2.1 < 32)))
          (.ite (p0.2.2.2.1.1 == 18 || p0.2.2.2.1.1 == 19)
           (.ret (bif p0.2.2.2.2.1 == 1 then decide (p0.2.2.2.2.2.1 ≥ 0) && (decide (p0.2.2.2.2.2.1 < 65536) && (!p0.2.2.2.2.2.2.1 || p0.2.2.2.1.1 == 18)) else p0.2.2.2.2.1 == 4 && (decide (p0.2.2.2.2.2.1 ≥ 0) && (decide (p0.2.2.2.2.2.1 < 65536) && (!p0.2.2.2.2.2.2.1 || p0.2.2.2.1.1 == 18)))))
           (.ret (true)))))
        (.ret (p0.2.1)))))
     .fail)
    .fail))
def G_hauberkref27_May (x : dens A_hauberkref27_May) : Bool := (T_hauberkref27_May x).val.isSome
def V_hauberkref27_May (x : dens A_hauberkref27_May) : Sh.den S_hauberkref27_May := (T_hauberkref27_May x).getO default
theorem ok_hauberkref27_May (x : dens A_hauberkref27_May) (h : G_hauberkref27_May x = true) : (T_hauberkref27_May x).val = some (V_hauberkref27_May x) := PO.getO_ok default h
def L_tmpl_Op_5 : LoopN where
  M := [2, 3, 4, 8, 17, 18, 19]
  T := [9, 10, 20, 21, 22, 23, 24, 25, 26, 27, 28, 29, 30, 31]
  D := [17, 18, 19]
  ss := [.ty (.int .i64), .box 0 0, .box 1 0, .osl 0 tIns, .ty (.sl (.int .i64)), .ty (.int .i64), .ty (.int .i64)]
  hs := [.ty tOp, .ty tSpot]
  es := [.exit 0]
  σ := (List (Ty.den tIns)) × (Ty.den (.int .i64)) × (Sh.den (.ty tOp)) × (Sh.den (.ty tSpot))
  x0 := fun x y => (x.2.2.2.1, x.2.2.2.2.2.2, y.1, y.2)
  put := fun x _ s => ((x.1, x.2.1, x.2.2.1, s.1, x.2.2.2.2.1, x.2.2.2.2.2.1, s.2.1), (s.2.2.1, s.2.2.2))
  fuel := fun _ _ => 5
  turn := fun x _ s =>
  (.ite (decide (s.2.1 < x.2.2.2.2.2.1))
   (.ite (inRange s.2.1 (List.length x.2.2.2.2.1))
    (.ite (G_tmpl_Get (V_frame_Temp (List.getD x.2.2.2.2.1 (Int.toNat s.2.1) (Ty.dflt (Ty.int IntKind.i64))), x.1, s.2.1))
     (.ite (Nat.ble ((List.length s.1 + List.length (V_tmpl_Get (V_frame_Temp (List.getD x.2.2.2.2.1 (Int.toNat s.2.1) (Ty.dflt (Ty.int IntKind.i64))), x.1, s.2.1))) * 64) 140737488355328)
      (.ret (.on (s.1 ++ V_tmpl_Get (V_frame_Temp (List.getD x.2.2.2.2.1 (Int.toNat s.2.1) (Ty.dflt (Ty.int IntKind.i64))), x.1, s.2.1), w64 (s.2.1 + 1), s.2.2.1, s.2.2.2)))
      .fail)
     .fail)
    .fail)
   (.ret (.out 0 (s.1, s.2.1, s.2.2.1, s.2.2.2))))
/-- tmpl.Op -/
abbrev A_tmpl_Op : List Ty := [tOp, tSpot, (.int .i64)]
abbrev S_tmpl_Op : Sh := Sh.tup (Sh.pair (Sh.osl 32 tIns) (Sh.pair (Sh.ty (Ty.int IntKind.i64)) (Sh.ty Ty.unit)))
def T_tmpl_Op (x : dens A_tmpl_Op) : PO (Sh.den S_tmpl_Op) :=
  (.ite (G_tmpl_may (x.1, x.2.1, x.2.2))
   (.ite (!V_tmpl_may (x.1, x.2.1, x.2.2))
    (.ret (([], 2, ())))
    (.opt (LoopN.res L_tmpl_Op_5 (x.2.2, (), (), [], V_ir_Uses x.1, lenI (V_ir_Uses x.1), 0) (x.1, x.2.1)) fun p0 =>
     (.ite (Nat.ble ((List.length ([] : List tIns.den) + List.length p0.2.1) * 64) 140737488355328)
      (.ite (Nat.ble ((List.length ([] ++ p0.2.1) + List.length (V_tmpl_inner (p0.2.2.2.1, p0.2.2.2.2, x.2.2))) * 64) 140737488355328)
       (.ite (V_ir_Makes p0.2.2.2.1)
        (.ite (G_tmpl_Put (V_frame_Temp p0.2.2.2.1.2.1, x.2.2, 3))
         (.ite (Nat.ble ((List.length ([] : List tIns.den) + List.length ([] ++ p0.2.1 ++ V_tmpl_inner (p0.2.2.2.1, p0.2.2.2.2, x.2.2))) * 64) 140737488355328)
          (.ite (Nat.ble ((List.length ([] ++ ([] ++ p0.2.1 ++ V_tmpl_inner (p0.2.2.2.1, p0.2.2.2.2, x.2.2))) + List.length (V_tmpl_Put (V_frame_Temp p0.2.2.2.1.2.1, x.2.2, 3))) * 64) 140737488355328)
           (.ret (([] ++ ([] ++ p0.2.1 ++ V_tmpl_inner (p0.2.2.2.1, p0.2.2.2.2, x.2.2)) ++ V_tmpl_Put (V_frame_Temp p0.2.2.2.1.2.1, x.2.2, 3), 0, ())))
           .fail)
          .fail)
         .fail)
        (.ret (([] ++ p0.2.1 ++ V_tmpl_inner (p0.2.2.2.1, p0.2.2.2.2, x.2.2), 0, ()))))
       .fail)
      .fail)))
   .fail)
def G_tmpl_Op (x : dens A_tmpl_Op) : Bool := (T_tmpl_Op x).val.isSome
def V_tmpl_Op (x : dens A_tmpl_Op) : Sh.den S_tmpl_Op := (T_tmpl_Op x).getO default
theorem ok_tmpl_Op (x : dens A_tmpl_Op) (h : G_tmpl_Op x = true) : (T_tmpl_Op x).val = some (V_tmpl_Op x) := PO.getO_ok default h
def L_hauberkref27_Op_6 : LoopN where
  M := [2, 3, 4, 8, 9, 10]
  T := [18, 19, 20, 21, 22, 23, 24, 25, 26, 27, 28, 29, 30, 31, 32, 33]
  D := [9, 10]
  ss := [.ty (.int .i64), .box 0 0, .box 1 0, .osl 0 tIns, .ty (.sl (.int .i64)), .ty (.int .i64)]
  hs := [.ty tOp, .ty tSpot]
  es := [.exit 0]
  σ := (List (Ty.den tIns)) × (Ty.den (.int .i64)) × (Sh.den (.ty tOp)) × (Sh.den (.ty tSpot))
  x0 := fun x y => (x.2.2.2.1, x.2.2.2.2.2, y.1, y.2)
  put := fun x _ s => ((x.1, x.2.1, x.2.2.1, s.1, x.2.2.2.2.1, s.2.1), (s.2.2.1, s.2.2.2))
  fuel := fun _ _ => 5
  turn := fun x _ s =>
  (.ite (decide (s.2.1 < lenI x.2.2.2.2.1))
   (.ite (inRange s.2.1 (List.length x.2.2.2.2.1))
    (.ite (G_hauberkref27_Get (V_hauberkref26_Temp (List.getD x.2.2.2.2.1 (Int.toNat s.2.1) (Ty.dflt (Ty.int IntKind.i64))), x.1, s.2.1))
     (.ite (Nat.ble ((List.length s.1 + List.length (V_hauberkref27_Get (V_hauberkref26_Temp (List.getD x.2.2.2.2.1 (Int.toNat s.2.1) (Ty.dflt (Ty.int IntKind.i64))), x.1, s.2.1))) * 64) 140737488355328)
      (.ret (.on (s.1 ++ V_hauberkref27_Get (V_hauberkref26_Temp (List.getD x.2.2.2.2.1 (Int.toNat s.2.1) (Ty.dflt (Ty.int IntKind.i64))), x.1, s.2.1), w64 (s.2.1 + 1), s.2.2.1, s.2.2.2)))
      .fail)
     .fail)
    .fail)
   (.ret (.out 0 (s.1, s.2.1, s.2.2.1, s.2.2.2))))
/-- hauberkref27.Op -/
abbrev A_hauberkref27_Op : List Ty := [tOp, tSpot, (.int .i64)]
abbrev S_hauberkref27_Op : Sh := Sh.tup (Sh.pair (Sh.osl 32 tIns) (Sh.pair (Sh.ty (Ty.int IntKind.i64)) (Sh.ty Ty.unit)))
def T_hauberkref27_Op (x : dens A_hauberkref27_Op) : PO (Sh.den S_hauberkref27_Op) :=
  (.ite (G_hauberkref27_May (x.1, x.2.1, x.2.2))
   (.ite (!V_hauberkref27_May (x.1, x.2.1, x.2.2))
    (.ret (([], 2, ())))
    (.ite (G_hauberkref17_Uses x.1)
     (.opt (LoopN.res L_hauberkref27_Op_6 (x.2.2, (), (), [], V_hauberkref17_Uses x.1, 0) (x.1, x.2.1)) fun p0 =>
      (.ite (p0.2.2.2.1.1 == 1)
       (.ite (Nat.ble ((List.length p0.2.1 + List.length (V_hauberkref27_Word (3, p0.2.2.2.1.2.2.2.2.2.1))) * 64) 140737488355328)
        (.ite (G_hauberkref17_Makes p0.2.2.2.1)
         (.ite (V_hauberkref17_Makes p0.2.2.2.1)
          (.ite (Nat.ble ((List.length (p0.2.1 ++ V_hauberkref27_Word (3, p0.2.2.2.1.2.2.2.2.2.1)) + List.length (V_hauberkref27_Put (V_hauberkref26_Temp p0.2.2.2.1.2.1, x.2.2, 3))) * 64) 140737488355328)
           (.ret ((p0.2.1 ++ V_hauberkref27_Word (3, p0.2.2.2.1.2.2.2.2.2.1) ++ V_hauberkref27_Put (V_hauberkref26_Temp p0.2.2.2.1.2.1, x.2.2, 3), 0, ())))
           .fail)
          (.ret ((p0.2.1 ++ V_hauberkref27_Word (3, p0.2.2.2.1.2.2.2.2.2.1), 0, ()))))
         .fail)
        .fail)
       (.ite (p0.2.2.2.1.1 == 6)
        (.ite (Nat.ble ((List.length p0.2.1 + List.length [(17, 4, 0, 1, 3, 0, 0, false, ())]) * 64) 140737488355328)
         (.ite (G_hauberkref17_Makes p0.2.2.2.1)
          (.ite (V_hauberkref17_Makes p0.2.2.2.1)
           (.ite (Nat.ble ((List.length (p0.2.1 ++ [(17, 4, 0, 1, 3, 0, 0, false, ())]) + List.length (V_hauberkref27_Put (V_hauberkref26_Temp p0.2.2.2.1.2.1, x.2.2, 3))) * 64) 140737488355328)
            (.ret ((p0.2.1 ++ [(17, 4, 0, 1, 3, 0, 0, false, ())] ++ V_hauberkref27_Put (V_hauberkref26_Temp p0.2.2.2.1.2.1, x.2.2, 3), 0, ())))
            .fail)
           (.ret ((p0.2.1 ++ [(17, 4, 0, 1, 3, 0, 0, false, ())], 0, ()))))
          .fail)
         .fail)
        (.ite (bif p0.2.2.2.1.1 == 18 then p0.2.2.2.1.1 == 18 else p0.2.2.2.1.1 == 19)
         (.ite (Nat.ble ((List.length p0.2.1 + List.length (V_hauberkref27_element (p0.2.2.2.1, p0.2.2.2.2, x.2.2))) * 64) 140737488355328)
          (.ite (G_hauberkref17_Makes p0.2.2.2.1)
           (.ite (V_hauberkref17_Makes p0.2.2.2.1)
            (.ite (Nat.ble ((List.length (p0.2.1 ++ V_hauberkref27_element (p0.2.2.2.1, p0.2.2.2.2, x.2.2)) + List.length (V_hauberkref27_Put (V_hauberkref26_Temp p0.2.2.2.1.2.1, x.2.2, 3))) * 64) 140737488355328)
             (.ret ((p0.2.1 ++ V_hauberkref27_element (p0.2.2.2.1, p0.2.2.2.2, x.2.2) ++ V_hauberkref27_Put (V_hauberkref26_Temp p0.2.2.2.1.2.1, x.2.2, 3), 0, ())))
             .fail)
            (.ret ((p0.2.1 ++ V_hauberkref27_element (p0.2.2.2.1, p0.2.2.2.2, x.2.2), 0, ()))))
           .fail)
          .fail)
         (.ite (G_hauberkref27_read (V_hauberkref27_lines p0.2.2.2.1.1, p0.2.2.2.1.2.2.2.2.2.1))
          (.ite (Nat.ble ((List.length p0.2.1 + List.length (V_hauberkref27_read (V_hauberkref27_lines p0.2.2.2.1.1, p0.2.2.2.1.2.2.2.2.2.1))) * 64) 140737488355328)
           (.ite (G_hauberkref17_Makes p0.2.2.2.1)
            (.ite (V_hauberkref17_Makes p0.2.2.2.1)
             (.ite (Nat.ble ((List.length (p0.2.1 ++ V_hauberkref27_read (V_hauberkref27_lines p0.2.2.2.1.1, p0.2.2.2.1.2.2.2.2.2.1)) + List.length (V_hauberkref27_Put (V_hauberkref26_Temp p0.2.2.2.1.2.1, x.2.2, 3))) * 64) 140737488355328)
              (.ret ((p0.2.1 ++ V_hauberkref27_read (V_hauberkref27_lines p0.2.2.2.1.1, p0.2.2.2.1.2.2.2.2.2.1) ++ V_hauberkref27_Put (V_hauberkref26_Temp p0.2.2.2.1.2.1, x.2.2, 3), 0, ())))
              .fail)
             (.ret ((p0.2.1 ++ V_hauberkref27_read (V_hauberkref27_lines p0.2.2.2.1.1, p0.2.2.2.1.2.2.2.2.2.1), 0, ()))))
            .fail)
           .fail)
          .fail)))))
     .fail))
   .fail)
def G_hauberkref27_Op (x : dens A_hauberkref27_Op) : Bool := (T_hauberkref27_Op x).val.isSome
def V_hauberkref27_Op (x : dens A_hauberkref27_Op) : Sh.den S_hauberkref27_Op := (T_hauberkref27_Op x).getO default
theorem ok_hauberkref27_Op (x : dens A_hauberkref27_Op) (h : G_hauberkref27_Op x = true) : (T_hauberkref27_Op x).val = some (V_hauberkref27_Op x) := PO.getO_ok default h
def L_rail_items_3 : LoopN where
  M := [3, 6, 7, 8]
  T := [5, 9, 10, 11, 12, 13, 14, 15, 16, 17]
  D := [6, 7, 8]
  ss := [.osl 0 tItem, .ty (.sl tIns), .ty (.int .i64), .ty (.int .i64)]
  hs := []
  es := [.exit 0]
  σ := (List (Ty.den tItem)) × (Ty.den (.int .i64))
  x0 := fun x _ => (x.1, x.2.2.2)
  put := fun x _ s => ((s.1, x.2.1, x.2.2.1, s.2), ())
  fuel := fun x _ => List.length x.2.1 + 1
  turn := fun x _ s =>
  (.ite (decide (s.2 < x.2.2.1))
   (.ite (inRange s.2 (List.length x.2.1))
    (.ite (Nat.ble ((List.length s.1 + List.length [(0, 0, List.getD x.2.1 (Int.toNat s.2) (Ty.dflt tIns), ())]) * 80) 140737488355328)
     (.ret (.on (s.1 ++ [(0, 0, List.getD x.2.1 (Int.toNat s.2) (Ty.dflt tIns), ())], w64 (s.2 + 1))))
     .fail)
    .fail)
   (.ret (.out 0 (s.1, s.2))))
/-- rail.items -/
abbrev A_rail_items : List Ty := [(.sl tIns)]
abbrev S_rail_items : Sh := Sh.osl 32 tItem
def T_rail_items (x : dens A_rail_items) : PO (Sh.den S_rail_items) :=
  (.opt (LoopN.res L_rail_items_3 ([], x, lenI x, 0) ()) fun p0 =>
   (.ret (p0.2.1)))
def G_rail_items (x : dens A_rail_items) : Bool := (T_rail_items x).val.isSome
def V_rail_items (x : dens A_rail_items) : Sh.den S_rail_items := (T_rail_items x).getO default
theorem ok_rail_items (x : dens A_rail_items) (h : G_rail_items x = true) : (T_rail_items x).val = some (V_rail_items x) := PO.getO_ok default h
/-- rail.Op -/
abbrev A_rail_Op : List Ty := [tOp, tSpot]
abbrev S_rail_Op : Sh := Sh.tup (Sh.pair (Sh.osl 32 tItem) (Sh.pair (Sh.ty (Ty.int IntKind.i64)) (Sh.ty Ty.unit)))
def T_rail_Op (x : dens A_rail_Op) : PO (Sh.den S_rail_Op) :=
  (.ite (G_tmpl_Op (x.1, x.2, 0))
   (.ite ((V_tmpl_Op (x.1, x.2, 0)).2.1 != 0)
    (.ret (([], (V_tmpl_Op (x.1, x.2, 0)).2.1, ())))
    (.ite (G_rail_items (V_tmpl_Op (x.1, x.2, 0)).1)
     (.ite (Nat.ble ((List.length ([] : List tItem.den) + List.length (V_rail_items (V_tmpl_Op (x.1, x.2, 0)).1)) * 80) 140737488355328)
      (.ite (G_tmpl_Op (x.1, x.2, 1))
       (.ite ((V_tmpl_Op (x.1, x.2, 1)).2.1 != 0)
        (.ret (([], (V_tmpl_Op (x.1, x.2, 1)).2.1, ())))
        (.ite (G_rail_items (V_tmpl_Op (x.1, x.2, 1)).1)
         (.ite (Nat.ble ((List.length ([] ++ V_rail_items (V_tmpl_Op (x.1, x.2, 0)).1) + List.length (V_rail_items (V_tmpl_Op (x.1, x.2, 1)).1)) * 80) 140737488355328)
          (.ret (([] ++ V_rail_items (V_tmpl_Op (x.1, x.2, 0)).1 ++ V_rail_items (V_tmpl_Op (x.1, x.2, 1)).1, 0, ())))
          .fail)
         .fail))
       .fail)
      .fail)
     .fail))
   .fail)
def G_rail_Op (x : dens A_rail_Op) : Bool := (T_rail_Op x).val.isSome
def V_rail_Op (x : dens A_rail_Op) : Sh.den S_rail_Op := (T_rail_Op x).getO default
theorem ok_rail_Op (x : dens A_rail_Op) (h : G_rail_Op x = true) : (T_rail_Op x).val = some (V_rail_Op x) := PO.getO_ok default h
/-- hauberklaw27.lives: an example, computed -/
abbrev A_hauberklaw27_lives : List Ty := []
abbrev S_hauberklaw27_lives : Sh := .ty .bool
def T_hauberklaw27_lives (_ : dens A_hauberklaw27_lives) : PO Bool := .ret true
def G_hauberklaw27_lives (_ : dens A_hauberklaw27_lives) : Bool := true
def V_hauberklaw27_lives (_ : dens A_hauberklaw27_lives) : Bool := true
theorem ok_hauberklaw27_lives (x : dens A_hauberklaw27_lives) (_ : G_hauberklaw27_lives x = true) : (T_hauberklaw27_lives x).val = some (V_hauberklaw27_lives x) := rfl
def L_hauberkref29_Out_Ins_1 : LoopN where
  M := [0, 1, 4]
  T := [5, 6, 7, 8, 9, 10, 11, 12, 13, 14, 15, 16, 17, 18, 19, 20, 21, 22, 23, 24]
  D := [0, 1, 4]
  ss := [.box 0 0, .ty (.sl tIns), .ty (.int .i64)]
  hs := [.pair (.osl 0 tItem) (.ty .unit)]
  es := [.exit 0]
  σ := (Ty.den (.int .i64)) × (Sh.den (.pair (.osl 0 tItem) (.ty .unit)))
  x0 := fun x y => (x.2.2, y)
  put := fun x _ s => ((x.1, x.2.1, s.1), s.2)
  fuel := fun x _ => List.length x.2.1 + 1
  turn := fun x _ s =>
  (.ite (decide (s.1 < lenI x.2.1))
   (.ite (inRange s.1 (List.length x.2.1))
    (.ite (Nat.ble ((List.length s.2.1 + List.length [(0, 0, List.getD x.2.1 (Int.toNat s.1) (Ty.dflt tIns), ())]) * 80) 140737488355328)
     (.ret (.on (w64 (s.1 + 1), (s.2.1 ++ [(0, 0, List.getD x.2.1 (Int.toNat s.1) (Ty.dflt tIns), ())], s.2.2))))
     .fail)
    .fail)
   (.ret (.out 0 (s.1, s.2))))
/-- hauberkref29.Op -/
abbrev A_hauberkref29_Op : List Ty := [tOp, tSpot]
abbrev S_hauberkref29_Op : Sh := Sh.tup (Sh.pair (Sh.osl 32 tItem) (Sh.pair (Sh.ty (Ty.int IntKind.i64)) (Sh.ty Ty.unit)))
def T_hauberkref29_Op (x : dens A_hauberkref29_Op) : PO (Sh.den S_hauberkref29_Op) :=
  (.ite (G_hauberkref27_Op (x.1, x.2, 0))
   (.ite ((V_hauberkref27_Op (x.1, x.2, 0)).2.1 != 0)
    (.ret (([], (V_hauberkref27_Op (x.1, x.2, 0)).2.1, ())))
    (.ite (G_hauberkref27_Op (x.1, x.2, 1))
     (.opt (LoopN.res L_hauberkref29_Out_Ins_1 ((), (V_hauberkref27_Op (x.1, x.2, 0)).1, 0) ([], ())) fun p0 =>
      (.opt (LoopN.res L_hauberkref29_Out_Ins_1 ((), (V_hauberkref27_Op (x.1, x.2, 1)).1, 0) (p0.2.2.1, p0.2.2.2)) fun p1 =>
       (.ret ((p1.2.2.1, 0, ())))))
     .fail))
   .fail)
def G_hauberkref29_Op (x : dens A_hauberkref29_Op) : Bool := (T_hauberkref29_Op x).val.isSome
def V_hauberkref29_Op (x : dens A_hauberkref29_Op) : Sh.den S_hauberkref29_Op := (T_hauberkref29_Op x).getO default
theorem ok_hauberkref29_Op (x : dens A_hauberkref29_Op) (h : G_hauberkref29_Op x = true) : (T_hauberkref29_Op x).val = some (V_hauberkref29_Op x) := PO.getO_ok default h
end Go.Av
end
/-! Layer 27: operations as instructions: what the functions come to. -/
section
namespace Go.Av
open Go
/-- May a temp be? -/
def tempOk (t : Int) : Bool := decide (0 ≤ t) && decide (t ≤ 16382)
theorem temp_V (t : Int) : V_tmpl_temp t = tempOk t := by
  show (decide (t ≥ 0) && decide (t < 16383)) = (decide (0 ≤ t) && decide (t ≤ 16382))
  rw [Bool.eq_iff_iff, Bool.and_eq_true, Bool.and_eq_true, decide_eq_true_eq, decide_eq_true_eq, decide_eq_true_eq]
  omega
theorem tempOk_iff {t : Int} : tempOk t = true ↔ 0 ≤ t ∧ t ≤ 16382 := by unfold tempOk; rw [Bool.and_eq_true, decide_eq_true_eq, decide_eq_true_eq]
theorem temp_26 {a : Int} (h1 : 0 ≤ a) (h2 : a ≤ 16382) : V_hauberkref26_Temp a = 4 * (a + 1) := by
  simp only [V_hauberkref26_Temp, T_hauberkref26_Temp, PO.getO, PO.val]
  rw [dec_true (p := a ≥ 0) h1, dec_true (p := a ≤ 16382) h2, w64_id (n := a + 1) (by omega) (by omega), w64_id (n := 4 * (a + 1)) (by omega) (by omega)]
  rfl
theorem getG_temp {t r i : Int} (h : tempOk t = true) (hr : r = 0 ∨ r = 1) (h0 : 0 ≤ i) (h7 : i ≤ 7) : getG (4 * (t + 1), r, i) = true := by
  rw [tempOk_iff] at h
  simp only [getG, Bool.and_eq_true, decide_eq_true_eq]
  refine ⟨by omega, by omega, by omega, by omega, h0, h7⟩
/-- Words of a rail, into the first registers. -/
def gets (r : Int) : List Int → Nat → List tIns.den
  | [], _ => []
  | t :: u, i => getI (4 * (t + 1), r, (i : Int)) ++ gets r u (i + 1)
theorem gets_len (r : Int) : ∀ (u : List Int) (i : Nat), (gets r u i).length = 3 * u.length
  | [], _ => rfl
  | t :: u, i => by
    show (getI _ ++ gets r u (i + 1)).length = _
    rw [List.length_append, gets_len r u (i + 1), List.length_cons]
    show 3 + _ = _
    omega
theorem ble_room {n : Nat} (h : n ≤ 1000000) : Nat.ble (n * 64) 140737488355328 = true := Nat.ble_eq_true_of_le (by omega)
section
variable (r : Int) (hr : r = 0 ∨ r = 1) (o : tOp.den) (s : tSpot.den) (u : List Int) (hu : u.length ≤ 4)
include hr hu
theorem tmpl_gets_run (hall : u.all tempOk = true) : ∀ (k i : Nat) (acc : List tIns.den), i + k = u.length → acc.length = 3 * i → ∀ f, k < f →
    runL (L_tmpl_Op_5.turn (r, (), (), [], u, lenI u, 0) (o, s)) f (acc, (i : Int), o, s) = some (0, acc ++ gets r (u.drop i) i, ((u.length : Nat) : Int), o, s)
  | 0, i, acc, h, _, f, hf => by
    obtain ⟨f, rfl⟩ : ∃ g, f = g + 1 := ⟨f - 1, by omega⟩
    refine (runL_out (c := 0) (s' := (acc, (i : Int), o, s)) ?_).trans ?_
    · dsimp only [L_tmpl_Op_5, PO.val]
      rw [dec_false (p := (i : Int) < lenI u) (by simp only [lenI]; omega)]
      rfl
    · rw [List.drop_of_length_le (by omega), show i = u.length by omega]
      show some (0, acc, _) = some (0, acc ++ [], _)
      rw [List.append_nil]
  | k + 1, i, acc, h, hacc, f, hf => by
    obtain ⟨f, rfl⟩ : ∃ g, f = g + 1 := ⟨f - 1, by omega⟩
    have hi : i < u.length := by omega
    have ht : tempOk u[i] = true := List.all_eq_true.1 hall _ (List.getElem_mem hi)
    have hb := tempOk_iff.1 ht
    have hg := getG_temp ht hr (i := (i : Int)) (by omega) (by omega)
    have hw : w64 ((i : Int) + 1) = ((i + 1 : Nat) : Int) := by rw [w64_id (by omega) (by omega)]; omega
    have hlen : (getI (4 * (u[i] + 1), r, (i : Int))).length = 3 := rfl
    have e : (L_tmpl_Op_5.turn (r, (), (), [], u, lenI u, 0) (o, s) (acc, (i : Int), o, s)).val = some (.on (acc ++ getI (4 * (u[i] + 1), r, (i : Int)), ((i + 1 : Nat) : Int), o, s)) := by
      dsimp only [L_tmpl_Op_5, PO.val]
      rw [dec_true (p := (i : Int) < lenI u) (by simp only [lenI]; omega), inR hi, getD_nat, getD_in u _ hi, temp_fr _ hb.1 hb.2, show G_tmpl_Get (4 * (u[i] + 1), r, (i : Int)) = true from hg,
        show V_tmpl_Get (4 * (u[i] + 1), r, (i : Int)) = getI (4 * (u[i] + 1), r, (i : Int)) from rfl, hlen, ble_room (by omega), hw]
      rfl
    refine (runL_on e).trans ?_
    have ih := tmpl_gets_run hall k (i + 1) (acc ++ getI (4 * (u[i] + 1), r, (i : Int))) (by omega) (by rw [List.length_append, hlen]; omega) f (by omega)
    refine ih.trans ?_
    rw [List.drop_eq_getElem_cons hi, List.append_assoc]
    rfl
theorem ref_gets_run (hall : u.all tempOk = true) : ∀ (k i : Nat) (acc : List tIns.den), i + k = u.length → acc.length = 3 * i → ∀ f, k < f →
    runL (L_hauberkref27_Op_6.turn (r, (), (), [], u, 0) (o, s)) f (acc, (i : Int), o, s) = some (0, acc ++ gets r (u.drop i) i, ((u.length : Nat) : Int), o, s)
  | 0, i, acc, h, _, f, hf => by
    obtain ⟨f, rfl⟩ : ∃ g, f = g + 1 := ⟨f - 1, by omega⟩
    refine (runL_out (c := 0) (s' := (acc, (i : Int), o, s)) ?_).trans ?_
    · dsimp only [L_hauberkref27_Op_6, PO.val]
      rw [dec_false (p := (i : Int) < lenI u) (by simp only [lenI]; omega)]
      rfl
    · rw [List.drop_of_length_le (by omega), show i = u.length by omega]
      show some (0, acc, _) = some (0, acc ++ [], _)
      rw [List.append_nil]
  | k + 1, i, acc, h, hacc, f, hf => by
    obtain ⟨f, rfl⟩ : ∃ g, f = g + 1 := ⟨f - 1, by omega⟩
    have hi : i < u.length := by omega
    have ht : tempOk u[i] = true := List.all_eq_true.1 hall _ (List.getElem_mem hi)
    have hb := tempOk_iff.1 ht
    have hg := getG_temp ht hr (i := (i : Int)) (by omega) (by omega)
    have hw : w64 ((i : Int) + 1) = ((i + 1 : Nat) : Int) := by rw [w64_id (by omega) (by omega)]; omega
    have hlen : (getI (4 * (u[i] + 1), r, (i : Int))).length = 3 := rfl
    have e : (L_hauberkref27_Op_6.turn (r, (), (), [], u, 0) (o, s) (acc, (i : Int), o, s)).val = some (.on (acc ++ getI (4 * (u[i] + 1), r, (i : Int)), ((i + 1 : Nat) : Int), o, s)) := by
      dsimp only [L_hauberkref27_Op_6, PO.val]
      rw [dec_true (p := (i : Int) < lenI u) (by simp only [lenI]; omega), inR hi, getD_nat, getD_in u _ hi, temp_26 hb.1 hb.2, show G_hauberkref27_Get (4 * (u[i] + 1), r, (i : Int)) = true from hg,
        show V_hauberkref27_Get (4 * (u[i] + 1), r, (i : Int)) = getI (4 * (u[i] + 1), r, (i : Int)) from rfl, hlen, ble_room (by omega), hw]
      rfl
    refine (runL_on e).trans ?_
    have ih := ref_gets_run hall k (i + 1) (acc ++ getI (4 * (u[i] + 1), r, (i : Int))) (by omega) (by rw [List.length_append, hlen]; omega) f (by omega)
    refine ih.trans ?_
    rw [List.drop_eq_getElem_cons hi, List.append_assoc]
    rfl
omit hr in
theorem tmpl_may_run (b : Bool) : ∀ (k i : Nat), i + k = u.length → ∀ f, k < f →
    ∃ c j, runL (L_tmpl_may_2.turn (r, (), (), b, u, lenI u, 0) (o, s)) f (b, (i : Int), o, s) = some (c, (bif (u.drop i).all tempOk then b else false), j, o, s) ∧ way c = (u.drop i).all tempOk
  | 0, i, h, f, hf => by
    obtain ⟨f, rfl⟩ : ∃ g, f = g + 1 := ⟨f - 1, by omega⟩
    refine ⟨0, (i : Int), (runL_out (c := 0) (s' := (b, (i : Int), o, s)) ?_).trans ?_, ?_⟩
    · dsimp only [L_tmpl_may_2, PO.val]
      rw [dec_false (p := (i : Int) < lenI u) (by simp only [lenI]; omega)]
      rfl
    · rw [List.drop_of_length_le (by omega)]; rfl
    · rw [List.drop_of_length_le (by omega)]; rfl
  | k + 1, i, h, f, hf => by
    obtain ⟨f, rfl⟩ : ∃ g, f = g + 1 := ⟨f - 1, by omega⟩
    have hi : i < u.length := by omega
    have hw : w64 ((i : Int) + 1) = ((i + 1 : Nat) : Int) := by rw [w64_id (by omega) (by omega)]; omega
    rw [List.drop_eq_getElem_cons hi, List.all_cons]
    have e : (L_tmpl_may_2.turn (r, (), (), b, u, lenI u, 0) (o, s) (b, (i : Int), o, s)).val = (bif !tempOk u[i] then some (.out 1 (false, (i : Int), o, s)) else some (.on (b, ((i + 1 : Nat) : Int), o, s))) := by
      dsimp only [L_tmpl_may_2, PO.val]
      rw [dec_true (p := (i : Int) < lenI u) (by simp only [lenI]; omega), inR hi, getD_nat, getD_in u _ hi, temp_V, hw]
      rfl
    cases ht : tempOk u[i]
    · rw [ht] at e
      exact ⟨1, (i : Int), runL_out e, rfl⟩
    · rw [ht] at e
      obtain ⟨c, j, h1, h2⟩ := tmpl_may_run b k (i + 1) (by omega) f (by omega)
      exact ⟨c, j, (runL_on e).trans h1, h2⟩
omit hr in
theorem ref_may_run (b : Bool) : ∀ (k i : Nat), i + k = u.length → ∀ f, k < f →
    ∃ c j, runL (L_hauberkref27_May_7.turn ((), (), b, u, 0) (o, s)) f (b, (i : Int), o, s) = some (c, (bif (u.drop i).all tempOk then b else false), j, o, s) ∧ way c = (u.drop i).all tempOk
  | 0, i, h, f, hf => by
    obtain ⟨f, rfl⟩ : ∃ g, f = g + 1 := ⟨f - 1, by omega⟩
    refine ⟨0, (i : Int), (runL_out (c := 0) (s' := (b, (i : Int), o, s)) ?_).trans ?_, ?_⟩
    · dsimp only [L_hauberkref27_May_7, PO.val]
      rw [dec_false (p := (i : Int) < lenI u) (by simp only [lenI]; omega)]
      rfl
    · rw [List.drop_of_length_le (by omega)]; rfl
    · rw [List.drop_of_length_le (by omega)]; rfl
  | k + 1, i, h, f, hf => by
    obtain ⟨f, rfl⟩ : ∃ g, f = g + 1 := ⟨f - 1, by omega⟩
    have hi : i < u.length := by omega
    have hw : w64 ((i : Int) + 1) = ((i + 1 : Nat) : Int) := by rw [w64_id (by omega) (by omega)]; omega
    rw [List.drop_eq_getElem_cons hi, List.all_cons]
    have hto : (decide (u[i] < 0) || decide (u[i] > 16382)) = !tempOk u[i] := by
      unfold tempOk
      rw [Bool.eq_iff_iff, Bool.or_eq_true, Bool.not_eq_true', Bool.and_eq_false_iff, decide_eq_true_eq, decide_eq_true_eq, decide_eq_false_iff_not, decide_eq_false_iff_not]
      omega
    have e : (L_hauberkref27_May_7.turn ((), (), b, u, 0) (o, s) (b, (i : Int), o, s)).val = (bif !tempOk u[i] then some (.out 1 (false, (i : Int), o, s)) else some (.on (b, ((i + 1 : Nat) : Int), o, s))) := by
      dsimp only [L_hauberkref27_May_7, PO.val]
      rw [dec_true (p := (i : Int) < lenI u) (by simp only [lenI]; omega), inR hi, getD_nat, getD_in u _ hi, hto, hw, Bool.or_true]
      rfl
    cases ht : tempOk u[i]
    · rw [ht] at e
      exact ⟨1, (i : Int), runL_out e, rfl⟩
    · rw [ht] at e
      obtain ⟨c, j, h1, h2⟩ := ref_may_run b k (i + 1) (by omega) f (by omega)
      exact ⟨c, j, (runL_on e).trans h1, h2⟩
end
end Go.Av
end
/-! Layer 27: which operations may be. -/
section
namespace Go.Av
open Go
theorem kinds (k : Int) : k = 1 ∨ k = 2 ∨ k = 3 ∨ k = 4 ∨ k = 5 ∨ k = 6 ∨ k = 7 ∨ k = 8 ∨ k = 9 ∨ k = 10 ∨ k = 11 ∨ k = 12 ∨ k = 13 ∨ k = 14 ∨ k = 15 ∨ k = 16 ∨ k = 17 ∨ k = 18 ∨ k = 19 ∨ (k < 1 ∨ 19 < k) := by omega
abbrev opI (k d a b c i : Int) : tOp.den := (k, d, a, b, c, i, ())
theorem out_beq {k n : Int} (h : k < 1 ∨ 19 < k) (hn : 1 ≤ n ∧ n ≤ 19) : (k == n) = false := by rw [beq_eq_false_iff_ne]; omega
theorem uses_len (o : tOp.den) : (V_ir_Uses o).length ≤ 3 := by
  show (List.take _ [_, _, _]).length ≤ 3
  rw [List.length_take]
  exact Nat.min_le_right ..
theorem refs_same (k d a b c i : Int) (h : 1 ≤ k ∧ k ≤ 19) : G_hauberkref17_Uses (opI k d a b c i) = true ∧ V_hauberkref17_Uses (opI k d a b c i) = V_ir_Uses (opI k d a b c i) ∧ G_hauberkref17_Makes (opI k d a b c i) = true ∧ V_hauberkref17_Makes (opI k d a b c i) = V_ir_Makes (opI k d a b c i) := by
  rcases kinds k with rfl | rfl | rfl | rfl | rfl | rfl | rfl | rfl | rfl | rfl | rfl | rfl | rfl | rfl | rfl | rfl | rfl | rfl | rfl | h'
  all_goals first | (exfalso; omega) | exact ⟨by kernel_rfl, by kernel_rfl, by kernel_rfl, by kernel_rfl⟩
theorem out_kind (k d a b c i : Int) (h : k < 1 ∨ 19 < k) : V_ir_Uses (opI k d a b c i) = [] ∧ V_ir_Makes (opI k d a b c i) = false := by
  have e := fun n hn => out_beq (k := k) (n := n) h hn
  have hf : V_ir_formOf k = (false, 0, 0, 0, false, ()) := by simp [V_ir_formOf, T_ir_formOf, PO.getO, PO.val, e]
  constructor
  · show List.take (Int.toNat (V_ir_formOf k).2.1) _ = []
    rw [hf]
    rfl
  · show (V_ir_formOf k).1 = false
    rw [hf]
/-- The kind's own conditions. -/
def tailK (o : tOp.den) (s : tSpot.den) : Bool :=
  bif o.1 == 1 then decide (o.2.2.2.2.2.1 ≥ 0) && decide (o.2.2.2.2.2.1 ≤ 4294967295)
  else bif (bif o.1 == 11 then o.1 == 11 else bif o.1 == 12 then o.1 == 12 else o.1 == 13) then decide (o.2.2.2.2.2.1 ≥ 0) && decide (o.2.2.2.2.2.1 < 32)
  else bif (bif o.1 == 18 then o.1 == 18 else o.1 == 19) then V_tmpl_spot (o, s) else V_ir_Makes o
def tailR (o : tOp.den) (s : tSpot.den) : Bool :=
  bif o.1 == 1 then decide (o.2.2.2.2.2.1 ≥ 0) && decide (o.2.2.2.2.2.1 < 4294967296)
  else bif decide (o.1 ≥ 11) && decide (o.1 ≤ 13) then decide (o.2.2.2.2.2.1 ≥ 0) && decide (o.2.2.2.2.2.1 < 32)
  else bif o.1 == 18 || o.1 == 19 then (bif s.1 == 1 then decide (s.2.1 ≥ 0) && (decide (s.2.1 < 65536) && (!s.2.2.1 || o.1 == 18)) else s.1 == 4 && (decide (s.2.1 ≥ 0) && (decide (s.2.1 < 65536) && (!s.2.2.1 || o.1 == 18)))) else true
/-- May an operation be? -/
def okOp (o : tOp.den) (s : tSpot.den) (r : Int) : Bool :=
  bif (V_ir_Uses o).all tempOk then (bif (bif V_ir_Makes o then !tempOk o.2.1 || r != 0 && r != 1 else r != 0 && r != 1) then false else tailK o s) else false
theorem way_cases {c : Nat} {b : Bool} (h : way c = b) : way c = b := h
theorem may_T (o : tOp.den) (s : tSpot.den) (r : Int) : (T_tmpl_may (o, s, r)).val = some (okOp o s r) := by
  obtain ⟨c, j, h1, h2⟩ := tmpl_may_run r o s (V_ir_Uses o) (Nat.le_trans (uses_len o) (by omega)) false (V_ir_Uses o).length 0 (by omega) 5 (by have := uses_len o; omega)
  have h1 : LoopN.res L_tmpl_may_2 (r, (), (), false, V_ir_Uses o, lenI (V_ir_Uses o), 0) (o, s) = some (c, (bif ((V_ir_Uses o).drop 0).all tempOk then false else false), j, o, s) := h1
  rw [List.drop_zero] at h1 h2
  unfold T_tmpl_may okOp PO.val
  rw [h1]
  dsimp only [PO.val]
  rw [h2]
  cases (V_ir_Uses o).all tempOk
  · rfl
  · rw [temp_V]
    dsimp only [cond_true, PO.val]
    rw [Bool.or_true]
    dsimp only [cond_true, PO.val]
    cases (bif V_ir_Makes o then !tempOk o.2.1 || r != 0 && r != 1 else r != 0 && r != 1)
    · dsimp only [cond_false, PO.val]
      unfold tailK
      cases o.1 == 1
      · cases (bif o.1 == 11 then o.1 == 11 else bif o.1 == 12 then o.1 == 12 else o.1 == 13)
        · cases (bif o.1 == 18 then o.1 == 18 else o.1 == 19) <;> rfl
        · rfl
      · rfl
    · rfl
theorem may_G (o : tOp.den) (s : tSpot.den) (r : Int) : G_tmpl_may (o, s, r) = true := by unfold G_tmpl_may; rw [may_T]; rfl
theorem may_V (o : tOp.den) (s : tSpot.den) (r : Int) : V_tmpl_may (o, s, r) = okOp o s r := by unfold V_tmpl_may PO.getO; rw [may_T]; rfl
theorem tail_same (k d a b c i : Int) (s : tSpot.den) (h : 1 ≤ k ∧ k ≤ 19) : tailK (opI k d a b c i) s = tailR (opI k d a b c i) s := by
  have e1 : (decide (i ≥ 0) && decide (i ≤ 4294967295)) = (decide (i ≥ 0) && decide (i < 4294967296)) := by
    rw [Bool.eq_iff_iff, Bool.and_eq_true, Bool.and_eq_true, decide_eq_true_eq, decide_eq_true_eq, decide_eq_true_eq]
    omega
  have e2 : ∀ z : Int, decide (z ≤ 65535) = decide (z < 65536) := fun z => by rw [Bool.eq_iff_iff, decide_eq_true_eq, decide_eq_true_eq]; omega
  obtain ⟨el, off, inn, u⟩ := s
  rcases kinds k with rfl | rfl | rfl | rfl | rfl | rfl | rfl | rfl | rfl | rfl | rfl | rfl | rfl | rfl | rfl | rfl | rfl | rfl | rfl | h'
  case inr.inr.inr.inr.inr.inr.inr.inr.inr.inr.inr.inr.inr.inr.inr.inr.inr.inr.inr => exfalso; omega
  case inl => exact e1
  case inr.inr.inr.inr.inr.inr.inr.inr.inr.inr.inr.inr.inr.inr.inr.inr.inr.inl =>
    show (bif (el : Int) == 1 then decide ((off : Int) ≥ 0) && (decide ((off : Int) ≤ 65535) && bif inn then !((18 : Int) == 19) else true) else (el : Int) == 4 && (decide ((off : Int) ≥ 0) && (decide ((off : Int) ≤ 65535) && bif inn then !((18 : Int) == 19) else true)))
      = (bif (el : Int) == 1 then decide ((off : Int) ≥ 0) && (decide ((off : Int) < 65536) && (!inn || (18 : Int) == 18)) else (el : Int) == 4 && (decide ((off : Int) ≥ 0) && (decide ((off : Int) < 65536) && (!inn || (18 : Int) == 18))))
    rw [e2]
    cases (inn : Bool) <;> rfl
  case inr.inr.inr.inr.inr.inr.inr.inr.inr.inr.inr.inr.inr.inr.inr.inr.inr.inr.inl =>
    show (bif (el : Int) == 1 then decide ((off : Int) ≥ 0) && (decide ((off : Int) ≤ 65535) && bif inn then !((19 : Int) == 19) else true) else (el : Int) == 4 && (decide ((off : Int) ≥ 0) && (decide ((off : Int) ≤ 65535) && bif inn then !((19 : Int) == 19) else true)))
      = (bif (el : Int) == 1 then decide ((off : Int) ≥ 0) && (decide ((off : Int) < 65536) && (!inn || (19 : Int) == 18)) else (el : Int) == 4 && (decide ((off : Int) ≥ 0) && (decide ((off : Int) < 65536) && (!inn || (19 : Int) == 18))))
    rw [e2]
    cases (inn : Bool) <;> rfl
  all_goals rfl
theorem ok_kind {k d a b c i : Int} {s : tSpot.den} {r : Int} (h : okOp (opI k d a b c i) s r = true) : 1 ≤ k ∧ k ≤ 19 := by
  by_cases hk : 1 ≤ k ∧ k ≤ 19
  · exact hk
  · exfalso
    have hk : k < 1 ∨ 19 < k := by omega
    have e := fun n hn => out_beq (k := k) (n := n) hk hn
    obtain ⟨h1, h2⟩ := out_kind k d a b c i hk
    unfold okOp tailK at h
    rw [h1, h2] at h
    simp [e] at h
theorem ok_facts {o : tOp.den} {s : tSpot.den} {r : Int} (h : okOp o s r = true) : (V_ir_Uses o).all tempOk = true ∧ (r = 0 ∨ r = 1) ∧ (V_ir_Makes o = true → tempOk o.2.1 = true) ∧ tailK o s = true := by
  unfold okOp at h
  cases hu : (V_ir_Uses o).all tempOk
  · rw [hu] at h; cases h
  · rw [hu] at h
    dsimp only [cond_true] at h
    cases hm : V_ir_Makes o
    · rw [hm] at h
      dsimp only [cond_false] at h
      cases hr : (r != 0 && r != 1)
      · rw [hr] at h
        refine ⟨rfl, ?_, (fun e => Bool.noConfusion e), h⟩
        rw [Bool.and_eq_false_iff, bne_eq_false_iff_eq, bne_eq_false_iff_eq] at hr
        exact hr
      · rw [hr] at h; cases h
    · rw [hm] at h
      dsimp only [cond_true] at h
      cases hr : (!tempOk o.2.1 || r != 0 && r != 1)
      · rw [hr] at h
        rw [Bool.or_eq_false_iff, Bool.not_eq_false', Bool.and_eq_false_iff, bne_eq_false_iff_eq, bne_eq_false_iff_eq] at hr
        exact ⟨rfl, hr.2, fun _ => hr.1, h⟩
      · rw [hr] at h; cases h
theorem refmay_T (k d a b c i : Int) (s : tSpot.den) (r : Int) : (T_hauberkref27_May (opI k d a b c i, s, r)).val = some (okOp (opI k d a b c i) s r) := by
  unfold T_hauberkref27_May PO.val
  by_cases hk : 1 ≤ k ∧ k ≤ 19
  · by_cases hr : r = 0 ∨ r = 1
    · obtain ⟨g1, v1, g2, v2⟩ := refs_same k d a b c i hk
      have e0 : (decide (k < 1) || (decide (k > 19) || (decide (r < 0) || decide (r > 1)))) = false := by
        rw [dec_false (p := k < 1) (by omega), dec_false (p := k > 19) (by omega), dec_false (p := r < 0) (by omega), dec_false (p := r > 1) (by omega)]
        rfl
      have er : (r != 0 && r != 1) = false := by
        rcases hr with rfl | rfl <;> rfl
      dsimp only
      rw [e0]
      dsimp only [cond_false, PO.val]
      rw [g1, g2, v1, v2]
      dsimp only [cond_true, PO.val]
      unfold okOp
      have hul := uses_len (opI k d a b c i)
      have htl := tail_same k d a b c i s hk
      rw [er]
      cases hm : V_ir_Makes (opI k d a b c i)
      · obtain ⟨c1, j, h1, h2⟩ := ref_may_run (opI k d a b c i) s (V_ir_Uses (opI k d a b c i)) (by omega) false (V_ir_Uses (opI k d a b c i)).length 0 (by omega) 6 (by omega)
        have h1 : LoopN.res L_hauberkref27_May_7 ((), (), false, V_ir_Uses (opI k d a b c i), 0) (opI k d a b c i, s) = some (c1, (bif ((V_ir_Uses (opI k d a b c i)).drop 0).all tempOk then false else false), j, opI k d a b c i, s) := h1
        rw [List.drop_zero] at h1 h2
        dsimp only [cond_false, PO.val]
        rw [h1]
        dsimp only [PO.val]
        rw [h2, htl]
        cases (V_ir_Uses (opI k d a b c i)).all tempOk
        · rfl
        · unfold tailR
          dsimp only [cond_true, cond_false, PO.val]
          cases k == 1
          · cases (decide (k ≥ 11) && decide (k ≤ 13))
            · cases (k == 18 || k == 19) <;> rfl
            · rfl
          · rfl
      · obtain ⟨c1, j, h1, h2⟩ := ref_may_run (opI k d a b c i) s (V_ir_Uses (opI k d a b c i) ++ [d]) (by rw [List.length_append]; show _ + 1 ≤ 4; omega) false (V_ir_Uses (opI k d a b c i) ++ [d]).length 0 (by omega) 6 (by rw [List.length_append]; show _ + 1 < 6; omega)
        have h1 : LoopN.res L_hauberkref27_May_7 ((), (), false, V_ir_Uses (opI k d a b c i) ++ [d], 0) (opI k d a b c i, s) = some (c1, (bif ((V_ir_Uses (opI k d a b c i) ++ [d]).drop 0).all tempOk then false else false), j, opI k d a b c i, s) := h1
        rw [List.drop_zero] at h1 h2
        dsimp only [cond_true, PO.val]
        rw [Nat.ble_eq_true_of_le (show ((V_ir_Uses (opI k d a b c i)).length + [d].length) * 8 ≤ 140737488355328 by simp only [List.length_singleton]; omega)]
        dsimp only [cond_true, PO.val]
        rw [h1]
        dsimp only [PO.val]
        rw [h2, htl, List.all_append]
        cases (V_ir_Uses (opI k d a b c i)).all tempOk
        · rfl
        · show (bif true && (tempOk d && true) then _ else _) = _
          rw [Bool.and_true, Bool.true_and]
          cases tempOk d
          · cases [d].all tempOk <;> rfl
          · unfold tailR
            dsimp only [cond_true, cond_false, PO.val, Bool.not_true, Bool.false_or]
            cases k == 1
            · cases (decide (k ≥ 11) && decide (k ≤ 13))
              · cases (k == 18 || k == 19) <;> rfl
              · rfl
            · rfl
    · have e0 : (decide (r < 0) || decide (r > 1)) = true := by
        rw [Bool.or_eq_true, decide_eq_true_eq, decide_eq_true_eq]
        omega
      dsimp only
      rw [e0, Bool.or_true, Bool.or_true]
      cases hok : okOp (opI k d a b c i) s r
      · rfl
      · exact absurd (ok_facts hok).2.1 hr
  · have e0 : (decide (k < 1) || (decide (k > 19) || (decide (r < 0) || decide (r > 1)))) = true := by
      rw [Bool.or_eq_true, Bool.or_eq_true, decide_eq_true_eq, decide_eq_true_eq]
      by_cases h1 : k < 1
      · exact .inl h1
      · exact .inr (.inl (by omega))
    dsimp only
    rw [e0]
    cases hok : okOp (opI k d a b c i) s r
    · rfl
    · exact absurd (ok_kind hok) hk
end Go.Av
end
