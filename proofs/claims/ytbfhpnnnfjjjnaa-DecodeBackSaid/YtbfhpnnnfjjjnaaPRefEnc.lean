/- Layer 2: instructions as bytes, by the document's table of bits. -/
import Derived.Test.YtbfhpnnnfjjjnaaPRef02Law
import Derived.Test.YtbfhpnnnfjjjnaaPRef01b
namespace Go.Av
open Go
def L_hauberkref02_bit_3 : LoopN where
  M := [1, 5, 6]
  T := [9, 10, 11, 12, 13, 14, 15]
  D := [1, 6]
  ss := [.ty (.int .i64), .ty (.int .u64), .ty (.int .i64)]
  hs := []
  es := [.exit 0]
  σ := (Ty.den (.int .u64)) × (Ty.den (.int .i64))
  x0 := fun x _ => (x.2.1, x.2.2)
  put := fun x _ s => ((x.1, s.1, s.2), ())
  fuel := fun x _ => Int.toNat x.1+1
  turn := fun x _ s =>
  (.ite (decide (s.2 < x.1))
   (.ret (.on (IntKind.wrap IntKind.u64 (Int.tdiv s.1 2), w64 (s.2 + 1))))
   (.ret (.out 0 (s.1, s.2))))
/-- hauberkref02.bit -/
abbrev A_hauberkref02_bit : List Ty := [(.int .i64), (.int .i64)]
abbrev S_hauberkref02_bit : Sh := Sh.ty (Ty.int IntKind.i64)
def T_hauberkref02_bit (x : dens A_hauberkref02_bit) : PO (Sh.den S_hauberkref02_bit) :=
  (.opt (LoopN.res L_hauberkref02_bit_3 (x.2, IntKind.wrap IntKind.u64 x.1, 0) ()) fun p0 =>
   (.ret (w64 (Int.tmod p0.2.1 2))))
/-- A bit of a number of 64. -/
def bit64 (x : Int) (n : Nat) : Nat := bt (x % 18446744073709551616).toNat n
theorem bit_run (x : Int) (n : Nat) (hn : n ≤ 100) : runL (L_hauberkref02_bit_3.turn ((n : Int), IntKind.u64.wrap x, 0) ()) (n + 1) (IntKind.u64.wrap x, 0) = some (0, (((x % 18446744073709551616).toNat / 2 ^ n : Nat) : Int), (n : Int)) := by
  have hx : (0 : Int) ≤ x % 18446744073709551616 := Int.emod_nonneg _ (by omega)
  have hx2 : x % 18446744073709551616 < 18446744073709551616 := Int.emod_lt_of_pos _ (by omega)
  obtain ⟨m, hm⟩ := Int.eq_ofNat_of_zero_le hx
  rw [u64_wrap, hm, Int.toNat_natCast]
  have key := runL_count (σ := Int × Int) (turn := L_hauberkref02_bit_3.turn ((n : Int), (m : Int), 0) ()) (fun i => (((m / 2 ^ i : Nat) : Int), (i : Int))) (0, ((m / 2 ^ n : Nat) : Int), (n : Int)) (n := n) (fun i hi => ?_) ?_ n 0 (by omega) (n + 1) (by omega)
  · rw [Nat.pow_zero, Nat.div_one] at key
    exact key
  · have h1 : decide ((i : Int) < (n : Int)) = true := dec_true (by omega)
    have hd : m / 2 ^ i ≤ m := Nat.div_le_self _ _
    have e : m / 2 ^ (i + 1) = m / 2 ^ i / 2 := by rw [Nat.pow_succ, Nat.div_div_eq_div_mul]
    show (bif decide ((i : Int) < (n : Int)) then some (TL.on (IntKind.u64.wrap (Int.tdiv ((m / 2 ^ i : Nat) : Int) 2), w64 ((i : Int) + 1))) else _) = _
    rw [h1, e]
    generalize m / 2 ^ i = q at hd
    rw [tdiv_pos _ _ (by omega), show ((q : Nat) : Int) / 2 = ((q / 2 : Nat) : Int) by omega, u64_nat (by omega), w64_id (by omega) (by omega)]
    rfl
  · show (bif decide ((n : Int) < (n : Int)) then _ else _) = _
    rw [dec_false (by omega)]
    rfl
def G_hauberkref02_bit (x : dens A_hauberkref02_bit) : Bool := decide ((0 : Int) ≤ x.2) && decide ((x.2 : Int) ≤ 100)
def V_hauberkref02_bit (x : dens A_hauberkref02_bit) : Sh.den S_hauberkref02_bit := (bit64 x.1 (Int.toNat x.2) : Int)
theorem bit_val (x : Int) (n : Nat) (hn : n ≤ 100) : (T_hauberkref02_bit (x, (n : Int))).val = some ((bit64 x n : Nat) : Int) := by
  unfold T_hauberkref02_bit PO.val
  have : LoopN.res L_hauberkref02_bit_3 ((n : Int), IntKind.u64.wrap x, 0) () = some (0, (((x % 18446744073709551616).toNat / 2 ^ n : Nat) : Int), (n : Int)) := bit_run x n hn
  rw [this]
  show some (w64 (Int.tmod (((x % 18446744073709551616).toNat / 2 ^ n : Nat) : Int) 2)) = _
  unfold bit64 bt
  generalize (x % 18446744073709551616).toNat / 2 ^ n = q
  rw [tmod_pos _ _ (by omega), w64_id (by omega) (by omega)]
  exact congrArg some (by omega)
theorem ok_hauberkref02_bit (x : dens A_hauberkref02_bit) (h : G_hauberkref02_bit x = true) : (T_hauberkref02_bit x).val = some (V_hauberkref02_bit x) := by
  obtain ⟨x, n⟩ := x
  simp only [G_hauberkref02_bit, Bool.and_eq_true, decide_eq_true_eq] at h
  obtain ⟨n, rfl⟩ := Int.eq_ofNat_of_zero_le h.1
  have h2 : (n : Int) ≤ 100 := h.2
  exact bit_val x n (by omega)
/-- hauberkref02.field -/
abbrev A_hauberkref02_field : List Ty := [tIns, (.int .u8), (.int .i64)]
abbrev S_hauberkref02_field : Sh := Sh.ty (Ty.int IntKind.i64)
def T_hauberkref02_field (x : dens A_hauberkref02_field) : PO (Sh.den S_hauberkref02_field) :=
  (.ite (bif x.2.1 == 48 then x.2.1 == 48 else x.2.1 == 49)
   (.ret (w64 (IntKind.wrap IntKind.u8 (x.2.1 - 48))))
   (.ite (x.2.1 == 100)
    (.ite (G_hauberkref02_bit (x.1.2.1, x.2.2))
     (.ret (V_hauberkref02_bit (x.1.2.1, x.2.2)))
     .fail)
    (.ite (x.2.1 == 110)
     (.ite (G_hauberkref02_bit (x.1.2.2.1, x.2.2))
      (.ret (V_hauberkref02_bit (x.1.2.2.1, x.2.2)))
      .fail)
     (.ite (x.2.1 == 109)
      (.ite (G_hauberkref02_bit (x.1.2.2.2.1, x.2.2))
       (.ret (V_hauberkref02_bit (x.1.2.2.2.1, x.2.2)))
       .fail)
      (.ite (x.2.1 == 97)
       (.ite (G_hauberkref02_bit (x.1.2.2.2.2.1, x.2.2))
        (.ret (V_hauberkref02_bit (x.1.2.2.2.2.1, x.2.2)))
        .fail)
       (.ite (x.2.1 == 99)
        (.ite (G_hauberkref02_bit (x.1.2.2.2.2.2.2.1, x.2.2))
         (.ret (V_hauberkref02_bit (x.1.2.2.2.2.2.2.1, x.2.2)))
         .fail)
        (.ite (x.2.1 == 119)
         (.ite (G_hauberkref02_bit (w64 (w64 (x.1.2.2.2.2.2.1 + x.1.2.2.2.2.1) - 1), x.2.2))
          (.ret (V_hauberkref02_bit (w64 (w64 (x.1.2.2.2.2.2.1 + x.1.2.2.2.2.1) - 1), x.2.2)))
          .fail)
         (.ite (x.2.1 == 120)
          (.ite (G_hauberkref02_bit (bif decide (x.1.2.2.2.2.2.1 < 0) then w64 (x.1.2.2.2.2.2.1 + 33554432) else x.1.2.2.2.2.2.1, 23) && G_hauberkref02_bit (bif decide (x.1.2.2.2.2.2.1 < 0) then w64 (x.1.2.2.2.2.2.1 + 33554432) else x.1.2.2.2.2.2.1, 24))
           (.ret (w64 (1 - Int.tmod (w64 (V_hauberkref02_bit (bif decide (x.1.2.2.2.2.2.1 < 0) then w64 (x.1.2.2.2.2.2.1 + 33554432) else x.1.2.2.2.2.2.1, 23) + V_hauberkref02_bit (bif decide (x.1.2.2.2.2.2.1 < 0) then w64 (x.1.2.2.2.2.2.1 + 33554432) else x.1.2.2.2.2.2.1, 24))) 2)))
           .fail)
          (.ite (x.2.1 == 121)
           (.ite (G_hauberkref02_bit (bif decide (x.1.2.2.2.2.2.1 < 0) then w64 (x.1.2.2.2.2.2.1 + 33554432) else x.1.2.2.2.2.2.1, 22) && G_hauberkref02_bit (bif decide (x.1.2.2.2.2.2.1 < 0) then w64 (x.1.2.2.2.2.2.1 + 33554432) else x.1.2.2.2.2.2.1, 24))
            (.ret (w64 (1 - Int.tmod (w64 (V_hauberkref02_bit (bif decide (x.1.2.2.2.2.2.1 < 0) then w64 (x.1.2.2.2.2.2.1 + 33554432) else x.1.2.2.2.2.2.1, 22) + V_hauberkref02_bit (bif decide (x.1.2.2.2.2.2.1 < 0) then w64 (x.1.2.2.2.2.2.1 + 33554432) else x.1.2.2.2.2.2.1, 24))) 2)))
            .fail)
           (.ite (G_hauberkref02_bit (bif decide (x.1.2.2.2.2.2.1 < 0) then w64 (x.1.2.2.2.2.2.1 + 33554432) else x.1.2.2.2.2.2.1, w64 (IntKind.wrap IntKind.u8 (x.2.1 - 65))))
            (.ret (V_hauberkref02_bit (bif decide (x.1.2.2.2.2.2.1 < 0) then w64 (x.1.2.2.2.2.2.1 + 33554432) else x.1.2.2.2.2.2.1, w64 (IntKind.wrap IntKind.u8 (x.2.1 - 65)))))
            .fail))))))))))
/-- A number of 25 bits, with its sign. -/
def imm25 (imm : Int) : Int := bif decide (imm < 0) then imm + 33554432 else imm
/-- What a letter of the table means, and which bit of it. -/
def fldL (rd rn rm ra imm cond c : Int) (f : Nat) : Nat :=
  bif c == 48 then 0 else bif c == 49 then 1
  else bif c == 100 then bit64 rd f
  else bif c == 110 then bit64 rn f
  else bif c == 109 then bit64 rm f
  else bif c == 97 then bit64 ra f
  else bif c == 99 then bit64 cond f
  else bif c == 119 then bit64 (imm + ra - 1) f
  else bif c == 120 then 1 - (bit64 (imm25 imm) 23 + bit64 (imm25 imm) 24) % 2
  else bif c == 121 then 1 - (bit64 (imm25 imm) 22 + bit64 (imm25 imm) 24) % 2
  else bit64 (imm25 imm) (c - 65).toNat
theorem bit64_le (x : Int) (n : Nat) : bit64 x n ≤ 1 := bt_le _ _
theorem cond_le {b : Bool} {x y : Nat} (hx : x ≤ 1) (hy : y ≤ 1) : (bif b then x else y) ≤ 1 := by cases b <;> assumption
theorem fldL_le (rd rn rm ra imm cond c : Int) (f : Nat) : fldL rd rn rm ra imm cond c f ≤ 1 := by
  unfold fldL
  refine cond_le (by omega) (cond_le (by omega) (cond_le (bit64_le _ _) (cond_le (bit64_le _ _) (cond_le (bit64_le _ _) (cond_le (bit64_le _ _) (cond_le (bit64_le _ _) (cond_le (bit64_le _ _) (cond_le (by omega) (cond_le (by omega) (bit64_le _ _))))))))))
def isLetter (c : Int) : Bool := c == 48 || (c == 49 || (c == 100 || (c == 110 || (c == 109 || (c == 97 || (c == 99 || (c == 119 || (c == 120 || (c == 121 || (decide (65 ≤ c) && decide (c ≤ 89)))))))))))
theorem bit64_w64 (x : Int) (n : Nat) : bit64 (w64 x) n = bit64 x n := by
  unfold bit64
  rw [w64_eq]
  congr 2
  split <;> omega
theorem bit_ok (x : Int) (n : Nat) (hn : n ≤ 100) : G_hauberkref02_bit (x, (n : Int)) = true := by
  simp only [G_hauberkref02_bit, Bool.and_eq_true, decide_eq_true_eq]
  exact ⟨by show (0 : Int) ≤ (n : Int); omega, by show (n : Int) ≤ 100; omega⟩
theorem bit_eq (x : Int) (n : Nat) : V_hauberkref02_bit (x, (n : Int)) = (bit64 x n : Int) := rfl
theorem imm25_w (imm : Int) (n : Nat) : bit64 (bif decide (imm < 0) then w64 (imm + 33554432) else imm) n = bit64 (imm25 imm) n := by
  unfold imm25
  cases decide (imm < 0)
  · rfl
  · exact bit64_w64 _ _
set_option maxHeartbeats 1000000 in
theorem field_val (op rd rn rm ra imm cond : Int) (w : Bool) (c : Int) (f : Nat) (hf : f ≤ 40) (hc : isLetter c = true) : (T_hauberkref02_field ((op, rd, rn, rm, ra, imm, cond, w, ()), c, (f : Int))).val = some ((fldL rd rn rm ra imm cond c f : Nat) : Int) := by
  have g : ∀ x : Int, G_hauberkref02_bit (x, (f : Int)) = true := fun x => bit_ok x f (by omega)
  have e : ∀ x : Int, V_hauberkref02_bit (x, (f : Int)) = (bit64 x f : Int) := fun x => rfl
  by_cases h0 : 65 ≤ c ∧ c ≤ 89
  · have q : ∀ k : Int, k < 65 ∨ 89 < k → (c == k) = false := fun k hk => by rw [beq_eq_false_iff_ne]; omega
    obtain ⟨n, hn⟩ := Int.eq_ofNat_of_zero_le (show 0 ≤ c - 65 by omega)
    have hn' : n ≤ 24 := by omega
    have hw : w64 (IntKind.u8.wrap (c - 65)) = (n : Int) := by rw [u8_wrap, hn, w64_id (by omega) (by omega)]; omega
    have g2 : ∀ x : Int, G_hauberkref02_bit (x, w64 (IntKind.u8.wrap (c - 65))) = true := fun x => by rw [hw]; exact bit_ok x n (by omega)
    have e2 : ∀ x : Int, V_hauberkref02_bit (x, w64 (IntKind.u8.wrap (c - 65))) = (bit64 x n : Int) := fun x => by rw [hw]; rfl
    have hl : fldL rd rn rm ra imm cond c f = bit64 (imm25 imm) n := by
      unfold fldL
      simp only [q 48 (by omega), q 49 (by omega), q 100 (by omega), q 110 (by omega), q 109 (by omega), q 97 (by omega), q 99 (by omega), q 119 (by omega), q 120 (by omega), q 121 (by omega), cond_false, hn, Int.toNat_natCast]
    rw [hl, ← imm25_w]
    simp only [T_hauberkref02_field, PO.val, q 48 (by omega), q 49 (by omega), q 100 (by omega), q 110 (by omega), q 109 (by omega), q 97 (by omega), q 99 (by omega), q 119 (by omega), q 120 (by omega), q 121 (by omega), cond_false]
    rw [g2, e2]
    rfl
  · have hcs : c = 48 ∨ c = 49 ∨ c = 100 ∨ c = 110 ∨ c = 109 ∨ c = 97 ∨ c = 99 ∨ c = 119 ∨ c = 120 ∨ c = 121 := by
      simp only [isLetter, Bool.or_eq_true, Bool.and_eq_true, beq_iff_eq, decide_eq_true_eq] at hc
      omega
    have par : ∀ a b : Nat, a ≤ 1 → b ≤ 1 → w64 (1 - Int.tmod (w64 ((a : Int) + (b : Int))) 2) = ((1 - (a + b) % 2 : Nat) : Int) := fun a b ha hb => by
      rw [w64_id (n := (a : Int) + (b : Int)) (by omega) (by omega), tmod_pos _ _ (by omega), w64_id (by omega) (by omega)]
      omega
    rcases hcs with rfl | rfl | rfl | rfl | rfl | rfl | rfl | rfl | rfl | rfl
    · rfl
    · rfl
    · show (bif G_hauberkref02_bit (rd, (f : Int)) then some (V_hauberkref02_bit (rd, (f : Int))) else none) = _
      rw [g]; rfl
    · show (bif G_hauberkref02_bit (rn, (f : Int)) then some (V_hauberkref02_bit (rn, (f : Int))) else none) = _
      rw [g]; rfl
    · show (bif G_hauberkref02_bit (rm, (f : Int)) then some (V_hauberkref02_bit (rm, (f : Int))) else none) = _
      rw [g]; rfl
    · show (bif G_hauberkref02_bit (ra, (f : Int)) then some (V_hauberkref02_bit (ra, (f : Int))) else none) = _
      rw [g]; rfl
    · show (bif G_hauberkref02_bit (cond, (f : Int)) then some (V_hauberkref02_bit (cond, (f : Int))) else none) = _
      rw [g]; rfl
    · show (bif G_hauberkref02_bit (w64 (w64 (imm + ra) - 1), (f : Int)) then some (V_hauberkref02_bit (w64 (w64 (imm + ra) - 1), (f : Int))) else none) = some ((bit64 (imm + ra - 1) f : Nat) : Int)
      rw [g, e, bit64_w64]
      have : bit64 (w64 (imm + ra) - 1) f = bit64 (imm + ra - 1) f := by
        unfold bit64
        rw [w64_eq]
        congr 2
        split <;> omega
      rw [this]
      rfl
    · show (bif G_hauberkref02_bit ((bif decide (imm < 0) then w64 (imm + 33554432) else imm), ((23 : Nat) : Int)) && G_hauberkref02_bit ((bif decide (imm < 0) then w64 (imm + 33554432) else imm), ((24 : Nat) : Int)) then some (w64 (1 - Int.tmod (w64 (((bit64 (bif decide (imm < 0) then w64 (imm + 33554432) else imm) 23 : Nat) : Int) + ((bit64 (bif decide (imm < 0) then w64 (imm + 33554432) else imm) 24 : Nat) : Int))) 2)) else none) = _
      rw [bit_ok _ _ (by omega), bit_ok _ _ (by omega), par _ _ (bit64_le _ _) (bit64_le _ _), imm25_w, imm25_w]
      rfl
    · show (bif G_hauberkref02_bit ((bif decide (imm < 0) then w64 (imm + 33554432) else imm), ((22 : Nat) : Int)) && G_hauberkref02_bit ((bif decide (imm < 0) then w64 (imm + 33554432) else imm), ((24 : Nat) : Int)) then some (w64 (1 - Int.tmod (w64 (((bit64 (bif decide (imm < 0) then w64 (imm + 33554432) else imm) 22 : Nat) : Int) + ((bit64 (bif decide (imm < 0) then w64 (imm + 33554432) else imm) 24 : Nat) : Int))) 2)) else none) = _
      rw [bit_ok _ _ (by omega), bit_ok _ _ (by omega), par _ _ (bit64_le _ _) (bit64_le _ _), imm25_w, imm25_w]
      rfl
def G_hauberkref02_field (x : dens A_hauberkref02_field) : Bool := isLetter x.2.1 && (decide ((0 : Int) ≤ x.2.2) && decide ((x.2.2 : Int) ≤ 40))
def V_hauberkref02_field (x : dens A_hauberkref02_field) : Sh.den S_hauberkref02_field := (fldL x.1.2.1 x.1.2.2.1 x.1.2.2.2.1 x.1.2.2.2.2.1 x.1.2.2.2.2.2.1 x.1.2.2.2.2.2.2.1 x.2.1 (Int.toNat x.2.2) : Int)
theorem ok_hauberkref02_field (x : dens A_hauberkref02_field) (h : G_hauberkref02_field x = true) : (T_hauberkref02_field x).val = some (V_hauberkref02_field x) := by
  obtain ⟨⟨op, rd, rn, rm, ra, imm, cond, w, u⟩, c, f⟩ := x
  simp only [G_hauberkref02_field, Bool.and_eq_true, decide_eq_true_eq] at h
  obtain ⟨hc, h1, h2⟩ := h
  obtain ⟨f, rfl⟩ := Int.eq_ofNat_of_zero_le h1
  have h3 : (f : Int) ≤ 40 := h2
  exact field_val op rd rn rm ra imm cond w c f (by omega) hc
end Go.Av
