/- Texts of the proof, one behind the other. -/
import Derived.Test.YtamnhodjidmlcaaAvClaim
/-! Words that all plain texts share. -/
section
namespace Go.Av
open Go
theorem dec_true {p : Prop} [Decidable p] (h : p) : decide p = true := decide_eq_true h
theorem dec_false {p : Prop} [Decidable p] (h : ¬ p) : decide p = false := decide_eq_false h

theorem w64_id {n : Int} (h1 : -9223372036854775808 ≤ n) (h2 : n < 9223372036854775808) : w64 n = n := wrap_i64 n h1 (by omega)

theorem inR {i n : Nat} (h : i < n) : inRange (i : Int) n = true := by
  simp [inRange]
  omega

/-- A loop that counts from i to n: what holds of each turn's state. -/
theorem runL_count {σ : Type} {turn : σ → PO (TL σ)} (st : Nat → σ) (r : Nat × σ) {n : Nat} (hon : ∀ i, i < n → (turn (st i)).val = some (.on (st (i + 1)))) (hout : (turn (st n)).val = some (.out r.1 r.2)) :
    ∀ (k i : Nat), i + k = n → ∀ f, k < f → runL turn f (st i) = some r
  | 0, i, h, f, hf => by
    obtain ⟨f, rfl⟩ : ∃ g, f = g + 1 := ⟨f - 1, by omega⟩
    have : i = n := by omega
    subst this
    rw [runL_out hout]
  | k + 1, i, h, f, hf => by
    obtain ⟨f, rfl⟩ : ∃ g, f = g + 1 := ⟨f - 1, by omega⟩
    have hv := hon i (by omega)
    rw [runL_on hv]
    exact runL_count st r hon hout k (i + 1) (by omega) f (by omega)

theorem getD_nat {α : Type} (l : List α) (i : Nat) (d : α) : l.getD (Int.toNat (i : Int)) d = l.getD i d := by simp

/-! ### Lists that are held against one another -/

theorem getD_in {α : Type} (l : List α) (d : α) {i : Nat} (hi : i < l.length) : l.getD i d = l[i] := by
  rw [List.getD_eq_getElem?_getD, List.getElem?_eq_getElem hi]; rfl

theorem w64_eq (n : Int) : w64 n = if 9223372036854775808 ≤ n % 18446744073709551616 then n % 18446744073709551616 - 18446744073709551616 else n % 18446744073709551616 := by
  have h : w64 n = if (true && decide (n % 18446744073709551616 ≥ 9223372036854775808)) = true then n % 18446744073709551616 - 18446744073709551616 else n % 18446744073709551616 := rfl
  rw [h]
  simp only [Bool.true_and, decide_eq_true_eq, ge_iff_le]

theorem i32_eq (n : Int) : IntKind.i32.wrap n = if 2147483648 ≤ n % 4294967296 then n % 4294967296 - 4294967296 else n % 4294967296 := by
  have h : IntKind.i32.wrap n = if (true && decide (n % 4294967296 ≥ 2147483648)) = true then n % 4294967296 - 4294967296 else n % 4294967296 := rfl
  rw [h]
  simp only [Bool.true_and, decide_eq_true_eq, ge_iff_le]
theorem val_yes {α : Type} {b : Bool} {p q : PO α} (h : b = true) : (PO.ite b p q).val = p.val := by subst h; rfl
theorem val_no {α : Type} {b : Bool} {p q : PO α} (h : b = false) : (PO.ite b p q).val = q.val := by subst h; rfl
theorem val_opt {α β : Type} {o : Option β} {r : β} {k : β → PO α} (h : o = some r) : (PO.opt o k).val = (k r).val := by subst h; rfl
end Go.Av
end
/-! Layer 2: instructions. -/
section
namespace Go.Av
open Go
/-- thumb.within -/
abbrev A_thumb_within : List Ty := [(.int .i64), (.int .i64), (.int .i64)]
abbrev S_thumb_within : Sh := Sh.ty Ty.bool
def T_thumb_within (x : dens A_thumb_within) : PO (Sh.den S_thumb_within) :=
  (.ret (decide (x.1 ≥ x.2.1) && decide (x.1 ≤ x.2.2)))
def G_thumb_within (_ : dens A_thumb_within) : Bool := true
def V_thumb_within (x : dens A_thumb_within) : Sh.den S_thumb_within := (T_thumb_within x).getO default
theorem ok_thumb_within (x : dens A_thumb_within) (_ : G_thumb_within x = true) : (T_thumb_within x).val = some (V_thumb_within x) := PO.sure_ok default (by simp [T_thumb_within, PO.sure])
/-- thumb.field -/
abbrev A_thumb_field : List Ty := [(.int .i64), (.int .i64)]
abbrev S_thumb_field : Sh := Sh.ty Ty.bool
def T_thumb_field (x : dens A_thumb_field) : PO (Sh.den S_thumb_field) :=
  (.ite (x.2 == -1)
   (.ret (x.1 == 0))
   (.ret (V_thumb_within (x.1, 0, x.2))))
def G_thumb_field (_ : dens A_thumb_field) : Bool := true
def V_thumb_field (x : dens A_thumb_field) : Sh.den S_thumb_field := (T_thumb_field x).getO default
theorem ok_thumb_field (x : dens A_thumb_field) (_ : G_thumb_field x = true) : (T_thumb_field x).val = some (V_thumb_field x) := PO.sure_ok default (by simp [T_thumb_field, PO.sure])
/-- thumb.formOf -/
abbrev A_thumb_formOf : List Ty := [(.int .i64)]
abbrev S_thumb_formOf : Sh := Sh.tup (Sh.pair (Sh.ty tOp) (Sh.pair (Sh.ty Ty.bool) (Sh.ty Ty.unit)))
def T_thumb_formOf (x : dens A_thumb_formOf) : PO (Sh.den S_thumb_formOf) :=
  (.ite (x == 1)
   (.ret (((-1, -1, -1, -1, 0, 0, ()), true, ())))
   (.ite (x == 2)
    (.ret (((-1, -1, -1, -1, 0, 255, ()), true, ())))
    (.ite (bif x == 3 then x == 3 else x == 4)
     (.ret (((12, -1, -1, -1, 0, 65535, ()), true, ())))
     (.ite (x == 5)
      (.ret (((12, -1, 12, -1, 0, 31, ()), true, ())))
      (.ite (bif x == 6 then x == 6 else bif x == 7 then x == 7 else x == 8)
       (.ret (((12, -1, 12, -1, 1, 31, ()), true, ())))
       (.ite (x == 9)
        (.ret (((12, -1, 12, -1, 0, 0, ()), true, ())))
        (.ite (bif x == 10 then x == 10 else bif x == 11 then x == 11 else bif x == 12 then x == 12 else bif x == 13 then x == 13 else bif x == 14 then x == 14 else bif x == 15 then x == 15 else x == 16)
         (.ret (((12, 12, 12, -1, 0, 0, ()), true, ())))
         (.ite (x == 17)
          (.ret (((12, 12, 12, 12, 0, 0, ()), true, ())))
          (.ite (x == 18)
           (.ret (((12, 12, -1, 32, 0, 31, ()), true, ())))
           (.ite (bif x == 19 then x == 19 else bif x == 20 then x == 20 else bif x == 21 then x == 21 else x == 22)
            (.ret (((7, 7, -1, -1, 0, 0, ()), true, ())))
            (.ite (x == 23)
             (.ret (((-1, 7, 7, -1, 0, 0, ()), true, ())))
             (.ret (((0, 0, 0, 0, 0, 0, ()), false, ()))))))))))))))
def G_thumb_formOf (_ : dens A_thumb_formOf) : Bool := true
def V_thumb_formOf (x : dens A_thumb_formOf) : Sh.den S_thumb_formOf := (T_thumb_formOf x).getO default
theorem ok_thumb_formOf (x : dens A_thumb_formOf) (_ : G_thumb_formOf x = true) : (T_thumb_formOf x).val = some (V_thumb_formOf x) := PO.sure_ok default (by simp [T_thumb_formOf, PO.sure])
/-- thumb.Reach -/
abbrev A_thumb_Reach : List Ty := [(.int .i64), .bool]
abbrev S_thumb_Reach : Sh := Sh.tup (Sh.pair (Sh.ty (Ty.int IntKind.i64)) (Sh.pair (Sh.ty (Ty.int IntKind.i64)) (Sh.ty Ty.unit)))
def T_thumb_Reach (x : dens A_thumb_Reach) : PO (Sh.den S_thumb_Reach) :=
  (.ite (x.1 == 24)
   (.ret ((w64 (0 - bif x.2 then 16777216 else 2048), w64 ((bif x.2 then 16777216 else 2048) - 2), ())))
   (.ite (x.1 == 25)
    (.ret ((w64 (0 - bif x.2 then 1048576 else 256), w64 ((bif x.2 then 1048576 else 256) - 2), ())))
    (.ret ((0, 0, ())))))
def G_thumb_Reach (_ : dens A_thumb_Reach) : Bool := true
def V_thumb_Reach (x : dens A_thumb_Reach) : Sh.den S_thumb_Reach := (T_thumb_Reach x).getO default
theorem ok_thumb_Reach (x : dens A_thumb_Reach) (_ : G_thumb_Reach x = true) : (T_thumb_Reach x).val = some (V_thumb_Reach x) := PO.sure_ok default (by simp [T_thumb_Reach, PO.sure])
/-- thumb.branch -/
abbrev A_thumb_branch : List Ty := [tIns]
abbrev S_thumb_branch : Sh := Sh.ty (Ty.int IntKind.i64)
def T_thumb_branch (x : dens A_thumb_branch) : PO (Sh.den S_thumb_branch) :=
  (.ite (x.2.1 != 0 || (x.2.2.1 != 0 || (x.2.2.2.1 != 0 || (x.2.2.2.2.1 != 0 || bif x.1 == 24 then x.2.2.2.2.2.2.1 != 0 || true else true))))
   (.ite (x.2.1 != 0 || (x.2.2.1 != 0 || (x.2.2.2.1 != 0 || (x.2.2.2.2.1 != 0 || bif x.1 == 24 then x.2.2.2.2.2.2.1 != 0 || !V_thumb_within (x.2.2.2.2.2.2.1, 0, 13) else !V_thumb_within (x.2.2.2.2.2.2.1, 0, 13)))))
    (.ret (2))
    (.ite (band IntKind.i64 x.2.2.2.2.2.1 1 != 0 || true)
     (.ite (band IntKind.i64 x.2.2.2.2.2.1 1 != 0 || !V_thumb_within (x.2.2.2.2.2.1, (V_thumb_Reach (x.1, x.2.2.2.2.2.2.2.1)).1, (V_thumb_Reach (x.1, x.2.2.2.2.2.2.2.1)).2.1))
      (.ret (6))
      (.ret (0)))
     .fail))
   .fail)
def G_thumb_branch (_ : dens A_thumb_branch) : Bool := true
def V_thumb_branch (x : dens A_thumb_branch) : Sh.den S_thumb_branch := (T_thumb_branch x).getO default
theorem ok_thumb_branch (x : dens A_thumb_branch) (_ : G_thumb_branch x = true) : (T_thumb_branch x).val = some (V_thumb_branch x) := PO.tots_ok default (by simp [T_thumb_branch, PO.tots])
/-- thumb.Check -/
abbrev A_thumb_Check : List Ty := [tIns]
abbrev S_thumb_Check : Sh := Sh.ty (Ty.int IntKind.i64)
def T_thumb_Check (x : dens A_thumb_Check) : PO (Sh.den S_thumb_Check) :=
  (.ite (x.1 == 24 || x.1 == 25)
   (.ret (V_thumb_branch x))
   (.ite (!(V_thumb_formOf x.1).2.1 || (x.2.2.2.2.2.2.2.1 || (x.2.2.2.2.2.2.1 != 0 || true)))
    (.ite (!(V_thumb_formOf x.1).2.1 || (x.2.2.2.2.2.2.2.1 || (x.2.2.2.2.2.2.1 != 0 || !V_thumb_within (x.2.2.2.2.2.1, (V_thumb_formOf x.1).1.2.2.2.2.1, (V_thumb_formOf x.1).1.2.2.2.2.2.1))))
     (.ret (2))
     (.ite (!V_thumb_field (x.2.1, (V_thumb_formOf x.1).1.1) || (!V_thumb_field (x.2.2.1, (V_thumb_formOf x.1).1.2.1) || (!V_thumb_field (x.2.2.2.1, (V_thumb_formOf x.1).1.2.2.1) || true)))
      (.ite (!V_thumb_field (x.2.1, (V_thumb_formOf x.1).1.1) || (!V_thumb_field (x.2.2.1, (V_thumb_formOf x.1).1.2.1) || (!V_thumb_field (x.2.2.2.1, (V_thumb_formOf x.1).1.2.2.1) || !V_thumb_field (x.2.2.2.2.1, (V_thumb_formOf x.1).1.2.2.2.1))))
       (.ret (2))
       (.ite (bif x.1 == 17 then x.2.2.2.2.1 == x.2.1 || (x.1 == 18 || true) else x.1 == 18 || true)
        (.ite (bif x.1 == 17 then x.2.2.2.2.1 == x.2.1 || x.1 == 18 && !V_thumb_within (x.2.2.2.2.1, 1, w64 (32 - x.2.2.2.2.2.1)) else x.1 == 18 && !V_thumb_within (x.2.2.2.2.1, 1, w64 (32 - x.2.2.2.2.2.1)))
         (.ret (2))
         (.ret (0)))
        .fail))
      .fail))
    .fail))
def G_thumb_Check (_ : dens A_thumb_Check) : Bool := true
def V_thumb_Check (x : dens A_thumb_Check) : Sh.den S_thumb_Check := (T_thumb_Check x).getO default
theorem ok_thumb_Check (x : dens A_thumb_Check) (_ : G_thumb_Check x = true) : (T_thumb_Check x).val = some (V_thumb_Check x) := PO.tots_ok default (by simp [T_thumb_Check, PO.tots])
end Go.Av
end
/-! Layer 2: instructions, by the document's table of bits. -/
section
namespace Go.Av
open Go
/-- hauberkref02.more -/
abbrev A_hauberkref02_more : List Ty := [(.int .i64)]
abbrev S_hauberkref02_more : Sh := Sh.ty Ty.str
def T_hauberkref02_more (x : dens A_hauberkref02_more) : PO (Sh.den S_hauberkref02_more) :=
  (.ite (x == 13)
   (.ret ([49, 49, 49, 48, 49, 48, 49, 48, 49, 48, 48, 48, 110, 110, 110, 110, 48, 48, 48, 48, 100, 100, 100, 100, 48, 48, 48, 48, 109, 109, 109, 109]))
   (.ite (x == 14)
    (.ret ([49, 49, 49, 48, 49, 48, 49, 49, 48, 48, 48, 48, 110, 110, 110, 110, 48, 48, 48, 48, 100, 100, 100, 100, 48, 48, 48, 48, 109, 109, 109, 109]))
    (.ite (x == 15)
     (.ret ([49, 49, 49, 48, 49, 48, 49, 49, 49, 48, 49, 48, 110, 110, 110, 110, 48, 48, 48, 48, 100, 100, 100, 100, 48, 48, 48, 48, 109, 109, 109, 109]))
     (.ite (x == 16)
      (.ret ([49, 49, 49, 49, 49, 48, 49, 49, 48, 48, 48, 48, 110, 110, 110, 110, 49, 49, 49, 49, 100, 100, 100, 100, 48, 48, 48, 48, 109, 109, 109, 109]))
      (.ite (x == 17)
       (.ret ([49, 49, 49, 49, 49, 48, 49, 49, 49, 48, 49, 48, 110, 110, 110, 110, 100, 100, 100, 100, 97, 97, 97, 97, 48, 48, 48, 48, 109, 109, 109, 109]))
       (.ite (x == 18)
        (.ret ([49, 49, 49, 49, 48, 48, 49, 49, 48, 49, 49, 48, 110, 110, 110, 110, 48, 69, 68, 67, 100, 100, 100, 100, 66, 65, 48, 119, 119, 119, 119, 119]))
        (.ite (x == 19)
         (.ret ([48, 49, 49, 48, 49, 48, 48, 48, 48, 48, 110, 110, 110, 100, 100, 100]))
         (.ite (x == 20)
          (.ret ([48, 49, 49, 48, 48, 48, 48, 48, 48, 48, 110, 110, 110, 100, 100, 100]))
          (.ite (x == 21)
           (.ret ([48, 49, 49, 49, 49, 48, 48, 48, 48, 48, 110, 110, 110, 100, 100, 100]))
           (.ite (x == 22)
            (.ret ([48, 49, 49, 49, 48, 48, 48, 48, 48, 48, 110, 110, 110, 100, 100, 100]))
            (.ite (x == 23)
             (.ret ([48, 49, 48, 48, 48, 48, 49, 48, 49, 48, 109, 109, 109, 110, 110, 110]))
             (.ite (x == 24)
              (.ret ([49, 49, 49, 48, 48, 76, 75, 74, 73, 72, 71, 70, 69, 68, 67, 66]))
              (.ite (x == 25)
               (.ret ([49, 49, 48, 49, 99, 99, 99, 99, 73, 72, 71, 70, 69, 68, 67, 66]))
               (.ret ([])))))))))))))))
def V_hauberkref02_more (x : dens A_hauberkref02_more) : Sh.den S_hauberkref02_more := (T_hauberkref02_more x).getO default
/-- hauberkref02.Bits -/
abbrev A_hauberkref02_Bits : List Ty := [(.int .i64), .bool]
abbrev S_hauberkref02_Bits : Sh := Sh.ty Ty.str
def T_hauberkref02_Bits (x : dens A_hauberkref02_Bits) : PO (Sh.den S_hauberkref02_Bits) :=
  (.ite (x.2)
   (.ite (x.1 == 24)
    (.ret ([49, 49, 49, 49, 48, 89, 86, 85, 84, 83, 82, 81, 80, 79, 78, 77, 49, 48, 120, 49, 121, 76, 75, 74, 73, 72, 71, 70, 69, 68, 67, 66]))
    (.ite (x.1 == 25)
     (.ret ([49, 49, 49, 49, 48, 85, 99, 99, 99, 99, 82, 81, 80, 79, 78, 77, 49, 48, 83, 48, 84, 76, 75, 74, 73, 72, 71, 70, 69, 68, 67, 66]))
     (.ret ([]))))
   (.ite (x.1 == 1)
    (.ret ([49, 48, 49, 49, 49, 49, 49, 49, 48, 48, 48, 48, 48, 48, 48, 48]))
    (.ite (x.1 == 2)
     (.ret ([49, 48, 49, 49, 49, 49, 49, 48, 72, 71, 70, 69, 68, 67, 66, 65]))
     (.ite (x.1 == 3)
      (.ret ([49, 49, 49, 49, 48, 76, 49, 48, 48, 49, 48, 48, 80, 79, 78, 77, 48, 75, 74, 73, 100, 100, 100, 100, 72, 71, 70, 69, 68, 67, 66, 65]))
      (.ite (x.1 == 4)
       (.ret ([49, 49, 49, 49, 48, 76, 49, 48, 49, 49, 48, 48, 80, 79, 78, 77, 48, 75, 74, 73, 100, 100, 100, 100, 72, 71, 70, 69, 68, 67, 66, 65]))
       (.ite (x.1 == 5)
        (.ret ([49, 49, 49, 48, 49, 48, 49, 48, 48, 49, 48, 48, 49, 49, 49, 49, 48, 69, 68, 67, 100, 100, 100, 100, 66, 65, 48, 48, 109, 109, 109, 109]))
        (.ite (x.1 == 6)
         (.ret ([49, 49, 49, 48, 49, 48, 49, 48, 48, 49, 48, 48, 49, 49, 49, 49, 48, 69, 68, 67, 100, 100, 100, 100, 66, 65, 48, 49, 109, 109, 109, 109]))
         (.ite (x.1 == 7)
          (.ret ([49, 49, 49, 48, 49, 48, 49, 48, 48, 49, 48, 48, 49, 49, 49, 49, 48, 69, 68, 67, 100, 100, 100, 100, 66, 65, 49, 48, 109, 109, 109, 109]))
          (.ite (x.1 == 8)
           (.ret ([49, 49, 49, 48, 49, 48, 49, 48, 48, 49, 48, 48, 49, 49, 49, 49, 48, 69, 68, 67, 100, 100, 100, 100, 66, 65, 49, 49, 109, 109, 109, 109]))
           (.ite (x.1 == 9)
            (.ret ([49, 49, 49, 48, 49, 48, 49, 48, 48, 49, 49, 48, 49, 49, 49, 49, 48, 48, 48, 48, 100, 100, 100, 100, 48, 48, 48, 48, 109, 109, 109, 109]))
            (.ite (x.1 == 10)
             (.ret ([49, 49, 49, 48, 49, 48, 49, 48, 48, 48, 48, 48, 110, 110, 110, 110, 48, 48, 48, 48, 100, 100, 100, 100, 48, 48, 48, 48, 109, 109, 109, 109]))
             (.ite (x.1 == 11)
              (.ret ([49, 49, 49, 48, 49, 48, 49, 48, 48, 48, 49, 48, 110, 110, 110, 110, 48, 48, 48, 48, 100, 100, 100, 100, 48, 48, 48, 48, 109, 109, 109, 109]))
              (.ite (x.1 == 12)
               (.ret ([49, 49, 49, 48, 49, 48, 49, 48, 48, 49, 48, 48, 110, 110, 110, 110, 48, 48, 48, 48, 100, 100, 100, 100, 48, 48, 48, 48, 109, 109, 109, 109]))
               (.ret (V_hauberkref02_more x.1)))))))))))))))
def V_hauberkref02_Bits (x : dens A_hauberkref02_Bits) : Sh.den S_hauberkref02_Bits := (T_hauberkref02_Bits x).getO default
end Go.Av
end
/-! Layer 2: that there is an instruction, by the table of bits, is what the program says. -/
section
namespace Go.Av
open Go

theorem op_cases (n : Int) : n = 1 ∨ n = 2 ∨ n = 3 ∨ n = 4 ∨ n = 5 ∨ n = 6 ∨ n = 7 ∨ n = 8 ∨ n = 9 ∨ n = 10 ∨ n = 11 ∨ n = 12 ∨ n = 13 ∨ n = 14 ∨ n = 15 ∨ n = 16 ∨ n = 17 ∨ n = 18 ∨ n = 19 ∨ n = 20 ∨ n = 21 ∨ n = 22 ∨ n = 23 ∨ n = 24 ∨ n = 25 ∨ (n < 1 ∨ 25 < n) := by omega

theorem op_none {n k : Int} (h : n < 1 ∨ 25 < n) (hk : 1 ≤ k ∧ k ≤ 25) : (n == k) = false := by
  rw [beq_eq_false_iff_ne]
  omega

theorem left_same (imm : Int) (h1 : 0 ≤ imm) (h2 : imm ≤ 31) : w64 (32 - imm) = 32 - imm := w64_id (by omega) (by omega)

end Go.Av
end
/-! Layer 1: words. -/
section
namespace Go.Av
open Go
/-- A word. -/
def wn (n : Int) : Nat := (n % 4294967296).toNat

theorem wn_int (n : Int) : (wn n : Int) = n % 4294967296 := by unfold wn; omega
theorem wn_lt (n : Int) : wn n < 4294967296 := by unfold wn; omega
theorem wn_nat {k : Nat} (h : k < 4294967296) : wn (k : Int) = k := by unfold wn; omega
theorem band_32 (n : Int) : band .i64 n 4294967295 = n % 4294967296 := band_low n 32 (by omega)
theorem band_31 (n : Int) : band .i64 n 31 = n % 32 := band_low n 5 (by omega)
theorem band_one (n : Int) : band .i64 n 1 = n % 2 := band_low n 1 (by omega)
theorem mod64 (n : Int) : n % 18446744073709551616 % 4294967296 = n % 4294967296 := Int.emod_emod_of_dvd n (by decide)
theorem w64_mod (n : Int) : w64 n % 4294967296 = n % 4294967296 := by
  rw [w64_eq]; split <;> omega
/-- A number's word, out of an operation on bits. -/
theorem wn_w64 (n : Nat) : wn (w64 (n : Int)) = n % 4294967296 := by unfold wn; rw [w64_mod]; omega
theorem ofInt_mod (n : Int) : (BitVec.ofInt 64 n).toNat % 4294967296 = wn n := by
  have := ofInt_toNat 64 n
  unfold wn
  omega
/-- word.Wrap -/
abbrev A_word_Wrap : List Ty := [(.int .i64)]
abbrev S_word_Wrap : Sh := Sh.ty (Ty.int IntKind.i64)
def T_word_Wrap (x : dens A_word_Wrap) : PO (Sh.den S_word_Wrap) :=
  (.ret (band IntKind.i64 x 4294967295))
def G_word_Wrap (_ : dens A_word_Wrap) : Bool := true
def V_word_Wrap (x : dens A_word_Wrap) : Sh.den S_word_Wrap := (wn x : Int)
theorem ok_word_Wrap (x : dens A_word_Wrap) (_ : G_word_Wrap x = true) : (T_word_Wrap x).val = some (V_word_Wrap x) := by
  show some _ = some _
  rw [band_32, V_word_Wrap, wn_int]
/-- How far a word is shifted. -/
def kk (n : Int) : Nat := (n % 32).toNat
theorem kk_int (n : Int) : (kk n : Int) = n % 32 := by unfold kk; omega
theorem kk_lt (n : Int) : kk n < 32 := by unfold kk; omega
/-- word.many -/
abbrev A_word_many : List Ty := [(.int .i64)]
abbrev S_word_many : Sh := Sh.ty (Ty.int IntKind.i64)
def T_word_many (x : dens A_word_many) : PO (Sh.den S_word_many) :=
  (.ret (band IntKind.i64 x 31))
def G_word_many (_ : dens A_word_many) : Bool := true
def V_word_many (x : dens A_word_many) : Sh.den S_word_many := (kk x : Int)
theorem ok_word_many (x : dens A_word_many) (_ : G_word_many x = true) : (T_word_many x).val = some (V_word_many x) := by
  show some _ = some _
  rw [band_31, V_word_many, kk_int]
/-- word.Add -/
abbrev A_word_Add : List Ty := [(.int .i64), (.int .i64)]
abbrev S_word_Add : Sh := Sh.ty (Ty.int IntKind.i64)
def T_word_Add (x : dens A_word_Add) : PO (Sh.den S_word_Add) :=
  (.ret (V_word_Wrap (w64 (x.1 + x.2))))
def G_word_Add (_ : dens A_word_Add) : Bool := true
def V_word_Add (x : dens A_word_Add) : Sh.den S_word_Add := (wn (x.1 + x.2) : Int)
theorem ok_word_Add (x : dens A_word_Add) (_ : G_word_Add x = true) : (T_word_Add x).val = some (V_word_Add x) := by
  show some _ = some _
  rw [V_word_Wrap, V_word_Add, wn_int, wn_int, w64_mod]
/-- word.Sub -/
abbrev A_word_Sub : List Ty := [(.int .i64), (.int .i64)]
abbrev S_word_Sub : Sh := Sh.ty (Ty.int IntKind.i64)
def T_word_Sub (x : dens A_word_Sub) : PO (Sh.den S_word_Sub) :=
  (.ret (V_word_Wrap (w64 (x.1 - x.2))))
def G_word_Sub (_ : dens A_word_Sub) : Bool := true
def V_word_Sub (x : dens A_word_Sub) : Sh.den S_word_Sub := (wn (x.1 - x.2) : Int)
theorem ok_word_Sub (x : dens A_word_Sub) (_ : G_word_Sub x = true) : (T_word_Sub x).val = some (V_word_Sub x) := by
  show some _ = some _
  rw [V_word_Wrap, V_word_Sub, wn_int, wn_int, w64_mod]
/-- word.product -/
abbrev A_word_product : List Ty := [(.int .i64), (.int .i64)]
abbrev S_word_product : Sh := Sh.ty (Ty.int IntKind.u64)
def T_word_product (x : dens A_word_product) : PO (Sh.den S_word_product) :=
  (.ret (IntKind.wrap IntKind.u64 (IntKind.wrap IntKind.u64 (V_word_Wrap x.1) * IntKind.wrap IntKind.u64 (V_word_Wrap x.2))))
def G_word_product (_ : dens A_word_product) : Bool := true
def V_word_product (x : dens A_word_product) : Sh.den S_word_product := ((wn x.1 * wn x.2 : Nat) : Int)
theorem ok_word_product (x : dens A_word_product) (_ : G_word_product x = true) : (T_word_product x).val = some (V_word_product x) := by
  show some _ = some _
  have h1 := wn_lt x.1
  have h2 := wn_lt x.2
  have h3 : wn x.1 * wn x.2 ≤ 4294967295 * 4294967295 := Nat.mul_le_mul (by omega) (by omega)
  rw [V_word_product]
  simp only [V_word_Wrap, u64_wrap]
  rw [Int.emod_eq_of_lt (a := (wn x.1 : Int)) (by omega) (by omega), Int.emod_eq_of_lt (a := (wn x.2 : Int)) (by omega) (by omega)]
  have e : (wn x.1 : Int) * (wn x.2 : Int) = ((wn x.1 * wn x.2 : Nat) : Int) := by simp
  rw [e, Int.emod_eq_of_lt (by omega) (by omega)]
theorem wn_eq {a b : Int} (h : a % 4294967296 = b % 4294967296) : wn a = wn b := by unfold wn; rw [h]
theorem mul_lt (a b : Int) : wn a * wn b ≤ 18446744065119617025 := by
  have h1 := wn_lt a
  have h2 := wn_lt b
  exact Nat.mul_le_mul (show wn a ≤ 4294967295 by omega) (show wn b ≤ 4294967295 by omega)
theorem ofInt_nat {m : Nat} (h : m < 18446744073709551616) : (BitVec.ofInt 64 (m : Int)).toNat = m := by
  have := ofInt_toNat 64 m
  omega
theorem band_u64 {m : Nat} (h : m < 18446744073709551616) : band .u64 (m : Int) 4294967295 = ((m % 4294967296 : Nat) : Int) := by
  show IntKind.u64.wrap (BitVec.ofInt 64 (m : Int) &&& BitVec.ofInt 64 4294967295).toNat = _
  rw [BitVec.toNat_and, ofInt_nat h, show (BitVec.ofInt 64 4294967295).toNat = 2 ^ 32 - 1 from by decide, Nat.and_two_pow_sub_one_eq_mod, u64_wrap]
  omega
theorem and_wn (a b : Int) : wn (band .i64 a b) = wn a &&& wn b := by
  show wn (w64 (BitVec.ofInt 64 a &&& BitVec.ofInt 64 b).toNat) = _
  rw [wn_w64, BitVec.toNat_and, show (4294967296 : Nat) = 2 ^ 32 from rfl, Nat.and_mod_two_pow, ← ofInt_mod a, ← ofInt_mod b]
theorem or_wn (a b : Int) : wn (bor .i64 a b) = wn a ||| wn b := by
  show wn (w64 (BitVec.ofInt 64 a ||| BitVec.ofInt 64 b).toNat) = _
  rw [wn_w64, BitVec.toNat_or, show (4294967296 : Nat) = 2 ^ 32 from rfl, Nat.or_mod_two_pow, ← ofInt_mod a, ← ofInt_mod b]
theorem xor_wn (a b : Int) : wn (bxor .i64 a b) = wn a ^^^ wn b := by
  show wn (w64 (BitVec.ofInt 64 a ^^^ BitVec.ofInt 64 b).toNat) = _
  rw [wn_w64, BitVec.toNat_xor, show (4294967296 : Nat) = 2 ^ 32 from rfl, Nat.xor_mod_two_pow, ← ofInt_mod a, ← ofInt_mod b]
theorem not_wn (a : Int) : wn (icompl .i64 a) = 4294967295 - wn a := by
  have e : icompl .i64 a = w64 (BitVec.ofInt 64 (-1) ^^^ BitVec.ofInt 64 a).toNat := by
    unfold icompl
    rw [if_pos (by rfl)]
    rfl
  rw [e, show BitVec.ofInt 64 (-1) = BitVec.allOnes 64 from by decide, BitVec.allOnes_xor, wn_w64, BitVec.toNat_not, ← ofInt_mod a]
  have := (BitVec.ofInt 64 a).isLt
  omega
theorem bnot_wn (a b : Int) : wn (bnot .i64 a b) = wn a &&& (4294967295 - wn b) := by
  show wn (w64 (BitVec.ofInt 64 a &&& ~~~(BitVec.ofInt 64 b)).toNat) = _
  rw [wn_w64, BitVec.toNat_and, show (4294967296 : Nat) = 2 ^ 32 from rfl, Nat.and_mod_two_pow, BitVec.toNat_not, ← ofInt_mod a, ← ofInt_mod b]
  have := (BitVec.ofInt 64 b).isLt
  congr 1
  omega
theorem ishl_nat (a : Int) (k : Nat) (hk : k ≤ 64) : ishl .i64 a (k : Int) = w64 (a * 2 ^ k) := by
  unfold ishl
  have : min (k : Int).toNat IntKind.i64.bits = k := by simp [IntKind.bits]; omega
  rw [this]
theorem pow_lt {k n : Nat} (h : k ≤ n) : 2 ^ k ≤ 2 ^ n := Nat.pow_le_pow_right (by omega) h
theorem shl_wn (a : Nat) (k : Nat) (hk : k ≤ 64) : wn (ishl .i64 (a : Int) (k : Int)) = a * 2 ^ k % 4294967296 := by
  rw [ishl_nat _ _ hk, show (a : Int) * 2 ^ k = ((a * 2 ^ k : Nat) : Int) by simp, wn_w64]
/-- word.Mul -/
abbrev A_word_Mul : List Ty := [(.int .i64), (.int .i64)]
abbrev S_word_Mul : Sh := Sh.ty (Ty.int IntKind.i64)
def T_word_Mul (x : dens A_word_Mul) : PO (Sh.den S_word_Mul) :=
  (.ret (w64 (band IntKind.u64 (V_word_product (x.1, x.2)) 4294967295)))
def G_word_Mul (_ : dens A_word_Mul) : Bool := true
def V_word_Mul (x : dens A_word_Mul) : Sh.den S_word_Mul := ((wn x.1 * wn x.2 % 4294967296 : Nat) : Int)
theorem ok_word_Mul (x : dens A_word_Mul) (_ : G_word_Mul x = true) : (T_word_Mul x).val = some (V_word_Mul x) := by
  show some _ = some _
  have h := mul_lt x.1 x.2
  simp only [V_word_product, V_word_Mul]
  rw [band_u64 (by omega), w64_id (by omega) (by omega)]
/-- word.High -/
abbrev A_word_High : List Ty := [(.int .i64), (.int .i64)]
abbrev S_word_High : Sh := Sh.ty (Ty.int IntKind.i64)
def T_word_High (x : dens A_word_High) : PO (Sh.den S_word_High) :=
  (.ret (w64 (ishr IntKind.u64 (V_word_product (x.1, x.2)) 32)))
def G_word_High (_ : dens A_word_High) : Bool := true
def V_word_High (x : dens A_word_High) : Sh.den S_word_High := ((wn x.1 * wn x.2 / 4294967296 : Nat) : Int)
theorem ok_word_High (x : dens A_word_High) (_ : G_word_High x = true) : (T_word_High x).val = some (V_word_High x) := by
  show some _ = some _
  have h := mul_lt x.1 x.2
  simp only [V_word_product, V_word_High]
  have e : ishr .u64 ((wn x.1 * wn x.2 : Nat) : Int) 32 = ((wn x.1 * wn x.2 / 4294967296 : Nat) : Int) := by
    unfold ishr
    rw [show min (32 : Int).toNat IntKind.u64.bits = 32 from rfl, Int.fdiv_eq_ediv_of_nonneg _ (by omega)]
    omega
  rw [e, w64_id (by omega) (by omega)]
/-- word.Not -/
abbrev A_word_Not : List Ty := [(.int .i64)]
abbrev S_word_Not : Sh := Sh.ty (Ty.int IntKind.i64)
def T_word_Not (x : dens A_word_Not) : PO (Sh.den S_word_Not) :=
  (.ret (V_word_Wrap (icompl IntKind.i64 x)))
def G_word_Not (_ : dens A_word_Not) : Bool := true
def V_word_Not (x : dens A_word_Not) : Sh.den S_word_Not := ((4294967295 - wn x : Nat) : Int)
theorem ok_word_Not (x : dens A_word_Not) (_ : G_word_Not x = true) : (T_word_Not x).val = some (V_word_Not x) := by
  show some _ = some _
  rw [V_word_Wrap, V_word_Not, not_wn]
/-- word.And -/
abbrev A_word_And : List Ty := [(.int .i64), (.int .i64)]
abbrev S_word_And : Sh := Sh.ty (Ty.int IntKind.i64)
def T_word_And (x : dens A_word_And) : PO (Sh.den S_word_And) :=
  (.ret (V_word_Wrap (band IntKind.i64 x.1 x.2)))
def G_word_And (_ : dens A_word_And) : Bool := true
def V_word_And (x : dens A_word_And) : Sh.den S_word_And := ((wn x.1 &&& wn x.2 : Nat) : Int)
theorem ok_word_And (x : dens A_word_And) (_ : G_word_And x = true) : (T_word_And x).val = some (V_word_And x) := by
  show some _ = some _
  rw [V_word_Wrap, V_word_And, and_wn]
/-- word.Or -/
abbrev A_word_Or : List Ty := [(.int .i64), (.int .i64)]
abbrev S_word_Or : Sh := Sh.ty (Ty.int IntKind.i64)
def T_word_Or (x : dens A_word_Or) : PO (Sh.den S_word_Or) :=
  (.ret (V_word_Wrap (bor IntKind.i64 x.1 x.2)))
def G_word_Or (_ : dens A_word_Or) : Bool := true
def V_word_Or (x : dens A_word_Or) : Sh.den S_word_Or := ((wn x.1 ||| wn x.2 : Nat) : Int)
theorem ok_word_Or (x : dens A_word_Or) (_ : G_word_Or x = true) : (T_word_Or x).val = some (V_word_Or x) := by
  show some _ = some _
  rw [V_word_Wrap, V_word_Or, or_wn]
/-- word.Xor -/
abbrev A_word_Xor : List Ty := [(.int .i64), (.int .i64)]
abbrev S_word_Xor : Sh := Sh.ty (Ty.int IntKind.i64)
def T_word_Xor (x : dens A_word_Xor) : PO (Sh.den S_word_Xor) :=
  (.ret (V_word_Wrap (bxor IntKind.i64 x.1 x.2)))
def G_word_Xor (_ : dens A_word_Xor) : Bool := true
def V_word_Xor (x : dens A_word_Xor) : Sh.den S_word_Xor := ((wn x.1 ^^^ wn x.2 : Nat) : Int)
theorem ok_word_Xor (x : dens A_word_Xor) (_ : G_word_Xor x = true) : (T_word_Xor x).val = some (V_word_Xor x) := by
  show some _ = some _
  rw [V_word_Wrap, V_word_Xor, xor_wn]
/-- word.Shl -/
abbrev A_word_Shl : List Ty := [(.int .i64), (.int .i64)]
abbrev S_word_Shl : Sh := Sh.ty (Ty.int IntKind.i64)
def T_word_Shl (x : dens A_word_Shl) : PO (Sh.den S_word_Shl) :=
  (.ite (!decide (V_word_many x.2 < 0) && true)
   (.ret (V_word_Wrap (ishl IntKind.i64 (V_word_Wrap x.1) (V_word_many x.2))))
   .fail)
def G_word_Shl (_ : dens A_word_Shl) : Bool := true
def V_word_Shl (x : dens A_word_Shl) : Sh.den S_word_Shl := ((wn x.1 * 2 ^ kk x.2 % 4294967296 : Nat) : Int)
theorem ok_word_Shl (x : dens A_word_Shl) (_ : G_word_Shl x = true) : (T_word_Shl x).val = some (V_word_Shl x) := by
  obtain ⟨a, n⟩ := x
  have hk := kk_lt n
  have hd : decide ((kk n : Int) < 0) = false := dec_false (by omega)
  show (bif !decide ((kk n : Int) < 0) && true then some ((wn (ishl .i64 (wn a : Int) (kk n : Int)) : Nat) : Int) else none) = some ((wn a * 2 ^ kk n % 4294967296 : Nat) : Int)
  rw [hd, shl_wn _ _ (by omega)]
  rfl
/-- word.Shr -/
abbrev A_word_Shr : List Ty := [(.int .i64), (.int .i64)]
abbrev S_word_Shr : Sh := Sh.ty (Ty.int IntKind.i64)
def T_word_Shr (x : dens A_word_Shr) : PO (Sh.den S_word_Shr) :=
  (.ite (!decide (V_word_many x.2 < 0))
   (.ret (ishr IntKind.i64 (V_word_Wrap x.1) (V_word_many x.2)))
   .fail)
def G_word_Shr (_ : dens A_word_Shr) : Bool := true
def V_word_Shr (x : dens A_word_Shr) : Sh.den S_word_Shr := ((wn x.1 / 2 ^ kk x.2 : Nat) : Int)
theorem ok_word_Shr (x : dens A_word_Shr) (_ : G_word_Shr x = true) : (T_word_Shr x).val = some (V_word_Shr x) := by
  obtain ⟨a, n⟩ := x
  have hk := kk_lt n
  have hd : decide ((kk n : Int) < 0) = false := dec_false (by omega)
  show (bif !decide ((kk n : Int) < 0) then some (ishr .i64 (wn a : Int) (kk n : Int)) else none) = some ((wn a / 2 ^ kk n : Nat) : Int)
  rw [hd, ishr_i64 _ _ (by omega)]
  simp
/-- word.Sar -/
abbrev A_word_Sar : List Ty := [(.int .i64), (.int .i64)]
abbrev S_word_Sar : Sh := Sh.ty (Ty.int IntKind.i64)
def T_word_Sar (x : dens A_word_Sar) : PO (Sh.den S_word_Sar) :=
  (.ite (!decide (V_word_many x.2 < 0) && true)
   (.ret (V_word_Wrap (ishr IntKind.i64 (w64 (IntKind.wrap IntKind.i32 (IntKind.wrap IntKind.u32 (V_word_Wrap x.1)))) (V_word_many x.2))))
   .fail)
/-- A word's number with a sign. -/
def sw (m : Nat) : Int := if 2147483648 ≤ m then (m : Int) - 4294967296 else m
def G_word_Sar (_ : dens A_word_Sar) : Bool := true
def V_word_Sar (x : dens A_word_Sar) : Sh.den S_word_Sar := (wn (sw (wn x.1) / (2 ^ kk x.2 : Nat)) : Int)
theorem ok_word_Sar (x : dens A_word_Sar) (_ : G_word_Sar x = true) : (T_word_Sar x).val = some (V_word_Sar x) := by
  obtain ⟨a, n⟩ := x
  have hk := kk_lt n
  have hl := wn_lt a
  have e : w64 (IntKind.i32.wrap (IntKind.u32.wrap (wn a : Int))) = sw (wn a) := by
    rw [u32_wrap, i32_eq, Int.emod_emod_of_dvd _ (by decide), Int.emod_eq_of_lt (by omega) (by omega)]
    unfold sw
    split
    · rw [if_pos (by omega), w64_id (by omega) (by omega)]
    · rw [if_neg (by omega), w64_id (by omega) (by omega)]
  have hd : decide ((kk n : Int) < 0) = false := dec_false (by omega)
  show (bif !decide ((kk n : Int) < 0) && true then some ((wn (ishr .i64 (w64 (IntKind.i32.wrap (IntKind.u32.wrap (wn a : Int)))) (kk n : Int)) : Nat) : Int) else none) = some ((wn (sw (wn a) / (2 ^ kk n : Nat)) : Nat) : Int)
  rw [hd, e, ishr_i64 _ _ (by omega)]
  rfl
/-- word.Ror -/
abbrev A_word_Ror : List Ty := [(.int .i64), (.int .i64)]
abbrev S_word_Ror : Sh := Sh.ty (Ty.int IntKind.i64)
def T_word_Ror (x : dens A_word_Ror) : PO (Sh.den S_word_Ror) :=
  (.ite (G_word_Shr (x.1, x.2) && (!decide (w64 (32 - V_word_many x.2) < 0) && true))
   (.ret (V_word_Or (V_word_Shr (x.1, x.2), V_word_Wrap (ishl IntKind.i64 (V_word_Wrap x.1) (w64 (32 - V_word_many x.2))))))
   .fail)
def G_word_Ror (_ : dens A_word_Ror) : Bool := true
def V_word_Ror (x : dens A_word_Ror) : Sh.den S_word_Ror := ((wn x.1 / 2 ^ kk x.2 + wn x.1 % 2 ^ kk x.2 * 2 ^ (32 - kk x.2) : Nat) : Int)
theorem ror_nat (m k : Nat) (hm : m < 4294967296) (hk : k < 32) : m / 2 ^ k ||| m * 2 ^ (32 - k) % 4294967296 = m / 2 ^ k + m % 2 ^ k * 2 ^ (32 - k) := by
  have h0 : 2 ^ 32 = 2 ^ k * 2 ^ (32 - k) := by rw [← Nat.pow_add]; congr 1; omega
  have h1 : m * 2 ^ (32 - k) % 4294967296 = m % 2 ^ k * 2 ^ (32 - k) := by
    rw [show (4294967296 : Nat) = 2 ^ 32 from rfl, h0, Nat.mul_mod_mul_right]
  have h2 : m / 2 ^ k < 2 ^ (32 - k) := by
    rw [Nat.div_lt_iff_lt_mul (Nat.two_pow_pos k), Nat.mul_comm, ← h0]
    omega
  rw [h1, Nat.or_comm, Nat.mul_comm (m % 2 ^ k), ← Nat.two_pow_add_eq_or_of_lt h2, Nat.add_comm]
theorem ok_word_Ror (x : dens A_word_Ror) (_ : G_word_Ror x = true) : (T_word_Ror x).val = some (V_word_Ror x) := by
  obtain ⟨a, n⟩ := x
  have hk := kk_lt n
  have hl := wn_lt a
  have e1 : w64 (32 - (kk n : Int)) = ((32 - kk n : Nat) : Int) := by
    rw [w64_id (by omega) (by omega)]; omega
  have hd : decide (w64 (32 - (kk n : Int)) < 0) = false := dec_false (by rw [e1]; omega)
  have h1 : wn a / 2 ^ kk n < 4294967296 := Nat.lt_of_le_of_lt (Nat.div_le_self _ _) hl
  show (bif true && (!decide (w64 (32 - (kk n : Int)) < 0) && true) then some ((wn ((wn a / 2 ^ kk n : Nat) : Int) ||| wn ((wn (ishl .i64 (wn a : Int) (w64 (32 - (kk n : Int)))) : Nat) : Int) : Nat) : Int) else none) = some ((wn a / 2 ^ kk n + wn a % 2 ^ kk n * 2 ^ (32 - kk n) : Nat) : Int)
  rw [hd, e1, shl_wn _ _ (by omega), wn_nat h1, wn_nat (Nat.mod_lt _ (by omega)), ror_nat _ _ hl hk]
  rfl
/-- word.Select -/
abbrev A_word_Select : List Ty := [(.int .i64), (.int .i64), (.int .i64)]
abbrev S_word_Select : Sh := Sh.ty (Ty.int IntKind.i64)
def T_word_Select (x : dens A_word_Select) : PO (Sh.den S_word_Select) :=
  (.ret (V_word_Or (band IntKind.i64 x.2.1 x.1, bnot IntKind.i64 x.2.2 x.1)))
def G_word_Select (_ : dens A_word_Select) : Bool := true
def V_word_Select (x : dens A_word_Select) : Sh.den S_word_Select := (((wn x.2.1 &&& wn x.1) ||| (wn x.2.2 &&& (4294967295 - wn x.1)) : Nat) : Int)
theorem ok_word_Select (x : dens A_word_Select) (_ : G_word_Select x = true) : (T_word_Select x).val = some (V_word_Select x) := by
  show some _ = some _
  rw [V_word_Or, V_word_Select, and_wn, bnot_wn]
/-- word.Bit -/
abbrev A_word_Bit : List Ty := [(.int .i64), (.int .i64)]
abbrev S_word_Bit : Sh := Sh.ty (Ty.int IntKind.i64)
def T_word_Bit (x : dens A_word_Bit) : PO (Sh.den S_word_Bit) :=
  (.ite (G_word_Shr (x.1, x.2))
   (.ret (band IntKind.i64 (V_word_Shr (x.1, x.2)) 1))
   .fail)
def G_word_Bit (_ : dens A_word_Bit) : Bool := true
def V_word_Bit (x : dens A_word_Bit) : Sh.den S_word_Bit := ((wn x.1 / 2 ^ kk x.2 % 2 : Nat) : Int)
theorem ok_word_Bit (x : dens A_word_Bit) (_ : G_word_Bit x = true) : (T_word_Bit x).val = some (V_word_Bit x) := by
  show some _ = some _
  simp only [V_word_Shr, V_word_Bit]
  rw [band_one]
  simp
/-- hauberkref01.Wrap -/
abbrev A_hauberkref01_Wrap : List Ty := [(.int .i64)]
abbrev S_hauberkref01_Wrap : Sh := Sh.ty (Ty.int IntKind.i64)
def T_hauberkref01_Wrap (x : dens A_hauberkref01_Wrap) : PO (Sh.den S_hauberkref01_Wrap) :=
  (.ret (w64 (Int.tmod (IntKind.wrap IntKind.u64 x) 4294967296)))
def G_hauberkref01_Wrap (_ : dens A_hauberkref01_Wrap) : Bool := true
def V_hauberkref01_Wrap (x : dens A_hauberkref01_Wrap) : Sh.den S_hauberkref01_Wrap := (wn x : Int)
theorem ok_hauberkref01_Wrap (x : dens A_hauberkref01_Wrap) (_ : G_hauberkref01_Wrap x = true) : (T_hauberkref01_Wrap x).val = some (V_hauberkref01_Wrap x) := by
  show some _ = some _
  have h1 : (0 : Int) ≤ x % 18446744073709551616 := Int.emod_nonneg _ (by omega)
  rw [u64_wrap, tmod_pos _ _ h1, mod64, V_hauberkref01_Wrap, wn_int]
  exact congrArg some (w64_id (by omega) (by omega))
end Go.Av
end
/-! Layer 2: instructions' bits. -/
section
namespace Go.Av
open Go
abbrev tpart : Ty := .pair (.int .i64) (.pair (.int .i64) (.pair (.int .i64) (.pair (.int .i64) .unit)))
theorem w64_nat {k : Nat} (h : k < 9223372036854775808) : w64 (k : Int) = k := w64_id (by omega) (by omega)
/-- Some bits of a number, at a place. -/
def fldN (n from_ many at_ : Int) : Nat := (n / (2 ^ from_.toNat : Nat) % (2 ^ many.toNat : Nat)).toNat * 2 ^ at_.toNat
def partOk (p : tpart.den) : Bool := (decide (0 ≤ p.2.1) && decide (p.2.1 < 64)) && ((decide (0 ≤ p.2.2.1) && decide (p.2.2.1 ≤ 32)) && (decide (0 ≤ p.2.2.2.1) && decide (p.2.2.2.1 ≤ 16)))
def partN (p : tpart.den) : Nat := fldN p.1 p.2.1 p.2.2.1 p.2.2.2.1
theorem bor_nat {a b : Nat} (ha : a < 9223372036854775808) (hb : b < 9223372036854775808) : bor .i64 (a : Int) (b : Int) = ((a ||| b : Nat) : Int) := by
  show w64 (BitVec.ofInt 64 (a : Int) ||| BitVec.ofInt 64 (b : Int)).toNat = _
  rw [BitVec.toNat_or, ofInt_nat (by omega), ofInt_nat (by omega)]
  have : a ||| b < 2 ^ 63 := Nat.or_lt_two_pow ha hb
  exact w64_id (by omega) (by omega)
theorem mod_pow_nat (n : Int) (k : Nat) : 0 ≤ n % (2 ^ k : Nat) ∧ n % (2 ^ k : Nat) < (2 ^ k : Nat) := by
  have := Nat.two_pow_pos k
  exact ⟨Int.emod_nonneg _ (by omega), Int.emod_lt_of_pos _ (by omega)⟩
theorem fldN_lt (n f : Int) {m a : Nat} (hm : m ≤ 32) (ha : a ≤ 16) : fldN n f (m : Int) (a : Int) < 281474976710656 := by
  unfold fldN
  rw [Int.toNat_natCast, Int.toNat_natCast]
  have h := mod_pow_nat (n / (2 ^ f.toNat : Nat)) m
  have h1 : (n / (2 ^ f.toNat : Nat) % (2 ^ m : Nat)).toNat < 2 ^ m := by omega
  have h2 : 2 ^ m ≤ 2 ^ 32 := pow_lt hm
  have h3 : 2 ^ a ≤ 2 ^ 16 := pow_lt ha
  have h4 := Nat.mul_lt_mul_of_lt_of_le (Nat.lt_of_lt_of_le h1 h2) h3 (by omega)
  exact h4
theorem fld_val (n : Int) {f m a : Nat} (hf : f < 64) (hm : m ≤ 32) (ha : a ≤ 16) : ishl .i64 (band .i64 (ishr .i64 n (f : Int)) (w64 (ishl .i64 1 (m : Int) - 1))) (a : Int) = (fldN n (f : Int) (m : Int) (a : Int) : Int) := by
  have hl := fldN_lt n (f : Int) hm ha
  have h1 : 2 ^ m ≤ 2 ^ 32 := pow_lt hm
  have h2 : ishl .i64 1 (m : Int) = ((2 ^ m : Nat) : Int) := by
    rw [ishl_nat _ _ (by omega), Int.one_mul, show (2 : Int) ^ m = ((2 ^ m : Nat) : Int) by simp]
    exact w64_nat (by omega)
  have hp := Nat.two_pow_pos m
  have h3 : w64 (((2 ^ m : Nat) : Int) - 1) = ((2 ^ m : Nat) : Int) - 1 := by
    generalize 2 ^ m = q at *
    exact w64_id (by omega) (by omega)
  rw [h2, h3, ishr_i64 _ _ hf, band_low _ _ (by omega), ishl_nat _ _ (by omega)]
  unfold fldN at hl ⊢
  rw [Int.toNat_natCast, Int.toNat_natCast, Int.toNat_natCast] at *
  have h := mod_pow_nat (n / (2 ^ f : Nat)) m
  obtain ⟨q, hq⟩ : ∃ q : Nat, n / (2 ^ f : Nat) % (2 ^ m : Nat) = (q : Int) := ⟨(n / (2 ^ f : Nat) % (2 ^ m : Nat)).toNat, by omega⟩
  rw [hq] at hl ⊢
  rw [Int.toNat_natCast] at hl ⊢
  rw [show (q : Int) * 2 ^ a = ((q * 2 ^ a : Nat) : Int) by simp]
  exact w64_id (by omega) (by omega)
theorem part_val (p : tpart.den) (h : partOk p = true) : ishl .i64 (band .i64 (ishr .i64 p.1 p.2.1) (w64 (ishl .i64 1 p.2.2.1 - 1))) p.2.2.2.1 = (partN p : Int) ∧ partN p < 281474976710656 ∧ decide (p.2.1 < 0) = false ∧ decide (p.2.2.1 < 0) = false ∧ decide (p.2.2.2.1 < 0) = false := by
  obtain ⟨n, f, m, a, u⟩ := p
  simp only [partOk, Bool.and_eq_true, decide_eq_true_eq] at h
  obtain ⟨⟨h1, h2⟩, ⟨h3, h4⟩, h5, h6⟩ := h
  dsimp only [Ty.den] at *
  obtain ⟨f, rfl⟩ := Int.eq_ofNat_of_zero_le h1
  obtain ⟨m, rfl⟩ := Int.eq_ofNat_of_zero_le h3
  obtain ⟨a, rfl⟩ := Int.eq_ofNat_of_zero_le h5
  exact ⟨fld_val n (by omega) (by omega) (by omega), fldN_lt n _ (by omega) (by omega), dec_false (by omega), dec_false (by omega), dec_false (by omega)⟩
theorem or_part {b : Nat} (p : tpart.den) (h : partOk p = true) (hb : b < 281474976710656) : bor .i64 (b : Int) (ishl .i64 (band .i64 (ishr .i64 p.1 p.2.1) (w64 (ishl .i64 1 p.2.2.1 - 1))) p.2.2.2.1) = ((b ||| partN p : Nat) : Int) ∧ b ||| partN p < 281474976710656 := by
  obtain ⟨h1, h2, _⟩ := part_val p h
  exact ⟨by rw [h1, bor_nat (by omega) (by omega)], Nat.or_lt_two_pow (n := 48) hb h2⟩
/-- thumb.put -/
abbrev A_thumb_put : List Ty := [(.int .i64), (.sl tpart)]
abbrev S_thumb_put : Sh := Sh.ty (Ty.int IntKind.i64)
def T_thumb_put (x : dens A_thumb_put) : PO (Sh.den S_thumb_put) :=
  (.ite (decide (0 < lenI x.2))
   (.ite (inRange 0 (List.length x.2))
    (.ite (!decide ((List.getD x.2 (Int.toNat 0) (Ty.dflt tpart)).2.1 < 0) && (!decide ((List.getD x.2 (Int.toNat 0) (Ty.dflt tpart)).2.2.1 < 0) && !decide ((List.getD x.2 (Int.toNat 0) (Ty.dflt tpart)).2.2.2.1 < 0)))
     (.ite (decide (1 < lenI x.2))
      (.ite (inRange 1 (List.length x.2))
       (.ite (!decide ((List.getD x.2 (Int.toNat 1) (Ty.dflt tpart)).2.1 < 0) && (!decide ((List.getD x.2 (Int.toNat 1) (Ty.dflt tpart)).2.2.1 < 0) && !decide ((List.getD x.2 (Int.toNat 1) (Ty.dflt tpart)).2.2.2.1 < 0)))
        (.ite (decide (2 < lenI x.2))
         (.ite (inRange 2 (List.length x.2))
          (.ite (!decide ((List.getD x.2 (Int.toNat 2) (Ty.dflt tpart)).2.1 < 0) && (!decide ((List.getD x.2 (Int.toNat 2) (Ty.dflt tpart)).2.2.1 < 0) && !decide ((List.getD x.2 (Int.toNat 2) (Ty.dflt tpart)).2.2.2.1 < 0)))
           (.ite (decide (3 < lenI x.2))
            (.ite (inRange 3 (List.length x.2))
             (.ite (!decide ((List.getD x.2 (Int.toNat 3) (Ty.dflt tpart)).2.1 < 0) && (!decide ((List.getD x.2 (Int.toNat 3) (Ty.dflt tpart)).2.2.1 < 0) && !decide ((List.getD x.2 (Int.toNat 3) (Ty.dflt tpart)).2.2.2.1 < 0)))
              (.ite (decide (4 < lenI x.2))
               (.ite (inRange 4 (List.length x.2))
                (.ite (!decide ((List.getD x.2 (Int.toNat 4) (Ty.dflt tpart)).2.1 < 0) && (!decide ((List.getD x.2 (Int.toNat 4) (Ty.dflt tpart)).2.2.1 < 0) && !decide ((List.getD x.2 (Int.toNat 4) (Ty.dflt tpart)).2.2.2.1 < 0)))
                 (.ite (decide (5 < lenI x.2))
                  (.ite (inRange 5 (List.length x.2))
                   (.ite (!decide ((List.getD x.2 (Int.toNat 5) (Ty.dflt tpart)).2.1 < 0) && (!decide ((List.getD x.2 (Int.toNat 5) (Ty.dflt tpart)).2.2.1 < 0) && !decide ((List.getD x.2 (Int.toNat 5) (Ty.dflt tpart)).2.2.2.1 < 0)))
                    .fail
                    .fail)
                   .fail)
                  (.ret (bor IntKind.i64 (bor IntKind.i64 (bor IntKind.i64 (bor IntKind.i64 (bor IntKind.i64 x.1 (ishl IntKind.i64 (band IntKind.i64 (ishr IntKind.i64 (List.getD x.2 (Int.toNat 0) (Ty.dflt tpart)).1 (List.getD x.2 (Int.toNat 0) (Ty.dflt tpart)).2.1) (w64 (ishl IntKind.i64 1 (List.getD x.2 (Int.toNat 0) (Ty.dflt tpart)).2.2.1 - 1))) (List.getD x.2 (Int.toNat 0) (Ty.dflt tpart)).2.2.2.1)) (ishl IntKind.i64 (band IntKind.i64 (ishr IntKind.i64 (List.getD x.2 (Int.toNat 1) (Ty.dflt tpart)).1 (List.getD x.2 (Int.toNat 1) (Ty.dflt tpart)).2.1) (w64 (ishl IntKind.i64 1 (List.getD x.2 (Int.toNat 1) (Ty.dflt tpart)).2.2.1 - 1))) (List.getD x.2 (Int.toNat 1) (Ty.dflt tpart)).2.2.2.1)) (ishl IntKind.i64 (band IntKind.i64 (ishr IntKind.i64 (List.getD x.2 (Int.toNat 2) (Ty.dflt tpart)).1 (List.getD x.2 (Int.toNat 2) (Ty.dflt tpart)).2.1) (w64 (ishl IntKind.i64 1 (List.getD x.2 (Int.toNat 2) (Ty.dflt tpart)).2.2.1 - 1))) (List.getD x.2 (Int.toNat 2) (Ty.dflt tpart)).2.2.2.1)) (ishl IntKind.i64 (band IntKind.i64 (ishr IntKind.i64 (List.getD x.2 (Int.toNat 3) (Ty.dflt tpart)).1 (List.getD x.2 (Int.toNat 3) (Ty.dflt tpart)).2.1) (w64 (ishl IntKind.i64 1 (List.getD x.2 (Int.toNat 3) (Ty.dflt tpart)).2.2.1 - 1))) (List.getD x.2 (Int.toNat 3) (Ty.dflt tpart)).2.2.2.1)) (ishl IntKind.i64 (band IntKind.i64 (ishr IntKind.i64 (List.getD x.2 (Int.toNat 4) (Ty.dflt tpart)).1 (List.getD x.2 (Int.toNat 4) (Ty.dflt tpart)).2.1) (w64 (ishl IntKind.i64 1 (List.getD x.2 (Int.toNat 4) (Ty.dflt tpart)).2.2.1 - 1))) (List.getD x.2 (Int.toNat 4) (Ty.dflt tpart)).2.2.2.1))))
                 .fail)
                .fail)
               (.ret (bor IntKind.i64 (bor IntKind.i64 (bor IntKind.i64 (bor IntKind.i64 x.1 (ishl IntKind.i64 (band IntKind.i64 (ishr IntKind.i64 (List.getD x.2 (Int.toNat 0) (Ty.dflt tpart)).1 (List.getD x.2 (Int.toNat 0) (Ty.dflt tpart)).2.1) (w64 (ishl IntKind.i64 1 (List.getD x.2 (Int.toNat 0) (Ty.dflt tpart)).2.2.1 - 1))) (List.getD x.2 (Int.toNat 0) (Ty.dflt tpart)).2.2.2.1)) (ishl IntKind.i64 (band IntKind.i64 (ishr IntKind.i64 (List.getD x.2 (Int.toNat 1) (Ty.dflt tpart)).1 (List.getD x.2 (Int.toNat 1) (Ty.dflt tpart)).2.1) (w64 (ishl IntKind.i64 1 (List.getD x.2 (Int.toNat 1) (Ty.dflt tpart)).2.2.1 - 1))) (List.getD x.2 (Int.toNat 1) (Ty.dflt tpart)).2.2.2.1)) (ishl IntKind.i64 (band IntKind.i64 (ishr IntKind.i64 (List.getD x.2 (Int.toNat 2) (Ty.dflt tpart)).1 (List.getD x.2 (Int.toNat 2) (Ty.dflt tpart)).2.1) (w64 (ishl IntKind.i64 1 (List.getD x.2 (Int.toNat 2) (Ty.dflt tpart)).2.2.1 - 1))) (List.getD x.2 (Int.toNat 2) (Ty.dflt tpart)).2.2.2.1)) (ishl IntKind.i64 (band IntKind.i64 (ishr IntKind.i64 (List.getD x.2 (Int.toNat 3) (Ty.dflt tpart)).1 (List.getD x.2 (Int.toNat 3) (Ty.dflt tpart)).2.1) (w64 (ishl IntKind.i64 1 (List.getD x.2 (Int.toNat 3) (Ty.dflt tpart)).2.2.1 - 1))) (List.getD x.2 (Int.toNat 3) (Ty.dflt tpart)).2.2.2.1))))
              .fail)
             .fail)
            (.ret (bor IntKind.i64 (bor IntKind.i64 (bor IntKind.i64 x.1 (ishl IntKind.i64 (band IntKind.i64 (ishr IntKind.i64 (List.getD x.2 (Int.toNat 0) (Ty.dflt tpart)).1 (List.getD x.2 (Int.toNat 0) (Ty.dflt tpart)).2.1) (w64 (ishl IntKind.i64 1 (List.getD x.2 (Int.toNat 0) (Ty.dflt tpart)).2.2.1 - 1))) (List.getD x.2 (Int.toNat 0) (Ty.dflt tpart)).2.2.2.1)) (ishl IntKind.i64 (band IntKind.i64 (ishr IntKind.i64 (List.getD x.2 (Int.toNat 1) (Ty.dflt tpart)).1 (List.getD x.2 (Int.toNat 1) (Ty.dflt tpart)).2.1) (w64 (ishl IntKind.i64 1 (List.getD x.2 (Int.toNat 1) (Ty.dflt tpart)).2.2.1 - 1))) (List.getD x.2 (Int.toNat 1) (Ty.dflt tpart)).2.2.2.1)) (ishl IntKind.i64 (band IntKind.i64 (ishr IntKind.i64 (List.getD x.2 (Int.toNat 2) (Ty.dflt tpart)).1 (List.getD x.2 (Int.toNat 2) (Ty.dflt tpart)).2.1) (w64 (ishl IntKind.i64 1 (List.getD x.2 (Int.toNat 2) (Ty.dflt tpart)).2.2.1 - 1))) (List.getD x.2 (Int.toNat 2) (Ty.dflt tpart)).2.2.2.1))))
           .fail)
          .fail)
         (.ret (bor IntKind.i64 (bor IntKind.i64 x.1 (ishl IntKind.i64 (band IntKind.i64 (ishr IntKind.i64 (List.getD x.2 (Int.toNat 0) (Ty.dflt tpart)).1 (List.getD x.2 (Int.toNat 0) (Ty.dflt tpart)).2.1) (w64 (ishl IntKind.i64 1 (List.getD x.2 (Int.toNat 0) (Ty.dflt tpart)).2.2.1 - 1))) (List.getD x.2 (Int.toNat 0) (Ty.dflt tpart)).2.2.2.1)) (ishl IntKind.i64 (band IntKind.i64 (ishr IntKind.i64 (List.getD x.2 (Int.toNat 1) (Ty.dflt tpart)).1 (List.getD x.2 (Int.toNat 1) (Ty.dflt tpart)).2.1) (w64 (ishl IntKind.i64 1 (List.getD x.2 (Int.toNat 1) (Ty.dflt tpart)).2.2.1 - 1))) (List.getD x.2 (Int.toNat 1) (Ty.dflt tpart)).2.2.2.1))))
        .fail)
       .fail)
      (.ret (bor IntKind.i64 x.1 (ishl IntKind.i64 (band IntKind.i64 (ishr IntKind.i64 (List.getD x.2 (Int.toNat 0) (Ty.dflt tpart)).1 (List.getD x.2 (Int.toNat 0) (Ty.dflt tpart)).2.1) (w64 (ishl IntKind.i64 1 (List.getD x.2 (Int.toNat 0) (Ty.dflt tpart)).2.2.1 - 1))) (List.getD x.2 (Int.toNat 0) (Ty.dflt tpart)).2.2.2.1))))
     .fail)
    .fail)
   (.ret (x.1)))
def G_thumb_put (x : dens A_thumb_put) : Bool := (decide ((0 : Int) ≤ x.1) && decide ((x.1 : Int) < 281474976710656)) && (decide (List.length x.2 ≤ 5) && List.all x.2 partOk)
def V_thumb_put (x : dens A_thumb_put) : Sh.den S_thumb_put := ((List.foldl (fun b p => b ||| partN p) (Int.toNat x.1) x.2 : Nat) : Int)
theorem ok_thumb_put (x : dens A_thumb_put) (h : G_thumb_put x = true) : (T_thumb_put x).val = some (V_thumb_put x) := by
  obtain ⟨n, l⟩ := x
  simp only [G_thumb_put, Bool.and_eq_true, decide_eq_true_eq] at h
  obtain ⟨⟨h1, h2⟩, h3, h4⟩ := h
  dsimp only [Ty.den] at *
  obtain ⟨b, rfl⟩ := Int.eq_ofNat_of_zero_le h1
  unfold V_thumb_put
  match l, h3, h4 with
  | [], _, _ => simp [T_thumb_put, PO.val, lenI]
  | [p], _, h4 =>
    simp only [List.all_cons, List.all_nil, Bool.and_true] at h4
    obtain ⟨e1, l1⟩ := or_part p h4 (show b < 281474976710656 by omega)
    obtain ⟨_, _, p1, p2, p3⟩ := part_val p h4
    simp [T_thumb_put, PO.val, lenI, inRange, p1, p2, p3, e1]
  | [p, q], _, h4 =>
    simp only [List.all_cons, List.all_nil, Bool.and_true, Bool.and_eq_true] at h4
    obtain ⟨hp, hq⟩ := h4
    obtain ⟨e1, l1⟩ := or_part p hp (show b < 281474976710656 by omega)
    obtain ⟨_, _, p1, p2, p3⟩ := part_val p hp
    obtain ⟨e2, l2⟩ := or_part q hq l1
    obtain ⟨_, _, q1, q2, q3⟩ := part_val q hq
    simp [T_thumb_put, PO.val, lenI, inRange, p1, p2, p3, e1, q1, q2, q3, e2]
  | [p, q, r], _, h4 =>
    simp only [List.all_cons, List.all_nil, Bool.and_true, Bool.and_eq_true] at h4
    obtain ⟨hp, hq, hr⟩ := h4
    obtain ⟨e1, l1⟩ := or_part p hp (show b < 281474976710656 by omega)
    obtain ⟨_, _, p1, p2, p3⟩ := part_val p hp
    obtain ⟨e2, l2⟩ := or_part q hq l1
    obtain ⟨_, _, q1, q2, q3⟩ := part_val q hq
    obtain ⟨e3, l3⟩ := or_part r hr l2
    obtain ⟨_, _, r1, r2, r3⟩ := part_val r hr
    simp [T_thumb_put, PO.val, lenI, inRange, p1, p2, p3, e1, q1, q2, q3, e2, r1, r2, r3, e3]
  | [p, q, r, s], _, h4 =>
    simp only [List.all_cons, List.all_nil, Bool.and_true, Bool.and_eq_true] at h4
    obtain ⟨hp, hq, hr, hs⟩ := h4
    obtain ⟨e1, l1⟩ := or_part p hp (show b < 281474976710656 by omega)
    obtain ⟨_, _, p1, p2, p3⟩ := part_val p hp
    obtain ⟨e2, l2⟩ := or_part q hq l1
    obtain ⟨_, _, q1, q2, q3⟩ := part_val q hq
    obtain ⟨e3, l3⟩ := or_part r hr l2
    obtain ⟨_, _, r1, r2, r3⟩ := part_val r hr
    obtain ⟨e4, l4⟩ := or_part s hs l3
    obtain ⟨_, _, s1, s2, s3⟩ := part_val s hs
    simp [T_thumb_put, PO.val, lenI, inRange, p1, p2, p3, e1, q1, q2, q3, e2, r1, r2, r3, e3, s1, s2, s3, e4]
  | [p, q, r, s, t], _, h4 =>
    simp only [List.all_cons, List.all_nil, Bool.and_true, Bool.and_eq_true] at h4
    obtain ⟨hp, hq, hr, hs, ht⟩ := h4
    obtain ⟨e1, l1⟩ := or_part p hp (show b < 281474976710656 by omega)
    obtain ⟨_, _, p1, p2, p3⟩ := part_val p hp
    obtain ⟨e2, l2⟩ := or_part q hq l1
    obtain ⟨_, _, q1, q2, q3⟩ := part_val q hq
    obtain ⟨e3, l3⟩ := or_part r hr l2
    obtain ⟨_, _, r1, r2, r3⟩ := part_val r hr
    obtain ⟨e4, l4⟩ := or_part s hs l3
    obtain ⟨_, _, s1, s2, s3⟩ := part_val s hs
    obtain ⟨e5, l5⟩ := or_part t ht l4
    obtain ⟨_, _, t1, t2, t3⟩ := part_val t ht
    simp [T_thumb_put, PO.val, lenI, inRange, p1, p2, p3, e1, q1, q2, q3, e2, r1, r2, r3, e3, s1, s2, s3, e4, t1, t2, t3, e5]
  | _ :: _ :: _ :: _ :: _ :: _ :: _, h3, _ => simp at h3
/-- thumb.shifted -/
abbrev A_thumb_shifted : List Ty := [(.int .i64), tIns, (.int .i64)]
abbrev S_thumb_shifted : Sh := Sh.ty tSpot
def T_thumb_shifted (x : dens A_thumb_shifted) : PO (Sh.den S_thumb_shifted) :=
  (.ite (G_thumb_put (0, [(x.2.1.2.2.2.2.2.1, 2, 3, 12, ()), (x.2.1.2.1, 0, 4, 8, ()), (x.2.1.2.2.2.2.2.1, 0, 2, 6, ()), (x.2.2, 0, 2, 4, ()), (x.2.1.2.2.2.1, 0, 4, 0, ())]))
   (.ite (G_thumb_put (x.1, [(x.2.1.2.2.1, 0, 4, 0, ())]))
    (.ret ((V_thumb_put (x.1, [(x.2.1.2.2.1, 0, 4, 0, ())]), V_thumb_put (0, [(x.2.1.2.2.2.2.2.1, 2, 3, 12, ()), (x.2.1.2.1, 0, 4, 8, ()), (x.2.1.2.2.2.2.2.1, 0, 2, 6, ()), (x.2.2, 0, 2, 4, ()), (x.2.1.2.2.2.1, 0, 4, 0, ())]), true, ())))
    .fail)
   .fail)
def G_thumb_shifted (x : dens A_thumb_shifted) : Bool := (T_thumb_shifted x).val.isSome
def V_thumb_shifted (x : dens A_thumb_shifted) : Sh.den S_thumb_shifted := (T_thumb_shifted x).getO default
theorem ok_thumb_shifted (x : dens A_thumb_shifted) (h : G_thumb_shifted x = true) : (T_thumb_shifted x).val = some (V_thumb_shifted x) := PO.getO_ok default h
/-- thumb.move -/
abbrev A_thumb_move : List Ty := [(.int .i64), tIns]
abbrev S_thumb_move : Sh := Sh.ty tSpot
def T_thumb_move (x : dens A_thumb_move) : PO (Sh.den S_thumb_move) :=
  (.ite (G_thumb_put (x.1, [(x.2.2.2.2.2.2.1, 11, 1, 10, ()), (x.2.2.2.2.2.2.1, 12, 4, 0, ())]))
   (.ite (G_thumb_put (0, [(x.2.2.2.2.2.2.1, 8, 3, 12, ()), (x.2.2.1, 0, 4, 8, ()), (x.2.2.2.2.2.2.1, 0, 8, 0, ())]))
    (.ret ((V_thumb_put (x.1, [(x.2.2.2.2.2.2.1, 11, 1, 10, ()), (x.2.2.2.2.2.2.1, 12, 4, 0, ())]), V_thumb_put (0, [(x.2.2.2.2.2.2.1, 8, 3, 12, ()), (x.2.2.1, 0, 4, 8, ()), (x.2.2.2.2.2.2.1, 0, 8, 0, ())]), true, ())))
    .fail)
   .fail)
def G_thumb_move (x : dens A_thumb_move) : Bool := (T_thumb_move x).val.isSome
def V_thumb_move (x : dens A_thumb_move) : Sh.den S_thumb_move := (T_thumb_move x).getO default
theorem ok_thumb_move (x : dens A_thumb_move) (h : G_thumb_move x = true) : (T_thumb_move x).val = some (V_thumb_move x) := PO.getO_ok default h
/-- thumb.short -/
abbrev A_thumb_short : List Ty := [(.int .i64), (.int .i64), (.int .i64)]
abbrev S_thumb_short : Sh := Sh.ty tSpot
def T_thumb_short (x : dens A_thumb_short) : PO (Sh.den S_thumb_short) :=
  (.ite (G_thumb_put (x.1, [(x.2.1, 0, 3, 0, ()), (x.2.2, 0, 3, 3, ())]))
   (.ret ((V_thumb_put (x.1, [(x.2.1, 0, 3, 0, ()), (x.2.2, 0, 3, 3, ())]), 0, false, ())))
   .fail)
def G_thumb_short (x : dens A_thumb_short) : Bool := (T_thumb_short x).val.isSome
def V_thumb_short (x : dens A_thumb_short) : Sh.den S_thumb_short := (T_thumb_short x).getO default
theorem ok_thumb_short (x : dens A_thumb_short) (h : G_thumb_short x = true) : (T_thumb_short x).val = some (V_thumb_short x) := PO.getO_ok default h
/-- thumb.wide -/
abbrev A_thumb_wide : List Ty := [tIns]
abbrev S_thumb_wide : Sh := Sh.ty tSpot
def T_thumb_wide (x : dens A_thumb_wide) : PO (Sh.den S_thumb_wide) :=
  (.ite (G_thumb_put (0, [(x.2.2.2.2.2.1, 1, 11, 0, ())]))
   (.ite (x.1 == 25)
    (.ite (G_thumb_put (61440, [(band IntKind.i64 (ishr IntKind.i64 x.2.2.2.2.2.1 24) 1, 0, 1, 10, ()), (x.2.2.2.2.2.2.1, 0, 4, 6, ()), (x.2.2.2.2.2.1, 12, 6, 0, ())]))
     (.ite (G_thumb_put (bor IntKind.i64 (V_thumb_put (0, [(x.2.2.2.2.2.1, 1, 11, 0, ())])) 32768, [(x.2.2.2.2.2.1, 18, 1, 13, ()), (x.2.2.2.2.2.1, 19, 1, 11, ())]))
      (.ret ((V_thumb_put (61440, [(band IntKind.i64 (ishr IntKind.i64 x.2.2.2.2.2.1 24) 1, 0, 1, 10, ()), (x.2.2.2.2.2.2.1, 0, 4, 6, ()), (x.2.2.2.2.2.1, 12, 6, 0, ())]), V_thumb_put (bor IntKind.i64 (V_thumb_put (0, [(x.2.2.2.2.2.1, 1, 11, 0, ())])) 32768, [(x.2.2.2.2.2.1, 18, 1, 13, ()), (x.2.2.2.2.2.1, 19, 1, 11, ())]), true, ())))
      .fail)
     .fail)
    (.ite (G_thumb_put (61440, [(band IntKind.i64 (ishr IntKind.i64 x.2.2.2.2.2.1 24) 1, 0, 1, 10, ()), (x.2.2.2.2.2.1, 12, 10, 0, ())]))
     (.ite (G_thumb_put (bor IntKind.i64 (V_thumb_put (0, [(x.2.2.2.2.2.1, 1, 11, 0, ())])) 36864, [(bxor IntKind.i64 (icompl IntKind.i64 (ishr IntKind.i64 x.2.2.2.2.2.1 23)) (band IntKind.i64 (ishr IntKind.i64 x.2.2.2.2.2.1 24) 1), 0, 1, 13, ()), (bxor IntKind.i64 (icompl IntKind.i64 (ishr IntKind.i64 x.2.2.2.2.2.1 22)) (band IntKind.i64 (ishr IntKind.i64 x.2.2.2.2.2.1 24) 1), 0, 1, 11, ())]))
      (.ret ((V_thumb_put (61440, [(band IntKind.i64 (ishr IntKind.i64 x.2.2.2.2.2.1 24) 1, 0, 1, 10, ()), (x.2.2.2.2.2.1, 12, 10, 0, ())]), V_thumb_put (bor IntKind.i64 (V_thumb_put (0, [(x.2.2.2.2.2.1, 1, 11, 0, ())])) 36864, [(bxor IntKind.i64 (icompl IntKind.i64 (ishr IntKind.i64 x.2.2.2.2.2.1 23)) (band IntKind.i64 (ishr IntKind.i64 x.2.2.2.2.2.1 24) 1), 0, 1, 13, ()), (bxor IntKind.i64 (icompl IntKind.i64 (ishr IntKind.i64 x.2.2.2.2.2.1 22)) (band IntKind.i64 (ishr IntKind.i64 x.2.2.2.2.2.1 24) 1), 0, 1, 11, ())]), true, ())))
      .fail)
     .fail))
   .fail)
def G_thumb_wide (x : dens A_thumb_wide) : Bool := (T_thumb_wide x).val.isSome
def V_thumb_wide (x : dens A_thumb_wide) : Sh.den S_thumb_wide := (T_thumb_wide x).getO default
theorem ok_thumb_wide (x : dens A_thumb_wide) (h : G_thumb_wide x = true) : (T_thumb_wide x).val = some (V_thumb_wide x) := PO.getO_ok default h
/-- thumb.others -/
abbrev A_thumb_others : List Ty := [tIns]
abbrev S_thumb_others : Sh := Sh.ty tSpot
def T_thumb_others (x : dens A_thumb_others) : PO (Sh.den S_thumb_others) :=
  (.ite (x.1 == 16)
   (.ite (G_thumb_shifted (64256, x, 0))
    (.ret (((V_thumb_shifted (64256, x, 0)).1, bor IntKind.i64 (V_thumb_shifted (64256, x, 0)).2.1 61440, (V_thumb_shifted (64256, x, 0)).2.2)))
    .fail)
   (.ite (x.1 == 17)
    (.ret ((bor IntKind.i64 64416 x.2.2.1, bor IntKind.i64 (bor IntKind.i64 (ishl IntKind.i64 x.2.1 12) (ishl IntKind.i64 x.2.2.2.2.1 8)) x.2.2.2.1, true, ())))
    (.ite (x.1 == 18)
     (.ite (G_thumb_put (w64 (w64 (x.2.2.2.2.2.1 + x.2.2.2.2.1) - 1), [(x.2.2.2.2.2.1, 2, 3, 12, ()), (x.2.1, 0, 4, 8, ()), (x.2.2.2.2.2.1, 0, 2, 6, ())]))
      (.ret ((bor IntKind.i64 62304 x.2.2.1, V_thumb_put (w64 (w64 (x.2.2.2.2.2.1 + x.2.2.2.2.1) - 1), [(x.2.2.2.2.2.1, 2, 3, 12, ()), (x.2.1, 0, 4, 8, ()), (x.2.2.2.2.2.1, 0, 2, 6, ())]), true, ())))
      .fail)
     (.ite (x.1 == 19)
      (.ite (G_thumb_short (26624, x.2.1, x.2.2.1))
       (.ret (V_thumb_short (26624, x.2.1, x.2.2.1)))
       .fail)
      (.ite (x.1 == 20)
       (.ite (G_thumb_short (24576, x.2.1, x.2.2.1))
        (.ret (V_thumb_short (24576, x.2.1, x.2.2.1)))
        .fail)
       (.ite (x.1 == 21)
        (.ite (G_thumb_short (30720, x.2.1, x.2.2.1))
         (.ret (V_thumb_short (30720, x.2.1, x.2.2.1)))
         .fail)
        (.ite (x.1 == 22)
         (.ite (G_thumb_short (28672, x.2.1, x.2.2.1))
          (.ret (V_thumb_short (28672, x.2.1, x.2.2.1)))
          .fail)
         (.ite (x.1 == 23)
          (.ite (G_thumb_short (17024, x.2.2.1, x.2.2.2.1))
           (.ret (V_thumb_short (17024, x.2.2.1, x.2.2.2.1)))
           .fail)
          (.ite (x.2.2.2.2.2.2.2.1)
           (.ite (G_thumb_wide x)
            (.ret (V_thumb_wide x))
            .fail)
           (.ite (x.1 == 24)
            (.ite (G_thumb_put (57344, [(x.2.2.2.2.2.1, 1, 11, 0, ())]))
             (.ret ((V_thumb_put (57344, [(x.2.2.2.2.2.1, 1, 11, 0, ())]), 0, false, ())))
             .fail)
            (.ite (G_thumb_put (53248, [(x.2.2.2.2.2.2.1, 0, 4, 8, ()), (x.2.2.2.2.2.1, 1, 8, 0, ())]))
             (.ret ((V_thumb_put (53248, [(x.2.2.2.2.2.2.1, 0, 4, 8, ()), (x.2.2.2.2.2.1, 1, 8, 0, ())]), 0, false, ())))
             .fail)))))))))))
def G_thumb_others (x : dens A_thumb_others) : Bool := (T_thumb_others x).val.isSome
def V_thumb_others (x : dens A_thumb_others) : Sh.den S_thumb_others := (T_thumb_others x).getO default
theorem ok_thumb_others (x : dens A_thumb_others) (h : G_thumb_others x = true) : (T_thumb_others x).val = some (V_thumb_others x) := PO.getO_ok default h
/-- thumb.bits -/
abbrev A_thumb_bits : List Ty := [tIns]
abbrev S_thumb_bits : Sh := Sh.ty tSpot
def T_thumb_bits (x : dens A_thumb_bits) : PO (Sh.den S_thumb_bits) :=
  (.ite (x.1 == 1)
   (.ret ((48896, 0, false, ())))
   (.ite (x.1 == 2)
    (.ret ((bor IntKind.i64 48640 x.2.2.2.2.2.1, 0, false, ())))
    (.ite (x.1 == 3)
     (.ite (G_thumb_move (62016, x))
      (.ret (V_thumb_move (62016, x)))
      .fail)
     (.ite (x.1 == 4)
      (.ite (G_thumb_move (62144, x))
       (.ret (V_thumb_move (62144, x)))
       .fail)
      (.ite (bif x.1 == 5 then x.1 == 5 else bif x.1 == 6 then x.1 == 6 else bif x.1 == 7 then x.1 == 7 else x.1 == 8)
       (.ite (G_thumb_shifted (59983, x, w64 (x.1 - 5)))
        (.ret (V_thumb_shifted (59983, x, w64 (x.1 - 5))))
        .fail)
       (.ite (x.1 == 9)
        (.ite (G_thumb_shifted (60015, x, 0))
         (.ret (V_thumb_shifted (60015, x, 0)))
         .fail)
        (.ite (x.1 == 10)
         (.ite (G_thumb_shifted (59904, x, 0))
          (.ret (V_thumb_shifted (59904, x, 0)))
          .fail)
         (.ite (x.1 == 11)
          (.ite (G_thumb_shifted (59936, x, 0))
           (.ret (V_thumb_shifted (59936, x, 0)))
           .fail)
          (.ite (x.1 == 12)
           (.ite (G_thumb_shifted (59968, x, 0))
            (.ret (V_thumb_shifted (59968, x, 0)))
            .fail)
           (.ite (x.1 == 13)
            (.ite (G_thumb_shifted (60032, x, 0))
             (.ret (V_thumb_shifted (60032, x, 0)))
             .fail)
            (.ite (x.1 == 14)
             (.ite (G_thumb_shifted (60160, x, 0))
              (.ret (V_thumb_shifted (60160, x, 0)))
              .fail)
             (.ite (x.1 == 15)
              (.ite (G_thumb_shifted (60320, x, 0))
               (.ret (V_thumb_shifted (60320, x, 0)))
               .fail)
              (.ite (G_thumb_others x)
               (.ret (V_thumb_others x))
               .fail)))))))))))))
def G_thumb_bits (x : dens A_thumb_bits) : Bool := (T_thumb_bits x).val.isSome
def V_thumb_bits (x : dens A_thumb_bits) : Sh.den S_thumb_bits := (T_thumb_bits x).getO default
theorem ok_thumb_bits (x : dens A_thumb_bits) (h : G_thumb_bits x = true) : (T_thumb_bits x).val = some (V_thumb_bits x) := PO.getO_ok default h
end Go.Av
end
/-! Layer 2: instructions' bits, and how many bytes there are. -/
section
namespace Go.Av
open Go

/-- Has an instruction 32 bits? -/
def isLong (op : Int) (w : Bool) : Bool := w || (decide (3 ≤ op) && decide (op ≤ 18))

theorem put_ok (b : Nat) (l : List tpart.den) (hb : b < 281474976710656) (hl : (decide (List.length l ≤ 5) && List.all l partOk) = true) : G_thumb_put ((b : Int), l) = true := by
  have h1 : decide ((0 : Int) ≤ (b : Int)) = true := dec_true (by omega)
  have h2 : decide ((b : Int) < 281474976710656) = true := dec_true (by omega)
  show ((decide ((0 : Int) ≤ (b : Int)) && decide ((b : Int) < 281474976710656)) && (decide (List.length l ≤ 5) && List.all l partOk)) = true
  rw [h1, h2, hl]
  rfl
theorem put_ok0 (l : List tpart.den) (hl : (decide (List.length l ≤ 5) && List.all l partOk) = true) : G_thumb_put (0, l) = true := put_ok 0 l (by omega) hl

section
variable (first : Nat) (op rd rn rm ra imm cond : Int) (w : Bool) (kind : Int)

theorem shifted_val (h : first < 281474976710656) : (T_thumb_shifted ((first : Int), (op, rd, rn, rm, ra, imm, cond, w, ()), kind)).val =
    some (V_thumb_put ((first : Int), [(rn, 0, 4, 0, ())]), V_thumb_put (0, [(imm, 2, 3, 12, ()), (rd, 0, 4, 8, ()), (imm, 0, 2, 6, ()), (kind, 0, 2, 4, ()), (rm, 0, 4, 0, ())]), true, ()) := by
  have h1 : G_thumb_put ((first : Int), [(rn, 0, 4, 0, ())]) = true := put_ok first _ h rfl
  have h2 : G_thumb_put (0, [(imm, 2, 3, 12, ()), (rd, 0, 4, 8, ()), (imm, 0, 2, 6, ()), (kind, 0, 2, 4, ()), (rm, 0, 4, 0, ())]) = true := put_ok0 _ rfl
  show (bif G_thumb_put (0, [(imm, 2, 3, 12, ()), (rd, 0, 4, 8, ()), (imm, 0, 2, 6, ()), (kind, 0, 2, 4, ()), (rm, 0, 4, 0, ())]) then (bif G_thumb_put ((first : Int), [(rn, 0, 4, 0, ())]) then _ else _) else _) = _
  rw [h1, h2]
  rfl

theorem move_val (h : first < 281474976710656) : (T_thumb_move ((first : Int), (op, rd, rn, rm, ra, imm, cond, w, ()))).val =
    some (V_thumb_put ((first : Int), [(imm, 11, 1, 10, ()), (imm, 12, 4, 0, ())]), V_thumb_put (0, [(imm, 8, 3, 12, ()), (rd, 0, 4, 8, ()), (imm, 0, 8, 0, ())]), true, ()) := by
  have h1 : G_thumb_put ((first : Int), [(imm, 11, 1, 10, ()), (imm, 12, 4, 0, ())]) = true := put_ok first _ h rfl
  have h2 : G_thumb_put (0, [(imm, 8, 3, 12, ()), (rd, 0, 4, 8, ()), (imm, 0, 8, 0, ())]) = true := put_ok0 _ rfl
  show (bif G_thumb_put ((first : Int), [(imm, 11, 1, 10, ()), (imm, 12, 4, 0, ())]) then (bif G_thumb_put (0, [(imm, 8, 3, 12, ()), (rd, 0, 4, 8, ()), (imm, 0, 8, 0, ())]) then _ else _) else _) = _
  rw [h1, h2]
  rfl

theorem short_val (a b : Int) (h : first < 281474976710656) : (T_thumb_short ((first : Int), a, b)).val = some (V_thumb_put ((first : Int), [(a, 0, 3, 0, ()), (b, 0, 3, 3, ())]), 0, false, ()) := by
  have h1 : G_thumb_put ((first : Int), [(a, 0, 3, 0, ()), (b, 0, 3, 3, ())]) = true := put_ok first _ h rfl
  show (bif G_thumb_put ((first : Int), [(a, 0, 3, 0, ()), (b, 0, 3, 3, ())]) then _ else _) = _
  rw [h1]
  rfl

/-- The low eleven bits of a branch's distance. -/
def lowN : Nat := fldN imm 1 11 0
theorem lowN_lt : lowN imm < 2048 := by
  unfold lowN fldN
  have h := mod_pow_nat (imm / (2 ^ (1 : Int).toNat : Nat)) 11
  have e : (11 : Int).toNat = 11 := rfl
  have e0 : (0 : Int).toNat = 0 := rfl
  rw [e, e0]
  omega
theorem put_low : V_thumb_put (0, [(imm, 1, 11, 0, ())]) = (lowN imm : Int) := by
  show ((0 ||| fldN imm 1 11 0 : Nat) : Int) = _
  rw [Nat.zero_or]
  rfl

/-- A wide branch's bits. -/
def wideV : tSpot.den :=
  bif op == 25 then (V_thumb_put (61440, [(band .i64 (ishr .i64 imm 24) 1, 0, 1, 10, ()), (cond, 0, 4, 6, ()), (imm, 12, 6, 0, ())]), V_thumb_put (((lowN imm ||| 32768 : Nat) : Int), [(imm, 18, 1, 13, ()), (imm, 19, 1, 11, ())]), true, ())
  else (V_thumb_put (61440, [(band .i64 (ishr .i64 imm 24) 1, 0, 1, 10, ()), (imm, 12, 10, 0, ())]), V_thumb_put (((lowN imm ||| 36864 : Nat) : Int), [(bxor .i64 (icompl .i64 (ishr .i64 imm 23)) (band .i64 (ishr .i64 imm 24) 1), 0, 1, 13, ()), (bxor .i64 (icompl .i64 (ishr .i64 imm 22)) (band .i64 (ishr .i64 imm 24) 1), 0, 1, 11, ())]), true, ())

theorem wide_val : (T_thumb_wide (op, rd, rn, rm, ra, imm, cond, w, ())).val = some (wideV op imm cond) := by
  have hl := lowN_lt imm
  have o1 : lowN imm ||| 32768 < 2 ^ 48 := Nat.or_lt_two_pow (by omega) (by omega)
  have o2 : lowN imm ||| 36864 < 2 ^ 48 := Nat.or_lt_two_pow (by omega) (by omega)
  have e1 : bor .i64 (V_thumb_put (0, [(imm, 1, 11, 0, ())])) 32768 = ((lowN imm ||| 32768 : Nat) : Int) := by
    rw [put_low]; exact bor_nat (b := 32768) (by omega) (by omega)
  have e2 : bor .i64 (V_thumb_put (0, [(imm, 1, 11, 0, ())])) 36864 = ((lowN imm ||| 36864 : Nat) : Int) := by
    rw [put_low]; exact bor_nat (b := 36864) (by omega) (by omega)
  have g0 : G_thumb_put (0, [(imm, 1, 11, 0, ())]) = true := put_ok0 _ rfl
  have g1 : G_thumb_put (61440, [(band .i64 (ishr .i64 imm 24) 1, 0, 1, 10, ()), (cond, 0, 4, 6, ()), (imm, 12, 6, 0, ())]) = true := put_ok 61440 _ (by omega) rfl
  have g2 : G_thumb_put (61440, [(band .i64 (ishr .i64 imm 24) 1, 0, 1, 10, ()), (imm, 12, 10, 0, ())]) = true := put_ok 61440 _ (by omega) rfl
  have g3 := put_ok (lowN imm ||| 32768) [(imm, 18, 1, 13, ()), (imm, 19, 1, 11, ())] o1 rfl
  have g4 := put_ok (lowN imm ||| 36864) [(bxor .i64 (icompl .i64 (ishr .i64 imm 23)) (band .i64 (ishr .i64 imm 24) 1), 0, 1, 13, ()), (bxor .i64 (icompl .i64 (ishr .i64 imm 22)) (band .i64 (ishr .i64 imm 24) 1), 0, 1, 11, ())] o2 rfl
  simp only [T_thumb_wide, PO.val]
  rw [e1, e2, g0, g1, g2, g3, g4]
  unfold wideV
  cases op == 25
  · rfl
  · rfl
end

/-- An instruction's bits, if it is one. -/
def codeV (op rd rn rm ra imm cond : Int) (w : Bool) : tSpot.den :=
  bif op == 1 then (48896, 0, false, ())
  else bif op == 2 then (bor .i64 48640 imm, 0, false, ())
  else bif op == 3 then (V_thumb_put (62016, [(imm, 11, 1, 10, ()), (imm, 12, 4, 0, ())]), V_thumb_put (0, [(imm, 8, 3, 12, ()), (rd, 0, 4, 8, ()), (imm, 0, 8, 0, ())]), true, ())
  else bif op == 4 then (V_thumb_put (62144, [(imm, 11, 1, 10, ()), (imm, 12, 4, 0, ())]), V_thumb_put (0, [(imm, 8, 3, 12, ()), (rd, 0, 4, 8, ()), (imm, 0, 8, 0, ())]), true, ())
  else bif decide (op ≤ 16) && decide (5 ≤ op) then
    (V_thumb_put (bif decide (op ≤ 8) then 59983 else bif op == 9 then 60015 else bif op == 10 then 59904 else bif op == 11 then 59936 else bif op == 12 then 59968 else bif op == 13 then 60032 else bif op == 14 then 60160 else bif op == 15 then 60320 else 64256, [(rn, 0, 4, 0, ())]),
     (bif op == 16 then bor .i64 (V_thumb_put (0, [(imm, 2, 3, 12, ()), (rd, 0, 4, 8, ()), (imm, 0, 2, 6, ()), (0, 0, 2, 4, ()), (rm, 0, 4, 0, ())])) 61440
      else V_thumb_put (0, [(imm, 2, 3, 12, ()), (rd, 0, 4, 8, ()), (imm, 0, 2, 6, ()), (bif decide (op ≤ 8) then op - 5 else 0, 0, 2, 4, ()), (rm, 0, 4, 0, ())])), true, ())
  else bif op == 17 then (bor .i64 64416 rn, bor .i64 (bor .i64 (ishl .i64 rd 12) (ishl .i64 ra 8)) rm, true, ())
  else bif op == 18 then (bor .i64 62304 rn, V_thumb_put (imm + ra - 1, [(imm, 2, 3, 12, ()), (rd, 0, 4, 8, ()), (imm, 0, 2, 6, ())]), true, ())
  else bif op == 23 then (V_thumb_put (17024, [(rn, 0, 3, 0, ()), (rm, 0, 3, 3, ())]), 0, false, ())
  else bif decide (op ≤ 22) then (V_thumb_put (bif op == 19 then 26624 else bif op == 20 then 24576 else bif op == 21 then 30720 else 28672, [(rd, 0, 3, 0, ()), (rn, 0, 3, 3, ())]), 0, false, ())
  else bif w then wideV op imm cond
  else bif op == 24 then (V_thumb_put (57344, [(imm, 1, 11, 0, ())]), 0, false, ())
  else (V_thumb_put (53248, [(cond, 0, 4, 8, ()), (imm, 1, 8, 0, ())]), 0, false, ())

theorem check_bfi {rd rn rm ra imm cond : Int} {w : Bool} (h : V_thumb_Check (18, rd, rn, rm, ra, imm, cond, w, ()) = 0) : 0 ≤ imm ∧ imm ≤ 31 ∧ 1 ≤ ra ∧ ra ≤ 32 - imm := by
  have hw := left_same imm
  simp [V_thumb_Check, T_thumb_Check, V_thumb_formOf, T_thumb_formOf, V_thumb_field, T_thumb_field, V_thumb_within, T_thumb_within, PO.getO, PO.val] at h
  grind

theorem bits_1 (rd rn rm ra imm cond : Int) (w : Bool) (_ : V_thumb_Check (1, rd, rn, rm, ra, imm, cond, w, ()) = 0) : (T_thumb_bits (1, rd, rn, rm, ra, imm, cond, w, ())).val = some (codeV 1 rd rn rm ra imm cond w) := by
  rfl
theorem bits_2 (rd rn rm ra imm cond : Int) (w : Bool) (_ : V_thumb_Check (2, rd, rn, rm, ra, imm, cond, w, ()) = 0) : (T_thumb_bits (2, rd, rn, rm, ra, imm, cond, w, ())).val = some (codeV 2 rd rn rm ra imm cond w) := by
  rfl
theorem bits_3 (rd rn rm ra imm cond : Int) (w : Bool) (_ : V_thumb_Check (3, rd, rn, rm, ra, imm, cond, w, ()) = 0) : (T_thumb_bits (3, rd, rn, rm, ra, imm, cond, w, ())).val = some (codeV 3 rd rn rm ra imm cond w) := by
  have e : (T_thumb_move (62016, 3, rd, rn, rm, ra, imm, cond, w, ())).val = _ := move_val 62016 3 rd rn rm ra imm cond w (by omega)
  refine Eq.trans (b := (bif (PO.val (T_thumb_move (62016, 3, rd, rn, rm, ra, imm, cond, w, ()))).isSome then some ((PO.val (T_thumb_move (62016, 3, rd, rn, rm, ra, imm, cond, w, ()))).getD default) else none)) rfl ?_
  rw [e]
  rfl
theorem bits_4 (rd rn rm ra imm cond : Int) (w : Bool) (_ : V_thumb_Check (4, rd, rn, rm, ra, imm, cond, w, ()) = 0) : (T_thumb_bits (4, rd, rn, rm, ra, imm, cond, w, ())).val = some (codeV 4 rd rn rm ra imm cond w) := by
  have e : (T_thumb_move (62144, 4, rd, rn, rm, ra, imm, cond, w, ())).val = _ := move_val 62144 4 rd rn rm ra imm cond w (by omega)
  refine Eq.trans (b := (bif (PO.val (T_thumb_move (62144, 4, rd, rn, rm, ra, imm, cond, w, ()))).isSome then some ((PO.val (T_thumb_move (62144, 4, rd, rn, rm, ra, imm, cond, w, ()))).getD default) else none)) rfl ?_
  rw [e]
  rfl
theorem bits_5 (rd rn rm ra imm cond : Int) (w : Bool) (_ : V_thumb_Check (5, rd, rn, rm, ra, imm, cond, w, ()) = 0) : (T_thumb_bits (5, rd, rn, rm, ra, imm, cond, w, ())).val = some (codeV 5 rd rn rm ra imm cond w) := by
  have e : (T_thumb_shifted (59983, (5, rd, rn, rm, ra, imm, cond, w, ()), (w64 (5 - 5)))).val = _ := shifted_val 59983 5 rd rn rm ra imm cond w (w64 (5 - 5)) (by omega)
  refine Eq.trans (b := (bif (PO.val (T_thumb_shifted (59983, (5, rd, rn, rm, ra, imm, cond, w, ()), (w64 (5 - 5))))).isSome then some ((PO.val (T_thumb_shifted (59983, (5, rd, rn, rm, ra, imm, cond, w, ()), (w64 (5 - 5))))).getD default) else none)) rfl ?_
  rw [e]
  rfl
theorem bits_6 (rd rn rm ra imm cond : Int) (w : Bool) (_ : V_thumb_Check (6, rd, rn, rm, ra, imm, cond, w, ()) = 0) : (T_thumb_bits (6, rd, rn, rm, ra, imm, cond, w, ())).val = some (codeV 6 rd rn rm ra imm cond w) := by
  have e : (T_thumb_shifted (59983, (6, rd, rn, rm, ra, imm, cond, w, ()), (w64 (6 - 5)))).val = _ := shifted_val 59983 6 rd rn rm ra imm cond w (w64 (6 - 5)) (by omega)
  refine Eq.trans (b := (bif (PO.val (T_thumb_shifted (59983, (6, rd, rn, rm, ra, imm, cond, w, ()), (w64 (6 - 5))))).isSome then some ((PO.val (T_thumb_shifted (59983, (6, rd, rn, rm, ra, imm, cond, w, ()), (w64 (6 - 5))))).getD default) else none)) rfl ?_
  rw [e]
  rfl
theorem bits_7 (rd rn rm ra imm cond : Int) (w : Bool) (_ : V_thumb_Check (7, rd, rn, rm, ra, imm, cond, w, ()) = 0) : (T_thumb_bits (7, rd, rn, rm, ra, imm, cond, w, ())).val = some (codeV 7 rd rn rm ra imm cond w) := by
  have e : (T_thumb_shifted (59983, (7, rd, rn, rm, ra, imm, cond, w, ()), (w64 (7 - 5)))).val = _ := shifted_val 59983 7 rd rn rm ra imm cond w (w64 (7 - 5)) (by omega)
  refine Eq.trans (b := (bif (PO.val (T_thumb_shifted (59983, (7, rd, rn, rm, ra, imm, cond, w, ()), (w64 (7 - 5))))).isSome then some ((PO.val (T_thumb_shifted (59983, (7, rd, rn, rm, ra, imm, cond, w, ()), (w64 (7 - 5))))).getD default) else none)) rfl ?_
  rw [e]
  rfl
theorem bits_8 (rd rn rm ra imm cond : Int) (w : Bool) (_ : V_thumb_Check (8, rd, rn, rm, ra, imm, cond, w, ()) = 0) : (T_thumb_bits (8, rd, rn, rm, ra, imm, cond, w, ())).val = some (codeV 8 rd rn rm ra imm cond w) := by
  have e : (T_thumb_shifted (59983, (8, rd, rn, rm, ra, imm, cond, w, ()), (w64 (8 - 5)))).val = _ := shifted_val 59983 8 rd rn rm ra imm cond w (w64 (8 - 5)) (by omega)
  refine Eq.trans (b := (bif (PO.val (T_thumb_shifted (59983, (8, rd, rn, rm, ra, imm, cond, w, ()), (w64 (8 - 5))))).isSome then some ((PO.val (T_thumb_shifted (59983, (8, rd, rn, rm, ra, imm, cond, w, ()), (w64 (8 - 5))))).getD default) else none)) rfl ?_
  rw [e]
  rfl
theorem bits_9 (rd rn rm ra imm cond : Int) (w : Bool) (_ : V_thumb_Check (9, rd, rn, rm, ra, imm, cond, w, ()) = 0) : (T_thumb_bits (9, rd, rn, rm, ra, imm, cond, w, ())).val = some (codeV 9 rd rn rm ra imm cond w) := by
  have e : (T_thumb_shifted (60015, (9, rd, rn, rm, ra, imm, cond, w, ()), 0)).val = _ := shifted_val 60015 9 rd rn rm ra imm cond w 0 (by omega)
  refine Eq.trans (b := (bif (PO.val (T_thumb_shifted (60015, (9, rd, rn, rm, ra, imm, cond, w, ()), 0))).isSome then some ((PO.val (T_thumb_shifted (60015, (9, rd, rn, rm, ra, imm, cond, w, ()), 0))).getD default) else none)) rfl ?_
  rw [e]
  rfl
theorem bits_10 (rd rn rm ra imm cond : Int) (w : Bool) (_ : V_thumb_Check (10, rd, rn, rm, ra, imm, cond, w, ()) = 0) : (T_thumb_bits (10, rd, rn, rm, ra, imm, cond, w, ())).val = some (codeV 10 rd rn rm ra imm cond w) := by
  have e : (T_thumb_shifted (59904, (10, rd, rn, rm, ra, imm, cond, w, ()), 0)).val = _ := shifted_val 59904 10 rd rn rm ra imm cond w 0 (by omega)
  refine Eq.trans (b := (bif (PO.val (T_thumb_shifted (59904, (10, rd, rn, rm, ra, imm, cond, w, ()), 0))).isSome then some ((PO.val (T_thumb_shifted (59904, (10, rd, rn, rm, ra, imm, cond, w, ()), 0))).getD default) else none)) rfl ?_
  rw [e]
  rfl
theorem bits_11 (rd rn rm ra imm cond : Int) (w : Bool) (_ : V_thumb_Check (11, rd, rn, rm, ra, imm, cond, w, ()) = 0) : (T_thumb_bits (11, rd, rn, rm, ra, imm, cond, w, ())).val = some (codeV 11 rd rn rm ra imm cond w) := by
  have e : (T_thumb_shifted (59936, (11, rd, rn, rm, ra, imm, cond, w, ()), 0)).val = _ := shifted_val 59936 11 rd rn rm ra imm cond w 0 (by omega)
  refine Eq.trans (b := (bif (PO.val (T_thumb_shifted (59936, (11, rd, rn, rm, ra, imm, cond, w, ()), 0))).isSome then some ((PO.val (T_thumb_shifted (59936, (11, rd, rn, rm, ra, imm, cond, w, ()), 0))).getD default) else none)) rfl ?_
  rw [e]
  rfl
theorem bits_12 (rd rn rm ra imm cond : Int) (w : Bool) (_ : V_thumb_Check (12, rd, rn, rm, ra, imm, cond, w, ()) = 0) : (T_thumb_bits (12, rd, rn, rm, ra, imm, cond, w, ())).val = some (codeV 12 rd rn rm ra imm cond w) := by
  have e : (T_thumb_shifted (59968, (12, rd, rn, rm, ra, imm, cond, w, ()), 0)).val = _ := shifted_val 59968 12 rd rn rm ra imm cond w 0 (by omega)
  refine Eq.trans (b := (bif (PO.val (T_thumb_shifted (59968, (12, rd, rn, rm, ra, imm, cond, w, ()), 0))).isSome then some ((PO.val (T_thumb_shifted (59968, (12, rd, rn, rm, ra, imm, cond, w, ()), 0))).getD default) else none)) rfl ?_
  rw [e]
  rfl
theorem bits_13 (rd rn rm ra imm cond : Int) (w : Bool) (_ : V_thumb_Check (13, rd, rn, rm, ra, imm, cond, w, ()) = 0) : (T_thumb_bits (13, rd, rn, rm, ra, imm, cond, w, ())).val = some (codeV 13 rd rn rm ra imm cond w) := by
  have e : (T_thumb_shifted (60032, (13, rd, rn, rm, ra, imm, cond, w, ()), 0)).val = _ := shifted_val 60032 13 rd rn rm ra imm cond w 0 (by omega)
  refine Eq.trans (b := (bif (PO.val (T_thumb_shifted (60032, (13, rd, rn, rm, ra, imm, cond, w, ()), 0))).isSome then some ((PO.val (T_thumb_shifted (60032, (13, rd, rn, rm, ra, imm, cond, w, ()), 0))).getD default) else none)) rfl ?_
  rw [e]
  rfl
theorem bits_14 (rd rn rm ra imm cond : Int) (w : Bool) (_ : V_thumb_Check (14, rd, rn, rm, ra, imm, cond, w, ()) = 0) : (T_thumb_bits (14, rd, rn, rm, ra, imm, cond, w, ())).val = some (codeV 14 rd rn rm ra imm cond w) := by
  have e : (T_thumb_shifted (60160, (14, rd, rn, rm, ra, imm, cond, w, ()), 0)).val = _ := shifted_val 60160 14 rd rn rm ra imm cond w 0 (by omega)
  refine Eq.trans (b := (bif (PO.val (T_thumb_shifted (60160, (14, rd, rn, rm, ra, imm, cond, w, ()), 0))).isSome then some ((PO.val (T_thumb_shifted (60160, (14, rd, rn, rm, ra, imm, cond, w, ()), 0))).getD default) else none)) rfl ?_
  rw [e]
  rfl
theorem bits_15 (rd rn rm ra imm cond : Int) (w : Bool) (_ : V_thumb_Check (15, rd, rn, rm, ra, imm, cond, w, ()) = 0) : (T_thumb_bits (15, rd, rn, rm, ra, imm, cond, w, ())).val = some (codeV 15 rd rn rm ra imm cond w) := by
  have e : (T_thumb_shifted (60320, (15, rd, rn, rm, ra, imm, cond, w, ()), 0)).val = _ := shifted_val 60320 15 rd rn rm ra imm cond w 0 (by omega)
  refine Eq.trans (b := (bif (PO.val (T_thumb_shifted (60320, (15, rd, rn, rm, ra, imm, cond, w, ()), 0))).isSome then some ((PO.val (T_thumb_shifted (60320, (15, rd, rn, rm, ra, imm, cond, w, ()), 0))).getD default) else none)) rfl ?_
  rw [e]
  rfl
theorem bits_16 (rd rn rm ra imm cond : Int) (w : Bool) (_ : V_thumb_Check (16, rd, rn, rm, ra, imm, cond, w, ()) = 0) : (T_thumb_bits (16, rd, rn, rm, ra, imm, cond, w, ())).val = some (codeV 16 rd rn rm ra imm cond w) := by
  have b : (T_thumb_bits (16, rd, rn, rm, ra, imm, cond, w, ())).val = (bif (PO.val (T_thumb_others (16, rd, rn, rm, ra, imm, cond, w, ()))).isSome then some ((PO.val (T_thumb_others (16, rd, rn, rm, ra, imm, cond, w, ()))).getD default) else none) := rfl
  have e : (T_thumb_shifted (64256, (16, rd, rn, rm, ra, imm, cond, w, ()), 0)).val = _ := shifted_val 64256 16 rd rn rm ra imm cond w 0 (by omega)
  have o : (T_thumb_others (16, rd, rn, rm, ra, imm, cond, w, ())).val = some (V_thumb_put (64256, [(rn, 0, 4, 0, ())]), bor .i64 (V_thumb_put (0, [(imm, 2, 3, 12, ()), (rd, 0, 4, 8, ()), (imm, 0, 2, 6, ()), (0, 0, 2, 4, ()), (rm, 0, 4, 0, ())])) 61440, true, ()) := by
    refine Eq.trans (b := (bif (PO.val (T_thumb_shifted (64256, (16, rd, rn, rm, ra, imm, cond, w, ()), 0))).isSome then some (((PO.val (T_thumb_shifted (64256, (16, rd, rn, rm, ra, imm, cond, w, ()), 0))).getD default).1, bor .i64 ((PO.val (T_thumb_shifted (64256, (16, rd, rn, rm, ra, imm, cond, w, ()), 0))).getD default).2.1 61440, ((PO.val (T_thumb_shifted (64256, (16, rd, rn, rm, ra, imm, cond, w, ()), 0))).getD default).2.2) else none)) rfl ?_
    rw [e]
    rfl
  have c : codeV 16 rd rn rm ra imm cond w = (V_thumb_put (64256, [(rn, 0, 4, 0, ())]), bor .i64 (V_thumb_put (0, [(imm, 2, 3, 12, ()), (rd, 0, 4, 8, ()), (imm, 0, 2, 6, ()), (0, 0, 2, 4, ()), (rm, 0, 4, 0, ())])) 61440, true, ()) := rfl
  rw [b, o, c]
  rfl
theorem bits_17 (rd rn rm ra imm cond : Int) (w : Bool) (_ : V_thumb_Check (17, rd, rn, rm, ra, imm, cond, w, ()) = 0) : (T_thumb_bits (17, rd, rn, rm, ra, imm, cond, w, ())).val = some (codeV 17 rd rn rm ra imm cond w) := by
  have b : (T_thumb_bits (17, rd, rn, rm, ra, imm, cond, w, ())).val = (bif (PO.val (T_thumb_others (17, rd, rn, rm, ra, imm, cond, w, ()))).isSome then some ((PO.val (T_thumb_others (17, rd, rn, rm, ra, imm, cond, w, ()))).getD default) else none) := rfl
  have o : (T_thumb_others (17, rd, rn, rm, ra, imm, cond, w, ())).val = some (bor .i64 64416 rn, bor .i64 (bor .i64 (ishl .i64 rd 12) (ishl .i64 ra 8)) rm, true, ()) := rfl
  have c : codeV 17 rd rn rm ra imm cond w = (bor .i64 64416 rn, bor .i64 (bor .i64 (ishl .i64 rd 12) (ishl .i64 ra 8)) rm, true, ()) := rfl
  rw [b, o, c]
  rfl
theorem bits_18 (rd rn rm ra imm cond : Int) (w : Bool) (h : V_thumb_Check (18, rd, rn, rm, ra, imm, cond, w, ()) = 0) : (T_thumb_bits (18, rd, rn, rm, ra, imm, cond, w, ())).val = some (codeV 18 rd rn rm ra imm cond w) := by
  have b : (T_thumb_bits (18, rd, rn, rm, ra, imm, cond, w, ())).val = (bif (PO.val (T_thumb_others (18, rd, rn, rm, ra, imm, cond, w, ()))).isSome then some ((PO.val (T_thumb_others (18, rd, rn, rm, ra, imm, cond, w, ()))).getD default) else none) := rfl
  obtain ⟨c1, c2, c3, c4⟩ := check_bfi h
  have hs : w64 (w64 (imm + ra) - 1) = imm + ra - 1 := by rw [w64_id (n := imm + ra) (by omega) (by omega), w64_id (by omega) (by omega)]
  obtain ⟨n, hn⟩ := Int.eq_ofNat_of_zero_le (show 0 ≤ imm + ra - 1 by omega)
  have g := put_ok n [(imm, 2, 3, 12, ()), (rd, 0, 4, 8, ()), (imm, 0, 2, 6, ())] (by omega) rfl
  have o : (T_thumb_others (18, rd, rn, rm, ra, imm, cond, w, ())).val = some (bor .i64 62304 rn, V_thumb_put (imm + ra - 1, [(imm, 2, 3, 12, ()), (rd, 0, 4, 8, ()), (imm, 0, 2, 6, ())]), true, ()) := by
    refine Eq.trans (b := (bif G_thumb_put (w64 (w64 (imm + ra) - 1), [(imm, 2, 3, 12, ()), (rd, 0, 4, 8, ()), (imm, 0, 2, 6, ())]) then some (bor .i64 62304 rn, V_thumb_put (w64 (w64 (imm + ra) - 1), [(imm, 2, 3, 12, ()), (rd, 0, 4, 8, ()), (imm, 0, 2, 6, ())]), true, ()) else none)) rfl ?_
    rw [hs, hn, g]
    rfl
  have c : codeV 18 rd rn rm ra imm cond w = (bor .i64 62304 rn, V_thumb_put (imm + ra - 1, [(imm, 2, 3, 12, ()), (rd, 0, 4, 8, ()), (imm, 0, 2, 6, ())]), true, ()) := rfl
  rw [b, o, c]
  rfl
theorem bits_19 (rd rn rm ra imm cond : Int) (w : Bool) (_ : V_thumb_Check (19, rd, rn, rm, ra, imm, cond, w, ()) = 0) : (T_thumb_bits (19, rd, rn, rm, ra, imm, cond, w, ())).val = some (codeV 19 rd rn rm ra imm cond w) := by
  have b : (T_thumb_bits (19, rd, rn, rm, ra, imm, cond, w, ())).val = (bif (PO.val (T_thumb_others (19, rd, rn, rm, ra, imm, cond, w, ()))).isSome then some ((PO.val (T_thumb_others (19, rd, rn, rm, ra, imm, cond, w, ()))).getD default) else none) := rfl
  have e : (T_thumb_short (26624, rd, rn)).val = some (V_thumb_put (26624, [(rd, 0, 3, 0, ()), (rn, 0, 3, 3, ())]), 0, false, ()) := short_val 26624 rd rn (by omega)
  have o : (T_thumb_others (19, rd, rn, rm, ra, imm, cond, w, ())).val = some (V_thumb_put (26624, [(rd, 0, 3, 0, ()), (rn, 0, 3, 3, ())]), 0, false, ()) := by
    refine Eq.trans (b := (bif (PO.val (T_thumb_short (26624, rd, rn))).isSome then some ((PO.val (T_thumb_short (26624, rd, rn))).getD default) else none)) rfl ?_
    rw [e]
    rfl
  have c : codeV 19 rd rn rm ra imm cond w = (V_thumb_put (26624, [(rd, 0, 3, 0, ()), (rn, 0, 3, 3, ())]), 0, false, ()) := rfl
  rw [b, o, c]
  rfl
theorem bits_20 (rd rn rm ra imm cond : Int) (w : Bool) (_ : V_thumb_Check (20, rd, rn, rm, ra, imm, cond, w, ()) = 0) : (T_thumb_bits (20, rd, rn, rm, ra, imm, cond, w, ())).val = some (codeV 20 rd rn rm ra imm cond w) := by
  have b : (T_thumb_bits (20, rd, rn, rm, ra, imm, cond, w, ())).val = (bif (PO.val (T_thumb_others (20, rd, rn, rm, ra, imm, cond, w, ()))).isSome then some ((PO.val (T_thumb_others (20, rd, rn, rm, ra, imm, cond, w, ()))).getD default) else none) := rfl
  have e : (T_thumb_short (24576, rd, rn)).val = some (V_thumb_put (24576, [(rd, 0, 3, 0, ()), (rn, 0, 3, 3, ())]), 0, false, ()) := short_val 24576 rd rn (by omega)
  have o : (T_thumb_others (20, rd, rn, rm, ra, imm, cond, w, ())).val = some (V_thumb_put (24576, [(rd, 0, 3, 0, ()), (rn, 0, 3, 3, ())]), 0, false, ()) := by
    refine Eq.trans (b := (bif (PO.val (T_thumb_short (24576, rd, rn))).isSome then some ((PO.val (T_thumb_short (24576, rd, rn))).getD default) else none)) rfl ?_
    rw [e]
    rfl
  have c : codeV 20 rd rn rm ra imm cond w = (V_thumb_put (24576, [(rd, 0, 3, 0, ()), (rn, 0, 3, 3, ())]), 0, false, ()) := rfl
  rw [b, o, c]
  rfl
theorem bits_21 (rd rn rm ra imm cond : Int) (w : Bool) (_ : V_thumb_Check (21, rd, rn, rm, ra, imm, cond, w, ()) = 0) : (T_thumb_bits (21, rd, rn, rm, ra, imm, cond, w, ())).val = some (codeV 21 rd rn rm ra imm cond w) := by
  have b : (T_thumb_bits (21, rd, rn, rm, ra, imm, cond, w, ())).val = (bif (PO.val (T_thumb_others (21, rd, rn, rm, ra, imm, cond, w, ()))).isSome then some ((PO.val (T_thumb_others (21, rd, rn, rm, ra, imm, cond, w, ()))).getD default) else none) := rfl
  have e : (T_thumb_short (30720, rd, rn)).val = some (V_thumb_put (30720, [(rd, 0, 3, 0, ()), (rn, 0, 3, 3, ())]), 0, false, ()) := short_val 30720 rd rn (by omega)
  have o : (T_thumb_others (21, rd, rn, rm, ra, imm, cond, w, ())).val = some (V_thumb_put (30720, [(rd, 0, 3, 0, ()), (rn, 0, 3, 3, ())]), 0, false, ()) := by
    refine Eq.trans (b := (bif (PO.val (T_thumb_short (30720, rd, rn))).isSome then some ((PO.val (T_thumb_short (30720, rd, rn))).getD default) else none)) rfl ?_
    rw [e]
    rfl
  have c : codeV 21 rd rn rm ra imm cond w = (V_thumb_put (30720, [(rd, 0, 3, 0, ()), (rn, 0, 3, 3, ())]), 0, false, ()) := rfl
  rw [b, o, c]
  rfl
theorem bits_22 (rd rn rm ra imm cond : Int) (w : Bool) (_ : V_thumb_Check (22, rd, rn, rm, ra, imm, cond, w, ()) = 0) : (T_thumb_bits (22, rd, rn, rm, ra, imm, cond, w, ())).val = some (codeV 22 rd rn rm ra imm cond w) := by
  have b : (T_thumb_bits (22, rd, rn, rm, ra, imm, cond, w, ())).val = (bif (PO.val (T_thumb_others (22, rd, rn, rm, ra, imm, cond, w, ()))).isSome then some ((PO.val (T_thumb_others (22, rd, rn, rm, ra, imm, cond, w, ()))).getD default) else none) := rfl
  have e : (T_thumb_short (28672, rd, rn)).val = some (V_thumb_put (28672, [(rd, 0, 3, 0, ()), (rn, 0, 3, 3, ())]), 0, false, ()) := short_val 28672 rd rn (by omega)
  have o : (T_thumb_others (22, rd, rn, rm, ra, imm, cond, w, ())).val = some (V_thumb_put (28672, [(rd, 0, 3, 0, ()), (rn, 0, 3, 3, ())]), 0, false, ()) := by
    refine Eq.trans (b := (bif (PO.val (T_thumb_short (28672, rd, rn))).isSome then some ((PO.val (T_thumb_short (28672, rd, rn))).getD default) else none)) rfl ?_
    rw [e]
    rfl
  have c : codeV 22 rd rn rm ra imm cond w = (V_thumb_put (28672, [(rd, 0, 3, 0, ()), (rn, 0, 3, 3, ())]), 0, false, ()) := rfl
  rw [b, o, c]
  rfl
theorem bits_23 (rd rn rm ra imm cond : Int) (w : Bool) (_ : V_thumb_Check (23, rd, rn, rm, ra, imm, cond, w, ()) = 0) : (T_thumb_bits (23, rd, rn, rm, ra, imm, cond, w, ())).val = some (codeV 23 rd rn rm ra imm cond w) := by
  have b : (T_thumb_bits (23, rd, rn, rm, ra, imm, cond, w, ())).val = (bif (PO.val (T_thumb_others (23, rd, rn, rm, ra, imm, cond, w, ()))).isSome then some ((PO.val (T_thumb_others (23, rd, rn, rm, ra, imm, cond, w, ()))).getD default) else none) := rfl
  have e : (T_thumb_short (17024, rn, rm)).val = some (V_thumb_put (17024, [(rn, 0, 3, 0, ()), (rm, 0, 3, 3, ())]), 0, false, ()) := short_val 17024 rn rm (by omega)
  have o : (T_thumb_others (23, rd, rn, rm, ra, imm, cond, w, ())).val = some (V_thumb_put (17024, [(rn, 0, 3, 0, ()), (rm, 0, 3, 3, ())]), 0, false, ()) := by
    refine Eq.trans (b := (bif (PO.val (T_thumb_short (17024, rn, rm))).isSome then some ((PO.val (T_thumb_short (17024, rn, rm))).getD default) else none)) rfl ?_
    rw [e]
    rfl
  have c : codeV 23 rd rn rm ra imm cond w = (V_thumb_put (17024, [(rn, 0, 3, 0, ()), (rm, 0, 3, 3, ())]), 0, false, ()) := rfl
  rw [b, o, c]
  rfl
theorem bits_24 (rd rn rm ra imm cond : Int) (w : Bool) (_ : V_thumb_Check (24, rd, rn, rm, ra, imm, cond, w, ()) = 0) : (T_thumb_bits (24, rd, rn, rm, ra, imm, cond, w, ())).val = some (codeV 24 rd rn rm ra imm cond w) := by
  have b : (T_thumb_bits (24, rd, rn, rm, ra, imm, cond, w, ())).val = (bif (PO.val (T_thumb_others (24, rd, rn, rm, ra, imm, cond, w, ()))).isSome then some ((PO.val (T_thumb_others (24, rd, rn, rm, ra, imm, cond, w, ()))).getD default) else none) := rfl
  have e : (T_thumb_wide (24, rd, rn, rm, ra, imm, cond, w, ())).val = some (wideV 24 imm cond) := wide_val 24 rd rn rm ra imm cond w
  have g : G_thumb_put (57344, [(imm, 1, 11, 0, ())]) = true := put_ok 57344 [(imm, 1, 11, 0, ())] (by omega) rfl
  have o : (T_thumb_others (24, rd, rn, rm, ra, imm, cond, w, ())).val = some (bif w then wideV 24 imm cond else (V_thumb_put (57344, [(imm, 1, 11, 0, ())]), 0, false, ())) := by
    refine Eq.trans (b := (bif w then (bif (PO.val (T_thumb_wide (24, rd, rn, rm, ra, imm, cond, w, ()))).isSome then some ((PO.val (T_thumb_wide (24, rd, rn, rm, ra, imm, cond, w, ()))).getD default) else none) else (bif G_thumb_put (57344, [(imm, 1, 11, 0, ())]) then some (V_thumb_put (57344, [(imm, 1, 11, 0, ())]), 0, false, ()) else none))) rfl ?_
    rw [e, g]
    cases w <;> rfl
  have c : codeV 24 rd rn rm ra imm cond w = (bif w then wideV 24 imm cond else (V_thumb_put (57344, [(imm, 1, 11, 0, ())]), 0, false, ())) := rfl
  rw [b, o, c]
  rfl
theorem bits_25 (rd rn rm ra imm cond : Int) (w : Bool) (_ : V_thumb_Check (25, rd, rn, rm, ra, imm, cond, w, ()) = 0) : (T_thumb_bits (25, rd, rn, rm, ra, imm, cond, w, ())).val = some (codeV 25 rd rn rm ra imm cond w) := by
  have b : (T_thumb_bits (25, rd, rn, rm, ra, imm, cond, w, ())).val = (bif (PO.val (T_thumb_others (25, rd, rn, rm, ra, imm, cond, w, ()))).isSome then some ((PO.val (T_thumb_others (25, rd, rn, rm, ra, imm, cond, w, ()))).getD default) else none) := rfl
  have e : (T_thumb_wide (25, rd, rn, rm, ra, imm, cond, w, ())).val = some (wideV 25 imm cond) := wide_val 25 rd rn rm ra imm cond w
  have g : G_thumb_put (53248, [(cond, 0, 4, 8, ()), (imm, 1, 8, 0, ())]) = true := put_ok 53248 [(cond, 0, 4, 8, ()), (imm, 1, 8, 0, ())] (by omega) rfl
  have o : (T_thumb_others (25, rd, rn, rm, ra, imm, cond, w, ())).val = some (bif w then wideV 25 imm cond else (V_thumb_put (53248, [(cond, 0, 4, 8, ()), (imm, 1, 8, 0, ())]), 0, false, ())) := by
    refine Eq.trans (b := (bif w then (bif (PO.val (T_thumb_wide (25, rd, rn, rm, ra, imm, cond, w, ()))).isSome then some ((PO.val (T_thumb_wide (25, rd, rn, rm, ra, imm, cond, w, ()))).getD default) else none) else (bif G_thumb_put (53248, [(cond, 0, 4, 8, ()), (imm, 1, 8, 0, ())]) then some (V_thumb_put (53248, [(cond, 0, 4, 8, ()), (imm, 1, 8, 0, ())]), 0, false, ()) else none))) rfl ?_
    rw [e, g]
    cases w <;> rfl
  have c : codeV 25 rd rn rm ra imm cond w = (bif w then wideV 25 imm cond else (V_thumb_put (53248, [(cond, 0, 4, 8, ()), (imm, 1, 8, 0, ())]), 0, false, ())) := rfl
  rw [b, o, c]
  rfl
theorem bits_val (op rd rn rm ra imm cond : Int) (w : Bool) (h : V_thumb_Check (op, rd, rn, rm, ra, imm, cond, w, ()) = 0) : (T_thumb_bits (op, rd, rn, rm, ra, imm, cond, w, ())).val = some (codeV op rd rn rm ra imm cond w) := by
  rcases op_cases op with rfl | rfl | rfl | rfl | rfl | rfl | rfl | rfl | rfl | rfl | rfl | rfl | rfl | rfl | rfl | rfl | rfl | rfl | rfl | rfl | rfl | rfl | rfl | rfl | rfl | hop
  case inr.inr.inr.inr.inr.inr.inr.inr.inr.inr.inr.inr.inr.inr.inr.inr.inr.inr.inr.inr.inr.inr.inr.inr.inr =>
    exfalso
    have e := fun k hk => op_none (n := op) (k := k) hop hk
    simp [V_thumb_Check, T_thumb_Check, V_thumb_formOf, T_thumb_formOf, PO.getO, PO.val, e] at h
  · exact bits_1 rd rn rm ra imm cond w h
  · exact bits_2 rd rn rm ra imm cond w h
  · exact bits_3 rd rn rm ra imm cond w h
  · exact bits_4 rd rn rm ra imm cond w h
  · exact bits_5 rd rn rm ra imm cond w h
  · exact bits_6 rd rn rm ra imm cond w h
  · exact bits_7 rd rn rm ra imm cond w h
  · exact bits_8 rd rn rm ra imm cond w h
  · exact bits_9 rd rn rm ra imm cond w h
  · exact bits_10 rd rn rm ra imm cond w h
  · exact bits_11 rd rn rm ra imm cond w h
  · exact bits_12 rd rn rm ra imm cond w h
  · exact bits_13 rd rn rm ra imm cond w h
  · exact bits_14 rd rn rm ra imm cond w h
  · exact bits_15 rd rn rm ra imm cond w h
  · exact bits_16 rd rn rm ra imm cond w h
  · exact bits_17 rd rn rm ra imm cond w h
  · exact bits_18 rd rn rm ra imm cond w h
  · exact bits_19 rd rn rm ra imm cond w h
  · exact bits_20 rd rn rm ra imm cond w h
  · exact bits_21 rd rn rm ra imm cond w h
  · exact bits_22 rd rn rm ra imm cond w h
  · exact bits_23 rd rn rm ra imm cond w h
  · exact bits_24 rd rn rm ra imm cond w h
  · exact bits_25 rd rn rm ra imm cond w h

theorem code_long (op rd rn rm ra imm cond : Int) (w : Bool) (h : V_thumb_Check (op, rd, rn, rm, ra, imm, cond, w, ()) = 0) : (codeV op rd rn rm ra imm cond w).2.2.1 = isLong op w := by
  have hwide : ∀ op : Int, (wideV op imm cond).2.2.1 = true := fun op => by unfold wideV; cases op == 25 <;> rfl
  rcases op_cases op with rfl | rfl | rfl | rfl | rfl | rfl | rfl | rfl | rfl | rfl | rfl | rfl | rfl | rfl | rfl | rfl | rfl | rfl | rfl | rfl | rfl | rfl | rfl | rfl | rfl | hop
  case inr.inr.inr.inr.inr.inr.inr.inr.inr.inr.inr.inr.inr.inr.inr.inr.inr.inr.inr.inr.inr.inr.inr.inr.inr =>
    exfalso
    have e := fun k hk => op_none (n := op) (k := k) hop hk
    simp [V_thumb_Check, T_thumb_Check, V_thumb_formOf, T_thumb_formOf, PO.getO, PO.val, e] at h
  all_goals
    have hw : w = false ∨ w = true := by cases w <;> simp
    rcases hw with rfl | rfl
    · rfl
    · first
      | (exfalso; simp [V_thumb_Check, T_thumb_Check, PO.getO, PO.val] at h; done)
      | rfl
      | exact hwide _

end Go.Av
end
/-! Layer 2: how many bytes an instruction has. -/
section
namespace Go.Av
open Go
/-- thumb.Size -/
abbrev A_thumb_Size : List Ty := [tIns]
abbrev S_thumb_Size : Sh := Sh.ty (Ty.int IntKind.i64)
def T_thumb_Size (x : dens A_thumb_Size) : PO (Sh.den S_thumb_Size) :=
  (.ite (V_thumb_Check x != 0)
   (.ret (0))
   (.ite (G_thumb_bits x)
    (.ite ((V_thumb_bits x).2.2.1)
     (.ret (4))
     (.ret (2)))
    .fail))
def G_thumb_Size (_ : dens A_thumb_Size) : Bool := true
def V_thumb_Size (x : dens A_thumb_Size) : Sh.den S_thumb_Size := bif V_thumb_Check x != 0 then 0 else bif isLong x.1 x.2.2.2.2.2.2.2.1 then 4 else 2
theorem size_val (x : tIns.den) : (T_thumb_Size x).val = some (bif V_thumb_Check x != 0 then 0 else bif isLong x.1 x.2.2.2.2.2.2.2.1 then 4 else 2) := by
  obtain ⟨op, rd, rn, rm, ra, imm, cond, w, u⟩ := x
  show (bif V_thumb_Check (op, rd, rn, rm, ra, imm, cond, w, ()) != 0 then some 0 else (bif (T_thumb_bits (op, rd, rn, rm, ra, imm, cond, w, ())).val.isSome then (bif ((T_thumb_bits (op, rd, rn, rm, ra, imm, cond, w, ())).val.getD default).2.2.1 then some 4 else some 2) else none)) = some (bif V_thumb_Check (op, rd, rn, rm, ra, imm, cond, w, ()) != 0 then 0 else bif isLong op w then 4 else 2)
  cases hc : (V_thumb_Check (op, rd, rn, rm, ra, imm, cond, w, ()) != (0 : Int))
  · have h : V_thumb_Check (op, rd, rn, rm, ra, imm, cond, w, ()) = 0 := by simpa using hc
    rw [bits_val op rd rn rm ra imm cond w h]
    show (bif (codeV op rd rn rm ra imm cond w).2.2.1 then some 4 else some 2) = some (bif isLong op w then 4 else 2)
    rw [code_long op rd rn rm ra imm cond w h]
    cases isLong op w <;> rfl
  · rfl
theorem ok_thumb_Size (x : dens A_thumb_Size) (_ : G_thumb_Size x = true) : (T_thumb_Size x).val = some (V_thumb_Size x) := size_val x
end Go.Av
end
/-! Layer 2: how many bytes an instruction has, by the document. -/
section
namespace Go.Av
open Go
end Go.Av
end
/-! Layer 1: words, by the document. -/
section
namespace Go.Av
open Go
/-- A bit of a number. -/
def bt (m j : Nat) : Nat := m / 2 ^ j % 2
theorem bt_eq (m j : Nat) : bt m j = (m.testBit j).toNat := (Nat.toNat_testBit m j).symm
end Go.Av
end
/-! Layer 1: words, by the document: the other operations. -/
section
namespace Go.Av
open Go
end Go.Av
end
/-! Layer 8: what an instruction does. -/
section
namespace Go.Av
open Go
/-- Registers, as words. -/
def wordR (l : List Int) : List Int := l.map fun n => (wn n : Int)
theorem wordR_len (l : List Int) : (wordR l).length = l.length := by simp [wordR]
def wordSt (l : List Int) (k : Nat) : List Int := (wordR l).take k ++ l.drop k
theorem wordSt_step (l : List Int) {k : Nat} (h : k < l.length) : (wordSt l k).set k (wn l[k] : Int) = wordSt l (k + 1) := by
  unfold wordSt
  have h1 : ((wordR l).take k).length = k := by rw [List.length_take, wordR_len]; omega
  rw [List.set_append_right _ _ (by omega), h1, Nat.sub_self, List.drop_eq_getElem_cons h, List.set_cons_zero, List.take_succ_eq_append_getElem (by rw [wordR_len]; omega), List.append_assoc]
  simp [wordR]
theorem wordSt_end (l : List Int) {k : Nat} (h : l.length ≤ k) : wordSt l k = wordR l := by
  unfold wordSt
  rw [List.take_of_length_le (by rw [wordR_len]; omega), List.drop_of_length_le h, List.append_nil]
theorem wordSt_zero (l : List Int) : wordSt l 0 = l := by simp [wordSt]
/-- cpu.Holds -/
abbrev A_cpu_Holds : List Ty := [tState, (.int .i64)]
abbrev S_cpu_Holds : Sh := Sh.ty Ty.bool
def T_cpu_Holds (x : dens A_cpu_Holds) : PO (Sh.den S_cpu_Holds) :=
  (.ite (decide (x.2 < 0) || decide (x.2 > 13))
   (.ret (false))
   (.ret ((bif ishr IntKind.i64 x.2 1 == 0 then x.1.2.2.2.1 else bif ishr IntKind.i64 x.2 1 == 1 then x.1.2.2.2.2.1 else bif ishr IntKind.i64 x.2 1 == 2 then x.1.2.2.1 else bif ishr IntKind.i64 x.2 1 == 3 then x.1.2.2.2.2.2.1 else bif ishr IntKind.i64 x.2 1 == 4 then x.1.2.2.2.2.1 && !x.1.2.2.2.1 else bif ishr IntKind.i64 x.2 1 == 5 then x.1.2.2.1 == x.1.2.2.2.2.2.1 else ishr IntKind.i64 x.2 1 == 6 && (!x.1.2.2.2.1 && x.1.2.2.1 == x.1.2.2.2.2.2.1)) == (band IntKind.i64 x.2 1 == 0))))
def G_cpu_Holds (_ : dens A_cpu_Holds) : Bool := true
def V_cpu_Holds (x : dens A_cpu_Holds) : Sh.den S_cpu_Holds := (T_cpu_Holds x).getO default
theorem ok_cpu_Holds (x : dens A_cpu_Holds) (_ : G_cpu_Holds x = true) : (T_cpu_Holds x).val = some (V_cpu_Holds x) := PO.sure_ok default (by simp [T_cpu_Holds, PO.sure])
/-- cpu.goes -/
abbrev A_cpu_goes : List Ty := [tState, tIns]
abbrev S_cpu_goes : Sh := Sh.ty Ty.bool
def T_cpu_goes (x : dens A_cpu_goes) : PO (Sh.den S_cpu_goes) :=
  (.ite (x.2.1 == 24 || (x.2.1 == 25 || true))
   (.ret (x.2.1 == 24 || x.2.1 == 25 && V_cpu_Holds (x.1, x.2.2.2.2.2.2.2.1)))
   .fail)
def G_cpu_goes (_ : dens A_cpu_goes) : Bool := true
def V_cpu_goes (x : dens A_cpu_goes) : Sh.den S_cpu_goes := (T_cpu_goes x).getO default
theorem ok_cpu_goes (x : dens A_cpu_goes) (_ : G_cpu_goes x = true) : (T_cpu_goes x).val = some (V_cpu_goes x) := PO.tots_ok default (by simp [T_cpu_goes, PO.tots])
def L_cpu_words_2 : LoopN where
  M := [1, 2, 6, 7]
  T := [3, 4, 8, 9, 10, 11, 12, 13, 14, 15, 16]
  D := [6, 7]
  ss := [.box 0 0, .box 1 0, .ty (.arr 15 (.int .i64)), .ty (.int .i64)]
  hs := [.ty tState, .ty tState]
  es := [.exit 0]
  σ := (Ty.den (.int .i64)) × (Sh.den (.ty tState)) × (Sh.den (.ty tState))
  x0 := fun x y => (x.2.2.2, y.1, y.2)
  put := fun x _ s => ((x.1, x.2.1, x.2.2.1, s.1), (s.2.1, s.2.2))
  fuel := fun _ _ => 20
  turn := fun x _ s =>
  (.ite (decide (s.1 < 15))
   (.ite (inRange s.1 15)
    (.ite (inRange s.1 15)
     (.ret (.on (w64 (s.1 + 1), (List.set s.2.1.1 (Int.toNat s.1) (V_word_Wrap (List.getD x.2.2.1 (Int.toNat s.1) (Ty.dflt (Ty.int IntKind.i64)))), s.2.1.2), s.2.2)))
     .fail)
    .fail)
   (.ret (.out 0 (s.1, s.2.1, s.2.2))))
/-- cpu.words -/
abbrev A_cpu_words : List Ty := [tState]
abbrev S_cpu_words : Sh := Sh.ty tState
def T_cpu_words (x : dens A_cpu_words) : PO (Sh.den S_cpu_words) :=
  (.opt (LoopN.res L_cpu_words_2 ((), (), x.1, 0) (x, [0, 0, 0, 0, 0, 0, 0, 0, 0, 0, 0, 0, 0, 0, 0], 0, false, false, false, false, ())) fun p0 =>
   (.ret ((p0.2.2.1.1, V_word_Wrap p0.2.2.1.2.1, p0.2.2.1.2.2))))
theorem words_run (r : List Int) (t u : tState.den) (hr : r.length = 15) (ht : t.1 = r) : runL (L_cpu_words_2.turn ((), (), r, 0) (t, u)) 20 (0, t, u) = some (0, 15, (wordR r, t.2), u) := by
  have key := runL_count (σ := Int × tState.den × tState.den) (turn := L_cpu_words_2.turn ((), (), r, 0) (t, u)) (fun i => ((i : Int), (wordSt r i, t.2), u)) (0, 15, (wordR r, t.2), u) (n := 15) (fun i hi => ?_) ?_ 15 0 (by omega) 20 (by omega)
  · simp only [wordSt_zero] at key
    rw [← ht] at key ⊢
    exact key
  · have h1 : decide ((i : Int) < 15) = true := dec_true (by omega)
    have hi' : i < r.length := by omega
    show (bif decide ((i : Int) < 15) then (bif inRange (i : Int) 15 then (bif inRange (i : Int) 15 then some (TL.on (w64 ((i : Int) + 1), ((wordSt r i).set (Int.toNat (i : Int)) (wn (r.getD (Int.toNat (i : Int)) 0) : Int), t.2), u)) else none) else none) else _) = _
    rw [h1, inR hi, Int.toNat_natCast, getD_in r _ hi', wordSt_step r hi', w64_id (by omega) (by omega)]
    rfl
  · show (bif decide (((15 : Nat) : Int) < 15) then _ else _) = _
    rw [dec_false (by omega), wordSt_end r (by omega)]
    rfl
def G_cpu_words (x : dens A_cpu_words) : Bool := decide (List.length x.1 = 15)
def V_cpu_words (x : dens A_cpu_words) : Sh.den S_cpu_words := (wordR x.1, (wn x.2.1 : Int), x.2.2)
theorem ok_cpu_words (x : dens A_cpu_words) (h : G_cpu_words x = true) : (T_cpu_words x).val = some (V_cpu_words x) := by
  have h15 : List.length x.1 = 15 := of_decide_eq_true h
  unfold T_cpu_words PO.val
  have : LoopN.res L_cpu_words_2 ((), (), x.1, 0) (x, [0, 0, 0, 0, 0, 0, 0, 0, 0, 0, 0, 0, 0, 0, 0], 0, false, false, false, false, ()) = some (0, (15 : Int), (wordR x.1, x.2), ([0, 0, 0, 0, 0, 0, 0, 0, 0, 0, 0, 0, 0, 0, 0], 0, false, false, false, false, ())) := words_run x.1 x _ h15 rfl
  rw [this]
  rfl
end Go.Av
end
/-! Layer 8: what an instruction does: its parts. -/
section
namespace Go.Av
open Go
/-- Bits of a number put into another one, at a place. -/
def insN (m f a k : Nat) : Nat := 2 ^ a * (2 ^ k * (m / 2 ^ (a + k)) + f % 2 ^ k) + m % 2 ^ a
theorem insN_bit (m f a k j : Nat) : (insN m f a k).testBit j = if j < a then m.testBit j else if j < a + k then f.testBit (j - a) else m.testBit j := by
  unfold insN
  rw [Nat.testBit_two_pow_mul_add _ (Nat.mod_lt _ (Nat.two_pow_pos a))]
  split
  · rename_i h
    rw [Nat.testBit_mod_two_pow, decide_eq_true h, Bool.true_and]
  · rename_i h
    rw [Nat.testBit_two_pow_mul_add _ (Nat.mod_lt _ (Nat.two_pow_pos k))]
    split
    · rename_i h2
      rw [if_pos (by omega), Nat.testBit_mod_two_pow, decide_eq_true h2, Bool.true_and]
    · rename_i h2
      rw [if_neg (by omega), Nat.testBit_div_two_pow]
      congr 1
      omega
theorem mask_bit (a k j : Nat) : ((2 ^ k - 1) * 2 ^ a).testBit j = (decide (a ≤ j) && decide (j < a + k)) := by
  rw [Nat.testBit_mul_two_pow, Nat.testBit_two_pow_sub_one]
  by_cases h : a ≤ j
  · rw [show decide (j - a < k) = decide (j < a + k) from decide_eq_decide.2 (by omega)]
  · rw [dec_false h]; rfl
theorem mask_lt {a k : Nat} (h : a + k ≤ 32) : (2 ^ k - 1) * 2 ^ a < 4294967296 := by
  refine Nat.lt_pow_two_of_testBit (n := 32) _ fun j hj => ?_
  rw [mask_bit, dec_false (show ¬ j < a + k by omega), Bool.and_false]
theorem select_ins {m f a k : Nat} (hm : m < 4294967296) (h : a + k ≤ 32) : (f * 2 ^ a % 4294967296 &&& (2 ^ k - 1) * 2 ^ a) ||| (m &&& (4294967295 - (2 ^ k - 1) * 2 ^ a)) = insN m f a k := by
  refine Nat.eq_of_testBit_eq fun j => ?_
  rw [insN_bit, Nat.testBit_or, Nat.testBit_and, Nat.testBit_and, mask_bit, show 4294967295 - (2 ^ k - 1) * 2 ^ a = 2 ^ 32 - ((2 ^ k - 1) * 2 ^ a + 1) by omega, Nat.testBit_two_pow_sub_succ (mask_lt h), mask_bit, show (4294967296 : Nat) = 2 ^ 32 from rfl, Nat.testBit_mod_two_pow, Nat.testBit_mul_two_pow]
  by_cases h32 : j < 32
  · by_cases ha : j < a
    · simp [ha, h32, show ¬ a ≤ j by omega]
    · by_cases hk : j < a + k
      · simp [ha, h32, hk, show a ≤ j by omega]
      · simp [ha, h32, hk, show a ≤ j by omega]
  · have hz : m.testBit j = false := Nat.testBit_lt_two_pow (Nat.lt_of_lt_of_le hm (Nat.pow_le_pow_right (n := 2) (by omega) (show 32 ≤ j by omega)))
    have ha : ¬ j < a := by omega
    have hk : ¬ j < a + k := by omega
    simp [h32, hz, ha, hk]
/-- cpu.insert -/
abbrev A_cpu_insert : List Ty := [(.int .i64), (.int .i64), (.int .i64), (.int .i64)]
abbrev S_cpu_insert : Sh := Sh.ty (Ty.int IntKind.i64)
def T_cpu_insert (x : dens A_cpu_insert) : PO (Sh.den S_cpu_insert) :=
  (.ite (!decide (x.2.2.2 < 0) && (!decide (x.2.2.1 < 0) && true))
   (.ret (V_word_Select (V_word_Wrap (ishl IntKind.i64 (w64 (ishl IntKind.i64 1 x.2.2.2 - 1)) x.2.2.1), V_word_Shl (x.2.1, x.2.2.1), x.1)))
   .fail)
def G_cpu_insert (x : dens A_cpu_insert) : Bool := decide ((0 : Int) ≤ x.2.2.1) && (decide ((0 : Int) ≤ x.2.2.2) && (decide ((x.2.2.1 : Int) + x.2.2.2 ≤ 32) && decide ((x.2.2.1 : Int) < 32)))
def V_cpu_insert (x : dens A_cpu_insert) : Sh.den S_cpu_insert := (insN (wn x.1) (wn x.2.1) (Int.toNat x.2.2.1) (Int.toNat x.2.2.2) : Int)
theorem insert_val (m f : Int) (a k : Nat) (h : a + k ≤ 32) (ha : a < 32) : (T_cpu_insert (m, f, (a : Int), (k : Int))).val = some ((insN (wn m) (wn f) a k : Nat) : Int) := by
  have h1 : decide ((k : Int) < 0) = false := dec_false (by omega)
  have h2 : decide ((a : Int) < 0) = false := dec_false (by omega)
  have hp : 2 ^ k ≤ 2 ^ 32 := pow_lt (by omega)
  have hk1 : ishl .i64 1 (k : Int) = ((2 ^ k : Nat) : Int) := by
    rw [ishl_nat _ _ (by omega), Int.one_mul, show (2 : Int) ^ k = ((2 ^ k : Nat) : Int) by simp]
    exact w64_nat (by omega)
  have hpos := Nat.two_pow_pos k
  have hm1 : w64 (((2 ^ k : Nat) : Int) - 1) = ((2 ^ k - 1 : Nat) : Int) := by
    generalize 2 ^ k = q at *
    rw [w64_id (by omega) (by omega)]
    omega
  have hml := mask_lt h
  have hkk : kk (a : Int) = a := by unfold kk; omega
  show (bif !decide ((k : Int) < 0) && (!decide ((a : Int) < 0) && true) then some (((wn ((wn f * 2 ^ kk (a : Int) % 4294967296 : Nat) : Int) &&& wn ((wn (ishl .i64 (w64 (ishl .i64 1 (k : Int) - 1)) (a : Int)) : Nat) : Int)) ||| (wn m &&& (4294967295 - wn ((wn (ishl .i64 (w64 (ishl .i64 1 (k : Int) - 1)) (a : Int)) : Nat) : Int))) : Nat) : Int) else none) = _
  rw [h1, h2, hk1, hm1, shl_wn _ _ (by omega), hkk, Nat.mod_eq_of_lt hml, wn_nat (Nat.mod_lt _ (by omega)), wn_nat hml, select_ins (wn_lt m) h]
  rfl
theorem ok_cpu_insert (x : dens A_cpu_insert) (h : G_cpu_insert x = true) : (T_cpu_insert x).val = some (V_cpu_insert x) := by
  obtain ⟨m, f, a, k⟩ := x
  simp only [G_cpu_insert, Bool.and_eq_true, decide_eq_true_eq] at h
  obtain ⟨h1, h2, h3, h4⟩ := h
  obtain ⟨a, rfl⟩ := Int.eq_ofNat_of_zero_le h1
  obtain ⟨k, rfl⟩ := Int.eq_ofNat_of_zero_le h2
  have h3' : (a : Int) + (k : Int) ≤ 32 := h3
  have h4' : (a : Int) < 32 := h4
  exact insert_val m f a k (by omega) (by omega)
/-- cpu.shifted -/
abbrev A_cpu_shifted : List Ty := [(.int .i64), (.int .i64), (.int .i64)]
abbrev S_cpu_shifted : Sh := Sh.ty (Ty.int IntKind.i64)
def T_cpu_shifted (x : dens A_cpu_shifted) : PO (Sh.den S_cpu_shifted) :=
  (.ite (x.1 == 5)
   (.ret (V_word_Shl (x.2.1, x.2.2)))
   (.ite (x.1 == 6)
    (.ret (V_word_Shr (x.2.1, x.2.2)))
    (.ite (x.1 == 7)
     (.ret (V_word_Sar (x.2.1, x.2.2)))
     (.ret (V_word_Ror (x.2.1, x.2.2))))))
def G_cpu_shifted (_ : dens A_cpu_shifted) : Bool := true
def V_cpu_shifted (x : dens A_cpu_shifted) : Sh.den S_cpu_shifted := (T_cpu_shifted x).getO default
theorem ok_cpu_shifted (x : dens A_cpu_shifted) (_ : G_cpu_shifted x = true) : (T_cpu_shifted x).val = some (V_cpu_shifted x) := PO.sure_ok default (by simp [T_cpu_shifted, PO.sure])
/-- cpu.two -/
abbrev A_cpu_two : List Ty := [(.int .i64), (.int .i64), (.int .i64)]
abbrev S_cpu_two : Sh := Sh.ty (Ty.int IntKind.i64)
def T_cpu_two (x : dens A_cpu_two) : PO (Sh.den S_cpu_two) :=
  (.ite (x.1 == 10)
   (.ret (V_word_And (x.2.1, x.2.2)))
   (.ite (x.1 == 11)
    (.ret (V_word_And (x.2.1, V_word_Not x.2.2)))
    (.ite (x.1 == 12)
     (.ret (V_word_Or (x.2.1, x.2.2)))
     (.ite (x.1 == 13)
      (.ret (V_word_Xor (x.2.1, x.2.2)))
      (.ite (x.1 == 14)
       (.ret (V_word_Add (x.2.1, x.2.2)))
       (.ite (x.1 == 15)
        (.ret (V_word_Sub (x.2.1, x.2.2)))
        (.ret (V_word_Mul (x.2.1, x.2.2)))))))))
def G_cpu_two (_ : dens A_cpu_two) : Bool := true
def V_cpu_two (x : dens A_cpu_two) : Sh.den S_cpu_two := (T_cpu_two x).getO default
theorem ok_cpu_two (x : dens A_cpu_two) (_ : G_cpu_two x = true) : (T_cpu_two x).val = some (V_cpu_two x) := PO.sure_ok default (by simp [T_cpu_two, PO.sure])
/-- cpu.compare -/
abbrev A_cpu_compare : List Ty := [tState, (.int .i64), (.int .i64)]
abbrev S_cpu_compare : Sh := Sh.ty tState
def T_cpu_compare (x : dens A_cpu_compare) : PO (Sh.den S_cpu_compare) :=
  (.ret ((x.1.1, x.1.2.1, V_word_Bit (V_word_Sub (x.2.1, x.2.2), 31) == 1, V_word_Sub (x.2.1, x.2.2) == 0, decide (x.2.1 ≥ x.2.2), V_word_Bit (V_word_And (V_word_Xor (x.2.1, x.2.2), V_word_Xor (x.2.1, V_word_Sub (x.2.1, x.2.2))), 31) == 1, x.1.2.2.2.2.2.2)))
def G_cpu_compare (_ : dens A_cpu_compare) : Bool := true
def V_cpu_compare (x : dens A_cpu_compare) : Sh.den S_cpu_compare := (T_cpu_compare x).getO default
theorem ok_cpu_compare (x : dens A_cpu_compare) (_ : G_cpu_compare x = true) : (T_cpu_compare x).val = some (V_cpu_compare x) := PO.sure_ok default (by simp [T_cpu_compare, PO.sure])
end Go.Av
end
/-! Layer 2: what is known of an instruction that there is. -/
section
namespace Go.Av
open Go
theorem bad2 (A : Bool) (x : Option Int) : (bif A then some 2 else x).getD 0 = 0 ↔ A = false ∧ x.getD 0 = 0 := by cases A <;> simp
theorem bad6 (A : Bool) (x : Option Int) : (bif A then some 6 else x).getD 0 = 0 ↔ A = false ∧ x.getD 0 = 0 := by cases A <;> simp

set_option maxHeartbeats 1000000 in
/-- What is known of an instruction that there is. -/
theorem check_bounds {op rd rn rm ra imm cond : Int} {w : Bool} (h : V_thumb_Check (op, rd, rn, rm, ra, imm, cond, w, ()) = 0) :
    (1 ≤ op ∧ op ≤ 25) ∧ (0 ≤ rd ∧ rd ≤ 12) ∧ (0 ≤ rn ∧ rn ≤ 12) ∧ (0 ≤ rm ∧ rm ≤ 12) ∧ (op = 17 → 0 ≤ ra ∧ ra ≤ 12 ∧ ra ≠ rd) ∧ (op ≠ 24 → op ≠ 25 → 0 ≤ imm ∧ imm ≤ 65535 ∧ w = false ∧ cond = 0) ∧ (5 ≤ op → op ≤ 23 → imm ≤ 31) ∧ (op = 18 → 1 ≤ ra ∧ ra ≤ 32 - imm) ∧ (6 ≤ op → op ≤ 8 → 1 ≤ imm) := by
  have hw := left_same imm
  rcases op_cases op with rfl | rfl | rfl | rfl | rfl | rfl | rfl | rfl | rfl | rfl | rfl | rfl | rfl | rfl | rfl | rfl | rfl | rfl | rfl | rfl | rfl | rfl | rfl | rfl | rfl | hop
  case inr.inr.inr.inr.inr.inr.inr.inr.inr.inr.inr.inr.inr.inr.inr.inr.inr.inr.inr.inr.inr.inr.inr.inr.inr =>
    exfalso
    have e := fun k hk => op_none (n := op) (k := k) hop hk
    simp [V_thumb_Check, T_thumb_Check, V_thumb_formOf, T_thumb_formOf, PO.getO, PO.val, e] at h
  all_goals
    simp [V_thumb_Check, T_thumb_Check, V_thumb_formOf, T_thumb_formOf, V_thumb_field, T_thumb_field, V_thumb_within, T_thumb_within, PO.getO, PO.val, V_thumb_branch, T_thumb_branch, V_thumb_Reach, T_thumb_Reach] at h ⊢
    simp only [bad2, bad6, Bool.or_eq_false_iff, Bool.not_eq_false', decide_eq_true_eq, bne_eq_false_iff_eq, beq_iff_eq] at h
    grind

end Go.Av
end
/-! Layer 8: what an instruction does: steps. -/
section
namespace Go.Av
open Go
theorem dflt_i64 : Ty.dflt (.int .i64) = (0 : Int) := rfl

theorem inR15 {n : Int} (h : 0 ≤ n ∧ n ≤ 12) : inRange n 15 = true := by
  unfold inRange
  rw [dec_true h.1, dec_true (show n < ((15 : Nat) : Int) by omega)]
  rfl

/-- What an operation makes for its register Rd. -/
def vOf (op imm ra d n m ld : Int) : Int :=
  bif op == 3 then imm
  else bif op == 4 then (insN (wn d) (wn imm) 16 16 : Nat)
  else bif op == 5 then (wn m * 2 ^ kk imm % 4294967296 : Nat)
  else bif op == 6 then (wn m / 2 ^ kk imm : Nat)
  else bif op == 7 then (wn (sw (wn m) / (2 ^ kk imm : Nat)) : Nat)
  else bif op == 8 then (wn m / 2 ^ kk imm + wn m % 2 ^ kk imm * 2 ^ (32 - kk imm) : Nat)
  else bif op == 9 then (4294967295 - wn m : Nat)
  else bif op == 10 then (wn n &&& wn m : Nat)
  else bif op == 11 then (wn n &&& wn ((4294967295 - wn m : Nat) : Int) : Nat)
  else bif op == 12 then (wn n ||| wn m : Nat)
  else bif op == 13 then (wn n ^^^ wn m : Nat)
  else bif op == 14 then (wn (n + m) : Nat)
  else bif op == 15 then (wn (n - m) : Nat)
  else bif op == 16 || op == 17 then (wn n * wn m % 4294967296 : Nat)
  else bif op == 18 then (insN (wn d) (wn n) imm.toNat ra.toNat : Nat)
  else bif op == 19 then (wn ld : Nat)
  else bif op == 21 then (wn ld % 256 : Nat)
  else d

/-- Has an operation a register Rd that it makes? -/
def makesRd (op : Int) : Bool := decide (3 ≤ op) && decide (op ≤ 19) || op == 21

/-- A register's word. -/
def rg (l : List Int) (k : Int) : Int := l.getD (Int.toNat k) 0

/-- What an operation makes of registers. -/
def regsOf (r : List Int) (op rd rn rm ra imm ld : Int) : List Int :=
  bif op == 17 then (r.set rd.toNat (wn (rg r rn) * wn (rg r rm) % 4294967296 : Nat)).set ra.toNat (wn (rg r rn) * wn (rg r rm) / 4294967296 : Nat)
  else bif makesRd op then r.set rd.toNat (vOf op imm ra (rg r rd) (rg r rn) (rg r rm) ld)
  else r

/-- What an operation makes of a state. -/
def makesS (s : tState.den) (op rd rn rm ra imm ld : Int) : tState.den :=
  bif op == 23 then V_cpu_compare (s, rg s.1 rn, rg s.1 rm) else (regsOf s.1 op rd rn rm ra imm ld, s.2)

theorem wn_byte (n : Int) : (wn (band .i64 n 255) : Int) = ((wn n % 256 : Nat) : Int) := by
  have h : band .i64 n 255 = n % 256 := band_low n 8 (by omega)
  rw [h]
  unfold wn
  omega
/-- cpu.makes -/
abbrev A_cpu_makes : List Ty := [tState, tIns, (.int .i64)]
abbrev S_cpu_makes : Sh := Sh.ty tState
def T_cpu_makes (x : dens A_cpu_makes) : PO (Sh.den S_cpu_makes) :=
  (.ite (inRange x.2.1.2.2.1 15 && inRange x.2.1.2.2.2.1 15)
   (.ite (x.2.1.1 == 3)
    (.ite (inRange x.2.1.2.1 15)
     (.ret ((List.set x.1.1 (Int.toNat x.2.1.2.1) x.2.1.2.2.2.2.2.1, x.1.2)))
     .fail)
    (.ite (x.2.1.1 == 4)
     (.ite (inRange x.2.1.2.1 15)
      (.ite (G_cpu_insert (List.getD x.1.1 (Int.toNat x.2.1.2.1) (Ty.dflt (Ty.int IntKind.i64)), x.2.1.2.2.2.2.2.1, 16, 16))
       (.ite (inRange x.2.1.2.1 15)
        (.ret ((List.set x.1.1 (Int.toNat x.2.1.2.1) (V_cpu_insert (List.getD x.1.1 (Int.toNat x.2.1.2.1) (Ty.dflt (Ty.int IntKind.i64)), x.2.1.2.2.2.2.2.1, 16, 16)), x.1.2)))
        .fail)
       .fail)
      .fail)
     (.ite (bif x.2.1.1 == 5 then x.2.1.1 == 5 else bif x.2.1.1 == 6 then x.2.1.1 == 6 else bif x.2.1.1 == 7 then x.2.1.1 == 7 else x.2.1.1 == 8)
      (.ite (inRange x.2.1.2.1 15)
       (.ret ((List.set x.1.1 (Int.toNat x.2.1.2.1) (V_cpu_shifted (x.2.1.1, List.getD x.1.1 (Int.toNat x.2.1.2.2.2.1) (Ty.dflt (Ty.int IntKind.i64)), x.2.1.2.2.2.2.2.1)), x.1.2)))
       .fail)
      (.ite (x.2.1.1 == 9)
       (.ite (inRange x.2.1.2.1 15)
        (.ret ((List.set x.1.1 (Int.toNat x.2.1.2.1) (V_word_Not (List.getD x.1.1 (Int.toNat x.2.1.2.2.2.1) (Ty.dflt (Ty.int IntKind.i64)))), x.1.2)))
        .fail)
       (.ite (bif x.2.1.1 == 10 then x.2.1.1 == 10 else bif x.2.1.1 == 11 then x.2.1.1 == 11 else bif x.2.1.1 == 12 then x.2.1.1 == 12 else bif x.2.1.1 == 13 then x.2.1.1 == 13 else bif x.2.1.1 == 14 then x.2.1.1 == 14 else bif x.2.1.1 == 15 then x.2.1.1 == 15 else x.2.1.1 == 16)
        (.ite (inRange x.2.1.2.1 15)
         (.ret ((List.set x.1.1 (Int.toNat x.2.1.2.1) (V_cpu_two (x.2.1.1, List.getD x.1.1 (Int.toNat x.2.1.2.2.1) (Ty.dflt (Ty.int IntKind.i64)), List.getD x.1.1 (Int.toNat x.2.1.2.2.2.1) (Ty.dflt (Ty.int IntKind.i64)))), x.1.2)))
         .fail)
        (.ite (x.2.1.1 == 17)
         (.ite (inRange x.2.1.2.1 15)
          (.ite (inRange x.2.1.2.2.2.2.1 15)
           (.ret ((List.set (List.set x.1.1 (Int.toNat x.2.1.2.1) (V_word_Mul (List.getD x.1.1 (Int.toNat x.2.1.2.2.1) (Ty.dflt (Ty.int IntKind.i64)), List.getD x.1.1 (Int.toNat x.2.1.2.2.2.1) (Ty.dflt (Ty.int IntKind.i64))))) (Int.toNat x.2.1.2.2.2.2.1) (V_word_High (List.getD x.1.1 (Int.toNat x.2.1.2.2.1) (Ty.dflt (Ty.int IntKind.i64)), List.getD x.1.1 (Int.toNat x.2.1.2.2.2.1) (Ty.dflt (Ty.int IntKind.i64)))), x.1.2)))
           .fail)
          .fail)
         (.ite (x.2.1.1 == 18)
          (.ite (inRange x.2.1.2.1 15)
           (.ite (G_cpu_insert (List.getD x.1.1 (Int.toNat x.2.1.2.1) (Ty.dflt (Ty.int IntKind.i64)), List.getD x.1.1 (Int.toNat x.2.1.2.2.1) (Ty.dflt (Ty.int IntKind.i64)), x.2.1.2.2.2.2.2.1, x.2.1.2.2.2.2.1))
            (.ite (inRange x.2.1.2.1 15)
             (.ret ((List.set x.1.1 (Int.toNat x.2.1.2.1) (V_cpu_insert (List.getD x.1.1 (Int.toNat x.2.1.2.1) (Ty.dflt (Ty.int IntKind.i64)), List.getD x.1.1 (Int.toNat x.2.1.2.2.1) (Ty.dflt (Ty.int IntKind.i64)), x.2.1.2.2.2.2.2.1, x.2.1.2.2.2.2.1)), x.1.2)))
             .fail)
            .fail)
           .fail)
          (.ite (x.2.1.1 == 21)
           (.ite (inRange x.2.1.2.1 15)
            (.ret ((List.set x.1.1 (Int.toNat x.2.1.2.1) (V_word_Wrap (band IntKind.i64 x.2.2 255)), x.1.2)))
            .fail)
           (.ite (x.2.1.1 == 19)
            (.ite (inRange x.2.1.2.1 15)
             (.ret ((List.set x.1.1 (Int.toNat x.2.1.2.1) (V_word_Wrap x.2.2), x.1.2)))
             .fail)
            (.ite (x.2.1.1 == 23)
             (.ret (V_cpu_compare (x.1, List.getD x.1.1 (Int.toNat x.2.1.2.2.1) (Ty.dflt (Ty.int IntKind.i64)), List.getD x.1.1 (Int.toNat x.2.1.2.2.2.1) (Ty.dflt (Ty.int IntKind.i64)))))
             (.ret (x.1))))))))))))
   .fail)
set_option maxHeartbeats 1000000 in
theorem makes_val (s : tState.den) (op rd rn rm ra imm cond ld : Int) (w : Bool) (h : V_thumb_Check (op, rd, rn, rm, ra, imm, cond, w, ()) = 0) : (T_cpu_makes (s, (op, rd, rn, rm, ra, imm, cond, w, ()), ld)).val = some (makesS s op rd rn rm ra imm ld) := by
  obtain ⟨hop, hrd, hrn, hrm, h17, himm, h31, h18, _⟩ := check_bounds h
  have i1 := inR15 hrd
  have i2 := inR15 hrn
  have i3 := inR15 hrm
  have hb := wn_byte ld
  rcases op_cases op with rfl | rfl | rfl | rfl | rfl | rfl | rfl | rfl | rfl | rfl | rfl | rfl | rfl | rfl | rfl | rfl | rfl | rfl | rfl | rfl | rfl | rfl | rfl | rfl | rfl | hx
  case inr.inr.inr.inr.inr.inr.inr.inr.inr.inr.inr.inr.inr.inr.inr.inr.inr.inr.inr.inr.inr.inr.inr.inr.inr => omega
  case inr.inr.inr.inr.inr.inr.inr.inr.inr.inr.inr.inr.inr.inr.inr.inr.inl =>
    have i4 := inR15 ⟨(h17 rfl).1, (h17 rfl).2.1⟩
    simp [T_cpu_makes, PO.val, i1, i2, i3, i4, makesS, regsOf, rg, V_word_Mul, V_word_High, dflt_i64]
  case inr.inr.inr.inr.inr.inr.inr.inr.inr.inr.inr.inr.inr.inr.inr.inr.inr.inl =>
    obtain ⟨a1, a2, _⟩ := himm (by omega) (by omega)
    obtain ⟨a3, a4⟩ := h18 rfl
    have a5 := h31 (by omega) (by omega)
    have g : ∀ m f : Int, G_cpu_insert (m, f, imm, ra) = true := fun m f => by
      simp only [G_cpu_insert, Bool.and_eq_true, decide_eq_true_eq]
      exact ⟨a1, by show (0 : Int) ≤ ra; omega, by show imm + ra ≤ 32; omega, by show imm < 32; omega⟩
    simp [T_cpu_makes, PO.val, i1, i2, i3, g, makesS, regsOf, makesRd, vOf, rg, V_cpu_insert, dflt_i64]
  all_goals
    first
    | (have g : ∀ m : Int, G_cpu_insert (m, imm, 16, 16) = true := fun _ => rfl
       simp [T_cpu_makes, PO.val, i1, i2, i3, g, makesS, regsOf, makesRd, vOf, rg, V_cpu_insert, V_cpu_shifted, T_cpu_shifted, V_cpu_two, T_cpu_two, PO.getO, V_word_Shl, V_word_Shr, V_word_Sar, V_word_Ror, V_word_Not, V_word_And, V_word_Or, V_word_Xor, V_word_Add, V_word_Sub, V_word_Mul, V_word_Wrap, hb, dflt_i64]; done)
def G_cpu_makes (x : dens A_cpu_makes) : Bool := V_thumb_Check x.2.1 == 0
def V_cpu_makes (x : dens A_cpu_makes) : Sh.den S_cpu_makes := makesS x.1 x.2.1.1 x.2.1.2.1 x.2.1.2.2.1 x.2.1.2.2.2.1 x.2.1.2.2.2.2.1 x.2.1.2.2.2.2.2.1 x.2.2
theorem ok_cpu_makes (x : dens A_cpu_makes) (h : G_cpu_makes x = true) : (T_cpu_makes x).val = some (V_cpu_makes x) := by
  obtain ⟨s, ⟨op, rd, rn, rm, ra, imm, cond, w, u⟩, ld⟩ := x
  exact makes_val s op rd rn rm ra imm cond ld w (by simpa [G_cpu_makes] using h)
/-- cpu.Access -/
abbrev A_cpu_Access : List Ty := [tState, tIns]
abbrev S_cpu_Access : Sh := Sh.tup (Sh.pair (Sh.ty tAccess) (Sh.pair (Sh.ty Ty.bool) (Sh.ty Ty.unit)))
def T_cpu_Access (x : dens A_cpu_Access) : PO (Sh.den S_cpu_Access) :=
  (.ite (V_thumb_Check x.2 != 0)
   (.ret (((0, 0, 0, false, ()), false, ())))
   (.ite (G_cpu_words x.1)
    (.ite (inRange x.2.2.2.1 15)
     (.ite (x.2.1 == 19)
      (.ret (((List.getD (V_cpu_words x.1).1 (Int.toNat x.2.2.2.1) (Ty.dflt (Ty.int IntKind.i64)), 4, 0, false, ()), true, ())))
      (.ite (x.2.1 == 21)
       (.ret (((List.getD (V_cpu_words x.1).1 (Int.toNat x.2.2.2.1) (Ty.dflt (Ty.int IntKind.i64)), 1, 0, false, ()), true, ())))
       (.ite (x.2.1 == 20)
        (.ite (inRange x.2.2.1 15)
         (.ret (((List.getD (V_cpu_words x.1).1 (Int.toNat x.2.2.2.1) (Ty.dflt (Ty.int IntKind.i64)), 4, List.getD (V_cpu_words x.1).1 (Int.toNat x.2.2.1) (Ty.dflt (Ty.int IntKind.i64)), true, ()), true, ())))
         .fail)
        (.ite (x.2.1 == 22)
         (.ite (inRange x.2.2.1 15)
          (.ret (((List.getD (V_cpu_words x.1).1 (Int.toNat x.2.2.2.1) (Ty.dflt (Ty.int IntKind.i64)), 1, band IntKind.i64 (List.getD (V_cpu_words x.1).1 (Int.toNat x.2.2.1) (Ty.dflt (Ty.int IntKind.i64))) 255, true, ()), true, ())))
          .fail)
         (.ret (((0, 0, 0, false, ()), false, ())))))))
     .fail)
    .fail))
theorem wordR_get (l : List Int) (k : Nat) : (wordR l).getD k 0 = (wn (l.getD k 0) : Int) := by
  unfold wordR
  rw [List.getD_eq_getElem?_getD, List.getD_eq_getElem?_getD, List.getElem?_map]
  cases l[k]? <;> rfl
/-- What an instruction reads or writes. -/
def accessV (bad : Bool) (op a d : Int) : (tAccess.den × Bool × Unit) :=
  bif bad then ((0, 0, 0, false, ()), false, ())
  else bif op == 19 then ((wn a, 4, 0, false, ()), true, ())
  else bif op == 20 then ((wn a, 4, wn d, true, ()), true, ())
  else bif op == 21 then ((wn a, 1, 0, false, ()), true, ())
  else bif op == 22 then ((wn a, 1, (wn d % 256 : Nat), true, ()), true, ())
  else ((0, 0, 0, false, ()), false, ())
theorem band_byte (m : Nat) : band .i64 (m : Int) 255 = ((m % 256 : Nat) : Int) := by
  have h : band .i64 (m : Int) 255 = (m : Int) % 256 := band_low m 8 (by omega)
  rw [h]
  omega
def G_cpu_Access (x : dens A_cpu_Access) : Bool := decide (List.length x.1.1 = 15)
def V_cpu_Access (x : dens A_cpu_Access) : Sh.den S_cpu_Access := accessV (V_thumb_Check x.2 != 0) x.2.1 (rg x.1.1 x.2.2.2.1) (rg x.1.1 x.2.2.1)
theorem access_val (s : tState.den) (op rd rn rm ra imm cond : Int) (w : Bool) (hs : List.length s.1 = 15) : (T_cpu_Access (s, (op, rd, rn, rm, ra, imm, cond, w, ()))).val = some (accessV (V_thumb_Check (op, rd, rn, rm, ra, imm, cond, w, ()) != 0) op (rg s.1 rn) (rg s.1 rd)) := by
  cases hc : (V_thumb_Check (op, rd, rn, rm, ra, imm, cond, w, ()) != (0 : Int))
  · have h : V_thumb_Check (op, rd, rn, rm, ra, imm, cond, w, ()) = 0 := by simpa using hc
    obtain ⟨hop, hrd, hrn, _⟩ := check_bounds h
    have i1 := inR15 hrd
    have i2 := inR15 hrn
    have g : G_cpu_words s = true := dec_true hs
    have e1 : ∀ k : Int, List.getD (V_cpu_words s).1 (Int.toNat k) 0 = (wn (rg s.1 k) : Int) := fun k => wordR_get s.1 _
    simp only [T_cpu_Access, PO.val, hc, i1, i2, g, dflt_i64]
    rw [e1, e1, band_byte]
    unfold accessV
    by_cases h19 : op = 19
    · subst h19; rfl
    · by_cases h20 : op = 20
      · subst h20; rfl
      · by_cases h21 : op = 21
        · subst h21; rfl
        · by_cases h22 : op = 22
          · subst h22; rfl
          · have b19 : (op == 19) = false := beq_eq_false_iff_ne.2 h19
            have b20 : (op == 20) = false := beq_eq_false_iff_ne.2 h20
            have b21 : (op == 21) = false := beq_eq_false_iff_ne.2 h21
            have b22 : (op == 22) = false := beq_eq_false_iff_ne.2 h22
            simp [b19, b20, b21, b22]
  · simp [T_cpu_Access, PO.val, hc, accessV]
theorem ok_cpu_Access (x : dens A_cpu_Access) (h : G_cpu_Access x = true) : (T_cpu_Access x).val = some (V_cpu_Access x) := by
  obtain ⟨s, op, rd, rn, rm, ra, imm, cond, w, u⟩ := x
  exact access_val s op rd rn rm ra imm cond w (of_decide_eq_true h)
end Go.Av
end
