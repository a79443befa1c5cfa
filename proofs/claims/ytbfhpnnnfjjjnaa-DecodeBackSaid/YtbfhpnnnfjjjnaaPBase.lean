/- Words that all plain texts share. -/
import Derived.Test.YtbfhpnnnfjjjnaaAvClaim
namespace Go.Av
open Go
abbrev tI : Ty := .int .i64

theorem dec_true {p : Prop} [Decidable p] (h : p) : decide p = true := decide_eq_true h
theorem dec_false {p : Prop} [Decidable p] (h : ¬ p) : decide p = false := decide_eq_false h

theorem w64_id {n : Int} (h1 : -9223372036854775808 ≤ n) (h2 : n < 9223372036854775808) : w64 n = n := wrap_i64 n h1 (by omega)

theorem inR {i n : Nat} (h : i < n) : inRange (i : Int) n = true := by
  simp [inRange]
  omega

/-- A loop that counts from i to n: what holds of each turn's state. -/
theorem runL_count {σ : Type} {turn : σ → PO (TL σ)} (st : Nat → σ) (r : Nat × σ) {n : Nat} (hon : ∀ i, i < n → (turn (st i)).val = some (.on (st (i + 1)))) (hout : (turn (st n)).val = some (.out r.1 r.2)) :
    ∀ (k i : Nat), i + k = n → ∀ f, k < f → runL turn f (st i) = some r
  | 0, i, h, f, hf => by
    obtain ⟨f, rfl⟩ : ∃ g, f = g + 1 := ⟨f - 1, by omega⟩
    have : i = n := by omega
    subst this
    rw [runL_out hout]
  | k + 1, i, h, f, hf => by
    obtain ⟨f, rfl⟩ : ∃ g, f = g + 1 := ⟨f - 1, by omega⟩
    have hv := hon i (by omega)
    rw [runL_on hv]
    exact runL_count st r hon hout k (i + 1) (by omega) f (by omega)

theorem getD_nat {α : Type} (l : List α) (i : Nat) (d : α) : l.getD (Int.toNat (i : Int)) d = l.getD i d := by simp

/-! ### Lists that are held against one another -/

/-- A turn that holds element against element. -/
def sameTurn (e : Ty) (a b : List e.den) (s : Bool × Int) : PO (TL (Bool × Int)) :=
  (.ite (decide (s.2 < lenI a))
   (.ite (inRange s.2 (List.length a) && inRange s.2 (List.length b))
    (.ite (!Ty.eqb e (List.getD a (Int.toNat s.2) (Ty.dflt e)) (List.getD b (Int.toNat s.2) (Ty.dflt e)))
     (.ret (.out 1 (false, s.2)))
     (.ret (.on (s.1, w64 (s.2 + 1)))))
    .fail)
   (.ret (.out 0 (s.1, s.2))))

theorem eqL_refl' (e : Ty) (l : List e.den) : eqL e l l = true := eqL_refl l
theorem getD_in {α : Type} (l : List α) (d : α) {i : Nat} (hi : i < l.length) : l.getD i d = l[i] := by
  rw [List.getD_eq_getElem?_getD, List.getElem?_eq_getElem hi]; rfl

/-- A turn that looks for a letter. -/
def hasTurn (l : List UInt8) (c : Int) (s : Bool × Int) : PO (TL (Bool × Int)) :=
  (.ite (decide (s.2 < lenI l))
   (.ite (inRange s.2 (List.length l))
    (.ite (u8I (List.getD l (Int.toNat s.2) 0) == c)
     (.ret (.out 1 (true, s.2)))
     (.ret (.on (s.1, w64 (s.2 + 1)))))
    .fail)
   (.ret (.out 0 (s.1, s.2))))

theorem has_from (l : List UInt8) (c : Int) (hl : List.length l < 4611686018427387904) : ∀ (k i : Nat), i + k = l.length → ∀ f, k < f →
    ∃ o st, runL (hasTurn l c) f (false, (i : Int)) = some (o, st) ∧ (PO.ite (way o) (.ret false) (.ret st.1)).val = some ((l.drop i).any fun b => u8I b == c)
  | 0, i, h, f, hf => by
    obtain ⟨f, rfl⟩ : ∃ g, f = g + 1 := ⟨f - 1, by omega⟩
    have e : (hasTurn l c (false, (i : Int))).val = some (.out 0 (false, (i : Int))) := by
      simp only [hasTurn, PO.val, dec_false (show ¬ (i : Int) < lenI l by simp only [lenI]; omega), cond_false]
    exact ⟨0, _, runL_out e, by rw [List.drop_of_length_le (by omega)]; rfl⟩
  | k + 1, i, h, f, hf => by
    obtain ⟨f, rfl⟩ : ∃ g, f = g + 1 := ⟨f - 1, by omega⟩
    have hi : i < l.length := by omega
    have h1 : decide ((i : Int) < lenI l) = true := dec_true (by simp only [lenI]; omega)
    rw [List.drop_eq_getElem_cons hi, List.any_cons]
    cases hb : (u8I l[i] == c)
    · have e : (hasTurn l c (false, (i : Int))).val = some (.on (false, ((i + 1 : Nat) : Int))) := by
        simp only [hasTurn, PO.val, h1, inR hi, cond_true, getD_nat, getD_in l _ hi, hb, cond_false]
        rw [w64_id (by omega) (by omega)]
        simp
      obtain ⟨o, st, g1, g2⟩ := has_from l c hl k (i + 1) (by omega) f (by omega)
      exact ⟨o, st, (runL_on e).trans g1, by rw [Bool.false_or]; exact g2⟩
    · have e : (hasTurn l c (false, (i : Int))).val = some (.out 1 (true, (i : Int))) := by
        simp only [hasTurn, PO.val, h1, inR hi, cond_true, getD_nat, getD_in l _ hi, hb]
      exact ⟨1, _, runL_out e, rfl⟩

theorem has_run (l : List UInt8) (c : Int) (t : Bool × Int → PO (TL (Bool × Int))) (ht : ∀ s, t s = hasTurn l c s) (hl : List.length l < 4611686018427387904) :
    ∃ o st, runL t (l.length + 1) (false, 0) = some (o, st) ∧ (PO.ite (way o) (.ret false) (.ret st.1)).val = some (l.any fun b => u8I b == c) := by
  rw [show t = hasTurn l c from funext ht]
  exact has_from l c hl l.length 0 (by omega) _ (by omega)

theorem w64_eq (n : Int) : w64 n = if 9223372036854775808 ≤ n % 18446744073709551616 then n % 18446744073709551616 - 18446744073709551616 else n % 18446744073709551616 := by
  have h : w64 n = if (true && decide (n % 18446744073709551616 ≥ 9223372036854775808)) = true then n % 18446744073709551616 - 18446744073709551616 else n % 18446744073709551616 := rfl
  rw [h]
  simp only [Bool.true_and, decide_eq_true_eq, ge_iff_le]

theorem i32_eq (n : Int) : IntKind.i32.wrap n = if 2147483648 ≤ n % 4294967296 then n % 4294967296 - 4294967296 else n % 4294967296 := by
  have h : IntKind.i32.wrap n = if (true && decide (n % 4294967296 ≥ 2147483648)) = true then n % 4294967296 - 4294967296 else n % 4294967296 := rfl
  rw [h]
  simp only [Bool.true_and, decide_eq_true_eq, ge_iff_le]
end Go.Av
