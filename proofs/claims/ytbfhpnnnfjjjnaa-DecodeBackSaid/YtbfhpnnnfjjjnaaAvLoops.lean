/- Loops that recur: what their turns come to. -/
import Derived.Test.YtbfhpnnnfjjjnaaAvLaw
namespace Go.Av
open Go

/-- Lists that are the same, element by element. -/
def eqL (e : Ty) : List e.den → List e.den → Bool
  | x :: a, y :: b => e.eqb x y && eqL e a b
  | [], [] => true
  | _, _ => false

theorem eqL_length {e : Ty} : ∀ (a b : List e.den), eqL e a b = true → a.length = b.length
  | x :: a, y :: b, h => by
    simp only [eqL, Bool.and_eq_true] at h
    simp [eqL_length a b h.2]
  | [], [], _ => rfl
  | [], _ :: _, h => by cases h
  | _ :: _, [], h => by cases h

theorem eqL_ne {e : Ty} {a b : List e.den} (h : a.length ≠ b.length) : eqL e a b = false := by
  cases hc : eqL e a b
  · rfl
  · exact (h (eqL_length a b hc)).elim

theorem same_loop {κ : Type} {e : Ty} {a b : List e.den} {it : Nat → Int → κ → Option R} {kr ke : κ → Option R} {af : κ → κ} (hr : ∀ K, kr (af K) = kr K) (he : ∀ K, ke (af K) = ke K)
    (turn : ∀ m i K, it (m + 1) i K = bif decide (i < (a.length : Int)) then bif inRange i a.length then bif inRange i b.length then bif !(e.eqb (a.getD i.toNat e.dflt) (b.getD i.toNat e.dflt)) then kr K else it m (IntKind.i64.wrap (i + 1)) (af K) else none else none else ke K)
    (hl : a.length = b.length) (hb : a.length < 9223372036854775808) : ∀ (k i : Nat) (K : κ), i + k = a.length → it (k + 1) (i : Int) K = bif eqL e (a.drop i) (b.drop i) then ke K else kr K
  | 0, i, K, h => by
    rw [turn, List.drop_of_length_le (by omega), List.drop_of_length_le (by omega)]
    rw [show decide ((i : Int) < (a.length : Int)) = false from decide_eq_false (by omega)]
    rfl
  | k + 1, i, K, h => by
    have ih := same_loop hr he turn hl hb k (i + 1) (af K) (by omega)
    have hi : i < a.length := by omega
    have hi' : i < b.length := by omega
    rw [turn]
    rw [show decide ((i : Int) < (a.length : Int)) = true from decide_eq_true (by omega)]
    have r1 : inRange (i : Int) a.length = true := by simp [inRange]; omega
    have r2 : inRange (i : Int) b.length = true := by simp [inRange]; omega
    rw [r1, r2, wrap_i64 _ (by omega) (by omega), show ((i : Int) + 1) = ((i + 1 : Nat) : Int) by omega, ih]
    rw [List.drop_eq_getElem_cons hi, List.drop_eq_getElem_cons hi']
    simp only [cond_true, Int.toNat_natCast, eqL, hr, he]
    rw [List.getD_eq_getElem?_getD, List.getD_eq_getElem?_getD, List.getElem?_eq_getElem hi, List.getElem?_eq_getElem hi']
    simp only [Option.getD_some]
    cases e.eqb a[i] b[i] <;> rfl

end Go.Av
