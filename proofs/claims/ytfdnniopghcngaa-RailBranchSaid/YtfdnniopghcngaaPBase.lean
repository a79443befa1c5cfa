/- Words that all plain texts share. -/
import Derived.Test.YtfdnniopghcngaaAvClaim
namespace Go.Av
open Go
abbrev tI : Ty := .int .i64

theorem dec_true {p : Prop} [Decidable p] (h : p) : decide p = true := decide_eq_true h
theorem dec_false {p : Prop} [Decidable p] (h : ¬ p) : decide p = false := decide_eq_false h

theorem w64_id {n : Int} (h1 : -9223372036854775808 ≤ n) (h2 : n < 9223372036854775808) : w64 n = n := wrap_i64 n h1 (by omega)

theorem inR {i n : Nat} (h : i < n) : inRange (i : Int) n = true := by
  simp [inRange]
  omega

/-- A loop that counts from i to n: what holds of each turn's state. -/
theorem runL_count {σ : Type} {turn : σ → PO (TL σ)} (st : Nat → σ) (r : Nat × σ) {n : Nat} (hon : ∀ i, i < n → (turn (st i)).val = some (.on (st (i + 1)))) (hout : (turn (st n)).val = some (.out r.1 r.2)) :
    ∀ (k i : Nat), i + k = n → ∀ f, k < f → runL turn f (st i) = some r
  | 0, i, h, f, hf => by
    obtain ⟨f, rfl⟩ : ∃ g, f = g + 1 := ⟨f - 1, by omega⟩
    have : i = n := by omega
    subst this
    rw [runL_out hout]
  | k + 1, i, h, f, hf => by
    obtain ⟨f, rfl⟩ : ∃ g, f = g + 1 := ⟨f - 1, by omega⟩
    have hv := hon i (by omega)
    rw [runL_on hv]
    exact runL_count st r hon hout k (i + 1) (by omega) f (by omega)

theorem getD_nat {α : Type} (l : List α) (i : Nat) (d : α) : l.getD (Int.toNat (i : Int)) d = l.getD i d := by simp

/-! ### Lists that are held against one another -/

/-- A turn that holds element against element. -/
def sameTurn (e : Ty) (a b : List e.den) (s : Bool × Int) : PO (TL (Bool × Int)) :=
  (.ite (decide (s.2 < lenI a))
   (.ite (inRange s.2 (List.length a) && inRange s.2 (List.length b))
    (.ite (!Ty.eqb e (List.getD a (Int.toNat s.2) (Ty.dflt e)) (List.getD b (Int.toNat s.2) (Ty.dflt e)))
     (.ret (.out 1 (false, s.2)))
     (.ret (.on (s.1, w64 (s.2 + 1)))))
    .fail)
   (.ret (.out 0 (s.1, s.2))))

theorem eqL_refl' (e : Ty) (l : List e.den) : eqL e l l = true := eqL_refl l
end Go.Av
