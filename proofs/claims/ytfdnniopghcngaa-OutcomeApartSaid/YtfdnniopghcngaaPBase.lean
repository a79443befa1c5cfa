/- Words that all plain texts share. -/
import Derived.Test.YtfdnniopghcngaaAvClaim
namespace Go.Av
open Go
abbrev tI : Ty := .int .i64

theorem dec_true {p : Prop} [Decidable p] (h : p) : decide p = true := decide_eq_true h
theorem dec_false {p : Prop} [Decidable p] (h : ¬ p) : decide p = false := decide_eq_false h

theorem w64_id {n : Int} (h1 : -9223372036854775808 ≤ n) (h2 : n < 9223372036854775808) : w64 n = n := wrap_i64 n h1 (by omega)

theorem inR {i n : Nat} (h : i < n) : inRange (i : Int) n = true := by
  simp [inRange]
  omega

/-- A loop that counts from i to n: what holds of each turn's state. -/
theorem runL_count {σ : Type} {turn : σ → PO (TL σ)} (st : Nat → σ) (r : Nat × σ) {n : Nat} (hon : ∀ i, i < n → ∃ N c, (turn (st i)).val = some (.on N c (st (i + 1)))) (hout : (turn (st n)).val = some (.out r.1 r.2)) :
    ∀ (k i : Nat), i + k = n → ∀ f, k < f → runL turn f (st i) = some r
  | 0, i, h, f, hf => by
    obtain ⟨f, rfl⟩ : ∃ g, f = g + 1 := ⟨f - 1, by omega⟩
    have : i = n := by omega
    subst this
    rw [runL_out hout]
  | k + 1, i, h, f, hf => by
    obtain ⟨f, rfl⟩ : ∃ g, f = g + 1 := ⟨f - 1, by omega⟩
    obtain ⟨N, c, hv⟩ := hon i (by omega)
    rw [runL_on hv]
    exact runL_count st r hon hout k (i + 1) (by omega) f (by omega)

theorem getD_nat {α : Type} (l : List α) (i : Nat) (d : α) : l.getD (Int.toNat (i : Int)) d = l.getD i d := by simp

/-! ### Lists that are held against one another -/

/-- A turn that holds element against element. -/
def sameTurn (e : Ty) (N : Nat) (a b : List e.den) (s : Bool × Int) : PO (TL (Bool × Int)) :=
  (.ite (decide (s.2 < lenI a))
   (.ite (inRange s.2 (List.length a) && inRange s.2 (List.length b))
    (.ite (!Ty.eqb e (List.getD a (Int.toNat s.2) (Ty.dflt e)) (List.getD b (Int.toNat s.2) (Ty.dflt e)))
     (.ret (.out 1 (false, s.2)))
     (.ret (.on N 0 (s.1, w64 (s.2 + 1)))))
    .fail)
   (.ret (.out 0 (s.1, s.2))))

theorem same_run (e : Ty) (N : Nat) (a b : List e.den) (r : Bool) (hl : a.length = b.length) (hb : a.length < 9223372036854775808) : ∀ (k i : Nat), i + k = a.length → ∀ f, k < f →
    ∃ s, runL (sameTurn e N a b) f (r, (i : Int)) = some (bif eqL e (a.drop i) (b.drop i) then 0 else 1, s)
  | 0, i, h, f, hf => by
    obtain ⟨f, rfl⟩ : ∃ g, f = g + 1 := ⟨f - 1, by omega⟩
    refine ⟨(r, (i : Int)), ?_⟩
    rw [List.drop_of_length_le (by omega), List.drop_of_length_le (by omega)]
    exact runL_out (by simp only [sameTurn, PO.val, dec_false (show ¬ (i : Int) < (a.length : Int) by omega), cond_false]; rfl)
  | k + 1, i, h, f, hf => by
    obtain ⟨f, rfl⟩ : ∃ g, f = g + 1 := ⟨f - 1, by omega⟩
    have hi : i < a.length := by omega
    have hi' : i < b.length := by omega
    have h1 : decide ((i : Int) < (a.length : Int)) = true := dec_true (by omega)
    rw [List.drop_eq_getElem_cons hi, List.drop_eq_getElem_cons hi']
    simp only [eqL]
    cases hc : Ty.eqb e a[i] b[i]
    · refine ⟨(false, (i : Int)), ?_⟩
      refine runL_out ?_
      simp only [sameTurn, PO.val, h1, inR hi, inR hi', cond_true, Bool.and_self, getD_nat]
      rw [List.getD_eq_getElem?_getD, List.getD_eq_getElem?_getD, List.getElem?_eq_getElem hi, List.getElem?_eq_getElem hi']
      simp [hc]
    · obtain ⟨s, hs⟩ := same_run e N a b r hl hb k (i + 1) (by omega) f (by omega)
      refine ⟨s, ?_⟩
      have ht : (sameTurn e N a b (r, (i : Int))).val = some (.on N 0 (r, ((i + 1 : Nat) : Int))) := by
        simp only [sameTurn, PO.val, h1, inR hi, inR hi', cond_true, Bool.and_self, getD_nat]
        rw [List.getD_eq_getElem?_getD, List.getD_eq_getElem?_getD, List.getElem?_eq_getElem hi, List.getElem?_eq_getElem hi']
        simp only [Option.getD_some, hc, Bool.not_true, cond_false]
        rw [w64_id (by omega) (by omega)]
        rfl
      rw [runL_on ht, hs]
      simp

theorem eqL_refl' (e : Ty) (l : List e.den) : eqL e l l = true := eqL_refl l
end Go.Av
