/- Layer 2: instructions as bytes, by the document's table of bits: what comes of them. -/
import Derived.Test.YtbfhpnnnfjjjnaaPRefEnc2
namespace Go.Av
open Go

/-- How many of a letter follow. -/
def fol (c : UInt8) : List UInt8 → Nat
  | [] => 0
  | x :: l => bif x == c then fol c l + 1 else 0
theorem fol_le (c : UInt8) : ∀ l : List UInt8, fol c l ≤ l.length
  | [] => Nat.le_refl _
  | x :: l => by
    have := fol_le c l
    unfold fol
    cases x == c <;> simp <;> omega

/-- The number that letters mean, each with those that follow. -/
def hor (fld : UInt8 → Nat → Nat) : List UInt8 → Nat → Nat
  | [], n => n
  | c :: l, n => hor fld l (2 * n + fld c (fol c l))

theorem u8_eq (a b : UInt8) : (u8I a == u8I b) = (a == b) := by
  rw [Bool.eq_iff_iff, beq_iff_eq, beq_iff_eq]
  unfold u8I
  rw [← UInt8.toNat_inj]
  omega

section
variable (b out : List UInt8) (i : tIns.den)

theorem fol_run (at_ k : Nat) (n : Int) (hat : at_ + 16 ≤ b.length) (hb : b.length ≤ 32) (hk : at_ ≤ k) (hk2 : k < at_ + 16) : ∀ (m j : Nat), k + 1 + j + m = at_ + 16 → fol b[k] ((b.take (at_ + 16)).drop (k + 1 + j)) + j ≤ 16 → ∀ f, m < f →
    runL (L_hauberkref02_Encode_14.turn ((), b, out, (at_ : Int), n, (k : Int), 0) i) f ((j : Int), i) = some (0, ((j + fol b[k] ((b.take (at_ + 16)).drop (k + 1 + j)) : Nat) : Int), i)
  | 0, j, h, _, f, hf => by
    obtain ⟨f, rfl⟩ : ∃ g, f = g + 1 := ⟨f - 1, by omega⟩
    have e0 : (b.take (at_ + 16)).drop (k + 1 + j) = [] := List.drop_of_length_le (by rw [List.length_take]; omega)
    have w1 : w64 ((k : Int) + 1) = ((k + 1 : Nat) : Int) := by rw [w64_id (by omega) (by omega)]; omega
    have w2 : w64 (((k + 1 : Nat) : Int) + (j : Int)) = ((k + 1 + j : Nat) : Int) := by rw [w64_id (by omega) (by omega)]; omega
    have w3 : w64 ((at_ : Int) + 16) = ((at_ + 16 : Nat) : Int) := by rw [w64_id (by omega) (by omega)]; omega
    rw [e0]
    refine (runL_out ?_).trans rfl
    show (bif (bif decide (w64 (w64 ((k : Int) + 1) + (j : Int)) < w64 ((at_ : Int) + 16)) then _ else true) then (bif decide (w64 (w64 ((k : Int) + 1) + (j : Int)) < w64 ((at_ : Int) + 16)) && _ then _ else some (TL.out 0 ((j : Int), i))) else none) = _
    rw [w1, w2, w3, dec_false (by omega)]
    rfl
  | m + 1, j, h, hle, f, hf => by
    obtain ⟨f, rfl⟩ : ∃ g, f = g + 1 := ⟨f - 1, by omega⟩
    have hj : k + 1 + j < b.length := by omega
    have hkb : k < b.length := by omega
    have hd : (b.take (at_ + 16)).drop (k + 1 + j) = b[k + 1 + j] :: (b.take (at_ + 16)).drop (k + 1 + (j + 1)) := by
      rw [List.drop_eq_getElem_cons (by rw [List.length_take]; omega), List.getElem_take]
      rfl
    have w1 : w64 ((k : Int) + 1) = ((k + 1 : Nat) : Int) := by rw [w64_id (by omega) (by omega)]; omega
    have w2 : w64 (((k + 1 : Nat) : Int) + (j : Int)) = ((k + 1 + j : Nat) : Int) := by rw [w64_id (by omega) (by omega)]; omega
    have w3 : w64 ((at_ : Int) + 16) = ((at_ + 16 : Nat) : Int) := by rw [w64_id (by omega) (by omega)]; omega
    have ht : (L_hauberkref02_Encode_14.turn ((), b, out, (at_ : Int), n, (k : Int), 0) i ((j : Int), i)).val = (bif b[k + 1 + j] == b[k] then some (TL.on (((j + 1 : Nat) : Int), i)) else some (TL.out 0 ((j : Int), i))) := by
      show (bif (bif decide (w64 (w64 ((k : Int) + 1) + (j : Int)) < w64 ((at_ : Int) + 16)) then inRange (w64 (w64 ((k : Int) + 1) + (j : Int))) (List.length b) && inRange (k : Int) (List.length b) else true) then (bif decide (w64 (w64 ((k : Int) + 1) + (j : Int)) < w64 ((at_ : Int) + 16)) && u8I (List.getD b (Int.toNat (w64 (w64 ((k : Int) + 1) + (j : Int)))) 0) == u8I (List.getD b (Int.toNat (k : Int)) 0) then some (TL.on (w64 ((j : Int) + 1), i)) else some (TL.out 0 ((j : Int), i))) else none) = _
      rw [w1, w2, w3, dec_true (by omega), inR hj, inR hkb, getD_nat, getD_nat, getD_in b _ hj, getD_in b _ hkb, u8_eq, w64_id (n := (j : Int) + 1) (by omega) (by omega)]
      rfl
    rw [hd]
    unfold fol
    cases hc : b[k + 1 + j] == b[k]
    · rw [hc] at ht
      exact (runL_out ht).trans rfl
    · rw [hc] at ht
      have hle' : fol b[k] ((b.take (at_ + 16)).drop (k + 1 + (j + 1))) + (j + 1) ≤ 16 := by
        rw [hd] at hle
        unfold fol at hle
        rw [hc] at hle
        simp only [cond_true] at hle
        omega
      have ih := fol_run at_ k n hat hb hk hk2 m (j + 1) (by omega) hle' f (by omega)
      refine (runL_on ht).trans (ih.trans ?_)
      simp only [cond_true]
      rw [show j + 1 + fol b[k] ((b.take (at_ + 16)).drop (k + 1 + (j + 1))) = j + (fol b[k] ((b.take (at_ + 16)).drop (k + 1 + (j + 1))) + 1) by omega]

/-- What is known of a table's row. -/
def rowOf (b : List UInt8) : Bool := b.all fun c => isLetter (u8I c)

theorem hor_run (at_ : Nat) (hat : at_ + 16 ≤ b.length) (hb : b.length ≤ 32) (hrow : rowOf b = true) : ∀ (m k n : Nat), k + m = at_ + 16 → at_ ≤ k → n < 2 ^ (k - at_) → ∀ f, m < f →
    runL (L_hauberkref02_Encode_11.turn ((), b, out, (at_ : Int), 0, (at_ : Int)) i) f ((n : Int), (k : Int), i) = some (0, ((hor (fun c f => fldL i.2.1 i.2.2.1 i.2.2.2.1 i.2.2.2.2.1 i.2.2.2.2.2.1 i.2.2.2.2.2.2.1 (u8I c) f) ((b.take (at_ + 16)).drop k) n : Nat) : Int), ((at_ + 16 : Nat) : Int), i)
  | 0, k, n, h, _, _, f, hf => by
    obtain ⟨f, rfl⟩ : ∃ g, f = g + 1 := ⟨f - 1, by omega⟩
    have e0 : (b.take (at_ + 16)).drop k = [] := List.drop_of_length_le (by rw [List.length_take]; omega)
    have w3 : w64 ((at_ : Int) + 16) = ((at_ + 16 : Nat) : Int) := by rw [w64_id (by omega) (by omega)]; omega
    rw [e0]
    refine (runL_out (c := 0) (s' := ((n : Int), (k : Int), i)) ?_).trans (by rw [show k = at_ + 16 by omega]; rfl)
    show (bif decide ((k : Int) < w64 ((at_ : Int) + 16)) then _ else some (TL.out 0 ((n : Int), (k : Int), i))) = _
    rw [w3, dec_false (by omega)]
    rfl
  | m + 1, k, n, h, hk, hn, f, hf => by
    obtain ⟨f, rfl⟩ : ∃ g, f = g + 1 := ⟨f - 1, by omega⟩
    have hkb : k < b.length := by omega
    have hd : (b.take (at_ + 16)).drop k = b[k] :: (b.take (at_ + 16)).drop (k + 1) := by
      rw [List.drop_eq_getElem_cons (by rw [List.length_take]; omega), List.getElem_take]
    have hfl := fol_le b[k] ((b.take (at_ + 16)).drop (k + 1))
    have hfl2 : ((b.take (at_ + 16)).drop (k + 1)).length ≤ 15 := by rw [List.length_drop, List.length_take]; omega
    have hfol : LoopN.res L_hauberkref02_Encode_14 ((), b, out, (at_ : Int), (n : Int), (k : Int), 0) i = some (0, ((fol b[k] ((b.take (at_ + 16)).drop (k + 1)) : Nat) : Int), i) := by
      have := fol_run b out i at_ k (n : Int) hat hb hk (by omega) (at_ + 15 - k) 0 (by omega) (by show fol b[k] ((b.take (at_ + 16)).drop (k + 1)) + 0 ≤ 16; omega) 40 (by omega)
      exact this.trans (by rw [show 0 + fol b[k] ((b.take (at_ + 16)).drop (k + 1 + 0)) = fol b[k] ((b.take (at_ + 16)).drop (k + 1)) from Nat.zero_add _])
    have w3 : w64 ((at_ : Int) + 16) = ((at_ + 16 : Nat) : Int) := by rw [w64_id (by omega) (by omega)]; omega
    have hlet : isLetter (u8I b[k]) = true := List.all_eq_true.1 hrow _ (List.getElem_mem hkb)
    have g : G_hauberkref02_field (i, u8I b[k], ((fol b[k] ((b.take (at_ + 16)).drop (k + 1)) : Nat) : Int)) = true := by
      simp only [G_hauberkref02_field, Bool.and_eq_true, decide_eq_true_eq]
      exact ⟨hlet, by show (0 : Int) ≤ ((_ : Nat) : Int); omega, by show ((_ : Nat) : Int) ≤ 40; omega⟩
    have hv : V_hauberkref02_field (i, u8I b[k], ((fol b[k] ((b.take (at_ + 16)).drop (k + 1)) : Nat) : Int)) = ((fldL i.2.1 i.2.2.1 i.2.2.2.1 i.2.2.2.2.1 i.2.2.2.2.2.1 i.2.2.2.2.2.2.1 (u8I b[k]) (fol b[k] ((b.take (at_ + 16)).drop (k + 1))) : Nat) : Int) := by
      show ((fldL _ _ _ _ _ _ _ (Int.toNat _) : Nat) : Int) = _
      rw [Int.toNat_natCast]
    have hbit := fldL_le i.2.1 i.2.2.1 i.2.2.2.1 i.2.2.2.2.1 i.2.2.2.2.2.1 i.2.2.2.2.2.2.1 (u8I b[k]) (fol b[k] ((b.take (at_ + 16)).drop (k + 1)))
    have hpow : 2 ^ (k - at_) ≤ 2 ^ 16 := pow_lt (by omega)
    have ht : (L_hauberkref02_Encode_11.turn ((), b, out, (at_ : Int), 0, (at_ : Int)) i ((n : Int), (k : Int), i)).val = some (TL.on (((2 * n + fldL i.2.1 i.2.2.1 i.2.2.2.1 i.2.2.2.2.1 i.2.2.2.2.2.1 i.2.2.2.2.2.2.1 (u8I b[k]) (fol b[k] ((b.take (at_ + 16)).drop (k + 1))) : Nat) : Int), ((k + 1 : Nat) : Int), i)) := by
      have hlt : decide ((k : Int) < w64 ((at_ : Int) + 16)) = true := by rw [w3]; exact dec_true (by omega)
      dsimp only [L_hauberkref02_Encode_11, PO.val]
      rw [hlt, hfol]
      dsimp only [PO.val, cond_true]
      rw [inR hkb, getD_nat, getD_in b _ hkb, g, hv]
      generalize fldL i.2.1 i.2.2.1 i.2.2.2.1 i.2.2.2.2.1 i.2.2.2.2.2.1 i.2.2.2.2.2.2.1 (u8I b[k]) (fol b[k] ((b.take (at_ + 16)).drop (k + 1))) = q at *
      rw [w64_id (n := 2 * (n : Int)) (by omega) (by omega), w64_id (n := 2 * (n : Int) + (q : Int)) (by omega) (by omega), w64_id (n := (k : Int) + 1) (by omega) (by omega)]
      rfl
    have hn' : 2 * n + fldL i.2.1 i.2.2.1 i.2.2.2.1 i.2.2.2.2.1 i.2.2.2.2.2.1 i.2.2.2.2.2.2.1 (u8I b[k]) (fol b[k] ((b.take (at_ + 16)).drop (k + 1))) < 2 ^ (k + 1 - at_) := by
      rw [show k + 1 - at_ = k - at_ + 1 by omega, Nat.pow_succ]
      omega
    have ih := hor_run at_ hat hb hrow m (k + 1) _ (by omega) (by omega) hn' f (by omega)
    refine (runL_on ht).trans (ih.trans ?_)
    rw [hd]
    rfl
end
end Go.Av
