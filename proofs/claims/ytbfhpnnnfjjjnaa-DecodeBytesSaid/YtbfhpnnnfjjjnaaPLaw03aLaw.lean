/- Any bytes are the instruction that the document says: proved of what the functions compute. -/
import Derived.Test.YtbfhpnnnfjjjnaaPLaw03a
import Derived.Test.YtbfhpnnnfjjjnaaPDecR
namespace Go.Av
open Go
theorem five (l : List Bool) (hl : l.length = 16) : (List.drop (Int.toNat 0) (List.take (Int.toNat 5) (tx l)) == [49, 49, 49, 48, 49] || (List.drop (Int.toNat 0) (List.take (Int.toNat 5) (tx l)) == [49, 49, 49, 49, 48] || List.drop (Int.toNat 0) (List.take (Int.toNat 5) (tx l)) == [49, 49, 49, 49, 49])) = isL l := by
  obtain ⟨x0, x1, x2, x3, x4, x5, x6, x7, x8, x9, x10, x11, x12, x13, x14, x15, rfl⟩ := len16 hl
  cases x0 <;> cases x1 <;> cases x2 <;> cases x3 <;> cases x4 <;> rfl
theorem size_T (s : List UInt8) : (T_hauberkref03_Size s).val = some (V_decode_Size s) := by
  unfold T_hauberkref03_Size V_decode_Size
  have key : ∀ b : Bool, b = false ∨ b = true := by decide
  rcases key (decide (lenI s < 2)) with h2 | h2
  · have h2' : ¬ ((s.length : Nat) : Int) < 2 := of_decide_eq_false h2
    have g : G_hauberkref03_half (s, 0) = true := by
      simp only [G_hauberkref03_half, Bool.or_eq_true, Bool.and_eq_true, beq_iff_eq, decide_eq_true_eq]
      exact .inl ⟨trivial, by show (2 : Int) ≤ ((s.length : Nat) : Int); omega⟩
    have hv : V_hauberkref03_half (s, 0) = tx (hx s 0) := rfl
    have hb : Nat.ble 59392 (halfN s 0) = isL (hx s 0) := by rw [← isL_ble (hx_len s 0), hb_hx]
    have h5 : decide (5 ≤ lenI (tx (hx s 0))) = true := dec_true (by simp only [lenI, tx_len, hx_len]; omega)
    refine (val_no h2).trans ((val_yes (by rw [g, hv, h5]; rfl)).trans ?_)
    rw [h2, hb, hv]
    rcases key (isL (hx s 0)) with hi | hi
    · refine (val_no (by rw [five _ (hx_len s 0), hi])).trans ?_
      rw [hi]
      rfl
    · refine (val_yes (by rw [five _ (hx_len s 0), hi])).trans ?_
      rw [hi]
      rfl
  · refine (val_yes h2).trans ?_
    rw [h2]
    rfl
theorem size_GV (s : List UInt8) : G_hauberkref03_Size s = true ∧ V_hauberkref03_Size s = V_decode_Size s := by
  have h := size_T s
  exact ⟨by unfold G_hauberkref03_Size; rw [h]; rfl, by unfold V_hauberkref03_Size PO.getO; rw [h]; rfl⟩
theorem refdec_T (s : List UInt8) : (T_hauberkref03_Decode s).val = some (dDec s) := by
  obtain ⟨gs, vs⟩ := size_GV s
  have key : ∀ b : Bool, b = false ∨ b = true := by decide
  unfold T_hauberkref03_Decode
  rw [vs]
  refine (val_yes gs).trans ?_
  unfold dDec
  rcases key (decide (lenI s < 2)) with h2 | h2
  · have h2' : ¬ ((s.length : Nat) : Int) < 2 := of_decide_eq_false h2
    have g : G_hauberkref03_half (s, 0) = true := by
      simp only [G_hauberkref03_half, Bool.or_eq_true, Bool.and_eq_true, beq_iff_eq, decide_eq_true_eq]
      exact .inl ⟨trivial, by show (2 : Int) ≤ ((s.length : Nat) : Int); omega⟩
    have hv : V_hauberkref03_half (s, 0) = tx (hx s 0) := rfl
    rcases key (Nat.ble 59392 (halfN s 0)) with hb | hb
    · have hs : V_decode_Size s = 2 := by unfold V_decode_Size; rw [h2, hb]; rfl
      rw [hs, h2, hb]
      refine (val_no (by rfl)).trans ((val_yes g).trans ((val_yes (by rfl)).trans ?_))
      have hl := loop16 (hx s 0) (hx_len s 0)
      cases hd : dNarrow (hx s 0) with
      | none =>
        rw [hd] at hl
        refine (val_opt hl).trans ?_
        rfl
      | some i =>
        rw [hd] at hl
        refine (val_opt hl).trans ?_
        rfl
    · have hs : V_decode_Size s = 4 := by unfold V_decode_Size; rw [h2, hb]; rfl
      rw [hs, h2, hb]
      rcases key (decide (lenI s < 4)) with h4 | h4
      · have h4' : ¬ ((s.length : Nat) : Int) < 4 := of_decide_eq_false h4
        have g1 : G_hauberkref03_half (s, 1) = true := by
          simp only [G_hauberkref03_half, Bool.or_eq_true, Bool.and_eq_true, beq_iff_eq, decide_eq_true_eq]
          exact .inr ⟨trivial, by show (4 : Int) ≤ ((s.length : Nat) : Int); omega⟩
        have hv1 : V_hauberkref03_half (s, 1) = tx (hx s 1) := rfl
        have hroom : Nat.ble (List.length (V_hauberkref03_half (s, 0)) + List.length (V_hauberkref03_half (s, 1))) 9223372036854775807 = true := by
          rw [hv, hv1, tx_len, tx_len, hx_len, hx_len]
          decide
        rw [h4]
        refine (val_no (by rfl)).trans ((val_yes g).trans ((val_yes (by rw [g1, hroom]; rfl)).trans ?_))
        have hl := loop32 (hx s 0) (hx s 1) (hx_len s 0) (hx_len s 1)
        cases hd : dLong (hx s 0) (hx s 1) with
        | none =>
          rw [hd] at hl
          refine (val_opt hl).trans ?_
          rfl
        | some i =>
          rw [hd] at hl
          refine (val_opt hl).trans ?_
          rfl
      · rw [h4]
        refine (val_yes (by rfl)).trans ?_
        rfl
  · have hs : V_decode_Size s = 0 := by unfold V_decode_Size; rw [h2]; rfl
    rw [hs, h2]
    refine (val_yes (by rfl)).trans ?_
    rfl
theorem law_hauberklaw03_DecodeBytes (x : dens A_hauberklaw03_DecodeBytes) (_ : fitsAll maxLen A_hauberklaw03_DecodeBytes x) : (T_hauberklaw03_DecodeBytes x).val = some true := by
  obtain ⟨gs, vs⟩ := size_GV x
  have hr := refdec_T x
  have gr : G_hauberkref03_Decode x = true := by unfold G_hauberkref03_Decode; rw [hr]; rfl
  have vr : V_hauberkref03_Decode x = dDec x := by unfold V_hauberkref03_Decode PO.getO; rw [hr]; rfl
  have er : Ty.eqb tIns (dDec x).1 (dDec x).1 = true := eqb_refl tIns _
  unfold T_hauberklaw03_DecodeBytes
  dsimp only [PO.val]
  rw [decode_G, decode_V, gr, vr, gs, vs, er]
  simp
end Go.Av
