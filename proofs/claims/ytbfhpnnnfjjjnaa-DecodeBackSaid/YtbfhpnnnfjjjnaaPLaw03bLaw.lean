/- An instruction's bytes, with whatever behind them, are decoded as it: proved of what the functions compute. -/
import Derived.Test.YtbfhpnnnfjjjnaaPLaw03b
namespace Go.Av
open Go
theorem thumb_enc (op rd rn rm ra imm cond : Int) (w : Bool) : G_thumb_Encode (op, rd, rn, rm, ra, imm, cond, w, ()) = true ∧
    ((okB op rd rn rm ra imm cond w = true ∧ V_thumb_Encode (op, rd, rn, rm, ra, imm, cond, w, ()) = (eBytes op rd rn rm ra imm cond w, 0, ())) ∨ (okB op rd rn rm ra imm cond w = false ∧ ∃ e : Int, e ≠ 0 ∧ V_thumb_Encode (op, rd, rn, rm, ra, imm, cond, w, ()) = ([], e, ()))) := by
  cases h : okB op rd rn rm ra imm cond w
  · obtain ⟨e, h1, h2⟩ := enc_bad op rd rn rm ra imm cond w h
    exact ⟨by unfold G_thumb_Encode; rw [h2]; rfl, .inr ⟨rfl, e, h1, by unfold V_thumb_Encode PO.getO; rw [h2]; rfl⟩⟩
  · have h2 := enc_val op rd rn rm ra imm cond w h
    exact ⟨by unfold G_thumb_Encode; rw [h2]; rfl, .inl ⟨rfl, by unfold V_thumb_Encode PO.getO; rw [h2]; rfl⟩⟩
theorem size_bytes (op rd rn rm ra imm cond : Int) (w : Bool) (h : okB op rd rn rm ra imm cond w = true) : V_decode_Size (eBytes op rd rn rm ra imm cond w) = lenI (eBytes op rd rn rm ra imm cond w) := by
  have hd := dec_back op rd rn rm ra imm cond w h []
  rw [List.append_nil] at hd
  unfold dDec at hd
  unfold V_decode_Size
  rcases eBytes_len h with hl | hl
  · have e2 : decide (lenI (eBytes op rd rn rm ra imm cond w) < 2) = false := dec_false (by simp only [lenI, hl]; omega)
    have e4 : decide (lenI (eBytes op rd rn rm ra imm cond w) < 4) = true := dec_true (by simp only [lenI, hl]; omega)
    rw [e2, e4] at hd
    rw [e2]
    cases hb : Nat.ble 59392 (halfN (eBytes op rd rn rm ra imm cond w) 0)
    · simp only [lenI, hl]; rfl
    · rw [hb] at hd
      have := congrArg (fun p : D4 => p.2.2.1) hd
      cases this
  · have e2 : decide (lenI (eBytes op rd rn rm ra imm cond w) < 2) = false := dec_false (by simp only [lenI, hl]; omega)
    rw [e2] at hd
    rw [e2]
    cases hb : Nat.ble 59392 (halfN (eBytes op rd rn rm ra imm cond w) 0)
    · rw [hb] at hd
      have hd : dOut 2 (dNarrow (hx (eBytes op rd rn rm ra imm cond w) 0)) = ((op, rd, rn, rm, ra, imm, cond, w, ()), lenI (eBytes op rd rn rm ra imm cond w), 0, ()) := hd
      have h3 := congrArg (fun p : D4 => p.2.1) hd
      simp only [lenI, hl] at h3
      cases hn : dNarrow (hx (eBytes op rd rn rm ra imm cond w) 0) with
      | none => rw [hn] at h3; cases h3
      | some i => rw [hn] at h3; cases h3
    · simp only [lenI, hl]; rfl
theorem law_hauberklaw03_DecodeBack (x : dens A_hauberklaw03_DecodeBack) (h : fitsAll 140737488351232 A_hauberklaw03_DecodeBack x) : (T_hauberklaw03_DecodeBack x).val = some true := by
  obtain ⟨⟨op, rd, rn, rm, ra, imm, cond, w, u⟩, s⟩ := x
  have hs : List.length s ≤ 140737488351232 := h.2
  obtain ⟨g, ⟨hok, hv⟩ | ⟨_, e, he, hv⟩⟩ := thumb_enc op rd rn rm ra imm cond w
  · have hl := eBytes_len hok
    have hsz := size_bytes op rd rn rm ra imm cond w hok
    have hd := dec_back op rd rn rm ra imm cond w hok s
    unfold T_hauberklaw03_DecodeBack
    dsimp only [PO.val]
    rw [g, hv]
    dsimp only
    rw [decode_V, decode_G, hd, hsz, Nat.ble_eq_true_of_le (show (eBytes op rd rn rm ra imm cond w).length + List.length s ≤ 9223372036854775807 by omega)]
    have er : Ty.eqb tIns (op, rd, rn, rm, ra, imm, cond, w, ()) (op, rd, rn, rm, ra, imm, cond, w, ()) = true := eqb_refl tIns _
    dsimp only [PO.val]
    rw [er]
    simp
  · unfold T_hauberklaw03_DecodeBack
    dsimp only [PO.val]
    rw [g, hv]
    dsimp only
    rw [bne_iff_ne.2 he]
    rfl
end Go.Av
