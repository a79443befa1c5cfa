/- What is decoded has just those bytes: proved of what the functions compute. -/
import Derived.Test.YtbfhpnnnfjjjnaaPLaw03c
namespace Go.Av
open Go
theorem law_hauberklaw03_DecodeOnly (x : dens A_hauberklaw03_DecodeOnly) (_ : fitsAll maxLen A_hauberklaw03_DecodeOnly x) : (T_hauberklaw03_DecodeOnly x).val = some true := by
  unfold T_hauberklaw03_DecodeOnly
  rw [decode_G, decode_V]
  rcases dec_only x with ⟨op, rd, rn, rm, ra, imm, cond, w, hok, hd, hle, ht⟩ | hd | hd
  · have he := enc_val op rd rn rm ra imm cond w hok
    have g : G_thumb_Encode (op, rd, rn, rm, ra, imm, cond, w, ()) = true := by unfold G_thumb_Encode; rw [he]; rfl
    have hv : V_thumb_Encode (op, rd, rn, rm, ra, imm, cond, w, ()) = (eBytes op rd rn rm ra imm cond w, 0, ()) := by unfold V_thumb_Encode PO.getO; rw [he]; rfl
    have h0 : decide (0 ≤ lenI (eBytes op rd rn rm ra imm cond w)) = true := dec_true (by simp only [lenI]; omega)
    have h1 : decide (lenI (eBytes op rd rn rm ra imm cond w) ≤ lenI x) = true := dec_true hle
    have h2 : List.drop (Int.toNat 0) (List.take (Int.toNat (lenI (eBytes op rd rn rm ra imm cond w))) x) = eBytes op rd rn rm ra imm cond w := by
      show List.take (Int.toNat (((eBytes op rd rn rm ra imm cond w).length : Nat) : Int)) x = _
      rw [Int.toNat_natCast]
      exact ht
    rw [hd]
    dsimp only [PO.val]
    rw [g, hv]
    dsimp only
    rw [h0, h1, h2]
    simp
  · rw [hd]
    dsimp only [PO.val]
    rfl
  · rw [hd]
    dsimp only [PO.val]
    rfl
end Go.Av
