/- An instruction's bytes, proved of what the functions compute. -/
import Derived.Test.YtbfhpnnnfjjjnaaPLaw02c
namespace Go.Av
open Go
theorem law_hauberklaw02_ThumbEncodes (x : dens A_hauberklaw02_ThumbEncodes) (_ : fitsAll maxLen A_hauberklaw02_ThumbEncodes x) : (T_hauberklaw02_ThumbEncodes x).val = some true := by
  obtain ⟨op, rd, rn, rm, ra, imm, cond, w, u⟩ := x
  obtain ⟨v, h1, h2⟩ := enc_same op rd rn rm ra imm cond w
  have g1 : G_thumb_Encode (op, rd, rn, rm, ra, imm, cond, w, ()) = true := by unfold G_thumb_Encode; rw [h1]; rfl
  have g2 : G_hauberkref02_Encode (op, rd, rn, rm, ra, imm, cond, w, ()) = true := by unfold G_hauberkref02_Encode; rw [h2]; rfl
  have e1 : V_thumb_Encode (op, rd, rn, rm, ra, imm, cond, w, ()) = v := by unfold V_thumb_Encode PO.getO; rw [h1]; rfl
  have e2 : V_hauberkref02_Encode (op, rd, rn, rm, ra, imm, cond, w, ()) = v := by unfold V_hauberkref02_Encode PO.getO; rw [h2]; rfl
  unfold T_hauberklaw02_ThumbEncodes
  dsimp only [PO.val]
  rw [g1, g2, e1, e2]
  simp
end Go.Av
