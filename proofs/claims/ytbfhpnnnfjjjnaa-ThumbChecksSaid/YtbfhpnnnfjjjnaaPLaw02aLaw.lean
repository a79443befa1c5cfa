/- Layer 2's statements, proved of what the functions compute. -/
import Derived.Test.YtbfhpnnnfjjjnaaPLaw02a
namespace Go.Av
open Go
theorem reach_same (op : Int) (w : Bool) : V_thumb_Reach (op, w) = V_hauberkref02_Reach (op, w) := by
  simp only [V_thumb_Reach, T_thumb_Reach, V_hauberkref02_Reach, T_hauberkref02_Reach, PO.getO, PO.val]
  cases op == 24
  · cases op == 25
    · rfl
    · cases w <;> rfl
  · cases w <;> rfl
theorem law_hauberklaw02_ThumbChecks (x : dens A_hauberklaw02_ThumbChecks) (_ : fitsAll maxLen A_hauberklaw02_ThumbChecks x) : (T_hauberklaw02_ThumbChecks x).val = some true := by
  obtain ⟨op, rd, rn, rm, ra, imm, cond, w, u⟩ := x
  unfold T_hauberklaw02_ThumbChecks
  dsimp only [PO.val]
  rw [check_ok, ← check_same, show V_hauberkref02_Size (op, rd, rn, rm, ra, imm, cond, w, ()) = V_thumb_Size (op, rd, rn, rm, ra, imm, cond, w, ()) from rfl, ← reach_same]
  simp
end Go.Av
