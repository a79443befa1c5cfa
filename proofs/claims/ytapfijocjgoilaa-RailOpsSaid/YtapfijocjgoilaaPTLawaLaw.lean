/- Operations as instructions: proved of what the functions compute. -/
import Derived.Test.YtapfijocjgoilaaPTLawa
namespace Go.Av
open Go
theorem opL_len (o : tOp.den) (s : tSpot.den) (r : Int) : (opL o s r).length ≤ 100 := by
  have h1 := gets_len r (V_ir_Uses o) 0
  have h2 := uses_len o
  have h3 := inner_len (o, s, r)
  unfold opL
  rw [List.length_append, List.length_append]
  cases V_ir_Makes o
  · show _ + (_ + ([] : List tIns.den).length) ≤ 100
    rw [List.length_nil]; omega
  · show _ + (_ + 3) ≤ 100
    omega
theorem same_refl {l : List tIns.den} (h : l.length ≤ 100) : G_hauberkref27_Same (l, l) = true ∧ V_hauberkref27_Same (l, l) = true :=
  ⟨dec_true (Nat.lt_of_le_of_lt h (by omega)), eqL_refl l⟩
theorem law_hauberklaw27_TmplOps (x : dens A_hauberklaw27_TmplOps) (_ : fitsAll maxLen A_hauberklaw27_TmplOps x) : (T_hauberklaw27_TmplOps x).val = some true := by
  obtain ⟨o, s, r⟩ := x
  unfold T_hauberklaw27_TmplOps
  dsimp only [PO.val]
  rw [op_G, refop_G, op_V, refop_V]
  have key : ∀ q : List tIns.den × Int × Unit, q.1.length ≤ 100 → (bif true then (bif true then (bif G_hauberkref27_Same (q.1, q.1) && bif V_hauberkref27_Same (q.1, q.1) then q.2.1 == q.2.1 || true else true then some (V_hauberkref27_Same (q.1, q.1) && (q.2.1 == q.2.1 && true)) else none) else none) else none) = some true := by
    intro q hq
    obtain ⟨h1, h2⟩ := same_refl hq
    rw [h1, h2]
    simp
  refine key (bif okOp o s r then (opL o s r, 0, ()) else ([], 2, ())) ?_
  cases okOp o s r
  · exact Nat.zero_le _
  · exact opL_len o s r
end Go.Av
