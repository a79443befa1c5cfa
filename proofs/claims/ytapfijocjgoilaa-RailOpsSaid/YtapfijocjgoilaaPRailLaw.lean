/- Layer 29: the laws. -/
import Derived.Test.YtapfijocjgoilaaPRail
namespace Go.Av
open Go
theorem tag_ref (k : Int) : V_hauberkref29_Tag k = V_rail_Tag k := rfl
theorem edgeL_ref (t : Int) : edgeL true t = edgeL false t := by simp only [edgeL, wordI_ref]
theorem cmpL_ref (n c to : Int) : cmpL true false n c to = cmpL false false n c to := by simp only [cmpL, numI, wordI_ref]
theorem jumpL_ref (t k : Int) : jumpL true t k = jumpL false t k := by simp only [jumpL, edgeL_ref]
theorem enterL_ref (t k h : Int) : enterL true false t k h = enterL false false t k h := by simp only [enterL, cmpL_ref]
theorem edgeL_len (t : Int) : (edgeL false t).length < 20 := by simp [edgeL, its, wordI, putL]
theorem enterL_len (t k h : Int) : (enterL false false t k h).length < 30 := by simp [enterL, cmpL, numI, its, wordI, getL]
theorem jumpL_len (t k : Int) : (jumpL false t k).length < 30 := by
  have := edgeL_len t
  simp only [jumpL, List.length_append, List.length_cons, List.length_nil]
  omega
theorem waysL_same (x : dens [tI, tI]) (h1 : (V_rail_Edge x.1).length < 100) (h2 : (V_rail_Enter x).length < 100) (h3 : (V_rail_Jump x).length < 100) :
    (waysL x (V_rail_Edge x.1) (V_rail_Enter x) (V_rail_Jump x)).val = some true := by
  have a := itemSame (V_rail_Edge x.1) (Nat.lt_trans h1 (by omega))
  have b := itemSame (V_rail_Enter x) (Nat.lt_trans h2 (by omega))
  have c := itemSame (V_rail_Jump x) (Nat.lt_trans h3 (by omega))
  simp [waysL, PO.val, tag_ref, a.1, a.2, b.1, b.2, c.1, c.2]
theorem law_hauberklaw29_RailWays (x : dens A_hauberklaw29_RailWays) (_ : fitsAll maxLen A_hauberklaw29_RailWays x) : (T_hauberklaw29_RailWays x).val = some true := by
  have e1 : edgeL true (V_hauberkref29_Tag x.1) = V_rail_Edge x.1 := by
    rw [tag_ref, edgeL_ref]
    rfl
  have e2 : enterL true false (V_hauberkref29_Tag x.1) x.1 x.2 = V_rail_Enter x := by
    unfold V_rail_Enter
    rw [tag_ref, enterL_ref]
  have h1 : (V_rail_Edge x.1).length < 100 := Nat.lt_trans (edgeL_len _) (by omega)
  have h2 : (V_rail_Enter x).length < 100 := by
    unfold V_rail_Enter
    exact Nat.lt_trans (enterL_len _ _ _) (by omega)
  unfold T_hauberklaw29_RailWays
  rw [e1, e2]
  by_cases hk : x.1 ≥ 0
  · have e3 : jumpL true (V_hauberkref29_Tag x.1) x.1 = V_rail_Jump x := by
      unfold V_rail_Jump
      rw [tag_ref, jumpL_ref, dec_false (show ¬ x.1 < 0 from Int.not_lt.2 hk)]
      rfl
    rw [e3, dec_true hk]
    refine waysL_same x h1 h2 ?_
    rw [← e3, tag_ref, jumpL_ref]
    exact Nat.lt_trans (jumpL_len _ _) (by omega)
  · have e3 : [itB x.2, itB x.2] = V_rail_Jump x := by
      unfold V_rail_Jump
      rw [dec_true (show x.1 < 0 from Int.not_le.1 hk)]
      rfl
    rw [e3, dec_false hk]
    refine waysL_same x h1 h2 ?_
    rw [← e3]
    simp
end Go.Av
