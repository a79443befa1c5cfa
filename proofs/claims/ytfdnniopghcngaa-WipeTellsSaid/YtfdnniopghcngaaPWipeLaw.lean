/- Layer 30: the law. -/
import Derived.Test.YtfdnniopghcngaaPWipe
namespace Go.Av
open Go
theorem handL_len (l : Nat → Int) (s : tSizes.den) (twice : Bool) (h : Int) : (handL false l s twice h).length < 200 := by
  cases twice <;> simp [handL, wipe1, look1, zeroL, headL, tailL, its, addrI, wordI]
theorem addr_len (x : dens A_wipe_Address) : (V_wipe_Address x).length < 10 := by
  unfold V_wipe_Address
  cases decide (x.1 < 0) || (decide (x.1 > 7) || (decide (x.2.2 < 0) || (decide (x.2.2 > 12) || x.1 == x.2.2)))
  · simp [addrI]
  · simp
theorem law_hauberklaw30_WipeTells (x : dens A_hauberklaw30_WipeTells) (_ : fitsAll maxLen A_hauberklaw30_WipeTells x) : (T_hauberklaw30_WipeTells x).val = some true := by
  have e : ∀ y : dens A_wipe_Handler, V_hauberkref30_Handler y = V_wipe_Handler y := fun y => handL_ref _ _ _ _
  have e2 : ∀ y : dens A_wipe_Address, V_hauberkref30_Address y = V_wipe_Address y := fun y => by
    unfold V_hauberkref30_Address V_wipe_Address
    rw [addrI_ref]
  have g : ∀ y : dens A_wipe_Handler, G_hauberkref28_Same (V_wipe_Handler y, V_wipe_Handler y) = true ∧ V_hauberkref28_Same (V_wipe_Handler y, V_wipe_Handler y) = true := fun y => itemSame _ (Nat.lt_trans (handL_len _ _ _ _) (by omega))
  have g2 : ∀ y : dens A_wipe_Address, G_hauberkref27_Same (V_wipe_Address y, V_wipe_Address y) = true ∧ V_hauberkref27_Same (V_wipe_Address y, V_wipe_Address y) = true := fun y => insSame _ (Nat.lt_trans (addr_len y) (by omega))
  simp [T_hauberklaw30_WipeTells, PO.val, e, e2, (g _).1, (g _).2, (g2 _).1, (g2 _).2]
end Go.Av
