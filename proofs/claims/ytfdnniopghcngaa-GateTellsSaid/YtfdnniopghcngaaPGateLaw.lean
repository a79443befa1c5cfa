/- Layer 31: the law. -/
import Derived.Test.YtfdnniopghcngaaPGate
namespace Go.Av
open Go
theorem gateL_len (b1 b2 : Bool) (image out h first : Int) : (gateL false b1 b2 image out h first).length < 100 := by
  cases b1 <;> cases b2 <;> simp [gateL, headL, tailL, its, addrI, wordI, unlikeL]

theorem law_hauberklaw31_GateTells (x : dens A_hauberklaw31_GateTells) (_ : fitsAll maxLen A_hauberklaw31_GateTells x) : (T_hauberklaw31_GateTells x).val = some true := by
  have e : V_hauberkref31_Gate (x.1, x.2.1, x.2.2.1, x.2.2.2.1, x.2.2.2.2) = V_gate_Gate (x.1, x.2.1, x.2.2.1, x.2.2.2.1, x.2.2.2.2) := gateL_ref _ _ _ _ _ _
  have hl : (V_gate_Gate (x.1, x.2.1, x.2.2.1, x.2.2.2.1, x.2.2.2.2)).length < 100 := gateL_len _ _ _ _ _ _
  obtain ⟨g, s⟩ := itemSame (V_gate_Gate (x.1, x.2.1, x.2.2.1, x.2.2.2.1, x.2.2.2.2)) (by omega)
  simp [T_hauberklaw31_GateTells, PO.val, e, g, s]
end Go.Av
