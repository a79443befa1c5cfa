/- The functions that the statements reach, walked: chain Gate. Written by wip/tools/gen.py out of wip/conf/Gate.txt. -/
import Derived.Test.YtfdnniopghcngaaPSame
import Derived.Test.YtfdnniopghcngaaPItems
import Derived.Test.YtfdnniopghcngaaPGate
import Derived.Test.YtfdnniopghcngaaPGateLaw
import Derived.Test.YtfdnniopghcngaaProg
namespace Go.Proofs.Ytfdnniopghcngaa
open Go Go.Av Go.Proofs
noncomputable def cGate0 : Ctx := baseC Try.prog [85, 101, 44, 35, 50, 41, 48, 56, 33, 75]
theorem cGate0_good : Av.Good cGate0 := good_base (by kernel_rfl) (by kernel_rfl) (by kernel_rfl)
noncomputable def cGate1 : Ctx := cGate0.addLoop 15 4 L_hauberkref27_Same_4.toT.toLoop
theorem cGate1_good : Av.Good cGate1 := cGate0_good.loopN L_hauberkref27_Same_4 3 8 (by kernel_rfl) (fun _ _ => rfl) (fun x y s m K => by kernel_rfl) (fun x y s s' K e => by kernel_rfl)
noncomputable def cGate2 : Ctx := cGate1.addLoop 39 4 L_hauberkref28_Same_4.toT.toLoop
theorem cGate2_good : Av.Good cGate2 := cGate1_good.loopN L_hauberkref28_Same_4 3 8 (by kernel_rfl) (fun _ _ => rfl) (fun x y s m K => by kernel_rfl) (fun x y s s' K e => by kernel_rfl)
noncomputable def cGate3 : Ctx := cGate2.addPlain 15 (plainT A_hauberkref27_Same G_hauberkref27_Same S_hauberkref27_Same V_hauberkref27_Same)
theorem cGate3_good : Av.Good cGate3 := cGate2_good.fnP S_hauberkref27_Same T_hauberkref27_Same G_hauberkref27_Same V_hauberkref27_Same 3 8 (by kernel_rfl) (fun x => by kernel_rfl) ok_hauberkref27_Same
noncomputable def cGate4 : Ctx := cGate3.addPlain 39 (plainT A_hauberkref28_Same G_hauberkref28_Same S_hauberkref28_Same V_hauberkref28_Same)
theorem cGate4_good : Av.Good cGate4 := cGate3_good.fnP S_hauberkref28_Same T_hauberkref28_Same G_hauberkref28_Same V_hauberkref28_Same 3 8 (by kernel_rfl) (fun x => by kernel_rfl) ok_hauberkref28_Same
noncomputable def cGate5 : Ctx := cGate4.addPlain 16 (plainT A_tmpl_Word G_tmpl_Word S_tmpl_Word V_tmpl_Word)
theorem cGate5_good : Av.Good cGate5 := cGate4_good.fnP S_tmpl_Word T_tmpl_Word G_tmpl_Word V_tmpl_Word 3 8 (by kernel_rfl) (fun x => by kernel_rfl) ok_tmpl_Word
noncomputable def cGate6 : Ctx := cGate5.addPlain 45 (plainT A_wipe_Address G_wipe_Address S_wipe_Address V_wipe_Address)
theorem cGate6_good : Av.Good cGate6 := cGate5_good.fnP S_wipe_Address T_wipe_Address G_wipe_Address V_wipe_Address 3 8 (by kernel_rfl) (fun x => by kernel_rfl) ok_wipe_Address
noncomputable def cGate7 : Ctx := cGate6.addPlain 40 (plainT A_gate_Gate G_gate_Gate S_gate_Gate V_gate_Gate)
theorem cGate7_good : Av.Good cGate7 := cGate6_good.fnP S_gate_Gate T_gate_Gate G_gate_Gate V_gate_Gate 8 12 (by kernel_rfl) (fun x => by kernel_rfl) ok_gate_Gate
noncomputable def cGate8 : Ctx := cGate7.addPlain 41 (plainT A_hauberkref31_Gate G_hauberkref31_Gate S_hauberkref31_Gate V_hauberkref31_Gate)
theorem cGate8_good : Av.Good cGate8 := cGate7_good.fnP S_hauberkref31_Gate T_hauberkref31_Gate G_hauberkref31_Gate V_hauberkref31_Gate 8 12 (by kernel_rfl) (fun x => by kernel_rfl) ok_hauberkref31_Gate
noncomputable def cGate9 : Ctx := cGate8.addPlain 42 (plainT A_hauberklaw31_lives G_hauberklaw31_lives S_hauberklaw31_lives V_hauberklaw31_lives)
theorem cGate9_good : Av.Good cGate9 := cGate8_good.fnP S_hauberklaw31_lives T_hauberklaw31_lives G_hauberklaw31_lives V_hauberklaw31_lives 9 12 (by kernel_rfl) (fun x => by kernel_rfl) ok_hauberklaw31_lives
noncomputable def cGate : Ctx := cGate9
theorem cGate_good : Av.Good cGate := cGate9_good
end Go.Proofs.Ytfdnniopghcngaa
