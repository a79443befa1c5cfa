/- The functions that the statements reach, walked: chain Wipe. Written by wip/tools/gen.py out of wip/conf/Wipe.txt. -/
import Derived.Test.YtfdnniopghcngaaPSame
import Derived.Test.YtfdnniopghcngaaPItems
import Derived.Test.YtfdnniopghcngaaPWipe
import Derived.Test.YtfdnniopghcngaaPWipeLaw
import Derived.Test.YtfdnniopghcngaaProg
namespace Go.Proofs.Ytfdnniopghcngaa
open Go Go.Av Go.Proofs
noncomputable def cWipe0 : Ctx := baseC Try.prog [85, 101, 44, 35, 50, 41, 48, 56, 33, 75]
theorem cWipe0_good : Av.Good cWipe0 := good_base (by kernel_rfl) (by kernel_rfl) (by kernel_rfl)
noncomputable def cWipe1 : Ctx := cWipe0.addLoop 15 4 L_hauberkref27_Same_4.toT.toLoop
theorem cWipe1_good : Av.Good cWipe1 := cWipe0_good.loopN L_hauberkref27_Same_4 3 8 (by kernel_rfl) (fun _ _ => rfl) (fun x y s m K => by kernel_rfl) (fun x y s s' K e => by kernel_rfl)
noncomputable def cWipe2 : Ctx := cWipe1.addLoop 39 4 L_hauberkref28_Same_4.toT.toLoop
theorem cWipe2_good : Av.Good cWipe2 := cWipe1_good.loopN L_hauberkref28_Same_4 3 8 (by kernel_rfl) (fun _ _ => rfl) (fun x y s m K => by kernel_rfl) (fun x y s s' K e => by kernel_rfl)
noncomputable def cWipe3 : Ctx := cWipe2.addPlain 15 (plainT A_hauberkref27_Same G_hauberkref27_Same S_hauberkref27_Same V_hauberkref27_Same)
theorem cWipe3_good : Av.Good cWipe3 := cWipe2_good.fnP S_hauberkref27_Same T_hauberkref27_Same G_hauberkref27_Same V_hauberkref27_Same 3 8 (by kernel_rfl) (fun x => by kernel_rfl) ok_hauberkref27_Same
noncomputable def cWipe4 : Ctx := cWipe3.addPlain 39 (plainT A_hauberkref28_Same G_hauberkref28_Same S_hauberkref28_Same V_hauberkref28_Same)
theorem cWipe4_good : Av.Good cWipe4 := cWipe3_good.fnP S_hauberkref28_Same T_hauberkref28_Same G_hauberkref28_Same V_hauberkref28_Same 3 8 (by kernel_rfl) (fun x => by kernel_rfl) ok_hauberkref28_Same
noncomputable def cWipe5 : Ctx := cWipe4.addPlain 16 (plainT A_tmpl_Word G_tmpl_Word S_tmpl_Word V_tmpl_Word)
theorem cWipe5_good : Av.Good cWipe5 := cWipe4_good.fnP S_tmpl_Word T_tmpl_Word G_tmpl_Word V_tmpl_Word 3 8 (by kernel_rfl) (fun x => by kernel_rfl) ok_tmpl_Word
noncomputable def cWipe6 : Ctx := cWipe5.addPlain 45 (plainT A_wipe_Address G_wipe_Address S_wipe_Address V_wipe_Address)
theorem cWipe6_good : Av.Good cWipe6 := cWipe5_good.fnP S_wipe_Address T_wipe_Address G_wipe_Address V_wipe_Address 3 8 (by kernel_rfl) (fun x => by kernel_rfl) ok_wipe_Address
noncomputable def cWipe7 : Ctx := cWipe6.addPlain 43 (plainT A_wipe_Handler G_wipe_Handler S_wipe_Handler V_wipe_Handler)
theorem cWipe7_good : Av.Good cWipe7 := cWipe6_good.fnP S_wipe_Handler T_wipe_Handler G_wipe_Handler V_wipe_Handler 8 12 (by kernel_rfl) (fun x => by kernel_rfl) ok_wipe_Handler
noncomputable def cWipe8 : Ctx := cWipe7.addPlain 44 (plainT A_hauberkref30_Handler G_hauberkref30_Handler S_hauberkref30_Handler V_hauberkref30_Handler)
theorem cWipe8_good : Av.Good cWipe8 := cWipe7_good.fnP S_hauberkref30_Handler T_hauberkref30_Handler G_hauberkref30_Handler V_hauberkref30_Handler 8 12 (by kernel_rfl) (fun x => by kernel_rfl) ok_hauberkref30_Handler
noncomputable def cWipe9 : Ctx := cWipe8.addPlain 46 (plainT A_hauberkref30_Address G_hauberkref30_Address S_hauberkref30_Address V_hauberkref30_Address)
theorem cWipe9_good : Av.Good cWipe9 := cWipe8_good.fnP S_hauberkref30_Address T_hauberkref30_Address G_hauberkref30_Address V_hauberkref30_Address 3 8 (by kernel_rfl) (fun x => by kernel_rfl) ok_hauberkref30_Address
noncomputable def cWipe10 : Ctx := cWipe9.addPlain 47 (plainT A_hauberklaw30_lives G_hauberklaw30_lives S_hauberklaw30_lives V_hauberklaw30_lives)
theorem cWipe10_good : Av.Good cWipe10 := cWipe9_good.fnP S_hauberklaw30_lives T_hauberklaw30_lives G_hauberklaw30_lives V_hauberklaw30_lives 9 12 (by kernel_rfl) (fun x => by kernel_rfl) ok_hauberklaw30_lives
noncomputable def cWipe : Ctx := cWipe10
theorem cWipe_good : Av.Good cWipe := cWipe10_good
end Go.Proofs.Ytfdnniopghcngaa
