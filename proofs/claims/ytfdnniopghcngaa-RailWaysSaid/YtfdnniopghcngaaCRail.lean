/- The functions that the statements reach, walked: chain Rail. Written by wip/tools/gen.py out of wip/conf/Rail.txt. -/
import Derived.Test.YtfdnniopghcngaaPSame
import Derived.Test.YtfdnniopghcngaaPItems
import Derived.Test.YtfdnniopghcngaaPRail
import Derived.Test.YtfdnniopghcngaaPRailLaw
import Derived.Test.YtfdnniopghcngaaProg
namespace Go.Proofs.Ytfdnniopghcngaa
open Go Go.Av Go.Proofs
noncomputable def cRail0 : Ctx := baseC Try.prog [85, 101, 44, 35, 50, 41, 48, 56, 33, 75]
theorem cRail0_good : Av.Good cRail0 := good_base (by kernel_rfl) (by kernel_rfl) (by kernel_rfl)
noncomputable def cRail1 : Ctx := cRail0.addLoop 15 4 L_hauberkref27_Same_4.toT.toLoop
theorem cRail1_good : Av.Good cRail1 := cRail0_good.loopN L_hauberkref27_Same_4 3 8 (by kernel_rfl) (fun _ _ => rfl) (fun x y s m K => by kernel_rfl) (fun x y s s' K e => by kernel_rfl)
noncomputable def cRail2 : Ctx := cRail1.addLoop 39 4 L_hauberkref28_Same_4.toT.toLoop
theorem cRail2_good : Av.Good cRail2 := cRail1_good.loopN L_hauberkref28_Same_4 3 8 (by kernel_rfl) (fun _ _ => rfl) (fun x y s m K => by kernel_rfl) (fun x y s s' K e => by kernel_rfl)
noncomputable def cRail3 : Ctx := cRail2.addPlain 15 (plainT A_hauberkref27_Same G_hauberkref27_Same S_hauberkref27_Same V_hauberkref27_Same)
theorem cRail3_good : Av.Good cRail3 := cRail2_good.fnP S_hauberkref27_Same T_hauberkref27_Same G_hauberkref27_Same V_hauberkref27_Same 3 8 (by kernel_rfl) (fun x => by kernel_rfl) ok_hauberkref27_Same
noncomputable def cRail4 : Ctx := cRail3.addPlain 39 (plainT A_hauberkref28_Same G_hauberkref28_Same S_hauberkref28_Same V_hauberkref28_Same)
theorem cRail4_good : Av.Good cRail4 := cRail3_good.fnP S_hauberkref28_Same T_hauberkref28_Same G_hauberkref28_Same V_hauberkref28_Same 3 8 (by kernel_rfl) (fun x => by kernel_rfl) ok_hauberkref28_Same
noncomputable def cRail5 : Ctx := cRail4.addPlain 16 (plainT A_tmpl_Word G_tmpl_Word S_tmpl_Word V_tmpl_Word)
theorem cRail5_good : Av.Good cRail5 := cRail4_good.fnP S_tmpl_Word T_tmpl_Word G_tmpl_Word V_tmpl_Word 3 8 (by kernel_rfl) (fun x => by kernel_rfl) ok_tmpl_Word
noncomputable def cRail6 : Ctx := cRail5.addPlain 51 (plainT A_rail_Tag G_rail_Tag S_rail_Tag V_rail_Tag)
theorem cRail6_good : Av.Good cRail6 := cRail5_good.fnP S_rail_Tag T_rail_Tag G_rail_Tag V_rail_Tag 3 8 (by kernel_rfl) (fun x => by kernel_rfl) ok_rail_Tag
noncomputable def cRail7 : Ctx := cRail6.addPlain 52 (plainT A_hauberkref29_Tag G_hauberkref29_Tag S_hauberkref29_Tag V_hauberkref29_Tag)
theorem cRail7_good : Av.Good cRail7 := cRail6_good.fnP S_hauberkref29_Tag T_hauberkref29_Tag G_hauberkref29_Tag V_hauberkref29_Tag 3 8 (by kernel_rfl) (fun x => by kernel_rfl) ok_hauberkref29_Tag
noncomputable def cRail8 : Ctx := cRail7.addPlain 53 (plainT A_rail_Edge G_rail_Edge S_rail_Edge V_rail_Edge)
theorem cRail8_good : Av.Good cRail8 := cRail7_good.fnP S_rail_Edge T_rail_Edge G_rail_Edge V_rail_Edge 8 12 (by kernel_rfl) (fun x => by kernel_rfl) ok_rail_Edge
noncomputable def cRail9 : Ctx := cRail8.addPlain 54 (plainT A_rail_Enter G_rail_Enter S_rail_Enter V_rail_Enter)
theorem cRail9_good : Av.Good cRail9 := cRail8_good.fnP S_rail_Enter T_rail_Enter G_rail_Enter V_rail_Enter 8 12 (by kernel_rfl) (fun x => by kernel_rfl) ok_rail_Enter
noncomputable def cRail10 : Ctx := cRail9.addPlain 55 (plainT A_rail_Jump G_rail_Jump S_rail_Jump V_rail_Jump)
theorem cRail10_good : Av.Good cRail10 := cRail9_good.fnP S_rail_Jump T_rail_Jump G_rail_Jump V_rail_Jump 8 12 (by kernel_rfl) (fun x => by kernel_rfl) ok_rail_Jump
noncomputable def cRail11 : Ctx := cRail10.addPlain 56 (plainT A_hauberklaw29_lives G_hauberklaw29_lives S_hauberklaw29_lives V_hauberklaw29_lives)
theorem cRail11_good : Av.Good cRail11 := cRail10_good.fnP S_hauberklaw29_lives T_hauberklaw29_lives G_hauberklaw29_lives V_hauberklaw29_lives 8 12 (by kernel_rfl) (fun x => by kernel_rfl) ok_hauberklaw29_lives
noncomputable def cRail : Ctx := cRail11
theorem cRail_good : Av.Good cRail := cRail11_good
end Go.Proofs.Ytfdnniopghcngaa
