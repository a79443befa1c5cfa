/- The functions that the statements reach, walked: chain RailB. Written by wip/tools/gen.py out of wip/conf/RailB.txt. -/
import Derived.Test.YtfdnniopghcngaaPSame
import Derived.Test.YtfdnniopghcngaaPItems
import Derived.Test.YtfdnniopghcngaaPRail
import Derived.Test.YtfdnniopghcngaaPRailLaw
import Derived.Test.YtfdnniopghcngaaPRailB
import Derived.Test.YtfdnniopghcngaaPRailBLaw
import Derived.Test.YtfdnniopghcngaaProg
namespace Go.Proofs.Ytfdnniopghcngaa
open Go Go.Av Go.Proofs
noncomputable def cRailB0 : Ctx := baseC Try.prog [85, 101, 44, 35, 50, 41, 48, 56, 33, 75]
theorem cRailB0_good : Av.Good cRailB0 := good_base (by kernel_rfl) (by kernel_rfl) (by kernel_rfl)
noncomputable def cRailB1 : Ctx := cRailB0.addLoop 15 4 L_hauberkref27_Same_4.toT.toLoop
theorem cRailB1_good : Av.Good cRailB1 := cRailB0_good.loopN L_hauberkref27_Same_4 3 8 (by kernel_rfl) (fun _ _ => rfl) (fun x y s m K => by kernel_rfl) (fun x y s s' K e => by kernel_rfl)
noncomputable def cRailB2 : Ctx := cRailB1.addLoop 39 4 L_hauberkref28_Same_4.toT.toLoop
theorem cRailB2_good : Av.Good cRailB2 := cRailB1_good.loopN L_hauberkref28_Same_4 3 8 (by kernel_rfl) (fun _ _ => rfl) (fun x y s m K => by kernel_rfl) (fun x y s s' K e => by kernel_rfl)
noncomputable def cRailB3 : Ctx := cRailB2.addPlain 15 (plainT A_hauberkref27_Same G_hauberkref27_Same S_hauberkref27_Same V_hauberkref27_Same)
theorem cRailB3_good : Av.Good cRailB3 := cRailB2_good.fnP S_hauberkref27_Same T_hauberkref27_Same G_hauberkref27_Same V_hauberkref27_Same 3 8 (by kernel_rfl) (fun x => by kernel_rfl) ok_hauberkref27_Same
noncomputable def cRailB4 : Ctx := cRailB3.addPlain 39 (plainT A_hauberkref28_Same G_hauberkref28_Same S_hauberkref28_Same V_hauberkref28_Same)
theorem cRailB4_good : Av.Good cRailB4 := cRailB3_good.fnP S_hauberkref28_Same T_hauberkref28_Same G_hauberkref28_Same V_hauberkref28_Same 3 8 (by kernel_rfl) (fun x => by kernel_rfl) ok_hauberkref28_Same
noncomputable def cRailB5 : Ctx := cRailB4.addPlain 16 (plainT A_tmpl_Word G_tmpl_Word S_tmpl_Word V_tmpl_Word)
theorem cRailB5_good : Av.Good cRailB5 := cRailB4_good.fnP S_tmpl_Word T_tmpl_Word G_tmpl_Word V_tmpl_Word 3 8 (by kernel_rfl) (fun x => by kernel_rfl) ok_tmpl_Word
noncomputable def cRailB6 : Ctx := cRailB5.addPlain 64 (plainT A_memmap_Rail G_memmap_Rail S_memmap_Rail V_memmap_Rail)
theorem cRailB6_good : Av.Good cRailB6 := cRailB5_good.fnP S_memmap_Rail T_memmap_Rail G_memmap_Rail V_memmap_Rail 2 8 (by kernel_rfl) (fun x => by kernel_rfl) ok_memmap_Rail
noncomputable def cRailB7 : Ctx := cRailB6.addPlain 63 (plainT A_tmpl_fits G_tmpl_fits S_tmpl_fits V_tmpl_fits)
theorem cRailB7_good : Av.Good cRailB7 := cRailB6_good.fnP S_tmpl_fits T_tmpl_fits G_tmpl_fits V_tmpl_fits 2 8 (by kernel_rfl) (fun x => by kernel_rfl) ok_tmpl_fits
noncomputable def cRailB8 : Ctx := cRailB7.addPlain 111 (plainT A_frame_Temp G_frame_Temp S_frame_Temp V_frame_Temp)
theorem cRailB8_good : Av.Good cRailB8 := cRailB7_good.fnP S_frame_Temp T_frame_Temp G_frame_Temp V_frame_Temp 3 8 (by kernel_rfl) (fun x => by kernel_rfl) ok_frame_Temp
noncomputable def cRailB9 : Ctx := cRailB8.addPlain 102 (plainT A_hauberkref26_Temp G_hauberkref26_Temp S_hauberkref26_Temp V_hauberkref26_Temp)
theorem cRailB9_good : Av.Good cRailB9 := cRailB8_good.fnP S_hauberkref26_Temp T_hauberkref26_Temp G_hauberkref26_Temp V_hauberkref26_Temp 3 8 (by kernel_rfl) (fun x => by kernel_rfl) ok_hauberkref26_Temp
noncomputable def cRailB10 : Ctx := cRailB9.addPlain 18 (plainT A_tmpl_Get G_tmpl_Get S_tmpl_Get V_tmpl_Get)
theorem cRailB10_good : Av.Good cRailB10 := cRailB9_good.fnP S_tmpl_Get T_tmpl_Get G_tmpl_Get V_tmpl_Get 3 8 (by kernel_rfl) (fun x => by kernel_rfl) ok_tmpl_Get
noncomputable def cRailB11 : Ctx := cRailB10.addPlain 104 (plainT A_hauberkref27_rail G_hauberkref27_rail S_hauberkref27_rail V_hauberkref27_rail)
theorem cRailB11_good : Av.Good cRailB11 := cRailB10_good.fnP S_hauberkref27_rail T_hauberkref27_rail G_hauberkref27_rail V_hauberkref27_rail 2 8 (by kernel_rfl) (fun x => by kernel_rfl) ok_hauberkref27_rail
noncomputable def cRailB12 : Ctx := cRailB11.addPlain 19 (plainT A_hauberkref27_Get G_hauberkref27_Get S_hauberkref27_Get V_hauberkref27_Get)
theorem cRailB12_good : Av.Good cRailB12 := cRailB11_good.fnP S_hauberkref27_Get T_hauberkref27_Get G_hauberkref27_Get V_hauberkref27_Get 3 8 (by kernel_rfl) (fun x => by kernel_rfl) ok_hauberkref27_Get
noncomputable def cRailB13 : Ctx := cRailB12.addPlain 51 (plainT A_rail_Tag G_rail_Tag S_rail_Tag V_rail_Tag)
theorem cRailB13_good : Av.Good cRailB13 := cRailB12_good.fnP S_rail_Tag T_rail_Tag G_rail_Tag V_rail_Tag 3 8 (by kernel_rfl) (fun x => by kernel_rfl) ok_rail_Tag
noncomputable def cRailB14 : Ctx := cRailB13.addPlain 52 (plainT A_hauberkref29_Tag G_hauberkref29_Tag S_hauberkref29_Tag V_hauberkref29_Tag)
theorem cRailB14_good : Av.Good cRailB14 := cRailB13_good.fnP S_hauberkref29_Tag T_hauberkref29_Tag G_hauberkref29_Tag V_hauberkref29_Tag 3 8 (by kernel_rfl) (fun x => by kernel_rfl) ok_hauberkref29_Tag
noncomputable def cRailB15 : Ctx := cRailB14.addPlain 53 (plainT A_rail_Edge G_rail_Edge S_rail_Edge V_rail_Edge)
theorem cRailB15_good : Av.Good cRailB15 := cRailB14_good.fnP S_rail_Edge T_rail_Edge G_rail_Edge V_rail_Edge 8 12 (by kernel_rfl) (fun x => by kernel_rfl) ok_rail_Edge
noncomputable def cRailB16 : Ctx := cRailB15.addPlain 57 (plainT A_rail_Branch G_rail_Branch S_rail_Branch V_rail_Branch)
theorem cRailB16_good : Av.Good cRailB16 := cRailB15_good.fnP S_rail_Branch T_rail_Branch G_rail_Branch V_rail_Branch 8 12 (by kernel_rfl) (fun x => by kernel_rfl) ok_rail_Branch
noncomputable def cRailB17 : Ctx := cRailB16.addPlain 56 (plainT A_hauberklaw29_lives G_hauberklaw29_lives S_hauberklaw29_lives V_hauberklaw29_lives)
theorem cRailB17_good : Av.Good cRailB17 := cRailB16_good.fnP S_hauberklaw29_lives T_hauberklaw29_lives G_hauberklaw29_lives V_hauberklaw29_lives 8 12 (by kernel_rfl) (fun x => by kernel_rfl) ok_hauberklaw29_lives
noncomputable def cRailB : Ctx := cRailB17
theorem cRailB_good : Av.Good cRailB := cRailB17_good
end Go.Proofs.Ytfdnniopghcngaa
