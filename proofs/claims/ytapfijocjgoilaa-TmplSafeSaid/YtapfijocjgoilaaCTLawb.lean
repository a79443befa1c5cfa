/- The functions that the statements reach, walked: chain TLawb. Written by wip/tools/gen.py out of wip/conf/TLawb.txt. -/
import Derived.Test.YtapfijocjgoilaaPSame
import Derived.Test.YtapfijocjgoilaaPItems
import Derived.Test.YtapfijocjgoilaaPRail
import Derived.Test.YtapfijocjgoilaaPRailB
import Derived.Test.YtapfijocjgoilaaPTOps
import Derived.Test.YtapfijocjgoilaaPTOpsLaw
import Derived.Test.YtapfijocjgoilaaPTOpsLaw2
import Derived.Test.YtapfijocjgoilaaPTOpsLaw3
import Derived.Test.YtapfijocjgoilaaPTOpsLaw4
import Derived.Test.YtapfijocjgoilaaPTLawb
import Derived.Test.YtapfijocjgoilaaPTLawbLaw
import Derived.Test.YtapfijocjgoilaaProg
namespace Go.Proofs.Ytapfijocjgoilaa
open Go Go.Av Go.Proofs
noncomputable def cTLawb0 : Ctx := baseC Try.prog [26, 48, 60, 54, 24, 32, 92, 58, 126]
theorem cTLawb0_good : Av.Good cTLawb0 := good_base (by kernel_rfl) (by kernel_rfl) (by kernel_rfl)
noncomputable def cTLawb1 : Ctx := cTLawb0.addLoop 36 4 L_hauberkref27_Same_4.toT.toLoop
theorem cTLawb1_good : Av.Good cTLawb1 := cTLawb0_good.loopN L_hauberkref27_Same_4 3 8 (by kernel_rfl) (fun _ _ => rfl) (fun x y s m K => by kernel_rfl) (fun x y s s' K e => by kernel_rfl)
noncomputable def cTLawb2 : Ctx := cTLawb1.addLoop 40 4 L_hauberkref28_Same_4.toT.toLoop
theorem cTLawb2_good : Av.Good cTLawb2 := cTLawb1_good.loopN L_hauberkref28_Same_4 3 8 (by kernel_rfl) (fun _ _ => rfl) (fun x y s m K => by kernel_rfl) (fun x y s s' K e => by kernel_rfl)
noncomputable def cTLawb3 : Ctx := cTLawb2.addPlain 36 (plainT A_hauberkref27_Same G_hauberkref27_Same S_hauberkref27_Same V_hauberkref27_Same)
theorem cTLawb3_good : Av.Good cTLawb3 := cTLawb2_good.fnP S_hauberkref27_Same T_hauberkref27_Same G_hauberkref27_Same V_hauberkref27_Same 3 8 (by kernel_rfl) (fun x => by kernel_rfl) ok_hauberkref27_Same
noncomputable def cTLawb4 : Ctx := cTLawb3.addPlain 40 (plainT A_hauberkref28_Same G_hauberkref28_Same S_hauberkref28_Same V_hauberkref28_Same)
theorem cTLawb4_good : Av.Good cTLawb4 := cTLawb3_good.fnP S_hauberkref28_Same T_hauberkref28_Same G_hauberkref28_Same V_hauberkref28_Same 3 8 (by kernel_rfl) (fun x => by kernel_rfl) ok_hauberkref28_Same
noncomputable def cTLawb5 : Ctx := cTLawb4.addPlain 125 (plainT A_tmpl_Word G_tmpl_Word S_tmpl_Word V_tmpl_Word)
theorem cTLawb5_good : Av.Good cTLawb5 := cTLawb4_good.fnP S_tmpl_Word T_tmpl_Word G_tmpl_Word V_tmpl_Word 3 8 (by kernel_rfl) (fun x => by kernel_rfl) ok_tmpl_Word
noncomputable def cTLawb6 : Ctx := cTLawb5.addPlain 126 (plainT A_memmap_Rail G_memmap_Rail S_memmap_Rail V_memmap_Rail)
theorem cTLawb6_good : Av.Good cTLawb6 := cTLawb5_good.fnP S_memmap_Rail T_memmap_Rail G_memmap_Rail V_memmap_Rail 2 8 (by kernel_rfl) (fun x => by kernel_rfl) ok_memmap_Rail
noncomputable def cTLawb7 : Ctx := cTLawb6.addPlain 124 (plainT A_tmpl_fits G_tmpl_fits S_tmpl_fits V_tmpl_fits)
theorem cTLawb7_good : Av.Good cTLawb7 := cTLawb6_good.fnP S_tmpl_fits T_tmpl_fits G_tmpl_fits V_tmpl_fits 2 8 (by kernel_rfl) (fun x => by kernel_rfl) ok_tmpl_fits
noncomputable def cTLawb8 : Ctx := cTLawb7.addPlain 71 (plainT A_frame_Temp G_frame_Temp S_frame_Temp V_frame_Temp)
theorem cTLawb8_good : Av.Good cTLawb8 := cTLawb7_good.fnP S_frame_Temp T_frame_Temp G_frame_Temp V_frame_Temp 3 8 (by kernel_rfl) (fun x => by kernel_rfl) ok_frame_Temp
noncomputable def cTLawb9 : Ctx := cTLawb8.addPlain 79 (plainT A_hauberkref26_Temp G_hauberkref26_Temp S_hauberkref26_Temp V_hauberkref26_Temp)
theorem cTLawb9_good : Av.Good cTLawb9 := cTLawb8_good.fnP S_hauberkref26_Temp T_hauberkref26_Temp G_hauberkref26_Temp V_hauberkref26_Temp 3 8 (by kernel_rfl) (fun x => by kernel_rfl) ok_hauberkref26_Temp
noncomputable def cTLawb10 : Ctx := cTLawb9.addPlain 70 (plainT A_tmpl_Get G_tmpl_Get S_tmpl_Get V_tmpl_Get)
theorem cTLawb10_good : Av.Good cTLawb10 := cTLawb9_good.fnP S_tmpl_Get T_tmpl_Get G_tmpl_Get V_tmpl_Get 3 8 (by kernel_rfl) (fun x => by kernel_rfl) ok_tmpl_Get
noncomputable def cTLawb11 : Ctx := cTLawb10.addPlain 137 (plainT A_hauberkref27_rail G_hauberkref27_rail S_hauberkref27_rail V_hauberkref27_rail)
theorem cTLawb11_good : Av.Good cTLawb11 := cTLawb10_good.fnP S_hauberkref27_rail T_hauberkref27_rail G_hauberkref27_rail V_hauberkref27_rail 2 8 (by kernel_rfl) (fun x => by kernel_rfl) ok_hauberkref27_rail
noncomputable def cTLawb12 : Ctx := cTLawb11.addPlain 78 (plainT A_hauberkref27_Get G_hauberkref27_Get S_hauberkref27_Get V_hauberkref27_Get)
theorem cTLawb12_good : Av.Good cTLawb12 := cTLawb11_good.fnP S_hauberkref27_Get T_hauberkref27_Get G_hauberkref27_Get V_hauberkref27_Get 3 8 (by kernel_rfl) (fun x => by kernel_rfl) ok_hauberkref27_Get
noncomputable def cTLawb13 : Ctx := cTLawb12.addPlain 123 (plainT A_ir_formOf G_ir_formOf S_ir_formOf V_ir_formOf)
theorem cTLawb13_good : Av.Good cTLawb13 := cTLawb12_good.fnP S_ir_formOf T_ir_formOf G_ir_formOf V_ir_formOf 2 12 (by kernel_rfl) (fun x => by kernel_rfl) ok_ir_formOf
noncomputable def cTLawb14 : Ctx := cTLawb13.addPlain 74 (plainT A_ir_Makes G_ir_Makes S_ir_Makes V_ir_Makes)
theorem cTLawb14_good : Av.Good cTLawb14 := cTLawb13_good.fnP S_ir_Makes T_ir_Makes G_ir_Makes V_ir_Makes 2 8 (by kernel_rfl) (fun x => by kernel_rfl) ok_ir_Makes
noncomputable def cTLawb15 : Ctx := cTLawb14.addPlain 69 (plainT A_ir_Uses G_ir_Uses S_ir_Uses V_ir_Uses)
theorem cTLawb15_good : Av.Good cTLawb15 := cTLawb14_good.fnP S_ir_Uses T_ir_Uses G_ir_Uses V_ir_Uses 2 8 (by kernel_rfl) (fun x => by kernel_rfl) ok_ir_Uses
noncomputable def cTLawb16 : Ctx := cTLawb15.addPlain 134 (plainT A_hauberkref17_letters G_hauberkref17_letters S_hauberkref17_letters V_hauberkref17_letters)
theorem cTLawb16_good : Av.Good cTLawb16 := cTLawb15_good.fnP S_hauberkref17_letters T_hauberkref17_letters G_hauberkref17_letters V_hauberkref17_letters 2 8 (by kernel_rfl) (fun x => by kernel_rfl) ok_hauberkref17_letters
noncomputable def cTLawb17 : Ctx := cTLawb16.addLoop 135 2 L_hauberkref17_has_2.toT.toLoop
theorem cTLawb17_good : Av.Good cTLawb17 := cTLawb16_good.loopN L_hauberkref17_has_2 2 8 (by kernel_rfl) (fun _ _ => rfl) (fun x y s m K => by kernel_rfl) (fun x y s s' K e => by kernel_rfl)
noncomputable def cTLawb18 : Ctx := cTLawb17.addPlain 135 (plainT A_hauberkref17_has G_hauberkref17_has S_hauberkref17_has V_hauberkref17_has)
theorem cTLawb18_good : Av.Good cTLawb18 := cTLawb17_good.fnP S_hauberkref17_has T_hauberkref17_has G_hauberkref17_has V_hauberkref17_has 2 8 (by kernel_rfl) (fun x => by kernel_rfl) ok_hauberkref17_has
noncomputable def cTLawb19 : Ctx := cTLawb18.addPlain 77 (plainT A_hauberkref17_Uses G_hauberkref17_Uses S_hauberkref17_Uses V_hauberkref17_Uses)
theorem cTLawb19_good : Av.Good cTLawb19 := cTLawb18_good.fnP S_hauberkref17_Uses T_hauberkref17_Uses G_hauberkref17_Uses V_hauberkref17_Uses 2 8 (by kernel_rfl) (fun x => by kernel_rfl) ok_hauberkref17_Uses
noncomputable def cTLawb20 : Ctx := cTLawb19.addPlain 84 (plainT A_hauberkref17_Makes G_hauberkref17_Makes S_hauberkref17_Makes V_hauberkref17_Makes)
theorem cTLawb20_good : Av.Good cTLawb20 := cTLawb19_good.fnP S_hauberkref17_Makes T_hauberkref17_Makes G_hauberkref17_Makes V_hauberkref17_Makes 2 8 (by kernel_rfl) (fun x => by kernel_rfl) ok_hauberkref17_Makes
noncomputable def cTLawb21 : Ctx := cTLawb20.addPlain 75 (plainT A_tmpl_Put G_tmpl_Put S_tmpl_Put V_tmpl_Put)
theorem cTLawb21_good : Av.Good cTLawb21 := cTLawb20_good.fnP S_tmpl_Put T_tmpl_Put G_tmpl_Put V_tmpl_Put 3 8 (by kernel_rfl) (fun x => by kernel_rfl) ok_tmpl_Put
noncomputable def cTLawb22 : Ctx := cTLawb21.addPlain 121 (plainT A_tmpl_temp G_tmpl_temp S_tmpl_temp V_tmpl_temp)
theorem cTLawb22_good : Av.Good cTLawb22 := cTLawb21_good.fnP S_tmpl_temp T_tmpl_temp G_tmpl_temp V_tmpl_temp 2 8 (by kernel_rfl) (fun x => by kernel_rfl) ok_tmpl_temp
noncomputable def cTLawb23 : Ctx := cTLawb22.addPlain 122 (plainT A_tmpl_spot G_tmpl_spot S_tmpl_spot V_tmpl_spot)
theorem cTLawb23_good : Av.Good cTLawb23 := cTLawb22_good.fnP S_tmpl_spot T_tmpl_spot G_tmpl_spot V_tmpl_spot 2 8 (by kernel_rfl) (fun x => by kernel_rfl) ok_tmpl_spot
noncomputable def cTLawb24 : Ctx := cTLawb23.addPlain 133 (plainT A_tmpl_pairs G_tmpl_pairs S_tmpl_pairs V_tmpl_pairs)
theorem cTLawb24_good : Av.Good cTLawb24 := cTLawb23_good.fnP S_tmpl_pairs T_tmpl_pairs G_tmpl_pairs V_tmpl_pairs 2 20 (by kernel_rfl) (fun x => by kernel_rfl) ok_tmpl_pairs
noncomputable def cTLawb25 : Ctx := cTLawb24.addPlain 131 (plainT A_tmpl_three G_tmpl_three S_tmpl_three V_tmpl_three)
theorem cTLawb25_good : Av.Good cTLawb25 := cTLawb24_good.fnP S_tmpl_three T_tmpl_three G_tmpl_three V_tmpl_three 2 8 (by kernel_rfl) (fun x => by kernel_rfl) ok_tmpl_three
noncomputable def cTLawb26 : Ctx := cTLawb25.addPlain 127 (plainT A_tmpl_shift G_tmpl_shift S_tmpl_shift V_tmpl_shift)
theorem cTLawb26_good : Av.Good cTLawb26 := cTLawb25_good.fnP S_tmpl_shift T_tmpl_shift G_tmpl_shift V_tmpl_shift 2 8 (by kernel_rfl) (fun x => by kernel_rfl) ok_tmpl_shift
noncomputable def cTLawb27 : Ctx := cTLawb26.addPlain 132 (plainT A_tmpl_array G_tmpl_array S_tmpl_array V_tmpl_array)
theorem cTLawb27_good : Av.Good cTLawb27 := cTLawb26_good.fnP S_tmpl_array T_tmpl_array G_tmpl_array V_tmpl_array 2 12 (by kernel_rfl) (fun x => by kernel_rfl) ok_tmpl_array
noncomputable def cTLawb28 : Ctx := cTLawb27.addPlain 73 (plainT A_tmpl_inner G_tmpl_inner S_tmpl_inner V_tmpl_inner)
theorem cTLawb28_good : Av.Good cTLawb28 := cTLawb27_good.fnP S_tmpl_inner T_tmpl_inner G_tmpl_inner V_tmpl_inner 3 24 (by kernel_rfl) (fun x => by kernel_rfl) ok_tmpl_inner
noncomputable def cTLawb29 : Ctx := cTLawb28.addPlain 161 (plainT A_hauberkref27_op G_hauberkref27_op S_hauberkref27_op V_hauberkref27_op)
theorem cTLawb29_good : Av.Good cTLawb29 := cTLawb28_good.fnP S_hauberkref27_op T_hauberkref27_op G_hauberkref27_op V_hauberkref27_op 2 16 (by kernel_rfl) (fun x => by kernel_rfl) ok_hauberkref27_op
noncomputable def cTLawb30 : Ctx := cTLawb29.addLoop 138 7 L_hauberkref27_one_7.toT.toLoop
theorem cTLawb30_good : Av.Good cTLawb30 := cTLawb29_good.loopN L_hauberkref27_one_7 2 8 (by kernel_rfl) (fun _ _ => rfl) (fun x y s m K => by kernel_rfl) (fun x y s s' K e => by kernel_rfl)
noncomputable def cTLawb31 : Ctx := cTLawb30.addLoop 138 3 L_hauberkref27_one_3.toT.toLoop
theorem cTLawb31_good : Av.Good cTLawb31 := cTLawb30_good.loopN L_hauberkref27_one_3 2 8 (by kernel_rfl) (fun _ _ => rfl) (fun x y s m K => by kernel_rfl) (fun x y s s' K e => by kernel_rfl)
noncomputable def cTLawb32 : Ctx := cTLawb31.addPlain 138 (plainT A_hauberkref27_one G_hauberkref27_one S_hauberkref27_one V_hauberkref27_one)
theorem cTLawb32_good : Av.Good cTLawb32 := cTLawb31_good.fnP S_hauberkref27_one T_hauberkref27_one G_hauberkref27_one V_hauberkref27_one 2 8 (by kernel_rfl) (fun x => by kernel_rfl) ok_hauberkref27_one
noncomputable def cTLawb33 : Ctx := cTLawb32.addLoop 82 5 L_hauberkref27_read_5.toT.toLoop
theorem cTLawb33_good : Av.Good cTLawb33 := cTLawb32_good.loopN L_hauberkref27_read_5 2 8 (by kernel_rfl) (fun _ _ => rfl) (fun x y s m K => by kernel_rfl) (fun x y s s' K e => by kernel_rfl)
noncomputable def cTLawb34 : Ctx := cTLawb33.addPlain 82 (plainT A_hauberkref27_read G_hauberkref27_read S_hauberkref27_read V_hauberkref27_read)
theorem cTLawb34_good : Av.Good cTLawb34 := cTLawb33_good.fnP S_hauberkref27_read T_hauberkref27_read G_hauberkref27_read V_hauberkref27_read 2 8 (by kernel_rfl) (fun x => by kernel_rfl) ok_hauberkref27_read
noncomputable def cTLawb35 : Ctx := cTLawb34.addLoop 68 2 L_tmpl_may_2.toT.toLoop
theorem cTLawb35_good : Av.Good cTLawb35 := cTLawb34_good.loopN L_tmpl_may_2 2 8 (by kernel_rfl) (fun _ _ => rfl) (fun x y s m K => by kernel_rfl) (fun x y s s' K e => by kernel_rfl)
noncomputable def cTLawb36 : Ctx := cTLawb35.addPlain 68 (plainT A_tmpl_may G_tmpl_may S_tmpl_may V_tmpl_may)
theorem cTLawb36_good : Av.Good cTLawb36 := cTLawb35_good.fnP S_tmpl_may T_tmpl_may G_tmpl_may V_tmpl_may 2 12 (by kernel_rfl) (fun x => by kernel_rfl) ok_tmpl_may
noncomputable def cTLawb37 : Ctx := cTLawb36.addPlain 83 (plainT A_hauberkref27_lines G_hauberkref27_lines S_hauberkref27_lines V_hauberkref27_lines)
theorem cTLawb37_good : Av.Good cTLawb37 := cTLawb36_good.fnP S_hauberkref27_lines T_hauberkref27_lines G_hauberkref27_lines V_hauberkref27_lines 2 8 (by kernel_rfl) (fun x => by kernel_rfl) ok_hauberkref27_lines
noncomputable def cTLawb38 : Ctx := cTLawb37.addPlain 80 (plainT A_hauberkref27_Word G_hauberkref27_Word S_hauberkref27_Word V_hauberkref27_Word)
theorem cTLawb38_good : Av.Good cTLawb38 := cTLawb37_good.fnP S_hauberkref27_Word T_hauberkref27_Word G_hauberkref27_Word V_hauberkref27_Word 2 8 (by kernel_rfl) (fun x => by kernel_rfl) ok_hauberkref27_Word
noncomputable def cTLawb39 : Ctx := cTLawb38.addPlain 136 (plainT A_hauberkref27_moved G_hauberkref27_moved S_hauberkref27_moved V_hauberkref27_moved)
theorem cTLawb39_good : Av.Good cTLawb39 := cTLawb38_good.fnP S_hauberkref27_moved T_hauberkref27_moved G_hauberkref27_moved V_hauberkref27_moved 2 8 (by kernel_rfl) (fun x => by kernel_rfl) ok_hauberkref27_moved
noncomputable def cTLawb40 : Ctx := cTLawb39.addPlain 85 (plainT A_hauberkref27_Put G_hauberkref27_Put S_hauberkref27_Put V_hauberkref27_Put)
theorem cTLawb40_good : Av.Good cTLawb40 := cTLawb39_good.fnP S_hauberkref27_Put T_hauberkref27_Put G_hauberkref27_Put V_hauberkref27_Put 2 8 (by kernel_rfl) (fun x => by kernel_rfl) ok_hauberkref27_Put
noncomputable def cTLawb41 : Ctx := cTLawb40.addPlain 81 (plainT A_hauberkref27_element G_hauberkref27_element S_hauberkref27_element V_hauberkref27_element)
theorem cTLawb41_good : Av.Good cTLawb41 := cTLawb40_good.fnP S_hauberkref27_element T_hauberkref27_element G_hauberkref27_element V_hauberkref27_element 2 12 (by kernel_rfl) (fun x => by kernel_rfl) ok_hauberkref27_element
noncomputable def cTLawb42 : Ctx := cTLawb41.addLoop 76 7 L_hauberkref27_May_7.toT.toLoop
theorem cTLawb42_good : Av.Good cTLawb42 := cTLawb41_good.loopN L_hauberkref27_May_7 2 8 (by kernel_rfl) (fun _ _ => rfl) (fun x y s m K => by kernel_rfl) (fun x y s s' K e => by kernel_rfl)
noncomputable def cTLawb43 : Ctx := cTLawb42.addPlain 76 (plainT A_hauberkref27_May G_hauberkref27_May S_hauberkref27_May V_hauberkref27_May)
theorem cTLawb43_good : Av.Good cTLawb43 := cTLawb42_good.fnP S_hauberkref27_May T_hauberkref27_May G_hauberkref27_May V_hauberkref27_May 2 8 (by kernel_rfl) (fun x => by kernel_rfl) ok_hauberkref27_May
noncomputable def cTLawb44 : Ctx := cTLawb43.addLoop 34 5 L_tmpl_Op_5.toT.toLoop
theorem cTLawb44_good : Av.Good cTLawb44 := cTLawb43_good.loopN L_tmpl_Op_5 2 8 (by kernel_rfl) (fun _ _ => rfl) (fun x y s m K => by kernel_rfl) (fun x y s s' K e => by kernel_rfl)
noncomputable def cTLawb45 : Ctx := cTLawb44.addPlain 34 (plainT A_tmpl_Op G_tmpl_Op S_tmpl_Op V_tmpl_Op)
theorem cTLawb45_good : Av.Good cTLawb45 := cTLawb44_good.fnP S_tmpl_Op T_tmpl_Op G_tmpl_Op V_tmpl_Op 4 12 (by kernel_rfl) (fun x => by kernel_rfl) ok_tmpl_Op
noncomputable def cTLawb46 : Ctx := cTLawb45.addLoop 35 6 L_hauberkref27_Op_6.toT.toLoop
theorem cTLawb46_good : Av.Good cTLawb46 := cTLawb45_good.loopN L_hauberkref27_Op_6 2 8 (by kernel_rfl) (fun _ _ => rfl) (fun x y s m K => by kernel_rfl) (fun x y s s' K e => by kernel_rfl)
noncomputable def cTLawb47 : Ctx := cTLawb46.addPlain 35 (plainT A_hauberkref27_Op G_hauberkref27_Op S_hauberkref27_Op V_hauberkref27_Op)
theorem cTLawb47_good : Av.Good cTLawb47 := cTLawb46_good.fnP S_hauberkref27_Op T_hauberkref27_Op G_hauberkref27_Op V_hauberkref27_Op 3 12 (by kernel_rfl) (fun x => by kernel_rfl) ok_hauberkref27_Op
noncomputable def cTLawb48 : Ctx := cTLawb47.addLoop 86 3 L_rail_items_3.toT.toLoop
theorem cTLawb48_good : Av.Good cTLawb48 := cTLawb47_good.loopN L_rail_items_3 2 8 (by kernel_rfl) (fun _ _ => rfl) (fun x y s m K => by kernel_rfl) (fun x y s s' K e => by kernel_rfl)
noncomputable def cTLawb49 : Ctx := cTLawb48.addPlain 86 (plainT A_rail_items G_rail_items S_rail_items V_rail_items)
theorem cTLawb49_good : Av.Good cTLawb49 := cTLawb48_good.fnP S_rail_items T_rail_items G_rail_items V_rail_items 2 8 (by kernel_rfl) (fun x => by kernel_rfl) ok_rail_items
noncomputable def cTLawb50 : Ctx := cTLawb49.addPlain 38 (plainT A_rail_Op G_rail_Op S_rail_Op V_rail_Op)
theorem cTLawb50_good : Av.Good cTLawb50 := cTLawb49_good.fnP S_rail_Op T_rail_Op G_rail_Op V_rail_Op 3 8 (by kernel_rfl) (fun x => by kernel_rfl) ok_rail_Op
noncomputable def cTLawb51 : Ctx := cTLawb50.addPlain 37 (plainT A_hauberklaw27_lives G_hauberklaw27_lives S_hauberklaw27_lives V_hauberklaw27_lives)
theorem cTLawb51_good : Av.Good cTLawb51 := cTLawb50_good.fnP S_hauberklaw27_lives T_hauberklaw27_lives G_hauberklaw27_lives V_hauberklaw27_lives 3 8 (by kernel_rfl) (fun x => by kernel_rfl) ok_hauberklaw27_lives
noncomputable def cTLawb52 : Ctx := cTLawb51.addLoop 87 1 L_hauberkref29_Out_Ins_1.toT.toLoop
theorem cTLawb52_good : Av.Good cTLawb52 := cTLawb51_good.loopN L_hauberkref29_Out_Ins_1 2 8 (by kernel_rfl) (fun _ _ => rfl) (fun x y s m K => by kernel_rfl) (fun x y s s' K e => by kernel_rfl)
noncomputable def cTLawb53 : Ctx := cTLawb52.addPlain 39 (plainT A_hauberkref29_Op G_hauberkref29_Op S_hauberkref29_Op V_hauberkref29_Op)
theorem cTLawb53_good : Av.Good cTLawb53 := cTLawb52_good.fnP S_hauberkref29_Op T_hauberkref29_Op G_hauberkref29_Op V_hauberkref29_Op 3 8 (by kernel_rfl) (fun x => by kernel_rfl) ok_hauberkref29_Op
noncomputable def cTLawb54 : Ctx := cTLawb53.addLoop 12 5 L_hauberklaw27_TmplSafe_5.toT.toLoop
theorem cTLawb54_good : Av.Good cTLawb54 := cTLawb53_good.loopN L_hauberklaw27_TmplSafe_5 2 8 (by kernel_rfl) (fun _ _ => rfl) (fun x y s m K => by kernel_rfl) (fun x y s s' K e => by kernel_rfl)
noncomputable def cTLawb : Ctx := cTLawb54
theorem cTLawb_good : Av.Good cTLawb := cTLawb54_good
end Go.Proofs.Ytapfijocjgoilaa
