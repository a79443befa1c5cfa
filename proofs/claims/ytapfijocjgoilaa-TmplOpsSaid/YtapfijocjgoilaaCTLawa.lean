/- The functions that the statements reach, walked: chain TLawa. Written by wip/tools/gen.py out of wip/conf/TLawa.txt. -/
import Derived.Test.YtapfijocjgoilaaPSame
import Derived.Test.YtapfijocjgoilaaPItems
import Derived.Test.YtapfijocjgoilaaPRail
import Derived.Test.YtapfijocjgoilaaPRailB
import Derived.Test.YtapfijocjgoilaaPTOps
import Derived.Test.YtapfijocjgoilaaPTOpsLaw
import Derived.Test.YtapfijocjgoilaaPTOpsLaw2
import Derived.Test.YtapfijocjgoilaaPTOpsLaw3
import Derived.Test.YtapfijocjgoilaaPTOpsLaw4
import Derived.Test.YtapfijocjgoilaaPTLawa
import Derived.Test.YtapfijocjgoilaaPTLawaLaw
import Derived.Test.YtapfijocjgoilaaProg
namespace Go.Proofs.Ytapfijocjgoilaa
open Go Go.Av Go.Proofs
noncomputable def cTLawa0 : Ctx := baseC Try.prog [26, 48, 60, 54, 24, 32, 92, 58, 126]
theorem cTLawa0_good : Av.Good cTLawa0 := good_base (by kernel_rfl) (by kernel_rfl) (by kernel_rfl)
noncomputable def cTLawa1 : Ctx := cTLawa0.addLoop 36 4 L_hauberkref27_Same_4.toT.toLoop
theorem cTLawa1_good : Av.Good cTLawa1 := cTLawa0_good.loopN L_hauberkref27_Same_4 3 8 (by kernel_rfl) (fun _ _ => rfl) (fun x y s m K => by kernel_rfl) (fun x y s s' K e => by kernel_rfl)
noncomputable def cTLawa2 : Ctx := cTLawa1.addLoop 40 4 L_hauberkref28_Same_4.toT.toLoop
theorem cTLawa2_good : Av.Good cTLawa2 := cTLawa1_good.loopN L_hauberkref28_Same_4 3 8 (by kernel_rfl) (fun _ _ => rfl) (fun x y s m K => by kernel_rfl) (fun x y s s' K e => by kernel_rfl)
noncomputable def cTLawa3 : Ctx := cTLawa2.addPlain 36 (plainT A_hauberkref27_Same G_hauberkref27_Same S_hauberkref27_Same V_hauberkref27_Same)
theorem cTLawa3_good : Av.Good cTLawa3 := cTLawa2_good.fnP S_hauberkref27_Same T_hauberkref27_Same G_hauberkref27_Same V_hauberkref27_Same 3 8 (by kernel_rfl) (fun x => by kernel_rfl) ok_hauberkref27_Same
noncomputable def cTLawa4 : Ctx := cTLawa3.addPlain 40 (plainT A_hauberkref28_Same G_hauberkref28_Same S_hauberkref28_Same V_hauberkref28_Same)
theorem cTLawa4_good : Av.Good cTLawa4 := cTLawa3_good.fnP S_hauberkref28_Same T_hauberkref28_Same G_hauberkref28_Same V_hauberkref28_Same 3 8 (by kernel_rfl) (fun x => by kernel_rfl) ok_hauberkref28_Same
noncomputable def cTLawa5 : Ctx := cTLawa4.addPlain 125 (plainT A_tmpl_Word G_tmpl_Word S_tmpl_Word V_tmpl_Word)
theorem cTLawa5_good : Av.Good cTLawa5 := cTLawa4_good.fnP S_tmpl_Word T_tmpl_Word G_tmpl_Word V_tmpl_Word 3 8 (by kernel_rfl) (fun x => by kernel_rfl) ok_tmpl_Word
noncomputable def cTLawa6 : Ctx := cTLawa5.addPlain 126 (plainT A_memmap_Rail G_memmap_Rail S_memmap_Rail V_memmap_Rail)
theorem cTLawa6_good : Av.Good cTLawa6 := cTLawa5_good.fnP S_memmap_Rail T_memmap_Rail G_memmap_Rail V_memmap_Rail 2 8 (by kernel_rfl) (fun x => by kernel_rfl) ok_memmap_Rail
noncomputable def cTLawa7 : Ctx := cTLawa6.addPlain 124 (plainT A_tmpl_fits G_tmpl_fits S_tmpl_fits V_tmpl_fits)
theorem cTLawa7_good : Av.Good cTLawa7 := cTLawa6_good.fnP S_tmpl_fits T_tmpl_fits G_tmpl_fits V_tmpl_fits 2 8 (by kernel_rfl) (fun x => by kernel_rfl) ok_tmpl_fits
noncomputable def cTLawa8 : Ctx := cTLawa7.addPlain 71 (plainT A_frame_Temp G_frame_Temp S_frame_Temp V_frame_Temp)
theorem cTLawa8_good : Av.Good cTLawa8 := cTLawa7_good.fnP S_frame_Temp T_frame_Temp G_frame_Temp V_frame_Temp 3 8 (by kernel_rfl) (fun x => by kernel_rfl) ok_frame_Temp
noncomputable def cTLawa9 : Ctx := cTLawa8.addPlain 79 (plainT A_hauberkref26_Temp G_hauberkref26_Temp S_hauberkref26_Temp V_hauberkref26_Temp)
theorem cTLawa9_good : Av.Good cTLawa9 := cTLawa8_good.fnP S_hauberkref26_Temp T_hauberkref26_Temp G_hauberkref26_Temp V_hauberkref26_Temp 3 8 (by kernel_rfl) (fun x => by kernel_rfl) ok_hauberkref26_Temp
noncomputable def cTLawa10 : Ctx := cTLawa9.addPlain 70 (plainT A_tmpl_Get G_tmpl_Get S_tmpl_Get V_tmpl_Get)
theorem cTLawa10_good : Av.Good cTLawa10 := cTLawa9_good.fnP S_tmpl_Get T_tmpl_Get G_tmpl_Get V_tmpl_Get 3 8 (by kernel_rfl) (fun x => by kernel_rfl) ok_tmpl_Get
noncomputable def cTLawa11 : Ctx := cTLawa10.addPlain 137 (plainT A_hauberkref27_rail G_hauberkref27_rail S_hauberkref27_rail V_hauberkref27_rail)
theorem cTLawa11_good : Av.Good cTLawa11 := cTLawa10_good.fnP S_hauberkref27_rail T_hauberkref27_rail G_hauberkref27_rail V_hauberkref27_rail 2 8 (by kernel_rfl) (fun x => by kernel_rfl) ok_hauberkref27_rail
noncomputable def cTLawa12 : Ctx := cTLawa11.addPlain 78 (plainT A_hauberkref27_Get G_hauberkref27_Get S_hauberkref27_Get V_hauberkref27_Get)
theorem cTLawa12_good : Av.Good cTLawa12 := cTLawa11_good.fnP S_hauberkref27_Get T_hauberkref27_Get G_hauberkref27_Get V_hauberkref27_Get 3 8 (by kernel_rfl) (fun x => by kernel_rfl) ok_hauberkref27_Get
noncomputable def cTLawa13 : Ctx := cTLawa12.addPlain 123 (plainT A_ir_formOf G_ir_formOf S_ir_formOf V_ir_formOf)
theorem cTLawa13_good : Av.Good cTLawa13 := cTLawa12_good.fnP S_ir_formOf T_ir_formOf G_ir_formOf V_ir_formOf 2 12 (by kernel_rfl) (fun x => by kernel_rfl) ok_ir_formOf
noncomputable def cTLawa14 : Ctx := cTLawa13.addPlain 74 (plainT A_ir_Makes G_ir_Makes S_ir_Makes V_ir_Makes)
theorem cTLawa14_good : Av.Good cTLawa14 := cTLawa13_good.fnP S_ir_Makes T_ir_Makes G_ir_Makes V_ir_Makes 2 8 (by kernel_rfl) (fun x => by kernel_rfl) ok_ir_Makes
noncomputable def cTLawa15 : Ctx := cTLawa14.addPlain 69 (plainT A_ir_Uses G_ir_Uses S_ir_Uses V_ir_Uses)
theorem cTLawa15_good : Av.Good cTLawa15 := cTLawa14_good.fnP S_ir_Uses T_ir_Uses G_ir_Uses V_ir_Uses 2 8 (by kernel_rfl) (fun x => by kernel_rfl) ok_ir_Uses
noncomputable def cTLawa16 : Ctx := cTLawa15.addPlain 134 (plainT A_hauberkref17_letters G_hauberkref17_letters S_hauberkref17_letters V_hauberkref17_letters)
theorem cTLawa16_good : Av.Good cTLawa16 := cTLawa15_good.fnP S_hauberkref17_letters T_hauberkref17_letters G_hauberkref17_letters V_hauberkref17_letters 2 8 (by kernel_rfl) (fun x => by kernel_rfl) ok_hauberkref17_letters
noncomputable def cTLawa17 : Ctx := cTLawa16.addLoop 135 2 L_hauberkref17_has_2.toT.toLoop
theorem cTLawa17_good : Av.Good cTLawa17 := cTLawa16_good.loopN L_hauberkref17_has_2 2 8 (by kernel_rfl) (fun _ _ => rfl) (fun x y s m K => by kernel_rfl) (fun x y s s' K e => by kernel_rfl)
noncomputable def cTLawa18 : Ctx := cTLawa17.addPlain 135 (plainT A_hauberkref17_has G_hauberkref17_has S_hauberkref17_has V_hauberkref17_has)
theorem cTLawa18_good : Av.Good cTLawa18 := cTLawa17_good.fnP S_hauberkref17_has T_hauberkref17_has G_hauberkref17_has V_hauberkref17_has 2 8 (by kernel_rfl) (fun x => by kernel_rfl) ok_hauberkref17_has
noncomputable def cTLawa19 : Ctx := cTLawa18.addPlain 77 (plainT A_hauberkref17_Uses G_hauberkref17_Uses S_hauberkref17_Uses V_hauberkref17_Uses)
theorem cTLawa19_good : Av.Good cTLawa19 := cTLawa18_good.fnP S_hauberkref17_Uses T_hauberkref17_Uses G_hauberkref17_Uses V_hauberkref17_Uses 2 8 (by kernel_rfl) (fun x => by kernel_rfl) ok_hauberkref17_Uses
noncomputable def cTLawa20 : Ctx := cTLawa19.addPlain 84 (plainT A_hauberkref17_Makes G_hauberkref17_Makes S_hauberkref17_Makes V_hauberkref17_Makes)
theorem cTLawa20_good : Av.Good cTLawa20 := cTLawa19_good.fnP S_hauberkref17_Makes T_hauberkref17_Makes G_hauberkref17_Makes V_hauberkref17_Makes 2 8 (by kernel_rfl) (fun x => by kernel_rfl) ok_hauberkref17_Makes
noncomputable def cTLawa21 : Ctx := cTLawa20.addPlain 75 (plainT A_tmpl_Put G_tmpl_Put S_tmpl_Put V_tmpl_Put)
theorem cTLawa21_good : Av.Good cTLawa21 := cTLawa20_good.fnP S_tmpl_Put T_tmpl_Put G_tmpl_Put V_tmpl_Put 3 8 (by kernel_rfl) (fun x => by kernel_rfl) ok_tmpl_Put
noncomputable def cTLawa22 : Ctx := cTLawa21.addPlain 121 (plainT A_tmpl_temp G_tmpl_temp S_tmpl_temp V_tmpl_temp)
theorem cTLawa22_good : Av.Good cTLawa22 := cTLawa21_good.fnP S_tmpl_temp T_tmpl_temp G_tmpl_temp V_tmpl_temp 2 8 (by kernel_rfl) (fun x => by kernel_rfl) ok_tmpl_temp
noncomputable def cTLawa23 : Ctx := cTLawa22.addPlain 122 (plainT A_tmpl_spot G_tmpl_spot S_tmpl_spot V_tmpl_spot)
theorem cTLawa23_good : Av.Good cTLawa23 := cTLawa22_good.fnP S_tmpl_spot T_tmpl_spot G_tmpl_spot V_tmpl_spot 2 8 (by kernel_rfl) (fun x => by kernel_rfl) ok_tmpl_spot
noncomputable def cTLawa24 : Ctx := cTLawa23.addPlain 133 (plainT A_tmpl_pairs G_tmpl_pairs S_tmpl_pairs V_tmpl_pairs)
theorem cTLawa24_good : Av.Good cTLawa24 := cTLawa23_good.fnP S_tmpl_pairs T_tmpl_pairs G_tmpl_pairs V_tmpl_pairs 2 20 (by kernel_rfl) (fun x => by kernel_rfl) ok_tmpl_pairs
noncomputable def cTLawa25 : Ctx := cTLawa24.addPlain 131 (plainT A_tmpl_three G_tmpl_three S_tmpl_three V_tmpl_three)
theorem cTLawa25_good : Av.Good cTLawa25 := cTLawa24_good.fnP S_tmpl_three T_tmpl_three G_tmpl_three V_tmpl_three 2 8 (by kernel_rfl) (fun x => by kernel_rfl) ok_tmpl_three
noncomputable def cTLawa26 : Ctx := cTLawa25.addPlain 127 (plainT A_tmpl_shift G_tmpl_shift S_tmpl_shift V_tmpl_shift)
theorem cTLawa26_good : Av.Good cTLawa26 := cTLawa25_good.fnP S_tmpl_shift T_tmpl_shift G_tmpl_shift V_tmpl_shift 2 8 (by kernel_rfl) (fun x => by kernel_rfl) ok_tmpl_shift
noncomputable def cTLawa27 : Ctx := cTLawa26.addPlain 132 (plainT A_tmpl_array G_tmpl_array S_tmpl_array V_tmpl_array)
theorem cTLawa27_good : Av.Good cTLawa27 := cTLawa26_good.fnP S_tmpl_array T_tmpl_array G_tmpl_array V_tmpl_array 2 12 (by kernel_rfl) (fun x => by kernel_rfl) ok_tmpl_array
noncomputable def cTLawa28 : Ctx := cTLawa27.addPlain 73 (plainT A_tmpl_inner G_tmpl_inner S_tmpl_inner V_tmpl_inner)
theorem cTLawa28_good : Av.Good cTLawa28 := cTLawa27_good.fnP S_tmpl_inner T_tmpl_inner G_tmpl_inner V_tmpl_inner 3 24 (by kernel_rfl) (fun x => by kernel_rfl) ok_tmpl_inner
noncomputable def cTLawa29 : Ctx := cTLawa28.addPlain 161 (plainT A_hauberkref27_op G_hauberkref27_op S_hauberkref27_op V_hauberkref27_op)
theorem cTLawa29_good : Av.Good cTLawa29 := cTLawa28_good.fnP S_hauberkref27_op T_hauberkref27_op G_hauberkref27_op V_hauberkref27_op 2 16 (by kernel_rfl) (fun x => by kernel_rfl) ok_hauberkref27_op
noncomputable def cTLawa30 : Ctx := cTLawa29.addLoop 138 7 L_hauberkref27_one_7.toT.toLoop
theorem cTLawa30_good : Av.Good cTLawa30 := cTLawa29_good.loopN L_hauberkref27_one_7 2 8 (by kernel_rfl) (fun _ _ => rfl) (fun x y s m K => by kernel_rfl) (fun x y s s' K e => by kernel_rfl)
noncomputable def cTLawa31 : Ctx := cTLawa30.addLoop 138 3 L_hauberkref27_one_3.toT.toLoop
theorem cTLawa31_good : Av.Good cTLawa31 := cTLawa30_good.loopN L_hauberkref27_one_3 2 8 (by kernel_rfl) (fun _ _ => rfl) (fun x y s m K => by kernel_rfl) (fun x y s s' K e => by kernel_rfl)
noncomputable def cTLawa32 : Ctx := cTLawa31.addPlain 138 (plainT A_hauberkref27_one G_hauberkref27_one S_hauberkref27_one V_hauberkref27_one)
theorem cTLawa32_good : Av.Good cTLawa32 := cTLawa31_good.fnP S_hauberkref27_one T_hauberkref27_one G_hauberkref27_one V_hauberkref27_one 2 8 (by kernel_rfl) (fun x => by kernel_rfl) ok_hauberkref27_one
noncomputable def cTLawa33 : Ctx := cTLawa32.addLoop 82 5 L_hauberkref27_read_5.toT.toLoop
theorem cTLawa33_good : Av.Good cTLawa33 := cTLawa32_good.loopN L_hauberkref27_read_5 2 8 (by kernel_rfl) (fun _ _ => rfl) (fun x y s m K => by kernel_rfl) (fun x y s s' K e => by kernel_rfl)
noncomputable def cTLawa34 : Ctx := cTLawa33.addPlain 82 (plainT A_hauberkref27_read G_hauberkref27_read S_hauberkref27_read V_hauberkref27_read)
theorem cTLawa34_good : Av.Good cTLawa34 := cTLawa33_good.fnP S_hauberkref27_read T_hauberkref27_read G_hauberkref27_read V_hauberkref27_read 2 8 (by kernel_rfl) (fun x => by kernel_rfl) ok_hauberkref27_read
noncomputable def cTLawa35 : Ctx := cTLawa34.addLoop 68 2 L_tmpl_may_2.toT.toLoop
theorem cTLawa35_good : Av.Good cTLawa35 := cTLawa34_good.loopN L_tmpl_may_2 2 8 (by kernel_rfl) (fun _ _ => rfl) (fun x y s m K => by kernel_rfl) (fun x y s s' K e => by kernel_rfl)
noncomputable def cTLawa36 : Ctx := cTLawa35.addPlain 68 (plainT A_tmpl_may G_tmpl_may S_tmpl_may V_tmpl_may)
theorem cTLawa36_good : Av.Good cTLawa36 := cTLawa35_good.fnP S_tmpl_may T_tmpl_may G_tmpl_may V_tmpl_may 2 12 (by kernel_rfl) (fun x => by kernel_rfl) ok_tmpl_may
noncomputable def cTLawa37 : Ctx := cTLawa36.addPlain 83 (plainT A_hauberkref27_lines G_hauberkref27_lines S_hauberkref27_lines V_hauberkref27_lines)
theorem cTLawa37_good : Av.Good cTLawa37 := cTLawa36_good.fnP S_hauberkref27_lines T_hauberkref27_lines G_hauberkref27_lines V_hauberkref27_lines 2 8 (by kernel_rfl) (fun x => by kernel_rfl) ok_hauberkref27_lines
noncomputable def cTLawa38 : Ctx := cTLawa37.addPlain 80 (plainT A_hauberkref27_Word G_hauberkref27_Word S_hauberkref27_Word V_hauberkref27_Word)
theorem cTLawa38_good : Av.Good cTLawa38 := cTLawa37_good.fnP S_hauberkref27_Word T_hauberkref27_Word G_hauberkref27_Word V_hauberkref27_Word 2 8 (by kernel_rfl) (fun x => by kernel_rfl) ok_hauberkref27_Word
noncomputable def cTLawa39 : Ctx := cTLawa38.addPlain 136 (plainT A_hauberkref27_moved G_hauberkref27_moved S_hauberkref27_moved V_hauberkref27_moved)
theorem cTLawa39_good : Av.Good cTLawa39 := cTLawa38_good.fnP S_hauberkref27_moved T_hauberkref27_moved G_hauberkref27_moved V_hauberkref27_moved 2 8 (by kernel_rfl) (fun x => by kernel_rfl) ok_hauberkref27_moved
noncomputable def cTLawa40 : Ctx := cTLawa39.addPlain 85 (plainT A_hauberkref27_Put G_hauberkref27_Put S_hauberkref27_Put V_hauberkref27_Put)
theorem cTLawa40_good : Av.Good cTLawa40 := cTLawa39_good.fnP S_hauberkref27_Put T_hauberkref27_Put G_hauberkref27_Put V_hauberkref27_Put 2 8 (by kernel_rfl) (fun x => by kernel_rfl) ok_hauberkref27_Put
noncomputable def cTLawa41 : Ctx := cTLawa40.addPlain 81 (plainT A_hauberkref27_element G_hauberkref27_element S_hauberkref27_element V_hauberkref27_element)
theorem cTLawa41_good : Av.Good cTLawa41 := cTLawa40_good.fnP S_hauberkref27_element T_hauberkref27_element G_hauberkref27_element V_hauberkref27_element 2 12 (by kernel_rfl) (fun x => by kernel_rfl) ok_hauberkref27_element
noncomputable def cTLawa42 : Ctx := cTLawa41.addLoop 76 7 L_hauberkref27_May_7.toT.toLoop
theorem cTLawa42_good : Av.Good cTLawa42 := cTLawa41_good.loopN L_hauberkref27_May_7 2 8 (by kernel_rfl) (fun _ _ => rfl) (fun x y s m K => by kernel_rfl) (fun x y s s' K e => by kernel_rfl)
noncomputable def cTLawa43 : Ctx := cTLawa42.addPlain 76 (plainT A_hauberkref27_May G_hauberkref27_May S_hauberkref27_May V_hauberkref27_May)
theorem cTLawa43_good : Av.Good cTLawa43 := cTLawa42_good.fnP S_hauberkref27_May T_hauberkref27_May G_hauberkref27_May V_hauberkref27_May 2 8 (by kernel_rfl) (fun x => by kernel_rfl) ok_hauberkref27_May
noncomputable def cTLawa44 : Ctx := cTLawa43.addLoop 34 5 L_tmpl_Op_5.toT.toLoop
theorem cTLawa44_good : Av.Good cTLawa44 := cTLawa43_good.loopN L_tmpl_Op_5 2 8 (by kernel_rfl) (fun _ _ => rfl) (fun x y s m K => by kernel_rfl) (fun x y s s' K e => by kernel_rfl)
noncomputable def cTLawa45 : Ctx := cTLawa44.addPlain 34 (plainT A_tmpl_Op G_tmpl_Op S_tmpl_Op V_tmpl_Op)
theorem cTLawa45_good : Av.Good cTLawa45 := cTLawa44_good.fnP S_tmpl_Op T_tmpl_Op G_tmpl_Op V_tmpl_Op 4 12 (by kernel_rfl) (fun x => by kernel_rfl) ok_tmpl_Op
noncomputable def cTLawa46 : Ctx := cTLawa45.addLoop 35 6 L_hauberkref27_Op_6.toT.toLoop
theorem cTLawa46_good : Av.Good cTLawa46 := cTLawa45_good.loopN L_hauberkref27_Op_6 2 8 (by kernel_rfl) (fun _ _ => rfl) (fun x y s m K => by kernel_rfl) (fun x y s s' K e => by kernel_rfl)
noncomputable def cTLawa47 : Ctx := cTLawa46.addPlain 35 (plainT A_hauberkref27_Op G_hauberkref27_Op S_hauberkref27_Op V_hauberkref27_Op)
theorem cTLawa47_good : Av.Good cTLawa47 := cTLawa46_good.fnP S_hauberkref27_Op T_hauberkref27_Op G_hauberkref27_Op V_hauberkref27_Op 3 12 (by kernel_rfl) (fun x => by kernel_rfl) ok_hauberkref27_Op
noncomputable def cTLawa48 : Ctx := cTLawa47.addLoop 86 3 L_rail_items_3.toT.toLoop
theorem cTLawa48_good : Av.Good cTLawa48 := cTLawa47_good.loopN L_rail_items_3 2 8 (by kernel_rfl) (fun _ _ => rfl) (fun x y s m K => by kernel_rfl) (fun x y s s' K e => by kernel_rfl)
noncomputable def cTLawa49 : Ctx := cTLawa48.addPlain 86 (plainT A_rail_items G_rail_items S_rail_items V_rail_items)
theorem cTLawa49_good : Av.Good cTLawa49 := cTLawa48_good.fnP S_rail_items T_rail_items G_rail_items V_rail_items 2 8 (by kernel_rfl) (fun x => by kernel_rfl) ok_rail_items
noncomputable def cTLawa50 : Ctx := cTLawa49.addPlain 38 (plainT A_rail_Op G_rail_Op S_rail_Op V_rail_Op)
theorem cTLawa50_good : Av.Good cTLawa50 := cTLawa49_good.fnP S_rail_Op T_rail_Op G_rail_Op V_rail_Op 3 8 (by kernel_rfl) (fun x => by kernel_rfl) ok_rail_Op
noncomputable def cTLawa51 : Ctx := cTLawa50.addPlain 37 (plainT A_hauberklaw27_lives G_hauberklaw27_lives S_hauberklaw27_lives V_hauberklaw27_lives)
theorem cTLawa51_good : Av.Good cTLawa51 := cTLawa50_good.fnP S_hauberklaw27_lives T_hauberklaw27_lives G_hauberklaw27_lives V_hauberklaw27_lives 3 8 (by kernel_rfl) (fun x => by kernel_rfl) ok_hauberklaw27_lives
noncomputable def cTLawa52 : Ctx := cTLawa51.addLoop 87 1 L_hauberkref29_Out_Ins_1.toT.toLoop
theorem cTLawa52_good : Av.Good cTLawa52 := cTLawa51_good.loopN L_hauberkref29_Out_Ins_1 2 8 (by kernel_rfl) (fun _ _ => rfl) (fun x y s m K => by kernel_rfl) (fun x y s s' K e => by kernel_rfl)
noncomputable def cTLawa53 : Ctx := cTLawa52.addPlain 39 (plainT A_hauberkref29_Op G_hauberkref29_Op S_hauberkref29_Op V_hauberkref29_Op)
theorem cTLawa53_good : Av.Good cTLawa53 := cTLawa52_good.fnP S_hauberkref29_Op T_hauberkref29_Op G_hauberkref29_Op V_hauberkref29_Op 3 8 (by kernel_rfl) (fun x => by kernel_rfl) ok_hauberkref29_Op
noncomputable def cTLawa : Ctx := cTLawa53
theorem cTLawa_good : Av.Good cTLawa := cTLawa53_good
end Go.Proofs.Ytapfijocjgoilaa
