/- The functions that the statements reach, walked: chain TLawc. Written by wip/tools/gen.py out of wip/conf/TLawc.txt. -/
import Derived.Test.YtapfijocjgoilaaPSame
import Derived.Test.YtapfijocjgoilaaPItems
import Derived.Test.YtapfijocjgoilaaPRail
import Derived.Test.YtapfijocjgoilaaPRailB
import Derived.Test.YtapfijocjgoilaaPTOps
import Derived.Test.YtapfijocjgoilaaPTOpsLaw
import Derived.Test.YtapfijocjgoilaaPTOpsLaw2
import Derived.Test.YtapfijocjgoilaaPTOpsLaw3
import Derived.Test.YtapfijocjgoilaaPTOpsLaw4
import Derived.Test.YtapfijocjgoilaaPTLawc
import Derived.Test.YtapfijocjgoilaaPTLawcLaw
import Derived.Test.YtapfijocjgoilaaProg
namespace Go.Proofs.Ytapfijocjgoilaa
open Go Go.Av Go.Proofs
noncomputable def cTLawc0 : Ctx := baseC Try.prog [26, 48, 60, 54, 24, 32, 92, 58, 126]
theorem cTLawc0_good : Av.Good cTLawc0 := good_base (by kernel_rfl) (by kernel_rfl) (by kernel_rfl)
noncomputable def cTLawc1 : Ctx := cTLawc0.addLoop 36 4 L_hauberkref27_Same_4.toT.toLoop
theorem cTLawc1_good : Av.Good cTLawc1 := cTLawc0_good.loopN L_hauberkref27_Same_4 3 8 (by kernel_rfl) (fun _ _ => rfl) (fun x y s m K => by kernel_rfl) (fun x y s s' K e => by kernel_rfl)
noncomputable def cTLawc2 : Ctx := cTLawc1.addLoop 40 4 L_hauberkref28_Same_4.toT.toLoop
theorem cTLawc2_good : Av.Good cTLawc2 := cTLawc1_good.loopN L_hauberkref28_Same_4 3 8 (by kernel_rfl) (fun _ _ => rfl) (fun x y s m K => by kernel_rfl) (fun x y s s' K e => by kernel_rfl)
noncomputable def cTLawc3 : Ctx := cTLawc2.addPlain 36 (plainT A_hauberkref27_Same G_hauberkref27_Same S_hauberkref27_Same V_hauberkref27_Same)
theorem cTLawc3_good : Av.Good cTLawc3 := cTLawc2_good.fnP S_hauberkref27_Same T_hauberkref27_Same G_hauberkref27_Same V_hauberkref27_Same 3 8 (by kernel_rfl) (fun x => by kernel_rfl) ok_hauberkref27_Same
noncomputable def cTLawc4 : Ctx := cTLawc3.addPlain 40 (plainT A_hauberkref28_Same G_hauberkref28_Same S_hauberkref28_Same V_hauberkref28_Same)
theorem cTLawc4_good : Av.Good cTLawc4 := cTLawc3_good.fnP S_hauberkref28_Same T_hauberkref28_Same G_hauberkref28_Same V_hauberkref28_Same 3 8 (by kernel_rfl) (fun x => by kernel_rfl) ok_hauberkref28_Same
noncomputable def cTLawc5 : Ctx := cTLawc4.addPlain 125 (plainT A_tmpl_Word G_tmpl_Word S_tmpl_Word V_tmpl_Word)
theorem cTLawc5_good : Av.Good cTLawc5 := cTLawc4_good.fnP S_tmpl_Word T_tmpl_Word G_tmpl_Word V_tmpl_Word 3 8 (by kernel_rfl) (fun x => by kernel_rfl) ok_tmpl_Word
noncomputable def cTLawc6 : Ctx := cTLawc5.addPlain 126 (plainT A_memmap_Rail G_memmap_Rail S_memmap_Rail V_memmap_Rail)
theorem cTLawc6_good : Av.Good cTLawc6 := cTLawc5_good.fnP S_memmap_Rail T_memmap_Rail G_memmap_Rail V_memmap_Rail 2 8 (by kernel_rfl) (fun x => by kernel_rfl) ok_memmap_Rail
noncomputable def cTLawc7 : Ctx := cTLawc6.addPlain 124 (plainT A_tmpl_fits G_tmpl_fits S_tmpl_fits V_tmpl_fits)
theorem cTLawc7_good : Av.Good cTLawc7 := cTLawc6_good.fnP S_tmpl_fits T_tmpl_fits G_tmpl_fits V_tmpl_fits 2 8 (by kernel_rfl) (fun x => by kernel_rfl) ok_tmpl_fits
noncomputable def cTLawc8 : Ctx := cTLawc7.addPlain 71 (plainT A_frame_Temp G_frame_Temp S_frame_Temp V_frame_Temp)
theorem cTLawc8_good : Av.Good cTLawc8 := cTLawc7_good.fnP S_frame_Temp T_frame_Temp G_frame_Temp V_frame_Temp 3 8 (by kernel_rfl) (fun x => by kernel_rfl) ok_frame_Temp
noncomputable def cTLawc9 : Ctx := cTLawc8.addPlain 79 (plainT A_hauberkref26_Temp G_hauberkref26_Temp S_hauberkref26_Temp V_hauberkref26_Temp)
theorem cTLawc9_good : Av.Good cTLawc9 := cTLawc8_good.fnP S_hauberkref26_Temp T_hauberkref26_Temp G_hauberkref26_Temp V_hauberkref26_Temp 3 8 (by kernel_rfl) (fun x => by kernel_rfl) ok_hauberkref26_Temp
noncomputable def cTLawc10 : Ctx := cTLawc9.addPlain 70 (plainT A_tmpl_Get G_tmpl_Get S_tmpl_Get V_tmpl_Get)
theorem cTLawc10_good : Av.Good cTLawc10 := cTLawc9_good.fnP S_tmpl_Get T_tmpl_Get G_tmpl_Get V_tmpl_Get 3 8 (by kernel_rfl) (fun x => by kernel_rfl) ok_tmpl_Get
noncomputable def cTLawc11 : Ctx := cTLawc10.addPlain 137 (plainT A_hauberkref27_rail G_hauberkref27_rail S_hauberkref27_rail V_hauberkref27_rail)
theorem cTLawc11_good : Av.Good cTLawc11 := cTLawc10_good.fnP S_hauberkref27_rail T_hauberkref27_rail G_hauberkref27_rail V_hauberkref27_rail 2 8 (by kernel_rfl) (fun x => by kernel_rfl) ok_hauberkref27_rail
noncomputable def cTLawc12 : Ctx := cTLawc11.addPlain 78 (plainT A_hauberkref27_Get G_hauberkref27_Get S_hauberkref27_Get V_hauberkref27_Get)
theorem cTLawc12_good : Av.Good cTLawc12 := cTLawc11_good.fnP S_hauberkref27_Get T_hauberkref27_Get G_hauberkref27_Get V_hauberkref27_Get 3 8 (by kernel_rfl) (fun x => by kernel_rfl) ok_hauberkref27_Get
noncomputable def cTLawc13 : Ctx := cTLawc12.addPlain 123 (plainT A_ir_formOf G_ir_formOf S_ir_formOf V_ir_formOf)
theorem cTLawc13_good : Av.Good cTLawc13 := cTLawc12_good.fnP S_ir_formOf T_ir_formOf G_ir_formOf V_ir_formOf 2 12 (by kernel_rfl) (fun x => by kernel_rfl) ok_ir_formOf
noncomputable def cTLawc14 : Ctx := cTLawc13.addPlain 74 (plainT A_ir_Makes G_ir_Makes S_ir_Makes V_ir_Makes)
theorem cTLawc14_good : Av.Good cTLawc14 := cTLawc13_good.fnP S_ir_Makes T_ir_Makes G_ir_Makes V_ir_Makes 2 8 (by kernel_rfl) (fun x => by kernel_rfl) ok_ir_Makes
noncomputable def cTLawc15 : Ctx := cTLawc14.addPlain 69 (plainT A_ir_Uses G_ir_Uses S_ir_Uses V_ir_Uses)
theorem cTLawc15_good : Av.Good cTLawc15 := cTLawc14_good.fnP S_ir_Uses T_ir_Uses G_ir_Uses V_ir_Uses 2 8 (by kernel_rfl) (fun x => by kernel_rfl) ok_ir_Uses
noncomputable def cTLawc16 : Ctx := cTLawc15.addPlain 134 (plainT A_hauberkref17_letters G_hauberkref17_letters S_hauberkref17_letters V_hauberkref17_letters)
theorem cTLawc16_good : Av.Good cTLawc16 := cTLawc15_good.fnP S_hauberkref17_letters T_hauberkref17_letters G_hauberkref17_letters V_hauberkref17_letters 2 8 (by kernel_rfl) (fun x => by kernel_rfl) ok_hauberkref17_letters
noncomputable def cTLawc17 : Ctx := cTLawc16.addLoop 135 2 L_hauberkref17_has_2.toT.toLoop
theorem cTLawc17_good : Av.Good cTLawc17 := cTLawc16_good.loopN L_hauberkref17_has_2 2 8 (by kernel_rfl) (fun _ _ => rfl) (fun x y s m K => by kernel_rfl) (fun x y s s' K e => by kernel_rfl)
noncomputable def cTLawc18 : Ctx := cTLawc17.addPlain 135 (plainT A_hauberkref17_has G_hauberkref17_has S_hauberkref17_has V_hauberkref17_has)
theorem cTLawc18_good : Av.Good cTLawc18 := cTLawc17_good.fnP S_hauberkref17_has T_hauberkref17_has G_hauberkref17_has V_hauberkref17_has 2 8 (by kernel_rfl) (fun x => by kernel_rfl) ok_hauberkref17_has
noncomputable def cTLawc19 : Ctx := cTLawc18.addPlain 77 (plainT A_hauberkref17_Uses G_hauberkref17_Uses S_hauberkref17_Uses V_hauberkref17_Uses)
theorem cTLawc19_good : Av.Good cTLawc19 := cTLawc18_good.fnP S_hauberkref17_Uses T_hauberkref17_Uses G_hauberkref17_Uses V_hauberkref17_Uses 2 8 (by kernel_rfl) (fun x => by kernel_rfl) ok_hauberkref17_Uses
noncomputable def cTLawc20 : Ctx := cTLawc19.addPlain 84 (plainT A_hauberkref17_Makes G_hauberkref17_Makes S_hauberkref17_Makes V_hauberkref17_Makes)
theorem cTLawc20_good : Av.Good cTLawc20 := cTLawc19_good.fnP S_hauberkref17_Makes T_hauberkref17_Makes G_hauberkref17_Makes V_hauberkref17_Makes 2 8 (by kernel_rfl) (fun x => by kernel_rfl) ok_hauberkref17_Makes
noncomputable def cTLawc21 : Ctx := cTLawc20.addPlain 75 (plainT A_tmpl_Put G_tmpl_Put S_tmpl_Put V_tmpl_Put)
theorem cTLawc21_good : Av.Good cTLawc21 := cTLawc20_good.fnP S_tmpl_Put T_tmpl_Put G_tmpl_Put V_tmpl_Put 3 8 (by kernel_rfl) (fun x => by kernel_rfl) ok_tmpl_Put
noncomputable def cTLawc22 : Ctx := cTLawc21.addPlain 121 (plainT A_tmpl_temp G_tmpl_temp S_tmpl_temp V_tmpl_temp)
theorem cTLawc22_good : Av.Good cTLawc22 := cTLawc21_good.fnP S_tmpl_temp T_tmpl_temp G_tmpl_temp V_tmpl_temp 2 8 (by kernel_rfl) (fun x => by kernel_rfl) ok_tmpl_temp
noncomputable def cTLawc23 : Ctx := cTLawc22.addPlain 122 (plainT A_tmpl_spot G_tmpl_spot S_tmpl_spot V_tmpl_spot)
theorem cTLawc23_good : Av.Good cTLawc23 := cTLawc22_good.fnP S_tmpl_spot T_tmpl_spot G_tmpl_spot V_tmpl_spot 2 8 (by kernel_rfl) (fun x => by kernel_rfl) ok_tmpl_spot
noncomputable def cTLawc24 : Ctx := cTLawc23.addPlain 133 (plainT A_tmpl_pairs G_tmpl_pairs S_tmpl_pairs V_tmpl_pairs)
theorem cTLawc24_good : Av.Good cTLawc24 := cTLawc23_good.fnP S_tmpl_pairs T_tmpl_pairs G_tmpl_pairs V_tmpl_pairs 2 20 (by kernel_rfl) (fun x => by kernel_rfl) ok_tmpl_pairs
noncomputable def cTLawc25 : Ctx := cTLawc24.addPlain 131 (plainT A_tmpl_three G_tmpl_three S_tmpl_three V_tmpl_three)
theorem cTLawc25_good : Av.Good cTLawc25 := cTLawc24_good.fnP S_tmpl_three T_tmpl_three G_tmpl_three V_tmpl_three 2 8 (by kernel_rfl) (fun x => by kernel_rfl) ok_tmpl_three
noncomputable def cTLawc26 : Ctx := cTLawc25.addPlain 127 (plainT A_tmpl_shift G_tmpl_shift S_tmpl_shift V_tmpl_shift)
theorem cTLawc26_good : Av.Good cTLawc26 := cTLawc25_good.fnP S_tmpl_shift T_tmpl_shift G_tmpl_shift V_tmpl_shift 2 8 (by kernel_rfl) (fun x => by kernel_rfl) ok_tmpl_shift
noncomputable def cTLawc27 : Ctx := cTLawc26.addPlain 132 (plainT A_tmpl_array G_tmpl_array S_tmpl_array V_tmpl_array)
theorem cTLawc27_good : Av.Good cTLawc27 := cTLawc26_good.fnP S_tmpl_array T_tmpl_array G_tmpl_array V_tmpl_array 2 12 (by kernel_rfl) (fun x => by kernel_rfl) ok_tmpl_array
noncomputable def cTLawc28 : Ctx := cTLawc27.addPlain 73 (plainT A_tmpl_inner G_tmpl_inner S_tmpl_inner V_tmpl_inner)
theorem cTLawc28_good : Av.Good cTLawc28 := cTLawc27_good.fnP S_tmpl_inner T_tmpl_inner G_tmpl_inner V_tmpl_inner 3 24 (by kernel_rfl) (fun x => by kernel_rfl) ok_tmpl_inner
noncomputable def cTLawc29 : Ctx := cTLawc28.addPlain 161 (plainT A_hauberkref27_op G_hauberkref27_op S_hauberkref27_op V_hauberkref27_op)
theorem cTLawc29_good : Av.Good cTLawc29 := cTLawc28_good.fnP S_hauberkref27_op T_hauberkref27_op G_hauberkref27_op V_hauberkref27_op 2 16 (by kernel_rfl) (fun x => by kernel_rfl) ok_hauberkref27_op
noncomputable def cTLawc30 : Ctx := cTLawc29.addLoop 138 7 L_hauberkref27_one_7.toT.toLoop
theorem cTLawc30_good : Av.Good cTLawc30 := cTLawc29_good.loopN L_hauberkref27_one_7 2 8 (by kernel_rfl) (fun _ _ => rfl) (fun x y s m K => by kernel_rfl) (fun x y s s' K e => by kernel_rfl)
noncomputable def cTLawc31 : Ctx := cTLawc30.addLoop 138 3 L_hauberkref27_one_3.toT.toLoop
theorem cTLawc31_good : Av.Good cTLawc31 := cTLawc30_good.loopN L_hauberkref27_one_3 2 8 (by kernel_rfl) (fun _ _ => rfl) (fun x y s m K => by kernel_rfl) (fun x y s s' K e => by kernel_rfl)
noncomputable def cTLawc32 : Ctx := cTLawc31.addPlain 138 (plainT A_hauberkref27_one G_hauberkref27_one S_hauberkref27_one V_hauberkref27_one)
theorem cTLawc32_good : Av.Good cTLawc32 := cTLawc31_good.fnP S_hauberkref27_one T_hauberkref27_one G_hauberkref27_one V_hauberkref27_one 2 8 (by kernel_rfl) (fun x => by kernel_rfl) ok_hauberkref27_one
noncomputable def cTLawc33 : Ctx := cTLawc32.addLoop 82 5 L_hauberkref27_read_5.toT.toLoop
theorem cTLawc33_good : Av.Good cTLawc33 := cTLawc32_good.loopN L_hauberkref27_read_5 2 8 (by kernel_rfl) (fun _ _ => rfl) (fun x y s m K => by kernel_rfl) (fun x y s s' K e => by kernel_rfl)
noncomputable def cTLawc34 : Ctx := cTLawc33.addPlain 82 (plainT A_hauberkref27_read G_hauberkref27_read S_hauberkref27_read V_hauberkref27_read)
theorem cTLawc34_good : Av.Good cTLawc34 := cTLawc33_good.fnP S_hauberkref27_read T_hauberkref27_read G_hauberkref27_read V_hauberkref27_read 2 8 (by kernel_rfl) (fun x => by kernel_rfl) ok_hauberkref27_read
noncomputable def cTLawc35 : Ctx := cTLawc34.addLoop 68 2 L_tmpl_may_2.toT.toLoop
theorem cTLawc35_good : Av.Good cTLawc35 := cTLawc34_good.loopN L_tmpl_may_2 2 8 (by kernel_rfl) (fun _ _ => rfl) (fun x y s m K => by kernel_rfl) (fun x y s s' K e => by kernel_rfl)
noncomputable def cTLawc36 : Ctx := cTLawc35.addPlain 68 (plainT A_tmpl_may G_tmpl_may S_tmpl_may V_tmpl_may)
theorem cTLawc36_good : Av.Good cTLawc36 := cTLawc35_good.fnP S_tmpl_may T_tmpl_may G_tmpl_may V_tmpl_may 2 12 (by kernel_rfl) (fun x => by kernel_rfl) ok_tmpl_may
noncomputable def cTLawc37 : Ctx := cTLawc36.addPlain 83 (plainT A_hauberkref27_lines G_hauberkref27_lines S_hauberkref27_lines V_hauberkref27_lines)
theorem cTLawc37_good : Av.Good cTLawc37 := cTLawc36_good.fnP S_hauberkref27_lines T_hauberkref27_lines G_hauberkref27_lines V_hauberkref27_lines 2 8 (by kernel_rfl) (fun x => by kernel_rfl) ok_hauberkref27_lines
noncomputable def cTLawc38 : Ctx := cTLawc37.addPlain 80 (plainT A_hauberkref27_Word G_hauberkref27_Word S_hauberkref27_Word V_hauberkref27_Word)
theorem cTLawc38_good : Av.Good cTLawc38 := cTLawc37_good.fnP S_hauberkref27_Word T_hauberkref27_Word G_hauberkref27_Word V_hauberkref27_Word 2 8 (by kernel_rfl) (fun x => by kernel_rfl) ok_hauberkref27_Word
noncomputable def cTLawc39 : Ctx := cTLawc38.addPlain 136 (plainT A_hauberkref27_moved G_hauberkref27_moved S_hauberkref27_moved V_hauberkref27_moved)
theorem cTLawc39_good : Av.Good cTLawc39 := cTLawc38_good.fnP S_hauberkref27_moved T_hauberkref27_moved G_hauberkref27_moved V_hauberkref27_moved 2 8 (by kernel_rfl) (fun x => by kernel_rfl) ok_hauberkref27_moved
noncomputable def cTLawc40 : Ctx := cTLawc39.addPlain 85 (plainT A_hauberkref27_Put G_hauberkref27_Put S_hauberkref27_Put V_hauberkref27_Put)
theorem cTLawc40_good : Av.Good cTLawc40 := cTLawc39_good.fnP S_hauberkref27_Put T_hauberkref27_Put G_hauberkref27_Put V_hauberkref27_Put 2 8 (by kernel_rfl) (fun x => by kernel_rfl) ok_hauberkref27_Put
noncomputable def cTLawc41 : Ctx := cTLawc40.addPlain 81 (plainT A_hauberkref27_element G_hauberkref27_element S_hauberkref27_element V_hauberkref27_element)
theorem cTLawc41_good : Av.Good cTLawc41 := cTLawc40_good.fnP S_hauberkref27_element T_hauberkref27_element G_hauberkref27_element V_hauberkref27_element 2 12 (by kernel_rfl) (fun x => by kernel_rfl) ok_hauberkref27_element
noncomputable def cTLawc42 : Ctx := cTLawc41.addLoop 76 7 L_hauberkref27_May_7.toT.toLoop
theorem cTLawc42_good : Av.Good cTLawc42 := cTLawc41_good.loopN L_hauberkref27_May_7 2 8 (by kernel_rfl) (fun _ _ => rfl) (fun x y s m K => by kernel_rfl) (fun x y s s' K e => by kernel_rfl)
noncomputable def cTLawc43 : Ctx := cTLawc42.addPlain 76 (plainT A_hauberkref27_May G_hauberkref27_May S_hauberkref27_May V_hauberkref27_May)
theorem cTLawc43_good : Av.Good cTLawc43 := cTLawc42_good.fnP S_hauberkref27_May T_hauberkref27_May G_hauberkref27_May V_hauberkref27_May 2 8 (by kernel_rfl) (fun x => by kernel_rfl) ok_hauberkref27_May
noncomputable def cTLawc44 : Ctx := cTLawc43.addLoop 34 5 L_tmpl_Op_5.toT.toLoop
theorem cTLawc44_good : Av.Good cTLawc44 := cTLawc43_good.loopN L_tmpl_Op_5 2 8 (by kernel_rfl) (fun _ _ => rfl) (fun x y s m K => by kernel_rfl) (fun x y s s' K e => by kernel_rfl)
noncomputable def cTLawc45 : Ctx := cTLawc44.addPlain 34 (plainT A_tmpl_Op G_tmpl_Op S_tmpl_Op V_tmpl_Op)
theorem cTLawc45_good : Av.Good cTLawc45 := cTLawc44_good.fnP S_tmpl_Op T_tmpl_Op G_tmpl_Op V_tmpl_Op 4 12 (by kernel_rfl) (fun x => by kernel_rfl) ok_tmpl_Op
noncomputable def cTLawc46 : Ctx := cTLawc45.addLoop 35 6 L_hauberkref27_Op_6.toT.toLoop
theorem cTLawc46_good : Av.Good cTLawc46 := cTLawc45_good.loopN L_hauberkref27_Op_6 2 8 (by kernel_rfl) (fun _ _ => rfl) (fun x y s m K => by kernel_rfl) (fun x y s s' K e => by kernel_rfl)
noncomputable def cTLawc47 : Ctx := cTLawc46.addPlain 35 (plainT A_hauberkref27_Op G_hauberkref27_Op S_hauberkref27_Op V_hauberkref27_Op)
theorem cTLawc47_good : Av.Good cTLawc47 := cTLawc46_good.fnP S_hauberkref27_Op T_hauberkref27_Op G_hauberkref27_Op V_hauberkref27_Op 3 12 (by kernel_rfl) (fun x => by kernel_rfl) ok_hauberkref27_Op
noncomputable def cTLawc48 : Ctx := cTLawc47.addLoop 86 3 L_rail_items_3.toT.toLoop
theorem cTLawc48_good : Av.Good cTLawc48 := cTLawc47_good.loopN L_rail_items_3 2 8 (by kernel_rfl) (fun _ _ => rfl) (fun x y s m K => by kernel_rfl) (fun x y s s' K e => by kernel_rfl)
noncomputable def cTLawc49 : Ctx := cTLawc48.addPlain 86 (plainT A_rail_items G_rail_items S_rail_items V_rail_items)
theorem cTLawc49_good : Av.Good cTLawc49 := cTLawc48_good.fnP S_rail_items T_rail_items G_rail_items V_rail_items 2 8 (by kernel_rfl) (fun x => by kernel_rfl) ok_rail_items
noncomputable def cTLawc50 : Ctx := cTLawc49.addPlain 38 (plainT A_rail_Op G_rail_Op S_rail_Op V_rail_Op)
theorem cTLawc50_good : Av.Good cTLawc50 := cTLawc49_good.fnP S_rail_Op T_rail_Op G_rail_Op V_rail_Op 3 8 (by kernel_rfl) (fun x => by kernel_rfl) ok_rail_Op
noncomputable def cTLawc51 : Ctx := cTLawc50.addPlain 37 (plainT A_hauberklaw27_lives G_hauberklaw27_lives S_hauberklaw27_lives V_hauberklaw27_lives)
theorem cTLawc51_good : Av.Good cTLawc51 := cTLawc50_good.fnP S_hauberklaw27_lives T_hauberklaw27_lives G_hauberklaw27_lives V_hauberklaw27_lives 3 8 (by kernel_rfl) (fun x => by kernel_rfl) ok_hauberklaw27_lives
noncomputable def cTLawc52 : Ctx := cTLawc51.addLoop 87 1 L_hauberkref29_Out_Ins_1.toT.toLoop
theorem cTLawc52_good : Av.Good cTLawc52 := cTLawc51_good.loopN L_hauberkref29_Out_Ins_1 2 8 (by kernel_rfl) (fun _ _ => rfl) (fun x y s m K => by kernel_rfl) (fun x y s s' K e => by kernel_rfl)
noncomputable def cTLawc53 : Ctx := cTLawc52.addPlain 39 (plainT A_hauberkref29_Op G_hauberkref29_Op S_hauberkref29_Op V_hauberkref29_Op)
theorem cTLawc53_good : Av.Good cTLawc53 := cTLawc52_good.fnP S_hauberkref29_Op T_hauberkref29_Op G_hauberkref29_Op V_hauberkref29_Op 3 8 (by kernel_rfl) (fun x => by kernel_rfl) ok_hauberkref29_Op
noncomputable def cTLawc54 : Ctx := cTLawc53.addPlain 41 (plainT A_hauberklaw29_lives G_hauberklaw29_lives S_hauberklaw29_lives V_hauberklaw29_lives)
theorem cTLawc54_good : Av.Good cTLawc54 := cTLawc53_good.fnP S_hauberklaw29_lives T_hauberklaw29_lives G_hauberklaw29_lives V_hauberklaw29_lives 8 12 (by kernel_rfl) (fun x => by kernel_rfl) ok_hauberklaw29_lives
noncomputable def cTLawc : Ctx := cTLawc54
theorem cTLawc_good : Av.Good cTLawc := cTLawc54_good
end Go.Proofs.Ytapfijocjgoilaa
