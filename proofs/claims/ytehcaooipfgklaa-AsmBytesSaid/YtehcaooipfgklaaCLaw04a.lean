/- The functions that the statements reach, walked: chain Law04a. Written by wip/tools/gen.py out of wip/conf/Law04a.txt. -/
import Derived.Test.YtehcaooipfgklaaPThumb
import Derived.Test.YtehcaooipfgklaaPRef02
import Derived.Test.YtehcaooipfgklaaPRef02Law
import Derived.Test.YtehcaooipfgklaaPEnc
import Derived.Test.YtehcaooipfgklaaPEncLaw
import Derived.Test.YtehcaooipfgklaaPEncS
import Derived.Test.YtehcaooipfgklaaPRefSize
import Derived.Test.YtehcaooipfgklaaPEncB
import Derived.Test.YtehcaooipfgklaaPRefEnc
import Derived.Test.YtehcaooipfgklaaPRefEnc2
import Derived.Test.YtehcaooipfgklaaPRefEncLaw
import Derived.Test.YtehcaooipfgklaaPFldBits
import Derived.Test.YtehcaooipfgklaaPCheckB
import Derived.Test.YtehcaooipfgklaaPEncSame
import Derived.Test.YtehcaooipfgklaaPEncEq
import Derived.Test.YtehcaooipfgklaaPAsm
import Derived.Test.YtehcaooipfgklaaPRefAsm
import Derived.Test.YtehcaooipfgklaaPAsmOff
import Derived.Test.YtehcaooipfgklaaPAsmBld
import Derived.Test.YtehcaooipfgklaaPAsmB
import Derived.Test.YtehcaooipfgklaaPLaw04a
import Derived.Test.YtehcaooipfgklaaAsmBuilder
import Derived.Test.YtehcaooipfgklaaAsmOffset
import Derived.Test.YtehcaooipfgklaaProg
namespace Go.Proofs.Ytehcaooipfgklaa
open Go Go.Av Go.Proofs
noncomputable def cLaw04a0 : Ctx := baseC Try.prog [39, 41, 43]
theorem cLaw04a0_good : Av.Good cLaw04a0 := good_base (by kernel_rfl) (by kernel_rfl) (by kernel_rfl)
noncomputable def cLaw04a1 : Ctx := cLaw04a0.addPlain 46 (plainT A_thumb_within G_thumb_within S_thumb_within V_thumb_within)
theorem cLaw04a1_good : Av.Good cLaw04a1 := cLaw04a0_good.fnP S_thumb_within T_thumb_within G_thumb_within V_thumb_within 2 8 (by kernel_rfl) (fun x => by kernel_rfl) ok_thumb_within
noncomputable def cLaw04a2 : Ctx := cLaw04a1.addPlain 47 (plainT A_thumb_field G_thumb_field S_thumb_field V_thumb_field)
theorem cLaw04a2_good : Av.Good cLaw04a2 := cLaw04a1_good.fnP S_thumb_field T_thumb_field G_thumb_field V_thumb_field 2 8 (by kernel_rfl) (fun x => by kernel_rfl) ok_thumb_field
noncomputable def cLaw04a3 : Ctx := cLaw04a2.addPlain 45 (plainT A_thumb_formOf G_thumb_formOf S_thumb_formOf V_thumb_formOf)
theorem cLaw04a3_good : Av.Good cLaw04a3 := cLaw04a2_good.fnP S_thumb_formOf T_thumb_formOf G_thumb_formOf V_thumb_formOf 2 8 (by kernel_rfl) (fun x => by kernel_rfl) ok_thumb_formOf
noncomputable def cLaw04a4 : Ctx := cLaw04a3.addPlain 14 (plainT A_thumb_Reach G_thumb_Reach S_thumb_Reach V_thumb_Reach)
theorem cLaw04a4_good : Av.Good cLaw04a4 := cLaw04a3_good.fnP S_thumb_Reach T_thumb_Reach G_thumb_Reach V_thumb_Reach 3 8 (by kernel_rfl) (fun x => by kernel_rfl) ok_thumb_Reach
noncomputable def cLaw04a5 : Ctx := cLaw04a4.addPlain 44 (plainT A_thumb_branch G_thumb_branch S_thumb_branch V_thumb_branch)
theorem cLaw04a5_good : Av.Good cLaw04a5 := cLaw04a4_good.fnP S_thumb_branch T_thumb_branch G_thumb_branch V_thumb_branch 3 8 (by kernel_rfl) (fun x => by kernel_rfl) ok_thumb_branch
noncomputable def cLaw04a6 : Ctx := cLaw04a5.addPlain 27 (plainT A_thumb_Check G_thumb_Check S_thumb_Check V_thumb_Check)
theorem cLaw04a6_good : Av.Good cLaw04a6 := cLaw04a5_good.fnP S_thumb_Check T_thumb_Check G_thumb_Check V_thumb_Check 3 8 (by kernel_rfl) (fun x => by kernel_rfl) ok_thumb_Check
noncomputable def cLaw04a7 : Ctx := cLaw04a6.addPlain 56 (plainT A_hauberkref02_more G_hauberkref02_more S_hauberkref02_more V_hauberkref02_more)
theorem cLaw04a7_good : Av.Good cLaw04a7 := cLaw04a6_good.fnP S_hauberkref02_more T_hauberkref02_more G_hauberkref02_more V_hauberkref02_more 2 8 (by kernel_rfl) (fun x => by kernel_rfl) ok_hauberkref02_more
noncomputable def cLaw04a8 : Ctx := cLaw04a7.addPlain 40 (plainT A_hauberkref02_Bits G_hauberkref02_Bits S_hauberkref02_Bits V_hauberkref02_Bits)
theorem cLaw04a8_good : Av.Good cLaw04a8 := cLaw04a7_good.fnP S_hauberkref02_Bits T_hauberkref02_Bits G_hauberkref02_Bits V_hauberkref02_Bits 2 8 (by kernel_rfl) (fun x => by kernel_rfl) ok_hauberkref02_Bits
noncomputable def cLaw04a9 : Ctx := cLaw04a8.addLoop 66 2 L_hauberkref02_has_2.toT.toLoop
theorem cLaw04a9_good : Av.Good cLaw04a9 := cLaw04a8_good.loopN L_hauberkref02_has_2 2 8 (by kernel_rfl) (fun _ _ => rfl) (fun x y s m K => by kernel_rfl) (fun x y s s' K e => by kernel_rfl)
noncomputable def cLaw04a10 : Ctx := cLaw04a9.addPlain 66 (plainT A_hauberkref02_has G_hauberkref02_has S_hauberkref02_has V_hauberkref02_has)
theorem cLaw04a10_good : Av.Good cLaw04a10 := cLaw04a9_good.fnP S_hauberkref02_has T_hauberkref02_has G_hauberkref02_has V_hauberkref02_has 2 8 (by kernel_rfl) (fun x => by kernel_rfl) ok_hauberkref02_has
noncomputable def cLaw04a11 : Ctx := cLaw04a10.addPlain 54 (plainT A_hauberkref02_reg G_hauberkref02_reg S_hauberkref02_reg V_hauberkref02_reg)
theorem cLaw04a11_good : Av.Good cLaw04a11 := cLaw04a10_good.fnP S_hauberkref02_reg T_hauberkref02_reg G_hauberkref02_reg V_hauberkref02_reg 2 8 (by kernel_rfl) (fun x => by kernel_rfl) ok_hauberkref02_reg
noncomputable def cLaw04a12 : Ctx := cLaw04a11.addPlain 39 (plainT A_hauberkref02_Reach G_hauberkref02_Reach S_hauberkref02_Reach V_hauberkref02_Reach)
theorem cLaw04a12_good : Av.Good cLaw04a12 := cLaw04a11_good.fnP S_hauberkref02_Reach T_hauberkref02_Reach G_hauberkref02_Reach V_hauberkref02_Reach 2 8 (by kernel_rfl) (fun x => by kernel_rfl) ok_hauberkref02_Reach
noncomputable def cLaw04a13 : Ctx := cLaw04a12.addPlain 53 (plainT A_hauberkref02_number G_hauberkref02_number S_hauberkref02_number V_hauberkref02_number)
theorem cLaw04a13_good : Av.Good cLaw04a13 := cLaw04a12_good.fnP S_hauberkref02_number T_hauberkref02_number G_hauberkref02_number V_hauberkref02_number 2 8 (by kernel_rfl) (fun x => by kernel_rfl) ok_hauberkref02_number
noncomputable def cLaw04a14 : Ctx := cLaw04a13.addPlain 36 (plainT A_hauberkref02_Check G_hauberkref02_Check S_hauberkref02_Check V_hauberkref02_Check)
theorem cLaw04a14_good : Av.Good cLaw04a14 := cLaw04a13_good.fnP S_hauberkref02_Check T_hauberkref02_Check G_hauberkref02_Check V_hauberkref02_Check 3 8 (by kernel_rfl) (fun x => by kernel_rfl) ok_hauberkref02_Check
noncomputable def cLaw04a15 : Ctx := cLaw04a14.addPlain 62 (plainT A_thumb_put G_thumb_put S_thumb_put V_thumb_put)
theorem cLaw04a15_good : Av.Good cLaw04a15 := cLaw04a14_good.fnP S_thumb_put T_thumb_put G_thumb_put V_thumb_put 2 6 (by kernel_rfl) (fun x => by kernel_rfl) ok_thumb_put
noncomputable def cLaw04a16 : Ctx := cLaw04a15.addPlain 49 (plainT A_thumb_shifted G_thumb_shifted S_thumb_shifted V_thumb_shifted)
theorem cLaw04a16_good : Av.Good cLaw04a16 := cLaw04a15_good.fnP S_thumb_shifted T_thumb_shifted G_thumb_shifted V_thumb_shifted 4 8 (by kernel_rfl) (fun x => by kernel_rfl) ok_thumb_shifted
noncomputable def cLaw04a17 : Ctx := cLaw04a16.addPlain 48 (plainT A_thumb_move G_thumb_move S_thumb_move V_thumb_move)
theorem cLaw04a17_good : Av.Good cLaw04a17 := cLaw04a16_good.fnP S_thumb_move T_thumb_move G_thumb_move V_thumb_move 4 8 (by kernel_rfl) (fun x => by kernel_rfl) ok_thumb_move
noncomputable def cLaw04a18 : Ctx := cLaw04a17.addPlain 63 (plainT A_thumb_short G_thumb_short S_thumb_short V_thumb_short)
theorem cLaw04a18_good : Av.Good cLaw04a18 := cLaw04a17_good.fnP S_thumb_short T_thumb_short G_thumb_short V_thumb_short 4 8 (by kernel_rfl) (fun x => by kernel_rfl) ok_thumb_short
noncomputable def cLaw04a19 : Ctx := cLaw04a18.addPlain 64 (plainT A_thumb_wide G_thumb_wide S_thumb_wide V_thumb_wide)
theorem cLaw04a19_good : Av.Good cLaw04a19 := cLaw04a18_good.fnP S_thumb_wide T_thumb_wide G_thumb_wide V_thumb_wide 4 8 (by kernel_rfl) (fun x => by kernel_rfl) ok_thumb_wide
noncomputable def cLaw04a20 : Ctx := cLaw04a19.addPlain 50 (plainT A_thumb_others G_thumb_others S_thumb_others V_thumb_others)
theorem cLaw04a20_good : Av.Good cLaw04a20 := cLaw04a19_good.fnP S_thumb_others T_thumb_others G_thumb_others V_thumb_others 4 8 (by kernel_rfl) (fun x => by kernel_rfl) ok_thumb_others
noncomputable def cLaw04a21 : Ctx := cLaw04a20.addPlain 28 (plainT A_thumb_bits G_thumb_bits S_thumb_bits V_thumb_bits)
theorem cLaw04a21_good : Av.Good cLaw04a21 := cLaw04a20_good.fnP S_thumb_bits T_thumb_bits G_thumb_bits V_thumb_bits 4 8 (by kernel_rfl) (fun x => by kernel_rfl) ok_thumb_bits
noncomputable def cLaw04a22 : Ctx := cLaw04a21.addPlain 12 (plainT A_thumb_Size G_thumb_Size S_thumb_Size V_thumb_Size)
theorem cLaw04a22_good : Av.Good cLaw04a22 := cLaw04a21_good.fnP S_thumb_Size T_thumb_Size G_thumb_Size V_thumb_Size 4 8 (by kernel_rfl) (fun x => by kernel_rfl) ok_thumb_Size
noncomputable def cLaw04a23 : Ctx := cLaw04a22.addPlain 55 (plainT A_hauberkref02_Size G_hauberkref02_Size S_hauberkref02_Size V_hauberkref02_Size)
theorem cLaw04a23_good : Av.Good cLaw04a23 := cLaw04a22_good.fnP S_hauberkref02_Size T_hauberkref02_Size G_hauberkref02_Size V_hauberkref02_Size 2 8 (by kernel_rfl) (fun x => by kernel_rfl) ok_hauberkref02_Size
noncomputable def cLaw04a24 : Ctx := cLaw04a23.addPlain 33 (plainT A_thumb_half G_thumb_half S_thumb_half V_thumb_half)
theorem cLaw04a24_good : Av.Good cLaw04a24 := cLaw04a23_good.fnP S_thumb_half T_thumb_half G_thumb_half V_thumb_half 2 8 (by kernel_rfl) (fun x => by kernel_rfl) ok_thumb_half
noncomputable def cLaw04a25 : Ctx := cLaw04a24.addPlain 18 (plainT A_thumb_Encode G_thumb_Encode S_thumb_Encode V_thumb_Encode)
theorem cLaw04a25_good : Av.Good cLaw04a25 := cLaw04a24_good.fnP S_thumb_Encode T_thumb_Encode G_thumb_Encode V_thumb_Encode 2 8 (by kernel_rfl) (fun x => by kernel_rfl) ok_thumb_Encode
noncomputable def cLaw04a26 : Ctx := cLaw04a25.addLoop 57 3 L_hauberkref02_bit_3.toT.toLoop
theorem cLaw04a26_good : Av.Good cLaw04a26 := cLaw04a25_good.loopN L_hauberkref02_bit_3 2 8 (by kernel_rfl) (fun _ _ => rfl) (fun x y s m K => by kernel_rfl) (fun x y s s' K e => by kernel_rfl)
noncomputable def cLaw04a27 : Ctx := cLaw04a26.addPlain 57 (plainT A_hauberkref02_bit G_hauberkref02_bit S_hauberkref02_bit V_hauberkref02_bit)
theorem cLaw04a27_good : Av.Good cLaw04a27 := cLaw04a26_good.fnP S_hauberkref02_bit T_hauberkref02_bit G_hauberkref02_bit V_hauberkref02_bit 2 8 (by kernel_rfl) (fun x => by kernel_rfl) ok_hauberkref02_bit
noncomputable def cLaw04a28 : Ctx := cLaw04a27.addPlain 41 (plainT A_hauberkref02_field G_hauberkref02_field S_hauberkref02_field V_hauberkref02_field)
theorem cLaw04a28_good : Av.Good cLaw04a28 := cLaw04a27_good.fnP S_hauberkref02_field T_hauberkref02_field G_hauberkref02_field V_hauberkref02_field 2 8 (by kernel_rfl) (fun x => by kernel_rfl) ok_hauberkref02_field
noncomputable def cLaw04a29 : Ctx := cLaw04a28.addLoop 24 14 L_hauberkref02_Encode_14.toT.toLoop
theorem cLaw04a29_good : Av.Good cLaw04a29 := cLaw04a28_good.loopN L_hauberkref02_Encode_14 2 8 (by kernel_rfl) (fun _ _ => rfl) (fun x y s m K => by kernel_rfl) (fun x y s s' K e => by kernel_rfl)
noncomputable def cLaw04a30 : Ctx := cLaw04a29.addLoop 24 11 L_hauberkref02_Encode_11.toT.toLoop
theorem cLaw04a30_good : Av.Good cLaw04a30 := cLaw04a29_good.loopN L_hauberkref02_Encode_11 2 8 (by kernel_rfl) (fun _ _ => rfl) (fun x y s m K => by kernel_rfl) (fun x y s s' K e => by kernel_rfl)
noncomputable def cLaw04a31 : Ctx := cLaw04a30.addLoop 24 7 L_hauberkref02_Encode_7.toT.toLoop
theorem cLaw04a31_good : Av.Good cLaw04a31 := cLaw04a30_good.loopN L_hauberkref02_Encode_7 2 8 (by kernel_rfl) (fun _ _ => rfl) (fun x y s m K => by kernel_rfl) (fun x y s s' K e => by kernel_rfl)
noncomputable def cLaw04a32 : Ctx := cLaw04a31.addPlain 24 (plainT A_hauberkref02_Encode G_hauberkref02_Encode S_hauberkref02_Encode V_hauberkref02_Encode)
theorem cLaw04a32_good : Av.Good cLaw04a32 := cLaw04a31_good.fnP S_hauberkref02_Encode T_hauberkref02_Encode G_hauberkref02_Encode V_hauberkref02_Encode 2 8 (by kernel_rfl) (fun x => by kernel_rfl) ok_hauberkref02_Encode
noncomputable def cLaw04a33 : Ctx := cLaw04a32.addPlain 29 (plainT A_asm_isWide G_asm_isWide S_asm_isWide V_asm_isWide)
theorem cLaw04a33_good : Av.Good cLaw04a33 := cLaw04a32_good.fnP S_asm_isWide T_asm_isWide G_asm_isWide V_asm_isWide 2 8 (by kernel_rfl) (fun x => by kernel_rfl) ok_asm_isWide
noncomputable def cLaw04a34 : Ctx := cLaw04a33.addPlain 65 (plainT A_asm_branch G_asm_branch S_asm_branch V_asm_branch)
theorem cLaw04a34_good : Av.Good cLaw04a34 := cLaw04a33_good.fnP S_asm_branch T_asm_branch G_asm_branch V_asm_branch 2 8 (by kernel_rfl) (fun x => by kernel_rfl) ok_asm_branch
noncomputable def cLaw04a35 : Ctx := cLaw04a34.addPlain 51 (plainT A_asm_item G_asm_item S_asm_item V_asm_item)
theorem cLaw04a35_good : Av.Good cLaw04a35 := cLaw04a34_good.fnP S_asm_item T_asm_item G_asm_item V_asm_item 2 8 (by kernel_rfl) (fun x => by kernel_rfl) ok_asm_item
noncomputable def cLaw04a36 : Ctx := cLaw04a35.addLoop 13 3 L_asm_Lay_3.toT.toLoop
theorem cLaw04a36_good : Av.Good cLaw04a36 := cLaw04a35_good.loopN L_asm_Lay_3 2 8 (by kernel_rfl) (fun _ _ => rfl) (fun x y s m K => by kernel_rfl) (fun x y s s' K e => by kernel_rfl)
noncomputable def cLaw04a37 : Ctx := cLaw04a36.addPlain 13 (plainT A_asm_Lay G_asm_Lay S_asm_Lay V_asm_Lay)
theorem cLaw04a37_good : Av.Good cLaw04a37 := cLaw04a36_good.fnP S_asm_Lay T_asm_Lay G_asm_Lay V_asm_Lay 2 8 (by kernel_rfl) (fun x => by kernel_rfl) ok_asm_Lay
noncomputable def cLaw04a38 : Ctx := cLaw04a37.addLoop 32 3 L_asm_assembler_great_3.toT.toLoop
theorem cLaw04a38_good : Av.Good cLaw04a38 := cLaw04a37_good.loopN L_asm_assembler_great_3 2 8 (by kernel_rfl) (fun _ _ => rfl) (fun x y s m K => by kernel_rfl) (fun x y s s' K e => by kernel_rfl)
noncomputable def cLaw04a39 : Ctx := cLaw04a38.addLoop 30 2 L_asm_assembler_items_2.toT.toLoop
theorem cLaw04a39_good : Av.Good cLaw04a39 := cLaw04a38_good.loopN L_asm_assembler_items_2 2 8 (by kernel_rfl) (fun _ _ => rfl) (fun x y s m K => by kernel_rfl) (fun x y s s' K e => by kernel_rfl)
noncomputable def cLaw04a40 : Ctx := cLaw04a39.addLoop 30 8 L_asm_assembler_items_8.toT.toLoop
theorem cLaw04a40_good : Av.Good cLaw04a40 := cLaw04a39_good.loopN L_asm_assembler_items_8 2 8 (by kernel_rfl) (fun _ _ => rfl) (fun x y s m K => by kernel_rfl) (fun x y s s' K e => by kernel_rfl)
noncomputable def cLaw04a41 : Ctx := cLaw04a40.addLoop 31 2 L_asm_assembler_names_2.toT.toLoop
theorem cLaw04a41_good : Av.Good cLaw04a41 := cLaw04a40_good.loopN L_asm_assembler_names_2 2 8 (by kernel_rfl) (fun _ _ => rfl) (fun x y s m K => by kernel_rfl) (fun x y s s' K e => by kernel_rfl)
noncomputable def cLaw04a42 : Ctx := cLaw04a41.addLoop 31 11 L_asm_assembler_names_11.toT.toLoop
theorem cLaw04a42_good : Av.Good cLaw04a42 := cLaw04a41_good.loopN L_asm_assembler_names_11 2 8 (by kernel_rfl) (fun _ _ => rfl) (fun x y s m K => by kernel_rfl) (fun x y s s' K e => by kernel_rfl)
noncomputable def cLaw04a43 : Ctx := cLaw04a42.addPlain 38 (plainT A_hauberkref04_size G_hauberkref04_size S_hauberkref04_size V_hauberkref04_size)
theorem cLaw04a43_good : Av.Good cLaw04a43 := cLaw04a42_good.fnP S_hauberkref04_size T_hauberkref04_size G_hauberkref04_size V_hauberkref04_size 2 8 (by kernel_rfl) (fun x => by kernel_rfl) ok_hauberkref04_size
noncomputable def cLaw04a44 : Ctx := cLaw04a43.addLoop 23 4 L_hauberkref04_Lay_4.toT.toLoop
theorem cLaw04a44_good : Av.Good cLaw04a44 := cLaw04a43_good.loopN L_hauberkref04_Lay_4 2 8 (by kernel_rfl) (fun _ _ => rfl) (fun x y s m K => by kernel_rfl) (fun x y s s' K e => by kernel_rfl)
noncomputable def cLaw04a45 : Ctx := cLaw04a44.addPlain 23 (plainT A_hauberkref04_Lay G_hauberkref04_Lay S_hauberkref04_Lay V_hauberkref04_Lay)
theorem cLaw04a45_good : Av.Good cLaw04a45 := cLaw04a44_good.fnP S_hauberkref04_Lay T_hauberkref04_Lay G_hauberkref04_Lay V_hauberkref04_Lay 2 8 (by kernel_rfl) (fun x => by kernel_rfl) ok_hauberkref04_Lay
noncomputable def cLaw04a46 : Ctx := cLaw04a45.addLoop 37 2 L_hauberkref04_find_2.toT.toLoop
theorem cLaw04a46_good : Av.Good cLaw04a46 := cLaw04a45_good.loopN L_hauberkref04_find_2 2 8 (by kernel_rfl) (fun _ _ => rfl) (fun x y s m K => by kernel_rfl) (fun x y s s' K e => by kernel_rfl)
noncomputable def cLaw04a47 : Ctx := cLaw04a46.addPlain 37 (plainT A_hauberkref04_find G_hauberkref04_find S_hauberkref04_find V_hauberkref04_find)
theorem cLaw04a47_good : Av.Good cLaw04a47 := cLaw04a46_good.fnP S_hauberkref04_find T_hauberkref04_find G_hauberkref04_find V_hauberkref04_find 2 8 (by kernel_rfl) (fun x => by kernel_rfl) ok_hauberkref04_find
noncomputable def cLaw04a48 : Ctx := cLaw04a47.addPlain 35 (plainT A_hauberkref04_may G_hauberkref04_may S_hauberkref04_may V_hauberkref04_may)
theorem cLaw04a48_good : Av.Good cLaw04a48 := cLaw04a47_good.fnP S_hauberkref04_may T_hauberkref04_may G_hauberkref04_may V_hauberkref04_may 2 8 (by kernel_rfl) (fun x => by kernel_rfl) ok_hauberkref04_may
noncomputable def cLaw04a49 : Ctx := cLaw04a48.addPlain 25 (plainT A_hauberkref04_offset G_hauberkref04_offset S_hauberkref04_offset V_hauberkref04_offset)
theorem cLaw04a49_good : Av.Good cLaw04a49 := cLaw04a48_good.fnP S_hauberkref04_offset T_hauberkref04_offset G_hauberkref04_offset V_hauberkref04_offset 2 8 (by kernel_rfl) (fun x => by kernel_rfl) ok_hauberkref04_offset
noncomputable def cLaw04a50 : Ctx := cLaw04a49.addLoop 21 4 L_hauberkref04_wrong_4.toT.toLoop
theorem cLaw04a50_good : Av.Good cLaw04a50 := cLaw04a49_good.loopN L_hauberkref04_wrong_4 2 8 (by kernel_rfl) (fun _ _ => rfl) (fun x y s m K => by kernel_rfl) (fun x y s s' K e => by kernel_rfl)
noncomputable def cLaw04a51 : Ctx := cLaw04a50.addLoop 21 9 L_hauberkref04_wrong_9.toT.toLoop
theorem cLaw04a51_good : Av.Good cLaw04a51 := cLaw04a50_good.loopN L_hauberkref04_wrong_9 2 8 (by kernel_rfl) (fun _ _ => rfl) (fun x y s m K => by kernel_rfl) (fun x y s s' K e => by kernel_rfl)
noncomputable def cLaw04a52 : Ctx := cLaw04a51.addLoop 21 14 L_hauberkref04_wrong_14.toT.toLoop
theorem cLaw04a52_good : Av.Good cLaw04a52 := cLaw04a51_good.loopN L_hauberkref04_wrong_14 2 8 (by kernel_rfl) (fun _ _ => rfl) (fun x y s m K => by kernel_rfl) (fun x y s s' K e => by kernel_rfl)
noncomputable def cLaw04a53 : Ctx := cLaw04a52.addLoop 21 20 L_hauberkref04_wrong_20.toT.toLoop
theorem cLaw04a53_good : Av.Good cLaw04a53 := cLaw04a52_good.loopN L_hauberkref04_wrong_20 2 8 (by kernel_rfl) (fun _ _ => rfl) (fun x y s m K => by kernel_rfl) (fun x y s s' K e => by kernel_rfl)
noncomputable def cLaw04a54 : Ctx := cLaw04a53.addPlain 21 (plainT A_hauberkref04_wrong G_hauberkref04_wrong S_hauberkref04_wrong V_hauberkref04_wrong)
theorem cLaw04a54_good : Av.Good cLaw04a54 := cLaw04a53_good.fnP S_hauberkref04_wrong T_hauberkref04_wrong G_hauberkref04_wrong V_hauberkref04_wrong 2 8 (by kernel_rfl) (fun x => by kernel_rfl) ok_hauberkref04_wrong
noncomputable def cLaw04a55 : Ctx := cLaw04a54.addLoop 22 7 L_hauberkref04_Wide_7.toT.toLoop
theorem cLaw04a55_good : Av.Good cLaw04a55 := cLaw04a54_good.loopN L_hauberkref04_Wide_7 2 8 (by kernel_rfl) (fun _ _ => rfl) (fun x y s m K => by kernel_rfl) (fun x y s s' K e => by kernel_rfl)
noncomputable def cLaw04a56 : Ctx := cLaw04a55.addLoop 22 3 L_hauberkref04_Wide_3.toT.toLoop
theorem cLaw04a56_good : Av.Good cLaw04a56 := cLaw04a55_good.loopN L_hauberkref04_Wide_3 2 8 (by kernel_rfl) (fun _ _ => rfl) (fun x y s m K => by kernel_rfl) (fun x y s s' K e => by kernel_rfl)
noncomputable def cLaw04a57 : Ctx := cLaw04a56.addBody 22 (bodyT SS_hauberkref04_Wide HS_hauberkref04_Wide S_hauberkref04_Wide HT_hauberkref04_Wide G_hauberkref04_Wide V_hauberkref04_Wide)
theorem cLaw04a57_good : Av.Good cLaw04a57 := cLaw04a56_good.fnB S_hauberkref04_Wide T_hauberkref04_Wide G_hauberkref04_Wide V_hauberkref04_Wide 2 8 (by kernel_rfl) (fun x y => by kernel_rfl) ok_hauberkref04_Wide
noncomputable def cLaw04a58 : Ctx := cLaw04a57.addLoop 8 9 L_hauberkref04_Assemble_9.toT.toLoop
theorem cLaw04a58_good : Av.Good cLaw04a58 := cLaw04a57_good.loopN L_hauberkref04_Assemble_9 2 8 (by kernel_rfl) (fun _ _ => rfl) (fun x y s m K => by kernel_rfl) (fun x y s s' K e => by kernel_rfl)
noncomputable def cLaw04a59 : Ctx := cLaw04a58.addPlain 8 (plainT A_hauberkref04_Assemble G_hauberkref04_Assemble S_hauberkref04_Assemble V_hauberkref04_Assemble)
theorem cLaw04a59_good : Av.Good cLaw04a59 := cLaw04a58_good.fnP S_hauberkref04_Assemble T_hauberkref04_Assemble G_hauberkref04_Assemble V_hauberkref04_Assemble 2 8 (by kernel_rfl) (fun x => by kernel_rfl) ok_hauberkref04_Assemble
noncomputable def cLaw04a60 : Ctx := cLaw04a59.addBody 19 body_WriteString
theorem cLaw04a60_good : Av.Good cLaw04a60 := cLaw04a59_good.addBody write_body (by kernel_rfl)
noncomputable def cLaw04a61 : Ctx := cLaw04a60.addBody 20 body_String
theorem cLaw04a61_good : Av.Good cLaw04a61 := cLaw04a60_good.addBody string_body (by kernel_rfl)
noncomputable def cLaw04a62 : Ctx := cLaw04a61.addPlain 17 snap_asm_assembler_offset
theorem cLaw04a62_good : Av.Good cLaw04a62 := cLaw04a61_good.addSnap offset_plain (by kernel_rfl) offset_snap
noncomputable def cLaw04a63 : Ctx := cLaw04a62.addLoop 6 6 L_hauberklaw04_Items_6.toT.toLoop
theorem cLaw04a63_good : Av.Good cLaw04a63 := cLaw04a62_good.loopN L_hauberklaw04_Items_6 2 8 (by kernel_rfl) (fun _ _ => rfl) (fun x y s m K => by kernel_rfl) (fun x y s s' K e => by kernel_rfl)
noncomputable def cLaw04a64 : Ctx := cLaw04a63.addLoop 6 3 L_hauberklaw04_Items_3.toT.toLoop
theorem cLaw04a64_good : Av.Good cLaw04a64 := cLaw04a63_good.loopN L_hauberklaw04_Items_3 2 8 (by kernel_rfl) (fun _ _ => rfl) (fun x y s m K => by kernel_rfl) (fun x y s s' K e => by kernel_rfl)
noncomputable def cLaw04a65 : Ctx := cLaw04a64.addPlain 6 (plainT A_hauberklaw04_Items G_hauberklaw04_Items S_hauberklaw04_Items V_hauberklaw04_Items)
theorem cLaw04a65_good : Av.Good cLaw04a65 := cLaw04a64_good.fnP S_hauberklaw04_Items T_hauberklaw04_Items G_hauberklaw04_Items V_hauberklaw04_Items 2 8 (by kernel_rfl) (fun x => by kernel_rfl) ok_hauberklaw04_Items
noncomputable def cLaw04a66 : Ctx := cLaw04a65.addLoop 9 4 L_hauberk_hauberklaw04_Places_Same_4.toT.toLoop
theorem cLaw04a66_good : Av.Good cLaw04a66 := cLaw04a65_good.loopN L_hauberk_hauberklaw04_Places_Same_4 2 8 (by kernel_rfl) (fun _ _ => rfl) (fun x y s m K => by kernel_rfl) (fun x y s s' K e => by kernel_rfl)
noncomputable def cLaw04a67 : Ctx := cLaw04a66.addPlain 9 (plainT A_hauberk_hauberklaw04_Places_Same G_hauberk_hauberklaw04_Places_Same S_hauberk_hauberklaw04_Places_Same V_hauberk_hauberklaw04_Places_Same)
theorem cLaw04a67_good : Av.Good cLaw04a67 := cLaw04a66_good.fnP S_hauberk_hauberklaw04_Places_Same T_hauberk_hauberklaw04_Places_Same G_hauberk_hauberklaw04_Places_Same V_hauberk_hauberklaw04_Places_Same 2 8 (by kernel_rfl) (fun x => by kernel_rfl) ok_hauberk_hauberklaw04_Places_Same
noncomputable def cLaw04a68 : Ctx := cLaw04a67.addBody 30 (bodyT SS_asm_assembler_items HS_asm_assembler_items S_asm_assembler_items HT_asm_assembler_items G_asm_assembler_items V_asm_assembler_items)
theorem cLaw04a68_good : Av.Good cLaw04a68 := cLaw04a67_good.fnB S_asm_assembler_items T_asm_assembler_items G_asm_assembler_items V_asm_assembler_items 3 8 (by kernel_rfl) (fun x y => by kernel_rfl) ok_asm_assembler_items
noncomputable def cLaw04a69 : Ctx := cLaw04a68.addBody 31 (bodyT SS_asm_assembler_names HS_asm_assembler_names S_asm_assembler_names HT_asm_assembler_names G_asm_assembler_names V_asm_assembler_names)
theorem cLaw04a69_good : Av.Good cLaw04a69 := cLaw04a68_good.fnB S_asm_assembler_names T_asm_assembler_names G_asm_assembler_names V_asm_assembler_names 3 8 (by kernel_rfl) (fun x y => by kernel_rfl) ok_asm_assembler_names
noncomputable def cLaw04a70 : Ctx := cLaw04a69.addBody 32 (bodyT SS_asm_assembler_great HS_asm_assembler_great S_asm_assembler_great HT_asm_assembler_great G_asm_assembler_great V_asm_assembler_great)
theorem cLaw04a70_good : Av.Good cLaw04a70 := cLaw04a69_good.fnB S_asm_assembler_great T_asm_assembler_great G_asm_assembler_great V_asm_assembler_great 3 8 (by kernel_rfl) (fun x y => by kernel_rfl) ok_asm_assembler_great
noncomputable def cLaw04a71 : Ctx := cLaw04a70.addBody 15 (bodyT SS_asm_assembler_check HS_asm_assembler_check S_asm_assembler_check HT_asm_assembler_check G_asm_assembler_check V_asm_assembler_check)
theorem cLaw04a71_good : Av.Good cLaw04a71 := cLaw04a70_good.fnB S_asm_assembler_check T_asm_assembler_check G_asm_assembler_check V_asm_assembler_check 4 8 (by kernel_rfl) (fun x y => by kernel_rfl) ok_asm_assembler_check
noncomputable def cLaw04a72 : Ctx := cLaw04a71.addLoop 16 4 L_asm_assembler_widen_4.toT.toLoop
theorem cLaw04a72_good : Av.Good cLaw04a72 := cLaw04a71_good.loopN L_asm_assembler_widen_4 2 8 (by kernel_rfl) (fun _ _ => rfl) (fun x y s m K => by kernel_rfl) (fun x y s s' K e => by kernel_rfl)
noncomputable def cLaw04a73 : Ctx := cLaw04a72.addBody 16 (bodyT SS_asm_assembler_widen HS_asm_assembler_widen S_asm_assembler_widen HT_asm_assembler_widen G_asm_assembler_widen V_asm_assembler_widen)
theorem cLaw04a73_good : Av.Good cLaw04a73 := cLaw04a72_good.fnB S_asm_assembler_widen T_asm_assembler_widen G_asm_assembler_widen V_asm_assembler_widen 3 8 (by kernel_rfl) (fun x y => by kernel_rfl) ok_asm_assembler_widen
noncomputable def cLaw04a74 : Ctx := cLaw04a73.addLoop 7 5 L_asm_Assemble_5.toT.toLoop
theorem cLaw04a74_good : Av.Good cLaw04a74 := cLaw04a73_good.loopN L_asm_Assemble_5 3 8 (by kernel_rfl) (fun _ _ => rfl) (fun x y s m K => by kernel_rfl) (fun x y s s' K e => by kernel_rfl)
noncomputable def cLaw04a75 : Ctx := cLaw04a74.addLoop 7 10 L_asm_Assemble_10.toT.toLoop
theorem cLaw04a75_good : Av.Good cLaw04a75 := cLaw04a74_good.loopN L_asm_Assemble_10 3 8 (by kernel_rfl) (fun _ _ => rfl) (fun x y s m K => by kernel_rfl) (fun x y s s' K e => by kernel_rfl)
noncomputable def cLaw04a76 : Ctx := cLaw04a75.addPlain 7 (plainT A_asm_Assemble G_asm_Assemble S_asm_Assemble V_asm_Assemble)
theorem cLaw04a76_good : Av.Good cLaw04a76 := cLaw04a75_good.fnP S_asm_Assemble T_asm_Assemble G_asm_Assemble V_asm_Assemble 3 8 (by kernel_rfl) (fun x => by kernel_rfl) ok_asm_Assemble
noncomputable def cLaw04a77 : Ctx := cLaw04a76.addPlain 10 (plainT A_hauberklaw04_lives G_hauberklaw04_lives S_hauberklaw04_lives V_hauberklaw04_lives)
theorem cLaw04a77_good : Av.Good cLaw04a77 := cLaw04a76_good.fnP S_hauberklaw04_lives T_hauberklaw04_lives G_hauberklaw04_lives V_hauberklaw04_lives 4 12 (by kernel_rfl) (fun x => by kernel_rfl) ok_hauberklaw04_lives
noncomputable def cLaw04a : Ctx := cLaw04a77
theorem cLaw04a_good : Av.Good cLaw04a := cLaw04a77_good
end Go.Proofs.Ytehcaooipfgklaa
