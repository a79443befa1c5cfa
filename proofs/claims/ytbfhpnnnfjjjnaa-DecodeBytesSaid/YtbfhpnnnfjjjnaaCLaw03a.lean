/- The functions that the statements reach, walked: chain Law03a. Written by wip/tools/gen.py out of wip/conf/Law03a.txt. -/
import Derived.Test.YtbfhpnnnfjjjnaaPThumb
import Derived.Test.YtbfhpnnnfjjjnaaPRef02
import Derived.Test.YtbfhpnnnfjjjnaaPRef02Law
import Derived.Test.YtbfhpnnnfjjjnaaPEnc
import Derived.Test.YtbfhpnnnfjjjnaaPEncLaw
import Derived.Test.YtbfhpnnnfjjjnaaPEncS
import Derived.Test.YtbfhpnnnfjjjnaaPRefSize
import Derived.Test.YtbfhpnnnfjjjnaaPEncB
import Derived.Test.YtbfhpnnnfjjjnaaPRefEnc
import Derived.Test.YtbfhpnnnfjjjnaaPRefEnc2
import Derived.Test.YtbfhpnnnfjjjnaaPRefEncLaw
import Derived.Test.YtbfhpnnnfjjjnaaPFldBits
import Derived.Test.YtbfhpnnnfjjjnaaPCheckB
import Derived.Test.YtbfhpnnnfjjjnaaPEncSame
import Derived.Test.YtbfhpnnnfjjjnaaPEncEq
import Derived.Test.YtbfhpnnnfjjjnaaPDec
import Derived.Test.YtbfhpnnnfjjjnaaPHBits
import Derived.Test.YtbfhpnnnfjjjnaaPDecBits
import Derived.Test.YtbfhpnnnfjjjnaaPCheckIff
import Derived.Test.YtbfhpnnnfjjjnaaPDecBack
import Derived.Test.YtbfhpnnnfjjjnaaPDecRow
import Derived.Test.YtbfhpnnnfjjjnaaPDecFw
import Derived.Test.YtbfhpnnnfjjjnaaPDecFw2
import Derived.Test.YtbfhpnnnfjjjnaaPDecLaw
import Derived.Test.YtbfhpnnnfjjjnaaPDecLaw2
import Derived.Test.YtbfhpnnnfjjjnaaPDecR
import Derived.Test.YtbfhpnnnfjjjnaaPLaw03a
import Derived.Test.YtbfhpnnnfjjjnaaPLaw03aLaw
import Derived.Test.YtbfhpnnnfjjjnaaProg
namespace Go.Proofs.Ytbfhpnnnfjjjnaa
open Go Go.Av Go.Proofs
noncomputable def cLaw03a0 : Ctx := baseC Try.prog [23, 66, 68]
theorem cLaw03a0_good : Av.Good cLaw03a0 := good_base (by kernel_rfl) (by kernel_rfl) (by kernel_rfl)
noncomputable def cLaw03a1 : Ctx := cLaw03a0.addPlain 44 (plainT A_thumb_within G_thumb_within S_thumb_within V_thumb_within)
theorem cLaw03a1_good : Av.Good cLaw03a1 := cLaw03a0_good.fnP S_thumb_within T_thumb_within G_thumb_within V_thumb_within 2 8 (by kernel_rfl) (fun x => by kernel_rfl) ok_thumb_within
noncomputable def cLaw03a2 : Ctx := cLaw03a1.addPlain 45 (plainT A_thumb_field G_thumb_field S_thumb_field V_thumb_field)
theorem cLaw03a2_good : Av.Good cLaw03a2 := cLaw03a1_good.fnP S_thumb_field T_thumb_field G_thumb_field V_thumb_field 2 8 (by kernel_rfl) (fun x => by kernel_rfl) ok_thumb_field
noncomputable def cLaw03a3 : Ctx := cLaw03a2.addPlain 43 (plainT A_thumb_formOf G_thumb_formOf S_thumb_formOf V_thumb_formOf)
theorem cLaw03a3_good : Av.Good cLaw03a3 := cLaw03a2_good.fnP S_thumb_formOf T_thumb_formOf G_thumb_formOf V_thumb_formOf 2 8 (by kernel_rfl) (fun x => by kernel_rfl) ok_thumb_formOf
noncomputable def cLaw03a4 : Ctx := cLaw03a3.addPlain 18 (plainT A_thumb_Reach G_thumb_Reach S_thumb_Reach V_thumb_Reach)
theorem cLaw03a4_good : Av.Good cLaw03a4 := cLaw03a3_good.fnP S_thumb_Reach T_thumb_Reach G_thumb_Reach V_thumb_Reach 3 8 (by kernel_rfl) (fun x => by kernel_rfl) ok_thumb_Reach
noncomputable def cLaw03a5 : Ctx := cLaw03a4.addPlain 42 (plainT A_thumb_branch G_thumb_branch S_thumb_branch V_thumb_branch)
theorem cLaw03a5_good : Av.Good cLaw03a5 := cLaw03a4_good.fnP S_thumb_branch T_thumb_branch G_thumb_branch V_thumb_branch 3 8 (by kernel_rfl) (fun x => by kernel_rfl) ok_thumb_branch
noncomputable def cLaw03a6 : Ctx := cLaw03a5.addPlain 19 (plainT A_thumb_Check G_thumb_Check S_thumb_Check V_thumb_Check)
theorem cLaw03a6_good : Av.Good cLaw03a6 := cLaw03a5_good.fnP S_thumb_Check T_thumb_Check G_thumb_Check V_thumb_Check 3 8 (by kernel_rfl) (fun x => by kernel_rfl) ok_thumb_Check
noncomputable def cLaw03a7 : Ctx := cLaw03a6.addPlain 67 (plainT A_hauberkref02_more G_hauberkref02_more S_hauberkref02_more V_hauberkref02_more)
theorem cLaw03a7_good : Av.Good cLaw03a7 := cLaw03a6_good.fnP S_hauberkref02_more T_hauberkref02_more G_hauberkref02_more V_hauberkref02_more 2 8 (by kernel_rfl) (fun x => by kernel_rfl) ok_hauberkref02_more
noncomputable def cLaw03a8 : Ctx := cLaw03a7.addPlain 40 (plainT A_hauberkref02_Bits G_hauberkref02_Bits S_hauberkref02_Bits V_hauberkref02_Bits)
theorem cLaw03a8_good : Av.Good cLaw03a8 := cLaw03a7_good.fnP S_hauberkref02_Bits T_hauberkref02_Bits G_hauberkref02_Bits V_hauberkref02_Bits 2 8 (by kernel_rfl) (fun x => by kernel_rfl) ok_hauberkref02_Bits
noncomputable def cLaw03a9 : Ctx := cLaw03a8.addLoop 69 2 L_hauberkref02_has_2.toT.toLoop
theorem cLaw03a9_good : Av.Good cLaw03a9 := cLaw03a8_good.loopN L_hauberkref02_has_2 2 8 (by kernel_rfl) (fun _ _ => rfl) (fun x y s m K => by kernel_rfl) (fun x y s s' K e => by kernel_rfl)
noncomputable def cLaw03a10 : Ctx := cLaw03a9.addPlain 69 (plainT A_hauberkref02_has G_hauberkref02_has S_hauberkref02_has V_hauberkref02_has)
theorem cLaw03a10_good : Av.Good cLaw03a10 := cLaw03a9_good.fnP S_hauberkref02_has T_hauberkref02_has G_hauberkref02_has V_hauberkref02_has 2 8 (by kernel_rfl) (fun x => by kernel_rfl) ok_hauberkref02_has
noncomputable def cLaw03a11 : Ctx := cLaw03a10.addPlain 47 (plainT A_hauberkref02_reg G_hauberkref02_reg S_hauberkref02_reg V_hauberkref02_reg)
theorem cLaw03a11_good : Av.Good cLaw03a11 := cLaw03a10_good.fnP S_hauberkref02_reg T_hauberkref02_reg G_hauberkref02_reg V_hauberkref02_reg 2 8 (by kernel_rfl) (fun x => by kernel_rfl) ok_hauberkref02_reg
noncomputable def cLaw03a12 : Ctx := cLaw03a11.addPlain 20 (plainT A_hauberkref02_Reach G_hauberkref02_Reach S_hauberkref02_Reach V_hauberkref02_Reach)
theorem cLaw03a12_good : Av.Good cLaw03a12 := cLaw03a11_good.fnP S_hauberkref02_Reach T_hauberkref02_Reach G_hauberkref02_Reach V_hauberkref02_Reach 2 8 (by kernel_rfl) (fun x => by kernel_rfl) ok_hauberkref02_Reach
noncomputable def cLaw03a13 : Ctx := cLaw03a12.addPlain 46 (plainT A_hauberkref02_number G_hauberkref02_number S_hauberkref02_number V_hauberkref02_number)
theorem cLaw03a13_good : Av.Good cLaw03a13 := cLaw03a12_good.fnP S_hauberkref02_number T_hauberkref02_number G_hauberkref02_number V_hauberkref02_number 2 8 (by kernel_rfl) (fun x => by kernel_rfl) ok_hauberkref02_number
noncomputable def cLaw03a14 : Ctx := cLaw03a13.addPlain 21 (plainT A_hauberkref02_Check G_hauberkref02_Check S_hauberkref02_Check V_hauberkref02_Check)
theorem cLaw03a14_good : Av.Good cLaw03a14 := cLaw03a13_good.fnP S_hauberkref02_Check T_hauberkref02_Check G_hauberkref02_Check V_hauberkref02_Check 3 8 (by kernel_rfl) (fun x => by kernel_rfl) ok_hauberkref02_Check
noncomputable def cLaw03a15 : Ctx := cLaw03a14.addPlain 88 (plainT A_thumb_put G_thumb_put S_thumb_put V_thumb_put)
theorem cLaw03a15_good : Av.Good cLaw03a15 := cLaw03a14_good.fnP S_thumb_put T_thumb_put G_thumb_put V_thumb_put 2 6 (by kernel_rfl) (fun x => by kernel_rfl) ok_thumb_put
noncomputable def cLaw03a16 : Ctx := cLaw03a15.addPlain 65 (plainT A_thumb_shifted G_thumb_shifted S_thumb_shifted V_thumb_shifted)
theorem cLaw03a16_good : Av.Good cLaw03a16 := cLaw03a15_good.fnP S_thumb_shifted T_thumb_shifted G_thumb_shifted V_thumb_shifted 4 8 (by kernel_rfl) (fun x => by kernel_rfl) ok_thumb_shifted
noncomputable def cLaw03a17 : Ctx := cLaw03a16.addPlain 64 (plainT A_thumb_move G_thumb_move S_thumb_move V_thumb_move)
theorem cLaw03a17_good : Av.Good cLaw03a17 := cLaw03a16_good.fnP S_thumb_move T_thumb_move G_thumb_move V_thumb_move 4 8 (by kernel_rfl) (fun x => by kernel_rfl) ok_thumb_move
noncomputable def cLaw03a18 : Ctx := cLaw03a17.addPlain 89 (plainT A_thumb_short G_thumb_short S_thumb_short V_thumb_short)
theorem cLaw03a18_good : Av.Good cLaw03a18 := cLaw03a17_good.fnP S_thumb_short T_thumb_short G_thumb_short V_thumb_short 4 8 (by kernel_rfl) (fun x => by kernel_rfl) ok_thumb_short
noncomputable def cLaw03a19 : Ctx := cLaw03a18.addPlain 90 (plainT A_thumb_wide G_thumb_wide S_thumb_wide V_thumb_wide)
theorem cLaw03a19_good : Av.Good cLaw03a19 := cLaw03a18_good.fnP S_thumb_wide T_thumb_wide G_thumb_wide V_thumb_wide 4 8 (by kernel_rfl) (fun x => by kernel_rfl) ok_thumb_wide
noncomputable def cLaw03a20 : Ctx := cLaw03a19.addPlain 66 (plainT A_thumb_others G_thumb_others S_thumb_others V_thumb_others)
theorem cLaw03a20_good : Av.Good cLaw03a20 := cLaw03a19_good.fnP S_thumb_others T_thumb_others G_thumb_others V_thumb_others 4 8 (by kernel_rfl) (fun x => by kernel_rfl) ok_thumb_others
noncomputable def cLaw03a21 : Ctx := cLaw03a20.addPlain 38 (plainT A_thumb_bits G_thumb_bits S_thumb_bits V_thumb_bits)
theorem cLaw03a21_good : Av.Good cLaw03a21 := cLaw03a20_good.fnP S_thumb_bits T_thumb_bits G_thumb_bits V_thumb_bits 4 8 (by kernel_rfl) (fun x => by kernel_rfl) ok_thumb_bits
noncomputable def cLaw03a22 : Ctx := cLaw03a21.addPlain 22 (plainT A_thumb_Size G_thumb_Size S_thumb_Size V_thumb_Size)
theorem cLaw03a22_good : Av.Good cLaw03a22 := cLaw03a21_good.fnP S_thumb_Size T_thumb_Size G_thumb_Size V_thumb_Size 4 8 (by kernel_rfl) (fun x => by kernel_rfl) ok_thumb_Size
noncomputable def cLaw03a23 : Ctx := cLaw03a22.addPlain 23 (plainT A_hauberkref02_Size G_hauberkref02_Size S_hauberkref02_Size V_hauberkref02_Size)
theorem cLaw03a23_good : Av.Good cLaw03a23 := cLaw03a22_good.fnP S_hauberkref02_Size T_hauberkref02_Size G_hauberkref02_Size V_hauberkref02_Size 2 8 (by kernel_rfl) (fun x => by kernel_rfl) ok_hauberkref02_Size
noncomputable def cLaw03a24 : Ctx := cLaw03a23.addPlain 39 (plainT A_thumb_half G_thumb_half S_thumb_half V_thumb_half)
theorem cLaw03a24_good : Av.Good cLaw03a24 := cLaw03a23_good.fnP S_thumb_half T_thumb_half G_thumb_half V_thumb_half 2 8 (by kernel_rfl) (fun x => by kernel_rfl) ok_thumb_half
noncomputable def cLaw03a25 : Ctx := cLaw03a24.addPlain 15 (plainT A_thumb_Encode G_thumb_Encode S_thumb_Encode V_thumb_Encode)
theorem cLaw03a25_good : Av.Good cLaw03a25 := cLaw03a24_good.fnP S_thumb_Encode T_thumb_Encode G_thumb_Encode V_thumb_Encode 2 8 (by kernel_rfl) (fun x => by kernel_rfl) ok_thumb_Encode
noncomputable def cLaw03a26 : Ctx := cLaw03a25.addPlain 17 (plainT A_hauberklaw02_lives G_hauberklaw02_lives S_hauberklaw02_lives V_hauberklaw02_lives)
theorem cLaw03a26_good : Av.Good cLaw03a26 := cLaw03a25_good.fnP S_hauberklaw02_lives T_hauberklaw02_lives G_hauberklaw02_lives V_hauberklaw02_lives 2 8 (by kernel_rfl) (fun x => by kernel_rfl) ok_hauberklaw02_lives
noncomputable def cLaw03a27 : Ctx := cLaw03a26.addLoop 68 3 L_hauberkref02_bit_3.toT.toLoop
theorem cLaw03a27_good : Av.Good cLaw03a27 := cLaw03a26_good.loopN L_hauberkref02_bit_3 2 8 (by kernel_rfl) (fun _ _ => rfl) (fun x y s m K => by kernel_rfl) (fun x y s s' K e => by kernel_rfl)
noncomputable def cLaw03a28 : Ctx := cLaw03a27.addPlain 68 (plainT A_hauberkref02_bit G_hauberkref02_bit S_hauberkref02_bit V_hauberkref02_bit)
theorem cLaw03a28_good : Av.Good cLaw03a28 := cLaw03a27_good.fnP S_hauberkref02_bit T_hauberkref02_bit G_hauberkref02_bit V_hauberkref02_bit 2 8 (by kernel_rfl) (fun x => by kernel_rfl) ok_hauberkref02_bit
noncomputable def cLaw03a29 : Ctx := cLaw03a28.addPlain 41 (plainT A_hauberkref02_field G_hauberkref02_field S_hauberkref02_field V_hauberkref02_field)
theorem cLaw03a29_good : Av.Good cLaw03a29 := cLaw03a28_good.fnP S_hauberkref02_field T_hauberkref02_field G_hauberkref02_field V_hauberkref02_field 2 8 (by kernel_rfl) (fun x => by kernel_rfl) ok_hauberkref02_field
noncomputable def cLaw03a30 : Ctx := cLaw03a29.addLoop 16 14 L_hauberkref02_Encode_14.toT.toLoop
theorem cLaw03a30_good : Av.Good cLaw03a30 := cLaw03a29_good.loopN L_hauberkref02_Encode_14 2 8 (by kernel_rfl) (fun _ _ => rfl) (fun x y s m K => by kernel_rfl) (fun x y s s' K e => by kernel_rfl)
noncomputable def cLaw03a31 : Ctx := cLaw03a30.addLoop 16 11 L_hauberkref02_Encode_11.toT.toLoop
theorem cLaw03a31_good : Av.Good cLaw03a31 := cLaw03a30_good.loopN L_hauberkref02_Encode_11 2 8 (by kernel_rfl) (fun _ _ => rfl) (fun x y s m K => by kernel_rfl) (fun x y s s' K e => by kernel_rfl)
noncomputable def cLaw03a32 : Ctx := cLaw03a31.addLoop 16 7 L_hauberkref02_Encode_7.toT.toLoop
theorem cLaw03a32_good : Av.Good cLaw03a32 := cLaw03a31_good.loopN L_hauberkref02_Encode_7 2 8 (by kernel_rfl) (fun _ _ => rfl) (fun x y s m K => by kernel_rfl) (fun x y s s' K e => by kernel_rfl)
noncomputable def cLaw03a33 : Ctx := cLaw03a32.addPlain 16 (plainT A_hauberkref02_Encode G_hauberkref02_Encode S_hauberkref02_Encode V_hauberkref02_Encode)
theorem cLaw03a33_good : Av.Good cLaw03a33 := cLaw03a32_good.fnP S_hauberkref02_Encode T_hauberkref02_Encode G_hauberkref02_Encode V_hauberkref02_Encode 2 8 (by kernel_rfl) (fun x => by kernel_rfl) ok_hauberkref02_Encode
noncomputable def cLaw03a34 : Ctx := cLaw03a33.addPlain 70 (plainT A_decode_some G_decode_some S_decode_some V_decode_some)
theorem cLaw03a34_good : Av.Good cLaw03a34 := cLaw03a33_good.fnP S_decode_some T_decode_some G_decode_some V_decode_some 2 8 (by kernel_rfl) (fun x => by kernel_rfl) ok_decode_some
noncomputable def cLaw03a35 : Ctx := cLaw03a34.addPlain 49 (plainT A_decode_half G_decode_half S_decode_half V_decode_half)
theorem cLaw03a35_good : Av.Good cLaw03a35 := cLaw03a34_good.fnP S_decode_half T_decode_half G_decode_half V_decode_half 2 8 (by kernel_rfl) (fun x => by kernel_rfl) ok_decode_half
noncomputable def cLaw03a36 : Ctx := cLaw03a35.addPlain 71 (plainT A_decode_signed G_decode_signed S_decode_signed V_decode_signed)
theorem cLaw03a36_good : Av.Good cLaw03a36 := cLaw03a35_good.fnP S_decode_signed T_decode_signed G_decode_signed V_decode_signed 2 8 (by kernel_rfl) (fun x => by kernel_rfl) ok_decode_signed
noncomputable def cLaw03a37 : Ctx := cLaw03a36.addLoop 91 2 L_decode_regs_2.toT.toLoop
theorem cLaw03a37_good : Av.Good cLaw03a37 := cLaw03a36_good.loopN L_decode_regs_2 2 8 (by kernel_rfl) (fun _ _ => rfl) (fun x y s m K => by kernel_rfl) (fun x y s s' K e => by kernel_rfl)
noncomputable def cLaw03a38 : Ctx := cLaw03a37.addPlain 91 (plainT A_decode_regs G_decode_regs S_decode_regs V_decode_regs)
theorem cLaw03a38_good : Av.Good cLaw03a38 := cLaw03a37_good.fnP S_decode_regs T_decode_regs G_decode_regs V_decode_regs 2 8 (by kernel_rfl) (fun x => by kernel_rfl) ok_decode_regs
noncomputable def cLaw03a39 : Ctx := cLaw03a38.addPlain 26 (plainT A_decode_Size G_decode_Size S_decode_Size V_decode_Size)
theorem cLaw03a39_good : Av.Good cLaw03a39 := cLaw03a38_good.fnP S_decode_Size T_decode_Size G_decode_Size V_decode_Size 2 8 (by kernel_rfl) (fun x => by kernel_rfl) ok_decode_Size
noncomputable def cLaw03a40 : Ctx := cLaw03a39.addPlain 48 (plainT A_decode_narrow G_decode_narrow S_decode_narrow V_decode_narrow)
theorem cLaw03a40_good : Av.Good cLaw03a40 := cLaw03a39_good.fnP S_decode_narrow T_decode_narrow G_decode_narrow V_decode_narrow 2 12 (by kernel_rfl) (fun x => by kernel_rfl) ok_decode_narrow
noncomputable def cLaw03a41 : Ctx := cLaw03a40.addPlain 72 (plainT A_decode_three G_decode_three S_decode_three V_decode_three)
theorem cLaw03a41_good : Av.Good cLaw03a41 := cLaw03a40_good.fnP S_decode_three T_decode_three G_decode_three V_decode_three 3 12 (by kernel_rfl) (fun x => by kernel_rfl) ok_decode_three
noncomputable def cLaw03a42 : Ctx := cLaw03a41.addPlain 73 (plainT A_decode_product G_decode_product S_decode_product V_decode_product)
theorem cLaw03a42_good : Av.Good cLaw03a42 := cLaw03a41_good.fnP S_decode_product T_decode_product G_decode_product V_decode_product 2 12 (by kernel_rfl) (fun x => by kernel_rfl) ok_decode_product
noncomputable def cLaw03a43 : Ctx := cLaw03a42.addPlain 74 (plainT A_decode_plain G_decode_plain S_decode_plain V_decode_plain)
theorem cLaw03a43_good : Av.Good cLaw03a43 := cLaw03a42_good.fnP S_decode_plain T_decode_plain G_decode_plain V_decode_plain 2 12 (by kernel_rfl) (fun x => by kernel_rfl) ok_decode_plain
noncomputable def cLaw03a44 : Ctx := cLaw03a43.addPlain 75 (plainT A_decode_branch G_decode_branch S_decode_branch V_decode_branch)
theorem cLaw03a44_good : Av.Good cLaw03a44 := cLaw03a43_good.fnP S_decode_branch T_decode_branch G_decode_branch V_decode_branch 2 12 (by kernel_rfl) (fun x => by kernel_rfl) ok_decode_branch
noncomputable def cLaw03a45 : Ctx := cLaw03a44.addPlain 50 (plainT A_decode_long G_decode_long S_decode_long V_decode_long)
theorem cLaw03a45_good : Av.Good cLaw03a45 := cLaw03a44_good.fnP S_decode_long T_decode_long G_decode_long V_decode_long 2 12 (by kernel_rfl) (fun x => by kernel_rfl) ok_decode_long
noncomputable def cLaw03a46 : Ctx := cLaw03a45.addPlain 24 (plainT A_decode_Decode G_decode_Decode S_decode_Decode V_decode_Decode)
theorem cLaw03a46_good : Av.Good cLaw03a46 := cLaw03a45_good.fnP S_decode_Decode T_decode_Decode G_decode_Decode V_decode_Decode 2 12 (by kernel_rfl) (fun x => by kernel_rfl) ok_decode_Decode
noncomputable def cLaw03a47 : Ctx := cLaw03a46.addPlain 76 (plainT A_hauberkref03_text G_hauberkref03_text S_hauberkref03_text V_hauberkref03_text)
theorem cLaw03a47_good : Av.Good cLaw03a47 := cLaw03a46_good.fnP S_hauberkref03_text T_hauberkref03_text G_hauberkref03_text V_hauberkref03_text 2 20 (by kernel_rfl) (fun x => by kernel_rfl) ok_hauberkref03_text
noncomputable def cLaw03a48 : Ctx := cLaw03a47.addLoop 79 3 L_hauberkref03_power_3.toT.toLoop
theorem cLaw03a48_good : Av.Good cLaw03a48 := cLaw03a47_good.loopN L_hauberkref03_power_3 2 8 (by kernel_rfl) (fun _ _ => rfl) (fun x y s m K => by kernel_rfl) (fun x y s s' K e => by kernel_rfl)
noncomputable def cLaw03a49 : Ctx := cLaw03a48.addPlain 79 (plainT A_hauberkref03_power G_hauberkref03_power S_hauberkref03_power V_hauberkref03_power)
theorem cLaw03a49_good : Av.Good cLaw03a49 := cLaw03a48_good.fnP S_hauberkref03_power T_hauberkref03_power G_hauberkref03_power V_hauberkref03_power 2 8 (by kernel_rfl) (fun x => by kernel_rfl) ok_hauberkref03_power
noncomputable def cLaw03a50 : Ctx := cLaw03a49.addLoop 78 3 L_hauberkref03_sign_3.toT.toLoop
theorem cLaw03a50_good : Av.Good cLaw03a50 := cLaw03a49_good.loopN L_hauberkref03_sign_3 2 8 (by kernel_rfl) (fun _ _ => rfl) (fun x y s m K => by kernel_rfl) (fun x y s s' K e => by kernel_rfl)
noncomputable def cLaw03a51 : Ctx := cLaw03a50.addPlain 78 (plainT A_hauberkref03_sign G_hauberkref03_sign S_hauberkref03_sign V_hauberkref03_sign)
theorem cLaw03a51_good : Av.Good cLaw03a51 := cLaw03a50_good.fnP S_hauberkref03_sign T_hauberkref03_sign G_hauberkref03_sign V_hauberkref03_sign 2 8 (by kernel_rfl) (fun x => by kernel_rfl) ok_hauberkref03_sign
noncomputable def cLaw03a52 : Ctx := cLaw03a51.addPlain 51 (plainT A_hauberkref03_half G_hauberkref03_half S_hauberkref03_half V_hauberkref03_half)
theorem cLaw03a52_good : Av.Good cLaw03a52 := cLaw03a51_good.fnP S_hauberkref03_half T_hauberkref03_half G_hauberkref03_half V_hauberkref03_half 2 8 (by kernel_rfl) (fun x => by kernel_rfl) ok_hauberkref03_half
noncomputable def cLaw03a53 : Ctx := cLaw03a52.addPlain 27 (plainT A_hauberkref03_Size G_hauberkref03_Size S_hauberkref03_Size V_hauberkref03_Size)
theorem cLaw03a53_good : Av.Good cLaw03a53 := cLaw03a52_good.fnP S_hauberkref03_Size T_hauberkref03_Size G_hauberkref03_Size V_hauberkref03_Size 2 8 (by kernel_rfl) (fun x => by kernel_rfl) ok_hauberkref03_Size
noncomputable def cLaw03a54 : Ctx := cLaw03a53.addLoop 52 8 L_hauberkref03_read_8.toT.toLoop
theorem cLaw03a54_good : Av.Good cLaw03a54 := cLaw03a53_good.loopN L_hauberkref03_read_8 3 12 (by kernel_rfl) (fun _ _ => rfl) (fun x y s m K => by kernel_rfl) (fun x y s s' K e => by kernel_rfl)
noncomputable def cLaw03a55 : Ctx := cLaw03a54.addPlain 52 (plainT A_hauberkref03_read G_hauberkref03_read S_hauberkref03_read V_hauberkref03_read)
theorem cLaw03a55_good : Av.Good cLaw03a55 := cLaw03a54_good.fnP S_hauberkref03_read T_hauberkref03_read G_hauberkref03_read V_hauberkref03_read 3 12 (by kernel_rfl) (fun x => by kernel_rfl) ok_hauberkref03_read
noncomputable def cLaw03a56 : Ctx := cLaw03a55.addLoop 25 8 L_hauberkref03_Decode_8.toT.toLoop
theorem cLaw03a56_good : Av.Good cLaw03a56 := cLaw03a55_good.loopN L_hauberkref03_Decode_8 2 8 (by kernel_rfl) (fun _ _ => rfl) (fun x y s m K => by kernel_rfl) (fun x y s s' K e => by kernel_rfl)
noncomputable def cLaw03a57 : Ctx := cLaw03a56.addPlain 25 (plainT A_hauberkref03_Decode G_hauberkref03_Decode S_hauberkref03_Decode V_hauberkref03_Decode)
theorem cLaw03a57_good : Av.Good cLaw03a57 := cLaw03a56_good.fnP S_hauberkref03_Decode T_hauberkref03_Decode G_hauberkref03_Decode V_hauberkref03_Decode 2 8 (by kernel_rfl) (fun x => by kernel_rfl) ok_hauberkref03_Decode
noncomputable def cLaw03a58 : Ctx := cLaw03a57.addPlain 28 (plainT A_hauberklaw03_lives G_hauberklaw03_lives S_hauberklaw03_lives V_hauberklaw03_lives)
theorem cLaw03a58_good : Av.Good cLaw03a58 := cLaw03a57_good.fnP S_hauberklaw03_lives T_hauberklaw03_lives G_hauberklaw03_lives V_hauberklaw03_lives 2 8 (by kernel_rfl) (fun x => by kernel_rfl) ok_hauberklaw03_lives
noncomputable def cLaw03a : Ctx := cLaw03a58
theorem cLaw03a_good : Av.Good cLaw03a := cLaw03a58_good
end Go.Proofs.Ytbfhpnnnfjjjnaa
