/- The functions that the statements reach, walked: chain DSk. Written by wip/tools/gen.py out of wip/conf/DSk.txt. -/
import Derived.Test.YtapfijocjgoilaaPThumb
import Derived.Test.YtapfijocjgoilaaPRef02
import Derived.Test.YtapfijocjgoilaaPRef02Law
import Derived.Test.YtapfijocjgoilaaPEnc
import Derived.Test.YtapfijocjgoilaaPEncLaw
import Derived.Test.YtapfijocjgoilaaPEncS
import Derived.Test.YtapfijocjgoilaaPRefSize
import Derived.Test.YtapfijocjgoilaaPWord
import Derived.Test.YtapfijocjgoilaaPRef01
import Derived.Test.YtapfijocjgoilaaPRef01b
import Derived.Test.YtapfijocjgoilaaPCpu
import Derived.Test.YtapfijocjgoilaaPCpu2
import Derived.Test.YtapfijocjgoilaaPCpu3
import Derived.Test.YtapfijocjgoilaaPCpu4
import Derived.Test.YtapfijocjgoilaaPMem
import Derived.Test.YtapfijocjgoilaaPTMem
import Derived.Test.YtapfijocjgoilaaPCpu5Law
import Derived.Test.YtapfijocjgoilaaPDSk
import Derived.Test.YtapfijocjgoilaaPDSkLaw
import Derived.Test.YtapfijocjgoilaaProg
namespace Go.Proofs.Ytapfijocjgoilaa
open Go Go.Av Go.Proofs
noncomputable def cDSk0 : Ctx := baseC Try.prog [26, 48, 60, 54, 24, 32, 92, 58, 126]
theorem cDSk0_good : Av.Good cDSk0 := good_base (by kernel_rfl) (by kernel_rfl) (by kernel_rfl)
noncomputable def cDSk1 : Ctx := cDSk0.addPlain 58 (plainT A_thumb_within G_thumb_within S_thumb_within V_thumb_within)
theorem cDSk1_good : Av.Good cDSk1 := cDSk0_good.fnP S_thumb_within T_thumb_within G_thumb_within V_thumb_within 2 8 (by kernel_rfl) (fun x => by kernel_rfl) ok_thumb_within
noncomputable def cDSk2 : Ctx := cDSk1.addPlain 59 (plainT A_thumb_field G_thumb_field S_thumb_field V_thumb_field)
theorem cDSk2_good : Av.Good cDSk2 := cDSk1_good.fnP S_thumb_field T_thumb_field G_thumb_field V_thumb_field 2 8 (by kernel_rfl) (fun x => by kernel_rfl) ok_thumb_field
noncomputable def cDSk3 : Ctx := cDSk2.addPlain 57 (plainT A_thumb_formOf G_thumb_formOf S_thumb_formOf V_thumb_formOf)
theorem cDSk3_good : Av.Good cDSk3 := cDSk2_good.fnP S_thumb_formOf T_thumb_formOf G_thumb_formOf V_thumb_formOf 2 8 (by kernel_rfl) (fun x => by kernel_rfl) ok_thumb_formOf
noncomputable def cDSk4 : Ctx := cDSk3.addPlain 113 (plainT A_thumb_Reach G_thumb_Reach S_thumb_Reach V_thumb_Reach)
theorem cDSk4_good : Av.Good cDSk4 := cDSk3_good.fnP S_thumb_Reach T_thumb_Reach G_thumb_Reach V_thumb_Reach 3 8 (by kernel_rfl) (fun x => by kernel_rfl) ok_thumb_Reach
noncomputable def cDSk5 : Ctx := cDSk4.addPlain 56 (plainT A_thumb_branch G_thumb_branch S_thumb_branch V_thumb_branch)
theorem cDSk5_good : Av.Good cDSk5 := cDSk4_good.fnP S_thumb_branch T_thumb_branch G_thumb_branch V_thumb_branch 3 8 (by kernel_rfl) (fun x => by kernel_rfl) ok_thumb_branch
noncomputable def cDSk6 : Ctx := cDSk5.addPlain 23 (plainT A_thumb_Check G_thumb_Check S_thumb_Check V_thumb_Check)
theorem cDSk6_good : Av.Good cDSk6 := cDSk5_good.fnP S_thumb_Check T_thumb_Check G_thumb_Check V_thumb_Check 3 8 (by kernel_rfl) (fun x => by kernel_rfl) ok_thumb_Check
noncomputable def cDSk7 : Ctx := cDSk6.addPlain 27 (plainT A_dup_Safe G_dup_Safe S_dup_Safe V_dup_Safe)
theorem cDSk7_good : Av.Good cDSk7 := cDSk6_good.fnP S_dup_Safe T_dup_Safe G_dup_Safe V_dup_Safe 3 8 (by kernel_rfl) (fun x => by kernel_rfl) ok_dup_Safe
noncomputable def cDSk8 : Ctx := cDSk7.addPlain 117 (plainT A_hauberkref02_more G_hauberkref02_more S_hauberkref02_more V_hauberkref02_more)
theorem cDSk8_good : Av.Good cDSk8 := cDSk7_good.fnP S_hauberkref02_more T_hauberkref02_more G_hauberkref02_more V_hauberkref02_more 2 8 (by kernel_rfl) (fun x => by kernel_rfl) ok_hauberkref02_more
noncomputable def cDSk9 : Ctx := cDSk8.addPlain 61 (plainT A_hauberkref02_Bits G_hauberkref02_Bits S_hauberkref02_Bits V_hauberkref02_Bits)
theorem cDSk9_good : Av.Good cDSk9 := cDSk8_good.fnP S_hauberkref02_Bits T_hauberkref02_Bits G_hauberkref02_Bits V_hauberkref02_Bits 2 8 (by kernel_rfl) (fun x => by kernel_rfl) ok_hauberkref02_Bits
noncomputable def cDSk10 : Ctx := cDSk9.addLoop 153 2 L_hauberkref02_has_2.toT.toLoop
theorem cDSk10_good : Av.Good cDSk10 := cDSk9_good.loopN L_hauberkref02_has_2 2 8 (by kernel_rfl) (fun _ _ => rfl) (fun x y s m K => by kernel_rfl) (fun x y s s' K e => by kernel_rfl)
noncomputable def cDSk11 : Ctx := cDSk10.addPlain 153 (plainT A_hauberkref02_has G_hauberkref02_has S_hauberkref02_has V_hauberkref02_has)
theorem cDSk11_good : Av.Good cDSk11 := cDSk10_good.fnP S_hauberkref02_has T_hauberkref02_has G_hauberkref02_has V_hauberkref02_has 2 8 (by kernel_rfl) (fun x => by kernel_rfl) ok_hauberkref02_has
noncomputable def cDSk12 : Ctx := cDSk11.addPlain 98 (plainT A_hauberkref02_reg G_hauberkref02_reg S_hauberkref02_reg V_hauberkref02_reg)
theorem cDSk12_good : Av.Good cDSk12 := cDSk11_good.fnP S_hauberkref02_reg T_hauberkref02_reg G_hauberkref02_reg V_hauberkref02_reg 2 8 (by kernel_rfl) (fun x => by kernel_rfl) ok_hauberkref02_reg
noncomputable def cDSk13 : Ctx := cDSk12.addPlain 99 (plainT A_hauberkref02_Reach G_hauberkref02_Reach S_hauberkref02_Reach V_hauberkref02_Reach)
theorem cDSk13_good : Av.Good cDSk13 := cDSk12_good.fnP S_hauberkref02_Reach T_hauberkref02_Reach G_hauberkref02_Reach V_hauberkref02_Reach 2 8 (by kernel_rfl) (fun x => by kernel_rfl) ok_hauberkref02_Reach
noncomputable def cDSk14 : Ctx := cDSk13.addPlain 97 (plainT A_hauberkref02_number G_hauberkref02_number S_hauberkref02_number V_hauberkref02_number)
theorem cDSk14_good : Av.Good cDSk14 := cDSk13_good.fnP S_hauberkref02_number T_hauberkref02_number G_hauberkref02_number V_hauberkref02_number 2 8 (by kernel_rfl) (fun x => by kernel_rfl) ok_hauberkref02_number
noncomputable def cDSk15 : Ctx := cDSk14.addPlain 47 (plainT A_hauberkref02_Check G_hauberkref02_Check S_hauberkref02_Check V_hauberkref02_Check)
theorem cDSk15_good : Av.Good cDSk15 := cDSk14_good.fnP S_hauberkref02_Check T_hauberkref02_Check G_hauberkref02_Check V_hauberkref02_Check 3 8 (by kernel_rfl) (fun x => by kernel_rfl) ok_hauberkref02_Check
noncomputable def cDSk16 : Ctx := cDSk15.addPlain 156 (plainT A_thumb_put G_thumb_put S_thumb_put V_thumb_put)
theorem cDSk16_good : Av.Good cDSk16 := cDSk15_good.fnP S_thumb_put T_thumb_put G_thumb_put V_thumb_put 2 6 (by kernel_rfl) (fun x => by kernel_rfl) ok_thumb_put
noncomputable def cDSk17 : Ctx := cDSk16.addPlain 115 (plainT A_thumb_shifted G_thumb_shifted S_thumb_shifted V_thumb_shifted)
theorem cDSk17_good : Av.Good cDSk17 := cDSk16_good.fnP S_thumb_shifted T_thumb_shifted G_thumb_shifted V_thumb_shifted 4 8 (by kernel_rfl) (fun x => by kernel_rfl) ok_thumb_shifted
noncomputable def cDSk18 : Ctx := cDSk17.addPlain 114 (plainT A_thumb_move G_thumb_move S_thumb_move V_thumb_move)
theorem cDSk18_good : Av.Good cDSk18 := cDSk17_good.fnP S_thumb_move T_thumb_move G_thumb_move V_thumb_move 4 8 (by kernel_rfl) (fun x => by kernel_rfl) ok_thumb_move
noncomputable def cDSk19 : Ctx := cDSk18.addPlain 157 (plainT A_thumb_short G_thumb_short S_thumb_short V_thumb_short)
theorem cDSk19_good : Av.Good cDSk19 := cDSk18_good.fnP S_thumb_short T_thumb_short G_thumb_short V_thumb_short 4 8 (by kernel_rfl) (fun x => by kernel_rfl) ok_thumb_short
noncomputable def cDSk20 : Ctx := cDSk19.addPlain 158 (plainT A_thumb_wide G_thumb_wide S_thumb_wide V_thumb_wide)
theorem cDSk20_good : Av.Good cDSk20 := cDSk19_good.fnP S_thumb_wide T_thumb_wide G_thumb_wide V_thumb_wide 4 8 (by kernel_rfl) (fun x => by kernel_rfl) ok_thumb_wide
noncomputable def cDSk21 : Ctx := cDSk20.addPlain 116 (plainT A_thumb_others G_thumb_others S_thumb_others V_thumb_others)
theorem cDSk21_good : Av.Good cDSk21 := cDSk20_good.fnP S_thumb_others T_thumb_others G_thumb_others V_thumb_others 4 8 (by kernel_rfl) (fun x => by kernel_rfl) ok_thumb_others
noncomputable def cDSk22 : Ctx := cDSk21.addPlain 60 (plainT A_thumb_bits G_thumb_bits S_thumb_bits V_thumb_bits)
theorem cDSk22_good : Av.Good cDSk22 := cDSk21_good.fnP S_thumb_bits T_thumb_bits G_thumb_bits V_thumb_bits 4 8 (by kernel_rfl) (fun x => by kernel_rfl) ok_thumb_bits
noncomputable def cDSk23 : Ctx := cDSk22.addPlain 25 (plainT A_thumb_Size G_thumb_Size S_thumb_Size V_thumb_Size)
theorem cDSk23_good : Av.Good cDSk23 := cDSk22_good.fnP S_thumb_Size T_thumb_Size G_thumb_Size V_thumb_Size 4 8 (by kernel_rfl) (fun x => by kernel_rfl) ok_thumb_Size
noncomputable def cDSk24 : Ctx := cDSk23.addPlain 49 (plainT A_hauberkref02_Size G_hauberkref02_Size S_hauberkref02_Size V_hauberkref02_Size)
theorem cDSk24_good : Av.Good cDSk24 := cDSk23_good.fnP S_hauberkref02_Size T_hauberkref02_Size G_hauberkref02_Size V_hauberkref02_Size 2 8 (by kernel_rfl) (fun x => by kernel_rfl) ok_hauberkref02_Size
noncomputable def cDSk25 : Ctx := cDSk24.addPlain 45 (plainT A_word_Wrap G_word_Wrap S_word_Wrap V_word_Wrap)
theorem cDSk25_good : Av.Good cDSk25 := cDSk24_good.fnP S_word_Wrap T_word_Wrap G_word_Wrap V_word_Wrap 2 8 (by kernel_rfl) (fun x => by kernel_rfl) ok_word_Wrap
noncomputable def cDSk26 : Ctx := cDSk25.addPlain 162 (plainT A_word_many G_word_many S_word_many V_word_many)
theorem cDSk26_good : Av.Good cDSk26 := cDSk25_good.fnP S_word_many T_word_many G_word_many V_word_many 2 8 (by kernel_rfl) (fun x => by kernel_rfl) ok_word_many
noncomputable def cDSk27 : Ctx := cDSk26.addPlain 149 (plainT A_word_Add G_word_Add S_word_Add V_word_Add)
theorem cDSk27_good : Av.Good cDSk27 := cDSk26_good.fnP S_word_Add T_word_Add G_word_Add V_word_Add 2 8 (by kernel_rfl) (fun x => by kernel_rfl) ok_word_Add
noncomputable def cDSk28 : Ctx := cDSk27.addPlain 150 (plainT A_word_Sub G_word_Sub S_word_Sub V_word_Sub)
theorem cDSk28_good : Av.Good cDSk28 := cDSk27_good.fnP S_word_Sub T_word_Sub G_word_Sub V_word_Sub 2 8 (by kernel_rfl) (fun x => by kernel_rfl) ok_word_Sub
noncomputable def cDSk29 : Ctx := cDSk28.addPlain 151 (plainT A_word_product G_word_product S_word_product V_word_product)
theorem cDSk29_good : Av.Good cDSk29 := cDSk28_good.fnP S_word_product T_word_product G_word_product V_word_product 2 8 (by kernel_rfl) (fun x => by kernel_rfl) ok_word_product
noncomputable def cDSk30 : Ctx := cDSk29.addPlain 94 (plainT A_word_Mul G_word_Mul S_word_Mul V_word_Mul)
theorem cDSk30_good : Av.Good cDSk30 := cDSk29_good.fnP S_word_Mul T_word_Mul G_word_Mul V_word_Mul 2 8 (by kernel_rfl) (fun x => by kernel_rfl) ok_word_Mul
noncomputable def cDSk31 : Ctx := cDSk30.addPlain 95 (plainT A_word_High G_word_High S_word_High V_word_High)
theorem cDSk31_good : Av.Good cDSk31 := cDSk30_good.fnP S_word_High T_word_High G_word_High V_word_High 2 8 (by kernel_rfl) (fun x => by kernel_rfl) ok_word_High
noncomputable def cDSk32 : Ctx := cDSk31.addPlain 92 (plainT A_word_Not G_word_Not S_word_Not V_word_Not)
theorem cDSk32_good : Av.Good cDSk32 := cDSk31_good.fnP S_word_Not T_word_Not G_word_Not V_word_Not 2 8 (by kernel_rfl) (fun x => by kernel_rfl) ok_word_Not
noncomputable def cDSk33 : Ctx := cDSk32.addPlain 146 (plainT A_word_And G_word_And S_word_And V_word_And)
theorem cDSk33_good : Av.Good cDSk33 := cDSk32_good.fnP S_word_And T_word_And G_word_And V_word_And 2 8 (by kernel_rfl) (fun x => by kernel_rfl) ok_word_And
noncomputable def cDSk34 : Ctx := cDSk33.addPlain 147 (plainT A_word_Or G_word_Or S_word_Or V_word_Or)
theorem cDSk34_good : Av.Good cDSk34 := cDSk33_good.fnP S_word_Or T_word_Or G_word_Or V_word_Or 2 8 (by kernel_rfl) (fun x => by kernel_rfl) ok_word_Or
noncomputable def cDSk35 : Ctx := cDSk34.addPlain 148 (plainT A_word_Xor G_word_Xor S_word_Xor V_word_Xor)
theorem cDSk35_good : Av.Good cDSk35 := cDSk34_good.fnP S_word_Xor T_word_Xor G_word_Xor V_word_Xor 2 8 (by kernel_rfl) (fun x => by kernel_rfl) ok_word_Xor
noncomputable def cDSk36 : Ctx := cDSk35.addPlain 142 (plainT A_word_Shl G_word_Shl S_word_Shl V_word_Shl)
theorem cDSk36_good : Av.Good cDSk36 := cDSk35_good.fnP S_word_Shl T_word_Shl G_word_Shl V_word_Shl 2 8 (by kernel_rfl) (fun x => by kernel_rfl) ok_word_Shl
noncomputable def cDSk37 : Ctx := cDSk36.addPlain 143 (plainT A_word_Shr G_word_Shr S_word_Shr V_word_Shr)
theorem cDSk37_good : Av.Good cDSk37 := cDSk36_good.fnP S_word_Shr T_word_Shr G_word_Shr V_word_Shr 2 8 (by kernel_rfl) (fun x => by kernel_rfl) ok_word_Shr
noncomputable def cDSk38 : Ctx := cDSk37.addPlain 144 (plainT A_word_Sar G_word_Sar S_word_Sar V_word_Sar)
theorem cDSk38_good : Av.Good cDSk38 := cDSk37_good.fnP S_word_Sar T_word_Sar G_word_Sar V_word_Sar 2 8 (by kernel_rfl) (fun x => by kernel_rfl) ok_word_Sar
noncomputable def cDSk39 : Ctx := cDSk38.addPlain 145 (plainT A_word_Ror G_word_Ror S_word_Ror V_word_Ror)
theorem cDSk39_good : Av.Good cDSk39 := cDSk38_good.fnP S_word_Ror T_word_Ror G_word_Ror V_word_Ror 2 8 (by kernel_rfl) (fun x => by kernel_rfl) ok_word_Ror
noncomputable def cDSk40 : Ctx := cDSk39.addPlain 141 (plainT A_word_Select G_word_Select S_word_Select V_word_Select)
theorem cDSk40_good : Av.Good cDSk40 := cDSk39_good.fnP S_word_Select T_word_Select G_word_Select V_word_Select 2 8 (by kernel_rfl) (fun x => by kernel_rfl) ok_word_Select
noncomputable def cDSk41 : Ctx := cDSk40.addPlain 152 (plainT A_word_Bit G_word_Bit S_word_Bit V_word_Bit)
theorem cDSk41_good : Av.Good cDSk41 := cDSk40_good.fnP S_word_Bit T_word_Bit G_word_Bit V_word_Bit 2 8 (by kernel_rfl) (fun x => by kernel_rfl) ok_word_Bit
noncomputable def cDSk42 : Ctx := cDSk41.addPlain 48 (plainT A_hauberkref01_Wrap G_hauberkref01_Wrap S_hauberkref01_Wrap V_hauberkref01_Wrap)
theorem cDSk42_good : Av.Good cDSk42 := cDSk41_good.fnP S_hauberkref01_Wrap T_hauberkref01_Wrap G_hauberkref01_Wrap V_hauberkref01_Wrap 2 8 (by kernel_rfl) (fun x => by kernel_rfl) ok_hauberkref01_Wrap
noncomputable def cDSk43 : Ctx := cDSk42.addPlain 101 (plainT A_hauberkref01_many G_hauberkref01_many S_hauberkref01_many V_hauberkref01_many)
theorem cDSk43_good : Av.Good cDSk43 := cDSk42_good.fnP S_hauberkref01_many T_hauberkref01_many G_hauberkref01_many V_hauberkref01_many 2 8 (by kernel_rfl) (fun x => by kernel_rfl) ok_hauberkref01_many
noncomputable def cDSk44 : Ctx := cDSk43.addLoop 100 3 L_hauberkref01_power_3.toT.toLoop
theorem cDSk44_good : Av.Good cDSk44 := cDSk43_good.loopN L_hauberkref01_power_3 2 8 (by kernel_rfl) (fun _ _ => rfl) (fun x y s m K => by kernel_rfl) (fun x y s s' K e => by kernel_rfl)
noncomputable def cDSk45 : Ctx := cDSk44.addPlain 100 (plainT A_hauberkref01_power G_hauberkref01_power S_hauberkref01_power V_hauberkref01_power)
theorem cDSk45_good : Av.Good cDSk45 := cDSk44_good.fnP S_hauberkref01_power T_hauberkref01_power G_hauberkref01_power V_hauberkref01_power 2 8 (by kernel_rfl) (fun x => by kernel_rfl) ok_hauberkref01_power
noncomputable def cDSk46 : Ctx := cDSk45.addPlain 110 (plainT A_hauberkref01_Add G_hauberkref01_Add S_hauberkref01_Add V_hauberkref01_Add)
theorem cDSk46_good : Av.Good cDSk46 := cDSk45_good.fnP S_hauberkref01_Add T_hauberkref01_Add G_hauberkref01_Add V_hauberkref01_Add 2 8 (by kernel_rfl) (fun x => by kernel_rfl) ok_hauberkref01_Add
noncomputable def cDSk47 : Ctx := cDSk46.addPlain 53 (plainT A_hauberkref01_Sub G_hauberkref01_Sub S_hauberkref01_Sub V_hauberkref01_Sub)
theorem cDSk47_good : Av.Good cDSk47 := cDSk46_good.fnP S_hauberkref01_Sub T_hauberkref01_Sub G_hauberkref01_Sub V_hauberkref01_Sub 2 8 (by kernel_rfl) (fun x => by kernel_rfl) ok_hauberkref01_Sub
noncomputable def cDSk48 : Ctx := cDSk47.addPlain 111 (plainT A_hauberkref01_Mul G_hauberkref01_Mul S_hauberkref01_Mul V_hauberkref01_Mul)
theorem cDSk48_good : Av.Good cDSk48 := cDSk47_good.fnP S_hauberkref01_Mul T_hauberkref01_Mul G_hauberkref01_Mul V_hauberkref01_Mul 2 8 (by kernel_rfl) (fun x => by kernel_rfl) ok_hauberkref01_Mul
noncomputable def cDSk49 : Ctx := cDSk48.addPlain 55 (plainT A_hauberkref01_High G_hauberkref01_High S_hauberkref01_High V_hauberkref01_High)
theorem cDSk49_good : Av.Good cDSk49 := cDSk48_good.fnP S_hauberkref01_High T_hauberkref01_High G_hauberkref01_High V_hauberkref01_High 2 8 (by kernel_rfl) (fun x => by kernel_rfl) ok_hauberkref01_High
noncomputable def cDSk50 : Ctx := cDSk49.addPlain 52 (plainT A_hauberkref01_Bit G_hauberkref01_Bit S_hauberkref01_Bit V_hauberkref01_Bit)
theorem cDSk50_good : Av.Good cDSk50 := cDSk49_good.fnP S_hauberkref01_Bit T_hauberkref01_Bit G_hauberkref01_Bit V_hauberkref01_Bit 2 8 (by kernel_rfl) (fun x => by kernel_rfl) ok_hauberkref01_Bit
noncomputable def cDSk51 : Ctx := cDSk50.addLoop 154 3 L_hauberkref01_three_3.toT.toLoop
theorem cDSk51_good : Av.Good cDSk51 := cDSk50_good.loopN L_hauberkref01_three_3 2 8 (by kernel_rfl) (fun _ _ => rfl) (fun x y s m K => by kernel_rfl) (fun x y s s' K e => by kernel_rfl)
noncomputable def cDSk52 : Ctx := cDSk51.addPlain 154 (plainT A_hauberkref01_three G_hauberkref01_three S_hauberkref01_three V_hauberkref01_three)
theorem cDSk52_good : Av.Good cDSk52 := cDSk51_good.fnP S_hauberkref01_three T_hauberkref01_three G_hauberkref01_three V_hauberkref01_three 2 8 (by kernel_rfl) (fun x => by kernel_rfl) ok_hauberkref01_three
noncomputable def cDSk53 : Ctx := cDSk52.addLoop 104 3 L_hauberkref01_Sar_3.toT.toLoop
theorem cDSk53_good : Av.Good cDSk53 := cDSk52_good.loopN L_hauberkref01_Sar_3 2 8 (by kernel_rfl) (fun _ _ => rfl) (fun x y s m K => by kernel_rfl) (fun x y s s' K e => by kernel_rfl)
noncomputable def cDSk54 : Ctx := cDSk53.addPlain 104 (plainT A_hauberkref01_Sar G_hauberkref01_Sar S_hauberkref01_Sar V_hauberkref01_Sar)
theorem cDSk54_good : Av.Good cDSk54 := cDSk53_good.fnP S_hauberkref01_Sar T_hauberkref01_Sar G_hauberkref01_Sar V_hauberkref01_Sar 2 8 (by kernel_rfl) (fun x => by kernel_rfl) ok_hauberkref01_Sar
noncomputable def cDSk55 : Ctx := cDSk54.addLoop 105 3 L_hauberkref01_Ror_3.toT.toLoop
theorem cDSk55_good : Av.Good cDSk55 := cDSk54_good.loopN L_hauberkref01_Ror_3 2 8 (by kernel_rfl) (fun _ _ => rfl) (fun x y s m K => by kernel_rfl) (fun x y s s' K e => by kernel_rfl)
noncomputable def cDSk56 : Ctx := cDSk55.addPlain 105 (plainT A_hauberkref01_Ror G_hauberkref01_Ror S_hauberkref01_Ror V_hauberkref01_Ror)
theorem cDSk56_good : Av.Good cDSk56 := cDSk55_good.fnP S_hauberkref01_Ror T_hauberkref01_Ror G_hauberkref01_Ror V_hauberkref01_Ror 2 8 (by kernel_rfl) (fun x => by kernel_rfl) ok_hauberkref01_Ror
noncomputable def cDSk57 : Ctx := cDSk56.addPlain 106 (plainT A_hauberkref01_Not G_hauberkref01_Not S_hauberkref01_Not V_hauberkref01_Not)
theorem cDSk57_good : Av.Good cDSk57 := cDSk56_good.fnP S_hauberkref01_Not T_hauberkref01_Not G_hauberkref01_Not V_hauberkref01_Not 2 8 (by kernel_rfl) (fun x => by kernel_rfl) ok_hauberkref01_Not
noncomputable def cDSk58 : Ctx := cDSk57.addPlain 107 (plainT A_hauberkref01_And G_hauberkref01_And S_hauberkref01_And V_hauberkref01_And)
theorem cDSk58_good : Av.Good cDSk58 := cDSk57_good.fnP S_hauberkref01_And T_hauberkref01_And G_hauberkref01_And V_hauberkref01_And 2 8 (by kernel_rfl) (fun x => by kernel_rfl) ok_hauberkref01_And
noncomputable def cDSk59 : Ctx := cDSk58.addPlain 108 (plainT A_hauberkref01_Or G_hauberkref01_Or S_hauberkref01_Or V_hauberkref01_Or)
theorem cDSk59_good : Av.Good cDSk59 := cDSk58_good.fnP S_hauberkref01_Or T_hauberkref01_Or G_hauberkref01_Or V_hauberkref01_Or 2 8 (by kernel_rfl) (fun x => by kernel_rfl) ok_hauberkref01_Or
noncomputable def cDSk60 : Ctx := cDSk59.addPlain 109 (plainT A_hauberkref01_Xor G_hauberkref01_Xor S_hauberkref01_Xor V_hauberkref01_Xor)
theorem cDSk60_good : Av.Good cDSk60 := cDSk59_good.fnP S_hauberkref01_Xor T_hauberkref01_Xor G_hauberkref01_Xor V_hauberkref01_Xor 2 8 (by kernel_rfl) (fun x => by kernel_rfl) ok_hauberkref01_Xor
noncomputable def cDSk61 : Ctx := cDSk60.addPlain 102 (plainT A_hauberkref01_Shl G_hauberkref01_Shl S_hauberkref01_Shl V_hauberkref01_Shl)
theorem cDSk61_good : Av.Good cDSk61 := cDSk60_good.fnP S_hauberkref01_Shl T_hauberkref01_Shl G_hauberkref01_Shl V_hauberkref01_Shl 2 8 (by kernel_rfl) (fun x => by kernel_rfl) ok_hauberkref01_Shl
noncomputable def cDSk62 : Ctx := cDSk61.addPlain 103 (plainT A_hauberkref01_Shr G_hauberkref01_Shr S_hauberkref01_Shr V_hauberkref01_Shr)
theorem cDSk62_good : Av.Good cDSk62 := cDSk61_good.fnP S_hauberkref01_Shr T_hauberkref01_Shr G_hauberkref01_Shr V_hauberkref01_Shr 2 8 (by kernel_rfl) (fun x => by kernel_rfl) ok_hauberkref01_Shr
noncomputable def cDSk63 : Ctx := cDSk62.addPlain 155 (plainT A_hauberkref01_Flip G_hauberkref01_Flip S_hauberkref01_Flip V_hauberkref01_Flip)
theorem cDSk63_good : Av.Good cDSk63 := cDSk62_good.fnP S_hauberkref01_Flip T_hauberkref01_Flip G_hauberkref01_Flip V_hauberkref01_Flip 2 8 (by kernel_rfl) (fun x => by kernel_rfl) ok_hauberkref01_Flip
noncomputable def cDSk64 : Ctx := cDSk63.addPlain 21 (plainT A_cpu_Holds G_cpu_Holds S_cpu_Holds V_cpu_Holds)
theorem cDSk64_good : Av.Good cDSk64 := cDSk63_good.fnP S_cpu_Holds T_cpu_Holds G_cpu_Holds V_cpu_Holds 2 8 (by kernel_rfl) (fun x => by kernel_rfl) ok_cpu_Holds
noncomputable def cDSk65 : Ctx := cDSk64.addPlain 22 (plainT A_hauberkref08_Holds G_hauberkref08_Holds S_hauberkref08_Holds V_hauberkref08_Holds)
theorem cDSk65_good : Av.Good cDSk65 := cDSk64_good.fnP S_hauberkref08_Holds T_hauberkref08_Holds G_hauberkref08_Holds V_hauberkref08_Holds 2 8 (by kernel_rfl) (fun x => by kernel_rfl) ok_hauberkref08_Holds
noncomputable def cDSk66 : Ctx := cDSk65.addPlain 50 (plainT A_hauberkref08_Taken G_hauberkref08_Taken S_hauberkref08_Taken V_hauberkref08_Taken)
theorem cDSk66_good : Av.Good cDSk66 := cDSk65_good.fnP S_hauberkref08_Taken T_hauberkref08_Taken G_hauberkref08_Taken V_hauberkref08_Taken 2 8 (by kernel_rfl) (fun x => by kernel_rfl) ok_hauberkref08_Taken
noncomputable def cDSk67 : Ctx := cDSk66.addPlain 43 (plainT A_cpu_goes G_cpu_goes S_cpu_goes V_cpu_goes)
theorem cDSk67_good : Av.Good cDSk67 := cDSk66_good.fnP S_cpu_goes T_cpu_goes G_cpu_goes V_cpu_goes 2 8 (by kernel_rfl) (fun x => by kernel_rfl) ok_cpu_goes
noncomputable def cDSk68 : Ctx := cDSk67.addLoop 42 2 L_cpu_words_2.toT.toLoop
theorem cDSk68_good : Av.Good cDSk68 := cDSk67_good.loopN L_cpu_words_2 2 8 (by kernel_rfl) (fun _ _ => rfl) (fun x y s m K => by kernel_rfl) (fun x y s s' K e => by kernel_rfl)
noncomputable def cDSk69 : Ctx := cDSk68.addLoop 46 2 L_hauberkref08_Words_2.toT.toLoop
theorem cDSk69_good : Av.Good cDSk69 := cDSk68_good.loopN L_hauberkref08_Words_2 2 8 (by kernel_rfl) (fun _ _ => rfl) (fun x y s m K => by kernel_rfl) (fun x y s s' K e => by kernel_rfl)
noncomputable def cDSk70 : Ctx := cDSk69.addPlain 42 (plainT A_cpu_words G_cpu_words S_cpu_words V_cpu_words)
theorem cDSk70_good : Av.Good cDSk70 := cDSk69_good.fnP S_cpu_words T_cpu_words G_cpu_words V_cpu_words 2 8 (by kernel_rfl) (fun x => by kernel_rfl) ok_cpu_words
noncomputable def cDSk71 : Ctx := cDSk70.addPlain 46 (plainT A_hauberkref08_Words G_hauberkref08_Words S_hauberkref08_Words V_hauberkref08_Words)
theorem cDSk71_good : Av.Good cDSk71 := cDSk70_good.fnP S_hauberkref08_Words T_hauberkref08_Words G_hauberkref08_Words V_hauberkref08_Words 2 8 (by kernel_rfl) (fun x => by kernel_rfl) ok_hauberkref08_Words
noncomputable def cDSk72 : Ctx := cDSk71.addPlain 90 (plainT A_cpu_insert G_cpu_insert S_cpu_insert V_cpu_insert)
theorem cDSk72_good : Av.Good cDSk72 := cDSk71_good.fnP S_cpu_insert T_cpu_insert G_cpu_insert V_cpu_insert 2 8 (by kernel_rfl) (fun x => by kernel_rfl) ok_cpu_insert
noncomputable def cDSk73 : Ctx := cDSk72.addPlain 91 (plainT A_cpu_shifted G_cpu_shifted S_cpu_shifted V_cpu_shifted)
theorem cDSk73_good : Av.Good cDSk73 := cDSk72_good.fnP S_cpu_shifted T_cpu_shifted G_cpu_shifted V_cpu_shifted 2 8 (by kernel_rfl) (fun x => by kernel_rfl) ok_cpu_shifted
noncomputable def cDSk74 : Ctx := cDSk73.addPlain 93 (plainT A_cpu_two G_cpu_two S_cpu_two V_cpu_two)
theorem cDSk74_good : Av.Good cDSk74 := cDSk73_good.fnP S_cpu_two T_cpu_two G_cpu_two V_cpu_two 2 8 (by kernel_rfl) (fun x => by kernel_rfl) ok_cpu_two
noncomputable def cDSk75 : Ctx := cDSk74.addPlain 96 (plainT A_cpu_compare G_cpu_compare S_cpu_compare V_cpu_compare)
theorem cDSk75_good : Av.Good cDSk75 := cDSk74_good.fnP S_cpu_compare T_cpu_compare G_cpu_compare V_cpu_compare 2 8 (by kernel_rfl) (fun x => by kernel_rfl) ok_cpu_compare
noncomputable def cDSk76 : Ctx := cDSk75.addPlain 51 (plainT A_hauberkref08_signed G_hauberkref08_signed S_hauberkref08_signed V_hauberkref08_signed)
theorem cDSk76_good : Av.Good cDSk76 := cDSk75_good.fnP S_hauberkref08_signed T_hauberkref08_signed G_hauberkref08_signed V_hauberkref08_signed 2 8 (by kernel_rfl) (fun x => by kernel_rfl) ok_hauberkref08_signed
noncomputable def cDSk77 : Ctx := cDSk76.addLoop 112 2 L_hauberkref08_put_2.toT.toLoop
theorem cDSk77_good : Av.Good cDSk77 := cDSk76_good.loopN L_hauberkref08_put_2 2 8 (by kernel_rfl) (fun _ _ => rfl) (fun x y s m K => by kernel_rfl) (fun x y s s' K e => by kernel_rfl)
noncomputable def cDSk78 : Ctx := cDSk77.addPlain 112 (plainT A_hauberkref08_put G_hauberkref08_put S_hauberkref08_put V_hauberkref08_put)
theorem cDSk78_good : Av.Good cDSk78 := cDSk77_good.fnP S_hauberkref08_put T_hauberkref08_put G_hauberkref08_put V_hauberkref08_put 2 8 (by kernel_rfl) (fun x => by kernel_rfl) ok_hauberkref08_put
noncomputable def cDSk79 : Ctx := cDSk78.addPlain 44 (plainT A_cpu_makes G_cpu_makes S_cpu_makes V_cpu_makes)
theorem cDSk79_good : Av.Good cDSk79 := cDSk78_good.fnP S_cpu_makes T_cpu_makes G_cpu_makes V_cpu_makes 2 8 (by kernel_rfl) (fun x => by kernel_rfl) ok_cpu_makes
noncomputable def cDSk80 : Ctx := cDSk79.addPlain 17 (plainT A_cpu_Access G_cpu_Access S_cpu_Access V_cpu_Access)
theorem cDSk80_good : Av.Good cDSk80 := cDSk79_good.fnP S_cpu_Access T_cpu_Access G_cpu_Access V_cpu_Access 2 8 (by kernel_rfl) (fun x => by kernel_rfl) ok_cpu_Access
noncomputable def cDSk81 : Ctx := cDSk80.addPlain 54 (plainT A_hauberkref08_value G_hauberkref08_value S_hauberkref08_value V_hauberkref08_value)
theorem cDSk81_good : Av.Good cDSk81 := cDSk80_good.fnP S_hauberkref08_value T_hauberkref08_value G_hauberkref08_value V_hauberkref08_value 2 8 (by kernel_rfl) (fun x => by kernel_rfl) ok_hauberkref08_value
noncomputable def cDSk82 : Ctx := cDSk81.addPlain 18 (plainT A_hauberkref08_Access G_hauberkref08_Access S_hauberkref08_Access V_hauberkref08_Access)
theorem cDSk82_good : Av.Good cDSk82 := cDSk81_good.fnP S_hauberkref08_Access T_hauberkref08_Access G_hauberkref08_Access V_hauberkref08_Access 2 8 (by kernel_rfl) (fun x => by kernel_rfl) ok_hauberkref08_Access
noncomputable def cDSk83 : Ctx := cDSk82.addPlain 14 (plainT A_cpu_Step G_cpu_Step S_cpu_Step V_cpu_Step)
theorem cDSk83_good : Av.Good cDSk83 := cDSk82_good.fnP S_cpu_Step T_cpu_Step G_cpu_Step V_cpu_Step 2 8 (by kernel_rfl) (fun x => by kernel_rfl) ok_cpu_Step
noncomputable def cDSk84 : Ctx := cDSk83.addPlain 19 (plainT A_cpu_Cycles G_cpu_Cycles S_cpu_Cycles V_cpu_Cycles)
theorem cDSk84_good : Av.Good cDSk84 := cDSk83_good.fnP S_cpu_Cycles T_cpu_Cycles G_cpu_Cycles V_cpu_Cycles 2 8 (by kernel_rfl) (fun x => by kernel_rfl) ok_cpu_Cycles
noncomputable def cDSk85 : Ctx := cDSk84.addPlain 15 (plainT A_hauberkref08_Step G_hauberkref08_Step S_hauberkref08_Step V_hauberkref08_Step)
theorem cDSk85_good : Av.Good cDSk85 := cDSk84_good.fnP S_hauberkref08_Step T_hauberkref08_Step G_hauberkref08_Step V_hauberkref08_Step 2 8 (by kernel_rfl) (fun x => by kernel_rfl) ok_hauberkref08_Step
noncomputable def cDSk86 : Ctx := cDSk85.addPlain 20 (plainT A_hauberkref08_Cycles G_hauberkref08_Cycles S_hauberkref08_Cycles V_hauberkref08_Cycles)
theorem cDSk86_good : Av.Good cDSk86 := cDSk85_good.fnP S_hauberkref08_Cycles T_hauberkref08_Cycles G_hauberkref08_Cycles V_hauberkref08_Cycles 2 8 (by kernel_rfl) (fun x => by kernel_rfl) ok_hauberkref08_Cycles
noncomputable def cDSk87 : Ctx := cDSk86.addPlain 159 (plainT A_memmap_Check G_memmap_Check S_memmap_Check V_memmap_Check)
theorem cDSk87_good : Av.Good cDSk87 := cDSk86_good.fnP S_memmap_Check T_memmap_Check G_memmap_Check V_memmap_Check 2 8 (by kernel_rfl) (fun x => by kernel_rfl) ok_memmap_Check
noncomputable def cDSk88 : Ctx := cDSk87.addPlain 163 (plainT A_memmap_has G_memmap_has S_memmap_has V_memmap_has)
theorem cDSk88_good : Av.Good cDSk88 := cDSk87_good.fnP S_memmap_has T_memmap_has G_memmap_has V_memmap_has 2 8 (by kernel_rfl) (fun x => by kernel_rfl) ok_memmap_has
noncomputable def cDSk89 : Ctx := cDSk88.addLoop 160 6 L_memmap_Find_6.toT.toLoop
theorem cDSk89_good : Av.Good cDSk89 := cDSk88_good.loopN L_memmap_Find_6 2 8 (by kernel_rfl) (fun _ _ => rfl) (fun x y s m K => by kernel_rfl) (fun x y s s' K e => by kernel_rfl)
noncomputable def cDSk90 : Ctx := cDSk89.addPlain 160 (plainT A_memmap_Find G_memmap_Find S_memmap_Find V_memmap_Find)
theorem cDSk90_good : Av.Good cDSk90 := cDSk89_good.fnP S_memmap_Find T_memmap_Find G_memmap_Find V_memmap_Find 2 8 (by kernel_rfl) (fun x => by kernel_rfl) ok_memmap_Find
noncomputable def cDSk91 : Ctx := cDSk90.addPlain 120 (plainT A_word_Bytes G_word_Bytes S_word_Bytes V_word_Bytes)
theorem cDSk91_good : Av.Good cDSk91 := cDSk90_good.fnP S_word_Bytes T_word_Bytes G_word_Bytes V_word_Bytes 2 8 (by kernel_rfl) (fun x => by kernel_rfl) ok_word_Bytes
noncomputable def cDSk92 : Ctx := cDSk91.addLoop 66 6 L_memory_Memory_Load_6.toT.toLoop
theorem cDSk92_good : Av.Good cDSk92 := cDSk91_good.loopN L_memory_Memory_Load_6 2 8 (by kernel_rfl) (fun _ _ => rfl) (fun x y s m K => by kernel_rfl) (fun x y s s' K e => by kernel_rfl)
noncomputable def cDSk93 : Ctx := cDSk92.addBody 66 (bodyT SS_memory_Memory_Load HS_memory_Memory_Load S_memory_Memory_Load HT_memory_Memory_Load G_memory_Memory_Load V_memory_Memory_Load)
theorem cDSk93_good : Av.Good cDSk93 := cDSk92_good.fnB S_memory_Memory_Load T_memory_Memory_Load G_memory_Memory_Load V_memory_Memory_Load 2 8 (by kernel_rfl) (fun x y => by kernel_rfl) ok_memory_Memory_Load
noncomputable def cDSk94 : Ctx := cDSk93.addBody 64 (bodyT SS_memory_Memory_Store HS_memory_Memory_Store S_memory_Memory_Store HT_memory_Memory_Store G_memory_Memory_Store V_memory_Memory_Store)
theorem cDSk94_good : Av.Good cDSk94 := cDSk93_good.fnB S_memory_Memory_Store T_memory_Memory_Store G_memory_Memory_Store V_memory_Memory_Store 2 8 (by kernel_rfl) (fun x y => by kernel_rfl) ok_memory_Memory_Store
noncomputable def cDSk95 : Ctx := cDSk94.addBody 67 (bodyT SS_memory_Memory_Region HS_memory_Memory_Region S_memory_Memory_Region HT_memory_Memory_Region G_memory_Memory_Region V_memory_Memory_Region)
theorem cDSk95_good : Av.Good cDSk95 := cDSk94_good.fnB S_memory_Memory_Region T_memory_Memory_Region G_memory_Memory_Region V_memory_Memory_Region 2 8 (by kernel_rfl) (fun x y => by kernel_rfl) ok_memory_Memory_Region
noncomputable def cDSk96 : Ctx := cDSk95.addPlain 118 (plainT A_memmap_Regions G_memmap_Regions S_memmap_Regions V_memmap_Regions)
theorem cDSk96_good : Av.Good cDSk96 := cDSk95_good.fnP S_memmap_Regions T_memmap_Regions G_memmap_Regions V_memmap_Regions 2 8 (by kernel_rfl) (fun x => by kernel_rfl) ok_memmap_Regions
noncomputable def cDSk97 : Ctx := cDSk96.addLoop 63 8 L_memory_New_8.toT.toLoop
theorem cDSk97_good : Av.Good cDSk97 := cDSk96_good.loopN L_memory_New_8 2 8 (by kernel_rfl) (fun _ _ => rfl) (fun x y s m K => by kernel_rfl) (fun x y s s' K e => by kernel_rfl)
noncomputable def cDSk98 : Ctx := cDSk97.addLoop 63 15 L_memory_New_15.toT.toLoop
theorem cDSk98_good : Av.Good cDSk98 := cDSk97_good.loopN L_memory_New_15 2 8 (by kernel_rfl) (fun _ _ => rfl) (fun x y s m K => by kernel_rfl) (fun x y s s' K e => by kernel_rfl)
noncomputable def cDSk99 : Ctx := cDSk98.addLoop 31 5 L_hauberklaw27_World_5.toT.toLoop
theorem cDSk99_good : Av.Good cDSk99 := cDSk98_good.loopN L_hauberklaw27_World_5 2 8 (by kernel_rfl) (fun _ _ => rfl) (fun x y s m K => by kernel_rfl) (fun x y s s' K e => by kernel_rfl)
noncomputable def cDSk100 : Ctx := cDSk99.addBody 31 (bodyT SS_hauberklaw27_World HS_hauberklaw27_World S_hauberklaw27_World HT_hauberklaw27_World G_hauberklaw27_World V_hauberklaw27_World)
theorem cDSk100_good : Av.Good cDSk100 := cDSk99_good.fnR S_hauberklaw27_World T_hauberklaw27_World G_hauberklaw27_World V_hauberklaw27_World 4 12 (by kernel_rfl) (fun x y => by kernel_rfl) ok_hauberklaw27_World
noncomputable def cDSk101 : Ctx := cDSk100.addPlain 65 (plainT A_hauberklaw27_hit G_hauberklaw27_hit S_hauberklaw27_hit V_hauberklaw27_hit)
theorem cDSk101_good : Av.Good cDSk101 := cDSk100_good.fnP S_hauberklaw27_hit T_hauberklaw27_hit G_hauberklaw27_hit V_hauberklaw27_hit 2 8 (by kernel_rfl) (fun x => by kernel_rfl) ok_hauberklaw27_hit
noncomputable def cDSk102 : Ctx := cDSk101.addLoop 32 6 L_hauberklaw27_Go_6.toT.toLoop
theorem cDSk102_good : Av.Good cDSk102 := cDSk101_good.loopN L_hauberklaw27_Go_6 2 8 (by kernel_rfl) (fun _ _ => rfl) (fun x y s m K => by kernel_rfl) (fun x y s s' K e => by kernel_rfl)
noncomputable def cDSk103 : Ctx := cDSk102.addLoop 32 3 L_hauberklaw27_Go_3.toT.toLoop
theorem cDSk103_good : Av.Good cDSk103 := cDSk102_good.loopN L_hauberklaw27_Go_3 2 8 (by kernel_rfl) (fun _ _ => rfl) (fun x y s m K => by kernel_rfl) (fun x y s s' K e => by kernel_rfl)
noncomputable def cDSk104 : Ctx := cDSk103.addBody 32 (bodyT SS_hauberklaw27_Go HS_hauberklaw27_Go S_hauberklaw27_Go HT_hauberklaw27_Go G_hauberklaw27_Go V_hauberklaw27_Go)
theorem cDSk104_good : Av.Good cDSk104 := cDSk103_good.fnB S_hauberklaw27_Go T_hauberklaw27_Go G_hauberklaw27_Go V_hauberklaw27_Go 2 8 (by kernel_rfl) (fun x y => by kernel_rfl) ok_hauberklaw27_Go
noncomputable def cDSk105 : Ctx := cDSk104.addPlain 29 (plainT A_hauberklaw28_lives G_hauberklaw28_lives S_hauberklaw28_lives V_hauberklaw28_lives)
theorem cDSk105_good : Av.Good cDSk105 := cDSk104_good.fnP S_hauberklaw28_lives T_hauberklaw28_lives G_hauberklaw28_lives V_hauberklaw28_lives 8 30 (by kernel_rfl) (fun x => by kernel_rfl) ok_hauberklaw28_lives
noncomputable def cDSk106 : Ctx := cDSk105.addPlain 27 (plainT A_dup_Safe G_dup_Safe S_dup_Safe V_dup_Safe)
theorem cDSk106_good : Av.Good cDSk106 := cDSk105_good.fnP S_dup_Safe T_dup_Safe G_dup_Safe V_dup_Safe 2 8 (by kernel_rfl) (fun x => by kernel_rfl) ok_dup_Safe
noncomputable def cDSk107 : Ctx := cDSk106.addLoop 30 3 L_dup_All_3.toT.toLoop
theorem cDSk107_good : Av.Good cDSk107 := cDSk106_good.loopN L_dup_All_3 2 8 (by kernel_rfl) (fun _ _ => rfl) (fun x y s m K => by kernel_rfl) (fun x y s s' K e => by kernel_rfl)
noncomputable def cDSk108 : Ctx := cDSk107.addPlain 30 (plainT A_dup_All G_dup_All S_dup_All V_dup_All)
theorem cDSk108_good : Av.Good cDSk108 := cDSk107_good.fnP S_dup_All T_dup_All G_dup_All V_dup_All 2 8 (by kernel_rfl) (fun x => by kernel_rfl) ok_dup_All
noncomputable def cDSk109 : Ctx := cDSk108.addLoop 10 5 L_hauberklaw28_DupSkips_5.toT.toLoop
theorem cDSk109_good : Av.Good cDSk109 := cDSk108_good.loopN L_hauberklaw28_DupSkips_5 2 8 (by kernel_rfl) (fun _ _ => rfl) (fun x y s m K => by kernel_rfl) (fun x y s s' K e => by kernel_rfl)
noncomputable def cDSk110 : Ctx := cDSk109.addLoop 10 13 L_hauberklaw28_DupSkips_13.toT.toLoop
theorem cDSk110_good : Av.Good cDSk110 := cDSk109_good.loopN L_hauberklaw28_DupSkips_13 2 8 (by kernel_rfl) (fun _ _ => rfl) (fun x y s m K => by kernel_rfl) (fun x y s s' K e => by kernel_rfl)
noncomputable def cDSk111 : Ctx := cDSk110.addLoop 10 24 L_hauberklaw28_DupSkips_24.toT.toLoop
theorem cDSk111_good : Av.Good cDSk111 := cDSk110_good.loopN L_hauberklaw28_DupSkips_24 2 8 (by kernel_rfl) (fun _ _ => rfl) (fun x y s m K => by kernel_rfl) (fun x y s s' K e => by kernel_rfl)
noncomputable def cDSk112 : Ctx := cDSk111.addLoop 10 29 L_hauberklaw28_DupSkips_29.toT.toLoop
theorem cDSk112_good : Av.Good cDSk112 := cDSk111_good.loopN L_hauberklaw28_DupSkips_29 2 8 (by kernel_rfl) (fun _ _ => rfl) (fun x y s m K => by kernel_rfl) (fun x y s s' K e => by kernel_rfl)
noncomputable def cDSk : Ctx := cDSk112
theorem cDSk_good : Av.Good cDSk := cDSk112_good
end Go.Proofs.Ytapfijocjgoilaa
