/- Texts of the proof, one behind the other. -/
import Derived.Test.YtamnhodjidmlcaaCampaignNoneK1
import Derived.Test.YtamnhodjidmlcaaCampaignNoneK2
import Derived.Test.YtamnhodjidmlcaaCampaignNoneK3
import Derived.Test.YtamnhodjidmlcaaCampaignNoneK5
import Derived.Test.YtamnhodjidmlcaaProg
/-! The functions that the statements reach, walked: chain Law34. Written by wip/tools/gen.py out of wip/conf/Law34.txt. -/
section
namespace Go.Proofs.Ytamnhodjidmlcaa
open Go Go.Av Go.Proofs
noncomputable def cLaw340 : Ctx := baseC Try.prog [109, 53, 85, 23, 48, 27, 113, 37, 61, 101]
theorem cLaw340_good : Av.Good cLaw340 := good_base (by kernel_rfl) (by kernel_rfl) (by kernel_rfl)
noncomputable def cLaw341 : Ctx := cLaw340.addPlain 82 (plainT A_thumb_within G_thumb_within S_thumb_within V_thumb_within)
theorem cLaw341_good : Av.Good cLaw341 := cLaw340_good.fnP S_thumb_within T_thumb_within G_thumb_within V_thumb_within 2 8 (by kernel_rfl) (fun x => by kernel_rfl) ok_thumb_within
noncomputable def cLaw342 : Ctx := cLaw341.addPlain 83 (plainT A_thumb_field G_thumb_field S_thumb_field V_thumb_field)
theorem cLaw342_good : Av.Good cLaw342 := cLaw341_good.fnP S_thumb_field T_thumb_field G_thumb_field V_thumb_field 2 8 (by kernel_rfl) (fun x => by kernel_rfl) ok_thumb_field
noncomputable def cLaw343 : Ctx := cLaw342.addPlain 81 (plainT A_thumb_formOf G_thumb_formOf S_thumb_formOf V_thumb_formOf)
theorem cLaw343_good : Av.Good cLaw343 := cLaw342_good.fnP S_thumb_formOf T_thumb_formOf G_thumb_formOf V_thumb_formOf 2 8 (by kernel_rfl) (fun x => by kernel_rfl) ok_thumb_formOf
noncomputable def cLaw344 : Ctx := cLaw343.addPlain 100 (plainT A_thumb_Reach G_thumb_Reach S_thumb_Reach V_thumb_Reach)
theorem cLaw344_good : Av.Good cLaw344 := cLaw343_good.fnP S_thumb_Reach T_thumb_Reach G_thumb_Reach V_thumb_Reach 3 8 (by kernel_rfl) (fun x => by kernel_rfl) ok_thumb_Reach
noncomputable def cLaw345 : Ctx := cLaw344.addPlain 80 (plainT A_thumb_branch G_thumb_branch S_thumb_branch V_thumb_branch)
theorem cLaw345_good : Av.Good cLaw345 := cLaw344_good.fnP S_thumb_branch T_thumb_branch G_thumb_branch V_thumb_branch 3 8 (by kernel_rfl) (fun x => by kernel_rfl) ok_thumb_branch
noncomputable def cLaw346 : Ctx := cLaw345.addPlain 66 (plainT A_thumb_Check G_thumb_Check S_thumb_Check V_thumb_Check)
theorem cLaw346_good : Av.Good cLaw346 := cLaw345_good.fnP S_thumb_Check T_thumb_Check G_thumb_Check V_thumb_Check 3 8 (by kernel_rfl) (fun x => by kernel_rfl) ok_thumb_Check
noncomputable def cLaw347 : Ctx := cLaw346.addPlain 116 (plainT A_thumb_put G_thumb_put S_thumb_put V_thumb_put)
theorem cLaw347_good : Av.Good cLaw347 := cLaw346_good.fnP S_thumb_put T_thumb_put G_thumb_put V_thumb_put 2 6 (by kernel_rfl) (fun x => by kernel_rfl) ok_thumb_put
noncomputable def cLaw348 : Ctx := cLaw347.addPlain 102 (plainT A_thumb_shifted G_thumb_shifted S_thumb_shifted V_thumb_shifted)
theorem cLaw348_good : Av.Good cLaw348 := cLaw347_good.fnP S_thumb_shifted T_thumb_shifted G_thumb_shifted V_thumb_shifted 4 8 (by kernel_rfl) (fun x => by kernel_rfl) ok_thumb_shifted
noncomputable def cLaw349 : Ctx := cLaw348.addPlain 101 (plainT A_thumb_move G_thumb_move S_thumb_move V_thumb_move)
theorem cLaw349_good : Av.Good cLaw349 := cLaw348_good.fnP S_thumb_move T_thumb_move G_thumb_move V_thumb_move 4 8 (by kernel_rfl) (fun x => by kernel_rfl) ok_thumb_move
noncomputable def cLaw3410 : Ctx := cLaw349.addPlain 117 (plainT A_thumb_short G_thumb_short S_thumb_short V_thumb_short)
theorem cLaw3410_good : Av.Good cLaw3410 := cLaw349_good.fnP S_thumb_short T_thumb_short G_thumb_short V_thumb_short 4 8 (by kernel_rfl) (fun x => by kernel_rfl) ok_thumb_short
noncomputable def cLaw3411 : Ctx := cLaw3410.addPlain 118 (plainT A_thumb_wide G_thumb_wide S_thumb_wide V_thumb_wide)
theorem cLaw3411_good : Av.Good cLaw3411 := cLaw3410_good.fnP S_thumb_wide T_thumb_wide G_thumb_wide V_thumb_wide 4 8 (by kernel_rfl) (fun x => by kernel_rfl) ok_thumb_wide
noncomputable def cLaw3412 : Ctx := cLaw3411.addPlain 103 (plainT A_thumb_others G_thumb_others S_thumb_others V_thumb_others)
theorem cLaw3412_good : Av.Good cLaw3412 := cLaw3411_good.fnP S_thumb_others T_thumb_others G_thumb_others V_thumb_others 4 8 (by kernel_rfl) (fun x => by kernel_rfl) ok_thumb_others
noncomputable def cLaw3413 : Ctx := cLaw3412.addPlain 86 (plainT A_thumb_bits G_thumb_bits S_thumb_bits V_thumb_bits)
theorem cLaw3413_good : Av.Good cLaw3413 := cLaw3412_good.fnP S_thumb_bits T_thumb_bits G_thumb_bits V_thumb_bits 4 8 (by kernel_rfl) (fun x => by kernel_rfl) ok_thumb_bits
noncomputable def cLaw3414 : Ctx := cLaw3413.addPlain 70 (plainT A_thumb_Size G_thumb_Size S_thumb_Size V_thumb_Size)
theorem cLaw3414_good : Av.Good cLaw3414 := cLaw3413_good.fnP S_thumb_Size T_thumb_Size G_thumb_Size V_thumb_Size 4 8 (by kernel_rfl) (fun x => by kernel_rfl) ok_thumb_Size
noncomputable def cLaw3415 : Ctx := cLaw3414.addPlain 47 (plainT A_word_Wrap G_word_Wrap S_word_Wrap V_word_Wrap)
theorem cLaw3415_good : Av.Good cLaw3415 := cLaw3414_good.fnP S_word_Wrap T_word_Wrap G_word_Wrap V_word_Wrap 2 8 (by kernel_rfl) (fun x => by kernel_rfl) ok_word_Wrap
noncomputable def cLaw3416 : Ctx := cLaw3415.addPlain 64 (plainT A_word_many G_word_many S_word_many V_word_many)
theorem cLaw3416_good : Av.Good cLaw3416 := cLaw3415_good.fnP S_word_many T_word_many G_word_many V_word_many 2 8 (by kernel_rfl) (fun x => by kernel_rfl) ok_word_many
noncomputable def cLaw3417 : Ctx := cLaw3416.addPlain 50 (plainT A_word_Add G_word_Add S_word_Add V_word_Add)
theorem cLaw3417_good : Av.Good cLaw3417 := cLaw3416_good.fnP S_word_Add T_word_Add G_word_Add V_word_Add 2 8 (by kernel_rfl) (fun x => by kernel_rfl) ok_word_Add
noncomputable def cLaw3418 : Ctx := cLaw3417.addPlain 111 (plainT A_word_Sub G_word_Sub S_word_Sub V_word_Sub)
theorem cLaw3418_good : Av.Good cLaw3418 := cLaw3417_good.fnP S_word_Sub T_word_Sub G_word_Sub V_word_Sub 2 8 (by kernel_rfl) (fun x => by kernel_rfl) ok_word_Sub
noncomputable def cLaw3419 : Ctx := cLaw3418.addPlain 112 (plainT A_word_product G_word_product S_word_product V_word_product)
theorem cLaw3419_good : Av.Good cLaw3419 := cLaw3418_good.fnP S_word_product T_word_product G_word_product V_word_product 2 8 (by kernel_rfl) (fun x => by kernel_rfl) ok_word_product
noncomputable def cLaw3420 : Ctx := cLaw3419.addPlain 90 (plainT A_word_Mul G_word_Mul S_word_Mul V_word_Mul)
theorem cLaw3420_good : Av.Good cLaw3420 := cLaw3419_good.fnP S_word_Mul T_word_Mul G_word_Mul V_word_Mul 2 8 (by kernel_rfl) (fun x => by kernel_rfl) ok_word_Mul
noncomputable def cLaw3421 : Ctx := cLaw3420.addPlain 91 (plainT A_word_High G_word_High S_word_High V_word_High)
theorem cLaw3421_good : Av.Good cLaw3421 := cLaw3420_good.fnP S_word_High T_word_High G_word_High V_word_High 2 8 (by kernel_rfl) (fun x => by kernel_rfl) ok_word_High
noncomputable def cLaw3422 : Ctx := cLaw3421.addPlain 28 (plainT A_word_Not G_word_Not S_word_Not V_word_Not)
theorem cLaw3422_good : Av.Good cLaw3422 := cLaw3421_good.fnP S_word_Not T_word_Not G_word_Not V_word_Not 2 8 (by kernel_rfl) (fun x => by kernel_rfl) ok_word_Not
noncomputable def cLaw3423 : Ctx := cLaw3422.addPlain 109 (plainT A_word_And G_word_And S_word_And V_word_And)
theorem cLaw3423_good : Av.Good cLaw3423 := cLaw3422_good.fnP S_word_And T_word_And G_word_And V_word_And 2 8 (by kernel_rfl) (fun x => by kernel_rfl) ok_word_And
noncomputable def cLaw3424 : Ctx := cLaw3423.addPlain 110 (plainT A_word_Or G_word_Or S_word_Or V_word_Or)
theorem cLaw3424_good : Av.Good cLaw3424 := cLaw3423_good.fnP S_word_Or T_word_Or G_word_Or V_word_Or 2 8 (by kernel_rfl) (fun x => by kernel_rfl) ok_word_Or
noncomputable def cLaw3425 : Ctx := cLaw3424.addPlain 63 (plainT A_word_Xor G_word_Xor S_word_Xor V_word_Xor)
theorem cLaw3425_good : Av.Good cLaw3425 := cLaw3424_good.fnP S_word_Xor T_word_Xor G_word_Xor V_word_Xor 2 8 (by kernel_rfl) (fun x => by kernel_rfl) ok_word_Xor
noncomputable def cLaw3426 : Ctx := cLaw3425.addPlain 105 (plainT A_word_Shl G_word_Shl S_word_Shl V_word_Shl)
theorem cLaw3426_good : Av.Good cLaw3426 := cLaw3425_good.fnP S_word_Shl T_word_Shl G_word_Shl V_word_Shl 2 8 (by kernel_rfl) (fun x => by kernel_rfl) ok_word_Shl
noncomputable def cLaw3427 : Ctx := cLaw3426.addPlain 106 (plainT A_word_Shr G_word_Shr S_word_Shr V_word_Shr)
theorem cLaw3427_good : Av.Good cLaw3427 := cLaw3426_good.fnP S_word_Shr T_word_Shr G_word_Shr V_word_Shr 2 8 (by kernel_rfl) (fun x => by kernel_rfl) ok_word_Shr
noncomputable def cLaw3428 : Ctx := cLaw3427.addPlain 107 (plainT A_word_Sar G_word_Sar S_word_Sar V_word_Sar)
theorem cLaw3428_good : Av.Good cLaw3428 := cLaw3427_good.fnP S_word_Sar T_word_Sar G_word_Sar V_word_Sar 2 8 (by kernel_rfl) (fun x => by kernel_rfl) ok_word_Sar
noncomputable def cLaw3429 : Ctx := cLaw3428.addPlain 108 (plainT A_word_Ror G_word_Ror S_word_Ror V_word_Ror)
theorem cLaw3429_good : Av.Good cLaw3429 := cLaw3428_good.fnP S_word_Ror T_word_Ror G_word_Ror V_word_Ror 2 8 (by kernel_rfl) (fun x => by kernel_rfl) ok_word_Ror
noncomputable def cLaw3430 : Ctx := cLaw3429.addPlain 104 (plainT A_word_Select G_word_Select S_word_Select V_word_Select)
theorem cLaw3430_good : Av.Good cLaw3430 := cLaw3429_good.fnP S_word_Select T_word_Select G_word_Select V_word_Select 2 8 (by kernel_rfl) (fun x => by kernel_rfl) ok_word_Select
noncomputable def cLaw3431 : Ctx := cLaw3430.addPlain 113 (plainT A_word_Bit G_word_Bit S_word_Bit V_word_Bit)
theorem cLaw3431_good : Av.Good cLaw3431 := cLaw3430_good.fnP S_word_Bit T_word_Bit G_word_Bit V_word_Bit 2 8 (by kernel_rfl) (fun x => by kernel_rfl) ok_word_Bit
noncomputable def cLaw3432 : Ctx := cLaw3431.addPlain 74 (plainT A_hauberkref01_Wrap G_hauberkref01_Wrap S_hauberkref01_Wrap V_hauberkref01_Wrap)
theorem cLaw3432_good : Av.Good cLaw3432 := cLaw3431_good.fnP S_hauberkref01_Wrap T_hauberkref01_Wrap G_hauberkref01_Wrap V_hauberkref01_Wrap 2 8 (by kernel_rfl) (fun x => by kernel_rfl) ok_hauberkref01_Wrap
noncomputable def cLaw3433 : Ctx := cLaw3432.addPlain 85 (plainT A_cpu_Holds G_cpu_Holds S_cpu_Holds V_cpu_Holds)
theorem cLaw3433_good : Av.Good cLaw3433 := cLaw3432_good.fnP S_cpu_Holds T_cpu_Holds G_cpu_Holds V_cpu_Holds 2 8 (by kernel_rfl) (fun x => by kernel_rfl) ok_cpu_Holds
noncomputable def cLaw3434 : Ctx := cLaw3433.addPlain 69 (plainT A_cpu_goes G_cpu_goes S_cpu_goes V_cpu_goes)
theorem cLaw3434_good : Av.Good cLaw3434 := cLaw3433_good.fnP S_cpu_goes T_cpu_goes G_cpu_goes V_cpu_goes 2 8 (by kernel_rfl) (fun x => by kernel_rfl) ok_cpu_goes
noncomputable def cLaw3435 : Ctx := cLaw3434.addLoop 67 2 L_cpu_words_2.toT.toLoop
theorem cLaw3435_good : Av.Good cLaw3435 := cLaw3434_good.loopN L_cpu_words_2 2 8 (by kernel_rfl) (fun _ _ => rfl) (fun x y s m K => by kernel_rfl) (fun x y s s' K e => by kernel_rfl)
noncomputable def cLaw3436 : Ctx := cLaw3435.addPlain 67 (plainT A_cpu_words G_cpu_words S_cpu_words V_cpu_words)
theorem cLaw3436_good : Av.Good cLaw3436 := cLaw3435_good.fnP S_cpu_words T_cpu_words G_cpu_words V_cpu_words 2 8 (by kernel_rfl) (fun x => by kernel_rfl) ok_cpu_words
noncomputable def cLaw3437 : Ctx := cLaw3436.addPlain 87 (plainT A_cpu_insert G_cpu_insert S_cpu_insert V_cpu_insert)
theorem cLaw3437_good : Av.Good cLaw3437 := cLaw3436_good.fnP S_cpu_insert T_cpu_insert G_cpu_insert V_cpu_insert 2 8 (by kernel_rfl) (fun x => by kernel_rfl) ok_cpu_insert
noncomputable def cLaw3438 : Ctx := cLaw3437.addPlain 88 (plainT A_cpu_shifted G_cpu_shifted S_cpu_shifted V_cpu_shifted)
theorem cLaw3438_good : Av.Good cLaw3438 := cLaw3437_good.fnP S_cpu_shifted T_cpu_shifted G_cpu_shifted V_cpu_shifted 2 8 (by kernel_rfl) (fun x => by kernel_rfl) ok_cpu_shifted
noncomputable def cLaw3439 : Ctx := cLaw3438.addPlain 89 (plainT A_cpu_two G_cpu_two S_cpu_two V_cpu_two)
theorem cLaw3439_good : Av.Good cLaw3439 := cLaw3438_good.fnP S_cpu_two T_cpu_two G_cpu_two V_cpu_two 2 8 (by kernel_rfl) (fun x => by kernel_rfl) ok_cpu_two
noncomputable def cLaw3440 : Ctx := cLaw3439.addPlain 92 (plainT A_cpu_compare G_cpu_compare S_cpu_compare V_cpu_compare)
theorem cLaw3440_good : Av.Good cLaw3440 := cLaw3439_good.fnP S_cpu_compare T_cpu_compare G_cpu_compare V_cpu_compare 2 8 (by kernel_rfl) (fun x => by kernel_rfl) ok_cpu_compare
noncomputable def cLaw3441 : Ctx := cLaw3440.addPlain 71 (plainT A_cpu_makes G_cpu_makes S_cpu_makes V_cpu_makes)
theorem cLaw3441_good : Av.Good cLaw3441 := cLaw3440_good.fnP S_cpu_makes T_cpu_makes G_cpu_makes V_cpu_makes 2 8 (by kernel_rfl) (fun x => by kernel_rfl) ok_cpu_makes
noncomputable def cLaw3442 : Ctx := cLaw3441.addPlain 51 (plainT A_cpu_Access G_cpu_Access S_cpu_Access V_cpu_Access)
theorem cLaw3442_good : Av.Good cLaw3442 := cLaw3441_good.fnP S_cpu_Access T_cpu_Access G_cpu_Access V_cpu_Access 2 8 (by kernel_rfl) (fun x => by kernel_rfl) ok_cpu_Access
noncomputable def cLaw3443 : Ctx := cLaw3442.addPlain 54 (plainT A_cpu_Step G_cpu_Step S_cpu_Step V_cpu_Step)
theorem cLaw3443_good : Av.Good cLaw3443 := cLaw3442_good.fnP S_cpu_Step T_cpu_Step G_cpu_Step V_cpu_Step 2 8 (by kernel_rfl) (fun x => by kernel_rfl) ok_cpu_Step
noncomputable def cLaw3444 : Ctx := cLaw3443.addPlain 53 (plainT A_cpu_Cycles G_cpu_Cycles S_cpu_Cycles V_cpu_Cycles)
theorem cLaw3444_good : Av.Good cLaw3444 := cLaw3443_good.fnP S_cpu_Cycles T_cpu_Cycles G_cpu_Cycles V_cpu_Cycles 2 8 (by kernel_rfl) (fun x => by kernel_rfl) ok_cpu_Cycles
noncomputable def cLaw3445 : Ctx := cLaw3444.addPlain 56 (plainT A_memmap_Check G_memmap_Check S_memmap_Check V_memmap_Check)
theorem cLaw3445_good : Av.Good cLaw3445 := cLaw3444_good.fnP S_memmap_Check T_memmap_Check G_memmap_Check V_memmap_Check 2 8 (by kernel_rfl) (fun x => by kernel_rfl) ok_memmap_Check
noncomputable def cLaw3446 : Ctx := cLaw3445.addPlain 93 (plainT A_memmap_has G_memmap_has S_memmap_has V_memmap_has)
theorem cLaw3446_good : Av.Good cLaw3446 := cLaw3445_good.fnP S_memmap_has T_memmap_has G_memmap_has V_memmap_has 2 8 (by kernel_rfl) (fun x => by kernel_rfl) ok_memmap_has
noncomputable def cLaw3447 : Ctx := cLaw3446.addLoop 75 6 L_memmap_Find_6.toT.toLoop
theorem cLaw3447_good : Av.Good cLaw3447 := cLaw3446_good.loopN L_memmap_Find_6 2 8 (by kernel_rfl) (fun _ _ => rfl) (fun x y s m K => by kernel_rfl) (fun x y s s' K e => by kernel_rfl)
noncomputable def cLaw3448 : Ctx := cLaw3447.addPlain 75 (plainT A_memmap_Find G_memmap_Find S_memmap_Find V_memmap_Find)
theorem cLaw3448_good : Av.Good cLaw3448 := cLaw3447_good.fnP S_memmap_Find T_memmap_Find G_memmap_Find V_memmap_Find 2 8 (by kernel_rfl) (fun x => by kernel_rfl) ok_memmap_Find
noncomputable def cLaw3449 : Ctx := cLaw3448.addPlain 84 (plainT A_word_Bytes G_word_Bytes S_word_Bytes V_word_Bytes)
theorem cLaw3449_good : Av.Good cLaw3449 := cLaw3448_good.fnP S_word_Bytes T_word_Bytes G_word_Bytes V_word_Bytes 2 8 (by kernel_rfl) (fun x => by kernel_rfl) ok_word_Bytes
noncomputable def cLaw3450 : Ctx := cLaw3449.addLoop 42 6 L_memory_Memory_Load_6.toT.toLoop
theorem cLaw3450_good : Av.Good cLaw3450 := cLaw3449_good.loopN L_memory_Memory_Load_6 2 8 (by kernel_rfl) (fun _ _ => rfl) (fun x y s m K => by kernel_rfl) (fun x y s s' K e => by kernel_rfl)
noncomputable def cLaw3451 : Ctx := cLaw3450.addBody 42 (bodyT SS_memory_Memory_Load HS_memory_Memory_Load S_memory_Memory_Load HT_memory_Memory_Load G_memory_Memory_Load V_memory_Memory_Load)
theorem cLaw3451_good : Av.Good cLaw3451 := cLaw3450_good.fnB S_memory_Memory_Load T_memory_Memory_Load G_memory_Memory_Load V_memory_Memory_Load 2 8 (by kernel_rfl) (fun x y => by kernel_rfl) ok_memory_Memory_Load
noncomputable def cLaw3452 : Ctx := cLaw3451.addBody 68 (bodyT SS_memory_Memory_Store HS_memory_Memory_Store S_memory_Memory_Store HT_memory_Memory_Store G_memory_Memory_Store V_memory_Memory_Store)
theorem cLaw3452_good : Av.Good cLaw3452 := cLaw3451_good.fnB S_memory_Memory_Store T_memory_Memory_Store G_memory_Memory_Store V_memory_Memory_Store 2 8 (by kernel_rfl) (fun x y => by kernel_rfl) ok_memory_Memory_Store
noncomputable def cLaw3453 : Ctx := cLaw3452.addBody 32 (bodyT SS_memory_Memory_Region HS_memory_Memory_Region S_memory_Memory_Region HT_memory_Memory_Region G_memory_Memory_Region V_memory_Memory_Region)
theorem cLaw3453_good : Av.Good cLaw3453 := cLaw3452_good.fnB S_memory_Memory_Region T_memory_Memory_Region G_memory_Memory_Region V_memory_Memory_Region 2 8 (by kernel_rfl) (fun x y => by kernel_rfl) ok_memory_Memory_Region
noncomputable def cLaw3454 : Ctx := cLaw3453.addPlain 46 (plainT A_memmap_Regions G_memmap_Regions S_memmap_Regions V_memmap_Regions)
theorem cLaw3454_good : Av.Good cLaw3454 := cLaw3453_good.fnP S_memmap_Regions T_memmap_Regions G_memmap_Regions V_memmap_Regions 2 8 (by kernel_rfl) (fun x => by kernel_rfl) ok_memmap_Regions
noncomputable def cLaw3455 : Ctx := cLaw3454.addLoop 27 8 L_memory_New_8.toT.toLoop
theorem cLaw3455_good : Av.Good cLaw3455 := cLaw3454_good.loopN L_memory_New_8 2 8 (by kernel_rfl) (fun _ _ => rfl) (fun x y s m K => by kernel_rfl) (fun x y s s' K e => by kernel_rfl)
noncomputable def cLaw3456 : Ctx := cLaw3455.addLoop 27 15 L_memory_New_15.toT.toLoop
theorem cLaw3456_good : Av.Good cLaw3456 := cLaw3455_good.loopN L_memory_New_15 2 8 (by kernel_rfl) (fun _ _ => rfl) (fun x y s m K => by kernel_rfl) (fun x y s s' K e => by kernel_rfl)
noncomputable def cLaw3457 : Ctx := cLaw3456.addPlain 94 (plainT A_decode_some G_decode_some S_decode_some V_decode_some)
theorem cLaw3457_good : Av.Good cLaw3457 := cLaw3456_good.fnP S_decode_some T_decode_some G_decode_some V_decode_some 2 8 (by kernel_rfl) (fun x => by kernel_rfl) ok_decode_some
noncomputable def cLaw3458 : Ctx := cLaw3457.addPlain 78 (plainT A_decode_half G_decode_half S_decode_half V_decode_half)
theorem cLaw3458_good : Av.Good cLaw3458 := cLaw3457_good.fnP S_decode_half T_decode_half G_decode_half V_decode_half 2 8 (by kernel_rfl) (fun x => by kernel_rfl) ok_decode_half
noncomputable def cLaw3459 : Ctx := cLaw3458.addPlain 95 (plainT A_decode_signed G_decode_signed S_decode_signed V_decode_signed)
theorem cLaw3459_good : Av.Good cLaw3459 := cLaw3458_good.fnP S_decode_signed T_decode_signed G_decode_signed V_decode_signed 2 8 (by kernel_rfl) (fun x => by kernel_rfl) ok_decode_signed
noncomputable def cLaw3460 : Ctx := cLaw3459.addLoop 114 2 L_decode_regs_2.toT.toLoop
theorem cLaw3460_good : Av.Good cLaw3460 := cLaw3459_good.loopN L_decode_regs_2 2 8 (by kernel_rfl) (fun _ _ => rfl) (fun x y s m K => by kernel_rfl) (fun x y s s' K e => by kernel_rfl)
noncomputable def cLaw3461 : Ctx := cLaw3460.addPlain 114 (plainT A_decode_regs G_decode_regs S_decode_regs V_decode_regs)
theorem cLaw3461_good : Av.Good cLaw3461 := cLaw3460_good.fnP S_decode_regs T_decode_regs G_decode_regs V_decode_regs 2 8 (by kernel_rfl) (fun x => by kernel_rfl) ok_decode_regs
noncomputable def cLaw3462 : Ctx := cLaw3461.addPlain 76 (plainT A_decode_Size G_decode_Size S_decode_Size V_decode_Size)
theorem cLaw3462_good : Av.Good cLaw3462 := cLaw3461_good.fnP S_decode_Size T_decode_Size G_decode_Size V_decode_Size 2 8 (by kernel_rfl) (fun x => by kernel_rfl) ok_decode_Size
noncomputable def cLaw3463 : Ctx := cLaw3462.addPlain 77 (plainT A_decode_narrow G_decode_narrow S_decode_narrow V_decode_narrow)
theorem cLaw3463_good : Av.Good cLaw3463 := cLaw3462_good.fnP S_decode_narrow T_decode_narrow G_decode_narrow V_decode_narrow 2 12 (by kernel_rfl) (fun x => by kernel_rfl) ok_decode_narrow
noncomputable def cLaw3464 : Ctx := cLaw3463.addPlain 96 (plainT A_decode_three G_decode_three S_decode_three V_decode_three)
theorem cLaw3464_good : Av.Good cLaw3464 := cLaw3463_good.fnP S_decode_three T_decode_three G_decode_three V_decode_three 3 12 (by kernel_rfl) (fun x => by kernel_rfl) ok_decode_three
noncomputable def cLaw3465 : Ctx := cLaw3464.addPlain 97 (plainT A_decode_product G_decode_product S_decode_product V_decode_product)
theorem cLaw3465_good : Av.Good cLaw3465 := cLaw3464_good.fnP S_decode_product T_decode_product G_decode_product V_decode_product 2 12 (by kernel_rfl) (fun x => by kernel_rfl) ok_decode_product
noncomputable def cLaw3466 : Ctx := cLaw3465.addPlain 98 (plainT A_decode_plain G_decode_plain S_decode_plain V_decode_plain)
theorem cLaw3466_good : Av.Good cLaw3466 := cLaw3465_good.fnP S_decode_plain T_decode_plain G_decode_plain V_decode_plain 2 12 (by kernel_rfl) (fun x => by kernel_rfl) ok_decode_plain
noncomputable def cLaw3467 : Ctx := cLaw3466.addPlain 99 (plainT A_decode_branch G_decode_branch S_decode_branch V_decode_branch)
theorem cLaw3467_good : Av.Good cLaw3467 := cLaw3466_good.fnP S_decode_branch T_decode_branch G_decode_branch V_decode_branch 2 12 (by kernel_rfl) (fun x => by kernel_rfl) ok_decode_branch
noncomputable def cLaw3468 : Ctx := cLaw3467.addPlain 79 (plainT A_decode_long G_decode_long S_decode_long V_decode_long)
theorem cLaw3468_good : Av.Good cLaw3468 := cLaw3467_good.fnP S_decode_long T_decode_long G_decode_long V_decode_long 2 12 (by kernel_rfl) (fun x => by kernel_rfl) ok_decode_long
noncomputable def cLaw3469 : Ctx := cLaw3468.addPlain 65 (plainT A_decode_Decode G_decode_Decode S_decode_Decode V_decode_Decode)
theorem cLaw3469_good : Av.Good cLaw3469 := cLaw3468_good.fnP S_decode_Decode T_decode_Decode G_decode_Decode V_decode_Decode 2 12 (by kernel_rfl) (fun x => by kernel_rfl) ok_decode_Decode
noncomputable def cLaw3470 : Ctx := cLaw3469.addPlain 48 (plainT A_word_Flip G_word_Flip S_word_Flip V_word_Flip)
theorem cLaw3470_good : Av.Good cLaw3470 := cLaw3469_good.fnP S_word_Flip T_word_Flip G_word_Flip V_word_Flip 2 8 (by kernel_rfl) (fun x => by kernel_rfl) ok_word_Flip
noncomputable def cLaw3471 : Ctx := cLaw3470.addPlain 11 (plainT A_machine_Check G_machine_Check S_machine_Check V_machine_Check)
theorem cLaw3471_good : Av.Good cLaw3471 := cLaw3470_good.fnP S_machine_Check T_machine_Check G_machine_Check V_machine_Check 2 8 (by kernel_rfl) (fun x => by kernel_rfl) ok_machine_Check
noncomputable def cLaw3472 : Ctx := cLaw3471.addBody 29 (bodyT SS_machine_Machine_hit HS_machine_Machine_hit S_machine_Machine_hit HT_machine_Machine_hit G_machine_Machine_hit V_machine_Machine_hit)
theorem cLaw3472_good : Av.Good cLaw3472 := cLaw3471_good.fnB S_machine_Machine_hit T_machine_Machine_hit G_machine_Machine_hit V_machine_Machine_hit 3 8 (by kernel_rfl) (fun x y => by kernel_rfl) ok_machine_Machine_hit
noncomputable def cLaw3473 : Ctx := cLaw3472.addCut 49 5 L_machine_Machine_fetch_c5.toT.toLoop
theorem cLaw3473_good : Av.Good cLaw3473 := cLaw3472_good.cutN L_machine_Machine_fetch_c5 2 8 (by kernel_rfl) (fun _ _ => rfl) (fun x y K => by kernel_rfl)
noncomputable def cLaw3474 : Ctx := cLaw3473.addBody 13 (bodyT SS_machine_Machine_Done HS_machine_Machine_Done S_machine_Machine_Done HT_machine_Machine_Done G_machine_Machine_Done V_machine_Machine_Done)
theorem cLaw3474_good : Av.Good cLaw3474 := cLaw3473_good.fnB S_machine_Machine_Done T_machine_Machine_Done G_machine_Machine_Done V_machine_Machine_Done 2 8 (by kernel_rfl) (fun x y => by kernel_rfl) ok_machine_Machine_Done
noncomputable def cLaw3475 : Ctx := cLaw3474.addBody 17 (bodyT SS_machine_Machine_State HS_machine_Machine_State S_machine_Machine_State HT_machine_Machine_State G_machine_Machine_State V_machine_Machine_State)
theorem cLaw3475_good : Av.Good cLaw3475 := cLaw3474_good.fnB S_machine_Machine_State T_machine_Machine_State G_machine_Machine_State V_machine_Machine_State 2 8 (by kernel_rfl) (fun x y => by kernel_rfl) ok_machine_Machine_State
noncomputable def cLaw3476 : Ctx := cLaw3475.addBody 15 (bodyT SS_machine_Machine_Region HS_machine_Machine_Region S_machine_Machine_Region HT_machine_Machine_Region G_machine_Machine_Region V_machine_Machine_Region)
theorem cLaw3476_good : Av.Good cLaw3476 := cLaw3475_good.fnB S_machine_Machine_Region T_machine_Machine_Region G_machine_Machine_Region V_machine_Machine_Region 3 8 (by kernel_rfl) (fun x y => by kernel_rfl) ok_machine_Machine_Region
noncomputable def cLaw3477 : Ctx := cLaw3476.addBody 24 (bodyT SS_machine_Machine_number HS_machine_Machine_number S_machine_Machine_number HT_machine_Machine_number G_machine_Machine_number V_machine_Machine_number)
theorem cLaw3477_good : Av.Good cLaw3477 := cLaw3476_good.fnB S_machine_Machine_number T_machine_Machine_number G_machine_Machine_number V_machine_Machine_number 3 8 (by kernel_rfl) (fun x y => by kernel_rfl) ok_machine_Machine_number
noncomputable def cLaw3478 : Ctx := cLaw3477.addBody 25 (bodyT SS_machine_Machine_bytes HS_machine_Machine_bytes S_machine_Machine_bytes HT_machine_Machine_bytes G_machine_Machine_bytes V_machine_Machine_bytes)
theorem cLaw3478_good : Av.Good cLaw3478 := cLaw3477_good.fnB S_machine_Machine_bytes T_machine_Machine_bytes G_machine_Machine_bytes V_machine_Machine_bytes 3 8 (by kernel_rfl) (fun x y => by kernel_rfl) ok_machine_Machine_bytes
noncomputable def cLaw3479 : Ctx := cLaw3478.addBody 14 (evStep cLaw3478 drawOk 8 4 14 30 79)
theorem cLaw3479_good : Av.Good cLaw3479 := cLaw3478_good.addBody (step_ok cLaw3478_good (by kernel_rfl) 8 4) (by kernel_rfl)
noncomputable def cLaw3480 : Ctx := cLaw3479.addBody 14 (bodyT SS_machine_Machine_Step HS_machine_Machine_Step S_machine_Machine_Step HT_machine_Machine_Step G_machine_Machine_Step V_machine_Machine_Step)
theorem cLaw3480_good : Av.Good cLaw3480 := cLaw3479_good.fnB S_machine_Machine_Step T_machine_Machine_Step G_machine_Machine_Step V_machine_Machine_Step 2 8 (by kernel_rfl) (fun x y => by kernel_rfl) ok_machine_Machine_Step
noncomputable def cLaw3481 : Ctx := cLaw3480.addLoop 22 2 L_stepsR.toT.toLoop
theorem cLaw3481_good : Av.Good cLaw3481 := cLaw3480_good.loopN L_stepsR 3 8 (by kernel_rfl) (fun _ _ => rfl) (fun x y s m K => by kernel_rfl) (fun x y s s' K e => by kernel_rfl)
noncomputable def cLaw3482 : Ctx := cLaw3481.addBody 22 (bodyT SS_machine_Machine_steps HS_machine_Machine_steps S_machine_Machine_steps HT_machine_Machine_steps G_machine_Machine_steps V_machine_Machine_steps)
theorem cLaw3482_good : Av.Good cLaw3482 := cLaw3481_good.fnB S_machine_Machine_steps T_machine_Machine_steps G_machine_Machine_steps V_machine_Machine_steps 3 8 (by kernel_rfl) (fun x y => by kernel_rfl) ok_machine_Machine_steps
noncomputable def cLaw3483 : Ctx := cLaw3482.addPlain 61 (plainT A_word_Of G_word_Of S_word_Of V_word_Of)
theorem cLaw3483_good : Av.Good cLaw3483 := cLaw3482_good.fnP S_word_Of T_word_Of G_word_Of V_word_Of 2 8 (by kernel_rfl) (fun x => by kernel_rfl) ok_word_Of
noncomputable def cLaw3484 : Ctx := cLaw3483.addPlain 62 (plainT A_image_place G_image_place S_image_place V_image_place)
theorem cLaw3484_good : Av.Good cLaw3484 := cLaw3483_good.fnP S_image_place T_image_place G_image_place V_image_place 2 8 (by kernel_rfl) (fun x => by kernel_rfl) ok_image_place
noncomputable def cLaw3485 : Ctx := cLaw3484.addPlain 43 (plainT A_image_at G_image_at S_image_at V_image_at)
theorem cLaw3485_good : Av.Good cLaw3485 := cLaw3484_good.fnP S_image_at T_image_at G_image_at V_image_at 2 8 (by kernel_rfl) (fun x => by kernel_rfl) ok_image_at
noncomputable def cLaw3486 : Ctx := cLaw3485.addPlain 44 (plainT A_image_check G_image_check S_image_check V_image_check)
theorem cLaw3486_good : Av.Good cLaw3486 := cLaw3485_good.fnP S_image_check T_image_check G_image_check V_image_check 3 8 (by kernel_rfl) (fun x => by kernel_rfl) ok_image_check
noncomputable def cLaw3487 : Ctx := cLaw3486.addPlain 45 (plainT A_image_front G_image_front S_image_front V_image_front)
theorem cLaw3487_good : Av.Good cLaw3487 := cLaw3486_good.fnP S_image_front T_image_front G_image_front V_image_front 2 20 (by kernel_rfl) (fun x => by kernel_rfl) ok_image_front
noncomputable def cLaw3488 : Ctx := cLaw3487.addLoop 26 7 L_image_Parse_7.toT.toLoop
theorem cLaw3488_good : Av.Good cLaw3488 := cLaw3487_good.loopN L_image_Parse_7 3 8 (by kernel_rfl) (fun _ _ => rfl) (fun x y s m K => by kernel_rfl) (fun x y s s' K e => by kernel_rfl)
noncomputable def cLaw3489 : Ctx := cLaw3488.addPlain 26 (plainT A_image_Parse G_image_Parse S_image_Parse V_image_Parse)
theorem cLaw3489_good : Av.Good cLaw3489 := cLaw3488_good.fnP S_image_Parse T_image_Parse G_image_Parse V_image_Parse 4 8 (by kernel_rfl) (fun x => by kernel_rfl) ok_image_Parse
noncomputable def cLaw3490 : Ctx := cLaw3489.addCut 10 12 L_machine_Run_c12.toT.toLoop
theorem cLaw3490_good : Av.Good cLaw3490 := cLaw3489_good.cutN L_machine_Run_c12 6 12 (by kernel_rfl) (fun _ _ => rfl) (fun x y K => by kernel_rfl)
noncomputable def cLaw3491 : Ctx := cLaw3490.addPlain 10 (plainT A_machine_Run G_machine_Run S_machine_Run V_machine_Run)
theorem cLaw3491_good : Av.Good cLaw3491 := cLaw3490_good.fnP S_machine_Run T_machine_Run G_machine_Run V_machine_Run 6 12 (by kernel_rfl) (fun x => by kernel_rfl) ok_machine_Run
noncomputable def cLaw3492 : Ctx := cLaw3491.addPlain 34 (plainT A_campaign_At G_campaign_At S_campaign_At V_campaign_At)
theorem cLaw3492_good : Av.Good cLaw3492 := cLaw3491_good.addPlain (at_plain ) (by kernel_rfl)
noncomputable def cLaw3493 : Ctx := cLaw3492.addLoop 35 3 L_campaign_Skips_3.toT.toLoop
theorem cLaw3493_good : Av.Good cLaw3493 := cLaw3492_good.loopN L_campaign_Skips_3 2 8 (by kernel_rfl) (fun _ _ => rfl) (fun x y s m K => by kernel_rfl) (fun x y s s' K e => by kernel_rfl)
noncomputable def cLaw3494 : Ctx := cLaw3493.addPlain 35 (plainT A_campaign_Skips G_campaign_Skips S_campaign_Skips V_campaign_Skips)
theorem cLaw3494_good : Av.Good cLaw3494 := cLaw3493_good.fnP S_campaign_Skips T_campaign_Skips G_campaign_Skips V_campaign_Skips 2 8 (by kernel_rfl) (fun x => by kernel_rfl) ok_campaign_Skips
noncomputable def cLaw3495 : Ctx := cLaw3494.addLoop 73 2 L_outcome_zero_2.toT.toLoop
theorem cLaw3495_good : Av.Good cLaw3495 := cLaw3494_good.loopN L_outcome_zero_2 3 8 (by kernel_rfl) (fun _ _ => rfl) (fun x y s m K => by kernel_rfl) (fun x y s s' K e => by kernel_rfl)
noncomputable def cLaw3496 : Ctx := cLaw3495.addPlain 73 (plainT A_outcome_zero G_outcome_zero S_outcome_zero V_outcome_zero)
theorem cLaw3496_good : Av.Good cLaw3496 := cLaw3495_good.fnP S_outcome_zero T_outcome_zero G_outcome_zero V_outcome_zero 3 8 (by kernel_rfl) (fun x => by kernel_rfl) ok_outcome_zero
noncomputable def cLaw3497 : Ctx := cLaw3496.addPlain 39 (plainT A_hauberkref05_Check G_hauberkref05_Check S_hauberkref05_Check V_hauberkref05_Check)
theorem cLaw3497_good : Av.Good cLaw3497 := cLaw3496_good.fnP S_hauberkref05_Check T_hauberkref05_Check G_hauberkref05_Check V_hauberkref05_Check 3 8 (by kernel_rfl) (fun x => by kernel_rfl) ok_hauberkref05_Check
noncomputable def cLaw3498 : Ctx := cLaw3497.addPlain 58 (plainT A_outcome_Wiped G_outcome_Wiped S_outcome_Wiped V_outcome_Wiped)
theorem cLaw3498_good : Av.Good cLaw3498 := cLaw3497_good.fnP S_outcome_Wiped T_outcome_Wiped G_outcome_Wiped V_outcome_Wiped 3 8 (by kernel_rfl) (fun x => by kernel_rfl) ok_outcome_Wiped
noncomputable def cLaw3499 : Ctx := cLaw3498.addPlain 37 (plainT A_outcome_Of G_outcome_Of S_outcome_Of V_outcome_Of)
theorem cLaw3499_good : Av.Good cLaw3499 := cLaw3498_good.fnP S_outcome_Of T_outcome_Of G_outcome_Of V_outcome_Of 4 8 (by kernel_rfl) (fun x => by kernel_rfl) ok_outcome_Of
noncomputable def cLaw34100 : Ctx := cLaw3499.addPlain 36 (plainT A_outcome_Slack G_outcome_Slack S_outcome_Slack V_outcome_Slack)
theorem cLaw34100_good : Av.Good cLaw34100 := cLaw3499_good.fnP S_outcome_Slack T_outcome_Slack G_outcome_Slack V_outcome_Slack 4 8 (by kernel_rfl) (fun x => by kernel_rfl) ok_outcome_Slack
noncomputable def cLaw34101 : Ctx := cLaw34100.addPlain 20 (plainT A_campaign_Add G_campaign_Add S_campaign_Add V_campaign_Add)
theorem cLaw34101_good : Av.Good cLaw34101 := cLaw34100_good.fnP S_campaign_Add T_campaign_Add G_campaign_Add V_campaign_Add 4 8 (by kernel_rfl) (fun x => by kernel_rfl) ok_campaign_Add
noncomputable def cLaw34102 : Ctx := cLaw34101.addPlain 18 (plainT A_hauberklaw34_lives G_hauberklaw34_lives S_hauberklaw34_lives V_hauberklaw34_lives)
theorem cLaw34102_good : Av.Good cLaw34102 := cLaw34101_good.fnP S_hauberklaw34_lives T_hauberklaw34_lives G_hauberklaw34_lives V_hauberklaw34_lives 6 500 (by kernel_rfl) (fun x => by kernel_rfl) ok_hauberklaw34_lives
noncomputable def cLaw34103 : Ctx := cLaw34102.addPlain 38 (plainT A_campaign_one G_campaign_one S_campaign_one V_campaign_one)
theorem cLaw34103_good : Av.Good cLaw34103 := cLaw34102_good.fnP S_campaign_one T_campaign_one G_campaign_one V_campaign_one 4 8 (by kernel_rfl) (fun x => by kernel_rfl) ok_campaign_one
noncomputable def cLaw34104 : Ctx := cLaw34103.addLoop 19 11 L_campaign_Some_11.toT.toLoop
theorem cLaw34104_good : Av.Good cLaw34104 := cLaw34103_good.loopN L_campaign_Some_11 3 8 (by kernel_rfl) (fun _ _ => rfl) (fun x y s m K => by kernel_rfl) (fun x y s s' K e => by kernel_rfl)
noncomputable def cLaw34105 : Ctx := cLaw34104.addPlain 19 (plainT A_campaign_Some G_campaign_Some S_campaign_Some V_campaign_Some)
theorem cLaw34105_good : Av.Good cLaw34105 := cLaw34104_good.fnP S_campaign_Some T_campaign_Some G_campaign_Some V_campaign_Some 4 8 (by kernel_rfl) (fun x => by kernel_rfl) ok_campaign_Some
noncomputable def cLaw34 : Ctx := cLaw34105
theorem cLaw34_good : Av.Good cLaw34 := cLaw34105_good
end Go.Proofs.Ytamnhodjidmlcaa
end
/-! What comes of two lists of faults is the sum of what comes of each; without a fault a run is Right, or counted as what it is: proved of what the functions compute. -/
section
namespace Go.Av
open Go

/-! ### Sums of counts -/
def addI (a b : tCounts.den) : tCounts.den := (a.1 + b.1, a.2.1 + b.2.1, a.2.2.1 + b.2.2.1, a.2.2.2.1 + b.2.2.2.1, a.2.2.2.2.1 + b.2.2.2.2.1, a.2.2.2.2.2.1 + b.2.2.2.2.2.1, a.2.2.2.2.2.2.1 + b.2.2.2.2.2.2.1, ())
/-- All counts lie between 0 and a number. -/
def InC (a : tCounts.den) (n : Int) : Prop :=
  (0 ≤ (show Int from a.1) ∧ (show Int from a.1) ≤ n) ∧ (0 ≤ (show Int from a.2.1) ∧ (show Int from a.2.1) ≤ n) ∧ (0 ≤ (show Int from a.2.2.1) ∧ (show Int from a.2.2.1) ≤ n) ∧ (0 ≤ (show Int from a.2.2.2.1) ∧ (show Int from a.2.2.2.1) ≤ n) ∧
  (0 ≤ (show Int from a.2.2.2.2.1) ∧ (show Int from a.2.2.2.2.1) ≤ n) ∧ (0 ≤ (show Int from a.2.2.2.2.2.1) ∧ (show Int from a.2.2.2.2.2.1) ≤ n) ∧ (0 ≤ (show Int from a.2.2.2.2.2.2.1) ∧ (show Int from a.2.2.2.2.2.2.1) ≤ n)
theorem add_val (a b : tCounts.den) : V_campaign_Add (a, b) = (w64 (a.1 + b.1), w64 (a.2.1 + b.2.1), w64 (a.2.2.1 + b.2.2.1), w64 (a.2.2.2.1 + b.2.2.2.1), w64 (a.2.2.2.2.1 + b.2.2.2.2.1), w64 (a.2.2.2.2.2.1 + b.2.2.2.2.2.1), w64 (a.2.2.2.2.2.2.1 + b.2.2.2.2.2.2.1), a.2.2.2.2.2.2.2) := rfl
theorem w64_add {a b n m : Int} (h1 : 0 ≤ a ∧ a ≤ n) (h2 : 0 ≤ b ∧ b ≤ m) (hn : n + m ≤ 1000000) : w64 (a + b) = a + b := w64_id (by omega) (by omega)
theorem add_in {a b : tCounts.den} {n m : Int} (ha : InC a n) (hb : InC b m) (hn : n + m ≤ 1000000) : V_campaign_Add (a, b) = addI a b := by
  obtain ⟨h1, h2, h3, h4, h5, h6, h7⟩ := ha
  obtain ⟨g1, g2, g3, g4, g5, g6, g7⟩ := hb
  rw [add_val]
  unfold addI
  rw [w64_add h1 g1 hn, w64_add h2 g2 hn, w64_add h3 g3 hn, w64_add h4 g4 hn, w64_add h5 g5 hn, w64_add h6 g6 hn, w64_add h7 g7 hn]
theorem tup8 {a1 a2 a3 a4 a5 a6 a7 b1 b2 b3 b4 b5 b6 b7 : Int} (h1 : a1 = b1) (h2 : a2 = b2) (h3 : a3 = b3) (h4 : a4 = b4) (h5 : a5 = b5) (h6 : a6 = b6) (h7 : a7 = b7) : ((a1, a2, a3, a4, a5, a6, a7, ()) : tCounts.den) = (b1, b2, b3, b4, b5, b6, b7, ()) := by
  subst h1 h2 h3 h4 h5 h6 h7
  rfl
theorem addI_no (a : tCounts.den) : addI noCounts a = a := by
  obtain ⟨a1, a2, a3, a4, a5, a6, a7, ⟨⟩⟩ := a
  exact tup8 (Int.zero_add _) (Int.zero_add _) (Int.zero_add _) (Int.zero_add _) (Int.zero_add _) (Int.zero_add _) (Int.zero_add _)
theorem no_in (n : Int) (h : 0 ≤ n) : InC noCounts n := ⟨⟨Int.le_refl _, h⟩, ⟨Int.le_refl _, h⟩, ⟨Int.le_refl _, h⟩, ⟨Int.le_refl _, h⟩, ⟨Int.le_refl _, h⟩, ⟨Int.le_refl _, h⟩, ⟨Int.le_refl _, h⟩⟩
theorem b01_in (b : Bool) : 0 ≤ b01 b ∧ b01 b ≤ 1 := by cases b <;> decide
theorem one_in (r : tResult.den) (o : tOutcome.den) : InC (V_campaign_one (r, o)) 1 := ⟨⟨(by decide : (0 : Int) ≤ 1), (by decide : (1 : Int) ≤ 1)⟩, b01_in _, b01_in _, b01_in _, b01_in _, b01_in _, b01_in _⟩

section
variable (img inp : List UInt8) (b : Int) (right : tOutcome.den)
end

theorem cond_or {b a : Bool} : (bif b then a || true else true) = true := by cases b <;> simp
theorem cond_t {b a : Bool} (h : a = true) : (bif b then a else true) = true := by subst h; cases b <;> rfl

/-! ### Without a fault -/
theorem run_out {img inp : List UInt8} {f : tFault.den} {b : Int} (h : (runX img inp f b).2.1 = (0 : Int)) :
    ((parseX img).2.1 != (0 : Int)) = false ∧ (lenI inp != (parseX img).1.2.2.1.1) = false ∧ V_machine_Check f = 0 ∧ (0 ≤ b ∧ b ≤ 67108864) ∧ runX img inp f b = (resX (startX (parseX img).1 img inp) f b, 0, ()) := by
  cases h1 : ((parseX img).2.1 != (0 : Int)) with
  | true => obtain ⟨e, he, hr⟩ := runX_err (inp := inp) (.inl h1); rw [hr] at h; exact (he h).elim
  | false =>
  cases h2 : (lenI inp != (parseX img).1.2.2.1.1) with
  | true => obtain ⟨e, he, hr⟩ := runX_err (.inr h2); rw [hr] at h; exact (he h).elim
  | false =>
  unfold runX at h ⊢
  rw [h1, h2] at h ⊢
  cases h3 : (V_machine_Check f != 0 || (decide (b < 0) || decide (b > 67108864))) with
  | true => rw [h3] at h; cases h
  | false =>
    simp only [Bool.or_eq_false_iff, decide_eq_false_iff_not, bne_eq_false_iff_eq] at h3
    exact ⟨rfl, rfl, h3.1, ⟨by omega, by omega⟩, rfl⟩

theorem slack_pos (img : List UInt8) (h : ((parseX img).2.1 != (0 : Int)) = false) : 0 ≤ slackX img ∧ slackX img ≤ 10000000 := by
  obtain ⟨rs, hn, i, o, r, md, e, f1, f2, f3, f4, f5⟩ := parse_facts img h
  obtain ⟨h1, h2, h3, h4⟩ := mcheck_facts i o r _ f1
  have e1 : slackX img = V_outcome_Slack (i, o, r, ()) := by
    show V_outcome_Slack (parseX img).1.2.2.1 = _
    rw [e]
  rw [e1]
  unfold V_outcome_Slack PO.getO T_outcome_Slack
  cases hc : (V_memmap_Check ((i, o, r, ()), 0) != (0 : Int)) with
  | true => rw [show (PO.ite true (PO.ret 0) (PO.ret (w64 (w64 (32 * w64 (o + w64 (2 * r))) + 256)))).val = some (0 : Int) from rfl]; exact ⟨Int.le_refl 0, by decide⟩
  | false =>
    rw [show (PO.ite false (PO.ret 0) (PO.ret (w64 (w64 (32 * w64 (o + w64 (2 * r))) + 256)))).val = some (w64 (w64 (32 * w64 (o + w64 (2 * r))) + 256)) from rfl]
    show 0 ≤ w64 (w64 (32 * w64 (o + w64 (2 * r))) + 256) ∧ w64 (w64 (32 * w64 (o + w64 (2 * r))) + 256) ≤ 10000000
    rw [w64_id (n := 2 * r) (by omega) (by omega), w64_id (n := o + 2 * r) (by omega) (by omega), w64_id (n := 32 * (o + 2 * r)) (by omega) (by omega), w64_id (by omega) (by omega)]
    omega

theorem check_step {k p q : Int} {u : Int × Int × Unit} (h : V_machine_Check (k, p, u) = 0) (hq : 0 ≤ q) : 0 ≤ p ∧ V_machine_Check (k, q, u) = 0 := by
  obtain ⟨r, b, ⟨⟩⟩ := u
  have T : ∀ p : Int, V_machine_Check (k, p, r, b, ()) = bif !bif bif k == 0 then k == 0 else k == 1 then decide (p ≥ 0) else bif k == 2 then decide (p ≥ 0) && (decide (r ≥ 0) && (decide (r ≤ 14) && (decide (b ≥ 0) && decide (b < 32)))) else k == 3 && (decide (p ≥ 0) && (decide (b ≥ 0) && decide (b < 4))) then 2 else 0 := fun p => by
    unfold V_machine_Check PO.getO T_machine_Check
    simp only [PO.val]
    cases (!bif bif k == 0 then k == 0 else k == 1 then decide (p ≥ 0) else bif k == 2 then decide (p ≥ 0) && (decide (r ≥ 0) && (decide (r ≤ 14) && (decide (b ≥ 0) && decide (b < 32)))) else k == 3 && (decide (p ≥ 0) && (decide (b ≥ 0) && decide (b < 4)))) <;> rfl
  rw [T] at h ⊢
  have hq1 : decide (q ≥ 0) = true := dec_true hq
  have hp : 0 ≤ p := by
    cases hd : decide (p ≥ 0) with
    | true => exact of_decide_eq_true hd
    | false =>
      rw [hd] at h
      simp at h
  refine ⟨hp, ?_⟩
  rw [hq1]
  rw [dec_true (show p ≥ 0 from hp)] at h
  exact h

theorem of_kind (r : tResult.den) (h : r.1 = true) : (V_outcome_Of r).1 = (1 : Int) ∨ (V_outcome_Of r).1 = (2 : Int) ∨ (V_outcome_Of r).1 = (3 : Int) := by
  unfold V_outcome_Of PO.getO T_outcome_Of
  simp only [PO.val, h, Bool.not_true, cond_false]
  cases (r.2.2.2.2.1 == (3235799053 : Int))
  · cases (r.2.2.2.2.2.1 == (195890093 : Int))
    · exact .inr (.inr rfl)
    · exact .inr (.inl rfl)
  · exact .inl rfl

theorem law_hauberklaw34_CampaignNone (x : dens A_hauberklaw34_CampaignNone) (_ : fitsAll maxLen A_hauberklaw34_CampaignNone x) : (T_hauberklaw34_CampaignNone x).val = some true := by
  obtain ⟨img, inp, ⟨fk, fp, fu⟩, b⟩ := x
  unfold T_hauberklaw34_CampaignNone
  refine (val_yes (by show (decide (b < 0) || (decide (b > 300) || (decide (lenI img > 5000) || true))) = true; simp)).trans ?_
  cases h0 : (decide (b < 0) || (decide (b > 300) || (decide (lenI img > 5000) || V_machine_Check (fk, fp, fu) != 0))) with
  | true => exact (val_yes rfl).trans rfl
  | false =>
  refine (val_no rfl).trans ?_
  simp only [Bool.or_eq_false_iff, decide_eq_false_iff_not, lenI, bne_eq_false_iff_eq] at h0
  obtain ⟨h1, h2, h3, h4⟩ := h0
  have G : ∀ q : tFault.den, G_campaign_Some (img, inp, [q], b) = true := fun q => decide_eq_true (show (1 : Nat) < 9223372036854775808 by decide)
  refine (val_yes (G noFault)).trans ?_
  show (PO.ite ((runX img inp noFault b).2.1 != (0 : Int)) _ _).val = some true
  cases hr : ((runX img inp noFault b).2.1 != (0 : Int)) with
  | true =>
    have E : V_campaign_Some (img, inp, [noFault], b) = (noCounts, (runX img inp noFault b).2.1, ()) := by
      show someX img inp [noFault] b = _
      unfold someX
      rw [hr]
      rfl
    refine (val_yes rfl).trans ((val_yes cond_or).trans ?_)
    show some ((V_campaign_Some (img, inp, [noFault], b)).2.1 == (runX img inp noFault b).2.1 && (Ty.eqb tCounts (V_campaign_Some (img, inp, [noFault], b)).1 noCounts && true)) = some true
    rw [E, eqb_refl]
    simp
  | false =>
  refine (val_no rfl).trans ?_
  show (PO.ite (!(runX img inp noFault b).1.1 || (someX img inp [noFault] b).2.1 != (0 : Int)) _ _).val = some true
  cases hc : (!(runX img inp noFault b).1.1 || (someX img inp [noFault] b).2.1 != (0 : Int)) with
  | true => exact (val_yes rfl).trans rfl
  | false =>
  refine (val_no rfl).trans ((val_yes (G _)).trans ((val_yes (cond_t (cond_t (cond_t cond_or)))).trans ?_))
  simp only [Bool.or_eq_false_iff, Bool.not_eq_false', bne_eq_false_iff_eq] at hc
  obtain ⟨hh, hg⟩ := hc
  obtain ⟨p1, p2, _, _, p5⟩ := run_out (by simpa using hr)
  obtain ⟨sl0, sl1⟩ := slack_pos img p1
  have hb2 : w64 (b + slackX img) = b + slackX img := w64_id (by omega) (by omega)
  have hbig : decide (w64 (b + slackX img) > 67108864) = false := by
    cases hd : decide (w64 (b + slackX img) > 67108864) with
    | false => rfl
    | true =>
      exfalso
      unfold someX at hg
      rw [hr, hd] at hg
      cases hg
  have hle : ¬ (w64 (b + slackX img) > 67108864) := of_decide_eq_false hbig
  rw [hb2] at hle
  have E : ∀ q, someX img inp [q] b = someL img inp (b + slackX img) (V_outcome_Of (runX img inp noFault b).1) [q] noCounts := fun q => by
    unfold someX
    rw [hr, hbig, hb2]
    rfl
  -- the run with more steps
  have r1 : (runX img inp noFault b).1 = resG (goX (startX (parseX img).1 img inp).1.1 (startX (parseX img).1 img inp).1.2.1 noFault b.toNat 0 (runSof (startX (parseX img).1 img inp))) := by rw [p5]; rfl
  generalize hy : startX (parseX img).1 img inp = y at *
  have hdn : (goX y.1.1 y.1.2.1 noFault b.toNat 0 (runSof y)).2.2.2.1 = true := by rw [r1] at hh; exact hh
  have ok := runX_ok p1 p2
  rw [hy] at ok
  have r2 : runX img inp noFault (b + slackX img) = runX img inp noFault b := by
    rw [p5, ok noFault (b + slackX img) rfl ⟨by omega, by omega⟩, resX_G, resX_G, show (b + slackX img).toNat = b.toNat + (slackX img).toNat by omega, go_more _ _ _ _ _ _ _ hdn]
  have hst : (runX img inp noFault b).1.2.1 = (((goX y.1.1 y.1.2.1 noFault b.toNat 0 (runSof y)).1.length : Nat) : Int) := by rw [r1]; rfl
  have hln := go_len y.1.1 y.1.2.1 noFault b.toNat 0 (runSof y)
  obtain ⟨fp0, _⟩ := check_step (q := 0) h4 (Int.le_refl 0)
  have hmod : 0 ≤ Int.tmod fp 1000 := Int.tmod_nonneg _ fp0
  have hmod2 : Int.tmod fp 1000 < 1000 := Int.tmod_lt_of_pos _ (by decide)
  have hstep : w64 (Int.tmod fp 1000 + (runX img inp noFault b).1.2.1) = Int.tmod fp 1000 + (((goX y.1.1 y.1.2.1 noFault b.toNat 0 (runSof y)).1.length : Nat) : Int) := by
    rw [hst, w64_id (by omega) (by omega)]
  obtain ⟨_, hck⟩ := check_step (q := Int.tmod fp 1000 + (((goX y.1.1 y.1.2.1 noFault b.toNat 0 (runSof y)).1.length : Nat) : Int)) h4 (by omega)
  have r3 : runX img inp (fk, w64 (Int.tmod fp 1000 + (runX img inp noFault b).1.2.1), fu) (b + slackX img) = runX img inp noFault b := by
    rw [hstep, ← r2, ok _ (b + slackX img) hck ⟨by omega, by omega⟩, ok noFault (b + slackX img) rfl ⟨by omega, by omega⟩, resX_G, resX_G]
    rw [go_late y.1.1 y.1.2.1 _ (b + slackX img).toNat 0 (runSof y) (by
      rw [show (b + slackX img).toNat = b.toNat + (slackX img).toNat by omega, go_more _ _ _ _ _ _ _ hdn]
      show (0 : Int) + _ ≤ Int.tmod fp 1000 + _
      omega)]
  have L : ∀ q, runX img inp q (b + slackX img) = runX img inp noFault b → someX img inp [q] b = (V_campaign_Add (noCounts, V_campaign_one ((runX img inp noFault b).1, V_outcome_Of (runX img inp noFault b).1)), 0, ()) := fun q hq => by
    rw [E, someL, hq, hr]
    rfl
  have e1 := L noFault r2
  have e2 := L _ r3
  show some ((someX img inp [(fk, w64 (Int.tmod fp 1000 + (runX img inp noFault b).1.2.1), fu)] b).2.1 == (0 : Int) && (Ty.eqb tCounts (someX img inp [noFault] b).1 (someX img inp [(fk, w64 (Int.tmod fp 1000 + (runX img inp noFault b).1.2.1), fu)] b).1 && ((someX img inp [noFault] b).1.2.2.1 == (0 : Int) && ((someX img inp [noFault] b).1.2.2.2.2.2.1 == (0 : Int) && ((someX img inp [noFault] b).1.1 == (1 : Int) && true))))) = some true
  rw [e1, e2, eqb_refl]
  generalize (runX img inp noFault b).1 = r at hh
  have hk := of_kind r hh
  have ho : Ty.eqb tOutcome (V_outcome_Of r) (V_outcome_Of r) = true := eqb_refl ..
  have hadd : V_campaign_Add (noCounts, V_campaign_one (r, V_outcome_Of r)) = V_campaign_one (r, V_outcome_Of r) := by
    rw [add_in (no_in 0 (Int.le_refl _)) (one_in r _) (by decide), addI_no]
  rw [hadd]
  show some (true && (true && (b01 ((V_outcome_Of r).1 == 1 && !Ty.eqb tOutcome (V_outcome_Of r) (V_outcome_Of r)) == (0 : Int) && (b01 (!((V_outcome_Of r).1 == 1) && (!((V_outcome_Of r).1 == 2) && !((V_outcome_Of r).1 == 3))) == (0 : Int) && (((1 : Int) == 1) && true))))) = some true
  rw [ho]
  rcases hk with h | h | h <;> rw [h] <;> rfl
end Go.Av
end
