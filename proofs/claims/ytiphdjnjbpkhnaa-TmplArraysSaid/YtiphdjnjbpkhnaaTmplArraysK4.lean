/- Texts of the proof, one behind the other. -/
import Derived.Test.YtiphdjnjbpkhnaaTmplArraysK3
import Derived.Test.YtiphdjnjbpkhnaaTmplArraysK1
import Derived.Test.YtiphdjnjbpkhnaaTmplArraysK2
import Derived.Test.YtiphdjnjbpkhnaaProg
/-! What an operation's instructions make is what it means. -/
section
namespace Go.Av
open Go

/-- One of registers, that may be done twice. -/
abbrev rsI (q : tIns.den) : Bool := regI q && V_dup_Safe q

theorem rs_one (op rd rn rm imm : Int) (hok : okB op rd rn rm 0 imm 0 false = true) (hop : op = 3 ∨ op = 4 ∨ op = 5 ∨ op = 6 ∨ op = 8) (hrm : op = 5 ∨ op = 6 ∨ op = 8 → rd ≠ rm) : rsI (op, rd, rn, rm, 0, imm, 0, false, ()) = true := by
  have hck := (check_iff op rd rn rm 0 imm 0 false).2 hok
  have hc : (V_thumb_Check (op, rd, rn, rm, 0, imm, 0, false, ()) != (0 : Int)) = false := by simpa using hck
  have h1 : regB op rd rn rm 0 imm 0 false = true := by
    unfold regB
    rw [hok, dec_true (p := 3 ≤ op) (by omega), dec_true (p := op ≤ 18) (by omega)]
    rfl
  have h2 : V_dup_Safe (op, rd, rn, rm, 0, imm, 0, false, ()) = true := by
    unfold V_dup_Safe T_dup_Safe PO.getO
    rw [val_no hc]
    rcases hop with rfl | rfl | rfl | rfl | rfl
    · rfl
    · rfl
    all_goals
      have h := hrm (by decide)
      simp [PO.val, h]
  show (regB op rd rn rm 0 imm 0 false && V_dup_Safe _) = true
  rw [h1, h2]
  rfl

theorem hi_lo {i : Int} : (0 ≤ lo false i ∧ lo false i ≤ 65535) ∧ (0 ≤ hi false i ∧ hi false i ≤ 65535) := by
  have e1 : lo false i = i % 65536 := band_16 i
  have e2 : hi false i = i / 65536 % 65536 := by
    show band .i64 (ishr .i64 i 16) 65535 = _
    rw [ishr_16, band_16]
  rw [e1, e2]
  omega

theorem okB_34 (op rd imm : Int) (hop : op = 3 ∨ op = 4) (hrd : 0 ≤ rd ∧ rd ≤ 12) (hi : 0 ≤ imm ∧ imm ≤ 65535) : okB op rd 0 0 0 imm 0 false = true := by
  rcases hop with rfl | rfl <;> simp [okB, hrd, hi]
theorem okB_sh (op rd rm imm : Int) (hop : op = 5 ∨ (op = 6 ∨ op = 8) ∧ 1 ≤ imm) (hrd : 0 ≤ rd ∧ rd ≤ 12) (hrm : 0 ≤ rm ∧ rm ≤ 12) (hi : 0 ≤ imm ∧ imm ≤ 31) : okB op rd 0 rm 0 imm 0 false = true := by
  rcases hop with rfl | ⟨rfl | rfl, h⟩
  · simp [okB, hrd, hrm, hi]
  · simp [okB, hrd, hrm, hi, h]
  · simp [okB, hrd, hrm, hi, h]

theorem rs_shift (op i : Int) (hop : op = 5 ∨ op = 6 ∨ op = 8) (hi : 0 ≤ i ∧ i ≤ 31) : rsI (V_tmpl_shift (op, 3, 0, i)) = true := by
  show rsI (bif i == 0 then 5 else op, 3, 0, 0, 0, i, 0, false, ()) = true
  by_cases c : i = 0
  · subst c
    exact rs_one 5 3 0 0 0 (by decide) (by decide) (by decide)
  · have b : (i == 0) = false := beq_eq_false_iff_ne.2 c
    rw [b]
    refine rs_one op 3 0 0 i (okB_sh op 3 0 i ?_ (by decide) (by decide) hi) (by omega) (fun _ => by decide)
    rcases hop with rfl | rfl | rfl
    · exact .inl rfl
    · exact .inr ⟨.inl rfl, by omega⟩
    · exact .inr ⟨.inr rfl, by omega⟩

theorem kk_zero : kk 0 = 0 := rfl

theorem v3 (imm ra : Int) (d n m : Nat) : vN 3 imm ra d n m = wn imm := rfl
theorem v6 (imm ra : Int) (d n m : Nat) : vN 6 imm ra d n m = m / 2 ^ kk imm := rfl
theorem v12 (imm ra : Int) (d n m : Nat) : vN 12 imm ra d n m = n ||| m := rfl
theorem v13 (imm ra : Int) (d n m : Nat) : vN 13 imm ra d n m = n ^^^ m := rfl
theorem v15 (imm ra : Int) (d n m : Nat) : vN 15 imm ra d n m = (n + (4294967296 - m)) % 4294967296 := rfl
/-- What is asked of an operation's instructions. -/
def doesI (k d a b c i r : Int) (s : tSpot.den) : Prop := ∀ (ρ : Int → Nat) (x y z : Nat) (hx : x < 4294967296) (hy : y < 4294967296) (hz : z < 4294967296)
    (hu : ∀ j : Nat, j < (V_ir_Uses (opI k d a b c i)).length → ρ (j : Int) = [x, y, z].getD j 0),
    V_ir_Value (opI k d a b c i, (x : Int), (y : Int), (z : Int)) = ((((V_tmpl_inner (opI k d a b c i, s, r)).foldl stepN ρ 3 : Nat) : Int), true, ())

theorem all_1 (d a b c i r : Int) (s : tSpot.den) : ((V_tmpl_inner (opI 1 d a b c i, s, r)).all rsI) = true := by
  obtain ⟨h1, h2⟩ := hi_lo (i := i)
  show (rsI (3, 3, 0, 0, 0, lo false i, 0, false, ()) && (rsI (4, 3, 0, 0, 0, Go.Av.hi false i, 0, false, ()) && true)) = true
  rw [rs_one 3 3 0 0 _ (okB_34 3 3 _ (by decide) (by decide) h1) (by decide) (by decide), rs_one 4 3 0 0 _ (okB_34 4 3 _ (by decide) (by decide) h2) (by decide) (by decide)]
  rfl
theorem does_1 (d a b c i r : Int) (s : tSpot.den) (hi : 0 ≤ i ∧ i ≤ 4294967295) : doesI 1 d a b c i r s := by
  intro ρ x y z hx hy hz hu
  show ((wn i : Int), true, ()) = (((insN (wn (lo false i)) (wn (Go.Av.hi false i)) 16 16 : Nat) : Int), true, ())
  rw [word_ins hi]
  unfold wn
  congr 1
  omega

theorem all_2 (d a b c i r : Int) (s : tSpot.den) : ((V_tmpl_inner (opI 2 d a b c i, s, r)).all rsI) = true := by kernel_rfl
theorem does_2 (d a b c i r : Int) (s : tSpot.den) : doesI 2 d a b c i r s := by
  intro ρ x y z hx hy hz hu
  have wx := wn_nat hx
  have wy := wn_nat hy
  have wz := wn_nat hz
  have h0 : ρ 0 = x := hu 0 (by show 0 < 1; omega)
  show ((wn (x : Int) : Int), true, ()) = (((ρ 0 * 2 ^ kk 0 % 4294967296 : Nat) : Int), true, ())
  rw [h0, wx, kk_zero, Nat.pow_zero, Nat.mul_one, Nat.mod_eq_of_lt hx]

theorem all_3 (d a b c i r : Int) (s : tSpot.den) : ((V_tmpl_inner (opI 3 d a b c i, s, r)).all rsI) = true := by kernel_rfl
theorem does_3 (d a b c i r : Int) (s : tSpot.den) : doesI 3 d a b c i r s := by
  intro ρ x y z hx hy hz hu
  have wx := wn_nat hx
  have wy := wn_nat hy
  have wz := wn_nat hz
  have h0 : ρ 0 = x := hu 0 (by show 0 < 2; omega)
  have h1 : ρ 1 = y := hu 1 (by show 1 < 2; omega)
  show ((wn ((x : Int) + (y : Int)) : Int), true, ()) = ((((ρ 0 + ρ 1) % 4294967296 : Nat) : Int), true, ())
  rw [h0, h1]
  unfold wn
  congr 1 <;> omega

theorem all_4 (d a b c i r : Int) (s : tSpot.den) : ((V_tmpl_inner (opI 4 d a b c i, s, r)).all rsI) = true := by kernel_rfl
theorem does_4 (d a b c i r : Int) (s : tSpot.den) : doesI 4 d a b c i r s := by
  intro ρ x y z hx hy hz hu
  have wx := wn_nat hx
  have wy := wn_nat hy
  have wz := wn_nat hz
  have h0 : ρ 0 = x := hu 0 (by show 0 < 2; omega)
  have h1 : ρ 1 = y := hu 1 (by show 1 < 2; omega)
  show ((wn ((x : Int) - (y : Int)) : Int), true, ()) = ((((ρ 0 + (4294967296 - ρ 1)) % 4294967296 : Nat) : Int), true, ())
  rw [h0, h1]
  unfold wn
  congr 1
  omega

theorem all_5 (d a b c i r : Int) (s : tSpot.den) : ((V_tmpl_inner (opI 5 d a b c i, s, r)).all rsI) = true := by kernel_rfl
theorem does_5 (d a b c i r : Int) (s : tSpot.den) : doesI 5 d a b c i r s := by
  intro ρ x y z hx hy hz hu
  have wx := wn_nat hx
  have wy := wn_nat hy
  have wz := wn_nat hz
  have h0 : ρ 0 = x := hu 0 (by show 0 < 2; omega)
  have h1 : ρ 1 = y := hu 1 (by show 1 < 2; omega)
  show (((wn (x : Int) * wn (y : Int) % 4294967296 : Nat) : Int), true, ()) = (((ρ 0 * ρ 1 % 4294967296 : Nat) : Int), true, ())
  rw [h0, h1, wx, wy]

theorem all_6 (d a b c i r : Int) (s : tSpot.den) : ((V_tmpl_inner (opI 6 d a b c i, s, r)).all rsI) = true := by kernel_rfl
theorem does_6 (d a b c i r : Int) (s : tSpot.den) : doesI 6 d a b c i r s := by
  intro ρ x y z hx hy hz hu
  have wx := wn_nat hx
  have wy := wn_nat hy
  have wz := wn_nat hz
  have h0 : ρ 0 = x := hu 0 (by show 0 < 2; omega)
  have h1 : ρ 1 = y := hu 1 (by show 1 < 2; omega)
  show (((wn (x : Int) * wn (y : Int) / 4294967296 : Nat) : Int), true, ()) = (((ρ 0 * ρ 1 / 4294967296 : Nat) : Int), true, ())
  rw [h0, h1, wx, wy]

theorem all_7 (d a b c i r : Int) (s : tSpot.den) : ((V_tmpl_inner (opI 7 d a b c i, s, r)).all rsI) = true := by kernel_rfl
theorem does_7 (d a b c i r : Int) (s : tSpot.den) : doesI 7 d a b c i r s := by
  intro ρ x y z hx hy hz hu
  have wx := wn_nat hx
  have wy := wn_nat hy
  have wz := wn_nat hz
  have h0 : ρ 0 = x := hu 0 (by show 0 < 2; omega)
  have h1 : ρ 1 = y := hu 1 (by show 1 < 2; omega)
  show (((wn (x : Int) &&& wn (y : Int) : Nat) : Int), true, ()) = (((ρ 0 &&& ρ 1 : Nat) : Int), true, ())
  rw [h0, h1, wx, wy]

theorem all_8 (d a b c i r : Int) (s : tSpot.den) : ((V_tmpl_inner (opI 8 d a b c i, s, r)).all rsI) = true := by kernel_rfl
theorem does_8 (d a b c i r : Int) (s : tSpot.den) : doesI 8 d a b c i r s := by
  intro ρ x y z hx hy hz hu
  have wx := wn_nat hx
  have wy := wn_nat hy
  have wz := wn_nat hz
  have h0 : ρ 0 = x := hu 0 (by show 0 < 2; omega)
  have h1 : ρ 1 = y := hu 1 (by show 1 < 2; omega)
  show (((wn (x : Int) ||| wn (y : Int) : Nat) : Int), true, ()) = (((ρ 0 ||| ρ 1 : Nat) : Int), true, ())
  rw [h0, h1, wx, wy]

theorem all_9 (d a b c i r : Int) (s : tSpot.den) : ((V_tmpl_inner (opI 9 d a b c i, s, r)).all rsI) = true := by kernel_rfl
theorem does_9 (d a b c i r : Int) (s : tSpot.den) : doesI 9 d a b c i r s := by
  intro ρ x y z hx hy hz hu
  have wx := wn_nat hx
  have wy := wn_nat hy
  have wz := wn_nat hz
  have h0 : ρ 0 = x := hu 0 (by show 0 < 2; omega)
  have h1 : ρ 1 = y := hu 1 (by show 1 < 2; omega)
  show (((wn (x : Int) ^^^ wn (y : Int) : Nat) : Int), true, ()) = (((ρ 0 ^^^ ρ 1 : Nat) : Int), true, ())
  rw [h0, h1, wx, wy]

theorem all_10 (d a b c i r : Int) (s : tSpot.den) : ((V_tmpl_inner (opI 10 d a b c i, s, r)).all rsI) = true := by kernel_rfl
theorem does_10 (d a b c i r : Int) (s : tSpot.den) : doesI 10 d a b c i r s := by
  intro ρ x y z hx hy hz hu
  have wx := wn_nat hx
  have wy := wn_nat hy
  have wz := wn_nat hz
  have h0 : ρ 0 = x := hu 0 (by show 0 < 1; omega)
  show (((4294967295 - wn (x : Int) : Nat) : Int), true, ()) = (((4294967295 - ρ 0 : Nat) : Int), true, ())
  rw [h0, wx]

theorem all_11 (d a b c i r : Int) (s : tSpot.den) (hi : 0 ≤ i ∧ i ≤ 31) : ((V_tmpl_inner (opI 11 d a b c i, s, r)).all rsI) = true := by
  show (rsI (V_tmpl_shift (5, 3, 0, i)) && true) = true
  rw [rs_shift 5 i (by decide) hi]
  rfl
theorem does_11 (d a b c i r : Int) (s : tSpot.den) : doesI 11 d a b c i r s := by
  intro ρ x y z hx hy hz hu
  have wx := wn_nat hx
  have h0 : ρ 0 = x := hu 0 (by show 0 < 1; omega)
  have ev : V_ir_Value (opI 11 d a b c i, (x : Int), (y : Int), (z : Int)) = (V_word_Shl ((x : Int), i), true, ()) := by kernel_rfl
  have e : (V_tmpl_inner (opI 11 d a b c i, s, r)) = [(bif i == 0 then (5 : Int) else 5, 3, 0, 0, 0, i, 0, false, ())] := by kernel_rfl
  have er : V_word_Shl ((x : Int), i) = ((wn (x : Int) * 2 ^ kk i % 4294967296 : Nat) : Int) := rfl
  have e5 : (bif i == 0 then (5 : Int) else 5) = 5 := by cases i == 0 <;> rfl
  rw [ev, e, er, wx, e5]
  show _ = (((ρ 0 * 2 ^ kk i % 4294967296 : Nat) : Int), true, ())
  rw [h0]

theorem all_12 (d a b c i r : Int) (s : tSpot.den) (hi : 0 ≤ i ∧ i ≤ 31) : ((V_tmpl_inner (opI 12 d a b c i, s, r)).all rsI) = true := by
  show (rsI (V_tmpl_shift (6, 3, 0, i)) && true) = true
  rw [rs_shift 6 i (by decide) hi]
  rfl
theorem does_12 (d a b c i r : Int) (s : tSpot.den) : doesI 12 d a b c i r s := by
  intro ρ x y z hx hy hz hu
  have wx := wn_nat hx
  have h0 : ρ 0 = x := hu 0 (by show 0 < 1; omega)
  show (((wn (x : Int) / 2 ^ kk i : Nat) : Int), true, ()) = ((((V_tmpl_inner (opI 12 d a b c i, s, r)).foldl stepN ρ 3 : Nat) : Int), true, ())
  have e : (V_tmpl_inner (opI 12 d a b c i, s, r)) = [(bif i == 0 then (5 : Int) else 6, 3, 0, 0, 0, i, 0, false, ())] := by kernel_rfl
  rw [e, wx]
  by_cases c0 : i = 0
  · subst c0
    show (((x / 2 ^ kk 0 : Nat) : Int), true, ()) = (((ρ 0 * 2 ^ kk 0 % 4294967296 : Nat) : Int), true, ())
    rw [h0, kk_zero]
    congr 2
    omega
  · have b0 : (i == 0) = false := beq_eq_false_iff_ne.2 c0
    rw [b0]
    show (((x / 2 ^ kk i : Nat) : Int), true, ()) = (((ρ 0 / 2 ^ kk i : Nat) : Int), true, ())
    rw [h0]

theorem all_13 (d a b c i r : Int) (s : tSpot.den) (hi : 0 ≤ i ∧ i ≤ 31) : ((V_tmpl_inner (opI 13 d a b c i, s, r)).all rsI) = true := by
  show (rsI (V_tmpl_shift (8, 3, 0, i)) && true) = true
  rw [rs_shift 8 i (by decide) hi]
  rfl
theorem does_13 (d a b c i r : Int) (s : tSpot.den) : doesI 13 d a b c i r s := by
  intro ρ x y z hx hy hz hu
  have wx := wn_nat hx
  have h0 : ρ 0 = x := hu 0 (by show 0 < 1; omega)
  have ev : V_ir_Value (opI 13 d a b c i, (x : Int), (y : Int), (z : Int)) = (V_word_Ror ((x : Int), i), true, ()) := by kernel_rfl
  have e : (V_tmpl_inner (opI 13 d a b c i, s, r)) = [(bif i == 0 then (5 : Int) else 8, 3, 0, 0, 0, i, 0, false, ())] := by kernel_rfl
  have er : V_word_Ror ((x : Int), i) = ((wn (x : Int) / 2 ^ kk i + wn (x : Int) % 2 ^ kk i * 2 ^ (32 - kk i) : Nat) : Int) := rfl
  rw [ev, e, er, wx]
  by_cases c0 : i = 0
  · subst c0
    show (((x / 2 ^ kk 0 + x % 2 ^ kk 0 * 2 ^ (32 - kk 0) : Nat) : Int), true, ()) = (((ρ 0 * 2 ^ kk 0 % 4294967296 : Nat) : Int), true, ())
    rw [h0, kk_zero]
    congr 2
    omega
  · have b0 : (i == 0) = false := beq_eq_false_iff_ne.2 c0
    rw [b0]
    show _ = (((ρ 0 / 2 ^ kk i + ρ 0 % 2 ^ kk i * 2 ^ (32 - kk i) : Nat) : Int), true, ())
    rw [h0]

theorem all_14 (d a b c i r : Int) (s : tSpot.den) : ((V_tmpl_inner (opI 14 d a b c i, s, r)).all rsI) = true := by kernel_rfl
theorem does_14 (d a b c i r : Int) (s : tSpot.den) : doesI 14 d a b c i r s := by
  intro ρ x y z hx hy hz hu
  have wx := wn_nat hx
  have wy := wn_nat hy
  have wz := wn_nat hz
  have h0 : ρ 0 = x := hu 0 (by show 0 < 2; omega)
  have h1 : ρ 1 = y := hu 1 (by show 1 < 2; omega)
  have ef : (V_tmpl_inner (opI 14 d a b c i, s, r)).foldl stepN ρ 3 = wn (sw ((ρ 1 &&& (4294967295 - ρ 0)) ||| (((4294967295 - ρ 0) ||| ρ 1) &&& ((ρ 0 + (4294967296 - ρ 1)) % 4294967296))) / (2 ^ kk 31 : Nat)) := by kernel_rfl
  have ev : V_ir_Value (opI 14 d a b c i, (x : Int), (y : Int), (z : Int)) = (bif decide ((wn (x : Int) : Int) < (wn (y : Int) : Int)) then (4294967295, true, ()) else (0, true, ())) := by
    show ((bif decide ((wn (x : Int) : Int) < (wn (y : Int) : Int)) then some (4294967295, true, ()) else some (0, true, ())) : Option (Int × Bool × Unit)).getD default = _
    cases decide ((wn (x : Int) : Int) < (wn (y : Int) : Int)) <;> rfl
  rw [ef, ev, h0, h1, less_bits hx hy, wx, wy]
  have : decide ((x : Int) < (y : Int)) = decide (x < y) := by rw [Bool.eq_iff_iff, decide_eq_true_eq, decide_eq_true_eq]; omega
  rw [this]
  cases decide (x < y) <;> rfl

theorem all_15 (d a b c i r : Int) (s : tSpot.den) : ((V_tmpl_inner (opI 15 d a b c i, s, r)).all rsI) = true := by kernel_rfl
theorem all_16 (d a b c i r : Int) (s : tSpot.den) : ((V_tmpl_inner (opI 16 d a b c i, s, r)).all rsI) = true := by kernel_rfl
theorem does_16 (d a b c i r : Int) (s : tSpot.den) : doesI 16 d a b c i r s := by
  intro ρ x y z hx hy hz hu
  have wx := wn_nat hx
  have wy := wn_nat hy
  have wz := wn_nat hz
  have h0 : ρ 0 = x := hu 0 (by show 0 < 2; omega)
  have h1 : ρ 1 = y := hu 1 (by show 1 < 2; omega)
  have ef : (V_tmpl_inner (opI 16 d a b c i, s, r)).foldl stepN ρ 3 = ((ρ 0 &&& ρ 1) ||| ((ρ 0 ||| ρ 1) &&& (4294967295 - (ρ 0 + ρ 1) % 4294967296))) / 2 ^ kk 31 := by kernel_rfl
  show (ishr IntKind.i64 (w64 ((wn (x : Int) : Int) + (wn (y : Int) : Int))) 32, true, ()) = _
  rw [ef, h0, h1, carry_bits hx hy, wx, wy, w64_id (by omega) (by omega), show (32 : Int) = ((32 : Nat) : Int) from rfl, ishr_i64 _ _ (by omega)]
  congr 1

theorem all_17 (d a b c i r : Int) (s : tSpot.den) : ((V_tmpl_inner (opI 17 d a b c i, s, r)).all rsI) = true := by kernel_rfl
theorem does_17 (d a b c i r : Int) (s : tSpot.den) : doesI 17 d a b c i r s := by
  intro ρ x y z hx hy hz hu
  have wx := wn_nat hx
  have wy := wn_nat hy
  have wz := wn_nat hz
  have h0 : ρ 0 = x := hu 0 (by show 0 < 3; omega)
  have h1 : ρ 1 = y := hu 1 (by show 1 < 3; omega)
  have h2 : ρ 2 = z := hu 2 (by show 2 < 3; omega)
  show ((((wn (x : Int) &&& wn (z : Int)) ||| (wn (y : Int) &&& (4294967295 - wn (z : Int))) : Nat) : Int), true, ()) = ((((ρ 0 &&& ρ 2) ||| (ρ 1 &&& (4294967295 - ρ 2)) : Nat) : Int), true, ())
  rw [h0, h1, h2, wx, wy, wz]

end Go.Av
end
/-! Operations' instructions make what they mean: the last kinds, and all. -/
section
namespace Go.Av
open Go

theorem ev_15 (d a b c i x y z : Int) : V_ir_Value (opI 15 d a b c i, x, y, z) = (PO.ite (V_word_Wrap x == V_word_Wrap y) (PO.ret (((4294967295 : Int), true, ()) : Sh.den S_ir_Value)) (PO.ret (((0 : Int), true, ()) : Sh.den S_ir_Value))).getO default := by kernel_rfl
/-- As stepN, with anything that is made. -/
def stepF (F : Int → Int → Int → Nat → Nat → Nat → Nat) (ρ : Int → Nat) : tIns.den → (Int → Nat)
  | (op, rd, rn, rm, ra, imm, _) => bif op == 17 then updR (updR ρ rd (ρ rn * ρ rm % 4294967296)) ra (ρ rn * ρ rm / 4294967296)
    else updR ρ rd (F op imm ra (ρ rd) (ρ rn) (ρ rm))
theorem stepF_N : stepN = stepF vN := rfl
theorem eF_15 (F : Int → Int → Int → Nat → Nat → Nat → Nat) (d a b c i r : Int) (s : tSpot.den) (ρ : Int → Nat) : (V_tmpl_inner (opI 15 d a b c i, s, r)).foldl (stepF F) ρ 3 = F 15 0 0 (ρ 3)
      (F 6 31 0 (F 13 0 0 (ρ 4) (ρ 0) (ρ 1)) (ρ 0) (F 12 0 0 (ρ 2) (F 13 0 0 (ρ 4) (ρ 0) (ρ 1)) (F 15 0 0 (ρ 6) (F 3 0 0 (ρ 5) (ρ 0) (ρ 0)) (F 13 0 0 (ρ 4) (ρ 0) (ρ 1)))))
      (F 3 1 0 (F 3 0 0 (ρ 5) (ρ 0) (ρ 0)) (ρ 0) (ρ 0)) := by kernel_rfl
theorem ef_15 (d a b c i r : Int) (s : tSpot.den) (ρ : Int → Nat) : (V_tmpl_inner (opI 15 d a b c i, s, r)).foldl stepN ρ 3 = vN 15 0 0 (ρ 3)
      (vN 6 31 0 (vN 13 0 0 (ρ 4) (ρ 0) (ρ 1)) (ρ 0) (vN 12 0 0 (ρ 2) (vN 13 0 0 (ρ 4) (ρ 0) (ρ 1)) (vN 15 0 0 (ρ 6) (vN 3 0 0 (ρ 5) (ρ 0) (ρ 0)) (vN 13 0 0 (ρ 4) (ρ 0) (ρ 1)))))
      (vN 3 1 0 (vN 3 0 0 (ρ 5) (ρ 0) (ρ 0)) (ρ 0) (ρ 0)) := by
  rw [stepF_N]
  exact eF_15 vN d a b c i r s ρ
theorem w0 : wn 0 = 0 := by decide +kernel
theorem w1 : wn 1 = 1 := by decide +kernel
theorem eg_15 {ρ : Int → Nat} {x y : Nat} (h0 : ρ 0 = x) (h1 : ρ 1 = y) (hx : x < 4294967296) (hy : y < 4294967296) : vN 15 0 0 (ρ 3)
      (vN 6 31 0 (vN 13 0 0 (ρ 4) (ρ 0) (ρ 1)) (ρ 0) (vN 12 0 0 (ρ 2) (vN 13 0 0 (ρ 4) (ρ 0) (ρ 1)) (vN 15 0 0 (ρ 6) (vN 3 0 0 (ρ 5) (ρ 0) (ρ 0)) (vN 13 0 0 (ρ 4) (ρ 0) (ρ 1)))))
      (vN 3 1 0 (vN 3 0 0 (ρ 5) (ρ 0) (ρ 0)) (ρ 0) (ρ 0)) = bif x == y then 4294967295 else 0 := by
  rw [v15, v6, v12, v15, v13, v3, v3, w0, w1, h0, h1, same_bits hx hy]
theorem ec_15 {x y : Nat} (hx : x < 4294967296) (hy : y < 4294967296) : (V_word_Wrap (x : Int) == V_word_Wrap (y : Int)) = (x == y) := by
  rw [Bool.eq_iff_iff, beq_iff_eq, beq_iff_eq]
  unfold V_word_Wrap
  rw [wn_nat hx, wn_nat hy]
  exact Int.ofNat_inj
theorem does_15 (d a b c i r : Int) (s : tSpot.den) : doesI 15 d a b c i r s := by
  intro ρ x y z hx hy hz hu
  have h0 : ρ 0 = x := hu 0 (by show 0 < 2; omega)
  have h1 : ρ 1 = y := hu 1 (by show 1 < 2; omega)
  rw [ef_15, ev_15, eg_15 h0 h1 hx hy, ec_15 hx hy]
  cases x == y <;> rfl

/-- An operation's instructions: each may be done twice, and they make its value. -/
theorem inner_does (k d a b c i r : Int) (s : tSpot.den) (hk : 1 ≤ k ∧ k ≤ 17) (ht : tailR (opI k d a b c i) s = true) :
    ((V_tmpl_inner (opI k d a b c i, s, r)).all rsI) = true ∧ doesI k d a b c i r s := by
  have hsh : 11 ≤ k ∧ k ≤ 13 → 0 ≤ i ∧ i ≤ 31 := fun h => by
    have h' : tailR (opI k d a b c i) s = (decide (i ≥ 0) && decide (i < 32)) := by
      have : k = 11 ∨ k = 12 ∨ k = 13 := by omega
      rcases this with rfl | rfl | rfl <;> rfl
    rw [h'] at ht
    simp only [Bool.and_eq_true, decide_eq_true_eq] at ht
    omega
  have hi1 : k = 1 → 0 ≤ i ∧ i ≤ 4294967295 := fun h => by
    subst h
    have h' : (decide (i ≥ 0) && decide (i < 4294967296)) = true := ht
    simp only [Bool.and_eq_true, decide_eq_true_eq] at h'
    omega
  rcases kinds k with rfl | rfl | rfl | rfl | rfl | rfl | rfl | rfl | rfl | rfl | rfl | rfl | rfl | rfl | rfl | rfl | rfl | rfl | rfl | h'
  · exact ⟨all_1 .., does_1 _ _ _ _ _ _ _ (hi1 rfl)⟩
  · exact ⟨all_2 .., does_2 d a b c i r s⟩
  · exact ⟨all_3 .., does_3 d a b c i r s⟩
  · exact ⟨all_4 .., does_4 d a b c i r s⟩
  · exact ⟨all_5 .., does_5 d a b c i r s⟩
  · exact ⟨all_6 .., does_6 d a b c i r s⟩
  · exact ⟨all_7 .., does_7 d a b c i r s⟩
  · exact ⟨all_8 .., does_8 d a b c i r s⟩
  · exact ⟨all_9 .., does_9 d a b c i r s⟩
  · exact ⟨all_10 .., does_10 d a b c i r s⟩
  · exact ⟨all_11 _ _ _ _ _ _ _ (hsh (by omega)), does_11 d a b c i r s⟩
  · exact ⟨all_12 _ _ _ _ _ _ _ (hsh (by omega)), does_12 d a b c i r s⟩
  · exact ⟨all_13 _ _ _ _ _ _ _ (hsh (by omega)), does_13 d a b c i r s⟩
  · exact ⟨all_14 .., does_14 d a b c i r s⟩
  · exact ⟨all_15 .., does_15 d a b c i r s⟩
  · exact ⟨all_16 .., does_16 d a b c i r s⟩
  · exact ⟨all_17 .., does_17 d a b c i r s⟩
  all_goals exfalso; omega
end Go.Av
end
/-! An operation's instructions, done on a world: they make Dst's word what Value says. -/
section
namespace Go.Av
open Go

/-- A register's word. -/
abbrev regW (s : tState.den) (k : Int) : Nat := wn (rg s.1 k)
theorem regW_rep {s : tState.den} (hl : List.length s.1 = 15) : repS s (regW s) := ⟨hl, fun _ _ => rfl⟩
theorem regW_bd (s : tState.den) : bdR (regW s) := fun _ => wn_lt _

theorem go_regs (l c : List tIns.den) (hi : ∀ i ∈ l, regI i = true) (at_ : Int) (s : tState.den) (m : MemT) (hl : List.length s.1 = 15) :
    ∃ (at' : Int) (s' : tState.den), goL noF 1 (l ++ c) at_ s m = goL noF 1 c at' s' m ∧ List.length s'.1 = 15 ∧ ∀ k : Int, 0 ≤ k → regW s' k = (l.foldl stepN (regW s)) k := by
  obtain ⟨at', s', e, hr⟩ := goL_regs l c hi at_ s (regW s) m (regW_rep hl)
  refine ⟨at', s', e, hr.1, fun k hk => ?_⟩
  rw [← (foldN l (regW s) (regW_bd s) hi).1]
  exact hr.2 k hk

/-- Where a temp's word lies in a rail. -/
def tempA (r t : Int) : Int := 537133056 + 262144 * r + 4 * (t + 1)

theorem rs_reg {i : tIns.den} (h : rsI i = true) : regI i = true := (Bool.and_eq_true_iff.1 h).1
theorem rs_safe {i : tIns.den} (h : rsI i = true) : V_dup_Safe i = true := (Bool.and_eq_true_iff.1 h).2

theorem rs_movs {r t : Int} (hr : r = 0 ∨ r = 1) (ht : 0 ≤ t ∧ t < 63) : rsI (movw 7 (4 * (t + 1))) = true ∧ rsI (insI 4 7 0 0 0 (bif r == 0 then 8196 else 8200) 0) = true := by
  refine ⟨rs_one 3 7 0 0 _ (okB_34 3 7 _ (by decide) (by decide) (by omega)) (by decide) (by decide), rs_one 4 7 0 0 _ (okB_34 4 7 _ (by decide) (by decide) ?_) (by decide) (by decide)⟩
  rcases hr with rfl | rfl <;> decide

theorem mov_addr {r t : Int} (hr : r = 0 ∨ r = 1) (ht : 0 ≤ t ∧ t < 63) (c : List tIns.den) (at_ : Int) (s : tState.den) (m : MemT) (hl : List.length s.1 = 15) :
    ∃ (at' : Int) (s' : tState.den), goL noF 1 ([movw 7 (4 * (t + 1)), insI 4 7 0 0 0 (bif r == 0 then 8196 else 8200) 0] ++ c) at_ s m = goL noF 1 c at' s' m ∧ List.length s'.1 = 15 ∧ ((regW s' 7 : Nat) : Int) = tempA r t ∧ ∀ k : Int, 0 ≤ k → k ≠ 7 → regW s' k = regW s k := by
  obtain ⟨g1, g2⟩ := rs_movs hr ht
  have hi : ∀ i ∈ [movw 7 (4 * (t + 1)), insI 4 7 0 0 0 (bif r == 0 then 8196 else 8200) 0], regI i = true := fun i hi => by
    rcases List.mem_cons.1 hi with rfl | hi
    · exact rs_reg g1
    · rcases List.mem_cons.1 hi with rfl | hi
      · exact rs_reg g2
      · cases hi
  obtain ⟨at', s', e, e1, e2⟩ := go_regs [movw 7 (4 * (t + 1)), insI 4 7 0 0 0 (bif r == 0 then 8196 else 8200) 0] c hi at_ s m hl
  have ef : [movw 7 (4 * (t + 1)), insI 4 7 0 0 0 (bif r == 0 then 8196 else 8200) 0].foldl stepN (regW s) = updR (updR (regW s) 7 (wn (4 * (t + 1)))) 7 (insN (updR (regW s) 7 (wn (4 * (t + 1))) 7) (wn (bif r == 0 then 8196 else 8200)) 16 16) := rfl
  rw [ef] at e2
  refine ⟨at', s', e, e1, ?_, fun k hk h7 => ?_⟩
  · rw [e2 7 (by decide), updR_same, updR_same]
    unfold tempA insN wn
    rcases hr with rfl | rfl
    · simp only [beq_self_eq_true, cond_true]
      omega
    · rw [show ((1 : Int) == 0) = false from rfl]
      simp only [cond_false]
      omega
  · rw [e2 k hk, updR_other _ _ h7, updR_other _ _ h7]

theorem get_go {r t : Int} (hr : r = 0 ∨ r = 1) (ht : 0 ≤ t ∧ t < 63) {m : MemT} {v : Int} (hv : loadM m (tempA r t) 4 = (v, 0, ())) (j : Int) (hj : 0 ≤ j ∧ j ≤ 6) (c : List tIns.den) (at_ : Int) (s : tState.den) (hl : List.length s.1 = 15) :
    ∃ (at' : Int) (s' : tState.den), goL noF 1 (getI (4 * (t + 1), r, j) ++ c) at_ s m = goL noF 1 c at' s' m ∧ List.length s'.1 = 15 ∧ regW s' j = wn v ∧ ∀ k : Int, 0 ≤ k → k ≠ 7 → k ≠ j → regW s' k = regW s k := by
  obtain ⟨at1, s1, e1, l1, a1, k1⟩ := mov_addr hr ht ((19, j, 7, 0, 0, 0, 0, false, ()) :: c) at_ s m hl
  have e0 : getI (4 * (t + 1), r, j) ++ c = [movw 7 (4 * (t + 1)), insI 4 7 0 0 0 (bif r == 0 then 8196 else 8200) 0] ++ ((19, j, 7, 0, 0, 0, 0, false, ()) :: c) := rfl
  obtain ⟨d1, d2, d3⟩ := doOne_load (regW_rep l1) (op := 19) (rd := j) (rn := 7) (.inl rfl) (by omega) (by omega) m (v := v) (by show loadM m ((regW s1 7 : Nat) : Int) 4 = _; rw [a1]; exact hv)
  refine ⟨at1 + 1, _, by rw [e0, e1, goL_on d1, d2], d3.1, ?_, fun k hk h7 hkj => ?_⟩
  · refine (d3.2 j hj.1).trans ?_
    rw [updR_same]
    rfl
  · refine (d3.2 k hk).trans ?_
    rw [updR_other _ _ hkj]
    exact k1 k hk h7

theorem gets_go {r : Int} (hr : r = 0 ∨ r = 1) {m : MemT} {val : Int → Int} (hv : ∀ t : Int, 0 ≤ t → t < 63 → loadM m (tempA r t) 4 = (val t, 0, ())) :
    ∀ (u : List Int) (i : Nat) (c : List tIns.den) (at_ : Int) (s : tState.den), (∀ t ∈ u, 0 ≤ t ∧ t < 63) → i + u.length ≤ 6 → List.length s.1 = 15 →
      ∃ (at' : Int) (s' : tState.den), goL noF 1 (gets r u i ++ c) at_ s m = goL noF 1 c at' s' m ∧ List.length s'.1 = 15 ∧ (∀ j : Nat, j < u.length → regW s' ((i + j : Nat) : Int) = wn (val (u.getD j 0))) ∧ ∀ k : Int, 0 ≤ k → k < i → regW s' k = regW s k
  | [], i, c, at_, s, _, _, hl => ⟨at_, s, rfl, hl, fun j hj => (Nat.not_lt_zero _ hj).elim, fun _ _ _ => rfl⟩
  | t :: u, i, c, at_, s, hu, hi, hl => by
    have hlen : (t :: u).length = u.length + 1 := rfl
    have ht := hu t (List.mem_cons_self ..)
    obtain ⟨at1, s1, e1, l1, v1, k1⟩ := get_go hr ht (hv t ht.1 ht.2) (i : Int) (by omega) (gets r u (i + 1) ++ c) at_ s hl
    obtain ⟨at2, s2, e2, l2, v2, k2⟩ := gets_go hr hv u (i + 1) c at1 s1 (fun q hq => hu q (List.mem_cons_of_mem _ hq)) (by omega) l1
    refine ⟨at2, s2, ?_, l2, fun j hj => ?_, fun k hk hki => ?_⟩
    · show goL noF 1 ((getI (4 * (t + 1), r, (i : Int)) ++ gets r u (i + 1)) ++ c) at_ s m = _
      rw [List.append_assoc, e1, e2]
    · cases j with
      | zero =>
        rw [Nat.add_zero, k2 (i : Int) (by omega) (by omega), v1]
        rfl
      | succ j =>
        have := v2 j (by omega)
        rw [show i + 1 + j = i + (j + 1) by omega] at this
        exact this
    · rw [k2 k hk (by omega), k1 k hk (by omega) (by omega)]

theorem put_go {r t : Int} (hr : r = 0 ∨ r = 1) (ht : 0 ≤ t ∧ t < 63) {m : MemT} (at_ : Int) (s : tState.den) (hl : List.length s.1 = 15) (hst : (storeM m (tempA r t) 4 ((regW s 3 : Nat) : Int)).1 = 0) :
    ∃ (at' : Int) (s' : tState.den), goL noF 1 (putI (4 * (t + 1), r, 3)) at_ s m = (true, at', s', (storeM m (tempA r t) 4 ((regW s 3 : Nat) : Int)).2) := by
  obtain ⟨at1, s1, e1, l1, a1, k1⟩ := mov_addr hr ht [(20, 3, 7, 0, 0, 0, 0, false, ())] at_ s m hl
  have e0 : putI (4 * (t + 1), r, 3) = [movw 7 (4 * (t + 1)), insI 4 7 0 0 0 (bif r == 0 then 8196 else 8200) 0] ++ [(20, 3, 7, 0, 0, 0, 0, false, ())] := rfl
  have e3 := k1 3 (by decide) (by decide)
  obtain ⟨d1, d2⟩ := doOne_store (regW_rep l1) (op := 20) (rd := 3) (rn := 7) (.inl rfl) (by decide) (by decide) m (by show (storeM m ((regW s1 7 : Nat) : Int) 4 ((regW s1 3 : Nat) : Int)).1 = 0; rw [a1, e3]; exact hst)
  have d2' : (doOne s1 (20, 3, 7, 0, 0, 0, 0, false, ()) m).2.2 = (storeM m ((regW s1 7 : Nat) : Int) 4 ((regW s1 3 : Nat) : Int)).2 := d2
  rw [a1, e3] at d2'
  refine ⟨at1 + 1, (doOne s1 (20, 3, 7, 0, 0, 0, 0, false, ()) m).2.1, ?_⟩
  rw [e0, e1, goL_on d1, d2']
  rfl

/-! ### Done twice -/
theorem goK_two (i : tIns.den) (at_ : Int) (st : tState.den) (mem : MemT) (h1 : (doOne st i mem).1 = true) (h2 : (doOne (doOne st i mem).2.1 i (doOne st i mem).2.2).1 = true) :
    goK noF i 2 at_ st mem = (true, at_ + 1 + 1, (doOne (doOne st i mem).2.1 i (doOne st i mem).2.2).2) := by
  have hh : ∀ (s : tState.den) (a : Int), hitV s noF a = s := fun s a => hit_none _ _ _ rfl
  show (bif (doOne (hitV st noF at_) i mem).1 then _ else _) = _
  rw [hh, h1]
  show (bif (doOne (hitV (doOne st i mem).2.1 noF (at_ + 1)) i (doOne st i mem).2.2).1 then _ else _) = _
  rw [hh, h2]
  rfl

theorem twice_go : ∀ (l : List tIns.den), (∀ i ∈ l, V_dup_Safe i = true) → ∀ (a0 b0 : Int) (sa sb : tState.den) (mem : MemT), List.length sa.1 = 15 → List.length sb.1 = 15 → MemWf mem → simS sa sb → (goL noF 1 l a0 sa mem).1 = true →
    (goL noF 2 l b0 sb mem).1 = true ∧ (goL noF 2 l b0 sb mem).2.2.2 = (goL noF 1 l a0 sa mem).2.2.2
  | [], _, _, _, _, _, _, _, _, _, _, _ => ⟨rfl, rfl⟩
  | i :: l, hs, a0, b0, sa, sb, mem, hla, hlb, hm, hsim, hon => by
    have hsi := hs i (List.mem_cons_self ..)
    have e1 : (doOne sa i mem).1 = true := by
      rw [goL_cons, goK_none] at hon
      cases h : (doOne sa i mem).1 with
      | true => rfl
      | false =>
        have hon' : (bif (doOne sa i mem).1 then goL noF 1 l (a0 + 1) (doOne sa i mem).2.1 (doOne sa i mem).2.2 else ((doOne sa i mem).1, a0 + 1, (doOne sa i mem).2)).1 = true := hon
        rw [h] at hon'
        exact hon'
    obtain ⟨q1, q2, q3⟩ := doOne_sim hsim hsi mem
    have e2 : (doOne sb i mem).1 = true := q1.symm.trans e1
    obtain ⟨p1, p2, p3⟩ := doOne_again hsi hlb hm e2
    rw [goL_on e1] at hon ⊢
    have ek := goK_two i b0 sb mem e2 p1
    have eg : goL noF 2 (i :: l) b0 sb mem = goL noF 2 l (b0 + 1 + 1) (doOne (doOne sb i mem).2.1 i (doOne sb i mem).2.2).2.1 (doOne (doOne sb i mem).2.1 i (doOne sb i mem).2.2).2.2 := by
      show (bif (goK noF i 2 b0 sb mem).1 then _ else _) = _
      rw [ek]
      rfl
    have em : (doOne (doOne sb i mem).2.1 i (doOne sb i mem).2.2).2.2 = (doOne sa i mem).2.2 := p2.trans q2.symm
    rw [eg, em]
    obtain ⟨w1, w2, w3⟩ := doOne_wf (ins := i) hla hm
    obtain ⟨x1, x2, x3⟩ := doOne_wf (ins := i) hlb hm
    obtain ⟨y1, _, _⟩ := doOne_wf (ins := i) x1 x2
    exact twice_go l (fun j hj => hs j (List.mem_cons_of_mem _ hj)) _ _ _ _ _ w1 y1 w2 (q3.trans p3) hon
end Go.Av
end
/-! TmplDoes. -/
section
namespace Go.Av
open Go

theorem find_rail {r t : Int} (hr : r = 0 ∨ r = 1) (ht : 0 ≤ t ∧ t < 63) (w : Bool) : findX (tempA r t) 4 w regsL = some (3 + r.toNat) := by
  have h0 : hasB (0, 4, false, ()) (tempA r t) 4 = false := by unfold hasB tempA; exact dec_false (by dsimp only; omega)
  have h1 : hasB (536936448, 16, true, ()) (tempA r t) 4 = false := by unfold hasB tempA; exact dec_false (by dsimp only; omega)
  have h2 : hasB (537001984, 16, true, ()) (tempA r t) 4 = false := by unfold hasB tempA; exact dec_false (by dsimp only; omega)
  rcases hr with rfl | rfl
  · have h3 : hasB (537133056, 256, true, ()) (tempA 0 t) 4 = true := by unfold hasB tempA; exact dec_true (by dsimp only; omega)
    simp only [regsL, findX, h0, h1, h2, h3, cond_false, cond_true]
    cases w <;> rfl
  · have h3 : hasB (537133056, 256, true, ()) (tempA 1 t) 4 = false := by unfold hasB tempA; exact dec_false (by dsimp only; omega)
    have h4 : hasB (537395200, 256, true, ()) (tempA 1 t) 4 = true := by unfold hasB tempA; exact dec_true (by dsimp only; omega)
    simp only [regsL, findX, h0, h1, h2, h3, h4, cond_false, cond_true]
    cases w <;> rfl

theorem findM_rail {r t : Int} (hr : r = 0 ∨ r = 1) (ht : 0 ≤ t ∧ t < 63) (w : Bool) : findM regsL (tempA r t) 4 w = (((3 + r.toNat : Nat) : Int), 0, ()) := by
  have hm : ((tempA r t).tmod 4 != 0) = false := by
    rw [bne_eq_false_iff_eq]
    unfold tempA
    rw [Int.tmod_eq_emod_of_nonneg (by omega)]
    omega
  unfold findM
  rw [hm, find_rail hr ht w]
  rfl

theorem world_word {m : MemT} (hm : MemWf m) (hw : WorldL m) {r t : Int} (hr : r = 0 ∨ r = 1) (ht : 0 ≤ t ∧ t < 63) (v : Int) :
    (storeM m (tempA r t) 4 v).1 = 0 ∧ loadM (storeM m (tempA r t) 4 v).2 (tempA r t) 4 = ((wn v : Int), 0, ()) ∧ ∃ was : Int, loadM m (tempA r t) 4 = (was, 0, ()) ∧ 0 ≤ was ∧ was < 4294967296 ∧ storeM (storeM m (tempA r t) 4 v).2 (tempA r t) 4 was = (0, m) := by
  have e : m.1.1 = regsL := by rw [hw]
  refine store_facts hm (j := 3 + r.toNat) (.inr rfl) ?_ ?_ ?_ v
  · rw [e]; exact findM_rail hr ht false
  · rw [e]; exact findM_rail hr ht true
  · rw [e]; exact find_rail hr ht true

/-- The word of a temp. -/
abbrev wordT (m : MemT) (r t : Int) : Int := (loadM m (tempA r t) 4).1

theorem word_ok {m : MemT} (hm : MemWf m) (hw : WorldL m) {r t : Int} (hr : r = 0 ∨ r = 1) (ht : 0 ≤ t ∧ t < 63) : loadM m (tempA r t) 4 = (wordT m r t, 0, ()) ∧ 0 ≤ wordT m r t ∧ wordT m r t < 4294967296 := by
  obtain ⟨_, _, was, h1, h2, h3, _⟩ := world_word hm hw hr ht 0
  unfold wordT
  rw [h1]
  exact ⟨rfl, h2, h3⟩

theorem gets_safe {r : Int} (hr : r = 0 ∨ r = 1) : ∀ (u : List Int) (i : Nat), (∀ t ∈ u, 0 ≤ t ∧ t < 63) → i + u.length ≤ 6 → ∀ q ∈ gets r u i, V_dup_Safe q = true
  | [], _, _, _, q, hq => by cases hq
  | t :: u, i, hu, hi, q, hq => by
    have hlen : (t :: u).length = u.length + 1 := rfl
    obtain ⟨g1, g2⟩ := rs_movs hr (hu t (List.mem_cons_self ..))
    rcases List.mem_append.1 (show q ∈ getI (4 * (t + 1), r, (i : Int)) ++ gets r u (i + 1) from hq) with h | h
    · rcases List.mem_cons.1 h with rfl | h
      · exact rs_safe g1
      · rcases List.mem_cons.1 h with rfl | h
        · exact rs_safe g2
        · rcases List.mem_cons.1 h with rfl | h
          · have hi' : i = 0 ∨ i = 1 ∨ i = 2 ∨ i = 3 ∨ i = 4 ∨ i = 5 := by omega
            rcases hi' with rfl | rfl | rfl | rfl | rfl | rfl <;> exact Eq.symm (Eq.symm (by kernel_rfl))
          · cases h
    · exact gets_safe hr u (i + 1) (fun t' h' => hu t' (List.mem_cons_of_mem _ h')) (by omega) q h

theorem put_safe {r t : Int} (hr : r = 0 ∨ r = 1) (ht : 0 ≤ t ∧ t < 63) : ∀ q ∈ putI (4 * (t + 1), r, 3), V_dup_Safe q = true := fun q h => by
  obtain ⟨g1, g2⟩ := rs_movs hr ht
  rcases List.mem_cons.1 h with rfl | h
  · exact rs_safe g1
  · rcases List.mem_cons.1 h with rfl | h
    · exact rs_safe g2
    · rcases List.mem_cons.1 h with rfl | h
      · exact Eq.symm (Eq.symm (by kernel_rfl))
      · cases h

theorem uses_mem (k d a b c i : Int) : ∀ t ∈ V_ir_Uses (opI k d a b c i), t = a ∨ t = b ∨ t = c := fun t h => by
  have h' : t ∈ [a, b, c] := List.mem_of_mem_take (show t ∈ List.take _ [a, b, c] from h)
  simpa using h'
theorem uses_at (k d a b c i : Int) (j : Nat) (h : j < (V_ir_Uses (opI k d a b c i)).length) : (V_ir_Uses (opI k d a b c i)).getD j 0 = [a, b, c].getD j 0 := by
  have e : V_ir_Uses (opI k d a b c i) = List.take (Int.toNat (V_ir_formOf k).2.1) [a, b, c] := rfl
  rw [e] at h ⊢
  rw [List.length_take] at h
  rw [List.getD_eq_getElem?_getD, List.getD_eq_getElem?_getD, List.getElem?_take, if_pos (by omega)]

/-- An operation that makes a word, done. -/
theorem op_does {k d a b c i r : Int} {s : tSpot.den} (hk : 1 ≤ k ∧ k ≤ 17) (hr : r = 0 ∨ r = 1) (ht : tailR (opI k d a b c i) s = true) (ha : 0 ≤ a ∧ a < 63) (hb : 0 ≤ b ∧ b < 63) (hc : 0 ≤ c ∧ c < 63) (hd : 0 ≤ d ∧ d < 63)
    {m : MemT} (hm : MemWf m) (hw : WorldL m) (st : tState.den) (hl : List.length st.1 = 15) :
    ∃ v : Int, 0 ≤ v ∧ v < 4294967296 ∧ V_ir_Value (opI k d a b c i, wordT m r a, wordT m r b, wordT m r c) = (v, true, ()) ∧
      ∀ times : Nat, times = 1 ∨ times = 2 → (goL noF times (opL (opI k d a b c i) s r) 0 st m).1 = true ∧ (goL noF times (opL (opI k d a b c i) s r) 0 st m).2.2.2 = (storeM m (tempA r d) 4 v).2 := by
  have hmk : V_ir_Makes (opI k d a b c i) = true := by
    rcases kinds k with rfl | rfl | rfl | rfl | rfl | rfl | rfl | rfl | rfl | rfl | rfl | rfl | rfl | rfl | rfl | rfl | rfl | rfl | rfl | h'
    all_goals first | rfl | (exfalso; omega)
  have el : opL (opI k d a b c i) s r = gets r (V_ir_Uses (opI k d a b c i)) 0 ++ (V_tmpl_inner (opI k d a b c i, s, r) ++ putI (4 * (d + 1), r, 3)) := by
    show gets r _ 0 ++ (V_tmpl_inner (opI k d a b c i, s, r) ++ bif V_ir_Makes (opI k d a b c i) then putI (4 * (d + 1), r, 3) else []) = _
    rw [hmk]
    rfl
  obtain ⟨hall, hdoes⟩ := inner_does k d a b c i r s hk ht
  have hall' : ∀ q ∈ V_tmpl_inner (opI k d a b c i, s, r), rsI q = true := List.all_eq_true.1 hall
  have hut : ∀ t ∈ V_ir_Uses (opI k d a b c i), 0 ≤ t ∧ t < 63 := fun t h => by
    rcases uses_mem k d a b c i t h with rfl | rfl | rfl <;> assumption
  have hul := uses_len (opI k d a b c i)
  have hval : ∀ t : Int, 0 ≤ t → t < 63 → loadM m (tempA r t) 4 = (wordT m r t, 0, ()) := fun t h1 h2 => (word_ok hm hw hr ⟨h1, h2⟩).1
  have wa := (word_ok hm hw hr ha).2
  have wb := (word_ok hm hw hr hb).2
  have wc := (word_ok hm hw hr hc).2
  obtain ⟨at1, s1, e1, l1, v1, _⟩ := gets_go hr hval (V_ir_Uses (opI k d a b c i)) 0 (V_tmpl_inner (opI k d a b c i, s, r) ++ putI (4 * (d + 1), r, 3)) 0 st hut (by omega) hl
  obtain ⟨at2, s2, e2, l2, v2⟩ := go_regs (V_tmpl_inner (opI k d a b c i, s, r)) (putI (4 * (d + 1), r, 3)) (fun q hq => rs_reg (hall' q hq)) at1 s1 m l1
  have hv := hdoes (regW s1) (wordT m r a).toNat (wordT m r b).toNat (wordT m r c).toNat (by omega) (by omega) (by omega) (fun j hj => by
    have h := v1 j hj
    rw [Nat.zero_add] at h
    rw [h, uses_at k d a b c i j hj]
    have hj3 : j = 0 ∨ j = 1 ∨ j = 2 := by omega
    rcases hj3 with rfl | rfl | rfl
    · show wn (wordT m r a) = (wordT m r a).toNat
      unfold wn
      omega
    · show wn (wordT m r b) = (wordT m r b).toNat
      unfold wn
      omega
    · show wn (wordT m r c) = (wordT m r c).toNat
      unfold wn
      omega)
  rw [Int.toNat_of_nonneg wa.1, Int.toNat_of_nonneg wb.1, Int.toNat_of_nonneg wc.1, ← v2 3 (by decide)] at hv
  have hst := (world_word hm hw hr hd ((regW s2 3 : Nat) : Int)).1
  obtain ⟨at3, s3, e3⟩ := put_go hr hd at2 s2 l2 hst
  have h3 : regW s2 3 < 4294967296 := wn_lt _
  refine ⟨((regW s2 3 : Nat) : Int), by omega, by omega, hv, ?_⟩
  have one : goL noF 1 (opL (opI k d a b c i) s r) 0 st m = (true, at3, s3, (storeM m (tempA r d) 4 ((regW s2 3 : Nat) : Int)).2) := by
    rw [el, e1, e2, e3]
  have hsafe : ∀ q ∈ opL (opI k d a b c i) s r, V_dup_Safe q = true := fun q hq => by
    rw [el] at hq
    rcases List.mem_append.1 hq with h | h
    · exact gets_safe hr _ 0 hut (by omega) q h
    · rcases List.mem_append.1 h with h | h
      · exact rs_safe (hall' q h)
      · exact put_safe hr hd q h
  intro times htm
  rcases htm with rfl | rfl
  · rw [one]
    exact ⟨rfl, rfl⟩
  · obtain ⟨t1, t2⟩ := twice_go (opL (opI k d a b c i) s r) hsafe 0 0 st st m hl hl hm ⟨rfl, rfl⟩ (by rw [one])
    refine ⟨t1, ?_⟩
    rw [t2, one]
/-! ### The law -/
theorem w64_top (n : Int) : w64 n < 9223372036854775808 := by
  rw [w64_eq]
  split <;> omega

theorem gL {m : MemT} (hm : MemWf m) {e : Int} (he : e < 9223372036854775808) : G_memory_Memory_Load ((), e, 4) m = true := decide_eq_true ⟨hm, he⟩
theorem gS {m : MemT} (hm : MemWf m) {e v : Int} (he : e < 9223372036854775808) : G_memory_Memory_Store ((), e, 4, v) m = true := decide_eq_true ⟨hm, he⟩

theorem res_12d (tw : Bool) (l : List tIns.den) (n1 n2 n3 n4 n5 : Int) (o : tOp.den) (s : tState.den) (m : MemT) :
    LoopN.res L_hauberklaw27_TmplDoes_12 (tw, (), (), l, (), n1, n2, n3, n4, n5, (), 0) (o, s, m.1, [[], [], [], [], [], [], []], m.2) = some (0, ((7 : Int), o, s, m.1, allB m, m.2)) := by kernel_rfl

theorem run_24d (x : shDens L_hauberklaw27_TmplDoes_24.ss) (y : shDens L_hauberklaw27_TmplDoes_24.hs) (m : MemT) : ∀ (k i : Nat), i + k = 7 → ∀ f, k < f →
    runL (L_hauberklaw27_TmplDoes_24.turn x y) f (false, (i : Int), m.1, allB m, m.2) = some (0, (false, (7 : Int), m.1, allB m, m.2))
  | 0, i, hi, f, hf => by
    obtain ⟨f, rfl⟩ : ∃ g, f = g + 1 := ⟨f - 1, by omega⟩
    have hil : i = 7 := by omega
    subst hil
    exact runL_out (c := 0) (s' := (false, (7 : Int), m.1, allB m, m.2)) (val_no (show decide ((7 : Int) < 7) = false by decide))
  | k + 1, i, hi, f, hf => by
    obtain ⟨f, rfl⟩ : ∃ g, f = g + 1 := ⟨f - 1, by omega⟩
    have hw : w64 ((i : Int) + 1) = ((i + 1 : Nat) : Int) := by rw [w64_id (by omega) (by omega)]; push_cast; rfl
    have hin : inRange (i : Int) 7 = true := inR (by omega)
    refine (runL_on (s' := (false, ((i + 1 : Nat) : Int), m.1, allB m, m.2)) ?_).trans (run_24d x y m k (i + 1) (by omega) f (by omega))
    refine (val_yes (dec_true (by show ((i : Int) < 7); omega))).trans ((val_yes hin).trans ?_)
    show (PO.ite (!(bytesR (rowsOf m.2 m.1.2.1) (i : Int) == List.getD (allB m) (Int.toNat (i : Int)) [])) _ _).val = _
    rw [Int.toNat_natCast, allB_get m i (by omega)]
    refine (val_no (by simp)).trans ?_
    show some (TL.on (false, w64 ((i : Int) + 1), m.1, allB m, m.2)) = _
    rw [hw]

theorem addr_w {r t : Int} (hr : r = 0 ∨ r = 1) (ht : 0 ≤ t ∧ t < 63) : w64 (w64 (w64 (537133056 + w64 (262144 * r)) + 4) + w64 (4 * t)) = tempA r t := by
  rw [w64_id (n := 262144 * r) (by omega) (by omega), w64_id (n := 4 * t) (by omega) (by omega), w64_id (n := 537133056 + 262144 * r) (by omega) (by omega), w64_id (n := 537133056 + 262144 * r + 4) (by omega) (by omega), w64_id (by omega) (by omega)]
  unfold tempA
  omega

theorem small_facts {k d a b c i : Int} (h : V_hauberklaw27_small (opI k d a b c i) = true) : (0 ≤ a ∧ a < 63) ∧ (0 ≤ b ∧ b < 63) ∧ (0 ≤ c ∧ c < 63) ∧ (0 ≤ d ∧ d < 63) := by
  have h' : (decide (a ≥ 0) && (decide (a < 63) && (decide (b ≥ 0) && (decide (b < 63) && (decide (c ≥ 0) && (decide (c < 63) && (decide (d ≥ 0) && decide (d < 63)))))))) = true := h
  simp only [Bool.and_eq_true, decide_eq_true_eq] at h'
  omega

theorem does_val (k d a b c i : Int) (w : List Int) (r : Int) (s : tState.den) (tw : Bool) (hs : List.length s.1 = 15) : (T_hauberklaw27_TmplDoes (opI k d a b c i, w, r, s, tw)).val = some true := by
  have hG : G_tmpl_Op (opI k d a b c i, (0, 0, false, ()), r) = true := op_G _ _ r
  have hW : G_hauberklaw27_World (w, inp16R) () = true := rfl
  refine (val_yes hG).trans ((val_yes hW).trans ?_)
  dsimp only
  rw [op_V]
  cases hok : okOp (opI k d a b c i) (0, 0, false, ()) r with
  | false => rfl
  | true =>
    simp only [cond_true]
    obtain ⟨_, hr, _, htail⟩ := ok_facts hok
    have hk := ok_kind hok
    rw [tail_same k d a b c i _ hk] at htail
    have hk17 : 1 ≤ k ∧ k ≤ 17 := by
      refine ⟨hk.1, ?_⟩
      by_cases c1 : k = 18
      · subst c1; cases htail
      · by_cases c2 : k = 19
        · subst c2; cases htail
        · omega
    cases hsm : V_hauberklaw27_small (opI k d a b c i) with
    | false => rfl
    | true =>
      obtain ⟨ha, hb, hc, hd⟩ := small_facts hsm
      have hmw : MemWf (worldM w inp16R) := (wordsM_wf w _ 0 _ (newM_wf regs27 [1, 2, 3, 4] inp16R regs27_ok.1 (by have := regs27_ok.2.1; omega))).1
      have hml : WorldL (worldM w inp16R) := by
        have := (wordsM_wf w (min w.length 64) 0 _ (newM_wf regs27 [1, 2, 3, 4] inp16R regs27_ok.1 (by have := regs27_ok.2.1; omega))).2
        show (worldM w inp16R).1 = _
        refine this.trans ?_
        show (regs27, winsOf 0 regs27, ()) = _
        rw [regs27_eq]
      have hll := opL_len (opI k d a b c i) (0, 0, false, ()) r
      obtain ⟨v, v1, v2, hv, hgo⟩ := op_does (s := (0, 0, false, ())) hk17 hr htail ha hb hc hd hmw hml s hs
      generalize opL (opI k d a b c i) (0, 0, false, ()) r = l at *
      refine (val_yes rfl).trans ((val_no rfl).trans ?_)
      rw [addr_w hr ha, addr_w hr hb, addr_w hr hc, addr_w hr hd]
      have hta : ∀ t, 0 ≤ t ∧ t < 63 → tempA r t < 9223372036854775808 := fun t ht => by unfold tempA; omega
      refine (val_yes (gL hmw (hta a ha))).trans ((val_yes (gL hmw (hta b hb))).trans ((val_yes (gL hmw (hta c hc))).trans ((val_yes (gL hmw (hta d hd))).trans ?_)))
      have eW : V_hauberklaw27_World (w, inp16R) () = ((), worldM w inp16R) := rfl
      have eL : ∀ (y : MemT) (e : Int), V_memory_Memory_Load ((), e, 4) y = (loadM y e 4, y) := fun _ _ => rfl
      have hs1 := world_word hmw hml hr hd v
      generalize worldM w inp16R = M at *
      obtain ⟨M1, M2⟩ := M
      simp only [eW, eL]
      refine (val_opt (r := _) (res_12d tw l _ _ _ _ _ (opI k d a b c i) s (M1, M2))).trans ?_
      dsimp only
      rw [addr_w hr hd]
      have htm : (bif tw then (2 : Int) else 1) = 1 ∨ (bif tw then (2 : Int) else 1) = 2 := by cases tw <;> simp
      have htn : Int.toNat (bif tw then (2 : Int) else 1) = 1 ∨ Int.toNat (bif tw then (2 : Int) else 1) = 2 := by cases tw <;> simp
      have gA : G_hauberklaw27_Go ((), s, l, bif tw then 2 else 1, noF) (M1, M2) = true := decide_eq_true ⟨hmw, hs, (show (0 : Int) ≤ bif tw then 2 else 1 by omega), (show (bif tw then (2 : Int) else 1) < 1048576 by omega), by show l.length < 1099511627776; omega⟩
      refine (val_yes gA).trans ?_
      obtain ⟨g1, g2⟩ := hgo _ htn
      have hV : V_hauberklaw27_Go ((), s, l, bif tw then 2 else 1, noF) (M1, M2) = (((goL noF (Int.toNat (bif tw then (2 : Int) else 1)) l 0 s (M1, M2)).2.2.1, true, ()), (storeM (M1, M2) (tempA r d) 4 v).2) := by
        rw [← g1, ← g2]
        rfl
      rw [hV]
      obtain ⟨q1, q2, was, q3, q4, q5, q6⟩ := hs1
      have hmS := (store_wf hmw (tempA r d) 4 v).1
      refine (val_yes (gL hmS (hta d hd))).trans ((val_no rfl).trans ?_)
      have hv' : V_ir_Value (opI k d a b c i, (loadM (M1, M2) (tempA r a) 4).1, (loadM (M1, M2) (tempA r b) 4).1, (loadM (M1, M2) (tempA r c) 4).1) = (v, true, ()) := hv
      simp only [eL]
      rw [hv']
      have hvw : (wn v : Int) = v := by unfold wn; omega
      refine (val_no rfl).trans ((val_no ?_).trans ?_)
      · show ((loadM (storeM (M1, M2) (tempA r d) 4 v).2 (tempA r d) 4).1 != v) = false
        rw [q2, hvw]
        simp
      · rw [q3]
        refine (val_yes (gS hmS (hta d hd))).trans ?_
        have eS : V_memory_Memory_Store ((), tempA r d, 4, was) (storeM (M1, M2) (tempA r d) 4 v).2 = (0, (M1, M2)) := by
          show storeM (storeM (M1, M2) (tempA r d) 4 v).2 (tempA r d) 4 was = _
          exact q6
        rw [eS]
        refine (val_no rfl).trans ?_
        refine (val_opt (r := _) (run_24d _ _ (M1, M2) 7 0 rfl 8 (by omega))).trans ?_
        rfl

theorem law_hauberklaw27_TmplDoes (x : dens A_hauberklaw27_TmplDoes) (h : fitsAll maxLen A_hauberklaw27_TmplDoes x) : (T_hauberklaw27_TmplDoes x).val = some true := by
  obtain ⟨⟨k, d, a, b, c, i, u⟩, w, r, s, tw⟩ := x
  exact does_val k d a b c i w r s tw (len15 h.2.2.2.1)
end Go.Av
end
/-! Chapter 27's loads and stores, done on worlds; as they are walked (in two pieces). -/
section
namespace Go.Av
open Go

def K_hauberklaw27_TmplArrays_c28_0 (x : shDens [.ty (.int .i64), .ty (.int .i64), .box 0 0, .box 1 0, .box 2 0, .ty .bool, .ty (.sl tIns), .box 3 0, .ty (.int .i64), .ty (.int .i64)]) (y : shDens [.ty tOp, .ty tSpot, .ty tState, shMemB 4, .rowc (.int .u8)]) (s : (Ty.den .bool) × (Sh.den (.ty tOp)) × (Sh.den (.ty tSpot)) × (Sh.den (.ty tState)) × (Sh.den (shMemB 4)) × (Sh.den (.rowc (.int .u8)))) := G_memory_Memory_Load ((), w64 (w64 (x.2.2.2.2.2.2.2.2.2 + s.2.2.1.2.1) + w64 (s.2.2.1.1 * x.1)), s.2.2.1.1) s.2.2.2.2
def K_hauberklaw27_TmplArrays_c28_1 (x : shDens [.ty (.int .i64), .ty (.int .i64), .box 0 0, .box 1 0, .box 2 0, .ty .bool, .ty (.sl tIns), .box 3 0, .ty (.int .i64), .ty (.int .i64)]) (y : shDens [.ty tOp, .ty tSpot, .ty tState, shMemB 4, .rowc (.int .u8)]) (s : (Ty.den .bool) × (Sh.den (.ty tOp)) × (Sh.den (.ty tSpot)) × (Sh.den (.ty tState)) × (Sh.den (shMemB 4)) × (Sh.den (.rowc (.int .u8)))) := w64 (w64 (x.2.2.2.2.2.2.2.2.1 + 4) + w64 (4 * s.2.1.2.1))
def K_hauberklaw27_TmplArrays_c28_2 (x : shDens [.ty (.int .i64), .ty (.int .i64), .box 0 0, .box 1 0, .box 2 0, .ty .bool, .ty (.sl tIns), .box 3 0, .ty (.int .i64), .ty (.int .i64)]) (y : shDens [.ty tOp, .ty tSpot, .ty tState, shMemB 4, .rowc (.int .u8)]) (s : (Ty.den .bool) × (Sh.den (.ty tOp)) × (Sh.den (.ty tSpot)) × (Sh.den (.ty tState)) × (Sh.den (shMemB 4)) × (Sh.den (.rowc (.int .u8)))) := V_memory_Memory_Load ((), w64 (w64 (x.2.2.2.2.2.2.2.2.2 + s.2.2.1.2.1) + w64 (s.2.2.1.1 * x.1)), s.2.2.1.1) s.2.2.2.2
def K_hauberklaw27_TmplArrays_c28_3 (x : shDens [.ty (.int .i64), .ty (.int .i64), .box 0 0, .box 1 0, .box 2 0, .ty .bool, .ty (.sl tIns), .box 3 0, .ty (.int .i64), .ty (.int .i64)]) (y : shDens [.ty tOp, .ty tSpot, .ty tState, shMemB 4, .rowc (.int .u8)]) (s : (Ty.den .bool) × (Sh.den (.ty tOp)) × (Sh.den (.ty tSpot)) × (Sh.den (.ty tState)) × (Sh.den (shMemB 4)) × (Sh.den (.rowc (.int .u8)))) := G_memory_Memory_Load ((), bif s.2.1.1 == 19 then w64 (w64 (x.2.2.2.2.2.2.2.2.2 + s.2.2.1.2.1) + w64 (s.2.2.1.1 * x.1)) else K_hauberklaw27_TmplArrays_c28_1 x y s, bif s.2.1.1 == 19 then s.2.2.1.1 else 4) (K_hauberklaw27_TmplArrays_c28_2 x y s).2
def K_hauberklaw27_TmplArrays_c28_4 (x : shDens [.ty (.int .i64), .ty (.int .i64), .box 0 0, .box 1 0, .box 2 0, .ty .bool, .ty (.sl tIns), .box 3 0, .ty (.int .i64), .ty (.int .i64)]) (y : shDens [.ty tOp, .ty tSpot, .ty tState, shMemB 4, .rowc (.int .u8)]) (s : (Ty.den .bool) × (Sh.den (.ty tOp)) × (Sh.den (.ty tSpot)) × (Sh.den (.ty tState)) × (Sh.den (shMemB 4)) × (Sh.den (.rowc (.int .u8)))) := V_memory_Memory_Load ((), bif s.2.1.1 == 19 then w64 (w64 (x.2.2.2.2.2.2.2.2.2 + s.2.2.1.2.1) + w64 (s.2.2.1.1 * x.1)) else K_hauberklaw27_TmplArrays_c28_1 x y s, bif s.2.1.1 == 19 then s.2.2.1.1 else 4) (K_hauberklaw27_TmplArrays_c28_2 x y s).2
def K_hauberklaw27_TmplArrays_c28_5 (x : shDens [.ty (.int .i64), .ty (.int .i64), .box 0 0, .box 1 0, .box 2 0, .ty .bool, .ty (.sl tIns), .box 3 0, .ty (.int .i64), .ty (.int .i64)]) (y : shDens [.ty tOp, .ty tSpot, .ty tState, shMemB 4, .rowc (.int .u8)]) (s : (Ty.den .bool) × (Sh.den (.ty tOp)) × (Sh.den (.ty tSpot)) × (Sh.den (.ty tState)) × (Sh.den (shMemB 4)) × (Sh.den (.rowc (.int .u8)))) := G_hauberklaw27_Go ((), s.2.2.2.1, x.2.2.2.2.2.2.1, 1, 0, 0, 0, 0, ()) (K_hauberklaw27_TmplArrays_c28_4 x y s).2
def K_hauberklaw27_TmplArrays_c28_6 (x : shDens [.ty (.int .i64), .ty (.int .i64), .box 0 0, .box 1 0, .box 2 0, .ty .bool, .ty (.sl tIns), .box 3 0, .ty (.int .i64), .ty (.int .i64)]) (y : shDens [.ty tOp, .ty tSpot, .ty tState, shMemB 4, .rowc (.int .u8)]) (s : (Ty.den .bool) × (Sh.den (.ty tOp)) × (Sh.den (.ty tSpot)) × (Sh.den (.ty tState)) × (Sh.den (shMemB 4)) × (Sh.den (.rowc (.int .u8)))) := V_hauberklaw27_Go ((), s.2.2.2.1, x.2.2.2.2.2.2.1, 1, 0, 0, 0, 0, ()) (K_hauberklaw27_TmplArrays_c28_4 x y s).2
def K_hauberklaw27_TmplArrays_c28_7 (x : shDens [.ty (.int .i64), .ty (.int .i64), .box 0 0, .box 1 0, .box 2 0, .ty .bool, .ty (.sl tIns), .box 3 0, .ty (.int .i64), .ty (.int .i64)]) (y : shDens [.ty tOp, .ty tSpot, .ty tState, shMemB 4, .rowc (.int .u8)]) (s : (Ty.den .bool) × (Sh.den (.ty tOp)) × (Sh.den (.ty tSpot)) × (Sh.den (.ty tState)) × (Sh.den (shMemB 4)) × (Sh.den (.rowc (.int .u8)))) := G_memory_Memory_Load ((), bif s.2.1.1 == 19 then w64 (w64 (x.2.2.2.2.2.2.2.2.2 + s.2.2.1.2.1) + w64 (s.2.2.1.1 * x.1)) else K_hauberklaw27_TmplArrays_c28_1 x y s, bif s.2.1.1 == 19 then s.2.2.1.1 else 4) (K_hauberklaw27_TmplArrays_c28_6 x y s).2
def K_hauberklaw27_TmplArrays_c28_8 (x : shDens [.ty (.int .i64), .ty (.int .i64), .box 0 0, .box 1 0, .box 2 0, .ty .bool, .ty (.sl tIns), .box 3 0, .ty (.int .i64), .ty (.int .i64)]) (y : shDens [.ty tOp, .ty tSpot, .ty tState, shMemB 4, .rowc (.int .u8)]) (s : (Ty.den .bool) × (Sh.den (.ty tOp)) × (Sh.den (.ty tSpot)) × (Sh.den (.ty tState)) × (Sh.den (shMemB 4)) × (Sh.den (.rowc (.int .u8)))) := V_memory_Memory_Load ((), bif s.2.1.1 == 19 then w64 (w64 (x.2.2.2.2.2.2.2.2.2 + s.2.2.1.2.1) + w64 (s.2.2.1.1 * x.1)) else K_hauberklaw27_TmplArrays_c28_1 x y s, bif s.2.1.1 == 19 then s.2.2.1.1 else 4) (K_hauberklaw27_TmplArrays_c28_6 x y s).2
def K_hauberklaw27_TmplArrays_c28_9 (x : shDens [.ty (.int .i64), .ty (.int .i64), .box 0 0, .box 1 0, .box 2 0, .ty .bool, .ty (.sl tIns), .box 3 0, .ty (.int .i64), .ty (.int .i64)]) (y : shDens [.ty tOp, .ty tSpot, .ty tState, shMemB 4, .rowc (.int .u8)]) (s : (Ty.den .bool) × (Sh.den (.ty tOp)) × (Sh.den (.ty tSpot)) × (Sh.den (.ty tState)) × (Sh.den (shMemB 4)) × (Sh.den (.rowc (.int .u8)))) := (K_hauberklaw27_TmplArrays_c28_8 x y s).1.1 != bif s.2.1.1 == 19 then bif s.2.2.1.1 == 1 then band IntKind.i64 x.2.1 255 else band IntKind.i64 x.2.1 4294967295 else (K_hauberklaw27_TmplArrays_c28_2 x y s).1.1
def K_hauberklaw27_TmplArrays_c28_10 (x : shDens [.ty (.int .i64), .ty (.int .i64), .box 0 0, .box 1 0, .box 2 0, .ty .bool, .ty (.sl tIns), .box 3 0, .ty (.int .i64), .ty (.int .i64)]) (y : shDens [.ty tOp, .ty tSpot, .ty tState, shMemB 4, .rowc (.int .u8)]) (s : (Ty.den .bool) × (Sh.den (.ty tOp)) × (Sh.den (.ty tSpot)) × (Sh.den (.ty tState)) × (Sh.den (shMemB 4)) × (Sh.den (.rowc (.int .u8)))) := G_memory_Memory_Store ((), bif s.2.1.1 == 19 then w64 (w64 (x.2.2.2.2.2.2.2.2.2 + s.2.2.1.2.1) + w64 (s.2.2.1.1 * x.1)) else K_hauberklaw27_TmplArrays_c28_1 x y s, bif s.2.1.1 == 19 then s.2.2.1.1 else 4, (K_hauberklaw27_TmplArrays_c28_4 x y s).1.1) (K_hauberklaw27_TmplArrays_c28_8 x y s).2
def K_hauberklaw27_TmplArrays_c28_11 (x : shDens [.ty (.int .i64), .ty (.int .i64), .box 0 0, .box 1 0, .box 2 0, .ty .bool, .ty (.sl tIns), .box 3 0, .ty (.int .i64), .ty (.int .i64)]) (y : shDens [.ty tOp, .ty tSpot, .ty tState, shMemB 4, .rowc (.int .u8)]) (s : (Ty.den .bool) × (Sh.den (.ty tOp)) × (Sh.den (.ty tSpot)) × (Sh.den (.ty tState)) × (Sh.den (shMemB 4)) × (Sh.den (.rowc (.int .u8)))) := V_memory_Memory_Store ((), bif s.2.1.1 == 19 then w64 (w64 (x.2.2.2.2.2.2.2.2.2 + s.2.2.1.2.1) + w64 (s.2.2.1.1 * x.1)) else K_hauberklaw27_TmplArrays_c28_1 x y s, bif s.2.1.1 == 19 then s.2.2.1.1 else 4, (K_hauberklaw27_TmplArrays_c28_4 x y s).1.1) (K_hauberklaw27_TmplArrays_c28_8 x y s).2
def K_hauberklaw27_TmplArrays_c28_12 (x : shDens [.ty (.int .i64), .ty (.int .i64), .box 0 0, .box 1 0, .box 2 0, .ty .bool, .ty (.sl tIns), .box 3 0, .ty (.int .i64), .ty (.int .i64)]) (y : shDens [.ty tOp, .ty tSpot, .ty tState, shMemB 4, .rowc (.int .u8)]) (s : (Ty.den .bool) × (Sh.den (.ty tOp)) × (Sh.den (.ty tSpot)) × (Sh.den (.ty tState)) × (Sh.den (shMemB 4)) × (Sh.den (.rowc (.int .u8)))) := V_hauberklaw27_Bytes (((K_hauberklaw27_TmplArrays_c28_11 x y s).2.1.1, rowsOf (K_hauberklaw27_TmplArrays_c28_11 x y s).2.2 (K_hauberklaw27_TmplArrays_c28_11 x y s).2.1.2.1, ()), 3)
def K_hauberklaw27_TmplArrays_c28_13 (x : shDens [.ty (.int .i64), .ty (.int .i64), .box 0 0, .box 1 0, .box 2 0, .ty .bool, .ty (.sl tIns), .box 3 0, .ty (.int .i64), .ty (.int .i64)]) (y : shDens [.ty tOp, .ty tSpot, .ty tState, shMemB 4, .rowc (.int .u8)]) (s : (Ty.den .bool) × (Sh.den (.ty tOp)) × (Sh.den (.ty tSpot)) × (Sh.den (.ty tState)) × (Sh.den (shMemB 4)) × (Sh.den (.rowc (.int .u8)))) := V_hauberklaw27_Bytes (((K_hauberklaw27_TmplArrays_c28_4 x y s).2.1.1, rowsOf (K_hauberklaw27_TmplArrays_c28_4 x y s).2.2 (K_hauberklaw27_TmplArrays_c28_4 x y s).2.1.2.1, ()), 3)
def K_hauberklaw27_TmplArrays_c28_14 (x : shDens [.ty (.int .i64), .ty (.int .i64), .box 0 0, .box 1 0, .box 2 0, .ty .bool, .ty (.sl tIns), .box 3 0, .ty (.int .i64), .ty (.int .i64)]) (y : shDens [.ty tOp, .ty tSpot, .ty tState, shMemB 4, .rowc (.int .u8)]) (s : (Ty.den .bool) × (Sh.den (.ty tOp)) × (Sh.den (.ty tSpot)) × (Sh.den (.ty tState)) × (Sh.den (shMemB 4)) × (Sh.den (.rowc (.int .u8)))) := V_hauberklaw27_Bytes (((K_hauberklaw27_TmplArrays_c28_11 x y s).2.1.1, rowsOf (K_hauberklaw27_TmplArrays_c28_11 x y s).2.2 (K_hauberklaw27_TmplArrays_c28_11 x y s).2.1.2.1, ()), 4)
def K_hauberklaw27_TmplArrays_c28_15 (x : shDens [.ty (.int .i64), .ty (.int .i64), .box 0 0, .box 1 0, .box 2 0, .ty .bool, .ty (.sl tIns), .box 3 0, .ty (.int .i64), .ty (.int .i64)]) (y : shDens [.ty tOp, .ty tSpot, .ty tState, shMemB 4, .rowc (.int .u8)]) (s : (Ty.den .bool) × (Sh.den (.ty tOp)) × (Sh.den (.ty tSpot)) × (Sh.den (.ty tState)) × (Sh.den (shMemB 4)) × (Sh.den (.rowc (.int .u8)))) := V_hauberklaw27_Bytes (((K_hauberklaw27_TmplArrays_c28_4 x y s).2.1.1, rowsOf (K_hauberklaw27_TmplArrays_c28_4 x y s).2.2 (K_hauberklaw27_TmplArrays_c28_4 x y s).2.1.2.1, ()), 4)
def K_hauberklaw27_TmplArrays_c28_16 (x : shDens [.ty (.int .i64), .ty (.int .i64), .box 0 0, .box 1 0, .box 2 0, .ty .bool, .ty (.sl tIns), .box 3 0, .ty (.int .i64), .ty (.int .i64)]) (y : shDens [.ty tOp, .ty tSpot, .ty tState, shMemB 4, .rowc (.int .u8)]) (s : (Ty.den .bool) × (Sh.den (.ty tOp)) × (Sh.den (.ty tSpot)) × (Sh.den (.ty tState)) × (Sh.den (shMemB 4)) × (Sh.den (.rowc (.int .u8)))) := V_hauberklaw27_Bytes (((K_hauberklaw27_TmplArrays_c28_11 x y s).2.1.1, rowsOf (K_hauberklaw27_TmplArrays_c28_11 x y s).2.2 (K_hauberklaw27_TmplArrays_c28_11 x y s).2.1.2.1, ()), 1)
def K_hauberklaw27_TmplArrays_c28_17 (x : shDens [.ty (.int .i64), .ty (.int .i64), .box 0 0, .box 1 0, .box 2 0, .ty .bool, .ty (.sl tIns), .box 3 0, .ty (.int .i64), .ty (.int .i64)]) (y : shDens [.ty tOp, .ty tSpot, .ty tState, shMemB 4, .rowc (.int .u8)]) (s : (Ty.den .bool) × (Sh.den (.ty tOp)) × (Sh.den (.ty tSpot)) × (Sh.den (.ty tState)) × (Sh.den (shMemB 4)) × (Sh.den (.rowc (.int .u8)))) := K_hauberklaw27_TmplArrays_c28_16 x y s == [48, 49, 50, 51, 52, 53, 54, 55, 56, 57, 97, 98, 99, 100, 101, 102]
def L_hauberklaw27_TmplArrays_c28 : LoopN where
  M := [2, 3, 7, 8, 13, 14, 15, 17, 18, 20]
  T := [21, 22, 23, 24, 25, 26, 27, 28, 29, 30, 31, 32, 33, 34, 153, 154, 155, 156, 157, 158, 159, 160, 161, 162, 163, 164, 165, 166, 167, 168, 169, 170, 171, 172, 173, 174, 175, 176, 177, 178, 179, 180, 181, 182, 183, 184, 185, 186, 187, 188, 189, 190, 191, 192, 193, 194, 195, 196, 197, 198, 199, 200, 201, 202, 203, 204, 205, 206, 207, 208, 209, 210, 211, 212, 213, 214, 215, 216, 217, 218, 219, 220, 221, 222, 223, 224, 225, 226, 227, 228, 229, 230, 231, 232, 233, 234, 235, 236, 237, 238, 239, 240, 241, 242, 243, 244, 245, 246, 247]
  D := [2, 3, 7, 8, 13, 15, 17, 18, 20]
  ss := [.ty (.int .i64), .ty (.int .i64), .box 0 0, .box 1 0, .box 2 0, .ty .bool, .ty (.sl tIns), .box 3 0, .ty (.int .i64), .ty (.int .i64)]
  hs := [.ty tOp, .ty tSpot, .ty tState, shMemB 4, .rowc (.int .u8)]
  es := [.ret]
  σ := (Ty.den .bool) × (Sh.den (.ty tOp)) × (Sh.den (.ty tSpot)) × (Sh.den (.ty tState)) × (Sh.den (shMemB 4)) × (Sh.den (.rowc (.int .u8)))
  x0 := fun x y => (x.2.2.2.2.2.1, y.1, y.2.1, y.2.2.1, y.2.2.2.1, y.2.2.2.2)
  put := fun x _ s => ((x.1, x.2.1, x.2.2.1, x.2.2.2.1, x.2.2.2.2.1, s.1, x.2.2.2.2.2.2.1, x.2.2.2.2.2.2.2.1, x.2.2.2.2.2.2.2.2.1, x.2.2.2.2.2.2.2.2.2), (s.2.1, s.2.2.1, s.2.2.2.1, s.2.2.2.2.1, s.2.2.2.2.2))
  fuel := fun _ _ => 1
  turn := fun x y s =>
  (.ite (K_hauberklaw27_TmplArrays_c28_0 x y s)
   (.ite (K_hauberklaw27_TmplArrays_c28_3 x y s)
    (.ite (K_hauberklaw27_TmplArrays_c28_5 x y s)
     (.ite (K_hauberklaw27_TmplArrays_c28_7 x y s)
      (.ite (!(K_hauberklaw27_TmplArrays_c28_6 x y s).1.2.1)
       (.ret (.out 0 (false, s.2.1, s.2.2.1, s.2.2.2.1, (K_hauberklaw27_TmplArrays_c28_8 x y s).2.1, (K_hauberklaw27_TmplArrays_c28_8 x y s).2.2)))
       (.ite (K_hauberklaw27_TmplArrays_c28_9 x y s)
        (.ret (.out 0 (false, s.2.1, s.2.2.1, s.2.2.2.1, (K_hauberklaw27_TmplArrays_c28_8 x y s).2.1, (K_hauberklaw27_TmplArrays_c28_8 x y s).2.2)))
        (.ite (K_hauberklaw27_TmplArrays_c28_10 x y s)
         (.ite ((K_hauberklaw27_TmplArrays_c28_11 x y s).1 != 0)
          (.ret (.out 0 (false, s.2.1, s.2.2.1, s.2.2.2.1, (K_hauberklaw27_TmplArrays_c28_11 x y s).2.1, (K_hauberklaw27_TmplArrays_c28_11 x y s).2.2)))
          (.ite (bif K_hauberklaw27_TmplArrays_c28_12 x y s == K_hauberklaw27_TmplArrays_c28_13 x y s then bif K_hauberklaw27_TmplArrays_c28_14 x y s == K_hauberklaw27_TmplArrays_c28_15 x y s then K_hauberklaw27_TmplArrays_c28_17 x y s || true else true else true)
           (.ret (.out 0 (K_hauberklaw27_TmplArrays_c28_12 x y s == K_hauberklaw27_TmplArrays_c28_13 x y s && (K_hauberklaw27_TmplArrays_c28_14 x y s == K_hauberklaw27_TmplArrays_c28_15 x y s && (K_hauberklaw27_TmplArrays_c28_17 x y s && true)), s.2.1, s.2.2.1, s.2.2.2.1, (K_hauberklaw27_TmplArrays_c28_11 x y s).2.1, (K_hauberklaw27_TmplArrays_c28_11 x y s).2.2)))
           .fail))
         .fail)))
      .fail)
     .fail)
    .fail)
   .fail)
/-- hauberklaw27.TmplArrays -/
abbrev A_hauberklaw27_TmplArrays : List Ty := [tOp, tSpot, (.int .i64), (.int .i64), (.sl (.int .i64)), (.int .i64), tState]
abbrev S_hauberklaw27_TmplArrays : Sh := Sh.ty Ty.bool
def K_hauberklaw27_TmplArrays_0 (x : dens [tOp, tSpot, (.int .i64), (.int .i64), (.sl (.int .i64)), (.int .i64), tState]) := G_hauberklaw27_World (x.2.2.2.2.1, [48, 49, 50, 51, 52, 53, 54, 55, 56, 57, 97, 98, 99, 100, 101, 102]) ()
def K_hauberklaw27_TmplArrays_1 (x : dens [tOp, tSpot, (.int .i64), (.int .i64), (.sl (.int .i64)), (.int .i64), tState]) := w64 (w64 (537133056 + w64 (262144 * x.2.2.2.2.2.1)) + 4)
def K_hauberklaw27_TmplArrays_2 (x : dens [tOp, tSpot, (.int .i64), (.int .i64), (.sl (.int .i64)), (.int .i64), tState]) := V_hauberklaw27_World (x.2.2.2.2.1, [48, 49, 50, 51, 52, 53, 54, 55, 56, 57, 97, 98, 99, 100, 101, 102]) ()
def K_hauberklaw27_TmplArrays_3 (x : dens [tOp, tSpot, (.int .i64), (.int .i64), (.sl (.int .i64)), (.int .i64), tState]) := G_memory_Memory_Store ((), w64 (K_hauberklaw27_TmplArrays_1 x + w64 (4 * x.1.2.2.1)), 4, x.2.2.1) (K_hauberklaw27_TmplArrays_2 x).2
def K_hauberklaw27_TmplArrays_4 (x : dens [tOp, tSpot, (.int .i64), (.int .i64), (.sl (.int .i64)), (.int .i64), tState]) := V_memory_Memory_Store ((), w64 (K_hauberklaw27_TmplArrays_1 x + w64 (4 * x.1.2.2.1)), 4, x.2.2.1) (K_hauberklaw27_TmplArrays_2 x).2
def K_hauberklaw27_TmplArrays_5 (x : dens [tOp, tSpot, (.int .i64), (.int .i64), (.sl (.int .i64)), (.int .i64), tState]) := G_memory_Memory_Store ((), w64 (K_hauberklaw27_TmplArrays_1 x + w64 (4 * x.1.2.2.2.1)), 4, x.2.2.2.1) (K_hauberklaw27_TmplArrays_4 x).2
def K_hauberklaw27_TmplArrays_6 (x : dens [tOp, tSpot, (.int .i64), (.int .i64), (.sl (.int .i64)), (.int .i64), tState]) := V_memory_Memory_Store ((), w64 (K_hauberklaw27_TmplArrays_1 x + w64 (4 * x.1.2.2.2.1)), 4, x.2.2.2.1) (K_hauberklaw27_TmplArrays_4 x).2
def K_hauberklaw27_TmplArrays_7 (x : dens [tOp, tSpot, (.int .i64), (.int .i64), (.sl (.int .i64)), (.int .i64), tState]) := LoopN.res L_hauberklaw27_TmplArrays_c28 (x.2.2.1, x.2.2.2.1, (), (), (), false, (V_tmpl_Op (x.1, x.2.1, x.2.2.2.2.2.1)).1, (), w64 (537133056 + w64 (262144 * x.2.2.2.2.2.1)), bif x.2.1.2.2.1 then 536936448 else w64 (537133056 + w64 (262144 * x.2.2.2.2.2.1))) (x.1, x.2.1, x.2.2.2.2.2.2, (K_hauberklaw27_TmplArrays_6 x).2)
def K_hauberklaw27_TmplArrays_8 (x : dens [tOp, tSpot, (.int .i64), (.int .i64), (.sl (.int .i64)), (.int .i64), tState]) := LoopN.res L_hauberklaw27_TmplArrays_c28 (x.2.2.1, x.2.2.2.1, (), (), (), false, (V_tmpl_Op (x.1, x.2.1, x.2.2.2.2.2.1)).1, (), w64 (537133056 + w64 (262144 * x.2.2.2.2.2.1)), bif x.2.1.2.2.1 then 536936448 else w64 (537133056 + w64 (262144 * x.2.2.2.2.2.1))) (x.1, x.2.1, x.2.2.2.2.2.2, (K_hauberklaw27_TmplArrays_4 x).2)
def T_hauberklaw27_TmplArrays (x : dens A_hauberklaw27_TmplArrays) : PO (Sh.den S_hauberklaw27_TmplArrays) :=
  (.ite (G_tmpl_Op (x.1, x.2.1, x.2.2.2.2.2.1))
   (.ite (K_hauberklaw27_TmplArrays_0 x)
    (.ite ((V_tmpl_Op (x.1, x.2.1, x.2.2.2.2.2.1)).2.1 != 0 || true)
     (.ite ((V_tmpl_Op (x.1, x.2.1, x.2.2.2.2.2.1)).2.1 != 0 || (!V_hauberklaw27_small x.1 || bif x.1.1 != 18 then x.1.1 != 19 || x.1.2.2.1 == x.1.2.2.2.1 && x.1.1 == 19 else x.1.2.2.1 == x.1.2.2.2.1 && x.1.1 == 19))
      (.ite ((V_tmpl_Op (x.1, x.2.1, x.2.2.2.2.2.1)).2.1 == 0 || (lenI (V_tmpl_Op (x.1, x.2.1, x.2.2.2.2.2.1)).1 == 0 || true))
       (.ret ((V_tmpl_Op (x.1, x.2.1, x.2.2.2.2.2.1)).2.1 == 0 || lenI (V_tmpl_Op (x.1, x.2.1, x.2.2.2.2.2.1)).1 == 0 && true))
       .fail)
      (.ite (decide (x.2.2.1 < 0) || (decide (x.2.2.1 > 300) || (decide (w64 (w64 (x.2.1.2.1 + w64 (x.2.1.1 * x.2.2.1)) + x.2.1.1) > bif x.2.1.2.2.1 then 16 else 256) || !x.2.1.1 == 0)))
       (.ite (decide (x.2.2.1 < 0) || (decide (x.2.2.1 > 300) || (decide (w64 (w64 (x.2.1.2.1 + w64 (x.2.1.1 * x.2.2.1)) + x.2.1.1) > bif x.2.1.2.2.1 then 16 else 256) || Int.tmod x.2.1.2.1 x.2.1.1 != 0)))
        (.ret (true))
        (.ite (K_hauberklaw27_TmplArrays_3 x)
         (.ite ((K_hauberklaw27_TmplArrays_4 x).1 != 0)
          (.ret (false))
          (.ite (x.1.1 == 19)
           (.ite (K_hauberklaw27_TmplArrays_5 x)
            (.ite ((K_hauberklaw27_TmplArrays_6 x).1 != 0)
             (.ret (false))
             (.opt (K_hauberklaw27_TmplArrays_7 x) fun p0 =>
              (.ret (p0.2.1))))
            .fail)
           (.opt (K_hauberklaw27_TmplArrays_8 x) fun p0 =>
            (.ret (p0.2.1)))))
         .fail))
       .fail))
     .fail)
    .fail)
   .fail)
end Go.Av
end
/-! Loads and stores of elements, done on a world. -/
section
namespace Go.Av
open Go

/-- Where the elements lie: the input, or a rail. -/
def fromA (inn : Bool) (r : Int) : Int := bif inn then 536936448 else 537133056 + 262144 * r

/-- The instructions that make an element's address. -/
def elI (el off r : Int) (inn : Bool) : List tIns.den :=
  [V_tmpl_shift (5, 4, 0, bif el == 4 then 2 else 0), (3, 5, 0, 0, 0, off, 0, false, ()), V_tmpl_three (14, 6, 4, 5), movw 5 0, insI 4 5 0 0 0 (ishr IntKind.i64 (bif inn then 536936448 else V_memmap_Rail r) 16) 0, (18, 5, 6, 0, 16, 0, 0, false, ())]

theorem inner_ld (d a b c i el off r : Int) (inn : Bool) (u : Unit) : V_tmpl_inner (opI 18 d a b c i, (el, off, inn, u), r) = elI el off r inn ++ [(bif el == 1 then 21 else 19, 3, 5, 0, 0, 0, 0, false, ())] := by
  show ((bif (el : Int) == 1 then some _ else some _ : Option (List tIns.den)).getD []) = _
  cases (el : Int) == 1 <;> rfl

theorem hi_val {r : Int} (hr : r = 0 ∨ r = 1) (inn : Bool) : ishr IntKind.i64 (bif inn then 536936448 else V_memmap_Rail r) 16 = (bif inn then 8193 else 8196 + 4 * r) := by
  rcases hr with rfl | rfl <;> cases inn <;> exact Eq.symm (Eq.symm (by kernel_rfl))

theorem addr_regI {el off r : Int} {inn : Bool} (hr : r = 0 ∨ r = 1) (hel : el = 1 ∨ el = 4) (hoff : 0 ≤ off ∧ off < 65536) : ∀ q ∈ elI el off r inn, regI q = true := by
  have h1 : regI (3, 5, 0, 0, 0, off, 0, false, ()) = true := rs_reg (rs_one 3 5 0 0 off (okB_34 3 5 _ (by decide) (by decide) (by omega)) (by decide) (by decide))
  have h2 : regI (insI 4 5 0 0 0 (ishr IntKind.i64 (bif inn then 536936448 else V_memmap_Rail r) 16) 0) = true := by
    rw [hi_val hr]
    refine rs_reg (rs_one 4 5 0 0 _ (okB_34 4 5 _ (by decide) (by decide) ?_) (by decide) (by decide))
    rcases hr with rfl | rfl <;> cases inn <;> decide
  have h0 : regI (V_tmpl_shift (5, 4, 0, bif el == 4 then 2 else 0)) = true := by
    rcases hel with rfl | rfl <;> exact Eq.symm (Eq.symm (by kernel_rfl))
  have h3 : regI (V_tmpl_three (14, 6, 4, 5)) = true := by kernel_rfl
  have h4 : regI (movw 5 0) = true := by kernel_rfl
  have h5 : regI (18, 5, 6, 0, 16, 0, 0, false, ()) = true := by kernel_rfl
  intro q hq
  simp only [elI, List.mem_cons, List.not_mem_nil, or_false] at hq
  rcases hq with rfl | rfl | rfl | rfl | rfl | rfl <;> assumption

theorem addr_does {el off i r : Int} {inn : Bool} (hr : r = 0 ∨ r = 1) (hel : el = 1 ∨ el = 4) (hoff : 0 ≤ off) (hi : 0 ≤ i) (hb : off + el * i + el ≤ 256) (ρ : Int → Nat) (h0 : (ρ 0 : Int) = i) :
    (((elI el off r inn).foldl stepN ρ 5 : Nat) : Int) = fromA inn r + off + el * i ∧ ∀ k : Int, k ≠ 4 → k ≠ 5 → k ≠ 6 → (elI el off r inn).foldl stepN ρ k = ρ k := by
  have key : ∀ (hi4 : Nat) (sh : Nat), sh = 0 ∧ el = 1 ∨ sh = 2 ∧ el = 4 → (hi4 : Int) * 65536 = fromA inn r → hi4 < 65536 →
      ((insN (insN (wn 0) hi4 16 16) ((ρ 0 * 2 ^ sh % 4294967296 + wn off) % 4294967296) 0 16 : Nat) : Int) = fromA inn r + off + el * i := by
    intro hi4 sh hsh hf hlt
    rw [← hf]
    unfold insN wn
    rcases hsh with ⟨rfl, rfl⟩ | ⟨rfl, rfl⟩ <;> omega
  have hh : ∃ hi4 : Nat, wn (ishr IntKind.i64 (bif inn then 536936448 else V_memmap_Rail r) 16) = hi4 ∧ (hi4 : Int) * 65536 = fromA inn r ∧ hi4 < 65536 := by
    rw [hi_val hr]
    rcases hr with rfl | rfl <;> cases inn
    · exact ⟨8196, by decide, by decide, by decide⟩
    · exact ⟨8193, by decide, by decide, by decide⟩
    · exact ⟨8200, by decide, by decide, by decide⟩
    · exact ⟨8193, by decide, by decide, by decide⟩
  obtain ⟨hi4, e1, e2, e3⟩ := hh
  have ef : ∀ sh : Nat, sh = 0 ∧ el = 1 ∨ sh = 2 ∧ el = 4 → (elI el off r inn).foldl stepN ρ =
      updR (updR (updR (updR (updR (updR ρ 4 (ρ 0 * 2 ^ sh % 4294967296)) 5 (wn off)) 6 ((ρ 0 * 2 ^ sh % 4294967296 + wn off) % 4294967296)) 5 (wn 0)) 5 (insN (wn 0) hi4 16 16)) 5 (insN (insN (wn 0) hi4 16 16) ((ρ 0 * 2 ^ sh % 4294967296 + wn off) % 4294967296) 0 16) := by
    intro sh hsh
    rw [← e1]
    rcases hsh with ⟨rfl, rfl⟩ | ⟨rfl, rfl⟩ <;> rfl
  have hsh : ∃ sh : Nat, sh = 0 ∧ el = 1 ∨ sh = 2 ∧ el = 4 := by
    rcases hel with rfl | rfl
    · exact ⟨0, .inl ⟨rfl, rfl⟩⟩
    · exact ⟨2, .inr ⟨rfl, rfl⟩⟩
  obtain ⟨sh, hsh⟩ := hsh
  rw [ef sh hsh]
  refine ⟨?_, fun k h4 h5 h6 => ?_⟩
  · rw [updR_same]
    exact key hi4 sh hsh e2 e3
  · rw [updR_other _ _ h5, updR_other _ _ h5, updR_other _ _ h5, updR_other _ _ h6, updR_other _ _ h5, updR_other _ _ h4]

theorem addr_go {el off i r : Int} {inn : Bool} (hr : r = 0 ∨ r = 1) (hel : el = 1 ∨ el = 4) (hoff : 0 ≤ off ∧ off < 65536) (hi : 0 ≤ i) (hb : off + el * i + el ≤ 256) (c : List tIns.den) (at_ : Int) (s : tState.den) (m : MemT) (hl : List.length s.1 = 15) (h0 : ((regW s 0 : Nat) : Int) = i) :
    ∃ (at' : Int) (s' : tState.den), goL noF 1 (elI el off r inn ++ c) at_ s m = goL noF 1 c at' s' m ∧ List.length s'.1 = 15 ∧ ((regW s' 5 : Nat) : Int) = fromA inn r + off + el * i ∧ ∀ k : Int, 0 ≤ k → k ≠ 4 → k ≠ 5 → k ≠ 6 → regW s' k = regW s k := by
  obtain ⟨at1, s1, e1, l1, v1⟩ := go_regs (elI el off r inn) c (addr_regI hr hel hoff) at_ s m hl
  obtain ⟨d1, d2⟩ := addr_does (inn := inn) hr hel hoff.1 hi hb (regW s) h0
  refine ⟨at1, s1, e1, l1, ?_, fun k hk h4 h5 h6 => ?_⟩
  · rw [v1 5 (by decide)]
    exact d1
  · rw [v1 k hk]
    exact d2 k h4 h5 h6

/-! ### What lies there -/
theorem find_el {r A n : Int} (hr : r = 0 ∨ r = 1) (hn : n = 1 ∨ n = 4) (hA : 537133056 + 262144 * r ≤ A ∧ A + n ≤ 537133056 + 262144 * r + 256) (w : Bool) : findX A n w regsL = some (3 + r.toNat) := by
  have h0 : hasB (0, 4, false, ()) A n = false := by unfold hasB; exact dec_false (by dsimp only; omega)
  have h1 : hasB (536936448, 16, true, ()) A n = false := by unfold hasB; exact dec_false (by dsimp only; omega)
  have h2 : hasB (537001984, 16, true, ()) A n = false := by unfold hasB; exact dec_false (by dsimp only; omega)
  rcases hr with rfl | rfl
  · have h3 : hasB (537133056, 256, true, ()) A n = true := by unfold hasB; exact dec_true (by dsimp only; omega)
    simp only [findX, h0, h1, h2, h3, cond_false, cond_true]
    cases w <;> rfl
  · have h3 : hasB (537133056, 256, true, ()) A n = false := by unfold hasB; exact dec_false (by dsimp only; omega)
    have h4 : hasB (537395200, 256, true, ()) A n = true := by unfold hasB; exact dec_true (by dsimp only; omega)
    simp only [findX, h0, h1, h2, h3, h4, cond_false, cond_true]
    cases w <;> rfl

theorem find_in {A n : Int} (hn : n = 1 ∨ n = 4) (hA : 536936448 ≤ A ∧ A + n ≤ 536936448 + 16) : findX A n false regsL = some 1 := by
  have h0 : hasB (0, 4, false, ()) A n = false := by unfold hasB; exact dec_false (by dsimp only; omega)
  have h1 : hasB (536936448, 16, true, ()) A n = true := by unfold hasB; exact dec_true (by dsimp only; omega)
  simp only [findX, h0, h1, cond_false, cond_true]
  rfl

theorem findM_of {A n : Int} {w : Bool} {j : Nat} (hn : n = 1 ∨ n = 4) (hA : 0 ≤ A) (hm : A % n = 0) (hf : findX A n w regsL = some j) : findM regsL A n w = ((j : Int), 0, ()) := by
  have h1 : (n != 1 && n != 4) = false := by rcases hn with rfl | rfl <;> rfl
  have h2 : (A.tmod n != 0) = false := by
    rw [bne_eq_false_iff_eq, Int.tmod_eq_emod_of_nonneg hA]
    exact hm
  unfold findM
  first
    | rw [h1, h2, hf]; rfl
    | (rcases hn with rfl | rfl <;> rw [h2, hf] <;> rfl)

theorem load_range {y : MemT} (hy : MemWf y) {a n : Int} {j : Nat} (hn : n = 1 ∨ n = 4) (hr : findM y.1.1 a n false = ((j : Int), 0, ())) (hj : findX a n false y.1.1 = some j) :
    ∃ x : Int, loadM y a n = (x, 0, ()) ∧ 0 ≤ x ∧ x < 4294967296 ∧ (n = 1 → x < 256) := by
  obtain ⟨_, _, _, _, g5, _, _⟩ := acc_ok hy hj hn
  have eL : loadM y a n = (leV ((y.2.drop (posM y j a)).take n.toNat), 0, ()) := by
    unfold loadM
    rw [hr]
    rfl
  have hb : ∀ b ∈ (y.2.drop (posM y j a)).take n.toNat, 0 ≤ b ∧ b < 256 := fun b hb => hy.bytes b (List.mem_of_mem_drop (List.mem_of_mem_take hb))
  have hlen : ((y.2.drop (posM y j a)).take n.toNat).length = n.toNat := by rw [List.length_take, List.length_drop]; omega
  refine ⟨_, eL, ?_⟩
  generalize (y.2.drop (posM y j a)).take n.toNat = l at hb hlen
  rcases hn with rfl | rfl
  · obtain ⟨b, rfl⟩ : ∃ b, l = [b] := List.length_eq_one_iff.1 hlen
    have hb1 := hb b (by simp)
    show 0 ≤ b + 256 * 0 ∧ b + 256 * 0 < 4294967296 ∧ ((1 : Int) = 1 → b + 256 * 0 < 256)
    omega
  · obtain ⟨p, q, s, t, rfl⟩ : ∃ a b c d, l = [a, b, c, d] := by
      match l, hlen with
      | [a, b, c, d], _ => exact ⟨a, b, c, d, rfl⟩
    have h1 := hb p (by simp)
    have h2 := hb q (by simp)
    have h3 := hb s (by simp)
    have h4 := hb t (by simp)
    show 0 ≤ p + 256 * (q + 256 * (s + 256 * (t + 256 * 0))) ∧ p + 256 * (q + 256 * (s + 256 * (t + 256 * 0))) < 4294967296 ∧ ((4 : Int) = 1 → p + 256 * (q + 256 * (s + 256 * (t + 256 * 0))) < 256)
    omega

/-- A word that lies apart is as it was. -/
theorem load_apart {m : MemT} (hw : WorldL m) (hm : MemWf m) {r a b : Int} (hr : r = 0 ∨ r = 1) (ha : 0 ≤ a ∧ a < 63) (hb : 0 ≤ b ∧ b < 63) (hab : a ≠ b) (v : Int) : loadM (storeM m (tempA r b) 4 v).2 (tempA r a) 4 = loadM m (tempA r a) 4 := by
  have e : m.1.1 = regsL := by rw [hw]
  have ew : m.1.2.1 = winsOf 0 regsL := by rw [hw]
  have hfb : findM m.1.1 (tempA r b) 4 true = (((3 + r.toNat : Nat) : Int), 0, ()) := by rw [e]; exact findM_rail hr hb true
  have hfa : findM m.1.1 (tempA r a) 4 false = (((3 + r.toNat : Nat) : Int), 0, ()) := by rw [e]; exact findM_rail hr ha false
  have hjb : findX (tempA r b) 4 true m.1.1 = some (3 + r.toNat) := by rw [e]; exact find_rail hr hb true
  obtain ⟨_, _, _, _, g5, _, _⟩ := acc_ok hm hjb (.inr rfl)
  rw [store_found hfb]
  have eL : ∀ X : List Int, loadM (m.1, X) (tempA r a) 4 = (leV (shown X (posM m (3 + r.toNat) (tempA r a), 4)), 0, ()) := fun X => by
    unfold loadM
    rw [show findM (m.1, X).1.1 (tempA r a) 4 false = (((3 + r.toNat : Nat) : Int), 0, ()) from hfa]
    rfl
  have e2 := eL m.2
  refine (eL _).trans (Eq.trans ?_ e2.symm)
  rw [shown_mend]
  · rw [bytes4_length]
    exact g5
  · rw [bytes4_length]
    unfold posM
    rw [e, ew]
    rcases hr with rfl | rfl
    · show (36 + (tempA 0 a - 537133056).toNat) + 4 ≤ 36 + (tempA 0 b - 537133056).toNat ∨ 36 + (tempA 0 b - 537133056).toNat + min 4 (Int.toNat 4) ≤ 36 + (tempA 0 a - 537133056).toNat
      unfold tempA
      omega
    · show (292 + (tempA 1 a - 537395200).toNat) + 4 ≤ 292 + (tempA 1 b - 537395200).toNat ∨ 292 + (tempA 1 b - 537395200).toNat + min 4 (Int.toNat 4) ≤ 292 + (tempA 1 a - 537395200).toNat
      unfold tempA
      omega

/-! ### The operations -/
/-- A load, done. -/
theorem load_does {el off d a b c i j r : Int} {inn : Bool} {u : Unit} (hr : r = 0 ∨ r = 1) (hel : el = 1 ∨ el = 4) (hoff : 0 ≤ off ∧ off < 65536) (hj : 0 ≤ j) (hb : off + el * j + el ≤ 256) (ha : 0 ≤ a ∧ a < 63) (hd : 0 ≤ d ∧ d < 63)
    {m : MemT} (hm : MemWf m) (hw : WorldL m) (hwa : wordT m r a = j) {x : Int} (hx : loadM m (fromA inn r + off + el * j) el = (x, 0, ())) (hx0 : 0 ≤ x ∧ x < 4294967296) (hx1 : el = 1 → x < 256) (st : tState.den) (hl : List.length st.1 = 15) :
    ∃ (at' : Int) (s' : tState.den), goL noF 1 (opL (opI 18 d a b c i) (el, off, inn, u) r) 0 st m = (true, at', s', (storeM m (tempA r d) 4 x).2) := by
  have e0 : opL (opI 18 d a b c i) (el, off, inn, u) r = gets r [a] 0 ++ (elI el off r inn ++ ((bif el == 1 then 21 else 19, 3, 5, 0, 0, 0, 0, false, ()) :: putI (4 * (d + 1), r, 3))) := by
    show gets r [a] 0 ++ (V_tmpl_inner (opI 18 d a b c i, (el, off, inn, u), r) ++ putI (4 * (d + 1), r, 3)) = _
    rw [inner_ld, List.append_assoc]
    rfl
  have hval : ∀ t : Int, 0 ≤ t → t < 63 → loadM m (tempA r t) 4 = (wordT m r t, 0, ()) := fun t h1 h2 => (word_ok hm hw hr ⟨h1, h2⟩).1
  have hj2 : j < 4294967296 := by have := (word_ok hm hw hr ha).2.2; omega
  obtain ⟨at1, s1, e1, l1, v1, _⟩ := gets_go hr hval [a] 0 (elI el off r inn ++ ((bif el == 1 then 21 else 19, 3, 5, 0, 0, 0, 0, false, ()) :: putI (4 * (d + 1), r, 3))) 0 st (fun t ht => by rw [List.mem_singleton.1 ht]; exact ha) (by show 0 + 1 ≤ 6; omega) hl
  have h0 : ((regW s1 0 : Nat) : Int) = j := by
    have h' : regW s1 0 = wn (wordT m r a) := v1 0 (by show 0 < 1; omega)
    rw [h', hwa]
    unfold wn
    omega
  obtain ⟨at2, s2, e2, l2, a2, _⟩ := addr_go (inn := inn) hr hel hoff hj hb ((bif el == 1 then 21 else 19, 3, 5, 0, 0, 0, 0, false, ()) :: putI (4 * (d + 1), r, 3)) at1 s1 m l1 h0
  have hld : ∃ s3 : tState.den, (doOne s2 (bif el == 1 then 21 else 19, 3, 5, 0, 0, 0, 0, false, ()) m) = (true, s3, m) ∧ List.length s3.1 = 15 ∧ ((regW s3 3 : Nat) : Int) = x := by
    rcases hel with rfl | rfl
    · obtain ⟨d1, d2, d3⟩ := doOne_load (regW_rep l2) (op := 21) (rd := 3) (rn := 5) (.inr rfl) (by decide) (by decide) m (v := x) (by show loadM m ((regW s2 5 : Nat) : Int) 1 = _; rw [a2]; exact hx)
      refine ⟨(doOne s2 (21, 3, 5, 0, 0, 0, 0, false, ()) m).2.1, ?_, d3.1, ?_⟩
      · refine Prod.ext d1 (Prod.ext rfl d2)
      · have h := d3.2 3 (by decide)
        rw [updR_same] at h
        have h' : regW (doOne s2 (21, 3, 5, 0, 0, 0, 0, false, ()) m).2.1 3 = wn x % 256 := h
        rw [h']
        have := hx1 rfl
        unfold wn
        omega
    · obtain ⟨d1, d2, d3⟩ := doOne_load (regW_rep l2) (op := 19) (rd := 3) (rn := 5) (.inl rfl) (by decide) (by decide) m (v := x) (by show loadM m ((regW s2 5 : Nat) : Int) 4 = _; rw [a2]; exact hx)
      refine ⟨(doOne s2 (19, 3, 5, 0, 0, 0, 0, false, ()) m).2.1, ?_, d3.1, ?_⟩
      · refine Prod.ext d1 (Prod.ext rfl d2)
      · have h := d3.2 3 (by decide)
        rw [updR_same] at h
        have h' : regW (doOne s2 (19, 3, 5, 0, 0, 0, 0, false, ()) m).2.1 3 = wn x := h
        rw [h']
        unfold wn
        omega
  obtain ⟨s3, e3, l3, v3⟩ := hld
  obtain ⟨at4, s4, e4⟩ := put_go hr hd (at2 + 1) s3 (m := m) l3 (by rw [v3]; exact (world_word hm hw hr hd x).1)
  refine ⟨at4, s4, ?_⟩
  rw [e0, e1, e2, goL_on (by rw [e3]), e3, e4, v3]

/-- A store, done. -/
theorem store_does {el off d a b c i j r : Int} {u : Unit} (hr : r = 0 ∨ r = 1) (hel : el = 1 ∨ el = 4) (hoff : 0 ≤ off ∧ off < 65536) (hj : 0 ≤ j) (hb : off + el * j + el ≤ 256) (ha : 0 ≤ a ∧ a < 63) (hbt : 0 ≤ b ∧ b < 63)
    {m : MemT} (hm : MemWf m) (hw : WorldL m) (hwa : wordT m r a = j) {x : Int} (hwb : (bif el == 4 then wordT m r b else wordT m r b % 256) = x) (hst : (storeM m (fromA false r + off + el * j) el x).1 = 0) (st : tState.den) (hl : List.length st.1 = 15) :
    (goL noF 1 (opL (opI 19 d a b c i) (el, off, false, u) r) 0 st m).1 = true ∧ (goL noF 1 (opL (opI 19 d a b c i) (el, off, false, u) r) 0 st m).2.2.2 = (storeM m (fromA false r + off + el * j) el x).2 := by
  have e0 : opL (opI 19 d a b c i) (el, off, false, u) r = gets r [a, b] 0 ++ (elI el off r false ++ [(bif el == 1 then 22 else 20, 1, 5, 0, 0, 0, 0, false, ())]) := by
    show gets r [a, b] 0 ++ (V_tmpl_inner (opI 19 d a b c i, (el, off, false, u), r) ++ []) = _
    rw [inner_store, List.append_nil]
    rfl
  have hval : ∀ t : Int, 0 ≤ t → t < 63 → loadM m (tempA r t) 4 = (wordT m r t, 0, ()) := fun t h1 h2 => (word_ok hm hw hr ⟨h1, h2⟩).1
  have hj2 : j < 4294967296 := by have := (word_ok hm hw hr ha).2.2; omega
  have wb := (word_ok hm hw hr hbt).2
  obtain ⟨at1, s1, e1, l1, v1, _⟩ := gets_go hr hval [a, b] 0 (elI el off r false ++ [(bif el == 1 then 22 else 20, 1, 5, 0, 0, 0, 0, false, ())]) 0 st (fun t ht => by
    simp only [List.mem_cons, List.not_mem_nil, or_false] at ht
    rcases ht with rfl | rfl <;> assumption) (by show 0 + 2 ≤ 6; omega) hl
  have h0 : ((regW s1 0 : Nat) : Int) = j := by
    have h' : regW s1 0 = wn (wordT m r a) := v1 0 (by show 0 < 2; omega)
    rw [h', hwa]
    unfold wn
    omega
  have h1 : ((regW s1 1 : Nat) : Int) = wordT m r b := by
    have h' : regW s1 1 = wn (wordT m r b) := v1 1 (by show 1 < 2; omega)
    rw [h']
    unfold wn
    omega
  obtain ⟨at2, s2, e2, l2, a2, k2⟩ := addr_go (inn := false) hr hel hoff hj hb [(bif el == 1 then 22 else 20, 1, 5, 0, 0, 0, 0, false, ())] at1 s1 m l1 h0
  have h12 := k2 1 (by decide) (by decide) (by decide) (by decide)
  rw [e0, e1, e2]
  rcases hel with rfl | rfl
  · have hv : ((regW s2 1 % 256 : Nat) : Int) = x := by
      rw [h12, ← hwb]
      show _ = wordT m r b % 256
      omega
    obtain ⟨d1, d2⟩ := doOne_store (regW_rep l2) (op := 22) (rd := 1) (rn := 5) (.inr rfl) (by decide) (by decide) m (by show (storeM m ((regW s2 5 : Nat) : Int) 1 ((regW s2 1 % 256 : Nat) : Int)).1 = 0; rw [a2, hv]; exact hst)
    have d2' : (doOne s2 (22, 1, 5, 0, 0, 0, 0, false, ()) m).2.2 = (storeM m ((regW s2 5 : Nat) : Int) 1 ((regW s2 1 % 256 : Nat) : Int)).2 := d2
    rw [a2, hv] at d2'
    show (goL noF 1 [(22, 1, 5, 0, 0, 0, 0, false, ())] at2 s2 m).1 = true ∧ (goL noF 1 [(22, 1, 5, 0, 0, 0, 0, false, ())] at2 s2 m).2.2.2 = _
    rw [goL_on d1]
    exact ⟨rfl, d2'⟩
  · have hv : ((regW s2 1 : Nat) : Int) = x := by
      rw [h12, ← hwb]
      exact h1
    obtain ⟨d1, d2⟩ := doOne_store (regW_rep l2) (op := 20) (rd := 1) (rn := 5) (.inl rfl) (by decide) (by decide) m (by show (storeM m ((regW s2 5 : Nat) : Int) 4 ((regW s2 1 : Nat) : Int)).1 = 0; rw [a2, hv]; exact hst)
    have d2' : (doOne s2 (20, 1, 5, 0, 0, 0, 0, false, ()) m).2.2 = (storeM m ((regW s2 5 : Nat) : Int) 4 ((regW s2 1 : Nat) : Int)).2 := d2
    rw [a2, hv] at d2'
    show (goL noF 1 [(20, 1, 5, 0, 0, 0, 0, false, ())] at2 s2 m).1 = true ∧ (goL noF 1 [(20, 1, 5, 0, 0, 0, 0, false, ())] at2 s2 m).2.2.2 = _
    rw [goL_on d1]
    exact ⟨rfl, d2'⟩

/-! ### The input's row -/
theorem world_in {m : MemT} (hm : MemWf m) (hw : WorldL m) {r A n : Int} (hr : r = 0 ∨ r = 1) (hn : n = 1 ∨ n = 4) (hA : 537133056 + 262144 * r ≤ A ∧ A + n ≤ 537133056 + 262144 * r + 256) (v : Int) :
    bytesR (rowsOf (storeM m A n v).2.2 (storeM m A n v).2.1.2.1) 1 = bytesR (rowsOf m.2 m.1.2.1) 1 := by
  have h := store_rows hm hw A n v (3 + r.toNat) (fun j hj => by rw [find_el hr hn hA true] at hj; exact (Option.some.inj hj).symm)
  exact bytes_same h 1 (by omega)

theorem words_in (w : List Int) : ∀ (k i : Nat) (m : MemT), MemWf m → WorldL m → i + k ≤ 64 → bytesR (rowsOf (wordsM w k i m).2 (wordsM w k i m).1.2.1) 1 = bytesR (rowsOf m.2 m.1.2.1) 1
  | 0, _, _, _, _, _ => rfl
  | k + 1, i, m, hm, hw, hk => by
    have a1 := store_wf hm (537133056 + 4 * (i : Int)) 4 (w.getD i 0)
    have w1 : WorldL (storeM m (537133056 + 4 * (i : Int)) 4 (w.getD i 0)).2 := a1.2.trans hw
    have a2 := store_wf a1.1 (537395200 + 4 * (i : Int)) 4 (bxor .i64 (w.getD i 0) 1515870810)
    have w2 : WorldL (storeM (storeM m (537133056 + 4 * (i : Int)) 4 (w.getD i 0)).2 (537395200 + 4 * (i : Int)) 4 (bxor .i64 (w.getD i 0) 1515870810)).2 := a2.2.trans w1
    refine (words_in w k (i + 1) _ a2.1 w2 (by omega)).trans ?_
    refine (world_in a1.1 w1 (r := 1) (.inr rfl) (.inr rfl) (by omega) _).trans ?_
    exact world_in hm hw (r := 0) (.inl rfl) (.inr rfl) (by omega) _

theorem new_in : bytesR (rowsOf (newM regs27 [1, 2, 3, 4] inp16R).2 (newM regs27 [1, 2, 3, 4] inp16R).1.2.1) 1 = inp16R := by decide +kernel
end Go.Av
end
/-! TmplArrays. -/
section
namespace Go.Av
open Go

abbrev inpA : List UInt8 := [48, 49, 50, 51, 52, 53, 54, 55, 56, 57, 97, 98, 99, 100, 101, 102]
/-- A region's bytes. -/
abbrev bytesA (m : MemT) (k : Int) : List UInt8 := V_hauberklaw27_Bytes ((m.1.1, rowsOf m.2 m.1.2.1, ()), k)
/-- Where an element lies, and a temp. -/
abbrev cA (fr off el i : Int) : Int := w64 (w64 (fr + off) + w64 (el * i))
abbrev atA (el off i r : Int) (inn : Bool) : Int := cA (bif inn then 536936448 else w64 (537133056 + w64 (262144 * r))) off el i
abbrev cT (base t : Int) : Int := w64 (w64 (base + 4) + w64 (4 * t))
abbrev tmpA (r t : Int) : Int := cT (w64 (537133056 + w64 (262144 * r))) t
abbrev cD (k base d A : Int) : Int := bif k == 19 then A else cT base d
abbrev cS (k el : Int) : Int := bif k == 19 then el else 4
abbrev cW (k el v x : Int) : Int := bif k == 19 then bif el == 1 then band IntKind.i64 v 255 else band IntKind.i64 v 4294967295 else x

theorem atA_eq {el off i r : Int} {inn : Bool} (hr : r = 0 ∨ r = 1) (hel : el = 1 ∨ el = 4) (hoff : 0 ≤ off ∧ off < 65536) (hi : 0 ≤ i ∧ i ≤ 300) : atA el off i r inn = fromA inn r + off + el * i := by
  unfold atA cA fromA
  rw [w64_id (n := 262144 * r) (by omega) (by omega), w64_id (n := 537133056 + 262144 * r) (by omega) (by omega)]
  have h1 : 0 ≤ el * i ∧ el * i ≤ 1200 := by rcases hel with rfl | rfl <;> omega
  rw [w64_id (n := el * i) (by omega) (by omega)]
  cases inn
  · dsimp only [cond_false]
    rw [w64_id (n := 537133056 + 262144 * r + off) (by omega) (by omega), w64_id (by omega) (by omega)]
  · dsimp only [cond_true]
    rw [w64_id (n := 536936448 + off) (by omega) (by omega), w64_id (by omega) (by omega)]

/-- What is behind the operands' stores. -/
theorem rest_val {k d a b c i0 el off i v base fr want was : Int} {inn b0 : Bool} {u1 u2 : Unit} {l : List tIns.den} {s : tState.den} {m m' : MemT} (hm : MemWf m) (hm' : MemWf m') (hs : List.length s.1 = 15) (hl : l.length < 1000)
    (hA : cA fr off el i < 9223372036854775808) (hn : el = 1 ∨ el = 4) (hD : cD k base d (cA fr off el i) < 9223372036854775808) (hsz : cS k el = 1 ∨ cS k el = 4)
    (hgo : (goL noF 1 l 0 s m).1 = true ∧ (goL noF 1 l 0 s m).2.2.2 = m') (hnow : loadM m' (cD k base d (cA fr off el i)) (cS k el) = (want, 0, ())) (hwant : cW k el v (loadM m (cA fr off el i) el).1 = want)
    (hwas : loadM m (cD k base d (cA fr off el i)) (cS k el) = (was, 0, ())) (hback : storeM m' (cD k base d (cA fr off el i)) (cS k el) was = (0, m)) (hin : bytesA m 1 = inpA) :
    LoopN.res L_hauberklaw27_TmplArrays_c28 (i, v, (), (), (), b0, l, (), base, fr) ((k, d, a, b, c, i0, u1), (el, off, inn, u2), s, m) = some (0, (true, (k, d, a, b, c, i0, u1), (el, off, inn, u2), s, m.1, m.2)) := by
  have gL' : ∀ (y : MemT) (e k : Int), MemWf y → e < 9223372036854775808 → k = 1 ∨ k = 4 → G_memory_Memory_Load ((), e, k) y = true := fun y e k hy he hk => decide_eq_true (by rcases hk with rfl | rfl <;> exact ⟨hy, he⟩)
  have gA : G_hauberklaw27_Go ((), s, l, 1, noF) m = true := decide_eq_true ⟨hm, hs, (by decide : (0 : Int) ≤ 1), (by decide : (1 : Int) < 1048576), by show l.length < 1099511627776; omega⟩
  have hV : V_hauberklaw27_Go ((), s, l, 1, noF) m = (((goL noF 1 l 0 s m).2.2.1, true, ()), m') := by
    obtain ⟨g1, g2⟩ := hgo
    rw [← g1, ← g2]
    rfl
  refine runL_out (c := 0) ?_
  have gS' : G_memory_Memory_Store ((), cD k base d (cA fr off el i), cS k el, was) m' = true := decide_eq_true (by rcases hsz with h | h <;> rw [h] <;> exact ⟨hm', hD⟩)
  refine (val_yes (show G_memory_Memory_Load ((), cA fr off el i, el) m = true from gL' m _ el hm hA hn)).trans ?_
  refine (val_yes (show G_memory_Memory_Load ((), cD k base d (cA fr off el i), cS k el) m = true from gL' m _ _ hm hD hsz)).trans ?_
  refine (val_yes (show G_hauberklaw27_Go ((), s, l, 1, noF) m = true from gA)).trans ?_
  refine (val_yes (show G_memory_Memory_Load ((), cD k base d (cA fr off el i), cS k el) (V_hauberklaw27_Go ((), s, l, 1, noF) m).2 = true by rw [hV]; exact gL' m' _ _ hm' hD hsz)).trans ?_
  refine (val_no (show (!(V_hauberklaw27_Go ((), s, l, 1, noF) m).1.2.1) = false by rw [hV]; rfl)).trans ?_
  refine (val_no (show ((loadM (V_hauberklaw27_Go ((), s, l, 1, noF) m).2 (cD k base d (cA fr off el i)) (cS k el)).1 != cW k el v (loadM m (cA fr off el i) el).1) = false by rw [hV, hnow, hwant]; simp)).trans ?_
  refine (val_yes (show G_memory_Memory_Store ((), cD k base d (cA fr off el i), cS k el, (loadM m (cD k base d (cA fr off el i)) (cS k el)).1) (V_hauberklaw27_Go ((), s, l, 1, noF) m).2 = true by rw [hV, hwas]; exact gS')).trans ?_
  have e11 : storeM (V_hauberklaw27_Go ((), s, l, 1, noF) m).2 (cD k base d (cA fr off el i)) (cS k el) (loadM m (cD k base d (cA fr off el i)) (cS k el)).1 = (0, m) := by
    rw [hV, hwas]
    exact hback
  refine (val_no (show ((storeM (V_hauberklaw27_Go ((), s, l, 1, noF) m).2 (cD k base d (cA fr off el i)) (cS k el) (loadM m (cD k base d (cA fr off el i)) (cS k el)).1).1 != 0) = false by rw [e11]; rfl)).trans ?_
  have key : ∀ z : Int × MemT, z = (0, m) → (PO.ite (bif bytesA z.2 3 == bytesA m 3 then bif bytesA z.2 4 == bytesA m 4 then bytesA z.2 1 == inpA || true else true else true)
      (PO.ret (TL.out 0 (bytesA z.2 3 == bytesA m 3 && (bytesA z.2 4 == bytesA m 4 && (bytesA z.2 1 == inpA && true)), ((k, d, a, b, c, i0, u1) : tOp.den), ((el, off, inn, u2) : tSpot.den), s, z.2.1, z.2.2))) .fail).val = some (TL.out 0 (true, (k, d, a, b, c, i0, u1), (el, off, inn, u2), s, m.1, m.2)) := by
    intro z hz
    subst hz
    rw [hin]
    refine (val_yes (by simp)).trans ?_
    show some _ = some _
    simp
  exact key _ e11

theorem fromA_pos {inn : Bool} {r : Int} (hr : r = 0 ∨ r = 1) : 536936448 ≤ fromA inn r ∧ fromA inn r ≤ 537395200 := by
  unfold fromA
  rcases hr with rfl | rfl <;> cases inn <;> decide

theorem fromA_mod {inn : Bool} {r n : Int} (hr : r = 0 ∨ r = 1) (hn : n = 1 ∨ n = 4) : fromA inn r % n = 0 := by
  unfold fromA
  rcases hr with rfl | rfl <;> cases inn <;> rcases hn with rfl | rfl <;> decide

/-- Where an element is, that lies within. -/
theorem el_find {el off i r : Int} {inn : Bool} (hr : r = 0 ∨ r = 1) (hel : el = 1 ∨ el = 4) (hoff : 0 ≤ off) (hi : 0 ≤ i) (hb : off + el * i + el ≤ bif inn then 16 else 256) :
    ∃ j : Nat, findX (fromA inn r + off + el * i) el false regsL = some j := by
  have h1 : 0 ≤ el * i := by rcases hel with rfl | rfl <;> omega
  cases inn
  · refine ⟨_, find_el hr hel ?_ false⟩
    have hb' : off + el * i + el ≤ 256 := hb
    unfold fromA
    dsimp only [cond_false]
    omega
  · refine ⟨_, find_in hel ?_⟩
    have hb' : off + el * i + el ≤ 16 := hb
    unfold fromA
    dsimp only [cond_true]
    omega

theorem el_mod {el off i r : Int} {inn : Bool} (hr : r = 0 ∨ r = 1) (hel : el = 1 ∨ el = 4) (hmod : off % el = 0) : (fromA inn r + off + el * i) % el = 0 := by
  have h := fromA_mod (inn := inn) hr hel
  rcases hel with rfl | rfl <;> omega

/-- The operands' stores, and the rest. -/
def moreP (k d a b c i0 el off i v r : Int) (inn : Bool) (l : List tIns.den) (s : tState.den) (m : MemT) : PO Bool :=
  .ite (G_memory_Memory_Store ((), tmpA r a, 4, i) m)
   (.ite ((storeM m (tmpA r a) 4 i).1 != 0)
    (.ret false)
    (.ite (k == 19)
     (.ite (G_memory_Memory_Store ((), tmpA r b, 4, v) (storeM m (tmpA r a) 4 i).2)
      (.ite ((storeM (storeM m (tmpA r a) 4 i).2 (tmpA r b) 4 v).1 != 0)
       (.ret false)
       (.opt (LoopN.res L_hauberklaw27_TmplArrays_c28 (i, v, (), (), (), false, l, (), w64 (537133056 + w64 (262144 * r)), bif inn then 536936448 else w64 (537133056 + w64 (262144 * r))) ((k, d, a, b, c, i0, ()), (el, off, inn, ()), s, (storeM (storeM m (tmpA r a) 4 i).2 (tmpA r b) 4 v).2)) fun p0 => .ret p0.2.1))
      .fail)
     (.opt (LoopN.res L_hauberklaw27_TmplArrays_c28 (i, v, (), (), (), false, l, (), w64 (537133056 + w64 (262144 * r)), bif inn then 536936448 else w64 (537133056 + w64 (262144 * r))) ((k, d, a, b, c, i0, ()), (el, off, inn, ()), s, (storeM m (tmpA r a) 4 i).2)) fun p0 => .ret p0.2.1)))
   .fail

theorem more_load {d a b c i0 el off i v r : Int} {inn : Bool} (hr : r = 0 ∨ r = 1) (hel : el = 1 ∨ el = 4) (hoff : 0 ≤ off ∧ off < 65536) (hi : 0 ≤ i ∧ i ≤ 300) (hb : off + el * i + el ≤ bif inn then 16 else 256) (hmod : off % el = 0)
    (ha : 0 ≤ a ∧ a < 63) (hd : 0 ≤ d ∧ d < 63) {s : tState.den} (hs : List.length s.1 = 15) {m : MemT} (hm : MemWf m) (hw : WorldL m) (hin : bytesA m 1 = inpA) (hll : (opL (opI 18 d a b c i0) (el, off, inn, ()) r).length < 1000) :
    (moreP 18 d a b c i0 el off i v r inn (opL (opI 18 d a b c i0) (el, off, inn, ()) r) s m).val = some true := by
  have hb256 : off + el * i + el ≤ 256 := by cases inn <;> dsimp only [cond_true, cond_false] at hb <;> omega
  have hta : ∀ t, 0 ≤ t ∧ t < 63 → tempA r t < 9223372036854775808 := fun t ht => by unfold tempA; omega
  have e1 : atA el off i r inn = fromA inn r + off + el * i := atA_eq hr hel hoff hi
  have e2 : tmpA r a = tempA r a := addr_w hr ha
  have e3 : tmpA r d = tempA r d := addr_w hr hd
  obtain ⟨q1, q2, _⟩ := world_word hm hw hr ha i
  obtain ⟨m1, w1⟩ := store_wf hm (tempA r a) 4 i
  have hin1 : bytesA (storeM m (tempA r a) 4 i).2 1 = inpA := (world_in hm hw hr (.inr rfl) (by unfold tempA; omega) i).trans hin
  have hw1 : WorldL (storeM m (tempA r a) 4 i).2 := w1.trans hw
  unfold moreP
  rw [e2]
  refine (val_yes (gS hm (hta a ha))).trans ((val_no (by rw [q1]; rfl)).trans ((val_no rfl).trans ?_))
  generalize (storeM m (tempA r a) 4 i).2 = M at *
  have hwa : wordT M r a = i := by
    unfold wordT
    rw [q2]
    show ((wn i : Nat) : Int) = i
    unfold wn
    omega
  have eM : M.1.1 = regsL := by rw [hw1]
  obtain ⟨j, hj⟩ := el_find (inn := inn) hr hel hoff.1 hi.1 hb
  have hfr := fromA_pos (inn := inn) hr
  have h1 : 0 ≤ el * i ∧ el * i ≤ 1200 := by rcases hel with rfl | rfl <;> omega
  have hfm := findM_of hel (A := fromA inn r + off + el * i) (by omega) (el_mod hr hel hmod) hj
  obtain ⟨x, hx, x1, x2, x3⟩ := load_range m1 hel (by rw [eM]; exact hfm) (by rw [eM]; exact hj)
  obtain ⟨at', s', hgo⟩ := load_does (c := c) (i := i0) (b := b) (u := ()) hr hel hoff hi.1 hb256 ha hd m1 hw1 hwa hx ⟨x1, x2⟩ x3 s hs
  obtain ⟨p1, p2, was, p3, _, _, p6⟩ := world_word m1 hw1 hr hd x
  have m2 := (store_wf m1 (tempA r d) 4 x).1
  have hxw : ((wn x : Nat) : Int) = x := by unfold wn; omega
  rw [hxw] at p2
  have f1 : loadM M (cA (bif inn then 536936448 else w64 (537133056 + w64 (262144 * r))) off el i) el = (x, 0, ()) := by
    show loadM M (atA el off i r inn) el = _
    rw [e1]
    exact hx
  have hrest := rest_val (k := 18) (d := d) (a := a) (b := b) (c := c) (i0 := i0) (inn := inn) (b0 := false) (u1 := ()) (u2 := ()) (v := v) (base := w64 (537133056 + w64 (262144 * r))) (fr := bif inn then 536936448 else w64 (537133056 + w64 (262144 * r))) (off := off) (i := i) (el := el) (want := x) (was := was) m1 m2 hs hll
    (by show atA el off i r inn < _; rw [e1]; omega) hel (by show tmpA r d < _; rw [e3]; exact hta d hd) (.inr rfl) (by rw [hgo]; exact ⟨rfl, rfl⟩) (by show loadM _ (tmpA r d) 4 = _; rw [e3]; exact p2) (by show (loadM M (cA (bif inn then 536936448 else w64 (537133056 + w64 (262144 * r))) off el i) el).1 = x; rw [f1])
    (by show loadM _ (tmpA r d) 4 = _; rw [e3]; exact p3) (by show storeM _ (tmpA r d) 4 was = _; rw [e3]; exact p6) hin1
  exact (val_opt (r := _) hrest).trans rfl

theorem band_255 (v : Int) : band IntKind.i64 v 255 = ((wn v % 256 : Nat) : Int) := by
  have := band_low v 8 (by omega)
  refine (show band .i64 v 255 = band .i64 v ((2 ^ 8 : Nat) - 1) from rfl).trans (this.trans ?_)
  unfold wn
  omega

theorem more_store {d a b c i0 el off i v r : Int} (hr : r = 0 ∨ r = 1) (hel : el = 1 ∨ el = 4) (hoff : 0 ≤ off ∧ off < 65536) (hi : 0 ≤ i ∧ i ≤ 300) (hb : off + el * i + el ≤ 256) (hmod : off % el = 0)
    (ha : 0 ≤ a ∧ a < 63) (hbt : 0 ≤ b ∧ b < 63) (hab : a ≠ b) {s : tState.den} (hs : List.length s.1 = 15) {m : MemT} (hm : MemWf m) (hw : WorldL m) (hin : bytesA m 1 = inpA) (hll : (opL (opI 19 d a b c i0) (el, off, false, ()) r).length < 1000) :
    (moreP 19 d a b c i0 el off i v r false (opL (opI 19 d a b c i0) (el, off, false, ()) r) s m).val = some true := by
  have hta : ∀ t, 0 ≤ t ∧ t < 63 → tempA r t < 9223372036854775808 := fun t ht => by unfold tempA; omega
  have e1 : atA el off i r false = fromA false r + off + el * i := atA_eq hr hel hoff hi
  have e2 : tmpA r a = tempA r a := addr_w hr ha
  have e3 : tmpA r b = tempA r b := addr_w hr hbt
  obtain ⟨q1, q2, _⟩ := world_word hm hw hr ha i
  obtain ⟨m1, w1⟩ := store_wf hm (tempA r a) 4 i
  have hin1 : bytesA (storeM m (tempA r a) 4 i).2 1 = inpA := (world_in hm hw hr (.inr rfl) (by unfold tempA; omega) i).trans hin
  have hw1 : WorldL (storeM m (tempA r a) 4 i).2 := w1.trans hw
  unfold moreP
  rw [e2, e3]
  refine (val_yes (gS hm (hta a ha))).trans ((val_no (by rw [q1]; rfl)).trans ((val_yes rfl).trans ?_))
  generalize (storeM m (tempA r a) 4 i).2 = M at *
  obtain ⟨q3, q4, _⟩ := world_word m1 hw1 hr hbt v
  obtain ⟨m2, w2⟩ := store_wf m1 (tempA r b) 4 v
  have hin2 : bytesA (storeM M (tempA r b) 4 v).2 1 = inpA := (world_in m1 hw1 hr (.inr rfl) (by unfold tempA; omega) v).trans hin1
  have hw2 : WorldL (storeM M (tempA r b) 4 v).2 := w2.trans hw1
  have hap := load_apart hw1 m1 hr ha hbt hab v
  refine (val_yes (gS m1 (hta b hbt))).trans ((val_no (by rw [q3]; rfl)).trans ?_)
  generalize (storeM M (tempA r b) 4 v).2 = N at *
  have hwa : wordT N r a = i := by
    unfold wordT
    rw [hap, q2]
    show ((wn i : Nat) : Int) = i
    unfold wn
    omega
  have hwb : wordT N r b = ((wn v : Nat) : Int) := by
    unfold wordT
    rw [q4]
  have eN : N.1.1 = regsL := by rw [hw2]
  have h1 : 0 ≤ el * i ∧ el * i ≤ 1200 := by rcases hel with rfl | rfl <;> omega
  have hA : 537133056 + 262144 * r ≤ fromA false r + off + el * i ∧ fromA false r + off + el * i + el ≤ 537133056 + 262144 * r + 256 := by
    unfold fromA
    dsimp only [cond_false]
    omega
  have hfX := fun w => find_el hr hel hA w
  have hfM := fun w => findM_of (w := w) hel (A := fromA false r + off + el * i) (by omega) (el_mod hr hel hmod) (hfX w)
  have hwant : ∀ z : Int, cW 19 el v z = ((bif el == 4 then wn v else wn v % 256 : Nat) : Int) := fun z => by
    rcases hel with rfl | rfl
    · exact band_255 v
    · exact band_word v
  obtain ⟨p1, p2, was, p3, _, _, p6⟩ := store_facts m2 (n := el) hel (by rw [eN]; exact hfM false) (by rw [eN]; exact hfM true) (by rw [eN]; exact hfX true) ((bif el == 4 then wn v else wn v % 256 : Nat) : Int)
  have hv2 : ((bif el == 4 then wn ((bif el == 4 then wn v else wn v % 256 : Nat) : Int) else wn ((bif el == 4 then wn v else wn v % 256 : Nat) : Int) % 256 : Nat) : Int) = ((bif el == 4 then wn v else wn v % 256 : Nat) : Int) := by
    have hwv := wn_lt v
    rcases hel with rfl | rfl
    · show ((wn ((wn v % 256 : Nat) : Int) % 256 : Nat) : Int) = ((wn v % 256 : Nat) : Int)
      rw [wn_nat (by omega)]
      omega
    · show ((wn ((wn v : Nat) : Int) : Nat) : Int) = ((wn v : Nat) : Int)
      rw [wn_wn]
  rw [hv2] at p2
  have hgo := store_does (c := c) (i := i0) (d := d) (u := ()) hr hel hoff hi.1 hb ha hbt m2 hw2 hwa (x := ((bif el == 4 then wn v else wn v % 256 : Nat) : Int)) (by
    rw [hwb]
    rcases hel with rfl | rfl
    · show ((wn v : Nat) : Int) % 256 = ((wn v % 256 : Nat) : Int)
      omega
    · rfl) p1 s hs
  have m3 := (store_wf m2 (fromA false r + off + el * i) el ((bif el == 4 then wn v else wn v % 256 : Nat) : Int)).1
  have e4 : cD 19 (w64 (537133056 + w64 (262144 * r))) d (cA (bif false then 536936448 else w64 (537133056 + w64 (262144 * r))) off el i) = fromA false r + off + el * i := e1
  have hfr : fromA false r + off + el * i < 9223372036854775808 := by unfold fromA; dsimp only [cond_false]; omega
  have hrest := rest_val (k := 19) (d := d) (a := a) (b := b) (c := c) (i0 := i0) (inn := false) (b0 := false) (u1 := ()) (u2 := ()) (v := v) (base := w64 (537133056 + w64 (262144 * r))) (fr := bif false then 536936448 else w64 (537133056 + w64 (262144 * r))) (off := off) (i := i) (el := el) (was := was) m2 m3 hs hll
    (by show atA el off i r false < _; rw [e1]; exact hfr) hel (by rw [e4]; exact hfr) hel hgo (by rw [e4]; exact p2) (hwant _) (by rw [e4]; exact p3) (by rw [e4]; exact p6) hin2
  exact (val_opt (r := _) hrest).trans rfl

theorem arr_val (k d a b c i0 el off : Int) (inn : Bool) (i v : Int) (w : List Int) (r : Int) (s : tState.den) (hs : List.length s.1 = 15) : (T_hauberklaw27_TmplArrays (opI k d a b c i0, (el, off, inn, ()), i, v, w, r, s)).val = some true := by
  have hG : G_tmpl_Op (opI k d a b c i0, (el, off, inn, ()), r) = true := op_G _ _ r
  have hW : G_hauberklaw27_World (w, inpA) () = true := rfl
  refine (val_yes hG).trans ((val_yes hW).trans ?_)
  dsimp only
  rw [op_V]
  cases hok : okOp (opI k d a b c i0) (el, off, inn, ()) r with
  | false => rfl
  | true =>
    simp only [cond_true]
    obtain ⟨_, hr, _, htail⟩ := ok_facts hok
    have hk := ok_kind hok
    rw [tail_same k d a b c i0 _ hk] at htail
    refine (val_yes rfl).trans ?_
    cases hc : (!V_hauberklaw27_small (opI k d a b c i0) || bif k != 18 then k != 19 || a == b && k == 19 else a == b && k == 19) with
    | true => exact (val_yes (by simp)).trans rfl
    | false =>
      refine (val_no (by simp)).trans ?_
      have hsm : V_hauberklaw27_small (opI k d a b c i0) = true := by
        cases h : V_hauberklaw27_small (opI k d a b c i0) with
        | true => rfl
        | false => rw [h] at hc; cases hc
      rw [hsm] at hc
      obtain ⟨ha, hb, _, hd⟩ := small_facts hsm
      have hk' : k = 18 ∨ k = 19 ∧ a ≠ b := by
        by_cases c1 : k = 18
        · exact .inl c1
        · have b1 : (k != 18) = true := bne_iff_ne.2 c1
          rw [b1] at hc
          simp only [Bool.not_true, Bool.false_or, cond_true, Bool.or_eq_false_iff, bne_eq_false_iff_eq, Bool.and_eq_false_iff, beq_eq_false_iff_ne] at hc
          exact .inr ⟨hc.1, hc.2.elim id (fun h => absurd hc.1 h)⟩
      have hspot : (el = 1 ∨ el = 4) ∧ (0 ≤ off ∧ off < 65536) ∧ (k = 19 → inn = false) := by
        have h3 : (bif el == 1 then decide (off ≥ 0) && (decide (off < 65536) && (!inn || k == 18)) else el == 4 && (decide (off ≥ 0) && (decide (off < 65536) && (!inn || k == 18)))) = true := by
          rcases hk' with rfl | ⟨rfl, _⟩ <;> exact htail
        by_cases c1 : el = 1
        · subst c1
          simp only [beq_self_eq_true, cond_true, Bool.and_eq_true, decide_eq_true_eq, Bool.or_eq_true, Bool.not_eq_true', beq_iff_eq] at h3
          exact ⟨.inl rfl, ⟨h3.1, h3.2.1⟩, fun e => h3.2.2.elim id (fun h => by omega)⟩
        · rw [beq_eq_false_iff_ne.2 c1] at h3
          simp only [cond_false, Bool.and_eq_true, decide_eq_true_eq, Bool.or_eq_true, Bool.not_eq_true', beq_iff_eq] at h3
          exact ⟨.inr h3.1, ⟨h3.2.1, h3.2.2.1⟩, fun e => h3.2.2.2.elim id (fun h => by omega)⟩
      obtain ⟨hel, hoff, hinn⟩ := hspot
      have hel0 : (!el == 0) = true := by rcases hel with rfl | rfl <;> rfl
      refine (val_yes ?_).trans ?_
      · rw [hel0]
        simp
      · cases hz : (decide (i < 0) || (decide (i > 300) || (decide (w64 (w64 (off + w64 (el * i)) + el) > bif inn then 16 else 256) || Int.tmod off el != 0))) with
        | true => rfl
        | false =>
          refine (val_no rfl).trans ?_
          simp only [Bool.or_eq_false_iff, decide_eq_false_iff_not, bne_eq_false_iff_eq] at hz
          obtain ⟨z1, z2, z3, z4⟩ := hz
          have hi : 0 ≤ i ∧ i ≤ 300 := by omega
          have h1 : 0 ≤ el * i ∧ el * i ≤ 1200 := by rcases hel with rfl | rfl <;> omega
          have hbd : off + el * i + el ≤ bif inn then 16 else 256 := by
            rw [w64_id (n := el * i) (by omega) (by omega), w64_id (n := off + el * i) (by omega) (by omega), w64_id (by omega) (by omega)] at z3
            exact Int.not_lt.1 z3
          have hmod : off % el = 0 := by
            rw [← Int.tmod_eq_emod_of_nonneg hoff.1]
            exact z4
          have hmw : MemWf (worldM w inpA) := (wordsM_wf w _ 0 _ (newM_wf regs27 [1, 2, 3, 4] inpA regs27_ok.1 (by have := regs27_ok.2.1; omega))).1
          have hml : WorldL (worldM w inpA) := by
            have := (wordsM_wf w (min w.length 64) 0 _ (newM_wf regs27 [1, 2, 3, 4] inpA regs27_ok.1 (by have := regs27_ok.2.1; omega))).2
            show (worldM w inpA).1 = _
            refine this.trans ?_
            show (regs27, winsOf 0 regs27, ()) = _
            rw [regs27_eq]
          have hml0 : WorldL (newM regs27 [1, 2, 3, 4] inpA) := by
            show (regs27, winsOf 0 regs27, ()) = _
            rw [regs27_eq]
          have hin : bytesA (worldM w inpA) 1 = inpA := (words_in w (min w.length 64) 0 _ (newM_wf regs27 [1, 2, 3, 4] inpA regs27_ok.1 (by have := regs27_ok.2.1; omega)) hml0 (by omega)).trans new_in
          have eW : (V_hauberklaw27_World (w, inpA) ()).2 = worldM w inpA := rfl
          show (moreP k d a b c i0 el off i v r inn (V_tmpl_Op (opI k d a b c i0, (el, off, inn, ()), r)).1 s (V_hauberklaw27_World (w, inpA) ()).2).val = some true
          rw [op_V, hok, eW]
          simp only [cond_true]
          generalize worldM w inpA = M at *
          have hll := opL_len (opI k d a b c i0) (el, off, inn, ()) r
          rcases hk' with rfl | ⟨rfl, hab⟩
          · exact more_load (c := c) (i0 := i0) hr hel hoff hi hbd hmod ha hd hs hmw hml hin (by omega)
          · have hinf := hinn rfl
            subst hinf
            exact more_store (c := c) (i0 := i0) (d := d) hr hel hoff hi hbd hmod ha hb hab hs hmw hml hin (by omega)

theorem law_hauberklaw27_TmplArrays (x : dens A_hauberklaw27_TmplArrays) (h : fitsAll maxLen A_hauberklaw27_TmplArrays x) : (T_hauberklaw27_TmplArrays x).val = some true := by
  obtain ⟨⟨k, d, a, b, c, i0, u⟩, ⟨el, off, inn, u2⟩, i, v, w, r, s⟩ := x
  exact arr_val k d a b c i0 el off inn i v w r s (len15 h.2.2.2.2.2.2)
end Go.Av
end
/-! The functions that the statements reach, walked: chain TArr. Written by wip/tools/gen.py out of wip/conf/TArr.txt. -/
section
namespace Go.Proofs.Ytiphdjnjbpkhnaa
open Go Go.Av Go.Proofs
noncomputable def cTArr0 : Ctx := baseC Try.prog [92, 76, 25, 125, 45, 29, 54, 99, 63, 90, 23, 141]
theorem cTArr0_good : Av.Good cTArr0 := good_base (by kernel_rfl) (by kernel_rfl) (by kernel_rfl)
noncomputable def cTArr1 : Ctx := cTArr0.addPlain 17 (plainS SS_hauberklaw27_Bytes G_hauberklaw27_Bytes S_hauberklaw27_Bytes V_hauberklaw27_Bytes)
theorem cTArr1_good : Av.Good cTArr1 := cTArr0_good.fnPS S_hauberklaw27_Bytes T_hauberklaw27_Bytes G_hauberklaw27_Bytes V_hauberklaw27_Bytes 4 12 (by kernel_rfl) (fun x => by kernel_rfl) ok_hauberklaw27_Bytes
noncomputable def cTArr2 : Ctx := cTArr1.addPlain 119 (plainT A_thumb_within G_thumb_within S_thumb_within V_thumb_within)
theorem cTArr2_good : Av.Good cTArr2 := cTArr1_good.fnP S_thumb_within T_thumb_within G_thumb_within V_thumb_within 2 8 (by kernel_rfl) (fun x => by kernel_rfl) ok_thumb_within
noncomputable def cTArr3 : Ctx := cTArr2.addPlain 120 (plainT A_thumb_field G_thumb_field S_thumb_field V_thumb_field)
theorem cTArr3_good : Av.Good cTArr3 := cTArr2_good.fnP S_thumb_field T_thumb_field G_thumb_field V_thumb_field 2 8 (by kernel_rfl) (fun x => by kernel_rfl) ok_thumb_field
noncomputable def cTArr4 : Ctx := cTArr3.addPlain 118 (plainT A_thumb_formOf G_thumb_formOf S_thumb_formOf V_thumb_formOf)
theorem cTArr4_good : Av.Good cTArr4 := cTArr3_good.fnP S_thumb_formOf T_thumb_formOf G_thumb_formOf V_thumb_formOf 2 8 (by kernel_rfl) (fun x => by kernel_rfl) ok_thumb_formOf
noncomputable def cTArr5 : Ctx := cTArr4.addPlain 133 (plainT A_thumb_Reach G_thumb_Reach S_thumb_Reach V_thumb_Reach)
theorem cTArr5_good : Av.Good cTArr5 := cTArr4_good.fnP S_thumb_Reach T_thumb_Reach G_thumb_Reach V_thumb_Reach 3 8 (by kernel_rfl) (fun x => by kernel_rfl) ok_thumb_Reach
noncomputable def cTArr6 : Ctx := cTArr5.addPlain 117 (plainT A_thumb_branch G_thumb_branch S_thumb_branch V_thumb_branch)
theorem cTArr6_good : Av.Good cTArr6 := cTArr5_good.fnP S_thumb_branch T_thumb_branch G_thumb_branch V_thumb_branch 3 8 (by kernel_rfl) (fun x => by kernel_rfl) ok_thumb_branch
noncomputable def cTArr7 : Ctx := cTArr6.addPlain 94 (plainT A_thumb_Check G_thumb_Check S_thumb_Check V_thumb_Check)
theorem cTArr7_good : Av.Good cTArr7 := cTArr6_good.fnP S_thumb_Check T_thumb_Check G_thumb_Check V_thumb_Check 3 8 (by kernel_rfl) (fun x => by kernel_rfl) ok_thumb_Check
noncomputable def cTArr8 : Ctx := cTArr7.addPlain 144 (plainT A_thumb_put G_thumb_put S_thumb_put V_thumb_put)
theorem cTArr8_good : Av.Good cTArr8 := cTArr7_good.fnP S_thumb_put T_thumb_put G_thumb_put V_thumb_put 2 6 (by kernel_rfl) (fun x => by kernel_rfl) ok_thumb_put
noncomputable def cTArr9 : Ctx := cTArr8.addPlain 135 (plainT A_thumb_shifted G_thumb_shifted S_thumb_shifted V_thumb_shifted)
theorem cTArr9_good : Av.Good cTArr9 := cTArr8_good.fnP S_thumb_shifted T_thumb_shifted G_thumb_shifted V_thumb_shifted 4 8 (by kernel_rfl) (fun x => by kernel_rfl) ok_thumb_shifted
noncomputable def cTArr10 : Ctx := cTArr9.addPlain 134 (plainT A_thumb_move G_thumb_move S_thumb_move V_thumb_move)
theorem cTArr10_good : Av.Good cTArr10 := cTArr9_good.fnP S_thumb_move T_thumb_move G_thumb_move V_thumb_move 4 8 (by kernel_rfl) (fun x => by kernel_rfl) ok_thumb_move
noncomputable def cTArr11 : Ctx := cTArr10.addPlain 145 (plainT A_thumb_short G_thumb_short S_thumb_short V_thumb_short)
theorem cTArr11_good : Av.Good cTArr11 := cTArr10_good.fnP S_thumb_short T_thumb_short G_thumb_short V_thumb_short 4 8 (by kernel_rfl) (fun x => by kernel_rfl) ok_thumb_short
noncomputable def cTArr12 : Ctx := cTArr11.addPlain 146 (plainT A_thumb_wide G_thumb_wide S_thumb_wide V_thumb_wide)
theorem cTArr12_good : Av.Good cTArr12 := cTArr11_good.fnP S_thumb_wide T_thumb_wide G_thumb_wide V_thumb_wide 4 8 (by kernel_rfl) (fun x => by kernel_rfl) ok_thumb_wide
noncomputable def cTArr13 : Ctx := cTArr12.addPlain 136 (plainT A_thumb_others G_thumb_others S_thumb_others V_thumb_others)
theorem cTArr13_good : Av.Good cTArr13 := cTArr12_good.fnP S_thumb_others T_thumb_others G_thumb_others V_thumb_others 4 8 (by kernel_rfl) (fun x => by kernel_rfl) ok_thumb_others
noncomputable def cTArr14 : Ctx := cTArr13.addPlain 121 (plainT A_thumb_bits G_thumb_bits S_thumb_bits V_thumb_bits)
theorem cTArr14_good : Av.Good cTArr14 := cTArr13_good.fnP S_thumb_bits T_thumb_bits G_thumb_bits V_thumb_bits 4 8 (by kernel_rfl) (fun x => by kernel_rfl) ok_thumb_bits
noncomputable def cTArr15 : Ctx := cTArr14.addPlain 96 (plainT A_thumb_Size G_thumb_Size S_thumb_Size V_thumb_Size)
theorem cTArr15_good : Av.Good cTArr15 := cTArr14_good.fnP S_thumb_Size T_thumb_Size G_thumb_Size V_thumb_Size 4 8 (by kernel_rfl) (fun x => by kernel_rfl) ok_thumb_Size
noncomputable def cTArr16 : Ctx := cTArr15.addPlain 48 (plainT A_word_Wrap G_word_Wrap S_word_Wrap V_word_Wrap)
theorem cTArr16_good : Av.Good cTArr16 := cTArr15_good.fnP S_word_Wrap T_word_Wrap G_word_Wrap V_word_Wrap 2 8 (by kernel_rfl) (fun x => by kernel_rfl) ok_word_Wrap
noncomputable def cTArr17 : Ctx := cTArr16.addPlain 100 (plainT A_word_many G_word_many S_word_many V_word_many)
theorem cTArr17_good : Av.Good cTArr17 := cTArr16_good.fnP S_word_many T_word_many G_word_many V_word_many 2 8 (by kernel_rfl) (fun x => by kernel_rfl) ok_word_many
noncomputable def cTArr18 : Ctx := cTArr17.addPlain 49 (plainT A_word_Add G_word_Add S_word_Add V_word_Add)
theorem cTArr18_good : Av.Good cTArr18 := cTArr17_good.fnP S_word_Add T_word_Add G_word_Add V_word_Add 2 8 (by kernel_rfl) (fun x => by kernel_rfl) ok_word_Add
noncomputable def cTArr19 : Ctx := cTArr18.addPlain 50 (plainT A_word_Sub G_word_Sub S_word_Sub V_word_Sub)
theorem cTArr19_good : Av.Good cTArr19 := cTArr18_good.fnP S_word_Sub T_word_Sub G_word_Sub V_word_Sub 2 8 (by kernel_rfl) (fun x => by kernel_rfl) ok_word_Sub
noncomputable def cTArr20 : Ctx := cTArr19.addPlain 99 (plainT A_word_product G_word_product S_word_product V_word_product)
theorem cTArr20_good : Av.Good cTArr20 := cTArr19_good.fnP S_word_product T_word_product G_word_product V_word_product 2 8 (by kernel_rfl) (fun x => by kernel_rfl) ok_word_product
noncomputable def cTArr21 : Ctx := cTArr20.addPlain 51 (plainT A_word_Mul G_word_Mul S_word_Mul V_word_Mul)
theorem cTArr21_good : Av.Good cTArr21 := cTArr20_good.fnP S_word_Mul T_word_Mul G_word_Mul V_word_Mul 2 8 (by kernel_rfl) (fun x => by kernel_rfl) ok_word_Mul
noncomputable def cTArr22 : Ctx := cTArr21.addPlain 52 (plainT A_word_High G_word_High S_word_High V_word_High)
theorem cTArr22_good : Av.Good cTArr22 := cTArr21_good.fnP S_word_High T_word_High G_word_High V_word_High 2 8 (by kernel_rfl) (fun x => by kernel_rfl) ok_word_High
noncomputable def cTArr23 : Ctx := cTArr22.addPlain 56 (plainT A_word_Not G_word_Not S_word_Not V_word_Not)
theorem cTArr23_good : Av.Good cTArr23 := cTArr22_good.fnP S_word_Not T_word_Not G_word_Not V_word_Not 2 8 (by kernel_rfl) (fun x => by kernel_rfl) ok_word_Not
noncomputable def cTArr24 : Ctx := cTArr23.addPlain 53 (plainT A_word_And G_word_And S_word_And V_word_And)
theorem cTArr24_good : Av.Good cTArr24 := cTArr23_good.fnP S_word_And T_word_And G_word_And V_word_And 2 8 (by kernel_rfl) (fun x => by kernel_rfl) ok_word_And
noncomputable def cTArr25 : Ctx := cTArr24.addPlain 54 (plainT A_word_Or G_word_Or S_word_Or V_word_Or)
theorem cTArr25_good : Av.Good cTArr25 := cTArr24_good.fnP S_word_Or T_word_Or G_word_Or V_word_Or 2 8 (by kernel_rfl) (fun x => by kernel_rfl) ok_word_Or
noncomputable def cTArr26 : Ctx := cTArr25.addPlain 55 (plainT A_word_Xor G_word_Xor S_word_Xor V_word_Xor)
theorem cTArr26_good : Av.Good cTArr26 := cTArr25_good.fnP S_word_Xor T_word_Xor G_word_Xor V_word_Xor 2 8 (by kernel_rfl) (fun x => by kernel_rfl) ok_word_Xor
noncomputable def cTArr27 : Ctx := cTArr26.addPlain 57 (plainT A_word_Shl G_word_Shl S_word_Shl V_word_Shl)
theorem cTArr27_good : Av.Good cTArr27 := cTArr26_good.fnP S_word_Shl T_word_Shl G_word_Shl V_word_Shl 2 8 (by kernel_rfl) (fun x => by kernel_rfl) ok_word_Shl
noncomputable def cTArr28 : Ctx := cTArr27.addPlain 58 (plainT A_word_Shr G_word_Shr S_word_Shr V_word_Shr)
theorem cTArr28_good : Av.Good cTArr28 := cTArr27_good.fnP S_word_Shr T_word_Shr G_word_Shr V_word_Shr 2 8 (by kernel_rfl) (fun x => by kernel_rfl) ok_word_Shr
noncomputable def cTArr29 : Ctx := cTArr28.addPlain 137 (plainT A_word_Sar G_word_Sar S_word_Sar V_word_Sar)
theorem cTArr29_good : Av.Good cTArr29 := cTArr28_good.fnP S_word_Sar T_word_Sar G_word_Sar V_word_Sar 2 8 (by kernel_rfl) (fun x => by kernel_rfl) ok_word_Sar
noncomputable def cTArr30 : Ctx := cTArr29.addPlain 59 (plainT A_word_Ror G_word_Ror S_word_Ror V_word_Ror)
theorem cTArr30_good : Av.Good cTArr30 := cTArr29_good.fnP S_word_Ror T_word_Ror G_word_Ror V_word_Ror 2 8 (by kernel_rfl) (fun x => by kernel_rfl) ok_word_Ror
noncomputable def cTArr31 : Ctx := cTArr30.addPlain 63 (plainT A_word_Select G_word_Select S_word_Select V_word_Select)
theorem cTArr31_good : Av.Good cTArr31 := cTArr30_good.fnP S_word_Select T_word_Select G_word_Select V_word_Select 2 8 (by kernel_rfl) (fun x => by kernel_rfl) ok_word_Select
noncomputable def cTArr32 : Ctx := cTArr31.addPlain 138 (plainT A_word_Bit G_word_Bit S_word_Bit V_word_Bit)
theorem cTArr32_good : Av.Good cTArr32 := cTArr31_good.fnP S_word_Bit T_word_Bit G_word_Bit V_word_Bit 2 8 (by kernel_rfl) (fun x => by kernel_rfl) ok_word_Bit
noncomputable def cTArr33 : Ctx := cTArr32.addPlain 139 (plainT A_hauberkref01_Wrap G_hauberkref01_Wrap S_hauberkref01_Wrap V_hauberkref01_Wrap)
theorem cTArr33_good : Av.Good cTArr33 := cTArr32_good.fnP S_hauberkref01_Wrap T_hauberkref01_Wrap G_hauberkref01_Wrap V_hauberkref01_Wrap 2 8 (by kernel_rfl) (fun x => by kernel_rfl) ok_hauberkref01_Wrap
noncomputable def cTArr34 : Ctx := cTArr33.addPlain 122 (plainT A_cpu_Holds G_cpu_Holds S_cpu_Holds V_cpu_Holds)
theorem cTArr34_good : Av.Good cTArr34 := cTArr33_good.fnP S_cpu_Holds T_cpu_Holds G_cpu_Holds V_cpu_Holds 2 8 (by kernel_rfl) (fun x => by kernel_rfl) ok_cpu_Holds
noncomputable def cTArr35 : Ctx := cTArr34.addPlain 97 (plainT A_cpu_goes G_cpu_goes S_cpu_goes V_cpu_goes)
theorem cTArr35_good : Av.Good cTArr35 := cTArr34_good.fnP S_cpu_goes T_cpu_goes G_cpu_goes V_cpu_goes 2 8 (by kernel_rfl) (fun x => by kernel_rfl) ok_cpu_goes
noncomputable def cTArr36 : Ctx := cTArr35.addLoop 95 2 L_cpu_words_2.toT.toLoop
theorem cTArr36_good : Av.Good cTArr36 := cTArr35_good.loopN L_cpu_words_2 2 8 (by kernel_rfl) (fun _ _ => rfl) (fun x y s m K => by kernel_rfl) (fun x y s s' K e => by kernel_rfl)
noncomputable def cTArr37 : Ctx := cTArr36.addPlain 95 (plainT A_cpu_words G_cpu_words S_cpu_words V_cpu_words)
theorem cTArr37_good : Av.Good cTArr37 := cTArr36_good.fnP S_cpu_words T_cpu_words G_cpu_words V_cpu_words 2 8 (by kernel_rfl) (fun x => by kernel_rfl) ok_cpu_words
noncomputable def cTArr38 : Ctx := cTArr37.addPlain 123 (plainT A_cpu_insert G_cpu_insert S_cpu_insert V_cpu_insert)
theorem cTArr38_good : Av.Good cTArr38 := cTArr37_good.fnP S_cpu_insert T_cpu_insert G_cpu_insert V_cpu_insert 2 8 (by kernel_rfl) (fun x => by kernel_rfl) ok_cpu_insert
noncomputable def cTArr39 : Ctx := cTArr38.addPlain 124 (plainT A_cpu_shifted G_cpu_shifted S_cpu_shifted V_cpu_shifted)
theorem cTArr39_good : Av.Good cTArr39 := cTArr38_good.fnP S_cpu_shifted T_cpu_shifted G_cpu_shifted V_cpu_shifted 2 8 (by kernel_rfl) (fun x => by kernel_rfl) ok_cpu_shifted
noncomputable def cTArr40 : Ctx := cTArr39.addPlain 125 (plainT A_cpu_two G_cpu_two S_cpu_two V_cpu_two)
theorem cTArr40_good : Av.Good cTArr40 := cTArr39_good.fnP S_cpu_two T_cpu_two G_cpu_two V_cpu_two 2 8 (by kernel_rfl) (fun x => by kernel_rfl) ok_cpu_two
noncomputable def cTArr41 : Ctx := cTArr40.addPlain 126 (plainT A_cpu_compare G_cpu_compare S_cpu_compare V_cpu_compare)
theorem cTArr41_good : Av.Good cTArr41 := cTArr40_good.fnP S_cpu_compare T_cpu_compare G_cpu_compare V_cpu_compare 2 8 (by kernel_rfl) (fun x => by kernel_rfl) ok_cpu_compare
noncomputable def cTArr42 : Ctx := cTArr41.addPlain 98 (plainT A_cpu_makes G_cpu_makes S_cpu_makes V_cpu_makes)
theorem cTArr42_good : Av.Good cTArr42 := cTArr41_good.fnP S_cpu_makes T_cpu_makes G_cpu_makes V_cpu_makes 2 8 (by kernel_rfl) (fun x => by kernel_rfl) ok_cpu_makes
noncomputable def cTArr43 : Ctx := cTArr42.addPlain 46 (plainT A_cpu_Access G_cpu_Access S_cpu_Access V_cpu_Access)
theorem cTArr43_good : Av.Good cTArr43 := cTArr42_good.fnP S_cpu_Access T_cpu_Access G_cpu_Access V_cpu_Access 2 8 (by kernel_rfl) (fun x => by kernel_rfl) ok_cpu_Access
noncomputable def cTArr44 : Ctx := cTArr43.addPlain 47 (plainT A_cpu_Step G_cpu_Step S_cpu_Step V_cpu_Step)
theorem cTArr44_good : Av.Good cTArr44 := cTArr43_good.fnP S_cpu_Step T_cpu_Step G_cpu_Step V_cpu_Step 2 8 (by kernel_rfl) (fun x => by kernel_rfl) ok_cpu_Step
noncomputable def cTArr45 : Ctx := cTArr44.addPlain 111 (plainT A_cpu_Cycles G_cpu_Cycles S_cpu_Cycles V_cpu_Cycles)
theorem cTArr45_good : Av.Good cTArr45 := cTArr44_good.fnP S_cpu_Cycles T_cpu_Cycles G_cpu_Cycles V_cpu_Cycles 2 8 (by kernel_rfl) (fun x => by kernel_rfl) ok_cpu_Cycles
noncomputable def cTArr46 : Ctx := cTArr45.addPlain 113 (plainT A_memmap_Check G_memmap_Check S_memmap_Check V_memmap_Check)
theorem cTArr46_good : Av.Good cTArr46 := cTArr45_good.fnP S_memmap_Check T_memmap_Check G_memmap_Check V_memmap_Check 2 8 (by kernel_rfl) (fun x => by kernel_rfl) ok_memmap_Check
noncomputable def cTArr47 : Ctx := cTArr46.addPlain 116 (plainT A_memmap_has G_memmap_has S_memmap_has V_memmap_has)
theorem cTArr47_good : Av.Good cTArr47 := cTArr46_good.fnP S_memmap_has T_memmap_has G_memmap_has V_memmap_has 2 8 (by kernel_rfl) (fun x => by kernel_rfl) ok_memmap_has
noncomputable def cTArr48 : Ctx := cTArr47.addLoop 93 6 L_memmap_Find_6.toT.toLoop
theorem cTArr48_good : Av.Good cTArr48 := cTArr47_good.loopN L_memmap_Find_6 2 8 (by kernel_rfl) (fun _ _ => rfl) (fun x y s m K => by kernel_rfl) (fun x y s s' K e => by kernel_rfl)
noncomputable def cTArr49 : Ctx := cTArr48.addPlain 93 (plainT A_memmap_Find G_memmap_Find S_memmap_Find V_memmap_Find)
theorem cTArr49_good : Av.Good cTArr49 := cTArr48_good.fnP S_memmap_Find T_memmap_Find G_memmap_Find V_memmap_Find 2 8 (by kernel_rfl) (fun x => by kernel_rfl) ok_memmap_Find
noncomputable def cTArr50 : Ctx := cTArr49.addPlain 43 (plainT A_word_Bytes G_word_Bytes S_word_Bytes V_word_Bytes)
theorem cTArr50_good : Av.Good cTArr50 := cTArr49_good.fnP S_word_Bytes T_word_Bytes G_word_Bytes V_word_Bytes 2 8 (by kernel_rfl) (fun x => by kernel_rfl) ok_word_Bytes
noncomputable def cTArr51 : Ctx := cTArr50.addLoop 16 6 L_memory_Memory_Load_6.toT.toLoop
theorem cTArr51_good : Av.Good cTArr51 := cTArr50_good.loopN L_memory_Memory_Load_6 2 8 (by kernel_rfl) (fun _ _ => rfl) (fun x y s m K => by kernel_rfl) (fun x y s s' K e => by kernel_rfl)
noncomputable def cTArr52 : Ctx := cTArr51.addBody 16 (bodyT SS_memory_Memory_Load HS_memory_Memory_Load S_memory_Memory_Load HT_memory_Memory_Load G_memory_Memory_Load V_memory_Memory_Load)
theorem cTArr52_good : Av.Good cTArr52 := cTArr51_good.fnB S_memory_Memory_Load T_memory_Memory_Load G_memory_Memory_Load V_memory_Memory_Load 2 8 (by kernel_rfl) (fun x y => by kernel_rfl) ok_memory_Memory_Load
noncomputable def cTArr53 : Ctx := cTArr52.addBody 15 (bodyT SS_memory_Memory_Store HS_memory_Memory_Store S_memory_Memory_Store HT_memory_Memory_Store G_memory_Memory_Store V_memory_Memory_Store)
theorem cTArr53_good : Av.Good cTArr53 := cTArr52_good.fnB S_memory_Memory_Store T_memory_Memory_Store G_memory_Memory_Store V_memory_Memory_Store 2 8 (by kernel_rfl) (fun x y => by kernel_rfl) ok_memory_Memory_Store
noncomputable def cTArr54 : Ctx := cTArr53.addBody 44 (bodyT SS_memory_Memory_Region HS_memory_Memory_Region S_memory_Memory_Region HT_memory_Memory_Region G_memory_Memory_Region V_memory_Memory_Region)
theorem cTArr54_good : Av.Good cTArr54 := cTArr53_good.fnB S_memory_Memory_Region T_memory_Memory_Region G_memory_Memory_Region V_memory_Memory_Region 2 8 (by kernel_rfl) (fun x y => by kernel_rfl) ok_memory_Memory_Region
noncomputable def cTArr55 : Ctx := cTArr54.addPlain 92 (plainT A_memmap_Regions G_memmap_Regions S_memmap_Regions V_memmap_Regions)
theorem cTArr55_good : Av.Good cTArr55 := cTArr54_good.fnP S_memmap_Regions T_memmap_Regions G_memmap_Regions V_memmap_Regions 2 8 (by kernel_rfl) (fun x => by kernel_rfl) ok_memmap_Regions
noncomputable def cTArr56 : Ctx := cTArr55.addLoop 41 8 L_memory_New_8.toT.toLoop
theorem cTArr56_good : Av.Good cTArr56 := cTArr55_good.loopN L_memory_New_8 2 8 (by kernel_rfl) (fun _ _ => rfl) (fun x y s m K => by kernel_rfl) (fun x y s s' K e => by kernel_rfl)
noncomputable def cTArr57 : Ctx := cTArr56.addLoop 41 15 L_memory_New_15.toT.toLoop
theorem cTArr57_good : Av.Good cTArr57 := cTArr56_good.loopN L_memory_New_15 2 8 (by kernel_rfl) (fun _ _ => rfl) (fun x y s m K => by kernel_rfl) (fun x y s s' K e => by kernel_rfl)
noncomputable def cTArr58 : Ctx := cTArr57.addLoop 12 5 L_hauberklaw27_World_5.toT.toLoop
theorem cTArr58_good : Av.Good cTArr58 := cTArr57_good.loopN L_hauberklaw27_World_5 2 8 (by kernel_rfl) (fun _ _ => rfl) (fun x y s m K => by kernel_rfl) (fun x y s s' K e => by kernel_rfl)
noncomputable def cTArr59 : Ctx := cTArr58.addBody 12 (bodyT SS_hauberklaw27_World HS_hauberklaw27_World S_hauberklaw27_World HT_hauberklaw27_World G_hauberklaw27_World V_hauberklaw27_World)
theorem cTArr59_good : Av.Good cTArr59 := cTArr58_good.fnR S_hauberklaw27_World T_hauberklaw27_World G_hauberklaw27_World V_hauberklaw27_World 4 12 (by kernel_rfl) (fun x y => by kernel_rfl) ok_hauberklaw27_World
noncomputable def cTArr60 : Ctx := cTArr59.addPlain 45 (plainT A_hauberklaw27_hit G_hauberklaw27_hit S_hauberklaw27_hit V_hauberklaw27_hit)
theorem cTArr60_good : Av.Good cTArr60 := cTArr59_good.fnP S_hauberklaw27_hit T_hauberklaw27_hit G_hauberklaw27_hit V_hauberklaw27_hit 2 8 (by kernel_rfl) (fun x => by kernel_rfl) ok_hauberklaw27_hit
noncomputable def cTArr61 : Ctx := cTArr60.addLoop 18 6 L_hauberklaw27_Go_6.toT.toLoop
theorem cTArr61_good : Av.Good cTArr61 := cTArr60_good.loopN L_hauberklaw27_Go_6 2 8 (by kernel_rfl) (fun _ _ => rfl) (fun x y s m K => by kernel_rfl) (fun x y s s' K e => by kernel_rfl)
noncomputable def cTArr62 : Ctx := cTArr61.addLoop 18 3 L_hauberklaw27_Go_3.toT.toLoop
theorem cTArr62_good : Av.Good cTArr62 := cTArr61_good.loopN L_hauberklaw27_Go_3 2 8 (by kernel_rfl) (fun _ _ => rfl) (fun x y s m K => by kernel_rfl) (fun x y s s' K e => by kernel_rfl)
noncomputable def cTArr63 : Ctx := cTArr62.addBody 18 (bodyT SS_hauberklaw27_Go HS_hauberklaw27_Go S_hauberklaw27_Go HT_hauberklaw27_Go G_hauberklaw27_Go V_hauberklaw27_Go)
theorem cTArr63_good : Av.Good cTArr63 := cTArr62_good.fnB S_hauberklaw27_Go T_hauberklaw27_Go G_hauberklaw27_Go V_hauberklaw27_Go 2 8 (by kernel_rfl) (fun x y => by kernel_rfl) ok_hauberklaw27_Go
noncomputable def cTArr64 : Ctx := cTArr63.addPlain 83 (plainT A_tmpl_Word G_tmpl_Word S_tmpl_Word V_tmpl_Word)
theorem cTArr64_good : Av.Good cTArr64 := cTArr63_good.fnP S_tmpl_Word T_tmpl_Word G_tmpl_Word V_tmpl_Word 3 8 (by kernel_rfl) (fun x => by kernel_rfl) ok_tmpl_Word
noncomputable def cTArr65 : Ctx := cTArr64.addPlain 84 (plainT A_memmap_Rail G_memmap_Rail S_memmap_Rail V_memmap_Rail)
theorem cTArr65_good : Av.Good cTArr65 := cTArr64_good.fnP S_memmap_Rail T_memmap_Rail G_memmap_Rail V_memmap_Rail 2 8 (by kernel_rfl) (fun x => by kernel_rfl) ok_memmap_Rail
noncomputable def cTArr66 : Ctx := cTArr65.addPlain 82 (plainT A_tmpl_fits G_tmpl_fits S_tmpl_fits V_tmpl_fits)
theorem cTArr66_good : Av.Good cTArr66 := cTArr65_good.fnP S_tmpl_fits T_tmpl_fits G_tmpl_fits V_tmpl_fits 2 8 (by kernel_rfl) (fun x => by kernel_rfl) ok_tmpl_fits
noncomputable def cTArr67 : Ctx := cTArr66.addPlain 36 (plainT A_frame_Temp G_frame_Temp S_frame_Temp V_frame_Temp)
theorem cTArr67_good : Av.Good cTArr67 := cTArr66_good.fnP S_frame_Temp T_frame_Temp G_frame_Temp V_frame_Temp 3 8 (by kernel_rfl) (fun x => by kernel_rfl) ok_frame_Temp
noncomputable def cTArr68 : Ctx := cTArr67.addPlain 35 (plainT A_tmpl_Get G_tmpl_Get S_tmpl_Get V_tmpl_Get)
theorem cTArr68_good : Av.Good cTArr68 := cTArr67_good.fnP S_tmpl_Get T_tmpl_Get G_tmpl_Get V_tmpl_Get 3 8 (by kernel_rfl) (fun x => by kernel_rfl) ok_tmpl_Get
noncomputable def cTArr69 : Ctx := cTArr68.addPlain 81 (plainT A_ir_formOf G_ir_formOf S_ir_formOf V_ir_formOf)
theorem cTArr69_good : Av.Good cTArr69 := cTArr68_good.fnP S_ir_formOf T_ir_formOf G_ir_formOf V_ir_formOf 2 12 (by kernel_rfl) (fun x => by kernel_rfl) ok_ir_formOf
noncomputable def cTArr70 : Ctx := cTArr69.addPlain 39 (plainT A_ir_Makes G_ir_Makes S_ir_Makes V_ir_Makes)
theorem cTArr70_good : Av.Good cTArr70 := cTArr69_good.fnP S_ir_Makes T_ir_Makes G_ir_Makes V_ir_Makes 2 8 (by kernel_rfl) (fun x => by kernel_rfl) ok_ir_Makes
noncomputable def cTArr71 : Ctx := cTArr70.addPlain 34 (plainT A_ir_Uses G_ir_Uses S_ir_Uses V_ir_Uses)
theorem cTArr71_good : Av.Good cTArr71 := cTArr70_good.fnP S_ir_Uses T_ir_Uses G_ir_Uses V_ir_Uses 2 8 (by kernel_rfl) (fun x => by kernel_rfl) ok_ir_Uses
noncomputable def cTArr72 : Ctx := cTArr71.addPlain 40 (plainT A_tmpl_Put G_tmpl_Put S_tmpl_Put V_tmpl_Put)
theorem cTArr72_good : Av.Good cTArr72 := cTArr71_good.fnP S_tmpl_Put T_tmpl_Put G_tmpl_Put V_tmpl_Put 3 8 (by kernel_rfl) (fun x => by kernel_rfl) ok_tmpl_Put
noncomputable def cTArr73 : Ctx := cTArr72.addPlain 79 (plainT A_tmpl_temp G_tmpl_temp S_tmpl_temp V_tmpl_temp)
theorem cTArr73_good : Av.Good cTArr73 := cTArr72_good.fnP S_tmpl_temp T_tmpl_temp G_tmpl_temp V_tmpl_temp 2 8 (by kernel_rfl) (fun x => by kernel_rfl) ok_tmpl_temp
noncomputable def cTArr74 : Ctx := cTArr73.addPlain 80 (plainT A_tmpl_spot G_tmpl_spot S_tmpl_spot V_tmpl_spot)
theorem cTArr74_good : Av.Good cTArr74 := cTArr73_good.fnP S_tmpl_spot T_tmpl_spot G_tmpl_spot V_tmpl_spot 2 8 (by kernel_rfl) (fun x => by kernel_rfl) ok_tmpl_spot
noncomputable def cTArr75 : Ctx := cTArr74.addPlain 91 (plainT A_tmpl_pairs G_tmpl_pairs S_tmpl_pairs V_tmpl_pairs)
theorem cTArr75_good : Av.Good cTArr75 := cTArr74_good.fnP S_tmpl_pairs T_tmpl_pairs G_tmpl_pairs V_tmpl_pairs 2 20 (by kernel_rfl) (fun x => by kernel_rfl) ok_tmpl_pairs
noncomputable def cTArr76 : Ctx := cTArr75.addPlain 89 (plainT A_tmpl_three G_tmpl_three S_tmpl_three V_tmpl_three)
theorem cTArr76_good : Av.Good cTArr76 := cTArr75_good.fnP S_tmpl_three T_tmpl_three G_tmpl_three V_tmpl_three 2 8 (by kernel_rfl) (fun x => by kernel_rfl) ok_tmpl_three
noncomputable def cTArr77 : Ctx := cTArr76.addPlain 85 (plainT A_tmpl_shift G_tmpl_shift S_tmpl_shift V_tmpl_shift)
theorem cTArr77_good : Av.Good cTArr77 := cTArr76_good.fnP S_tmpl_shift T_tmpl_shift G_tmpl_shift V_tmpl_shift 2 8 (by kernel_rfl) (fun x => by kernel_rfl) ok_tmpl_shift
noncomputable def cTArr78 : Ctx := cTArr77.addPlain 90 (plainT A_tmpl_array G_tmpl_array S_tmpl_array V_tmpl_array)
theorem cTArr78_good : Av.Good cTArr78 := cTArr77_good.fnP S_tmpl_array T_tmpl_array G_tmpl_array V_tmpl_array 2 12 (by kernel_rfl) (fun x => by kernel_rfl) ok_tmpl_array
noncomputable def cTArr79 : Ctx := cTArr78.addPlain 38 (plainT A_tmpl_inner G_tmpl_inner S_tmpl_inner V_tmpl_inner)
theorem cTArr79_good : Av.Good cTArr79 := cTArr78_good.fnP S_tmpl_inner T_tmpl_inner G_tmpl_inner V_tmpl_inner 3 24 (by kernel_rfl) (fun x => by kernel_rfl) ok_tmpl_inner
noncomputable def cTArr80 : Ctx := cTArr79.addLoop 33 2 L_tmpl_may_2.toT.toLoop
theorem cTArr80_good : Av.Good cTArr80 := cTArr79_good.loopN L_tmpl_may_2 2 8 (by kernel_rfl) (fun _ _ => rfl) (fun x y s m K => by kernel_rfl) (fun x y s s' K e => by kernel_rfl)
noncomputable def cTArr81 : Ctx := cTArr80.addPlain 33 (plainT A_tmpl_may G_tmpl_may S_tmpl_may V_tmpl_may)
theorem cTArr81_good : Av.Good cTArr81 := cTArr80_good.fnP S_tmpl_may T_tmpl_may G_tmpl_may V_tmpl_may 2 12 (by kernel_rfl) (fun x => by kernel_rfl) ok_tmpl_may
noncomputable def cTArr82 : Ctx := cTArr81.addLoop 11 5 L_tmpl_Op_5.toT.toLoop
theorem cTArr82_good : Av.Good cTArr82 := cTArr81_good.loopN L_tmpl_Op_5 2 8 (by kernel_rfl) (fun _ _ => rfl) (fun x y s m K => by kernel_rfl) (fun x y s s' K e => by kernel_rfl)
noncomputable def cTArr83 : Ctx := cTArr82.addPlain 11 (plainT A_tmpl_Op G_tmpl_Op S_tmpl_Op V_tmpl_Op)
theorem cTArr83_good : Av.Good cTArr83 := cTArr82_good.fnP S_tmpl_Op T_tmpl_Op G_tmpl_Op V_tmpl_Op 4 12 (by kernel_rfl) (fun x => by kernel_rfl) ok_tmpl_Op
noncomputable def cTArr84 : Ctx := cTArr83.addPlain 14 (plainT A_hauberklaw27_lives G_hauberklaw27_lives S_hauberklaw27_lives V_hauberklaw27_lives)
theorem cTArr84_good : Av.Good cTArr84 := cTArr83_good.fnP S_hauberklaw27_lives T_hauberklaw27_lives G_hauberklaw27_lives V_hauberklaw27_lives 3 8 (by kernel_rfl) (fun x => by kernel_rfl) ok_hauberklaw27_lives
noncomputable def cTArr85 : Ctx := cTArr84.addPlain 19 (plainT A_ir_Value G_ir_Value S_ir_Value V_ir_Value)
theorem cTArr85_good : Av.Good cTArr85 := cTArr84_good.fnP S_ir_Value T_ir_Value G_ir_Value V_ir_Value 3 12 (by kernel_rfl) (fun x => by kernel_rfl) ok_ir_Value
noncomputable def cTArr86 : Ctx := cTArr85.addLoop 5 12 L_hauberklaw27_TmplDoes_12.toT.toLoop
theorem cTArr86_good : Av.Good cTArr86 := cTArr85_good.loopN L_hauberklaw27_TmplDoes_12 2 8 (by kernel_rfl) (fun _ _ => rfl) (fun x y s m K => by kernel_rfl) (fun x y s s' K e => by kernel_rfl)
noncomputable def cTArr87 : Ctx := cTArr86.addLoop 5 24 L_hauberklaw27_TmplDoes_24.toT.toLoop
theorem cTArr87_good : Av.Good cTArr87 := cTArr86_good.loopN L_hauberklaw27_TmplDoes_24 2 8 (by kernel_rfl) (fun _ _ => rfl) (fun x y s m K => by kernel_rfl) (fun x y s s' K e => by kernel_rfl)
noncomputable def cTArr88 : Ctx := cTArr87.addPlain 13 (plainT A_hauberklaw27_small G_hauberklaw27_small S_hauberklaw27_small V_hauberklaw27_small)
theorem cTArr88_good : Av.Good cTArr88 := cTArr87_good.fnP S_hauberklaw27_small T_hauberklaw27_small G_hauberklaw27_small V_hauberklaw27_small 2 8 (by kernel_rfl) (fun x => by kernel_rfl) ok_hauberklaw27_small
noncomputable def cTArr89 : Ctx := cTArr88.addCut 3 28 L_hauberklaw27_TmplArrays_c28.toT.toLoop
theorem cTArr89_good : Av.Good cTArr89 := cTArr88_good.cutN L_hauberklaw27_TmplArrays_c28 4 12 (by kernel_rfl) (fun _ _ => rfl) (fun x y K => by kernel_rfl)
noncomputable def cTArr : Ctx := cTArr89
theorem cTArr_good : Av.Good cTArr := cTArr89_good
end Go.Proofs.Ytiphdjnjbpkhnaa
end
