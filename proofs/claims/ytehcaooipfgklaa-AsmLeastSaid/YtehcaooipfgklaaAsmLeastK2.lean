/- Texts of the proof, one behind the other. -/
import Derived.Test.YtehcaooipfgklaaAsmLeastK1
import Derived.Test.YtehcaooipfgklaaAvBody
/-! Layer 2: an instruction's bytes are the document's. -/
section
namespace Go.Av
open Go

/-- A half's bytes. -/
def by2 (n : Nat) : List UInt8 := [toByte (n % 256 : Nat), toByte (n / 256 : Nat)]
theorem half_by2 {n : Nat} (h : n < 65536) : V_thumb_half (n : Int) = by2 n := by
  have e : ishr .i64 (n : Int) 8 = (n : Int) / (2 ^ 8 : Nat) := ishr_i64 n 8 (by omega)
  show [toByte (IntKind.wrap IntKind.u8 (n : Int)), toByte (IntKind.wrap IntKind.u8 (ishr IntKind.i64 (n : Int) 8))] = _
  rw [e]
  have w1 : IntKind.wrap IntKind.u8 (n : Int) = ((n % 256 : Nat) : Int) := by
    show (n : Int) % 256 = _
    omega
  have w2 : IntKind.wrap IntKind.u8 ((n : Int) / (2 ^ 8 : Nat)) = ((n / 256 : Nat) : Int) := by
    show (n : Int) / 256 % 256 = _
    omega
  rw [w1, w2]
  rfl
theorem ref_by2 {n : Nat} (h : n < 65536) : [toByte (IntKind.wrap IntKind.u8 (Int.tmod (n : Int) 256)), toByte (IntKind.wrap IntKind.u8 (w64 (Int.tdiv (n : Int) 256)))] = by2 n := by
  rw [tmod_pos _ _ (by omega), tdiv_pos _ _ (by omega), w64_id (by omega) (by omega)]
  have w1 : IntKind.wrap IntKind.u8 ((n : Int) % 256) = ((n % 256 : Nat) : Int) := by
    show (n : Int) % 256 % 256 = _
    omega
  have w2 : IntKind.wrap IntKind.u8 ((n : Int) / 256) = ((n / 256 : Nat) : Int) := by
    show (n : Int) / 256 % 256 = _
    omega
  rw [w1, w2]
  rfl
theorem by2_len (n : Nat) : (by2 n).length = 2 := rfl

section
variable (op rd rn rm ra imm cond : Int) (w : Bool)

theorem rowV_lt (l : List UInt8) (h16 : l.length = 16) (hr : rowOf l = true) : rowV rd rn rm ra imm cond l < 65536 := by
  rw [row_hb rd rn rm ra imm cond l h16 hr]
  have := hb_lt (hl (ltr rd rn rm ra imm cond) l) 0 0 (by omega)
  rw [hl_len, h16] at this
  exact this

theorem turn7 (b out : List UInt8) (at_ : Nat) (hat : at_ + 16 ≤ b.length) (hb : b.length ≤ 32) (hrow : rowOf b = true) (ho : out.length ≤ 2) :
    (L_hauberkref02_Encode_7.turn ((), b, [], 0) (op, rd, rn, rm, ra, imm, cond, w, ()) (out, (at_ : Int), (op, rd, rn, rm, ra, imm, cond, w, ()))).val
      = some (TL.on (out ++ by2 (rowV rd rn rm ra imm cond ((b.take (at_ + 16)).drop at_)), ((at_ + 16 : Nat) : Int), (op, rd, rn, rm, ra, imm, cond, w, ()))) := by
  have hlt : decide ((at_ : Int) < lenI b) = true := dec_true (by show (at_ : Int) < ((b.length : Nat) : Int); omega)
  have hh : LoopN.res L_hauberkref02_Encode_11 ((), b, out, (at_ : Int), 0, (at_ : Int)) (op, rd, rn, rm, ra, imm, cond, w, ()) = _ :=
    hor_run b out (op, rd, rn, rm, ra, imm, cond, w, ()) at_ hat hb hrow 16 at_ 0 rfl (Nat.le_refl _) (Nat.two_pow_pos _) 40 (by omega)
  have hl16 : ((b.take (at_ + 16)).drop at_).length = 16 := by rw [List.length_drop, List.length_take]; omega
  have hrw : rowOf ((b.take (at_ + 16)).drop at_) = true := by
    refine List.all_eq_true.2 fun c hc => List.all_eq_true.1 hrow c ?_
    exact List.mem_of_mem_take (List.mem_of_mem_drop hc)
  have hv := rowV_lt rd rn rm ra imm cond _ hl16 hrw
  dsimp only [L_hauberkref02_Encode_7, PO.val]
  rw [hlt, hh]
  dsimp only [PO.val, cond_true]
  have e : [toByte (IntKind.wrap IntKind.u8 (Int.tmod ((rowV rd rn rm ra imm cond ((b.take (at_ + 16)).drop at_) : Nat) : Int) 256)), toByte (IntKind.wrap IntKind.u8 (w64 (Int.tdiv ((rowV rd rn rm ra imm cond ((b.take (at_ + 16)).drop at_) : Nat) : Int) 256)))] = by2 (rowV rd rn rm ra imm cond ((b.take (at_ + 16)).drop at_)) := ref_by2 hv
  have e2 : Nat.ble (out.length + 2) 9223372036854775807 = true := Nat.ble_eq_true_of_le (by omega)
  have e3 : w64 ((at_ : Int) + 16) = ((at_ + 16 : Nat) : Int) := by rw [w64_id (by omega) (by omega)]; omega
  rw [e, by2_len, e2, e3]
  rfl
theorem res7 (b : List UInt8) (hrow : rowOf b = true) :
    (b.length = 16 → LoopN.res L_hauberkref02_Encode_7 ((), b, [], 0) (op, rd, rn, rm, ra, imm, cond, w, ()) = some (0, by2 (rowV rd rn rm ra imm cond b), 16, (op, rd, rn, rm, ra, imm, cond, w, ())))
    ∧ (b.length = 32 → LoopN.res L_hauberkref02_Encode_7 ((), b, [], 0) (op, rd, rn, rm, ra, imm, cond, w, ()) = some (0, by2 (rowV rd rn rm ra imm cond (b.take 16)) ++ by2 (rowV rd rn rm ra imm cond (b.drop 16)), 32, (op, rd, rn, rm, ra, imm, cond, w, ()))) := by
  have out7 : ∀ (o : List UInt8) (k : Nat), b.length = k → (L_hauberkref02_Encode_7.turn ((), b, [], 0) (op, rd, rn, rm, ra, imm, cond, w, ()) (o, (k : Int), (op, rd, rn, rm, ra, imm, cond, w, ()))).val = some (TL.out 0 (o, (k : Int), (op, rd, rn, rm, ra, imm, cond, w, ()))) := by
    intro o k hk
    have hlt : decide ((k : Int) < lenI b) = false := dec_false (by show ¬ (k : Int) < ((b.length : Nat) : Int); omega)
    dsimp only [L_hauberkref02_Encode_7, PO.val]
    rw [hlt]
    rfl
  constructor
  · intro h
    have t0 := turn7 op rd rn rm ra imm cond w b [] 0 (by omega) (by omega) hrow (by decide)
    rw [show (b.take (0 + 16)).drop 0 = b by rw [List.drop_zero, List.take_of_length_le (by omega)]] at t0
    show runL _ 40 ([], ((0 : Nat) : Int), _) = _
    exact (runL_on t0).trans ((runL_out (out7 _ 16 h)).trans rfl)
  · intro h
    have t0 := turn7 op rd rn rm ra imm cond w b [] 0 (by omega) (by omega) hrow (by decide)
    have t1 := turn7 op rd rn rm ra imm cond w b ([] ++ by2 (rowV rd rn rm ra imm cond ((b.take (0 + 16)).drop 0))) 16 (by omega) (by omega) hrow (Nat.le_of_eq (by2_len _))
    show runL _ 40 ([], ((0 : Nat) : Int), _) = _
    refine (runL_on t0).trans ((runL_on t1).trans ((runL_out (out7 _ 32 h)).trans ?_))
    rw [show (b.take (16 + 16)).drop 16 = b.drop 16 by rw [List.take_of_length_le (by omega)]]
    rfl
end
/-- An instruction's bytes are the document's. -/
theorem enc_same (op rd rn rm ra imm cond : Int) (w : Bool) : ∃ v : List UInt8 × Int × Unit, (T_thumb_Encode (op, rd, rn, rm, ra, imm, cond, w, ())).val = some v ∧ (T_hauberkref02_Encode (op, rd, rn, rm, ra, imm, cond, w, ())).val = some v := by
  cases hc : (V_thumb_Check (op, rd, rn, rm, ra, imm, cond, w, ()) != (0 : Int))
  · have h : V_thumb_Check (op, rd, rn, rm, ra, imm, cond, w, ()) = 0 := by simpa using hc
    have hv := bits_val op rd rn rm ra imm cond w h
    have hg : G_thumb_bits (op, rd, rn, rm, ra, imm, cond, w, ()) = true := by unfold G_thumb_bits; rw [hv]; rfl
    have he : V_thumb_bits (op, rd, rn, rm, ra, imm, cond, w, ()) = codeV op rd rn rm ra imm cond w := by unfold V_thumb_bits PO.getO; rw [hv]; rfl
    have hl := code_long op rd rn rm ra imm cond w h
    obtain ⟨hr, hs⟩ := same_bits op rd rn rm ra imm cond w h
    have h7 := res7 op rd rn rm ra imm cond w (V_hauberkref02_Bits (op, w)) hr
    have e1 : (T_thumb_Encode (op, rd, rn, rm, ra, imm, cond, w, ())).val = (bif isLong op w then some (V_thumb_half (codeV op rd rn rm ra imm cond w).1 ++ V_thumb_half (codeV op rd rn rm ra imm cond w).2.1, 0, ()) else some (V_thumb_half (codeV op rd rn rm ra imm cond w).1, 0, ())) := by
      unfold T_thumb_Encode
      dsimp only [PO.val]
      rw [hc, hg, he, hl]
      rfl
    have e2 : (T_hauberkref02_Encode (op, rd, rn, rm, ra, imm, cond, w, ())).val = (LoopN.res L_hauberkref02_Encode_7 ((), V_hauberkref02_Bits (op, w), [], 0) (op, rd, rn, rm, ra, imm, cond, w, ())).bind fun p0 => some (p0.2.1, 0, ()) := by
      unfold T_hauberkref02_Encode
      dsimp only [PO.val]
      rw [check_ok, ← check_same, hc]
      dsimp only [cond_true, cond_false]
      cases LoopN.res L_hauberkref02_Encode_7 ((), V_hauberkref02_Bits (op, w), [], 0) (op, rd, rn, rm, ra, imm, cond, w, ()) <;> rfl
    rw [e1, e2]
    rcases hs with ⟨s1, s2, s3⟩ | ⟨s1, s2, s3, s4⟩
    · rw [s1, s3, half_by2 (rowV_lt _ _ _ _ _ _ _ s2 hr), h7.1 s2]
      exact ⟨_, rfl, rfl⟩
    · have t1 : ((V_hauberkref02_Bits (op, w)).take 16).length = 16 := by rw [List.length_take]; omega
      have t2 : ((V_hauberkref02_Bits (op, w)).drop 16).length = 16 := by rw [List.length_drop]; omega
      have r1 : rowOf ((V_hauberkref02_Bits (op, w)).take 16) = true := List.all_eq_true.2 fun c hc => List.all_eq_true.1 hr c (List.mem_of_mem_take hc)
      have r2 : rowOf ((V_hauberkref02_Bits (op, w)).drop 16) = true := List.all_eq_true.2 fun c hc => List.all_eq_true.1 hr c (List.mem_of_mem_drop hc)
      rw [s1, s3, s4, half_by2 (rowV_lt _ _ _ _ _ _ _ t1 r1), half_by2 (rowV_lt _ _ _ _ _ _ _ t2 r2), h7.2 s2]
      exact ⟨_, rfl, rfl⟩
  · refine ⟨([], V_thumb_Check (op, rd, rn, rm, ra, imm, cond, w, ()), ()), ?_, ?_⟩
    · unfold T_thumb_Encode
      dsimp only [PO.val]
      rw [hc]
      rfl
    · unfold T_hauberkref02_Encode
      dsimp only [PO.val]
      rw [check_ok, ← check_same, hc]
      rfl
end Go.Av
end
/-! Layer 4: items laid out, and as bytes. -/
section
namespace Go.Av
open Go

/-- The assembler: its items, base, labels (box m) and wide branches (box w). -/
abbrev shAsm (m w : Nat) : Sh := .pair (.ty (.sl tItem)) (.pair (.ty (.int .i64)) (.pair (.mp m) (.pair (.win w .bool) (.ty .unit))))

/-- asm.isWide -/
abbrev A_asm_isWide : List Ty := [(.sl .bool), (.int .i64)]
abbrev S_asm_isWide : Sh := Sh.ty Ty.bool
def T_asm_isWide (x : dens A_asm_isWide) : PO (Sh.den S_asm_isWide) :=
  (.ite (bif decide (x.2 < lenI x.1) then inRange x.2 (List.length x.1) else true)
   (.ret (decide (x.2 < lenI x.1) && List.getD x.1 (Int.toNat x.2) (Ty.dflt Ty.bool)))
   .fail)
def G_asm_isWide (x : dens A_asm_isWide) : Bool := (T_asm_isWide x).val.isSome
def V_asm_isWide (x : dens A_asm_isWide) : Sh.den S_asm_isWide := (T_asm_isWide x).getO default
theorem ok_asm_isWide (x : dens A_asm_isWide) (h : G_asm_isWide x = true) : (T_asm_isWide x).val = some (V_asm_isWide x) := PO.getO_ok default h
/-- asm.branch -/
abbrev A_asm_branch : List Ty := [tIns]
abbrev S_asm_branch : Sh := Sh.ty Ty.bool
def T_asm_branch (x : dens A_asm_branch) : PO (Sh.den S_asm_branch) :=
  (.ite (x.1 == 24)
   (.ret (x.2.2.2.2.2.2.1 == 0))
   (.ite (x.1 == 25)
    (.ret (decide (x.2.2.2.2.2.2.1 ≥ 0) && decide (x.2.2.2.2.2.2.1 ≤ 13)))
    (.ret (false))))
def G_asm_branch (_ : dens A_asm_branch) : Bool := true
def V_asm_branch (x : dens A_asm_branch) : Sh.den S_asm_branch := (T_asm_branch x).getO default
theorem ok_asm_branch (x : dens A_asm_branch) (_ : G_asm_branch x = true) : (T_asm_branch x).val = some (V_asm_branch x) := PO.sure_ok default (by simp [T_asm_branch, PO.sure])
/-- asm.item -/
abbrev A_asm_item : List Ty := [tItem]
abbrev S_asm_item : Sh := Sh.ty Ty.bool
def T_asm_item (x : dens A_asm_item) : PO (Sh.den S_asm_item) :=
  (.ite (bif x.1 == 0 then x.1 == 0 else x.1 == 1)
   (.ret (true))
   (.ite (x.1 == 2)
    (.ret (V_asm_branch x.2.2.1))
    (.ret (false))))
def G_asm_item (_ : dens A_asm_item) : Bool := true
def V_asm_item (x : dens A_asm_item) : Sh.den S_asm_item := (T_asm_item x).getO default
theorem ok_asm_item (x : dens A_asm_item) (_ : G_asm_item x = true) : (T_asm_item x).val = some (V_asm_item x) := PO.sure_ok default (by simp [T_asm_item, PO.sure])
def L_asm_Lay_3 : LoopN where
  M := [1, 2, 7, 14, 15, 16]
  T := [8, 9, 17, 18, 19, 20, 21, 22, 23, 24, 25, 26, 27, 28, 29, 30, 31, 32, 33, 34, 35, 36, 37, 38, 39, 40, 41, 42, 43, 44, 45, 46, 47, 48, 49, 50, 51]
  D := [2, 14, 15, 16]
  ss := [.ty (.int .i64), .ty (.sl .bool), .osl 0 (.int .i64), .ty (.sl tItem), .ty (.int .i64), .ty (.int .i64)]
  hs := []
  es := [.exit 0]
  σ := (Ty.den (.int .i64)) × (List (Ty.den (.int .i64))) × (Ty.den (.int .i64))
  x0 := fun x _ => (x.1, x.2.2.1, x.2.2.2.2.2)
  put := fun x _ s => ((s.1, x.2.1, s.2.1, x.2.2.2.1, x.2.2.2.2.1, s.2.2), ())
  fuel := fun x _ => List.length x.2.2.2.1 + 1
  turn := fun x _ s =>
  (.ite (decide (s.2.2 < x.2.2.2.2.1))
   (.ite (inRange s.2.2 (List.length x.2.2.2.1))
    (.ite (Nat.ble ((List.length s.2.1 + List.length [s.1]) * 8) 140737488355328)
     (.ite ((List.getD x.2.2.2.1 (Int.toNat s.2.2) (Ty.dflt tItem)).1 == 0 || bif (List.getD x.2.2.2.1 (Int.toNat s.2.2) (Ty.dflt tItem)).1 == 2 then G_asm_isWide (x.2.1, s.2.2) else true)
      (.ret (.on (bif (List.getD x.2.2.2.1 (Int.toNat s.2.2) (Ty.dflt tItem)).1 == 0 then w64 (s.1 + V_thumb_Size (List.getD x.2.2.2.1 (Int.toNat s.2.2) (Ty.dflt tItem)).2.2.1) else bif (List.getD x.2.2.2.1 (Int.toNat s.2.2) (Ty.dflt tItem)).1 == 2 && V_asm_isWide (x.2.1, s.2.2) then w64 (s.1 + 4) else bif (List.getD x.2.2.2.1 (Int.toNat s.2.2) (Ty.dflt tItem)).1 == 2 then w64 (s.1 + 2) else s.1, s.2.1 ++ [s.1], w64 (s.2.2 + 1))))
      .fail)
     .fail)
    .fail)
   (.ret (.out 0 (s.1, s.2.1, s.2.2))))
/-- asm.Lay -/
abbrev A_asm_Lay : List Ty := [(.sl tItem), (.int .i64), (.sl .bool)]
abbrev S_asm_Lay : Sh := Sh.osl 32 (Ty.int IntKind.i64)
def T_asm_Lay (x : dens A_asm_Lay) : PO (Sh.den S_asm_Lay) :=
  (.ite (roomOk (w64 (lenI x.1 + 1)) 8)
   (.opt (LoopN.res L_asm_Lay_3 (x.2.1, x.2.2, [], x.1, lenI x.1, 0) ()) fun p0 =>
    (.ite (Nat.ble ((List.length p0.2.2.1 + List.length [p0.2.1]) * 8) 140737488355328)
     (.ret (p0.2.2.1 ++ [p0.2.1]))
     .fail))
   .fail)
def G_asm_Lay (x : dens A_asm_Lay) : Bool := (T_asm_Lay x).val.isSome
def V_asm_Lay (x : dens A_asm_Lay) : Sh.den S_asm_Lay := (T_asm_Lay x).getO default
theorem ok_asm_Lay (x : dens A_asm_Lay) (h : G_asm_Lay x = true) : (T_asm_Lay x).val = some (V_asm_Lay x) := PO.getO_ok default h
def L_asm_assembler_great_3 : LoopN where
  M := [0, 3, 12, 13]
  T := [4, 14, 15, 16, 17, 18, 19]
  D := [12, 13]
  ss := [.box 0 0, .win 1 .bool, .ty (.int .i64), .ty (.int .i64)]
  hs := [shAsm 2 3, .rowc .bool, .mapc, .rowc .bool]
  es := [.exit 0]
  σ := (Ty.den (.int .i64)) × (Sh.den (shAsm 2 3)) × (Sh.den (.rowc .bool)) × (Sh.den (.mapc)) × (Sh.den (.rowc .bool))
  x0 := fun x y => (x.2.2.2, y.1, y.2.1, y.2.2.1, y.2.2.2)
  put := fun x _ s => ((x.1, x.2.1, x.2.2.1, s.1), (s.2.1, s.2.2.1, s.2.2.2.1, s.2.2.2.2))
  fuel := fun _ y => List.length y.2.1+1
  turn := fun x _ s =>
  (.ite (decide (s.1 < x.2.2.1))
   (.ite (inRange s.1 x.2.1.2)
    (.ret (.on (w64 (s.1 + 1), s.2.1, List.set s.2.2.1 (nplus x.2.1.1 s.1) true, s.2.2.2.1, s.2.2.2.2)))
    .fail)
   (.ret (.out 0 (s.1, s.2.1, s.2.2.1, s.2.2.2.1, s.2.2.2.2))))
def L_asm_assembler_items_2 : LoopN where
  M := [0, 2, 11, 12, 13]
  T := [4, 14, 15, 16, 17, 18, 19, 20]
  D := [11, 12, 13]
  ss := [.box 0 0, .ty (.int .i64), .ty (.sl tItem), .ty (.int .i64), .ty (.int .i64)]
  hs := [shAsm 1 2, .mapc, .rowc .bool]
  es := [.exit 0, .ret]
  σ := (Ty.den (.int .i64)) × (Ty.den (.int .i64)) × (Sh.den (shAsm 1 2)) × (Sh.den (.mapc)) × (Sh.den (.rowc .bool))
  x0 := fun x y => (x.2.1, x.2.2.2.2, y.1, y.2.1, y.2.2)
  put := fun x _ s => ((x.1, s.1, x.2.2.1, x.2.2.2.1, s.2.1), (s.2.2.1, s.2.2.2.1, s.2.2.2.2))
  fuel := fun _ y => List.length y.1.1+1
  turn := fun x _ s =>
  (.ite (decide (s.2.1 < x.2.2.2.1))
   (.ite (inRange s.2.1 (List.length x.2.2.1))
    (.ite (!V_asm_item (List.getD x.2.2.1 (Int.toNat s.2.1) (Ty.dflt tItem)))
     (.ret (.out 1 (2, s.2.1, s.2.2.1, s.2.2.2.1, s.2.2.2.2)))
     (.ret (.on (s.1, w64 (s.2.1 + 1), s.2.2.1, s.2.2.2.1, s.2.2.2.2))))
    .fail)
   (.ret (.out 0 (s.1, s.2.1, s.2.2.1, s.2.2.2.1, s.2.2.2.2))))
def L_asm_assembler_items_8 : LoopN where
  M := [2, 24, 25, 26]
  T := [6, 7, 27, 28, 29, 30, 31, 32, 33, 34, 35, 36, 37, 38, 39]
  D := [24, 25, 26]
  ss := [.ty (.int .i64), .ty (.sl tItem), .ty (.int .i64), .ty (.int .i64)]
  hs := []
  es := [.exit 2, .ret]
  σ := (Ty.den (.int .i64)) × (Ty.den (.int .i64))
  x0 := fun x _ => (x.1, x.2.2.2)
  put := fun x _ s => ((s.1, x.2.1, x.2.2.1, s.2), ())
  fuel := fun x _ => List.length x.2.1+1
  turn := fun x _ s =>
  (.ite (decide (s.2 < x.2.2.1))
   (.ite (inRange s.2 (List.length x.2.1))
    (.ite ((List.getD x.2.1 (Int.toNat s.2) (Ty.dflt tItem)).1 != 0)
     (.ret (.on (s.1, w64 (s.2 + 1))))
     (.ite (V_thumb_Check (List.getD x.2.1 (Int.toNat s.2) (Ty.dflt tItem)).2.2.1 != 0)
      (.ret (.out 1 (V_thumb_Check (List.getD x.2.1 (Int.toNat s.2) (Ty.dflt tItem)).2.2.1, s.2)))
      (.ret (.on (s.1, w64 (s.2 + 1))))))
    .fail)
   (.ret (.out 0 (s.1, s.2))))
def L_asm_assembler_names_2 : LoopN where
  M := [0, 2, 14, 15, 16]
  T := [3, 4, 5, 6, 17, 18, 19, 20, 21, 22, 23, 24, 25, 26, 27, 28, 29, 30, 31, 32, 33, 34, 35, 36, 37, 38, 39, 40, 41, 42]
  D := [14, 15, 16]
  ss := [.box 0 0, .ty (.int .i64), .ty (.sl tItem), .ty (.int .i64), .ty (.int .i64)]
  hs := [shAsm 1 2, .mapc, .rowc .bool]
  es := [.exit 0, .ret]
  σ := (Ty.den (.int .i64)) × (Ty.den (.int .i64)) × (Sh.den (shAsm 1 2)) × (Sh.den (.mapc)) × (Sh.den (.rowc .bool))
  x0 := fun x y => (x.2.1, x.2.2.2.2, y.1, y.2.1, y.2.2)
  put := fun x _ s => ((x.1, s.1, x.2.2.1, x.2.2.2.1, s.2.1), (s.2.2.1, s.2.2.2.1, s.2.2.2.2))
  fuel := fun _ y => List.length y.1.1+1
  turn := fun x _ s =>
  (.ite (decide (s.2.1 < x.2.2.2.1))
   (.ite (inRange s.2.1 (List.length x.2.2.1))
    (.ite ((List.getD x.2.2.1 (Int.toNat s.2.1) (Ty.dflt tItem)).1 != 1)
     (.ret (.on (s.1, w64 (s.2.1 + 1), s.2.2.1, s.2.2.2.1, s.2.2.2.2)))
     (.ite (mhas s.2.2.2.1 (List.getD x.2.2.1 (Int.toNat s.2.1) (Ty.dflt tItem)).2.1)
      (.ret (.out 1 (13, s.2.1, s.2.2.1, s.2.2.2.1, s.2.2.2.2)))
      (.ret (.on (s.1, w64 (s.2.1 + 1), s.2.2.1, mput s.2.2.2.1 (List.getD x.2.2.1 (Int.toNat s.2.1) (Ty.dflt tItem)).2.1 s.2.1, s.2.2.2.2)))))
    .fail)
   (.ret (.out 0 (s.1, s.2.1, s.2.2.1, s.2.2.2.1, s.2.2.2.2))))
def L_asm_assembler_names_11 : LoopN where
  M := [0, 2, 46, 47, 48]
  T := [8, 9, 10, 49, 50, 51, 52, 53, 54, 55, 56, 57, 58, 59, 60, 61, 62, 63, 64, 65, 66, 67, 68, 69]
  D := [0, 46, 47, 48]
  ss := [.box 0 0, .ty (.int .i64), .ty (.sl tItem), .ty (.int .i64), .ty (.int .i64)]
  hs := [shAsm 1 2, .mapc, .rowc .bool]
  es := [.exit 2, .ret]
  σ := (Ty.den (.int .i64)) × (Ty.den (.int .i64)) × (Sh.den (shAsm 1 2)) × (Sh.den (.mapc)) × (Sh.den (.rowc .bool))
  x0 := fun x y => (x.2.1, x.2.2.2.2, y.1, y.2.1, y.2.2)
  put := fun x _ s => ((x.1, s.1, x.2.2.1, x.2.2.2.1, s.2.1), (s.2.2.1, s.2.2.2.1, s.2.2.2.2))
  fuel := fun _ y => List.length y.1.1+1
  turn := fun x _ s =>
  (.ite (decide (s.2.1 < x.2.2.2.1))
   (.ite (inRange s.2.1 (List.length x.2.2.1))
    (.ite ((List.getD x.2.2.1 (Int.toNat s.2.1) (Ty.dflt tItem)).1 == 2 && !mhas s.2.2.2.1 (List.getD x.2.2.1 (Int.toNat s.2.1) (Ty.dflt tItem)).2.1)
     (.ret (.out 1 (12, s.2.1, s.2.2.1, s.2.2.2.1, s.2.2.2.2)))
     (.ret (.on (s.1, w64 (s.2.1 + 1), s.2.2.1, s.2.2.2.1, s.2.2.2.2))))
    .fail)
   (.ret (.out 0 (s.1, s.2.1, s.2.2.1, s.2.2.2.1, s.2.2.2.2))))
end Go.Av
end
/-! Layer 4: items laid out and as bytes, as the document has it. -/
section
namespace Go.Av
open Go

/-- hauberkref04.size -/
abbrev A_hauberkref04_size : List Ty := [(.sl tItem), (.int .i64), (.sl .bool)]
abbrev S_hauberkref04_size : Sh := Sh.ty (Ty.int IntKind.i64)
def T_hauberkref04_size (x : dens A_hauberkref04_size) : PO (Sh.den S_hauberkref04_size) :=
  (.ite (inRange x.2.1 (List.length x.1))
   (.ite ((List.getD x.1 (Int.toNat x.2.1) (Ty.dflt tItem)).1 == 0)
    (.ite (inRange x.2.1 (List.length x.1) && true)
     (.ret (V_hauberkref02_Size (List.getD x.1 (Int.toNat x.2.1) (Ty.dflt tItem)).2.2.1))
     .fail)
    (.ite ((List.getD x.1 (Int.toNat x.2.1) (Ty.dflt tItem)).1 == 2)
     (.ite (bif decide (x.2.1 < lenI x.2.2) then inRange x.2.1 (List.length x.2.2) else true)
      (.ite (decide (x.2.1 < lenI x.2.2) && List.getD x.2.2 (Int.toNat x.2.1) (Ty.dflt Ty.bool))
       (.ret (4))
       (.ret (2)))
      .fail)
     (.ret (0))))
   .fail)
def G_hauberkref04_size (x : dens A_hauberkref04_size) : Bool := (T_hauberkref04_size x).val.isSome
def V_hauberkref04_size (x : dens A_hauberkref04_size) : Sh.den S_hauberkref04_size := (T_hauberkref04_size x).getO default
theorem ok_hauberkref04_size (x : dens A_hauberkref04_size) (h : G_hauberkref04_size x = true) : (T_hauberkref04_size x).val = some (V_hauberkref04_size x) := PO.getO_ok default h
def L_hauberkref04_Lay_4 : LoopN where
  M := [0, 2, 7, 8, 9]
  T := [11, 12, 13, 14, 15, 16, 17, 18, 19, 20, 21, 22, 23, 24, 25, 26]
  D := [0, 2, 9]
  ss := [.ty (.sl tItem), .ty (.sl .bool), .osl 0 (.int .i64), .ty (.int .i64), .ty (.int .i64)]
  hs := []
  es := [.exit 0]
  σ := (List (Ty.den (.int .i64))) × (Ty.den (.int .i64)) × (Ty.den (.int .i64))
  x0 := fun x _ => (x.2.2.1, x.2.2.2.1, x.2.2.2.2)
  put := fun x _ s => ((x.1, x.2.1, s.1, s.2.1, s.2.2), ())
  fuel := fun x _ => List.length x.1+1
  turn := fun x _ s =>
  (.ite (decide (s.2.2 < lenI x.1))
   (.ite (Nat.ble ((List.length s.1 + List.length [s.2.1]) * 8) 140737488355328)
    (.ite (G_hauberkref04_size (x.1, s.2.2, x.2.1))
     (.ret (.on (s.1 ++ [s.2.1], w64 (s.2.1 + V_hauberkref04_size (x.1, s.2.2, x.2.1)), w64 (s.2.2 + 1))))
     .fail)
    .fail)
   (.ret (.out 0 (s.1, s.2.1, s.2.2))))
/-- hauberkref04.Lay -/
abbrev A_hauberkref04_Lay : List Ty := [(.sl tItem), (.int .i64), (.sl .bool)]
abbrev S_hauberkref04_Lay : Sh := Sh.osl 32 (Ty.int IntKind.i64)
def T_hauberkref04_Lay (x : dens A_hauberkref04_Lay) : PO (Sh.den S_hauberkref04_Lay) :=
  (.opt (LoopN.res L_hauberkref04_Lay_4 (x.1, x.2.2, [], x.2.1, 0) ()) fun p0 =>
   (.ite (Nat.ble ((List.length p0.2.1 + List.length [p0.2.2.1]) * 8) 140737488355328)
    (.ret (p0.2.1 ++ [p0.2.2.1]))
    .fail))
def G_hauberkref04_Lay (x : dens A_hauberkref04_Lay) : Bool := (T_hauberkref04_Lay x).val.isSome
def V_hauberkref04_Lay (x : dens A_hauberkref04_Lay) : Sh.den S_hauberkref04_Lay := (T_hauberkref04_Lay x).getO default
theorem ok_hauberkref04_Lay (x : dens A_hauberkref04_Lay) (h : G_hauberkref04_Lay x = true) : (T_hauberkref04_Lay x).val = some (V_hauberkref04_Lay x) := PO.getO_ok default h
def L_hauberkref04_find_2 : LoopN where
  M := [0, 1, 4, 5]
  T := [6, 7, 8, 9, 10, 11, 12, 13, 14, 15, 16, 17, 18, 19, 20, 21, 22, 23, 24, 25, 26, 27]
  D := [0, 1, 5]
  ss := [.ty (.sl tItem), .ty (.int .i64), .ty (.int .i64), .ty (.int .i64)]
  hs := []
  es := [.exit 0, .ret]
  σ := (Ty.den (.int .i64)) × (Ty.den (.int .i64))
  x0 := fun x _ => (x.2.2.1, x.2.2.2)
  put := fun x _ s => ((x.1, x.2.1, s.1, s.2), ())
  fuel := fun x _ => List.length x.1+1
  turn := fun x _ s =>
  (.ite (decide (s.2 < lenI x.1))
   (.ite (inRange s.2 (List.length x.1) && bif (List.getD x.1 (Int.toNat s.2) (Ty.dflt tItem)).1 == 1 then inRange s.2 (List.length x.1) else true)
    (.ite ((List.getD x.1 (Int.toNat s.2) (Ty.dflt tItem)).1 == 1 && (List.getD x.1 (Int.toNat s.2) (Ty.dflt tItem)).2.1 == x.2.1)
     (.ret (.out 1 (s.2, s.2)))
     (.ret (.on (s.1, w64 (s.2 + 1)))))
    .fail)
   (.ret (.out 0 (s.1, s.2))))
/-- hauberkref04.find -/
abbrev A_hauberkref04_find : List Ty := [(.sl tItem), (.int .i64)]
abbrev S_hauberkref04_find : Sh := Sh.ty (Ty.int IntKind.i64)
def T_hauberkref04_find (x : dens A_hauberkref04_find) : PO (Sh.den S_hauberkref04_find) :=
  (.opt (LoopN.res L_hauberkref04_find_2 (x.1, x.2, 0, 0) ()) fun p0 =>
   (.ite (way p0.1)
    (.ret (-1))
    (.ret (p0.2.1))))
def G_hauberkref04_find (x : dens A_hauberkref04_find) : Bool := (T_hauberkref04_find x).val.isSome
def V_hauberkref04_find (x : dens A_hauberkref04_find) : Sh.den S_hauberkref04_find := (T_hauberkref04_find x).getO default
theorem ok_hauberkref04_find (x : dens A_hauberkref04_find) (h : G_hauberkref04_find x = true) : (T_hauberkref04_find x).val = some (V_hauberkref04_find x) := PO.getO_ok default h
/-- hauberkref04.may -/
abbrev A_hauberkref04_may : List Ty := [tIns]
abbrev S_hauberkref04_may : Sh := Sh.ty Ty.bool
def T_hauberkref04_may (x : dens A_hauberkref04_may) : PO (Sh.den S_hauberkref04_may) :=
  (.ret (bif x.1 == 24 then x.2.2.2.2.2.2.1 == 0 || x.1 == 25 && (decide (x.2.2.2.2.2.2.1 ≥ 0) && decide (x.2.2.2.2.2.2.1 ≤ 13)) else x.1 == 25 && (decide (x.2.2.2.2.2.2.1 ≥ 0) && decide (x.2.2.2.2.2.2.1 ≤ 13))))
def G_hauberkref04_may (_ : dens A_hauberkref04_may) : Bool := true
def V_hauberkref04_may (x : dens A_hauberkref04_may) : Sh.den S_hauberkref04_may := (T_hauberkref04_may x).getO default
theorem ok_hauberkref04_may (x : dens A_hauberkref04_may) (_ : G_hauberkref04_may x = true) : (T_hauberkref04_may x).val = some (V_hauberkref04_may x) := PO.sure_ok default (by simp [T_hauberkref04_may, PO.sure])
/-- hauberkref04.offset -/
abbrev A_hauberkref04_offset : List Ty := [(.sl tItem), (.sl (.int .i64)), (.int .i64)]
abbrev S_hauberkref04_offset : Sh := Sh.ty (Ty.int IntKind.i64)
def T_hauberkref04_offset (x : dens A_hauberkref04_offset) : PO (Sh.den S_hauberkref04_offset) :=
  (.ite (inRange x.2.2 (List.length x.1) && (G_hauberkref04_find (x.1, (List.getD x.1 (Int.toNat x.2.2) (Ty.dflt tItem)).2.1) && (inRange (V_hauberkref04_find (x.1, (List.getD x.1 (Int.toNat x.2.2) (Ty.dflt tItem)).2.1)) (List.length x.2.1) && inRange x.2.2 (List.length x.2.1))))
   (.ret (w64 (w64 (List.getD x.2.1 (Int.toNat (V_hauberkref04_find (x.1, (List.getD x.1 (Int.toNat x.2.2) (Ty.dflt tItem)).2.1))) (Ty.dflt (Ty.int IntKind.i64)) - List.getD x.2.1 (Int.toNat x.2.2) (Ty.dflt (Ty.int IntKind.i64))) - 4)))
   .fail)
def G_hauberkref04_offset (x : dens A_hauberkref04_offset) : Bool := (T_hauberkref04_offset x).val.isSome
def V_hauberkref04_offset (x : dens A_hauberkref04_offset) : Sh.den S_hauberkref04_offset := (T_hauberkref04_offset x).getO default
theorem ok_hauberkref04_offset (x : dens A_hauberkref04_offset) (h : G_hauberkref04_offset x = true) : (T_hauberkref04_offset x).val = some (V_hauberkref04_offset x) := PO.getO_ok default h
def L_hauberkref04_wrong_4 : LoopN where
  M := [0, 4, 5]
  T := [21, 22, 23, 24, 25, 26, 27, 28, 29, 30, 31, 32, 33, 34, 35, 36, 37, 38, 39, 40, 41, 42, 43, 44, 45, 46, 47, 48, 49, 50, 51, 52, 53, 54, 55, 56, 57]
  D := [5]
  ss := [.ty (.sl tItem), .ty (.int .i64), .ty (.int .i64)]
  hs := []
  es := [.exit 0, .ret]
  σ := (Ty.den (.int .i64)) × (Ty.den (.int .i64))
  x0 := fun x _ => (x.2.1, x.2.2)
  put := fun x _ s => ((x.1, s.1, s.2), ())
  fuel := fun x _ => List.length x.1+1
  turn := fun x _ s =>
  (.ite (decide (s.2 < lenI x.1))
   (.ite (inRange s.2 (List.length x.1) && (decide ((List.getD x.1 (Int.toNat s.2) (Ty.dflt tItem)).1 < 0) || inRange s.2 (List.length x.1) && (decide ((List.getD x.1 (Int.toNat s.2) (Ty.dflt tItem)).1 > 2) || inRange s.2 (List.length x.1) && bif (List.getD x.1 (Int.toNat s.2) (Ty.dflt tItem)).1 == 2 then inRange s.2 (List.length x.1) && true else true)))
    (.ite (decide ((List.getD x.1 (Int.toNat s.2) (Ty.dflt tItem)).1 < 0) || (decide ((List.getD x.1 (Int.toNat s.2) (Ty.dflt tItem)).1 > 2) || (List.getD x.1 (Int.toNat s.2) (Ty.dflt tItem)).1 == 2 && !V_hauberkref04_may (List.getD x.1 (Int.toNat s.2) (Ty.dflt tItem)).2.2.1))
     (.ret (.out 1 (2, s.2)))
     (.ret (.on (s.1, w64 (s.2 + 1)))))
    .fail)
   (.ret (.out 0 (s.1, s.2))))
def L_hauberkref04_wrong_9 : LoopN where
  M := [0, 4, 6]
  T := [58, 59, 60, 61, 62, 63, 64, 65, 66, 67, 68, 69, 70, 71, 72, 73, 74, 75, 76, 77, 78, 79, 80, 81, 82, 83, 84]
  D := [6]
  ss := [.ty (.sl tItem), .ty (.int .i64), .ty (.int .i64)]
  hs := []
  es := [.exit 2, .ret]
  σ := (Ty.den (.int .i64)) × (Ty.den (.int .i64))
  x0 := fun x _ => (x.2.1, x.2.2)
  put := fun x _ s => ((x.1, s.1, s.2), ())
  fuel := fun x _ => List.length x.1+1
  turn := fun x _ s =>
  (.ite (decide (s.2 < lenI x.1))
   (.ite (inRange s.2 (List.length x.1) && bif (List.getD x.1 (Int.toNat s.2) (Ty.dflt tItem)).1 == 0 then inRange s.2 (List.length x.1) && G_hauberkref02_Check (List.getD x.1 (Int.toNat s.2) (Ty.dflt tItem)).2.2.1 else true)
    (.ite ((List.getD x.1 (Int.toNat s.2) (Ty.dflt tItem)).1 == 0 && V_hauberkref02_Check (List.getD x.1 (Int.toNat s.2) (Ty.dflt tItem)).2.2.1 != 0)
     (.ite (inRange s.2 (List.length x.1) && G_hauberkref02_Check (List.getD x.1 (Int.toNat s.2) (Ty.dflt tItem)).2.2.1)
      (.ret (.out 1 (V_hauberkref02_Check (List.getD x.1 (Int.toNat s.2) (Ty.dflt tItem)).2.2.1, s.2)))
      .fail)
     (.ret (.on (s.1, w64 (s.2 + 1)))))
    .fail)
   (.ret (.out 0 (s.1, s.2))))
def L_hauberkref04_wrong_14 : LoopN where
  M := [0, 4, 7]
  T := [85, 86, 87, 88, 89, 90, 91, 92, 93, 94, 95, 96, 97, 98, 99, 100, 101, 102, 103, 104, 105, 106, 107]
  D := [7]
  ss := [.ty (.sl tItem), .ty (.int .i64), .ty (.int .i64)]
  hs := []
  es := [.exit 4, .ret]
  σ := (Ty.den (.int .i64)) × (Ty.den (.int .i64))
  x0 := fun x _ => (x.2.1, x.2.2)
  put := fun x _ s => ((x.1, s.1, s.2), ())
  fuel := fun x _ => List.length x.1+1
  turn := fun x _ s =>
  (.ite (decide (s.2 < lenI x.1))
   (.ite (inRange s.2 (List.length x.1) && bif (List.getD x.1 (Int.toNat s.2) (Ty.dflt tItem)).1 == 1 then inRange s.2 (List.length x.1) && G_hauberkref04_find (x.1, (List.getD x.1 (Int.toNat s.2) (Ty.dflt tItem)).2.1) else true)
    (.ite ((List.getD x.1 (Int.toNat s.2) (Ty.dflt tItem)).1 == 1 && V_hauberkref04_find (x.1, (List.getD x.1 (Int.toNat s.2) (Ty.dflt tItem)).2.1) != s.2)
     (.ret (.out 1 (13, s.2)))
     (.ret (.on (s.1, w64 (s.2 + 1)))))
    .fail)
   (.ret (.out 0 (s.1, s.2))))
def L_hauberkref04_wrong_20 : LoopN where
  M := [0, 4, 8, 9]
  T := [108, 109, 110, 111, 112, 113, 114, 115, 116, 117, 118, 119, 120, 121, 122, 123, 124, 125, 126, 127, 128, 129, 130, 131, 132, 133, 134]
  D := [0, 9]
  ss := [.ty (.sl tItem), .ty (.int .i64), .ty (.int .i64), .ty (.int .i64)]
  hs := []
  es := [.exit 6, .ret]
  σ := (Ty.den (.int .i64)) × (Ty.den (.int .i64)) × (Ty.den (.int .i64))
  x0 := fun x _ => (x.2.1, x.2.2.1, x.2.2.2)
  put := fun x _ s => ((x.1, s.1, s.2.1, s.2.2), ())
  fuel := fun x _ => List.length x.1+1
  turn := fun x _ s =>
  (.ite (decide (s.2.2 < lenI x.1))
   (.ite (inRange s.2.2 (List.length x.1))
    (.ite ((List.getD x.1 (Int.toNat s.2.2) (Ty.dflt tItem)).1 == 2)
     (.ite (inRange s.2.2 (List.length x.1) && G_hauberkref04_find (x.1, (List.getD x.1 (Int.toNat s.2.2) (Ty.dflt tItem)).2.1))
      (.ite (decide (V_hauberkref04_find (x.1, (List.getD x.1 (Int.toNat s.2.2) (Ty.dflt tItem)).2.1) < 0))
       (.ret (.out 1 (12, w64 (s.2.1 + 4), s.2.2)))
       (.ret (.on (s.1, w64 (s.2.1 + 4), w64 (s.2.2 + 1)))))
      .fail)
     (.ite (G_hauberkref04_size (x.1, s.2.2, []))
      (.ret (.on (s.1, w64 (s.2.1 + V_hauberkref04_size (x.1, s.2.2, [])), w64 (s.2.2 + 1))))
      .fail))
    .fail)
   (.ret (.out 0 (s.1, s.2.1, s.2.2))))
/-- hauberkref04.wrong -/
abbrev A_hauberkref04_wrong : List Ty := [(.sl tItem), (.int .i64)]
abbrev S_hauberkref04_wrong : Sh := Sh.ty (Ty.int IntKind.i64)
def T_hauberkref04_wrong (x : dens A_hauberkref04_wrong) : PO (Sh.den S_hauberkref04_wrong) :=
  (.ite (decide (x.2 < 0) || (decide (x.2 > 262144) || Int.tmod x.2 2 != 0))
   (.ret (2))
   (.opt (LoopN.res L_hauberkref04_wrong_4 (x.1, 0, 0) ()) fun p0 =>
    (.ite (way p0.1)
     (.opt (LoopN.res L_hauberkref04_wrong_9 (x.1, p0.2.1, 0) ()) fun p1 =>
      (.ite (way p1.1)
       (.opt (LoopN.res L_hauberkref04_wrong_14 (x.1, p1.2.1, 0) ()) fun p2 =>
        (.ite (way p2.1)
         (.opt (LoopN.res L_hauberkref04_wrong_20 (x.1, p2.2.1, 0, 0) ()) fun p3 =>
          (.ite (way p3.1)
           (.ite (decide (p3.2.2.1 > 262144))
            (.ret (5))
            (.ret (0)))
           (.ret (p3.2.1))))
         (.ret (p2.2.1))))
       (.ret (p1.2.1))))
     (.ret (p0.2.1)))))
def G_hauberkref04_wrong (x : dens A_hauberkref04_wrong) : Bool := (T_hauberkref04_wrong x).val.isSome
def V_hauberkref04_wrong (x : dens A_hauberkref04_wrong) : Sh.den S_hauberkref04_wrong := (T_hauberkref04_wrong x).getO default
theorem ok_hauberkref04_wrong (x : dens A_hauberkref04_wrong) (h : G_hauberkref04_wrong x = true) : (T_hauberkref04_wrong x).val = some (V_hauberkref04_wrong x) := PO.getO_ok default h
def L_hauberkref04_Wide_7 : LoopN where
  M := [0, 1, 5, 6, 7, 8]
  T := [9, 10, 11, 20, 21, 22, 23, 24, 25, 26, 27, 28, 29, 30, 31, 32, 33, 34, 35, 36, 37, 38, 39, 40, 41, 42, 43, 44, 45, 46, 47, 48, 49, 50, 51, 52, 53, 54, 55, 56, 57, 58, 59, 60, 61, 62]
  D := [7, 8]
  ss := [.ty (.sl tItem), .ty (.int .i64), .win 0 .bool, .ty .bool, .ty (.sl (.int .i64)), .ty (.int .i64)]
  hs := [.rowc .bool]
  es := [.exit 2]
  σ := (Ty.den .bool) × (Ty.den (.int .i64)) × (Sh.den (.rowc .bool))
  x0 := fun x y => (x.2.2.2.1, x.2.2.2.2.2, y)
  put := fun x _ s => ((x.1, x.2.1, x.2.2.1, s.1, x.2.2.2.2.1, s.2.1), s.2.2)
  fuel := fun x _ => List.length x.1+1
  turn := fun x _ s =>
  (.ite (decide (s.2.1 < lenI x.1))
   (.ite (inRange s.2.1 (List.length x.1) && ((List.getD x.1 (Int.toNat s.2.1) (Ty.dflt tItem)).1 != 2 || inRange s.2.1 x.2.2.1.2))
    (.ite ((List.getD x.1 (Int.toNat s.2.1) (Ty.dflt tItem)).1 != 2 || List.getD s.2.2 (nplus x.2.2.1.1 s.2.1) (Ty.dflt Ty.bool))
     (.ret (.on (s.1, w64 (s.2.1 + 1), s.2.2)))
     (.ite (inRange s.2.1 (List.length x.1) && true)
      (.ite (G_hauberkref04_offset (x.1, x.2.2.2.2.1, s.2.1))
       (.ite (decide (V_hauberkref04_offset (x.1, x.2.2.2.2.1, s.2.1) < (V_hauberkref02_Reach ((List.getD x.1 (Int.toNat s.2.1) (Ty.dflt tItem)).2.2.1.1, false)).1) || decide (V_hauberkref04_offset (x.1, x.2.2.2.2.1, s.2.1) > (V_hauberkref02_Reach ((List.getD x.1 (Int.toNat s.2.1) (Ty.dflt tItem)).2.2.1.1, false)).2.1))
        (.ite (inRange s.2.1 x.2.2.1.2)
         (.ret (.on (true, w64 (s.2.1 + 1), List.set s.2.2 (nplus x.2.2.1.1 s.2.1) true)))
         .fail)
        (.ret (.on (s.1, w64 (s.2.1 + 1), s.2.2))))
       .fail)
      .fail))
    .fail)
   (.ret (.out 0 (s.1, s.2.1, s.2.2))))
def L_hauberkref04_Wide_3 : LoopN where
  M := [0, 1, 5, 6]
  T := [7, 8, 9, 10, 11, 15, 16, 17, 18, 19, 20, 21, 22, 23, 24, 25, 26, 27, 28, 29, 30, 31, 32, 33, 34, 35, 36, 37, 38, 39, 40, 41, 42, 43, 44, 45, 46, 47, 48, 49, 50, 51, 52, 53, 54, 55, 56, 57, 58, 59, 60, 61, 62]
  D := [0, 1, 6]
  ss := [.ty (.sl tItem), .ty (.int .i64), .win 0 .bool, .ty .bool]
  hs := [.rowc .bool]
  es := [.exit 0]
  σ := (Ty.den .bool) × (Sh.den (.rowc .bool))
  x0 := fun x y => (x.2.2.2, y)
  put := fun x _ s => ((x.1, x.2.1, x.2.2.1, s.1), s.2)
  fuel := fun x _ => List.length x.1+2
  turn := fun x _ s =>
  (.ite (s.1)
   (.ite (G_hauberkref04_Lay (x.1, x.2.1, shown s.2 x.2.2.1))
    (.opt (LoopN.res L_hauberkref04_Wide_7 (x.1, x.2.1, x.2.2.1, false, V_hauberkref04_Lay (x.1, x.2.1, shown s.2 x.2.2.1), 0) s.2) fun p0 =>
     (.ret (.on (p0.2.1, p0.2.2.2))))
    .fail)
   (.ret (.out 0 (s.1, s.2))))
/-- hauberkref04.Wide -/
abbrev SS_hauberkref04_Wide : List Sh := [.ty (.sl tItem), .ty (.int .i64)]
abbrev HS_hauberkref04_Wide : List Sh := []
abbrev S_hauberkref04_Wide : Sh := Sh.win 0 Ty.bool
abbrev HT_hauberkref04_Wide : List Sh := [Sh.rowc Ty.bool]
def T_hauberkref04_Wide (x : shDens SS_hauberkref04_Wide) (_ : shDens HS_hauberkref04_Wide) : PO (Sh.den S_hauberkref04_Wide × shDens HT_hauberkref04_Wide) :=
  (.ite (roomOk (lenI x.1) 1)
   (.opt (LoopN.res L_hauberkref04_Wide_3 (x.1, x.2, (0, nspan 0 (lenI x.1)), true) (zeros (lenI x.1) false)) fun p0 =>
    (.ret ((0, nspan 0 (lenI x.1)), p0.2.2)))
   .fail)
def G_hauberkref04_Wide (x : shDens SS_hauberkref04_Wide) (y : shDens HS_hauberkref04_Wide) : Bool := (T_hauberkref04_Wide x y).val.isSome
def V_hauberkref04_Wide (x : shDens SS_hauberkref04_Wide) (y : shDens HS_hauberkref04_Wide) : Sh.den S_hauberkref04_Wide × shDens HT_hauberkref04_Wide := (T_hauberkref04_Wide x y).getO default
theorem ok_hauberkref04_Wide (x : shDens SS_hauberkref04_Wide) (y : shDens HS_hauberkref04_Wide) (h : G_hauberkref04_Wide x y = true) : (T_hauberkref04_Wide x y).val = some (V_hauberkref04_Wide x y) := PO.getO_ok default h
def L_hauberkref04_Assemble_9 : LoopN where
  M := [0, 8, 9, 10, 11, 12]
  T := [13, 14, 15, 16, 30, 31, 32, 33, 34, 35, 36, 37, 38, 39, 40, 41, 42, 43, 44, 45, 46, 47, 48, 49, 50, 51, 52, 53, 54, 55, 56, 57, 58, 59, 60, 61, 62, 63, 64, 65, 66, 67, 68, 69, 70, 71, 72, 73, 74, 75, 76, 77, 78, 79, 80, 81, 82, 83, 84, 85, 86, 87, 88, 89, 90, 91, 92, 93, 94, 95, 96, 97]
  D := [0, 8, 9, 12]
  ss := [.ty (.sl tItem), .win 0 .bool, .osl 0 (.int .i64), .ty .str, .osl 1 tPlace, .ty (.int .i64)]
  hs := [.rowc .bool]
  es := [.exit 0]
  σ := (Ty.den .str) × (Sh.den (.osl 1 tPlace)) × (Ty.den (.int .i64)) × (Sh.den (.rowc .bool))
  x0 := fun x y => (x.2.2.2.1, x.2.2.2.2.1, x.2.2.2.2.2, y)
  put := fun x _ s => ((x.1, x.2.1, x.2.2.1, s.1, s.2.1, s.2.2.1), s.2.2.2)
  fuel := fun x _ => List.length x.1+1
  turn := fun x _ s =>
  (.ite (decide (s.2.2.1 < lenI x.1))
   (.ite (inRange s.2.2.1 (List.length x.1))
    (.ite ((List.getD x.1 (Int.toNat s.2.2.1) (Ty.dflt tItem)).1 == 1)
     (.ite (inRange s.2.2.1 (List.length x.1))
      (.ite (inRange s.2.2.1 (List.length x.2.2.1))
       (.ite (Nat.ble ((List.length s.2.1 + List.length [((List.getD x.1 (Int.toNat s.2.2.1) (Ty.dflt tItem)).2.1, List.getD x.2.2.1 (Int.toNat s.2.2.1) (Ty.dflt (Ty.int IntKind.i64)), ())]) * 16) 140737488355328)
        (.ret (.on (s.1, s.2.1 ++ [((List.getD x.1 (Int.toNat s.2.2.1) (Ty.dflt tItem)).2.1, List.getD x.2.2.1 (Int.toNat s.2.2.1) (Ty.dflt (Ty.int IntKind.i64)), ())], w64 (s.2.2.1 + 1), s.2.2.2)))
        .fail)
       .fail)
      .fail)
     (.ite (bif (List.getD x.1 (Int.toNat s.2.2.1) (Ty.dflt tItem)).1 == 0 then inRange s.2.2.1 (List.length x.1) && G_hauberkref02_Encode (List.getD x.1 (Int.toNat s.2.2.1) (Ty.dflt tItem)).2.2.1 && Nat.ble (List.length s.1 + List.length (V_hauberkref02_Encode (List.getD x.1 (Int.toNat s.2.2.1) (Ty.dflt tItem)).2.2.1).1) 9223372036854775807 else inRange s.2.2.1 (List.length x.1) && (inRange s.2.2.1 (List.length x.1) && (G_hauberkref04_offset (x.1, x.2.2.1, s.2.2.1) && (inRange s.2.2.1 x.2.1.2 && G_hauberkref02_Encode ((List.getD x.1 (Int.toNat s.2.2.1) (Ty.dflt tItem)).2.2.1.1, 0, 0, 0, 0, V_hauberkref04_offset (x.1, x.2.2.1, s.2.2.1), (List.getD x.1 (Int.toNat s.2.2.1) (Ty.dflt tItem)).2.2.1.2.2.2.2.2.2.1, List.getD s.2.2.2 (nplus x.2.1.1 s.2.2.1) (Ty.dflt Ty.bool), ())))) && Nat.ble (List.length s.1 + List.length (V_hauberkref02_Encode ((List.getD x.1 (Int.toNat s.2.2.1) (Ty.dflt tItem)).2.2.1.1, 0, 0, 0, 0, V_hauberkref04_offset (x.1, x.2.2.1, s.2.2.1), (List.getD x.1 (Int.toNat s.2.2.1) (Ty.dflt tItem)).2.2.1.2.2.2.2.2.2.1, List.getD s.2.2.2 (nplus x.2.1.1 s.2.2.1) (Ty.dflt Ty.bool), ())).1) 9223372036854775807)
      (.ret (.on (bif (List.getD x.1 (Int.toNat s.2.2.1) (Ty.dflt tItem)).1 == 0 then s.1 ++ (V_hauberkref02_Encode (List.getD x.1 (Int.toNat s.2.2.1) (Ty.dflt tItem)).2.2.1).1 else s.1 ++ (V_hauberkref02_Encode ((List.getD x.1 (Int.toNat s.2.2.1) (Ty.dflt tItem)).2.2.1.1, 0, 0, 0, 0, V_hauberkref04_offset (x.1, x.2.2.1, s.2.2.1), (List.getD x.1 (Int.toNat s.2.2.1) (Ty.dflt tItem)).2.2.1.2.2.2.2.2.2.1, List.getD s.2.2.2 (nplus x.2.1.1 s.2.2.1) (Ty.dflt Ty.bool), ())).1, s.2.1, w64 (s.2.2.1 + 1), s.2.2.2)))
      .fail))
    .fail)
   (.ret (.out 0 (s.1, s.2.1, s.2.2.1, s.2.2.2))))
/-- hauberkref04.Assemble -/
abbrev A_hauberkref04_Assemble : List Ty := [(.sl tItem), (.int .i64)]
abbrev S_hauberkref04_Assemble : Sh := Sh.tup (Sh.pair (Sh.ty Ty.str) (Sh.pair (Sh.osl 32 tPlace) (Sh.pair (Sh.ty (Ty.int IntKind.i64)) (Sh.ty Ty.unit))))
def T_hauberkref04_Assemble (x : dens A_hauberkref04_Assemble) : PO (Sh.den S_hauberkref04_Assemble) :=
  (.ite (G_hauberkref04_wrong x)
   (.ite (V_hauberkref04_wrong x != 0)
    (.ret (([], [], V_hauberkref04_wrong x, ())))
    (.ite (G_hauberkref04_Wide x ())
     (.ite (G_hauberkref04_Lay (x.1, x.2, shown (V_hauberkref04_Wide x ()).2 (V_hauberkref04_Wide x ()).1))
      (.opt (LoopN.res L_hauberkref04_Assemble_9 (x.1, (V_hauberkref04_Wide x ()).1, V_hauberkref04_Lay (x.1, x.2, shown (V_hauberkref04_Wide x ()).2 (V_hauberkref04_Wide x ()).1), [], [], 0) (V_hauberkref04_Wide x ()).2) fun p0 =>
       (.ret ((p0.2.1, p0.2.2.1, 0, ()))))
      .fail)
     .fail))
   .fail)
def G_hauberkref04_Assemble (x : dens A_hauberkref04_Assemble) : Bool := (T_hauberkref04_Assemble x).val.isSome
def V_hauberkref04_Assemble (x : dens A_hauberkref04_Assemble) : Sh.den S_hauberkref04_Assemble := (T_hauberkref04_Assemble x).getO default
theorem ok_hauberkref04_Assemble (x : dens A_hauberkref04_Assemble) (h : G_hauberkref04_Assemble x = true) : (T_hauberkref04_Assemble x).val = some (V_hauberkref04_Assemble x) := PO.getO_ok default h
end Go.Av
end
/-! Layer 4: how far a branch goes, of a snapshot of the assembler: its items and its labels. -/
section
namespace Go.Av
open Go

/-- Items, labels' entries, places, and an item's number. -/
abbrev OffT : Type := List tItem.den × List (Int × Int) × List Int × Int
def G_asm_assembler_offset (x : OffT) : Bool := inRange x.2.2.2 x.1.length && (inRange (mval x.2.1 (x.1.getD x.2.2.2.toNat (Ty.dflt tItem)).2.1) x.2.2.1.length && inRange x.2.2.2 x.2.2.1.length)
def V_asm_assembler_offset (x : OffT) : Int := w64 (w64 (x.2.2.1.getD (mval x.2.1 (x.1.getD x.2.2.2.toNat (Ty.dflt tItem)).2.1).toNat 0 - x.2.2.1.getD x.2.2.2.toNat 0) - 4)
/-- offset, as a function of a snapshot. -/
def snap_asm_assembler_offset : Plain := fun l => match l with
  | [⟨.tup (.tup (.ty .unit)), _⟩, ⟨.ty (.sl e), it⟩, ⟨.mapc, en⟩, ⟨.ty (.sl (.int .i64)), at_⟩, ⟨.ty (.int .i64), i⟩] => (match Ty.dec e tItem with
    | isTrue h => some (G_asm_assembler_offset ((h ▸ it : List tItem.den), en, at_, i), ⟨.ty (.int .i64), V_asm_assembler_offset ((h ▸ it : List tItem.den), en, at_, i)⟩)
    | isFalse _ => none)
  | _ => none
end Go.Av
end
/-! YtehcaooipfgklaaPAsmBld -/
section
namespace Go.Av
open Go

/-- A strings.Builder's content; its bytes are a row of its own. -/
def shBld : Sh := .tyc 61 (.pair (.nbox 0) (.pair (.tsl 5 0) (.ty .unit)))
/-- The same, of whatever numbers. -/
abbrev shBldL (b r : Nat) : Sh := .tyc 61 (.pair (.nbox b) (.pair (.tsl 5 r) (.ty .unit)))
/-- The same when its bytes have been shown as a string. -/
def shBldR : Sh := .tyc 61 (.pair (.nbox 0) (.pair .top (.ty .unit)))
/-- There is room for so many bytes. -/
def G_bytesFit (x : List UInt8) (y : List UInt8) : Bool := Nat.ble (List.length x + List.length y) 140737488355328
def V_bytesJoin (x : List UInt8) (y : List UInt8) : List UInt8 := x ++ y
def body_WriteString : Body := bodyT [.box 0 0, .ty .str] [shBld] .top [shBld] (fun x y => G_bytesFit y.2.1 x.2) (fun x y => ((), y.1, V_bytesJoin y.2.1 x.2, ()))
def body_String : Body := bodyT [.box 0 0] [shBld] (.ty .str) [shBldR] (fun _ _ => true) (fun _ y => (y.2.1, y.1, (), ()))
end Go.Av
end
/-! Layer 4: the assembler, as it is walked. -/
section
namespace Go.Av
open Go

abbrev tRun : Ty := .pair tItem (.pair (.int .i64) .unit)

def L_hauberklaw04_Items_6 : LoopN where
  M := [0, 3, 4, 5]
  T := [16, 17, 18, 19, 20, 21, 22, 23, 24, 25, 26, 27, 28, 29, 30, 31, 32, 33, 34, 35, 36]
  D := [5]
  ss := [.ty (.sl tRun), .osl 0 tItem, .ty (.int .i64), .ty (.int .i64)]
  hs := []
  es := [.exit 2]
  σ := (List (Ty.den tItem)) × (Ty.den (.int .i64))
  x0 := fun x _ => (x.2.1, x.2.2.2)
  put := fun x _ s => ((x.1, s.1, x.2.2.1, s.2), ())
  fuel := fun _ _ => 701
  turn := fun x _ s =>
  (.ite (inRange x.2.2.1 (List.length x.1))
   (.ite (decide (s.2 < (List.getD x.1 (Int.toNat x.2.2.1) (Ty.dflt tRun)).2.1) && decide (s.2 < 700))
    (.ite (inRange x.2.2.1 (List.length x.1))
     (.ite (Nat.ble ((List.length s.1 + List.length [(List.getD x.1 (Int.toNat x.2.2.1) (Ty.dflt tRun)).1]) * 80) 140737488355328)
      (.ret (.on (s.1 ++ [(List.getD x.1 (Int.toNat x.2.2.1) (Ty.dflt tRun)).1], w64 (s.2 + 1))))
      .fail)
     .fail)
    (.ret (.out 0 (s.1, s.2))))
   .fail)
def L_hauberklaw04_Items_3 : LoopN where
  M := [0, 3, 4]
  T := [5, 6, 7, 8, 9, 10, 11, 12, 13, 14, 15, 16, 17, 18, 19, 20, 21, 22, 23, 24, 25, 26, 27, 28, 29, 30, 31, 32, 33, 34, 35, 36]
  D := [0, 4]
  ss := [.ty (.sl tRun), .osl 0 tItem, .ty (.int .i64)]
  hs := []
  es := [.exit 0]
  σ := (List (Ty.den tItem)) × (Ty.den (.int .i64))
  x0 := fun x _ => (x.2.1, x.2.2)
  put := fun x _ s => ((x.1, s.1, s.2), ())
  fuel := fun _ _ => 31
  turn := fun x _ s =>
  (.ite (decide (s.2 < lenI x.1) && decide (s.2 < 30))
   (.opt (LoopN.res L_hauberklaw04_Items_6 (x.1, s.1, s.2, 0) ()) fun p0 =>
    (.ret (.on (p0.2.1, w64 (s.2 + 1)))))
   (.ret (.out 0 (s.1, s.2))))
/-- hauberklaw04.Items -/
abbrev A_hauberklaw04_Items : List Ty := [(.sl tRun)]
abbrev S_hauberklaw04_Items : Sh := Sh.osl 32 tItem
def T_hauberklaw04_Items (x : dens A_hauberklaw04_Items) : PO (Sh.den S_hauberklaw04_Items) :=
  (.opt (LoopN.res L_hauberklaw04_Items_3 (x, [], 0) ()) fun p0 =>
   (.ret (p0.2.1)))
def G_hauberklaw04_Items (x : dens A_hauberklaw04_Items) : Bool := (T_hauberklaw04_Items x).val.isSome
def V_hauberklaw04_Items (x : dens A_hauberklaw04_Items) : Sh.den S_hauberklaw04_Items := (T_hauberklaw04_Items x).getO default
theorem ok_hauberklaw04_Items (x : dens A_hauberklaw04_Items) (h : G_hauberklaw04_Items x = true) : (T_hauberklaw04_Items x).val = some (V_hauberklaw04_Items x) := PO.getO_ok default h
def L_hauberk_hauberklaw04_Places_Same_4 : LoopN where
  M := [0, 1, 4, 5]
  T := [11, 12, 13, 14, 15, 16, 17, 18, 19, 20, 21, 22, 23, 24, 25]
  D := [0, 1, 5]
  ss := [.ty (.sl tPlace), .ty (.sl tPlace), .ty .bool, .ty (.int .i64)]
  hs := []
  es := [.exit 0, .ret]
  σ := (Ty.den .bool) × (Ty.den (.int .i64))
  x0 := fun x _ => (x.2.2.1, x.2.2.2)
  put := fun x _ s => ((x.1, x.2.1, s.1, s.2), ())
  fuel := fun x _ => List.length x.1+1
  turn := fun x _ s =>
  (.ite (decide (s.2 < lenI x.1))
   (.ite (inRange s.2 (List.length x.1) && inRange s.2 (List.length x.2.1))
    (.ite (!Ty.eqb tPlace (List.getD x.1 (Int.toNat s.2) (Ty.dflt tPlace)) (List.getD x.2.1 (Int.toNat s.2) (Ty.dflt tPlace)))
     (.ret (.out 1 (false, s.2)))
     (.ret (.on (s.1, w64 (s.2 + 1)))))
    .fail)
   (.ret (.out 0 (s.1, s.2))))
/-- (hauberk/hauberklaw04.Places).Same -/
abbrev A_hauberk_hauberklaw04_Places_Same : List Ty := [(.sl tPlace), (.sl tPlace)]
abbrev S_hauberk_hauberklaw04_Places_Same : Sh := Sh.ty Ty.bool
def T_hauberk_hauberklaw04_Places_Same (x : dens A_hauberk_hauberklaw04_Places_Same) : PO (Sh.den S_hauberk_hauberklaw04_Places_Same) :=
  (.ite (lenI x.1 != lenI x.2)
   (.ret (false))
   (.opt (LoopN.res L_hauberk_hauberklaw04_Places_Same_4 (x.1, x.2, false, 0) ()) fun p0 =>
    (.ite (way p0.1)
     (.ret (true))
     (.ret (p0.2.1)))))
def G_hauberk_hauberklaw04_Places_Same (x : dens A_hauberk_hauberklaw04_Places_Same) : Bool := (T_hauberk_hauberklaw04_Places_Same x).val.isSome
def V_hauberk_hauberklaw04_Places_Same (x : dens A_hauberk_hauberklaw04_Places_Same) : Sh.den S_hauberk_hauberklaw04_Places_Same := (T_hauberk_hauberklaw04_Places_Same x).getO default
theorem ok_hauberk_hauberklaw04_Places_Same (x : dens A_hauberk_hauberklaw04_Places_Same) (h : G_hauberk_hauberklaw04_Places_Same x = true) : (T_hauberk_hauberklaw04_Places_Same x).val = some (V_hauberk_hauberklaw04_Places_Same x) := PO.getO_ok default h
/-- (*asm.assembler).items -/
abbrev SS_asm_assembler_items : List Sh := [.box 0 0]
abbrev HS_asm_assembler_items : List Sh := [shAsm 1 2, .mapc, .rowc .bool]
abbrev S_asm_assembler_items : Sh := Sh.ty (Ty.int IntKind.i64)
abbrev HT_asm_assembler_items : List Sh := [Sh.pair (Sh.ty (Ty.sl tItem)) (Sh.pair (Sh.ty (Ty.int IntKind.i64)) (Sh.pair (Sh.mp 1) (Sh.pair (Sh.win 2 Ty.bool) (Sh.ty Ty.unit)))), Sh.mapc, Sh.rowc Ty.bool]
def T_asm_assembler_items (_ : shDens SS_asm_assembler_items) (y : shDens HS_asm_assembler_items) : PO (Sh.den S_asm_assembler_items × shDens HT_asm_assembler_items) :=
  (.opt (LoopN.res L_asm_assembler_items_2 ((), 0, y.1.1, lenI y.1.1, 0) ((y.1.1, y.1.2.1, (), y.1.2.2.2), y.2)) fun p0 =>
   (.ite (way p0.1)
    (.opt (LoopN.res L_asm_assembler_items_8 (p0.2.1, p0.2.2.2.1.1, lenI p0.2.2.2.1.1, 0) ()) fun p1 =>
     (.ite (way p1.1)
      (.ret (0, ((p0.2.2.2.1.1, p0.2.2.2.1.2.1, (), p0.2.2.2.1.2.2.2), p0.2.2.2.2.1, p0.2.2.2.2.2)))
      (.ret (p1.2.1, ((p0.2.2.2.1.1, p0.2.2.2.1.2.1, (), p0.2.2.2.1.2.2.2), p0.2.2.2.2.1, p0.2.2.2.2.2)))))
    (.ret (p0.2.1, ((p0.2.2.2.1.1, p0.2.2.2.1.2.1, (), p0.2.2.2.1.2.2.2), p0.2.2.2.2.1, p0.2.2.2.2.2)))))
def G_asm_assembler_items (x : shDens SS_asm_assembler_items) (y : shDens HS_asm_assembler_items) : Bool := (T_asm_assembler_items x y).val.isSome
def V_asm_assembler_items (x : shDens SS_asm_assembler_items) (y : shDens HS_asm_assembler_items) : Sh.den S_asm_assembler_items × shDens HT_asm_assembler_items := (T_asm_assembler_items x y).getO default
theorem ok_asm_assembler_items (x : shDens SS_asm_assembler_items) (y : shDens HS_asm_assembler_items) (h : G_asm_assembler_items x y = true) : (T_asm_assembler_items x y).val = some (V_asm_assembler_items x y) := PO.getO_ok default h
/-- (*asm.assembler).names -/
abbrev SS_asm_assembler_names : List Sh := [.box 0 0]
abbrev HS_asm_assembler_names : List Sh := [shAsm 1 2, .mapc, .rowc .bool]
abbrev S_asm_assembler_names : Sh := Sh.ty (Ty.int IntKind.i64)
abbrev HT_asm_assembler_names : List Sh := [Sh.pair (Sh.ty (Ty.sl tItem)) (Sh.pair (Sh.ty (Ty.int IntKind.i64)) (Sh.pair (Sh.mp 1) (Sh.pair (Sh.win 2 Ty.bool) (Sh.ty Ty.unit)))), Sh.mapc, Sh.rowc Ty.bool]
def T_asm_assembler_names (_ : shDens SS_asm_assembler_names) (y : shDens HS_asm_assembler_names) : PO (Sh.den S_asm_assembler_names × shDens HT_asm_assembler_names) :=
  (.opt (LoopN.res L_asm_assembler_names_2 ((), 0, y.1.1, lenI y.1.1, 0) ((y.1.1, y.1.2.1, (), y.1.2.2.2), y.2)) fun p0 =>
   (.ite (way p0.1)
    (.opt (LoopN.res L_asm_assembler_names_11 ((), p0.2.1, p0.2.2.2.1.1, lenI p0.2.2.2.1.1, 0) ((p0.2.2.2.1.1, p0.2.2.2.1.2.1, (), p0.2.2.2.1.2.2.2), p0.2.2.2.2)) fun p1 =>
     (.ite (way p1.1)
      (.ret (0, ((p1.2.2.2.1.1, p1.2.2.2.1.2.1, (), p1.2.2.2.1.2.2.2), p1.2.2.2.2.1, p1.2.2.2.2.2)))
      (.ret (p1.2.1, ((p1.2.2.2.1.1, p1.2.2.2.1.2.1, (), p1.2.2.2.1.2.2.2), p1.2.2.2.2.1, p1.2.2.2.2.2)))))
    (.ret (p0.2.1, ((p0.2.2.2.1.1, p0.2.2.2.1.2.1, (), p0.2.2.2.1.2.2.2), p0.2.2.2.2.1, p0.2.2.2.2.2)))))
def G_asm_assembler_names (x : shDens SS_asm_assembler_names) (y : shDens HS_asm_assembler_names) : Bool := (T_asm_assembler_names x y).val.isSome
def V_asm_assembler_names (x : shDens SS_asm_assembler_names) (y : shDens HS_asm_assembler_names) : Sh.den S_asm_assembler_names × shDens HT_asm_assembler_names := (T_asm_assembler_names x y).getO default
theorem ok_asm_assembler_names (x : shDens SS_asm_assembler_names) (y : shDens HS_asm_assembler_names) (h : G_asm_assembler_names x y = true) : (T_asm_assembler_names x y).val = some (V_asm_assembler_names x y) := PO.getO_ok default h
/-- (*asm.assembler).great -/
abbrev SS_asm_assembler_great : List Sh := [.box 0 0]
abbrev HS_asm_assembler_great : List Sh := [shAsm 1 2, .mapc, .rowc .bool]
abbrev S_asm_assembler_great : Sh := Sh.ty Ty.bool
abbrev HT_asm_assembler_great : List Sh := [Sh.pair (Sh.ty (Ty.sl tItem)) (Sh.pair (Sh.ty (Ty.int IntKind.i64)) (Sh.pair (Sh.mp 1) (Sh.pair (Sh.win 2 Ty.bool) (Sh.ty Ty.unit)))), Sh.mapc, Sh.rowc Ty.bool]
def T_asm_assembler_great (_ : shDens SS_asm_assembler_great) (y : shDens HS_asm_assembler_great) : PO (Sh.den S_asm_assembler_great × shDens HT_asm_assembler_great) :=
  (.ite (roomOk (lenI y.1.1) 1)
   (.opt (LoopN.res L_asm_assembler_great_3 ((), (0, nspan 0 (lenI y.1.1)), Int.ofNat (nspan 0 (lenI y.1.1)), 0) ((y.1.1, y.1.2.1, (), y.1.2.2.2), zeros (lenI y.1.1) false, y.2)) fun p0 =>
    (.ite (G_asm_Lay (p0.2.2.1.1, 0, shown p0.2.2.2.1 (0, nspan 0 (lenI y.1.1))) && inRange (lenI p0.2.2.1.1) (List.length (V_asm_Lay (p0.2.2.1.1, 0, shown p0.2.2.2.1 (0, nspan 0 (lenI y.1.1))))))
     (.ret (decide (List.getD (V_asm_Lay (p0.2.2.1.1, 0, shown p0.2.2.2.1 (0, nspan 0 (lenI y.1.1)))) (Int.toNat (lenI p0.2.2.1.1)) (Ty.dflt (Ty.int IntKind.i64)) > 262144), ((p0.2.2.1.1, p0.2.2.1.2.1, (), p0.2.2.1.2.2.2), p0.2.2.2.2.1, p0.2.2.2.2.2)))
     .fail))
   .fail)
def G_asm_assembler_great (x : shDens SS_asm_assembler_great) (y : shDens HS_asm_assembler_great) : Bool := (T_asm_assembler_great x y).val.isSome
def V_asm_assembler_great (x : shDens SS_asm_assembler_great) (y : shDens HS_asm_assembler_great) : Sh.den S_asm_assembler_great × shDens HT_asm_assembler_great := (T_asm_assembler_great x y).getO default
theorem ok_asm_assembler_great (x : shDens SS_asm_assembler_great) (y : shDens HS_asm_assembler_great) (h : G_asm_assembler_great x y = true) : (T_asm_assembler_great x y).val = some (V_asm_assembler_great x y) := PO.getO_ok default h
/-- (*asm.assembler).check -/
abbrev SS_asm_assembler_check : List Sh := [.box 0 0]
abbrev HS_asm_assembler_check : List Sh := [shAsm 1 2, .mapc, .rowc .bool]
abbrev S_asm_assembler_check : Sh := Sh.ty (Ty.int IntKind.i64)
abbrev HT_asm_assembler_check : List Sh := [Sh.pair (Sh.ty (Ty.sl tItem)) (Sh.pair (Sh.ty (Ty.int IntKind.i64)) (Sh.pair (Sh.mp 1) (Sh.pair (Sh.win 2 Ty.bool) (Sh.ty Ty.unit)))), Sh.mapc, Sh.rowc Ty.bool]
def T_asm_assembler_check (_ : shDens SS_asm_assembler_check) (y : shDens HS_asm_assembler_check) : PO (Sh.den S_asm_assembler_check × shDens HT_asm_assembler_check) :=
  (.ite (decide (y.1.2.1 < 0) || (decide (y.1.2.1 > 262144) || band IntKind.i64 y.1.2.1 1 != 0))
   (.ret (2, ((y.1.1, y.1.2.1, (), y.1.2.2.2), y.2.1, y.2.2)))
   (.ite (G_asm_assembler_items () ((y.1.1, y.1.2.1, (), y.1.2.2.2), y.2))
    (.ite ((V_asm_assembler_items () ((y.1.1, y.1.2.1, (), y.1.2.2.2), y.2)).1 != 0)
     (.ret ((V_asm_assembler_items () ((y.1.1, y.1.2.1, (), y.1.2.2.2), y.2)).1, (((V_asm_assembler_items () ((y.1.1, y.1.2.1, (), y.1.2.2.2), y.2)).2.1.1, (V_asm_assembler_items () ((y.1.1, y.1.2.1, (), y.1.2.2.2), y.2)).2.1.2.1, (), (V_asm_assembler_items () ((y.1.1, y.1.2.1, (), y.1.2.2.2), y.2)).2.1.2.2.2), (V_asm_assembler_items () ((y.1.1, y.1.2.1, (), y.1.2.2.2), y.2)).2.2.1, (V_asm_assembler_items () ((y.1.1, y.1.2.1, (), y.1.2.2.2), y.2)).2.2.2)))
     (.ite (G_asm_assembler_names () (((V_asm_assembler_items () ((y.1.1, y.1.2.1, (), y.1.2.2.2), y.2)).2.1.1, (V_asm_assembler_items () ((y.1.1, y.1.2.1, (), y.1.2.2.2), y.2)).2.1.2.1, (), (V_asm_assembler_items () ((y.1.1, y.1.2.1, (), y.1.2.2.2), y.2)).2.1.2.2.2), (V_asm_assembler_items () ((y.1.1, y.1.2.1, (), y.1.2.2.2), y.2)).2.2))
      (.ite ((V_asm_assembler_names () (((V_asm_assembler_items () ((y.1.1, y.1.2.1, (), y.1.2.2.2), y.2)).2.1.1, (V_asm_assembler_items () ((y.1.1, y.1.2.1, (), y.1.2.2.2), y.2)).2.1.2.1, (), (V_asm_assembler_items () ((y.1.1, y.1.2.1, (), y.1.2.2.2), y.2)).2.1.2.2.2), (V_asm_assembler_items () ((y.1.1, y.1.2.1, (), y.1.2.2.2), y.2)).2.2)).1 != 0)
       (.ret ((V_asm_assembler_names () (((V_asm_assembler_items () ((y.1.1, y.1.2.1, (), y.1.2.2.2), y.2)).2.1.1, (V_asm_assembler_items () ((y.1.1, y.1.2.1, (), y.1.2.2.2), y.2)).2.1.2.1, (), (V_asm_assembler_items () ((y.1.1, y.1.2.1, (), y.1.2.2.2), y.2)).2.1.2.2.2), (V_asm_assembler_items () ((y.1.1, y.1.2.1, (), y.1.2.2.2), y.2)).2.2)).1, (((V_asm_assembler_names () (((V_asm_assembler_items () ((y.1.1, y.1.2.1, (), y.1.2.2.2), y.2)).2.1.1, (V_asm_assembler_items () ((y.1.1, y.1.2.1, (), y.1.2.2.2), y.2)).2.1.2.1, (), (V_asm_assembler_items () ((y.1.1, y.1.2.1, (), y.1.2.2.2), y.2)).2.1.2.2.2), (V_asm_assembler_items () ((y.1.1, y.1.2.1, (), y.1.2.2.2), y.2)).2.2)).2.1.1, (V_asm_assembler_names () (((V_asm_assembler_items () ((y.1.1, y.1.2.1, (), y.1.2.2.2), y.2)).2.1.1, (V_asm_assembler_items () ((y.1.1, y.1.2.1, (), y.1.2.2.2), y.2)).2.1.2.1, (), (V_asm_assembler_items () ((y.1.1, y.1.2.1, (), y.1.2.2.2), y.2)).2.1.2.2.2), (V_asm_assembler_items () ((y.1.1, y.1.2.1, (), y.1.2.2.2), y.2)).2.2)).2.1.2.1, (), (V_asm_assembler_names () (((V_asm_assembler_items () ((y.1.1, y.1.2.1, (), y.1.2.2.2), y.2)).2.1.1, (V_asm_assembler_items () ((y.1.1, y.1.2.1, (), y.1.2.2.2), y.2)).2.1.2.1, (), (V_asm_assembler_items () ((y.1.1, y.1.2.1, (), y.1.2.2.2), y.2)).2.1.2.2.2), (V_asm_assembler_items () ((y.1.1, y.1.2.1, (), y.1.2.2.2), y.2)).2.2)).2.1.2.2.2), (V_asm_assembler_names () (((V_asm_assembler_items () ((y.1.1, y.1.2.1, (), y.1.2.2.2), y.2)).2.1.1, (V_asm_assembler_items () ((y.1.1, y.1.2.1, (), y.1.2.2.2), y.2)).2.1.2.1, (), (V_asm_assembler_items () ((y.1.1, y.1.2.1, (), y.1.2.2.2), y.2)).2.1.2.2.2), (V_asm_assembler_items () ((y.1.1, y.1.2.1, (), y.1.2.2.2), y.2)).2.2)).2.2.1, (V_asm_assembler_names () (((V_asm_assembler_items () ((y.1.1, y.1.2.1, (), y.1.2.2.2), y.2)).2.1.1, (V_asm_assembler_items () ((y.1.1, y.1.2.1, (), y.1.2.2.2), y.2)).2.1.2.1, (), (V_asm_assembler_items () ((y.1.1, y.1.2.1, (), y.1.2.2.2), y.2)).2.1.2.2.2), (V_asm_assembler_items () ((y.1.1, y.1.2.1, (), y.1.2.2.2), y.2)).2.2)).2.2.2)))
       (.ite (G_asm_assembler_great () (((V_asm_assembler_names () (((V_asm_assembler_items () ((y.1.1, y.1.2.1, (), y.1.2.2.2), y.2)).2.1.1, (V_asm_assembler_items () ((y.1.1, y.1.2.1, (), y.1.2.2.2), y.2)).2.1.2.1, (), (V_asm_assembler_items () ((y.1.1, y.1.2.1, (), y.1.2.2.2), y.2)).2.1.2.2.2), (V_asm_assembler_items () ((y.1.1, y.1.2.1, (), y.1.2.2.2), y.2)).2.2)).2.1.1, (V_asm_assembler_names () (((V_asm_assembler_items () ((y.1.1, y.1.2.1, (), y.1.2.2.2), y.2)).2.1.1, (V_asm_assembler_items () ((y.1.1, y.1.2.1, (), y.1.2.2.2), y.2)).2.1.2.1, (), (V_asm_assembler_items () ((y.1.1, y.1.2.1, (), y.1.2.2.2), y.2)).2.1.2.2.2), (V_asm_assembler_items () ((y.1.1, y.1.2.1, (), y.1.2.2.2), y.2)).2.2)).2.1.2.1, (), (V_asm_assembler_names () (((V_asm_assembler_items () ((y.1.1, y.1.2.1, (), y.1.2.2.2), y.2)).2.1.1, (V_asm_assembler_items () ((y.1.1, y.1.2.1, (), y.1.2.2.2), y.2)).2.1.2.1, (), (V_asm_assembler_items () ((y.1.1, y.1.2.1, (), y.1.2.2.2), y.2)).2.1.2.2.2), (V_asm_assembler_items () ((y.1.1, y.1.2.1, (), y.1.2.2.2), y.2)).2.2)).2.1.2.2.2), (V_asm_assembler_names () (((V_asm_assembler_items () ((y.1.1, y.1.2.1, (), y.1.2.2.2), y.2)).2.1.1, (V_asm_assembler_items () ((y.1.1, y.1.2.1, (), y.1.2.2.2), y.2)).2.1.2.1, (), (V_asm_assembler_items () ((y.1.1, y.1.2.1, (), y.1.2.2.2), y.2)).2.1.2.2.2), (V_asm_assembler_items () ((y.1.1, y.1.2.1, (), y.1.2.2.2), y.2)).2.2)).2.2))
        (.ite ((V_asm_assembler_great () (((V_asm_assembler_names () (((V_asm_assembler_items () ((y.1.1, y.1.2.1, (), y.1.2.2.2), y.2)).2.1.1, (V_asm_assembler_items () ((y.1.1, y.1.2.1, (), y.1.2.2.2), y.2)).2.1.2.1, (), (V_asm_assembler_items () ((y.1.1, y.1.2.1, (), y.1.2.2.2), y.2)).2.1.2.2.2), (V_asm_assembler_items () ((y.1.1, y.1.2.1, (), y.1.2.2.2), y.2)).2.2)).2.1.1, (V_asm_assembler_names () (((V_asm_assembler_items () ((y.1.1, y.1.2.1, (), y.1.2.2.2), y.2)).2.1.1, (V_asm_assembler_items () ((y.1.1, y.1.2.1, (), y.1.2.2.2), y.2)).2.1.2.1, (), (V_asm_assembler_items () ((y.1.1, y.1.2.1, (), y.1.2.2.2), y.2)).2.1.2.2.2), (V_asm_assembler_items () ((y.1.1, y.1.2.1, (), y.1.2.2.2), y.2)).2.2)).2.1.2.1, (), (V_asm_assembler_names () (((V_asm_assembler_items () ((y.1.1, y.1.2.1, (), y.1.2.2.2), y.2)).2.1.1, (V_asm_assembler_items () ((y.1.1, y.1.2.1, (), y.1.2.2.2), y.2)).2.1.2.1, (), (V_asm_assembler_items () ((y.1.1, y.1.2.1, (), y.1.2.2.2), y.2)).2.1.2.2.2), (V_asm_assembler_items () ((y.1.1, y.1.2.1, (), y.1.2.2.2), y.2)).2.2)).2.1.2.2.2), (V_asm_assembler_names () (((V_asm_assembler_items () ((y.1.1, y.1.2.1, (), y.1.2.2.2), y.2)).2.1.1, (V_asm_assembler_items () ((y.1.1, y.1.2.1, (), y.1.2.2.2), y.2)).2.1.2.1, (), (V_asm_assembler_items () ((y.1.1, y.1.2.1, (), y.1.2.2.2), y.2)).2.1.2.2.2), (V_asm_assembler_items () ((y.1.1, y.1.2.1, (), y.1.2.2.2), y.2)).2.2)).2.2)).1)
         (.ret (5, (((V_asm_assembler_great () (((V_asm_assembler_names () (((V_asm_assembler_items () ((y.1.1, y.1.2.1, (), y.1.2.2.2), y.2)).2.1.1, (V_asm_assembler_items () ((y.1.1, y.1.2.1, (), y.1.2.2.2), y.2)).2.1.2.1, (), (V_asm_assembler_items () ((y.1.1, y.1.2.1, (), y.1.2.2.2), y.2)).2.1.2.2.2), (V_asm_assembler_items () ((y.1.1, y.1.2.1, (), y.1.2.2.2), y.2)).2.2)).2.1.1, (V_asm_assembler_names () (((V_asm_assembler_items () ((y.1.1, y.1.2.1, (), y.1.2.2.2), y.2)).2.1.1, (V_asm_assembler_items () ((y.1.1, y.1.2.1, (), y.1.2.2.2), y.2)).2.1.2.1, (), (V_asm_assembler_items () ((y.1.1, y.1.2.1, (), y.1.2.2.2), y.2)).2.1.2.2.2), (V_asm_assembler_items () ((y.1.1, y.1.2.1, (), y.1.2.2.2), y.2)).2.2)).2.1.2.1, (), (V_asm_assembler_names () (((V_asm_assembler_items () ((y.1.1, y.1.2.1, (), y.1.2.2.2), y.2)).2.1.1, (V_asm_assembler_items () ((y.1.1, y.1.2.1, (), y.1.2.2.2), y.2)).2.1.2.1, (), (V_asm_assembler_items () ((y.1.1, y.1.2.1, (), y.1.2.2.2), y.2)).2.1.2.2.2), (V_asm_assembler_items () ((y.1.1, y.1.2.1, (), y.1.2.2.2), y.2)).2.2)).2.1.2.2.2), (V_asm_assembler_names () (((V_asm_assembler_items () ((y.1.1, y.1.2.1, (), y.1.2.2.2), y.2)).2.1.1, (V_asm_assembler_items () ((y.1.1, y.1.2.1, (), y.1.2.2.2), y.2)).2.1.2.1, (), (V_asm_assembler_items () ((y.1.1, y.1.2.1, (), y.1.2.2.2), y.2)).2.1.2.2.2), (V_asm_assembler_items () ((y.1.1, y.1.2.1, (), y.1.2.2.2), y.2)).2.2)).2.2)).2.1.1, (V_asm_assembler_great () (((V_asm_assembler_names () (((V_asm_assembler_items () ((y.1.1, y.1.2.1, (), y.1.2.2.2), y.2)).2.1.1, (V_asm_assembler_items () ((y.1.1, y.1.2.1, (), y.1.2.2.2), y.2)).2.1.2.1, (), (V_asm_assembler_items () ((y.1.1, y.1.2.1, (), y.1.2.2.2), y.2)).2.1.2.2.2), (V_asm_assembler_items () ((y.1.1, y.1.2.1, (), y.1.2.2.2), y.2)).2.2)).2.1.1, (V_asm_assembler_names () (((V_asm_assembler_items () ((y.1.1, y.1.2.1, (), y.1.2.2.2), y.2)).2.1.1, (V_asm_assembler_items () ((y.1.1, y.1.2.1, (), y.1.2.2.2), y.2)).2.1.2.1, (), (V_asm_assembler_items () ((y.1.1, y.1.2.1, (), y.1.2.2.2), y.2)).2.1.2.2.2), (V_asm_assembler_items () ((y.1.1, y.1.2.1, (), y.1.2.2.2), y.2)).2.2)).2.1.2.1, (), (V_asm_assembler_names () (((V_asm_assembler_items () ((y.1.1, y.1.2.1, (), y.1.2.2.2), y.2)).2.1.1, (V_asm_assembler_items () ((y.1.1, y.1.2.1, (), y.1.2.2.2), y.2)).2.1.2.1, (), (V_asm_assembler_items () ((y.1.1, y.1.2.1, (), y.1.2.2.2), y.2)).2.1.2.2.2), (V_asm_assembler_items () ((y.1.1, y.1.2.1, (), y.1.2.2.2), y.2)).2.2)).2.1.2.2.2), (V_asm_assembler_names () (((V_asm_assembler_items () ((y.1.1, y.1.2.1, (), y.1.2.2.2), y.2)).2.1.1, (V_asm_assembler_items () ((y.1.1, y.1.2.1, (), y.1.2.2.2), y.2)).2.1.2.1, (), (V_asm_assembler_items () ((y.1.1, y.1.2.1, (), y.1.2.2.2), y.2)).2.1.2.2.2), (V_asm_assembler_items () ((y.1.1, y.1.2.1, (), y.1.2.2.2), y.2)).2.2)).2.2)).2.1.2.1, (), (V_asm_assembler_great () (((V_asm_assembler_names () (((V_asm_assembler_items () ((y.1.1, y.1.2.1, (), y.1.2.2.2), y.2)).2.1.1, (V_asm_assembler_items () ((y.1.1, y.1.2.1, (), y.1.2.2.2), y.2)).2.1.2.1, (), (V_asm_assembler_items () ((y.1.1, y.1.2.1, (), y.1.2.2.2), y.2)).2.1.2.2.2), (V_asm_assembler_items () ((y.1.1, y.1.2.1, (), y.1.2.2.2), y.2)).2.2)).2.1.1, (V_asm_assembler_names () (((V_asm_assembler_items () ((y.1.1, y.1.2.1, (), y.1.2.2.2), y.2)).2.1.1, (V_asm_assembler_items () ((y.1.1, y.1.2.1, (), y.1.2.2.2), y.2)).2.1.2.1, (), (V_asm_assembler_items () ((y.1.1, y.1.2.1, (), y.1.2.2.2), y.2)).2.1.2.2.2), (V_asm_assembler_items () ((y.1.1, y.1.2.1, (), y.1.2.2.2), y.2)).2.2)).2.1.2.1, (), (V_asm_assembler_names () (((V_asm_assembler_items () ((y.1.1, y.1.2.1, (), y.1.2.2.2), y.2)).2.1.1, (V_asm_assembler_items () ((y.1.1, y.1.2.1, (), y.1.2.2.2), y.2)).2.1.2.1, (), (V_asm_assembler_items () ((y.1.1, y.1.2.1, (), y.1.2.2.2), y.2)).2.1.2.2.2), (V_asm_assembler_items () ((y.1.1, y.1.2.1, (), y.1.2.2.2), y.2)).2.2)).2.1.2.2.2), (V_asm_assembler_names () (((V_asm_assembler_items () ((y.1.1, y.1.2.1, (), y.1.2.2.2), y.2)).2.1.1, (V_asm_assembler_items () ((y.1.1, y.1.2.1, (), y.1.2.2.2), y.2)).2.1.2.1, (), (V_asm_assembler_items () ((y.1.1, y.1.2.1, (), y.1.2.2.2), y.2)).2.1.2.2.2), (V_asm_assembler_items () ((y.1.1, y.1.2.1, (), y.1.2.2.2), y.2)).2.2)).2.2)).2.1.2.2.2), (V_asm_assembler_great () (((V_asm_assembler_names () (((V_asm_assembler_items () ((y.1.1, y.1.2.1, (), y.1.2.2.2), y.2)).2.1.1, (V_asm_assembler_items () ((y.1.1, y.1.2.1, (), y.1.2.2.2), y.2)).2.1.2.1, (), (V_asm_assembler_items () ((y.1.1, y.1.2.1, (), y.1.2.2.2), y.2)).2.1.2.2.2), (V_asm_assembler_items () ((y.1.1, y.1.2.1, (), y.1.2.2.2), y.2)).2.2)).2.1.1, (V_asm_assembler_names () (((V_asm_assembler_items () ((y.1.1, y.1.2.1, (), y.1.2.2.2), y.2)).2.1.1, (V_asm_assembler_items () ((y.1.1, y.1.2.1, (), y.1.2.2.2), y.2)).2.1.2.1, (), (V_asm_assembler_items () ((y.1.1, y.1.2.1, (), y.1.2.2.2), y.2)).2.1.2.2.2), (V_asm_assembler_items () ((y.1.1, y.1.2.1, (), y.1.2.2.2), y.2)).2.2)).2.1.2.1, (), (V_asm_assembler_names () (((V_asm_assembler_items () ((y.1.1, y.1.2.1, (), y.1.2.2.2), y.2)).2.1.1, (V_asm_assembler_items () ((y.1.1, y.1.2.1, (), y.1.2.2.2), y.2)).2.1.2.1, (), (V_asm_assembler_items () ((y.1.1, y.1.2.1, (), y.1.2.2.2), y.2)).2.1.2.2.2), (V_asm_assembler_items () ((y.1.1, y.1.2.1, (), y.1.2.2.2), y.2)).2.2)).2.1.2.2.2), (V_asm_assembler_names () (((V_asm_assembler_items () ((y.1.1, y.1.2.1, (), y.1.2.2.2), y.2)).2.1.1, (V_asm_assembler_items () ((y.1.1, y.1.2.1, (), y.1.2.2.2), y.2)).2.1.2.1, (), (V_asm_assembler_items () ((y.1.1, y.1.2.1, (), y.1.2.2.2), y.2)).2.1.2.2.2), (V_asm_assembler_items () ((y.1.1, y.1.2.1, (), y.1.2.2.2), y.2)).2.2)).2.2)).2.2.1, (V_asm_assembler_great () (((V_asm_assembler_names () (((V_asm_assembler_items () ((y.1.1, y.1.2.1, (), y.1.2.2.2), y.2)).2.1.1, (V_asm_assembler_items () ((y.1.1, y.1.2.1, (), y.1.2.2.2), y.2)).2.1.2.1, (), (V_asm_assembler_items () ((y.1.1, y.1.2.1, (), y.1.2.2.2), y.2)).2.1.2.2.2), (V_asm_assembler_items () ((y.1.1, y.1.2.1, (), y.1.2.2.2), y.2)).2.2)).2.1.1, (V_asm_assembler_names () (((V_asm_assembler_items () ((y.1.1, y.1.2.1, (), y.1.2.2.2), y.2)).2.1.1, (V_asm_assembler_items () ((y.1.1, y.1.2.1, (), y.1.2.2.2), y.2)).2.1.2.1, (), (V_asm_assembler_items () ((y.1.1, y.1.2.1, (), y.1.2.2.2), y.2)).2.1.2.2.2), (V_asm_assembler_items () ((y.1.1, y.1.2.1, (), y.1.2.2.2), y.2)).2.2)).2.1.2.1, (), (V_asm_assembler_names () (((V_asm_assembler_items () ((y.1.1, y.1.2.1, (), y.1.2.2.2), y.2)).2.1.1, (V_asm_assembler_items () ((y.1.1, y.1.2.1, (), y.1.2.2.2), y.2)).2.1.2.1, (), (V_asm_assembler_items () ((y.1.1, y.1.2.1, (), y.1.2.2.2), y.2)).2.1.2.2.2), (V_asm_assembler_items () ((y.1.1, y.1.2.1, (), y.1.2.2.2), y.2)).2.2)).2.1.2.2.2), (V_asm_assembler_names () (((V_asm_assembler_items () ((y.1.1, y.1.2.1, (), y.1.2.2.2), y.2)).2.1.1, (V_asm_assembler_items () ((y.1.1, y.1.2.1, (), y.1.2.2.2), y.2)).2.1.2.1, (), (V_asm_assembler_items () ((y.1.1, y.1.2.1, (), y.1.2.2.2), y.2)).2.1.2.2.2), (V_asm_assembler_items () ((y.1.1, y.1.2.1, (), y.1.2.2.2), y.2)).2.2)).2.2)).2.2.2)))
         (.ret (0, (((V_asm_assembler_great () (((V_asm_assembler_names () (((V_asm_assembler_items () ((y.1.1, y.1.2.1, (), y.1.2.2.2), y.2)).2.1.1, (V_asm_assembler_items () ((y.1.1, y.1.2.1, (), y.1.2.2.2), y.2)).2.1.2.1, (), (V_asm_assembler_items () ((y.1.1, y.1.2.1, (), y.1.2.2.2), y.2)).2.1.2.2.2), (V_asm_assembler_items () ((y.1.1, y.1.2.1, (), y.1.2.2.2), y.2)).2.2)).2.1.1, (V_asm_assembler_names () (((V_asm_assembler_items () ((y.1.1, y.1.2.1, (), y.1.2.2.2), y.2)).2.1.1, (V_asm_assembler_items () ((y.1.1, y.1.2.1, (), y.1.2.2.2), y.2)).2.1.2.1, (), (V_asm_assembler_items () ((y.1.1, y.1.2.1, (), y.1.2.2.2), y.2)).2.1.2.2.2), (V_asm_assembler_items () ((y.1.1, y.1.2.1, (), y.1.2.2.2), y.2)).2.2)).2.1.2.1, (), (V_asm_assembler_names () (((V_asm_assembler_items () ((y.1.1, y.1.2.1, (), y.1.2.2.2), y.2)).2.1.1, (V_asm_assembler_items () ((y.1.1, y.1.2.1, (), y.1.2.2.2), y.2)).2.1.2.1, (), (V_asm_assembler_items () ((y.1.1, y.1.2.1, (), y.1.2.2.2), y.2)).2.1.2.2.2), (V_asm_assembler_items () ((y.1.1, y.1.2.1, (), y.1.2.2.2), y.2)).2.2)).2.1.2.2.2), (V_asm_assembler_names () (((V_asm_assembler_items () ((y.1.1, y.1.2.1, (), y.1.2.2.2), y.2)).2.1.1, (V_asm_assembler_items () ((y.1.1, y.1.2.1, (), y.1.2.2.2), y.2)).2.1.2.1, (), (V_asm_assembler_items () ((y.1.1, y.1.2.1, (), y.1.2.2.2), y.2)).2.1.2.2.2), (V_asm_assembler_items () ((y.1.1, y.1.2.1, (), y.1.2.2.2), y.2)).2.2)).2.2)).2.1.1, (V_asm_assembler_great () (((V_asm_assembler_names () (((V_asm_assembler_items () ((y.1.1, y.1.2.1, (), y.1.2.2.2), y.2)).2.1.1, (V_asm_assembler_items () ((y.1.1, y.1.2.1, (), y.1.2.2.2), y.2)).2.1.2.1, (), (V_asm_assembler_items () ((y.1.1, y.1.2.1, (), y.1.2.2.2), y.2)).2.1.2.2.2), (V_asm_assembler_items () ((y.1.1, y.1.2.1, (), y.1.2.2.2), y.2)).2.2)).2.1.1, (V_asm_assembler_names () (((V_asm_assembler_items () ((y.1.1, y.1.2.1, (), y.1.2.2.2), y.2)).2.1.1, (V_asm_assembler_items () ((y.1.1, y.1.2.1, (), y.1.2.2.2), y.2)).2.1.2.1, (), (V_asm_assembler_items () ((y.1.1, y.1.2.1, (), y.1.2.2.2), y.2)).2.1.2.2.2), (V_asm_assembler_items () ((y.1.1, y.1.2.1, (), y.1.2.2.2), y.2)).2.2)).2.1.2.1, (), (V_asm_assembler_names () (((V_asm_assembler_items () ((y.1.1, y.1.2.1, (), y.1.2.2.2), y.2)).2.1.1, (V_asm_assembler_items () ((y.1.1, y.1.2.1, (), y.1.2.2.2), y.2)).2.1.2.1, (), (V_asm_assembler_items () ((y.1.1, y.1.2.1, (), y.1.2.2.2), y.2)).2.1.2.2.2), (V_asm_assembler_items () ((y.1.1, y.1.2.1, (), y.1.2.2.2), y.2)).2.2)).2.1.2.2.2), (V_asm_assembler_names () (((V_asm_assembler_items () ((y.1.1, y.1.2.1, (), y.1.2.2.2), y.2)).2.1.1, (V_asm_assembler_items () ((y.1.1, y.1.2.1, (), y.1.2.2.2), y.2)).2.1.2.1, (), (V_asm_assembler_items () ((y.1.1, y.1.2.1, (), y.1.2.2.2), y.2)).2.1.2.2.2), (V_asm_assembler_items () ((y.1.1, y.1.2.1, (), y.1.2.2.2), y.2)).2.2)).2.2)).2.1.2.1, (), (V_asm_assembler_great () (((V_asm_assembler_names () (((V_asm_assembler_items () ((y.1.1, y.1.2.1, (), y.1.2.2.2), y.2)).2.1.1, (V_asm_assembler_items () ((y.1.1, y.1.2.1, (), y.1.2.2.2), y.2)).2.1.2.1, (), (V_asm_assembler_items () ((y.1.1, y.1.2.1, (), y.1.2.2.2), y.2)).2.1.2.2.2), (V_asm_assembler_items () ((y.1.1, y.1.2.1, (), y.1.2.2.2), y.2)).2.2)).2.1.1, (V_asm_assembler_names () (((V_asm_assembler_items () ((y.1.1, y.1.2.1, (), y.1.2.2.2), y.2)).2.1.1, (V_asm_assembler_items () ((y.1.1, y.1.2.1, (), y.1.2.2.2), y.2)).2.1.2.1, (), (V_asm_assembler_items () ((y.1.1, y.1.2.1, (), y.1.2.2.2), y.2)).2.1.2.2.2), (V_asm_assembler_items () ((y.1.1, y.1.2.1, (), y.1.2.2.2), y.2)).2.2)).2.1.2.1, (), (V_asm_assembler_names () (((V_asm_assembler_items () ((y.1.1, y.1.2.1, (), y.1.2.2.2), y.2)).2.1.1, (V_asm_assembler_items () ((y.1.1, y.1.2.1, (), y.1.2.2.2), y.2)).2.1.2.1, (), (V_asm_assembler_items () ((y.1.1, y.1.2.1, (), y.1.2.2.2), y.2)).2.1.2.2.2), (V_asm_assembler_items () ((y.1.1, y.1.2.1, (), y.1.2.2.2), y.2)).2.2)).2.1.2.2.2), (V_asm_assembler_names () (((V_asm_assembler_items () ((y.1.1, y.1.2.1, (), y.1.2.2.2), y.2)).2.1.1, (V_asm_assembler_items () ((y.1.1, y.1.2.1, (), y.1.2.2.2), y.2)).2.1.2.1, (), (V_asm_assembler_items () ((y.1.1, y.1.2.1, (), y.1.2.2.2), y.2)).2.1.2.2.2), (V_asm_assembler_items () ((y.1.1, y.1.2.1, (), y.1.2.2.2), y.2)).2.2)).2.2)).2.1.2.2.2), (V_asm_assembler_great () (((V_asm_assembler_names () (((V_asm_assembler_items () ((y.1.1, y.1.2.1, (), y.1.2.2.2), y.2)).2.1.1, (V_asm_assembler_items () ((y.1.1, y.1.2.1, (), y.1.2.2.2), y.2)).2.1.2.1, (), (V_asm_assembler_items () ((y.1.1, y.1.2.1, (), y.1.2.2.2), y.2)).2.1.2.2.2), (V_asm_assembler_items () ((y.1.1, y.1.2.1, (), y.1.2.2.2), y.2)).2.2)).2.1.1, (V_asm_assembler_names () (((V_asm_assembler_items () ((y.1.1, y.1.2.1, (), y.1.2.2.2), y.2)).2.1.1, (V_asm_assembler_items () ((y.1.1, y.1.2.1, (), y.1.2.2.2), y.2)).2.1.2.1, (), (V_asm_assembler_items () ((y.1.1, y.1.2.1, (), y.1.2.2.2), y.2)).2.1.2.2.2), (V_asm_assembler_items () ((y.1.1, y.1.2.1, (), y.1.2.2.2), y.2)).2.2)).2.1.2.1, (), (V_asm_assembler_names () (((V_asm_assembler_items () ((y.1.1, y.1.2.1, (), y.1.2.2.2), y.2)).2.1.1, (V_asm_assembler_items () ((y.1.1, y.1.2.1, (), y.1.2.2.2), y.2)).2.1.2.1, (), (V_asm_assembler_items () ((y.1.1, y.1.2.1, (), y.1.2.2.2), y.2)).2.1.2.2.2), (V_asm_assembler_items () ((y.1.1, y.1.2.1, (), y.1.2.2.2), y.2)).2.2)).2.1.2.2.2), (V_asm_assembler_names () (((V_asm_assembler_items () ((y.1.1, y.1.2.1, (), y.1.2.2.2), y.2)).2.1.1, (V_asm_assembler_items () ((y.1.1, y.1.2.1, (), y.1.2.2.2), y.2)).2.1.2.1, (), (V_asm_assembler_items () ((y.1.1, y.1.2.1, (), y.1.2.2.2), y.2)).2.1.2.2.2), (V_asm_assembler_items () ((y.1.1, y.1.2.1, (), y.1.2.2.2), y.2)).2.2)).2.2)).2.2.1, (V_asm_assembler_great () (((V_asm_assembler_names () (((V_asm_assembler_items () ((y.1.1, y.1.2.1, (), y.1.2.2.2), y.2)).2.1.1, (V_asm_assembler_items () ((y.1.1, y.1.2.1, (), y.1.2.2.2), y.2)).2.1.2.1, (), (V_asm_assembler_items () ((y.1.1, y.1.2.1, (), y.1.2.2.2), y.2)).2.1.2.2.2), (V_asm_assembler_items () ((y.1.1, y.1.2.1, (), y.1.2.2.2), y.2)).2.2)).2.1.1, (V_asm_assembler_names () (((V_asm_assembler_items () ((y.1.1, y.1.2.1, (), y.1.2.2.2), y.2)).2.1.1, (V_asm_assembler_items () ((y.1.1, y.1.2.1, (), y.1.2.2.2), y.2)).2.1.2.1, (), (V_asm_assembler_items () ((y.1.1, y.1.2.1, (), y.1.2.2.2), y.2)).2.1.2.2.2), (V_asm_assembler_items () ((y.1.1, y.1.2.1, (), y.1.2.2.2), y.2)).2.2)).2.1.2.1, (), (V_asm_assembler_names () (((V_asm_assembler_items () ((y.1.1, y.1.2.1, (), y.1.2.2.2), y.2)).2.1.1, (V_asm_assembler_items () ((y.1.1, y.1.2.1, (), y.1.2.2.2), y.2)).2.1.2.1, (), (V_asm_assembler_items () ((y.1.1, y.1.2.1, (), y.1.2.2.2), y.2)).2.1.2.2.2), (V_asm_assembler_items () ((y.1.1, y.1.2.1, (), y.1.2.2.2), y.2)).2.2)).2.1.2.2.2), (V_asm_assembler_names () (((V_asm_assembler_items () ((y.1.1, y.1.2.1, (), y.1.2.2.2), y.2)).2.1.1, (V_asm_assembler_items () ((y.1.1, y.1.2.1, (), y.1.2.2.2), y.2)).2.1.2.1, (), (V_asm_assembler_items () ((y.1.1, y.1.2.1, (), y.1.2.2.2), y.2)).2.1.2.2.2), (V_asm_assembler_items () ((y.1.1, y.1.2.1, (), y.1.2.2.2), y.2)).2.2)).2.2)).2.2.2))))
        .fail))
      .fail))
    .fail))
def G_asm_assembler_check (x : shDens SS_asm_assembler_check) (y : shDens HS_asm_assembler_check) : Bool := (T_asm_assembler_check x y).val.isSome
def V_asm_assembler_check (x : shDens SS_asm_assembler_check) (y : shDens HS_asm_assembler_check) : Sh.den S_asm_assembler_check × shDens HT_asm_assembler_check := (T_asm_assembler_check x y).getO default
theorem ok_asm_assembler_check (x : shDens SS_asm_assembler_check) (y : shDens HS_asm_assembler_check) (h : G_asm_assembler_check x y = true) : (T_asm_assembler_check x y).val = some (V_asm_assembler_check x y) := PO.getO_ok default h
def L_asm_assembler_widen_4 : LoopN where
  M := [0, 3, 4, 26, 27, 28]
  T := [5, 6, 7, 8, 9, 29, 30, 31, 32, 33, 34, 35, 36, 37, 38, 39, 40, 41, 42, 43, 44, 45, 46, 47, 48, 49, 50, 51, 52, 53, 54, 55, 56, 57, 58, 59, 60, 61, 62, 63, 64, 65, 66, 67, 68, 69, 70]
  D := [0, 3, 26, 27, 28]
  ss := [.box 0 0, .ty (.sl (.int .i64)), .ty .bool, .ty (.sl tItem), .ty (.int .i64), .ty (.int .i64)]
  hs := [shAsm 1 2, .mapc, .rowc .bool]
  es := [.exit 0]
  σ := (Ty.den .bool) × (Ty.den (.int .i64)) × (Sh.den (shAsm 1 2)) × (Sh.den (.mapc)) × (Sh.den (.rowc .bool))
  x0 := fun x y => (x.2.2.1, x.2.2.2.2.2, y.1, y.2.1, y.2.2)
  put := fun x _ s => ((x.1, x.2.1, s.1, x.2.2.2.1, x.2.2.2.2.1, s.2.1), (s.2.2.1, s.2.2.2.1, s.2.2.2.2))
  fuel := fun _ y => List.length y.1.1+1
  turn := fun x _ s =>
  (.ite (decide (s.2.1 < x.2.2.2.2.1))
   (.ite (inRange s.2.1 (List.length x.2.2.2.1))
    (.ite ((List.getD x.2.2.2.1 (Int.toNat s.2.1) (Ty.dflt tItem)).1 != 2 || inRange s.2.1 s.2.2.1.2.2.2.1.2)
     (.ite ((List.getD x.2.2.2.1 (Int.toNat s.2.1) (Ty.dflt tItem)).1 != 2 || List.getD s.2.2.2.2 (nplus s.2.2.1.2.2.2.1.1 s.2.1) (Ty.dflt Ty.bool))
      (.ret (.on (s.1, w64 (s.2.1 + 1), s.2.2.1, s.2.2.2.1, s.2.2.2.2)))
      (.ite (G_asm_assembler_offset (s.2.2.1.1, s.2.2.2.1, x.2.1, s.2.1))
       (.ite (decide (V_asm_assembler_offset (s.2.2.1.1, s.2.2.2.1, x.2.1, s.2.1) < (V_thumb_Reach ((List.getD x.2.2.2.1 (Int.toNat s.2.1) (Ty.dflt tItem)).2.2.1.1, false)).1) || decide (V_asm_assembler_offset (s.2.2.1.1, s.2.2.2.1, x.2.1, s.2.1) > (V_thumb_Reach ((List.getD x.2.2.2.1 (Int.toNat s.2.1) (Ty.dflt tItem)).2.2.1.1, false)).2.1))
        (.ite (inRange s.2.1 s.2.2.1.2.2.2.1.2)
         (.ret (.on (true, w64 (s.2.1 + 1), s.2.2.1, s.2.2.2.1, List.set s.2.2.2.2 (nplus s.2.2.1.2.2.2.1.1 s.2.1) true)))
         .fail)
        (.ret (.on (s.1, w64 (s.2.1 + 1), s.2.2.1, s.2.2.2.1, s.2.2.2.2))))
       .fail))
     .fail)
    .fail)
   (.ret (.out 0 (s.1, s.2.1, s.2.2.1, s.2.2.2.1, s.2.2.2.2))))
/-- (*asm.assembler).widen -/
abbrev SS_asm_assembler_widen : List Sh := [.box 0 0]
abbrev HS_asm_assembler_widen : List Sh := [shAsm 1 2, .mapc, .rowc .bool]
abbrev S_asm_assembler_widen : Sh := Sh.ty Ty.bool
abbrev HT_asm_assembler_widen : List Sh := [Sh.pair (Sh.ty (Ty.sl tItem)) (Sh.pair (Sh.ty (Ty.int IntKind.i64)) (Sh.pair (Sh.mp 1) (Sh.pair (Sh.win 2 Ty.bool) (Sh.ty Ty.unit)))), Sh.mapc, Sh.rowc Ty.bool]
def T_asm_assembler_widen (_ : shDens SS_asm_assembler_widen) (y : shDens HS_asm_assembler_widen) : PO (Sh.den S_asm_assembler_widen × shDens HT_asm_assembler_widen) :=
  (.ite (G_asm_Lay (y.1.1, y.1.2.1, shown y.2.2 y.1.2.2.2.1))
   (.opt (LoopN.res L_asm_assembler_widen_4 ((), V_asm_Lay (y.1.1, y.1.2.1, shown y.2.2 y.1.2.2.2.1), false, y.1.1, lenI y.1.1, 0) ((y.1.1, y.1.2.1, (), y.1.2.2.2), y.2)) fun p0 =>
    (.ret (p0.2.1, ((p0.2.2.2.1.1, p0.2.2.2.1.2.1, (), p0.2.2.2.1.2.2.2), p0.2.2.2.2.1, p0.2.2.2.2.2))))
   .fail)
def G_asm_assembler_widen (x : shDens SS_asm_assembler_widen) (y : shDens HS_asm_assembler_widen) : Bool := (T_asm_assembler_widen x y).val.isSome
def V_asm_assembler_widen (x : shDens SS_asm_assembler_widen) (y : shDens HS_asm_assembler_widen) : Sh.den S_asm_assembler_widen × shDens HT_asm_assembler_widen := (T_asm_assembler_widen x y).getO default
theorem ok_asm_assembler_widen (x : shDens SS_asm_assembler_widen) (y : shDens HS_asm_assembler_widen) (h : G_asm_assembler_widen x y = true) : (T_asm_assembler_widen x y).val = some (V_asm_assembler_widen x y) := PO.getO_ok default h
def L_asm_Assemble_5 : LoopN where
  M := [0, 1, 7]
  T := [29, 30, 31]
  D := []
  ss := [.ty (.sl tItem), .ty (.int .i64), .box 0 0]
  hs := [shAsm 1 2, .mapc, .rowc .bool]
  es := [.exit 0]
  σ := (Sh.den (shAsm 1 2)) × (Sh.den (.mapc)) × (Sh.den (.rowc .bool))
  x0 := fun _ y => (y.1, y.2.1, y.2.2)
  put := fun x _ s => ((x.1, x.2.1, x.2.2), (s.1, s.2.1, s.2.2))
  fuel := fun _ y => List.length y.1.1+2
  turn := fun _ _ s =>
  (.ite (G_asm_assembler_widen () ((s.1.1, s.1.2.1, (), s.1.2.2.2), s.2))
   (.ite (!(V_asm_assembler_widen () ((s.1.1, s.1.2.1, (), s.1.2.2.2), s.2)).1)
    (.ret (.out 0 (((V_asm_assembler_widen () ((s.1.1, s.1.2.1, (), s.1.2.2.2), s.2)).2.1.1, (V_asm_assembler_widen () ((s.1.1, s.1.2.1, (), s.1.2.2.2), s.2)).2.1.2.1, (), (V_asm_assembler_widen () ((s.1.1, s.1.2.1, (), s.1.2.2.2), s.2)).2.1.2.2.2), (V_asm_assembler_widen () ((s.1.1, s.1.2.1, (), s.1.2.2.2), s.2)).2.2.1, (V_asm_assembler_widen () ((s.1.1, s.1.2.1, (), s.1.2.2.2), s.2)).2.2.2)))
    (.ret (.on (((V_asm_assembler_widen () ((s.1.1, s.1.2.1, (), s.1.2.2.2), s.2)).2.1.1, (V_asm_assembler_widen () ((s.1.1, s.1.2.1, (), s.1.2.2.2), s.2)).2.1.2.1, (), (V_asm_assembler_widen () ((s.1.1, s.1.2.1, (), s.1.2.2.2), s.2)).2.1.2.2.2), (V_asm_assembler_widen () ((s.1.1, s.1.2.1, (), s.1.2.2.2), s.2)).2.2.1, (V_asm_assembler_widen () ((s.1.1, s.1.2.1, (), s.1.2.2.2), s.2)).2.2.2))))
   .fail)
def L_asm_Assemble_10 : LoopN where
  M := [7, 9, 10, 11, 39, 40, 41]
  T := [12, 13, 14, 15, 42, 43, 44, 45, 46, 47, 48, 49, 50, 51, 52, 53, 54, 55, 56, 57, 58, 59, 60, 61, 62, 63, 64, 65, 66, 67, 68, 69, 70, 71, 72, 73, 74, 75, 76, 77, 78, 79, 80, 81, 82, 83, 84, 85, 86, 87, 88, 89]
  D := [7, 9, 39, 40, 41]
  ss := [.box 0 0, .osl 0 (.int .i64), .box 1 0, .osl 1 tPlace, .ty (.sl tItem), .ty (.int .i64), .ty (.int .i64)]
  hs := [shAsm 2 3, shBldL 1 2, .mapc, .rowc .bool]
  es := [.exit 2]
  σ := (Sh.den (.osl 1 tPlace)) × (Ty.den (.int .i64)) × (Sh.den (shAsm 2 3)) × (Sh.den (shBldL 1 2)) × (Sh.den (.mapc)) × (Sh.den (.rowc .bool))
  x0 := fun x y => (x.2.2.2.1, x.2.2.2.2.2.2, y.1, y.2.1, y.2.2.1, y.2.2.2)
  put := fun x _ s => ((x.1, x.2.1, x.2.2.1, s.1, x.2.2.2.2.1, x.2.2.2.2.2.1, s.2.1), (s.2.2.1, s.2.2.2.1, s.2.2.2.2.1, s.2.2.2.2.2))
  fuel := fun x _ => List.length x.2.2.2.2.1+1
  turn := fun x _ s =>
  (.ite (decide (s.2.1 < x.2.2.2.2.2.1))
   (.ite (inRange s.2.1 (List.length x.2.2.2.2.1))
    (.ite ((List.getD x.2.2.2.2.1 (Int.toNat s.2.1) (Ty.dflt tItem)).1 == 1)
     (.ite (inRange s.2.1 (List.length x.2.1))
      (.ite (Nat.ble ((List.length s.1 + List.length [((List.getD x.2.2.2.2.1 (Int.toNat s.2.1) (Ty.dflt tItem)).2.1, List.getD x.2.1 (Int.toNat s.2.1) (Ty.dflt (Ty.int IntKind.i64)), ())]) * 16) 140737488355328)
       (.ret (.on (s.1 ++ [((List.getD x.2.2.2.2.1 (Int.toNat s.2.1) (Ty.dflt tItem)).2.1, List.getD x.2.1 (Int.toNat s.2.1) (Ty.dflt (Ty.int IntKind.i64)), ())], w64 (s.2.1 + 1), (s.2.2.1.1, s.2.2.1.2.1, (), s.2.2.1.2.2.2), ((), s.2.2.2.1.2), s.2.2.2.2.1, s.2.2.2.2.2)))
       .fail)
      .fail)
     (.ite ((List.getD x.2.2.2.2.1 (Int.toNat s.2.1) (Ty.dflt tItem)).1 == 2)
      (.ite (G_asm_assembler_offset (s.2.2.1.1, s.2.2.2.2.1, x.2.1, s.2.1))
       (.ite (inRange s.2.1 s.2.2.1.2.2.2.1.2)
        (.ite (G_thumb_Encode ((List.getD x.2.2.2.2.1 (Int.toNat s.2.1) (Ty.dflt tItem)).2.2.1.1, 0, 0, 0, 0, V_asm_assembler_offset (s.2.2.1.1, s.2.2.2.2.1, x.2.1, s.2.1), (List.getD x.2.2.2.2.1 (Int.toNat s.2.1) (Ty.dflt tItem)).2.2.1.2.2.2.2.2.2.1, List.getD s.2.2.2.2.2 (nplus s.2.2.1.2.2.2.1.1 s.2.1) (Ty.dflt Ty.bool), ()))
         (.ite (G_bytesFit s.2.2.2.1.2.1 (V_thumb_Encode ((List.getD x.2.2.2.2.1 (Int.toNat s.2.1) (Ty.dflt tItem)).2.2.1.1, 0, 0, 0, 0, V_asm_assembler_offset (s.2.2.1.1, s.2.2.2.2.1, x.2.1, s.2.1), (List.getD x.2.2.2.2.1 (Int.toNat s.2.1) (Ty.dflt tItem)).2.2.1.2.2.2.2.2.2.1, List.getD s.2.2.2.2.2 (nplus s.2.2.1.2.2.2.1.1 s.2.1) (Ty.dflt Ty.bool), ())).1)
          (.ret (.on (s.1, w64 (s.2.1 + 1), (s.2.2.1.1, s.2.2.1.2.1, (), s.2.2.1.2.2.2), ((), V_bytesJoin s.2.2.2.1.2.1 (V_thumb_Encode ((List.getD x.2.2.2.2.1 (Int.toNat s.2.1) (Ty.dflt tItem)).2.2.1.1, 0, 0, 0, 0, V_asm_assembler_offset (s.2.2.1.1, s.2.2.2.2.1, x.2.1, s.2.1), (List.getD x.2.2.2.2.1 (Int.toNat s.2.1) (Ty.dflt tItem)).2.2.1.2.2.2.2.2.2.1, List.getD s.2.2.2.2.2 (nplus s.2.2.1.2.2.2.1.1 s.2.1) (Ty.dflt Ty.bool), ())).1, ()), s.2.2.2.2.1, s.2.2.2.2.2)))
          .fail)
         .fail)
        .fail)
       .fail)
      (.ite (G_thumb_Encode (List.getD x.2.2.2.2.1 (Int.toNat s.2.1) (Ty.dflt tItem)).2.2.1)
       (.ite (G_bytesFit s.2.2.2.1.2.1 (V_thumb_Encode (List.getD x.2.2.2.2.1 (Int.toNat s.2.1) (Ty.dflt tItem)).2.2.1).1)
        (.ret (.on (s.1, w64 (s.2.1 + 1), (s.2.2.1.1, s.2.2.1.2.1, (), s.2.2.1.2.2.2), ((), V_bytesJoin s.2.2.2.1.2.1 (V_thumb_Encode (List.getD x.2.2.2.2.1 (Int.toNat s.2.1) (Ty.dflt tItem)).2.2.1).1, ()), s.2.2.2.2.1, s.2.2.2.2.2)))
        .fail)
       .fail)))
    .fail)
   (.ret (.out 0 (s.1, s.2.1, s.2.2.1, s.2.2.2.1, s.2.2.2.2.1, s.2.2.2.2.2))))
/-- asm.Assemble -/
abbrev A_asm_Assemble : List Ty := [(.sl tItem), (.int .i64)]
abbrev S_asm_Assemble : Sh := Sh.tup (Sh.pair (Sh.ty Ty.str) (Sh.pair (Sh.osl 32 tPlace) (Sh.pair (Sh.ty (Ty.int IntKind.i64)) (Sh.ty Ty.unit))))
def K_asm_Assemble_0 (x : dens [(.sl tItem), (.int .i64)]) := G_asm_assembler_check () ((x.1, x.2, (), (0, nspan 0 (lenI x.1)), ()), [], zeros (lenI x.1) false)
def K_asm_Assemble_1 (x : dens [(.sl tItem), (.int .i64)]) := V_asm_assembler_check () ((x.1, x.2, (), (0, nspan 0 (lenI x.1)), ()), [], zeros (lenI x.1) false)
def K_asm_Assemble_2 (x : dens [(.sl tItem), (.int .i64)]) := LoopN.res L_asm_Assemble_5 (x.1, x.2, ()) (((K_asm_Assemble_1 x).2.1.1, (K_asm_Assemble_1 x).2.1.2.1, (), (K_asm_Assemble_1 x).2.1.2.2.2), (K_asm_Assemble_1 x).2.2)
def T_asm_Assemble (x : dens A_asm_Assemble) : PO (Sh.den S_asm_Assemble) :=
  (.ite (roomOk (lenI x.1) 1)
   (.ite (K_asm_Assemble_0 x)
    (.ite ((K_asm_Assemble_1 x).1 != 0)
     (.ret (([], [], (K_asm_Assemble_1 x).1, ())))
     (.opt (K_asm_Assemble_2 x) fun p0 =>
      (.ite (G_asm_Lay (x.1, x.2, shown p0.2.2.2 p0.2.1.2.2.2.1))
       (.opt (LoopN.res L_asm_Assemble_10 ((), V_asm_Lay (x.1, x.2, shown p0.2.2.2 p0.2.1.2.2.2.1), (), [], x.1, lenI x.1, 0) ((p0.2.1.1, p0.2.1.2.1, (), p0.2.1.2.2.2), ((), [], ()), p0.2.2)) fun p1 =>
        (.ret ((p1.2.2.2.2.1.2.1, p1.2.1, 0, ()))))
       .fail)))
    .fail)
   .fail)
def G_asm_Assemble (x : dens A_asm_Assemble) : Bool := (T_asm_Assemble x).val.isSome
def V_asm_Assemble (x : dens A_asm_Assemble) : Sh.den S_asm_Assemble := (T_asm_Assemble x).getO default
theorem ok_asm_Assemble (x : dens A_asm_Assemble) (h : G_asm_Assemble x = true) : (T_asm_Assemble x).val = some (V_asm_Assemble x) := PO.getO_ok default h
end Go.Av
end
/-! Layer 4's statements: AsmBytes. -/
section
namespace Go.Av
open Go
/-- hauberklaw04.lives: an example, computed -/
abbrev A_hauberklaw04_lives : List Ty := []
abbrev S_hauberklaw04_lives : Sh := .ty .bool
def T_hauberklaw04_lives (_ : dens A_hauberklaw04_lives) : PO Bool := .ret true
def G_hauberklaw04_lives (_ : dens A_hauberklaw04_lives) : Bool := true
def V_hauberklaw04_lives (_ : dens A_hauberklaw04_lives) : Bool := true
theorem ok_hauberklaw04_lives (x : dens A_hauberklaw04_lives) (_ : G_hauberklaw04_lives x = true) : (T_hauberklaw04_lives x).val = some (V_hauberklaw04_lives x) := rfl
end Go.Av
end
/-! Layer 3: bytes as instructions: what the functions compute. -/
section
namespace Go.Av
open Go
/-- A text's n-th 16 bits. -/
def halfN (s : List UInt8) (k : Nat) : Nat := (s.getD (2 * k) 0).toNat + 256 * (s.getD (2 * k + 1) 0).toNat
theorem halfN_lt (s : List UInt8) (k : Nat) : halfN s k < 65536 := by
  unfold halfN
  have h1 := (s.getD (2 * k) 0).toNat_lt
  have h2 := (s.getD (2 * k + 1) 0).toNat_lt
  omega
theorem ishl_small (b k : Nat) (hk : k ≤ 62) (h : b * 2 ^ k < 4611686018427387904) : ishl .i64 (b : Int) (k : Int) = ((b * 2 ^ k : Nat) : Int) := by
  rw [ishl_nat _ _ (by omega), show (b : Int) * 2 ^ k = ((b * 2 ^ k : Nat) : Int) by simp, w64_id (by omega) (by omega)]
theorem bor_shl (a b k : Nat) (hk : k ≤ 62) (ha : a < 2 ^ k) (h : b * 2 ^ k < 4611686018427387904) : bor .i64 (a : Int) (ishl .i64 (b : Int) (k : Int)) = ((b * 2 ^ k + a : Nat) : Int) := by
  have hp : 2 ^ k ≤ 2 ^ 62 := pow_lt hk
  rw [ishl_small b k hk h, bor_nat (by omega) (by omega), Nat.or_comm, Nat.mul_comm b, Nat.two_pow_add_eq_or_of_lt ha]
/-- decode.some -/
abbrev A_decode_some : List Ty := [(.int .i64), (.int .i64), (.int .i64)]
abbrev S_decode_some : Sh := Sh.ty (Ty.int IntKind.i64)
def T_decode_some (x : dens A_decode_some) : PO (Sh.den S_decode_some) :=
  (.ite (!decide (x.2.1 < 0) && !decide (x.2.2 < 0))
   (.ret (band IntKind.i64 (ishr IntKind.i64 x.1 x.2.1) (w64 (ishl IntKind.i64 1 x.2.2 - 1))))
   .fail)
def G_decode_some (x : dens A_decode_some) : Bool := decide (0 ≤ x.2.1) && (decide (x.2.1 ≤ 16) && (decide (0 ≤ x.2.2) && decide (x.2.2 ≤ 24)))
def V_decode_some (x : dens A_decode_some) : Sh.den S_decode_some := x.1 / (2 ^ x.2.1.toNat : Nat) % (2 ^ x.2.2.toNat : Nat)
theorem some_val (n at_ many : Int) (h1 : 0 ≤ at_) (h2 : at_ ≤ 16) (h3 : 0 ≤ many) (h4 : many ≤ 24) : band IntKind.i64 (ishr IntKind.i64 n at_) (w64 (ishl IntKind.i64 1 many - 1)) = n / (2 ^ at_.toNat : Nat) % (2 ^ many.toNat : Nat) := by
  obtain ⟨a, rfl⟩ := Int.eq_ofNat_of_zero_le h1
  obtain ⟨m, rfl⟩ := Int.eq_ofNat_of_zero_le h3
  have hp : 2 ^ m ≤ 2 ^ 24 := pow_lt (by omega)
  have hp0 := Nat.two_pow_pos m
  have e := ishl_small 1 m (by omega) (by omega)
  rw [ishr_i64 n a (by omega), show ishl IntKind.i64 1 (m : Int) = _ from e, w64_id (by omega) (by omega), Nat.one_mul, band_low _ m (by omega), Int.toNat_natCast, Int.toNat_natCast]
theorem some_T (n a m : Int) (h1 : 0 ≤ a) (h2 : a ≤ 16) (h3 : 0 ≤ m) (h4 : m ≤ 24) : (T_decode_some (n, a, m)).val = some (V_decode_some (n, a, m)) := by
  have e := some_val n a m h1 h2 h3 h4
  unfold T_decode_some PO.val
  dsimp only
  rw [dec_false (p := a < 0) (by omega), dec_false (p := m < 0) (by omega)]
  exact congrArg some e
theorem ok_decode_some (x : dens A_decode_some) (h : G_decode_some x = true) : (T_decode_some x).val = some (V_decode_some x) := by
  simp only [G_decode_some, Bool.and_eq_true, decide_eq_true_eq] at h
  exact some_T x.1 x.2.1 x.2.2 h.1 h.2.1 h.2.2.1 h.2.2.2
/-- decode.half -/
abbrev A_decode_half : List Ty := [.str, (.int .i64)]
abbrev S_decode_half : Sh := Sh.ty (Ty.int IntKind.i64)
def T_decode_half (x : dens A_decode_half) : PO (Sh.den S_decode_half) :=
  (.ite (inRange (w64 (2 * x.2)) (List.length x.1) && inRange (w64 (w64 (2 * x.2) + 1)) (List.length x.1))
   (.ret (bor IntKind.i64 (w64 (u8I (List.getD x.1 (Int.toNat (w64 (2 * x.2))) 0))) (ishl IntKind.i64 (w64 (u8I (List.getD x.1 (Int.toNat (w64 (w64 (2 * x.2) + 1))) 0))) 8)))
   .fail)
def G_decode_half (x : dens A_decode_half) : Bool := (x.2 == 0 && decide (2 ≤ lenI x.1)) || (x.2 == 1 && decide (4 ≤ lenI x.1))
def V_decode_half (x : dens A_decode_half) : Sh.den S_decode_half := (halfN x.1 x.2.toNat : Int)
theorem half_val (s : List UInt8) (k : Nat) (hk : k ≤ 1) (h : 2 * k + 2 ≤ s.length) : (T_decode_half (s, (k : Int))).val = some (halfN s k : Int) := by
  have e1 : w64 (2 * (k : Int)) = ((2 * k : Nat) : Int) := by rw [w64_id (by omega) (by omega)]; omega
  have e2 : w64 (((2 * k : Nat) : Int) + 1) = ((2 * k + 1 : Nat) : Int) := by rw [w64_id (by omega) (by omega)]; omega
  have l1 := (s.getD (2 * k) 0).toNat_lt
  have l2 := (s.getD (2 * k + 1) 0).toNat_lt
  unfold T_decode_half PO.val
  dsimp only
  rw [e1, e2, inR (show 2 * k < s.length by omega), inR (show 2 * k + 1 < s.length by omega), getD_nat, getD_nat]
  unfold halfN u8I
  generalize (s.getD (2 * k) 0).toNat = a at *
  generalize (s.getD (2 * k + 1) 0).toNat = b at *
  rw [w64_nat (by omega), w64_nat (by omega)]
  have := bor_shl a b 8 (by omega) (by omega) (by omega)
  dsimp only [Bool.and_self, cond_true, PO.val]
  rw [show bor IntKind.i64 (a : Int) (ishl IntKind.i64 (b : Int) 8) = ((b * 2 ^ 8 + a : Nat) : Int) from this]
  exact congrArg some (congrArg Nat.cast (by omega : b * 2 ^ 8 + a = a + 256 * b))
theorem ok_decode_half (x : dens A_decode_half) (h : G_decode_half x = true) : (T_decode_half x).val = some (V_decode_half x) := by
  obtain ⟨s, n⟩ := x
  simp only [G_decode_half, Bool.or_eq_true, Bool.and_eq_true, beq_iff_eq, decide_eq_true_eq] at h
  rcases h with ⟨h, hl⟩ | ⟨h, hl⟩
  · subst h
    exact half_val s 0 (by omega) (by simp only [lenI] at hl; omega)
  · subst h
    exact half_val s 1 (by omega) (by simp only [lenI] at hl; omega)
/-- decode.signed -/
abbrev A_decode_signed : List Ty := [(.int .i64), (.int .i64)]
abbrev S_decode_signed : Sh := Sh.ty (Ty.int IntKind.i64)
def T_decode_signed (x : dens A_decode_signed) : PO (Sh.den S_decode_signed) :=
  (.ite (!decide (w64 (x.2 - 1) < 0))
   (.ite (ishr IntKind.i64 x.1 (w64 (x.2 - 1)) == 1)
    (.ite (!decide (x.2 < 0))
     (.ret (w64 (x.1 - ishl IntKind.i64 1 x.2)))
     .fail)
    (.ret (x.1)))
   .fail)
def G_decode_signed (x : dens A_decode_signed) : Bool := decide (1 ≤ x.2) && (decide (x.2 ≤ 24) && (decide (0 ≤ x.1) && decide (x.1 < 33554432)))
def V_decode_signed (x : dens A_decode_signed) : Sh.den S_decode_signed := bif x.1 / (2 ^ (x.2 - 1).toNat : Nat) == 1 then x.1 - (2 ^ x.2.toNat : Nat) else x.1
theorem signed_T (n : Int) (k : Nat) (hk : k ≤ 23) (h3 : 0 ≤ n) (h4 : n < 33554432) : (T_decode_signed (n, ((k + 1 : Nat) : Int))).val = some (V_decode_signed (n, ((k + 1 : Nat) : Int))) := by
  have hp : 2 ^ (k + 1) ≤ 2 ^ 24 := pow_lt (by omega)
  have e1 : w64 (((k + 1 : Nat) : Int) - 1) = (k : Int) := by rw [w64_id (by omega) (by omega)]; omega
  have e2 := ishr_i64 n k (by omega)
  have e3 := ishl_small 1 (k + 1) (by omega) (by omega)
  have e4 : (((k + 1 : Nat) : Int) - 1).toNat = k := by omega
  unfold T_decode_signed V_decode_signed PO.val
  dsimp only
  rw [e1, e2, e4, show ishl IntKind.i64 1 ((k + 1 : Nat) : Int) = _ from e3, dec_false (p := (k : Int) < 0) (by omega), dec_false (p := ((k + 1 : Nat) : Int) < 0) (by omega), Nat.one_mul, Int.toNat_natCast]
  rw [w64_id (n := n - ((2 ^ (k + 1) : Nat) : Int)) (by omega) (by omega)]
  cases n / ((2 ^ k : Nat) : Int) == 1 <;> rfl
theorem signed_ok (n m : Int) (h1 : 1 ≤ m) (h2 : m ≤ 24) (h3 : 0 ≤ n) (h4 : n < 33554432) : (T_decode_signed (n, m)).val = some (V_decode_signed (n, m)) := by
  obtain ⟨k, rfl⟩ : ∃ k : Nat, m = ((k + 1 : Nat) : Int) := ⟨(m - 1).toNat, by omega⟩
  exact signed_T n k (by omega) h3 h4
theorem ok_decode_signed (x : dens A_decode_signed) (h : G_decode_signed x = true) : (T_decode_signed x).val = some (V_decode_signed x) := by
  simp only [G_decode_signed, Bool.and_eq_true, decide_eq_true_eq] at h
  exact signed_ok x.1 x.2 h.1 h.2.1 h.2.2.1 h.2.2.2
def L_decode_regs_2 : LoopN where
  M := [2, 5, 6, 7]
  T := [4, 8, 9, 10, 11, 12, 13]
  D := [5, 6, 7]
  ss := [.ty .bool, .ty (.sl (.int .i64)), .ty (.int .i64), .ty (.int .i64)]
  hs := []
  es := [.exit 0, .ret]
  σ := (Ty.den .bool) × (Ty.den (.int .i64))
  x0 := fun x _ => (x.1, x.2.2.2)
  put := fun x _ s => ((s.1, x.2.1, x.2.2.1, s.2), ())
  fuel := fun x _ => List.length x.2.1 + 1
  turn := fun x _ s =>
  (.ite (decide (s.2 < x.2.2.1))
   (.ite (inRange s.2 (List.length x.2.1))
    (.ite (decide (List.getD x.2.1 (Int.toNat s.2) (Ty.dflt (Ty.int IntKind.i64)) > 12))
     (.ret (.out 1 (false, s.2)))
     (.ret (.on (s.1, w64 (s.2 + 1)))))
    .fail)
   (.ret (.out 0 (s.1, s.2))))
theorem regs_run (r : List Int) (hr : r.length < 100) (ok : Bool) : ∀ (k i : Nat), i + k = r.length → ∀ f, k < f →
    ∃ o st, runL (L_decode_regs_2.turn (false, r, ((r.length : Nat) : Int), 0) ()) f (ok, (i : Int)) = some (o, st) ∧ (PO.ite (way o) (.ret true) (.ret st.1)).val = some ((r.drop i).all fun x => decide (x ≤ 12))
  | 0, i, h, f, hf => by
    obtain ⟨f, rfl⟩ : ∃ g, f = g + 1 := ⟨f - 1, by omega⟩
    refine ⟨0, (ok, (i : Int)), runL_out ?_, by rw [List.drop_of_length_le (by omega)]; rfl⟩
    dsimp only [L_decode_regs_2, PO.val]
    rw [dec_false (p := (i : Int) < ((r.length : Nat) : Int)) (by omega)]
    rfl
  | k + 1, i, h, f, hf => by
    obtain ⟨f, rfl⟩ : ∃ g, f = g + 1 := ⟨f - 1, by omega⟩
    have hi : i < r.length := by omega
    have hw : w64 ((i : Int) + 1) = ((i + 1 : Nat) : Int) := by rw [w64_id (by omega) (by omega)]; omega
    rw [List.drop_eq_getElem_cons hi, List.all_cons]
    by_cases hb : r[i] ≤ 12
    · have e : (L_decode_regs_2.turn (false, r, ((r.length : Nat) : Int), 0) () (ok, (i : Int))).val = some (.on (ok, ((i + 1 : Nat) : Int))) := by
        dsimp only [L_decode_regs_2, PO.val]
        rw [dec_true (p := (i : Int) < ((r.length : Nat) : Int)) (by omega), inR hi, getD_nat, getD_in r _ hi, dec_false (p := r[i] > 12) (by omega), hw]
        rfl
      obtain ⟨o, st, g1, g2⟩ := regs_run r hr ok k (i + 1) (by omega) f (by omega)
      exact ⟨o, st, (runL_on e).trans g1, by rw [dec_true hb, Bool.true_and]; exact g2⟩
    · have e : (L_decode_regs_2.turn (false, r, ((r.length : Nat) : Int), 0) () (ok, (i : Int))).val = some (.out 1 (false, (i : Int))) := by
        dsimp only [L_decode_regs_2, PO.val]
        rw [dec_true (p := (i : Int) < ((r.length : Nat) : Int)) (by omega), inR hi, getD_nat, getD_in r _ hi, dec_true (p := r[i] > 12) (by omega)]
        rfl
      exact ⟨1, _, runL_out e, by rw [dec_false hb]; rfl⟩
/-- decode.regs -/
abbrev A_decode_regs : List Ty := [(.sl (.int .i64))]
abbrev S_decode_regs : Sh := Sh.ty Ty.bool
def T_decode_regs (x : dens A_decode_regs) : PO (Sh.den S_decode_regs) :=
  (.opt (LoopN.res L_decode_regs_2 (false, x, lenI x, 0) ()) fun p0 =>
   (.ite (way p0.1)
    (.ret (true))
    (.ret (p0.2.1))))
def G_decode_regs (x : dens A_decode_regs) : Bool := Nat.blt (List.length x) 100
def V_decode_regs (x : dens A_decode_regs) : Sh.den S_decode_regs := List.all x fun r => decide ((r : Int) ≤ 12)
theorem ok_decode_regs (x : dens A_decode_regs) (h : G_decode_regs x = true) : (T_decode_regs x).val = some (V_decode_regs x) := by
  have hl : List.length x < 100 := Nat.blt_eq ▸ h
  obtain ⟨o, st, h1, h2⟩ := regs_run x hl false (List.length x) 0 (by omega) (List.length x + 1) (by omega)
  have h1' : LoopN.res L_decode_regs_2 (false, x, lenI x, 0) () = some (o, st) := h1
  unfold T_decode_regs PO.val
  rw [h1']
  exact h2
/-- decode.Size -/
abbrev A_decode_Size : List Ty := [.str]
abbrev S_decode_Size : Sh := Sh.ty (Ty.int IntKind.i64)
def T_decode_Size (x : dens A_decode_Size) : PO (Sh.den S_decode_Size) :=
  (.ite (decide (lenI x < 2))
   (.ret (0))
   (.ite (G_decode_half (x, 0))
    (.ite (decide (ishr IntKind.i64 (V_decode_half (x, 0)) 11 ≥ 29))
     (.ret (4))
     (.ret (2)))
    .fail))
def G_decode_Size (_ : dens A_decode_Size) : Bool := true
def V_decode_Size (x : dens A_decode_Size) : Sh.den S_decode_Size := bif decide (lenI x < 2) then 0 else bif Nat.ble 59392 (halfN x 0) then 4 else 2
theorem ok_decode_Size (x : dens A_decode_Size) (_ : G_decode_Size x = true) : (T_decode_Size x).val = some (V_decode_Size x) := by
  unfold T_decode_Size V_decode_Size PO.val
  cases hl : decide (lenI x < 2)
  · have hl := of_decide_eq_false hl
    have g : G_decode_half (x, 0) = true := by
      simp only [G_decode_half, Bool.or_eq_true, Bool.and_eq_true, beq_iff_eq, decide_eq_true_eq]
      exact .inl ⟨trivial, by omega⟩
    have e : ishr IntKind.i64 (V_decode_half (x, 0)) 11 = ((halfN x 0 : Nat) : Int) / (2 ^ 11 : Nat) := ishr_i64 _ 11 (by omega)
    dsimp only [cond_false, PO.val]
    rw [g, e]
    dsimp only [cond_true, PO.val]
    cases hb : Nat.ble 59392 (halfN x 0)
    · have hb : ¬ 59392 ≤ halfN x 0 := by rw [← Nat.ble_eq, hb]; simp
      rw [dec_false (by omega)]
      rfl
    · have hb := Nat.le_of_ble_eq_true hb
      rw [dec_true (by omega)]
      rfl
  · rfl
/-- decode.narrow -/
abbrev A_decode_narrow : List Ty := [(.int .i64)]
abbrev S_decode_narrow : Sh := Sh.tup (Sh.pair (Sh.ty tIns) (Sh.pair (Sh.ty Ty.bool) (Sh.ty Ty.unit)))
def T_decode_narrow (x : dens A_decode_narrow) : PO (Sh.den S_decode_narrow) :=
  (.ite (G_decode_some (x, 0, 3) && G_decode_some (x, 3, 3))
   (.ite (x == 48896)
    (.ret (((1, 0, 0, 0, 0, 0, 0, false, ()), true, ())))
    (.ite (ishr IntKind.i64 x 8 == 190)
     (.ite (G_decode_some (x, 0, 8))
      (.ret (((2, 0, 0, 0, 0, V_decode_some (x, 0, 8), 0, false, ()), true, ())))
      .fail)
     (.ite (ishr IntKind.i64 x 6 == 416)
      (.ret (((19, V_decode_some (x, 0, 3), V_decode_some (x, 3, 3), 0, 0, 0, 0, false, ()), true, ())))
      (.ite (ishr IntKind.i64 x 6 == 384)
       (.ret (((20, V_decode_some (x, 0, 3), V_decode_some (x, 3, 3), 0, 0, 0, 0, false, ()), true, ())))
       (.ite (ishr IntKind.i64 x 6 == 480)
        (.ret (((21, V_decode_some (x, 0, 3), V_decode_some (x, 3, 3), 0, 0, 0, 0, false, ()), true, ())))
        (.ite (ishr IntKind.i64 x 6 == 448)
         (.ret (((22, V_decode_some (x, 0, 3), V_decode_some (x, 3, 3), 0, 0, 0, 0, false, ()), true, ())))
         (.ite (ishr IntKind.i64 x 6 == 266)
          (.ret (((23, 0, V_decode_some (x, 0, 3), V_decode_some (x, 3, 3), 0, 0, 0, false, ()), true, ())))
          (.ite (ishr IntKind.i64 x 11 == 28)
           (.ite (G_decode_some (x, 0, 11))
            (.ite (G_decode_signed (V_decode_some (x, 0, 11), 11))
             (.ret (((24, 0, 0, 0, 0, w64 (2 * V_decode_signed (V_decode_some (x, 0, 11), 11)), 0, false, ()), true, ())))
             .fail)
            .fail)
           (.ite (bif ishr IntKind.i64 x 12 == 13 then G_decode_some (x, 8, 4) else true)
            (.ite (ishr IntKind.i64 x 12 == 13 && decide (V_decode_some (x, 8, 4) ≤ 13))
             (.ite (G_decode_some (x, 8, 4))
              (.ite (G_decode_some (x, 0, 8))
               (.ite (G_decode_signed (V_decode_some (x, 0, 8), 8))
                (.ret (((25, 0, 0, 0, 0, w64 (2 * V_decode_signed (V_decode_some (x, 0, 8), 8)), V_decode_some (x, 8, 4), false, ()), true, ())))
                .fail)
               .fail)
              .fail)
             (.ret (((0, 0, 0, 0, 0, 0, 0, false, ()), false, ()))))
            .fail)))))))))
   .fail)
def G_decode_narrow (x : dens A_decode_narrow) : Bool := (T_decode_narrow x).val.isSome
def V_decode_narrow (x : dens A_decode_narrow) : Sh.den S_decode_narrow := (T_decode_narrow x).getO default
theorem ok_decode_narrow (x : dens A_decode_narrow) (h : G_decode_narrow x = true) : (T_decode_narrow x).val = some (V_decode_narrow x) := PO.getO_ok default h
/-- decode.three -/
abbrev A_decode_three : List Ty := [(.int .i64), (.int .i64)]
abbrev S_decode_three : Sh := Sh.tup (Sh.pair (Sh.ty tIns) (Sh.pair (Sh.ty Ty.bool) (Sh.ty Ty.unit)))
def T_decode_three (x : dens A_decode_three) : PO (Sh.den S_decode_three) :=
  (.ite (G_decode_some (x.2, 8, 4))
   (.ite (G_decode_some (x.1, 0, 4))
    (.ite (G_decode_some (x.2, 0, 4))
     (.ite (G_decode_some (x.2, 12, 3) && G_decode_some (x.2, 6, 2))
      (.ite (G_decode_some (x.2, 4, 2))
       (.ite (ishr IntKind.i64 x.2 15 == 1)
        (.ret (((0, 0, 0, 0, 0, 0, 0, false, ()), false, ())))
        (.ite (x.1 == 59983)
         (.ite (G_decode_regs [V_decode_some (x.2, 8, 4), V_decode_some (x.2, 0, 4)])
          (.ite (V_decode_regs [V_decode_some (x.2, 8, 4), V_decode_some (x.2, 0, 4)])
           (.ite (V_decode_some (x.2, 4, 2) == 0)
            (.ret (((w64 (5 + V_decode_some (x.2, 4, 2)), V_decode_some (x.2, 8, 4), 0, V_decode_some (x.2, 0, 4), 0, bor IntKind.i64 (ishl IntKind.i64 (V_decode_some (x.2, 12, 3)) 2) (V_decode_some (x.2, 6, 2)), 0, false, ()), true, ())))
            (.ret (((w64 (5 + V_decode_some (x.2, 4, 2)), V_decode_some (x.2, 8, 4), 0, V_decode_some (x.2, 0, 4), 0, bor IntKind.i64 (ishl IntKind.i64 (V_decode_some (x.2, 12, 3)) 2) (V_decode_some (x.2, 6, 2)), 0, false, ()), decide (bor IntKind.i64 (ishl IntKind.i64 (V_decode_some (x.2, 12, 3)) 2) (V_decode_some (x.2, 6, 2)) > 0), ()))))
           (.ret (((w64 (5 + V_decode_some (x.2, 4, 2)), V_decode_some (x.2, 8, 4), 0, V_decode_some (x.2, 0, 4), 0, bor IntKind.i64 (ishl IntKind.i64 (V_decode_some (x.2, 12, 3)) 2) (V_decode_some (x.2, 6, 2)), 0, false, ()), false, ()))))
          .fail)
         (.ite (x.1 == 60015)
          (.ite (G_decode_regs [V_decode_some (x.2, 8, 4), V_decode_some (x.2, 0, 4)])
           (.ite (V_decode_regs [V_decode_some (x.2, 8, 4), V_decode_some (x.2, 0, 4)])
            (.ite (V_decode_some (x.2, 4, 2) == 0)
             (.ret (((9, V_decode_some (x.2, 8, 4), 0, V_decode_some (x.2, 0, 4), 0, 0, 0, false, ()), bor IntKind.i64 (ishl IntKind.i64 (V_decode_some (x.2, 12, 3)) 2) (V_decode_some (x.2, 6, 2)) == 0, ())))
             (.ret (((9, V_decode_some (x.2, 8, 4), 0, V_decode_some (x.2, 0, 4), 0, 0, 0, false, ()), false, ()))))
            (.ret (((9, V_decode_some (x.2, 8, 4), 0, V_decode_some (x.2, 0, 4), 0, 0, 0, false, ()), false, ()))))
           .fail)
          (.ite (bnot IntKind.i64 x.1 15 == 59904)
           (.ite (G_decode_regs [V_decode_some (x.2, 8, 4), V_decode_some (x.1, 0, 4), V_decode_some (x.2, 0, 4)])
            (.ite (V_decode_regs [V_decode_some (x.2, 8, 4), V_decode_some (x.1, 0, 4), V_decode_some (x.2, 0, 4)])
             (.ite (V_decode_some (x.2, 4, 2) == 0)
              (.ret (((10, V_decode_some (x.2, 8, 4), V_decode_some (x.1, 0, 4), V_decode_some (x.2, 0, 4), 0, 0, 0, false, ()), bor IntKind.i64 (ishl IntKind.i64 (V_decode_some (x.2, 12, 3)) 2) (V_decode_some (x.2, 6, 2)) == 0, ())))
              (.ret (((10, V_decode_some (x.2, 8, 4), V_decode_some (x.1, 0, 4), V_decode_some (x.2, 0, 4), 0, 0, 0, false, ()), false, ()))))
             (.ret (((10, V_decode_some (x.2, 8, 4), V_decode_some (x.1, 0, 4), V_decode_some (x.2, 0, 4), 0, 0, 0, false, ()), false, ()))))
            .fail)
           (.ite (bnot IntKind.i64 x.1 15 == 59936)
            (.ite (G_decode_regs [V_decode_some (x.2, 8, 4), V_decode_some (x.1, 0, 4), V_decode_some (x.2, 0, 4)])
             (.ite (V_decode_regs [V_decode_some (x.2, 8, 4), V_decode_some (x.1, 0, 4), V_decode_some (x.2, 0, 4)])
              (.ite (V_decode_some (x.2, 4, 2) == 0)
               (.ret (((11, V_decode_some (x.2, 8, 4), V_decode_some (x.1, 0, 4), V_decode_some (x.2, 0, 4), 0, 0, 0, false, ()), bor IntKind.i64 (ishl IntKind.i64 (V_decode_some (x.2, 12, 3)) 2) (V_decode_some (x.2, 6, 2)) == 0, ())))
               (.ret (((11, V_decode_some (x.2, 8, 4), V_decode_some (x.1, 0, 4), V_decode_some (x.2, 0, 4), 0, 0, 0, false, ()), false, ()))))
              (.ret (((11, V_decode_some (x.2, 8, 4), V_decode_some (x.1, 0, 4), V_decode_some (x.2, 0, 4), 0, 0, 0, false, ()), false, ()))))
             .fail)
            (.ite (bnot IntKind.i64 x.1 15 == 59968)
             (.ite (G_decode_regs [V_decode_some (x.2, 8, 4), V_decode_some (x.1, 0, 4), V_decode_some (x.2, 0, 4)])
              (.ite (V_decode_regs [V_decode_some (x.2, 8, 4), V_decode_some (x.1, 0, 4), V_decode_some (x.2, 0, 4)])
               (.ite (V_decode_some (x.2, 4, 2) == 0)
                (.ret (((12, V_decode_some (x.2, 8, 4), V_decode_some (x.1, 0, 4), V_decode_some (x.2, 0, 4), 0, 0, 0, false, ()), bor IntKind.i64 (ishl IntKind.i64 (V_decode_some (x.2, 12, 3)) 2) (V_decode_some (x.2, 6, 2)) == 0, ())))
                (.ret (((12, V_decode_some (x.2, 8, 4), V_decode_some (x.1, 0, 4), V_decode_some (x.2, 0, 4), 0, 0, 0, false, ()), false, ()))))
               (.ret (((12, V_decode_some (x.2, 8, 4), V_decode_some (x.1, 0, 4), V_decode_some (x.2, 0, 4), 0, 0, 0, false, ()), false, ()))))
              .fail)
             (.ite (bnot IntKind.i64 x.1 15 == 60032)
              (.ite (G_decode_regs [V_decode_some (x.2, 8, 4), V_decode_some (x.1, 0, 4), V_decode_some (x.2, 0, 4)])
               (.ite (V_decode_regs [V_decode_some (x.2, 8, 4), V_decode_some (x.1, 0, 4), V_decode_some (x.2, 0, 4)])
                (.ite (V_decode_some (x.2, 4, 2) == 0)
                 (.ret (((13, V_decode_some (x.2, 8, 4), V_decode_some (x.1, 0, 4), V_decode_some (x.2, 0, 4), 0, 0, 0, false, ()), bor IntKind.i64 (ishl IntKind.i64 (V_decode_some (x.2, 12, 3)) 2) (V_decode_some (x.2, 6, 2)) == 0, ())))
                 (.ret (((13, V_decode_some (x.2, 8, 4), V_decode_some (x.1, 0, 4), V_decode_some (x.2, 0, 4), 0, 0, 0, false, ()), false, ()))))
                (.ret (((13, V_decode_some (x.2, 8, 4), V_decode_some (x.1, 0, 4), V_decode_some (x.2, 0, 4), 0, 0, 0, false, ()), false, ()))))
               .fail)
              (.ite (bnot IntKind.i64 x.1 15 == 60160)
               (.ite (G_decode_regs [V_decode_some (x.2, 8, 4), V_decode_some (x.1, 0, 4), V_decode_some (x.2, 0, 4)])
                (.ite (V_decode_regs [V_decode_some (x.2, 8, 4), V_decode_some (x.1, 0, 4), V_decode_some (x.2, 0, 4)])
                 (.ite (V_decode_some (x.2, 4, 2) == 0)
                  (.ret (((14, V_decode_some (x.2, 8, 4), V_decode_some (x.1, 0, 4), V_decode_some (x.2, 0, 4), 0, 0, 0, false, ()), bor IntKind.i64 (ishl IntKind.i64 (V_decode_some (x.2, 12, 3)) 2) (V_decode_some (x.2, 6, 2)) == 0, ())))
                  (.ret (((14, V_decode_some (x.2, 8, 4), V_decode_some (x.1, 0, 4), V_decode_some (x.2, 0, 4), 0, 0, 0, false, ()), false, ()))))
                 (.ret (((14, V_decode_some (x.2, 8, 4), V_decode_some (x.1, 0, 4), V_decode_some (x.2, 0, 4), 0, 0, 0, false, ()), false, ()))))
                .fail)
               (.ite (bnot IntKind.i64 x.1 15 == 60320)
                (.ite (G_decode_regs [V_decode_some (x.2, 8, 4), V_decode_some (x.1, 0, 4), V_decode_some (x.2, 0, 4)])
                 (.ite (V_decode_regs [V_decode_some (x.2, 8, 4), V_decode_some (x.1, 0, 4), V_decode_some (x.2, 0, 4)])
                  (.ite (V_decode_some (x.2, 4, 2) == 0)
                   (.ret (((15, V_decode_some (x.2, 8, 4), V_decode_some (x.1, 0, 4), V_decode_some (x.2, 0, 4), 0, 0, 0, false, ()), bor IntKind.i64 (ishl IntKind.i64 (V_decode_some (x.2, 12, 3)) 2) (V_decode_some (x.2, 6, 2)) == 0, ())))
                   (.ret (((15, V_decode_some (x.2, 8, 4), V_decode_some (x.1, 0, 4), V_decode_some (x.2, 0, 4), 0, 0, 0, false, ()), false, ()))))
                  (.ret (((15, V_decode_some (x.2, 8, 4), V_decode_some (x.1, 0, 4), V_decode_some (x.2, 0, 4), 0, 0, 0, false, ()), false, ()))))
                 .fail)
                (.ret (((0, 0, 0, 0, 0, 0, 0, false, ()), false, ()))))))))))))
       .fail)
      .fail)
     .fail)
    .fail)
   .fail)
def G_decode_three (x : dens A_decode_three) : Bool := (T_decode_three x).val.isSome
def V_decode_three (x : dens A_decode_three) : Sh.den S_decode_three := (T_decode_three x).getO default
theorem ok_decode_three (x : dens A_decode_three) (h : G_decode_three x = true) : (T_decode_three x).val = some (V_decode_three x) := PO.getO_ok default h
/-- decode.product -/
abbrev A_decode_product : List Ty := [(.int .i64), (.int .i64)]
abbrev S_decode_product : Sh := Sh.tup (Sh.pair (Sh.ty tIns) (Sh.pair (Sh.ty Ty.bool) (Sh.ty Ty.unit)))
def T_decode_product (x : dens A_decode_product) : PO (Sh.den S_decode_product) :=
  (.ite (G_decode_some (x.1, 0, 4))
   (.ite (G_decode_some (x.2, 0, 4))
    (.ite (G_decode_some (x.2, 12, 4) && G_decode_some (x.2, 8, 4))
     (.ite (G_decode_some (x.2, 4, 4))
      (.ite (V_decode_some (x.2, 4, 4) != 0)
       (.ret (((0, 0, 0, 0, 0, 0, 0, false, ()), false, ())))
       (.ite (bnot IntKind.i64 x.1 15 == 64256)
        (.ite (V_decode_some (x.2, 12, 4) == 15)
         (.ite (G_decode_regs [V_decode_some (x.2, 8, 4), V_decode_some (x.1, 0, 4), V_decode_some (x.2, 0, 4)])
          (.ret (((16, V_decode_some (x.2, 8, 4), V_decode_some (x.1, 0, 4), V_decode_some (x.2, 0, 4), 0, 0, 0, false, ()), V_decode_regs [V_decode_some (x.2, 8, 4), V_decode_some (x.1, 0, 4), V_decode_some (x.2, 0, 4)], ())))
          .fail)
         (.ret (((16, V_decode_some (x.2, 8, 4), V_decode_some (x.1, 0, 4), V_decode_some (x.2, 0, 4), 0, 0, 0, false, ()), false, ()))))
        (.ite (bnot IntKind.i64 x.1 15 == 64416)
         (.ite (V_decode_some (x.2, 12, 4) != V_decode_some (x.2, 8, 4))
          (.ite (G_decode_regs [V_decode_some (x.2, 12, 4), V_decode_some (x.2, 8, 4), V_decode_some (x.1, 0, 4), V_decode_some (x.2, 0, 4)])
           (.ret (((17, V_decode_some (x.2, 12, 4), V_decode_some (x.1, 0, 4), V_decode_some (x.2, 0, 4), V_decode_some (x.2, 8, 4), 0, 0, false, ()), V_decode_regs [V_decode_some (x.2, 12, 4), V_decode_some (x.2, 8, 4), V_decode_some (x.1, 0, 4), V_decode_some (x.2, 0, 4)], ())))
           .fail)
          (.ret (((17, V_decode_some (x.2, 12, 4), V_decode_some (x.1, 0, 4), V_decode_some (x.2, 0, 4), V_decode_some (x.2, 8, 4), 0, 0, false, ()), false, ()))))
         (.ret (((0, 0, 0, 0, 0, 0, 0, false, ()), false, ()))))))
      .fail)
     .fail)
    .fail)
   .fail)
def G_decode_product (x : dens A_decode_product) : Bool := (T_decode_product x).val.isSome
def V_decode_product (x : dens A_decode_product) : Sh.den S_decode_product := (T_decode_product x).getO default
theorem ok_decode_product (x : dens A_decode_product) (h : G_decode_product x = true) : (T_decode_product x).val = some (V_decode_product x) := PO.getO_ok default h
/-- decode.plain -/
abbrev A_decode_plain : List Ty := [(.int .i64), (.int .i64)]
abbrev S_decode_plain : Sh := Sh.tup (Sh.pair (Sh.ty tIns) (Sh.pair (Sh.ty Ty.bool) (Sh.ty Ty.unit)))
def T_decode_plain (x : dens A_decode_plain) : PO (Sh.den S_decode_plain) :=
  (.ite (G_decode_some (x.2, 8, 4))
   (.ite (ishr IntKind.i64 x.2 15 == 1)
    (.ret (((0, 0, 0, 0, 0, 0, 0, false, ()), false, ())))
    (.ite (bnot IntKind.i64 x.1 15 == 62304)
     (.ite (G_decode_some (x.1, 0, 4))
      (.ite (G_decode_some (x.2, 12, 3))
       (.ite (G_decode_some (x.2, 6, 2))
        (.ite (G_decode_some (x.2, 0, 5))
         (.ite (G_decode_some (x.2, 5, 1))
          (.ite (V_decode_some (x.2, 5, 1) == 0)
           (.ite (decide (w64 (w64 (V_decode_some (x.2, 0, 5) + 1) - bor IntKind.i64 (ishl IntKind.i64 (V_decode_some (x.2, 12, 3)) 2) (V_decode_some (x.2, 6, 2))) ≥ 1))
            (.ite (G_decode_regs [V_decode_some (x.2, 8, 4), V_decode_some (x.1, 0, 4)])
             (.ret (((18, V_decode_some (x.2, 8, 4), V_decode_some (x.1, 0, 4), 0, w64 (w64 (V_decode_some (x.2, 0, 5) + 1) - bor IntKind.i64 (ishl IntKind.i64 (V_decode_some (x.2, 12, 3)) 2) (V_decode_some (x.2, 6, 2))), bor IntKind.i64 (ishl IntKind.i64 (V_decode_some (x.2, 12, 3)) 2) (V_decode_some (x.2, 6, 2)), 0, false, ()), V_decode_regs [V_decode_some (x.2, 8, 4), V_decode_some (x.1, 0, 4)], ())))
             .fail)
            (.ret (((18, V_decode_some (x.2, 8, 4), V_decode_some (x.1, 0, 4), 0, w64 (w64 (V_decode_some (x.2, 0, 5) + 1) - bor IntKind.i64 (ishl IntKind.i64 (V_decode_some (x.2, 12, 3)) 2) (V_decode_some (x.2, 6, 2))), bor IntKind.i64 (ishl IntKind.i64 (V_decode_some (x.2, 12, 3)) 2) (V_decode_some (x.2, 6, 2)), 0, false, ()), false, ()))))
           (.ret (((18, V_decode_some (x.2, 8, 4), V_decode_some (x.1, 0, 4), 0, w64 (w64 (V_decode_some (x.2, 0, 5) + 1) - bor IntKind.i64 (ishl IntKind.i64 (V_decode_some (x.2, 12, 3)) 2) (V_decode_some (x.2, 6, 2))), bor IntKind.i64 (ishl IntKind.i64 (V_decode_some (x.2, 12, 3)) 2) (V_decode_some (x.2, 6, 2)), 0, false, ()), false, ()))))
          .fail)
         .fail)
        .fail)
       .fail)
      .fail)
     (.ite (bnot IntKind.i64 x.1 1039 == 62016)
      (.ite (G_decode_some (x.1, 0, 4))
       (.ite (G_decode_some (x.1, 10, 1))
        (.ite (G_decode_some (x.2, 12, 3))
         (.ite (G_decode_some (x.2, 0, 8))
          (.ite (G_decode_regs [V_decode_some (x.2, 8, 4)])
           (.ret (((3, V_decode_some (x.2, 8, 4), 0, 0, 0, bor IntKind.i64 (bor IntKind.i64 (bor IntKind.i64 (ishl IntKind.i64 (V_decode_some (x.1, 0, 4)) 12) (ishl IntKind.i64 (V_decode_some (x.1, 10, 1)) 11)) (ishl IntKind.i64 (V_decode_some (x.2, 12, 3)) 8)) (V_decode_some (x.2, 0, 8)), 0, false, ()), V_decode_regs [V_decode_some (x.2, 8, 4)], ())))
           .fail)
          .fail)
         .fail)
        .fail)
       .fail)
      (.ite (bnot IntKind.i64 x.1 1039 == 62144)
       (.ite (G_decode_some (x.1, 0, 4))
        (.ite (G_decode_some (x.1, 10, 1))
         (.ite (G_decode_some (x.2, 12, 3))
          (.ite (G_decode_some (x.2, 0, 8))
           (.ite (G_decode_regs [V_decode_some (x.2, 8, 4)])
            (.ret (((4, V_decode_some (x.2, 8, 4), 0, 0, 0, bor IntKind.i64 (bor IntKind.i64 (bor IntKind.i64 (ishl IntKind.i64 (V_decode_some (x.1, 0, 4)) 12) (ishl IntKind.i64 (V_decode_some (x.1, 10, 1)) 11)) (ishl IntKind.i64 (V_decode_some (x.2, 12, 3)) 8)) (V_decode_some (x.2, 0, 8)), 0, false, ()), V_decode_regs [V_decode_some (x.2, 8, 4)], ())))
            .fail)
           .fail)
          .fail)
         .fail)
        .fail)
       (.ret (((0, 0, 0, 0, 0, 0, 0, false, ()), false, ())))))))
   .fail)
def G_decode_plain (x : dens A_decode_plain) : Bool := (T_decode_plain x).val.isSome
def V_decode_plain (x : dens A_decode_plain) : Sh.den S_decode_plain := (T_decode_plain x).getO default
theorem ok_decode_plain (x : dens A_decode_plain) (h : G_decode_plain x = true) : (T_decode_plain x).val = some (V_decode_plain x) := PO.getO_ok default h
/-- decode.branch -/
abbrev A_decode_branch : List Ty := [(.int .i64), (.int .i64)]
abbrev S_decode_branch : Sh := Sh.tup (Sh.pair (Sh.ty tIns) (Sh.pair (Sh.ty Ty.bool) (Sh.ty Ty.unit)))
def T_decode_branch (x : dens A_decode_branch) : PO (Sh.den S_decode_branch) :=
  (.ite (G_decode_some (x.1, 10, 1) && (G_decode_some (x.2, 13, 1) && G_decode_some (x.2, 11, 1)))
   (.ite (G_decode_some (x.2, 0, 11))
    (.ite (ishr IntKind.i64 x.1 11 != 30 || ishr IntKind.i64 x.2 14 != 2)
     (.ret (((0, 0, 0, 0, 0, 0, 0, false, ()), false, ())))
     (.ite (G_decode_some (x.2, 12, 1))
      (.ite (V_decode_some (x.2, 12, 1) == 1)
       (.ite (G_decode_some (x.1, 0, 10))
        (.ite (G_decode_signed (bor IntKind.i64 (bor IntKind.i64 (bor IntKind.i64 (bor IntKind.i64 (ishl IntKind.i64 (V_decode_some (x.1, 10, 1)) 23) (ishl IntKind.i64 (bxor IntKind.i64 (bxor IntKind.i64 1 (V_decode_some (x.2, 13, 1))) (V_decode_some (x.1, 10, 1))) 22)) (ishl IntKind.i64 (bxor IntKind.i64 (bxor IntKind.i64 1 (V_decode_some (x.2, 11, 1))) (V_decode_some (x.1, 10, 1))) 21)) (ishl IntKind.i64 (V_decode_some (x.1, 0, 10)) 11)) (V_decode_some (x.2, 0, 11)), 24))
         (.ret (((24, 0, 0, 0, 0, w64 (2 * V_decode_signed (bor IntKind.i64 (bor IntKind.i64 (bor IntKind.i64 (bor IntKind.i64 (ishl IntKind.i64 (V_decode_some (x.1, 10, 1)) 23) (ishl IntKind.i64 (bxor IntKind.i64 (bxor IntKind.i64 1 (V_decode_some (x.2, 13, 1))) (V_decode_some (x.1, 10, 1))) 22)) (ishl IntKind.i64 (bxor IntKind.i64 (bxor IntKind.i64 1 (V_decode_some (x.2, 11, 1))) (V_decode_some (x.1, 10, 1))) 21)) (ishl IntKind.i64 (V_decode_some (x.1, 0, 10)) 11)) (V_decode_some (x.2, 0, 11)), 24)), 0, true, ()), true, ())))
         .fail)
        .fail)
       (.ite (G_decode_some (x.1, 6, 4))
        (.ite (G_decode_some (x.1, 0, 6))
         (.ite (G_decode_signed (bor IntKind.i64 (bor IntKind.i64 (bor IntKind.i64 (bor IntKind.i64 (ishl IntKind.i64 (V_decode_some (x.1, 10, 1)) 19) (ishl IntKind.i64 (V_decode_some (x.2, 11, 1)) 18)) (ishl IntKind.i64 (V_decode_some (x.2, 13, 1)) 17)) (ishl IntKind.i64 (V_decode_some (x.1, 0, 6)) 11)) (V_decode_some (x.2, 0, 11)), 20))
          (.ret (((25, 0, 0, 0, 0, w64 (2 * V_decode_signed (bor IntKind.i64 (bor IntKind.i64 (bor IntKind.i64 (bor IntKind.i64 (ishl IntKind.i64 (V_decode_some (x.1, 10, 1)) 19) (ishl IntKind.i64 (V_decode_some (x.2, 11, 1)) 18)) (ishl IntKind.i64 (V_decode_some (x.2, 13, 1)) 17)) (ishl IntKind.i64 (V_decode_some (x.1, 0, 6)) 11)) (V_decode_some (x.2, 0, 11)), 20)), V_decode_some (x.1, 6, 4), true, ()), decide (V_decode_some (x.1, 6, 4) ≤ 13), ())))
          .fail)
         .fail)
        .fail))
      .fail))
    .fail)
   .fail)
def G_decode_branch (x : dens A_decode_branch) : Bool := (T_decode_branch x).val.isSome
def V_decode_branch (x : dens A_decode_branch) : Sh.den S_decode_branch := (T_decode_branch x).getO default
theorem ok_decode_branch (x : dens A_decode_branch) (h : G_decode_branch x = true) : (T_decode_branch x).val = some (V_decode_branch x) := PO.getO_ok default h
/-- decode.long -/
abbrev A_decode_long : List Ty := [(.int .i64), (.int .i64)]
abbrev S_decode_long : Sh := Sh.tup (Sh.pair (Sh.ty tIns) (Sh.pair (Sh.ty Ty.bool) (Sh.ty Ty.unit)))
def T_decode_long (x : dens A_decode_long) : PO (Sh.den S_decode_long) :=
  (.ite (G_decode_three x) (.ite (V_decode_three x).2.1 (.ret ((V_decode_three x).1, true, ())) (.ite (G_decode_product x) (.ite (V_decode_product x).2.1 (.ret ((V_decode_product x).1, true, ())) (.ite (G_decode_plain x) (.ite (V_decode_plain x).2.1 (.ret ((V_decode_plain x).1, true, ())) (.ite (G_decode_branch x) (.ite (V_decode_branch x).2.1 (.ret ((V_decode_branch x).1, true, ())) (.ret ((0, 0, 0, 0, 0, 0, 0, false, ()), false, ()))) .fail)) .fail)) .fail)) .fail)
def G_decode_long (x : dens A_decode_long) : Bool := (T_decode_long x).val.isSome
def V_decode_long (x : dens A_decode_long) : Sh.den S_decode_long := (T_decode_long x).getO default
theorem ok_decode_long (x : dens A_decode_long) (h : G_decode_long x = true) : (T_decode_long x).val = some (V_decode_long x) := PO.getO_ok default h
/-- decode.Decode -/
abbrev A_decode_Decode : List Ty := [.str]
abbrev S_decode_Decode : Sh := Sh.tup (Sh.pair (Sh.ty tIns) (Sh.pair (Sh.ty (Ty.int IntKind.i64)) (Sh.pair (Sh.ty (Ty.int IntKind.i64)) (Sh.ty Ty.unit))))
def T_decode_Decode (x : dens A_decode_Decode) : PO (Sh.den S_decode_Decode) :=
  (.ite (V_decode_Size x == 0 || decide (lenI x < V_decode_Size x))
   (.ret (((0, 0, 0, 0, 0, 0, 0, false, ()), 0, 3, ())))
   (.ite (V_decode_Size x == 2)
    (.ite (G_decode_half (x, 0))
     (.ite (G_decode_narrow (V_decode_half (x, 0)))
      (.ite (!(V_decode_narrow (V_decode_half (x, 0))).2.1)
       (.ret (((0, 0, 0, 0, 0, 0, 0, false, ()), 0, 7, ())))
       (.ret (((V_decode_narrow (V_decode_half (x, 0))).1, V_decode_Size x, 0, ()))))
      .fail)
     .fail)
    (.ite (G_decode_half (x, 0))
     (.ite (G_decode_half (x, 1))
      (.ite (G_decode_long (V_decode_half (x, 0), V_decode_half (x, 1)))
       (.ite (!(V_decode_long (V_decode_half (x, 0), V_decode_half (x, 1))).2.1)
        (.ret (((0, 0, 0, 0, 0, 0, 0, false, ()), 0, 7, ())))
        (.ret (((V_decode_long (V_decode_half (x, 0), V_decode_half (x, 1))).1, V_decode_Size x, 0, ()))))
       .fail)
      .fail)
     .fail)))
def G_decode_Decode (x : dens A_decode_Decode) : Bool := (T_decode_Decode x).val.isSome
def V_decode_Decode (x : dens A_decode_Decode) : Sh.den S_decode_Decode := (T_decode_Decode x).getO default
theorem ok_decode_Decode (x : dens A_decode_Decode) (h : G_decode_Decode x = true) : (T_decode_Decode x).val = some (V_decode_Decode x) := PO.getO_ok default h
/-- A number's low bits, the greatest first. -/
def bitsN : Nat → Nat → List Bool
  | 0, _ => []
  | m + 1, n => (n / 2 ^ m % 2 == 1) :: bitsN m n
theorem bitsN_len : ∀ m n : Nat, (bitsN m n).length = m
  | 0, _ => rfl
  | m + 1, n => congrArg (· + 1) (bitsN_len m n)
/-- hauberkref03.power -/
abbrev A_hauberkref03_power : List Ty := [(.int .i64)]
abbrev S_hauberkref03_power : Sh := Sh.ty (Ty.int IntKind.i64)
def V_hauberkref03_power (x : dens A_hauberkref03_power) : Sh.den S_hauberkref03_power := ((2 ^ Int.toNat x : Nat) : Int)
/-- hauberkref03.sign -/
abbrev A_hauberkref03_sign : List Ty := [(.int .i64), (.int .i64)]
abbrev S_hauberkref03_sign : Sh := Sh.ty (Ty.int IntKind.i64)
def V_hauberkref03_sign (x : dens A_hauberkref03_sign) : Sh.den S_hauberkref03_sign := bif decide ((x.1 : Int) ≥ (2 ^ Int.toNat x.2 : Nat)) then (x.1 - 2 * (2 ^ Int.toNat x.2 : Nat) : Int) else x.1
end Go.Av
end
/-! Layer 2: unlike instructions have unlike bytes. -/
section
namespace Go.Av
open Go
theorem hb_inj : ∀ (l m : List Bool) (a b : Nat), l.length = m.length → hb l a = hb m b → a = b ∧ l = m
  | [], [], _, _, _, h => ⟨h, rfl⟩
  | x :: l, y :: m, a, b, hlen, h => by
    unfold hb at h
    obtain ⟨h1, h2⟩ := hb_inj l m _ _ (Nat.succ.inj hlen) h
    refine ⟨?_, ?_⟩
    · cases x <;> cases y <;> simp at h1 <;> omega
    · rw [h2, show x = y by cases x <;> cases y <;> simp at h1 ⊢ <;> omega]
/-- Numbers with the same low bits, within bounds. -/
theorem bits_inj (m : Nat) : ∀ {x y : Int}, 0 ≤ x → x < (2 ^ m : Nat) → 0 ≤ y → y < (2 ^ m : Nat) → (∀ k, k < m → bI x k = bI y k) → x = y := by
  intro x y h1 h2 h3 h4 h
  obtain ⟨a, rfl⟩ := Int.eq_ofNat_of_zero_le h1
  obtain ⟨b, rfl⟩ := Int.eq_ofNat_of_zero_le h3
  have e : a = b := by
    refine Nat.eq_of_testBit_eq fun j => ?_
    by_cases hj : j < m
    · rw [bI_nat, bI_nat]; exact h j hj
    · have : 2 ^ m ≤ 2 ^ j := pow_lt (by omega)
      rw [Nat.testBit_lt_two_pow (by omega), Nat.testBit_lt_two_pow (by omega)]
  rw [e]
/-- Do two rows have unlike fixed letters at a place? -/
def unlike : List UInt8 → List UInt8 → Bool
  | a :: l, b :: m => (a == 48 && b == 49) || ((a == 49 && b == 48) || unlike l m)
  | _, _ => false
end Go.Av
end
/-! Numbers as lists of bits, the greatest first. -/
section
namespace Go.Av
open Go

/-- The number of bits, as Go's number. -/
def H (l : List Bool) : Int := ((hb l 0 : Nat) : Int)
theorem hb_lt0 (l : List Bool) : hb l 0 < 2 ^ l.length := by
  have := hb_lt l 0 0 (by omega)
  rwa [Nat.zero_add] at this
theorem H_nonneg (l : List Bool) : 0 ≤ H l := by unfold H; omega
theorem H_lt {l : List Bool} {k : Nat} (h : l.length ≤ k) : H l < (2 ^ k : Nat) := by
  have h1 := hb_lt0 l
  have h2 : 2 ^ l.length ≤ 2 ^ k := pow_lt h
  unfold H; omega
theorem hb_tb (l : List Bool) (j : Nat) : (hb l 0).testBit j = (decide (j < l.length) && l.getD (l.length - 1 - j) false) := by
  rw [hb_bit]
  by_cases h : j < l.length
  · rw [if_pos h, decide_eq_true h, Bool.true_and]
  · rw [if_neg h, decide_eq_false h, Bool.false_and, Nat.zero_testBit]
theorem hb_shift (l : List Bool) (a : Nat) (h : a ≤ l.length) : hb l 0 / 2 ^ a = hb (l.take (l.length - a)) 0 := by
  refine Nat.eq_of_testBit_eq fun j => ?_
  rw [Nat.testBit_div_two_pow, hb_tb, hb_tb, List.length_take, Nat.min_eq_left (Nat.sub_le ..)]
  by_cases hj : j < l.length - a
  · rw [decide_eq_true hj, decide_eq_true (show j + a < l.length by omega), Bool.true_and, Bool.true_and, List.getD_eq_getElem?_getD, List.getD_eq_getElem?_getD, List.getElem?_take, if_pos (by omega)]
    congr 2; omega
  · rw [decide_eq_false hj, decide_eq_false (show ¬ j + a < l.length by omega), Bool.false_and, Bool.false_and]
theorem hb_low (l : List Bool) (m : Nat) (h : m ≤ l.length) : hb l 0 % 2 ^ m = hb (l.drop (l.length - m)) 0 := by
  refine Nat.eq_of_testBit_eq fun j => ?_
  rw [Nat.testBit_mod_two_pow, hb_tb, hb_tb, List.length_drop]
  by_cases hj : j < m
  · rw [decide_eq_true hj, decide_eq_true (show j < l.length by omega), decide_eq_true (show j < l.length - (l.length - m) by omega), Bool.true_and, Bool.true_and, Bool.true_and, List.getD_eq_getElem?_getD, List.getD_eq_getElem?_getD, List.getElem?_drop]
    congr 2; omega
  · rw [decide_eq_false hj, decide_eq_false (show ¬ j < l.length - (l.length - m) by omega), Bool.false_and, Bool.false_and]
/-- The bits from a place on. -/
def sl (l : List Bool) (a m : Nat) : List Bool := (l.take (l.length - a)).drop (l.length - a - m)
theorem sl_len (l : List Bool) (a m : Nat) (h : a + m ≤ l.length) : (sl l a m).length = m := by
  unfold sl; rw [List.length_drop, List.length_take]; omega
theorem hb_field (l : List Bool) (a m : Nat) (h : a + m ≤ l.length) : hb l 0 / 2 ^ a % 2 ^ m = hb (sl l a m) 0 := by
  have hl : (l.take (l.length - a)).length = l.length - a := by rw [List.length_take]; omega
  rw [hb_shift l a (by omega), hb_low _ m (by omega), hl]
  rfl
theorem some_H (l : List Bool) (a m : Nat) (h : a + m ≤ l.length) : V_decode_some (H l, (a : Int), (m : Int)) = H (sl l a m) := by
  show H l / (2 ^ (a : Int).toNat : Nat) % (2 ^ (m : Int).toNat : Nat) = H (sl l a m)
  rw [Int.toNat_natCast, Int.toNat_natCast]
  unfold H
  rw [← hb_field l a m h]
  norm_cast
theorem bitsN_hb : ∀ (m n : Nat), hb (bitsN m n) 0 = n % 2 ^ m := by
  intro m n
  refine Nat.eq_of_testBit_eq fun j => ?_
  have key : ∀ (m : Nat) (i : Nat), i < m → (bitsN m n).getD i false = n.testBit (m - 1 - i) := by
    intro m
    induction m with
    | zero => intro i h; omega
    | succ m ih =>
      intro i h
      cases i with
      | zero =>
        show (n / 2 ^ m % 2 == 1) = _
        rw [Nat.testBit_eq_decide_div_mod_eq, show m + 1 - 1 - 0 = m by omega, Bool.eq_iff_iff, beq_iff_eq, decide_eq_true_eq]
      | succ i =>
        show (bitsN m n).getD i false = _
        rw [ih i (by omega)]
        congr 1; omega
  rw [hb_tb, Nat.testBit_mod_two_pow, bitsN_len]
  by_cases hj : j < m
  · rw [decide_eq_true hj, Bool.true_and, Bool.true_and, key m _ (by omega)]
    congr 1; omega
  · rw [decide_eq_false hj, Bool.false_and, Bool.false_and]
theorem bits_hb (l : List Bool) : bitsN l.length (hb l 0) = l :=
  (hb_inj _ _ 0 0 (bitsN_len ..) (by rw [bitsN_hb, Nat.mod_eq_of_lt (hb_lt0 l)])).2
/-- Are bits those of a number? -/
def eqC (l : List Bool) (c : Nat) : Bool := l == bitsN l.length c
theorem eqC_H (l : List Bool) (c : Nat) (hc : c < 2 ^ l.length) : (H l == (c : Int)) = eqC l c := by
  unfold eqC H
  rw [Bool.eq_iff_iff, beq_iff_eq, beq_iff_eq]
  constructor
  · intro h
    have h : hb l 0 = c := by omega
    rw [← h, bits_hb]
  · intro h
    rw [h, bitsN_hb, Nat.mod_eq_of_lt hc]
theorem shr_H (l : List Bool) (k c : Nat) (hk : k ≤ l.length) (hk2 : k < 64) (hc : c < 2 ^ (l.length - k)) : (ishr .i64 (H l) (k : Int) == (c : Int)) = eqC (l.take (l.length - k)) c := by
  have e : ishr .i64 (H l) (k : Int) = H (l.take (l.length - k)) := by
    rw [ishr_i64 _ _ hk2]
    unfold H
    rw [← hb_shift l k hk]
    norm_cast
  rw [e, eqC_H _ _ (by rw [List.length_take, Nat.min_eq_left (Nat.sub_le ..)]; exact hc)]
theorem hb_append (a b : List Bool) : hb (a ++ b) 0 = hb a 0 * 2 ^ b.length + hb b 0 := by
  have key : ∀ (b : List Bool) (n : Nat), hb b n = n * 2 ^ b.length + hb b 0 := by
    intro b
    induction b with
    | nil => intro n; simp [hb]
    | cons x b ih =>
      intro n
      show hb b (2 * n + x.toNat) = _ + hb b (2 * 0 + x.toNat)
      rw [Nat.mul_zero, Nat.zero_add, ih (2 * n + x.toNat), ih x.toNat, List.length_cons, Nat.pow_succ]
      generalize 2 ^ b.length = p
      rw [Nat.add_mul, Nat.mul_comm 2 n, Nat.mul_assoc, Nat.mul_comm 2 p]
      omega
  have h2 : ∀ (a : List Bool) (n : Nat), hb (a ++ b) n = hb b (hb a n) := by
    intro a
    induction a with
    | nil => intro n; rfl
    | cons x a ih => intro n; exact ih _
  rw [h2, key]
/-- A field laid on. -/
theorem bor_cat (h k : Nat) (l : List Bool) (hk : k + l.length ≤ 62) (hh : h * 2 ^ (k + l.length) < 4611686018427387904) :
    bor .i64 ((h * 2 ^ (k + l.length) : Nat) : Int) (ishl .i64 (H l) (k : Int)) = (((h * 2 ^ l.length + hb l 0) * 2 ^ k : Nat) : Int) := by
  have h1 := hb_lt0 l
  have hp : 2 ^ (k + l.length) ≤ 2 ^ 62 := pow_lt hk
  have h2 : hb l 0 * 2 ^ k < 2 ^ (k + l.length) := by rw [Nat.pow_add, Nat.mul_comm (2 ^ k)]; exact Nat.mul_lt_mul_of_pos_right h1 (Nat.two_pow_pos k)
  unfold H
  rw [ishl_small _ k (by omega) (by omega), bor_nat (by omega) (by omega), Nat.mul_comm h, ← Nat.two_pow_add_eq_or_of_lt h2, Nat.pow_add, Nat.add_mul, Nat.mul_comm (2 ^ k), Nat.mul_comm h, Nat.mul_assoc, Nat.mul_assoc, Nat.mul_comm h]
theorem bor_end (h : Nat) (l : List Bool) (hk : l.length ≤ 62) (hh : h * 2 ^ l.length < 4611686018427387904) :
    bor .i64 ((h * 2 ^ l.length : Nat) : Int) (H l) = ((h * 2 ^ l.length + hb l 0 : Nat) : Int) := by
  have h1 := hb_lt0 l
  have hp : 2 ^ l.length ≤ 2 ^ 62 := pow_lt hk
  unfold H
  rw [bor_nat (by omega) (by omega), Nat.mul_comm h, Nat.two_pow_add_eq_or_of_lt h1]
theorem ishl_H (l : List Bool) (k : Nat) (hk : l.length + k ≤ 61) : ishl .i64 (H l) (k : Int) = ((hb l 0 * 2 ^ k : Nat) : Int) := by
  have h1 := hb_lt0 l
  have h2 : hb l 0 * 2 ^ k < 2 ^ (l.length + k) := by rw [Nat.pow_add]; exact Nat.mul_lt_mul_of_pos_right h1 (Nat.two_pow_pos k)
  have hp : 2 ^ (l.length + k) ≤ 2 ^ 61 := pow_lt hk
  exact ishl_small _ _ (by omega) (by omega)
theorem bor2 (a b : List Bool) (k : Nat) (hb' : b.length = k) (hk : a.length + k ≤ 61) : bor .i64 (ishl .i64 (H a) (k : Int)) (H b) = H (a ++ b) := by
  subst hb'
  have h1 := hb_lt0 a
  have h2 : hb a 0 * 2 ^ b.length < 2 ^ (a.length + b.length) := by rw [Nat.pow_add]; exact Nat.mul_lt_mul_of_pos_right h1 (Nat.two_pow_pos _)
  have hp : 2 ^ (a.length + b.length) ≤ 2 ^ 61 := pow_lt hk
  rw [ishl_H _ _ hk, bor_end _ _ (by omega) (by omega)]
  unfold H
  rw [hb_append]
theorem bor2' (a b : List Bool) (k j : Nat) (hb' : b.length + j = k) (hk : a.length + k ≤ 61) : bor .i64 (ishl .i64 (H a) (k : Int)) (ishl .i64 (H b) (j : Int)) = ishl .i64 (H (a ++ b)) (j : Int) := by
  subst hb'
  have h1 := hb_lt0 a
  have h2 : hb a 0 * 2 ^ (b.length + j) < 2 ^ (a.length + (b.length + j)) := by rw [Nat.pow_add 2 a.length]; exact Nat.mul_lt_mul_of_pos_right h1 (Nat.two_pow_pos _)
  have hp : 2 ^ (a.length + (b.length + j)) ≤ 2 ^ 61 := pow_lt hk
  rw [ishl_H _ _ hk, Nat.add_comm b.length j, bor_cat _ _ _ (by omega) (by rw [Nat.add_comm j]; omega), ishl_H _ _ (by rw [List.length_append]; omega), hb_append]
theorem hb_and (a b : List Bool) (h : a.length = b.length) : hb (List.zipWith (· && ·) a b) 0 = hb a 0 &&& hb b 0 := by
  refine Nat.eq_of_testBit_eq fun j => ?_
  rw [Nat.testBit_and, hb_tb, hb_tb, hb_tb, List.length_zipWith, h, Nat.min_self]
  by_cases hj : j < b.length
  · rw [decide_eq_true hj, Bool.true_and, Bool.true_and, Bool.true_and, List.getD_eq_getElem?_getD, List.getD_eq_getElem?_getD, List.getD_eq_getElem?_getD, List.getElem?_zipWith,
      List.getElem?_eq_getElem (show b.length - 1 - j < a.length by omega), List.getElem?_eq_getElem (show b.length - 1 - j < b.length by omega)]
    rfl
  · rw [decide_eq_false hj, Bool.false_and, Bool.false_and, Bool.false_and]
theorem bnot_H (l : List Bool) (m : Nat) (hl : l.length = 16) (hm : m < 65536) : bnot .i64 (H l) (m : Int) = H (List.zipWith (· && ·) (bitsN 16 (65535 - m)) l) := by
  have h1 := hb_lt0 l
  rw [hl] at h1
  have h1 : hb l 0 < 65536 := h1
  have e : (BitVec.ofInt 64 ((hb l 0 : Nat) : Int) &&& ~~~(BitVec.ofInt 64 (m : Int))).toNat = hb (List.zipWith (· && ·) (bitsN 16 (65535 - m)) l) 0 := by
    rw [BitVec.toNat_and, BitVec.toNat_not, ofInt_nat (by omega), ofInt_nat (by omega), hb_and _ _ (by rw [bitsN_len, hl]), bitsN_hb]
    refine Nat.eq_of_testBit_eq fun j => ?_
    rw [Nat.testBit_and, Nat.testBit_and]
    by_cases hj : j < 16
    · rw [Bool.and_comm]
      congr 1
      rw [show 2 ^ 64 - 1 - m = (65535 - m) + 2 ^ 16 * 281474976710655 by omega, show (65535 - m) % 2 ^ 16 = 65535 - m by omega, Nat.add_comm, Nat.testBit_two_pow_mul_add _ (by omega), if_pos hj]
    · have : (hb l 0).testBit j = false := by rw [hb_tb, hl, decide_eq_false hj, Bool.false_and]
      rw [this, Bool.false_and, Bool.and_false]
  have e2 : bnot .i64 (H l) (m : Int) = w64 (((BitVec.ofInt 64 ((hb l 0 : Nat) : Int) &&& ~~~(BitVec.ofInt 64 (m : Int))).toNat : Nat) : Int) := rfl
  rw [e2, e]
  have h3 := hb_lt0 (List.zipWith (· && ·) (bitsN 16 (65535 - m)) l)
  rw [List.length_zipWith, bitsN_len, hl] at h3
  rw [w64_nat (Nat.lt_of_lt_of_le h3 (by decide))]
  rfl
theorem bI_H (l : List Bool) (k : Nat) (h : k < l.length) : bI (H l) k = l.getD (l.length - 1 - k) false := by
  unfold H
  rw [← bI_nat, hb_tb, decide_eq_true h, Bool.true_and]

/-- A number's bits, the greatest first. -/
def bis (x : Int) : Nat → List Bool
  | 0 => []
  | m + 1 => bI x m :: bis x m
theorem bis_len (x : Int) : ∀ m, (bis x m).length = m
  | 0 => rfl
  | m + 1 => congrArg (· + 1) (bis_len x m)
theorem bis_getD (x : Int) : ∀ (m i : Nat), i < m → (bis x m).getD i false = bI x (m - 1 - i)
  | m + 1, 0, _ => by show bI x m = _; congr 1
  | m + 1, i + 1, h => by
    show (bis x m).getD i false = _
    rw [bis_getD x m i (by omega)]
    congr 1; omega
theorem H_bis (x : Int) (m : Nat) : H (bis x m) = x % (2 ^ m : Nat) := by
  have hb := mod_pow_nat x m
  have h1 : H (bis x m) < (2 ^ m : Nat) := H_lt (Nat.le_of_eq (bis_len x m))
  refine bits_inj m (H_nonneg _) h1 hb.1 hb.2 fun k hk => ?_
  rw [bI_H _ _ (by rw [bis_len]; exact hk), bis_len, bis_getD _ _ _ (by omega), bI_mod _ hk]
  congr 1; omega
theorem H_bis_id {x : Int} {m : Nat} (h0 : 0 ≤ x) (h : x < (2 ^ m : Nat)) : H (bis x m) = x := by
  rw [H_bis, Int.emod_eq_of_lt h0 h]

/-- A number with a sign. -/
def SG : List Bool → Int
  | [] => 0
  | b :: r => H r - b.toNat * (2 ^ r.length : Nat)
theorem H_cons (b : Bool) (r : List Bool) : H (b :: r) = b.toNat * (2 ^ r.length : Nat) + H r := by
  have := hb_append [b] r
  unfold H
  rw [show b :: r = [b] ++ r from rfl, this, show hb [b] 0 = b.toNat by cases b <;> rfl, Int.natCast_add, Int.natCast_mul]
theorem SG_eq (b : Bool) (r : List Bool) : SG (b :: r) = bif b then H (b :: r) - (2 ^ (r.length + 1) : Nat) else H (b :: r) := by
  unfold SG
  rw [H_cons, Nat.pow_succ]
  cases b
  · simp
  · simp only [Bool.toNat_true, cond_true]; omega
theorem signed_H (b : Bool) (r : List Bool) : V_decode_signed (H (b :: r), ((r.length + 1 : Nat) : Int)) = SG (b :: r) := by
  rw [SG_eq]
  show (bif H (b :: r) / (2 ^ (((r.length + 1 : Nat) : Int) - 1).toNat : Nat) == 1 then H (b :: r) - (2 ^ ((r.length + 1 : Nat) : Int).toNat : Nat) else H (b :: r)) = _
  rw [show (((r.length + 1 : Nat) : Int) - 1).toNat = r.length by omega, Int.toNat_natCast]
  have e : (H (b :: r) / (2 ^ r.length : Nat) == 1) = b := by
    have h := hb_shift (b :: r) r.length (by simp)
    have e2 : (b :: r).length - r.length = 1 := by simp
    rw [e2] at h
    have e3 : H (b :: r) / (2 ^ r.length : Nat) = ((hb [b] 0 : Nat) : Int) := by
      unfold H
      rw [show hb [b] 0 = hb (b :: r) 0 / 2 ^ r.length from h.symm]
      norm_cast
    rw [e3]
    cases b <;> rfl
  rw [e]
theorem SG_twice : ∀ l : List Bool, 2 * SG l = SG (l ++ [false]) ∨ l = []
  | [] => .inr rfl
  | b :: r => .inl (by
    show 2 * (H r - b.toNat * (2 ^ r.length : Nat)) = H (r ++ [false]) - b.toNat * (2 ^ (r ++ [false]).length : Nat)
    have h : H (r ++ [false]) = 2 * H r := by
      unfold H
      rw [hb_append]
      show ((hb r 0 * 2 + 0 : Nat) : Int) = _
      omega
    rw [h, List.length_append, Nat.pow_add]
    generalize 2 ^ r.length = p
    cases b <;> simp <;> omega)
theorem bI_SG (b : Bool) (r : List Bool) (k : Nat) (h : k < r.length + 1) : bI (SG (b :: r)) k = (b :: r).getD (r.length - k) false := by
  have e : SG (b :: r) % (2 ^ (r.length + 1) : Nat) = H (b :: r) % (2 ^ (r.length + 1) : Nat) := by
    rw [SG_eq]
    cases b
    · rfl
    · exact Int.sub_emod_right ..
  rw [← bI_mod (SG (b :: r)) h, e, bI_mod _ h, bI_H _ _ (by simpa using h)]
  congr 1
theorem SG_bis (x : Int) (m : Nat) (h1 : -(2 ^ m : Nat) ≤ x) (h2 : x < (2 ^ m : Nat)) : SG (bis x (m + 1)) = x := by
  show H (bis x m) - (bI x m).toNat * (2 ^ (bis x m).length : Nat) = x
  rw [H_bis, bis_len]
  unfold bI
  have hp := Nat.two_pow_pos m
  by_cases hx : x < 0
  · have hd : x / (2 ^ m : Nat) = -1 := by
      have e1 : (x + (2 ^ m : Nat)) / (2 ^ m : Nat) = 0 := Int.ediv_eq_zero_of_lt (by omega) (by omega)
      rw [Int.add_ediv_of_dvd_right (Int.dvd_refl _), Int.ediv_self (by omega)] at e1
      omega
    have hm := Int.emod_add_mul_ediv x (2 ^ m : Nat)
    rw [hd] at hm ⊢
    simp only [show ((-1 : Int) % 2 == 1) = true from rfl, Bool.toNat_true]
    omega
  · have hd : x / (2 ^ m : Nat) = 0 := Int.ediv_eq_zero_of_lt (by omega) h2
    rw [hd, Int.emod_eq_of_lt (by omega) h2]
    simp
end Go.Av
end
/-! Layer 3: the decoder on lists of bits. Written by wip/tools/decbits.py. -/
section
namespace Go.Av
open Go
theorem sl_length (l : List Bool) (a m : Nat) : (sl l a m).length = min m (l.length - a) := by
  unfold sl; rw [List.length_drop, List.length_take]; omega
theorem signed_H_ (l : List Bool) (m : Nat) (hm : 0 < m) (h : l.length = m) : V_decode_signed (H l, (m : Int)) = SG l := by
  match l with
  | [] => simp at h; omega
  | b :: r => rw [← h]; exact signed_H b r
theorem SG_lt (l : List Bool) (m : Nat) (h : l.length ≤ m) : -((2 ^ m : Nat) : Int) ≤ SG l ∧ SG l < (2 ^ m : Nat) := by
  match l with
  | [] => have := Nat.two_pow_pos m; exact ⟨by show _ ≤ (0 : Int); omega, by show (0 : Int) < _; omega⟩
  | b :: r =>
    have h1 := H_nonneg r
    have h2 := H_lt (l := r) (Nat.le_refl _)
    have h3 : 2 ^ (r.length + 1) ≤ 2 ^ m := pow_lt h
    rw [Nat.pow_succ] at h3
    unfold SG
    cases b
    · simp only [Bool.toNat_false]; constructor <;> omega
    · simp only [Bool.toNat_true]; constructor <;> omega
theorem twice_SG (l : List Bool) (m : Nat) (hm : 0 < m) (h2 : m ≤ 24) (h : l.length = m) : w64 (2 * SG l) = SG (l ++ [false]) := by
  have hb := SG_lt l 24 (by omega)
  rw [w64_id (by omega) (by omega)]
  rcases SG_twice l with e | e
  · exact e
  · subst e; simp at h; omega
theorem gsigned_H (l : List Bool) (m : Nat) (h1 : 1 ≤ m) (h2 : m ≤ 24) (h : l.length = m) : G_decode_signed (H l, (m : Int)) = true := by
  have hb := H_nonneg l
  have hc := H_lt (l := l) (k := 24) (by omega)
  show (decide ((1 : Int) ≤ (m : Int)) && (decide ((m : Int) ≤ 24) && (decide (0 ≤ H l) && decide (H l < 33554432)))) = true
  rw [dec_true (by omega), dec_true (by omega), dec_true (by omega), dec_true (by omega)]
  rfl
/-- Are bits alike? -/
def nx (j s : Bool) : Bool := !(j ^^ s)
theorem bx_H : ∀ (a b : List Bool), a.length = 1 → b.length = 1 → bxor IntKind.i64 (bxor IntKind.i64 1 (H a)) (H b) = H (List.zipWith nx a b)
  | [false], [false], _, _ => rfl
  | [true], [false], _, _ => rfl
  | [false], [true], _, _ => rfl
  | [true], [true], _, _ => rfl
theorem w_small (z : Int) (h1 : -1000000 ≤ z) (h2 : z ≤ 1000000) : w64 z = z := w64_id (by omega) (by omega)
/-- May a register be? -/
def le12 (v : Int) : Bool := decide (v ≤ 12)
abbrev D1 := tIns.den × Bool × Unit
/-- What is decoded, if it is. -/
def op1 (o : Option D1) : Option (Option tIns.den) := o.map fun p => bif p.2.1 then some p.1 else none
theorem op1_step (c : Bool) {a b : Option D1} {a' b' : Option tIns.den} (h1 : op1 a = some a') (h2 : op1 b = some b') : op1 (bif c then a else b) = some (bif c then a' else b') := by cases c <;> assumption
theorem op1_get {o : Option D1} {d : Option tIns.den} (h : op1 o = some d) : ∃ p : D1, o = some p ∧ (bif p.2.1 then some p.1 else none) = d := by
  cases o with
  | none => cases h
  | some p => exact ⟨p, rfl, Option.some.inj h⟩
def dNarrow (l : List Bool) : Option tIns.den :=
 (bif (eqC l 48896) then
 (some (1, 0, 0, 0, 0, 0, 0, false, ())) else
 (bif (eqC (l.take 8) 190) then
 (some (2, 0, 0, 0, 0, H (sl l 0 8), 0, false, ())) else
 (bif (eqC (l.take 10) 416) then
 (some (19, H (sl l 0 3), H (sl l 3 3), 0, 0, 0, 0, false, ())) else
 (bif (eqC (l.take 10) 384) then
 (some (20, H (sl l 0 3), H (sl l 3 3), 0, 0, 0, 0, false, ())) else
 (bif (eqC (l.take 10) 480) then
 (some (21, H (sl l 0 3), H (sl l 3 3), 0, 0, 0, 0, false, ())) else
 (bif (eqC (l.take 10) 448) then
 (some (22, H (sl l 0 3), H (sl l 3 3), 0, 0, 0, 0, false, ())) else
 (bif (eqC (l.take 10) 266) then
 (some (23, 0, H (sl l 0 3), H (sl l 3 3), 0, 0, 0, false, ())) else
 (bif (eqC (l.take 5) 28) then
 (some (24, 0, 0, 0, 0, SG (sl l 0 11 ++ [false]), 0, false, ())) else
 (bif (eqC (l.take 4) 13 && decide (H (sl l 8 4) ≤ 13)) then
 (some (25, 0, 0, 0, 0, SG (sl l 0 8 ++ [false]), H (sl l 8 4), false, ())) else
 none)))))))))
theorem narrow_T (l : List Bool) (hl : l.length = 16) : op1 (T_decode_narrow (H l)).val = some (dNarrow l) := by
  have g1 : G_decode_some (H l, 0, 3) = true := rfl
  have g2 : G_decode_some (H l, 3, 3) = true := rfl
  have g3 : G_decode_some (H l, 0, 8) = true := rfl
  have g4 : G_decode_some (H l, 0, 11) = true := rfl
  have g5 : G_decode_some (H l, 8, 4) = true := rfl
  have g6 : V_decode_some (H l, 0, 8) = H (sl l 0 8) := some_H l 0 8 (by omega)
  have g7 : V_decode_some (H l, 0, 3) = H (sl l 0 3) := some_H l 0 3 (by omega)
  have g8 : V_decode_some (H l, 3, 3) = H (sl l 3 3) := some_H l 3 3 (by omega)
  have g9 : V_decode_some (H l, 0, 11) = H (sl l 0 11) := some_H l 0 11 (by omega)
  have g10 : V_decode_some (H l, 8, 4) = H (sl l 8 4) := some_H l 8 4 (by omega)
  have g11 : (ishr IntKind.i64 (H l) 8 == 190) = eqC (l.take 8) 190 := (by have := shr_H l 8 190 (by omega) (by omega) (by rw [hl]; decide); rw [hl] at this; exact this)
  have g12 : (ishr IntKind.i64 (H l) 6 == 416) = eqC (l.take 10) 416 := (by have := shr_H l 6 416 (by omega) (by omega) (by rw [hl]; decide); rw [hl] at this; exact this)
  have g13 : (ishr IntKind.i64 (H l) 6 == 384) = eqC (l.take 10) 384 := (by have := shr_H l 6 384 (by omega) (by omega) (by rw [hl]; decide); rw [hl] at this; exact this)
  have g14 : (ishr IntKind.i64 (H l) 6 == 480) = eqC (l.take 10) 480 := (by have := shr_H l 6 480 (by omega) (by omega) (by rw [hl]; decide); rw [hl] at this; exact this)
  have g15 : (ishr IntKind.i64 (H l) 6 == 448) = eqC (l.take 10) 448 := (by have := shr_H l 6 448 (by omega) (by omega) (by rw [hl]; decide); rw [hl] at this; exact this)
  have g16 : (ishr IntKind.i64 (H l) 6 == 266) = eqC (l.take 10) 266 := (by have := shr_H l 6 266 (by omega) (by omega) (by rw [hl]; decide); rw [hl] at this; exact this)
  have g17 : (ishr IntKind.i64 (H l) 11 == 28) = eqC (l.take 5) 28 := (by have := shr_H l 11 28 (by omega) (by omega) (by rw [hl]; decide); rw [hl] at this; exact this)
  have g18 : (ishr IntKind.i64 (H l) 12 == 13) = eqC (l.take 4) 13 := (by have := shr_H l 12 13 (by omega) (by omega) (by rw [hl]; decide); rw [hl] at this; exact this)
  have g19 : (H l == 48896) = eqC l 48896 := eqC_H l 48896 (by rw [hl]; decide)
  have g20 : V_decode_signed (H (sl l 0 11), 11) = SG (sl l 0 11) := signed_H_ (sl l 0 11) 11 (by omega) (by simp [sl_length, hl])
  have g21 : G_decode_signed (H (sl l 0 11), 11) = true := gsigned_H _ 11 (by omega) (by omega) (by simp [sl_length, hl])
  have g22 : w64 (2 * SG (sl l 0 11)) = SG (sl l 0 11 ++ [false]) := twice_SG (sl l 0 11) 11 (by omega) (by omega) (by simp [sl_length, hl])
  have g23 : V_decode_signed (H (sl l 0 8), 8) = SG (sl l 0 8) := signed_H_ (sl l 0 8) 8 (by omega) (by simp [sl_length, hl])
  have g24 : G_decode_signed (H (sl l 0 8), 8) = true := gsigned_H _ 8 (by omega) (by omega) (by simp [sl_length, hl])
  have g25 : w64 (2 * SG (sl l 0 8)) = SG (sl l 0 8 ++ [false]) := twice_SG (sl l 0 8) 8 (by omega) (by omega) (by simp [sl_length, hl])
  simp only [T_decode_narrow, PO.val, g1, g2, g3, g4, g5, g6, g7, g8, g9, g10, g11, g12, g13, g14, g15, g16, g17, g18, g19, g20, g21, g22, g23, g24, g25, bne, Bool.and_self, cond_true, cond_false, Bool.cond_self]
  unfold dNarrow
  repeat' (first | refine op1_step _ ?_ ?_ | rfl)
def dThree (lx ly : List Bool) : Option tIns.den :=
 (bif (eqC (ly.take 1) 1) then
 none else
 (bif (eqC lx 59983) then
 (bif ((le12 (H (sl ly 8 4)) && (le12 (H (sl ly 0 4)) && true))) then
 (bif (eqC (sl ly 4 2) 0) then
 (some ((5 + H (sl ly 4 2)), H (sl ly 8 4), 0, H (sl ly 0 4), 0, H (sl ly 12 3 ++ sl ly 6 2), 0, false, ())) else
 (bif (decide (H (sl ly 12 3 ++ sl ly 6 2) > 0)) then some ((5 + H (sl ly 4 2)), H (sl ly 8 4), 0, H (sl ly 0 4), 0, H (sl ly 12 3 ++ sl ly 6 2), 0, false, ()) else none)) else
 none) else
 (bif (eqC lx 60015) then
 (bif ((le12 (H (sl ly 8 4)) && (le12 (H (sl ly 0 4)) && true))) then
 (bif (eqC (sl ly 4 2) 0) then
 (bif (eqC (sl ly 12 3 ++ sl ly 6 2) 0) then some (9, H (sl ly 8 4), 0, H (sl ly 0 4), 0, 0, 0, false, ()) else none) else
 none) else
 none) else
 (bif (eqC (List.zipWith (· && ·) (bitsN 16 65520) lx) 59904) then
 (bif ((le12 (H (sl ly 8 4)) && (le12 (H (sl lx 0 4)) && (le12 (H (sl ly 0 4)) && true)))) then
 (bif (eqC (sl ly 4 2) 0) then
 (bif (eqC (sl ly 12 3 ++ sl ly 6 2) 0) then some (10, H (sl ly 8 4), H (sl lx 0 4), H (sl ly 0 4), 0, 0, 0, false, ()) else none) else
 none) else
 none) else
 (bif (eqC (List.zipWith (· && ·) (bitsN 16 65520) lx) 59936) then
 (bif ((le12 (H (sl ly 8 4)) && (le12 (H (sl lx 0 4)) && (le12 (H (sl ly 0 4)) && true)))) then
 (bif (eqC (sl ly 4 2) 0) then
 (bif (eqC (sl ly 12 3 ++ sl ly 6 2) 0) then some (11, H (sl ly 8 4), H (sl lx 0 4), H (sl ly 0 4), 0, 0, 0, false, ()) else none) else
 none) else
 none) else
 (bif (eqC (List.zipWith (· && ·) (bitsN 16 65520) lx) 59968) then
 (bif ((le12 (H (sl ly 8 4)) && (le12 (H (sl lx 0 4)) && (le12 (H (sl ly 0 4)) && true)))) then
 (bif (eqC (sl ly 4 2) 0) then
 (bif (eqC (sl ly 12 3 ++ sl ly 6 2) 0) then some (12, H (sl ly 8 4), H (sl lx 0 4), H (sl ly 0 4), 0, 0, 0, false, ()) else none) else
 none) else
 none) else
 (bif (eqC (List.zipWith (· && ·) (bitsN 16 65520) lx) 60032) then
 (bif ((le12 (H (sl ly 8 4)) && (le12 (H (sl lx 0 4)) && (le12 (H (sl ly 0 4)) && true)))) then
 (bif (eqC (sl ly 4 2) 0) then
 (bif (eqC (sl ly 12 3 ++ sl ly 6 2) 0) then some (13, H (sl ly 8 4), H (sl lx 0 4), H (sl ly 0 4), 0, 0, 0, false, ()) else none) else
 none) else
 none) else
 (bif (eqC (List.zipWith (· && ·) (bitsN 16 65520) lx) 60160) then
 (bif ((le12 (H (sl ly 8 4)) && (le12 (H (sl lx 0 4)) && (le12 (H (sl ly 0 4)) && true)))) then
 (bif (eqC (sl ly 4 2) 0) then
 (bif (eqC (sl ly 12 3 ++ sl ly 6 2) 0) then some (14, H (sl ly 8 4), H (sl lx 0 4), H (sl ly 0 4), 0, 0, 0, false, ()) else none) else
 none) else
 none) else
 (bif (eqC (List.zipWith (· && ·) (bitsN 16 65520) lx) 60320) then
 (bif ((le12 (H (sl ly 8 4)) && (le12 (H (sl lx 0 4)) && (le12 (H (sl ly 0 4)) && true)))) then
 (bif (eqC (sl ly 4 2) 0) then
 (bif (eqC (sl ly 12 3 ++ sl ly 6 2) 0) then some (15, H (sl ly 8 4), H (sl lx 0 4), H (sl ly 0 4), 0, 0, 0, false, ()) else none) else
 none) else
 none) else
 none)))))))))
theorem three_T (lx ly : List Bool) (hlx : lx.length = 16) (hly : ly.length = 16) : op1 (T_decode_three (H lx, H ly)).val = some (dThree lx ly) := by
  have g1 : G_decode_some (H ly, 8, 4) = true := rfl
  have g2 : G_decode_some (H lx, 0, 4) = true := rfl
  have g3 : G_decode_some (H ly, 0, 4) = true := rfl
  have g4 : G_decode_some (H ly, 12, 3) = true := rfl
  have g5 : G_decode_some (H ly, 6, 2) = true := rfl
  have g6 : G_decode_some (H ly, 4, 2) = true := rfl
  have g7 : ∀ a : Int, G_decode_regs [a] = true := fun _ => rfl
  have g8 : ∀ a b : Int, G_decode_regs [a, b] = true := fun _ _ => rfl
  have g9 : ∀ a b c : Int, G_decode_regs [a, b, c] = true := fun _ _ _ => rfl
  have g10 : ∀ a b c d : Int, G_decode_regs [a, b, c, d] = true := fun _ _ _ _ => rfl
  have g11 : V_decode_some (H ly, 8, 4) = H (sl ly 8 4) := some_H ly 8 4 (by omega)
  have g12 : V_decode_some (H ly, 0, 4) = H (sl ly 0 4) := some_H ly 0 4 (by omega)
  have g13 : V_decode_some (H ly, 4, 2) = H (sl ly 4 2) := some_H ly 4 2 (by omega)
  have g14 : V_decode_some (H ly, 12, 3) = H (sl ly 12 3) := some_H ly 12 3 (by omega)
  have g15 : V_decode_some (H ly, 6, 2) = H (sl ly 6 2) := some_H ly 6 2 (by omega)
  have g16 : V_decode_some (H lx, 0, 4) = H (sl lx 0 4) := some_H lx 0 4 (by omega)
  have g17 : (ishr IntKind.i64 (H ly) 15 == 1) = eqC (ly.take 1) 1 := (by have := shr_H ly 15 1 (by omega) (by omega) (by rw [hly]; decide); rw [hly] at this; exact this)
  have g18 : (bnot IntKind.i64 (H lx) 15 == 59904) = eqC (List.zipWith (· && ·) (bitsN 16 65520) lx) 59904 := (by rw [show bnot IntKind.i64 (H lx) 15 = H (List.zipWith (· && ·) (bitsN 16 65520) lx) from bnot_H lx 15 hlx (by omega)]; exact eqC_H (List.zipWith (· && ·) (bitsN 16 65520) lx) 59904 (by rw [List.length_zipWith, bitsN_len, hlx]; decide))
  have g19 : (bnot IntKind.i64 (H lx) 15 == 59936) = eqC (List.zipWith (· && ·) (bitsN 16 65520) lx) 59936 := (by rw [show bnot IntKind.i64 (H lx) 15 = H (List.zipWith (· && ·) (bitsN 16 65520) lx) from bnot_H lx 15 hlx (by omega)]; exact eqC_H (List.zipWith (· && ·) (bitsN 16 65520) lx) 59936 (by rw [List.length_zipWith, bitsN_len, hlx]; decide))
  have g20 : (bnot IntKind.i64 (H lx) 15 == 59968) = eqC (List.zipWith (· && ·) (bitsN 16 65520) lx) 59968 := (by rw [show bnot IntKind.i64 (H lx) 15 = H (List.zipWith (· && ·) (bitsN 16 65520) lx) from bnot_H lx 15 hlx (by omega)]; exact eqC_H (List.zipWith (· && ·) (bitsN 16 65520) lx) 59968 (by rw [List.length_zipWith, bitsN_len, hlx]; decide))
  have g21 : (bnot IntKind.i64 (H lx) 15 == 60032) = eqC (List.zipWith (· && ·) (bitsN 16 65520) lx) 60032 := (by rw [show bnot IntKind.i64 (H lx) 15 = H (List.zipWith (· && ·) (bitsN 16 65520) lx) from bnot_H lx 15 hlx (by omega)]; exact eqC_H (List.zipWith (· && ·) (bitsN 16 65520) lx) 60032 (by rw [List.length_zipWith, bitsN_len, hlx]; decide))
  have g22 : (bnot IntKind.i64 (H lx) 15 == 60160) = eqC (List.zipWith (· && ·) (bitsN 16 65520) lx) 60160 := (by rw [show bnot IntKind.i64 (H lx) 15 = H (List.zipWith (· && ·) (bitsN 16 65520) lx) from bnot_H lx 15 hlx (by omega)]; exact eqC_H (List.zipWith (· && ·) (bitsN 16 65520) lx) 60160 (by rw [List.length_zipWith, bitsN_len, hlx]; decide))
  have g23 : (bnot IntKind.i64 (H lx) 15 == 60320) = eqC (List.zipWith (· && ·) (bitsN 16 65520) lx) 60320 := (by rw [show bnot IntKind.i64 (H lx) 15 = H (List.zipWith (· && ·) (bitsN 16 65520) lx) from bnot_H lx 15 hlx (by omega)]; exact eqC_H (List.zipWith (· && ·) (bitsN 16 65520) lx) 60320 (by rw [List.length_zipWith, bitsN_len, hlx]; decide))
  have g24 : (H lx == 59983) = eqC lx 59983 := eqC_H lx 59983 (by rw [hlx]; decide)
  have g25 : (H lx == 60015) = eqC lx 60015 := eqC_H lx 60015 (by rw [hlx]; decide)
  have g26 : bor IntKind.i64 (ishl IntKind.i64 (H (sl ly 12 3)) 2) (H (sl ly 6 2)) = H (sl ly 12 3 ++ sl ly 6 2) := bor2 (sl ly 12 3) (sl ly 6 2) 2 (by simp [sl_length, hlx, hly]) (by simp [sl_length, hlx, hly])
  have g27 : V_decode_regs [H (sl ly 8 4), H (sl ly 0 4)] = (le12 (H (sl ly 8 4)) && (le12 (H (sl ly 0 4)) && true)) := rfl
  have g28 : V_decode_regs [H (sl ly 8 4), H (sl lx 0 4), H (sl ly 0 4)] = (le12 (H (sl ly 8 4)) && (le12 (H (sl lx 0 4)) && (le12 (H (sl ly 0 4)) && true))) := rfl
  have g29 : (H (sl ly 4 2) == 0) = eqC (sl ly 4 2) 0 := eqC_H (sl ly 4 2) 0 (by rw [show (sl ly 4 2).length = 2 by simp [sl_length, hlx, hly]]; decide)
  have g30 : (H (sl ly 12 3 ++ sl ly 6 2) == 0) = eqC (sl ly 12 3 ++ sl ly 6 2) 0 := eqC_H (sl ly 12 3 ++ sl ly 6 2) 0 (by rw [show (sl ly 12 3 ++ sl ly 6 2).length = 5 by simp [sl_length, hlx, hly]]; decide)
  have g31 : w64 (5 + H (sl ly 4 2)) = (5 + H (sl ly 4 2)) := w_small _ (by have := H_nonneg (sl ly 4 2); omega) (by have := H_lt (l := sl ly 4 2) (k := 4) (by simp [sl_length, hlx, hly]); omega)
  simp only [T_decode_three, PO.val, g1, g2, g3, g4, g5, g6, g7, g8, g9, g10, g11, g12, g13, g14, g15, g16, g17, g18, g19, g20, g21, g22, g23, g24, g25, g26, g27, g28, g29, g30, g31, bne, Bool.and_self, cond_true, cond_false, Bool.cond_self]
  unfold dThree
  repeat' (first | refine op1_step _ ?_ ?_ | rfl)
def dProduct (lx ly : List Bool) : Option tIns.den :=
 (bif (!eqC (sl ly 4 4) 0) then
 none else
 (bif (eqC (List.zipWith (· && ·) (bitsN 16 65520) lx) 64256) then
 (bif (eqC (sl ly 12 4) 15) then
 (bif ((le12 (H (sl ly 8 4)) && (le12 (H (sl lx 0 4)) && (le12 (H (sl ly 0 4)) && true)))) then some (16, H (sl ly 8 4), H (sl lx 0 4), H (sl ly 0 4), 0, 0, 0, false, ()) else none) else
 none) else
 (bif (eqC (List.zipWith (· && ·) (bitsN 16 65520) lx) 64416) then
 (bif (H (sl ly 12 4) != H (sl ly 8 4)) then
 (bif ((le12 (H (sl ly 12 4)) && (le12 (H (sl ly 8 4)) && (le12 (H (sl lx 0 4)) && (le12 (H (sl ly 0 4)) && true))))) then some (17, H (sl ly 12 4), H (sl lx 0 4), H (sl ly 0 4), H (sl ly 8 4), 0, 0, false, ()) else none) else
 none) else
 none)))
theorem product_T (lx ly : List Bool) (hlx : lx.length = 16) (hly : ly.length = 16) : op1 (T_decode_product (H lx, H ly)).val = some (dProduct lx ly) := by
  have g1 : G_decode_some (H lx, 0, 4) = true := rfl
  have g2 : G_decode_some (H ly, 0, 4) = true := rfl
  have g3 : G_decode_some (H ly, 12, 4) = true := rfl
  have g4 : G_decode_some (H ly, 8, 4) = true := rfl
  have g5 : G_decode_some (H ly, 4, 4) = true := rfl
  have g6 : ∀ a : Int, G_decode_regs [a] = true := fun _ => rfl
  have g7 : ∀ a b : Int, G_decode_regs [a, b] = true := fun _ _ => rfl
  have g8 : ∀ a b c : Int, G_decode_regs [a, b, c] = true := fun _ _ _ => rfl
  have g9 : ∀ a b c d : Int, G_decode_regs [a, b, c, d] = true := fun _ _ _ _ => rfl
  have g10 : V_decode_some (H ly, 4, 4) = H (sl ly 4 4) := some_H ly 4 4 (by omega)
  have g11 : V_decode_some (H ly, 12, 4) = H (sl ly 12 4) := some_H ly 12 4 (by omega)
  have g12 : V_decode_some (H ly, 8, 4) = H (sl ly 8 4) := some_H ly 8 4 (by omega)
  have g13 : V_decode_some (H lx, 0, 4) = H (sl lx 0 4) := some_H lx 0 4 (by omega)
  have g14 : V_decode_some (H ly, 0, 4) = H (sl ly 0 4) := some_H ly 0 4 (by omega)
  have g15 : (bnot IntKind.i64 (H lx) 15 == 64256) = eqC (List.zipWith (· && ·) (bitsN 16 65520) lx) 64256 := (by rw [show bnot IntKind.i64 (H lx) 15 = H (List.zipWith (· && ·) (bitsN 16 65520) lx) from bnot_H lx 15 hlx (by omega)]; exact eqC_H (List.zipWith (· && ·) (bitsN 16 65520) lx) 64256 (by rw [List.length_zipWith, bitsN_len, hlx]; decide))
  have g16 : (bnot IntKind.i64 (H lx) 15 == 64416) = eqC (List.zipWith (· && ·) (bitsN 16 65520) lx) 64416 := (by rw [show bnot IntKind.i64 (H lx) 15 = H (List.zipWith (· && ·) (bitsN 16 65520) lx) from bnot_H lx 15 hlx (by omega)]; exact eqC_H (List.zipWith (· && ·) (bitsN 16 65520) lx) 64416 (by rw [List.length_zipWith, bitsN_len, hlx]; decide))
  have g17 : V_decode_regs [H (sl ly 8 4), H (sl lx 0 4), H (sl ly 0 4)] = (le12 (H (sl ly 8 4)) && (le12 (H (sl lx 0 4)) && (le12 (H (sl ly 0 4)) && true))) := rfl
  have g18 : V_decode_regs [H (sl ly 12 4), H (sl ly 8 4), H (sl lx 0 4), H (sl ly 0 4)] = (le12 (H (sl ly 12 4)) && (le12 (H (sl ly 8 4)) && (le12 (H (sl lx 0 4)) && (le12 (H (sl ly 0 4)) && true)))) := rfl
  have g19 : (H (sl ly 4 4) == 0) = eqC (sl ly 4 4) 0 := eqC_H (sl ly 4 4) 0 (by rw [show (sl ly 4 4).length = 4 by simp [sl_length, hlx, hly]]; decide)
  have g20 : (H (sl ly 12 4) == 15) = eqC (sl ly 12 4) 15 := eqC_H (sl ly 12 4) 15 (by rw [show (sl ly 12 4).length = 4 by simp [sl_length, hlx, hly]]; decide)
  simp only [T_decode_product, PO.val, g1, g2, g3, g4, g5, g6, g7, g8, g9, g10, g11, g12, g13, g14, g15, g16, g17, g18, g19, g20, bne, Bool.and_self, cond_true, cond_false, Bool.cond_self]
  unfold dProduct
  repeat' (first | refine op1_step _ ?_ ?_ | rfl)
def dPlain (lx ly : List Bool) : Option tIns.den :=
 (bif (eqC (ly.take 1) 1) then
 none else
 (bif (eqC (List.zipWith (· && ·) (bitsN 16 65520) lx) 62304) then
 (bif (eqC (sl ly 5 1) 0) then
 (bif (decide ((H (sl ly 0 5) + 1 - H (sl ly 12 3 ++ sl ly 6 2)) ≥ 1)) then
 (bif ((le12 (H (sl ly 8 4)) && (le12 (H (sl lx 0 4)) && true))) then some (18, H (sl ly 8 4), H (sl lx 0 4), 0, (H (sl ly 0 5) + 1 - H (sl ly 12 3 ++ sl ly 6 2)), H (sl ly 12 3 ++ sl ly 6 2), 0, false, ()) else none) else
 none) else
 none) else
 (bif (eqC (List.zipWith (· && ·) (bitsN 16 64496) lx) 62016) then
 (bif ((le12 (H (sl ly 8 4)) && true)) then some (3, H (sl ly 8 4), 0, 0, 0, H (sl lx 0 4 ++ sl lx 10 1 ++ sl ly 12 3 ++ sl ly 0 8), 0, false, ()) else none) else
 (bif (eqC (List.zipWith (· && ·) (bitsN 16 64496) lx) 62144) then
 (bif ((le12 (H (sl ly 8 4)) && true)) then some (4, H (sl ly 8 4), 0, 0, 0, H (sl lx 0 4 ++ sl lx 10 1 ++ sl ly 12 3 ++ sl ly 0 8), 0, false, ()) else none) else
 none))))
theorem plain_T (lx ly : List Bool) (hlx : lx.length = 16) (hly : ly.length = 16) : op1 (T_decode_plain (H lx, H ly)).val = some (dPlain lx ly) := by
  have g1 : G_decode_some (H ly, 8, 4) = true := rfl
  have g2 : G_decode_some (H lx, 0, 4) = true := rfl
  have g3 : G_decode_some (H ly, 12, 3) = true := rfl
  have g4 : G_decode_some (H ly, 6, 2) = true := rfl
  have g5 : G_decode_some (H ly, 0, 5) = true := rfl
  have g6 : G_decode_some (H ly, 5, 1) = true := rfl
  have g7 : G_decode_some (H lx, 10, 1) = true := rfl
  have g8 : G_decode_some (H ly, 0, 8) = true := rfl
  have g9 : ∀ a : Int, G_decode_regs [a] = true := fun _ => rfl
  have g10 : ∀ a b : Int, G_decode_regs [a, b] = true := fun _ _ => rfl
  have g11 : ∀ a b c : Int, G_decode_regs [a, b, c] = true := fun _ _ _ => rfl
  have g12 : ∀ a b c d : Int, G_decode_regs [a, b, c, d] = true := fun _ _ _ _ => rfl
  have g13 : V_decode_some (H ly, 5, 1) = H (sl ly 5 1) := some_H ly 5 1 (by omega)
  have g14 : V_decode_some (H ly, 0, 5) = H (sl ly 0 5) := some_H ly 0 5 (by omega)
  have g15 : V_decode_some (H ly, 12, 3) = H (sl ly 12 3) := some_H ly 12 3 (by omega)
  have g16 : V_decode_some (H ly, 6, 2) = H (sl ly 6 2) := some_H ly 6 2 (by omega)
  have g17 : V_decode_some (H ly, 8, 4) = H (sl ly 8 4) := some_H ly 8 4 (by omega)
  have g18 : V_decode_some (H lx, 0, 4) = H (sl lx 0 4) := some_H lx 0 4 (by omega)
  have g19 : V_decode_some (H lx, 10, 1) = H (sl lx 10 1) := some_H lx 10 1 (by omega)
  have g20 : V_decode_some (H ly, 0, 8) = H (sl ly 0 8) := some_H ly 0 8 (by omega)
  have g21 : (ishr IntKind.i64 (H ly) 15 == 1) = eqC (ly.take 1) 1 := (by have := shr_H ly 15 1 (by omega) (by omega) (by rw [hly]; decide); rw [hly] at this; exact this)
  have g22 : (bnot IntKind.i64 (H lx) 15 == 62304) = eqC (List.zipWith (· && ·) (bitsN 16 65520) lx) 62304 := (by rw [show bnot IntKind.i64 (H lx) 15 = H (List.zipWith (· && ·) (bitsN 16 65520) lx) from bnot_H lx 15 hlx (by omega)]; exact eqC_H (List.zipWith (· && ·) (bitsN 16 65520) lx) 62304 (by rw [List.length_zipWith, bitsN_len, hlx]; decide))
  have g23 : (bnot IntKind.i64 (H lx) 1039 == 62016) = eqC (List.zipWith (· && ·) (bitsN 16 64496) lx) 62016 := (by rw [show bnot IntKind.i64 (H lx) 1039 = H (List.zipWith (· && ·) (bitsN 16 64496) lx) from bnot_H lx 1039 hlx (by omega)]; exact eqC_H (List.zipWith (· && ·) (bitsN 16 64496) lx) 62016 (by rw [List.length_zipWith, bitsN_len, hlx]; decide))
  have g24 : (bnot IntKind.i64 (H lx) 1039 == 62144) = eqC (List.zipWith (· && ·) (bitsN 16 64496) lx) 62144 := (by rw [show bnot IntKind.i64 (H lx) 1039 = H (List.zipWith (· && ·) (bitsN 16 64496) lx) from bnot_H lx 1039 hlx (by omega)]; exact eqC_H (List.zipWith (· && ·) (bitsN 16 64496) lx) 62144 (by rw [List.length_zipWith, bitsN_len, hlx]; decide))
  have g25 : bor IntKind.i64 (ishl IntKind.i64 (H (sl ly 12 3)) 2) (H (sl ly 6 2)) = H (sl ly 12 3 ++ sl ly 6 2) := bor2 (sl ly 12 3) (sl ly 6 2) 2 (by simp [sl_length, hlx, hly]) (by simp [sl_length, hlx, hly])
  have g26 : bor IntKind.i64 (ishl IntKind.i64 (H (sl lx 0 4)) 12) (ishl IntKind.i64 (H (sl lx 10 1)) 11) = ishl IntKind.i64 (H (sl lx 0 4 ++ sl lx 10 1)) 11 := bor2' (sl lx 0 4) (sl lx 10 1) 12 11 (by simp [sl_length, hlx, hly]) (by simp [sl_length, hlx, hly])
  have g27 : bor IntKind.i64 (ishl IntKind.i64 (H (sl lx 0 4 ++ sl lx 10 1)) 11) (ishl IntKind.i64 (H (sl ly 12 3)) 8) = ishl IntKind.i64 (H (sl lx 0 4 ++ sl lx 10 1 ++ sl ly 12 3)) 8 := bor2' (sl lx 0 4 ++ sl lx 10 1) (sl ly 12 3) 11 8 (by simp [sl_length, hlx, hly]) (by simp [sl_length, hlx, hly])
  have g28 : bor IntKind.i64 (ishl IntKind.i64 (H (sl lx 0 4 ++ sl lx 10 1 ++ sl ly 12 3)) 8) (H (sl ly 0 8)) = H (sl lx 0 4 ++ sl lx 10 1 ++ sl ly 12 3 ++ sl ly 0 8) := bor2 (sl lx 0 4 ++ sl lx 10 1 ++ sl ly 12 3) (sl ly 0 8) 8 (by simp [sl_length, hlx, hly]) (by simp [sl_length, hlx, hly])
  have g29 : V_decode_regs [H (sl ly 8 4), H (sl lx 0 4)] = (le12 (H (sl ly 8 4)) && (le12 (H (sl lx 0 4)) && true)) := rfl
  have g30 : V_decode_regs [H (sl ly 8 4)] = (le12 (H (sl ly 8 4)) && true) := rfl
  have g31 : (H (sl ly 5 1) == 0) = eqC (sl ly 5 1) 0 := eqC_H (sl ly 5 1) 0 (by rw [show (sl ly 5 1).length = 1 by simp [sl_length, hlx, hly]]; decide)
  have g32 : w64 (H (sl ly 0 5) + 1) = H (sl ly 0 5) + 1 := w_small _ (by have := H_nonneg (sl ly 0 5); omega) (by have := H_lt (l := sl ly 0 5) (k := 8) (by simp [sl_length, hlx, hly]); omega)
  have g33 : w64 (H (sl ly 0 5) + 1 - H (sl ly 12 3 ++ sl ly 6 2)) = (H (sl ly 0 5) + 1 - H (sl ly 12 3 ++ sl ly 6 2)) := w_small _ (by have := H_nonneg (sl ly 0 5); have := H_lt (l := sl ly 12 3 ++ sl ly 6 2) (k := 8) (by simp [sl_length, hlx, hly]); omega) (by have := H_nonneg (sl ly 12 3 ++ sl ly 6 2); have := H_lt (l := sl ly 0 5) (k := 8) (by simp [sl_length, hlx, hly]); omega)
  simp only [T_decode_plain, PO.val, g1, g2, g3, g4, g5, g6, g7, g8, g9, g10, g11, g12, g13, g14, g15, g16, g17, g18, g19, g20, g21, g22, g23, g24, g25, g26, g27, g28, g29, g30, g31, g32, g33, bne, Bool.and_self, cond_true, cond_false, Bool.cond_self]
  unfold dPlain
  repeat' (first | refine op1_step _ ?_ ?_ | rfl)
def dBranch (lx ly : List Bool) : Option tIns.den :=
 (bif (!eqC (lx.take 5) 30 || !eqC (ly.take 2) 2) then
 none else
 (bif (eqC (sl ly 12 1) 1) then
 (some (24, 0, 0, 0, 0, SG (sl lx 10 1 ++ List.zipWith nx (sl ly 13 1) (sl lx 10 1) ++ List.zipWith nx (sl ly 11 1) (sl lx 10 1) ++ sl lx 0 10 ++ sl ly 0 11 ++ [false]), 0, true, ())) else
 (bif (decide (H (sl lx 6 4) ≤ 13)) then some (25, 0, 0, 0, 0, SG (sl lx 10 1 ++ sl ly 11 1 ++ sl ly 13 1 ++ sl lx 0 6 ++ sl ly 0 11 ++ [false]), H (sl lx 6 4), true, ()) else none)))
theorem branch_T (lx ly : List Bool) (hlx : lx.length = 16) (hly : ly.length = 16) : op1 (T_decode_branch (H lx, H ly)).val = some (dBranch lx ly) := by
  have g1 : G_decode_some (H lx, 10, 1) = true := rfl
  have g2 : G_decode_some (H ly, 13, 1) = true := rfl
  have g3 : G_decode_some (H ly, 11, 1) = true := rfl
  have g4 : G_decode_some (H ly, 0, 11) = true := rfl
  have g5 : G_decode_some (H ly, 12, 1) = true := rfl
  have g6 : G_decode_some (H lx, 0, 10) = true := rfl
  have g7 : G_decode_some (H lx, 6, 4) = true := rfl
  have g8 : G_decode_some (H lx, 0, 6) = true := rfl
  have g9 : V_decode_some (H ly, 12, 1) = H (sl ly 12 1) := some_H ly 12 1 (by omega)
  have g10 : V_decode_some (H lx, 10, 1) = H (sl lx 10 1) := some_H lx 10 1 (by omega)
  have g11 : V_decode_some (H ly, 13, 1) = H (sl ly 13 1) := some_H ly 13 1 (by omega)
  have g12 : V_decode_some (H ly, 11, 1) = H (sl ly 11 1) := some_H ly 11 1 (by omega)
  have g13 : V_decode_some (H lx, 0, 10) = H (sl lx 0 10) := some_H lx 0 10 (by omega)
  have g14 : V_decode_some (H ly, 0, 11) = H (sl ly 0 11) := some_H ly 0 11 (by omega)
  have g15 : V_decode_some (H lx, 6, 4) = H (sl lx 6 4) := some_H lx 6 4 (by omega)
  have g16 : V_decode_some (H lx, 0, 6) = H (sl lx 0 6) := some_H lx 0 6 (by omega)
  have g17 : (ishr IntKind.i64 (H lx) 11 == 30) = eqC (lx.take 5) 30 := (by have := shr_H lx 11 30 (by omega) (by omega) (by rw [hlx]; decide); rw [hlx] at this; exact this)
  have g18 : (ishr IntKind.i64 (H ly) 14 == 2) = eqC (ly.take 2) 2 := (by have := shr_H ly 14 2 (by omega) (by omega) (by rw [hly]; decide); rw [hly] at this; exact this)
  have g19 : bxor IntKind.i64 (bxor IntKind.i64 1 (H (sl ly 13 1))) (H (sl lx 10 1)) = H (List.zipWith nx (sl ly 13 1) (sl lx 10 1)) := bx_H _ _ (sl_len _ _ _ (by omega)) (sl_len _ _ _ (by omega))
  have g20 : bxor IntKind.i64 (bxor IntKind.i64 1 (H (sl ly 11 1))) (H (sl lx 10 1)) = H (List.zipWith nx (sl ly 11 1) (sl lx 10 1)) := bx_H _ _ (sl_len _ _ _ (by omega)) (sl_len _ _ _ (by omega))
  have g21 : bor IntKind.i64 (ishl IntKind.i64 (H (sl lx 10 1)) 23) (ishl IntKind.i64 (H (List.zipWith nx (sl ly 13 1) (sl lx 10 1))) 22) = ishl IntKind.i64 (H (sl lx 10 1 ++ List.zipWith nx (sl ly 13 1) (sl lx 10 1))) 22 := bor2' (sl lx 10 1) (List.zipWith nx (sl ly 13 1) (sl lx 10 1)) 23 22 (by simp [sl_length, hlx, hly]) (by simp [sl_length, hlx, hly])
  have g22 : bor IntKind.i64 (ishl IntKind.i64 (H (sl lx 10 1 ++ List.zipWith nx (sl ly 13 1) (sl lx 10 1))) 22) (ishl IntKind.i64 (H (List.zipWith nx (sl ly 11 1) (sl lx 10 1))) 21) = ishl IntKind.i64 (H (sl lx 10 1 ++ List.zipWith nx (sl ly 13 1) (sl lx 10 1) ++ List.zipWith nx (sl ly 11 1) (sl lx 10 1))) 21 := bor2' (sl lx 10 1 ++ List.zipWith nx (sl ly 13 1) (sl lx 10 1)) (List.zipWith nx (sl ly 11 1) (sl lx 10 1)) 22 21 (by simp [sl_length, hlx, hly]) (by simp [sl_length, hlx, hly])
  have g23 : bor IntKind.i64 (ishl IntKind.i64 (H (sl lx 10 1 ++ List.zipWith nx (sl ly 13 1) (sl lx 10 1) ++ List.zipWith nx (sl ly 11 1) (sl lx 10 1))) 21) (ishl IntKind.i64 (H (sl lx 0 10)) 11) = ishl IntKind.i64 (H (sl lx 10 1 ++ List.zipWith nx (sl ly 13 1) (sl lx 10 1) ++ List.zipWith nx (sl ly 11 1) (sl lx 10 1) ++ sl lx 0 10)) 11 := bor2' (sl lx 10 1 ++ List.zipWith nx (sl ly 13 1) (sl lx 10 1) ++ List.zipWith nx (sl ly 11 1) (sl lx 10 1)) (sl lx 0 10) 21 11 (by simp [sl_length, hlx, hly]) (by simp [sl_length, hlx, hly])
  have g24 : bor IntKind.i64 (ishl IntKind.i64 (H (sl lx 10 1 ++ List.zipWith nx (sl ly 13 1) (sl lx 10 1) ++ List.zipWith nx (sl ly 11 1) (sl lx 10 1) ++ sl lx 0 10)) 11) (H (sl ly 0 11)) = H (sl lx 10 1 ++ List.zipWith nx (sl ly 13 1) (sl lx 10 1) ++ List.zipWith nx (sl ly 11 1) (sl lx 10 1) ++ sl lx 0 10 ++ sl ly 0 11) := bor2 (sl lx 10 1 ++ List.zipWith nx (sl ly 13 1) (sl lx 10 1) ++ List.zipWith nx (sl ly 11 1) (sl lx 10 1) ++ sl lx 0 10) (sl ly 0 11) 11 (by simp [sl_length, hlx, hly]) (by simp [sl_length, hlx, hly])
  have g25 : bor IntKind.i64 (ishl IntKind.i64 (H (sl lx 10 1)) 19) (ishl IntKind.i64 (H (sl ly 11 1)) 18) = ishl IntKind.i64 (H (sl lx 10 1 ++ sl ly 11 1)) 18 := bor2' (sl lx 10 1) (sl ly 11 1) 19 18 (by simp [sl_length, hlx, hly]) (by simp [sl_length, hlx, hly])
  have g26 : bor IntKind.i64 (ishl IntKind.i64 (H (sl lx 10 1 ++ sl ly 11 1)) 18) (ishl IntKind.i64 (H (sl ly 13 1)) 17) = ishl IntKind.i64 (H (sl lx 10 1 ++ sl ly 11 1 ++ sl ly 13 1)) 17 := bor2' (sl lx 10 1 ++ sl ly 11 1) (sl ly 13 1) 18 17 (by simp [sl_length, hlx, hly]) (by simp [sl_length, hlx, hly])
  have g27 : bor IntKind.i64 (ishl IntKind.i64 (H (sl lx 10 1 ++ sl ly 11 1 ++ sl ly 13 1)) 17) (ishl IntKind.i64 (H (sl lx 0 6)) 11) = ishl IntKind.i64 (H (sl lx 10 1 ++ sl ly 11 1 ++ sl ly 13 1 ++ sl lx 0 6)) 11 := bor2' (sl lx 10 1 ++ sl ly 11 1 ++ sl ly 13 1) (sl lx 0 6) 17 11 (by simp [sl_length, hlx, hly]) (by simp [sl_length, hlx, hly])
  have g28 : bor IntKind.i64 (ishl IntKind.i64 (H (sl lx 10 1 ++ sl ly 11 1 ++ sl ly 13 1 ++ sl lx 0 6)) 11) (H (sl ly 0 11)) = H (sl lx 10 1 ++ sl ly 11 1 ++ sl ly 13 1 ++ sl lx 0 6 ++ sl ly 0 11) := bor2 (sl lx 10 1 ++ sl ly 11 1 ++ sl ly 13 1 ++ sl lx 0 6) (sl ly 0 11) 11 (by simp [sl_length, hlx, hly]) (by simp [sl_length, hlx, hly])
  have g29 : (H (sl ly 12 1) == 1) = eqC (sl ly 12 1) 1 := eqC_H (sl ly 12 1) 1 (by rw [show (sl ly 12 1).length = 1 by simp [sl_length, hlx, hly]]; decide)
  have g30 : V_decode_signed (H (sl lx 10 1 ++ List.zipWith nx (sl ly 13 1) (sl lx 10 1) ++ List.zipWith nx (sl ly 11 1) (sl lx 10 1) ++ sl lx 0 10 ++ sl ly 0 11), 24) = SG (sl lx 10 1 ++ List.zipWith nx (sl ly 13 1) (sl lx 10 1) ++ List.zipWith nx (sl ly 11 1) (sl lx 10 1) ++ sl lx 0 10 ++ sl ly 0 11) := signed_H_ (sl lx 10 1 ++ List.zipWith nx (sl ly 13 1) (sl lx 10 1) ++ List.zipWith nx (sl ly 11 1) (sl lx 10 1) ++ sl lx 0 10 ++ sl ly 0 11) 24 (by omega) (by simp [sl_length, hlx, hly])
  have g31 : G_decode_signed (H (sl lx 10 1 ++ List.zipWith nx (sl ly 13 1) (sl lx 10 1) ++ List.zipWith nx (sl ly 11 1) (sl lx 10 1) ++ sl lx 0 10 ++ sl ly 0 11), 24) = true := gsigned_H _ 24 (by omega) (by omega) (by simp [sl_length, hlx, hly])
  have g32 : w64 (2 * SG (sl lx 10 1 ++ List.zipWith nx (sl ly 13 1) (sl lx 10 1) ++ List.zipWith nx (sl ly 11 1) (sl lx 10 1) ++ sl lx 0 10 ++ sl ly 0 11)) = SG (sl lx 10 1 ++ List.zipWith nx (sl ly 13 1) (sl lx 10 1) ++ List.zipWith nx (sl ly 11 1) (sl lx 10 1) ++ sl lx 0 10 ++ sl ly 0 11 ++ [false]) := twice_SG (sl lx 10 1 ++ List.zipWith nx (sl ly 13 1) (sl lx 10 1) ++ List.zipWith nx (sl ly 11 1) (sl lx 10 1) ++ sl lx 0 10 ++ sl ly 0 11) 24 (by omega) (by omega) (by simp [sl_length, hlx, hly])
  have g33 : V_decode_signed (H (sl lx 10 1 ++ sl ly 11 1 ++ sl ly 13 1 ++ sl lx 0 6 ++ sl ly 0 11), 20) = SG (sl lx 10 1 ++ sl ly 11 1 ++ sl ly 13 1 ++ sl lx 0 6 ++ sl ly 0 11) := signed_H_ (sl lx 10 1 ++ sl ly 11 1 ++ sl ly 13 1 ++ sl lx 0 6 ++ sl ly 0 11) 20 (by omega) (by simp [sl_length, hlx, hly])
  have g34 : G_decode_signed (H (sl lx 10 1 ++ sl ly 11 1 ++ sl ly 13 1 ++ sl lx 0 6 ++ sl ly 0 11), 20) = true := gsigned_H _ 20 (by omega) (by omega) (by simp [sl_length, hlx, hly])
  have g35 : w64 (2 * SG (sl lx 10 1 ++ sl ly 11 1 ++ sl ly 13 1 ++ sl lx 0 6 ++ sl ly 0 11)) = SG (sl lx 10 1 ++ sl ly 11 1 ++ sl ly 13 1 ++ sl lx 0 6 ++ sl ly 0 11 ++ [false]) := twice_SG (sl lx 10 1 ++ sl ly 11 1 ++ sl ly 13 1 ++ sl lx 0 6 ++ sl ly 0 11) 20 (by omega) (by omega) (by simp [sl_length, hlx, hly])
  simp only [T_decode_branch, PO.val, g1, g2, g3, g4, g5, g6, g7, g8, g9, g10, g11, g12, g13, g14, g15, g16, g17, g18, g19, g20, g21, g22, g23, g24, g25, g26, g27, g28, g29, g30, g31, g32, g33, g34, g35, bne, Bool.and_self, cond_true, cond_false, Bool.cond_self]
  unfold dBranch
  repeat' (first | refine op1_step _ ?_ ?_ | rfl)
end Go.Av
end
/-! Layer 2: when there is an instruction. -/
section
namespace Go.Av
open Go
/-- A number between two. -/
abbrev bw (n a b : Int) : Bool := decide (a ≤ n) && decide (n ≤ b)
/-- May an instruction be? -/
def okB (op rd rn rm ra imm cond : Int) (w : Bool) : Bool :=
  bif op == 24 then (rd == 0 && (rn == 0 && (rm == 0 && (ra == 0 && (cond == 0 && (imm % 2 == 0 && bif w then bw imm (-16777216) 16777214 else bw imm (-2048) 2046))))))
  else bif op == 25 then (rd == 0 && (rn == 0 && (rm == 0 && (ra == 0 && (bw cond 0 13 && (imm % 2 == 0 && bif w then bw imm (-1048576) 1048574 else bw imm (-256) 254))))))
  else (!w && (cond == 0 && (
    bif op == 1 then (rd == 0 && (rn == 0 && (rm == 0 && (ra == 0 && imm == 0))))
    else bif op == 2 then (rd == 0 && (rn == 0 && (rm == 0 && (ra == 0 && bw imm 0 255))))
    else bif op == 3 || op == 4 then (bw rd 0 12 && (rn == 0 && (rm == 0 && (ra == 0 && bw imm 0 65535))))
    else bif op == 5 then (bw rd 0 12 && (rn == 0 && (bw rm 0 12 && (ra == 0 && bw imm 0 31))))
    else bif op == 6 || (op == 7 || op == 8) then (bw rd 0 12 && (rn == 0 && (bw rm 0 12 && (ra == 0 && bw imm 1 31))))
    else bif op == 9 then (bw rd 0 12 && (rn == 0 && (bw rm 0 12 && (ra == 0 && imm == 0))))
    else bif op == 17 then (bw rd 0 12 && (bw rn 0 12 && (bw rm 0 12 && (bw ra 0 12 && (imm == 0 && ra != rd)))))
    else bif op == 18 then (bw rd 0 12 && (bw rn 0 12 && (rm == 0 && (bw imm 0 31 && bw ra 1 (32 - imm)))))
    else bif op == 23 then (rd == 0 && (bw rn 0 7 && (bw rm 0 7 && (ra == 0 && imm == 0))))
    else bif op == 19 || (op == 20 || (op == 21 || op == 22)) then (bw rd 0 7 && (bw rn 0 7 && (rm == 0 && (ra == 0 && imm == 0))))
    else bif bw op 10 16 then (bw rd 0 12 && (bw rn 0 12 && (bw rm 0 12 && (ra == 0 && imm == 0))))
    else false)))
theorem wrap_c : IntKind.i64.wrap (-16777216) = -16777216 := rfl
theorem wrap_d : IntKind.i64.wrap 16777214 = 16777214 := rfl
theorem wrap_e : IntKind.i64.wrap (-2048) = -2048 := rfl
theorem wrap_f : IntKind.i64.wrap 2046 = 2046 := rfl
theorem wrap_g : IntKind.i64.wrap (-256) = -256 := rfl
theorem wrap_h : IntKind.i64.wrap 254 = 254 := rfl
set_option maxHeartbeats 2000000 in
theorem check_iff (op rd rn rm ra imm cond : Int) (w : Bool) : V_thumb_Check (op, rd, rn, rm, ra, imm, cond, w, ()) = 0 ↔ okB op rd rn rm ra imm cond w = true := by
  have hw := left_same imm
  have hb := band_one imm
  rcases op_cases op with rfl | rfl | rfl | rfl | rfl | rfl | rfl | rfl | rfl | rfl | rfl | rfl | rfl | rfl | rfl | rfl | rfl | rfl | rfl | rfl | rfl | rfl | rfl | rfl | rfl | hop
  case inr.inr.inr.inr.inr.inr.inr.inr.inr.inr.inr.inr.inr.inr.inr.inr.inr.inr.inr.inr.inr.inr.inr.inr.inr =>
    have e := fun k hk => op_none (n := op) (k := k) hop hk
    have e2 : bw op 10 16 = false := by unfold bw; rw [Bool.and_eq_false_iff, decide_eq_false_iff_not, decide_eq_false_iff_not]; omega
    simp [V_thumb_Check, T_thumb_Check, V_thumb_formOf, T_thumb_formOf, PO.getO, PO.val, e, okB, e2]
  all_goals cases w
  all_goals
    simp [okB, V_thumb_Check, T_thumb_Check, V_thumb_formOf, T_thumb_formOf, V_thumb_field, T_thumb_field, V_thumb_within, T_thumb_within, PO.getO, PO.val, V_thumb_branch, T_thumb_branch, V_thumb_Reach, T_thumb_Reach, wrap_a, wrap_b, wrap_c, wrap_d, wrap_e, wrap_f, wrap_g, wrap_h, hb, w64]
    try simp only [bad2, bad6, Bool.or_eq_false_iff, Bool.not_eq_false', decide_eq_true_eq, bne_eq_false_iff_eq, beq_iff_eq]
    try grind
end Go.Av
end
