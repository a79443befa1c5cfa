/- Layer 2: an instruction's bytes are the document's. -/
import Derived.Test.YtbfhpnnnfjjjnaaPEncSame
namespace Go.Av
open Go

/-- A half's bytes. -/
def by2 (n : Nat) : List UInt8 := [toByte (n % 256 : Nat), toByte (n / 256 : Nat)]
theorem half_by2 {n : Nat} (h : n < 65536) : V_thumb_half (n : Int) = by2 n := by
  have e : ishr .i64 (n : Int) 8 = (n : Int) / (2 ^ 8 : Nat) := ishr_i64 n 8 (by omega)
  show [toByte (IntKind.wrap IntKind.u8 (n : Int)), toByte (IntKind.wrap IntKind.u8 (ishr IntKind.i64 (n : Int) 8))] = _
  rw [e]
  have w1 : IntKind.wrap IntKind.u8 (n : Int) = ((n % 256 : Nat) : Int) := by
    show (n : Int) % 256 = _
    omega
  have w2 : IntKind.wrap IntKind.u8 ((n : Int) / (2 ^ 8 : Nat)) = ((n / 256 : Nat) : Int) := by
    show (n : Int) / 256 % 256 = _
    omega
  rw [w1, w2]
  rfl
theorem ref_by2 {n : Nat} (h : n < 65536) : [toByte (IntKind.wrap IntKind.u8 (Int.tmod (n : Int) 256)), toByte (IntKind.wrap IntKind.u8 (w64 (Int.tdiv (n : Int) 256)))] = by2 n := by
  rw [tmod_pos _ _ (by omega), tdiv_pos _ _ (by omega), w64_id (by omega) (by omega)]
  have w1 : IntKind.wrap IntKind.u8 ((n : Int) % 256) = ((n % 256 : Nat) : Int) := by
    show (n : Int) % 256 % 256 = _
    omega
  have w2 : IntKind.wrap IntKind.u8 ((n : Int) / 256) = ((n / 256 : Nat) : Int) := by
    show (n : Int) / 256 % 256 = _
    omega
  rw [w1, w2]
  rfl
theorem by2_len (n : Nat) : (by2 n).length = 2 := rfl

section
variable (op rd rn rm ra imm cond : Int) (w : Bool)

theorem rowV_lt (l : List UInt8) (h16 : l.length = 16) (hr : rowOf l = true) : rowV rd rn rm ra imm cond l < 65536 := by
  rw [row_hb rd rn rm ra imm cond l h16 hr]
  have := hb_lt (hl (ltr rd rn rm ra imm cond) l) 0 0 (by omega)
  rw [hl_len, h16] at this
  exact this

theorem turn7 (b out : List UInt8) (at_ : Nat) (hat : at_ + 16 ≤ b.length) (hb : b.length ≤ 32) (hrow : rowOf b = true) (ho : out.length ≤ 2) :
    (L_hauberkref02_Encode_7.turn ((), b, [], 0) (op, rd, rn, rm, ra, imm, cond, w, ()) (out, (at_ : Int), (op, rd, rn, rm, ra, imm, cond, w, ()))).val
      = some (TL.on (out ++ by2 (rowV rd rn rm ra imm cond ((b.take (at_ + 16)).drop at_)), ((at_ + 16 : Nat) : Int), (op, rd, rn, rm, ra, imm, cond, w, ()))) := by
  have hlt : decide ((at_ : Int) < lenI b) = true := dec_true (by show (at_ : Int) < ((b.length : Nat) : Int); omega)
  have hh : LoopN.res L_hauberkref02_Encode_11 ((), b, out, (at_ : Int), 0, (at_ : Int)) (op, rd, rn, rm, ra, imm, cond, w, ()) = _ :=
    hor_run b out (op, rd, rn, rm, ra, imm, cond, w, ()) at_ hat hb hrow 16 at_ 0 rfl (Nat.le_refl _) (Nat.two_pow_pos _) 40 (by omega)
  have hl16 : ((b.take (at_ + 16)).drop at_).length = 16 := by rw [List.length_drop, List.length_take]; omega
  have hrw : rowOf ((b.take (at_ + 16)).drop at_) = true := by
    refine List.all_eq_true.2 fun c hc => List.all_eq_true.1 hrow c ?_
    exact List.mem_of_mem_take (List.mem_of_mem_drop hc)
  have hv := rowV_lt rd rn rm ra imm cond _ hl16 hrw
  dsimp only [L_hauberkref02_Encode_7, PO.val]
  rw [hlt, hh]
  dsimp only [PO.val, cond_true]
  have e : [toByte (IntKind.wrap IntKind.u8 (Int.tmod ((rowV rd rn rm ra imm cond ((b.take (at_ + 16)).drop at_) : Nat) : Int) 256)), toByte (IntKind.wrap IntKind.u8 (w64 (Int.tdiv ((rowV rd rn rm ra imm cond ((b.take (at_ + 16)).drop at_) : Nat) : Int) 256)))] = by2 (rowV rd rn rm ra imm cond ((b.take (at_ + 16)).drop at_)) := ref_by2 hv
  have e2 : Nat.ble (out.length + 2) 9223372036854775807 = true := Nat.ble_eq_true_of_le (by omega)
  have e3 : w64 ((at_ : Int) + 16) = ((at_ + 16 : Nat) : Int) := by rw [w64_id (by omega) (by omega)]; omega
  rw [e, by2_len, e2, e3]
  rfl
theorem res7 (b : List UInt8) (hrow : rowOf b = true) :
    (b.length = 16 → LoopN.res L_hauberkref02_Encode_7 ((), b, [], 0) (op, rd, rn, rm, ra, imm, cond, w, ()) = some (0, by2 (rowV rd rn rm ra imm cond b), 16, (op, rd, rn, rm, ra, imm, cond, w, ())))
    ∧ (b.length = 32 → LoopN.res L_hauberkref02_Encode_7 ((), b, [], 0) (op, rd, rn, rm, ra, imm, cond, w, ()) = some (0, by2 (rowV rd rn rm ra imm cond (b.take 16)) ++ by2 (rowV rd rn rm ra imm cond (b.drop 16)), 32, (op, rd, rn, rm, ra, imm, cond, w, ()))) := by
  have out7 : ∀ (o : List UInt8) (k : Nat), b.length = k → (L_hauberkref02_Encode_7.turn ((), b, [], 0) (op, rd, rn, rm, ra, imm, cond, w, ()) (o, (k : Int), (op, rd, rn, rm, ra, imm, cond, w, ()))).val = some (TL.out 0 (o, (k : Int), (op, rd, rn, rm, ra, imm, cond, w, ()))) := by
    intro o k hk
    have hlt : decide ((k : Int) < lenI b) = false := dec_false (by show ¬ (k : Int) < ((b.length : Nat) : Int); omega)
    dsimp only [L_hauberkref02_Encode_7, PO.val]
    rw [hlt]
    rfl
  constructor
  · intro h
    have t0 := turn7 op rd rn rm ra imm cond w b [] 0 (by omega) (by omega) hrow (by decide)
    rw [show (b.take (0 + 16)).drop 0 = b by rw [List.drop_zero, List.take_of_length_le (by omega)]] at t0
    show runL _ 40 ([], ((0 : Nat) : Int), _) = _
    exact (runL_on t0).trans ((runL_out (out7 _ 16 h)).trans rfl)
  · intro h
    have t0 := turn7 op rd rn rm ra imm cond w b [] 0 (by omega) (by omega) hrow (by decide)
    have t1 := turn7 op rd rn rm ra imm cond w b ([] ++ by2 (rowV rd rn rm ra imm cond ((b.take (0 + 16)).drop 0))) 16 (by omega) (by omega) hrow (Nat.le_of_eq (by2_len _))
    show runL _ 40 ([], ((0 : Nat) : Int), _) = _
    refine (runL_on t0).trans ((runL_on t1).trans ((runL_out (out7 _ 32 h)).trans ?_))
    rw [show (b.take (16 + 16)).drop 16 = b.drop 16 by rw [List.take_of_length_le (by omega)]]
    rfl
end
/-- An instruction's bytes are the document's. -/
theorem enc_same (op rd rn rm ra imm cond : Int) (w : Bool) : ∃ v : List UInt8 × Int × Unit, (T_thumb_Encode (op, rd, rn, rm, ra, imm, cond, w, ())).val = some v ∧ (T_hauberkref02_Encode (op, rd, rn, rm, ra, imm, cond, w, ())).val = some v := by
  cases hc : (V_thumb_Check (op, rd, rn, rm, ra, imm, cond, w, ()) != (0 : Int))
  · have h : V_thumb_Check (op, rd, rn, rm, ra, imm, cond, w, ()) = 0 := by simpa using hc
    have hv := bits_val op rd rn rm ra imm cond w h
    have hg : G_thumb_bits (op, rd, rn, rm, ra, imm, cond, w, ()) = true := by unfold G_thumb_bits; rw [hv]; rfl
    have he : V_thumb_bits (op, rd, rn, rm, ra, imm, cond, w, ()) = codeV op rd rn rm ra imm cond w := by unfold V_thumb_bits PO.getO; rw [hv]; rfl
    have hl := code_long op rd rn rm ra imm cond w h
    obtain ⟨hr, hs⟩ := same_bits op rd rn rm ra imm cond w h
    have h7 := res7 op rd rn rm ra imm cond w (V_hauberkref02_Bits (op, w)) hr
    have e1 : (T_thumb_Encode (op, rd, rn, rm, ra, imm, cond, w, ())).val = (bif isLong op w then some (V_thumb_half (codeV op rd rn rm ra imm cond w).1 ++ V_thumb_half (codeV op rd rn rm ra imm cond w).2.1, 0, ()) else some (V_thumb_half (codeV op rd rn rm ra imm cond w).1, 0, ())) := by
      unfold T_thumb_Encode
      dsimp only [PO.val]
      rw [hc, hg, he, hl]
      rfl
    have e2 : (T_hauberkref02_Encode (op, rd, rn, rm, ra, imm, cond, w, ())).val = (LoopN.res L_hauberkref02_Encode_7 ((), V_hauberkref02_Bits (op, w), [], 0) (op, rd, rn, rm, ra, imm, cond, w, ())).bind fun p0 => some (p0.2.1, 0, ()) := by
      unfold T_hauberkref02_Encode
      dsimp only [PO.val]
      rw [check_ok, ← check_same, hc]
      dsimp only [cond_true, cond_false]
      cases LoopN.res L_hauberkref02_Encode_7 ((), V_hauberkref02_Bits (op, w), [], 0) (op, rd, rn, rm, ra, imm, cond, w, ()) <;> rfl
    rw [e1, e2]
    rcases hs with ⟨s1, s2, s3⟩ | ⟨s1, s2, s3, s4⟩
    · rw [s1, s3, half_by2 (rowV_lt _ _ _ _ _ _ _ s2 hr), h7.1 s2]
      exact ⟨_, rfl, rfl⟩
    · have t1 : ((V_hauberkref02_Bits (op, w)).take 16).length = 16 := by rw [List.length_take]; omega
      have t2 : ((V_hauberkref02_Bits (op, w)).drop 16).length = 16 := by rw [List.length_drop]; omega
      have r1 : rowOf ((V_hauberkref02_Bits (op, w)).take 16) = true := List.all_eq_true.2 fun c hc => List.all_eq_true.1 hr c (List.mem_of_mem_take hc)
      have r2 : rowOf ((V_hauberkref02_Bits (op, w)).drop 16) = true := List.all_eq_true.2 fun c hc => List.all_eq_true.1 hr c (List.mem_of_mem_drop hc)
      rw [s1, s3, s4, half_by2 (rowV_lt _ _ _ _ _ _ _ t1 r1), half_by2 (rowV_lt _ _ _ _ _ _ _ t2 r2), h7.2 s2]
      exact ⟨_, rfl, rfl⟩
  · refine ⟨([], V_thumb_Check (op, rd, rn, rm, ra, imm, cond, w, ()), ()), ?_, ?_⟩
    · unfold T_thumb_Encode
      dsimp only [PO.val]
      rw [hc]
      rfl
    · unfold T_hauberkref02_Encode
      dsimp only [PO.val]
      rw [check_ok, ← check_same, hc]
      rfl
end Go.Av
