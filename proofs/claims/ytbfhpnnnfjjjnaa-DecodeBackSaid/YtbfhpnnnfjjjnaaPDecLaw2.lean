/- Layer 3: an instruction's bytes, and what is decoded out of bytes. -/
import Derived.Test.YtbfhpnnnfjjjnaaPDecLaw
namespace Go.Av
open Go
section
variable (op rd rn rm ra imm cond : Int) (w : Bool)
theorem e1_len (h : (V_hauberkref02_Bits (op, w)).length = 16 ∨ (V_hauberkref02_Bits (op, w)).length = 32) : (e1 op rd rn rm ra imm cond w).length = 16 := by
  unfold e1; rw [hl_len, List.length_take]; omega
theorem e2_len (h : (V_hauberkref02_Bits (op, w)).length = 32) : (e2 op rd rn rm ra imm cond w).length = 16 := by
  unfold e2; rw [hl_len, List.length_drop]; omega
/-- An instruction's bytes. -/
def eBytes : List UInt8 := bif (V_hauberkref02_Bits (op, w)).length == 16 then by2 (hb (e1 op rd rn rm ra imm cond w) 0) else by2 (hb (e1 op rd rn rm ra imm cond w) 0) ++ by2 (hb (e2 op rd rn rm ra imm cond w) 0)
theorem enc_val (hok : okB op rd rn rm ra imm cond w = true) : (T_thumb_Encode (op, rd, rn, rm, ra, imm, cond, w, ())).val = some (eBytes op rd rn rm ra imm cond w, 0, ()) := by
  have h : V_thumb_Check (op, rd, rn, rm, ra, imm, cond, w, ()) = 0 := (check_iff op rd rn rm ra imm cond w).2 hok
  have hc : (V_thumb_Check (op, rd, rn, rm, ra, imm, cond, w, ()) != (0 : Int)) = false := by rw [h]; rfl
  have hv := bits_val op rd rn rm ra imm cond w h
  have hg : G_thumb_bits (op, rd, rn, rm, ra, imm, cond, w, ()) = true := by unfold G_thumb_bits; rw [hv]; rfl
  have he : V_thumb_bits (op, rd, rn, rm, ra, imm, cond, w, ()) = codeV op rd rn rm ra imm cond w := by unfold V_thumb_bits PO.getO; rw [hv]; rfl
  have hl := code_long op rd rn rm ra imm cond w h
  obtain ⟨hr, hs⟩ := same_bits op rd rn rm ra imm cond w h
  have e1' : (T_thumb_Encode (op, rd, rn, rm, ra, imm, cond, w, ())).val = (bif isLong op w then some (V_thumb_half (codeV op rd rn rm ra imm cond w).1 ++ V_thumb_half (codeV op rd rn rm ra imm cond w).2.1, 0, ()) else some (V_thumb_half (codeV op rd rn rm ra imm cond w).1, 0, ())) := by
    unfold T_thumb_Encode
    dsimp only [PO.val]
    rw [hc, hg, he, hl]
    rfl
  rw [e1']
  rcases hs with ⟨s1, s2, s3⟩ | ⟨s1, s2, s3, s4⟩
  · rw [s1, s3, half_by2 (rowV_lt _ _ _ _ _ _ _ s2 hr), row_hb _ _ _ _ _ _ _ s2 hr]
    unfold eBytes e1
    rw [s2, List.take_of_length_le (by omega)]
    rfl
  · have t1 : ((V_hauberkref02_Bits (op, w)).take 16).length = 16 := by rw [List.length_take]; omega
    have t2 : ((V_hauberkref02_Bits (op, w)).drop 16).length = 16 := by rw [List.length_drop]; omega
    have r1 : rowOf ((V_hauberkref02_Bits (op, w)).take 16) = true := List.all_eq_true.2 fun c hc => List.all_eq_true.1 hr c (List.mem_of_mem_take hc)
    have r2 : rowOf ((V_hauberkref02_Bits (op, w)).drop 16) = true := List.all_eq_true.2 fun c hc => List.all_eq_true.1 hr c (List.mem_of_mem_drop hc)
    rw [s1, s3, s4, half_by2 (rowV_lt _ _ _ _ _ _ _ t1 r1), half_by2 (rowV_lt _ _ _ _ _ _ _ t2 r2), row_hb _ _ _ _ _ _ _ t1 r1, row_hb _ _ _ _ _ _ _ t2 r2]
    unfold eBytes e1 e2
    rw [s2]
    rfl
theorem enc_bad (hok : okB op rd rn rm ra imm cond w = false) : ∃ e : Int, e ≠ 0 ∧ (T_thumb_Encode (op, rd, rn, rm, ra, imm, cond, w, ())).val = some ([], e, ()) := by
  have h : V_thumb_Check (op, rd, rn, rm, ra, imm, cond, w, ()) ≠ 0 := fun h => by rw [(check_iff op rd rn rm ra imm cond w).1 h] at hok; cases hok
  have hc : (V_thumb_Check (op, rd, rn, rm, ra, imm, cond, w, ()) != (0 : Int)) = true := bne_iff_ne.2 h
  refine ⟨_, h, ?_⟩
  unfold T_thumb_Encode
  dsimp only [PO.val]
  rw [hc]
  rfl
end
theorem u8_nat {n : Nat} (h : n < 256) : (toByte (n : Int)).toNat = n := by
  show (UInt8.ofNat ((n : Int).toNat)).toNat = n
  rw [Int.toNat_natCast, UInt8.toNat_ofNat']
  omega
theorem halfN_by2 (n : Nat) (h : n < 65536) (s : List UInt8) : halfN (by2 n ++ s) 0 = n := by
  show (toByte ((n % 256 : Nat) : Int)).toNat + 256 * (toByte ((n / 256 : Nat) : Int)).toNat = n
  rw [u8_nat (by omega), u8_nat (by omega)]
  omega
theorem halfN_by2' (m n : Nat) (h : n < 65536) (s : List UInt8) : halfN (by2 m ++ (by2 n ++ s)) 1 = n := by
  show (toByte ((n % 256 : Nat) : Int)).toNat + 256 * (toByte ((n / 256 : Nat) : Int)).toNat = n
  rw [u8_nat (by omega), u8_nat (by omega)]
  omega
theorem hb16 {l : List Bool} (h : l.length = 16) : hb l 0 < 65536 := by have := hb_lt0 l; rw [h] at this; exact this
theorem hx_of {s : List UInt8} {k : Nat} {l : List Bool} (hl : l.length = 16) (h : halfN s k = hb l 0) : hx s k = l := by
  unfold hx
  rw [h, ← hl, bits_hb]
/-- An instruction's bytes, with whatever behind them, are decoded as it. -/
theorem dec_back (op rd rn rm ra imm cond : Int) (w : Bool) (hok : okB op rd rn rm ra imm cond w = true) (s : List UInt8) : dDec (eBytes op rd rn rm ra imm cond w ++ s) = ((op, rd, rn, rm, ra, imm, cond, w, ()), lenI (eBytes op rd rn rm ra imm cond w), 0, ()) := by
  rcases two_ok op rd rn rm ra imm cond w hok with ⟨h1, h2, h3⟩ | ⟨h1, h2, h3⟩
  · have l1 := e1_len op rd rn rm ra imm cond w (.inl h1)
    have hb1 := hb16 l1
    have e : eBytes op rd rn rm ra imm cond w = by2 (hb (e1 op rd rn rm ra imm cond w) 0) := by unfold eBytes; rw [h1]; rfl
    have hh := halfN_by2 _ hb1 s
    have hx0 := hx_of l1 hh
    rw [e]
    unfold dDec
    rw [dec_false (p := lenI (by2 (hb (e1 op rd rn rm ra imm cond w) 0) ++ s) < 2) (by simp only [lenI, List.length_append, by2_len]; omega), hh, isL_ble l1, h2, hx0, h3]
    rfl
  · have l1 := e1_len op rd rn rm ra imm cond w (.inr h1)
    have l2 := e2_len op rd rn rm ra imm cond w h1
    have hb1 := hb16 l1
    have hb2 := hb16 l2
    have e : eBytes op rd rn rm ra imm cond w = by2 (hb (e1 op rd rn rm ra imm cond w) 0) ++ by2 (hb (e2 op rd rn rm ra imm cond w) 0) := by unfold eBytes; rw [h1]; rfl
    have hh := halfN_by2 _ hb1 (by2 (hb (e2 op rd rn rm ra imm cond w) 0) ++ s)
    have hh2 := halfN_by2' (hb (e1 op rd rn rm ra imm cond w) 0) _ hb2 s
    have hx0 := hx_of l1 hh
    have hx1 := hx_of l2 hh2
    rw [e, List.append_assoc]
    unfold dDec
    rw [dec_false (p := lenI (by2 (hb (e1 op rd rn rm ra imm cond w) 0) ++ (by2 (hb (e2 op rd rn rm ra imm cond w) 0) ++ s)) < 2) (by simp only [lenI, List.length_append, by2_len]; omega),
      dec_false (p := lenI (by2 (hb (e1 op rd rn rm ra imm cond w) 0) ++ (by2 (hb (e2 op rd rn rm ra imm cond w) 0) ++ s)) < 4) (by simp only [lenI, List.length_append, by2_len]; omega), hh, isL_ble l1, h2, hx0, hx1, h3]
    rfl
theorem by2_half (a b : UInt8) : by2 (a.toNat + 256 * b.toNat) = [a, b] := by
  have ha := a.toNat_lt
  have hb := b.toNat_lt
  unfold by2
  rw [show (a.toNat + 256 * b.toNat) % 256 = a.toNat by omega, show (a.toNat + 256 * b.toNat) / 256 = b.toNat by omega]
  have key : ∀ x : UInt8, toByte ((x.toNat : Nat) : Int) = x := fun x => by
    show UInt8.ofNat (((x.toNat : Nat) : Int).toNat) = x
    rw [Int.toNat_natCast, UInt8.ofNat_toNat]
  rw [key, key]
theorem take2 {s : List UInt8} (h : 2 ≤ s.length) : by2 (halfN s 0) = s.take 2 := by
  match s, h with
  | a :: b :: r, _ => exact by2_half a b
theorem take4 {s : List UInt8} (h : 4 ≤ s.length) : by2 (halfN s 0) ++ by2 (halfN s 1) = s.take 4 := by
  match s, h with
  | a :: b :: c :: d :: r, _ =>
    have h1 : by2 (halfN (a :: b :: c :: d :: r) 0) = [a, b] := by2_half a b
    have h2 : by2 (halfN (a :: b :: c :: d :: r) 1) = [c, d] := by2_half c d
    rw [h1, h2]
    rfl
theorem hb_hx (s : List UInt8) (k : Nat) : hb (hx s k) 0 = halfN s k := by
  unfold hx
  rw [bitsN_hb, Nat.mod_eq_of_lt (halfN_lt s k)]
/-- What is decoded has just those bytes; else there is an error. -/
theorem dec_only (s : List UInt8) : (∃ op rd rn rm ra imm cond w, okB op rd rn rm ra imm cond w = true ∧ dDec s = ((op, rd, rn, rm, ra, imm, cond, w, ()), lenI (eBytes op rd rn rm ra imm cond w), 0, ()) ∧ lenI (eBytes op rd rn rm ra imm cond w) ≤ lenI s ∧ s.take (eBytes op rd rn rm ra imm cond w).length = eBytes op rd rn rm ra imm cond w) ∨ dDec s = (zI, 0, 3, ()) ∨ dDec s = (zI, 0, 7, ()) := by
  unfold dDec
  cases h2 : decide (lenI s < 2)
  · have h2 : ¬ ((s.length : Nat) : Int) < 2 := of_decide_eq_false h2
    cases hb : Nat.ble 59392 (halfN s 0)
    · cases hd : dNarrow (hx s 0) with
      | none => exact .inr (.inr rfl)
      | some i =>
        obtain ⟨op, rd, rn, rm, ra, imm, cond, w, rfl, hok, hlen, hl⟩ := narrow_enc (hx_len s 0) hd
        have e : e1 op rd rn rm ra imm cond w = hx s 0 := by
          unfold e1
          rw [List.take_of_length_le (by omega)]
          exact hl
        have eb : eBytes op rd rn rm ra imm cond w = s.take 2 := by
          unfold eBytes
          rw [hlen, e, hb_hx, ← take2 (by omega)]
          rfl
        have l2 : (s.take 2).length = 2 := by rw [List.length_take]; omega
        refine .inl ⟨op, rd, rn, rm, ra, imm, cond, w, hok, ?_, ?_, ?_⟩
        · rw [eb]
          show ((op, rd, rn, rm, ra, imm, cond, w, ()), (2 : Int), (0 : Int), ()) = ((op, rd, rn, rm, ra, imm, cond, w, ()), (((s.take 2).length : Nat) : Int), (0 : Int), ())
          rw [l2]
          rfl
        · rw [eb]
          show (((s.take 2).length : Nat) : Int) ≤ ((s.length : Nat) : Int)
          omega
        · rw [eb, l2]
    · cases h4 : decide (lenI s < 4)
      · have h4 : ¬ ((s.length : Nat) : Int) < 4 := of_decide_eq_false h4
        cases hd : dLong (hx s 0) (hx s 1) with
        | none => exact .inr (.inr rfl)
        | some i =>
          obtain ⟨op, rd, rn, rm, ra, imm, cond, w, rfl, hok, hlen, hl, hl2⟩ := long_enc (hx_len s 0) (hx_len s 1) hd
          have eb : eBytes op rd rn rm ra imm cond w = s.take 4 := by
            unfold eBytes e1 e2
            rw [hlen, hl, hl2, hb_hx, hb_hx, ← take4 (by omega)]
            rfl
          have l4 : (s.take 4).length = 4 := by rw [List.length_take]; omega
          refine .inl ⟨op, rd, rn, rm, ra, imm, cond, w, hok, ?_, ?_, ?_⟩
          · rw [eb]
            show ((op, rd, rn, rm, ra, imm, cond, w, ()), (4 : Int), (0 : Int), ()) = ((op, rd, rn, rm, ra, imm, cond, w, ()), (((s.take 4).length : Nat) : Int), (0 : Int), ())
            rw [l4]
            rfl
          · rw [eb]
            show (((s.take 4).length : Nat) : Int) ≤ ((s.length : Nat) : Int)
            omega
          · rw [eb, l4]
      · exact .inr (.inl rfl)
  · exact .inr (.inl rfl)
/-- Unlike instructions have unlike bytes, none the beginning of the other ones'. -/
theorem enc_inj {op rd rn rm ra imm cond : Int} {w : Bool} {op' rd' rn' rm' ra' imm' cond' : Int} {w' : Bool} (h : okB op rd rn rm ra imm cond w = true) (h' : okB op' rd' rn' rm' ra' imm' cond' w' = true) {t : List UInt8}
    (e : eBytes op' rd' rn' rm' ra' imm' cond' w' = eBytes op rd rn rm ra imm cond w ++ t) : (op, rd, rn, rm, ra, imm, cond, w, ()) = (op', rd', rn', rm', ra', imm', cond', w', ()) := by
  have h1 := dec_back op rd rn rm ra imm cond w h t
  have h2 := dec_back op' rd' rn' rm' ra' imm' cond' w' h' []
  rw [List.append_nil, e, h1] at h2
  exact congrArg Prod.fst h2
theorem eBytes_len {op rd rn rm ra imm cond : Int} {w : Bool} (h : okB op rd rn rm ra imm cond w = true) : (eBytes op rd rn rm ra imm cond w).length = 2 ∨ (eBytes op rd rn rm ra imm cond w).length = 4 := by
  rcases two_ok op rd rn rm ra imm cond w h with ⟨h1, _, _⟩ | ⟨h1, _, _⟩
  · left; unfold eBytes; rw [h1]; rfl
  · right; unfold eBytes; rw [h1]; rfl
end Go.Av
