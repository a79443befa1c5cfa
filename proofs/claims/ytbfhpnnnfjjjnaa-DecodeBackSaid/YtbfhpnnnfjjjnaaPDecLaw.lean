/- Layer 3: what is decoded. -/
import Derived.Test.YtbfhpnnnfjjjnaaPDecFw2
namespace Go.Av
open Go
/-- A text's n-th half, as bits. -/
def hx (s : List UInt8) (k : Nat) : List Bool := bitsN 16 (halfN s k)
theorem hx_len (s : List UInt8) (k : Nat) : (hx s k).length = 16 := bitsN_len ..
theorem hx_H (s : List UInt8) (k : Nat) : H (hx s k) = ((halfN s k : Nat) : Int) := by
  unfold H hx
  rw [bitsN_hb, Nat.mod_eq_of_lt (halfN_lt s k)]
abbrev zI : tIns.den := (0, 0, 0, 0, 0, 0, 0, false, ())
abbrev D4 := tIns.den × Int × Int × Unit
def dOut (n : Int) : Option tIns.den → D4
  | some i => (i, n, 0, ())
  | none => (zI, 0, 7, ())
/-- What is decoded. -/
def dDec (s : List UInt8) : D4 :=
  bif decide (lenI s < 2) then (zI, 0, 3, ())
  else bif Nat.ble 59392 (halfN s 0) then (bif decide (lenI s < 4) then (zI, 0, 3, ()) else dOut 4 (dLong (hx s 0) (hx s 1)))
  else dOut 2 (dNarrow (hx s 0))

theorem op1_V {S : Option D1} {d : Option tIns.den} (h : op1 S = some d) : ∃ p : D1, S = some p ∧ (p.2.1 = true → d = some p.1) ∧ (p.2.1 = false → d = none) := by
  obtain ⟨p, h1, h2⟩ := op1_get h
  refine ⟨p, h1, fun e => ?_, fun e => ?_⟩
  · rw [← h2, e]; rfl
  · rw [← h2, e]; rfl
theorem narrow_V (l : List Bool) (hl : l.length = 16) : G_decode_narrow (H l) = true ∧ ((V_decode_narrow (H l)).2.1 = true → dNarrow l = some (V_decode_narrow (H l)).1) ∧ ((V_decode_narrow (H l)).2.1 = false → dNarrow l = none) := by
  obtain ⟨p, h1, h2, h3⟩ := op1_V (narrow_T l hl)
  have hv : V_decode_narrow (H l) = p := by unfold V_decode_narrow PO.getO; rw [h1]; rfl
  have hg : G_decode_narrow (H l) = true := by unfold G_decode_narrow; rw [h1]; rfl
  rw [hv]
  exact ⟨hg, h2, h3⟩
theorem three_V (lx ly : List Bool) (hx : lx.length = 16) (hy : ly.length = 16) : G_decode_three (H lx, H ly) = true ∧ ((V_decode_three (H lx, H ly)).2.1 = true → dThree lx ly = some (V_decode_three (H lx, H ly)).1) ∧ ((V_decode_three (H lx, H ly)).2.1 = false → dThree lx ly = none) := by
  obtain ⟨p, h1, h2, h3⟩ := op1_V (three_T lx ly hx hy)
  have hv : V_decode_three (H lx, H ly) = p := by unfold V_decode_three PO.getO; rw [h1]; rfl
  have hg : G_decode_three (H lx, H ly) = true := by unfold G_decode_three; rw [h1]; rfl
  rw [hv]
  exact ⟨hg, h2, h3⟩
theorem product_V (lx ly : List Bool) (hx : lx.length = 16) (hy : ly.length = 16) : G_decode_product (H lx, H ly) = true ∧ ((V_decode_product (H lx, H ly)).2.1 = true → dProduct lx ly = some (V_decode_product (H lx, H ly)).1) ∧ ((V_decode_product (H lx, H ly)).2.1 = false → dProduct lx ly = none) := by
  obtain ⟨p, h1, h2, h3⟩ := op1_V (product_T lx ly hx hy)
  have hv : V_decode_product (H lx, H ly) = p := by unfold V_decode_product PO.getO; rw [h1]; rfl
  have hg : G_decode_product (H lx, H ly) = true := by unfold G_decode_product; rw [h1]; rfl
  rw [hv]
  exact ⟨hg, h2, h3⟩
theorem plain_V (lx ly : List Bool) (hx : lx.length = 16) (hy : ly.length = 16) : G_decode_plain (H lx, H ly) = true ∧ ((V_decode_plain (H lx, H ly)).2.1 = true → dPlain lx ly = some (V_decode_plain (H lx, H ly)).1) ∧ ((V_decode_plain (H lx, H ly)).2.1 = false → dPlain lx ly = none) := by
  obtain ⟨p, h1, h2, h3⟩ := op1_V (plain_T lx ly hx hy)
  have hv : V_decode_plain (H lx, H ly) = p := by unfold V_decode_plain PO.getO; rw [h1]; rfl
  have hg : G_decode_plain (H lx, H ly) = true := by unfold G_decode_plain; rw [h1]; rfl
  rw [hv]
  exact ⟨hg, h2, h3⟩
theorem branch_V (lx ly : List Bool) (hx : lx.length = 16) (hy : ly.length = 16) : G_decode_branch (H lx, H ly) = true ∧ ((V_decode_branch (H lx, H ly)).2.1 = true → dBranch lx ly = some (V_decode_branch (H lx, H ly)).1) ∧ ((V_decode_branch (H lx, H ly)).2.1 = false → dBranch lx ly = none) := by
  obtain ⟨p, h1, h2, h3⟩ := op1_V (branch_T lx ly hx hy)
  have hv : V_decode_branch (H lx, H ly) = p := by unfold V_decode_branch PO.getO; rw [h1]; rfl
  have hg : G_decode_branch (H lx, H ly) = true := by unfold G_decode_branch; rw [h1]; rfl
  rw [hv]
  exact ⟨hg, h2, h3⟩
def pk : Option tIns.den → D1
  | some i => (i, true, ())
  | none => (zI, false, ())
theorem long_T (lx ly : List Bool) (hx : lx.length = 16) (hy : ly.length = 16) : (T_decode_long (H lx, H ly)).val = some (pk (dLong lx ly)) := by
  obtain ⟨a1, a2, a3⟩ := three_V lx ly hx hy
  obtain ⟨b1, b2, b3⟩ := product_V lx ly hx hy
  obtain ⟨c1, c2, c3⟩ := plain_V lx ly hx hy
  obtain ⟨d1, d2, d3⟩ := branch_V lx ly hx hy
  unfold T_decode_long dLong PO.val
  rw [a1]
  dsimp only [cond_true, PO.val]
  cases ea : (V_decode_three (H lx, H ly)).2.1
  · rw [a3 ea, b1]
    dsimp only [cond_true, cond_false, PO.val]
    cases eb : (V_decode_product (H lx, H ly)).2.1
    · rw [b3 eb, c1]
      dsimp only [cond_true, cond_false, PO.val]
      cases ec : (V_decode_plain (H lx, H ly)).2.1
      · rw [c3 ec, d1]
        dsimp only [cond_true, cond_false, PO.val]
        cases ed : (V_decode_branch (H lx, H ly)).2.1
        · rw [d3 ed]; rfl
        · rw [d2 ed]; rfl
      · rw [c2 ec]; rfl
    · rw [b2 eb]; rfl
  · rw [a2 ea]; rfl
theorem decode_T (s : List UInt8) : (T_decode_Decode s).val = some (dDec s) := by
  unfold T_decode_Decode dDec PO.val
  cases h2 : decide (lenI s < 2)
  · have h2' := of_decide_eq_false h2
    cases hb : Nat.ble 59392 (halfN s 0)
    · have hs : V_decode_Size s = 2 := by unfold V_decode_Size; rw [h2, hb]; rfl
      have g : G_decode_half (s, 0) = true := by
        simp only [G_decode_half, Bool.or_eq_true, Bool.and_eq_true, beq_iff_eq, decide_eq_true_eq]
        exact .inl ⟨trivial, by omega⟩
      have hv : V_decode_half (s, 0) = H (hx s 0) := (hx_H s 0).symm
      obtain ⟨n1, n2, n3⟩ := narrow_V (hx s 0) (hx_len s 0)
      rw [hs, h2, g, hv, n1]
      dsimp only [cond_true, cond_false, PO.val, Bool.or_false]
      cases e : (V_decode_narrow (H (hx s 0))).2.1
      · rw [n3 e]; rfl
      · rw [n2 e]; rfl
    · have hs : V_decode_Size s = 4 := by unfold V_decode_Size; rw [h2, hb]; rfl
      rw [hs]
      cases h4 : decide (lenI s < 4)
      · have h4' := of_decide_eq_false h4
        have g : G_decode_half (s, 0) = true := by
          simp only [G_decode_half, Bool.or_eq_true, Bool.and_eq_true, beq_iff_eq, decide_eq_true_eq]
          exact .inl ⟨trivial, by omega⟩
        have g1 : G_decode_half (s, 1) = true := by
          simp only [G_decode_half, Bool.or_eq_true, Bool.and_eq_true, beq_iff_eq, decide_eq_true_eq]
          exact .inr ⟨trivial, by omega⟩
        have hv : V_decode_half (s, 0) = H (hx s 0) := (hx_H s 0).symm
        have hv1 : V_decode_half (s, 1) = H (hx s 1) := (hx_H s 1).symm
        have ht := long_T (hx s 0) (hx s 1) (hx_len s 0) (hx_len s 1)
        have gl : G_decode_long (H (hx s 0), H (hx s 1)) = true := by unfold G_decode_long; rw [ht]; rfl
        have vl : V_decode_long (H (hx s 0), H (hx s 1)) = pk (dLong (hx s 0) (hx s 1)) := by unfold V_decode_long PO.getO; rw [ht]; rfl
        rw [g, g1, hv, hv1, gl, vl]
        dsimp only [cond_true, cond_false, PO.val, Bool.or_false]
        cases dLong (hx s 0) (hx s 1) <;> rfl
      · rfl
  · have hs : V_decode_Size s = 0 := by unfold V_decode_Size; rw [h2]; rfl
    rw [hs]
    rfl
theorem decode_G (s : List UInt8) : G_decode_Decode s = true := by unfold G_decode_Decode; rw [decode_T]; rfl
theorem decode_V (s : List UInt8) : V_decode_Decode s = dDec s := by unfold V_decode_Decode PO.getO; rw [decode_T]; rfl

/-! ### An instruction's bytes -/

/-- Does a first half begin one of two? -/
def isL (l : List Bool) : Bool := l.getD 0 false && (l.getD 1 false && (l.getD 2 false && (l.getD 3 false || l.getD 4 false)))
theorem isL_ble {l : List Bool} (hl : l.length = 16) : Nat.ble 59392 (hb l 0) = isL l := by
  obtain ⟨x0, x1, x2, x3, x4, x5, x6, x7, x8, x9, x10, x11, x12, x13, x14, x15, rfl⟩ := len16 hl
  have h := hb_shift [x0, x1, x2, x3, x4, x5, x6, x7, x8, x9, x10, x11, x12, x13, x14, x15] 11 (by simp)
  have e : hb ([x0, x1, x2, x3, x4, x5, x6, x7, x8, x9, x10, x11, x12, x13, x14, x15].take ([x0, x1, x2, x3, x4, x5, x6, x7, x8, x9, x10, x11, x12, x13, x14, x15].length - 11)) 0 = hb [x0, x1, x2, x3, x4] 0 := rfl
  rw [e] at h
  show _ = (x0 && (x1 && (x2 && (x3 || x4))))
  have h3 : Nat.ble 59392 (hb [x0, x1, x2, x3, x4, x5, x6, x7, x8, x9, x10, x11, x12, x13, x14, x15] 0) = Nat.ble 29 (hb [x0, x1, x2, x3, x4] 0) := by
    rw [Bool.eq_iff_iff, Nat.ble_eq, Nat.ble_eq, ← h]
    omega
  rw [h3]
  cases x0 <;> cases x1 <;> cases x2 <;> cases x3 <;> cases x4 <;> rfl

section
variable (op rd rn rm ra imm cond : Int) (w : Bool)
/-- An instruction's first, and second, half as bits. -/
def e1 : List Bool := hl (ltr rd rn rm ra imm cond) ((V_hauberkref02_Bits (op, w)).take 16)
def e2 : List Bool := hl (ltr rd rn rm ra imm cond) ((V_hauberkref02_Bits (op, w)).drop 16)
abbrev theI : tIns.den := (op, rd, rn, rm, ra, imm, cond, w, ())
/-- One half or two. -/
def Two : Prop := ((V_hauberkref02_Bits (op, w)).length = 16 ∧ isL (e1 op rd rn rm ra imm cond w) = false ∧ dNarrow (e1 op rd rn rm ra imm cond w) = some (theI op rd rn rm ra imm cond w)) ∨ ((V_hauberkref02_Bits (op, w)).length = 32 ∧ isL (e1 op rd rn rm ra imm cond w) = true ∧ dLong (e1 op rd rn rm ra imm cond w) (e2 op rd rn rm ra imm cond w) = some (theI op rd rn rm ra imm cond w))
end
theorem bw_iff {n a b : Int} : bw n a b = true ↔ a ≤ n ∧ n ≤ b := by rw [Bool.and_eq_true, decide_eq_true_eq, decide_eq_true_eq]
set_option maxHeartbeats 1000000 in
theorem two_ok (op rd rn rm ra imm cond : Int) (w : Bool) (h : okB op rd rn rm ra imm cond w = true) : Two op rd rn rm ra imm cond w := by
  rcases op_cases op with rfl | rfl | rfl | rfl | rfl | rfl | rfl | rfl | rfl | rfl | rfl | rfl | rfl | rfl | rfl | rfl | rfl | rfl | rfl | rfl | rfl | rfl | rfl | rfl | rfl | hop
  case inr.inr.inr.inr.inr.inr.inr.inr.inr.inr.inr.inr.inr.inr.inr.inr.inr.inr.inr.inr.inr.inr.inr.inr.inr =>
    exfalso
    have e := fun k hk => op_none (n := op) (k := k) hop hk
    have e2 : bw op 10 16 = false := by unfold bw; rw [Bool.and_eq_false_iff, decide_eq_false_iff_not, decide_eq_false_iff_not]; omega
    simp [okB, e, e2] at h
  case inr.inr.inr.inr.inr.inr.inr.inr.inr.inr.inr.inr.inr.inr.inr.inr.inr.inr.inr.inr.inr.inr.inr.inl =>
    cases w
    · have h : (rd == 0 && (rn == 0 && (rm == 0 && (ra == 0 && (cond == 0 && (imm % 2 == 0 && bw imm (-2048) 2046)))))) = true := h
      simp only [Bool.and_eq_true, beq_iff_eq, decide_eq_true_eq] at h
      obtain ⟨rfl, rfl, rfl, rfl, rfl, h1, h2, h3⟩ := h
      exact .inl ⟨by kernel_rfl, by kernel_rfl, bk_24 imm h1 h2 h3⟩
    · have h : (rd == 0 && (rn == 0 && (rm == 0 && (ra == 0 && (cond == 0 && (imm % 2 == 0 && bw imm (-16777216) 16777214)))))) = true := h
      simp only [Bool.and_eq_true, beq_iff_eq, decide_eq_true_eq] at h
      obtain ⟨rfl, rfl, rfl, rfl, rfl, h1, h2, h3⟩ := h
      exact .inr ⟨by kernel_rfl, by kernel_rfl, bk_24w imm h1 h2 h3⟩
  case inr.inr.inr.inr.inr.inr.inr.inr.inr.inr.inr.inr.inr.inr.inr.inr.inr.inr.inr.inr.inr.inr.inr.inr.inl =>
    cases w
    · have h : (rd == 0 && (rn == 0 && (rm == 0 && (ra == 0 && (bw cond 0 13 && (imm % 2 == 0 && bw imm (-256) 254)))))) = true := h
      simp only [Bool.and_eq_true, beq_iff_eq, decide_eq_true_eq] at h
      obtain ⟨rfl, rfl, rfl, rfl, ⟨c1, c2⟩, h1, h2, h3⟩ := h
      exact .inl ⟨by kernel_rfl, by kernel_rfl, bk_25 imm h1 h2 h3 cond c1 c2⟩
    · have h : (rd == 0 && (rn == 0 && (rm == 0 && (ra == 0 && (bw cond 0 13 && (imm % 2 == 0 && bw imm (-1048576) 1048574)))))) = true := h
      simp only [Bool.and_eq_true, beq_iff_eq, decide_eq_true_eq] at h
      obtain ⟨rfl, rfl, rfl, rfl, ⟨c1, c2⟩, h1, h2, h3⟩ := h
      exact .inr ⟨by kernel_rfl, by kernel_rfl, bk_25w imm h1 h2 h3 cond c1 c2⟩
  all_goals
    cases w
    case true => exact Bool.noConfusion (show false = true from h)
  · have h : (cond == 0 && (rd == 0 && (rn == 0 && (rm == 0 && (ra == 0 && imm == 0))))) = true := h
    simp only [Bool.and_eq_true, beq_iff_eq] at h
    obtain ⟨rfl, rfl, rfl, rfl, rfl, rfl⟩ := h
    exact .inl ⟨by kernel_rfl, by kernel_rfl, bk_1⟩
  · have h : (cond == 0 && (rd == 0 && (rn == 0 && (rm == 0 && (ra == 0 && bw imm 0 255))))) = true := h
    simp only [Bool.and_eq_true, beq_iff_eq, decide_eq_true_eq] at h
    obtain ⟨rfl, rfl, rfl, rfl, rfl, h1, h2⟩ := h
    exact .inl ⟨by kernel_rfl, by kernel_rfl, bk_2 imm h1 h2⟩
  · have h : (cond == 0 && (bw rd 0 12 && (rn == 0 && (rm == 0 && (ra == 0 && bw imm 0 65535))))) = true := h
    simp only [Bool.and_eq_true, beq_iff_eq, decide_eq_true_eq] at h
    obtain ⟨rfl, ⟨d1, d2⟩, rfl, rfl, rfl, h1, h2⟩ := h
    exact .inr ⟨by kernel_rfl, by kernel_rfl, bk_3 rd d1 d2 imm h1 h2⟩
  · have h : (cond == 0 && (bw rd 0 12 && (rn == 0 && (rm == 0 && (ra == 0 && bw imm 0 65535))))) = true := h
    simp only [Bool.and_eq_true, beq_iff_eq, decide_eq_true_eq] at h
    obtain ⟨rfl, ⟨d1, d2⟩, rfl, rfl, rfl, h1, h2⟩ := h
    exact .inr ⟨by kernel_rfl, by kernel_rfl, bk_4 rd d1 d2 imm h1 h2⟩
  · have h : (cond == 0 && (bw rd 0 12 && (rn == 0 && (bw rm 0 12 && (ra == 0 && bw imm 0 31))))) = true := h
    simp only [Bool.and_eq_true, beq_iff_eq, decide_eq_true_eq] at h
    obtain ⟨rfl, ⟨d1, d2⟩, rfl, ⟨m1, m2⟩, rfl, h1, h2⟩ := h
    exact .inr ⟨by kernel_rfl, by kernel_rfl, bk_5 rd d1 d2 rm m1 m2 imm h1 h2⟩
  · have h : (cond == 0 && (bw rd 0 12 && (rn == 0 && (bw rm 0 12 && (ra == 0 && bw imm 1 31))))) = true := h
    simp only [Bool.and_eq_true, beq_iff_eq, decide_eq_true_eq] at h
    obtain ⟨rfl, ⟨d1, d2⟩, rfl, ⟨m1, m2⟩, rfl, h1, h2⟩ := h
    exact .inr ⟨by kernel_rfl, by kernel_rfl, bk_6 rd d1 d2 rm m1 m2 imm h1 h2⟩
  · have h : (cond == 0 && (bw rd 0 12 && (rn == 0 && (bw rm 0 12 && (ra == 0 && bw imm 1 31))))) = true := h
    simp only [Bool.and_eq_true, beq_iff_eq, decide_eq_true_eq] at h
    obtain ⟨rfl, ⟨d1, d2⟩, rfl, ⟨m1, m2⟩, rfl, h1, h2⟩ := h
    exact .inr ⟨by kernel_rfl, by kernel_rfl, bk_7 rd d1 d2 rm m1 m2 imm h1 h2⟩
  · have h : (cond == 0 && (bw rd 0 12 && (rn == 0 && (bw rm 0 12 && (ra == 0 && bw imm 1 31))))) = true := h
    simp only [Bool.and_eq_true, beq_iff_eq, decide_eq_true_eq] at h
    obtain ⟨rfl, ⟨d1, d2⟩, rfl, ⟨m1, m2⟩, rfl, h1, h2⟩ := h
    exact .inr ⟨by kernel_rfl, by kernel_rfl, bk_8 rd d1 d2 rm m1 m2 imm h1 h2⟩
  · have h : (cond == 0 && (bw rd 0 12 && (rn == 0 && (bw rm 0 12 && (ra == 0 && imm == 0))))) = true := h
    simp only [Bool.and_eq_true, beq_iff_eq, decide_eq_true_eq] at h
    obtain ⟨rfl, ⟨d1, d2⟩, rfl, ⟨m1, m2⟩, rfl, rfl⟩ := h
    exact .inr ⟨by kernel_rfl, by kernel_rfl, bk_9 rd d1 d2 rm m1 m2⟩
  · have h : (cond == 0 && (bw rd 0 12 && (bw rn 0 12 && (bw rm 0 12 && (ra == 0 && imm == 0))))) = true := h
    simp only [Bool.and_eq_true, beq_iff_eq, decide_eq_true_eq] at h
    obtain ⟨rfl, ⟨d1, d2⟩, ⟨n1, n2⟩, ⟨m1, m2⟩, rfl, rfl⟩ := h
    exact .inr ⟨by kernel_rfl, by kernel_rfl, bk_10 rd d1 d2 rn n1 n2 rm m1 m2⟩
  · have h : (cond == 0 && (bw rd 0 12 && (bw rn 0 12 && (bw rm 0 12 && (ra == 0 && imm == 0))))) = true := h
    simp only [Bool.and_eq_true, beq_iff_eq, decide_eq_true_eq] at h
    obtain ⟨rfl, ⟨d1, d2⟩, ⟨n1, n2⟩, ⟨m1, m2⟩, rfl, rfl⟩ := h
    exact .inr ⟨by kernel_rfl, by kernel_rfl, bk_11 rd d1 d2 rn n1 n2 rm m1 m2⟩
  · have h : (cond == 0 && (bw rd 0 12 && (bw rn 0 12 && (bw rm 0 12 && (ra == 0 && imm == 0))))) = true := h
    simp only [Bool.and_eq_true, beq_iff_eq, decide_eq_true_eq] at h
    obtain ⟨rfl, ⟨d1, d2⟩, ⟨n1, n2⟩, ⟨m1, m2⟩, rfl, rfl⟩ := h
    exact .inr ⟨by kernel_rfl, by kernel_rfl, bk_12 rd d1 d2 rn n1 n2 rm m1 m2⟩
  · have h : (cond == 0 && (bw rd 0 12 && (bw rn 0 12 && (bw rm 0 12 && (ra == 0 && imm == 0))))) = true := h
    simp only [Bool.and_eq_true, beq_iff_eq, decide_eq_true_eq] at h
    obtain ⟨rfl, ⟨d1, d2⟩, ⟨n1, n2⟩, ⟨m1, m2⟩, rfl, rfl⟩ := h
    exact .inr ⟨by kernel_rfl, by kernel_rfl, bk_13 rd d1 d2 rn n1 n2 rm m1 m2⟩
  · have h : (cond == 0 && (bw rd 0 12 && (bw rn 0 12 && (bw rm 0 12 && (ra == 0 && imm == 0))))) = true := h
    simp only [Bool.and_eq_true, beq_iff_eq, decide_eq_true_eq] at h
    obtain ⟨rfl, ⟨d1, d2⟩, ⟨n1, n2⟩, ⟨m1, m2⟩, rfl, rfl⟩ := h
    exact .inr ⟨by kernel_rfl, by kernel_rfl, bk_14 rd d1 d2 rn n1 n2 rm m1 m2⟩
  · have h : (cond == 0 && (bw rd 0 12 && (bw rn 0 12 && (bw rm 0 12 && (ra == 0 && imm == 0))))) = true := h
    simp only [Bool.and_eq_true, beq_iff_eq, decide_eq_true_eq] at h
    obtain ⟨rfl, ⟨d1, d2⟩, ⟨n1, n2⟩, ⟨m1, m2⟩, rfl, rfl⟩ := h
    exact .inr ⟨by kernel_rfl, by kernel_rfl, bk_15 rd d1 d2 rn n1 n2 rm m1 m2⟩
  · have h : (cond == 0 && (bw rd 0 12 && (bw rn 0 12 && (bw rm 0 12 && (ra == 0 && imm == 0))))) = true := h
    simp only [Bool.and_eq_true, beq_iff_eq, decide_eq_true_eq] at h
    obtain ⟨rfl, ⟨d1, d2⟩, ⟨n1, n2⟩, ⟨m1, m2⟩, rfl, rfl⟩ := h
    exact .inr ⟨by kernel_rfl, by kernel_rfl, bk_16 rd d1 d2 rn n1 n2 rm m1 m2⟩
  · have h : (cond == 0 && (bw rd 0 12 && (bw rn 0 12 && (bw rm 0 12 && (bw ra 0 12 && (imm == 0 && ra != rd)))))) = true := h
    simp only [Bool.and_eq_true, beq_iff_eq, decide_eq_true_eq, bne_iff_ne] at h
    obtain ⟨rfl, ⟨d1, d2⟩, ⟨n1, n2⟩, ⟨m1, m2⟩, ⟨a1, a2⟩, rfl, hne⟩ := h
    exact .inr ⟨by kernel_rfl, by kernel_rfl, bk_17 rd d1 d2 ra a1 a2 rn n1 n2 rm m1 m2 hne⟩
  · have h : (cond == 0 && (bw rd 0 12 && (bw rn 0 12 && (rm == 0 && (bw imm 0 31 && bw ra 1 (32 - imm)))))) = true := h
    simp only [Bool.and_eq_true, beq_iff_eq, decide_eq_true_eq] at h
    obtain ⟨rfl, ⟨d1, d2⟩, ⟨n1, n2⟩, rfl, ⟨h1, h2⟩, a1, a2⟩ := h
    exact .inr ⟨by kernel_rfl, by kernel_rfl, bk_18 rd d1 d2 rn n1 n2 imm h1 h2 ra a1 a2⟩
  · have h : (cond == 0 && (bw rd 0 7 && (bw rn 0 7 && (rm == 0 && (ra == 0 && imm == 0))))) = true := h
    simp only [Bool.and_eq_true, beq_iff_eq, decide_eq_true_eq] at h
    obtain ⟨rfl, ⟨d1, d2⟩, ⟨n1, n2⟩, rfl, rfl, rfl⟩ := h
    exact .inl ⟨by kernel_rfl, by kernel_rfl, bk_19 rd d1 d2 rn n1 n2⟩
  · have h : (cond == 0 && (bw rd 0 7 && (bw rn 0 7 && (rm == 0 && (ra == 0 && imm == 0))))) = true := h
    simp only [Bool.and_eq_true, beq_iff_eq, decide_eq_true_eq] at h
    obtain ⟨rfl, ⟨d1, d2⟩, ⟨n1, n2⟩, rfl, rfl, rfl⟩ := h
    exact .inl ⟨by kernel_rfl, by kernel_rfl, bk_20 rd d1 d2 rn n1 n2⟩
  · have h : (cond == 0 && (bw rd 0 7 && (bw rn 0 7 && (rm == 0 && (ra == 0 && imm == 0))))) = true := h
    simp only [Bool.and_eq_true, beq_iff_eq, decide_eq_true_eq] at h
    obtain ⟨rfl, ⟨d1, d2⟩, ⟨n1, n2⟩, rfl, rfl, rfl⟩ := h
    exact .inl ⟨by kernel_rfl, by kernel_rfl, bk_21 rd d1 d2 rn n1 n2⟩
  · have h : (cond == 0 && (bw rd 0 7 && (bw rn 0 7 && (rm == 0 && (ra == 0 && imm == 0))))) = true := h
    simp only [Bool.and_eq_true, beq_iff_eq, decide_eq_true_eq] at h
    obtain ⟨rfl, ⟨d1, d2⟩, ⟨n1, n2⟩, rfl, rfl, rfl⟩ := h
    exact .inl ⟨by kernel_rfl, by kernel_rfl, bk_22 rd d1 d2 rn n1 n2⟩
  · have h : (cond == 0 && (rd == 0 && (bw rn 0 7 && (bw rm 0 7 && (ra == 0 && imm == 0))))) = true := h
    simp only [Bool.and_eq_true, beq_iff_eq, decide_eq_true_eq] at h
    obtain ⟨rfl, rfl, ⟨n1, n2⟩, ⟨m1, m2⟩, rfl, rfl⟩ := h
    exact .inl ⟨by kernel_rfl, by kernel_rfl, bk_23 rn n1 n2 rm m1 m2⟩
end Go.Av
