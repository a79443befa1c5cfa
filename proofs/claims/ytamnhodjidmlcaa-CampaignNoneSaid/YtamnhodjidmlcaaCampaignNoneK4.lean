/- Texts of the proof, one behind the other. -/
import Derived.Test.YtamnhodjidmlcaaCampaignNoneK3
import Derived.Test.YtamnhodjidmlcaaCampaignNoneK2
/-! Layer 3: of bits of each row's form there is an instruction, and these are its bits. Written by wip/tools/decfw.py. -/
section
namespace Go.Av
open Go
end Go.Av
end
/-! Layer 3: what is decoded out of bits has just these bits. Written by wip/tools/decfw2.py. -/
section
namespace Go.Av
open Go
end Go.Av
end
/-! Layer 3: what is decoded. -/
section
namespace Go.Av
open Go
/-- A text's n-th half, as bits. -/
def hx (s : List UInt8) (k : Nat) : List Bool := bitsN 16 (halfN s k)
theorem hx_len (s : List UInt8) (k : Nat) : (hx s k).length = 16 := bitsN_len ..
theorem hx_H (s : List UInt8) (k : Nat) : H (hx s k) = ((halfN s k : Nat) : Int) := by
  unfold H hx
  rw [bitsN_hb, Nat.mod_eq_of_lt (halfN_lt s k)]
abbrev zI : tIns.den := (0, 0, 0, 0, 0, 0, 0, false, ())
abbrev D4 := tIns.den × Int × Int × Unit
def dOut (n : Int) : Option tIns.den → D4
  | some i => (i, n, 0, ())
  | none => (zI, 0, 7, ())
/-- What is decoded. -/
def dDec (s : List UInt8) : D4 :=
  bif decide (lenI s < 2) then (zI, 0, 3, ())
  else bif Nat.ble 59392 (halfN s 0) then (bif decide (lenI s < 4) then (zI, 0, 3, ()) else dOut 4 (dLong (hx s 0) (hx s 1)))
  else dOut 2 (dNarrow (hx s 0))

theorem op1_V {S : Option D1} {d : Option tIns.den} (h : op1 S = some d) : ∃ p : D1, S = some p ∧ (p.2.1 = true → d = some p.1) ∧ (p.2.1 = false → d = none) := by
  obtain ⟨p, h1, h2⟩ := op1_get h
  refine ⟨p, h1, fun e => ?_, fun e => ?_⟩
  · rw [← h2, e]; rfl
  · rw [← h2, e]; rfl
theorem narrow_V (l : List Bool) (hl : l.length = 16) : G_decode_narrow (H l) = true ∧ ((V_decode_narrow (H l)).2.1 = true → dNarrow l = some (V_decode_narrow (H l)).1) ∧ ((V_decode_narrow (H l)).2.1 = false → dNarrow l = none) := by
  obtain ⟨p, h1, h2, h3⟩ := op1_V (narrow_T l hl)
  have hv : V_decode_narrow (H l) = p := by unfold V_decode_narrow PO.getO; rw [h1]; rfl
  have hg : G_decode_narrow (H l) = true := by unfold G_decode_narrow; rw [h1]; rfl
  rw [hv]
  exact ⟨hg, h2, h3⟩
theorem three_V (lx ly : List Bool) (hx : lx.length = 16) (hy : ly.length = 16) : G_decode_three (H lx, H ly) = true ∧ ((V_decode_three (H lx, H ly)).2.1 = true → dThree lx ly = some (V_decode_three (H lx, H ly)).1) ∧ ((V_decode_three (H lx, H ly)).2.1 = false → dThree lx ly = none) := by
  obtain ⟨p, h1, h2, h3⟩ := op1_V (three_T lx ly hx hy)
  have hv : V_decode_three (H lx, H ly) = p := by unfold V_decode_three PO.getO; rw [h1]; rfl
  have hg : G_decode_three (H lx, H ly) = true := by unfold G_decode_three; rw [h1]; rfl
  rw [hv]
  exact ⟨hg, h2, h3⟩
theorem product_V (lx ly : List Bool) (hx : lx.length = 16) (hy : ly.length = 16) : G_decode_product (H lx, H ly) = true ∧ ((V_decode_product (H lx, H ly)).2.1 = true → dProduct lx ly = some (V_decode_product (H lx, H ly)).1) ∧ ((V_decode_product (H lx, H ly)).2.1 = false → dProduct lx ly = none) := by
  obtain ⟨p, h1, h2, h3⟩ := op1_V (product_T lx ly hx hy)
  have hv : V_decode_product (H lx, H ly) = p := by unfold V_decode_product PO.getO; rw [h1]; rfl
  have hg : G_decode_product (H lx, H ly) = true := by unfold G_decode_product; rw [h1]; rfl
  rw [hv]
  exact ⟨hg, h2, h3⟩
theorem plain_V (lx ly : List Bool) (hx : lx.length = 16) (hy : ly.length = 16) : G_decode_plain (H lx, H ly) = true ∧ ((V_decode_plain (H lx, H ly)).2.1 = true → dPlain lx ly = some (V_decode_plain (H lx, H ly)).1) ∧ ((V_decode_plain (H lx, H ly)).2.1 = false → dPlain lx ly = none) := by
  obtain ⟨p, h1, h2, h3⟩ := op1_V (plain_T lx ly hx hy)
  have hv : V_decode_plain (H lx, H ly) = p := by unfold V_decode_plain PO.getO; rw [h1]; rfl
  have hg : G_decode_plain (H lx, H ly) = true := by unfold G_decode_plain; rw [h1]; rfl
  rw [hv]
  exact ⟨hg, h2, h3⟩
theorem branch_V (lx ly : List Bool) (hx : lx.length = 16) (hy : ly.length = 16) : G_decode_branch (H lx, H ly) = true ∧ ((V_decode_branch (H lx, H ly)).2.1 = true → dBranch lx ly = some (V_decode_branch (H lx, H ly)).1) ∧ ((V_decode_branch (H lx, H ly)).2.1 = false → dBranch lx ly = none) := by
  obtain ⟨p, h1, h2, h3⟩ := op1_V (branch_T lx ly hx hy)
  have hv : V_decode_branch (H lx, H ly) = p := by unfold V_decode_branch PO.getO; rw [h1]; rfl
  have hg : G_decode_branch (H lx, H ly) = true := by unfold G_decode_branch; rw [h1]; rfl
  rw [hv]
  exact ⟨hg, h2, h3⟩
def pk : Option tIns.den → D1
  | some i => (i, true, ())
  | none => (zI, false, ())
theorem long_T (lx ly : List Bool) (hx : lx.length = 16) (hy : ly.length = 16) : (T_decode_long (H lx, H ly)).val = some (pk (dLong lx ly)) := by
  obtain ⟨a1, a2, a3⟩ := three_V lx ly hx hy
  obtain ⟨b1, b2, b3⟩ := product_V lx ly hx hy
  obtain ⟨c1, c2, c3⟩ := plain_V lx ly hx hy
  obtain ⟨d1, d2, d3⟩ := branch_V lx ly hx hy
  unfold T_decode_long dLong PO.val
  rw [a1]
  dsimp only [cond_true, PO.val]
  cases ea : (V_decode_three (H lx, H ly)).2.1
  · rw [a3 ea, b1]
    dsimp only [cond_true, cond_false, PO.val]
    cases eb : (V_decode_product (H lx, H ly)).2.1
    · rw [b3 eb, c1]
      dsimp only [cond_true, cond_false, PO.val]
      cases ec : (V_decode_plain (H lx, H ly)).2.1
      · rw [c3 ec, d1]
        dsimp only [cond_true, cond_false, PO.val]
        cases ed : (V_decode_branch (H lx, H ly)).2.1
        · rw [d3 ed]; rfl
        · rw [d2 ed]; rfl
      · rw [c2 ec]; rfl
    · rw [b2 eb]; rfl
  · rw [a2 ea]; rfl
theorem decode_T (s : List UInt8) : (T_decode_Decode s).val = some (dDec s) := by
  unfold T_decode_Decode dDec PO.val
  cases h2 : decide (lenI s < 2)
  · have h2' := of_decide_eq_false h2
    cases hb : Nat.ble 59392 (halfN s 0)
    · have hs : V_decode_Size s = 2 := by unfold V_decode_Size; rw [h2, hb]; rfl
      have g : G_decode_half (s, 0) = true := by
        simp only [G_decode_half, Bool.or_eq_true, Bool.and_eq_true, beq_iff_eq, decide_eq_true_eq]
        exact .inl ⟨trivial, by omega⟩
      have hv : V_decode_half (s, 0) = H (hx s 0) := (hx_H s 0).symm
      obtain ⟨n1, n2, n3⟩ := narrow_V (hx s 0) (hx_len s 0)
      rw [hs, h2, g, hv, n1]
      dsimp only [cond_true, cond_false, PO.val, Bool.or_false]
      cases e : (V_decode_narrow (H (hx s 0))).2.1
      · rw [n3 e]; rfl
      · rw [n2 e]; rfl
    · have hs : V_decode_Size s = 4 := by unfold V_decode_Size; rw [h2, hb]; rfl
      rw [hs]
      cases h4 : decide (lenI s < 4)
      · have h4' := of_decide_eq_false h4
        have g : G_decode_half (s, 0) = true := by
          simp only [G_decode_half, Bool.or_eq_true, Bool.and_eq_true, beq_iff_eq, decide_eq_true_eq]
          exact .inl ⟨trivial, by omega⟩
        have g1 : G_decode_half (s, 1) = true := by
          simp only [G_decode_half, Bool.or_eq_true, Bool.and_eq_true, beq_iff_eq, decide_eq_true_eq]
          exact .inr ⟨trivial, by omega⟩
        have hv : V_decode_half (s, 0) = H (hx s 0) := (hx_H s 0).symm
        have hv1 : V_decode_half (s, 1) = H (hx s 1) := (hx_H s 1).symm
        have ht := long_T (hx s 0) (hx s 1) (hx_len s 0) (hx_len s 1)
        have gl : G_decode_long (H (hx s 0), H (hx s 1)) = true := by unfold G_decode_long; rw [ht]; rfl
        have vl : V_decode_long (H (hx s 0), H (hx s 1)) = pk (dLong (hx s 0) (hx s 1)) := by unfold V_decode_long PO.getO; rw [ht]; rfl
        rw [g, g1, hv, hv1, gl, vl]
        dsimp only [cond_true, cond_false, PO.val, Bool.or_false]
        cases dLong (hx s 0) (hx s 1) <;> rfl
      · rfl
  · have hs : V_decode_Size s = 0 := by unfold V_decode_Size; rw [h2]; rfl
    rw [hs]
    rfl
theorem decode_G (s : List UInt8) : G_decode_Decode s = true := by unfold G_decode_Decode; rw [decode_T]; rfl
theorem decode_V (s : List UInt8) : V_decode_Decode s = dDec s := by unfold V_decode_Decode PO.getO; rw [decode_T]; rfl

/-! ### An instruction's bytes -/

section
variable (op rd rn rm ra imm cond : Int) (w : Bool)
/-- An instruction's first, and second, half as bits. -/
def e1 : List Bool := hl (ltr rd rn rm ra imm cond) ((V_hauberkref02_Bits (op, w)).take 16)
def e2 : List Bool := hl (ltr rd rn rm ra imm cond) ((V_hauberkref02_Bits (op, w)).drop 16)
end
end Go.Av
end
/-! Chapter 27's worlds: memories with words in their rails, and instructions done on them: as they are walked. -/
section
namespace Go.Av
open Go

theorem strInts_bytes (l : List UInt8) : ∀ b ∈ strInts l, 0 ≤ b ∧ b < 256 := by
  intro b hb
  obtain ⟨u, _, rfl⟩ := List.mem_map.1 hb
  have := u.toNat_lt
  omega

theorem bytes4_length (v : Int) : (bytes4 v).length = 4 := by
  unfold bytes4 strInts
  rw [List.length_map]
  rfl

theorem mend_length {α : Type} (xs : List α) (o : Nat) (ys : List α) (n : Nat) (h : o + min ys.length n ≤ xs.length) : (mend xs o ys n).length = xs.length := by
  unfold mend
  simp
  omega

theorem mend_mem {α : Type} {xs ys : List α} {o n : Nat} {b : α} (h : b ∈ mend xs o ys n) : b ∈ xs ∨ b ∈ ys := by
  unfold mend at h
  rcases List.mem_append.1 h with h | h
  · rcases List.mem_append.1 h with h | h
    · exact .inl (List.mem_of_mem_take h)
    · exact .inr (List.mem_of_mem_take h)
  · exact .inl (List.mem_of_mem_drop h)

/-- A store leaves a memory in order. -/
theorem store_wf {y : MemT} (hy : MemWf y) (a n v : Int) : MemWf (storeM y a n v).2 ∧ (storeM y a n v).2.1 = y.1 := by
  unfold storeM
  rcases findM_cases y.1.1 a n true with ⟨e, he, hf⟩ | ⟨j, hj, hn, _, hf⟩
  · rw [hf]
    have hb : (e != 0) = true := by simpa using he
    dsimp only
    rw [hb]
    exact ⟨hy, rfl⟩
  · rw [hf]
    obtain ⟨_, _, _, _, g5, _, _⟩ := acc_ok hy hj hn
    have hl := mend_length y.2 (posM y j a) (bytes4 v) n.toNat (by rw [bytes4_length]; omega)
    refine ⟨⟨hy.regs, hy.len, fun i hi => ?_, fun b hb => ?_⟩, rfl⟩
    · obtain ⟨w1, w2⟩ := hy.wins i hi
      exact ⟨w1, by show _ ≤ (mend y.2 (posM y j a) (bytes4 v) n.toNat).length; rw [hl]; exact w2⟩
    · rcases mend_mem (show b ∈ mend y.2 (posM y j a) (bytes4 v) n.toNat from hb) with h | h
      · exact hy.bytes b h
      · exact strInts_bytes _ b h

theorem wordR_length (r : List Int) : (wordR r).length = r.length := by unfold wordR; simp

theorem regsOf_length (r : List Int) (op rd rn rm ra imm ld : Int) : (regsOf r op rd rn rm ra imm ld).length = r.length := by
  unfold regsOf
  cases op == 17
  · cases makesRd op <;> simp
  · simp

theorem step_len (s : tState.den) (i : tIns.den) (ld : Int) (h : List.length s.1 = 15) : List.length (V_cpu_Step (s, i, ld)).1.1 = 15 := by
  obtain ⟨op, rd, rn, rm, ra, imm, cond, w, u⟩ := i
  have hw : List.length (wState s).1 = 15 := by
    show (wordR s.1).length = 15
    rw [wordR_length, h]
  show List.length (stepV _ s op rd rn rm ra imm cond w ld).1.1 = 15
  unfold stepV
  cases (V_thumb_Check (op, rd, rn, rm, ra, imm, cond, w, u) != 0 || op == 2)
  · show List.length (bif op == 24 || op == 25 then wState s else makesS (wState s) op rd rn rm ra imm ld).1 = 15
    cases op == 24 || op == 25
    · show List.length (makesS (wState s) op rd rn rm ra imm ld).1 = 15
      unfold makesS
      cases op == 23
      · show (regsOf (wState s).1 op rd rn rm ra imm ld).length = 15
        rw [regsOf_length, hw]
      · exact hw
    · exact hw
  · exact hw

theorem accessV_addr (bad : Bool) (op a d : Int) : (show Int from (accessV bad op a d).1.1) = 0 ∨ (show Int from (accessV bad op a d).1.1) = (wn a : Int) := by
  unfold accessV
  cases bad <;> cases op == 19 <;> cases op == 20 <;> cases op == 21 <;> cases op == 22 <;> first | exact .inl rfl | exact .inr rfl

theorem access_addr (st : tState.den) (ins : tIns.den) : (show Int from (V_cpu_Access (st, ins)).1.1) < 9223372036854775808 := by
  obtain ⟨op, rd, rn, rm, ra, imm, cond, w, u⟩ := ins
  have := wn_lt (rg st.1 rn)
  rcases accessV_addr (V_thumb_Check (op, rd, rn, rm, ra, imm, cond, w, u) != 0) op (rg st.1 rn) (rg st.1 rd) with h | h
  · exact Int.lt_of_le_of_lt (Int.le_of_eq h) (by decide)
  · exact Int.lt_of_le_of_lt (Int.le_of_eq h) (by omega)

end Go.Av
end
