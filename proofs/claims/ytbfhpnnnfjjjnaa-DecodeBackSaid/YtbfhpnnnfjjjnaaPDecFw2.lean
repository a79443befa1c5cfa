/- Layer 3: what is decoded out of bits has just these bits. Written by wip/tools/decfw2.py. -/
import Derived.Test.YtbfhpnnnfjjjnaaPDecFw
namespace Go.Av
open Go
/-- An instruction that there is, with these bits. -/
def Enc1 (i : tIns.den) (l : List Bool) : Prop := ∃ (op rd rn rm ra imm cond : Int) (w : Bool), i = (op, rd, rn, rm, ra, imm, cond, w, ()) ∧ okB op rd rn rm ra imm cond w = true ∧ (V_hauberkref02_Bits (op, w)).length = 16 ∧ hl (ltr rd rn rm ra imm cond) (V_hauberkref02_Bits (op, w)) = l
def Enc2 (i : tIns.den) (lx ly : List Bool) : Prop := ∃ (op rd rn rm ra imm cond : Int) (w : Bool), i = (op, rd, rn, rm, ra, imm, cond, w, ()) ∧ okB op rd rn rm ra imm cond w = true ∧ (V_hauberkref02_Bits (op, w)).length = 32 ∧ hl (ltr rd rn rm ra imm cond) ((V_hauberkref02_Bits (op, w)).take 16) = lx ∧ hl (ltr rd rn rm ra imm cond) ((V_hauberkref02_Bits (op, w)).drop 16) = ly
theorem cond_some' {α : Type} {c : Bool} {a b o : α} (h : (bif c then a else b) = o) : (c = true ∧ a = o) ∨ (c = false ∧ b = o) := by
  cases c
  · exact .inr ⟨rfl, h⟩
  · exact .inl ⟨rfl, h⟩
theorem narrow_fw (x0 x1 x2 x3 x4 x5 x6 x7 x8 x9 x10 x11 x12 x13 x14 x15 : Bool) (i : tIns.den) (h : dNarrow [x0, x1, x2, x3, x4, x5, x6, x7, x8, x9, x10, x11, x12, x13, x14, x15] = some i) : Enc1 i [x0, x1, x2, x3, x4, x5, x6, x7, x8, x9, x10, x11, x12, x13, x14, x15] := by
  unfold dNarrow at h
  rcases cond_some' h with ⟨c, g⟩ | ⟨_, g⟩ <;> clear h <;> have h := g <;> clear g
  · simp [eqC, bitsN, sl] at c
    obtain ⟨rfl, rfl, rfl, rfl, rfl, rfl, rfl, rfl, rfl, rfl, rfl, rfl, rfl, rfl, rfl, rfl⟩ := c
    cases h
    exact ⟨1, _, _, _, _, _, _, false, rfl, fw_1 ⟩
  rcases cond_some' h with ⟨c, g⟩ | ⟨_, g⟩ <;> clear h <;> have h := g <;> clear g
  · simp [eqC, bitsN, sl] at c
    obtain ⟨rfl, rfl, rfl, rfl, rfl, rfl, rfl, rfl⟩ := c
    cases h
    exact ⟨2, _, _, _, _, _, _, false, rfl, fw_2 x8 x9 x10 x11 x12 x13 x14 x15⟩
  rcases cond_some' h with ⟨c, g⟩ | ⟨_, g⟩ <;> clear h <;> have h := g <;> clear g
  · simp [eqC, bitsN, sl] at c
    obtain ⟨rfl, rfl, rfl, rfl, rfl, rfl, rfl, rfl, rfl, rfl⟩ := c
    cases h
    exact ⟨19, _, _, _, _, _, _, false, rfl, fw_19 x10 x11 x12 x13 x14 x15⟩
  rcases cond_some' h with ⟨c, g⟩ | ⟨_, g⟩ <;> clear h <;> have h := g <;> clear g
  · simp [eqC, bitsN, sl] at c
    obtain ⟨rfl, rfl, rfl, rfl, rfl, rfl, rfl, rfl, rfl, rfl⟩ := c
    cases h
    exact ⟨20, _, _, _, _, _, _, false, rfl, fw_20 x10 x11 x12 x13 x14 x15⟩
  rcases cond_some' h with ⟨c, g⟩ | ⟨_, g⟩ <;> clear h <;> have h := g <;> clear g
  · simp [eqC, bitsN, sl] at c
    obtain ⟨rfl, rfl, rfl, rfl, rfl, rfl, rfl, rfl, rfl, rfl⟩ := c
    cases h
    exact ⟨21, _, _, _, _, _, _, false, rfl, fw_21 x10 x11 x12 x13 x14 x15⟩
  rcases cond_some' h with ⟨c, g⟩ | ⟨_, g⟩ <;> clear h <;> have h := g <;> clear g
  · simp [eqC, bitsN, sl] at c
    obtain ⟨rfl, rfl, rfl, rfl, rfl, rfl, rfl, rfl, rfl, rfl⟩ := c
    cases h
    exact ⟨22, _, _, _, _, _, _, false, rfl, fw_22 x10 x11 x12 x13 x14 x15⟩
  rcases cond_some' h with ⟨c, g⟩ | ⟨_, g⟩ <;> clear h <;> have h := g <;> clear g
  · simp [eqC, bitsN, sl] at c
    obtain ⟨rfl, rfl, rfl, rfl, rfl, rfl, rfl, rfl, rfl, rfl⟩ := c
    cases h
    exact ⟨23, _, _, _, _, _, _, false, rfl, fw_23 x10 x11 x12 x13 x14 x15⟩
  rcases cond_some' h with ⟨c, g⟩ | ⟨_, g⟩ <;> clear h <;> have h := g <;> clear g
  · simp [eqC, bitsN, sl] at c
    obtain ⟨rfl, rfl, rfl, rfl, rfl⟩ := c
    cases h
    exact ⟨24, _, _, _, _, _, _, false, rfl, fw_24 x5 x6 x7 x8 x9 x10 x11 x12 x13 x14 x15⟩
  rcases cond_some' h with ⟨c, g⟩ | ⟨_, g⟩ <;> clear h <;> have h := g <;> clear g
  · rw [Bool.and_eq_true] at c
    obtain ⟨c, d⟩ := c
    simp [eqC, bitsN, sl] at c
    obtain ⟨rfl, rfl, rfl, rfl⟩ := c
    cases h
    exact ⟨25, _, _, _, _, _, _, false, rfl, fw_25 x4 x5 x6 x7 x8 x9 x10 x11 x12 x13 x14 x15 (of_decide_eq_true d)⟩
  · cases h
theorem three_fw (x0 x1 x2 x3 x4 x5 x6 x7 x8 x9 x10 x11 x12 x13 x14 x15 y0 y1 y2 y3 y4 y5 y6 y7 y8 y9 y10 y11 y12 y13 y14 y15 : Bool) (i : tIns.den) (h : dThree [x0, x1, x2, x3, x4, x5, x6, x7, x8, x9, x10, x11, x12, x13, x14, x15] [y0, y1, y2, y3, y4, y5, y6, y7, y8, y9, y10, y11, y12, y13, y14, y15] = some i) : Enc2 i [x0, x1, x2, x3, x4, x5, x6, x7, x8, x9, x10, x11, x12, x13, x14, x15] [y0, y1, y2, y3, y4, y5, y6, y7, y8, y9, y10, y11, y12, y13, y14, y15] := by
  unfold dThree at h
  rcases cond_some' h with ⟨_, g⟩ | ⟨c0, g⟩ <;> clear h <;> have h := g <;> clear g
  · cases h
  simp [eqC, bitsN, sl] at c0
  obtain rfl := c0
  rcases cond_some' h with ⟨c, g⟩ | ⟨_, g⟩ <;> clear h <;> have h := g <;> clear g
  · simp [eqC, bitsN, sl] at c
    obtain ⟨rfl, rfl, rfl, rfl, rfl, rfl, rfl, rfl, rfl, rfl, rfl, rfl, rfl, rfl, rfl, rfl⟩ := c
    rcases cond_some' h with ⟨d, g⟩ | ⟨_, g⟩ <;> clear h <;> have h := g <;> clear g
    · rw [Bool.and_eq_true, Bool.and_eq_true] at d
      rcases cond_some' h with ⟨t, g⟩ | ⟨t, g⟩ <;> clear h <;> have h := g <;> clear g
      · simp [eqC, bitsN, sl] at t
        obtain ⟨rfl, rfl⟩ := t
        cases h
        exact ⟨5, _, _, _, _, _, _, false, rfl, fw_5 y1 y2 y3 y4 y5 y6 y7 y8 y9 y12 y13 y14 y15 d.1 d.2.1⟩
      · rcases cond_some' h with ⟨s, g⟩ | ⟨_, g⟩ <;> clear h <;> have h := g <;> clear g
        · have s := of_decide_eq_true s
          cases h
          cases y10 <;> cases y11
          · simp [eqC, bitsN, sl] at t
          · exact ⟨6, _, _, _, _, _, _, false, rfl, fw_6 y1 y2 y3 y4 y5 y6 y7 y8 y9 y12 y13 y14 y15 d.1 d.2.1 s⟩
          · exact ⟨7, _, _, _, _, _, _, false, rfl, fw_7 y1 y2 y3 y4 y5 y6 y7 y8 y9 y12 y13 y14 y15 d.1 d.2.1 s⟩
          · exact ⟨8, _, _, _, _, _, _, false, rfl, fw_8 y1 y2 y3 y4 y5 y6 y7 y8 y9 y12 y13 y14 y15 d.1 d.2.1 s⟩
        · cases h
    · cases h
  rcases cond_some' h with ⟨c, g⟩ | ⟨_, g⟩ <;> clear h <;> have h := g <;> clear g
  · simp [eqC, bitsN, sl] at c
    obtain ⟨rfl, rfl, rfl, rfl, rfl, rfl, rfl, rfl, rfl, rfl, rfl, rfl, rfl, rfl, rfl, rfl⟩ := c
    rcases cond_some' h with ⟨d, g⟩ | ⟨_, g⟩ <;> clear h <;> have h := g <;> clear g
    · rw [Bool.and_eq_true, Bool.and_eq_true] at d
      rcases cond_some' h with ⟨t, g⟩ | ⟨t, g⟩ <;> clear h <;> have h := g <;> clear g
      · simp [eqC, bitsN, sl] at t
        obtain ⟨rfl, rfl⟩ := t
        rcases cond_some' h with ⟨s, g⟩ | ⟨_, g⟩ <;> clear h <;> have h := g <;> clear g
        · simp [eqC, bitsN, sl] at s
          obtain ⟨rfl, rfl, rfl, rfl, rfl⟩ := s
          cases h
          exact ⟨9, _, _, _, _, _, _, false, rfl, fw_9 y4 y5 y6 y7 y12 y13 y14 y15 d.1 d.2.1⟩
        · cases h
      · cases h
    · cases h
  rcases cond_some' h with ⟨c, g⟩ | ⟨_, g⟩ <;> clear h <;> have h := g <;> clear g
  · simp [eqC, bitsN, sl] at c
    obtain ⟨rfl, rfl, rfl, rfl, rfl, rfl, rfl, rfl, rfl, rfl, rfl, rfl⟩ := c
    rcases cond_some' h with ⟨d, g⟩ | ⟨_, g⟩ <;> clear h <;> have h := g <;> clear g
    · rw [Bool.and_eq_true, Bool.and_eq_true, Bool.and_eq_true] at d
      rcases cond_some' h with ⟨t, g⟩ | ⟨t, g⟩ <;> clear h <;> have h := g <;> clear g
      · simp [eqC, bitsN, sl] at t
        obtain ⟨rfl, rfl⟩ := t
        rcases cond_some' h with ⟨s, g⟩ | ⟨_, g⟩ <;> clear h <;> have h := g <;> clear g
        · simp [eqC, bitsN, sl] at s
          obtain ⟨rfl, rfl, rfl, rfl, rfl⟩ := s
          cases h
          exact ⟨10, _, _, _, _, _, _, false, rfl, fw_10 x12 x13 x14 x15 y4 y5 y6 y7 y12 y13 y14 y15 d.1 d.2.1 d.2.2.1⟩
        · cases h
      · cases h
    · cases h
  rcases cond_some' h with ⟨c, g⟩ | ⟨_, g⟩ <;> clear h <;> have h := g <;> clear g
  · simp [eqC, bitsN, sl] at c
    obtain ⟨rfl, rfl, rfl, rfl, rfl, rfl, rfl, rfl, rfl, rfl, rfl, rfl⟩ := c
    rcases cond_some' h with ⟨d, g⟩ | ⟨_, g⟩ <;> clear h <;> have h := g <;> clear g
    · rw [Bool.and_eq_true, Bool.and_eq_true, Bool.and_eq_true] at d
      rcases cond_some' h with ⟨t, g⟩ | ⟨t, g⟩ <;> clear h <;> have h := g <;> clear g
      · simp [eqC, bitsN, sl] at t
        obtain ⟨rfl, rfl⟩ := t
        rcases cond_some' h with ⟨s, g⟩ | ⟨_, g⟩ <;> clear h <;> have h := g <;> clear g
        · simp [eqC, bitsN, sl] at s
          obtain ⟨rfl, rfl, rfl, rfl, rfl⟩ := s
          cases h
          exact ⟨11, _, _, _, _, _, _, false, rfl, fw_11 x12 x13 x14 x15 y4 y5 y6 y7 y12 y13 y14 y15 d.1 d.2.1 d.2.2.1⟩
        · cases h
      · cases h
    · cases h
  rcases cond_some' h with ⟨c, g⟩ | ⟨_, g⟩ <;> clear h <;> have h := g <;> clear g
  · simp [eqC, bitsN, sl] at c
    obtain ⟨rfl, rfl, rfl, rfl, rfl, rfl, rfl, rfl, rfl, rfl, rfl, rfl⟩ := c
    rcases cond_some' h with ⟨d, g⟩ | ⟨_, g⟩ <;> clear h <;> have h := g <;> clear g
    · rw [Bool.and_eq_true, Bool.and_eq_true, Bool.and_eq_true] at d
      rcases cond_some' h with ⟨t, g⟩ | ⟨t, g⟩ <;> clear h <;> have h := g <;> clear g
      · simp [eqC, bitsN, sl] at t
        obtain ⟨rfl, rfl⟩ := t
        rcases cond_some' h with ⟨s, g⟩ | ⟨_, g⟩ <;> clear h <;> have h := g <;> clear g
        · simp [eqC, bitsN, sl] at s
          obtain ⟨rfl, rfl, rfl, rfl, rfl⟩ := s
          cases h
          exact ⟨12, _, _, _, _, _, _, false, rfl, fw_12 x12 x13 x14 x15 y4 y5 y6 y7 y12 y13 y14 y15 d.1 d.2.1 d.2.2.1⟩
        · cases h
      · cases h
    · cases h
  rcases cond_some' h with ⟨c, g⟩ | ⟨_, g⟩ <;> clear h <;> have h := g <;> clear g
  · simp [eqC, bitsN, sl] at c
    obtain ⟨rfl, rfl, rfl, rfl, rfl, rfl, rfl, rfl, rfl, rfl, rfl, rfl⟩ := c
    rcases cond_some' h with ⟨d, g⟩ | ⟨_, g⟩ <;> clear h <;> have h := g <;> clear g
    · rw [Bool.and_eq_true, Bool.and_eq_true, Bool.and_eq_true] at d
      rcases cond_some' h with ⟨t, g⟩ | ⟨t, g⟩ <;> clear h <;> have h := g <;> clear g
      · simp [eqC, bitsN, sl] at t
        obtain ⟨rfl, rfl⟩ := t
        rcases cond_some' h with ⟨s, g⟩ | ⟨_, g⟩ <;> clear h <;> have h := g <;> clear g
        · simp [eqC, bitsN, sl] at s
          obtain ⟨rfl, rfl, rfl, rfl, rfl⟩ := s
          cases h
          exact ⟨13, _, _, _, _, _, _, false, rfl, fw_13 x12 x13 x14 x15 y4 y5 y6 y7 y12 y13 y14 y15 d.1 d.2.1 d.2.2.1⟩
        · cases h
      · cases h
    · cases h
  rcases cond_some' h with ⟨c, g⟩ | ⟨_, g⟩ <;> clear h <;> have h := g <;> clear g
  · simp [eqC, bitsN, sl] at c
    obtain ⟨rfl, rfl, rfl, rfl, rfl, rfl, rfl, rfl, rfl, rfl, rfl, rfl⟩ := c
    rcases cond_some' h with ⟨d, g⟩ | ⟨_, g⟩ <;> clear h <;> have h := g <;> clear g
    · rw [Bool.and_eq_true, Bool.and_eq_true, Bool.and_eq_true] at d
      rcases cond_some' h with ⟨t, g⟩ | ⟨t, g⟩ <;> clear h <;> have h := g <;> clear g
      · simp [eqC, bitsN, sl] at t
        obtain ⟨rfl, rfl⟩ := t
        rcases cond_some' h with ⟨s, g⟩ | ⟨_, g⟩ <;> clear h <;> have h := g <;> clear g
        · simp [eqC, bitsN, sl] at s
          obtain ⟨rfl, rfl, rfl, rfl, rfl⟩ := s
          cases h
          exact ⟨14, _, _, _, _, _, _, false, rfl, fw_14 x12 x13 x14 x15 y4 y5 y6 y7 y12 y13 y14 y15 d.1 d.2.1 d.2.2.1⟩
        · cases h
      · cases h
    · cases h
  rcases cond_some' h with ⟨c, g⟩ | ⟨_, g⟩ <;> clear h <;> have h := g <;> clear g
  · simp [eqC, bitsN, sl] at c
    obtain ⟨rfl, rfl, rfl, rfl, rfl, rfl, rfl, rfl, rfl, rfl, rfl, rfl⟩ := c
    rcases cond_some' h with ⟨d, g⟩ | ⟨_, g⟩ <;> clear h <;> have h := g <;> clear g
    · rw [Bool.and_eq_true, Bool.and_eq_true, Bool.and_eq_true] at d
      rcases cond_some' h with ⟨t, g⟩ | ⟨t, g⟩ <;> clear h <;> have h := g <;> clear g
      · simp [eqC, bitsN, sl] at t
        obtain ⟨rfl, rfl⟩ := t
        rcases cond_some' h with ⟨s, g⟩ | ⟨_, g⟩ <;> clear h <;> have h := g <;> clear g
        · simp [eqC, bitsN, sl] at s
          obtain ⟨rfl, rfl, rfl, rfl, rfl⟩ := s
          cases h
          exact ⟨15, _, _, _, _, _, _, false, rfl, fw_15 x12 x13 x14 x15 y4 y5 y6 y7 y12 y13 y14 y15 d.1 d.2.1 d.2.2.1⟩
        · cases h
      · cases h
    · cases h
  cases h
theorem product_fw (x0 x1 x2 x3 x4 x5 x6 x7 x8 x9 x10 x11 x12 x13 x14 x15 y0 y1 y2 y3 y4 y5 y6 y7 y8 y9 y10 y11 y12 y13 y14 y15 : Bool) (i : tIns.den) (h : dProduct [x0, x1, x2, x3, x4, x5, x6, x7, x8, x9, x10, x11, x12, x13, x14, x15] [y0, y1, y2, y3, y4, y5, y6, y7, y8, y9, y10, y11, y12, y13, y14, y15] = some i) : Enc2 i [x0, x1, x2, x3, x4, x5, x6, x7, x8, x9, x10, x11, x12, x13, x14, x15] [y0, y1, y2, y3, y4, y5, y6, y7, y8, y9, y10, y11, y12, y13, y14, y15] := by
  unfold dProduct at h
  rcases cond_some' h with ⟨_, g⟩ | ⟨c0, g⟩ <;> clear h <;> have h := g <;> clear g
  · cases h
  simp [eqC, bitsN, sl] at c0
  obtain ⟨rfl, rfl, rfl, rfl⟩ := c0
  rcases cond_some' h with ⟨c, g⟩ | ⟨_, g⟩ <;> clear h <;> have h := g <;> clear g
  · simp [eqC, bitsN, sl] at c
    obtain ⟨rfl, rfl, rfl, rfl, rfl, rfl, rfl, rfl, rfl, rfl, rfl, rfl⟩ := c
    rcases cond_some' h with ⟨t, g⟩ | ⟨_, g⟩ <;> clear h <;> have h := g <;> clear g
    · simp [eqC, bitsN, sl] at t
      obtain ⟨rfl, rfl, rfl, rfl⟩ := t
      rcases cond_some' h with ⟨d, g⟩ | ⟨_, g⟩ <;> clear h <;> have h := g <;> clear g
      · rw [Bool.and_eq_true, Bool.and_eq_true, Bool.and_eq_true] at d
        cases h
        exact ⟨16, _, _, _, _, _, _, false, rfl, fw_16 x12 x13 x14 x15 y4 y5 y6 y7 y12 y13 y14 y15 d.1 d.2.1 d.2.2.1⟩
      · cases h
    · cases h
  rcases cond_some' h with ⟨c, g⟩ | ⟨_, g⟩ <;> clear h <;> have h := g <;> clear g
  · simp [eqC, bitsN, sl] at c
    obtain ⟨rfl, rfl, rfl, rfl, rfl, rfl, rfl, rfl, rfl, rfl, rfl, rfl⟩ := c
    rcases cond_some' h with ⟨t, g⟩ | ⟨_, g⟩ <;> clear h <;> have h := g <;> clear g
    · have t := bne_iff_ne.1 t
      rcases cond_some' h with ⟨d, g⟩ | ⟨_, g⟩ <;> clear h <;> have h := g <;> clear g
      · rw [Bool.and_eq_true, Bool.and_eq_true, Bool.and_eq_true, Bool.and_eq_true] at d
        cases h
        exact ⟨17, _, _, _, _, _, _, false, rfl, fw_17 x12 x13 x14 x15 y0 y1 y2 y3 y4 y5 y6 y7 y12 y13 y14 y15 d.1 d.2.2.1 d.2.2.2.1 d.2.1 t⟩
      · cases h
    · cases h
  cases h
theorem plain_fw (x0 x1 x2 x3 x4 x5 x6 x7 x8 x9 x10 x11 x12 x13 x14 x15 y0 y1 y2 y3 y4 y5 y6 y7 y8 y9 y10 y11 y12 y13 y14 y15 : Bool) (i : tIns.den) (h : dPlain [x0, x1, x2, x3, x4, x5, x6, x7, x8, x9, x10, x11, x12, x13, x14, x15] [y0, y1, y2, y3, y4, y5, y6, y7, y8, y9, y10, y11, y12, y13, y14, y15] = some i) : Enc2 i [x0, x1, x2, x3, x4, x5, x6, x7, x8, x9, x10, x11, x12, x13, x14, x15] [y0, y1, y2, y3, y4, y5, y6, y7, y8, y9, y10, y11, y12, y13, y14, y15] := by
  unfold dPlain at h
  rcases cond_some' h with ⟨_, g⟩ | ⟨c0, g⟩ <;> clear h <;> have h := g <;> clear g
  · cases h
  simp [eqC, bitsN, sl] at c0
  obtain rfl := c0
  rcases cond_some' h with ⟨c, g⟩ | ⟨_, g⟩ <;> clear h <;> have h := g <;> clear g
  · simp [eqC, bitsN, sl] at c
    obtain ⟨rfl, rfl, rfl, rfl, rfl, rfl, rfl, rfl, rfl, rfl, rfl, rfl⟩ := c
    rcases cond_some' h with ⟨t, g⟩ | ⟨_, g⟩ <;> clear h <;> have h := g <;> clear g
    · simp [eqC, bitsN, sl] at t
      obtain rfl := t
      rcases cond_some' h with ⟨s, g⟩ | ⟨_, g⟩ <;> clear h <;> have h := g <;> clear g
      · have s := of_decide_eq_true s
        rcases cond_some' h with ⟨d, g⟩ | ⟨_, g⟩ <;> clear h <;> have h := g <;> clear g
        · rw [Bool.and_eq_true, Bool.and_eq_true] at d
          cases h
          exact ⟨18, _, _, _, _, _, _, false, rfl, fw_18 x12 x13 x14 x15 y1 y2 y3 y4 y5 y6 y7 y8 y9 y11 y12 y13 y14 y15 d.1 d.2.1 s⟩
        · cases h
      · cases h
    · cases h
  rcases cond_some' h with ⟨c, g⟩ | ⟨_, g⟩ <;> clear h <;> have h := g <;> clear g
  · simp [eqC, bitsN, sl] at c
    obtain ⟨rfl, rfl, rfl, rfl, rfl, rfl, rfl, rfl, rfl, rfl, rfl⟩ := c
    rcases cond_some' h with ⟨d, g⟩ | ⟨_, g⟩ <;> clear h <;> have h := g <;> clear g
    · rw [Bool.and_eq_true] at d
      cases h
      exact ⟨3, _, _, _, _, _, _, false, rfl, fw_3 x5 x12 x13 x14 x15 y1 y2 y3 y4 y5 y6 y7 y8 y9 y10 y11 y12 y13 y14 y15 d.1⟩
    · cases h
  rcases cond_some' h with ⟨c, g⟩ | ⟨_, g⟩ <;> clear h <;> have h := g <;> clear g
  · simp [eqC, bitsN, sl] at c
    obtain ⟨rfl, rfl, rfl, rfl, rfl, rfl, rfl, rfl, rfl, rfl, rfl⟩ := c
    rcases cond_some' h with ⟨d, g⟩ | ⟨_, g⟩ <;> clear h <;> have h := g <;> clear g
    · rw [Bool.and_eq_true] at d
      cases h
      exact ⟨4, _, _, _, _, _, _, false, rfl, fw_4 x5 x12 x13 x14 x15 y1 y2 y3 y4 y5 y6 y7 y8 y9 y10 y11 y12 y13 y14 y15 d.1⟩
    · cases h
  cases h
theorem branch_fw (x0 x1 x2 x3 x4 x5 x6 x7 x8 x9 x10 x11 x12 x13 x14 x15 y0 y1 y2 y3 y4 y5 y6 y7 y8 y9 y10 y11 y12 y13 y14 y15 : Bool) (i : tIns.den) (h : dBranch [x0, x1, x2, x3, x4, x5, x6, x7, x8, x9, x10, x11, x12, x13, x14, x15] [y0, y1, y2, y3, y4, y5, y6, y7, y8, y9, y10, y11, y12, y13, y14, y15] = some i) : Enc2 i [x0, x1, x2, x3, x4, x5, x6, x7, x8, x9, x10, x11, x12, x13, x14, x15] [y0, y1, y2, y3, y4, y5, y6, y7, y8, y9, y10, y11, y12, y13, y14, y15] := by
  unfold dBranch at h
  rcases cond_some' h with ⟨_, g⟩ | ⟨c0, g⟩ <;> clear h <;> have h := g <;> clear g
  · cases h
  simp [eqC, bitsN, sl] at c0
  obtain ⟨⟨rfl, rfl, rfl, rfl, rfl⟩, rfl, rfl⟩ := c0
  rcases cond_some' h with ⟨c, g⟩ | ⟨c, g⟩ <;> clear h <;> have h := g <;> clear g
  · simp [eqC, bitsN, sl] at c
    obtain rfl := c
    cases h
    exact ⟨24, _, _, _, _, _, _, true, rfl, fw_24w x5 x6 x7 x8 x9 x10 x11 x12 x13 x14 x15 y2 y4 y5 y6 y7 y8 y9 y10 y11 y12 y13 y14 y15⟩
  · simp [eqC, bitsN, sl] at c
    obtain rfl := c
    rcases cond_some' h with ⟨d, g⟩ | ⟨_, g⟩ <;> clear h <;> have h := g <;> clear g
    · cases h
      exact ⟨25, _, _, _, _, _, _, true, rfl, fw_25w x5 x6 x7 x8 x9 x10 x11 x12 x13 x14 x15 y2 y4 y5 y6 y7 y8 y9 y10 y11 y12 y13 y14 y15 (of_decide_eq_true d)⟩
    · cases h
theorem len16 {l : List Bool} (h : l.length = 16) : ∃ x0 x1 x2 x3 x4 x5 x6 x7 x8 x9 x10 x11 x12 x13 x14 x15 : Bool, l = [x0, x1, x2, x3, x4, x5, x6, x7, x8, x9, x10, x11, x12, x13, x14, x15] := by
  match l, h with
  | [x0, x1, x2, x3, x4, x5, x6, x7, x8, x9, x10, x11, x12, x13, x14, x15], _ => exact ⟨_, _, _, _, _, _, _, _, _, _, _, _, _, _, _, _, rfl⟩
theorem narrow_enc {l : List Bool} (hl : l.length = 16) {i : tIns.den} (h : dNarrow l = some i) : Enc1 i l := by
  obtain ⟨x0, x1, x2, x3, x4, x5, x6, x7, x8, x9, x10, x11, x12, x13, x14, x15, rfl⟩ := len16 hl
  exact narrow_fw _ _ _ _ _ _ _ _ _ _ _ _ _ _ _ _ i h
theorem long_enc {lx ly : List Bool} (hx : lx.length = 16) (hy : ly.length = 16) {i : tIns.den} (h : dLong lx ly = some i) : Enc2 i lx ly := by
  obtain ⟨x0, x1, x2, x3, x4, x5, x6, x7, x8, x9, x10, x11, x12, x13, x14, x15, rfl⟩ := len16 hx
  obtain ⟨y0, y1, y2, y3, y4, y5, y6, y7, y8, y9, y10, y11, y12, y13, y14, y15, rfl⟩ := len16 hy
  unfold dLong at h
  rcases Option.or_eq_some_iff.1 h with h | ⟨_, h⟩
  · exact three_fw _ _ _ _ _ _ _ _ _ _ _ _ _ _ _ _ _ _ _ _ _ _ _ _ _ _ _ _ _ _ _ _ i h
  rcases Option.or_eq_some_iff.1 h with h | ⟨_, h⟩
  · exact product_fw _ _ _ _ _ _ _ _ _ _ _ _ _ _ _ _ _ _ _ _ _ _ _ _ _ _ _ _ _ _ _ _ i h
  rcases Option.or_eq_some_iff.1 h with h | ⟨_, h⟩
  · exact plain_fw _ _ _ _ _ _ _ _ _ _ _ _ _ _ _ _ _ _ _ _ _ _ _ _ _ _ _ _ _ _ _ _ i h
  · exact branch_fw _ _ _ _ _ _ _ _ _ _ _ _ _ _ _ _ _ _ _ _ _ _ _ _ _ _ _ _ _ _ _ _ i h
end Go.Av
