/- Unlike instructions have unlike bytes: proved of what the functions compute. -/
import Derived.Test.YtbfhpnnnfjjjnaaPLaw02d
import Derived.Test.YtbfhpnnnfjjjnaaPLaw03bLaw
namespace Go.Av
open Go
theorem eqb_ins (a b : tIns.den) : Ty.eqb tIns a b = true ↔ a = b := by
  constructor
  · obtain ⟨op, rd, rn, rm, ra, imm, cond, w, u⟩ := a
    obtain ⟨op', rd', rn', rm', ra', imm', cond', w', u'⟩ := b
    intro h
    have h : (op == op' && (rd == rd' && (rn == rn' && (rm == rm' && (ra == ra' && (imm == imm' && (cond == cond' && (w == w' && true)))))))) = true := h
    simp only [Bool.and_eq_true, beq_iff_eq] at h
    obtain ⟨rfl, rfl, rfl, rfl, rfl, rfl, rfl, rfl, _⟩ := h
    rfl
  · rintro rfl
    exact eqb_refl tIns _
theorem size_enc (op rd rn rm ra imm cond : Int) (w : Bool) (hok : okB op rd rn rm ra imm cond w = true) : V_thumb_Size (op, rd, rn, rm, ra, imm, cond, w, ()) = lenI (eBytes op rd rn rm ra imm cond w) := by
  have h : V_thumb_Check (op, rd, rn, rm, ra, imm, cond, w, ()) = 0 := (check_iff op rd rn rm ra imm cond w).2 hok
  have hs : V_thumb_Size (op, rd, rn, rm, ra, imm, cond, w, ()) = (bif V_thumb_Check (op, rd, rn, rm, ra, imm, cond, w, ()) != 0 then 0 else bif isLong op w then 4 else 2) := rfl
  rw [hs, h]
  obtain ⟨_, ⟨s1, s2, _⟩ | ⟨s1, s2, _, _⟩⟩ := same_bits op rd rn rm ra imm cond w h
  · have e : eBytes op rd rn rm ra imm cond w = by2 (hb (e1 op rd rn rm ra imm cond w) 0) := by unfold eBytes; rw [s2]; rfl
    rw [s1, e]
    rfl
  · have e : eBytes op rd rn rm ra imm cond w = by2 (hb (e1 op rd rn rm ra imm cond w) 0) ++ by2 (hb (e2 op rd rn rm ra imm cond w) 0) := by unfold eBytes; rw [s2]; rfl
    rw [s1, e]
    rfl
theorem imin_nat (a b : Nat) : imin (a : Int) (b : Int) = ((min a b : Nat) : Int) := by
  unfold imin
  by_cases h : (b : Int) < a
  · rw [dec_true h]
    show (b : Int) = _
    omega
  · rw [dec_false h]
    show (a : Int) = _
    omega
theorem law_hauberklaw02_ThumbOne (x : dens A_hauberklaw02_ThumbOne) (_ : fitsAll maxLen A_hauberklaw02_ThumbOne x) : (T_hauberklaw02_ThumbOne x).val = some true := by
  obtain ⟨⟨op, rd, rn, rm, ra, imm, cond, w, u⟩, ⟨op', rd', rn', rm', ra', imm', cond', w', u'⟩⟩ := x
  obtain ⟨g1, h1⟩ := thumb_enc op rd rn rm ra imm cond w
  obtain ⟨g2, h2⟩ := thumb_enc op' rd' rn' rm' ra' imm' cond' w'
  unfold T_hauberklaw02_ThumbOne
  dsimp only [PO.val]
  rw [g1, g2]
  dsimp only [cond_true]
  rcases h1 with ⟨k1, v1⟩ | ⟨_, e, he, v1⟩
  · rcases h2 with ⟨k2, v2⟩ | ⟨_, e', he', v2⟩
    · rw [v1, v2, size_enc op rd rn rm ra imm cond w k1]
      have hinj : ∀ t, eBytes op' rd' rn' rm' ra' imm' cond' w' = eBytes op rd rn rm ra imm cond w ++ t → _ := fun t ht => enc_inj k1 k2 ht
      have hinj' : ∀ t, eBytes op rd rn rm ra imm cond w = eBytes op' rd' rn' rm' ra' imm' cond' w' ++ t → _ := fun t ht => enc_inj k2 k1 ht
      have hsame : (op, rd, rn, rm, ra, imm, cond, w, ()) = (op', rd', rn', rm', ra', imm', cond', w', ()) → eBytes op rd rn rm ra imm cond w = eBytes op' rd' rn' rm' ra' imm' cond' w' := fun h => by cases h; rfl
      dsimp only
      generalize eBytes op rd rn rm ra imm cond w = b at *
      generalize eBytes op' rd' rn' rm' ra' imm' cond' w' = b' at *
      have hm : imin (lenI b) (lenI b') = ((min b.length b'.length : Nat) : Int) := imin_nat _ _
      have c1 : decide (0 ≤ ((min b.length b'.length : Nat) : Int)) = true := dec_true (by omega)
      have c2 : decide (((min b.length b'.length : Nat) : Int) ≤ lenI b) = true := dec_true (by simp only [lenI]; omega)
      have c3 : decide (((min b.length b'.length : Nat) : Int) ≤ lenI b') = true := dec_true (by simp only [lenI]; omega)
      have key : ((List.drop (Int.toNat 0) (List.take (Int.toNat ((min b.length b'.length : Nat) : Int)) b) == List.drop (Int.toNat 0) (List.take (Int.toNat ((min b.length b'.length : Nat) : Int)) b')) == Ty.eqb tIns (op, rd, rn, rm, ra, imm, cond, w, ()) (op', rd', rn', rm', ra', imm', cond', w', ())) = true := by
        rw [beq_iff_eq, Bool.eq_iff_iff, beq_iff_eq, eqb_ins, Int.toNat_natCast]
        show (b.take (min b.length b'.length) = b'.take (min b.length b'.length)) ↔ _
        constructor
        · intro h
          by_cases hl : b.length ≤ b'.length
          · rw [Nat.min_eq_left hl, List.take_of_length_le (Nat.le_refl _)] at h
            refine hinj (b'.drop b.length) ?_
            have := List.take_append_drop b.length b'
            rw [← h] at this
            exact this.symm
          · rw [Nat.min_eq_right (by omega), List.take_of_length_le (l := b') (Nat.le_refl _)] at h
            refine (hinj' (b.drop b'.length) ?_).symm
            have := List.take_append_drop b'.length b
            rw [h] at this
            exact this.symm
        · intro h
          rw [hsame h]
      rw [hm, c1, c2, c3, key]
      simp
    · rw [v1, v2]
      dsimp only
      rw [bne_iff_ne.2 he', (beq_eq_false_iff_ne.2 he' : (e' == (0 : Int)) = false)]
      simp
  · rw [v1]
    dsimp only
    rw [bne_iff_ne.2 he, (beq_eq_false_iff_ne.2 he : (e == (0 : Int)) = false)]
    rcases h2 with ⟨k2, v2⟩ | ⟨_, e', he', v2⟩
    · rw [v2]
      simp
    · rw [v2]
      dsimp only
      rw [(beq_eq_false_iff_ne.2 he' : (e' == (0 : Int)) = false)]
      simp
end Go.Av
