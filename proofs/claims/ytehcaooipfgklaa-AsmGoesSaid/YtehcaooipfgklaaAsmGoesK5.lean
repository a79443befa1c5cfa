/- Texts of the proof, one behind the other. -/
import Derived.Test.YtehcaooipfgklaaAsmGoesK4
import Derived.Test.YtehcaooipfgklaaAsmGoesK3
/-! Decoded again, the bytes are the items' instructions, and each branch goes to its label: proved of what the function computes. -/
section
namespace Go.Av
open Go

/-- A place that a branch's offset leads to. -/
def hitP (l a : Int) (p : tPlace.den) : Bool := p.1 == l && p.2.1 == a
theorem places_has (it : List tItem.den) (b : Int) (ws : List Bool) (k : Nat) (hk : ((itemAt it k).1 == (1 : Int)) = true) : ∀ n, k < n → ((itemAt it k).2.1, posM it b ws k, ()) ∈ placesTo it b ws n
  | 0, h => absurd h (Nat.not_lt_zero _)
  | n + 1, h => by
    simp only [placesTo]
    rcases Nat.lt_or_ge k n with h' | h'
    · have ih := places_has it b ws k hk n h'
      cases ((itemAt it n).1 == (1 : Int))
      · exact ih
      · exact List.mem_append_left _ ih
    · have : k = n := by omega
      subst this
      rw [hk]
      exact List.mem_append_right _ (List.mem_singleton.2 rfl)

theorem found_run (it : List tItem.den) (pl : List tPlace.den) (at0 : Int) (code : List tIns.den) (f k : Int) (i : Nat) (op rd rn rm ra imm cond : Int) (w : Bool) (hi : i < it.length) (hp : pl.length ≤ 21000) (ha : -1000000 ≤ at0 ∧ at0 ≤ 1000000) (hx : -100000000 ≤ imm ∧ imm ≤ 100000000) :
    LoopN.res L_hauberklaw04_AsmGoes_21 (it, pl, at0, code, f, k, (i : Int), (), false, 0) (op, rd, rn, rm, ra, imm, cond, w, ()) = some (0, (pl.any (hitP (itemAt it i).2.1 (at0 + 4 + imm)), (pl.length : Int), (op, rd, rn, rm, ra, imm, cond, w, ()))) := by
  unfold LoopN.res
  have hw : w64 (w64 (at0 + 4) + imm) = at0 + 4 + imm := by rw [w64_id (n := at0 + 4) (by omega) (by omega), w64_id (by omega) (by omega)]
  have key := runL_count (turn := L_hauberklaw04_AsmGoes_21.turn (it, pl, at0, code, f, k, (i : Int), (), false, 0) (op, rd, rn, rm, ra, imm, cond, w, ())) (fun n => ((pl.take n).any (hitP (itemAt it i).2.1 (at0 + 4 + imm)), (n : Int), (op, rd, rn, rm, ra, imm, cond, w, ()))) (0, (pl.any (hitP (itemAt it i).2.1 (at0 + 4 + imm)), (pl.length : Int), (op, rd, rn, rm, ra, imm, cond, w, ()))) (n := pl.length) (fun n hn => ?_) ?_ pl.length 0 (by omega) _ (Nat.lt_succ_self _)
  · exact key
  · refine (val_yes (dec_true (show (n : Int) < lenI pl by simp only [lenI]; omega))).trans ((val_yes ?_).trans ?_)
    · dsimp only
      rw [inR hi, inR hn]
      cases ((pl.take n).any (hitP (itemAt it i).2.1 (at0 + 4 + imm))) <;> simp
    · have e : (pl.take (n + 1)).any (hitP (itemAt it i).2.1 (at0 + 4 + imm)) = ((pl.take n).any (hitP (itemAt it i).2.1 (at0 + 4 + imm)) || hitP (itemAt it i).2.1 (at0 + 4 + imm) (List.getD pl n (Ty.dflt tPlace))) := by
        rw [List.take_succ_eq_append_getElem hn, List.any_append, getD_in pl _ hn]
        simp
      show some (TL.on ((pl.take n).any (hitP (itemAt it i).2.1 (at0 + 4 + imm)) || ((List.getD pl (Int.toNat (n : Int)) (Ty.dflt tPlace)).1 == (itemAt it i).2.1 && (List.getD pl (Int.toNat (n : Int)) (Ty.dflt tPlace)).2.1 == w64 (w64 (at0 + 4) + imm)), w64 ((n : Int) + 1), (op, rd, rn, rm, ra, imm, cond, w, ()))) = _
      rw [hw, w64_id (n := (n : Int) + 1) (by omega) (by omega), e]
      rfl
  · refine (val_no (dec_false (show ¬ ((pl.length : Nat) : Int) < lenI pl by simp only [lenI]; omega))).trans ?_
    dsimp only
    rw [List.take_length]
    rfl

section
variable (it : List tItem.den) (b : Int) (ws : List Bool) (f : Int) (hn : it.length ≤ 21000) (hf : AsmFine it b) (hp : (passTo it b ws it.length).1 = false)
include hn hf hp
theorem goes_run : LoopN.res L_hauberklaw04_AsmGoes_9 (false, it, placesTo it b ws it.length, b, insTo it b ws it.length, f, 0, 0) () = some (0, (false, posM it b ws it.length, ((insTo it b ws it.length).length : Int), (it.length : Int))) := by
  unfold LoopN.res
  obtain ⟨hb1, hb2, _⟩ := fine_base hf
  refine runL_count (turn := L_hauberklaw04_AsmGoes_9.turn (false, it, placesTo it b ws it.length, b, insTo it b ws it.length, f, 0, 0) ()) (fun i => (false, posM it b ws i, ((insTo it b ws i).length : Int), (i : Int))) (0, (false, posM it b ws it.length, ((insTo it b ws it.length).length : Int), (it.length : Int))) (n := it.length) (fun i hi => ?_) ?_ it.length 0 (by omega) _ (Nat.lt_succ_self _)
  · have hpos := pos_bound it b ws i
    have hlen := insTo_len it b ws i
    refine (val_yes (dec_true (show (i : Int) < lenI it by simp only [lenI]; omega))).trans ((val_yes (inR hi)).trans ?_)
    cases hk : ((itemAt it i).1 == (1 : Int))
    · have hok := ins_ok it b ws hn hf hp hi hk
      have hsz := ins_size it b ws hn hf hp hi hk
      obtain ⟨g1, g2⟩ := insTo_get it b ws hi hk
      have hsb := sizeJ_bound (itemAt it i) (wd ws i)
      have e1 : posM it b ws (i + 1) = posM it b ws i + sizeJ (itemAt it i) (wd ws i) := rfl
      have e2 : insTo it b ws (i + 1) = insTo it b ws i ++ [insM it b ws i] := by simp only [insTo, hk, cond_false]
      have e3 : ((insTo it b ws (i + 1)).length : Int) = ((insTo it b ws i).length : Int) + 1 := by rw [e2, List.length_append]; rfl
      have hg : List.getD (insTo it b ws it.length) (Int.toNat ((insTo it b ws i).length : Int)) (Ty.dflt tIns) = insM it b ws i := by rw [Int.toNat_natCast]; exact g2
      refine (val_no hk).trans ((val_no (dec_false (show ¬ ((insTo it b ws i).length : Int) ≥ lenI (insTo it b ws it.length) by simp only [lenI]; omega))).trans ((val_yes (inR g1)).trans ((val_yes ?_).trans ?_)))
      · show (inRange (i : Int) (List.length it) && bif (itemAt it i).1 == 0 then inRange (i : Int) (List.length it) else true) = true
        rw [inR hi]
        cases ((itemAt it i).1 == (0 : Int)) <;> rfl
      cases h0 : ((itemAt it i).1 == (0 : Int))
      · have hj : V_asm_item (itemAt it i) = true := by
          have := hf.item i hi
          unfold badJ at this
          simpa using this
        have h2 : (itemAt it i).1 = 2 := by
          rcases item_kinds _ hj with h | h | ⟨h, _⟩
          · rw [h] at h0; cases h0
          · rw [h] at hk; cases hk
          · exact h
        have h2' : ((itemAt it i).1 == (2 : Int)) = true := by rw [h2]; rfl
        have hbr : ((itemAt it i).1 != (2 : Int)) = false := by rw [h2]; rfl
        obtain ⟨t1, t2⟩ := tgt_some it hf.miss hi hbr
        have ei : insM it b ws i = ((itemAt it i).2.2.1.1, 0, 0, 0, 0, offM it b ws i, (itemAt it i).2.2.1.2.2.2.2.2.2.1, wd ws i, ()) := by unfold insM; rw [h2']; rfl
        have hfar : -1000000 ≤ offM it b ws i ∧ offM it b ws i ≤ 1000000 := by
          have h2 := pos_bound it b ws (tgt it i)
          unfold offM
          omega
        have hfound := found_run it (placesTo it b ws it.length) (posM it b ws i) (insTo it b ws it.length) f (((insTo it b ws i).length : Int) + 1) i (itemAt it i).2.2.1.1 0 0 0 0 (offM it b ws i) (itemAt it i).2.2.1.2.2.2.2.2.2.1 (wd ws i) hi (Nat.le_trans (places_len it b ws it.length) hn) (by omega) (by omega)
        have hany : (placesTo it b ws it.length).any (hitP (itemAt it i).2.1 (posM it b ws i + 4 + offM it b ws i)) = true := by
          refine List.any_eq_true.2 ⟨_, places_has it b ws (tgt it i) ?_ it.length t2, ?_⟩
          · have := (firstP_some t1).2.1
            unfold isLab at this
            rw [Bool.and_eq_true] at this
            exact this.1
          · have := (firstP_some t1).2.1
            unfold isLab at this
            rw [Bool.and_eq_true] at this
            unfold hitP
            rw [Bool.and_eq_true]
            refine ⟨this.2, ?_⟩
            show (posM it b ws (tgt it i) == posM it b ws i + 4 + offM it b ws i) = true
            rw [beq_iff_eq]
            unfold offM
            omega
        rw [hany] at hfound
        refine (val_no (by show ((itemAt it i).1 == 0 && _) = false; rw [h0]; rfl)).trans ((val_yes (inR hi)).trans ((val_yes h2').trans ?_))
        have e9 : w64 (((insTo it b ws i).length : Int) + 1) = ((insTo it b ws i).length : Int) + 1 := w64_id (by omega) (by omega)
        have hfound' : LoopN.res L_hauberklaw04_AsmGoes_21 (it, placesTo it b ws it.length, posM it b ws i, insTo it b ws it.length, f, w64 (((insTo it b ws i).length : Int) + 1), (i : Int), (), false, 0) (List.getD (insTo it b ws it.length) (Int.toNat ((insTo it b ws i).length : Int)) (Ty.dflt tIns)) = some (0, true, ((placesTo it b ws it.length).length : Int), insM it b ws i) :=
          (congrArg (fun z : tIns.den => LoopN.res L_hauberklaw04_AsmGoes_21 (it, placesTo it b ws it.length, posM it b ws i, insTo it b ws it.length, f, w64 (((insTo it b ws i).length : Int) + 1), (i : Int), (), false, 0) z) (hg.trans ei)).trans
            ((congrArg (fun k : Int => LoopN.res L_hauberklaw04_AsmGoes_21 (it, placesTo it b ws it.length, posM it b ws i, insTo it b ws it.length, f, k, (i : Int), (), false, 0) ((itemAt it i).2.2.1.1, 0, 0, 0, 0, offM it b ws i, (itemAt it i).2.2.1.2.2.2.2.2.2.1, wd ws i, ())) e9).trans
              (hfound.trans (by rw [ei])))
        refine (val_opt hfound').trans ((val_yes ?_).trans ((val_no ?_).trans ?_))
        · show (!true || inRange (i : Int) (List.length it) && ((insM it b ws i).1 != (itemAt it i).2.2.1.1 || inRange (i : Int) (List.length it))) = true
          rw [inR hi]
          simp
        · show (!true || ((insM it b ws i).1 != (itemAt it i).2.2.1.1 || (insM it b ws i).2.2.2.2.2.2.1 != (itemAt it i).2.2.1.2.2.2.2.2.2.1)) = false
          rw [ei]
          simp
        · show some (TL.on (false, w64 (posM it b ws i + V_thumb_Size (insM it b ws i)), w64 (((insTo it b ws i).length : Int) + 1), w64 ((i : Int) + 1))) = _
          rw [hsz, w64_id (n := posM it b ws i + sizeJ (itemAt it i) (wd ws i)) (by omega) (by omega), w64_id (n := ((insTo it b ws i).length : Int) + 1) (by omega) (by omega), w64_id (n := (i : Int) + 1) (by omega) (by omega), ← e1, ← e3]
          rfl
      · have h2 : ((itemAt it i).1 == (2 : Int)) = false := by
          have : (itemAt it i).1 = (0 : Int) := by simpa using h0
          rw [this]
          rfl
        have ei : insM it b ws i = (itemAt it i).2.2.1 := by unfold insM; rw [h2]; rfl
        refine (val_no ?_).trans ((val_yes (inR hi)).trans ((val_no h2).trans ?_))
        · show ((itemAt it i).1 == 0 && !Ty.eqb tIns (List.getD (insTo it b ws it.length) (Int.toNat ((insTo it b ws i).length : Int)) (Ty.dflt tIns)) (itemAt it i).2.2.1) = false
          rw [hg, ei, eqb_refl]
          simp
        · dsimp only
          rw [hg]
          rw [hsz, w64_id (n := posM it b ws i + sizeJ (itemAt it i) (wd ws i)) (by omega) (by omega), w64_id (n := ((insTo it b ws i).length : Int) + 1) (by omega) (by omega), w64_id (n := (i : Int) + 1) (by omega) (by omega), ← e1, ← e3]
          rfl
    · have e1 : posM it b ws (i + 1) = posM it b ws i := by
        show posM it b ws i + sizeJ (itemAt it i) (wd ws i) = _
        have : (itemAt it i).1 = (1 : Int) := by simpa using hk
        unfold sizeJ
        rw [this]
        show posM it b ws i + 0 = _
        omega
      have e2 : insTo it b ws (i + 1) = insTo it b ws i := by simp only [insTo, hk, cond_true]
      refine (val_yes hk).trans ?_
      dsimp only
      rw [e1, e2, w64_id (n := (i : Int) + 1) (by omega) (by omega)]
      rfl
  · exact (val_no (dec_false (show ¬ ((it.length : Nat) : Int) < lenI it by simp only [lenI]; omega))).trans rfl
end

theorem law_hauberklaw04_AsmGoes (x : dens A_hauberklaw04_AsmGoes) (hx : fitsAll maxLen A_hauberklaw04_AsmGoes x) : (T_hauberklaw04_AsmGoes x).val = some true := by
  obtain ⟨runs, b⟩ := x
  have hl : List.length runs ≤ 9223372036854775807 := by
    have h : List.length runs ≤ maxLen := hx.1.1
    unfold maxLen at h
    omega
  obtain ⟨i1, i2⟩ := items_run runs hl
  obtain ⟨a1, ⟨hc, hv⟩ | ⟨hf, K, hK, hv⟩⟩ := asm_val (V_hauberklaw04_Items runs) b i2
  · unfold T_hauberklaw04_AsmGoes
    dsimp only
    rw [hv]
    refine (val_yes i1).trans ((val_yes a1).trans ((val_yes (by simpa using hc)).trans ((val_yes ?_).trans ?_)))
    · rfl
    · rfl
  · obtain ⟨d1, d2⟩ := asm_dec (V_hauberklaw04_Items runs) b (widesAt (V_hauberklaw04_Items runs) b K) i2 hf hK
    have hg := goes_run (V_hauberklaw04_Items runs) b (widesAt (V_hauberklaw04_Items runs) b K) 0 i2 hf hK
    have hk0 : K_hauberklaw04_AsmGoes_0 (runs, b) = some (0, (false, posM (V_hauberklaw04_Items runs) b (widesAt (V_hauberklaw04_Items runs) b K) (V_hauberklaw04_Items runs).length, ((insTo (V_hauberklaw04_Items runs) b (widesAt (V_hauberklaw04_Items runs) b K) (V_hauberklaw04_Items runs).length).length : Int), ((V_hauberklaw04_Items runs).length : Int))) := by
      unfold K_hauberklaw04_AsmGoes_0
      dsimp only
      rw [hv]
      dsimp only
      rw [d2]
      exact hg
    unfold T_hauberklaw04_AsmGoes
    dsimp only
    rw [hv, hk0]
    dsimp only
    rw [d2]
    refine (val_yes i1).trans ((val_yes a1).trans ((val_no rfl).trans ((val_yes d1).trans ((val_opt rfl).trans ((val_yes rfl).trans ((val_yes ?_).trans ?_))))))
    · simp
    · show some ((0 : Int) == 0 && (((insTo (V_hauberklaw04_Items runs) b (widesAt (V_hauberklaw04_Items runs) b K) (V_hauberklaw04_Items runs).length).length : Int) == lenI (insTo (V_hauberklaw04_Items runs) b (widesAt (V_hauberklaw04_Items runs) b K) (V_hauberklaw04_Items runs).length) && true)) = some true
      simp
end Go.Av
end
