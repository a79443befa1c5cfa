/- Texts of the proof, one behind the other. -/
import Derived.Test.YtehcaooipfgklaaAsmLeastK4
import Derived.Test.YtehcaooipfgklaaAsmLeastK3
/-! Of any way of making branches wide in which all narrow ones reach, the bytes have no more wide ones: proved of what the function computes. -/
section
namespace Go.Av
open Go

theorem out_more {it : List tItem.den} {b : Int} {ws W : List Bool} (hf : AsmFine it b) (h : ∀ i, i < it.length → (itemAt it i).1 = 2 → wd ws i = true → wd W i = true) {i : Nat} (hi : i < it.length) (h2 : ((itemAt it i).1 != (2 : Int)) = false) (hW : outR it b W i = false) : outR it b ws i = false := by
  obtain ⟨a, c⟩ := out_no hW
  obtain ⟨_, t2⟩ := tgt_some it hf.miss hi h2
  have hj : V_asm_item (itemAt it i) = true := by
    have := hf.item i hi
    unfold badJ at this
    simpa using this
  have h2' : (itemAt it i).1 = 2 := by simpa using h2
  have hop : (itemAt it i).2.2.1.1 = 24 ∨ (itemAt it i).2.2.1.1 = 25 := by
    rcases item_kinds _ hj with h | h | ⟨_, ⟨h, _⟩ | ⟨h, _⟩⟩
    · rw [h] at h2'; cases h2'
    · rw [h] at h2'; cases h2'
    · exact .inl h
    · exact .inr h
  have hoff : (offM it b W i ≤ offM it b ws i ∧ offM it b ws i ≤ -4) ∨ (-4 ≤ offM it b ws i ∧ offM it b ws i ≤ offM it b W i) := by
    unfold offM
    rcases Nat.le_total i (tgt it i) with g | g
    · have := pos_more it b b ws W h g (by omega)
      have := pos_mono it b ws g
      right
      omega
    · have := pos_more it b b ws W h g (by omega)
      have := pos_mono it b ws g
      left
      omega
  unfold outR
  rcases hop with ho | ho
  · have := a ho
    rw [ho, reach24, Bool.or_eq_false_iff]
    exact ⟨dec_false (by dsimp only; omega), dec_false (by dsimp only; omega)⟩
  · have := c ho
    rw [ho, reach25, Bool.or_eq_false_iff]
    exact ⟨dec_false (by dsimp only; omega), dec_false (by dsimp only; omega)⟩
theorem wd_set (l : List Bool) (i j : Nat) (h : wd (l.set i true) j = true) : wd l j = true ∨ j = i := by
  by_cases hj : j = i
  · exact .inr hj
  · left
    unfold wd at h ⊢
    rw [List.getD_eq_getElem?_getD, List.getElem?_set_ne (fun e => hj e.symm)] at h
    rw [List.getD_eq_getElem?_getD]
    exact h
/-- Passes make no branch wide that is narrow where all narrow ones reach. -/
theorem pass_least {it : List tItem.den} {b : Int} {W : List Bool} (hf : AsmFine it b) (hW : ∀ i, i < it.length → ((itemAt it i).1 != (2 : Int)) = false → wd W i = false → outR it b W i = false) (ws : List Bool)
    (h : ∀ i, i < it.length → (itemAt it i).1 = 2 → wd ws i = true → wd W i = true) : ∀ n, n ≤ it.length → ∀ i, i < it.length → (itemAt it i).1 = 2 → wd (passTo it b ws n).2 i = true → wd W i = true
  | 0, _ => h
  | n + 1, hn => by
    have ih := pass_least hf hW ws h n (by omega)
    intro i hi h2 hw
    simp only [passTo] at hw
    cases h1 : ((itemAt it n).1 != (2 : Int) || wd (passTo it b ws n).2 n) <;> rw [h1] at hw
    · cases ho : outR it b ws n <;> rw [ho] at hw
      · exact ih i hi h2 hw
      · rcases wd_set _ _ _ hw with g | g
        · exact ih i hi h2 g
        · subst g
          cases hWi : wd W i
          · have := out_more hf h hi (Bool.or_eq_false_iff.1 h1).1 (hW i hi (Bool.or_eq_false_iff.1 h1).1 hWi)
            rw [this] at ho
            cases ho
          · rfl
    · exact ih i hi h2 hw
theorem wides_least {it : List tItem.den} {b : Int} {W : List Bool} (hf : AsmFine it b) (hW : ∀ i, i < it.length → ((itemAt it i).1 != (2 : Int)) = false → wd W i = false → outR it b W i = false) : ∀ K, ∀ i, i < it.length → (itemAt it i).1 = 2 → wd (widesAt it b K) i = true → wd W i = true
  | 0 => by
    intro i hi _ hw
    unfold wd widesAt at hw
    rw [List.getD_eq_getElem?_getD, List.getElem?_replicate, if_pos hi] at hw
    cases hw
  | K + 1 => pass_least hf hW _ (wides_least hf hW K) it.length (Nat.le_refl _)

/-- A label that a narrow branch does not reach. -/
def farAt (it : List tItem.den) (b : Int) (W : List Bool) (i k : Nat) : Bool := isLab it (itemAt it i).2.1 k && (decide (posM it b W k - posM it b W i - 4 < (V_thumb_Reach ((itemAt it i).2.2.1.1, false)).1) || decide (posM it b W k - posM it b W i - 4 > (V_thumb_Reach ((itemAt it i).2.2.1.1, false)).2.1))
def farI (it : List tItem.den) (b : Int) (W : List Bool) (i : Nat) : Bool := !((itemAt it i).1 != 2 || wd W i) && (firstP (farAt it b W i) it.length).isSome

section
variable (it : List tItem.den) (b : Int) (W : List Bool) (s : List UInt8) (hn : it.length ≤ 21000)
include hn
theorem least14 {i : Nat} (hi : i < it.length) : LoopN.res L_hauberklaw04_AsmLeast_14 (W, false, it, s, layM it b W, (i : Int), (V_thumb_Reach ((itemAt it i).2.2.1.1, false)).1, (V_thumb_Reach ((itemAt it i).2.2.1.1, false)).2.1, 0) () = some (match firstP (farAt it b W i) it.length with
    | some k => (1, (true, (k : Int)))
    | none => (0, (false, (it.length : Int)))) := by
  unfold LoopN.res
  have hg : ∀ k, k < it.length → (inRange (k : Int) (List.length it) && bif (itemAt it k).1 == 1 then inRange (k : Int) (List.length it) && inRange (i : Int) (List.length it) else true) = true := fun k hk => by
    rw [inR hk, inR hi]
    cases ((itemAt it k).1 == (1 : Int)) <;> rfl
  have hin : ∀ k, k < it.length → (inRange (k : Int) (List.length (layM it b W)) && inRange (i : Int) (List.length (layM it b W))) = true := fun k hk => by
    rw [lay_len, inR (show k < it.length + 1 by omega), inR (show i < it.length + 1 by omega)]
    rfl
  have hd : ∀ k, k < it.length → w64 (w64 (List.getD (layM it b W) (Int.toNat (k : Int)) (Ty.dflt (Ty.int IntKind.i64)) - List.getD (layM it b W) (Int.toNat (i : Int)) (Ty.dflt (Ty.int IntKind.i64))) - 4) = posM it b W k - posM it b W i - 4 := fun k hk => by
    have e1 : List.getD (layM it b W) (Int.toNat (k : Int)) (Ty.dflt (Ty.int IntKind.i64)) = posM it b W k := by rw [Int.toNat_natCast]; exact lay_get it b W (Nat.le_of_lt hk)
    have e2 : List.getD (layM it b W) (Int.toNat (i : Int)) (Ty.dflt (Ty.int IntKind.i64)) = posM it b W i := by rw [Int.toNat_natCast]; exact lay_get it b W (Nat.le_of_lt hi)
    rw [e1, e2]
    exact off_w64 it b W hn hi hk
  refine scan_run (turn := L_hauberklaw04_AsmLeast_14.turn (W, false, it, s, layM it b W, (i : Int), (V_thumb_Reach ((itemAt it i).2.2.1.1, false)).1, (V_thumb_Reach ((itemAt it i).2.2.1.1, false)).2.1, 0) ()) (fun k => (false, (k : Int))) (farAt it b W i) it.length (fun k => (1, (true, (k : Int)))) (0, (false, (it.length : Int))) (fun k hk _ hp => ?_) (fun k hk _ hp => ?_) (fun _ => ?_) _ (Nat.lt_succ_self _)
  · refine (val_yes (dec_true (show (k : Int) < lenI it by simp only [lenI]; omega))).trans ((val_yes (hg k hk)).trans ?_)
    unfold farAt at hp
    cases hl : isLab it (itemAt it i).2.1 k
    · refine (val_no ?_).trans ?_
      · show ((itemAt it k).1 == 1 && (itemAt it k).2.1 == (itemAt it i).2.1) = false
        exact hl
      · dsimp only
        rw [w64_id (n := (k : Int) + 1) (by omega) (by omega)]
        rfl
    · rw [hl, Bool.true_and] at hp
      refine (val_yes ?_).trans ((val_yes (hin k hk)).trans ((val_no ?_).trans ?_))
      · show ((itemAt it k).1 == 1 && (itemAt it k).2.1 == (itemAt it i).2.1) = true
        exact hl
      · dsimp only
        rw [hd k hk]
        exact hp
      · dsimp only
        rw [w64_id (n := (k : Int) + 1) (by omega) (by omega)]
        rfl
  · unfold farAt at hp
    rw [Bool.and_eq_true] at hp
    refine (val_yes (dec_true (show (k : Int) < lenI it by simp only [lenI]; omega))).trans ((val_yes (hg k hk)).trans ((val_yes ?_).trans ((val_yes (hin k hk)).trans ((val_yes ?_).trans rfl))))
    · show ((itemAt it k).1 == 1 && (itemAt it k).2.1 == (itemAt it i).2.1) = true
      exact hp.1
    · dsimp only
      rw [hd k hk]
      exact hp.2
  · exact (val_no (dec_false (show ¬ ((it.length : Nat) : Int) < lenI it by simp only [lenI]; omega))).trans rfl

theorem least9 : ∃ k, LoopN.res L_hauberklaw04_AsmLeast_9 (W, false, it, s, layM it b W, 0) () = some (match firstP (farI it b W) it.length with
    | some _ => (1, (true, k))
    | none => (0, (false, (it.length : Int)))) := by
  refine ⟨(((firstP (farI it b W) it.length).getD 0 : Nat) : Int), ?_⟩
  unfold LoopN.res
  have hg : ∀ i, i < it.length → (inRange (i : Int) (List.length it) && ((itemAt it i).1 != 2 || bif decide ((i : Int) < lenI W) then inRange (i : Int) (List.length W) else true)) = true := fun i hi => by
    rw [inR hi]
    by_cases h : i < W.length
    · rw [inR h]
      cases decide ((i : Int) < lenI W) <;> simp
    · rw [dec_false (show ¬ (i : Int) < lenI W by simp only [lenI]; omega)]
      simp
  have hs : ∀ i, ((itemAt it i).1 != 2 || decide ((i : Int) < lenI W) && List.getD W (Int.toNat (i : Int)) (Ty.dflt Ty.bool)) = ((itemAt it i).1 != 2 || wd W i) := fun i => by
    congr 1
    by_cases h : i < W.length
    · rw [dec_true (show (i : Int) < lenI W by simp only [lenI]; omega)]
      rfl
    · have hw : wd W i = false := by
        unfold wd
        rw [List.getD_eq_getElem?_getD, List.getElem?_eq_none (by omega)]
        rfl
      rw [dec_false (show ¬ (i : Int) < lenI W by simp only [lenI]; omega), hw]
      rfl
  have key := scan_run (turn := L_hauberklaw04_AsmLeast_9.turn (W, false, it, s, layM it b W, 0) ()) (fun i => (false, (i : Int))) (farI it b W) it.length (fun k => (1, (true, (k : Int)))) (0, (false, (it.length : Int))) (fun i hi _ hp => ?_) (fun i hi _ hp => ?_) (fun _ => ?_) _ (Nat.lt_succ_self _)
  · refine key.trans ?_
    cases firstP (farI it b W) it.length <;> rfl
  · refine (val_yes (dec_true (show (i : Int) < lenI it by simp only [lenI]; omega))).trans ((val_yes (hg i hi)).trans ?_)
    unfold farI at hp
    cases ht : ((itemAt it i).1 != (2 : Int) || wd W i)
    · rw [ht, Bool.not_false, Bool.true_and] at hp
      have h14 := least14 it b W s hn hi
      refine (val_no ((hs i).trans ht)).trans ((val_yes (by show (inRange (i : Int) (List.length it) && true) = true; rw [inR hi]; rfl)).trans ((val_opt h14).trans ?_))
      cases hf : firstP (farAt it b W i) it.length with
      | some k => rw [hf] at hp; cases hp
      | none =>
        refine (val_yes rfl).trans ?_
        dsimp only
        rw [w64_id (n := (i : Int) + 1) (by omega) (by omega)]
        rfl
    · refine (val_yes ((hs i).trans ht)).trans ?_
      dsimp only
      rw [w64_id (n := (i : Int) + 1) (by omega) (by omega)]
      rfl
  · unfold farI at hp
    rw [Bool.and_eq_true] at hp
    have ht : ((itemAt it i).1 != (2 : Int) || wd W i) = false := by simpa using hp.1
    have h14 := least14 it b W s hn hi
    refine (val_yes (dec_true (show (i : Int) < lenI it by simp only [lenI]; omega))).trans ((val_yes (hg i hi)).trans ((val_no ((hs i).trans ht)).trans ((val_yes (by show (inRange (i : Int) (List.length it) && true) = true; rw [inR hi]; rfl)).trans ((val_opt h14).trans ?_))))
    cases hf : firstP (farAt it b W i) it.length with
    | some k => exact (val_no rfl).trans rfl
    | none => rw [hf] at hp; cases hp.2
  · exact (val_no (dec_false (show ¬ ((it.length : Nat) : Int) < lenI it by simp only [lenI]; omega))).trans rfl
end

section
variable (it : List tItem.den) (b : Int) (W ws : List Bool) (hn : it.length ≤ 21000) (hf : AsmFine it b) (hp : (passTo it b ws it.length).1 = false) (hW : ∀ i, i < it.length → (itemAt it i).1 = 2 → wd ws i = true → wd W i = true)
include hn hf hp hW
omit hf hp in
theorem least23_run (f : Int) (u : Int) : ∀ (n i : Nat), i + n = it.length → ∃ r, runL (L_hauberklaw04_AsmLeast_23.turn (W, false, it, insTo it b ws it.length, f, u, u) ()) (n + 1) (false, ((insTo it b ws i).length : Int), (i : Int)) = some (0, r)
  | 0, i, h => by
    have hi : i = it.length := by omega
    subst hi
    refine ⟨_, runL_out ((val_no ?_).trans rfl)⟩
    rw [Bool.and_eq_false_iff]
    exact .inl (dec_false (show ¬ ((it.length : Nat) : Int) < lenI it by simp only [lenI]; omega))
  | n + 1, i, h => by
    have hi : i < it.length := by omega
    have hlen := insTo_len it b ws i
    by_cases hk1 : (insTo it b ws i).length < (insTo it b ws it.length).length
    · have hcnd : (decide ((i : Int) < lenI it) && decide (((insTo it b ws i).length : Int) < lenI (insTo it b ws it.length))) = true := by
        rw [dec_true (show (i : Int) < lenI it by simp only [lenI]; omega), dec_true (show ((insTo it b ws i).length : Int) < lenI (insTo it b ws it.length) by simp only [lenI]; omega)]
        rfl
      obtain ⟨r, hr⟩ := least23_run f u n (i + 1) (by omega)
      refine ⟨r, (runL_on ?_).trans hr⟩
      refine (val_yes hcnd).trans ((val_yes (inR hi)).trans ?_)
      cases hk : ((itemAt it i).1 == (1 : Int))
      · obtain ⟨g1, g2⟩ := insTo_get it b ws hi hk
        have e2 : insTo it b ws (i + 1) = insTo it b ws i ++ [insM it b ws i] := by simp only [insTo, hk, cond_false]
        have e3 : ((insTo it b ws (i + 1)).length : Int) = ((insTo it b ws i).length : Int) + 1 := by rw [e2, List.length_append]; rfl
        have hg : List.getD (insTo it b ws it.length) (Int.toNat ((insTo it b ws i).length : Int)) (Ty.dflt tIns) = insM it b ws i := by rw [Int.toNat_natCast]; exact g2
        refine (val_no hk).trans ((val_yes ?_).trans ((val_no ?_).trans ?_))
        · dsimp only
          rw [inR g1, inR hi]
          by_cases hw : i < W.length
          · rw [inR hw]
            simp
          · rw [dec_false (show ¬ (i : Int) < lenI W by simp only [lenI]; omega)]
            simp
        · dsimp only
          rw [hg]
          cases h2 : ((itemAt it i).1 == (2 : Int))
          · have : (List.getD it (Int.toNat (i : Int)) (Ty.dflt tItem)).1 = (itemAt it i).1 := by rw [Int.toNat_natCast]
            rw [this, h2]
            simp
          · have ei : insM it b ws i = ((itemAt it i).2.2.1.1, 0, 0, 0, 0, offM it b ws i, (itemAt it i).2.2.1.2.2.2.2.2.2.1, wd ws i, ()) := by unfold insM; rw [h2]; rfl
            rw [ei]
            show (wd ws i && ((itemAt it (Int.toNat (i : Int))).1 == 2 && bif decide ((i : Int) < lenI W) then !List.getD W (Int.toNat (i : Int)) (Ty.dflt Ty.bool) else true)) = false
            cases hws : wd ws i
            · rfl
            · have h3 := hW i hi (by simpa using h2) hws
              have h4 : i < W.length := by
                rcases Nat.lt_or_ge i W.length with h | h
                · exact h
                · unfold wd at h3
                  rw [List.getD_eq_getElem?_getD, List.getElem?_eq_none h] at h3
                  cases h3
              rw [dec_true (show (i : Int) < lenI W by simp only [lenI]; omega)]
              have h5 : List.getD W (Int.toNat (i : Int)) (Ty.dflt Ty.bool) = true := h3
              rw [h5]
              simp
        · dsimp only
          rw [e3, w64_id (n := ((insTo it b ws i).length : Int) + 1) (by omega) (by omega), w64_id (n := (i : Int) + 1) (by omega) (by omega)]
          rfl
      · have e2 : insTo it b ws (i + 1) = insTo it b ws i := by simp only [insTo, hk, cond_true]
        refine (val_yes hk).trans ?_
        dsimp only
        rw [e2, w64_id (n := (i : Int) + 1) (by omega) (by omega)]
        rfl
    · refine ⟨_, runL_out ((val_no ?_).trans rfl)⟩
      rw [Bool.and_eq_false_iff]
      exact .inr (dec_false (show ¬ ((insTo it b ws i).length : Int) < lenI (insTo it b ws it.length) by simp only [lenI]; omega))
end

theorem law_hauberklaw04_AsmLeast (x : dens A_hauberklaw04_AsmLeast) (hx : fitsAll maxLen A_hauberklaw04_AsmLeast x) : (T_hauberklaw04_AsmLeast x).val = some true := by
  obtain ⟨runs, b, W⟩ := x
  have hl : List.length runs ≤ 9223372036854775807 := by
    have h : List.length runs ≤ maxLen := hx.1.1
    unfold maxLen at h
    omega
  obtain ⟨i1, i2⟩ := items_run runs hl
  obtain ⟨a1, ⟨hc, hv⟩ | ⟨hf, K, hK, hv⟩⟩ := asm_val (V_hauberklaw04_Items runs) b i2
  · unfold T_hauberklaw04_AsmLeast
    dsimp only
    rw [hv]
    exact (val_yes i1).trans ((val_yes a1).trans ((val_yes (by simpa using hc)).trans rfl))
  · obtain ⟨d1, d2⟩ := asm_dec (V_hauberklaw04_Items runs) b (widesAt (V_hauberklaw04_Items runs) b K) i2 hf hK
    obtain ⟨hb1, hb2, _⟩ := fine_base hf
    obtain ⟨l1, l2⟩ := alay_run (V_hauberklaw04_Items runs) b W i2 ⟨hb1, hb2⟩
    have hk0 : K_hauberklaw04_AsmLeast_0 (runs, b, W) = false := by
      unfold K_hauberklaw04_AsmLeast_0
      dsimp only
      rw [l2]
      simp only [lenI, lay_len]
      rw [w64_id (by omega) (by omega)]
      simp
    obtain ⟨k, h9⟩ := least9 (V_hauberklaw04_Items runs) b W (bytesTo (V_hauberklaw04_Items runs) b (widesAt (V_hauberklaw04_Items runs) b K) (V_hauberklaw04_Items runs).length) i2
    unfold T_hauberklaw04_AsmLeast
    rw [hk0]
    have hk1 : K_hauberklaw04_AsmLeast_1 (runs, b, W) = some (match firstP (farI (V_hauberklaw04_Items runs) b W) (V_hauberklaw04_Items runs).length with
        | some _ => (1, (true, k))
        | none => (0, (false, ((V_hauberklaw04_Items runs).length : Int)))) := by
      unfold K_hauberklaw04_AsmLeast_1
      dsimp only
      rw [hv, l2]
      exact h9
    rw [hk1]
    dsimp only
    rw [hv]
    dsimp only
    rw [d2]
    refine (val_yes i1).trans ((val_yes a1).trans ((val_no rfl).trans ((val_yes l1).trans ((val_no rfl).trans ((val_opt rfl).trans ?_)))))
    cases hF : firstP (farI (V_hauberklaw04_Items runs) b W) (V_hauberklaw04_Items runs).length with
    | some j => exact (val_no rfl).trans rfl
    | none =>
      have hno := firstP_none hF
      have hWr : ∀ i, i < (V_hauberklaw04_Items runs).length → ((itemAt (V_hauberklaw04_Items runs) i).1 != (2 : Int)) = false → wd W i = false → outR (V_hauberklaw04_Items runs) b W i = false := fun i hi h2 hw => by
        have h := hno i hi
        unfold farI at h
        rw [h2, hw] at h
        obtain ⟨t1, t2⟩ := tgt_some (V_hauberklaw04_Items runs) hf.miss hi h2
        have hnone : firstP (farAt (V_hauberklaw04_Items runs) b W i) (V_hauberklaw04_Items runs).length = none := by
          cases hh : firstP (farAt (V_hauberklaw04_Items runs) b W i) (V_hauberklaw04_Items runs).length with
          | none => rfl
          | some _ => rw [hh] at h; cases h
        have hh := firstP_none hnone _ t2
        unfold farAt at hh
        rw [(firstP_some t1).2.1, Bool.true_and] at hh
        exact hh
      have hle := wides_least hf hWr K
      obtain ⟨r, hr⟩ := least23_run (V_hauberklaw04_Items runs) b W (widesAt (V_hauberklaw04_Items runs) b K) i2 hle 0 0 (V_hauberklaw04_Items runs).length 0 (by omega)
      have h23 : LoopN.res L_hauberklaw04_AsmLeast_23 (W, false, V_hauberklaw04_Items runs, insTo (V_hauberklaw04_Items runs) b (widesAt (V_hauberklaw04_Items runs) b K) (V_hauberklaw04_Items runs).length, 0, 0, 0) () = some (0, r) := hr
      refine (val_yes rfl).trans ((val_yes d1).trans ((val_opt h23).trans ((val_yes rfl).trans ((val_yes rfl).trans rfl))))
end Go.Av
end
