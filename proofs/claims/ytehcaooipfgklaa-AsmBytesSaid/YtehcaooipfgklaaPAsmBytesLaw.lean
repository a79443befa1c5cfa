/- The statement's items: proved of what the function computes. Where items lie: the program and the document alike. Loops that look for a first one; labels. What is wrong with items: as the document says it. What is wrong with items: the program's check. Branches made wide: one pass. Branches made wide: pass after pass, in the program and in the document. Items as bytes: the program and the document alike. AsmBytes: proved of what the functions compute. -/
import Derived.Test.YtehcaooipfgklaaPAsmB
import Derived.Test.YtehcaooipfgklaaPLaw04a
/-! The statement's items: proved of what the function computes. -/
namespace Go.Av
open Go

/-- A run's item and how often it stands. -/
def runOf (x : List tRun.den) (i : Nat) : tItem.den := (List.getD x i (Ty.dflt tRun)).1
def runNo (x : List tRun.den) (i : Nat) : Nat := min (List.getD x i (Ty.dflt tRun)).2.1.toNat 700
/-- The items of the first runs. -/
def itemsTo (x : List tRun.den) : Nat → List tItem.den
  | 0 => []
  | i + 1 => itemsTo x i ++ List.replicate (runNo x i) (runOf x i)
theorem itemsTo_len (x : List tRun.den) : ∀ i, (itemsTo x i).length ≤ 700 * i
  | 0 => Nat.le_refl _
  | i + 1 => by
    have := itemsTo_len x i
    have h : runNo x i ≤ 700 := Nat.min_le_right _ _
    simp only [itemsTo, List.length_append, List.length_replicate]
    omega

theorem items_in (x : List tRun.den) (acc : List tItem.den) (i : Nat) (hi : i < x.length) (ha : acc.length ≤ 30000) :
    LoopN.res L_hauberklaw04_Items_6 (x, acc, (i : Int), 0) () = some (0, acc ++ List.replicate (runNo x i) (runOf x i), (runNo x i : Int)) := by
  unfold LoopN.res
  have hn : runNo x i ≤ 700 := Nat.min_le_right _ _
  have key := runL_count (turn := L_hauberklaw04_Items_6.turn (x, acc, (i : Int), 0) ()) (fun k => (acc ++ List.replicate k (runOf x i), (k : Int))) (0, (acc ++ List.replicate (runNo x i) (runOf x i), (runNo x i : Int))) (n := runNo x i) (fun k hk => ?_) ?_ (runNo x i) 0 (by omega) 701 (by omega)
  · have e : acc ++ List.replicate 0 (runOf x i) = acc := List.append_nil _
    simp only [e] at key
    exact key
  · have hc : (k : Int) < (List.getD x i (Ty.dflt tRun)).2.1 := by
      have : runNo x i ≤ (List.getD x i (Ty.dflt tRun)).2.1.toNat := Nat.min_le_left _ _
      omega
    refine (val_yes (inR hi)).trans ((val_yes ?_).trans ((val_yes (inR hi)).trans ((val_yes ?_).trans ?_)))
    · rw [Bool.and_eq_true]
      exact ⟨dec_true hc, dec_true (show (k : Int) < 700 by omega)⟩
    · refine Nat.ble_eq_true_of_le ?_
      dsimp only
      rw [List.length_append, List.length_replicate]
      simp only [List.length_cons, List.length_nil]
      omega
    · dsimp only
      rw [w64_id (n := (k : Int) + 1) (by omega) (by omega), List.replicate_succ', ← List.append_assoc]
      rfl
  · refine (val_yes (inR hi)).trans ((val_no ?_).trans rfl)
    rw [Bool.and_eq_false_iff]
    by_cases h : (List.getD x i (Ty.dflt tRun)).2.1.toNat ≤ 700
    · refine .inl (dec_false (show ¬ ((runNo x i : Nat) : Int) < (List.getD x i (Ty.dflt tRun)).2.1 from ?_))
      have : runNo x i = (List.getD x i (Ty.dflt tRun)).2.1.toNat := Nat.min_eq_left h
      omega
    · refine .inr (dec_false (show ¬ ((runNo x i : Nat) : Int) < 700 from ?_))
      have : runNo x i = 700 := Nat.min_eq_right (by omega)
      omega

theorem items_val (x : List tRun.den) (hx : x.length ≤ 9223372036854775807) : (T_hauberklaw04_Items x).val = some (itemsTo x (min x.length 30)) := by
  have hl : LoopN.res L_hauberklaw04_Items_3 (x, [], 0) () = some (0, itemsTo x (min x.length 30), ((min x.length 30 : Nat) : Int)) := by
    unfold LoopN.res
    refine runL_count (turn := L_hauberklaw04_Items_3.turn (x, [], 0) ()) (fun k => (itemsTo x k, (k : Int))) (0, (itemsTo x (min x.length 30), ((min x.length 30 : Nat) : Int))) (n := min x.length 30) (fun k hk => ?_) ?_ (min x.length 30) 0 (by omega) 31 (by omega)
    · have h1 : k < x.length := by omega
      have h2 := itemsTo_len x k
      refine (val_yes ?_).trans ((val_opt (items_in x (itemsTo x k) k h1 (by omega))).trans ?_)
      · rw [Bool.and_eq_true]
        exact ⟨dec_true (show (k : Int) < lenI x by simp only [lenI]; omega), dec_true (show (k : Int) < 30 by omega)⟩
      · dsimp only
        rw [w64_id (n := (k : Int) + 1) (by omega) (by omega)]
        rfl
    · refine (val_no ?_).trans rfl
      rw [Bool.and_eq_false_iff]
      by_cases h : x.length ≤ 30
      · exact .inl (dec_false (show ¬ ((min x.length 30 : Nat) : Int) < lenI x by simp only [lenI]; omega))
      · exact .inr (dec_false (show ¬ ((min x.length 30 : Nat) : Int) < 30 by omega))
  exact (val_opt hl).trans rfl

theorem items_run (x : List tRun.den) (hx : x.length ≤ 9223372036854775807) : G_hauberklaw04_Items x = true ∧ (V_hauberklaw04_Items x).length ≤ 21000 := by
  have h := items_val x hx
  refine ⟨by unfold G_hauberklaw04_Items; rw [h]; rfl, ?_⟩
  have e : V_hauberklaw04_Items x = itemsTo x (min x.length 30) := by unfold V_hauberklaw04_Items PO.getO; rw [h]; rfl
  rw [e]
  have := itemsTo_len x (min x.length 30)
  omega
end Go.Av
/-! Where items lie: the program and the document alike. -/
namespace Go.Av
open Go

abbrev itemAt (it : List tItem.den) (i : Nat) : tItem.den := List.getD it i (Ty.dflt tItem)
def wd (ws : List Bool) (i : Nat) : Bool := List.getD ws i false
/-- An item's size. -/
def sizeJ (j : tItem.den) (w : Bool) : Int := bif j.1 == 0 then V_thumb_Size j.2.2.1 else bif j.1 == 2 then (bif w then 4 else 2) else 0
theorem size_bound (x : tIns.den) (n : Int) (h : V_thumb_Size x = n) : 0 ≤ n ∧ n ≤ 4 := by
  subst h
  unfold V_thumb_Size
  cases (V_thumb_Check x != 0) <;> cases isLong x.1 x.2.2.2.2.2.2.2.1 <;> exact ⟨by decide, by decide⟩
theorem sizeJ_bound (j : tItem.den) (w : Bool) : 0 ≤ sizeJ j w ∧ sizeJ j w ≤ 4 := by
  unfold sizeJ
  cases (j.1 == (0 : Int))
  · cases (j.1 == (2 : Int)) <;> cases w <;> simp
  · exact size_bound j.2.2.1 _ rfl
/-- Where an item lies. -/
def posM (it : List tItem.den) (b : Int) (ws : List Bool) : Nat → Int
  | 0 => b
  | i + 1 => posM it b ws i + sizeJ (itemAt it i) (wd ws i)
theorem pos_bound (it : List tItem.den) (b : Int) (ws : List Bool) : ∀ i : Nat, b ≤ posM it b ws i ∧ posM it b ws i ≤ b + 4 * (i : Int)
  | 0 => ⟨by simp [posM], by simp [posM]⟩
  | i + 1 => by
    obtain ⟨h1, h2⟩ := pos_bound it b ws i
    obtain ⟨h3, h4⟩ := sizeJ_bound (itemAt it i) (wd ws i)
    simp only [posM]
    omega
def layTo (it : List tItem.den) (b : Int) (ws : List Bool) (n : Nat) : List Int := (List.range n).map (posM it b ws)
theorem layTo_len (it : List tItem.den) (b : Int) (ws : List Bool) (n : Nat) : (layTo it b ws n).length = n := by simp [layTo]
theorem layTo_succ (it : List tItem.den) (b : Int) (ws : List Bool) (n : Nat) : layTo it b ws n ++ [posM it b ws n] = layTo it b ws (n + 1) := by simp [layTo, List.range_succ]
def layM (it : List tItem.den) (b : Int) (ws : List Bool) : List Int := layTo it b ws (List.length it + 1)

theorem isWide_val (ws : List Bool) (i : Nat) : (T_asm_isWide (ws, (i : Int))).val = some (wd ws i) := by
  by_cases h : i < ws.length
  · have h1 : decide ((i : Int) < lenI ws) = true := dec_true (by simp only [lenI]; omega)
    refine (val_yes ?_).trans ?_
    · show (bif decide ((i : Int) < lenI ws) then inRange (i : Int) (List.length ws) else true) = true
      rw [h1]
      exact inR h
    · show some (decide ((i : Int) < lenI ws) && List.getD ws (Int.toNat (i : Int)) false) = some (wd ws i)
      rw [h1]
      rfl
  · have h1 : decide ((i : Int) < lenI ws) = false := dec_false (by simp only [lenI]; omega)
    refine (val_yes ?_).trans ?_
    · show (bif decide ((i : Int) < lenI ws) then inRange (i : Int) (List.length ws) else true) = true
      rw [h1]
      rfl
    · show some (decide ((i : Int) < lenI ws) && List.getD ws (Int.toNat (i : Int)) false) = some (wd ws i)
      have hw : wd ws i = false := by
        unfold wd
        rw [List.getD_eq_getElem?_getD, List.getElem?_eq_none (by omega)]
        rfl
      rw [h1, hw]
      rfl
theorem isWide_run (ws : List Bool) (i : Nat) : G_asm_isWide (ws, (i : Int)) = true ∧ V_asm_isWide (ws, (i : Int)) = wd ws i := by
  have h := isWide_val ws i
  exact ⟨by unfold G_asm_isWide; rw [h]; rfl, by unfold V_asm_isWide PO.getO; rw [h]; rfl⟩

theorem rsize_val (it : List tItem.den) (ws : List Bool) (i : Nat) (hi : i < it.length) : (T_hauberkref04_size (it, (i : Int), ws)).val = some (sizeJ (itemAt it i) (wd ws i)) := by
  refine (val_yes (inR hi)).trans ?_
  unfold sizeJ
  cases h0 : ((itemAt it i).1 == (0 : Int))
  · refine (val_no h0).trans ?_
    cases h2 : ((itemAt it i).1 == (2 : Int))
    · exact (val_no h2).trans rfl
    · refine (val_yes h2).trans ?_
      by_cases h : i < ws.length
      · have h1 : decide ((i : Int) < lenI ws) = true := dec_true (by simp only [lenI]; omega)
        refine (val_yes ?_).trans ?_
        · show (bif decide ((i : Int) < lenI ws) then inRange (i : Int) (List.length ws) else true) = true
          rw [h1]
          exact inR h
        · cases hw : wd ws i
          · refine (val_no ?_).trans rfl
            show (decide ((i : Int) < lenI ws) && List.getD ws (Int.toNat (i : Int)) false) = false
            rw [h1]
            exact hw
          · refine (val_yes ?_).trans rfl
            show (decide ((i : Int) < lenI ws) && List.getD ws (Int.toNat (i : Int)) false) = true
            rw [h1]
            exact hw
      · have h1 : decide ((i : Int) < lenI ws) = false := dec_false (by simp only [lenI]; omega)
        have hw : wd ws i = false := by
          unfold wd
          rw [List.getD_eq_getElem?_getD, List.getElem?_eq_none (by omega)]
          rfl
        refine (val_yes ?_).trans ((val_no ?_).trans ?_)
        · show (bif decide ((i : Int) < lenI ws) then inRange (i : Int) (List.length ws) else true) = true
          rw [h1]
          rfl
        · show (decide ((i : Int) < lenI ws) && List.getD ws (Int.toNat (i : Int)) false) = false
          rw [h1]
          rfl
        · rw [hw]
          rfl
  · refine (val_yes h0).trans ((val_yes ?_).trans rfl)
    show (inRange (i : Int) (List.length it) && true) = true
    rw [inR hi]
    rfl
theorem rsize_run (it : List tItem.den) (ws : List Bool) (i : Nat) (hi : i < it.length) : G_hauberkref04_size (it, (i : Int), ws) = true ∧ V_hauberkref04_size (it, (i : Int), ws) = sizeJ (itemAt it i) (wd ws i) := by
  have h := rsize_val it ws i hi
  exact ⟨by unfold G_hauberkref04_size; rw [h]; rfl, by unfold V_hauberkref04_size PO.getO; rw [h]; rfl⟩

section
variable (it : List tItem.den) (b : Int) (ws : List Bool) (hn : it.length ≤ 21000) (hb : 0 ≤ b ∧ b ≤ 262144)
include hn hb
omit hb in
theorem fits8 {k : Nat} (hk : k ≤ it.length) : Nat.ble ((List.length (layTo it b ws k) + 1) * 8) 140737488355328 = true := by
  refine Nat.ble_eq_true_of_le ?_
  rw [layTo_len]
  omega

theorem rlay_val : (T_hauberkref04_Lay (it, b, ws)).val = some (layM it b ws) := by
  have hl : LoopN.res L_hauberkref04_Lay_4 (it, ws, [], b, 0) () = some (0, layTo it b ws it.length, posM it b ws it.length, (it.length : Int)) := by
    unfold LoopN.res
    refine runL_count (turn := L_hauberkref04_Lay_4.turn (it, ws, [], b, 0) ()) (fun k => (layTo it b ws k, posM it b ws k, (k : Int))) (0, (layTo it b ws it.length, posM it b ws it.length, (it.length : Int))) (n := it.length) (fun k hk => ?_) ?_ it.length 0 (by omega) _ (Nat.lt_succ_self _)
    · obtain ⟨h1, h2⟩ := rsize_run it ws k hk
      have h3 := pos_bound it b ws k
      have h4 := sizeJ_bound (itemAt it k) (wd ws k)
      refine (val_yes (dec_true (show (k : Int) < lenI it by simp only [lenI]; omega))).trans ((val_yes (fits8 it b ws hn (Nat.le_of_lt hk))).trans ((val_yes h1).trans ?_))
      dsimp only
      rw [h2, w64_id (n := (k : Int) + 1) (by omega) (by omega), w64_id (n := posM it b ws k + sizeJ (itemAt it k) (wd ws k)) (by omega) (by omega), layTo_succ]
      rfl
    · exact (val_no (dec_false (show ¬ ((it.length : Nat) : Int) < lenI it by simp only [lenI]; omega))).trans rfl
  refine (val_opt hl).trans ((val_yes (fits8 it b ws hn (Nat.le_refl _))).trans ?_)
  show some (layTo it b ws it.length ++ [posM it b ws it.length]) = _
  rw [layTo_succ]
  rfl
theorem rlay_run : G_hauberkref04_Lay (it, b, ws) = true ∧ V_hauberkref04_Lay (it, b, ws) = layM it b ws := by
  have h := rlay_val it b ws hn hb
  exact ⟨by unfold G_hauberkref04_Lay; rw [h]; rfl, by unfold V_hauberkref04_Lay PO.getO; rw [h]; rfl⟩

theorem alay_val : (T_asm_Lay (it, b, ws)).val = some (layM it b ws) := by
  have hl : LoopN.res L_asm_Lay_3 (b, ws, [], it, lenI it, 0) () = some (0, posM it b ws it.length, layTo it b ws it.length, (it.length : Int)) := by
    unfold LoopN.res
    refine runL_count (turn := L_asm_Lay_3.turn (b, ws, [], it, lenI it, 0) ()) (fun k => (posM it b ws k, layTo it b ws k, (k : Int))) (0, (posM it b ws it.length, layTo it b ws it.length, (it.length : Int))) (n := it.length) (fun k hk => ?_) ?_ it.length 0 (by omega) _ (Nat.lt_succ_self _)
    · obtain ⟨h1, h2⟩ := isWide_run ws k
      have h3 := pos_bound it b ws k
      have h4 := size_bound (itemAt it k).2.2.1 _ rfl
      refine (val_yes (dec_true (show (k : Int) < lenI it by simp only [lenI]; omega))).trans ((val_yes (inR hk)).trans ((val_yes (fits8 it b ws hn (Nat.le_of_lt hk))).trans ((val_yes ?_).trans ?_)))
      · show ((itemAt it k).1 == 0 || bif (itemAt it k).1 == 2 then G_asm_isWide (ws, (k : Int)) else true) = true
        rw [h1]
        cases ((itemAt it k).1 == (0 : Int)) <;> cases ((itemAt it k).1 == (2 : Int)) <;> rfl
      · show some (TL.on (bif (itemAt it k).1 == 0 then w64 (posM it b ws k + V_thumb_Size (itemAt it k).2.2.1) else bif (itemAt it k).1 == 2 && V_asm_isWide (ws, (k : Int)) then w64 (posM it b ws k + 4) else bif (itemAt it k).1 == 2 then w64 (posM it b ws k + 2) else posM it b ws k, layTo it b ws k ++ [posM it b ws k], w64 ((k : Int) + 1))) = some (TL.on (posM it b ws (k + 1), layTo it b ws (k + 1), ((k + 1 : Nat) : Int)))
        rw [h2, w64_id (n := (k : Int) + 1) (by omega) (by omega), layTo_succ, w64_id (n := posM it b ws k + 4) (by omega) (by omega), w64_id (n := posM it b ws k + 2) (by omega) (by omega), w64_id (n := posM it b ws k + V_thumb_Size (itemAt it k).2.2.1) (by omega) (by omega)]
        have e : (bif (itemAt it k).1 == 0 then posM it b ws k + V_thumb_Size (itemAt it k).2.2.1 else bif (itemAt it k).1 == 2 && wd ws k then posM it b ws k + 4 else bif (itemAt it k).1 == 2 then posM it b ws k + 2 else posM it b ws k) = posM it b ws (k + 1) := by
          show _ = posM it b ws k + sizeJ (itemAt it k) (wd ws k)
          unfold sizeJ
          cases ((itemAt it k).1 == (0 : Int)) <;> cases ((itemAt it k).1 == (2 : Int)) <;> cases wd ws k <;> simp
        rw [e]
        rfl
    · exact (val_no (dec_false (show ¬ ((it.length : Nat) : Int) < lenI it by simp only [lenI]; omega))).trans rfl
  refine (val_yes ?_).trans ((val_opt hl).trans ((val_yes (fits8 it b ws hn (Nat.le_refl _))).trans ?_))
  · show roomOk (w64 (lenI it + 1)) 8 = true
    rw [w64_id (by simp only [lenI]; omega) (by simp only [lenI]; omega)]
    simp only [roomOk, lenI]
    simp
    omega
  · show some (layTo it b ws it.length ++ [posM it b ws it.length]) = _
    rw [layTo_succ]
    rfl
theorem alay_run : G_asm_Lay (it, b, ws) = true ∧ V_asm_Lay (it, b, ws) = layM it b ws := by
  have h := alay_val it b ws hn hb
  exact ⟨by unfold G_asm_Lay; rw [h]; rfl, by unfold V_asm_Lay PO.getO; rw [h]; rfl⟩
end
end Go.Av
/-! Loops that look for a first one; labels. -/
namespace Go.Av
open Go

/-- The first of the numbers below n that p holds of. -/
def firstP (p : Nat → Bool) : Nat → Option Nat
  | 0 => none
  | n + 1 => match firstP p n with
    | some j => some j
    | none => bif p n then some n else none
theorem firstP_some {p : Nat → Bool} : ∀ {n k : Nat}, firstP p n = some k → k < n ∧ p k = true ∧ ∀ i, i < k → p i = false
  | 0, _, h => by cases h
  | n + 1, k, h => by
    simp only [firstP] at h
    cases e : firstP p n with
    | some j =>
      rw [e] at h
      cases h
      obtain ⟨h1, h2⟩ := firstP_some e
      exact ⟨by omega, h2⟩
    | none =>
      rw [e] at h
      cases hp : p n with
      | false => rw [hp] at h; cases h
      | true =>
        rw [hp] at h
        cases h
        refine ⟨Nat.lt_succ_self _, hp, fun i hi => ?_⟩
        exact firstP_none e i hi
 where firstP_none {p : Nat → Bool} : ∀ {n : Nat}, firstP p n = none → ∀ i, i < n → p i = false
  | 0, _, _, h => absurd h (Nat.not_lt_zero _)
  | n + 1, h, i, hi => by
    simp only [firstP] at h
    cases e : firstP p n with
    | some j => rw [e] at h; cases h
    | none =>
      rw [e] at h
      cases hp : p n with
      | true => rw [hp] at h; cases h
      | false =>
        rcases Nat.lt_or_ge i n with h' | h'
        · exact firstP_none e i h'
        · rw [show i = n by omega]; exact hp
theorem firstP_none {p : Nat → Bool} {n : Nat} (h : firstP p n = none) : ∀ i, i < n → p i = false := firstP_some.firstP_none h
theorem firstP_congr {p q : Nat → Bool} : ∀ {n : Nat}, (∀ i, i < n → p i = q i) → firstP p n = firstP q n
  | 0, _ => rfl
  | n + 1, h => by
    simp only [firstP]
    rw [firstP_congr (fun i hi => h i (by omega)), h n (Nat.lt_succ_self n)]
theorem firstP_more {p : Nat → Bool} {n k : Nat} (h : firstP p n = some k) : ∀ {m : Nat}, n ≤ m → firstP p m = some k
  | 0, hm => by
    have : n = 0 := by omega
    subst this
    exact h
  | m + 1, hm => by
    rcases Nat.lt_or_ge m n with h' | h'
    · rw [show m + 1 = n by omega]; exact h
    · simp only [firstP]
      rw [firstP_more h h']
theorem scan_run {σ : Type} {turn : σ → PO (TL σ)} (st : Nat → σ) (p : Nat → Bool) (n : Nat) (e : Nat → Nat × σ) (r : Nat × σ)
    (hon : ∀ i, i < n → (∀ j, j < i → p j = false) → p i = false → (turn (st i)).val = some (.on (st (i + 1))))
    (hbad : ∀ i, i < n → (∀ j, j < i → p j = false) → p i = true → (turn (st i)).val = some (.out (e i).1 (e i).2))
    (hend : (∀ j, j < n → p j = false) → (turn (st n)).val = some (.out r.1 r.2)) (f : Nat) (hf : n < f) :
    runL turn f (st 0) = some (match firstP p n with
      | some k => e k
      | none => r) := by
  cases h : firstP p n with
  | some k =>
    obtain ⟨h1, h2, h3⟩ := firstP_some h
    exact runL_count st (e k) (n := k) (fun i hi => hon i (by omega) (fun j hj => h3 j (by omega)) (h3 i hi)) (hbad k h1 h3 h2) k 0 (by omega) f (by omega)
  | none =>
    have h3 := firstP_none h
    exact runL_count st r (n := n) (fun i hi => hon i hi (fun j hj => h3 j (by omega)) (h3 i hi)) (hend h3) n 0 (by omega) f hf

/-! ### Labels -/
theorem mget_mput (l : Int) (k v : Int) : ∀ m : List (Int × Int), mget (mput m k v) l = bif l == k then some v else mget m l
  | [] => by simp only [mput, mget]
  | (j, u) :: m => by
    simp only [mput]
    cases hk : (k == j)
    · simp only [cond_false, mget]
      rw [mget_mput l k v m]
      cases hl : (l == j)
      · rfl
      · cases hlk : (l == k)
        · rfl
        · have h1 : l = j := by simpa using hl
          have h2 : l = k := by simpa using hlk
          rw [← h1, ← h2] at hk
          simp at hk
    · have h1 : k = j := by simpa using hk
      subst h1
      simp only [cond_true, mget]
      cases (l == k) <;> rfl

def isLab (it : List tItem.den) (l : Int) (i : Nat) : Bool := (itemAt it i).1 == 1 && (itemAt it i).2.1 == l
/-- A label that has been there before. -/
def dupAt (it : List tItem.den) (i : Nat) : Bool := (itemAt it i).1 == 1 && (firstP (isLab it (itemAt it i).2.1) i).isSome
def mapTo (it : List tItem.den) : Nat → List (Int × Int)
  | 0 => []
  | k + 1 => bif (itemAt it k).1 == 1 then mput (mapTo it k) (itemAt it k).2.1 (k : Int) else mapTo it k
theorem map_get (it : List tItem.den) (l : Int) : ∀ n : Nat, (∀ i, i < n → dupAt it i = false) → mget (mapTo it n) l = (firstP (isLab it l) n).map fun k : Nat => (k : Int)
  | 0, _ => rfl
  | n + 1, h => by
    have ih := map_get it l n (fun i hi => h i (by omega))
    have hd := h n (Nat.lt_succ_self n)
    simp only [mapTo, firstP]
    unfold dupAt at hd
    cases h1 : ((itemAt it n).1 == (1 : Int))
    · have hl : isLab it l n = false := by unfold isLab; rw [h1]; rfl
      rw [hl, cond_false, ih]
      cases firstP (isLab it l) n <;> rfl
    · rw [h1, Bool.true_and] at hd
      rw [cond_true, mget_mput]
      cases h2 : (l == (itemAt it n).2.1)
      · have hl : isLab it l n = false := by
          unfold isLab
          have : ((itemAt it n).2.1 == l) = false := by
            rw [beq_eq_false_iff_ne] at h2 ⊢
            exact fun e => h2 e.symm
          rw [this, Bool.and_false]
        rw [hl, cond_false, ih]
        cases firstP (isLab it l) n <;> rfl
      · have e : l = (itemAt it n).2.1 := by simpa using h2
        subst e
        have hl : isLab it (itemAt it n).2.1 n = true := by
          unfold isLab
          rw [h1]
          simp
        cases hf : firstP (isLab it (itemAt it n).2.1) n with
        | some j => rw [hf] at hd; cases hd
        | none => rw [hl]; rfl

theorem find_run (it : List tItem.den) (l : Int) (hn : it.length ≤ 21000) : G_hauberkref04_find (it, l) = true ∧ V_hauberkref04_find (it, l) = (match firstP (isLab it l) it.length with
    | some k => (k : Int)
    | none => -1) := by
  have hl : LoopN.res L_hauberkref04_find_2 (it, l, 0, 0) () = some (match firstP (isLab it l) it.length with
      | some k => (1, ((k : Int), (k : Int)))
      | none => (0, (0, (it.length : Int)))) := by
    unfold LoopN.res
    refine scan_run (turn := L_hauberkref04_find_2.turn (it, l, 0, 0) ()) (fun i => ((0 : Int), (i : Int))) (isLab it l) it.length (fun k => (1, ((k : Int), (k : Int)))) (0, (0, (it.length : Int))) (fun i hi _ hp => ?_) (fun i hi _ hp => ?_) (fun _ => ?_) _ (Nat.lt_succ_self _)
    · refine (val_yes (dec_true (show (i : Int) < lenI it by simp only [lenI]; omega))).trans ((val_yes ?_).trans ((val_no hp).trans ?_))
      · show (inRange (i : Int) (List.length it) && bif (itemAt it i).1 == 1 then inRange (i : Int) (List.length it) else true) = true
        rw [inR hi]
        cases ((itemAt it i).1 == (1 : Int)) <;> rfl
      · dsimp only
        rw [w64_id (n := (i : Int) + 1) (by omega) (by omega)]
        rfl
    · refine (val_yes (dec_true (show (i : Int) < lenI it by simp only [lenI]; omega))).trans ((val_yes ?_).trans ((val_yes hp).trans rfl))
      show (inRange (i : Int) (List.length it) && bif (itemAt it i).1 == 1 then inRange (i : Int) (List.length it) else true) = true
      rw [inR hi]
      cases ((itemAt it i).1 == (1 : Int)) <;> rfl
    · exact (val_no (dec_false (show ¬ ((it.length : Nat) : Int) < lenI it by simp only [lenI]; omega))).trans rfl
  have hT : (T_hauberkref04_find (it, l)).val = some (match firstP (isLab it l) it.length with
      | some k => (k : Int)
      | none => -1) := by
    refine (val_opt hl).trans ?_
    cases firstP (isLab it l) it.length <;> rfl
  exact ⟨by unfold G_hauberkref04_find; rw [hT]; rfl, by unfold V_hauberkref04_find PO.getO; rw [hT]; rfl⟩
end Go.Av
/-! What is wrong with items: as the document says it. -/
namespace Go.Av
open Go

def badJ (it : List tItem.den) (i : Nat) : Bool := !V_asm_item (itemAt it i)
def chkAt (it : List tItem.den) (i : Nat) : Bool := (itemAt it i).1 == 0 && V_thumb_Check (itemAt it i).2.2.1 != 0
def missAt (it : List tItem.den) (i : Nat) : Bool := (itemAt it i).1 == 2 && (firstP (isLab it (itemAt it i).2.1) it.length).isNone
def allT (it : List tItem.den) : List Bool := List.replicate it.length true
def baseBad (b : Int) : Bool := decide (b < 0) || (decide (b > 262144) || Int.tmod b 2 != 0)
/-- What is wrong, or 0. -/
def codeM (it : List tItem.den) (b : Int) : Int := bif baseBad b then 2 else match firstP (badJ it) it.length with
  | some _ => 2
  | none => match firstP (chkAt it) it.length with
    | some k => V_thumb_Check (itemAt it k).2.2.1
    | none => match firstP (dupAt it) it.length with
      | some _ => 13
      | none => match firstP (missAt it) it.length with
        | some _ => 12
        | none => bif decide (posM it 0 (allT it) it.length > 262144) then 5 else 0

theorem branch_may (x : tIns.den) : V_asm_branch x = V_hauberkref04_may x := by
  obtain ⟨op, rd, rn, rm, ra, imm, cond, w, u⟩ := x
  show (T_asm_branch (op, rd, rn, rm, ra, imm, cond, w, u)).getO default = (bif op == 24 then cond == 0 || op == 25 && (decide (cond ≥ 0) && decide (cond ≤ 13)) else op == 25 && (decide (cond ≥ 0) && decide (cond ≤ 13)))
  by_cases h : op = 24
  · subst h
    show (cond == 0) = (cond == 0 || false)
    simp
  · have h1 : (op == 24) = false := by simpa using h
    by_cases h' : op = 25
    · subst h'
      rfl
    · have h2 : (op == 25) = false := by simpa using h'
      unfold T_asm_branch PO.getO
      simp only [PO.val, h1, h2, cond_false, Bool.false_and]
      rfl
theorem over_two (k : Int) (h0 : k ≠ 0) (h1 : k ≠ 1) (h2 : k ≠ 2) (h : ¬ k < 0) : k > 2 := by omega
theorem item_test (j : tItem.den) : (decide (j.1 < 0) || (decide (j.1 > 2) || j.1 == 2 && !V_hauberkref04_may j.2.2.1)) = !V_asm_item j := by
  obtain ⟨k, l, x, u⟩ := j
  rw [← branch_may]
  show (decide ((k : Int) < 0) || (decide ((k : Int) > 2) || (k : Int) == 2 && !V_asm_branch x)) = !((T_asm_item (k, l, x, u)).getO default)
  by_cases h0 : k = 0
  · subst h0; rfl
  by_cases h1 : k = 1
  · subst h1; rfl
  by_cases h2 : k = 2
  · subst h2; rfl
  · have e0 : (k == (0 : Int)) = false := by simpa using h0
    have e1 : (k == (1 : Int)) = false := by simpa using h1
    have e2 : (k == (2 : Int)) = false := by simpa using h2
    unfold T_asm_item PO.getO
    simp only [PO.val, e0, e1, e2, cond_false, Bool.false_and, Bool.or_false]
    by_cases hk : k < 0
    · simp [hk]
    · have := over_two k h0 h1 h2 hk
      simp [this]

section
variable (it : List tItem.den) (hn : it.length ≤ 21000)
include hn
theorem wrong4 : LoopN.res L_hauberkref04_wrong_4 (it, 0, 0) () = some (match firstP (badJ it) it.length with
    | some k => (1, (2, (k : Int)))
    | none => (0, (0, (it.length : Int)))) := by
  unfold LoopN.res
  have hg : ∀ i, i < it.length → (inRange (i : Int) (List.length it) && (decide ((itemAt it i).1 < 0) || inRange (i : Int) (List.length it) && (decide ((itemAt it i).1 > 2) || inRange (i : Int) (List.length it) && bif (itemAt it i).1 == 2 then inRange (i : Int) (List.length it) && true else true))) = true := fun i hi => by
    rw [inR hi]
    cases ((itemAt it i).1 == (2 : Int)) <;> simp
  refine scan_run (turn := L_hauberkref04_wrong_4.turn (it, 0, 0) ()) (fun i => ((0 : Int), (i : Int))) (badJ it) it.length (fun k => (1, (2, (k : Int)))) (0, (0, (it.length : Int))) (fun i hi _ hp => ?_) (fun i hi _ hp => ?_) (fun _ => ?_) _ (Nat.lt_succ_self _)
  · refine (val_yes (dec_true (show (i : Int) < lenI it by simp only [lenI]; omega))).trans ((val_yes (hg i hi)).trans ((val_no ((item_test _).trans hp)).trans ?_))
    dsimp only
    rw [w64_id (n := (i : Int) + 1) (by omega) (by omega)]
    rfl
  · exact (val_yes (dec_true (show (i : Int) < lenI it by simp only [lenI]; omega))).trans ((val_yes (hg i hi)).trans ((val_yes ((item_test _).trans hp)).trans rfl))
  · exact (val_no (dec_false (show ¬ ((it.length : Nat) : Int) < lenI it by simp only [lenI]; omega))).trans rfl

theorem wrong9 : LoopN.res L_hauberkref04_wrong_9 (it, 0, 0) () = some (match firstP (chkAt it) it.length with
    | some k => (1, (V_thumb_Check (itemAt it k).2.2.1, (k : Int)))
    | none => (0, (0, (it.length : Int)))) := by
  unfold LoopN.res
  have hg : ∀ i, i < it.length → (inRange (i : Int) (List.length it) && bif (itemAt it i).1 == 0 then inRange (i : Int) (List.length it) && G_hauberkref02_Check (itemAt it i).2.2.1 else true) = true := fun i hi => by
    rw [inR hi, check_ok]
    cases ((itemAt it i).1 == (0 : Int)) <;> rfl
  have ht : ∀ i, ((itemAt it i).1 == 0 && V_hauberkref02_Check (itemAt it i).2.2.1 != 0) = chkAt it i := fun i => by
    unfold chkAt
    rw [check_same]
  refine scan_run (turn := L_hauberkref04_wrong_9.turn (it, 0, 0) ()) (fun i => ((0 : Int), (i : Int))) (chkAt it) it.length (fun k => (1, (V_thumb_Check (itemAt it k).2.2.1, (k : Int)))) (0, (0, (it.length : Int))) (fun i hi _ hp => ?_) (fun i hi _ hp => ?_) (fun _ => ?_) _ (Nat.lt_succ_self _)
  · refine (val_yes (dec_true (show (i : Int) < lenI it by simp only [lenI]; omega))).trans ((val_yes (hg i hi)).trans ((val_no ((ht i).trans hp)).trans ?_))
    dsimp only
    rw [w64_id (n := (i : Int) + 1) (by omega) (by omega)]
    rfl
  · refine (val_yes (dec_true (show (i : Int) < lenI it by simp only [lenI]; omega))).trans ((val_yes (hg i hi)).trans ((val_yes ((ht i).trans hp)).trans ((val_yes ?_).trans ?_)))
    · show (inRange (i : Int) (List.length it) && G_hauberkref02_Check (itemAt it i).2.2.1) = true
      rw [inR hi, check_ok]
      rfl
    · show some (TL.out 1 (V_hauberkref02_Check (itemAt it i).2.2.1, (i : Int))) = _
      rw [← check_same]
      rfl
  · exact (val_no (dec_false (show ¬ ((it.length : Nat) : Int) < lenI it by simp only [lenI]; omega))).trans rfl

theorem wrong14 : LoopN.res L_hauberkref04_wrong_14 (it, 0, 0) () = some (match firstP (dupAt it) it.length with
    | some k => (1, (13, (k : Int)))
    | none => (0, (0, (it.length : Int)))) := by
  unfold LoopN.res
  have hg : ∀ i, i < it.length → (inRange (i : Int) (List.length it) && bif (itemAt it i).1 == 1 then inRange (i : Int) (List.length it) && G_hauberkref04_find (it, (itemAt it i).2.1) else true) = true := fun i hi => by
    rw [inR hi, (find_run it _ hn).1]
    cases ((itemAt it i).1 == (1 : Int)) <;> rfl
  have ht : ∀ i, i < it.length → ((itemAt it i).1 == 1 && V_hauberkref04_find (it, (itemAt it i).2.1) != (i : Int)) = dupAt it i := fun i hi => by
    unfold dupAt
    rw [(find_run it _ hn).2]
    cases h1 : ((itemAt it i).1 == (1 : Int))
    · rfl
    · cases hf : firstP (isLab it (itemAt it i).2.1) i with
      | some j =>
        obtain ⟨hj, _⟩ := firstP_some hf
        rw [firstP_more hf (Nat.le_of_lt hi)]
        show (true && ((j : Int) != (i : Int))) = true
        simp
        omega
      | none =>
        have hs : firstP (isLab it (itemAt it i).2.1) (i + 1) = some i := by
          simp only [firstP, hf]
          have : isLab it (itemAt it i).2.1 i = true := by unfold isLab; rw [h1]; simp
          rw [this]
          rfl
        rw [firstP_more hs hi]
        show (true && ((i : Int) != (i : Int))) = false
        simp
  refine scan_run (turn := L_hauberkref04_wrong_14.turn (it, 0, 0) ()) (fun i => ((0 : Int), (i : Int))) (dupAt it) it.length (fun k => (1, (13, (k : Int)))) (0, (0, (it.length : Int))) (fun i hi _ hp => ?_) (fun i hi _ hp => ?_) (fun _ => ?_) _ (Nat.lt_succ_self _)
  · refine (val_yes (dec_true (show (i : Int) < lenI it by simp only [lenI]; omega))).trans ((val_yes (hg i hi)).trans ((val_no ((ht i hi).trans hp)).trans ?_))
    dsimp only
    rw [w64_id (n := (i : Int) + 1) (by omega) (by omega)]
    rfl
  · exact (val_yes (dec_true (show (i : Int) < lenI it by simp only [lenI]; omega))).trans ((val_yes (hg i hi)).trans ((val_yes ((ht i hi).trans hp)).trans rfl))
  · exact (val_no (dec_false (show ¬ ((it.length : Nat) : Int) < lenI it by simp only [lenI]; omega))).trans rfl

omit hn in
theorem wd_allT {i : Nat} (hi : i < it.length) : wd (allT it) i = true := by
  unfold wd allT
  rw [List.getD_eq_getElem?_getD, List.getElem?_replicate, if_pos hi]
  rfl

theorem wrong20 : LoopN.res L_hauberkref04_wrong_20 (it, 0, 0, 0) () = some (match firstP (missAt it) it.length with
    | some k => (1, (12, posM it 0 (allT it) k + 4, (k : Int)))
    | none => (0, (0, posM it 0 (allT it) it.length, (it.length : Int)))) := by
  unfold LoopN.res
  have hpos : ∀ i, i < it.length → 0 ≤ posM it 0 (allT it) i ∧ posM it 0 (allT it) i ≤ 84000 := fun i hi => by
    have := pos_bound it 0 (allT it) i
    omega
  have ht : ∀ i, (itemAt it i).1 = 2 → decide (V_hauberkref04_find (it, (itemAt it i).2.1) < 0) = missAt it i := fun i h2 => by
    unfold missAt
    rw [(find_run it _ hn).2, show ((itemAt it i).1 == (2 : Int)) = true from beq_iff_eq.2 h2]
    cases firstP (isLab it (itemAt it i).2.1) it.length with
    | some k =>
      show decide (((k : Nat) : Int) < 0) = false
      exact dec_false (by omega)
    | none => rfl
  refine scan_run (turn := L_hauberkref04_wrong_20.turn (it, 0, 0, 0) ()) (fun i => ((0 : Int), posM it 0 (allT it) i, (i : Int))) (missAt it) it.length (fun k => (1, (12, posM it 0 (allT it) k + 4, (k : Int)))) (0, (0, posM it 0 (allT it) it.length, (it.length : Int))) (fun i hi _ hp => ?_) (fun i hi _ hp => ?_) (fun _ => ?_) _ (Nat.lt_succ_self _)
  · have hb := hpos i hi
    refine (val_yes (dec_true (show (i : Int) < lenI it by simp only [lenI]; omega))).trans ((val_yes (inR hi)).trans ?_)
    have hpe : posM it 0 (allT it) (i + 1) = posM it 0 (allT it) i + sizeJ (itemAt it i) true := by
      show posM it 0 (allT it) i + sizeJ (itemAt it i) (wd (allT it) i) = _
      rw [wd_allT it hi]
    by_cases h2 : (itemAt it i).1 = 2
    · refine (val_yes (show ((itemAt it i).1 == (2 : Int)) = true from beq_iff_eq.2 h2)).trans ((val_yes ?_).trans ((val_no ((ht i h2).trans hp)).trans ?_))
      · show (inRange (i : Int) (List.length it) && G_hauberkref04_find (it, (itemAt it i).2.1)) = true
        rw [inR hi, (find_run it _ hn).1]
        rfl
      · dsimp only
        have hs : sizeJ (itemAt it i) true = 4 := by
          unfold sizeJ
          rw [h2]
          rfl
        rw [w64_id (n := (i : Int) + 1) (by omega) (by omega), w64_id (n := posM it 0 (allT it) i + 4) (by omega) (by omega), hpe, hs]
        rfl
    · obtain ⟨g1, g2⟩ := rsize_run it [] i hi
      have hs : sizeJ (itemAt it i) (wd [] i) = sizeJ (itemAt it i) true := by
        unfold sizeJ
        rw [show ((itemAt it i).1 == (2 : Int)) = false from beq_eq_false_iff_ne.2 h2]
        rfl
      have h4 := sizeJ_bound (itemAt it i) true
      refine (val_no (show ((itemAt it i).1 == (2 : Int)) = false from beq_eq_false_iff_ne.2 h2)).trans ((val_yes g1).trans ?_)
      dsimp only
      rw [g2, hs, w64_id (n := (i : Int) + 1) (by omega) (by omega), w64_id (n := posM it 0 (allT it) i + sizeJ (itemAt it i) true) (by omega) (by omega), hpe]
      rfl
  · have hb := hpos i hi
    have h2 : (itemAt it i).1 = 2 := by
      unfold missAt at hp
      simp only [Bool.and_eq_true, beq_iff_eq] at hp
      exact hp.1
    refine (val_yes (dec_true (show (i : Int) < lenI it by simp only [lenI]; omega))).trans ((val_yes (inR hi)).trans ((val_yes (show ((itemAt it i).1 == (2 : Int)) = true from beq_iff_eq.2 h2)).trans ((val_yes ?_).trans ((val_yes ((ht i h2).trans hp)).trans ?_))))
    · show (inRange (i : Int) (List.length it) && G_hauberkref04_find (it, (itemAt it i).2.1)) = true
      rw [inR hi, (find_run it _ hn).1]
      rfl
    · dsimp only
      rw [w64_id (n := posM it 0 (allT it) i + 4) (by omega) (by omega)]
      rfl
  · exact (val_no (dec_false (show ¬ ((it.length : Nat) : Int) < lenI it by simp only [lenI]; omega))).trans rfl

theorem wrong_val (b : Int) : (T_hauberkref04_wrong (it, b)).val = some (codeM it b) := by
  unfold codeM
  cases hb : baseBad b
  · refine (val_no hb).trans ((val_opt (wrong4 it hn)).trans ?_)
    rw [cond_false]
    cases firstP (badJ it) it.length with
    | some k => rfl
    | none =>
      refine (val_yes rfl).trans ((val_opt (wrong9 it hn)).trans ?_)
      cases firstP (chkAt it) it.length with
      | some k => rfl
      | none =>
        refine (val_yes rfl).trans ((val_opt (wrong14 it hn)).trans ?_)
        cases firstP (dupAt it) it.length with
        | some k => rfl
        | none =>
          refine (val_yes rfl).trans ((val_opt (wrong20 it hn)).trans ?_)
          cases firstP (missAt it) it.length with
          | some k => rfl
          | none =>
            refine (val_yes rfl).trans ?_
            dsimp only
            cases hg : decide (posM it 0 (allT it) it.length > 262144)
            · rfl
            · rfl
  · exact (val_yes hb).trans rfl
theorem wrong_run (b : Int) : G_hauberkref04_wrong (it, b) = true ∧ V_hauberkref04_wrong (it, b) = codeM it b := by
  have h := wrong_val it hn b
  exact ⟨by unfold G_hauberkref04_wrong; rw [h]; rfl, by unfold V_hauberkref04_wrong PO.getO; rw [h]; rfl⟩
end
end Go.Av
/-! What is wrong with items: the program's check. -/
namespace Go.Av
open Go

section
variable (it : List tItem.den) (b : Int) (w : (Nat × Nat) × Unit) (zs : List Bool) (hn : it.length ≤ 21000)
include hn
/-- What the items alone tell. -/
def codeI (it : List tItem.den) : Int := match firstP (badJ it) it.length with
  | some _ => 2
  | none => match firstP (chkAt it) it.length with
    | some k => V_thumb_Check (itemAt it k).2.2.1
    | none => 0
def codeN (it : List tItem.den) : Int := match firstP (dupAt it) it.length with
  | some _ => 13
  | none => match firstP (missAt it) it.length with
    | some _ => 12
    | none => 0
theorem items2 (m : List (Int × Int)) : LoopN.res L_asm_assembler_items_2 ((), 0, it, lenI it, 0) ((it, b, (), w), m, zs) = some (match firstP (badJ it) it.length with
    | some k => (1, (2, (k : Int), (it, b, (), w), m, zs))
    | none => (0, (0, (it.length : Int), (it, b, (), w), m, zs))) := by
  unfold LoopN.res
  refine scan_run (turn := L_asm_assembler_items_2.turn ((), 0, it, lenI it, 0) ((it, b, (), w), m, zs)) (fun i => ((0 : Int), (i : Int), (it, b, (), w), m, zs)) (badJ it) it.length (fun k => (1, (2, (k : Int), (it, b, (), w), m, zs))) (0, (0, (it.length : Int), (it, b, (), w), m, zs)) (fun i hi _ hp => ?_) (fun i hi _ hp => ?_) (fun _ => ?_) _ (Nat.lt_succ_self _)
  · refine (val_yes (dec_true (show (i : Int) < lenI it by simp only [lenI]; omega))).trans ((val_yes (inR hi)).trans ((val_no hp).trans ?_))
    dsimp only
    rw [w64_id (n := (i : Int) + 1) (by omega) (by omega)]
    rfl
  · exact (val_yes (dec_true (show (i : Int) < lenI it by simp only [lenI]; omega))).trans ((val_yes (inR hi)).trans ((val_yes hp).trans rfl))
  · exact (val_no (dec_false (show ¬ ((it.length : Nat) : Int) < lenI it by simp only [lenI]; omega))).trans rfl

theorem items8 : LoopN.res L_asm_assembler_items_8 (0, it, lenI it, 0) () = some (match firstP (chkAt it) it.length with
    | some k => (1, (V_thumb_Check (itemAt it k).2.2.1, (k : Int)))
    | none => (0, (0, (it.length : Int)))) := by
  unfold LoopN.res
  refine scan_run (turn := L_asm_assembler_items_8.turn (0, it, lenI it, 0) ()) (fun i => ((0 : Int), (i : Int))) (chkAt it) it.length (fun k => (1, (V_thumb_Check (itemAt it k).2.2.1, (k : Int)))) (0, (0, (it.length : Int))) (fun i hi _ hp => ?_) (fun i hi _ hp => ?_) (fun _ => ?_) _ (Nat.lt_succ_self _)
  · refine (val_yes (dec_true (show (i : Int) < lenI it by simp only [lenI]; omega))).trans ((val_yes (inR hi)).trans ?_)
    unfold chkAt at hp
    cases h0 : ((itemAt it i).1 == (0 : Int))
    · refine (val_yes (show ((itemAt it i).1 != (0 : Int)) = true by unfold bne; rw [h0]; rfl)).trans ?_
      dsimp only
      rw [w64_id (n := (i : Int) + 1) (by omega) (by omega)]
      rfl
    · rw [h0, Bool.true_and] at hp
      refine (val_no (show ((itemAt it i).1 != (0 : Int)) = false by unfold bne; rw [h0]; rfl)).trans ((val_no hp).trans ?_)
      dsimp only
      rw [w64_id (n := (i : Int) + 1) (by omega) (by omega)]
      rfl
  · unfold chkAt at hp
    rw [Bool.and_eq_true] at hp
    exact (val_yes (dec_true (show (i : Int) < lenI it by simp only [lenI]; omega))).trans ((val_yes (inR hi)).trans ((val_no (show ((itemAt it i).1 != (0 : Int)) = false by unfold bne; rw [hp.1]; rfl)).trans ((val_yes hp.2).trans rfl)))
  · exact (val_no (dec_false (show ¬ ((it.length : Nat) : Int) < lenI it by simp only [lenI]; omega))).trans rfl

theorem items_ok (m : List (Int × Int)) : G_asm_assembler_items () ((it, b, (), w), m, zs) = true ∧ V_asm_assembler_items () ((it, b, (), w), m, zs) = (codeI it, (it, b, (), w), m, zs) := by
  have h : (T_asm_assembler_items () ((it, b, (), w), m, zs)).val = some (codeI it, (it, b, (), w), m, zs) := by
    refine (val_opt (items2 it b w zs hn m)).trans ?_
    unfold codeI
    cases firstP (badJ it) it.length with
    | some k => rfl
    | none =>
      refine (val_yes rfl).trans ((val_opt (items8 it hn)).trans ?_)
      cases firstP (chkAt it) it.length with
      | some k => rfl
      | none => rfl
  exact ⟨by unfold G_asm_assembler_items; rw [h]; rfl, by unfold V_asm_assembler_items PO.getO; rw [h]; rfl⟩

theorem names2 : LoopN.res L_asm_assembler_names_2 ((), 0, it, lenI it, 0) ((it, b, (), w), [], zs) = some (match firstP (dupAt it) it.length with
    | some k => (1, (13, (k : Int), (it, b, (), w), mapTo it k, zs))
    | none => (0, (0, (it.length : Int), (it, b, (), w), mapTo it it.length, zs))) := by
  unfold LoopN.res
  refine scan_run (turn := L_asm_assembler_names_2.turn ((), 0, it, lenI it, 0) ((it, b, (), w), [], zs)) (fun i => ((0 : Int), (i : Int), (it, b, (), w), mapTo it i, zs)) (dupAt it) it.length (fun k => (1, (13, (k : Int), (it, b, (), w), mapTo it k, zs))) (0, (0, (it.length : Int), (it, b, (), w), mapTo it it.length, zs)) (fun i hi hb hp => ?_) (fun i hi hb hp => ?_) (fun _ => ?_) _ (Nat.lt_succ_self _)
  · refine (val_yes (dec_true (show (i : Int) < lenI it by simp only [lenI]; omega))).trans ((val_yes (inR hi)).trans ?_)
    unfold dupAt at hp
    cases h1 : ((itemAt it i).1 == (1 : Int))
    · refine (val_yes (show ((itemAt it i).1 != (1 : Int)) = true by unfold bne; rw [h1]; rfl)).trans ?_
      dsimp only
      have hm : mapTo it (i + 1) = mapTo it i := by simp only [mapTo, h1, cond_false]
      rw [w64_id (n := (i : Int) + 1) (by omega) (by omega), hm]
      rfl
    · rw [h1, Bool.true_and] at hp
      refine (val_no (show ((itemAt it i).1 != (1 : Int)) = false by unfold bne; rw [h1]; rfl)).trans ((val_no ?_).trans ?_)
      · show mhas (mapTo it i) (itemAt it i).2.1 = false
        unfold mhas
        rw [map_get it _ i hb, Option.isSome_map]
        exact hp
      · dsimp only
        have hm : mapTo it (i + 1) = mput (mapTo it i) (itemAt it i).2.1 (i : Int) := by simp only [mapTo, h1, cond_true]
        rw [w64_id (n := (i : Int) + 1) (by omega) (by omega), hm]
        rfl
  · unfold dupAt at hp
    rw [Bool.and_eq_true] at hp
    refine (val_yes (dec_true (show (i : Int) < lenI it by simp only [lenI]; omega))).trans ((val_yes (inR hi)).trans ((val_no (show ((itemAt it i).1 != (1 : Int)) = false by unfold bne; rw [hp.1]; rfl)).trans ((val_yes ?_).trans rfl)))
    show mhas (mapTo it i) (itemAt it i).2.1 = true
    unfold mhas
    rw [map_get it _ i hb, Option.isSome_map]
    exact hp.2
  · exact (val_no (dec_false (show ¬ ((it.length : Nat) : Int) < lenI it by simp only [lenI]; omega))).trans rfl

theorem names11 (hd : ∀ i, i < it.length → dupAt it i = false) : LoopN.res L_asm_assembler_names_11 ((), 0, it, lenI it, 0) ((it, b, (), w), mapTo it it.length, zs) = some (match firstP (missAt it) it.length with
    | some k => (1, (12, (k : Int), (it, b, (), w), mapTo it it.length, zs))
    | none => (0, (0, (it.length : Int), (it, b, (), w), mapTo it it.length, zs))) := by
  unfold LoopN.res
  have ht : ∀ i, ((itemAt it i).1 == 2 && !mhas (mapTo it it.length) (itemAt it i).2.1) = missAt it i := fun i => by
    unfold missAt mhas
    rw [map_get it _ it.length hd, Option.isSome_map]
    cases firstP (isLab it (itemAt it i).2.1) it.length <;> rfl
  refine scan_run (turn := L_asm_assembler_names_11.turn ((), 0, it, lenI it, 0) ((it, b, (), w), mapTo it it.length, zs)) (fun i => ((0 : Int), (i : Int), (it, b, (), w), mapTo it it.length, zs)) (missAt it) it.length (fun k => (1, (12, (k : Int), (it, b, (), w), mapTo it it.length, zs))) (0, (0, (it.length : Int), (it, b, (), w), mapTo it it.length, zs)) (fun i hi _ hp => ?_) (fun i hi _ hp => ?_) (fun _ => ?_) _ (Nat.lt_succ_self _)
  · refine (val_yes (dec_true (show (i : Int) < lenI it by simp only [lenI]; omega))).trans ((val_yes (inR hi)).trans ((val_no ((ht i).trans hp)).trans ?_))
    dsimp only
    rw [w64_id (n := (i : Int) + 1) (by omega) (by omega)]
    rfl
  · exact (val_yes (dec_true (show (i : Int) < lenI it by simp only [lenI]; omega))).trans ((val_yes (inR hi)).trans ((val_yes ((ht i).trans hp)).trans rfl))
  · exact (val_no (dec_false (show ¬ ((it.length : Nat) : Int) < lenI it by simp only [lenI]; omega))).trans rfl

theorem names_ok : ∃ m, G_asm_assembler_names () ((it, b, (), w), [], zs) = true ∧ V_asm_assembler_names () ((it, b, (), w), [], zs) = (codeN it, (it, b, (), w), m, zs) ∧ (codeN it = 0 → m = mapTo it it.length) := by
  have h : ∃ m, (T_asm_assembler_names () ((it, b, (), w), [], zs)).val = some (codeN it, (it, b, (), w), m, zs) ∧ (codeN it = 0 → m = mapTo it it.length) := by
    have e2 := names2 it b w zs hn
    unfold codeN
    cases hf : firstP (dupAt it) it.length with
    | some k =>
      rw [hf] at e2
      exact ⟨mapTo it k, (val_opt e2).trans rfl, fun h => by cases h⟩
    | none =>
      rw [hf] at e2
      have e11 := names11 it b w zs hn (firstP_none hf)
      refine ⟨mapTo it it.length, (val_opt e2).trans ((val_yes rfl).trans ((val_opt e11).trans ?_)), fun _ => rfl⟩
      cases firstP (missAt it) it.length with
      | some k => rfl
      | none => rfl
  obtain ⟨m, h, hm⟩ := h
  exact ⟨m, by unfold G_asm_assembler_names; rw [h]; rfl, by unfold V_asm_assembler_names PO.getO; rw [h]; rfl, hm⟩

theorem great3 (m : List (Int × Int)) : LoopN.res L_asm_assembler_great_3 ((), (0, it.length), (it.length : Int), 0) ((it, b, (), w), List.replicate it.length false, m, zs) = some (0, ((it.length : Int), (it, b, (), w), List.replicate it.length true, m, zs)) := by
  unfold LoopN.res
  have hlen : (List.replicate it.length false).length = it.length := by simp
  have key := runL_count (turn := L_asm_assembler_great_3.turn ((), (0, it.length), (it.length : Int), 0) ((it, b, (), w), List.replicate it.length false, m, zs)) (fun k => ((k : Int), (it, b, (), w), List.replicate k true ++ List.replicate (it.length - k) false, m, zs)) (0, ((it.length : Int), (it, b, (), w), List.replicate it.length true, m, zs)) (n := it.length) (fun k hk => ?_) ?_ it.length 0 (by omega) (List.length (List.replicate it.length false) + 1) (by simp)
  · exact key
  · refine (val_yes (dec_true (show (k : Int) < (it.length : Int) by omega))).trans ((val_yes (inR hk)).trans ?_)
    dsimp only
    have hs : List.set (List.replicate k true ++ List.replicate (it.length - k) false) (nplus 0 (k : Int)) true = List.replicate (k + 1) true ++ List.replicate (it.length - (k + 1)) false := by
      unfold nplus
      rw [Int.toNat_natCast, Nat.zero_add, List.set_append_right _ _ (by simp), List.length_replicate, Nat.sub_self]
      obtain ⟨r, hr⟩ : ∃ r, it.length - k = r + 1 := ⟨it.length - k - 1, by omega⟩
      rw [hr, List.replicate_succ, List.set_cons_zero, show it.length - (k + 1) = r by omega, List.replicate_succ', List.append_assoc]
      rfl
    rw [hs, w64_id (n := (k : Int) + 1) (by omega) (by omega)]
    rfl
  · refine (val_no (dec_false (show ¬ ((it.length : Nat) : Int) < (it.length : Int) by omega))).trans ?_
    dsimp only
    rw [Nat.sub_self]
    simp
    rfl

theorem great_ok (m : List (Int × Int)) : G_asm_assembler_great () ((it, b, (), w), m, zs) = true ∧ V_asm_assembler_great () ((it, b, (), w), m, zs) = (decide (posM it 0 (allT it) it.length > 262144), (it, b, (), w), m, zs) := by
  have e1 : nspan 0 (lenI it) = it.length := by simp [nspan, lenI]
  have e2 : zeros (lenI it) false = List.replicate it.length false := by simp [zeros, lenI]
  have e3 : shown (List.replicate it.length true) (0, it.length) = allT it := by simp [shown, allT]
  obtain ⟨l1, l2⟩ := alay_run it 0 (allT it) hn (by omega)
  have hlen : (layM it 0 (allT it)).length = it.length + 1 := layTo_len _ _ _ _
  have hget : List.getD (layM it 0 (allT it)) it.length 0 = posM it 0 (allT it) it.length := by
    unfold layM layTo
    rw [List.getD_eq_getElem?_getD, List.getElem?_map, List.getElem?_range (Nat.lt_succ_self _)]
    rfl
  have h : (T_asm_assembler_great () ((it, b, (), w), m, zs)).val = some (decide (posM it 0 (allT it) it.length > 262144), (it, b, (), w), m, zs) := by
    unfold T_asm_assembler_great
    dsimp only
    rw [e1, e2]
    refine (val_yes ?_).trans ((val_opt (great3 it b w zs hn m)).trans ?_)
    · simp only [roomOk, lenI]
      simp
      omega
    · dsimp only
      rw [e3, l1, l2, hlen]
      refine (val_yes ?_).trans ?_
      · rw [Bool.true_and]
        exact inR (Nat.lt_succ_self _)
      · show some (decide (List.getD (layM it 0 (allT it)) (Int.toNat (it.length : Int)) 0 > 262144), (it, b, (), w), m, zs) = _
        rw [Int.toNat_natCast, hget]
  exact ⟨by unfold G_asm_assembler_great; rw [h]; rfl, by unfold V_asm_assembler_great PO.getO; rw [h]; rfl⟩

theorem check_ran : ∃ m, G_asm_assembler_check () ((it, b, (), w), [], zs) = true ∧ V_asm_assembler_check () ((it, b, (), w), [], zs) = (codeM it b, (it, b, (), w), m, zs) ∧ (codeM it b = 0 → m = mapTo it it.length) := by
  have h : ∃ m, (T_asm_assembler_check () ((it, b, (), w), [], zs)).val = some (codeM it b, (it, b, (), w), m, zs) ∧ (codeM it b = 0 → m = mapTo it it.length) := by
    obtain ⟨i1, i2⟩ := items_ok it b w zs hn []
    obtain ⟨m, n1, n2, n3⟩ := names_ok it b w zs hn
    obtain ⟨g1, g2⟩ := great_ok it b w zs hn m
    unfold T_asm_assembler_check
    dsimp only
    rw [i2]
    dsimp only
    rw [n2]
    dsimp only
    rw [g2]
    dsimp only
    have hbase : (decide (b < 0) || (decide (b > 262144) || band IntKind.i64 b 1 != 0)) = baseBad b := by
      unfold baseBad
      rw [even_i64]
    cases hb : baseBad b
    · have hc : codeM it b = bif codeI it != 0 then codeI it else bif codeN it != 0 then codeN it else bif decide (posM it 0 (allT it) it.length > 262144) then 5 else 0 := by
        unfold codeM codeI codeN
        rw [hb, cond_false]
        cases firstP (badJ it) it.length with
        | some k => rfl
        | none =>
          cases hf : firstP (chkAt it) it.length with
          | some k =>
            obtain ⟨_, hk, _⟩ := firstP_some hf
            unfold chkAt at hk
            rw [Bool.and_eq_true] at hk
            dsimp only
            rw [hk.2]
            rfl
          | none =>
            cases firstP (dupAt it) it.length with
            | some k => rfl
            | none =>
              cases firstP (missAt it) it.length with
              | some k => rfl
              | none => rfl
      rw [hc]
      cases hi : (codeI it != 0)
      · cases hm : (codeN it != 0)
        · have hn0 : codeN it = 0 := by simpa using hm
          refine ⟨m, (val_no (hbase.trans hb)).trans ((val_yes i1).trans ((val_no rfl).trans ((val_yes n1).trans ((val_no rfl).trans ((val_yes g1).trans ?_))))), fun _ => n3 hn0⟩
          cases hg : decide (posM it 0 (allT it) it.length > 262144) <;> rfl
        · exact ⟨m, (val_no (hbase.trans hb)).trans ((val_yes i1).trans ((val_no rfl).trans ((val_yes n1).trans ((val_yes rfl).trans rfl)))), fun h => by
            rw [cond_false, cond_true] at h
            rw [h] at hm
            cases hm⟩
      · exact ⟨[], (val_no (hbase.trans hb)).trans ((val_yes i1).trans ((val_yes rfl).trans rfl)), fun h => by
          rw [cond_true] at h
          rw [h] at hi
          cases hi⟩
    · have hc : codeM it b = 2 := by
        unfold codeM
        rw [hb]
        rfl
      rw [hc]
      exact ⟨[], (val_yes (hbase.trans hb)).trans rfl, fun h => by cases h⟩
  obtain ⟨m, h, hm⟩ := h
  exact ⟨m, by unfold G_asm_assembler_check; rw [h]; rfl, by unfold V_asm_assembler_check PO.getO; rw [h]; rfl, hm⟩
end
end Go.Av
/-! Branches made wide: one pass. -/
namespace Go.Av
open Go

theorem reach_eq (op : Int) (w : Bool) : V_thumb_Reach (op, w) = V_hauberkref02_Reach (op, w) := by
  simp only [V_thumb_Reach, T_thumb_Reach, V_hauberkref02_Reach, T_hauberkref02_Reach, PO.getO, PO.val]
  cases op == 24
  · cases op == 25
    · rfl
    · cases w <;> rfl
  · cases w <;> rfl
def cntT : List Bool → Nat
  | [] => 0
  | x :: l => (bif x then 1 else 0) + cntT l
theorem cntT_le : ∀ l : List Bool, cntT l ≤ l.length
  | [] => Nat.le_refl _
  | x :: l => by
    have := cntT_le l
    simp only [cntT, List.length_cons]
    cases x <;> simp only [cond_true, cond_false] <;> omega
theorem cntT_set : ∀ (l : List Bool) (i : Nat), i < l.length → wd l i = false → cntT (l.set i true) = cntT l + 1
  | [], _, h, _ => absurd h (Nat.not_lt_zero _)
  | x :: l, 0, _, h => by
    have : x = false := h
    subst this
    simp only [List.set_cons_zero, cntT, cond_true, cond_false]
    omega
  | x :: l, i + 1, h, hw => by
    have h1 : i < l.length := by simpa using h
    have h2 : wd l i = false := hw
    simp only [List.set_cons_succ, cntT]
    rw [cntT_set l i h1 h2]
    omega

def tgt (it : List tItem.den) (i : Nat) : Nat := (firstP (isLab it (itemAt it i).2.1) it.length).getD 0
def offM (it : List tItem.den) (b : Int) (ws : List Bool) (i : Nat) : Int := posM it b ws (tgt it i) - posM it b ws i - 4
def outR (it : List tItem.den) (b : Int) (ws : List Bool) (i : Nat) : Bool := decide (offM it b ws i < (V_thumb_Reach ((itemAt it i).2.2.1.1, false)).1) || decide (offM it b ws i > (V_thumb_Reach ((itemAt it i).2.2.1.1, false)).2.1)
/-- A pass, up to an item. -/
def passTo (it : List tItem.den) (b : Int) (ws0 : List Bool) : Nat → Bool × List Bool
  | 0 => (false, ws0)
  | i + 1 => bif (itemAt it i).1 != 2 || wd (passTo it b ws0 i).2 i then passTo it b ws0 i else bif outR it b ws0 i then (true, (passTo it b ws0 i).2.set i true) else passTo it b ws0 i
theorem pass_len (it : List tItem.den) (b : Int) (ws0 : List Bool) : ∀ i, (passTo it b ws0 i).2.length = ws0.length
  | 0 => rfl
  | i + 1 => by
    have ih := pass_len it b ws0 i
    simp only [passTo]
    cases ((itemAt it i).1 != (2 : Int) || wd (passTo it b ws0 i).2 i)
    · cases outR it b ws0 i
      · exact ih
      · simp only [cond_true, cond_false, List.length_set]; exact ih
    · exact ih
theorem pass_cnt (it : List tItem.den) (b : Int) (ws0 : List Bool) : ∀ i, i ≤ ws0.length → cntT ws0 + (bif (passTo it b ws0 i).1 then 1 else 0) ≤ cntT (passTo it b ws0 i).2
  | 0, _ => Nat.le_refl _
  | i + 1, hi => by
    have ih := pass_cnt it b ws0 i (by omega)
    have hl := pass_len it b ws0 i
    simp only [passTo]
    cases h1 : ((itemAt it i).1 != (2 : Int) || wd (passTo it b ws0 i).2 i)
    · cases outR it b ws0 i
      · exact ih
      · rw [Bool.or_eq_false_iff] at h1
        simp only [cond_true, cond_false]
        rw [cntT_set _ i (by omega) h1.2]
        omega
    · exact ih
theorem pass_same (it : List tItem.den) (b : Int) (ws0 : List Bool) : ∀ i, (passTo it b ws0 i).1 = false → (passTo it b ws0 i).2 = ws0
  | 0, _ => rfl
  | i + 1, h => by
    have ih := pass_same it b ws0 i
    simp only [passTo] at h ⊢
    cases h1 : ((itemAt it i).1 != (2 : Int) || wd (passTo it b ws0 i).2 i) <;> rw [h1] at h
    · cases h2 : outR it b ws0 i <;> rw [h2] at h
      · exact ih h
      · cases h
    · exact ih h

section
variable (it : List tItem.den) (b : Int) (ws : List Bool) (hn : it.length ≤ 21000) (hb : 0 ≤ b ∧ b ≤ 262144) (hm : ∀ i, i < it.length → missAt it i = false)
include hn hb
omit hn hb in
theorem lay_len : (layM it b ws).length = it.length + 1 := layTo_len _ _ _ _
omit hn hb in
theorem lay_get {i : Nat} (hi : i ≤ it.length) : List.getD (layM it b ws) i 0 = posM it b ws i := by
  unfold layM layTo
  rw [List.getD_eq_getElem?_getD, List.getElem?_map, List.getElem?_range (Nat.lt_succ_of_le hi)]
  rfl
omit hb in
theorem off_w64 {i k : Nat} (hi : i < it.length) (hk : k < it.length) : w64 (w64 (posM it b ws k - posM it b ws i) - 4) = posM it b ws k - posM it b ws i - 4 := by
  have h1 := pos_bound it b ws i
  have h2 := pos_bound it b ws k
  rw [w64_id (n := posM it b ws k - posM it b ws i) (by omega) (by omega), w64_id (by omega) (by omega)]

include hm
omit hn hb in
theorem tgt_some {i : Nat} (hi : i < it.length) (h2 : ((itemAt it i).1 != (2 : Int)) = false) : firstP (isLab it (itemAt it i).2.1) it.length = some (tgt it i) ∧ tgt it i < it.length := by
  have h := hm i hi
  unfold missAt at h
  have h2' : ((itemAt it i).1 == (2 : Int)) = true := by
    unfold bne at h2
    simpa using h2
  rw [h2', Bool.true_and] at h
  cases hf : firstP (isLab it (itemAt it i).2.1) it.length with
  | none => rw [hf] at h; cases h
  | some k =>
    have : tgt it i = k := by unfold tgt; rw [hf]; rfl
    rw [this]
    exact ⟨rfl, (firstP_some hf).1⟩

omit hb in
theorem roff_run {i : Nat} (hi : i < it.length) (h2 : ((itemAt it i).1 != (2 : Int)) = false) : G_hauberkref04_offset (it, layM it b ws, (i : Int)) = true ∧ V_hauberkref04_offset (it, layM it b ws, (i : Int)) = offM it b ws i := by
  obtain ⟨t1, t2⟩ := tgt_some it hm hi h2
  obtain ⟨f1, f2⟩ := find_run it (itemAt it i).2.1 hn
  rw [t1] at f2
  have h : (T_hauberkref04_offset (it, layM it b ws, (i : Int))).val = some (offM it b ws i) := by
    refine (val_yes ?_).trans ?_
    · show (inRange (i : Int) (List.length it) && (G_hauberkref04_find (it, (itemAt it i).2.1) && (inRange (V_hauberkref04_find (it, (itemAt it i).2.1)) (List.length (layM it b ws)) && inRange (i : Int) (List.length (layM it b ws))))) = true
      rw [f1, f2, inR hi, lay_len, inR (show i < it.length + 1 by omega)]
      show (true && (true && (inRange ((tgt it i : Nat) : Int) (it.length + 1) && true))) = true
      rw [inR (show tgt it i < it.length + 1 by omega)]
      rfl
    · show some (w64 (w64 (List.getD (layM it b ws) (Int.toNat (V_hauberkref04_find (it, (itemAt it i).2.1))) 0 - List.getD (layM it b ws) (Int.toNat (i : Int)) 0) - 4)) = _
      rw [f2]
      show some (w64 (w64 (List.getD (layM it b ws) (Int.toNat ((tgt it i : Nat) : Int)) 0 - List.getD (layM it b ws) (Int.toNat (i : Int)) 0) - 4)) = _
      rw [Int.toNat_natCast, Int.toNat_natCast, lay_get it b ws (Nat.le_of_lt t2), lay_get it b ws (Nat.le_of_lt hi), off_w64 it b ws hn hi t2]
      rfl
  exact ⟨by unfold G_hauberkref04_offset; rw [h]; rfl, by unfold V_hauberkref04_offset PO.getO; rw [h]; rfl⟩

omit hb in
theorem aoff_run (hd : ∀ i, i < it.length → dupAt it i = false) {i : Nat} (hi : i < it.length) (h2 : ((itemAt it i).1 != (2 : Int)) = false) : G_asm_assembler_offset (it, mapTo it it.length, layM it b ws, (i : Int)) = true ∧ V_asm_assembler_offset (it, mapTo it it.length, layM it b ws, (i : Int)) = offM it b ws i := by
  obtain ⟨t1, t2⟩ := tgt_some it hm hi h2
  have hv : mval (mapTo it it.length) (itemAt it i).2.1 = ((tgt it i : Nat) : Int) := by
    unfold mval
    rw [map_get it _ it.length hd, t1]
    rfl
  constructor
  · show (inRange (i : Int) (List.length it) && (inRange (mval (mapTo it it.length) (itemAt it i).2.1) (List.length (layM it b ws)) && inRange (i : Int) (List.length (layM it b ws)))) = true
    rw [hv, inR hi, lay_len, inR (show i < it.length + 1 by omega), inR (show tgt it i < it.length + 1 by omega)]
    rfl
  · show w64 (w64 (List.getD (layM it b ws) (Int.toNat (mval (mapTo it it.length) (itemAt it i).2.1)) 0 - List.getD (layM it b ws) (Int.toNat (i : Int)) 0) - 4) = _
    rw [hv, Int.toNat_natCast, Int.toNat_natCast, lay_get it b ws (Nat.le_of_lt t2), lay_get it b ws (Nat.le_of_lt hi), off_w64 it b ws hn hi t2]
    rfl
end
end Go.Av
/-! Branches made wide: pass after pass, in the program and in the document. -/
namespace Go.Av
open Go

section
variable (it : List tItem.den) (b : Int) (ws : List Bool) (hn : it.length ≤ 21000) (hb : 0 ≤ b ∧ b ≤ 262144) (hm : ∀ i, i < it.length → missAt it i = false) (hw : ws.length = it.length)
include hn hm hw

omit hn hm hw in
theorem wget (i : Nat) : List.getD (passTo it b ws i).2 (nplus 0 (i : Int)) false = wd (passTo it b ws i).2 i := by
  unfold nplus wd
  rw [Int.toNat_natCast, Nat.zero_add]

theorem ref_pass : LoopN.res L_hauberkref04_Wide_7 (it, b, (0, it.length), false, layM it b ws, 0) ws = some (0, ((passTo it b ws it.length).1, (it.length : Int), (passTo it b ws it.length).2)) := by
  unfold LoopN.res
  refine runL_count (turn := L_hauberkref04_Wide_7.turn (it, b, (0, it.length), false, layM it b ws, 0) ws) (fun i => ((passTo it b ws i).1, (i : Int), (passTo it b ws i).2)) (0, ((passTo it b ws it.length).1, (it.length : Int), (passTo it b ws it.length).2)) (n := it.length) (fun i hi => ?_) ?_ it.length 0 (by omega) _ (Nat.lt_succ_self _)
  · refine (val_yes (dec_true (show (i : Int) < lenI it by simp only [lenI]; omega))).trans ((val_yes ?_).trans ?_)
    · show (inRange (i : Int) (List.length it) && ((itemAt it i).1 != 2 || inRange (i : Int) it.length)) = true
      rw [inR hi, Bool.or_true]
      rfl
    cases ht : ((itemAt it i).1 != (2 : Int) || wd (passTo it b ws i).2 i)
    · have h2 := (Bool.or_eq_false_iff.1 ht).1
      obtain ⟨o1, o2⟩ := roff_run it b ws hn hm hi h2
      refine (val_no (show ((itemAt it i).1 != 2 || List.getD (passTo it b ws i).2 (nplus 0 (i : Int)) false) = false by rw [wget it b ws]; exact ht)).trans ((val_yes ?_).trans ((val_yes o1).trans ?_))
      · show (inRange (i : Int) (List.length it) && true) = true
        rw [inR hi]
        rfl
      cases ho : outR it b ws i
      · refine (val_no ?_).trans ?_
        · show (decide (V_hauberkref04_offset (it, layM it b ws, (i : Int)) < (V_hauberkref02_Reach ((itemAt it i).2.2.1.1, false)).1) || decide (V_hauberkref04_offset (it, layM it b ws, (i : Int)) > (V_hauberkref02_Reach ((itemAt it i).2.2.1.1, false)).2.1)) = false
          rw [o2, ← reach_eq]
          exact ho
        · have e : passTo it b ws (i + 1) = passTo it b ws i := by simp only [passTo, ht, ho, cond_false]
          dsimp only
          rw [e, w64_id (n := (i : Int) + 1) (by omega) (by omega)]
          rfl
      · refine (val_yes ?_).trans ((val_yes (inR hi)).trans ?_)
        · show (decide (V_hauberkref04_offset (it, layM it b ws, (i : Int)) < (V_hauberkref02_Reach ((itemAt it i).2.2.1.1, false)).1) || decide (V_hauberkref04_offset (it, layM it b ws, (i : Int)) > (V_hauberkref02_Reach ((itemAt it i).2.2.1.1, false)).2.1)) = true
          rw [o2, ← reach_eq]
          exact ho
        · have e : passTo it b ws (i + 1) = (true, (passTo it b ws i).2.set (nplus 0 (i : Int)) true) := by
            unfold nplus
            rw [Int.toNat_natCast, Nat.zero_add]
            simp only [passTo, ht, ho, cond_false, cond_true]
          dsimp only
          rw [e, w64_id (n := (i : Int) + 1) (by omega) (by omega)]
          rfl
    · refine (val_yes (show ((itemAt it i).1 != 2 || List.getD (passTo it b ws i).2 (nplus 0 (i : Int)) false) = true by rw [wget it b ws]; exact ht)).trans ?_
      have e : passTo it b ws (i + 1) = passTo it b ws i := by simp only [passTo, ht, cond_true]
      dsimp only
      rw [e, w64_id (n := (i : Int) + 1) (by omega) (by omega)]
      rfl
  · exact (val_no (dec_false (show ¬ ((it.length : Nat) : Int) < lenI it by simp only [lenI]; omega))).trans rfl

theorem asm_pass (hd : ∀ i, i < it.length → dupAt it i = false) : LoopN.res L_asm_assembler_widen_4 ((), layM it b ws, false, it, lenI it, 0) ((it, b, (), ((0, it.length), ())), mapTo it it.length, ws) =
    some (0, ((passTo it b ws it.length).1, (it.length : Int), (it, b, (), ((0, it.length), ())), mapTo it it.length, (passTo it b ws it.length).2)) := by
  unfold LoopN.res
  refine runL_count (turn := L_asm_assembler_widen_4.turn ((), layM it b ws, false, it, lenI it, 0) ((it, b, (), ((0, it.length), ())), mapTo it it.length, ws)) (fun i => ((passTo it b ws i).1, (i : Int), (it, b, (), ((0, it.length), ())), mapTo it it.length, (passTo it b ws i).2)) (0, ((passTo it b ws it.length).1, (it.length : Int), (it, b, (), ((0, it.length), ())), mapTo it it.length, (passTo it b ws it.length).2)) (n := it.length) (fun i hi => ?_) ?_ it.length 0 (by omega) _ (Nat.lt_succ_self _)
  · refine (val_yes (dec_true (show (i : Int) < lenI it by simp only [lenI]; omega))).trans ((val_yes (inR hi)).trans ((val_yes ?_).trans ?_))
    · show ((itemAt it i).1 != 2 || inRange (i : Int) it.length) = true
      rw [inR hi, Bool.or_true]
    cases ht : ((itemAt it i).1 != (2 : Int) || wd (passTo it b ws i).2 i)
    · have h2 := (Bool.or_eq_false_iff.1 ht).1
      obtain ⟨o1, o2⟩ := aoff_run it b ws hn hm hd hi h2
      refine (val_no (show ((itemAt it i).1 != 2 || List.getD (passTo it b ws i).2 (nplus 0 (i : Int)) false) = false by rw [wget it b ws]; exact ht)).trans ((val_yes o1).trans ?_)
      cases ho : outR it b ws i
      · refine (val_no ?_).trans ?_
        · show (decide (V_asm_assembler_offset (it, mapTo it it.length, layM it b ws, (i : Int)) < (V_thumb_Reach ((itemAt it i).2.2.1.1, false)).1) || decide (V_asm_assembler_offset (it, mapTo it it.length, layM it b ws, (i : Int)) > (V_thumb_Reach ((itemAt it i).2.2.1.1, false)).2.1)) = false
          rw [o2]
          exact ho
        · have e : passTo it b ws (i + 1) = passTo it b ws i := by simp only [passTo, ht, ho, cond_false]
          dsimp only
          rw [e, w64_id (n := (i : Int) + 1) (by omega) (by omega)]
          rfl
      · refine (val_yes ?_).trans ((val_yes (inR hi)).trans ?_)
        · show (decide (V_asm_assembler_offset (it, mapTo it it.length, layM it b ws, (i : Int)) < (V_thumb_Reach ((itemAt it i).2.2.1.1, false)).1) || decide (V_asm_assembler_offset (it, mapTo it it.length, layM it b ws, (i : Int)) > (V_thumb_Reach ((itemAt it i).2.2.1.1, false)).2.1)) = true
          rw [o2]
          exact ho
        · have e : passTo it b ws (i + 1) = (true, (passTo it b ws i).2.set (nplus 0 (i : Int)) true) := by
            unfold nplus
            rw [Int.toNat_natCast, Nat.zero_add]
            simp only [passTo, ht, ho, cond_false, cond_true]
          dsimp only
          rw [e, w64_id (n := (i : Int) + 1) (by omega) (by omega)]
          rfl
    · refine (val_yes (show ((itemAt it i).1 != 2 || List.getD (passTo it b ws i).2 (nplus 0 (i : Int)) false) = true by rw [wget it b ws]; exact ht)).trans ?_
      have e : passTo it b ws (i + 1) = passTo it b ws i := by simp only [passTo, ht, cond_true]
      dsimp only
      rw [e, w64_id (n := (i : Int) + 1) (by omega) (by omega)]
      rfl
  · exact (val_no (dec_false (show ¬ ((it.length : Nat) : Int) < lenI it by simp only [lenI]; omega))).trans rfl

include hb
theorem widen_run (hd : ∀ i, i < it.length → dupAt it i = false) : G_asm_assembler_widen () ((it, b, (), ((0, it.length), ())), mapTo it it.length, ws) = true ∧
    V_asm_assembler_widen () ((it, b, (), ((0, it.length), ())), mapTo it it.length, ws) = ((passTo it b ws it.length).1, (it, b, (), ((0, it.length), ())), mapTo it it.length, (passTo it b ws it.length).2) := by
  have e3 : shown ws (0, it.length) = ws := by simp [shown, ← hw]
  obtain ⟨l1, l2⟩ := alay_run it b ws hn hb
  have h : (T_asm_assembler_widen () ((it, b, (), ((0, it.length), ())), mapTo it it.length, ws)).val = some ((passTo it b ws it.length).1, (it, b, (), ((0, it.length), ())), mapTo it it.length, (passTo it b ws it.length).2) := by
    unfold T_asm_assembler_widen
    dsimp only
    rw [e3, l2]
    exact (val_yes l1).trans ((val_opt (asm_pass it b ws hn hm hw hd)).trans rfl)
  exact ⟨by unfold G_asm_assembler_widen; rw [h]; rfl, by unfold V_asm_assembler_widen PO.getO; rw [h]; rfl⟩
end

/-- What is wide after so many passes. -/
def widesAt (it : List tItem.den) (b : Int) : Nat → List Bool
  | 0 => List.replicate it.length false
  | k + 1 => (passTo it b (widesAt it b k) it.length).2
def moreAt (it : List tItem.den) (b : Int) (k : Nat) : Bool := (passTo it b (widesAt it b k) it.length).1
theorem widesAt_len (it : List tItem.den) (b : Int) : ∀ k, (widesAt it b k).length = it.length
  | 0 => by simp [widesAt]
  | k + 1 => by
    simp only [widesAt]
    rw [pass_len, widesAt_len it b k]
theorem widesAt_cnt (it : List tItem.den) (b : Int) : ∀ k, (∀ j, j < k → moreAt it b j = true) → k ≤ cntT (widesAt it b k)
  | 0, _ => Nat.zero_le _
  | k + 1, h => by
    have ih := widesAt_cnt it b k (fun j hj => h j (by omega))
    have h1 := h k (Nat.lt_succ_self k)
    have h2 := pass_cnt it b (widesAt it b k) it.length (by rw [widesAt_len]; exact Nat.le_refl _)
    unfold moreAt at h1
    rw [h1] at h2
    simp only [widesAt]
    simp only [cond_true] at h2
    omega
/-- Passes come to an end. -/
theorem passes_end (it : List tItem.den) (b : Int) : ∃ K, K ≤ it.length ∧ (∀ k, k < K → moreAt it b k = true) ∧ moreAt it b K = false := by
  cases h : firstP (fun k => !moreAt it b k) (it.length + 1) with
  | some K =>
    obtain ⟨h1, h2, h3⟩ := firstP_some h
    exact ⟨K, by omega, fun k hk => by simpa using h3 k hk, by simpa using h2⟩
  | none =>
    have h1 := widesAt_cnt it b (it.length + 1) (fun j hj => by simpa using firstP_none h j hj)
    have h2 := cntT_le (widesAt it b (it.length + 1))
    rw [widesAt_len] at h2
    omega
end Go.Av
/-! Items as bytes: the program and the document alike. -/
namespace Go.Av
open Go

theorem enc_len (x : tIns.den) (v : List UInt8 × Int × Unit) (h : (T_thumb_Encode x).val = some v) : v.1.length ≤ 4 := by
  unfold T_thumb_Encode at h
  cases h1 : (V_thumb_Check x != (0 : Int))
  · replace h := (val_no h1).symm.trans h
    cases h2 : G_thumb_bits x
    · replace h := (val_no h2).symm.trans h
      cases h
    · replace h := (val_yes h2).symm.trans h
      cases h3 : (V_thumb_bits x).2.2.1
      · replace h := (val_no h3).symm.trans h
        cases h
        exact (by decide : 2 ≤ 4)
      · replace h := (val_yes h3).symm.trans h
        replace h := (val_yes (show Nat.ble (List.length (V_thumb_half (V_thumb_bits x).1) + List.length (V_thumb_half (V_thumb_bits x).2.1)) 9223372036854775807 = true from rfl)).symm.trans h
        cases h
        show (V_thumb_half (V_thumb_bits x).1 ++ V_thumb_half (V_thumb_bits x).2.1).length ≤ 4
        rw [List.length_append]
        exact Nat.le_refl 4
  · replace h := (val_yes h1).symm.trans h
    cases h
    exact Nat.zero_le _
/-- An instruction's bytes. -/
def encV (x : tIns.den) : List UInt8 := (V_thumb_Encode x).1
theorem enc_both (x : tIns.den) : G_thumb_Encode x = true ∧ G_hauberkref02_Encode x = true ∧ (V_hauberkref02_Encode x).1 = encV x ∧ (encV x).length ≤ 4 := by
  obtain ⟨op, rd, rn, rm, ra, imm, cond, w, u⟩ := x
  obtain ⟨v, h1, h2⟩ := enc_same op rd rn rm ra imm cond w
  have e1 : V_thumb_Encode (op, rd, rn, rm, ra, imm, cond, w, ()) = v := by unfold V_thumb_Encode PO.getO; rw [h1]; rfl
  have e2 : V_hauberkref02_Encode (op, rd, rn, rm, ra, imm, cond, w, ()) = v := by unfold V_hauberkref02_Encode PO.getO; rw [h2]; rfl
  refine ⟨by unfold G_thumb_Encode; exact h1 ▸ rfl, by unfold G_hauberkref02_Encode; exact h2 ▸ rfl, ?_, ?_⟩
  · unfold encV
    exact congrArg Prod.fst (e2.trans e1.symm)
  · unfold encV
    show (V_thumb_Encode (op, rd, rn, rm, ra, imm, cond, w, ())).1.length ≤ 4
    rw [e1]
    exact enc_len _ v h1

/-- The instruction that stands at an item. -/
def insM (it : List tItem.den) (b : Int) (ws : List Bool) (i : Nat) : tIns.den := bif (itemAt it i).1 == 2 then ((itemAt it i).2.2.1.1, 0, 0, 0, 0, offM it b ws i, (itemAt it i).2.2.1.2.2.2.2.2.2.1, wd ws i, ()) else (itemAt it i).2.2.1
def placesTo (it : List tItem.den) (b : Int) (ws : List Bool) : Nat → List tPlace.den
  | 0 => []
  | i + 1 => bif (itemAt it i).1 == 1 then placesTo it b ws i ++ [((itemAt it i).2.1, posM it b ws i, ())] else placesTo it b ws i
def bytesTo (it : List tItem.den) (b : Int) (ws : List Bool) : Nat → List UInt8
  | 0 => []
  | i + 1 => bif (itemAt it i).1 == 1 then bytesTo it b ws i else bytesTo it b ws i ++ encV (insM it b ws i)
theorem places_len (it : List tItem.den) (b : Int) (ws : List Bool) : ∀ i, (placesTo it b ws i).length ≤ i
  | 0 => Nat.le_refl _
  | i + 1 => by
    have ih := places_len it b ws i
    simp only [placesTo]
    cases ((itemAt it i).1 == (1 : Int))
    · simp only [cond_false]; omega
    · simp only [cond_true, List.length_append, List.length_cons, List.length_nil]; omega
theorem bytes_len (it : List tItem.den) (b : Int) (ws : List Bool) : ∀ i, (bytesTo it b ws i).length ≤ 4 * i
  | 0 => Nat.le_refl _
  | i + 1 => by
    have ih := bytes_len it b ws i
    have h := (enc_both (insM it b ws i)).2.2.2
    simp only [bytesTo]
    cases ((itemAt it i).1 == (1 : Int))
    · simp only [cond_false, List.length_append]; omega
    · simp only [cond_true]; omega

section
variable (it : List tItem.den) (b : Int) (ws : List Bool) (hn : it.length ≤ 21000) (hm : ∀ i, i < it.length → missAt it i = false) (hw : ws.length = it.length)
include hn hm hw
theorem asm_emit (hd : ∀ i, i < it.length → dupAt it i = false) : LoopN.res L_asm_Assemble_10 ((), layM it b ws, (), [], it, lenI it, 0) ((it, b, (), ((0, it.length), ())), ((), [], ()), mapTo it it.length, ws) =
    some (0, (placesTo it b ws it.length, (it.length : Int), (it, b, (), ((0, it.length), ())), ((), bytesTo it b ws it.length, ()), mapTo it it.length, ws)) := by
  unfold LoopN.res
  have hfit : ∀ i, i < it.length → ∀ x, G_bytesFit (bytesTo it b ws i) (V_thumb_Encode x).1 = true := fun i hi x => by
    have h1 := bytes_len it b ws i
    have h2 : (V_thumb_Encode x).1.length ≤ 4 := (enc_both x).2.2.2
    refine Nat.ble_eq_true_of_le ?_
    omega
  refine runL_count (turn := L_asm_Assemble_10.turn ((), layM it b ws, (), [], it, lenI it, 0) ((it, b, (), ((0, it.length), ())), ((), [], ()), mapTo it it.length, ws)) (fun i => (placesTo it b ws i, (i : Int), (it, b, (), ((0, it.length), ())), ((), bytesTo it b ws i, ()), mapTo it it.length, ws)) (0, (placesTo it b ws it.length, (it.length : Int), (it, b, (), ((0, it.length), ())), ((), bytesTo it b ws it.length, ()), mapTo it it.length, ws)) (n := it.length) (fun i hi => ?_) ?_ it.length 0 (by omega) _ (Nat.lt_succ_self _)
  · refine (val_yes (dec_true (show (i : Int) < lenI it by simp only [lenI]; omega))).trans ((val_yes (inR hi)).trans ?_)
    cases h1 : ((itemAt it i).1 == (1 : Int))
    · have ep : placesTo it b ws (i + 1) = placesTo it b ws i := by simp only [placesTo, h1, cond_false]
      have eb : bytesTo it b ws (i + 1) = bytesTo it b ws i ++ encV (insM it b ws i) := by simp only [bytesTo, h1, cond_false]
      refine (val_no h1).trans ?_
      cases h2 : ((itemAt it i).1 == (2 : Int))
      · have ei : insM it b ws i = (itemAt it i).2.2.1 := by unfold insM; rw [h2]; rfl
        refine (val_no h2).trans ((val_yes (enc_both _).1).trans ((val_yes (hfit i hi _)).trans ?_))
        dsimp only
        rw [ep, eb, ei, w64_id (n := (i : Int) + 1) (by omega) (by omega)]
        rfl
      · have h2' : ((itemAt it i).1 != (2 : Int)) = false := by unfold bne; rw [h2]; rfl
        obtain ⟨o1, o2⟩ := aoff_run it b ws hn hm hd hi h2'
        have ei : insM it b ws i = ((itemAt it i).2.2.1.1, 0, 0, 0, 0, V_asm_assembler_offset (it, mapTo it it.length, layM it b ws, (i : Int)), (itemAt it i).2.2.1.2.2.2.2.2.2.1, List.getD ws (nplus 0 (i : Int)) false, ()) := by
          unfold insM
          rw [h2, o2]
          unfold nplus wd
          rw [Int.toNat_natCast, Nat.zero_add]
          rfl
        refine (val_yes h2).trans ((val_yes o1).trans ((val_yes (inR hi)).trans ((val_yes (enc_both _).1).trans ((val_yes (hfit i hi _)).trans ?_))))
        dsimp only
        rw [ep, eb, ei, w64_id (n := (i : Int) + 1) (by omega) (by omega)]
        rfl
    · have ep : placesTo it b ws (i + 1) = placesTo it b ws i ++ [((itemAt it i).2.1, posM it b ws i, ())] := by simp only [placesTo, h1, cond_true]
      have eb : bytesTo it b ws (i + 1) = bytesTo it b ws i := by simp only [bytesTo, h1, cond_true]
      have hl := places_len it b ws i
      refine (val_yes h1).trans ((val_yes ?_).trans ((val_yes ?_).trans ?_))
      · show inRange (i : Int) (List.length (layM it b ws)) = true
        rw [lay_len]
        exact inR (by omega)
      · refine Nat.ble_eq_true_of_le ?_
        simp only [List.length_cons, List.length_nil]
        omega
      · have eg : List.getD (layM it b ws) (Int.toNat (i : Int)) 0 = posM it b ws i := by rw [Int.toNat_natCast]; exact lay_get it b ws (Nat.le_of_lt hi)
        rw [ep, eb]
        show some (TL.on (placesTo it b ws i ++ [((itemAt it i).2.1, List.getD (layM it b ws) (Int.toNat (i : Int)) 0, ())], w64 ((i : Int) + 1), (it, b, (), ((0, it.length), ())), ((), bytesTo it b ws i, ()), mapTo it it.length, ws)) = _
        rw [eg, w64_id (n := (i : Int) + 1) (by omega) (by omega)]
        rfl
  · exact (val_no (dec_false (show ¬ ((it.length : Nat) : Int) < lenI it by simp only [lenI]; omega))).trans rfl
end
end Go.Av
/-! AsmBytes: proved of what the functions compute. -/
namespace Go.Av
open Go

theorem three (k : Int) (h1 : ¬ k < 0) (h2 : ¬ k > 2) : k = 0 ∨ k = 1 ∨ k = 2 := by omega
def flagAt (it : List tItem.den) (b : Int) : Nat → Bool
  | 0 => true
  | j + 1 => moreAt it b j
theorem kinds (j : tItem.den) (h : (!V_asm_item j) = false) : (j.1 == (0 : Int)) = true ∨ (j.1 == (1 : Int)) = true ∨ (j.1 == (2 : Int)) = true := by
  rw [← item_test j] at h
  rw [Bool.or_eq_false_iff, Bool.or_eq_false_iff] at h
  have h1 : ¬ (j.1 : Int) < 0 := of_decide_eq_false h.1
  have h2 : ¬ (j.1 : Int) > 2 := of_decide_eq_false h.2.1
  simp only [beq_iff_eq]
  exact three j.1 h1 h2

section
variable (it : List tItem.den) (b : Int) (ws : List Bool) (hn : it.length ≤ 21000) (hm : ∀ i, i < it.length → missAt it i = false) (hw : ws.length = it.length)
include hn hm hw
theorem ref_emit (hj : ∀ i, i < it.length → badJ it i = false) : LoopN.res L_hauberkref04_Assemble_9 (it, (0, it.length), layM it b ws, [], [], 0) ws =
    some (0, (bytesTo it b ws it.length, placesTo it b ws it.length, (it.length : Int), ws)) := by
  unfold LoopN.res
  have hfit : ∀ i, i < it.length → ∀ x, Nat.ble (List.length (bytesTo it b ws i) + List.length (V_hauberkref02_Encode x).1) 9223372036854775807 = true := fun i hi x => by
    have h1 := bytes_len it b ws i
    have h2 : (V_hauberkref02_Encode x).1.length ≤ 4 := by rw [(enc_both x).2.2.1]; exact (enc_both x).2.2.2
    refine Nat.ble_eq_true_of_le ?_
    omega
  refine runL_count (turn := L_hauberkref04_Assemble_9.turn (it, (0, it.length), layM it b ws, [], [], 0) ws) (fun i => (bytesTo it b ws i, placesTo it b ws i, (i : Int), ws)) (0, (bytesTo it b ws it.length, placesTo it b ws it.length, (it.length : Int), ws)) (n := it.length) (fun i hi => ?_) ?_ it.length 0 (by omega) _ (Nat.lt_succ_self _)
  · refine (val_yes (dec_true (show (i : Int) < lenI it by simp only [lenI]; omega))).trans ((val_yes (inR hi)).trans ?_)
    cases h1 : ((itemAt it i).1 == (1 : Int))
    · have ep : placesTo it b ws (i + 1) = placesTo it b ws i := by simp only [placesTo, h1, cond_false]
      have eb : bytesTo it b ws (i + 1) = bytesTo it b ws i ++ encV (insM it b ws i) := by simp only [bytesTo, h1, cond_false]
      refine (val_no h1).trans ?_
      have hk := kinds (itemAt it i) (hj i hi)
      rw [h1] at hk
      cases h0 : ((itemAt it i).1 == (0 : Int))
      · rw [h0] at hk
        have h2 : ((itemAt it i).1 == (2 : Int)) = true := by simpa using hk
        have h2' : ((itemAt it i).1 != (2 : Int)) = false := by unfold bne; rw [h2]; rfl
        obtain ⟨o1, o2⟩ := roff_run it b ws hn hm hi h2'
        have ei : insM it b ws i = ((itemAt it i).2.2.1.1, 0, 0, 0, 0, V_hauberkref04_offset (it, layM it b ws, (i : Int)), (itemAt it i).2.2.1.2.2.2.2.2.2.1, List.getD ws (nplus 0 (i : Int)) false, ()) := by
          unfold insM
          rw [h2, o2]
          unfold nplus wd
          rw [Int.toNat_natCast, Nat.zero_add]
          rfl
        refine (val_yes ?_).trans ?_
        · show (bif (itemAt it i).1 == 0 then _ else inRange (i : Int) (List.length it) && (inRange (i : Int) (List.length it) && (G_hauberkref04_offset (it, layM it b ws, (i : Int)) && (inRange (i : Int) it.length && G_hauberkref02_Encode ((itemAt it i).2.2.1.1, 0, 0, 0, 0, V_hauberkref04_offset (it, layM it b ws, (i : Int)), (itemAt it i).2.2.1.2.2.2.2.2.2.1, List.getD ws (nplus 0 (i : Int)) false, ())))) && Nat.ble (List.length (bytesTo it b ws i) + List.length (V_hauberkref02_Encode ((itemAt it i).2.2.1.1, 0, 0, 0, 0, V_hauberkref04_offset (it, layM it b ws, (i : Int)), (itemAt it i).2.2.1.2.2.2.2.2.2.1, List.getD ws (nplus 0 (i : Int)) false, ())).1) 9223372036854775807) = true
          rw [h0, cond_false, inR hi, o1, (enc_both _).2.1, hfit i hi]
          rfl
        · show some (TL.on (bif (itemAt it i).1 == 0 then _ else bytesTo it b ws i ++ (V_hauberkref02_Encode ((itemAt it i).2.2.1.1, 0, 0, 0, 0, V_hauberkref04_offset (it, layM it b ws, (i : Int)), (itemAt it i).2.2.1.2.2.2.2.2.2.1, List.getD ws (nplus 0 (i : Int)) false, ())).1, placesTo it b ws i, w64 ((i : Int) + 1), ws)) = _
          rw [h0, cond_false, ep, eb, ei, (enc_both _).2.2.1, w64_id (n := (i : Int) + 1) (by omega) (by omega)]
          rfl
      · have h2 : ((itemAt it i).1 == (2 : Int)) = false := by
          have : (itemAt it i).1 = (0 : Int) := by simpa using h0
          rw [this]
          rfl
        have ei : insM it b ws i = (itemAt it i).2.2.1 := by unfold insM; rw [h2]; rfl
        refine (val_yes ?_).trans ?_
        · show (bif (itemAt it i).1 == 0 then inRange (i : Int) (List.length it) && G_hauberkref02_Encode (itemAt it i).2.2.1 && Nat.ble (List.length (bytesTo it b ws i) + List.length (V_hauberkref02_Encode (itemAt it i).2.2.1).1) 9223372036854775807 else _) = true
          rw [h0, cond_true, inR hi, (enc_both _).2.1, hfit i hi]
          rfl
        · show some (TL.on (bif (itemAt it i).1 == 0 then bytesTo it b ws i ++ (V_hauberkref02_Encode (itemAt it i).2.2.1).1 else _, placesTo it b ws i, w64 ((i : Int) + 1), ws)) = _
          rw [h0, cond_true, ep, eb, ei, (enc_both _).2.2.1, w64_id (n := (i : Int) + 1) (by omega) (by omega)]
          rfl
    · have ep : placesTo it b ws (i + 1) = placesTo it b ws i ++ [((itemAt it i).2.1, posM it b ws i, ())] := by simp only [placesTo, h1, cond_true]
      have eb : bytesTo it b ws (i + 1) = bytesTo it b ws i := by simp only [bytesTo, h1, cond_true]
      have hl := places_len it b ws i
      refine (val_yes h1).trans ((val_yes (inR hi)).trans ((val_yes ?_).trans ((val_yes ?_).trans ?_)))
      · show inRange (i : Int) (List.length (layM it b ws)) = true
        rw [lay_len]
        exact inR (by omega)
      · refine Nat.ble_eq_true_of_le ?_
        simp only [List.length_cons, List.length_nil]
        omega
      · have eg : List.getD (layM it b ws) (Int.toNat (i : Int)) 0 = posM it b ws i := by rw [Int.toNat_natCast]; exact lay_get it b ws (Nat.le_of_lt hi)
        rw [ep, eb]
        show some (TL.on (bytesTo it b ws i, placesTo it b ws i ++ [((itemAt it i).2.1, List.getD (layM it b ws) (Int.toNat (i : Int)) 0, ())], w64 ((i : Int) + 1), ws)) = _
        rw [eg, w64_id (n := (i : Int) + 1) (by omega) (by omega)]
        rfl
  · exact (val_no (dec_false (show ¬ ((it.length : Nat) : Int) < lenI it by simp only [lenI]; omega))).trans rfl
end

section
variable (it : List tItem.den) (b : Int) (hn : it.length ≤ 21000) (hb : 0 ≤ b ∧ b ≤ 262144) (hm : ∀ i, i < it.length → missAt it i = false) (K : Nat) (hK : K ≤ it.length) (h1 : ∀ k, k < K → moreAt it b k = true) (h2 : moreAt it b K = false)
include hn hb hm hK h1 h2
theorem asm_passes (hd : ∀ i, i < it.length → dupAt it i = false) : LoopN.res L_asm_Assemble_5 (it, b, ()) ((it, b, (), ((0, it.length), ())), mapTo it it.length, List.replicate it.length false) =
    some (0, ((it, b, (), ((0, it.length), ())), mapTo it it.length, widesAt it b (K + 1))) := by
  unfold LoopN.res
  refine runL_count (turn := L_asm_Assemble_5.turn (it, b, ()) ((it, b, (), ((0, it.length), ())), mapTo it it.length, List.replicate it.length false)) (fun k => ((it, b, (), ((0, it.length), ())), mapTo it it.length, widesAt it b k)) (0, ((it, b, (), ((0, it.length), ())), mapTo it it.length, widesAt it b (K + 1))) (n := K) (fun k hk => ?_) ?_ K 0 (by omega) (List.length it + 2) (by omega)
  · obtain ⟨g1, g2⟩ := widen_run it b (widesAt it b k) hn hb hm (widesAt_len it b k) hd
    have hh := h1 k hk
    unfold moreAt at hh
    refine (val_yes g1).trans ((val_no ?_).trans ?_)
    · show (!(V_asm_assembler_widen () ((it, b, (), ((0, it.length), ())), mapTo it it.length, widesAt it b k)).1) = false
      rw [g2, hh]
      rfl
    · dsimp only
      rw [g2]
      rfl
  · obtain ⟨g1, g2⟩ := widen_run it b (widesAt it b K) hn hb hm (widesAt_len it b K) hd
    have hh := h2
    unfold moreAt at hh
    refine (val_yes g1).trans ((val_yes ?_).trans ?_)
    · show (!(V_asm_assembler_widen () ((it, b, (), ((0, it.length), ())), mapTo it it.length, widesAt it b K)).1) = true
      rw [g2, hh]
      rfl
    · dsimp only
      rw [g2]
      rfl

theorem ref_passes : LoopN.res L_hauberkref04_Wide_3 (it, b, (0, it.length), true) (List.replicate it.length false) = some (0, (false, widesAt it b (K + 1))) := by
  unfold LoopN.res
  refine runL_count (turn := L_hauberkref04_Wide_3.turn (it, b, (0, it.length), true) (List.replicate it.length false)) (fun k => (flagAt it b k, widesAt it b k)) (0, (false, widesAt it b (K + 1))) (n := K + 1) (fun k hk => ?_) ?_ (K + 1) 0 (by omega) (List.length it + 2) (by omega)
  · have e3 : shown (widesAt it b k) (0, it.length) = widesAt it b k := by
      have := widesAt_len it b k
      simp [shown, ← this]
    obtain ⟨l1, l2⟩ := rlay_run it b (widesAt it b k) hn hb
    have hfl : flagAt it b k = true := by
      cases k with
      | zero => rfl
      | succ j => exact h1 j (by omega)
    refine (val_yes hfl).trans ?_
    dsimp only
    rw [e3, l2]
    exact (val_yes l1).trans ((val_opt (ref_pass it b (widesAt it b k) hn hm (widesAt_len it b k))).trans rfl)
  · refine (val_no h2).trans ?_
    show some (TL.out 0 (moreAt it b K, widesAt it b (K + 1))) = _
    rw [h2]
    rfl

theorem rwide_run : G_hauberkref04_Wide (it, b) () = true ∧ V_hauberkref04_Wide (it, b) () = ((0, it.length), widesAt it b (K + 1)) := by
  have e1 : nspan 0 (lenI it) = it.length := by simp [nspan, lenI]
  have e2 : zeros (lenI it) false = List.replicate it.length false := by simp [zeros, lenI]
  have h : (T_hauberkref04_Wide (it, b) ()).val = some ((0, it.length), widesAt it b (K + 1)) := by
    unfold T_hauberkref04_Wide
    dsimp only
    rw [e1, e2]
    refine (val_yes ?_).trans ((val_opt (ref_passes it b hn hb hm K hK h1 h2)).trans rfl)
    simp only [roomOk, lenI]
    simp
    omega
  exact ⟨by unfold G_hauberkref04_Wide; rw [h]; rfl, by unfold V_hauberkref04_Wide PO.getO; rw [h]; rfl⟩
end

/-- Both make the same of the same items. -/
theorem asm_same (it : List tItem.den) (b : Int) (hn : it.length ≤ 21000) : ∃ v : List UInt8 × List tPlace.den × Int × Unit, (T_asm_Assemble (it, b)).val = some v ∧ (T_hauberkref04_Assemble (it, b)).val = some v ∧ v.2.1.length ≤ 21000 := by
  have e1 : nspan 0 (lenI it) = it.length := by simp [nspan, lenI]
  have e2 : zeros (lenI it) false = List.replicate it.length false := by simp [zeros, lenI]
  obtain ⟨m, c1, c2, c3⟩ := check_ran it b ((0, it.length), ()) (List.replicate it.length false) hn
  obtain ⟨w1, w2⟩ := wrong_run it hn b
  have hroom : roomOk (lenI it) 1 = true := by
    simp only [roomOk, lenI]
    simp
    omega
  have k0 : K_asm_Assemble_0 (it, b) = true := by
    unfold K_asm_Assemble_0
    dsimp only
    rw [e1, e2]
    exact c1
  have k1 : K_asm_Assemble_1 (it, b) = (codeM it b, (it, b, (), ((0, it.length), ())), m, List.replicate it.length false) := by
    unfold K_asm_Assemble_1
    dsimp only
    rw [e1, e2]
    exact c2
  cases hc : (codeM it b != 0)
  · have hc0 : codeM it b = 0 := by simpa using hc
    have hmm := c3 hc0
    subst hmm
    -- what is not wrong
    have facts : baseBad b = false ∧ firstP (badJ it) it.length = none ∧ firstP (dupAt it) it.length = none ∧ firstP (missAt it) it.length = none := by
      have hc0' := hc0
      unfold codeM at hc0'
      cases hbb : baseBad b
      · rw [hbb, cond_false] at hc0'
        cases hf1 : firstP (badJ it) it.length with
        | some k => rw [hf1] at hc0'; cases hc0'
        | none =>
          rw [hf1] at hc0'
          cases hf2 : firstP (chkAt it) it.length with
          | some k =>
            obtain ⟨_, hk, _⟩ := firstP_some hf2
            unfold chkAt at hk
            rw [Bool.and_eq_true] at hk
            rw [hf2] at hc0'
            dsimp only at hc0'
            rw [hc0'] at hk
            cases hk.2
          | none =>
            rw [hf2] at hc0'
            cases hf3 : firstP (dupAt it) it.length with
            | some k => rw [hf3] at hc0'; cases hc0'
            | none =>
              rw [hf3] at hc0'
              cases hf4 : firstP (missAt it) it.length with
              | some k => rw [hf4] at hc0'; cases hc0'
              | none => exact ⟨rfl, rfl, rfl, rfl⟩
      · rw [hbb] at hc0'
        cases hc0'
    obtain ⟨f1, f2, f3, f4⟩ := facts
    have hb : 0 ≤ b ∧ b ≤ 262144 := by
      unfold baseBad at f1
      rw [Bool.or_eq_false_iff, Bool.or_eq_false_iff] at f1
      have h1 := of_decide_eq_false f1.1
      have h2 := of_decide_eq_false f1.2.1
      omega
    have hj := firstP_none f2
    have hd := firstP_none f3
    have hm := firstP_none f4
    obtain ⟨K, hK, h1, h2⟩ := passes_end it b
    have p5 := asm_passes it b hn hb hm K hK h1 h2 hd
    obtain ⟨r1, r2⟩ := rwide_run it b hn hb hm K hK h1 h2
    have hwl := widesAt_len it b (K + 1)
    have e3 : shown (widesAt it b (K + 1)) (0, it.length) = widesAt it b (K + 1) := by simp [shown, ← hwl]
    obtain ⟨l1, l2⟩ := alay_run it b (widesAt it b (K + 1)) hn hb
    obtain ⟨l3, l4⟩ := rlay_run it b (widesAt it b (K + 1)) hn hb
    have k2 : K_asm_Assemble_2 (it, b) = some (0, ((it, b, (), ((0, it.length), ())), mapTo it it.length, widesAt it b (K + 1))) := by
      unfold K_asm_Assemble_2
      rw [k1]
      exact p5
    refine ⟨(bytesTo it b (widesAt it b (K + 1)) it.length, placesTo it b (widesAt it b (K + 1)) it.length, 0, ()), ?_, ?_, ?_⟩
    · unfold T_asm_Assemble
      rw [k0, k1, k2]
      refine (val_yes hroom).trans ((val_yes rfl).trans ((val_no hc).trans ((val_opt rfl).trans ?_)))
      dsimp only
      rw [e3, l2]
      exact (val_yes l1).trans ((val_opt (asm_emit it b (widesAt it b (K + 1)) hn hm hwl hd)).trans rfl)
    · unfold T_hauberkref04_Assemble
      rw [w2, r2]
      refine (val_yes w1).trans ((val_no hc).trans ((val_yes r1).trans ?_))
      dsimp only
      rw [e3, l4]
      exact (val_yes l3).trans ((val_opt (ref_emit it b (widesAt it b (K + 1)) hn hm hwl hj)).trans rfl)
    · exact Nat.le_trans (places_len it b _ _) hn
  · refine ⟨([], [], codeM it b, ()), ?_, ?_, Nat.zero_le _⟩
    · unfold T_asm_Assemble
      rw [k0, k1]
      exact (val_yes hroom).trans ((val_yes rfl).trans ((val_yes hc).trans rfl))
    · unfold T_hauberkref04_Assemble
      rw [w2]
      exact (val_yes w1).trans ((val_yes hc).trans rfl)

theorem same_run (l : List tPlace.den) (hl : l.length ≤ 21000) : G_hauberk_hauberklaw04_Places_Same (l, l) = true ∧ V_hauberk_hauberklaw04_Places_Same (l, l) = true := by
  have hr : LoopN.res L_hauberk_hauberklaw04_Places_Same_4 (l, l, false, 0) () = some (0, (false, (l.length : Int))) := by
    unfold LoopN.res
    refine runL_count (turn := L_hauberk_hauberklaw04_Places_Same_4.turn (l, l, false, 0) ()) (fun i => (false, (i : Int))) (0, (false, (l.length : Int))) (n := l.length) (fun i hi => ?_) ?_ l.length 0 (by omega) _ (Nat.lt_succ_self _)
    · refine (val_yes (dec_true (show (i : Int) < lenI l by simp only [lenI]; omega))).trans ((val_yes ?_).trans ((val_no ?_).trans ?_))
      · show (inRange (i : Int) (List.length l) && inRange (i : Int) (List.length l)) = true
        rw [inR hi]
        rfl
      · show (!Ty.eqb tPlace (List.getD l (Int.toNat (i : Int)) (Ty.dflt tPlace)) (List.getD l (Int.toNat (i : Int)) (Ty.dflt tPlace))) = false
        rw [eqb_refl]
        rfl
      · dsimp only
        rw [w64_id (n := (i : Int) + 1) (by omega) (by omega)]
        rfl
    · exact (val_no (dec_false (show ¬ ((l.length : Nat) : Int) < lenI l by simp only [lenI]; omega))).trans rfl
  have h : (T_hauberk_hauberklaw04_Places_Same (l, l)).val = some true :=
    (val_no (show (lenI l != lenI l) = false by simp)).trans ((val_opt hr).trans rfl)
  exact ⟨by unfold G_hauberk_hauberklaw04_Places_Same; rw [h]; rfl, by unfold V_hauberk_hauberklaw04_Places_Same PO.getO; rw [h]; rfl⟩

theorem law_hauberklaw04_AsmBytes (x : dens A_hauberklaw04_AsmBytes) (hx : fitsAll maxLen A_hauberklaw04_AsmBytes x) : (T_hauberklaw04_AsmBytes x).val = some true := by
  obtain ⟨runs, b⟩ := x
  have hl : List.length runs ≤ 9223372036854775807 := by
    have h : List.length runs ≤ maxLen := hx.1.1
    unfold maxLen at h
    omega
  obtain ⟨i1, i2⟩ := items_run runs hl
  obtain ⟨v, a1, a2, a3⟩ := asm_same (V_hauberklaw04_Items runs) b i2
  have g1 : G_asm_Assemble (V_hauberklaw04_Items runs, b) = true := by unfold G_asm_Assemble; rw [a1]; rfl
  have g2 : G_hauberkref04_Assemble (V_hauberklaw04_Items runs, b) = true := by unfold G_hauberkref04_Assemble; rw [a2]; rfl
  have v1 : V_asm_Assemble (V_hauberklaw04_Items runs, b) = v := by unfold V_asm_Assemble PO.getO; rw [a1]; rfl
  have v2 : V_hauberkref04_Assemble (V_hauberklaw04_Items runs, b) = v := by unfold V_hauberkref04_Assemble PO.getO; rw [a2]; rfl
  obtain ⟨s1, s2⟩ := same_run v.2.1 a3
  unfold T_hauberklaw04_AsmBytes
  dsimp only
  rw [v1, v2, s1, s2]
  refine (val_yes i1).trans ((val_yes g1).trans ((val_yes g2).trans ((val_yes ?_).trans ?_)))
  · simp
  · show some (v.1 == v.1 && (true && (v.2.2.1 == v.2.2.1 && true))) = some true
    simp
end Go.Av
