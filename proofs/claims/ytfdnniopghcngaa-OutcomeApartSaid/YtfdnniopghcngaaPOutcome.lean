/- Layer 10: what a result means. -/
import Derived.Test.YtfdnniopghcngaaPBase
namespace Go.Av
open Go
def L_outcome_zero_2 : LoopN where
  M := [0, 2, 5, 6]
  T := [3, 7, 8, 9, 10, 11, 12, 13]
  D := [0, 5, 6]
  ss := [.ty .str, .ty .bool, .ty (.int .i64), .ty (.int .i64)]
  hs := []
  ts := fun _ => []
  bs := []
  es := [.exit 0, .ret]
  σ := (Ty.den .bool) × (Ty.den (.int .i64))
  x0 := fun x _ => (x.2.1, x.2.2.2)
  put := fun x _ s => ((x.1, s.1, x.2.2.1, s.2), ())
  fuel := fun x _ => List.length x.1 + 1
  turn := fun x _ s =>
  (.ite (decide (s.2 < x.2.2.1))
   (.ite (inRange s.2 (List.length x.1))
    (.ite (u8I (List.getD x.1 (Int.toNat s.2) 0) != 0)
     (.ret (.out 1 (false, s.2)))
     (.ret (.on 208 0 (s.1, w64 (s.2 + 1)))))
    .fail)
   (.ret (.out 0 (s.1, s.2))))
def L_hauberkref10_sum_3 : LoopN where
  M := [0, 3, 4]
  T := [5, 6, 7, 8, 9, 10, 11, 12, 13, 14, 15, 16]
  D := [0, 4]
  ss := [.ty .str, .ty (.int .i64), .ty (.int .i64)]
  hs := []
  ts := fun _ => []
  bs := []
  es := [.exit 0]
  σ := (Ty.den (.int .i64)) × (Ty.den (.int .i64))
  x0 := fun x _ => (x.2.1, x.2.2)
  put := fun x _ s => ((x.1, s.1, s.2), ())
  fuel := fun x _ => List.length x.1 + 1
  turn := fun x _ s =>
  (.ite (decide (s.2 < lenI x.1))
   (.ite (inRange s.2 (List.length x.1))
    (.ret (.on 288 0 (w64 (s.1 + w64 (u8I (List.getD x.1 (Int.toNat s.2) 0))), w64 (s.2 + 1))))
    .fail)
   (.ret (.out 0 (s.1, s.2))))

/-! ### Are all bytes 0? -/
abbrev A_outcome_zero : List Ty := [.str]
abbrev S_outcome_zero : Sh := .ty .bool
def T_outcome_zero (x : dens A_outcome_zero) : PO Bool :=
  (.opt (LoopN.res L_outcome_zero_2 (x, false, lenI x, 0) ()) fun p0 =>
   (.ite (way p0.1)
    (.ret (true))
    (.ret (p0.2.1))))
def G_outcome_zero (x : dens A_outcome_zero) : Bool := decide (List.length x < 9223372036854775808)
def V_outcome_zero (x : dens A_outcome_zero) : Bool := (x : List UInt8).all (· == 0)

theorem zero_run (l : List UInt8) (hb : l.length < 9223372036854775808) : ∀ (k i : Nat), i + k = l.length → ∀ f, k < f →
    runL (L_outcome_zero_2.turn (l, false, (l.length : Int), 0) ()) f (false, (i : Int)) = some (bif (l.drop i).all (· == 0) then (0, false, (l.length : Int)) else (1, false, ((i + ((l.drop i).takeWhile (· == 0)).length : Nat) : Int)))
  | 0, i, h, f, hf => by
    obtain ⟨f, rfl⟩ : ∃ g, f = g + 1 := ⟨f - 1, by omega⟩
    rw [List.drop_of_length_le (by omega)]
    refine runL_out ?_
    simp only [L_outcome_zero_2, PO.val, dec_false (show ¬ (i : Int) < (l.length : Int) by omega), cond_false]
    have : i = l.length := by omega
    subst this
    rfl
  | k + 1, i, h, f, hf => by
    obtain ⟨f, rfl⟩ : ∃ g, f = g + 1 := ⟨f - 1, by omega⟩
    have hi : i < l.length := by omega
    rw [List.drop_eq_getElem_cons hi]
    have h1 : decide ((i : Int) < (l.length : Int)) = true := dec_true (by omega)
    have h2 : l.getD i 0 = l[i] := by rw [List.getD_eq_getElem?_getD, List.getElem?_eq_getElem hi]; rfl
    cases hc : (l[i] == 0)
    · have : ((l[i].toNat : Int) != 0) = true := by
        simp only [beq_eq_false_iff_ne, ne_eq] at hc
        simp only [bne_iff_ne, ne_eq]
        intro h0
        apply hc
        have : l[i].toNat = 0 := by omega
        exact UInt8.toNat_inj.1 this
      simp only [List.all_cons, hc, Bool.false_and, cond_false, List.takeWhile_cons, Bool.false_eq_true, if_false, List.length_nil, Nat.add_zero]
      refine runL_out ?_
      simp only [L_outcome_zero_2, PO.val, h1, inR hi, cond_true, getD_nat, h2, this]
    · have : ((l[i].toNat : Int) != 0) = false := by
        simp only [beq_iff_eq] at hc
        rw [hc]
        rfl
      have ht : (L_outcome_zero_2.turn (l, false, (l.length : Int), 0) () (false, (i : Int))).val = some (.on 208 0 (false, ((i + 1 : Nat) : Int))) := by
        simp only [L_outcome_zero_2, PO.val, h1, inR hi, cond_true, getD_nat, h2, this, cond_false]
        rw [w64_id (by omega) (by omega)]
        rfl
      refine (runL_on ht).trans ((zero_run l hb k (i + 1) (by omega) f (by omega)).trans ?_)
      simp only [List.all_cons, hc, Bool.true_and, List.takeWhile_cons, if_true, List.length_cons]
      rw [show i + 1 + ((l.drop (i + 1)).takeWhile (· == 0)).length = i + (((l.drop (i + 1)).takeWhile (· == 0)).length + 1) by omega]

theorem ok_outcome_zero (x : dens A_outcome_zero) (h : G_outcome_zero x = true) : (T_outcome_zero x).val = some (V_outcome_zero x) := by
  have hb : List.length x < 9223372036854775808 := of_decide_eq_true h
  have := zero_run x hb (List.length x) 0 (by omega) (List.length x + 1) (by omega)
  have e : LoopN.res L_outcome_zero_2 (x, false, lenI x, 0) () = _ := this
  unfold T_outcome_zero PO.val
  rw [e]
  simp only [List.drop_zero, V_outcome_zero]
  cases (x : List UInt8).all (· == 0) <;> rfl

/-! ### The sum of all bytes -/
def sumB (l : List UInt8) : Nat := l.foldr (fun b n => b.toNat + n) 0
theorem sumB_zero : ∀ l : List UInt8, ((sumB l : Int) == 0) = l.all (· == 0)
  | [] => rfl
  | b :: l => by
    have ih := sumB_zero l
    simp only [sumB, List.foldr_cons, List.all_cons] at ih ⊢
    rw [← ih]
    apply Bool.eq_iff_iff.2
    simp only [beq_iff_eq, Bool.and_eq_true]
    constructor
    · intro h
      have h1 : b.toNat = 0 := by omega
      exact ⟨UInt8.toNat_inj.1 h1, by omega⟩
    · rintro ⟨rfl, h⟩
      simp
      omega
theorem sumB_le : ∀ l : List UInt8, sumB l ≤ 255 * l.length
  | [] => Nat.le_refl _
  | b :: l => by
    have ih := sumB_le l
    simp only [sumB, List.foldr_cons, List.length_cons] at ih ⊢
    have := b.toNat_lt
    omega
theorem sumB_drop (l : List UInt8) {i : Nat} (hi : i < l.length) : sumB (l.drop i) = l[i].toNat + sumB (l.drop (i + 1)) := by
  rw [List.drop_eq_getElem_cons hi]
  rfl

abbrev A_hauberkref10_sum : List Ty := [.str]
abbrev S_hauberkref10_sum : Sh := .ty tI
def T_hauberkref10_sum (x : dens A_hauberkref10_sum) : PO Int :=
  (.opt (LoopN.res L_hauberkref10_sum_3 (x, 0, 0) ()) fun p0 =>
   (.ret (p0.2.1)))
def G_hauberkref10_sum (x : dens A_hauberkref10_sum) : Bool := decide (List.length x < 36028797018963968)
def V_hauberkref10_sum (x : dens A_hauberkref10_sum) : Int := sumB x

theorem sum_run (l : List UInt8) (hb : l.length < 36028797018963968) : ∀ (k i m : Nat), i + k = l.length → m + sumB (l.drop i) ≤ 255 * l.length → ∀ f, k < f →
    runL (L_hauberkref10_sum_3.turn (l, 0, 0) ()) f ((m : Int), (i : Int)) = some (0, ((m + sumB (l.drop i) : Nat) : Int), (l.length : Int))
  | 0, i, m, h, _, f, hf => by
    obtain ⟨f, rfl⟩ : ∃ g, f = g + 1 := ⟨f - 1, by omega⟩
    rw [List.drop_of_length_le (by omega)]
    refine runL_out ?_
    simp only [L_hauberkref10_sum_3, PO.val, dec_false (show ¬ (i : Int) < (l.length : Int) by omega), cond_false]
    have : i = l.length := by omega
    subst this
    rfl
  | k + 1, i, m, h, hm, f, hf => by
    obtain ⟨f, rfl⟩ : ∃ g, f = g + 1 := ⟨f - 1, by omega⟩
    have hi : i < l.length := by omega
    have h1 : decide ((i : Int) < (l.length : Int)) = true := dec_true (by omega)
    have h2 : l.getD i 0 = l[i] := by rw [List.getD_eq_getElem?_getD, List.getElem?_eq_getElem hi]; rfl
    rw [sumB_drop l hi] at hm ⊢
    have hlt := l[i].toNat_lt
    have ht : (L_hauberkref10_sum_3.turn (l, 0, 0) () ((m : Int), (i : Int))).val = some (.on 288 0 (((m + l[i].toNat : Nat) : Int), ((i + 1 : Nat) : Int))) := by
      simp only [L_hauberkref10_sum_3, PO.val, h1, inR hi, cond_true, getD_nat, h2]
      rw [w64_id (n := (l[i].toNat : Int)) (by omega) (by omega), w64_id (n := (i : Int) + 1) (by omega) (by omega), w64_id (by omega) (by omega)]
      rfl
    refine (runL_on ht).trans ((sum_run l hb k (i + 1) (m + l[i].toNat) (by omega) (by omega) f (by omega)).trans ?_)
    rw [Nat.add_assoc]

theorem ok_hauberkref10_sum (x : dens A_hauberkref10_sum) (h : G_hauberkref10_sum x = true) : (T_hauberkref10_sum x).val = some (V_hauberkref10_sum x) := by
  have hb : List.length x < 36028797018963968 := of_decide_eq_true h
  have := sum_run x hb (List.length x) 0 0 (by omega) (by have := sumB_le x; simpa using this) (List.length x + 1) (by omega)
  have e : LoopN.res L_hauberkref10_sum_3 (x, 0, 0) () = _ := this
  unfold T_hauberkref10_sum PO.val
  rw [e]
  simp [V_hauberkref10_sum, PO.val]
/-- memmap.Check -/
abbrev A_memmap_Check : List Ty := [tSizes, (.int .i64)]
abbrev S_memmap_Check : Sh := Sh.ty (Ty.int IntKind.i64)
def T_memmap_Check (x : dens A_memmap_Check) : PO (Sh.den S_memmap_Check) :=
  (.ite (decide (x.1.1 < 0) || Int.tmod x.1.1 4 != 0)
   (.ret (2))
   (.ite (decide (x.1.2.1 < 0) || Int.tmod x.1.2.1 4 != 0)
    (.ret (2))
    (.ite (decide (x.1.2.2.1 < 0) || Int.tmod x.1.2.2.1 4 != 0)
     (.ret (2))
     (.ite (decide (x.2 < 0) || decide (x.1.2.2.1 < 4))
      (.ret (2))
      (.ite (decide (x.2 > 262144) || decide (x.1.1 > 65536) || decide (x.1.2.1 > 65536) || decide (x.1.2.2.1 > 65536))
       (.ret (5))
       (.ret (0)))))))
def G_memmap_Check (_ : dens A_memmap_Check) : Bool := true
def V_memmap_Check (x : dens A_memmap_Check) : Sh.den S_memmap_Check := (T_memmap_Check x).getO default
theorem ok_memmap_Check (x : dens A_memmap_Check) (_ : G_memmap_Check x = true) : (T_memmap_Check x).val = some (V_memmap_Check x) := PO.sure_ok default (by simp [T_memmap_Check, PO.sure])
/-- hauberkref05.Check -/
abbrev A_hauberkref05_Check : List Ty := [tSizes, (.int .i64)]
abbrev S_hauberkref05_Check : Sh := Sh.ty (Ty.int IntKind.i64)
def T_hauberkref05_Check (x : dens A_hauberkref05_Check) : PO (Sh.den S_hauberkref05_Check) :=
  (.ite (decide (imin (imin (imin x.1.1 x.1.2.1) (w64 (x.1.2.2.1 - 4))) x.2 < 0) || (decide (x.1.2.2.1 < 4) || (Int.tmod x.1.1 4 != 0 || (Int.tmod x.1.2.1 4 != 0 || Int.tmod x.1.2.2.1 4 != 0))))
   (.ret (2))
   (.ite (decide (imax (imax x.1.1 x.1.2.1) x.1.2.2.1 > 65536) || decide (x.2 > 262144))
    (.ret (5))
    (.ret (0))))
def G_hauberkref05_Check (_ : dens A_hauberkref05_Check) : Bool := true
def V_hauberkref05_Check (x : dens A_hauberkref05_Check) : Sh.den S_hauberkref05_Check := (T_hauberkref05_Check x).getO default
theorem ok_hauberkref05_Check (x : dens A_hauberkref05_Check) (_ : G_hauberkref05_Check x = true) : (T_hauberkref05_Check x).val = some (V_hauberkref05_Check x) := PO.sure_ok default (by simp [T_hauberkref05_Check, PO.sure])
/-- outcome.Wiped -/
abbrev A_outcome_Wiped : List Ty := [tResult]
abbrev S_outcome_Wiped : Sh := Sh.ty Ty.bool
def T_outcome_Wiped (x : dens A_outcome_Wiped) : PO (Sh.den S_outcome_Wiped) :=
  (.ite (bif x.2.2.2.2.1 == 0 then G_outcome_zero x.2.2.2.2.2.2.1 && bif V_outcome_zero x.2.2.2.2.2.2.1 then G_outcome_zero x.2.2.2.2.2.2.2.1 && bif V_outcome_zero x.2.2.2.2.2.2.2.1 then G_outcome_zero x.2.2.2.2.2.2.2.2.1 else true else true else true)
   (.ret (x.2.2.2.2.1 == 0 && (V_outcome_zero x.2.2.2.2.2.2.1 && (V_outcome_zero x.2.2.2.2.2.2.2.1 && V_outcome_zero x.2.2.2.2.2.2.2.2.1))))
   .fail)
def G_outcome_Wiped (x : dens A_outcome_Wiped) : Bool := (T_outcome_Wiped x).val.isSome
def V_outcome_Wiped (x : dens A_outcome_Wiped) : Sh.den S_outcome_Wiped := (T_outcome_Wiped x).getO default
theorem ok_outcome_Wiped (x : dens A_outcome_Wiped) (h : G_outcome_Wiped x = true) : (T_outcome_Wiped x).val = some (V_outcome_Wiped x) := PO.getO_ok default h
/-- hauberkref10.Wiped -/
abbrev A_hauberkref10_Wiped : List Ty := [tResult]
abbrev S_hauberkref10_Wiped : Sh := Sh.ty Ty.bool
def T_hauberkref10_Wiped (x : dens A_hauberkref10_Wiped) : PO (Sh.den S_hauberkref10_Wiped) :=
  (.ite (bif x.2.2.2.2.1 == 0 then G_hauberkref10_sum x.2.2.2.2.2.2.1 && bif V_hauberkref10_sum x.2.2.2.2.2.2.1 == 0 then G_hauberkref10_sum x.2.2.2.2.2.2.2.1 && bif V_hauberkref10_sum x.2.2.2.2.2.2.2.1 == 0 then G_hauberkref10_sum x.2.2.2.2.2.2.2.2.1 else true else true else true)
   (.ret (x.2.2.2.2.1 == 0 && (V_hauberkref10_sum x.2.2.2.2.2.2.1 == 0 && (V_hauberkref10_sum x.2.2.2.2.2.2.2.1 == 0 && V_hauberkref10_sum x.2.2.2.2.2.2.2.2.1 == 0))))
   .fail)
def G_hauberkref10_Wiped (x : dens A_hauberkref10_Wiped) : Bool := (T_hauberkref10_Wiped x).val.isSome
def V_hauberkref10_Wiped (x : dens A_hauberkref10_Wiped) : Sh.den S_hauberkref10_Wiped := (T_hauberkref10_Wiped x).getO default
theorem ok_hauberkref10_Wiped (x : dens A_hauberkref10_Wiped) (h : G_hauberkref10_Wiped x = true) : (T_hauberkref10_Wiped x).val = some (V_hauberkref10_Wiped x) := PO.getO_ok default h
/-- outcome.Same -/
abbrev A_outcome_Same : List Ty := [tResult, tResult]
abbrev S_outcome_Same : Sh := Sh.ty Ty.bool
def T_outcome_Same (x : dens A_outcome_Same) : PO (Sh.den S_outcome_Same) :=
  (.ret (x.1.1 == x.2.1 && (x.1.2.2.2.2.1 == x.2.2.2.2.2.1 && (x.1.2.2.2.2.2.1 == x.2.2.2.2.2.2.1 && x.1.2.2.2.2.2.2.1 == x.2.2.2.2.2.2.2.1))))
def G_outcome_Same (_ : dens A_outcome_Same) : Bool := true
def V_outcome_Same (x : dens A_outcome_Same) : Sh.den S_outcome_Same := (T_outcome_Same x).getO default
theorem ok_outcome_Same (x : dens A_outcome_Same) (_ : G_outcome_Same x = true) : (T_outcome_Same x).val = some (V_outcome_Same x) := PO.sure_ok default (by simp [T_outcome_Same, PO.sure])
/-- outcome.Of -/
abbrev A_outcome_Of : List Ty := [tResult]
abbrev S_outcome_Of : Sh := Sh.ty tOutcome
def T_outcome_Of (x : dens A_outcome_Of) : PO (Sh.den S_outcome_Of) :=
  (.ite (!x.1)
   (.ret ((0, [], ())))
   (.ite (x.2.2.2.2.1 == 3235799053)
    (.ret ((1, x.2.2.2.2.2.2.1, ())))
    (.ite (x.2.2.2.2.2.1 == 195890093)
     (.ret ((2, [], ())))
     (.ret ((3, [], ()))))))
def G_outcome_Of (_ : dens A_outcome_Of) : Bool := true
def V_outcome_Of (x : dens A_outcome_Of) : Sh.den S_outcome_Of := (T_outcome_Of x).getO default
theorem ok_outcome_Of (x : dens A_outcome_Of) (_ : G_outcome_Of x = true) : (T_outcome_Of x).val = some (V_outcome_Of x) := PO.sure_ok default (by simp [T_outcome_Of, PO.sure])
/-- hauberkref10.Of -/
abbrev A_hauberkref10_Of : List Ty := [tResult]
abbrev S_hauberkref10_Of : Sh := Sh.tup (Sh.pair (Sh.ty (Ty.int IntKind.i64)) (Sh.pair (Sh.ty Ty.str) (Sh.ty Ty.unit)))
def T_hauberkref10_Of (x : dens A_hauberkref10_Of) : PO (Sh.den S_hauberkref10_Of) :=
  (.ite (!x.1)
   (.ret ((0, [], ())))
   (.ite (x.2.2.2.2.1 == 3235799053)
    (.ret ((1, x.2.2.2.2.2.2.1, ())))
    (.ite (x.2.2.2.2.2.1 == 195890093)
     (.ret ((2, [], ())))
     (.ret ((3, [], ()))))))
def G_hauberkref10_Of (_ : dens A_hauberkref10_Of) : Bool := true
def V_hauberkref10_Of (x : dens A_hauberkref10_Of) : Sh.den S_hauberkref10_Of := (T_hauberkref10_Of x).getO default
theorem ok_hauberkref10_Of (x : dens A_hauberkref10_Of) (_ : G_hauberkref10_Of x = true) : (T_hauberkref10_Of x).val = some (V_hauberkref10_Of x) := PO.sure_ok default (by simp [T_hauberkref10_Of, PO.sure])
/-- outcome.Slack -/
abbrev A_outcome_Slack : List Ty := [tSizes]
abbrev S_outcome_Slack : Sh := Sh.ty (Ty.int IntKind.i64)
def T_outcome_Slack (x : dens A_outcome_Slack) : PO (Sh.den S_outcome_Slack) :=
  (.ite (V_memmap_Check (x, 0) != 0)
   (.ret (0))
   (.ret (w64 (w64 (32 * w64 (x.2.1 + w64 (2 * x.2.2.1))) + 256))))
def G_outcome_Slack (_ : dens A_outcome_Slack) : Bool := true
def V_outcome_Slack (x : dens A_outcome_Slack) : Sh.den S_outcome_Slack := (T_outcome_Slack x).getO default
theorem ok_outcome_Slack (x : dens A_outcome_Slack) (_ : G_outcome_Slack x = true) : (T_outcome_Slack x).val = some (V_outcome_Slack x) := PO.sure_ok default (by simp [T_outcome_Slack, PO.sure])
/-- hauberkref10.Slack -/
abbrev A_hauberkref10_Slack : List Ty := [tSizes]
abbrev S_hauberkref10_Slack : Sh := Sh.ty (Ty.int IntKind.i64)
def T_hauberkref10_Slack (x : dens A_hauberkref10_Slack) : PO (Sh.den S_hauberkref10_Slack) :=
  (.ite (V_hauberkref05_Check (x, 0) != 0)
   (.ret (0))
   (.ret (w64 (w64 (256 + w64 (32 * x.2.1)) + w64 (64 * x.2.2.1)))))
def G_hauberkref10_Slack (_ : dens A_hauberkref10_Slack) : Bool := true
def V_hauberkref10_Slack (x : dens A_hauberkref10_Slack) : Sh.den S_hauberkref10_Slack := (T_hauberkref10_Slack x).getO default
theorem ok_hauberkref10_Slack (x : dens A_hauberkref10_Slack) (_ : G_hauberkref10_Slack x = true) : (T_hauberkref10_Slack x).val = some (V_hauberkref10_Slack x) := PO.sure_ok default (by simp [T_hauberkref10_Slack, PO.sure])
/-- hauberklaw10.lives: an example, computed -/
abbrev A_hauberklaw10_lives : List Ty := []
abbrev S_hauberklaw10_lives : Sh := .ty .bool
def T_hauberklaw10_lives (_ : dens A_hauberklaw10_lives) : PO Bool := .ret true
def G_hauberklaw10_lives (_ : dens A_hauberklaw10_lives) : Bool := true
def V_hauberklaw10_lives (_ : dens A_hauberklaw10_lives) : Bool := true
theorem ok_hauberklaw10_lives (x : dens A_hauberklaw10_lives) (_ : G_hauberklaw10_lives x = true) : (T_hauberklaw10_lives x).val = some (V_hauberklaw10_lives x) := rfl
/-- hauberklaw10.OutcomeTells -/
abbrev A_hauberklaw10_OutcomeTells : List Ty := [tResult]
abbrev S_hauberklaw10_OutcomeTells : Sh := Sh.ty Ty.bool
def T_hauberklaw10_OutcomeTells (x : dens A_hauberklaw10_OutcomeTells) : PO (Sh.den S_hauberklaw10_OutcomeTells) :=
  (.ite (bif (V_outcome_Of x).1 == (V_hauberkref10_Of x).1 then bif (V_outcome_Of x).2.1 == (V_hauberkref10_Of x).2.1 then G_outcome_Wiped x && (G_hauberkref10_Wiped x && (V_outcome_Wiped x == V_hauberkref10_Wiped x || true)) else true else true)
   (.ret ((V_outcome_Of x).1 == (V_hauberkref10_Of x).1 && ((V_outcome_Of x).2.1 == (V_hauberkref10_Of x).2.1 && (V_outcome_Wiped x == V_hauberkref10_Wiped x && true))))
   .fail)
/-- hauberklaw10.OutcomeSame -/
abbrev A_hauberklaw10_OutcomeSame : List Ty := [tResult, tResult, tSizes]
abbrev S_hauberklaw10_OutcomeSame : Sh := Sh.ty Ty.bool
def T_hauberklaw10_OutcomeSame (x : dens A_hauberklaw10_OutcomeSame) : PO (Sh.den S_hauberklaw10_OutcomeSame) :=
  (.ite (bif V_outcome_Same (x.1, x.2.1) == (x.1.1 == x.2.1.1 && (x.1.2.2.2.2.1 == x.2.1.2.2.2.2.1 && (x.1.2.2.2.2.2.1 == x.2.1.2.2.2.2.2.1 && x.1.2.2.2.2.2.2.1 == x.2.1.2.2.2.2.2.2.1))) then V_outcome_Slack x.2.2 == V_hauberkref10_Slack x.2.2 || true else true)
   (.ret (V_outcome_Same (x.1, x.2.1) == (x.1.1 == x.2.1.1 && (x.1.2.2.2.2.1 == x.2.1.2.2.2.2.1 && (x.1.2.2.2.2.2.1 == x.2.1.2.2.2.2.2.1 && x.1.2.2.2.2.2.2.1 == x.2.1.2.2.2.2.2.2.1))) && (V_outcome_Slack x.2.2 == V_hauberkref10_Slack x.2.2 && true)))
   .fail)
/-- hauberklaw10.OutcomeApart -/
abbrev A_hauberklaw10_OutcomeApart : List Ty := [tResult, tResult]
abbrev S_hauberklaw10_OutcomeApart : Sh := Sh.ty Ty.bool
def T_hauberklaw10_OutcomeApart (x : dens A_hauberklaw10_OutcomeApart) : PO (Sh.den S_hauberklaw10_OutcomeApart) :=
  (.ite (bif (V_outcome_Of x.1).1 == 1 then G_outcome_Wiped x.1 else true)
   (.ite (bif (V_outcome_Of x.1).1 == 1 then V_outcome_Wiped x.1 || (V_outcome_Of x.1).1 != 1 && !(V_outcome_Of x.1).2.1 == [] else (V_outcome_Of x.1).1 != 1 && !(V_outcome_Of x.1).2.1 == [])
    (.ret (false))
    (.ite (bif !V_outcome_Same (x.1, x.2) then bif V_outcome_Same (x.1, x.1) then V_outcome_Same (x.1, x.2) == V_outcome_Same (x.2, x.1) || true else true else bif Ty.eqb tOutcome (V_outcome_Of x.1) (V_outcome_Of x.2) then bif V_outcome_Same (x.1, x.1) then V_outcome_Same (x.1, x.2) == V_outcome_Same (x.2, x.1) || true else true else true)
     (.ret (bif !V_outcome_Same (x.1, x.2) then V_outcome_Same (x.1, x.1) && (V_outcome_Same (x.1, x.2) == V_outcome_Same (x.2, x.1) && true) else Ty.eqb tOutcome (V_outcome_Of x.1) (V_outcome_Of x.2) && (V_outcome_Same (x.1, x.1) && (V_outcome_Same (x.1, x.2) == V_outcome_Same (x.2, x.1) && true))))
     .fail))
   .fail)
end Go.Av
