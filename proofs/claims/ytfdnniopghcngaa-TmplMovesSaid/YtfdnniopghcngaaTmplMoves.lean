/- The walk and the plain law of TmplMoves. -/
import Derived.Test.YtfdnniopghcngaaTmplBase
namespace Go.Proofs.Ytfdnniopghcngaa
open Go Go.Av Go.Proofs
def T18 (x : dens iii) : PT (List insT.den) :=
  .ite (!(T63 (x.1, x.2.1, x.2.2)).val) (.leaf []) (.leaf ((T16 (7, IntKind.i64.wrap ((T64 x.2.1).val + x.1))).val ++ [insOf 19 x.2.2 7 0 0 0]))
noncomputable def C8 : Ctx := C7.addPlain 18 (plainT iii (fun _ => true) slO fun x => (T18 x).val)
theorem good8 : Good C8 := good7.fnT slO T18 3 8 (by kernel_rfl) (fun x => by kernel_rfl)
def T20 (x : dens iii) : PT (List insT.den) :=
  .ite (!(T63 (x.1, x.2.1, x.2.2)).val) (.leaf []) (.leaf ((T16 (7, IntKind.i64.wrap ((T64 x.2.1).val + x.1))).val ++ [insOf 20 x.2.2 7 0 0 0]))
noncomputable def C9 : Ctx := C8.addPlain 20 (plainT iii (fun _ => true) slO fun x => (T20 x).val)
theorem good9 : Good C9 := good8.fnT slO T20 3 8 (by kernel_rfl) (fun x => by kernel_rfl)
def T22 (_ : dens []) : PT Bool := .leaf true
noncomputable def C10 : Ctx := C9.addPlain 22 (plainT [] (fun _ => true) (.ty .bool) fun x => (T22 x).val)
theorem good10 : Good C10 := good9.fnT (.ty .bool) T22 3 8 (by kernel_rfl) (fun x => by kernel_rfl)
abbrev iiii : List Ty := [.int .i64, .int .i64, .int .i64, .int .i64]
def pSame (a b : List insT.den) (t : PT (Option Bool)) : PT (Option Bool) := .ite (G15 (a, b)) (.ite (V15 (a, b)) t (.leaf (some false))) (.leaf none)
def T3 (x : dens iiii) : PT (Option Bool) :=
  pSame (T16 (x.2.2.1, x.2.2.2)).val (T17 (x.2.2.1, x.2.2.2)).val
    (pSame (T18 (x.1, x.2.1, x.2.2.1)).val (T65 (19, x.1, x.2.1, x.2.2.1)).val
      (pSame (T20 (x.1, x.2.1, x.2.2.1)).val (T65 (20, x.1, x.2.1, x.2.2.1)).val (.leaf (some true))))
theorem walk3 (x : dens iiii) : evF C10 drawOk 8 3 3 (avs iiii x) [] 64 fin = (T3 x).toO fun v => some (⟨.ty .bool, v⟩, [], 64) := by kernel_rfl

theorem pSame_val {a b : List insT.den} (t : PT (Option Bool)) (h : a = b) (hl : a.length < 9223372036854775808) : (pSame a b t).val = t.val := by
  subst h
  simp only [pSame, PT.val, G15, V15, eqL_refl, hl, decide_true, cond_true]

theorem words (reg n : Int) : (T16 (reg, n)).val = (T17 (reg, n)).val := by
  simp only [T16, T17, PT.val]
  congr 2
  have e1 : IntKind.i64.wrap ((IntKind.u64.wrap n).tmod 65536) = n % 65536 := by
    rw [u64_wrap, tmod_pos _ _ (by omega), wrap_i64 _ (by omega) (by omega)]
    omega
  have e2 : IntKind.i64.wrap ((IntKind.u64.wrap ((IntKind.u64.wrap n).tdiv 65536)).tmod 65536) = n / 65536 % 65536 := by
    rw [u64_wrap, u64_wrap, tdiv_pos _ _ (by omega), tmod_pos _ _ (by omega), wrap_i64 _ (by omega) (by omega)]
    omega
  rw [e1, e2, band_16, ishr_16, band_16]

theorem len16 (x : dens ii) : (T16 x).val.length ≤ 2 := by
  simp only [T16, PT.val]
  cases decide (x.1 < 0) <;> cases decide (x.1 > 7) <;> simp

theorem moves (op off rail reg : Int) (l : List insT.den)
    (hl : l = bif !(T63 (off, rail, reg)).val then [] else (T16 (7, IntKind.i64.wrap ((T64 rail).val + off))).val ++ [insOf op reg 7 0 0 0]) : l = (T65 (op, off, rail, reg)).val := by
  subst hl
  simp only [T63, T65, T64, T16, PT.val]
  by_cases h1 : off < 0
  · rw [show decide (off ≥ 0) = false from decide_eq_false (by omega), show decide (off < 0) = true from decide_eq_true h1]; rfl
  · rw [show decide (off ≥ 0) = true from decide_eq_true (by omega), show decide (off < 0) = false from decide_eq_false h1]
    by_cases h2 : off > 65535
    · rw [show decide (off ≤ 65535) = false from decide_eq_false (by omega), show decide (off > 65535) = true from decide_eq_true h2]; rfl
    · rw [show decide (off ≤ 65535) = true from decide_eq_true (by omega), show decide (off > 65535) = false from decide_eq_false h2]
      by_cases h3 : rail < 0
      · rw [show (rail == 0) = false by simp; omega, show (rail == 1) = false by simp; omega, show decide (rail < 0) = true from decide_eq_true h3]; rfl
      · rw [show decide (rail < 0) = false from decide_eq_false h3]
        by_cases h4 : rail > 1
        · rw [show (rail == 0) = false by simp; omega, show (rail == 1) = false by simp; omega, show decide (rail > 1) = true from decide_eq_true h4]; rfl
        · rw [show decide (rail > 1) = false from decide_eq_false h4]
          by_cases h5 : reg < 0
          · rw [show decide (reg ≥ 0) = false from decide_eq_false (by omega), show decide (reg < 0) = true from decide_eq_true h5]
            cases rail == 0 <;> cases rail == 1 <;> rfl
          · rw [show decide (reg ≥ 0) = true from decide_eq_true (by omega), show decide (reg < 0) = false from decide_eq_false h5]
            by_cases h6 : reg > 7
            · rw [show decide (reg ≤ 7) = false from decide_eq_false (by omega), show decide (reg > 7) = true from decide_eq_true h6]
              cases rail == 0 <;> cases rail == 1 <;> rfl
            · rw [show decide (reg ≤ 7) = true from decide_eq_true (by omega), show decide (reg > 7) = false from decide_eq_false h6]
              have : rail = 0 ∨ rail = 1 := by omega
              rcases this with rfl | rfl
              · simp only [show ((0 : Int) == 0) = true from rfl, cond_true, cond_false, Bool.not_true, show decide ((7 : Int) < 0) = false from rfl, show decide ((7 : Int) > 7) = false from rfl]
                rw [wrap_i64 _ (by omega) (by omega), ishr_16, band_16, band_16, show (537133056 + off) % 65536 = off by omega, show (537133056 + off) / 65536 % 65536 = 8196 by omega]
                rfl
              · simp only [show ((1 : Int) == 0) = false from rfl, show ((1 : Int) == 1) = true from rfl, cond_true, cond_false, Bool.not_true, show decide ((7 : Int) < 0) = false from rfl, show decide ((7 : Int) > 7) = false from rfl]
                rw [wrap_i64 _ (by omega) (by omega), ishr_16, band_16, band_16, show (537395200 + off) % 65536 = off by omega, show (537395200 + off) / 65536 % 65536 = 8200 by omega]
                rfl

theorem len65 (x : dens iiii) : (T65 x).val.length ≤ 3 := by
  simp only [T65, PT.val, Bool.cond_eq_ite]
  repeat' split
  all_goals simp

theorem law3 (x : dens iiii) : (T3 x).val = some true := by
  have a := words x.2.2.1 x.2.2.2
  have b := moves 19 x.1 x.2.1 x.2.2.1 (T18 (x.1, x.2.1, x.2.2.1)).val rfl
  have c := moves 20 x.1 x.2.1 x.2.2.1 (T20 (x.1, x.2.1, x.2.2.1)).val rfl
  unfold T3
  have h1 := len16 (x.2.2.1, x.2.2.2)
  have h2 := len65 (19, x.1, x.2.1, x.2.2.1)
  have h3 := len65 (20, x.1, x.2.1, x.2.2.1)
  rw [pSame_val _ a (by omega), pSame_val _ b (by rw [b]; omega), pSame_val _ c (by rw [c]; omega)]
  rfl

theorem law3_walk (x : dens iiii) : evF C10 drawOk 8 3 3 (avs iiii x) [] 64 fin = some (.bool true, [], 64) := by
  rw [walk3, PT.toO_val, law3]
  rfl

theorem law3_calls (a0 a1 a2 a3 : Int) (w : World) :
    Calls Try.prog 3 #[.int .i64 a0, .int .i64 a1, .int .i64 a2, .int .i64 a3] w fun e w' => e = .returned (.bool true) ∧ Go.RowKit.Grown w w' :=
  law_mk good10 3 8 (law3_walk (a0, a1, a2, a3)) (vs := [.int .i64 a0, .int .i64 a1, .int .i64 a2, .int .i64 a3]) ⟨rv_int w _ _ _, rv_int w _ _ _, rv_int w _ _ _, rv_int w _ _ _, trivial⟩
end Go.Proofs.Ytfdnniopghcngaa
