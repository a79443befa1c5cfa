/- From a function's walk to what a statement asks of it. -/
import Derived.Test.YtamnhodjidmlcaaAvFn
import Derived.RowKit3
namespace Go.Av
open Go Go.RowKit

theorem LoopsOk.none {C : Ctx} (h : ∀ f r, C.loops f r = Option.none) (h2 : ∀ f r, C.cuts f r = Option.none) {f n : Nat} : ∀ c : Code, LoopsOk C f n c := by
  intro c
  induction c with
  | seq x y ihx ihy =>
    refine ⟨fun L hL => ?_, ihx, ihy⟩
    cases hq : cutKey x with
    | none => rw [hq] at hL; cases hL
    | some q => rw [hq] at hL; simp only [Option.bind_some, h2] at hL; cases hL
  | cond cd x y ihx ihy => exact ⟨ihx, ihy⟩
  | block id c ih => exact ih
  | loop c ih =>
    refine ⟨fun L hL => ?_, ih⟩
    cases hq : firstReg c with
    | none => rw [hq] at hL; cases hL
    | some q => rw [hq] at hL; simp only [Option.bind_some, h] at hL; cases hL
  | scope c ih => exact ih
  | _ => trivial

def baseC (P : Program) (eqs : List TypeId) : Ctx := { P := P, eqs := eqs, plain := fun _ => Option.none, loops := fun _ _ => Option.none }

theorem good_base {P : Program} {eqs : List TypeId} (h1 : eqs.all (eqOk P) = true) (h2 : (P.funcs.toList.all fun fn => fn.name != "runtime.NumGoroutine") = true) (h3 : P.follows .mixedOrders = true) : Good (baseC P eqs) := by
  have hc : CtxOk (baseC P eqs) := {
    eqs := h1
    plain := fun _ _ h => by cases h
    snap := fun _ _ h => by cases h
    gets := fun _ _ h => by cases h
    bodyOk := fun _ _ h => by cases h
    bodyFn := fun _ _ h => by cases h
    names := fun f fn hf hn => by
      have := List.all_eq_true.1 h2 fn (by
        have hf' : P.funcs[f]? = some fn := hf
        rw [← Array.getElem?_toList] at hf'
        exact List.mem_of_getElem? hf')
      simp [hn] at this
    plainBody := fun _ _ h => by cases h
    mixed := h3 }
  exact { toCtxOk := hc, drawn := drawn_ok hc, loops := fun _ _ c _ _ => LoopsOk.none (fun _ _ => rfl) (fun _ _ => rfl) c }

/-- All that lies in memory is fixed. -/
def allOld : Kinds := fun _ => .old

/-- Of what was there nothing has turned. -/
def Grew (w w' : World) : Prop := w.keptBut w' (fun _ => False) ∧ (∀ a : Addr, a.block < w.heap.size → w'.frozen? a = w.frozen? a) ∧ w.heap.size ≤ w'.heap.size

theorem grown_of {w w' : World} {K' : Kinds} (g : Ext w allOld w' K') : Grew w w' := by
  refine ⟨⟨g.os, g.output, fun i hi => ?_⟩, fun a ha => World.frozen?_of_block (g.fix _ ha rfl).2, g.size⟩
  rw [(g.fix i hi rfl).2]
  cases w.heap[i]? with
  | none => rfl
  | some o => cases o <;> simp

/-- A law: its walk ends with true. -/
theorem law_mk {C : Ctx} (hC : Good C) (d unroll : Nat) {f : FuncId} {args : List AV} (h : evF C drawOk unroll d f args [] 64 fin = some (.bool true, [], 64)) {w : World} {vs : List Value} (hv : RVs w allOld args vs) :
    Calls C.P f vs.toArray w fun e w' => e = .returned (.bool true) ∧ Grew w w' := by
  refine (evF_ok hC unroll d f).1 _ _ _ _ _ h w allOld vs hv ⟨(fun _ _ _ hk => by cases hk), (fun _ _ _ _ _ hk _ => by cases hk)⟩ _ (fun av u h' nx' w' K' g hrv hh hkc => ?_) (fun u h' nx' w' K' g hh hkc => by cases hkc)
  unfold fin at hkc
  split at hkc
  · cases hkc
  unfold tidy at hkc
  simp only [List.map_cons, List.map_nil, Option.some.injEq, Prod.mk.injEq] at hkc
  obtain ⟨e1, e2, _⟩ := hkc
  have := tidy_RV (B := 0) (ρ := tagAt (addNew [] (allRows [av] ++ heapRows (below 0 h')))) hrv
  rw [e1] at this
  exact ⟨by rw [RV.bool this], grown_of g⟩

/-- The same by what is known of the law's function. -/
theorem law_plain {C : Ctx} (hC : Good C) {f : FuncId} {ps : Plain} (hp : C.plain f = some ps) {args : List AV} (h : ps args = some (true, .bool true)) {w : World} {vs : List Value} (hv : RVs w allOld args vs) :
    Calls C.P f vs.toArray w fun e w' => e = .returned (.bool true) ∧ Grew w w' := by
  refine (hC.plain f ps hp args _ h w allOld vs hv (fun _ _ => rfl)).mono ?_
  rintro e w' ⟨r, K', rfl, g, _, hr⟩
  exact ⟨by rw [RV.bool hr], grown_of g⟩

theorem rv_int (w : World) (K : Kinds) (k : IntKind) (n : Int) : RV w K (.int k n) (.int k n) := ⟨rfl, (fun e => (by cases e)), (fun _ _ e => (by cases e))⟩
theorem rv_bool (w : World) (K : Kinds) (b : Bool) : RV w K (.bool b) (.bool b) := ⟨rfl, (fun e => (by cases e)), (fun _ _ e => (by cases e))⟩

end Go.Av
