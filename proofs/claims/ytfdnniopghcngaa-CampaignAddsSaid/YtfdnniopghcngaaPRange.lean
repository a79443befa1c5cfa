/- A range over a function: what a loop asks of the function that is ranged over, and what a round does. -/
import Derived.RangeFuncNested
import Derived.RangeFuncCalls
import Derived.RangeFuncLeaves
import Derived.OwnWalkIn
import Derived.Test.YtfdnniopghcngaaAvApp
namespace Go.Av
open Go Go.RowKit

/-- A loop's record. -/
abbrev loopRec (fn : FuncId) (tmps : Array Value) (ps : Array Tmp) (assign body : Code) (D : Nat) (st : LoopState) (pe : Option Code) : Go.Loop :=
  { state := st, pending := pe, fn := fn, tmps := tmps, params := ps, assign := assign, body := body, defers := D }

section
variable {F : Fence} {n : Nat} {P : Program}

def afterRounds (F : Fence) (n : Nat) (P : Program) (l : Nat) (rc : LoopState → Option Code → Go.Loop) (Q : Exit → Act → World → Prop) (a' : Act) (e : Ending) (W' : World) : Prop :=
  (∃ v, e = .returned v) ∧ ((W'.heap[l]? = some (.loop (rc .ready none)) ∧ Q .normal a' (W'.putObj l (.loop (rc .exhausted none)))) ∨
    ∃ c, W'.heap[l]? = some (.loop (rc .done (some c))) ∧ c.wpIn F n P Q a' (W'.putObj l (.loop (rc .exhausted (some c)))))

theorem range_over {g : Operand} {ps : Array Tmp} {assign body : Code} {Q : Exit → Act → World → Prop} {a : Act} {w : World} (hro : F.round = none) (h1 : 1 ≤ n)
    {gf : Nat} {lb : Array Value} (hg : a.eval g = .func (.func gf) #[] lb) (hF : F.fn gf) (eg : ∀ args w, (callFunc gf args).run P w = .ok (.enter gf args) w)
    (h : ∀ fn, F.fn fn → CallsIn F (n - 1) P gf (#[.func (.yield (w.heap.size + 1)) #[] #[]] ++ lb) ((w.alloc (.deferred (some []))).alloc (.loop (loopRec fn a.tmps ps assign body w.heap.size .ready none)))
      (afterRounds F n P (w.heap.size + 1) (loopRec fn a.tmps ps assign body w.heap.size) Q { a with defers := { target := .collected w.heap.size, args := #[] } :: a.defers })) :
    (Code.rangeFunc g ps assign body).wpIn F n P Q a w := by
  refine wpIn_rangeFunc ?_
  intro fn hfn
  rw [hro]
  have hh := h fn hfn
  obtain ⟨rc, hrc⟩ : ∃ rc : LoopState → Option Code → Go.Loop, rc = loopRec fn a.tmps ps assign body w.heap.size := ⟨_, rfl⟩
  rw [← hrc] at hh
  have hst : ∀ st pe, (rc st pe).state = st := fun st pe => by rw [hrc]
  have hpe : ∀ st pe, (rc st pe).pending = pe := fun st pe => by rw [hrc]
  have hex : ∀ st pe, ({ rc st pe with state := .exhausted } : Go.Loop) = rc .exhausted pe := fun st pe => by rw [hrc]
  obtain ⟨W1, hW1⟩ : ∃ W1, (w.alloc (.deferred (some []))).alloc (.loop (rc .ready none)) = W1 := ⟨_, rfl⟩
  rw [hW1] at hh
  refine ⟨w.heap.size + 1, [{ target := .collected w.heap.size, args := #[] }], W1, { target := .fn (.func gf) lb, args := #[.func (.yield (w.heap.size + 1)) #[] #[]] }, W1, gf,
    #[.func (.yield (w.heap.size + 1)) #[] #[]] ++ lb, W1, ?_, ?_, ?_, ?_, fun _ => h1, ?_⟩
  · rw [← hW1, hrc]
    exact run_enterLoop_outer _ _ _ _ _
  · simp only [resolve, hg]
    simp [go_sem]
  · intro f' hf'
    simp [Target.leads] at hf'
    subst hf'
    exact hF
  · simp [invoke, go_sem, eg]
  · refine hh.mono ?_
    rintro e W2 ⟨⟨v, rfl⟩, ⟨hl, hq⟩ | ⟨c, hl, hq⟩⟩
    · refine ⟨none, _, ?_, hq⟩
      have := run_endLoop (P := P) hl (by rw [hst]; simp)
      rw [hex, hpe] at this
      exact this
    · refine ⟨some c, _, ?_, hq⟩
      have := run_endLoop (P := P) hl (by rw [hst]; simp)
      rw [hex, hpe] at this
      exact this

/-- How a round may be left. -/
def roundEnd (l : Nat) (rc : LoopState → Option Code → Go.Loop) (R : Ending → World → Prop) : Exit → Act → World → Prop
  | .normal, _, W => W.heap[l]? = some (.loop (rc .busy none)) ∧ R (.returned (.bool true)) (W.putObj l (.loop (rc .ready none)))
  | .ret, _, W => W.heap[l]? = some (.loop (rc .busy none)) ∧ R (.returned (.bool false)) (W.putObj l (.loop (rc .done (some .ret))))
  | .exit id, _, W => W.heap[l]? = some (.loop (rc .busy none)) ∧ R (.returned (.bool false)) (W.putObj l (.loop (rc .done (some (.exit id)))))
  | _, _, _ => False

theorem round_at {l : Nat} {fn : FuncId} {tmps : Array Value} {ps : Array Tmp} {assign body : Code} {D : Nat} {W : World} {args : Array Value} {R : Ending → World → Prop} (hF : F.fn fn)
    (hl : W.heap[l]? = some (.loop (loopRec fn tmps ps assign body D .ready none))) (hs : args.size = ps.size)
    (h : assign.wpIn (F.inRound l) n P (Exit.then (fun a1 W1 => W1.heap[l]? = some (.loop (loopRec fn tmps ps assign body D .ready none)) ∧
        body.wpIn (F.inRound l) n P (roundEnd l (loopRec fn tmps ps assign body D) R) a1 (W1.putObj l (.loop (loopRec fn tmps ps assign body D .busy none)))) (fun _ _ _ => False))
      { tmps := (ps.zip args).foldl (fun t (p, v) => t.setIfInBounds p v) tmps, defers := [] } W) : YieldAt F n P l args W R := by
  have hy := run_yield (P := P) (args := args) hl hs
  refine ⟨fn, _, assign, body, hy, roundIn_of_wpIn hF (wpIn_mono h ?_)⟩
  intro e a1 W1 hp
  cases e with
  | normal =>
    obtain ⟨hl1, hb⟩ := hp
    refine ⟨_, run_beginRound hl1 rfl, wpIn_mono hb ?_⟩
    intro e a2 W2 hp
    cases e with
    | normal => exact ⟨_, _, run_endRound (P := P) none hp.1, hp.2⟩
    | ret => exact ⟨_, _, run_endRound (P := P) (some .ret) hp.1, hp.2⟩
    | exit id => exact ⟨_, _, run_endRound (P := P) (some (.exit id)) hp.1, hp.2⟩
    | goto t => exact hp.elim
    | panic ch => exact hp.elim
    | outgrown => exact hp.elim
  | ret => exact hp.elim
  | exit id => exact hp.elim
  | goto t => exact hp.elim
  | panic ch => exact hp.elim
  | outgrown => exact hp.elim

theorem round_rc {l : Nat} {fn : FuncId} {tmps : Array Value} {ps : Array Tmp} {assign body : Code} {D : Nat} {rc : LoopState → Option Code → Go.Loop} (hrc : loopRec fn tmps ps assign body D = rc) {W : World} {args : Array Value} {R : Ending → World → Prop} (hF : F.fn fn)
    (hl : W.heap[l]? = some (.loop (rc .ready none))) (hs : args.size = ps.size)
    (h : assign.wpIn (F.inRound l) n P (Exit.then (fun a1 W1 => W1.heap[l]? = some (.loop (rc .ready none)) ∧
        body.wpIn (F.inRound l) n P (roundEnd l rc R) a1 (W1.putObj l (.loop (rc .busy none)))) (fun _ _ _ => False))
      { tmps := (ps.zip args).foldl (fun t (p, v) => t.setIfInBounds p v) tmps, defers := [] } W) : YieldAt F n P l args W R := by
  subst hrc
  exact round_at hF hl hs h
end

/-! ### What is frozen -/

def Obj.thaw : Obj → Bool
  | .cells _ _ (0, 0) => true
  | .cells _ _ _ => false
  | _ => true

theorem frozen_thaw {W : World} {a : Addr} (h : ∀ o, W.heap[a.block]? = some o → Obj.thaw o = true) : W.frozen? a = false := by
  unfold World.frozen?
  split
  · rename_i c t lo hi e
    have := h _ e
    unfold Obj.thaw at this
    split at this
    · rename_i e'
      cases e'
      simp
    · cases this
    · rename_i h1 h2
      exact (h2 _ _ _ rfl).elim
  · rfl

theorem frz_alloc (w : World) (o : Obj) (ho : Obj.thaw o = true) (a : Addr) : (w.alloc o).frozen? a = w.frozen? a := by
  by_cases h : a.block < w.heap.size
  · exact World.frozen?_of_block (Below.heap_alloc w o _ h)
  · rw [frozen_thaw (W := w) (fun o' e => by rw [Array.getElem?_eq_none (by omega)] at e; cases e)]
    refine frozen_thaw (fun o' e => ?_)
    have hlt := (Array.getElem?_eq_some_iff.1 e).1
    rw [World.size_alloc] at hlt
    have hb : a.block = w.heap.size := by omega
    rw [hb, World.alloc_heap_new] at e
    cases e
    exact ho

theorem frz_putObj (w : World) (l : Nat) (o o' : Obj) (hl : w.heap[l]? = some o) (h1 : Obj.thaw o = true) (h2 : Obj.thaw o' = true) (a : Addr) : (w.putObj l o').frozen? a = w.frozen? a := by
  by_cases h : a.block = l
  · rw [frozen_thaw (W := w) (fun x e => by rw [h, hl] at e; cases e; exact h1)]
    refine frozen_thaw (fun x e => ?_)
    rw [h, World.putObj_heap_same (Array.getElem?_eq_some_iff.1 hl).1] at e
    cases e
    exact h2
  · exact World.frozen?_of_block (World.putObj_heap_other h)

variable {P : Program} {w : World}

theorem run_append_frz (base : Nat) (t ty e : TypeId) (i : TypeInfo) (z : Value) (size bytes : Nat) (ht : P.underlying t = some (.slice e)) (hi : P.info? e = some i) (hz : i.zero = some z)
    (hsize : i.size = size) (hby : i.bytes = bytes) (hzs : z.cells.size = size) (hsz : 0 < size)
    (v : Value) (n : Nat) (xs : List Value) (hown : w.ownsRow base e size v n xs)
    (a : Addr) (m c : Nat) (hm : 0 < m) (news : List Value) (hl : news.length = m * size) (hnews : ∀ j u, news[j]? = some u → w.cell? (a.add j) = some u) (h1 : ∀ u ∈ news, u.oneCell' = true)
    (h63 : n + m ≤ maxLen) (hbytes : (n + m) * bytes ≤ 140737488355328) (hbase : base ≤ w.heap.size) :
    ∃ v' w', (Builtin.append_ #[t, t] ty #[v, .slice (some a) m c]).run P w = .ok v' w' ∧ w'.ownsRow base e size v' (n + m) (xs ++ news) ∧ w.grownBy w' v.ownBlock ∧
      (v' = .slice none 0 0 ↔ v = .slice none 0 0 ∧ m = 0) ∧ ∀ x, w'.frozen? x = w.frozen? x := by
  obtain ⟨v', w', hr, r1, r2, r3⟩ := run_append_own (P := P) w base t ty e i z size bytes ht hi hz hsize hby hzs hsz v n xs hown a m c news hl hnews h1 h63 hbytes hbase
  refine ⟨v', w', hr, r1, r2, r3, fun x => ?_⟩
  subst hsize hby
  have hsmall : n + m ≤ 9223372036854775807 := by simp only [maxLen] at h63; omega
  rcases hown.2 with ⟨rfl, rfl⟩ | ⟨g, cap, cur, rfl, hg, hh, hle, _, hcs, hpre⟩
  · have := run_append_nil (P := P) w t ty e i z ht hi hz a m c news hl hnews hm (by omega) (by simp only [Nat.zero_add] at hbytes; omega)
    rw [this] at hr
    cases hr
    exact (frozen_alloc _ _ _ _)
  · by_cases hroom : n + m ≤ cap
    · have hfit : 0 + n * i.size + news.length ≤ cur.size := by
        have := Nat.mul_le_mul_right i.size hroom
        rw [hl, hcs, Nat.zero_add, ← Nat.add_mul]
        exact this
      have := run_append_row (P := P) t ty e i ht hi g 0 n cap cur e hh a m c news hl hnews h1 hroom hfit
      rw [this] at hr
      cases hr
      exact frozen_row (setRow_heap w g cur _ e (0, 0) hh) hh (fun y hy => setRow_other w g y _ hy) x
    · have hx : xs.length = n * i.size := hown.1
      have hc : ∀ j u, xs[j]? = some u → w.cell? ((⟨g, 0, none⟩ : Addr).add j) = some u := hown.cells (by rfl)
      have := run_append_grow (P := P) w t ty e i z ht hi hz ⟨g, 0, none⟩ n cap xs hx hc a m c news hl hnews (by omega) (by omega) (growslice_fits (by omega) hbytes)
      rw [this] at hr
      cases hr
      exact (frozen_alloc _ _ _ _)

theorem wpListIn_append_frz {F : Fence} {n : Nat} {P : Program} (w : World) {ops : Array Oper} {rest : List Oper} {o : Oper} {a : Act} {Q : Exit → Act → World → Prop}
    (hg : o.guard = none) (s x : Operand) (t : TypeId) (hop : o.op = Op.call { callee := Callee.builtin Builtin.append, args := #[s, x], argTypes := #[t, t] })
    (base : Nat) (e : TypeId) (i : TypeInfo) (z : Value) (size bytes : Nat) (h1 : P.underlying t = some (.slice e)) (h2 : P.info? e = some i) (h3 : i.zero = some z) (h4 : i.size = size) (h5 : i.bytes = bytes) (h6 : z.cells.size = size) (h7 : 0 < size)
    (v : Value) (k : Nat) (xs : List Value) (hs : a.eval s = v) (hown : w.ownsRow base e size v k xs) (ad : Addr) (m c : Nat) (hm : 0 < m) (news : List Value) (hx : a.eval x = .slice (some ad) m c) (hn : news.length = m * size)
    (hc : ∀ j u, news[j]? = some u → w.cell? (ad.add j) = some u) (h1c : ∀ u ∈ news, u.oneCell' = true) (b1 : k + m ≤ maxLen) (b2 : (k + m) * bytes ≤ 140737488355328) (b3 : base ≤ w.heap.size)
    (hK : ∀ v' w', w'.ownsRow base e size v' (k + m) (xs ++ news) → w.grownBy w' v.ownBlock → (∀ x, w'.frozen? x = w.frozen? x) → wpListIn F n P ops Q rest (a.put o.dst v') w') :
    wpListIn F n P ops Q (o :: rest) a w := by
  refine wpListIn_plain hg fun K hK' => ?_
  obtain ⟨v', w', hrun, r1, r2, _, r4⟩ := run_append_frz (P := P) (w := w) base t o.type e i z size bytes h1 h2 h3 h4 h5 h6 h7 v k xs hown ad m c hm news hn hc h1c b1 b2 b3
  unfold Oper.wpIn
  refine ⟨?_, ?_⟩
  · simp [Oper.about, hop, resolve, Target.leads, Sem.run_pure]
  · rw [Oper.semAt_plain F _ _ (by rw [hop]; intro c hc'; cases hc')]
    simp [execOp, hop, resolve, invoke, builtin, hs, hx, hrun, Result.andThen]
    exact hK' _ _ (hK v' w' r1 r2 r4)

end Go.Av
