/- The abstract walk is right: calls and regions. -/
import Derived.Test.YtbfhpnnnfjjjnaaAvEnter
namespace Go.Av
open Go

def RVs (w : World) (K : Kinds) : List AV → List Value → Prop
  | [], [] => True
  | a :: as, v :: vs => RV w K a v ∧ RVs w K as vs
  | _, _ => False

theorem RVs.length {w : World} {K : Kinds} : ∀ {as : List AV} {vs : List Value}, RVs w K as vs → as.length = vs.length
  | [], [], _ => rfl
  | _ :: _, _ :: _, h => by simp [RVs.length h.2]
  | [], _ :: _, h => h.elim
  | _ :: _, [], h => h.elim

theorem RVs.map {w w' : World} {K K' : Kinds} {f : AV → AV} (hf : ∀ a v, RV w K a v → RV w' K' (f a) v) : ∀ {as : List AV} {vs : List Value}, RVs w K as vs → RVs w' K' (as.map f) vs
  | [], [], _ => trivial
  | _ :: _, _ :: _, h => ⟨hf _ _ h.1, RVs.map hf h.2⟩
  | [], _ :: _, h => h.elim
  | _ :: _, [], h => h.elim

theorem RVs.append {w : World} {K : Kinds} : ∀ {as bs : List AV} {vs us : List Value}, RVs w K as vs → RVs w K bs us → RVs w K (as ++ bs) (vs ++ us)
  | [], _, [], _, _, h => h
  | _ :: _, _, _ :: _, _, h, h' => ⟨h.1, RVs.append h.2 h'⟩
  | [], _, _ :: _, _, h, _ => h.elim
  | _ :: _, _, [], _, h, _ => h.elim

/-- A function, as it is walked: from arguments and boxes on. -/
def BodyOk (P : Program) (f : FuncId) (body : List AV → Heap → Nat → (AV → Heap → Nat → Option R) → Option R) : Prop :=
  ∀ args h nx Kc r, body args h nx Kc = some r → ∀ (w : World) (K : Kinds) (vs : List Value), RVs w K args vs → HeapOk w K h → ∀ (Rf : Ending → World → Prop),
    (∀ av v h' nx' w' K', Ext w K w' K' → RV w' K' av v → HeapOk w' K' h' → Kc av h' nx' = some r → Rf (.returned v) w') → Calls P f vs.toArray w Rf

/-- A function of plain arguments that leaves all as it was. -/
def PlainOk (P : Program) (f : FuncId) (ps : Plain) : Prop :=
  ∀ args v, ps args = some (true, v) → ∀ (w : World) (K : Kinds) (vs : List Value), RVs w K args vs → (∀ b, b < w.heap.size → (K b).fixed = true) →
    Calls P f vs.toArray w fun e w' => ∃ r K', e = .returned r ∧ Ext w K w' K' ∧ (∀ b id, b < w'.heap.size → K' b ≠ .box id) ∧ RV w' K' v r

structure CtxOk (C : Ctx) : Prop where
  eqs : C.eqs.all (eqOk C.P) = true
  plain : ∀ f ps, C.plain f = some ps → PlainOk C.P f ps
  names : ∀ (f : FuncId) (fn : Func), C.P.funcs[f]? = some fn → fn.name ≠ "runtime.NumGoroutine"
  plainBody : ∀ f ps, C.plain f = some ps → ∃ fn, C.P.funcs[f]? = some fn ∧ fn.body.isSome = true
  mixed : C.P.follows .mixedOrders = true

section
variable {C : Ctx} {fr : Fr} {n : Nat} {K : Kinds} {s : St} {a : Act} {w : World}

theorem bs_get {bs : List Nat} {h : Heap} (hb : bs.all (hasBox h) = true) : ∀ j, j < bs.length → ∃ x y, bs[j]? = some x ∧ look x h = some y := by
  intro j hj
  have := List.all_eq_true.1 hb bs[j] (List.getElem_mem hj)
  obtain ⟨y, hy⟩ := Option.isSome_iff_exists.1 this
  exact ⟨bs[j], y, List.getElem?_eq_getElem hj, hy⟩

theorem inCall_ok {f : FuncId} {body : List AV → Heap → Nat → (AV → Heap → Nat → Option R) → Option R} (hbody : BodyOk C.P f body) {args : List AV} {Kc : AV → St → Option R} {r : R} (h : inCall body args s Kc = some r)
    (hr : Rel fr n K s a w) {vs : List Value} (hv : RVs w K args vs) (Rf : Ending → World → Prop) (hk : ∀ av v s' K' w', Rel fr n K' s' a w' → RV w' K' av v → Kc av s' = some r → Rf (.returned v) w') :
    Calls C.P f vs.toArray w Rf := by
  unfold inCall at h
  simp only at h
  split at h
  · rename_i hcond
    simp only [Bool.and_eq_true] at hcond
    obtain ⟨hnd, hbs⟩ := hcond
    generalize reach s.heap 4 (addNew [] ((allBoxes args).filter (hasBox s.heap))) = bs at *
    generalize addNew [] (contentRows s.heap bs) = ts at *
    have hin : RVs w (farK ts bs K) (args.map (·.ren noRow fun id => indexIn id bs 0)) vs :=
      RVs.map (fun a v hh => hh.enter (fun _ _ e => by cases e) (fun _ _ e => e)) hv
    have hho := HeapOk.enter (ts := ts) hr.heapOk (bs_get hbs)
    refine hbody _ _ _ _ _ h w (farK ts bs K) vs hin hho Rf (fun av v h' nx' w' K' g hrv hho' hkc => ?_)
    split at hkc
    · rename_i hf
      have hl := HeapOk.leave hr.heapOk hnd hbs g hho' hf
      refine hk _ v _ (backK s.next ts bs w K K') w' ?_ (RV.leave g hrv) hkc
      exact {
        ext := hr.ext.trans (backK_ext g)
        size := hr.size
        defers := hr.defers
        ents := fun t av ht => by
          simp only [look_mapV, Option.map_eq_some_iff] at ht
          obtain ⟨av', e1, e2⟩ := ht
          subst e2
          exact RV.back g (hr.ents t av' e1)
        frame := fun t ht => hr.frame t (by simpa [look_mapV] using ht)
        heap := hl.cells
        uniq := hl.uniq }
    · cases hkc
  · cases h

/-- A plain call. -/
theorem plain_ok {f : FuncId} {ps : Plain} (hp : PlainOk C.P f ps) {args : List AV} {v : AV} (h : ps (args.map (·.ren noRow noRow)) = some (true, v)) (hr : Rel fr n K s a w) {vs : List Value} (hv : RVs w K args vs) (N : Nat) :
    Calls C.P f vs.toArray w fun e w' => ∃ r K', e = .returned r ∧ Rel fr n K' s a w' ∧ RV w' K' (v.ren (nthOr N []) (nthOr N [])) r := by
  have hin : RVs w (farK [] [] K) (args.map (·.ren noRow noRow)) vs := RVs.map (fun a v hh => hh.enter (fun _ _ e => by cases e) (fun _ _ e => by cases e)) hv
  refine (hp _ _ h w (farK [] [] K) vs hin (fun b _ => ?_)).mono ?_
  · unfold farK
    cases K b <;> rfl
  · rintro e w' ⟨r, K', he, g, hno, hrv⟩
    refine ⟨r, backK N [] [] w K K', he, hr.still ?_, RV.leave g hrv⟩
    exact {
      ext := backK_ext g
      rows := fun b id u hb hk => by
        have hf : farK [] [] K b = .far u := by unfold farK; rw [hk]; rfl
        obtain ⟨_, h2⟩ := g.fix b hb (by rw [hf]; rfl)
        refine ⟨?_, h2⟩
        unfold backK
        simp only [hb, if_true, hk]
        rfl
      boxes := fun b id hb hk => by
        have hf : farK [] [] K b = .far 0 := by unfold farK; rw [hk]; rfl
        exact (g.fix b hb (by rw [hf]; rfl)).2
      fresh := fun b hb id hk => by
        by_cases hlt : b < w.heap.size
        · refine ⟨hlt, ?_⟩
          unfold backK at hk
          simp only [hlt, if_true] at hk
          cases e : K b with
          | old => rw [e] at hk; cases hk
          | far u => rw [e] at hk; cases hk
          | box id' => rw [e] at hk; cases hk; rfl
          | row id' u => rw [e] at hk; cases hk
        · unfold backK at hk
          simp only [hlt, if_false] at hk
          cases e : K' b with
          | old => rw [e] at hk; cases hk
          | far u => rw [e] at hk; cases hk
          | box id' => exact (hno b id' hb e).elim
          | row id' u => rw [e] at hk; simp only [renKind] at hk; split at hk <;> cases hk }

theorem parts_ok : ∀ (d : Nat) (sh : Sh) (x : sh.den) (cs : List Value), unpack sh d = true → RS w K sh x cs → (∀ c ∈ cs, c.oneCell' = true) → RVs w K (parts d ⟨sh, x⟩) cs := by
  intro d
  induction d with
  | zero =>
    intro sh x cs h hr _
    cases sh <;> try cases h
    rename_i t
    cases t <;> first | cases h | skip
    rw [show cs = [] from hr]
    trivial
  | succ d ih =>
    intro sh x cs h hr h1
    have fin : ∀ (p q : AV) (c1 c2 : List Value), RS w K p.sh p.v c1 → p.sh.agg = false → cs = c1 ++ c2 → RVs w K (parts d q) c2 → RVs w K (p :: parts d q) cs := by
      intro p q c1 c2 hp hg he hq
      have hl := RS.length _ _ _ hp
      rw [Sh.size_pos _ hg] at hl
      obtain ⟨c, rfl⟩ := List.length_eq_one_iff.1 hl
      subst he
      exact ⟨RV.scalar hp hg (h1 c (by simp)), hq⟩
    cases sh with
    | pair a b =>
      simp only [unpack, Bool.and_eq_true, Bool.not_eq_true'] at h
      obtain ⟨c1, c2, e, r1, r2⟩ := hr
      exact fin ⟨a, x.1⟩ ⟨b, x.2⟩ c1 c2 r1 h.1 e (ih b x.2 c2 h.2 r2 (fun c hc => h1 c (by rw [e]; simp [hc])))
    | ty t =>
      cases t with
      | unit =>
        rw [show cs = [] from hr]
        trivial
      | pair a b =>
        simp only [unpack, Bool.and_eq_true, Bool.not_eq_true'] at h
        obtain ⟨c1, c2, e, r1, r2⟩ := hr
        exact fin ⟨.ty a, x.1⟩ ⟨.ty b, x.2⟩ c1 c2 r1 h.1 e (ih (.ty b) x.2 c2 h.2 r2 (fun c hc => h1 c (by rw [e]; simp [hc])))
      | _ => cases h
    | _ => cases h

theorem args_ok (hr : Rel fr n K s a w) : ∀ l : List Operand, RVs w K (l.map (opnd s)) (l.map a.eval)
  | [] => trivial
  | x :: l => ⟨opnd_RV hr x, args_ok hr l⟩

theorem callee_ok (hC : CtxOk C) (hr : Rel fr n K s a w) {o : Oper} {c : Call} (ho : o.op = .call c) {g : FuncId} {args : List AV} (h : calleeOf s c = some (g, args)) {fn : Func} (hfn : C.P.funcs[g]? = some fn) (hb : fn.body.isSome = true) :
    ∃ vs, (execOp a.eval o).run C.P w = .ok (.enter g vs.toArray) w ∧ RVs w K args vs := by
  unfold calleeOf at h
  split at h
  · rename_i f hcal
    split at h
    · rename_i g' caps x hx
      split at h
      · rename_i hun
        cases h
        have hv := opnd_RV hr f
        rw [hx] at hv
        obtain ⟨cc, hcc, hrs⟩ := RV.fn hv
        refine ⟨c.args.toList.map a.eval ++ cc, ?_, RVs.append (args_ok hr _) (parts_ok 12 caps x cc hun hrs (RS.one _ _ _ hrs))⟩
        have hnm := hC.names g fn hfn
        have hbn : ¬ fn.body = none := fun e => by rw [e] at hb; cases hb
        have e1 : c.args.map a.eval ++ cc.toArray = (c.args.toList.map a.eval ++ cc).toArray := by
          apply Array.ext'
          simp
        rw [← e1]
        simp [execOp, ho, resolve, hcal, Deferred.ofValue, hcc, invoke, callFunc, hfn, hnm, hbn]
      · cases h
    · rename_i g' hx
      cases h
      have hv := opnd_RV hr f
      rw [hx] at hv
      have hcc := RV.func hv
      refine ⟨c.args.toList.map a.eval, ?_, args_ok hr _⟩
      have hnm := hC.names g fn hfn
      have hbn : ¬ fn.body = none := fun e => by rw [e] at hb; cases hb
      have e1 : c.args.map a.eval = (c.args.toList.map a.eval).toArray := by
        apply Array.ext'
        simp
      rw [← e1]
      simp [execOp, ho, resolve, hcal, Deferred.ofValue, hcc, fnVal, invoke, callFunc, hfn, hnm, hbn]
    · cases h
  · cases h

/-- Each callee as it is walked. -/
def CallsOk (P : Program) (call : CallIn) : Prop := ∀ f, BodyOk P f (call f) ∧ ∀ args h nx Kc r, call f args h nx Kc = some r → ∃ fn, P.funcs[f]? = some fn ∧ fn.body.isSome = true

theorem dstOk_spec {o : Oper} (h : dstOk n o = true) : ∀ t, o.dst = some t → t < n := by
  intro t ht
  unfold dstOk at h
  rw [ht] at h
  simpa [Nat.blt_eq] using h

theorem upon_opOk {o : Oper} {e : Eff} {next : Act → World → Prop} {Q : Exit → Act → World → Prop} (h : OpOk C.P fr n s a w o e) (hn : ∀ K' a' w', Rel fr n K' (s.apply o.dst e) a' w' → next a' w') : o.wp C.P a w next Q := by
  obtain ⟨v, w', K', hrun, hrel⟩ := h
  unfold Oper.wp
  rcases hrun with hrun | ⟨hrun, rfl⟩
  · rw [hrun]; exact hn _ _ _ hrel
  · rw [hrun]; exact hn _ _ _ hrel

theorem effOf_ok (hC : CtxOk C) {no : Lim} {id : Nat} {o : Oper} {c : Bool} {e : Eff} (h : effOf C s no id o = some (c, e)) (hc : c = true) (hr : Rel fr n K s a w) (hd : dstOk n o = true) {next : Act → World → Prop} {Q : Exit → Act → World → Prop}
    (hn : ∀ K' a' w', Rel fr n K' (s.apply o.dst e) a' w' → next a' w') : o.wp C.P a w next Q := by
  have hd' := dstOk_spec hd
  unfold effOf at h
  split at h
  · rename_i cl ho
    split at h
    · rename_i g args hcal
      split at h
      · rename_i ps hps
        obtain ⟨⟨c', v⟩, hv, e'⟩ := Option.map_eq_some_iff.1 h
        simp only [Prod.mk.injEq] at e'
        obtain ⟨e1, e2⟩ := e'
        subst e1
        subst e2
        subst hc
        obtain ⟨fn, hfn, hb⟩ := hC.plainBody g ps hps
        obtain ⟨vs, hrun, hvs⟩ := callee_ok hC hr ho hcal hfn hb
        unfold Oper.wp
        rw [hrun, Oper.upon_enter]
        refine (plain_ok (hC.plain g ps hps) hv hr hvs id).mono ?_
        rintro e w' ⟨r, K', rfl, hrel, hrv⟩
        exact hn K' _ _ (hrel.setO hd' hrv)
      · cases h
    · exact upon_opOk (opE_ok hC.eqs hr hd' h hc) hn
  · exact upon_opOk (opE_ok hC.eqs hr hd' h hc) hn

theorem stepOp_ok (hC : CtxOk C) {call : CallIn} (hcall : CallsOk C.P call) {no : Lim} {id : Nat} {o : Oper} {Kc : St → Option R} {r : R} (h : stepOp C call n no id o s Kc = some r) (hr : Rel fr n K s a w) {next : Act → World → Prop} {Q : Exit → Act → World → Prop}
    (hn : ∀ s' K' a' w', Rel fr n K' s' a' w' → Kc s' = some r → next a' w') : o.wp C.P a w next Q := by
  unfold stepOp at h
  cases hd : dstOk n o
  · rw [hd] at h; cases h
  · rw [hd] at h
    simp only [cond_true] at h
    split at h
    · rename_i g args hw
      unfold walked at hw
      split at hw
      · rename_i cl ho
        split at hw
        · rename_i g' args' hcal
          split at hw
          · cases hw
          · cases hw
            have hne : ∃ fn, C.P.funcs[g]? = some fn ∧ fn.body.isSome = true := by
              unfold inCall at h
              simp only at h
              split at h
              · exact (hcall g).2 _ _ _ _ _ h
              · cases h
            obtain ⟨fn, hfn, hb⟩ := hne
            obtain ⟨vs, hrun, hvs⟩ := callee_ok hC hr ho hcal hfn hb
            unfold Oper.wp
            rw [hrun, Oper.upon_enter]
            refine inCall_ok (hcall g).1 h hr hvs _ (fun av v s' K' w' hrel hrv hkc => ?_)
            exact hn _ K' _ _ (hrel.setO (dstOk_spec hd) hrv) hkc
        · cases hw
      · cases hw
    · split at h
      · rename_i c e he
        cases c
        · cases h
        · exact effOf_ok hC he rfl hr hd (fun K' a' w' hrel => hn _ K' a' w' hrel h)
      · cases h

/-! ### Regions -/

theorem look_set_same {d : Nat} {av : AV} : ∀ l : List (Nat × AV), look d l = some av → put d av l = l
  | [], h => by cases h
  | (j, u) :: l, h => by
    simp only [look] at h
    simp only [put]
    split at h
    · rename_i e
      cases h
      rw [if_pos e]
      simp only [beq_iff_eq] at e
      rw [e]
    · rename_i e
      split at h
      · cases h
      · rename_i e'
        rw [if_neg e, if_neg e', look_set_same l h]

theorem set_same {d : Nat} {b c : Bool} (h : s.get d = ⟨.ty .bool, b⟩) (e : b = c) : s.set d (.bool c) = s := by
  subst e
  have : look d s.ents = some (.bool b) := by
    unfold St.get at h
    cases hl : look d s.ents with
    | none => rw [hl] at h; cases h
    | some av => rw [hl] at h; exact congrArg some h
  unfold St.set
  rw [look_set_same _ this]

theorem wanted_of {ops : Array Oper} {o : Oper} {j : Nat} {want : Bool} {d : Nat} {b : Bool} (hr : Rel fr n K s a w) (hg : o.guard = some (j, want)) (hs : guardSlot ops j = some d) (hb : s.get d = ⟨.ty .bool, b⟩) :
    Region.wanted o (yielded ops a.tmps) = (b == want) := by
  have hv := RV.bool (hb ▸ hr.get d)
  have hlt : d < a.tmps.size := by
    rcases Nat.lt_or_ge d a.tmps.size with h | h
    · exact h
    · rw [Array.getD_eq_getD_getElem?, Array.getElem?_eq_none h] at hv
      cases hv
  have hy : yielded ops a.tmps j = some b := by
    unfold guardSlot at hs
    unfold yielded
    rw [hs]
    simp only [Option.bind_some]
    rw [Array.getD_eq_getD_getElem?, Array.getElem?_eq_getElem hlt] at hv
    simp only [Option.getD_some] at hv
    rw [Array.getElem?_eq_getElem hlt, hv]
  simp only [Region.wanted, hg, hy]
  cases b <;> cases want <;> rfl

theorem RV_undef {w : World} {K : Kinds} : RV w K .undef undef := ⟨#[], rfl, rfl⟩

theorem wanted_undef {ops : Array Oper} {o : Oper} {j : Nat} {want : Bool} {d : Nat} {x : Unit} (hr : Rel fr n K s a w) (hg : o.guard = some (j, want)) (hs : guardSlot ops j = some d) (hb : s.get d = ⟨.tup (.ty .unit), x⟩) :
    Region.wanted o (yielded ops a.tmps) = false := by
  have hv := hr.get d
  rw [hb] at hv
  obtain ⟨vs, e, _⟩ := hv
  have hy : yielded ops a.tmps j = none := by
    unfold guardSlot at hs
    unfold yielded
    rw [hs]
    simp only [Option.bind_some]
    rw [Array.getD_eq_getD_getElem?] at e
    cases h : a.tmps[d]? with
    | none => rfl
    | some v =>
      rw [h] at e
      simp only [Option.getD_some] at e
      rw [e]
  simp [Region.wanted, hg, hy]

theorem runOps_ok (hC : CtxOk C) {call : CallIn} (hcall : CallsOk C.P call) {no : Lim} {ops : Array Oper} {Q : Exit → Act → World → Prop} : ∀ (l : List Oper) (k id : Nat) (s : St) (K : Kinds) (a : Act) (w : World) (Kc : St → Option R) (r : R), (∀ j, l[j]? = ops[k + j]?) →
    runOps C call n no ops l id s Kc = some r → Rel fr n K s a w → (∀ s' K' a' w', Rel fr n K' s' a' w' → Kc s' = some r → Q .normal a' w') → wpOps C.P ops Q (List.range' k l.length) a w
  | [], k, id, s, K, a, w, Kc, r, _, h, hr, hq => by
    simp only [List.length_nil, List.range'_zero, wpOps]
    exact hq s K a w hr h
  | o :: l, k, id, s, K, a, w, Kc, r, hl, h, hr, hq => by
    have h0 : ops[k]? = some o := by simpa using (hl 0).symm
    have hrest : ∀ j, l[j]? = ops[k + 1 + j]? := fun j => by
      have := hl (j + 1)
      rw [show k + 1 + j = k + (j + 1) by omega]
      simpa using this
    simp only [List.length_cons, List.range'_succ, wpOps, h0]
    have go : ∀ s', stepOp C call n no id o s' (fun s => runOps C call n no ops l (id + 16) s Kc) = some r → Rel fr n K s' a w → o.wp C.P a w (wpOps C.P ops Q (List.range' (k + 1) l.length)) Q := fun s' hs hr' =>
      stepOp_ok hC hcall hs hr' (fun s'' K' a' w' hrel hkc => runOps_ok hC hcall l (k + 1) (id + 16) s'' K' a' w' Kc r hrest hkc hrel hq)
    have sk : ∀ s', (bif dstOk n o then runOps C call n no ops l (id + 16) (s'.setO o.dst .undef) Kc else none) = some r → Rel fr n K s' a w → wpOps C.P ops Q (List.range' (k + 1) l.length) (a.put o.dst undef) w := fun s' hs hr' => by
      cases hd : dstOk n o
      · rw [hd] at hs; cases hs
      · rw [hd] at hs
        exact runOps_ok hC hcall l (k + 1) (id + 16) _ K _ w Kc r hrest hs (hr'.setO (dstOk_spec hd) RV_undef) hq
    unfold runOps at h
    split at h
    · rename_i hg
      have hw : Region.wanted o (yielded ops a.tmps) = true := by simp [Region.wanted, hg]
      rw [if_pos hw]
      exact .inl (go s h hr)
    · rename_i j want hg
      split at h
      · rename_i d hs
        split at h
        · rename_i b hb
          have hw := wanted_of hr hg hs hb
          cases b
          · simp only [cond_false] at h
            rw [set_same hb rfl] at h
            cases want
            · rw [hw]
              exact .inl (go s h hr)
            · rw [hw]
              exact sk s h hr
          · simp only [cond_true] at h
            rw [set_same hb rfl] at h
            cases want
            · rw [hw]
              exact sk s h hr
            · rw [hw]
              exact .inl (go s h hr)
        · rename_i x hb
          have hw := wanted_undef hr hg hs hb
          rw [hw]
          exact sk s h hr
        · cases h
      · cases h

end
end Go.Av
