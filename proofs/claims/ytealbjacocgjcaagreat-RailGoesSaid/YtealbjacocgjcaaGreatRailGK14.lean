/- Texts of the proof, one behind the other. -/
import Derived.Test.YtealbjacocgjcaaGreatRailGK13
import Derived.OrdersHeld
section
namespace Go.Av
open Go
def LoopOkG (n:Nat) (L:Loop) (G:(Exit→Act→World→Prop)→Act→World→Prop):Prop :=
 ∀(fr:Fr) (K:Kinds) (a:Act) (w:World) (vals:List AV) (heap:Heap) (nx:Nat) (Kt:Exit→List AV→Heap→Nat→Option R) (r:R),L.run vals heap nx Kt=some r→(∀t,fr.T t=(L.M++L.T).contains t) →
  Rel fr n K {ents:=zipM L.M vals,heap:=heap,next:=nx} a w→∀Q:Exit→Act→World→Prop,
  (∀e vals' heap' nx' K' a' w',Rel fr n K' {ents:=zipM L.M vals',heap:=heap',next:=nx'} a' w'→Kt e vals' heap' nx'=some r→Q e a' w')→G Q a w
def LoopOk (P:Program) (n:Nat) (body:Code) (L:Loop):Prop :=
 ∀(fr:Fr) (K:Kinds) (a:Act) (w:World) (vals:List AV) (heap:Heap) (nx:Nat) (Kt:Exit→List AV→Heap→Nat→Option R) (r:R),L.run vals heap nx Kt=some r→(∀t,fr.T t=(L.M++L.T).contains t) →
  Rel fr n K {ents:=zipM L.M vals,heap:=heap,next:=nx} a w→∀Q:Exit→Act→World→Prop,
  (∀e vals' heap' nx' K' a' w',Rel fr n K' {ents:=zipM L.M vals',heap:=heap',next:=nx'} a' w'→Kt e vals' heap' nx'=some r→Q e a' w')→(Code.loop body).wp P Q a w
def LoopsOk (C:Ctx) (f n:Nat):Code→Prop
 | .seq a b=>(∀L,(cutKey a).bind (C.cuts f)=some L→LoopOkG n L (fun Q a' w'=>(Code.seq a b).wp C.P Q a' w'))∧LoopsOk C f n a∧LoopsOk C f n b
 | .cond _ a b=>LoopsOk C f n a∧LoopsOk C f n b
 | .block _ c=>LoopsOk C f n c
 | .loop c=>(∀L,(firstReg c).bind (C.loops f)=some L→LoopOk C.P n c L)∧LoopsOk C f n c
 | .scope c=>LoopsOk C f n c
 |_=>True
def DrawnOk (C:Ctx) (drawn:(FuncId→Bool)→Array Oper→Bool):Prop :=
 ∀(call:CallIn),CallsOk C.P call→∀(id:Nat) (ops:Array Oper),drawn (fun g=>(C.plain g).isSome) ops=true→∀(fr:Fr) (n:Nat) (K:Kinds) (s:St) (a:Act) (w:World) (s0:St) (base:Nat) (Kc:St→Option R) (r:R) (Q:Exit→Act→World→Prop),
  runOps C call n (limOf s0 base ops) ops ops.toList base s Kc=some r→Rel fr n K s a w→(∀s' K' a' w',Rel fr n K' s' a' w'→Kc s'=some r→Q .normal a' w')→(Code.region id ops true).wp C.P Q a w
structure FullOk (C:Ctx) (drawn:(FuncId→Bool)→Array Oper→Bool):Prop extends CtxOk C where
 drawn:DrawnOk C drawn
 loops:∀f fn c,C.P.funcs[f]?=some fn→fn.body=some c→LoopsOk C f fn.ntmps c
section
variable {C:Ctx} {drawn:(FuncId→Bool)→Array Oper→Bool}
theorem look_zipM_map {f:AV→AV} {t:Nat}:∀(M:List Nat) (l:List AV),look t (zipM M (l.map f))=(look t (zipM M l)).map f
 |[],_=>rfl
 |_::_,[]=>rfl
 |m::M,x::l=>by
  simp only[List.map_cons,zipM,look_put]
  split
  ·rfl
  ·exact look_zipM_map M l
theorem look_zipM {t:Nat} {av:AV} (g:Nat→AV):∀(M:List Nat),look t (zipM M (M.map g))=some av→M.contains t=true∧av=g t
 |[],h=>by cases h
 |m::M,h=>by
  simp only[List.map_cons,zipM,look_put] at h
  split at h
  ·rename_i e
   cases h
   subst e
   exact⟨by simp,rfl⟩
  ·obtain⟨h1,h2⟩:=look_zipM g M h
   exact⟨by simp only[List.contains_cons,h1,Bool.or_true],h2⟩
theorem look_zipM_mem {t:Nat}:∀(M:List Nat) (l:List AV),M.contains t=false→look t (zipM M l)=none
 |[],_,_=>rfl
 |_::_,[],_=>rfl
 |m::M,x::l,h=>by
  simp only[List.contains_cons,Bool.or_eq_false_iff,beq_eq_false_iff_ne,ne_eq] at h
  simp only[zipM,look_put,if_neg h.1]
  exact look_zipM_mem M l h.2
theorem look_zipOn {t:Nat} (base:List (Nat×AV)):∀(M:List Nat) (l:List AV),look t (zipOn base M l)=match look t (zipM M l) with|some v=>some v |none=>look t base
 |[],_=>rfl
 |_::_,[]=>rfl
 |m::M,x::l=>by
  simp only[zipOn,zipM,look_put]
  split
  ·rfl
  ·exact look_zipOn base M l
theorem look_without {T:List Nat} {l0:List (Nat×AV)} {t:Nat} {v:AV}:∀l:List (Nat×AV),look t (without T l0 l)=some v→T.contains t=false∧look t l0=some v
 |[],h=>by cases h
 |(j,u)::l,h=>by
  simp only[without] at h
  split at h
  ·exact look_without l h
  ·rename_i hT
   split at h
   ·rename_i v' hv
    simp only[look] at h
    split at h
    ·rename_i e
     simp only[beq_iff_eq] at e
     cases h
     subst e
     exact⟨by simpa using hT,hv⟩
    ·split at h
     ·cases h
     ·exact look_without l h
   ·exact look_without l h
theorem look_without' {T:List Nat} {l0:List (Nat×AV)} {t:Nat} {v:AV} (hT:T.contains t=false) (hv:look t l0=some v):∀(l:List (Nat×AV)) (u:AV),look t l=some u→look t (without T l0 l)=some v
 |[],_,h=>by cases h
 |(j,x)::l,u,h=>by
  simp only[look] at h
  simp only[without]
  split at h
  ·rename_i e
   simp only[beq_iff_eq] at e
   subst e
   rw[hT,hv]
   simp[look]
  ·rename_i e
   split at h
   ·cases h
   ·rename_i e'
    have ih:=look_without' hT hv l u h
    split
    ·exact ih
    ·split
     ·simp only[look,if_neg e,if_neg e',ih]
     ·exact ih
theorem look_keysIn {T:List Nat} {t:Nat} (h:T.contains t=false):∀l:List (Nat×AV),keysIn T l=true→look t l=none
 |[],_=>rfl
 |(j,v)::l,hk=>by
  simp only[keysIn,Bool.and_eq_true] at hk
  simp only[look]
  split
  ·rename_i e
   simp only[beq_iff_eq] at e
   subst e
   rw[h] at hk
   exact absurd hk.1 (by simp)
  ·split
   ·rfl
   ·exact look_keysIn h l hk.2
theorem rel_zipM {fr:Fr} {n:Nat} {K:Kinds} {s:St} {a:Act} {w:World} {M T:List Nat} (h:Rel fr n K s a w) (hT:∀t,fr.T t=(M++T).contains t) (hk:keysIn (M++T) s.ents=true) (nx:Nat) :
  Rel fr n K {ents:=zipM M (M.map s.get),heap:=s.heap,next:=nx} a w where
 ext:=h.ext
 size:=h.size
 defers:=h.defers
 ents:=fun t av ht=>by
  obtain⟨_,rfl⟩:=look_zipM _ _ ht
  exact h.get t
 frame:=fun t _ hTt=>h.frame t (look_keysIn (by rw[←hT];exact hTt) _ hk) hTt
 heap:=h.heap
 uniq:=h.uniq
theorem inLoop_gen {G:(Exit→Act→World→Prop)→Act→World→Prop} {M T:List Nat} {run:List AV→Heap→Nat→(Exit→List AV→Heap→Nat→Option R)→Option R} {n:Nat} {fr:Fr} {K:Kinds} {s:St} {a:Act} {w:World} (hr:Rel fr n K s a w) (hT:∀t,(M++T).contains t=true→fr.T t=true) {Ke:Exit→List AV→Heap→Nat→(Nat→Option Nat)→Option R} {r:R}
  (h:inLoop run (M.map s.get) s.heap s.next Ke=some r) (Q:Exit→Act→World→Prop)
  (hL:∀ts bs,reach s.heap 4 (addNew [] ((allBoxes (M.map s.get)).filter (hasBox s.heap)))=bs→∀vals heap nx Kt,run vals heap nx Kt=some r→Rel ⟨w,farK ts bs K,a.tmps,fun t=>(M++T).contains t,fr.ds⟩ n (farK ts bs K) {ents:=zipM M vals,heap:=heap,next:=nx} a w →
   (∀e vals' heap' nx' K' a' w',Rel ⟨w,farK ts bs K,a.tmps,fun t=>(M++T).contains t,fr.ds⟩ n K' {ents:=zipM M vals',heap:=heap',next:=nx'} a' w'→Kt e vals' heap' nx'=some r→Q e a' w')→G Q a w)
  (hq:∀e vals heap nx ρ K' a' w',Rel fr n K' {ents:=zipOn (mapV (·.ren ρ some) (without (M++T) s.ents s.ents)) M vals,heap:=heap,next:=nx} a' w'→Ke e vals heap nx ρ=some r→Q e a' w'):G Q a w:=by
 unfold inLoop at h
 simp only at h
 split at h
 ·rename_i hcond
  simp only[Bool.and_eq_true] at hcond
  obtain⟨hnd,hbs⟩:=hcond
  generalize hbsE:reach s.heap 4 (addNew [] ((allBoxes (M.map s.get)).filter (hasBox s.heap)))=bs at *
  generalize addNew [] (allRows (M.map s.get)++contentRows s.heap bs)=ts at *
  have hho:=HeapOk.enter (ts:=ts) hr.heapOk (bs_get hbs)
  have hin:Rel ⟨w,farK ts bs K,a.tmps,fun t=>(M++T).contains t,fr.ds⟩ n (farK ts bs K) {ents:=zipM M ((M.map s.get).map (·.ren (fun id=>indexIn id ts 0) (fun id=>indexIn id bs 0))),heap:=localHeap s.heap (fun id=>indexIn id ts 0) (fun id=>indexIn id bs 0) bs 0,next:=64} a w:={
   ext:=Ext.refl _ _
   size:=hr.size
   defers:=hr.defers
   ents:=fun t av ht=>by
    rw[List.map_map] at ht
    obtain⟨_,rfl⟩:=look_zipM _ _ ht
    exact(hr.get t).enter (fun _ _ e=>e) (fun _ _ e=>e)
   frame:=fun t _ _=>rfl
   heap:=hho.cells
   uniq:=hho.uniq}
  refine hL ts bs rfl _ _ _ _ h hin (fun e vals' h' nx' K' a' w' hrel hkt=>?_)
  split at hkt
  ·rename_i hf
   have g:=hrel.ext
   have hl:=HeapOk.leave hr.heapOk hnd hbs g hrel.heapOk hf
   refine hq e _ _ _ _ (backK s.next ts bs w K K') a' w' ?_ hkt
   exact{
    ext:=hr.ext.trans (backK_ext g)
    size:=hrel.size
    defers:=hrel.defers
    ents:=fun t av ht=>by
     rw[look_zipOn] at ht
     split at ht
     ·rename_i v hv
      cases ht
      rw[look_zipM_map] at hv
      obtain⟨av',e1,e2⟩:=Option.map_eq_some_iff.1 hv
      subst e2
      exact RV.leave g (hrel.ents t av' e1)
     ·rename_i hv
      rw[look_mapV] at ht
      obtain⟨av',e1,e2⟩:=Option.map_eq_some_iff.1 ht
      subst e2
      obtain⟨h1,h2⟩:=look_without _ e1
      have hno:look t (zipM M vals')=none:=by
       rw[look_zipM_map] at hv
       simpa using hv
      have hfr:=hrel.frame t hno h1
      have:a'.tmps.getD t undef=a.tmps.getD t undef:=by
       rw[Array.getD_eq_getD_getElem?,Array.getD_eq_getD_getElem?,hfr]
      rw[this]
      exact RV.back g (hr.ents t av' h2)
    frame:=fun t ht hTt=>by
     rw[look_zipOn] at ht
     split at ht
     ·cases ht
     ·rename_i hv
      have hc:(M++T).contains t=false:=by
       cases hc:(M++T).contains t
       ·rfl
       ·rw[hT t hc] at hTt;cases hTt
      have hno:look t (zipM M vals')=none:=by
       rw[look_zipM_map] at hv
       simpa using hv
      have hfr:=hrel.frame t hno hc
      refine hfr.trans (hr.frame t ?_ hTt)
      rw[look_mapV] at ht
      cases hl0:look t s.ents with
      |none=>rfl
      |some v =>
       rw[look_without' hc hl0 _ _ hl0] at ht
       cases ht
    heap:=hl.cells
    uniq:=hl.uniq}
  ·cases hkt
 ·cases h
theorem inLoop_ok {G:(Exit→Act→World→Prop)→Act→World→Prop} {L:Loop} {n:Nat} (hL:LoopOkG n L G) {fr:Fr} {K:Kinds} {s:St} {a:Act} {w:World} (hr:Rel fr n K s a w) (hT:∀t,(L.M++L.T).contains t=true→fr.T t=true) {Ke:Exit→List AV→Heap→Nat→(Nat→Option Nat)→Option R} {r:R}
  (h:inLoop L.run (L.M.map s.get) s.heap s.next Ke=some r) (Q:Exit→Act→World→Prop)
  (hq:∀e vals heap nx ρ K' a' w',Rel fr n K' {ents:=zipOn (mapV (·.ren ρ some) (without (L.M++L.T) s.ents s.ents)) L.M vals,heap:=heap,next:=nx} a' w'→Ke e vals heap nx ρ=some r→Q e a' w'):G Q a w :=
 inLoop_gen hr hT h Q (fun _ _ _ _ _ _ _ h1 h2 h3=>hL _ _ _ _ _ _ _ _ _ h1 (fun _=>rfl) h2 Q h3) hq
theorem wp_loop_in {P:Program} {c:Code} {Q:Exit→Act→World→Prop} {a:Act} {w:World} (h:∀(b:Frame) (k:List Item) (cs:List Frame),∃e a' w',Q e a' w'∧Arrives P (lone (b.at a (.code c::.inLoop c::k)) cs w) b k cs e a' w'):(Code.loop c).wp P Q a w :=
 fun b k cs=>let⟨e,a',w',q,r⟩:=h b k cs;⟨e,a',w',q,.of_steps (.one step_loop) r⟩
theorem loop_step {P:Program} {c:Code} {Q:Exit→Act→World→Prop} {a:Act} {w:World}
  (h:c.wp P (Exit.then (fun a' w'=>∀(b:Frame) (k:List Item) (cs:List Frame),∃e a'' w'',Q e a'' w''∧Arrives P (lone (b.at a' (.code c::.inLoop c::k)) cs w') b k cs e a'' w'') Q) a w) :
  ∀(b:Frame) (k:List Item) (cs:List Frame),∃e a' w',Q e a' w'∧Arrives P (lone (b.at a (.code c::.inLoop c::k)) cs w) b k cs e a' w':=by
 intro b k cs
 obtain⟨e,a₁,w₁,hq,harr⟩:=h b (.inLoop c::k) cs
 cases e with
 |normal =>
  obtain⟨e₂,a₂,w₂,hq₂,harr₂⟩:=hq b k cs
  exact⟨e₂,a₂,w₂,hq₂,.of_steps (Steps.trans harr (.one step_inLoop)) harr₂⟩
 |exit id=>exact⟨_,a₁,w₁,hq,.pass (x:=.inLoop c) rfl (fun _ _=>.inl (by simp)) harr⟩
 |goto l=>exact⟨_,a₁,w₁,hq,.pass (x:=.inLoop c) rfl (fun _ _=>.inl (by simp)) harr⟩
 |ret=>exact⟨_,a₁,w₁,hq,.pass (x:=.inLoop c) rfl (fun _ _=>.inl (by simp)) harr⟩
 |panic ch=>exact⟨_,a₁,w₁,hq,.pass (x:=.inLoop c) rfl (fun _ _=>.inl (by simp)) harr⟩
 |outgrown=>exact⟨_,a₁,w₁,hq,.pass (x:=.inLoop c) rfl (fun _ _=>.inl (by simp)) harr⟩
theorem iter_ok {P:Program} {fr:Fr} {n:Nat} {c:Code} {f:St→Kont→Option R} {r:R}
  (hf:∀(s:St) (Kc:Kont) (K:Kinds) (a:Act) (w:World) (Q:Exit→Act→World→Prop),f s Kc=some r→Rel fr n K s a w→(∀e s' K' a' w',Rel fr n K' s' a' w'→Kc e s'=some r→Q e a' w')→c.wp P Q a w) (Q:Exit→Act→World→Prop) :
  ∀(m:Nat) (s:St) (Kc:Kont) (K:Kinds) (a:Act) (w:World),iter f m s Kc=some r→Rel fr n K s a w→(∀e s' K' a' w',Rel fr n K' s' a' w'→Kc e s'=some r→Q e a' w') →
   ∀(b:Frame) (k:List Item) (cs:List Frame),∃e a' w',Q e a' w'∧Arrives P (lone (b.at a (.code c::.inLoop c::k)) cs w) b k cs e a' w'
 |0,_,_,_,_,_,h,_,_=>by cases h
 |m+1,s,Kc,K,a,w,h,hr,hq=>by
  refine loop_step (hf s _ K a w _ h hr (fun e s' K' a' w' hrel hkc=>?_))
  cases e with
  |normal=>exact iter_ok hf Q m s' Kc K' a' w' hkc hrel hq
  |_=>exact hq _ _ _ _ _ hrel hkc
theorem Rel.unput {fr:Fr} {n:Nat} {K:Kinds} {s:St} {a:Act} {w:World} {d:Option Nat} {v:Value} (h:Rel fr n K s (a.put d v) w) (hd:∀t,d=some t→look t s.ents=none∧fr.T t=true):Rel fr n K s a w:=by
 cases d with
 |none=>exact h
 |some d =>
  obtain⟨h1,h2⟩:=hd d rfl
  have hg:∀t,t≠d→(a.put (some d) v).tmps[t]?=a.tmps[t]?:=fun t ht=>by
   simp[Act.put,Ne.symm ht]
  exact{
   ext:=h.ext
   size:=by have:=h.size;simpa [Act.put] using this
   defers:=h.defers
   ents:=fun t av ht=>by
    have hne:t≠d:=fun e=>by rw[e,h1] at ht;cases ht
    have:=h.ents t av ht
    rwa [Array.getD_eq_getD_getElem?,hg t hne,←Array.getD_eq_getD_getElem?] at this
   frame:=fun t ht hT=>by
    have hne:t≠d:=fun e=>by rw[e,h2] at hT;cases hT
    rw[←hg t hne]
    exact h.frame t ht hT
   heap:=h.heap
   uniq:=h.uniq}
theorem load_box {P:Program} {fr:Fr} {n:Nat} {K:Kinds} {s:St} {a:Act} {w:World} (hr:Rel fr n K s a w) {t:TypeId} (hk:known P t=true) {id off:Nat} {v:AV} (hl:loadAV P s noB t (.box id off)=some v) {u:Value} (hx:RV w K (.box id off) u) :
  ∃r,RV w K v r∧∀w',(∀b,b<w.heap.size→K b=.box id→w'.heap[b]?=w.heap[b]?)→(Instr.loadAt t u).run P w'=.ok r w':=by
 simp only[loadAV] at hl
 split at hl
 ·rename_i c hc
  obtain⟨b,hu,hkb,hlt⟩:=RV.box hx
  obtain⟨av,bo,e1,e2,e3⟩:=hr.heap b id hlt hkb
  have:c=av:=by
   unfold heapAt at hc
   split at hc
   ·cases hc
   ·rw[e1] at hc;cases hc;rfl
  subst this
  obtain⟨cs,T,hbo,e4⟩:=BoxOk.sub hl e3;subst hbo;replace e3:=e4
  obtain⟨i1,i2,i3⟩:=Sh.sub_RS _ _ _ _ _ _ _ hl e3
  have hlen:=RS.length _ _ _ e3
  have hl1:((cs.toList.drop off).take (P.cellsOf t)).length=P.cellsOf t:=by rw[List.length_take,List.length_drop,hlen];omega
  have h1:isStruct P t=false→P.cellsOf t=1:=fun e=>by
   rw[←hl1,RS.length _ _ _ i1,Sh.size_pos _ (by rw[i2,e])]
  refine⟨if isStruct P t then .agg ((cs.toList.drop off).take (P.cellsOf t)).toArray else((cs.toList.drop off).take (P.cellsOf t)).headD undef,RV.of_cells i1 i2 (fun _ _ c e=>RS.one _ _ _ i1 c (by rw[e];simp)),fun w' hw=>?_⟩
  subst hu
  refine run_loadVar_cells (P:=P) hk hl1 h1 (fun j c hj=>?_)
  rw[add_eq rfl]
  simp only[World.cell?,hw b hlt hkb,e2,Option.isSome_none,Bool.false_eq_true,if_false]
  rw[List.getElem?_take] at hj
  split at hj
  ·rw[List.getElem?_drop] at hj
   simpa using hj
  ·cases hj
 ·cases hl
theorem firstOp_ok {fr:Fr} {n:Nat} {K:Kinds} {s:St} {a:Act} {w:World} (hr:Rel fr n K s a w) {o:Oper} {v:AV} {lb:List Nat} (h:firstOp C s o=some (v,lb)) :
  ∃u,RV w K v u∧∀w',(∀b id,b<w.heap.size→id∈lb→K b=.box id→w'.heap[b]?=w.heap[b]?)→(execOp a.eval o).run C.P w'=.ok (.value u) w':=by
 unfold firstOp at h
 split at h
 ·rename_i x ho
  cases h
  exact⟨a.eval x,opnd_RV hr x,fun w' _=>by unfold execOp;rw[ho];rfl⟩
 ·rename_i x ho
  cases h
  exact⟨a.eval x,opnd_RV hr x,fun w' _=>by unfold execOp;rw[ho];rfl⟩
 ·rename_i t x ho
  split at h
  ·rename_i id off v0 hx
   cases hk:known C.P t with
   |false=>rw[hk] at h;cases h
   |true =>
    rw[hk] at h
    simp only[cond_true] at h
    split at h
    ·rename_i v1 hl
     cases h
     obtain⟨u,h1,h2⟩:=load_box hr hk hl (hx▸opnd_RV hr x)
     exact⟨u,h1,fun w' hw=>exec_v (by unfold execOp;rw[ho]) (h2 w' (fun b hb hkb=>hw b id hb (by simp) hkb))⟩
    ·cases h
  ·cases h
 ·rename_i t x f ho
  split at h
  ·rename_i fl hfl
   split at h
   ·cases h
   ·rename_i hcond
    obtain⟨fs,hu,hfs⟩:=lenOf_fieldAddr hfl
    have hk:known C.P fl.type=true:=by
     cases hkk:known C.P fl.type
     ·exact(hcond (.inr (by rw[hkk];rfl))).elim
     ·rfl
    have hn0:C.P.cellsOf fl.type≠0:=fun h0=>hcond (.inl h0)
    split at h
    ·rename_i id off v0 hx
     cases h
     obtain⟨b,hb,hkb⟩:=RV.box (hx▸opnd_RV hr x)
     refine⟨.pointer (some ((⟨b,off,none⟩:Addr).add fl.offset)),R1.toRV (a:=.box id (off+fl.offset)) ⟨⟨b,?_,hkb⟩,(fun e=>(by cases e)),(fun _ c e=>(by cases e))⟩,fun w' _=>exec_v (by unfold execOp;rw[ho]) ?_⟩
     ·rw[add_eq rfl]
      rfl
     ·rw[hb]
      simp[Instr.fieldAt,run_underlying hu,hfs,Instr.sureAddr,fieldPlace,run_sizeOf hk,hn0]
    ·cases h
  ·cases h
 ·cases h
theorem firstRun_sub {n:Nat} {ops:Array Oper}:∀(F:List Nat) (s s1:St) (lb0 lb:List Nat),firstRun C n ops F s lb0=some (s1,lb)→∀x∈lb0,x∈lb
 |[],_,_,_,_,h,x,hx=>by
  simp only[firstRun,Option.some.injEq,Prod.mk.injEq] at h
  exact h.2▸hx
 |i::F,s,s1,lb0,lb,h,x,hx=>by
  simp only[firstRun] at h
  split at h
  ·rename_i o _
   cases hc:(isFirst o&&dstOk n o) with
   |false=>rw[hc] at h;cases h
   |true =>
    rw[hc] at h
    simp only[cond_true] at h
    split at h
    ·exact firstRun_sub F _ _ _ _ h x (by simp[hx])
    ·cases h
  ·cases h
theorem first_ok {fr:Fr} {n:Nat} {K:Kinds} {w:World} {ops:Array Oper} {Qr:Exit→Act→World→Prop} {LB:List Nat} (hsel:Region.noSelect ops=true)
  (hQ:∀o∈ops.toList,∀v c a w,Qr (.panic c) (a.put o.dst v) w→Qr (.panic c) a w) {s1:St} {lb:List Nat} (hlb:∀x∈lb,x∈LB) {fuel:Nat} :
  ∀(F:List Nat) (s:St) (lb0:List Nat) (listed:Array Bool) (a:Act),firstRun C n ops F s lb0=some (s1,lb)→firstOk ops F listed=true→Rel fr n K s a w →
   (∀a1,Rel fr n K s1 a1 w→wpAnyH C.P .any ops Qr (fun w'=>∀b id,b<w.heap.size→id∈LB→K b=.box id→w'.heap[b]?=w.heap[b]?) fuel (listF F listed) a1 w) →
   wpAnyH C.P .any ops Qr (fun w'=>∀b id,b<w.heap.size→id∈LB→K b=.box id→w'.heap[b]?=w.heap[b]?) (F.length+fuel) listed a w
 |[],s,lb0,listed,a,h,_,hr,hk=>by
  simp only[firstRun,Option.some.injEq,Prod.mk.injEq] at h
  obtain⟨rfl,_⟩:=h
  simp only[List.length_nil,Nat.zero_add]
  exact hk a hr
 |i::F,s,lb0,listed,a,h,hok,hr,hk=>by
  simp only[firstRun] at h
  split at h
  ·rename_i o hi
   cases hc:(isFirst o&&dstOk n o) with
   |false=>rw[hc] at h;cases h
   |true =>
    rw[hc] at h
    simp only[Bool.and_eq_true] at hc
    simp only[cond_true] at h
    split at h
    ·rename_i v b hv
     obtain⟨u,h1,h2⟩:=firstOp_ok hr hv
     have hsub:=firstRun_sub F _ _ _ _ h
     simp only[firstOk,Bool.and_eq_true] at hok
     have hg:o.guard=none:=by
      have:=hc.1
      unfold isFirst at this
      split at this
      ·assumption
      ·cases this
     rw[show(i::F).length+fuel=(F.length+fuel)+1 by simp only[List.length_cons];omega]
     refine wpAnyH_take hi hsel hok.1 hok.2.1 (hQ o (Array.mem_toList_iff.2 (Array.mem_of_getElem? hi)) u) (.inl ⟨by simp[Region.wanted,hg],fun w' hw'=>h2 w' (fun b' id hb hid hkb=>hw' b' id hb (hlb _ (hsub _ (by simp[hid]))) hkb)⟩) (fun _ _ _ _ _=>rfl) ?_
     exact first_ok hsel hQ hlb F _ _ _ _ h hok.2.2 (hr.setO (dstOk_spec hc.2) h1) hk
    ·cases h
  ·cases h
theorem chain_ok (hC:CtxOk C) {call:CallIn} (hcall:CallsOk C.P call) {fr:Fr} {n:Nat} {ops:Array Oper} {Qr:Exit→Act→World→Prop} {S:World→Prop} (hS:∀K s a w,Rel fr n K s a w→S w) {Kn:St→Option R} {Kp:Value→St→Option R} {r:R}
  (hn:∀s K a w,Rel fr n K s a w→Kn s=some r→Qr .normal a w) (hp:∀u s K a w,Rel fr n K s a w→Kp u s=some r→Qr (.panic [⟨u,false,false⟩]) a w) :
  ∀(l:List Nat) (listed:Array Bool) (id:Nat) (s:St) (K:Kinds) (a:Act) (w:World),chainOk ops l listed=true→runC C call n ops l id s Kn Kp=some r→Rel fr n K s a w→wpAnyH C.P .any ops Qr S l.length listed a w
 |[],listed,id,s,K,a,w,hok,h,hr=>by
  simp only[chainOk,List.isEmpty_iff] at hok
  exact⟨hok,hn s K a w hr h⟩
 |i::l,listed,id,s,K,a,w,hok,h,hr=>by
  simp only[chainOk,Bool.and_eq_true,beq_iff_eq] at hok
  refine wpAnyH_all hok.1 (by simp) (fun j hj=>?_)
  have:j=i:=by simpa using hj
  subst this
  simp only[runC] at h
  split at h
  ·rename_i o hi
   cases hg:o.guard with
   |some g=>rw[hg] at h;cases h
   |none =>
    rw[hg] at h
    simp only[Option.isNone_none,cond_true] at h
    unfold wpOp
    simp only[hi]
    rw[if_pos (by simp[Region.wanted,hg])]
    exact .inl (stepY_ok hC hcall h hr (fun s' K' a' w' hrel hkc=>⟨hS _ _ _ _ hrel,chain_ok hC hcall hS hn hp l _ _ s' K' a' w' hok.2 hkc hrel⟩) (fun u s' K' a' w' hrel hkc=>hp u s' K' a' w' hrel hkc))
  ·cases h
theorem heldR_ok (hC:CtxOk C) {call:CallIn} (hcall:CallsOk C.P call) {fr:Fr} {n:Nat} {K:Kinds} {s:St} {a:Act} {w:World} {id:Nat} {ops:Array Oper} {Kc:Kont} {r:R} {Q:Exit→Act→World→Prop} (h:heldR C call fr.T n ops s Kc=some r) (hr:Rel fr n K s a w)
  (hq:∀e s' K' a' w',Rel fr n K' s' a' w'→Kc e s'=some r→Q e a' w'):(Code.region id ops true).wp C.P Q a w:=by
 unfold heldR at h
 split at h
 case isFalse=>cases h
 rename_i hok
 simp only[Bool.and_eq_true] at hok
 obtain⟨hok,hTs⟩:=hok
 split at h
 case h_2=>cases h
 rename_i s1 lb hF
 split at h
 case isFalse=>cases h
 rename_i hfar
 generalize hM:heldS ops=M at *
 generalize hT:opsW ops=T at *
 unfold heldOk at hok
 simp only[Bool.and_eq_true] at hok
 obtain⟨hsel,hlen,hf1,hch⟩:=hok
 have hlen:=Nat.eq_of_beq_eq_true hlen
 have hTset:∀t,(M++T).contains t=true→fr.T t=true:=fun t ht=>List.all_eq_true.1 hTs t (by simpa using ht)
 have hr':Rel fr n K s a {w with drawn:=w.drawn+1}:=by
  have hst:Still w K {w with drawn:=w.drawn+1} K:={
   ext:={
    os:=rfl
    tape:=rfl
    output:=rfl
    size:=Nat.le_refl _
    fix:=fun _ _ _=>⟨rfl,rfl⟩
    stab:=fun _ _ _ hs=>⟨hs,rfl⟩
    box:=fun _ _ _ h=>h
    bsz:=fun _ _ _ _ _ h=>h}
   rows:=fun _ _ _ _ h=>⟨h,rfl⟩
   boxes:=fun _ _ _ _=>rfl
   fresh:=fun _ hb _ h=>⟨hb,h⟩}
  exact hr.still hst
 refine Code.wp_mono (Q:=fun e a' w'=>match e with
  | .normal=>Q .normal a' w'
  | .panic ch=>∃s' K',Rel fr n K' s' a' w'∧Kc (.panic ch) s'=some r∧∀t,(M++T).contains t=true→look t s'.ents=none
  |_=>False) (fun e a' w' hqr=>?_) ?_
 ·cases e with
  |normal=>exact hqr
  |panic ch =>
   obtain⟨s',K',h1,h2,_⟩:=hqr
   exact hq _ _ _ _ _ h1 h2
  |_=>exact hqr.elim
 generalize hw1:({w with drawn:=w.drawn+1}:World)=w1 at hr'
 refine wp_region_held (S:=fun w'=>∀b id,b<w1.heap.size→id∈lb→K b=.box id→w'.heap[b]?=w1.heap[b]?) hC.mixed ?_
 rw[hw1]
 suffices key:wpAnyH C.P .any ops _ _ ((heldF ops).length+(heldL ops).length) (Array.replicate ops.size false) a w1 by
  rw[hlen] at key
  exact key
 refine first_ok (LB:=lb) hsel (fun o ho v c a' w' hp=>?_) (fun _ hx=>hx) (heldF ops) s [] _ a hF hf1 hr' (fun a1 hr1=>?_)
 ·obtain⟨s',K',h1,h2,h3⟩:=hp
  refine⟨s',K',h1.unput (fun t ht=>?_),h2,h3⟩
  have hc:(M++T).contains t=true:=by
   rw[List.contains_iff_mem,List.mem_append,←hT]
   exact .inr (List.mem_filterMap.2 ⟨o,ho,ht⟩)
  exact⟨h3 t hc,hTset t hc⟩
 ·refine inLoop_gen (G:=fun Q' a' w'=>wpAnyH C.P .any ops Q' (fun w''=>∀b id,b<w1.heap.size→id∈lb→K b=.box id→w''.heap[b]?=w1.heap[b]?) (heldL ops).length (listF (heldF ops) (Array.replicate ops.size false)) a' w') hr1 hTset h _ (fun ts bs hbs vals heap nx Kt hrun hrel hkt=>?_) (fun e vals heap nx ρ K' a' w' hrel hke=>?_)
  ·unfold heldIn at hrun
   refine chain_ok hC hcall (fr:=⟨w1,farK ts bs K,a1.tmps,fun t=>(M++T).contains t,fr.ds⟩) (S:=fun w''=>∀b id,b<w1.heap.size→id∈lb→K b=.box id→w''.heap[b]?=w1.heap[b]?) (fun K' s' a' w' hrel' b id hb hid hkb=>?_) (fun s' K' a' w' hrel' hk=>?_) (fun u s' K' a' w' hrel' hk=>?_) (heldL ops) _ _ _ a1 w1 hch hrun (s:={ents:=zipM M vals,heap:=heap,next:=nx+16*ops.size}) ⟨hrel.ext,hrel.size,hrel.defers,hrel.ents,hrel.frame,hrel.heap,hrel.uniq⟩
   ·refine(hrel'.ext.fix b hb ?_).2
    have hno:bs.contains id=false:=by
     have:=List.all_eq_true.1 hfar id hid
     rw[hbs] at this
     simpa using this
    show(farK ts bs K b).fixed=true
    unfold farK
    rw[hkb]
    cases hi:indexIn id bs 0 with
    |none=>dsimp only;rw[hi];rfl
    |some j =>
     obtain⟨i,_,hj⟩:=indexIn_spec bs 0 j hi
     rw[contains_of_get hj] at hno
     cases hno
   ·split at hk
    ·rename_i hkeys
     exact hkt _ _ _ _ _ _ _ (rel_zipM hrel' (fun _=>rfl) hkeys _) hk
    ·cases hk
   ·split at hk
    ·rename_i hkeys
     exact hkt _ _ _ _ _ _ _ (rel_zipM hrel' (fun _=>rfl) hkeys _) hk
    ·cases hk
  ·unfold heldEnd at hke
   cases e with
   |normal=>exact hq _ _ _ _ _ hrel hke
   |panic ch =>
    have hX:∀t av,look t (mapV (·.ren ρ some) (without (M++T) s1.ents s1.ents))=some av→(M++T).contains t=false:=fun t av ht=>by
     rw[look_mapV] at ht
     obtain⟨av',e1,_⟩:=Option.map_eq_some_iff.1 ht
     exact(look_without _ e1).1
    have hX2:∀t,(M++T).contains t=false→look t (zipOn (mapV (·.ren ρ some) (without (M++T) s1.ents s1.ents)) M vals)=look t (mapV (·.ren ρ some) (without (M++T) s1.ents s1.ents)):=fun t ht=>by
     rw[look_zipOn,look_zipM_mem M vals (by
      cases hm:M.contains t
      ·rfl
      ·rw[List.contains_iff_mem] at hm
       have:(M++T).contains t=true:=by rw[List.contains_iff_mem];exact List.mem_append_left _ hm
       rw[this] at ht
       cases ht)]
    refine⟨_,K',?_,hke,fun t ht=>?_⟩
    ·exact{
      ext:=hrel.ext
      size:=hrel.size
      defers:=hrel.defers
      ents:=fun t av ht=>hrel.ents t av (by rw[hX2 t (hX t av ht)];exact ht)
      frame:=fun t ht hTt=>hrel.frame t (by
       rw[hX2 t (by
        cases hc:(M++T).contains t
        ·rfl
        ·rw[hTset t hc] at hTt;cases hTt)]
       exact ht) hTt
      heap:=hrel.heap
      uniq:=hrel.uniq}
    ·cases hl:look t (mapV (·.ren ρ some) (without (M++T) s1.ents s1.ents)) with
     |none=>rfl
     |some av=>rw[hX t av hl] at ht;cases ht
   |_=>cases hke
theorem contains_opsW {ops:Array Oper}:∀o∈ops.toList,∀t,o.dst=some t→(opsW ops).contains t=true:=by
 intro o ho t ht
 simp only[opsW,List.contains_eq_mem,decide_eq_true_eq,List.mem_filterMap]
 exact⟨o,ho,ht⟩
theorem treeC_same {n:Nat}:∀(c:Code) (s:St) (t:Tree),treeC C drawn n c s=some t→t.Leaves (Same (codeW c) s):=by
 intro c
 induction c with
 |skip=>intro s t h;cases h;exact Same.refl _ _
 |region id ops draw =>
  intro s t h
  have key:∀no t',treeOps C n no ops ops.toList s.next [] {s with next:=s.next+16*ops.size}=some t'→t'.Leaves (Same (opsW ops) s):=fun no t' h' =>
   Tree.Leaves.imp (fun s2 h3=>(Same.next _).trans h3) _ (treeOps_same contains_opsW ops.toList _ _ _ _ (fun o ho=>ho) h')
  simp only[treeC] at h
  split at h
  ·split at h
   ·obtain⟨t',h1,rfl⟩:=Option.map_eq_some_iff.1 h
    exact Tree.Leaves.join (key _ _ h1)
   ·cases h
  ·obtain⟨t',h1,rfl⟩:=Option.map_eq_some_iff.1 h
   exact Tree.Leaves.join (key _ _ h1)
 |seq x y ihx ihy =>
  intro s t h
  simp only[treeC] at h
  obtain⟨t1,h1,h2⟩:=Option.bind_eq_some_iff.1 h
  have hx:∀t,(codeW x).contains t=true→(codeW x++codeW y).contains t=true:=fun t ht=>by simp only[List.contains_eq_mem,List.mem_append,decide_eq_true_eq] at ht ⊢;exact .inl ht
  have hy:∀t,(codeW y).contains t=true→(codeW x++codeW y).contains t=true:=fun t ht=>by simp only[List.contains_eq_mem,List.mem_append,decide_eq_true_eq] at ht ⊢;exact .inr ht
  exact Tree.Leaves.bindO (G:=Same (codeW x++codeW y) s) (fun s1 t2 g1 g2=>Tree.Leaves.imp (fun s2 h3=>g1.trans (Same.mono hy h3)) _ (ihy s1 t2 g2)) _ _ h2 (Tree.Leaves.imp (fun _ h3=>Same.mono hx h3) _ (ihx s t1 h1))
 |cond cd x y ihx ihy =>
  intro s t h
  have hx:∀t,(codeW x).contains t=true→(codeW x++codeW y).contains t=true:=fun t ht=>by simp only[List.contains_eq_mem,List.mem_append,decide_eq_true_eq] at ht ⊢;exact .inl ht
  have hy:∀t,(codeW y).contains t=true→(codeW x++codeW y).contains t=true:=fun t ht=>by simp only[List.contains_eq_mem,List.mem_append,decide_eq_true_eq] at ht ⊢;exact .inr ht
  simp only[treeC] at h
  split at h
  ·split at h
   ·rename_i t1 h1
    split at h
    ·rename_i t2 h2
     cases h
     exact Tree.Leaves.join ⟨Tree.Leaves.imp (fun _ h3=>Same.mono hx h3) _ (ihx s t1 h1),Tree.Leaves.imp (fun _ h3=>Same.mono hy h3) _ (ihy s t2 h2)⟩
    ·cases h
   ·cases h
  ·cases h
 |_=>intro s t h;cases h
theorem treeC_ok (hC:FullOk C drawn) {fr:Fr} {n:Nat} {Q:Exit→Act→World→Prop}:∀(c:Code) (s:St) (t:Tree) (G:St→Prop) (K:Kinds) (a:Act) (w:World),treeC C drawn n c s=some t→t.All G→Rel fr n K s a w →
  (∀s' K' a' w',G s'→Rel fr n K' s' a' w'→Q .normal a' w')→c.wp C.P Q a w:=by
 classical
 intro c
 induction c generalizing Q with
 |skip=>intro s t G K a w h hg hr hq;cases h;exact wp_skip (hq _ _ _ _ hg hr)
 |region id ops draw =>
  intro s t G K a w h hg hr hq
  have hr':Rel fr n K {s with next:=s.next+16*ops.size} a w:=⟨hr.ext,hr.size,hr.defers,hr.ents,hr.frame,hr.heap,hr.uniq⟩
  let r0:R:=(.top,[],0)
  let Kc:St→Option R:=fun s'=>if Tree.Cl G s' then some r0 else none
  have hK:∀s',Kc s'=some r0↔Tree.Cl G s':=fun s'=>by
   simp only[Kc]
   split
   ·rename_i h;exact⟨fun _=>h,fun _=>rfl⟩
   ·rename_i h;exact⟨fun e=>by simp at e,fun e=>(h e).elim⟩
  have fin:∀s' K' a' w',Rel fr n K' s' a' w'→Kc s'=some r0→Q .normal a' w':=fun s' K' a' w' hrel hkc=>by
   obtain⟨s2,h1,h2⟩:=(hK s').1 hkc
   exact hq s2 K' a' w' h2 (h1 _ _ _ _ _ hrel)
  have key:∀no t',treeOps C n no ops ops.toList s.next [] {s with next:=s.next+16*ops.size}=some t'→(t'.join (opsW ops) s).All G→t'.All fun s'=>Kc s'=some r0:=fun no t' h' hg' =>
   Tree.All.imp (fun s1 h1=>(hK s1).2 h1) _ (Tree.All.join (Tree.Leaves.imp (fun s2 h3=>(Same.next _).trans h3) _ (treeOps_same contains_opsW ops.toList _ _ _ _ (fun o ho=>ho) h')) hg')
  simp only[treeC] at h
  cases draw with
  |true =>
   simp only[if_true] at h
   split at h
   ·rename_i hd
    obtain⟨t',h1,rfl⟩:=Option.map_eq_some_iff.1 h
    exact hC.drawn (fun _ _ _ _ _=>none) (fun f=>⟨(fun _ _ _ _ _ h=>by cases h),(fun _ _ _ _ _ h=>by cases h)⟩) id ops hd fr n K _ a w _ _ Kc r0 Q (treeOps_ok ops.toList _ _ _ _ (fun _ h=>by cases h) h1 (key _ _ h1 hg)) hr' fin
   ·cases h
  |false =>
   simp only[Bool.false_eq_true,if_false] at h
   obtain⟨t',h1,rfl⟩:=Option.map_eq_some_iff.1 h
   refine wp_region ?_
   rw[List.range_eq_range']
   have:=runOps_ok hC.toCtxOk (call:=fun _ _ _ _ _=>none) (fun f=>⟨(fun _ _ _ _ _ h=>by cases h),(fun _ _ _ _ _ h=>by cases h)⟩) (Q:=Q) ops.toList 0 _ _ K a w Kc r0 (fun j=>by simp) (treeOps_ok ops.toList _ _ _ _ (fun _ h=>by cases h) h1 (key _ _ h1 hg)) hr' fin
   simpa using this
 |seq x y ihx ihy =>
  intro s t G K a w h hg hr hq
  simp only[treeC] at h
  obtain⟨t1,h1,h2⟩:=Option.bind_eq_some_iff.1 h
  refine wp_seq (ihx s t1 _ K a w h1 (Tree.All.bindO _ _ h2 hg) hr (fun s' K' a' w' hs hrel=>?_))
  obtain⟨t2,g1,g2⟩:=hs
  exact ihy s' t2 G K' a' w' g1 g2 hrel hq
 |cond cd x y ihx ihy =>
  intro s t G K a w h hg hr hq
  have hx:∀t,(codeW x).contains t=true→(codeW x++codeW y).contains t=true:=fun t ht=>by simp only[List.contains_eq_mem,List.mem_append,decide_eq_true_eq] at ht ⊢;exact .inl ht
  have hy:∀t,(codeW y).contains t=true→(codeW x++codeW y).contains t=true:=fun t ht=>by simp only[List.contains_eq_mem,List.mem_append,decide_eq_true_eq] at ht ⊢;exact .inr ht
  simp only[treeC] at h
  split at h
  ·rename_i b hb
   split at h
   ·rename_i t1 h1
    split at h
    ·rename_i t2 h2
     cases h
     have hall:=Tree.All.join (t:=.ite b t1 t2) ⟨Tree.Leaves.imp (fun _ h3=>Same.mono hx h3) _ (treeC_same x s t1 h1),Tree.Leaves.imp (fun _ h3=>Same.mono hy h3) _ (treeC_same y s t2 h2)⟩ hg
     have hq':∀s' K' a' w',Tree.Cl G s'→Rel fr n K' s' a' w'→Q .normal a' w':=fun s' K' a' w' hs hrel=>by
      obtain⟨s2,g1,g2⟩:=hs
      exact hq s2 K' a' w' g2 (g1 _ _ _ _ _ hrel)
     have hv:=RV.bool (w:=w) (K:=K) (by have:=opnd_RV hr cd;rw[hb] at this;exact this)
     refine wp_cond hv ?_
     cases b
     ·exact ihy s t2 _ K a w h2 (hall.2 rfl) hr hq'
     ·exact ihx s t1 _ K a w h1 (hall.1 rfl) hr hq'
    ·cases h
   ·cases h
  ·cases h
 |_=>intro s t G K a w h;cases h
theorem hasLabel_eq (l:Nat):∀c:Code,hasLabel c l=(findLabel c l).isSome
 | .seq a b=>by
  simp only[hasLabel,findLabel,hasLabel_eq l a,hasLabel_eq l b]
  cases findLabel a l<;>simp
 | .label l'=>by
  simp only[hasLabel,findLabel]
  cases l'==l<;>simp
 | .skip | .region .. | .cond .. | .block .. | .loop _ | .scope _ | .exit _ | .goto _ | .ret | .rangeFunc .. | .refuse _=>rfl
theorem step_scope {P:Program} {b:Frame} {a:Act} {k:List Item} {cs:List Frame} {w:World} {c:Code} :
  step P (lone (b.at a (.code (.scope c)::k)) cs w)=.next (lone (b.at a (.code c::.inScope c::k)) cs w) :=
 step_lone_go (by simp[stepG,stepG.exec,Frame.at])
theorem step_inScope {P:Program} {b:Frame} {a:Act} {k:List Item} {cs:List Frame} {w:World} {c:Code} :
  step P (lone (b.at a (.inScope c::k)) cs w)=.next (lone (b.at a k) cs w) :=
 step_lone_go (by simp[stepG,stepG.exec,Frame.at])
def fromJ (c:Code):Option Nat→Code→Prop
 |none,rest=>rest=c
 |some l,rest=>findLabel c l=some rest
theorem iterJ_ok {P:Program} {fr:Fr} {n:Nat} {c:Code} {f:Option Nat→St→Kont→Option R} {r:R}
  (hf:∀(j:Option Nat) (rest:Code) (s:St) (Kc:Kont) (K:Kinds) (a:Act) (w:World) (Q:Exit→Act→World→Prop),fromJ c j rest→f j s Kc=some r→Rel fr n K s a w→(∀e s' K' a' w',Rel fr n K' s' a' w'→Kc e s'=some r→Q e a' w')→rest.wp P Q a w) (Q:Exit→Act→World→Prop) :
  ∀(m:Nat) (j:Option Nat) (rest:Code) (s:St) (Kc:Kont) (K:Kinds) (a:Act) (w:World),fromJ c j rest→iterJ f (hasLabel c) m j s Kc=some r→Rel fr n K s a w→(∀e s' K' a' w',Rel fr n K' s' a' w'→Kc e s'=some r→Q e a' w') →
   ∀(b:Frame) (k:List Item) (cs:List Frame),∃e a' w',Q e a' w'∧Arrives P (lone (b.at a (.code rest::.inScope c::k)) cs w) b k cs e a' w'
 |0,_,_,_,_,_,_,_,_,h,_,_=>by cases h
 |m+1,j,rest,s,Kc,K,a,w,hj,h,hr,hq=>by
  intro b k cs
  simp only[iterJ] at h
  have h1:=hf j rest s _ K a w (Exit.then (fun a' w'=>Q .normal a' w') (fun e a' w'=>match e with
   | .goto l=>(∃rest',findLabel c l=some rest'∧∃e a'' w'',Q e a'' w''∧Arrives P (lone (b.at a' (.code rest'::.inScope c::k)) cs w') b k cs e a'' w'')∨(findLabel c l=none∧Q (.goto l) a' w')
   |e=>Q e a' w')) hj h hr (fun e s' K' a' w' hrel hkc=>by
    cases e with
    |goto l =>
     simp only[hasLabel_eq] at hkc
     cases hfl:findLabel c l with
     |none =>
      rw[hfl] at hkc
      exact .inr ⟨hfl,hq _ _ _ _ _ hrel hkc⟩
     |some rest' =>
      rw[hfl] at hkc
      exact .inl ⟨rest',hfl,iterJ_ok hf Q m (some l) rest' s' Kc K' a' w' hfl hkc hrel hq b k cs⟩
    |normal=>exact hq _ _ _ _ _ hrel hkc
    |exit=>exact hq _ _ _ _ _ hrel hkc
    |ret=>exact hq _ _ _ _ _ hrel hkc
    |panic=>exact hq _ _ _ _ _ hrel hkc
    |outgrown=>exact hq _ _ _ _ _ hrel hkc)
  obtain⟨e,a₁,w₁,hq1,harr⟩:=h1 b (.inScope c::k) cs
  cases e with
  |normal=>exact⟨.normal,a₁,w₁,hq1,Steps.trans harr (.one step_inScope)⟩
  |exit id=>exact⟨_,a₁,w₁,hq1,fun k' hk=>harr k' (by simpa [exitTo] using hk)⟩
  |goto l =>
   rcases hq1 with⟨rest',hfl,e,a₂,w₂,hq2,harr2⟩ |⟨hfl,hq2⟩
   ·exact⟨e,a₂,w₂,hq2,.of_steps (harr _ (by simp[gotoIn,hfl])) harr2⟩
   ·exact⟨_,a₁,w₁,hq2,fun k' hk=>harr k' (by simpa [gotoIn,hfl] using hk)⟩
  |ret=>exact⟨_,a₁,w₁,hq1,harr⟩
  |panic ch=>exact⟨_,a₁,w₁,hq1,harr⟩
  |outgrown=>exact⟨_,a₁,w₁,hq1,harr⟩
theorem evJ_ok (hC:FullOk C drawn) {call:CallIn} (hcall:CallsOk C.P call) {fr:Fr} {n:Nat} {f unroll:Nat} {r:R}:∀(c:Code) (j:Option Nat) (rest:Code) (s:St) (Kc:Kont) (K:Kinds) (a:Act) (w:World) (Q:Exit→Act→World→Prop),LoopsOk C f n c→fromJ c j rest →
  evJ C call drawn fr.T f n unroll c j s Kc=some r→Rel fr n K s a w→(∀e s' K' a' w',Rel fr n K' s' a' w'→Kc e s'=some r→Q e a' w')→rest.wp C.P Q a w:=by
 intro c
 induction c with
 |skip=>intro j rest s Kc K a w Q _ hj h hr hq;cases j with
  |none=>cases hj;exact wp_skip (hq _ _ _ _ _ hr h)
  |some l=>cases hj
 |region id ops draw =>
  intro j rest s Kc K a w Q _ hj h hr hq
  cases j with
  |some l=>cases hj
  |none =>
  cases hj
  have hr':Rel fr n K {s with next:=s.next+16*ops.size} a w:=⟨hr.ext,hr.size,hr.defers,hr.ents,hr.frame,hr.heap,hr.uniq⟩
  simp only[evJ] at h
  split at h
  ·rename_i t ht
   exact treeC_ok hC _ s t _ K a w ht (Tree.All.fold t h) hr (fun s' K' a' w' hkc hrel=>hq _ _ _ _ _ hrel hkc)
  cases draw with
  |true =>
   simp only[if_true] at h
   split at h
   ·rename_i hd
    exact hC.drawn call hcall id ops (Bool.and_eq_true_iff.1 hd).1 fr n K _ a w _ _ _ r Q h hr' (fun s' K' a' w' hrel hkc=>hq _ _ _ _ _ hrel hkc)
   ·exact heldR_ok hC.toCtxOk hcall h hr' hq
  |false =>
   simp only[Bool.false_eq_true,if_false] at h
   refine wp_region ?_
   rw[List.range_eq_range']
   have:=runY_ok hC.toCtxOk hcall (Q:=Q) ops.toList 0 _ _ K a w _ _ r (fun j=>by simp) h hr' (fun s' K' a' w' hrel hkc=>hq _ _ _ _ _ hrel hkc) (fun u s' K' a' w' hrel hkc=>hq _ _ _ _ _ hrel hkc)
   simpa using this
 |seq x y ihx ihy =>
  intro j rest s Kc K a w Q hl hj h hr hq
  have both:∀(j:Option Nat) (rx:Code),fromJ x j rx→evJ C call drawn fr.T f n unroll x j s (fun e s'=>match e with
   | .normal=>evJ C call drawn fr.T f n unroll y none s' Kc
   |e=>Kc e s')=some r→(Code.seq rx y).wp C.P Q a w:=by
   intro j rx hj h
   refine wp_seq (ihx j rx s _ K a w _ hl.2.1 hj h hr (fun e s' K' a' w' hrel hkc=>?_))
   cases e with
   |normal=>exact ihy none y s' Kc K' a' w' Q hl.2.2 rfl hkc hrel hq
   |_=>exact hq _ _ _ _ _ hrel hkc
  cases j with
  |none =>
   cases hj
   simp only[evJ] at h
   split at h
   ·rename_i L hL
    split at h
    ·rename_i hT
     exact inLoop_ok (G:=fun Q a w=>(Code.seq x y).wp C.P Q a w) (hl.1 L hL) hr (fun t ht=>List.all_eq_true.1 hT t (by simpa using ht)) h Q (fun e vals heap nx ρ K' a' w' hrel hkc=>hq _ _ _ _ _ hrel hkc)
    ·cases h
   ·exact both none x rfl h
  |some l =>
   simp only[fromJ,findLabel] at hj
   simp only[evJ,hasLabel_eq] at h
   cases hf:findLabel x l with
   |some rx =>
    rw[hf] at hj h
    cases hj
    exact both (some l) rx hf h
   |none =>
    rw[hf] at hj h
    exact ihy (some l) rest s Kc K a w Q hl.2.2 hj h hr hq
 |cond cd x y ihx ihy =>
  intro j rest s Kc K a w Q hl hj h hr hq
  cases j with
  |some l=>cases hj
  |none =>
  cases hj
  simp only[evJ] at h
  split at h
  ·rename_i t ht
   exact treeC_ok hC _ s t _ K a w ht (Tree.All.fold t h) hr (fun s' K' a' w' hkc hrel=>hq _ _ _ _ _ hrel hkc)
  split at h
  ·rename_i b hb
   have hv:=RV.bool (w:=w) (K:=K) (by have:=opnd_RV hr cd;rw[hb] at this;exact this)
   refine wp_cond hv ?_
   cases b
   ·exact ihy none y s Kc K a w Q hl.2 rfl h hr hq
   ·exact ihx none x s Kc K a w Q hl.1 rfl h hr hq
  ·cases h
 |block id c ih =>
  intro j rest s Kc K a w Q hl hj h hr hq
  cases j with
  |some l=>cases hj
  |none =>
  cases hj
  refine wp_block (ih none c s _ K a w _ hl rfl h hr (fun e s' K' a' w' hrel hkc=>?_))
  cases e with
  |exit j =>
   simp only[Exit.inBlock]
   by_cases hj:j=id
   ·subst hj
    simp only[beq_self_eq_true,if_true] at hkc ⊢
    exact hq _ _ _ _ _ hrel hkc
   ·simp only[beq_eq_false_iff_ne.2 hj,Bool.false_eq_true,if_false] at hkc
    rw[if_neg hj]
    exact hq _ _ _ _ _ hrel hkc
  |_=>exact hq _ _ _ _ _ hrel hkc
 |loop c ih =>
  intro j rest s Kc K a w Q hl hj h hr hq
  cases j with
  |some l=>cases hj
  |none =>
  cases hj
  simp only[evJ] at h
  split at h
  ·rename_i L hL
   split at h
   ·rename_i hT
    refine inLoop_ok (G:=fun Q a w=>(Code.loop c).wp C.P Q a w) (hl.1 L hL) hr (fun t ht=>List.all_eq_true.1 hT t (by simpa using ht)) h Q (fun e vals heap nx ρ K' a' w' hrel hkc=>hq _ _ _ _ _ hrel hkc)
   ·cases h
  ·exact wp_loop_in (iter_ok (fun s Kc K a w Q h hr hq=>ih none c s Kc K a w Q hl.2 rfl h hr hq) Q unroll s Kc K a w h hr hq)
 |scope c ih =>
  intro j rest s Kc K a w Q hl hj h hr hq
  cases j with
  |some l=>cases hj
  |none =>
  cases hj
  simp only[evJ] at h
  intro b k cs
  obtain⟨e,a',w',q,r'⟩:=iterJ_ok (P:=C.P) (fr:=fr) (n:=n) (c:=c) (fun j rest s Kc K a w Q hj h hr hq=>ih j rest s Kc K a w Q hl hj h hr hq) Q unroll none c s Kc K a w rfl h hr hq b k cs
  exact⟨e,a',w',q,.of_steps (.one step_scope) r'⟩
 |exit id=>intro j rest s Kc K a w Q _ hj h hr hq;cases j with
  |none=>cases hj;exact wp_exit (hq _ _ _ _ _ hr h)
  |some l=>cases hj
 |goto l'=>intro j rest s Kc K a w Q _ hj h hr hq;cases j with
  |none=>cases hj;exact wp_goto (hq _ _ _ _ _ hr h)
  |some l=>cases hj
 |label l'=>intro j rest s Kc K a w Q _ hj h hr hq;cases j with
  |none=>cases hj;exact wp_label (hq _ _ _ _ _ hr h)
  |some l =>
   simp only[fromJ,findLabel] at hj
   simp only[evJ] at h
   cases hb:l'==l
   ·rw[hb] at hj;cases hj
   ·rw[hb] at hj h
    cases hj
    exact wp_skip (hq _ _ _ _ _ hr h)
 |ret=>intro j rest s Kc K a w Q _ hj h hr hq;cases j with
  |none=>cases hj;exact wp_ret (hq _ _ _ _ _ hr h)
  |some l=>cases hj
 |rangeFunc=>intro j rest s Kc K a w Q _ _ h;cases j<;>cases h
 |refuse=>intro j rest s Kc K a w Q _ _ h;cases j<;>cases h
theorem ev_ok (hC:FullOk C drawn) {call:CallIn} (hcall:CallsOk C.P call) {fr:Fr} {n:Nat} {f unroll:Nat} {r:R} (c:Code) (s:St) (Kc:Kont) (K:Kinds) (a:Act) (w:World) (Q:Exit→Act→World→Prop) (hl:LoopsOk C f n c)
  (h:ev C call drawn fr.T f n unroll c s Kc=some r) (hr:Rel fr n K s a w) (hq:∀e s' K' a' w',Rel fr n K' s' a' w'→Kc e s'=some r→Q e a' w'):c.wp C.P Q a w :=
 evJ_ok hC hcall c none c s Kc K a w Q hl rfl h hr hq
theorem load_ptr {P:Program} {K:Kinds} {s:St} {w:World} {t:TypeId} {x v:AV} (hl:loadAV P s noB t x=some v) {u:Value} (hx:RV w K x u):∃ad,u=.pointer (some ad):=by
 obtain⟨sh,xv⟩:=x
 cases sh<;>simp only[loadAV] at hl<;>try cases hl
 case box=>obtain⟨b,h,_⟩:=RV.box hx;exact⟨_,h⟩
 case boxi=>obtain⟨b,h,_⟩:=RV.boxi hx;exact⟨_,h⟩
 case ref=>obtain⟨ad,cc,h,_⟩:=RV.ref hx;exact⟨_,h⟩
 case elp=>obtain⟨b,h,_⟩:=RV.elp hx;exact⟨_,h⟩
 case wref=>obtain⟨ad,cc,h,_⟩:=RV.wref hx;exact⟨_,h⟩
def resRun (tmps:Array Value):ResultVar→Sem Value
 | .tmp t=>pure (tmps.getD t undef)
 | .cell a t=>do loadVar t (←asAddr (tmps.getD a undef))
theorem resOne_ok {P:Program} {fr:Fr} {n:Nat} {K:Kinds} {s:St} {a:Act} {w:World} (hr:Rel fr n K s a w) {x:ResultVar} {av:AV} (h:resOne P s x=some av) :
  ∃v,(resRun a.tmps x).run P w=.ok v w∧RV w K av v:=by
 cases x with
 |tmp t =>
  cases h
  exact⟨_,rfl,hr.get t⟩
 |cell t ty =>
  simp only[resOne] at h
  split at h
  ·rename_i hk
   have hx:=hr.get t
   obtain⟨ad,had⟩:=load_ptr h hx
   obtain⟨v,h1,h2⟩:=loadAV_ok hr hk h hx
   refine⟨v,?_,h2⟩
   rw[had] at h1
   simp only[resRun,had]
   exact h1
  ·cases h
theorem resMany_ok {P:Program} {fr:Fr} {n:Nat} {K:Kinds} {s:St} {a:Act} {w:World} (hr:Rel fr n K s a w):∀(l:List ResultVar) (av:AV),resMany P s l=some av →
  ∃vs,(l.mapM (resRun a.tmps)).run P w=.ok vs w∧RTup w K av.sh av.v vs∧vs.length=l.length
 |[],av,h=>by
  cases h
  exact⟨[],rfl,rfl,rfl⟩
 |x::l,av,h=>by
  simp only[resMany] at h
  split at h
  ·rename_i p q e1 e2
   split at h
   ·rename_i hsol
    cases h
    obtain⟨v,h1,h2⟩:=resOne_ok hr e1
    obtain⟨vs,h3,h4,h5⟩:=resMany_ok hr l q e2
    refine⟨v::vs,?_,⟨RV.solid h2 hsol,h4⟩,by simp[h5]⟩
    simp[List.mapM_cons,h1,h3]
   ·cases h
  ·cases h
theorem resAV_ok {P:Program} {fr:Fr} {n:Nat} {K:Kinds} {s:St} {a:Act} {w:World} (hr:Rel fr n K s a w) {fn:Func} {av:AV} (h:resAV P s fn.results.toList=some av) :
  ∃v,(results fn a.tmps).run P w=.ok v w∧RV w K av v:=by
 have e1:results fn a.tmps=(fn.results.mapM (resRun a.tmps) >>= fun vs=>pure (if h:vs.size=1 then vs[0] else .tuple vs)):=by
  unfold results
  have e0:(fun x:ResultVar=>match x with
   | .tmp t=>(pure (a.tmps.getD t undef):Sem Value)
   | .cell y t=>do loadVar t (←asAddr (a.tmps.getD y undef)))=resRun a.tmps:=by
   funext x
   cases x<;>rfl
  rw[←e0]
  rfl
 have key:∀(vs:List Value) ,(fn.results.toList.mapM (resRun a.tmps)).run P w=.ok vs w→(results fn a.tmps).run P w=.ok (if h:vs.toArray.size=1 then vs.toArray[0] else .tuple vs.toArray) w:=by
  intro vs hvs
  rw[e1,Array.mapM_eq_mapM_toList]
  simp[hvs]
 unfold resAV at h
 split at h
 ·rename_i rs x hrs
  obtain⟨v,h1,h2⟩:=resOne_ok hr h
  have:=key [v] (by rw[hrs];simp[h1])
  exact⟨v,this,h2⟩
 ·rename_i rs hne
  split at h
  ·rename_i p hp
   cases h
   obtain⟨vs,h1,h2,hlen⟩:=resMany_ok hr _ _ hp
   have h1':¬vs.toArray.size=1:=by
    intro hs
    simp only[List.size_toArray] at hs
    rw[hlen] at hs
    obtain⟨x,hx⟩:=List.length_eq_one_iff.1 hs
    exact hne x hx
   refine⟨.tuple vs.toArray,?_,vs.toArray,rfl,h2⟩
   rw[key vs h1,dif_neg h1']
  ·cases h
theorem enum_look {w:World} {K:Kinds}:∀(args:List AV) (vs:List Value) (k:Nat),RVs w K args vs→∀(t:Nat) (av:AV),look t (enum k args)=some av→∃i,t=k+i∧∃v,vs[i]?=some v∧RV w K av v
 |[],[],_,_,_,_,h=>by cases h
 |x::args,v::vs,k,hv,t,av,h=>by
  simp only[enum,look] at h
  split at h
  ·rename_i e
   simp only[beq_iff_eq] at e
   cases h
   exact⟨0,e,v,rfl,hv.1⟩
  ·split at h
   ·cases h
   ·obtain⟨i,h1,u,h2,h3⟩:=enum_look args vs (k+1) hv.2 t av h
    exact⟨i+1,by omega,u,by simpa using h2,h3⟩
 |[],_::_,_,hv,_,_,_=>hv.elim
 |_::_,[],_,hv,_,_,_=>hv.elim
theorem panVal_eq {ch:List PanicEntry} {v:Value} (h:panVal ch=some v):ch=[⟨v,false,false⟩]:=by
 unfold panVal at h
 split at h
 ·cases h;rfl
 ·cases h
theorem evF_ok (hC:FullOk C drawn) (unroll:Nat):∀d:Nat,CallsOk C.P (evF C drawn unroll d)
 |0=>fun f=>⟨(fun _ _ _ _ _ h=>by cases h),(fun _ _ _ _ _ h=>by cases h)⟩
 |d+1=>fun f=>by
  have ih:=evF_ok hC unroll d
  refine⟨fun args h nx Kc r he w K vs hv hh Rf hk hp=>?_,fun args h nx Kc r he=>?_⟩
  ·simp only[evF] at he
   split at he
   ·rename_i b hb
    exact hC.bodyOk f b hb _ _ _ _ _ he w K vs hv hh Rf hk hp
   split at he
   ·rename_i fn hfn
    split at he
    ·rename_i c hc
     split at he
     ·rename_i hlen
      refine calls_of_wp hfn hc ?_
      have hsize:(vs.toArray++Array.replicate (fn.ntmps-vs.toArray.size) undef).size=fn.ntmps:=by
       have:=RVs.length hv
       simp
       omega
      have hrel:Rel ⟨w,K,vs.toArray++Array.replicate (fn.ntmps-vs.toArray.size) undef,fun _=>true,[]⟩ fn.ntmps K {ents:=enum 0 args,heap:=h,next:=nx} {tmps:=vs.toArray++Array.replicate (fn.ntmps-vs.toArray.size) undef,defers:=[]} w:={
       ext:=Ext.refl _ _
       size:=hsize
       defers:=rfl
       ents:=fun t av ht=>by
        obtain⟨i,h1,v,h2,h3⟩:=enum_look args vs 0 hv t av ht
        have hi:i<vs.length:=(List.getElem?_eq_some_iff.1 h2).1
        have:(vs.toArray++Array.replicate (fn.ntmps-vs.toArray.size) undef).getD t undef=v:=by
         rw[Array.getD_eq_getD_getElem?,h1,Nat.zero_add,Array.getElem?_append_left (by simpa using hi)]
         simp[h2]
        rw[this]
        exact h3
       frame:=fun _ _ hT=>by cases hT
       heap:=hh.cells
       uniq:=hh.uniq}
      refine ev_ok hC ih (fr:=⟨w,K,vs.toArray++Array.replicate (fn.ntmps-vs.toArray.size) undef,fun _=>true,[]⟩) c _ _ K _ w _ (hC.loops f fn c hfn hc) he hrel (fun e s' K' a' w' hrel' hkc=>?_)
      have fin:∀e,(e=.ret∨e=.normal)→(match resAV C.P s' fn.results.toList with|some v=>Kc v s'.heap s'.next |none=>none)=some r→bodyPost C.P fn Rf e a' w':=by
       intro e he hkc
       split at hkc
       ·rename_i av hav
        obtain⟨v,h1,h2⟩:=resAV_ok hrel' hav
        have:=hk av v _ _ w' K' hrel'.ext h2 hrel'.heapOk hkc
        rcases he with rfl |rfl
        ·exact⟨hrel'.defers,v,h1,this⟩
        ·exact⟨hrel'.defers,v,h1,this⟩
       ·cases hkc
      cases e with
      |ret=>exact fin _ (.inl rfl) hkc
      |normal=>exact fin _ (.inr rfl) hkc
      |panic ch =>
       simp only at hkc
       split at hkc
       ·rename_i u hu
        rw[panVal_eq hu]
        exact⟨hrel'.defers,hp u _ _ w' K' hrel'.ext hrel'.heapOk hkc⟩
       ·cases hkc
      |_=>cases hkc
     ·cases he
    ·cases he
   ·cases he
  ·simp only[evF] at he
   split at he
   ·rename_i b hb
    exact hC.bodyFn f b hb
   split at he
   ·rename_i fn hfn
    split at he
    ·rename_i c hc
     exact⟨fn,hfn,by rw[hc];rfl⟩
    ·cases he
   ·cases he
end
end Go.Av
end
