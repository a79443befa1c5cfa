/- Texts of the proof, one behind the other. -/
import Derived.Test.YtealbjacocgjcaaGreatGateFaultK15
section
namespace Go.Av
open Go
def qj7:q9→List Nat
 |[]=>[]
 |(_,c)::l=>c.sh.rows++qj7 l
def below (B:Nat):q9→q9
 |[]=>[]
 |(j,c)::l=>bif Nat.blt j B then(j,c)::below B l else below B l
def qvK (B:Nat):q9→Bool
 |[]=>true
 |(j,_)::l=>Nat.blt j B&&qvK B l
def qpK (ts:List Nat) (j:Nat):Option Nat:=(qbo j ts 0).map (32+·)
def qgv (B j:Nat):Option Nat:=bif Nat.blt j B then some j else none
def tidy (B:Nat) (vals:List AV) (heap:q9) (K:List AV→q9→Option R):Option R :=
 let h:=below B heap
 let ts:=qdw [] (allRows vals++qj7 h)
 K (vals.map (·.ren (qpK ts) (qgv B))) (qde (·.ren (qpK ts) (qgv B)) h)
theorem qBJ {a b:Nat} (h:a<b):Nat.blt a b=true:=by rw[Nat.blt_eq];exact h
theorem qQt {a b:Nat} (h:Nat.blt a b=true):a<b:=by rw[Nat.blt_eq] at h;exact h
theorem qxJ {B id:Nat} {c:AV} (hid:id<B):∀h:q9,look id h=some c→look id (below B h)=some c
 |[],h=>by cases h
 |(j,u)::l,h=>by
  simp only[look] at h
  simp only[below]
  split at h
  ·rename_i e
   simp only[beq_iff_eq] at e
   subst e
   rw[show Nat.blt id B=true from qBJ hid]
   simpa [look] using h
  ·rename_i e
   split at h
   ·cases h
   ·rename_i e'
    have ih:=qxJ hid l h
    simp only[beq_iff_eq] at e
    simp only[Nat.blt_eq] at e'
    rw[show Nat.blt j B=true from qBJ (by omega)]
    simp only[cond_true,look]
    rw[if_neg (by simpa using e),if_neg (by simpa [Nat.blt_eq] using e'),ih]
theorem qsT {B id:Nat} {c:AV}:∀h:q9,qvK B h=true→look id h=some c→id<B
 |[],_,h=>by cases h
 |(j,u)::l,hk,h=>by
  simp only[qvK,Bool.and_eq_true,Nat.blt_eq] at hk
  simp only[look] at h
  split at h
  ·rename_i e
   simp only[beq_iff_eq] at e
   omega
  ·split at h
   ·cases h
   ·exact qsT l hk.2 h
section
variable {w w':World} {K K':Kinds} {B:Nat} {ρ:Nat→Option Nat}
theorem qzR {a:AV} {v:Value} (h:RV w' K' a v):RV w' (fun b=>qbT ρ (qgv B) (K' b)) (a.ren ρ (qgv B)) v:=by
 refine RV.ren (w':=w') (fun b o _ hs=>⟨(qlx _ _ _ _).2 hs,rfl⟩) (Nat.le_refl _) (fun b id u j _ hk hj=>⟨?_,rfl⟩) (fun b id j _ hk hj=>⟨?_,fun _ h=>h⟩) h
 ·simp only[hk,qbT,hj]
 ·simp only[hk,qbT,hj]
theorem qHB {a:AV} {o:Obj} (h:qbA w' K' a.sh a.v o):qbA w' (fun b=>qbT ρ (qgv B) (K' b)) (a.ren ρ (qgv B)).sh (a.ren ρ (qgv B)).v o :=
 qbA.ren (w':=w') (fun b o _ hs=>⟨(qlx _ _ _ _).2 hs,rfl⟩) (Nat.le_refl _) (fun b id u j _ hk hj=>⟨by simp only[hk,qbT,hj],rfl⟩) (fun b id j _ hk hj=>⟨by simp only[hk,qbT,hj],fun _ h=>h⟩) h
theorem qC9 (g:Ext w K w' K') (hk:∀b id,b<w.heap.size→K b=.box id→id<B):Ext w K w' (fun b=>qbT ρ (qgv B) (K' b)) where
 os:=g.os
 tape:=g.tape
 output:=g.output
 size:=g.size
 fix:=fun b hb hf=>by
  obtain⟨h1,h2⟩:=g.fix b hb hf
  refine⟨?_,h2⟩
  rw[h1]
  cases e:K b with
  |old=>rfl
  |far u=>rfl
  |box id=>rw[e] at hf;cases hf
  |row id u=>rw[e] at hf;cases hf
 stab:=fun b o hb hs=>⟨(qlx _ _ _ _).2 (g.stab b o hb hs).1,(g.stab b o hb hs).2⟩
 box:=fun b id hb hkb=>by
  have h1:=g.box b id hb hkb
  have h2:=hk b id hb hkb
  simp only[h1,qbT,qgv,show Nat.blt id B=true from qBJ h2,cond_true]
 bsz:=g.bsz
theorem qtQ {b id:Nat} (h:qbT ρ (qgv B) (K' b)=.box id):K' b=.box id∧id<B:=by
 cases e:K' b with
 |old=>rw[e] at h;cases h
 |far u=>rw[e] at h;cases h
 |row j u=>rw[e] at h;simp only[qbT] at h;split at h<;>cases h
 |box j =>
  rw[e] at h
  simp only[qbT,qgv] at h
  cases hb:Nat.blt j B
  ·rw[hb] at h;cases h
  ·rw[hb] at h
   cases h
   exact⟨rfl,qQt hb⟩
theorem qAl {h:q9} (hh:qdk w' K' h):qdk w' (fun b=>qbT ρ (qgv B) (K' b)) (qde (·.ren ρ (qgv B)) (below B h)) where
 cells:=fun b id hb hk=>by
  obtain⟨h1,h2⟩:=qtQ hk
  obtain⟨av,o,l1,l2,l3⟩:=hh.cells b id hb h1
  exact⟨_,o,by rw[qfp,qxJ h2 h l1];rfl,l2,qHB l3⟩
 uniq:=fun b b' id hb hb' hk hk'=>hh.uniq b b' id hb hb' (qtQ hk).1 (qtQ hk').1
end
abbrev Step:=List AV→q9→Nat→(Exit→List AV→q9→Nat→Option R)→Option R
def qqZ (C:Ctx) (call:qcM) (drawn:(FuncId→Bool)→Array Oper→Bool) (f n unroll:Nat) (body:Code) (M T:List Nat):Step:=fun vals heap nx K =>
 ev C call drawn ((M++T).contains) f n unroll body {ents:=qb1 M vals,heap:=heap,next:=nx} fun e s =>
  if qgH (M++T) s.ents then K e (M.map s.get) s.heap s.next else none
def blank (D:List Nat):List Nat→List AV→List AV
 |t::M,a::l=>(bif D.contains t then AV.top else a)::blank D M l
 |_,_=>[]
def again (D M:List Nat) (K:Exit→List AV→q9→Nat→Option R):Exit→List AV→q9→Nat→(Nat→Option Nat)→Option R :=
 fun e v h _ _=>tidy 32 (blank D M v) h fun v h=>K e v h 64
def qQg (D M:List Nat) (N:Nat) (ts bs:List Nat) (heap:q9) (K:Exit→List AV→q9→Nat→Option R):Exit→List AV→q9→Nat→Option R:=fun e vals' h nx =>
 if qnE N bs heap h then again D M K e (vals'.map (·.ren (qbv N ts) (qbv N bs))) (qhS (qbv N ts) (qbv N bs) (qde (·.ren (qcN ts) some) heap) h) (N+nx) (qcN ts) else none
def qq9 (D M:List Nat) (step:Step):Nat→Step
 |0,_,_,_,_=>none
 |m+1,vals,heap,nx,K =>
  if qvK 32 heap then step vals heap nx fun e vals' heap' _=>match e with
   | .normal=>tidy 32 vals' heap' fun v h=>inLoop (qq9 D M step m) v h 64 (again D M K)
   |e=>tidy 32 (blank D M vals') heap' fun v h=>K e v h 64
  else none
theorem qvv {M T:List Nat}:∀(l l0:List (Nat×AV)),qgH M l=true→without (M++T) l0 l=[]
 |[],_,_=>rfl
 |(j,v)::l,l0,h=>by
  simp only[qgH,Bool.and_eq_true] at h
  simp only[without]
  rw[if_pos (by simp[List.contains_eq_mem] at h ⊢;exact .inl h.1)]
  exact qvv l l0 h.2
theorem qxv {M:List Nat} {t:Nat} {v:AV} (ht:M.contains t=true):∀l:List (Nat×AV),qgH M l=true→qgH M (put t v l)=true
 |[],_=>by simp only[put,qgH,ht,Bool.and_self]
 |(j,u)::l,h=>by
  simp only[qgH,Bool.and_eq_true] at h
  simp only[put]
  split
  ·simp only[qgH,ht,h.2,Bool.and_self]
  ·split
   ·simp only[qgH,ht,h.1,h.2,Bool.and_self]
   ·simp only[qgH,h.1,qxv ht l h.2,Bool.and_self]
theorem qws {N:List Nat}:∀(M:List Nat) (l:List AV),(∀t,t∈M→N.contains t=true)→qgH N (qb1 M l)=true
 |[],_,_=>rfl
 |_::_,[],_=>rfl
 |m::M,x::l,h=>qxv (h m (by simp)) _ (qws M l (fun t ht=>h t (List.mem_cons_of_mem _ ht)))
theorem qAj:∀(M:List Nat) (l:List AV),qm8 [] M l=qb1 M l
 |[],_=>rfl
 |_::_,[]=>rfl
 |m::M,x::l=>by simp only[qm8,qb1,qAj M l]
theorem qtu {fr:Fr} {n:Nat} {K:Kinds} {vals:List AV} {h:q9} {nx:Nat} {a:Act} {w:World} {M:List Nat} {B:Nat} {ρ:Nat→Option Nat} (hr:Rel fr n K {ents:=qb1 M vals,heap:=h,next:=nx} a w)
  (hk:∀b id,b<fr.w0.heap.size→fr.K0 b=.box id→id<B) (nx':Nat) :
  Rel fr n (fun b=>qbT ρ (qgv B) (K b)) {ents:=qb1 M (vals.map (·.ren ρ (qgv B))),heap:=qde (·.ren ρ (qgv B)) (below B h),next:=nx'} a w where
 ext:=qC9 hr.ext hk
 size:=hr.size
 defers:=hr.defers
 ents:=fun t av ht=>by
  rw[qib] at ht
  obtain⟨av',e1,e2⟩:=Option.map_eq_some_iff.1 ht
  subst e2
  exact qzR (hr.ents t av' e1)
 frame:=fun t ht hTt=>by
  refine hr.frame t ?_ hTt
  rw[qib] at ht
  simpa using ht
 heap:=(qAl hr.heapOk).cells
 uniq:=(qAl hr.heapOk).uniq
theorem qxE {D:List Nat} {t:Nat} {av:AV}:∀(M:List Nat) (l:List AV),look t (qb1 M (blank D M l))=some av→av=AV.top∨look t (qb1 M l)=some av
 |[],_,h=>by cases h
 |_::_,[],h=>by cases h
 |m::M,a::l,h=>by
  simp only[blank,qb1,qbX] at h ⊢
  split at h
  ·rename_i e
   cases h
   cases hc:D.contains m
   ·exact .inr (by simp[e])
   ·exact .inl rfl
  ·rename_i e
   simp only[if_neg e]
   exact qxE M l h
theorem qsg {D:List Nat} {t:Nat}:∀(M:List Nat) (l:List AV),look t (qb1 M (blank D M l))=none→look t (qb1 M l)=none
 |[],_,_=>rfl
 |_::_,[],_=>rfl
 |m::M,a::l,h=>by
  simp only[blank,qb1,qbX] at h ⊢
  split at h
  ·cases h
  ·rename_i e
   simp only[if_neg e]
   exact qsg M l h
theorem quV {fr:Fr} {n:Nat} {K:Kinds} {vals:List AV} {h:q9} {nx:Nat} {a:Act} {w:World} {M:List Nat} (D:List Nat) (hr:Rel fr n K {ents:=qb1 M vals,heap:=h,next:=nx} a w) :
  Rel fr n K {ents:=qb1 M (blank D M vals),heap:=h,next:=nx} a w where
 ext:=hr.ext
 size:=hr.size
 defers:=hr.defers
 ents:=fun t av ht=>(qxE M vals ht).elim (fun e=>e▸qyk _) (hr.ents t av)
 frame:=fun t ht hTt=>hr.frame t (qsg M vals ht) hTt
 heap:=hr.heap
 uniq:=hr.uniq
theorem qKI (M:List Nat) (g:Nat→AV) (h:q9) (nx:Nat):M.map g=M.map (St.get {ents:=qb1 M (M.map g),heap:=h,next:=nx}):=by
 refine List.map_congr_left (fun t ht=>?_)
 have:look t (qb1 M (M.map g))=some (g t):=by
  have:∀(M:List Nat),t∈M→look t (qb1 M (M.map g))=some (g t):=by
   intro M
   induction M with
   |nil=>intro h;cases h
   |cons x M ihM =>
    intro h
    simp only[List.map_cons,qb1,qbX]
    split
    ·rename_i e;rw[e]
    ·rename_i e
     exact ihM (by simpa [e] using h)
  exact this M ht
 simp only[St.get,this]
 rfl
section
variable {C:Ctx} {drawn:(FuncId→Bool)→Array Oper→Bool}
def qJP (P:Program) (c:Code) (Q:Exit→Act→World→Prop) (a:Act) (w:World):Prop :=
 ∀(b:Frame) (k:List Item) (cs:List Frame),∃e a' w',Q e a' w'∧Arrives P (lone (b.at a (.code c::.inLoop c::k)) cs w) b k cs e a' w'
theorem qCL (hC:FullOk C drawn) {call:qcM} (hcall:qgp C.P call) {f n unroll:Nat} {body:Code} {D M T:List Nat} (hl:qbz C f n body) :
  ∀m:Nat,qpq n ⟨M,T,qq9 D M (qqZ C call drawn f n unroll body M T) m⟩ (qJP C.P body)
 |0=>fun _ _ _ _ _ _ _ _ _ h=>by cases h
 |m+1=>by
  intro fr K a w vals heap nx Kt r h hT hr Q hq
  have ih:=qCL hC hcall (unroll:=unroll) (D:=D) (M:=M) (T:=T) hl m
  simp only[qq9] at h
  split at h
  ·rename_i hkeys
   have hk:∀b id,b<fr.w0.heap.size→fr.K0 b=.box id→id<32:=fun b id hb hkb=>by
    have h1:=hr.ext.box b id hb hkb
    obtain⟨av,_,l1,_⟩:=hr.heap b id (Nat.lt_of_lt_of_le hb hr.ext.size) h1
    exact qsT _ hkeys l1
   have hTf:fr.T=(M++T).contains:=funext hT
   have hstep:=h
   unfold qqZ at hstep
   refine qAz (qv1 hC hcall body _ _ K a w _ hl (by rw[hTf];exact hstep) hr (fun e s' K' a' w' hrel hkc=>?_))
   split at hkc
   ·rename_i hki
    have hz:Rel fr n K' {ents:=qb1 M (M.map s'.get),heap:=s'.heap,next:=s'.next} a' w':=qt4 hrel hT (by simpa using hki) s'.next
    have fin:∀e,(tidy 32 (blank D M (M.map s'.get)) s'.heap fun v h=>Kt e v h 64)=some r→Q e a' w':=fun e hk'=>by
     unfold tidy at hk'
     exact hq e _ _ _ _ a' w' (qtu (quV D hz) hk 64) hk'
    cases e with
    |normal =>
     simp only at hkc
     unfold tidy at hkc
     simp only[List.map_map] at hkc
     have hz2:=qtu (ρ:=qpK (qdw [] (allRows (M.map s'.get)++qj7 (below 32 s'.heap)))) hz hk 64
     rw[List.map_map] at hz2
     rw[qKI M _ (qde (·.ren (qpK (qdw [] (allRows (M.map s'.get)++qj7 (below 32 s'.heap)))) (qgv 32)) (below 32 s'.heap)) 64] at hkc
     refine qvI (G:=qJP C.P body) ih hz2 (fun t ht=>by rw[hT];exact ht) hkc Q (fun e vals' heap' nx' ρ K'' a'' w'' hrel'' hkc''=>?_)
     have hzz:∀V,qm8 (qde (·.ren ρ some) (without (M++T) (qb1 M V) (qb1 M V))) M vals'=qb1 M vals':=fun V=>by
      rw[qvv _ _ (qws M _ (fun t ht=>by simpa using ht))]
      exact qAj M vals'
     simp only[hzz] at hrel''
     unfold again tidy at hkc''
     exact hq e _ _ _ _ a'' w'' (qtu (quV D hrel'') hk 64) hkc''
    |exit j=>exact fin _ hkc
    |goto l=>exact fin _ hkc
    |ret=>exact fin _ hkc
    |panic ch=>exact fin _ hkc
    |outgrown=>exact fin _ hkc
   ·cases hkc
  ·cases h
end
def Ctx.addPlain (C:Ctx) (f:FuncId) (ps:Plain):Ctx:={C with plain:=fun g=>bif Nat.beq g f then some ps else C.plain g}
def Ctx.addLoop (C:Ctx) (f:FuncId) (r:Nat) (L:Loop):Ctx:={C with loops:=fun g q=>bif Nat.beq g f&&Nat.beq q r then some L else C.loops g q}
def bodies (r:Nat):Code→List Code
 | .seq a b=>bodies r a++bodies r b
 | .cond _ a b=>bodies r a++bodies r b
 | .block _ c=>bodies r c
 | .loop c=>(match qg4 c with
  |some q=>bif Nat.beq q r then[c] else[]
  |none=>[])++bodies r c
 | .scope c=>bodies r c
 |_=>[]
def qkC (P:Program) (f:FuncId):Code:=match P.funcs[f]? with
 |some fn=>fn.body.getD .skip
 |none=>.skip
def qj2 (P:Program) (f:FuncId):Nat:=match P.funcs[f]? with
 |some fn=>fn.ntmps
 |none=>0
def qpc (P:Program) (f:FuncId) (r:Nat):Code:=(bodies r (qkC P f)).headD .skip
def qrn (P:Program) (f:FuncId) (r:Nat):Bool:=(bodies r (qkC P f)).length==1
def qkJ (P:Program) (f:FuncId):Bool:=match P.funcs[f]? with
 |some fn=>fn.body.isSome
 |none=>false
section
variable {C:Ctx}
theorem qbz.body {f n r:Nat} {b:Code}:∀c:Code,qbz C f n c→b∈bodies r c→qbz C f n b:=by
 intro c
 induction c with
 |seq x y ihx ihy=>intro h hb;simp only[bodies,List.mem_append] at hb;exact hb.elim (ihx h.2.1) (ihy h.2.2)
 |cond cd x y ihx ihy=>intro h hb;simp only[bodies,List.mem_append] at hb;exact hb.elim (ihx h.1) (ihy h.2)
 |block id c ih=>intro h hb;exact ih h hb
 |loop c ih =>
  intro h hb
  simp only[bodies,List.mem_append] at hb
  rcases hb with hb |hb
  ·split at hb
   ·cases hq:Nat.beq _ r
    ·rw[hq] at hb;simp at hb
    ·rw[hq] at hb;simp at hb;subst hb;exact h.2
   ·simp at hb
  ·exact ih h.2 hb
 |scope c ih=>intro h hb;exact ih h hb
 |_=>intro _ hb;simp[bodies] at hb
theorem qbz.congr {C C':Ctx} (hP:C'.P=C.P) (h:∀f r,C'.loops f r=C.loops f r) (h2:∀f r,C'.cuts f r=C.cuts f r) {f n:Nat}:∀c:Code,qbz C f n c→qbz C' f n c:=by
 intro c
 induction c with
 |seq x y ihx ihy =>
  intro hh
  refine⟨fun L hL=>?_,ihx hh.2.1,ihy hh.2.2⟩
  rw[hP]
  refine hh.1 L ?_
  rw[←hL]
  congr 1
  exact(funext (h2 f)).symm
 |cond cd x y ihx ihy=>intro h;exact⟨ihx h.1,ihy h.2⟩
 |block id c ih=>intro h;exact ih h
 |loop c ih =>
  intro hh
  refine⟨fun L hL=>?_,ih hh.2⟩
  rw[hP]
  refine hh.1 L ?_
  rw[←hL]
  congr 1
  exact(funext (h f)).symm
 |scope c ih=>intro h;exact ih h
 |_=>intro _;trivial
theorem CtxOk.addPlain {C:Ctx} (h:CtxOk C) {f:FuncId} {ps:Plain} (hp:qlP C.P f ps) (hb:qkJ C.P f=true) (hs:qrx C.P f ps):CtxOk (C.addPlain f ps) where
 gets:=h.gets
 snap:=fun g qs hq=>by
  simp only[Ctx.addPlain] at hq
  cases e:Nat.beq g f
  ·rw[e] at hq;exact h.snap g qs hq
  ·rw[e] at hq
   cases hq
   rw[Nat.eq_of_beq_eq_true e]
   exact hs
 eqs:=h.eqs
 plain:=fun g qs hq=>by
  simp only[Ctx.addPlain] at hq
  cases e:Nat.beq g f
  ·rw[e] at hq;exact h.plain g qs hq
  ·rw[e] at hq
   cases hq
   rw[Nat.eq_of_beq_eq_true e]
   exact hp
 names:=h.names
 bodyOk:=h.bodyOk
 bodyFn:=h.bodyFn
 plainBody:=fun g qs hq=>by
  simp only[Ctx.addPlain] at hq
  cases e:Nat.beq g f
  ·rw[e] at hq;exact h.plainBody g qs hq
  ·rw[Nat.eq_of_beq_eq_true e]
   unfold qkJ at hb
   split at hb
   ·exact⟨_,by assumption,hb⟩
   ·cases hb
 mixed:=h.mixed
theorem CtxOk.addLoop {C:Ctx} (h:CtxOk C) (f:FuncId) (r:Nat) (L:Loop):CtxOk (C.addLoop f r L) where
 gets:=h.gets
 snap:=h.snap
 eqs:=h.eqs
 plain:=h.plain
 names:=h.names
 bodyOk:=h.bodyOk
 bodyFn:=h.bodyFn
 plainBody:=h.plainBody
 mixed:=h.mixed
abbrev Good (C:Ctx):Prop:=FullOk C qd7
def Ctx.addBody (C:Ctx) (f:FuncId) (b:Body):Ctx:={C with bodies:=fun g=>bif Nat.beq g f then some b else C.bodies g}
def Ctx.addOwn (C:Ctx) (f:FuncId):Ctx:={C with owns:=fun g=>bif Nat.beq g f then true else C.owns g}
theorem CtxOk.addOwn {C:Ctx} (h:CtxOk C) (f:FuncId):CtxOk (C.addOwn f) where
 gets:=h.gets
 snap:=h.snap
 eqs:=h.eqs
 plain:=h.plain
 names:=h.names
 plainBody:=h.plainBody
 mixed:=h.mixed
 bodyOk:=h.bodyOk
 bodyFn:=h.bodyFn
theorem CtxOk.addBody {C:Ctx} (h:CtxOk C) {f:FuncId} {b:Body} (hp:qms C.P f b) (hb:qkJ C.P f=true):CtxOk (C.addBody f b) where
 gets:=h.gets
 snap:=h.snap
 eqs:=h.eqs
 plain:=h.plain
 names:=h.names
 plainBody:=h.plainBody
 mixed:=h.mixed
 bodyOk:=fun g qs hq=>by
  simp only[Ctx.addBody] at hq
  cases e:Nat.beq g f
  ·rw[e] at hq;exact h.bodyOk g qs hq
  ·rw[e] at hq
   cases hq
   rw[Nat.eq_of_beq_eq_true e]
   exact hp
 bodyFn:=fun g qs hq=>by
  simp only[Ctx.addBody] at hq
  cases e:Nat.beq g f
  ·rw[e] at hq;exact h.bodyFn g qs hq
  ·rw[Nat.eq_of_beq_eq_true e]
   unfold qkJ at hb
   split at hb
   ·exact⟨_,by assumption,hb⟩
   ·cases hb
theorem Good.addOwn {C:Ctx} (h:Good C) (f:FuncId):Good (C.addOwn f) where
 toCtxOk:=h.toCtxOk.addOwn f
 drawn:=qpb (h.toCtxOk.addOwn f)
 loops:=fun g fn c hfn hc=>qbz.congr (C:=C) (C':=C.addOwn f) rfl (fun _ _=>rfl) (fun _ _=>rfl) c (h.loops g fn c hfn hc)
theorem Good.addBody {C:Ctx} (h:Good C) {f:FuncId} {b:Body} (hp:qms C.P f b) (hb:qkJ C.P f=true):Good (C.addBody f b) where
 toCtxOk:=h.toCtxOk.addBody hp hb
 drawn:=qpb (h.toCtxOk.addBody hp hb)
 loops:=fun g fn c hfn hc=>qbz.congr (C:=C) (C':=C.addBody f b) rfl (fun _ _=>rfl) (fun _ _=>rfl) c (h.loops g fn c hfn hc)
theorem Good.addSnap (h:Good C) {f:FuncId} {ps:Plain} (hp:qlP C.P f ps) (hb:qkJ C.P f=true) (hs:qrx C.P f ps):Good (C.addPlain f ps) where
 toCtxOk:=h.toCtxOk.addPlain hp hb hs
 drawn:=qpb (h.toCtxOk.addPlain hp hb hs)
 loops:=fun g fn c hfn hc=>qbz.congr (C:=C) (C':=C.addPlain f ps) rfl (fun _ _=>rfl) (fun _ _=>rfl) c (h.loops g fn c hfn hc)
theorem qbz.add {C:Ctx} {f r:Nat} {L:Loop} {g n:Nat}:∀c:Code,qbz C g n c→(∀b∈bodies r c,g=f→qyW C.P n b L)→qbz (C.addLoop f r L) g n c:=by
 intro c
 induction c with
 |seq x y ihx ihy=>intro h hb;exact⟨h.1,ihx h.2.1 (fun b hb'=>hb b (by simp[bodies,hb'])),ihy h.2.2 (fun b hb'=>hb b (by simp[bodies,hb']))⟩
 |cond cd x y ihx ihy=>intro h hb;exact⟨ihx h.1 (fun b hb'=>hb b (by simp[bodies,hb'])),ihy h.2 (fun b hb'=>hb b (by simp[bodies,hb']))⟩
 |block id c ih=>intro h hb;exact ih h hb
 |loop c ih =>
  intro hh hb
  refine⟨fun L' hL=>?_,ih hh.2 (fun b hb'=>hb b (by simp[bodies,hb']))⟩
  cases hq:qg4 c with
  |none=>rw[hq] at hL;cases hL
  |some q =>
   rw[hq] at hL
   simp only[Option.bind_some,Ctx.addLoop] at hL
   cases e:(Nat.beq g f&&Nat.beq q r)
   ·rw[e] at hL
    exact hh.1 L' (by rw[hq];exact hL)
   ·rw[e] at hL
    cases hL
    simp only[Bool.and_eq_true] at e
    exact hb c (by simp only[bodies,hq,e.2,cond_true];simp) (Nat.eq_of_beq_eq_true e.1)
 |scope c ih=>intro h hb;exact ih h hb
 |_=>intro _ _;trivial
theorem Good.addLoop (h:Good C) {f:FuncId} {r:Nat} {L:Loop} (h1:qrn C.P f r=true) (hL:qyW C.P (qj2 C.P f) (qpc C.P f r) L):Good (C.addLoop f r L) where
 toCtxOk:=h.toCtxOk.addLoop f r L
 drawn:=qpb (h.toCtxOk.addLoop f r L)
 loops:=fun g fn c hfn hc=>by
  refine qbz.add c (h.loops g fn c hfn hc) (fun b hb hg=>?_)
  have hfn':C.P.funcs[f]?=some fn:=by rw[←hg];exact hfn
  have e1:qkC C.P f=c:=by unfold qkC;rw[hfn'];simp[hc]
  have e2:qj2 C.P f=fn.ntmps:=by unfold qj2;rw[hfn']
  unfold qrn at h1
  unfold qpc at hL
  rw[e1] at h1 hL
  rw[e2] at hL
  match hbs:bodies r c with
  |[]=>rw[hbs] at hb;cases hb
  |[x] =>
   rw[hbs] at hb hL
   simp at hb
   subst hb
   exact hL
  |x::y::l=>rw[hbs] at h1;simp at h1
theorem Good.loopsOf (h:Good C) {f r:Nat} (h1:qrn C.P f r=true):qbz C f (qj2 C.P f) (qpc C.P f r):=by
 unfold qrn at h1
 unfold qpc qj2
 unfold qkC at *
 cases hfn:C.P.funcs[f]? with
 |none=>rw[hfn] at h1;simp[bodies] at h1
 |some fn =>
  rw[hfn] at h1
  simp only at h1 ⊢
  cases hc:fn.body with
  |none=>rw[hc] at h1;simp[bodies] at h1
  |some c =>
   rw[hc] at h1
   simp only[Option.getD_some] at h1 ⊢
   refine qbz.body (r:=r) c (h.loops f fn c hfn hc) ?_
   match hbs:bodies r c with
   |[]=>rw[hbs] at h1;simp at h1
   |x::l=>simp
def Ctx.addCut (C:Ctx) (f:FuncId) (k:Nat) (L:Loop):Ctx:={C with cuts:=fun g q=>bif Nat.beq g f&&Nat.beq q k then some L else C.cuts g q}
def qd3 (k:Nat):Code→List Code
 | .seq a b=>(match qvx a with
  |some q=>bif Nat.beq q k then[.seq a b] else[]
  |none=>[])++(qd3 k a++qd3 k b)
 | .cond _ a b=>qd3 k a++qd3 k b
 | .block _ c=>qd3 k c
 | .loop c=>qd3 k c
 | .scope c=>qd3 k c
 |_=>[]
def qrE (P:Program) (f:FuncId) (k:Nat):Code:=(qd3 k (qkC P f)).headD .skip
def qs1 (P:Program) (f:FuncId) (k:Nat):Bool:=(qd3 k (qkC P f)).length==1
theorem qbz.cut {f n k:Nat} {b:Code}:∀c:Code,qbz C f n c→b∈qd3 k c→qbz C f n b:=by
 intro c
 induction c with
 |seq x y ihx ihy =>
  intro h hb
  simp only[qd3,List.mem_append] at hb
  rcases hb with hb |hb |hb
  ·split at hb
   ·cases hq:Nat.beq _ k
    ·rw[hq] at hb;simp at hb
    ·rw[hq] at hb;simp at hb;subst hb;exact h
   ·simp at hb
  ·exact ihx h.2.1 hb
  ·exact ihy h.2.2 hb
 |cond cd x y ihx ihy=>intro h hb;simp only[qd3,List.mem_append] at hb;exact hb.elim (ihx h.1) (ihy h.2)
 |block id c ih=>intro h hb;exact ih h hb
 |loop c ih=>intro h hb;exact ih h.2 hb
 |scope c ih=>intro h hb;exact ih h hb
 |_=>intro _ hb;simp[qd3] at hb
theorem CtxOk.addCut {C:Ctx} (h:CtxOk C) (f:FuncId) (k:Nat) (L:Loop):CtxOk (C.addCut f k L) where
 gets:=h.gets
 snap:=h.snap
 eqs:=h.eqs
 plain:=h.plain
 names:=h.names
 bodyOk:=h.bodyOk
 bodyFn:=h.bodyFn
 plainBody:=h.plainBody
 mixed:=h.mixed
theorem qbz.addCut {C:Ctx} {f k:Nat} {L:Loop} {g n:Nat}:∀c:Code,qbz C g n c→(∀b∈qd3 k c,g=f→qpq n L (fun Q a w=>b.wp C.P Q a w))→qbz (C.addCut f k L) g n c:=by
 intro c
 induction c with
 |seq x y ihx ihy =>
  intro hh hb
  refine⟨fun L' hL=>?_,ihx hh.2.1 (fun b hb'=>hb b (by simp[qd3,hb'])),ihy hh.2.2 (fun b hb'=>hb b (by simp[qd3,hb']))⟩
  cases hq:qvx x with
  |none=>rw[hq] at hL;cases hL
  |some q =>
   rw[hq] at hL
   simp only[Option.bind_some,Ctx.addCut] at hL
   cases e:(Nat.beq g f&&Nat.beq q k)
   ·rw[e] at hL
    exact hh.1 L' (by rw[hq];exact hL)
   ·rw[e] at hL
    cases hL
    simp only[Bool.and_eq_true] at e
    exact hb (.seq x y) (by simp only[qd3,hq,e.2,cond_true];simp) (Nat.eq_of_beq_eq_true e.1)
 |cond cd x y ihx ihy=>intro h hb;exact⟨ihx h.1 (fun b hb'=>hb b (by simp[qd3,hb'])),ihy h.2 (fun b hb'=>hb b (by simp[qd3,hb']))⟩
 |block id c ih=>intro h hb;exact ih h hb
 |loop c ih=>intro hh hb;exact⟨hh.1,ih hh.2 hb⟩
 |scope c ih=>intro h hb;exact ih h hb
 |_=>intro _ _;trivial
theorem Good.addCut (h:Good C) {f:FuncId} {k:Nat} {L:Loop} (h1:qs1 C.P f k=true) (hL:qpq (qj2 C.P f) L (fun Q a w=>(qrE C.P f k).wp C.P Q a w)):Good (C.addCut f k L) where
 toCtxOk:=h.toCtxOk.addCut f k L
 drawn:=qpb (h.toCtxOk.addCut f k L)
 loops:=fun g fn c hfn hc=>by
  refine qbz.addCut c (h.loops g fn c hfn hc) (fun b hb hg=>?_)
  have hfn':C.P.funcs[f]?=some fn:=by rw[←hg];exact hfn
  have e1:qkC C.P f=c:=by unfold qkC;rw[hfn'];simp[hc]
  have e2:qj2 C.P f=fn.ntmps:=by unfold qj2;rw[hfn']
  unfold qs1 at h1
  unfold qrE at hL
  rw[e1] at h1 hL
  rw[e2] at hL
  match hbs:qd3 k c with
  |[]=>rw[hbs] at hb;cases hb
  |[x] =>
   rw[hbs] at hb hL
   simp at hb
   subst hb
   exact hL
  |x::y::l=>rw[hbs] at h1;simp at h1
theorem Good.cutOf (h:Good C) {f k:Nat} (h1:qs1 C.P f k=true):qbz C f (qj2 C.P f) (qrE C.P f k):=by
 unfold qs1 at h1
 unfold qrE qj2
 unfold qkC at *
 cases hfn:C.P.funcs[f]? with
 |none=>rw[hfn] at h1;simp[qd3] at h1
 |some fn =>
  rw[hfn] at h1
  simp only at h1 ⊢
  cases hc:fn.body with
  |none=>rw[hc] at h1;simp[qd3] at h1
  |some c =>
   rw[hc] at h1
   simp only[Option.getD_some] at h1 ⊢
   refine qbz.cut (k:=k) c (h.loops f fn c hfn hc) ?_
   match hbs:qd3 k c with
   |[]=>rw[hbs] at h1;simp at h1
   |x::l=>simp
def qHG (D M:List Nat) (step:Step):Step:=fun vals heap nx K =>
 if qvK 32 heap then step vals heap nx fun e vals' heap' _=>tidy 32 (blank D M vals') heap' fun v h=>K e v h 64 else none
theorem qOL {drawn:(FuncId→Bool)→Array Oper→Bool} (hC:FullOk C drawn) {call:qcM} (hcall:qgp C.P call) {f n unroll:Nat} {code:Code} {D M T:List Nat} (hl:qbz C f n code) :
  qpq n ⟨M,T,qHG D M (qqZ C call drawn f n unroll code M T)⟩ (fun Q a w=>code.wp C.P Q a w):=by
 intro fr K a w vals heap nx Kt r h hT hr Q hq
 simp only[qHG] at h
 split at h
 ·rename_i hkeys
  have hk:∀b id,b<fr.w0.heap.size→fr.K0 b=.box id→id<32:=fun b id hb hkb=>by
   have h1:=hr.ext.box b id hb hkb
   obtain⟨av,_,l1,_⟩:=hr.heap b id (Nat.lt_of_lt_of_le hb hr.ext.size) h1
   exact qsT _ hkeys l1
  have hTf:fr.T=(M++T).contains:=funext hT
  have hstep:=h
  unfold qqZ at hstep
  refine qv1 hC hcall code _ _ K a w _ hl (by rw[hTf];exact hstep) hr (fun e s' K' a' w' hrel hkc=>?_)
  split at hkc
  ·rename_i hki
   have hz:Rel fr n K' {ents:=qb1 M (M.map s'.get),heap:=s'.heap,next:=s'.next} a' w':=qt4 hrel hT (by simpa using hki) s'.next
   unfold tidy at hkc
   exact hq e _ _ _ _ a' w' (qtu (quV D hz) hk 64) hkc
  ·cases hkc
 ·cases h
@[reducible] def qd:List Ty→Type
 |[]=>Unit
 |[t]=>t.den
 |t::ts=>t.den×qd ts
def avs:(ts:List Ty)→qd ts→List AV
 |[],_=>[]
 |[t],x=>[⟨.ty t,x⟩]
 |t::_::_,x=>⟨.ty t,x.1⟩::avs _ x.2
def qtC:(ts:List Ty)→List AV→Option (qd ts)
 |[],[]=>some ()
 |[t],[a]=>a.as t
 |t::u::ts,a::l=>match a.as t,qtC (u::ts) l with
  |some x,some y=>some (x,y)
  |_,_=>none
 |_,_=>none
theorem qNY {w:World} {K:Kinds} {a:AV} {t:Ty} {x:t.den} {v:Value} (h:a.as t=some x) (hr:RV w K a v):RV w K ⟨.ty t,x⟩ v:=by
 obtain⟨s,y⟩:=a
 have fin:R1 w K s y v→s.agg=t.agg→RV w K ⟨.ty t,x⟩ v:=fun h1 hg=>by
  refine⟨qeO s y t x _ h h1.1,?_,?_⟩
  ·intro hg'
   exact h1.2.1 (hg.trans hg')
  ·intro hg'
   exact h1.2.2 (hg.trans hg')
 cases s with
 |tup s=>cases t<;>cases h
 |top=>cases t<;>cases h
 |ty s =>
  refine fin hr ?_
  simp only[AV.as,Sh.as] at h
  split at h
  ·rename_i e _
   subst e
   rfl
  ·cases h
 |pair p q=>cases t<;>first|(refine fin hr rfl) |cases h
 |osl id e=>cases t<;>first|(refine fin hr rfl) |cases h
 |box=>cases t<;>cases h
 |boxi=>cases t<;>cases h
 |win=>cases t<;>cases h
 |elp=>cases t<;>cases h
 |mp=>cases t<;>cases h
 |nbox=>cases t<;>cases h
 |tsl=>cases t<;>cases h
 |wsl=>cases t<;>cases h
 |wref=>cases t<;>cases h
 |rowc=>cases t<;>cases h
 |mapc=>cases t<;>cases h
 |tyc=>cases t<;>cases h
 |ref=>cases t<;>cases h
 |fn=>cases t<;>first|(refine fin hr rfl) |cases h
 |lit u=>cases t<;>first|(refine fin hr rfl) |cases h
theorem qAd {w:World} {K:Kinds}:∀(ts:List Ty) (as:List AV) (x:qd ts) (vs:List Value),qtC ts as=some x→RVs w K as vs→RVs w K (avs ts x) vs
 |[],[],_,_,_,hv=>hv
 |[t],[a],x,[v],h,hv=>⟨qNY h hv.1,hv.2⟩
 |[t],[a],x,[],h,hv=>hv.elim
 |[t],[a],x,_::_::_,h,hv=>hv.2.elim
 |t::u::ts,a::l,x,v::vs,h,hv=>by
  simp only[qtC] at h
  split at h
  ·rename_i p q hp hq
   cases h
   exact⟨qNY hp hv.1,qAd (u::ts) l q vs hq hv.2⟩
  ·cases h
 |_::_::_,_::_,_,[],_,hv=>hv.elim
 |[],_::_,_,_,h,_=>by cases h
 |[t],[],_,_,h,_=>by cases h
 |[t],_::_::_,_,_,h,_=>by cases h
 |_::_::_,[],_,_,h,_=>by cases h
def qy (ts:List Ty) (G:qd ts→Bool) (s:Sh) (V:qd ts→s.den):Plain:=fun as=>(qtC ts as).map fun x=>(G x,⟨s,V x⟩)
theorem qOE (t:Ty):qtH.as t=none:=by cases t<;>rfl
theorem qRa {P:Program} {f:FuncId} {ts:List Ty} {G:qd ts→Bool} {s:Sh} {V:qd ts→s.den}:qrx P f (qy ts G s V):=by
 intro sl en rest v h
 unfold qy at h
 have:qtC ts (qtH::sl::en::rest)=none:=by
  match ts with
  |[]=>rfl
  |[t]=>rfl
  |t::u::ts =>
   simp only[qtC]
   rw[qOE]
 rw[this] at h
 cases h
theorem Good.addPlain (h:Good C) {f:FuncId} {ts:List Ty} {G:qd ts→Bool} {s:Sh} {V:qd ts→s.den} (hp:qlP C.P f (qy ts G s V)) (hb:qkJ C.P f=true):Good (C.addPlain f (qy ts G s V)):=h.addSnap hp hb qRa
def fin:AV→q9→Nat→Option R:=fun v h _=>match qt9 v with
 |some _=>none
 |none=>tidy 0 [v] h fun vs h=>match vs with
  |[v]=>some (v,h,64)
  |_=>none
theorem qNl (hC:Good C) {f:FuncId} {ts:List Ty} {G:qd ts→Bool} {s:Sh} {V:qd ts→s.den} (d unroll:Nat)
  (h:∀x,G x=true→evF C qd7 unroll d f (avs ts x) [] 64 fin=some (⟨s,V x⟩,[],64)):qlP C.P f (qy ts G s V):=by
 intro args v hv w K vs hvs hfix
 unfold qy at hv
 cases hx:qtC ts args with
 |none=>rw[hx] at hv;cases hv
 |some x =>
  rw[hx] at hv
  simp only[Option.map_some,Option.some.injEq,Prod.mk.injEq] at hv
  obtain⟨hg,rfl⟩:=hv
  have:=h x hg
  refine(qrI hC unroll d f).1 _ _ _ _ _ this w K vs (qAd ts args x vs hx hvs) ⟨fun b id hb hk=>?_,fun b b' id hb _ hk _=>?_⟩ _ (fun av u h' nx' w' K' g hrv hh hkc=>?_) (fun u h' nx' w' K' g hh hkc=>by cases hkc)
  ·have:=hfix b hb;rw[hk] at this;cases this
  ·have:=hfix b hb;rw[hk] at this;cases this
  ·unfold fin at hkc
   split at hkc
   ·cases hkc
   unfold tidy at hkc
   simp only[List.map_cons,List.map_nil,Option.some.injEq,Prod.mk.injEq] at hkc
   obtain⟨e1,e2,_⟩:=hkc
   refine⟨u,_,rfl,qC9 (ρ:=qpK (qdw [] (allRows [av]++qj7 (below 0 h')))) (B:=0) g (fun b id hb hk=>?_),fun b id hb hk=>?_,?_⟩
   ·have:=hfix b hb;rw[hk] at this;cases this
   ·exact absurd (qtQ hk).2 (Nat.not_lt_zero _)
   ·rw[←e1]
    exact qzR hrv
theorem Good.fn (h:Good C) {f:FuncId} {ts:List Ty} {G:qd ts→Bool} {s:Sh} {V:qd ts→s.den} (d unroll:Nat) (hb:qkJ C.P f=true)
  (hw:∀x,G x=true→evF C qd7 unroll d f (avs ts x) [] 64 fin=some (⟨s,V x⟩,[],64)):Good (C.addPlain f (qy ts G s V)) :=
 h.addPlain (qNl h d unroll hw) hb
@[reducible] def qh:List Sh→Type
 |[]=>Unit
 |[s]=>s.den
 |s::ts=>s.den×qh ts
def qe9:(ss:List Sh)→qh ss→List AV
 |[],_=>[]
 |[s],x=>[⟨s,x⟩]
 |s::_::_,x=>⟨s,x.1⟩::qe9 _ x.2
def Sh.to:(s:Sh)→s.den→(t:Sh)→Option t.den
 |s,x,.ty t=>s.as x t
 | .pair a b,x,.pair c d=>match Sh.to a x.1 c,Sh.to b x.2 d with
  |some y,some z=>some (y,z)
  |_,_=>none
 | .ty (.pair a b),x,.pair c d=>match Sh.to (.ty a) x.1 c,Sh.to (.ty b) x.2 d with
  |some y,some z=>some (y,z)
  |_,_=>none
 | .osl id e,x,.osl id' e'=>if id=id' then(match Ty.dec e e' with
  |isTrue h=>some (h▸x)
  |isFalse _=>none) else none
 | .box id off,_,.box id' off'=>if id=id'∧off=off' then some () else none
 | .ref t off,x,.ref t' off'=>if off=off' then(match Ty.dec t t' with
  |isTrue h=>some (h▸x)
  |isFalse _=>none) else none
 | .win id e,x,.win id' e'=>if id=id' then(match Ty.dec e e' with
  |isTrue _=>some x
  |isFalse _=>none) else none
 | .elp id e o,x,.elp id' e' o'=>if id=id'∧o=o' then(match Ty.dec e e' with
  |isTrue _=>some x
  |isFalse _=>none) else none
 | .mp id,_,.mp id'=>if id=id' then some () else none
 | .nbox id,_,.nbox id'=>if id=id' then some () else none
 | .box id off,_,.nbox id'=>if id=id'∧off=0 then some () else none
 | .lit (.pointer none),_,.nbox _=>some ()
 | .tsl T id,x,.tsl T' id'=>if T=T'∧id=id' then some x else none
 | .lit v,_,.tsl _ _=>if qt0 v then some [] else none
 | .osl id (.sl _),x,.wsl (some t) _ _=>if id=t then(match x with
  |[]=>some []
  |_=>none) else none
 | .wsl t id e,x,.wsl t' id' e'=>if(t'=none∨t=t')∧id=id' then(match Ty.dec e e' with
  |isTrue _=>some x
  |isFalse _=>none) else none
 | .wref id e,x,.wref id' e'=>if id=id' then(match Ty.dec e e' with
  |isTrue _=>some x
  |isFalse _=>none) else none
 | .rowc e,x,.rowc e'=>(match Ty.dec e e' with
  |isTrue h=>some (h▸x)
  |isFalse _=>none)
 | .mapc,x,.mapc=>some x
 | .tyc T s,x,.tyc T' s'=>if T=T' then Sh.to s x s' else none
 | .fn f caps,x,.fn f' caps'=>if f=f' then Sh.to caps x caps' else none
 |_,_,_=>none
def qkY:(ss:List Sh)→List AV→Option (qh ss)
 |[],[]=>some ()
 |[s],[a]=>a.sh.to a.v s
 |s::u::ts,a::l=>match a.sh.to a.v s,qkY (u::ts) l with
  |some x,some y=>some (x,y)
  |_,_=>none
 |_,_=>none
def contents:Nat→q9→Option (List AV)
 |_,[]=>some []
 |k,(j,c)::l=>if j==k then(contents (k+1) l).map (c::·) else none
theorem qIx {w:World} {K:Kinds}:∀(s:Sh) (x:s.den) (t:Sh) (y:t.den) (cs:List Value),s.to x t=some y→RS w K s x cs→RS w K t y cs:=by
 intro s
 induction s with
 |pair a b iha ihb =>
  intro x t y cs h hr
  cases t with
  |ty t=>exact qeO _ x t y cs (by simpa only[Sh.to] using h) hr
  |pair c d =>
   simp only[Sh.to] at h
   split at h
   ·rename_i p q hp hq
    cases h
    obtain⟨c1,c2,e,h1,h2⟩:=hr
    exact⟨c1,c2,e,iha _ _ _ _ hp h1,ihb _ _ _ _ hq h2⟩
   ·cases h
  |_=>simp only[Sh.to] at h;cases h
 |ty s =>
  induction s with
  |pair a b iha ihb =>
   intro x t y cs h hr
   cases t with
   |ty t=>exact qeO _ x t y cs (by simpa only[Sh.to] using h) hr
   |pair c d =>
    simp only[Sh.to] at h
    split at h
    ·rename_i p q hp hq
     cases h
     obtain⟨c1,c2,e,h1,h2⟩:=hr
     exact⟨c1,c2,e,iha _ _ _ _ hp h1,ihb _ _ _ _ hq h2⟩
    ·cases h
   |_=>simp only[Sh.to] at h;cases h
  |_ =>
   intro x t y cs h hr
   cases t with
   |ty t=>exact qeO _ x t y cs (by simpa only[Sh.to] using h) hr
   |_=>simp only[Sh.to] at h;cases h
 |osl id e =>
  intro x t y cs h hr
  cases t with
  |ty t=>exact qeO _ x t y cs (by simpa only[Sh.to] using h) hr
  |osl id' e' =>
   simp only[Sh.to] at h
   split at h
   ·rename_i hid
    split at h
    ·rename_i he _
     subst he
     subst hid
     cases h
     exact hr
    ·cases h
   ·cases h
  |wsl tg b τ =>
   cases e with
   |sl e0 =>
    cases tg with
    |some tg =>
     simp only[Sh.to] at h
     split at h
     ·rename_i hid
      subst hid
      split at h
      ·cases h
       obtain⟨⟨A,len,cap,h1,h2,h3,h4,h5⟩,hown⟩:=hr
       refine⟨⟨A,len,cap,h1,h2,h3,h4,fun a ha=>?_⟩,fun t A' len' cap' ht hc=>by cases ht;exact hown A' len' cap' hc⟩
       obtain⟨cc,c1,c2⟩:=h5 a ha
       exact⟨cc,c1,c2⟩
      ·cases h
     ·cases h
    |none=>simp only[Sh.to] at h;cases h
   |_=>simp only[Sh.to] at h;cases h
  |_=>simp only[Sh.to] at h;cases h
 |box id off =>
  intro x t y cs h hr
  cases t with
  |ty t=>exact qeO _ x t y cs (by simpa only[Sh.to] using h) hr
  |box id' off' =>
   simp only[Sh.to] at h
   split at h
   ·rename_i hid
    obtain⟨e1,e2⟩:=hid
    subst e1
    subst e2
    exact hr
   ·cases h
  |nbox id' =>
   simp only[Sh.to] at h
   split at h
   ·rename_i hid
    obtain⟨e1,e2⟩:=hid
    subst e1
    subst e2
    obtain⟨b,h1,h2⟩:=hr
    exact⟨_,h1,.inr ⟨b,rfl,h2⟩⟩
   ·cases h
  |_=>simp only[Sh.to] at h;cases h
 |lit u =>
  intro x t y cs h hr
  cases t with
  |ty t=>exact qeO _ x t y cs (by simpa only[Sh.to] using h) hr
  |nbox id' =>
   cases u with
   |pointer p =>
    cases p with
    |none=>exact⟨none,hr.1,.inl rfl⟩
    |some p=>simp only[Sh.to] at h;cases h
   |_=>simp only[Sh.to] at h;cases h
  |tsl T' id' =>
   simp only[Sh.to] at h
   split at h
   ·rename_i hn
    cases h
    have e:=hr.1
    rw[qrs hn] at e
    exact⟨none,0,0,e,.inl ⟨rfl,rfl,rfl,rfl⟩⟩
   ·cases h
  |_=>simp only[Sh.to] at h;cases h
 |ref u off =>
  intro x t y cs h hr
  cases t with
  |ty t=>exact qeO _ x t y cs (by simpa only[Sh.to] using h) hr
  |ref u' off' =>
   simp only[Sh.to] at h
   split at h
   ·rename_i hid
    split at h
    ·rename_i he _
     subst he
     subst hid
     cases h
     exact hr
    ·cases h
   ·cases h
  |_=>simp only[Sh.to] at h;cases h
 |win id e =>
  intro x t y cs h hr
  cases t with
  |ty t=>exact qeO _ x t y cs (by simpa only[Sh.to] using h) hr
  |win id' e' =>
   simp only[Sh.to] at h
   split at h
   ·rename_i hid
    split at h
    ·rename_i he _
     subst he
     subst hid
     cases h
     exact hr
    ·cases h
   ·cases h
  |_=>simp only[Sh.to] at h;cases h
 |elp id e o =>
  intro x t y cs h hr
  cases t with
  |ty t=>exact qeO _ x t y cs (by simpa only[Sh.to] using h) hr
  |elp id' e' o' =>
   simp only[Sh.to] at h
   split at h
   ·rename_i hid
    split at h
    ·rename_i he _
     obtain⟨e1,e2⟩:=hid
     subst he
     subst e1
     subst e2
     cases h
     exact hr
    ·cases h
   ·cases h
  |_=>simp only[Sh.to] at h;cases h
 |mp id =>
  intro x t y cs h hr
  cases t with
  |ty t=>exact qeO _ x t y cs (by simpa only[Sh.to] using h) hr
  |mp id' =>
   simp only[Sh.to] at h
   split at h
   ·rename_i hid
    subst hid
    exact hr
   ·cases h
  |_=>simp only[Sh.to] at h;cases h
 |nbox id =>
  intro x t y cs h hr
  cases t with
  |ty t=>exact qeO _ x t y cs (by simpa only[Sh.to] using h) hr
  |nbox id' =>
   simp only[Sh.to] at h
   split at h
   ·rename_i hid
    subst hid
    exact hr
   ·cases h
  |_=>simp only[Sh.to] at h;cases h
 |tsl T id =>
  intro x t y cs h hr
  cases t with
  |ty t=>exact qeO _ x t y cs (by simpa only[Sh.to] using h) hr
  |tsl T' id' =>
   simp only[Sh.to] at h
   split at h
   ·rename_i hid
    obtain⟨h1,h2⟩:=hid
    subst h1 h2
    cases h
    exact hr
   ·cases h
  |_=>simp only[Sh.to] at h;cases h
 |wsl tg id e =>
  intro x t y cs h hr
  cases t with
  |ty t=>exact qeO _ x t y cs (by simpa only[Sh.to] using h) hr
  |wsl tg' id' e' =>
   simp only[Sh.to] at h
   split at h
   ·rename_i hid
    split at h
    ·rename_i he _
     obtain⟨e1,e2⟩:=hid
     subst he
     subst e2
     cases h
     rcases e1 with e1 |e1
     ·subst e1
      exact⟨hr.1,fun t _ _ _ ht=>by cases ht⟩
     ·subst e1
      exact hr
    ·cases h
   ·cases h
  |_=>simp only[Sh.to] at h;cases h
 |wref id e =>
  intro x t y cs h hr
  cases t with
  |ty t=>exact qeO _ x t y cs (by simpa only[Sh.to] using h) hr
  |wref id' e' =>
   simp only[Sh.to] at h
   split at h
   ·rename_i hid
    split at h
    ·rename_i he _
     subst he
     subst hid
     cases h
     exact hr
    ·cases h
   ·cases h
  |_=>simp only[Sh.to] at h;cases h
 |rowc e=>intro x t y cs h hr;exact hr.elim
 |mapc=>intro x t y cs h hr;exact hr.elim
 |tyc T s ih =>
  intro x t y cs h hr
  cases t with
  |ty t=>exact qeO _ x t y cs (by simpa only[Sh.to] using h) hr
  |tyc T' s' =>
   simp only[Sh.to] at h
   split at h
   ·exact ih x s' y cs h hr
   ·cases h
  |_=>simp only[Sh.to] at h;cases h
 |fn f caps ih =>
  intro x t y cs h hr
  cases t with
  |ty t=>exact qeO _ x t y cs (by simpa only[Sh.to] using h) hr
  |fn f' caps' =>
   simp only[Sh.to] at h
   split at h
   ·rename_i hf
    subst hf
    obtain⟨cc,e,h1⟩:=hr
    exact⟨cc,e,ih x caps' y cc h h1⟩
   ·cases h
  |_=>simp only[Sh.to] at h;cases h
 |_ =>
  intro x t y cs h hr
  cases t with
  |ty t=>exact qeO _ x t y cs (by simpa only[Sh.to] using h) hr
  |_=>simp only[Sh.to] at h;cases h
theorem qDa:∀(s:Sh) (x:s.den) (t:Sh) (y:t.den),s.to x t=some y→s.agg=t.agg:=by
 intro s x t y h
 cases t with
 |ty t=>exact qxQ s x t y (by simpa only[Sh.to] using h)
 |pair c d =>
  cases s with
  |pair=>rfl
  |ty s=>cases s<;>first|rfl |(simp only[Sh.to] at h;cases h)
  |_=>simp only[Sh.to] at h;cases h
 |osl =>
  cases s with
  |osl=>rfl
  |_=>simp only[Sh.to] at h;cases h
 |box =>
  cases s with
  |box=>rfl
  |_=>simp only[Sh.to] at h;cases h
 |ref =>
  cases s with
  |ref=>rfl
  |_=>simp only[Sh.to] at h;cases h
 |rowc =>
  cases s with
  |rowc=>rfl
  |_=>simp only[Sh.to] at h;cases h
 |mapc =>
  cases s with
  |mapc=>rfl
  |_=>simp only[Sh.to] at h;cases h
 |tyc T' s' =>
  cases s with
  |tyc T s =>
   simp only[Sh.to] at h
   split at h
   ·exact qDa s x s' y h
   ·cases h
  |_=>simp only[Sh.to] at h;cases h
 |mp =>
  cases s with
  |mp=>rfl
  |_=>simp only[Sh.to] at h;cases h
 |tsl =>
  cases s with
  |tsl=>rfl
  |lit=>rfl
  |_=>simp only[Sh.to] at h;cases h
 |nbox =>
  cases s with
  |nbox=>rfl
  |box=>rfl
  |lit u=>rfl
  |_=>simp only[Sh.to] at h;cases h
 |wsl =>
  cases s with
  |wsl=>rfl
  |osl=>rfl
  |_=>simp only[Sh.to] at h;cases h
 |wref =>
  cases s with
  |wref=>rfl
  |_=>simp only[Sh.to] at h;cases h
 |elp =>
  cases s with
  |elp=>rfl
  |_=>simp only[Sh.to] at h;cases h
 |win =>
  cases s with
  |win=>rfl
  |_=>simp only[Sh.to] at h;cases h
 |fn =>
  cases s with
  |fn=>rfl
  |_=>simp only[Sh.to] at h;cases h
 |_=>simp only[Sh.to] at h;cases h
theorem qBb {w:World} {K:Kinds} {a:AV} {t:Sh} {y:t.den} {v:Value} (h:a.sh.to a.v t=some y) (hr:RV w K a v):RV w K ⟨t,y⟩ v:=by
 obtain⟨s,x⟩:=a
 have fin:R1 w K s x v→RV w K ⟨t,y⟩ v:=fun h1=>by
  refine R1.toRV (a:=⟨t,y⟩) ⟨qIx _ _ _ _ _ h h1.1,?_,?_⟩
  ·intro e
   exact h1.2.1 ((qDa _ _ _ _ h).trans e)
  ·intro e
   exact h1.2.2 ((qDa _ _ _ _ h).trans e)
 cases s with
 |tup s=>cases t<;>(simp only[Sh.to] at h;try cases h)<;>rename_i t<;>cases t<;>cases h
 |top=>cases t<;>(simp only[Sh.to] at h;try cases h)<;>rename_i t<;>cases t<;>cases h
 |_=>exact fin hr
structure qsc where
 M:List Nat
 T:List Nat
 D:List Nat
 ss:List Sh
 hs:List Sh
 F:qh ss→qh hs→(Exit→List AV→q9→Option R)→Option R
def qsc.toLoop (L:qsc):Loop:=⟨L.M,L.T,fun vals heap _ K =>
 match qkY L.ss vals,(contents 0 heap).bind (qkY L.hs) with
 |some x,some h=>L.F x h fun e v h=>K e v h 64
 |_,_=>none⟩
theorem qAg {w:World} {K:Kinds} {u:Value} {t:Nat}:∀(M:List Nat) (ss:List Sh) (as:List AV) (x:qh ss),qkY ss as=some x→(∀av,look t (qb1 M as)=some av→RV w K av u) →
  ∀av,look t (qb1 M (qe9 ss x))=some av→RV w K av u
 |[],_,_,_,_,_,_,ht=>by cases ht
 |m::M,[],[],_,_,_,_,ht=>by cases ht
 |m::M,[s],[a],x,h,hv,av,ht=>by
  simp only[qe9,qb1,qbX] at ht
  split at ht
  ·rename_i e
   subst e
   cases ht
   refine qBb h (hv a ?_)
   simp only[qb1,qbX,if_true]
  ·cases M<;>cases ht
 |m::M,s::u::ts,a::l,x,h,hv,av,ht=>by
  simp only[qkY] at h
  split at h
  ·rename_i p q hp hq
   cases h
   simp only[qe9,qb1,qbX] at ht
   split at ht
   ·rename_i e
    subst e
    cases ht
    refine qBb hp (hv a ?_)
    simp only[qb1,qbX,if_true]
   ·rename_i e
    refine qAg M (u::ts) l q hq (fun av' ht'=>hv av' ?_) av ht
    simp only[qb1,qbX,if_neg e]
    exact ht'
  ·cases h
 |_::_,[],_::_,_,h,_,_,_=>by cases h
 |_::_,[_],[],_,h,_,_,_=>by cases h
 |_::_,[_],_::_::_,_,h,_,_,_=>by cases h
 |_::_,_::_::_,[],_,h,_,_,_=>by cases h
theorem qvd:∀(ss:List Sh) (as:List AV) (x:qh ss),qkY ss as=some x→as.length=ss.length
 |[],[],_,_=>rfl
 |[_],[_],_,_=>rfl
 |s::u::ts,a::l,x,h=>by
  simp only[qkY] at h
  split at h
  ·rename_i p q hp hq
   simp[qvd (u::ts) l q hq]
  ·cases h
 |[],_::_,_,h=>by cases h
 |[_],[],_,h=>by cases h
 |[_],_::_::_,_,h=>by cases h
 |_::_::_,[],_,h=>by cases h
theorem qsz:∀(ss:List Sh) (x:qh ss),(qe9 ss x).length=ss.length
 |[],_=>rfl
 |[_],_=>rfl
 |_::u::ts,x=>by simp[qe9,qsz (u::ts) x.2]
theorem qtc {t:Nat}:∀(M:List Nat) (l l':List AV),l.length=l'.length→look t (qb1 M l)=none→look t (qb1 M l')=none
 |[],_,_,_,_=>rfl
 |_::_,[],[],_,_=>rfl
 |m::M,a::l,b::l',hl,h=>by
  simp only[qb1,qbX] at h ⊢
  split at h
  ·cases h
  ·rename_i e
   rw[if_neg e]
   exact qtc M l l' (by simpa using hl) h
 |_::_,[],_::_,hl,_=>by cases hl
 |_::_,_::_,[],hl,_=>by cases hl
theorem qqo:∀(h:q9) (k:Nat) (l:List AV),contents k h=some l→∀id c,look id h=some c→∃i,id=k+i∧l[i]?=some c
 |[],_,_,_,_,_,h=>by cases h
 |(j,c)::h,k,l,e,id,c',hl=>by
  simp only[contents] at e
  split at e
  ·rename_i hj
   simp only[beq_iff_eq] at hj
   subst hj
   obtain⟨l',e1,e2⟩:=Option.map_eq_some_iff.1 e
   subst e2
   simp only[look] at hl
   split at hl
   ·rename_i e'
    simp only[beq_iff_eq] at e'
    cases hl
    exact⟨0,by omega,rfl⟩
   ·split at hl
    ·cases hl
    ·obtain⟨i,h1,h2⟩:=qqo h (j+1) l' e1 id c' hl
     exact⟨i+1,by omega,by simpa using h2⟩
  ·cases e
theorem qvi:∀(l:List AV) (k i:Nat) (c:AV),l[i]?=some c→look (k+i) (enum k l)=some c
 |[],_,_,_,h=>by simp at h
 |a::l,k,0,c,h=>by
  simp at h
  subst h
  simp[enum,look]
 |a::l,k,i+1,c,h=>by
  have:=qvi l (k+1) i c (by simpa using h)
  simp only[enum,look]
  rw[if_neg (by simp),if_neg (by simp[Nat.blt_eq]),show k+(i+1)=k+1+i by omega]
  exact this
theorem qPp {s:Sh} {x:s.den} {t:Sh} {y:t.den} (h:s.to x t=some y) (hs:s.bare=true):t.bare=true:=by
 cases t<;>first
  |rfl
  |(cases s<;>first
    |(cases hs;done)
    |(simp only[Sh.to] at h;cases h))
theorem qI3 {w:World} {K:Kinds} {s:Sh} {x:s.den} {t:Sh} {y:t.den} {o:Obj} (h:s.to x t=some y) (hr:qbA w K s x o):qbA w K t y o:=by
 cases s
 case rowc e =>
  cases t with
  |ty t=>cases t<;>(simp only[Sh.to,Sh.as] at h;cases h)
  |rowc e' =>
   simp only[Sh.to] at h
   split at h
   ·rename_i he _
    subst he
    cases h
    exact hr
   ·cases h
  |_=>simp only[Sh.to] at h;cases h
 case mapc =>
  cases t with
  |ty t=>cases t<;>(simp only[Sh.to,Sh.as] at h;cases h)
  |mapc =>
   simp only[Sh.to] at h
   cases h
   exact hr
  |_=>simp only[Sh.to] at h;cases h
 case tyc T s =>
  cases t with
  |ty t=>cases t<;>(simp only[Sh.to,Sh.as] at h;cases h)
  |tyc T' s' =>
   simp only[Sh.to] at h
   split at h
   ·rename_i hT
    subst hT
    obtain⟨cs,h1,h2⟩:=hr
    exact⟨cs,h1,qIx _ _ _ _ _ h h2⟩
   ·cases h
  |_=>simp only[Sh.to] at h;cases h
 all_goals
  obtain⟨cs,T,h1,h2⟩:=hr
  subst h1
  exact qbA.of_RS (qPp h rfl) (qIx _ _ _ _ _ h h2)
theorem qvu {w:World} {K:Kinds}:∀(ss:List Sh) (as:List AV) (x:qh ss),qkY ss as=some x→∀(i:Nat) (a:AV) (o:Obj),as[i]?=some a→qbA w K a.sh a.v o→∃b:AV,(qe9 ss x)[i]?=some b∧qbA w K b.sh b.v o
 |[],[],_,_,_,_,_,h,_=>by simp at h
 |[s],[a],x,h,i,b,o,hi,hr=>by
  cases i with
  |zero=>simp at hi;subst hi;exact⟨_,rfl,qI3 h hr⟩
  |succ i=>simp at hi
 |s::u::ts,a::l,x,h,i,b,o,hi,hr=>by
  simp only[qkY] at h
  split at h
  ·rename_i p q hp hq
   cases h
   cases i with
   |zero=>simp at hi;subst hi;exact⟨_,rfl,qI3 hp hr⟩
   |succ i=>exact qvu (u::ts) l q hq i b o (by simpa using hi) hr
  ·cases h
 |[],_::_,_,h,_,_,_,_,_=>by cases h
 |[_],[],_,h,_,_,_,_,_=>by cases h
 |[_],_::_::_,_,h,_,_,_,_,_=>by cases h
 |_::_::_,[],_,h,_,_,_,_,_=>by cases h
theorem qAu {n:Nat} {G:(Exit→Act→World→Prop)→Act→World→Prop} {L:qsc}
  (h:∀(fr:Fr) (K:Kinds) (a:Act) (w:World) (x:qh L.ss) (y:qh L.hs) (Kt:Exit→List AV→q9→Nat→Option R) (r:R),(L.F x y fun e v h=>Kt e v h 64)=some r→(∀t,fr.T t=(L.M++L.T).contains t) →
   Rel fr n K {ents:=qb1 L.M (qe9 L.ss x),heap:=enum 0 (qe9 L.hs y),next:=64} a w→∀Q:Exit→Act→World→Prop,
   (∀e vals' heap' nx' K' a' w',Rel fr n K' {ents:=qb1 L.M vals',heap:=heap',next:=nx'} a' w'→Kt e vals' heap' nx'=some r→Q e a' w')→G Q a w):qpq n L.toLoop G:=by
 intro fr K a w vals heap nx Kt r hrun hT hr Q hq
 simp only[qsc.toLoop] at hrun hr hT hq
 split at hrun
 ·rename_i x y hx hy
  obtain⟨l,hl,hly⟩:=Option.bind_eq_some_iff.1 hy
  refine h fr K a w x y Kt r hrun hT ?_ Q hq
  exact{
   ext:=hr.ext
   size:=hr.size
   defers:=hr.defers
   ents:=fun t av ht=>qAg L.M L.ss vals x hx (fun av' ht'=>hr.ents t av' ht') av ht
   frame:=fun t ht hTt=>hr.frame t (qtc L.M _ _ (by rw[qsz,qvd _ _ _ hx]) ht) hTt
   heap:=fun b id hb hk=>by
    obtain⟨av,o,l1,l2,l3⟩:=hr.heap b id hb hk
    obtain⟨i,e1,e2⟩:=qqo _ _ _ hl id av l1
    obtain⟨c,c1,c2⟩:=qvu L.hs l y hly i av _ e2 l3
    exact⟨c,o,by rw[e1];exact qvi _ _ _ _ c1,l2,c2⟩
   uniq:=hr.uniq}
 ·cases hrun
theorem qNg {P:Program} {n:Nat} {body:Code} {L:qsc}
  (h:∀(fr:Fr) (K:Kinds) (a:Act) (w:World) (x:qh L.ss) (y:qh L.hs) (Kt:Exit→List AV→q9→Nat→Option R) (r:R),(L.F x y fun e v h=>Kt e v h 64)=some r→(∀t,fr.T t=(L.M++L.T).contains t) →
   Rel fr n K {ents:=qb1 L.M (qe9 L.ss x),heap:=enum 0 (qe9 L.hs y),next:=64} a w→∀Q:Exit→Act→World→Prop,
   (∀e vals' heap' nx' K' a' w',Rel fr n K' {ents:=qb1 L.M vals',heap:=heap',next:=nx'} a' w'→Kt e vals' heap' nx'=some r→Q e a' w')→(Code.loop body).wp P Q a w):qyW P n body L.toLoop :=
 qAu (G:=fun Q a w=>(Code.loop body).wp P Q a w) h
theorem Good.cut (h:Good C) {f:FuncId} {k:Nat} {L:qsc} (d unroll:Nat) (h1:qs1 C.P f k=true)
  (hs:∀(x:qh L.ss) (y:qh L.hs) K r',L.F x y (fun e v h=>K e v h 64)=some r'→qHG L.D L.M (qqZ C (evF C qd7 unroll d) qd7 f (qj2 C.P f) unroll (qrE C.P f k) L.M L.T) (qe9 L.ss x) (enum 0 (qe9 L.hs y)) 64 K=some r'):Good (C.addCut f k L.toLoop) :=
 h.addCut h1 (qAu (G:=fun Q a w=>(qrE C.P f k).wp C.P Q a w) (fun fr K a w x y Kt r' hF hT hr Q hq =>
  qOL h (qrI h unroll d) (h.cutOf h1) fr K a w _ _ _ Kt r' (hs x y Kt r' hF) hT hr Q hq))
theorem Good.loop (h:Good C) {f:FuncId} {r:Nat} {L:qsc} (d unroll:Nat) (h1:qrn C.P f r=true)
  (hs:∀(x:qh L.ss) (y:qh L.hs) K r',L.F x y (fun e v h=>K e v h 64)=some r'→∃m,qq9 L.D L.M (qqZ C (evF C qd7 unroll d) qd7 f (qj2 C.P f) unroll (qpc C.P f r) L.M L.T) m (qe9 L.ss x) (enum 0 (qe9 L.hs y)) 64 K=some r'):Good (C.addLoop f r L.toLoop):=by
 refine h.addLoop h1 (qNg (fun fr K a w x y Kt r' hF hT hr Q hq=>?_))
 obtain⟨m,hm⟩:=hs x y Kt r' hF
 exact qxM (qCL h (qrI h unroll d) (h.loopsOf h1) m fr K a w _ _ _ Kt r' hm hT hr Q hq)
inductive PT (α:Type) where
 |leaf (a:α)
 |ite (b:Bool) (t e:PT α)
def PT.to {α β:Type} (k:α→β):PT α→β
 | .leaf a=>k a
 | .ite b t e=>bif b then t.to k else e.to k
def PT.val {α:Type}:PT α→α
 | .leaf a=>a
 | .ite b t e=>bif b then t.val else e.val
end
end Go.Av
end
