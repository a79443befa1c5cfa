/- Texts of the proof, one behind the other. -/
import Derived.Test.YtealbjacocgjcaaGreatRailGK11
section
namespace Go.Av
open Go
def RVs (w:World) (K:Kinds):List AV→List Value→Prop
 |[],[]=>True
 |a::as,v::vs=>RV w K a v∧RVs w K as vs
 |_,_=>False
theorem RVs.length {w:World} {K:Kinds}:∀{as:List AV} {vs:List Value},RVs w K as vs→as.length=vs.length
 |[],[],_=>rfl
 |_::_,_::_,h=>by simp[RVs.length h.2]
 |[],_::_,h=>h.elim
 |_::_,[],h=>h.elim
theorem RVs.map {w w':World} {K K':Kinds} {f:AV→AV} (hf:∀a v,RV w K a v→RV w' K' (f a) v):∀{as:List AV} {vs:List Value},RVs w K as vs→RVs w' K' (as.map f) vs
 |[],[],_=>trivial
 |_::_,_::_,h=>⟨hf _ _ h.1,RVs.map hf h.2⟩
 |[],_::_,h=>h.elim
 |_::_,[],h=>h.elim
theorem RVs.append {w:World} {K:Kinds}:∀{as bs:List AV} {vs us:List Value},RVs w K as vs→RVs w K bs us→RVs w K (as++bs) (vs++us)
 |[],_,[],_,_,h=>h
 |_::_,_,_::_,_,h,h'=>⟨h.1,RVs.append h.2 h'⟩
 |[],_,_::_,_,h,_=>h.elim
 |_::_,_,[],_,h,_=>h.elim
def BodyOk (P:Program) (f:FuncId) (body:List AV→Heap→Nat→(AV→Heap→Nat→Option R)→Option R):Prop :=
 ∀args h nx Kc r,body args h nx Kc=some r→∀(w:World) (K:Kinds) (vs:List Value),RVs w K args vs→HeapOk w K h→∀(Rf:Ending→World→Prop),
  (∀av v h' nx' w' K',Ext w K w' K'→RV w' K' av v→HeapOk w' K' h'→Kc av h' nx'=some r→Rf (.returned v) w') →
  (∀u h' nx' w' K',Ext w K w' K'→HeapOk w' K' h'→Kc (panAV u) h' nx'=some r→Rf (.panicked [⟨u,false,false⟩]) w')→Calls P f vs.toArray w Rf
def PlainOk (P:Program) (f:FuncId) (ps:Plain):Prop :=
 ∀args v,ps args=some (true,v)→∀(w:World) (K:Kinds) (vs:List Value),RVs w K args vs→(∀b,b<w.heap.size→(K b).fixed=true) →
  Calls P f vs.toArray w fun e w'=>∃r K',e=.returned r∧Ext w K w' K'∧(∀b id,b<w'.heap.size→K' b≠.box id)∧RV w' K' v r
def SnapAt (w:World) (K:Kinds) (sl en:AV) (p:Value):Prop :=
 ∃b cs T c0 c1 mb rest o,p=.pointer (some ⟨b,0,none⟩)∧w.heap[b]?=some (.cells cs T (0,0))∧cs.toList=c0::c1::.map (some mb)::rest∧RS w K sl.sh sl.v [c0]∧w.heap[mb]?=some o∧BoxOk w K en.sh en.v o
def SnapOk (P:Program) (f:FuncId) (ps:Plain):Prop :=
 ∀sl en rest v,ps (snapMark::sl::en::rest)=some (true,v)→∀(w:World) (K:Kinds) (p:Value) (vs:List Value),SnapAt w K sl en p→RVs w K rest vs→(∀b,b<w.heap.size→(K b).fixed=true) →
  Calls P f (p::vs).toArray w fun e w'=>∃r K',e=.returned r∧Ext w K w' K'∧(∀b id,b<w'.heap.size→K' b≠.box id)∧RV w' K' v r
def GetOk (P:Program) (f:FuncId) (p:Nat×TypeId):Prop :=
 ∀(w:World) (b:Nat) (r:Value),w.cell? ⟨b,p.1,none⟩=some r→Calls P f #[.pointer (some ⟨b,0,none⟩)] w fun e w'=>e=.returned r∧w'=w
structure CtxOk (C:Ctx):Prop where
 gets:∀f p,C.gets f=some p→GetOk C.P f p
 snap:∀f ps,C.plain f=some ps→SnapOk C.P f ps
 eqs:C.eqs.all (eqOk C.P)=true
 plain:∀f ps,C.plain f=some ps→PlainOk C.P f ps
 names : ∀ (f : FuncId) (fn : Func), C.P.funcs[f]? = some fn → fn.name ≠ "runtime.NumGoroutine"
 bodyOk:∀f b,C.bodies f=some b→BodyOk C.P f b
 bodyFn:∀f b,C.bodies f=some b→∃fn,C.P.funcs[f]?=some fn∧fn.body.isSome=true
 plainBody:∀f ps,C.plain f=some ps→∃fn,C.P.funcs[f]?=some fn∧fn.body.isSome=true
 mixed:C.P.follows .mixedOrders=true
section
variable {C:Ctx} {fr:Fr} {n:Nat} {K:Kinds} {s:St} {a:Act} {w:World}
theorem bs_get {bs:List Nat} {h:Heap} (hb:bs.all (hasBox h)=true):∀j,j<bs.length→∃x y,bs[j]?=some x∧look x h=some y:=by
 intro j hj
 have:=List.all_eq_true.1 hb bs[j] (List.getElem_mem hj)
 obtain⟨y,hy⟩:=Option.isSome_iff_exists.1 this
 exact⟨bs[j],y,List.getElem?_eq_getElem hj,hy⟩
theorem inCall_ok {own:Bool} {f:FuncId} {body:List AV→Heap→Nat→(AV→Heap→Nat→Option R)→Option R} (hbody:BodyOk C.P f body) {args:List AV} {Kc:AV→St→Option R} {r:R} (h:inCall own body args s Kc=some r)
  (hr:Rel fr n K s a w) {vs:List Value} (hv:RVs w K args vs) (Rf:Ending→World→Prop) (hk:∀av v s' K' w',Rel fr n K' s' a w'→RV w' K' av v→Kc av s'=some r→Rf (.returned v) w')
  (hp:∀u s' K' w',Rel fr n K' s' a w'→Kc (panAV u) s'=some r→Rf (.panicked [⟨u,false,false⟩]) w') :
  Calls C.P f vs.toArray w Rf:=by
 unfold inCall at h
 simp only at h
 split at h
 ·rename_i hcond
  simp only[Bool.and_eq_true] at hcond
  obtain⟨hnd,hbs⟩:=hcond
  generalize reach s.heap 4 (addNew [] ((allBoxes args).filter (hasBox s.heap)))=bs at *
  generalize addNew [] ((bif own then allRows args else[])++contentRows s.heap bs)=ts at *
  have hin:RVs w (farK ts bs K) (args.map (·.ren (bif own then(fun id=>indexIn id ts 0) else noRow) fun id=>indexIn id bs 0)) vs :=
   RVs.map (fun a v hh=>hh.enter (fun _ _ e=>by
    cases own
    ·cases e
    ·exact e) (fun _ _ e=>e)) hv
  have hho:=HeapOk.enter (ts:=ts) hr.heapOk (bs_get hbs)
  have back:∀h' nx' w' K',Ext w (farK ts bs K) w' K'→HeapOk w' K' h'→freshIn s.next bs s.heap h'=true →
    Rel fr n (backK s.next ts bs w K K') {ents:=mapV (·.ren (strikeAll ts) some) s.ents,heap:=backHeap (nthOr s.next ts) (nthOr s.next bs) (mapV (·.ren (strikeAll ts) some) s.heap) h',next:=s.next+nx'} a w':=fun h' nx' w' K' g hho' hf=>by
   have hl:=HeapOk.leave hr.heapOk hnd hbs g hho' hf
   exact{
    ext:=hr.ext.trans (backK_ext g)
    size:=hr.size
    defers:=hr.defers
    ents:=fun t av ht=>by
     simp only[look_mapV,Option.map_eq_some_iff] at ht
     obtain⟨av',e1,e2⟩:=ht
     subst e2
     exact RV.back g (hr.ents t av' e1)
    frame:=fun t ht=>hr.frame t (by simpa [look_mapV] using ht)
    heap:=hl.cells
    uniq:=hl.uniq}
  refine hbody _ _ _ _ _ h w (farK ts bs K) vs hin hho Rf (fun av v h' nx' w' K' g hrv hho' hkc=>?_) (fun u h' nx' w' K' g hho' hkc=>?_)
  ·split at hkc
   ·rename_i hf
    exact hk _ v _ (backK s.next ts bs w K K') w' (back h' nx' w' K' g hho' hf) (RV.leave g hrv) hkc
   ·cases hkc
  ·split at hkc
   ·rename_i hf
    exact hp u _ (backK s.next ts bs w K K') w' (back h' nx' w' K' g hho' hf) hkc
   ·cases hkc
 ·cases h
theorem plain_back (hr:Rel fr n K s a w) {w':World} {K':Kinds} (g:Ext w (farK [] [] K) w' K') (hno:∀b id,b<w'.heap.size→K' b≠.box id) {v:AV} {r:Value} (hrv:RV w' K' v r) (N:Nat) :
  ∃K'',Rel fr n K'' s a w'∧RV w' K'' (v.ren (nthOr N []) (nthOr N [])) r:=by
 refine⟨backK N [] [] w K K',hr.still ?_,RV.leave g hrv⟩
 exact{
  ext:=backK_ext g
  rows:=fun b id u hb hk=>by
   have hf:farK [] [] K b=.far u:=by unfold farK;rw[hk];rfl
   obtain⟨_,h2⟩:=g.fix b hb (by rw[hf];rfl)
   refine⟨?_,h2⟩
   unfold backK
   simp only[hb,if_true,hk]
   rfl
  boxes:=fun b id hb hk=>by
   have hf:farK [] [] K b=.far 0:=by unfold farK;rw[hk];rfl
   exact(g.fix b hb (by rw[hf];rfl)).2
  fresh:=fun b hb id hk=>by
   by_cases hlt:b<w.heap.size
   ·refine⟨hlt,?_⟩
    unfold backK at hk
    simp only[hlt,if_true] at hk
    cases e:K b with
    |old=>rw[e] at hk;cases hk
    |far u=>rw[e] at hk;cases hk
    |box id'=>rw[e] at hk;cases hk;rfl
    |row id' u=>rw[e] at hk;cases hk
   ·unfold backK at hk
    simp only[hlt,if_false] at hk
    cases e:K' b with
    |old=>rw[e] at hk;cases hk
    |far u=>rw[e] at hk;cases hk
    |box id'=>exact(hno b id' hb e).elim
    |row id' u=>rw[e] at hk;simp only[renKind] at hk;split at hk<;>cases hk}
def frzK (ids:List Nat) (K:Kinds):Kinds:=fun b =>
 match K b with
 | .old=>.old
 | .far u=>.far u
 | .box id=>if ids.contains id then .old else .far 0
 | .row _ u=>.far u
theorem frzK_fixed (ids:List Nat) (K:Kinds) (b:Nat):(frzK ids K b).fixed=true:=by
 unfold frzK
 cases K b with
 |box id=>simp only;split<;>rfl
 |_=>rfl
def midK (w:World) (K K':Kinds):Kinds:=fun b=>if b<w.heap.size then farK [] [] K b else K' b
theorem unwin_RV (hr:Rel fr n K s a w) {f:Nat→Bool} {ids:List Nat} {av:AV} {u:Value} (hid:∀i,winId av=some i→ids.contains i=true) (h:RV w K av u):RV w (frzK ids K) ((unwin s f av).ren noRow noRow) u:=by
 have keep:Keep w K w (frzK ids K):=fun b o _ hs=>⟨by
  unfold Stab frzK at *
  cases hk:K b with
  |box id=>rw[hk] at hs;exact hs.elim
  |_=>rw[hk] at hs;exact hs,rfl⟩
 have gen:∀av',RV w K av' u→RV w (frzK ids K) (av'.ren noRow noRow) u:=fun av' h'=>RV.ren keep (Nat.le_refl _) (fun _ _ _ _ _ _ e=>by cases e) (fun _ _ _ _ _ e=>by cases e) h'
 obtain⟨sh,x⟩:=av
 cases sh
 case win id e =>
  simp only[unwin]
  split
  ·rename_i e' xs hc
   split
   ·rename_i he _
    subst he
    split
    ·rename_i hpos
     obtain⟨b,j,cap,rfl,g1,g2,g3,g4,cs,T,g5,g6⟩:=RV.win h
     obtain⟨av,bo,e1,e2,e3⟩:=hr.heap b id g2 g1
     have:av=⟨.rowc e',xs⟩:=by
      unfold heapAt at hc
      split at hc
      ·cases hc
      ·rw[e1] at hc;cases hc;rfl
     subst this
     rw[g5] at e2;cases e2
     obtain⟨cs',T',hbo,e4⟩:=e3
     cases hbo
     have hll:=RL.length (RT.length e') _ _ e4
     have hcl:=@Array.length_toList _ cs
     have hlen:x.1+x.2≤List.length (α:=e'.den) xs:=by
      rw[←hcl,hll] at g6
      exact Nat.le_of_mul_le_mul_right g6 hpos
     have s1:=(RL.split (RT.length e') xs _ x.1 e4 (by omega)).2
     have s2:=(RL.split (RT.length e') _ _ x.2 s1 (by rw[List.length_drop];omega)).1
     have hst:∀o,Stab (frzK ids K) b o:=fun o=>by
      unfold Stab frzK
      rw[g1]
      simp only[hid id rfl,if_true]
      trivial
     have hx2:x.2=List.length (List.take x.2 (List.drop x.1 (xs:List e'.den))):=by
      rw[List.length_take,List.length_drop];omega
     refine R1.toRV (a:=⟨.ty (.sl e'),List.take x.2 (List.drop x.1 (xs:List e'.den))⟩) ⟨⟨some ⟨b,j,none⟩,x.2,cap,rfl,hx2,g3,(fun e=>(by cases e)),fun ad had=>⟨_,RL.imp (RT.ext keep e') _ _ s2,?_⟩⟩,(fun e=>(by cases e)),(fun _ c e=>(by cases e))⟩
     cases had
     intro i v hi
     refine⟨rfl,?_,hst _⟩
     rw[List.getElem?_take] at hi
     split at hi
     ·rename_i hlt
      rw[List.getElem?_drop] at hi
      have hne:x.2≠0:=fun h0=>by rw[h0,Nat.zero_mul] at hlt;exact Nat.not_lt_zero _ hlt
      rw[g4 hne]
      simp only[World.cell?,g5,Option.isSome_none,Bool.false_eq_true,if_false]
      simpa using hi
     ·cases hi
    ·exact gen _ h
   ·exact gen _ h
  ·exact gen _ h
 all_goals exact gen _ h
theorem RL_ints {w:World} {K:Kinds} {k:IntKind}:∀(xs:List Int) (cs:List Value),RL (RT w K (.int k)) xs cs→∀c∈cs,∃m,c=.int k m
 |[],cs,h,c,hc=>by rw[show cs=[] from h] at hc;cases hc
 |x::xs,_,⟨c1,c2,e,h1,h2⟩,c,hc=>by
  subst e
  rw[show c1=[.int k x] from h1] at hc
  rcases List.mem_append.1 hc with hc |hc
  ·exact⟨x,by simpa using hc⟩
  ·exact RL_ints xs c2 h2 c hc
theorem RL_bools {w:World} {K:Kinds}:∀(xs:List Bool) (cs:List Value),RL (RT w K .bool) xs cs→∀c∈cs,∃b,c=.bool b
 |[],cs,h,c,hc=>by rw[show cs=[] from h] at hc;cases hc
 |x::xs,_,⟨c1,c2,e,h1,h2⟩,c,hc=>by
  subst e
  rw[show c1=[.bool x] from h1] at hc
  rcases List.mem_append.1 hc with hc |hc
  ·exact⟨x,by simpa using hc⟩
  ·exact RL_bools xs c2 h2 c hc
theorem RVs.mapMem {w w':World} {K K':Kinds} {f:AV→AV}:∀{as:List AV} {vs:List Value},(∀a∈as,∀v,RV w K a v→RV w' K' (f a) v)→RVs w K as vs→RVs w' K' (as.map f) vs
 |[],[],_,_=>trivial
 |_::_,_::_,hf,h=>⟨hf _ (by simp) _ h.1,RVs.mapMem (fun a ha=>hf a (by simp[ha])) h.2⟩
 |[],_::_,_,h=>h.elim
 |_::_,[],_,h=>h.elim
theorem win_ok {f:FuncId} {ps:Plain} (hp:PlainOk C.P f ps) {args:List AV} {v:AV} {no:Nat→Bool} (hids:(args.filterMap winId).all (fun i=>isBools (heapAt s no i))=true) (h:ps (args.map fun a=>(unwin s no a).ren noRow noRow)=some (true,v)) (hv:isInts v.sh=true)
  (hr:Rel fr n K s a w) {vs:List Value} (hvs:RVs w K args vs) (N:Nat) :
  Calls C.P f vs.toArray w fun e w'=>∃r K',e=.returned r∧Rel fr n K' s a w'∧RV w' K' (v.ren (nthOr N []) (nthOr N [])) r:=by
 have hin:RVs w (frzK (args.filterMap winId) K) (args.map fun a=>(unwin s no a).ren noRow noRow) vs :=
  RVs.mapMem (fun a ha v hh=>unwin_RV hr (fun i hi=>by rw[List.contains_iff_mem];exact List.mem_filterMap.2 ⟨a,ha,hi⟩) hh) hvs
 refine(hp _ _ h w _ vs hin (fun b _=>frzK_fixed _ _ b)).mono ?_
 rintro e w' ⟨r,K',he,g,hno,hrv⟩
 have g2:Ext w (farK [] [] K) w' (midK w K K'):={
  os:=g.os
  tape:=g.tape
  output:=g.output
  size:=g.size
  fix:=fun b hb _=>⟨by unfold midK;rw[if_pos hb],(g.fix b hb (frzK_fixed _ _ b)).2⟩
  stab:=fun b o hb hs=>⟨by unfold Stab midK;rw[if_pos hb];exact hs,World.cell?_of_block (a:=⟨b,o,none⟩) (g.fix b hb (frzK_fixed _ _ b)).2⟩
  box:=fun b id hb hk=>by unfold farK at hk;cases e:K b<;>rw[e] at hk<;>cases hk
  bsz:=fun b id m hb hk=>by unfold farK at hk;cases e:K b<;>rw[e] at hk<;>cases hk}
 have hno2:∀b id,b<w'.heap.size→midK w K K' b≠.box id:=fun b id hb hk=>by
  unfold midK at hk
  split at hk
  ·unfold farK at hk;cases e:K b<;>rw[e] at hk<;>cases hk
  ·exact hno b id hb hk
 have hsl:∀(k:IntKind) (x:List Int) (A:Option Addr) (len cap:Nat),RT w' K' (.sl (.int k)) x [.slice A len cap]→RT w' (midK w K K') (.sl (.int k)) x [.slice A len cap]:=fun k x A len cap hrt=>by
  obtain⟨A',len',cap',he,x1,x2,x3,x4⟩:=hrt
  injection he with he _
  injection he with q1 q2 q3
  subst q1 q2 q3
  refine⟨A,len,cap,rfl,x1,x2,x3,fun ad had=>?_⟩
  obtain⟨cc,c1,c2⟩:=x4 ad had
  refine⟨cc,RL.imp (fun _ _ h=>h) _ _ c1,fun i v hi=>?_⟩
  obtain⟨p1,p2,p3⟩:=c2 i v hi
  refine⟨p1,p2,?_⟩
  obtain⟨m,rfl⟩:=RL_ints _ _ c1 v (List.mem_of_getElem? hi)
  unfold Stab midK
  split
  ·rename_i hb
   obtain⟨f1,f2⟩:=g.fix ad.block hb (frzK_fixed _ _ _)
   unfold Stab at p3
   rw[f1] at p3
   unfold frzK at p3
   unfold farK
   cases hk:K ad.block with
   |old=>trivial
   |far u=>rw[hk] at p3;exact p3
   |row id u=>rw[hk] at p3;exact p3
   |box id =>
    rw[hk] at p3
    simp only at p3
    split at p3
    ·rename_i hc
     exfalso
     have hb2:=List.all_eq_true.1 hids id (by simpa using hc)
     obtain⟨av,bo,e1,e2,e3⟩:=hr.heap ad.block id hb hk
     unfold isBools at hb2
     split at hb2
     ·rename_i xs hh
      have:av=⟨.rowc .bool,xs⟩:=by
       unfold heapAt at hh
       split at hh
       ·cases hh
       ·rw[e1] at hh;cases hh;rfl
      subst this
      obtain⟨cs,T,rfl,hrl⟩:=e3
      rw[World.cell?_of_block (a:=⟨ad.block,ad.off+i,none⟩) f2] at p2
      simp only[World.cell?,e2,Option.isSome_none,Bool.false_eq_true,if_false] at p2
      obtain⟨b,hb⟩:=RL_bools _ _ hrl (.int k m) (by
       have:=List.mem_of_getElem? (l:=cs.toList) (i:=ad.off+i) (a:=.int k m) (by simpa using p2)
       exact this)
      cases hb
     ·cases hb2
    ·exact(Nat.not_lt_zero _ p3).elim
  ·exact p3
 have hrv2:RV w' (midK w K K') v r:=by
  obtain⟨sh,x⟩:=v
  cases sh with
  |ty t =>
   cases t with
   |int k=>exact RV.scalar (av:=.int k x) (by rw[RV.int hrv];rfl) rfl (by rw[RV.int hrv];rfl)
   |bool=>exact hrv
   |sl t =>
    cases t with
    |int k =>
     obtain⟨A,len,cap,rfl,hrt⟩:=RV.sl hrv
     exact R1.toRV (a:=⟨.ty (.sl (.int k)),x⟩) ⟨hsl k x A len cap hrt,(fun e=>(by cases e)),(fun _ c e=>(by cases e))⟩
    |_=>cases hv
   |_=>cases hv
  |osl id' t =>
   cases t with
   |int k =>
    obtain⟨A,len,cap,rfl,hrt,hown⟩:=RV.osl hrv
    refine R1.toRV (a:=⟨.osl id' (.int k),x⟩) ⟨⟨hsl k x A len cap hrt,fun A2 len2 cap2 hc=>?_⟩,(fun e=>(by cases e)),(fun _ c e=>(by cases e))⟩
    injection hc with hc _
    injection hc with q1 q2 q3
    subst q1 q2 q3
    rcases hown with h |h |⟨a',e1,e2,e3,arr,T,e4,e5⟩
    ·exact .inl h
    ·exact .inr (.inl h)
    ·refine .inr (.inr ⟨a',e1,e2,?_,arr,T,e4,e5⟩)
     unfold midK
     split
     ·rename_i hb
      have f1:=(g.fix a'.block hb (frzK_fixed _ _ _)).1
      have f2:=frzK_fixed (args.filterMap winId) K a'.block
      rw[←f1,e3] at f2
      cases f2
     ·exact e3
   |_=>cases hv
  |_=>cases hv
 obtain⟨K'',k1,k2⟩:=plain_back hr g2 hno2 hrv2 N
 exact⟨r,K'',he,k1,k2⟩
theorem win_RT (hr:Rel fr n K s a w) {f:Nat→Bool} {ids:List Nat} {id:Nat} {e:Ty} {xs:List e.den} (hc:heapAt s f id=some ⟨.rowc e,xs⟩) (hpos:0<e.size) (hid:ids.contains id=true) (keep:Keep w K w (frzK ids K)) {x:Nat×Nat} {c:List Value} :
  RWin w K id e x c→RT w (frzK ids K) (.sl e) (shown xs x) c:=by
 rintro⟨b,j,cap,rfl,g1,g2,g3,g4,cs,T,g5,g6⟩
 obtain⟨av,bo,e1,e2,e3⟩:=hr.heap b id g2 g1
 have:av=⟨.rowc e,xs⟩:=by
  unfold heapAt at hc
  split at hc
  ·cases hc
  ·rw[e1] at hc;cases hc;rfl
 subst this
 rw[g5] at e2;cases e2
 obtain⟨cs',T',hbo,e4⟩:=e3
 cases hbo
 have hll:=RL.length (RT.length e) _ _ e4
 have hcl:=@Array.length_toList _ cs
 have hlen:x.1+x.2≤List.length (α:=e.den) xs:=by
  rw[←hcl,hll] at g6
  exact Nat.le_of_mul_le_mul_right g6 hpos
 have s1:=(RL.split (RT.length e) xs _ x.1 e4 (by omega)).2
 have s2:=(RL.split (RT.length e) _ _ x.2 s1 (by rw[List.length_drop];omega)).1
 have hst:∀o,Stab (frzK ids K) b o:=fun o=>by
  unfold Stab frzK
  rw[g1]
  simp only[hid,if_true]
  trivial
 have hx2:x.2=List.length (List.take x.2 (List.drop x.1 (xs:List e.den))):=by
  rw[List.length_take,List.length_drop];omega
 refine⟨some ⟨b,j,none⟩,x.2,cap,rfl,hx2,g3,(fun e=>(by cases e)),fun ad had=>⟨_,RL.imp (RT.ext keep e) _ _ s2,?_⟩⟩
 cases had
 intro i v hi
 refine⟨rfl,?_,hst _⟩
 rw[List.getElem?_take] at hi
 split at hi
 ·rename_i hlt
  rw[List.getElem?_drop] at hi
  have hne:x.2≠0:=fun h0=>by rw[h0,Nat.zero_mul] at hlt;exact Nat.not_lt_zero _ hlt
  rw[g4 hne]
  simp only[World.cell?,g5,Option.isSome_none,Bool.false_eq_true,if_false]
  simpa using hi
 ·cases hi
theorem RL.mapL {α β:Type} {R:α→List Value→Prop} {R':β→List Value→Prop} {g:α→β} (h:∀x c,R x c→R' (g x) c):∀(xs:List α) (cs:List Value),RL R xs cs→RL R' (xs.map g) cs
 |[],_,hh=>hh
 |_::xs,_,⟨c1,c2,e,h1,h2⟩=>⟨c1,c2,e,h _ _ h1,RL.mapL h xs c2 h2⟩
theorem show_RV (hr:Rel fr n K s a w) {f:Nat→Bool} {ids:List Nat} {av:AV} {p:List Nat×AV} (hp:showMem s f av=some p) (hids:∀i∈p.1,ids.contains i=true) {u:Value} (h:RV w K av u):RV w (frzK ids K) p.2 u:=by
 have keep:Keep w K w (frzK ids K):=fun b o _ hs=>⟨by
  unfold Stab frzK at *
  cases hk:K b with
  |box id=>rw[hk] at hs;exact hs.elim
  |_=>rw[hk] at hs;exact hs,rfl⟩
 unfold showMem at hp
 split at hp
 ·rename_i id _
  split at hp
  ·rename_i t tg rid e x hc
   split at hp
   ·rename_i e' xs hc2
    split at hp
    ·rename_i he _
     subst he
     split at hp
     ·rename_i hpos
      cases hp
      have i1:=hids id (by simp)
      have i2:=hids rid (by simp)
      obtain⟨b,rfl,hkb,hlt⟩:=RV.box h
      obtain⟨av,bo,e1,e2,e3⟩:=hr.heap b id hlt hkb
      have:av=⟨.pair (.ty t) (.pair (.wsl tg rid e') (.ty .unit)),x⟩:=by
       unfold heapAt at hc
       split at hc
       ·cases hc
       ·rw[e1] at hc;cases hc;rfl
      subst this
      obtain⟨cs,T,rfl,c1,c2,hcs,h1,c3,c4,rfl,⟨⟨A,len,cap,rfl,x1,x2,x3,x4⟩,_⟩,h3⟩:=e3
      have h4:c4=[]:=h3
      subst h4
      refine R1.toRV (a:=⟨.ref (.pair t (.pair (.sl (.sl e')) .unit)) 0,_⟩) ⟨⟨⟨b,0,none⟩,cs.toList,rfl,?_,?_⟩,(fun e=>(by cases e)),(fun _ c e=>(by cases e))⟩
      ·refine⟨c1,_,hcs,RT.ext keep t _ _ h1,_,_,rfl,?_,rfl⟩
       refine⟨A,len,cap,rfl,by unfold rowsOf;rw[List.length_map];exact x1,x2,x3,fun ad had=>?_⟩
       obtain⟨cc,k1,k2⟩:=x4 ad had
       exact⟨cc,RL.mapL (fun y c hy=>win_RT hr hc2 hpos i2 keep hy) _ _ k1,k2.ext keep⟩
      ·intro j v hj
       refine⟨rfl,?_,?_⟩
       ·simp only[World.cell?,e2,Option.isSome_none,Bool.false_eq_true,if_false]
        simpa using hj
       ·unfold Stab frzK
        simp only[hkb,i1,if_true]
        trivial
     ·cases hp
    ·cases hp
   ·cases hp
  ·cases hp
 ·cases hp
theorem show_ok {f:FuncId} {ps:Plain} (hp:PlainOk C.P f ps) {args:List AV} {v:AV} {no:Nat→Bool} (h:ps (args.map (showArg s no))=some (true,v)) (hv:isOne v.sh=true)
  (hr:Rel fr n K s a w) {vs:List Value} (hvs:RVs w K args vs) (N:Nat) :
  Calls C.P f vs.toArray w fun e w'=>∃r K',e=.returned r∧Rel fr n K' s a w'∧RV w' K' (v.ren (nthOr N []) (nthOr N [])) r:=by
 let ids:=(args.filterMap (showMem s no)).flatMap (·.1)
 have keep:Keep w K w (frzK ids K):=fun b o _ hs=>⟨by
  unfold Stab frzK at *
  cases hk:K b with
  |box id=>rw[hk] at hs;exact hs.elim
  |_=>rw[hk] at hs;exact hs,rfl⟩
 have hin:RVs w (frzK ids K) (args.map (showArg s no)) vs:=RVs.mapMem (fun a ha v hh=>by
  unfold showArg
  cases hm:showMem s no a with
  |none=>exact RV.ren keep (Nat.le_refl _) (fun _ _ _ _ _ _ e=>by cases e) (fun _ _ _ _ _ e=>by cases e) hh
  |some p=>exact show_RV hr hm (fun i hi=>by rw[List.contains_iff_mem];exact List.mem_flatMap.2 ⟨p,List.mem_filterMap.2 ⟨a,ha,hm⟩,hi⟩) hh) hvs
 refine(hp _ _ h w _ vs hin (fun b _=>frzK_fixed _ _ b)).mono ?_
 rintro e w' ⟨r,K',he,g,hno,hrv⟩
 have g2:Ext w (farK [] [] K) w' (midK w K K'):={
  os:=g.os
  tape:=g.tape
  output:=g.output
  size:=g.size
  fix:=fun b hb _=>⟨by unfold midK;rw[if_pos hb],(g.fix b hb (frzK_fixed _ _ b)).2⟩
  stab:=fun b o hb hs=>⟨by unfold Stab midK;rw[if_pos hb];exact hs,World.cell?_of_block (a:=⟨b,o,none⟩) (g.fix b hb (frzK_fixed _ _ b)).2⟩
  box:=fun b id hb hk=>by unfold farK at hk;cases e:K b<;>rw[e] at hk<;>cases hk
  bsz:=fun b id m hb hk=>by unfold farK at hk;cases e:K b<;>rw[e] at hk<;>cases hk}
 have hno2:∀b id,b<w'.heap.size→midK w K K' b≠.box id:=fun b id hb hk=>by
  unfold midK at hk
  split at hk
  ·unfold farK at hk;cases e:K b<;>rw[e] at hk<;>cases hk
  ·exact hno b id hb hk
 have hrv2:RV w' (midK w K K') v r:=by
  obtain⟨sh,x⟩:=v
  cases sh with
  |ty t =>
   cases t with
   |int k=>exact RV.scalar (av:=.int k x) (by rw[RV.int hrv];rfl) rfl (by rw[RV.int hrv];rfl)
   |bool=>exact hrv
   |str=>exact hrv
   |_=>cases hv
  |_=>cases hv
 obtain⟨K'',k1,k2⟩:=plain_back hr g2 hno2 hrv2 N
 exact⟨r,K'',he,k1,k2⟩
theorem snap_At (hr:Rel fr n K s a w) {f:Nat→Bool} {ids:List Nat} {av:AV} {p:List Nat×AV×AV} (hp:showMap s f av=some p) {u:Value} (h:RV w K av u):SnapAt w (frzK ids K) p.2.1 p.2.2 u:=by
 have keep:Keep w K w (frzK ids K):=fun b o _ hs=>⟨by
  unfold Stab frzK at *
  cases hk:K b with
  |box id=>rw[hk] at hs;exact hs.elim
  |_=>rw[hk] at hs;exact hs,rfl⟩
 unfold showMap at hp
 split at hp
 ·rename_i id _
  split at hp
  ·rename_i e m q x hc
   split at hp
   ·rename_i en hc2
    cases hp
    obtain⟨b,rfl,hkb,hlt⟩:=RV.box h
    obtain⟨av,bo,e1,e2,e3⟩:=hr.heap b id hlt hkb
    have:av=⟨.pair (.ty (.sl e)) (.pair (.ty (.int .i64)) (.pair (.mp m) q)),x⟩:=by
     unfold heapAt at hc
     split at hc
     ·cases hc
     ·rw[e1] at hc;cases hc;rfl
    subst this
    obtain⟨cs,T,rfl,c1,c2,hcs,h1,c3,c4,rfl,h3,c5,c6,rfl,⟨mb,rfl,hkm,hltm⟩,h5⟩:=e3
    have h3':c3=[.int .i64 x.2.1]:=h3
    subst h3'
    obtain⟨A,len,cap,rfl,h1'⟩:=h1
    obtain⟨av2,bo2,f1,f2,f3⟩:=hr.heap mb m hltm hkm
    have:av2=⟨.mapc,en⟩:=by
     unfold heapAt at hc2
     split at hc2
     ·cases hc2
     ·rw[f1] at hc2;cases hc2;rfl
    subst this
    refine⟨b,cs,T,_,_,mb,c6,bo2,rfl,e2,by rw[hcs];rfl,?_,f2,f3⟩
    exact RT.ext keep (.sl e) x.1 _ ⟨A,len,cap,rfl,h1'⟩
   ·cases hp
  ·cases hp
 ·cases hp
theorem snap_ok {f:FuncId} {ps:Plain} (hp:SnapOk C.P f ps) {args l:List AV} {v:AV} {no:Nat→Bool} (hl:snapArgs s no args=some l) (h:ps l=some (true,v)) (hv:isOne v.sh=true)
  (hr:Rel fr n K s a w) {vs:List Value} (hvs:RVs w K args vs) (N:Nat) :
  Calls C.P f vs.toArray w fun e w'=>∃r K',e=.returned r∧Rel fr n K' s a w'∧RV w' K' (v.ren (nthOr N []) (nthOr N [])) r:=by
 unfold snapArgs at hl
 split at hl
 ·rename_i a0 rest
  split at hl
  ·rename_i p hsp
   cases hl
   match vs,hvs with
   |u::vs,hvs =>
   have keep:Keep w K w (frzK p.1 K):=fun b o _ hs=>⟨by
    unfold Stab frzK at *
    cases hk:K b with
    |box id=>rw[hk] at hs;exact hs.elim
    |_=>rw[hk] at hs;exact hs,rfl⟩
   have hin:RVs w (frzK p.1 K) (rest.map (·.ren noRow noRow)) vs:=RVs.mapMem (fun a ha v hh=>RV.ren keep (Nat.le_refl _) (fun _ _ _ _ _ _ e=>by cases e) (fun _ _ _ _ _ e=>by cases e) hh) hvs.2
   refine(hp _ _ _ _ h w _ u vs (snap_At hr hsp hvs.1) hin (fun b _=>frzK_fixed _ _ b)).mono ?_
   rintro e w' ⟨r,K',he,g,hno,hrv⟩
   have g2:Ext w (farK [] [] K) w' (midK w K K'):={
    os:=g.os
    tape:=g.tape
    output:=g.output
    size:=g.size
    fix:=fun b hb _=>⟨by unfold midK;rw[if_pos hb],(g.fix b hb (frzK_fixed _ _ b)).2⟩
    stab:=fun b o hb hs=>⟨by unfold Stab midK;rw[if_pos hb];exact hs,World.cell?_of_block (a:=⟨b,o,none⟩) (g.fix b hb (frzK_fixed _ _ b)).2⟩
    box:=fun b id hb hk=>by unfold farK at hk;cases e:K b<;>rw[e] at hk<;>cases hk
    bsz:=fun b id m hb hk=>by unfold farK at hk;cases e:K b<;>rw[e] at hk<;>cases hk}
   have hno2:∀b id,b<w'.heap.size→midK w K K' b≠.box id:=fun b id hb hk=>by
    unfold midK at hk
    split at hk
    ·unfold farK at hk;cases e:K b<;>rw[e] at hk<;>cases hk
    ·exact hno b id hb hk
   have hrv2:RV w' (midK w K K') v r:=by
    obtain⟨sh,x⟩:=v
    cases sh with
    |ty t =>
     cases t with
     |int k=>exact RV.scalar (av:=.int k x) (by rw[RV.int hrv];rfl) rfl (by rw[RV.int hrv];rfl)
     |bool=>exact hrv
     |str=>exact hrv
     |_=>cases hv
    |_=>cases hv
   obtain⟨K'',k1,k2⟩:=plain_back hr g2 hno2 hrv2 N
   exact⟨r,K'',he,k1,k2⟩
  ·cases hl
 ·cases hl
theorem plain_ok {f:FuncId} {ps:Plain} (hp:PlainOk C.P f ps) (hps:SnapOk C.P f ps) {args:List AV} {v:AV} {no:Nat→Bool} (h:plainEff s no ps args=some (true,v)) (hr:Rel fr n K s a w) {vs:List Value} (hv:RVs w K args vs) (N:Nat) :
  Calls C.P f vs.toArray w fun e w'=>∃r K',e=.returned r∧Rel fr n K' s a w'∧RV w' K' (v.ren (nthOr N []) (nthOr N [])) r:=by
 unfold plainEff at h
 split at h
 ·rename_i l hl
  split at h
  ·rename_i v' hpl
   split at h
   ·rename_i hi
    cases h
    exact snap_ok hps hl hpl hi hr hv N
   ·cases h
  ·cases h
 cases hsh:args.any (fun a=>(showMem s no a).isSome) with
 |true =>
  rw[hsh] at h
  simp only[cond_true] at h
  split at h
  ·rename_i v' hps
   split at h
   ·rename_i hi
    cases h
    exact show_ok hp hps hi hr hv N
   ·cases h
  ·cases h
 |false =>
 rw[hsh] at h
 simp only[cond_false] at h
 split at h
 ·have hin:RVs w (farK [] [] K) (args.map (·.ren noRow noRow)) vs:=RVs.map (fun a v hh=>hh.enter (fun _ _ e=>by cases e) (fun _ _ e=>by cases e)) hv
  refine(hp _ _ h w (farK [] [] K) vs hin (fun b _=>?_)).mono ?_
  ·unfold farK
   cases K b<;>rfl
  ·rintro e w' ⟨r,K',he,g,hno,hrv⟩
   obtain⟨K'',k1,k2⟩:=plain_back hr g hno hrv N
   exact⟨r,K'',he,k1,k2⟩
 ·rename_i i l hl
  rw[←hl] at h
  cases hb:(args.filterMap winId).all fun i=>isBools (heapAt s no i)
  ·rw[hb] at h;cases h
  ·rw[hb] at h
   simp only[cond_true] at h
   split at h
   ·rename_i v' hps
    split at h
    ·rename_i hi
     cases h
     exact win_ok hp hb hps hi hr hv N
    ·cases h
   ·cases h
theorem parts_ok:∀(d:Nat) (sh:Sh) (x:sh.den) (cs:List Value),unpack sh d=true→RS w K sh x cs→(∀c∈cs,c.oneCell'=true)→RVs w K (parts d ⟨sh,x⟩) cs:=by
 intro d
 induction d with
 |zero =>
  intro sh x cs h hr _
  cases sh<;>try cases h
  rename_i t
  cases t<;>first|cases h |skip
  rw[show cs=[] from hr]
  trivial
 |succ d ih =>
  intro sh x cs h hr h1
  have fin:∀(p q:AV) (c1 c2:List Value),RS w K p.sh p.v c1→p.sh.agg=false→cs=c1++c2→RVs w K (parts d q) c2→RVs w K (p::parts d q) cs:=by
   intro p q c1 c2 hp hg he hq
   have hl:=RS.length _ _ _ hp
   rw[Sh.size_pos _ hg] at hl
   obtain⟨c,rfl⟩:=List.length_eq_one_iff.1 hl
   subst he
   exact⟨RV.scalar hp hg (h1 c (by simp)),hq⟩
  cases sh with
  |pair a b =>
   simp only[unpack,Bool.and_eq_true,Bool.not_eq_true'] at h
   obtain⟨c1,c2,e,r1,r2⟩:=hr
   exact fin ⟨a,x.1⟩ ⟨b,x.2⟩ c1 c2 r1 h.1 e (ih b x.2 c2 h.2 r2 (fun c hc=>h1 c (by rw[e];simp[hc])))
  |ty t =>
   cases t with
   |unit =>
    rw[show cs=[] from hr]
    trivial
   |pair a b =>
    simp only[unpack,Bool.and_eq_true,Bool.not_eq_true'] at h
    obtain⟨c1,c2,e,r1,r2⟩:=hr
    exact fin ⟨.ty a,x.1⟩ ⟨.ty b,x.2⟩ c1 c2 r1 h.1 e (ih (.ty b) x.2 c2 h.2 r2 (fun c hc=>h1 c (by rw[e];simp[hc])))
   |_=>cases h
  |_=>cases h
theorem args_ok (hr:Rel fr n K s a w):∀l:List Operand,RVs w K (l.map (opnd s)) (l.map a.eval)
 |[]=>trivial
 |x::l=>⟨opnd_RV hr x,args_ok hr l⟩
theorem callee_ok (hC:CtxOk C) (hr:Rel fr n K s a w) {o:Oper} {c:Call} (ho:o.op=.call c) {g:FuncId} {args:List AV} (h:calleeOf s c=some (g,args)) {fn:Func} (hfn:C.P.funcs[g]?=some fn) (hb:fn.body.isSome=true) :
  ∃vs,(execOp a.eval o).run C.P w=.ok (.enter g vs.toArray) w∧RVs w K args vs:=by
 unfold calleeOf at h
 split at h
 ·rename_i f hcal
  split at h
  ·rename_i g' caps x hx
   split at h
   ·rename_i hun
    cases h
    have hv:=opnd_RV hr f
    rw[hx] at hv
    obtain⟨cc,hcc,hrs⟩:=RV.fn hv
    refine⟨c.args.toList.map a.eval++cc,?_,RVs.append (args_ok hr _) (parts_ok 12 caps x cc hun hrs (RS.one _ _ _ hrs))⟩
    have hnm:=hC.names g fn hfn
    have hbn:¬fn.body=none:=fun e=>by rw[e] at hb;cases hb
    have e1:c.args.map a.eval++cc.toArray=(c.args.toList.map a.eval++cc).toArray:=by
     apply Array.ext'
     simp
    rw[←e1]
    simp[execOp,ho,resolve,hcal,Deferred.ofValue,hcc,invoke,callFunc,hfn,hnm,hbn]
   ·cases h
  ·rename_i g' hx
   cases h
   have hv:=opnd_RV hr f
   rw[hx] at hv
   have hcc:=RV.func hv
   refine⟨c.args.toList.map a.eval,?_,args_ok hr _⟩
   have hnm:=hC.names g fn hfn
   have hbn:¬fn.body=none:=fun e=>by rw[e] at hb;cases hb
   have e1:c.args.map a.eval=(c.args.toList.map a.eval).toArray:=by
    apply Array.ext'
    simp
   rw[←e1]
   simp[execOp,ho,resolve,hcal,Deferred.ofValue,hcc,fnVal,invoke,callFunc,hfn,hnm,hbn]
  ·cases h
 ·cases h
def CallsOk (P:Program) (call:CallIn):Prop:=∀f,BodyOk P f (call f)∧∀args h nx Kc r,call f args h nx Kc=some r→∃fn,P.funcs[f]?=some fn∧fn.body.isSome=true
theorem dstOk_spec {o:Oper} (h:dstOk n o=true):∀t,o.dst=some t→t<n:=by
 intro t ht
 unfold dstOk at h
 rw[ht] at h
 simpa [Nat.blt_eq] using h
theorem upon_opOk {o:Oper} {e:Eff} {next:Act→World→Prop} {Q:Exit→Act→World→Prop} (h:OpOk C.P fr n s a w o e) (hn:∀K' a' w',Rel fr n K' (s.apply o.dst e) a' w'→next a' w'):o.wp C.P a w next Q:=by
 obtain⟨v,w',K',hrun,hrel⟩:=h
 unfold Oper.wp
 rcases hrun with hrun |⟨hrun,rfl⟩
 ·rw[hrun];exact hn _ _ _ hrel
 ·rw[hrun];exact hn _ _ _ hrel
theorem isOne_RS {w:World} {K:Kinds} {sh:Sh} {x:sh.den} {cs:List Value} (h:isOne sh=true) (hr:RS w K sh x cs):∃c,cs=[c]∧RV w K ⟨sh,x⟩ c:=by
 unfold isOne at h
 split at h
 ·have e:cs=[.int _ x]:=hr
  exact⟨_,e,rfl,(fun e=>(by cases e)),(fun _ _ e=>(by cases e))⟩
 ·have e:cs=[.bool x]:=hr
  exact⟨_,e,rfl,(fun e=>(by cases e)),(fun _ _ e=>(by cases e))⟩
 ·have e:cs=[.string ⟨⟨x⟩⟩]:=hr
  exact⟨_,e,rfl,(fun e=>(by cases e)),(fun _ _ e=>(by cases e))⟩
 ·cases h
theorem effOf_ok (hC:CtxOk C) {no:Lim} {id:Nat} {o:Oper} {c:Bool} {e:Eff} (h:effOf C s no id o=some (c,e)) (hc:c=true) (hr:Rel fr n K s a w) (hd:dstOk n o=true) {next:Act→World→Prop} {Q:Exit→Act→World→Prop}
  (hn:∀K' a' w',Rel fr n K' (s.apply o.dst e) a' w'→next a' w'):o.wp C.P a w next Q:=by
 have hd':=dstOk_spec hd
 unfold effOf at h
 split at h
 ·rename_i cl ho
  split at h
  ·rename_i g args hcal
   split at h
   ·rename_i ps hps
    obtain⟨fn,hfn,hb⟩:=hC.plainBody g ps hps
    obtain⟨vs,hrun,hvs⟩:=callee_ok hC hr ho hcal hfn hb
    split at h
    ·rename_i p hp
     obtain⟨⟨c',v⟩,hv,e'⟩:=Option.map_eq_some_iff.1 h
     simp only[Prod.mk.injEq] at e'
     obtain⟨e1,e2⟩:=e'
     subst e1
     subst e2
     subst hc
     unfold getEff at hv
     split at hv
     ·rename_i id' x
      cases hk:known C.P p.2 with
      |false=>rw[hk] at hv;cases hv
      |true =>
       rw[hk] at hv
       simp only[cond_true] at hv
       split at hv
       ·rename_i v' hl
        cases hone:isOne v'.sh with
        |false=>rw[hone] at hv;cases hv
        |true =>
         rw[hone] at hv
         cases hv
         match vs,hvs with
         |[u],hvs =>
          obtain⟨b,hu,hkb,hlt⟩:=RV.box hvs.1
          subst hu
          have hcell:∃r,w.cell? ⟨b,p.1,none⟩=some r∧RV w K v r:=by
           simp only[loadAV] at hl
           split at hl
           ·rename_i c0 hc0
            obtain⟨av,bo,e1,e2,e3⟩:=hr.heap b id' hlt hkb
            have:c0=av:=by
             unfold heapAt at hc0
             split at hc0
             ·cases hc0
             ·rw[e1] at hc0;cases hc0;rfl
            subst this
            obtain⟨cs,T,hbo,e4⟩:=BoxOk.sub hl e3;subst hbo
            obtain⟨i1,i2,i3⟩:=Sh.sub_RS _ _ _ _ _ _ _ hl e4
            obtain⟨r,hr1,hr2⟩:=isOne_RS hone i1
            refine⟨r,?_,hr2⟩
            have hj:((cs.toList.drop p.1).take (C.P.cellsOf p.2))[0]?=some r:=by rw[hr1];rfl
            rw[List.getElem?_take] at hj
            split at hj
            ·rw[List.getElem?_drop] at hj
             simp only[World.cell?,e2,Option.isSome_none,Bool.false_eq_true,if_false]
             simpa using hj
            ·cases hj
           ·cases hl
          obtain⟨r,h1,h2⟩:=hcell
          unfold Oper.wp
          rw[hrun,Oper.upon_enter]
          refine(hC.gets g p hp w b r h1).mono ?_
          rintro e w' ⟨rfl,rfl⟩
          exact hn K _ _ (hr.setO hd' h2)
       ·cases hv
     ·cases hv
    obtain⟨⟨c',v⟩,hv,e'⟩:=Option.map_eq_some_iff.1 h
    simp only[Prod.mk.injEq] at e'
    obtain⟨e1,e2⟩:=e'
    subst e1
    subst e2
    subst hc
    unfold Oper.wp
    rw[hrun,Oper.upon_enter]
    refine(plain_ok (hC.plain g ps hps) (hC.snap g ps hps) hv hr hvs id).mono ?_
    rintro e w' ⟨r,K',rfl,hrel,hrv⟩
    exact hn K' _ _ (hrel.setO hd' hrv)
   ·cases h
  ·exact upon_opOk (opE_ok hC.eqs hr hd' h hc) hn
 ·exact upon_opOk (opE_ok hC.eqs hr hd' h hc) hn
theorem stepOp_ok (hC:CtxOk C) {call:CallIn} (hcall:CallsOk C.P call) {no:Lim} {id:Nat} {o:Oper} {Kc:St→Option R} {r:R} (h:stepOp C call n no id o s Kc=some r) (hr:Rel fr n K s a w) {next:Act→World→Prop} {Q:Exit→Act→World→Prop}
  (hn:∀s' K' a' w',Rel fr n K' s' a' w'→Kc s'=some r→next a' w'):o.wp C.P a w next Q:=by
 unfold stepOp at h
 cases hd:dstOk n o
 ·rw[hd] at h;cases h
 ·rw[hd] at h
  simp only[cond_true] at h
  split at h
  ·rename_i g args hw
   unfold walked at hw
   split at hw
   ·rename_i cl ho
    split at hw
    ·rename_i g' args' hcal
     split at hw
     ·cases hw
     ·cases hw
      have hne:∃fn,C.P.funcs[g]?=some fn∧fn.body.isSome=true:=by
       unfold inCall at h
       simp only at h
       split at h
       ·exact(hcall g).2 _ _ _ _ _ h
       ·cases h
      obtain⟨fn,hfn,hb⟩:=hne
      obtain⟨vs,hrun,hvs⟩:=callee_ok hC hr ho hcal hfn hb
      unfold Oper.wp
      rw[hrun,Oper.upon_enter]
      refine inCall_ok (hcall g).1 h hr hvs _ (fun av v s' K' w' hrel hrv hkc=>?_) (fun u s' K' w' _ hkc=>?_)
      ·split at hkc
       ·cases hkc
       ·exact hn _ K' _ _ (hrel.setO (dstOk_spec hd) hrv) hkc
      ·cases hkc
    ·cases hw
   ·cases hw
  ·split at h
   ·rename_i c e he
    cases c
    ·cases h
    ·exact effOf_ok hC he rfl hr hd (fun K' a' w' hrel=>hn _ K' a' w' hrel h)
   ·cases h
theorem cellsV_RT:∀(t:Ty) (x:t.den) (cs ds:List Value),t.cellsV x=some ds→RT w K t x cs→cs=ds
 | .unit,_,_,_,h,hr=>by cases h;exact hr
 | .pair a b,x,_,_,h,⟨c1,c2,e,h1,h2⟩=>by
  simp only[Ty.cellsV] at h
  split at h
  ·rename_i c d e1 e2
   cases h
   rw[e,cellsV_RT a x.1 c1 c e1 h1,cellsV_RT b x.2 c2 d e2 h2]
  ·cases h
 | .int _,_,_,_,h,hr=>by cases h;exact hr
 | .bool,_,_,_,h,hr=>by cases h;exact hr
 | .str,_,_,_,h,hr=>by cases h;exact hr
 | .arr _ _,_,_,_,h,_=>by cases h
 | .func,_,_,_,h,_=>by cases h
 | .sl _,_,_,_,h,_=>by cases h
theorem value_RV {av:AV} {u v:Value} (h:av.value=some u) (hr:RV w K av v):v=u:=by
 obtain⟨s,x⟩:=av
 cases s<;>simp only[AV.value] at h<;>try cases h
 rename_i t
 split at h
 ·rename_i cs hcs
  cases h
  have h1:R1 w K (.ty t) x v:=hr
  rw[h1.mkV,cellsV_RT t x _ _ hcs h1.1]
  rfl
 ·cases h
theorem run_makeRow {P:Program} {w:World} {t e:TypeId} (hu:P.underlying t=some (.slice e)) {i:TypeInfo} (hi:P.info? e=some i) {zv:Value} (hzv:i.zero=some zv) (_hpos:0<i.size) {k:IntKind} {c:Int} (h1:0≤c) (h2:c*i.bytes≤281474976710656) (h3:c≤9223372036854775807) :
  (Instr.makeSlice t (.int k c) (.int k c)).run P w=.ok (.slice (some ⟨w.heap.size,0,none⟩) c.toNat c.toNat) (w.alloc (.cells ((Array.range (c.toNat*i.size)).map (zv.cells[· % zv.cells.size]!)) e)):=by
 have hw:IntKind.i64.wrap c=c:=wrap_i64 _ (by omega) (by omega)
 have hn:¬(c<0):=by omega
 have hm:¬((i.bytes:Int)*c > 281474976710656):=by rw[Int.mul_comm];omega
 have hlt:¬(c > c):=by omega
 by_cases h0:c.toNat*i.size=0
 ·simp[Instr.makeSlice,run_underlying hu,typeInfo,hi,asInt,asIntOf,hw,hn,hm,sizeOf,h0,newRow]
  congr 2
  exact(Array.eq_empty_of_size_eq_zero (by simp)).trans (Array.eq_empty_of_size_eq_zero (by simp)).symm
 ·simp[Instr.makeSlice,run_underlying hu,typeInfo,hi,asInt,asIntOf,hw,hn,hm,sizeOf,h0,newRow,zeroValue,hzv]
theorem RL_ints_of {w:World} {K:Kinds} (k:IntKind):∀xs:List Int,RL (RT w K (.int k)) xs (xs.map (Value.int k))
 |[]=>rfl
 |x::xs=>⟨[.int k x],xs.map (Value.int k),rfl,rfl,RL_ints_of k xs⟩
theorem src_ok {P:Program} {sv:AV} {ys:List Int} (h:srcBytes sv=some ys) {v:Value} (hv:RV w K sv v) :
  (Builtin.lenOf v).run P w=.ok ys.length w∧∀m,m≤ys.length→(Builtin.firstCells 1 m v).run P w=.ok ((ys.take m).map (Value.int .u8)).toArray w:=by
 unfold srcBytes at h
 split at h
 ·rename_i b
  cases h
  rw[RV.str hv]
  refine⟨by simp[Builtin.lenOf,strInts];rfl,fun m hm=>?_⟩
  simp only[Builtin.firstCells]
  rw[show ∀x:Array Value,(pure x:Sem (Array Value)).run P w=.ok x w from fun _=>rfl]
  congr 1
  apply Array.ext'
  simp[ByteArray.data_extract,List.map_take,strInts]
  rfl
 ·obtain⟨A,len,cap,rfl,hlen,hnil,hle,hat⟩:=bytesAV_ok h hv
  refine⟨by simp[Builtin.lenOf,hlen],fun m hm=>?_⟩
  cases A with
  |none =>
   have h0:=hnil rfl
   have hx:ys=[]:=List.length_eq_zero_iff.1 (by omega)
   subst hx
   simp[Builtin.firstCells]
  |some ad =>
   refine run_firstCells_some w 1 m ad len cap ((ys.take m).map (Value.int .u8)) (by simp;omega) (fun j u hj=>(hat ad rfl).cell j u ?_)
   rw[List.map_take,List.getElem?_take] at hj
   split at hj
   ·exact hj
   ·cases hj
theorem copy_ok {P:Program} (hr:Rel fr n K s a w) {d:Option Nat} (hd:∀t,d=some t→t<n) {t t' ty el:TypeId} {i:TypeInfo} (ht:P.underlying t=some (.slice el)) (hi:P.info? el=some i) (h1:i.size=1) {id:Nat} {y:Nat×Nat} {xs:List Int}
  (hc:look id s.heap=some ⟨.rowc (.int .u8),xs⟩) {u v:Value} (hu:RV w K ⟨.win id (.int .u8),y⟩ u) {sv:AV} {ys:List Int} (hs:srcBytes sv=some ys) (hv:RV w K sv v) :
  ∃r w',(Builtin.copy_ #[t,t'] ty #[u,v]).run P w=.ok r w'∧Rel fr n K (s.apply d (.put id ⟨.rowc (.int .u8),mend xs y.1 ys y.2⟩)) (a.put d r) w':=by
 obtain⟨b,j,cap,rfl,g1,g2,g3,g4,cs,T,g5,g6⟩:=RV.win hu
 obtain⟨av,bo,e1,e2,e3⟩:=hr.heap b id g2 g1
 rw[hc] at e1
 cases e1
 rw[g5] at e2
 cases e2
 obtain⟨cs',T',hbo,e4⟩:=e3
 cases hbo
 obtain⟨s1,s2⟩:=src_ok (P:=P) hs hv
 have hfc:=s2 (min ys.length y.2) (Nat.min_le_left _ _)
 have hcs:cs.toList=xs.map (Value.int .u8):=bytes_cells e4
 have hcl:cs.size=xs.length:=by rw[←Array.length_toList,hcs,List.length_map]
 have hlen:y.1+y.2≤xs.length:=by rw[←hcl];simpa [Ty.size] using g6
 by_cases h0:y.2=0
 ·refine⟨goInt 0,w,?_,?_⟩
  ·have hfc0:(Builtin.firstCells 1 0 v).run P w=.ok #[] w:=by
    have:=s2 0 (Nat.zero_le _)
    simpa using this
   simp[Builtin.copy_,run_underlying ht,sizeOf,typeInfo,hi,h1,s1,h0,hfc0,storeCells]
  ·have hsp:mend xs y.1 ys y.2=xs:=by simp[mend,h0]
   rw[hsp]
   exact hr.putObj hd g2 g1 rfl rfl rfl rfl (fun _ _=>rfl) g5 rfl g5 (fun _ h=>h) (c:=⟨.rowc (.int .u8),xs⟩) ⟨cs,T,rfl,e4⟩ _
 ·have hj:j=y.1:=by have:=g4 h0;simpa [Ty.size] using this
  subst hj
  have hst:=run_storeCells_at (P:=P) b y.1 T ((ys.take (min ys.length y.2)).map (Value.int .u8)) 0 cs w g5 (by simp;omega) (fun v hv=>by obtain⟨m,_,rfl⟩:=List.mem_map.1 hv;rfl)
  refine⟨_,_,?_,hr.putBox hd g2 g1 g5 (c:=⟨.rowc (.int .u8),mend xs y.1 ys y.2⟩) (cs:=(cs.toList.take (y.1+0)++(ys.take (min ys.length y.2)).map (Value.int .u8)++cs.toList.drop (y.1+0+((ys.take (min ys.length y.2)).map (Value.int .u8)).length)).toArray) ?_ ⟨_,T,rfl,?_⟩ (goInt (min ys.length y.2:Nat))⟩
  ·generalize hm:min ys.length y.2=m at hfc hst ⊢
   have hm':Nat.min ys.length y.2=m:=hm
   have hrun:(Builtin.copy_ #[t,t'] ty #[.slice (some ⟨b,y.1,none⟩) y.2 cap,v]).run P w=((storeCells ⟨b,y.1,none⟩ ((ys.take m).map (Value.int .u8))).run P w).andThen fun _ w'=>.ok (goInt m) w':=by
    simp only[Builtin.copy_]
    simp[run_underlying ht,sizeOf,typeInfo,hi,h1,s1,hm',hfc]
   rw[hrun,hst]
   rfl
  ·simp;omega
  ·rw[List.toList_toArray,hcs,←List.map_take,←List.map_drop,←List.map_append,←List.map_append]
   have:mend xs y.1 ys y.2=xs.take (y.1+0)++ys.take (min ys.length y.2)++xs.drop (y.1+0+((ys.take (min ys.length y.2)).map (Value.int .u8)).length):=by
    simp only[mend,Nat.add_zero,List.length_map,List.length_take]
    rw[show min (min ys.length y.2) ys.length=min ys.length y.2 by omega]
    congr 2
    rw[←List.take_take,List.take_of_length_le (l:=List.take y.2 ys) (by rw[List.length_take];omega)]
   rw[this]
   exact RL_ints_of _ _
theorem opY_ok {id:Nat} {o:Oper} {e:Eff} (h:opY C.P s id o=some (true,e)) (hr:Rel fr n K s a w) (hd:dstOk n o=true) {next:Act→World→Prop} {Q:Exit→Act→World→Prop}
  (hn:∀K' a' w',Rel fr n K' (s.apply o.dst e) a' w'→next a' w'):o.wp C.P a w next Q:=by
 have hd':=dstOk_spec hd
 refine upon_opOk ?_ hn
 unfold opY at h
 split at h
 ·rename_i t x ho
  split at h
  ·cases h
  ·rename_i d hni hu
   obtain⟨v,hv,e'⟩:=Option.map_eq_some_iff.1 h
   cases e'
   have hx:=value_RV hv (opnd_RV hr x)
   refine OpOk.pure hr hd' (v:=.iface t v) ⟨⟨rfl,rfl⟩,(fun e=>(by cases e)),(fun _ c e=>(by cases e))⟩ ?_
   rw[show execOp a.eval o=(Instr.makeInterface t (a.eval x) >>= fun x=>pure (.value x)) by unfold execOp;rw[ho],hx]
   simp only[Instr.makeInterface,Sem.run_bind,run_underlying hu]
   cases d<;>first|rfl |exact(hni _ rfl).elim
  ·cases h
 ·rename_i t i j ho
  split at h
  ·rename_i e' c hu hcap
   split at h
   ·rename_i τ z inf hτ hz hi
    split at h
    ·rename_i z0 hz0
     split at h
     ·rename_i hcond
      obtain⟨k1,k2,k3,k4⟩:=hcond
      subst k1
      simp only[Option.some.injEq,Prod.mk.injEq,roomOk,Bool.and_eq_true,decide_eq_true_eq] at h
      obtain⟨⟨⟨h1,h2⟩,h3⟩,rfl⟩:=h
      obtain⟨k,hik⟩:=natOf_ok hcap (opnd_RV hr (.tmp i))
      unfold zeroTy at hz
      split at hz
      ·rename_i z1 hz1
       cases hz
       obtain⟨i',zv,hi',hzv,hrs⟩:=zeroOf_ok hz1
       rw[hi] at hi'
       cases hi'
       have hce:C.P.cellsOf e'=inf.size:=by simp[Program.cellsOf,hi]
       have hz2:RT w K τ z0 zv.cells.toList:=by
        have h1:=(hrs w K).1
        obtain⟨sh,x⟩:=z1
        cases sh
        case tup=>exact h1.elim
        all_goals
         have h2:=RS.ren (w':=w) (K':=K) (ρ:=fun _=>none) (σ:=some) (fun _ _ _ hh=>⟨hh,rfl⟩) (Nat.le_refl _) (fun _ _ _ _ _ _ hh=>(by cases hh)) (fun b id j _ hk hj=>by cases hj;exact⟨hk,fun _ h=>h⟩) _ _ _ h1
         exact as_RT _ _ _ _ _ hz0 h2
       have hzl:=RT.length _ _ _ hz2
       have hzs:zv.cells.size=inf.size:=by rw[←hce,k2,←hzl];simp
       have hpos:0<inf.size:=by rw[←hce,k2];exact k3
       have hrl:=RL.replicate hz2 c.toNat
       have hcells:=zeros_cells zv.cells c.toNat (by rw[hzs];exact hpos)
       rw[hzs] at hcells
       have hrun:=run_makeRow (P:=C.P) (w:=w) hu hi hzv hpos (k:=k) h1 h2 h3
       rw[hzs] at hrun
       refine⟨_,_,setK K w.heap.size (.box id),.inl (exec_v (m:=Instr.makeSlice t (a.eval (.tmp i)) (a.eval (.tmp i))) (by unfold execOp;rw[ho]) (by rw[hik];exact hrun)),?_⟩
       have hlen:(Array.map (fun x=>zv.cells[x % inf.size]!) (Array.range (c.toNat*inf.size))).size=c.toNat*inf.size:=by simp
       refine hr.newObj (c:=⟨.rowc τ,List.replicate c.toNat z0⟩) hd' (by simpa using k4) ⟨_,e',rfl,by rw[hcells];exact hrl⟩ ?_
       refine R1.toRV (a:=⟨.win id τ,(0,c.toNat)⟩) ⟨⟨w.heap.size,0,c.toNat,rfl,setK_same _ _ _,by rw[alloc_size];omega,Nat.le_refl _,fun _=>(Nat.zero_mul _).symm,_,e',heap_new w _,?_⟩,(fun e=>(by cases e)),(fun _ c e=>(by cases e))⟩
       rw[hlen,←hce,k2]
       show(0+c.toNat)*τ.size≤_
       rw[Nat.zero_add]
       exact Nat.le_refl _
      ·cases hz
     ·cases h
    ·cases h
   ·cases h
  ·cases h
 ·rename_i t ho
  split at h
  ·rename_i hf
   cases h
   refine⟨.map (some w.heap.size),w.alloc (.map #[] 0),setK K w.heap.size (.box id),.inl (exec_v (m:=Instr.makeMap t none) (by unfold execOp;rw[ho];rfl) (by rfl)),?_⟩
   refine hr.newObj (c:=⟨.mapc,[]⟩) hd' (by simpa using hf) ⟨#[],0,rfl,rfl⟩ ?_
   exact R1.toRV (a:=⟨.mp id,()⟩) ⟨⟨w.heap.size,rfl,setK_same _ _ _,by rw[alloc_size];omega⟩,(fun e=>(by cases e)),(fun _ c e=>(by cases e))⟩
  ·cases h
 ·rename_i t u x ho
  split at h
  ·rename_i e b y hu1 hu2 hx
   split at h
   ·rename_i xs hc
    split at h
    ·rename_i hby
     cases h
     have he:C.P.underlying e=some (.int .u8):=by
      unfold isBytes at hby
      split at hby
      ·rename_i hh;exact hh
      ·cases hby
     obtain⟨bb,j,cap,hb,g1,g2,g3,g4,cs,T,g5,g6⟩:=RV.win (hx▸opnd_RV hr x)
     obtain⟨av,bo,e1,e2,e3⟩:=hr.heap bb b g2 g1
     rw[hc] at e1
     cases e1
     rw[g5] at e2
     cases e2
     obtain⟨cs',T',hbo,e4⟩:=e3
     cases hbo
     have hcs:cs.toList=(xs:List Int).map (Value.int .u8):=bytes_cells e4
     have hcl:cs.size=List.length (α:=Int) xs:=by rw[←Array.length_toList,hcs,List.length_map]
     have hlen:y.1+y.2≤List.length (α:=Int) xs:=by rw[←hcl];simpa [Ty.size] using g6
     have hsl:(shown (xs:List Int) y).length=y.2:=by simp[shown];omega
     refine OpOk.pure hr hd' (v:=.string ⟨⟨bytesOf (shown (xs:List Int) y)⟩⟩) (RV.scalar (av:=.str _) rfl rfl rfl) (exec_v (m:=convert t u (a.eval x)) (by unfold execOp;rw[ho]) ?_)
     rw[hb,run_convert_bytes_string w t u e _ _ _ hu1 he hu2]
     have hl:(loadCells ⟨bb,j,none⟩ y.2).run C.P w=.ok ((shown (xs:List Int) y).map (Value.int .u8)).toArray w:=by
      have:=run_loadCells_list (P:=C.P) w ⟨bb,j,none⟩ ((shown (xs:List Int) y).map (Value.int .u8)) (fun k v hk=>by
       have hlt:k<y.2:=by
        have:=(List.getElem?_eq_some_iff.1 hk).1
        rw[List.length_map,hsl] at this
        exact this
       have hj:j=y.1:=by have:=g4 (by omega);simpa [Ty.size] using this
       subst hj
       rw[add_eq rfl]
       simp only[World.cell?,g5,Option.isSome_none,Bool.false_eq_true,if_false]
       rw[←Array.getElem?_toList,hcs]
       simp only[shown,List.map_take,List.map_drop,List.getElem?_take,List.getElem?_drop,hlt,if_true] at hk
       exact hk)
      simpa [hsl] using this
     rw[run_bytesToString w ⟨bb,j,none⟩ y.2 cap _ hl,foldl_push_bytes]
     simp[ByteArray.empty,ByteArray.emptyWithCapacity,bytesOf]
     rfl
    ·cases h
   ·cases h
  ·cases h
 ·rename_i c ho
  split at h
  ·rename_i hcal
   split at h
   ·rename_i t t' x y hat hargs
    split at h
    ·rename_i el b v hu hx
     split at h
     ·rename_i xs ys i hc hs hi
      split at h
      ·rename_i h1
       cases h
       have hat:c.argTypes=#[t,t']:=by cases h':c.argTypes;simp_all
       have hargs:c.args=#[x,y]:=by cases h':c.args;simp_all
       obtain⟨r,w',hrun,hrel⟩:=copy_ok (P:=C.P) (t':=t') (ty:=o.type) hr hd' hu hi h1 hc (hx▸opnd_RV hr x) hs (opnd_RV hr y)
       exact⟨r,w',K,.inl (by simp[execOp,ho,resolve,hcal,invoke,builtin,hat,hargs,hrun]),hrel⟩
      ·cases h
     ·cases h
    ·cases h
   ·cases h
  ·cases h
 ·cases h
theorem opZ_ok {o:Oper} {s':St} (h:opZ C.P s o=some s') (hr:Rel fr n K s a w) (hd:dstOk n o=true) {next:Act→World→Prop} {Q:Exit→Act→World→Prop}
  (hn:∀K' a' w',Rel fr n K' s' a' w'→next a' w'):o.wp C.P a w next Q:=by
 have hd':=dstOk_spec hd
 unfold opZ at h
 split at h
 ·rename_i t x ho
  split at h
  ·rename_i nn el id _ hu hx
   split at h
   ·rename_i m e xs hc
    split at h
    ·rename_i hcond
     obtain⟨k1,k2,k3,k4,k5⟩:=hcond
     subst k1
     cases h
     obtain⟨b,hb,hkb,hlt⟩:=RV.box (hx▸opnd_RV hr x)
     obtain⟨av,bo,e1,e2,e3⟩:=hr.heap b id hlt hkb
     rw[hc] at e1
     cases e1
     obtain⟨cs,T,rfl,e4⟩:=e3
     obtain⟨hxl,hrl⟩:=e4
     have hll:=RL.length (RT.length e) _ _ hrl
     have hcl:=@Array.length_toList _ cs
     have hrun:(execOp a.eval o).run C.P w=.ok (.value (.slice (some ⟨b,0,none⟩) m m)) w:=by
      refine exec_v (m:=Instr.sliceAt t (a.eval x) none none none) (by unfold execOp;rw[ho];rfl) ?_
      have hs:=run_sizeOf k3 w
      have hne:¬m=0:=by omega
      rw[hb]
      simp[Instr.sliceAt,Instr.sureAddr,Instr.sliceBounds,run_underlying hu,hs,Addr.add]
     have hput:=hr.putObj (w':=w) (d:=none) (fun _ e=>(by cases e)) hlt hkb rfl rfl rfl rfl (fun _ _=>rfl) e2 rfl e2 (fun _ h=>h) (c:=⟨.rowc e,xs⟩) ⟨cs,T,rfl,hrl⟩ undef
     have hset:=hput.setO (d:=o.dst) (av:=⟨.win id e,(0,m)⟩) (v:=.slice (some ⟨b,0,none⟩) m m) hd' (R1.toRV (a:=⟨.win id e,(0,m)⟩) ⟨⟨b,0,m,rfl,hkb,hlt,Nat.le_refl _,fun _=>(Nat.zero_mul _).symm,cs,T,e2,by show(0+m)*e.size≤_;rw[Nat.zero_add,←hcl,hll,hxl];exact Nat.le_refl _⟩,(fun e=>(by cases e)),(fun _ c e=>(by cases e))⟩)
     unfold Oper.wp
     rw[hrun,Oper.upon_value]
     refine hn K _ w ?_
     cases hdo:o.dst<;>rw[hdo] at hset<;>exact hset
    ·cases h
   ·cases h
  ·cases h
 ·cases h
theorem panOf_RV {av:AV} {u v:Value} (h:panOf av=some u) (hr:RV w K av v):False:=by
 obtain⟨s,x⟩:=av
 cases s with
 |tup s =>
  cases s with
  |lit u'=>obtain⟨vs,_,h'⟩:=hr;exact h'
  |_=>simp only[panOf] at h;cases h
 |_=>simp only[panOf] at h;cases h
theorem upon_panics {no:Lim} {o:Oper} {v:Value} (h:panics s o=some (some v)) (hr:Rel fr n K s a w) {next:Act→World→Prop} {Q:Exit→Act→World→Prop} (hp:Q (.panic [⟨v,false,false⟩]) a w):o.wp C.P a w next Q:=by
 unfold panics at h
 split at h
 ·rename_i x ho
  split at h
  ·rename_i u _ hu
   split at h
   ·rename_i hi
    obtain rfl:u=v:=by injection h with h;injection h
    have hv:=opnd_RV hr x
    rw[hu] at hv
    have:=RV.lit hv
    unfold Oper.wp
    rw[show execOp a.eval o=(Instr.panic (a.eval x) >>= fun x=>pure (.value x)) by unfold execOp;rw[ho],this]
    cases u<;>first|exact hp |cases hi
   ·cases h
  ·cases h
 ·cases h
theorem stepY_ok (hC:CtxOk C) {call:CallIn} (hcall:CallsOk C.P call) {no:Lim} {id:Nat} {o:Oper} {Kc:St→Option R} {Kp:Value→St→Option R} {r:R} (h:stepY C call n no id o s Kc Kp=some r) (hr:Rel fr n K s a w) {next:Act→World→Prop} {Q:Exit→Act→World→Prop}
  (hn:∀s' K' a' w',Rel fr n K' s' a' w'→Kc s'=some r→next a' w') (hp:∀u s' K' a' w',Rel fr n K' s' a' w'→Kp u s'=some r→Q (.panic [⟨u,false,false⟩]) a' w'):o.wp C.P a w next Q:=by
 unfold stepY at h
 cases hd:dstOk n o
 ·rw[hd] at h;cases h
 ·rw[hd] at h
  simp only[cond_true] at h
  split at h
  ·rename_i v hv
   exact upon_panics (no:=no) hv hr (hp v s K a w hr h)
  ·cases h
  ·split at h
   ·rename_i g args hw
    unfold walked at hw
    split at hw
    ·rename_i cl ho
     split at hw
     ·rename_i g' args' hcal
      split at hw
      ·cases hw
      ·cases hw
       have hne:∃fn,C.P.funcs[g]?=some fn∧fn.body.isSome=true:=by
        unfold inCall at h
        simp only at h
        split at h
        ·exact(hcall g).2 _ _ _ _ _ h
        ·cases h
       obtain⟨fn,hfn,hb⟩:=hne
       obtain⟨vs,hrun,hvs⟩:=callee_ok hC hr ho hcal hfn hb
       unfold Oper.wp
       rw[hrun,Oper.upon_enter]
       refine inCall_ok (hcall g).1 h hr hvs _ (fun av v s' K' w' hrel hrv hkc=>?_) (fun u s' K' w' hrel hkc=>?_)
       ·split at hkc
        ·rename_i u hu
         exact(panOf_RV hu hrv).elim
        ·exact hn _ K' _ _ (hrel.setO (dstOk_spec hd) hrv) hkc
       ·exact hp u s' K' _ w' hrel hkc
     ·cases hw
    ·cases hw
   ·split at h
    ·rename_i s' hz
     exact opZ_ok hz hr hd (fun K' a' w' hrel=>hn _ K' a' w' hrel h)
    ·split at h
     ·rename_i c e he
      cases c
      ·cases h
      ·exact opY_ok he hr hd (fun K' a' w' hrel=>hn _ K' a' w' hrel h)
     ·split at h
      ·rename_i c e he
       cases c
       ·cases h
       ·exact effOf_ok hC he rfl hr hd (fun K' a' w' hrel=>hn _ K' a' w' hrel h)
      ·cases h
theorem look_set_same {d:Nat} {av:AV}:∀l:List (Nat×AV),look d l=some av→put d av l=l
 |[],h=>by cases h
 |(j,u)::l,h=>by
  simp only[look] at h
  simp only[put]
  split at h
  ·rename_i e
   cases h
   rw[if_pos e]
   simp only[beq_iff_eq] at e
   rw[e]
  ·rename_i e
   split at h
   ·cases h
   ·rename_i e'
    rw[if_neg e,if_neg e',look_set_same l h]
theorem set_same {d:Nat} {b c:Bool} (h:s.get d=⟨.ty .bool,b⟩) (e:b=c):s.set d (.bool c)=s:=by
 subst e
 have:look d s.ents=some (.bool b):=by
  unfold St.get at h
  cases hl:look d s.ents with
  |none=>rw[hl] at h;cases h
  |some av=>rw[hl] at h;exact congrArg some h
 unfold St.set
 rw[look_set_same _ this]
theorem wanted_of {ops:Array Oper} {o:Oper} {j:Nat} {want:Bool} {d:Nat} {b:Bool} (hr:Rel fr n K s a w) (hg:o.guard=some (j,want)) (hs:guardSlot ops j=some d) (hb:s.get d=⟨.ty .bool,b⟩) :
  Region.wanted o (yielded ops a.tmps)=(b==want):=by
 have hv:=RV.bool (hb▸hr.get d)
 have hlt:d<a.tmps.size:=by
  rcases Nat.lt_or_ge d a.tmps.size with h |h
  ·exact h
  ·rw[Array.getD_eq_getD_getElem?,Array.getElem?_eq_none h] at hv
   cases hv
 have hy:yielded ops a.tmps j=some b:=by
  unfold guardSlot at hs
  unfold yielded
  rw[hs]
  simp only[Option.bind_some]
  rw[Array.getD_eq_getD_getElem?,Array.getElem?_eq_getElem hlt] at hv
  simp only[Option.getD_some] at hv
  rw[Array.getElem?_eq_getElem hlt,hv]
 simp only[Region.wanted,hg,hy]
 cases b<;>cases want<;>rfl
theorem RV_undef {w:World} {K:Kinds}:RV w K .undef undef:=⟨#[],rfl,rfl⟩
theorem wanted_undef {ops:Array Oper} {o:Oper} {j:Nat} {want:Bool} {d:Nat} {x:Unit} (hr:Rel fr n K s a w) (hg:o.guard=some (j,want)) (hs:guardSlot ops j=some d) (hb:s.get d=⟨.tup (.ty .unit),x⟩) :
  Region.wanted o (yielded ops a.tmps)=false:=by
 have hv:=hr.get d
 rw[hb] at hv
 obtain⟨vs,e,_⟩:=hv
 have hy:yielded ops a.tmps j=none:=by
  unfold guardSlot at hs
  unfold yielded
  rw[hs]
  simp only[Option.bind_some]
  rw[Array.getD_eq_getD_getElem?] at e
  cases h:a.tmps[d]? with
  |none=>rfl
  |some v =>
   rw[h] at e
   simp only[Option.getD_some] at e
   rw[e]
 simp[Region.wanted,hg,hy]
theorem runOps_ok (hC:CtxOk C) {call:CallIn} (hcall:CallsOk C.P call) {no:Lim} {ops:Array Oper} {Q:Exit→Act→World→Prop}:∀(l:List Oper) (k id:Nat) (s:St) (K:Kinds) (a:Act) (w:World) (Kc:St→Option R) (r:R),(∀j,l[j]?=ops[k+j]?) →
  runOps C call n no ops l id s Kc=some r→Rel fr n K s a w→(∀s' K' a' w',Rel fr n K' s' a' w'→Kc s'=some r→Q .normal a' w')→wpOps C.P ops Q (List.range' k l.length) a w
 |[],k,id,s,K,a,w,Kc,r,_,h,hr,hq=>by
  simp only[List.length_nil,List.range'_zero,wpOps]
  exact hq s K a w hr h
 |o::l,k,id,s,K,a,w,Kc,r,hl,h,hr,hq=>by
  have h0:ops[k]?=some o:=by simpa using(hl 0).symm
  have hrest:∀j,l[j]?=ops[k+1+j]?:=fun j=>by
   have:=hl (j+1)
   rw[show k+1+j=k+(j+1) by omega]
   simpa using this
  simp only[List.length_cons,List.range'_succ,wpOps,h0]
  have go:∀s',stepOp C call n no id o s' (fun s=>runOps C call n no ops l (id+16) s Kc)=some r→Rel fr n K s' a w→o.wp C.P a w (wpOps C.P ops Q (List.range' (k+1) l.length)) Q:=fun s' hs hr' =>
   stepOp_ok hC hcall hs hr' (fun s'' K' a' w' hrel hkc=>runOps_ok hC hcall l (k+1) (id+16) s'' K' a' w' Kc r hrest hkc hrel hq)
  have sk:∀s',(bif dstOk n o then runOps C call n no ops l (id+16) (s'.setO o.dst .undef) Kc else none)=some r→Rel fr n K s' a w→wpOps C.P ops Q (List.range' (k+1) l.length) (a.put o.dst undef) w:=fun s' hs hr'=>by
   cases hd:dstOk n o
   ·rw[hd] at hs;cases hs
   ·rw[hd] at hs
    exact runOps_ok hC hcall l (k+1) (id+16) _ K _ w Kc r hrest hs (hr'.setO (dstOk_spec hd) RV_undef) hq
  unfold runOps at h
  split at h
  ·rename_i hg
   have hw:Region.wanted o (yielded ops a.tmps)=true:=by simp[Region.wanted,hg]
   rw[if_pos hw]
   exact .inl (go s h hr)
  ·rename_i j want hg
   split at h
   ·rename_i d hs
    split at h
    ·rename_i b hb
     have hw:=wanted_of hr hg hs hb
     cases b
     ·simp only[cond_false] at h
      rw[set_same hb rfl] at h
      cases want
      ·rw[hw]
       exact .inl (go s h hr)
      ·rw[hw]
       exact sk s h hr
     ·simp only[cond_true] at h
      rw[set_same hb rfl] at h
      cases want
      ·rw[hw]
       exact sk s h hr
      ·rw[hw]
       exact .inl (go s h hr)
    ·rename_i x hb
     have hw:=wanted_undef hr hg hs hb
     rw[hw]
     exact sk s h hr
    ·cases h
   ·cases h
theorem runY_ok (hC:CtxOk C) {call:CallIn} (hcall:CallsOk C.P call) {no:Lim} {ops:Array Oper} {Q:Exit→Act→World→Prop}:∀(l:List Oper) (k id:Nat) (s:St) (K:Kinds) (a:Act) (w:World) (Kc:St→Option R) (Kp:Value→St→Option R) (r:R),(∀j,l[j]?=ops[k+j]?) →
  runY C call n no ops l id s Kc Kp=some r→Rel fr n K s a w→(∀s' K' a' w',Rel fr n K' s' a' w'→Kc s'=some r→Q .normal a' w')→(∀u s' K' a' w',Rel fr n K' s' a' w'→Kp u s'=some r→Q (.panic [⟨u,false,false⟩]) a' w')→wpOps C.P ops Q (List.range' k l.length) a w
 |[],k,id,s,K,a,w,Kc,Kp,r,_,h,hr,hq,hp=>by
  simp only[List.length_nil,List.range'_zero,wpOps]
  exact hq s K a w hr h
 |o::l,k,id,s,K,a,w,Kc,Kp,r,hl,h,hr,hq,hp=>by
  have h0:ops[k]?=some o:=by simpa using(hl 0).symm
  have hrest:∀j,l[j]?=ops[k+1+j]?:=fun j=>by
   have:=hl (j+1)
   rw[show k+1+j=k+(j+1) by omega]
   simpa using this
  simp only[List.length_cons,List.range'_succ,wpOps,h0]
  have go:∀s',stepY C call n no id o s' (fun s=>runY C call n no ops l (id+16) s Kc Kp) Kp=some r→Rel fr n K s' a w→o.wp C.P a w (wpOps C.P ops Q (List.range' (k+1) l.length)) Q:=fun s' hs hr' =>
   stepY_ok hC hcall hs hr' (fun s'' K' a' w' hrel hkc=>runY_ok hC hcall l (k+1) (id+16) s'' K' a' w' Kc Kp r hrest hkc hrel hq hp) hp
  have sk:∀s',(bif dstOk n o then runY C call n no ops l (id+16) (s'.setO o.dst .undef) Kc Kp else none)=some r→Rel fr n K s' a w→wpOps C.P ops Q (List.range' (k+1) l.length) (a.put o.dst undef) w:=fun s' hs hr'=>by
   cases hd:dstOk n o
   ·rw[hd] at hs;cases hs
   ·rw[hd] at hs
    exact runY_ok hC hcall l (k+1) (id+16) _ K _ w Kc Kp r hrest hs (hr'.setO (dstOk_spec hd) RV_undef) hq hp
  unfold runY at h
  split at h
  ·rename_i hg
   have hw:Region.wanted o (yielded ops a.tmps)=true:=by simp[Region.wanted,hg]
   rw[if_pos hw]
   exact .inl (go s h hr)
  ·rename_i j want hg
   split at h
   ·rename_i d hs
    split at h
    ·rename_i b hb
     have hw:=wanted_of hr hg hs hb
     cases b
     ·simp only[cond_false] at h
      rw[set_same hb rfl] at h
      cases want
      ·rw[hw]
       exact .inl (go s h hr)
      ·rw[hw]
       exact sk s h hr
     ·simp only[cond_true] at h
      rw[set_same hb rfl] at h
      cases want
      ·rw[hw]
       exact sk s h hr
      ·rw[hw]
       exact .inl (go s h hr)
    ·rename_i x hb
     have hw:=wanted_undef hr hg hs hb
     rw[hw]
     exact sk s h hr
    ·cases h
   ·cases h
end
end Go.Av
end
