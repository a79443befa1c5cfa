/- Texts of the proof, one behind the other. -/
import Derived.Test.YtealbjacocgjcaaGreatRailGK21
import Derived.Recover
section
namespace Go.Av
open Go
def deferOf:Code→Option (FuncId×List Operand×Nat)
 | .region _ ops false=>(match ops.toList with
  |[o1,o2]=>(match o1.op,o1.dst,o2.op with
   | .makeFunc (.func g) first caps,some t,.defer c=>(match c.callee with
    | .value (.tmp t')=>bif o1.guard.isNone&&(o2.guard.isNone&&(o2.dst.isNone&&(first.isEmpty&&(c.args.isEmpty&&Nat.beq t t')))) then some (g,caps.toList,t) else none
    |_=>none)
   |_,_,_=>none)
  |_=>none)
 |_=>none
def isBoxAV:AV→Bool
 |⟨.box _ _,_⟩=>true
 |_=>false
def evDf (C:Ctx) (call:CallIn) (drawn:(FuncId→Bool)→Array Oper→Bool) (fid n unroll g:Nat) (Kd:St→List AV→Code→Option R):Code→St→Kont→Option R
 | .seq a b,s,K=>match deferOf a with
  |some (g',caps,t)=>bif Nat.beq g g'&&(Nat.blt t n&&caps.all fun x=>isBoxAV (opnd s x)) then Kd (s.set t .top) (caps.map (opnd s)) b else none
  |none=>ev C call drawn (fun _=>true) fid n unroll a s fun e s'=>match e with
   | .normal=>evDf C call drawn fid n unroll g Kd b s' K
   |e=>K e s'
 |_,_,_=>none
def trapOf (T:Nat) (ch:List PanicEntry):Option Int :=
 match panVal ch with
 |some (.iface t (.agg cs))=>bif Nat.beq t T then(match cs.toList with
  |[.int .i64 m]=>some m
  |_=>none) else none
 |_=>none
def resK (C:Ctx) (fn:Func) (s:St) (K:AV→Heap→Nat→Option R):Option R :=
 match resAV C.P s fn.results.toList with
 |some v=>K v s.heap s.next
 |none=>none
def onlyBox (a:AV):AV:=if isBoxAV a then a else .top
def evRest (C:Ctx) (call:CallIn) (drawn:(FuncId→Bool)→Array Oper→Bool) (unroll g T f:Nat) (fn gn:Func) (rest:Code) (K:AV→Heap→Nat→Option R):St→List AV→Code→Option R:=fun s caps b=>bif !Nat.beq caps.length 3 then none else
 ev C call drawn (fun _=>true) f fn.ntmps unroll b s fun e s'=>match e with
  | .ret | .normal=>resK C fn s' K
  | .panic ch=>(match trapOf T ch with
   |some m=>bif (look s'.next s'.heap).isNone then
     ev C call drawn (fun _=>true) g gn.ntmps unroll rest {ents:=enum 0 (caps++[.box s'.next 0,.bool true]),heap:=put s'.next ⟨.ty (.pair (.int .i64) .unit),(m,())⟩ s'.heap,next:=s'.next+16} fun e2 s2=>match e2 with
      | .ret | .normal=>resK C fn {ents:=mapV onlyBox s'.ents,heap:=s2.heap,next:=s2.next} K
      |_=>none
    else none
   |none=>none)
  |_=>none
def evStep (C:Ctx) (drawn:(FuncId→Bool)→Array Oper→Bool) (unroll d f g T:Nat):Body:=fun args h nx K =>
 match C.P.funcs[f]?,C.P.funcs[g]? with
 |some fn,some gn=>(match fn.body,gn.body with
  |some c,some (.seq (.region _ _ _) rest) =>
   if args.length≤fn.ntmps then
    evDf C (evF C drawn unroll d) drawn f fn.ntmps unroll g (evRest C (evF C drawn unroll d) drawn unroll g T f fn gn rest K) c {ents:=enum 0 args,heap:=h,next:=nx} fun e s=>match e with
     | .ret | .normal=>resK C fn s K
     |_=>none
   else none
  |_,_=>none)
 |_,_=>none
structure Catches (P:Program) (g T:Nat) (gn:Func) (rest:Code):Prop where
 enter:∀cap w,(invoke (.fn (.func g) cap) #[]).run P w=.ok (.enter g cap) w
 idle:∀p0 p1 p2 w,CallsD P g #[p0,p1,p2] .returning w fun e u' w'=>(∃v,e=.returned v)∧u'=.returning∧w'=w.alloc (.cells #[.int .i64 0] T)
 caught:∀p0 p1 p2 m w (Rr:World→Prop),
  (∀tm:Array Value,tm.size=gn.ntmps→tm[0]?=some p0→tm[1]?=some p1→tm[2]?=some p2→tm[3]?=some (.pointer (some ⟨w.heap.size,0,none⟩))→tm[4]?=some (.bool true) →
   rest.wp P (fun e a w'=>(e=.normal∨e=.ret)∧a.defers=[]∧Rr w') {tmps:=tm,defers:=[]} (w.alloc (.cells #[.int .i64 m] T))) →
  CallsD P g #[p0,p1,p2] (.panicking [⟨.iface T (.agg #[.int .i64 m]),false,false⟩]) w fun e u' w'=>(∃v,e=.returned v)∧settle u'=.returning∧Rr w'
section
variable {C:Ctx} {drawn:(FuncId→Bool)→Array Oper→Bool}
theorem still_alloc (w:World) (K:Kinds) (o:Obj) (ho:Obj.thaw o=true):Still w K (w.alloc o) (setK K w.heap.size .old) where
 ext:=Ext.allocO w K o ho _
 rows:=fun b id u hb hk=>⟨by rw[setK_other K _ (by omega)];exact hk,heap_alloc_old _ _ b hb⟩
 boxes:=fun b id hb _=>heap_alloc_old _ _ b hb
 fresh:=fun b hb id hk=>by
  rw[alloc_size] at hb
  by_cases h:b=w.heap.size
  ·subst h
   rw[setK_same] at hk
   cases hk
  ·rw[setK_other K _ h] at hk
   exact⟨by omega,hk⟩
theorem deferOf_wp {P:Program} {c:Code} {g:FuncId} {caps:List Operand} {t:Nat} (h:deferOf c=some (g,caps,t)) {a:Act} {w:World} {Q:Exit→Act→World→Prop} (ht:t<a.tmps.size)
  (hq:Q .normal {a.put (some t) (.func (.func g) #[] (caps.map a.eval).toArray) with defers:={target:=.fn (.func g) (caps.map a.eval).toArray,args:=#[]}::a.defers} w):c.wp P Q a w:=by
 unfold deferOf at h
 split at h
 case h_2=>cases h
 rename_i id ops
 split at h
 case h_2=>cases h
 rename_i o1 o2 hops
 split at h
 case h_2=>cases h
 rename_i g' first caps' t' c' e1 e2 e3
 split at h
 case h_2=>cases h
 rename_i t'' e4
 cases hc:(o1.guard.isNone&&(o2.guard.isNone&&(o2.dst.isNone&&(first.isEmpty&&(c'.args.isEmpty&&Nat.beq t' t''))))) with
 |false=>rw[hc] at h;cases h
 |true =>
  rw[hc] at h
  simp only[cond_true,Option.some.injEq,Prod.mk.injEq] at h
  obtain⟨rfl,rfl,rfl⟩:=h
  simp only[Bool.and_eq_true,Option.isNone_iff_eq_none] at hc
  obtain⟨g1,g2,d2,hf,hargs,htt⟩:=hc
  have htt:=Nat.eq_of_beq_eq_true htt
  subst htt
  have hops':ops=#[o1,o2]:=by rw[←hops]
  subst hops'
  have hfirst:first=#[]:=by simpa using hf
  have hargs':c'.args=#[]:=by simpa using hargs
  subst hfirst
  refine wp_region ?_
  show wpOps P #[o1,o2] Q [0,1] a w
  rw[wpOps_cons]
  unfold wpOp
  simp only[List.getElem?_toArray,List.getElem?_cons_zero]
  rw[if_pos (by simp[Region.wanted,g1])]
  refine .inl ?_
  have r1:(execOp a.eval o1).run P w=.ok (.value (.func (.func g') #[] (caps'.toList.map a.eval).toArray)) w:=by
   unfold execOp
   rw[e1]
   simp only[Instr.makeFunc]
   rw[show caps'.map a.eval=(caps'.toList.map a.eval).toArray from Array.ext' (by simp)]
   simp
  unfold Oper.wp
  rw[r1]
  simp only[Oper.upon,e2]
  rw[wpOps_cons]
  unfold wpOp
  simp only[List.getElem?_toArray,List.getElem?_cons_succ,List.getElem?_cons_zero]
  rw[if_pos (by simp[Region.wanted,g2])]
  refine .inl ?_
  have r2:(execOp (a.put (some t') (.func (.func g') #[] (caps'.toList.map a.eval).toArray)).eval o2).run P w=.ok (.defer {target:=.fn (.func g') (caps'.toList.map a.eval).toArray,args:=#[]}) w:=by
   unfold execOp
   rw[e3]
   simp only[resolve,e4,hargs']
   have:(a.put (some t') (.func (.func g') #[] (caps'.toList.map a.eval).toArray)).eval (.tmp t')=.func (.func g') #[] (caps'.toList.map a.eval).toArray:=by
    simp[Act.eval,Act.put,Array.getD_eq_getD_getElem?,ht]
   rw[this]
   simp[Deferred.ofValue]
  unfold Oper.wp
  rw[r2]
  simp only[Oper.upon,d2,wpOps,Act.put]
  exact hq
theorem evDf_ok (hC:FullOk C drawn) {call:CallIn} (hcall:CallsOk C.P call) {fr:Fr} {n f unroll g:Nat} {r:R} {Kd:St→List AV→Code→Option R} {Q:Exit→Act→World→Prop} (hfr:fr.T=fun _=>true)
  (hd:∀s K a w caps capv b,Rel fr n K s {a with defers:=fr.ds} w→a.defers={target:=.fn (.func g) capv.toArray,args:=#[]}::fr.ds→caps.all isBoxAV=true→RVs w K caps capv→Kd s caps b=some r→LoopsOk C f n b→b.wp C.P Q a w) :
  ∀(c:Code) (s:St) (Kc:Kont) (K:Kinds) (a:Act) (w:World),LoopsOk C f n c→evDf C call drawn f n unroll g Kd c s Kc=some r→Rel fr n K s a w →
   (∀e s' K' a' w',Rel fr n K' s' a' w'→Kc e s'=some r→Q e a' w')→c.wp C.P Q a w:=by
 intro c
 induction c with
 |seq x y ihx ihy =>
  intro s Kc K a w hl h hr hq
  simp only[evDf] at h
  split at h
  ·rename_i g' caps t hdf
   cases hc:(Nat.beq g g'&&(Nat.blt t n&&caps.all fun x=>isBoxAV (opnd s x))) with
   |false=>rw[hc] at h;cases h
   |true =>
    rw[hc] at h
    simp only[cond_true] at h
    simp only[Bool.and_eq_true] at hc
    obtain⟨hg,ht,hbx⟩:=hc
    have hg:=Nat.eq_of_beq_eq_true hg
    subst hg
    have ht:t<n:=by simpa [Nat.blt_eq] using ht
    refine wp_seq (deferOf_wp hdf (by have:=hr.size;omega) ?_)
    refine hd _ K _ w _ (caps.map a.eval) y ?_ (by rw[←hr.defers]) (by rw[List.all_map];exact hbx) (args_ok hr caps) h hl.2.2
    have h1:=hr.setO (d:=some t) (v:=.func (.func g) #[] (caps.map a.eval).toArray) (av:=.top) (fun t' e=>by cases e;exact ht) trivial
    exact⟨h1.ext,h1.size,rfl,h1.ents,h1.frame,h1.heap,h1.uniq⟩
  ·refine wp_seq (ev_ok hC hcall (fr:=fr) x s _ K a w _ hl.2.1 (by rw[hfr];exact h) hr (fun e s' K' a' w' hrel hkc=>?_))
   cases e with
   |normal=>exact ihy s' Kc K' a' w' hl.2.2 hkc hrel hq
   |_=>exact hq _ _ _ _ _ hrel hkc
 |_=>intro s Kc K a w _ h;cases h
theorem trapOf_eq {T:Nat} {ch:List PanicEntry} {m:Int} (h:trapOf T ch=some m):ch=[⟨.iface T (.agg #[.int .i64 m]),false,false⟩]:=by
 unfold trapOf at h
 split at h
 ·rename_i t cs hv
  cases ht:Nat.beq t T with
  |false=>rw[ht] at h;cases h
  |true =>
   rw[ht] at h
   simp only[cond_true] at h
   have ht:=Nat.eq_of_beq_eq_true ht
   subst ht
   split at h
   ·rename_i m' hm
    cases h
    rw[panVal_eq hv]
    have:cs=#[.int .i64 m]:=by rw[←hm]
    rw[this]
   ·cases h
 ·cases h
theorem RVs.boxes {w w':World} {K K':Kinds} (g:Ext w K w' K'):∀{caps:List AV} {vs:List Value},caps.all isBoxAV=true→RVs w K caps vs→RVs w' K' caps vs
 |[],[],_,_=>trivial
 |c::caps,v::vs,hb,h=>by
  simp only[List.all_cons,Bool.and_eq_true] at hb
  refine⟨?_,RVs.boxes g hb.2 h.2⟩
  have h1:=h.1
  obtain⟨sh,x⟩:=c
  cases sh with
  |box id off =>
   obtain⟨b,e,hk,hlt⟩:=RV.box h1
   subst e
   exact R1.toRV (a:=.box id off) ⟨⟨b,rfl,g.box b id hlt hk,Nat.lt_of_lt_of_le hlt g.size⟩,(fun e=>(by cases e)),(fun _ c e=>(by cases e))⟩
  |_=>exact absurd hb.1 (by simp[isBoxAV])
 |[],_::_,_,h=>h.elim
 |_::_,[],_,h=>h.elim
theorem resK_ok {fr:Fr} {n:Nat} {K:Kinds} {s:St} {a:Act} {w:World} {fn:Func} {Kc:AV→Heap→Nat→Option R} {r:R} (hr:Rel fr n K s a w) (h:resK C fn s Kc=some r):∃av v,(results fn a.tmps).run C.P w=.ok v w∧RV w K av v∧Kc av s.heap s.next=some r:=by
 unfold resK at h
 split at h
 ·rename_i av hav
  obtain⟨v,h1,h2⟩:=resAV_ok hr hav
  exact⟨av,v,h1,h2,h⟩
 ·cases h
theorem len3 {α:Type} {l:List α} (h:l.length=3):∃x y z,l=[x,y,z]:=by
 match l,h with
 |[x,y,z],_=>exact⟨x,y,z,rfl⟩
theorem evStep_ok (hC:FullOk C drawn) {unroll d f g T:Nat} {gn:Func} {rid:Nat} {rops:Array Oper} {rdr:Bool} {rest:Code} (hg:C.P.funcs[g]?=some gn) (hgb:gn.body=some (.seq (.region rid rops rdr) rest)) (hcat:Catches C.P g T gn rest):BodyOk C.P f (evStep C drawn unroll d f g T):=by
 intro args h nx Kc r he w K vs hv hh Rf hk hp
 unfold evStep at he
 split at he
 case h_2=>cases he
 rename_i fn gn' hfn hgn
 rw[hg] at hgn
 cases hgn
 split at he
 case h_2=>cases he
 rename_i c _ _ _ rest' hfb hgb'
 rw[hgb] at hgb'
 cases hgb'
 split at he
 case isFalse=>cases he
 rename_i hlen
 have ih:=evF_ok hC unroll d
 refine calls_of_wp_defers hfn hfb ?_
 have hsize:(vs.toArray++Array.replicate (fn.ntmps-vs.toArray.size) undef).size=fn.ntmps:=by
  have:=RVs.length hv
  simp
  omega
 have hrel:Rel ⟨w,K,vs.toArray++Array.replicate (fn.ntmps-vs.toArray.size) undef,fun _=>true,[]⟩ fn.ntmps K {ents:=enum 0 args,heap:=h,next:=nx} {tmps:=vs.toArray++Array.replicate (fn.ntmps-vs.toArray.size) undef,defers:=[]} w:={
  ext:=Ext.refl _ _
  size:=hsize
  defers:=rfl
  ents:=fun t av ht=>by
   obtain⟨i,h1,v,h2,h3⟩:=enum_look args vs 0 hv t av ht
   have hi:i<vs.length:=(List.getElem?_eq_some_iff.1 h2).1
   have:(vs.toArray++Array.replicate (fn.ntmps-vs.toArray.size) undef).getD t undef=v:=by
    rw[Array.getD_eq_getD_getElem?,h1,Nat.zero_add,Array.getElem?_append_left (by simpa using hi)]
    simp[h2]
   rw[this]
   exact h3
  frame:=fun _ _ hT=>by cases hT
  heap:=hh.cells
  uniq:=hh.uniq}
 refine evDf_ok hC ih (fr:=⟨w,K,vs.toArray++Array.replicate (fn.ntmps-vs.toArray.size) undef,fun _=>true,[]⟩) rfl (fun s1 K1 a1 w1 caps capv b hr1 hdf hbx hcv hkd hlb=>?_) c _ _ K _ w (hC.loops f fn c hfn hfb) he hrel (fun e s' K' a' w' hrel' hkc=>?_)
 ·
  have hr2:Rel ⟨w1,K1,a1.tmps,fun _=>true,a1.defers⟩ fn.ntmps K1 s1 a1 w1:=⟨Ext.refl _ _,hr1.size,rfl,hr1.ents,(fun _ _ hT=>by cases hT),hr1.heap,hr1.uniq⟩
  unfold evRest at hkd
  cases h3:Nat.beq caps.length 3 with
  |false=>rw[h3] at hkd;cases hkd
  |true =>
  rw[h3] at hkd
  simp only[Bool.not_true,cond_false] at hkd
  have h3:=Nat.eq_of_beq_eq_true h3
  rw[RVs.length hcv] at h3
  obtain⟨p0,p1,p2,rfl⟩:=len3 h3
  refine ev_ok hC ih (fr:=⟨w1,K1,a1.tmps,fun _=>true,a1.defers⟩) b _ _ K1 a1 w1 _ hlb hkd hr2 (fun e s' K' a' w' hrel' hkc=>?_)
  have hdf':a'.defers=[{target:=.fn (.func g) #[p0,p1,p2],args:=#[]}]:=by rw[hrel'.defers];exact hdf
  have hcv':=RVs.boxes hrel'.ext hbx hcv
  have hret:(e=.ret∨e=.normal)→resK C fn s' Kc=some r→bodyPostD C.P fn Rf e a' w':=by
   intro he hres
   have hst:=hrel'.still (still_alloc w' K' (.cells #[.int .i64 0] T) rfl)
   obtain⟨av,v,h1,h2,h3⟩:=resK_ok hst hres
   have hR:=hk av v _ _ _ _ (hr1.ext.trans hst.ext) h2 hst.heapOk h3
   have:Leaves C.P fn a'.tmps Rf a'.defers .returning w':=by
    rw[hdf']
    refine leaves_cons (by simp) (hcat.enter _ _) ?_
    refine(hcat.idle p0 p1 p2 w').mono ?_
    rintro e u' w'' ⟨⟨v',rfl⟩,rfl,rfl⟩
    exact⟨v,h1,hR⟩
   rcases he with rfl |rfl
   ·exact this
   ·exact this
  cases e with
  |ret=>exact hret (.inl rfl) hkc
  |normal=>exact hret (.inr rfl) hkc
  |panic ch =>
   simp only at hkc
   split at hkc
   case h_2=>cases hkc
   rename_i m hm
   rw[trapOf_eq hm]
   cases hid:(look s'.next s'.heap).isNone with
   |false=>rw[hid] at hkc;cases hkc
   |true =>
   rw[hid] at hkc
   simp only[cond_true] at hkc
   have hid:look s'.next s'.heap=none:=by simpa using hid
   show Leaves C.P fn a'.tmps Rf a'.defers (.panicking [⟨.iface T (.agg #[.int .i64 m]),false,false⟩]) w'
   rw[hdf']
   refine leaves_cons (by simp) (hcat.enter _ _) ?_
   refine(hcat.caught p0 p1 p2 m w' (fun w''=>∃v,(results fn a'.tmps).run C.P w''=.ok v w''∧Rf (.returned v) w'') (fun tm hsz t0 t1 t2 t3 t4=>?_)).mono ?_
   ·have hnb:=Rel.newBox hrel' (d:=none) (fun _ e=>by cases e) hid (c:=⟨.ty (.pair (.int .i64) .unit),(m,())⟩) (cs:=#[.int .i64 m]) T ⟨#[.int .i64 m],T,rfl,[.int .i64 m],[],rfl,rfl,rfl⟩
    have hcv2:=RVs.boxes (hnb.ext) hbx hcv
    have hv3:RV (w'.alloc (.cells #[.int .i64 m] T)) (setK K' w'.heap.size (.box s'.next)) (.box s'.next 0) (.pointer (some ⟨w'.heap.size,0,none⟩)) :=
     R1.toRV (a:=.box s'.next 0) ⟨⟨w'.heap.size,rfl,setK_same _ _ _,by rw[alloc_size];omega⟩,(fun e=>(by cases e)),(fun _ c e=>(by cases e))⟩
    have hall:RVs (w'.alloc (.cells #[.int .i64 m] T)) (setK K' w'.heap.size (.box s'.next)) (caps++[.box s'.next 0,.bool true]) ([p0,p1,p2]++[.pointer (some ⟨w'.heap.size,0,none⟩),.bool true]) :=
     RVs.append hcv2 ⟨hv3,⟨rfl,(fun e=>(by cases e)),(fun _ _ e=>(by cases e))⟩,trivial⟩
    have hrc:Rel ⟨w'.alloc (.cells #[.int .i64 m] T),setK K' w'.heap.size (.box s'.next),tm,fun _=>true,[]⟩ gn.ntmps (setK K' w'.heap.size (.box s'.next)) {ents:=enum 0 (caps++[.box s'.next 0,.bool true]),heap:=put s'.next ⟨.ty (.pair (.int .i64) .unit),(m,())⟩ s'.heap,next:=s'.next+16} {tmps:=tm,defers:=[]} (w'.alloc (.cells #[.int .i64 m] T)):={
     ext:=Ext.refl _ _
     size:=hsz
     defers:=rfl
     ents:=fun t av ht=>by
      obtain⟨i,h1,v,h2,h3⟩:=enum_look _ _ 0 hall t av ht
      have:tm.getD t undef=v:=by
       rw[Array.getD_eq_getD_getElem?,h1,Nat.zero_add]
       match i,h2 with
       |0,h2=>cases h2;rw[t0];rfl
       |1,h2=>cases h2;rw[t1];rfl
       |2,h2=>cases h2;rw[t2];rfl
       |3,h2=>cases h2;rw[t3];rfl
       |4,h2=>cases h2;rw[t4];rfl
      rw[this]
      exact h3
     frame:=fun _ _ hT=>by cases hT
     heap:=hnb.heap
     uniq:=hnb.uniq}
    refine ev_ok hC ih (fr:=⟨w'.alloc (.cells #[.int .i64 m] T),setK K' w'.heap.size (.box s'.next),tm,fun _=>true,[]⟩) rest _ _ _ _ _ _ (hC.loops g gn _ hg hgb).2.2 hkc hrc (fun e2 s2 K2 a2 w2 hrel2 hkc2=>?_)
    have fin:resK C fn {ents:=mapV onlyBox s'.ents,heap:=s2.heap,next:=s2.next} Kc=some r→a2.defers=[]∧∃v,(results fn a'.tmps).run C.P w2=.ok v w2∧Rf (.returned v) w2:=by
     intro hres
     have hrl:Rel ⟨w1,K1,a1.tmps,fun _=>true,a1.defers⟩ fn.ntmps K2 {ents:=mapV onlyBox s'.ents,heap:=s2.heap,next:=s2.next} a' w2:={
      ext:=hnb.ext.trans hrel2.ext
      size:=hrel'.size
      defers:=hrel'.defers
      ents:=fun t av ht=>by
       rw[look_mapV] at ht
       obtain⟨av',e1,e2⟩:=Option.map_eq_some_iff.1 ht
       subst e2
       unfold onlyBox
       split
       ·rename_i hb
        have h1:=hnb.ents t av' e1
        exact(RVs.boxes hrel2.ext (caps:=[av']) (vs:=[a'.tmps.getD t undef]) (by simp[hb]) ⟨h1,trivial⟩).1
       ·trivial
      frame:=fun _ _ hT=>by cases hT
      heap:=hrel2.heap
      uniq:=hrel2.uniq}
     obtain⟨av,v,h1,h2,h3⟩:=resK_ok hrl hres
     exact⟨hrel2.defers,v,h1,hk av v _ _ _ _ (hr1.ext.trans hrl.ext) h2 hrl.heapOk h3⟩
    cases e2 with
    |ret=>exact⟨.inr rfl,fin hkc2⟩
    |normal=>exact⟨.inl rfl,fin hkc2⟩
    |_=>cases hkc2
   ·rintro e u' w'' ⟨⟨v',rfl⟩,hs,v,h1,h2⟩
    show Leaves _ _ _ _ [] (settle u') w''
    rw[hs]
    exact⟨v,h1,h2⟩
  |_=>cases hkc
 ·have fin:(e=.ret∨e=.normal)→resK C fn s' Kc=some r→bodyPostD C.P fn Rf e a' w':=by
   intro he hres
   obtain⟨av,v,h1,h2,h3⟩:=resK_ok hrel' hres
   have hR:=hk av v _ _ _ _ hrel'.ext h2 hrel'.heapOk h3
   have hd:a'.defers=[]:=hrel'.defers
   have:Leaves C.P fn a'.tmps Rf a'.defers .returning w':=by
    rw[hd]
    exact⟨v,h1,hR⟩
   rcases he with rfl |rfl
   ·exact this
   ·exact this
  cases e with
  |ret=>exact fin (.inl rfl) hkc
  |normal=>exact fin (.inr rfl) hkc
  |_=>cases hkc
end
end Go.Av
end
