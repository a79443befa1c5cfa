/- Texts of the proof, one behind the other. -/
import Derived.Test.YtealbjacocgjcaaGreatWipeClearsK3
import Derived.Recover
import Derived.ReadAgain
import Derived.ChangeStays
import Derived.JoinedCond
import Derived.WalkKit
import Derived.ProofKit
import Derived.OpenShut
section
namespace Go.Av
open Go
def bodyT (ss hs:List Sh) (rs:Sh) (hs':List Sh) (G:shDens ss→shDens hs→Bool) (V:shDens ss→shDens hs→rs.den×shDens hs'):Body:=fun args h _ K =>
 match toAll ss args,(contents 0 h).bind (toAll hs) with
 |some x,some y=>bif G x y then K ⟨rs,(V x y).1⟩ (enum 0 (savs hs' (V x y).2)) 64 else none
 |_,_=>none
def remB (k:Nat) (v:AV) (h:Heap):List Nat:=reach h 4 (addNew (List.range k) (v.sh.boxes.filter (hasBox h)))
def remT (k:Nat) (v:AV) (h:Heap):List Nat:=addNew [] (v.sh.rows++contentRows h (remB k v h))
def finB (k:Nat):AV→Heap→Nat→Option R:=fun v h _=>match panOf v with
 |some _=>none
 |none=>if((remB k v h).all (hasBox h)&&(List.range k).all fun j=>(match indexIn j (remB k v h) 0 with
   |some i=>Nat.beq i j
   |none=>false)) then
    some (v.ren (fun id=>indexIn id (remT k v h) 0) (fun id=>indexIn id (remB k v h) 0),
     localHeap h (fun id=>indexIn id (remT k v h) 0) (fun id=>indexIn id (remB k v h) 0) (remB k v h) 0,64) else none
theorem toAll_RVs {w:World} {K:Kinds}:∀(ts:List Sh) (as:List AV) (x:shDens ts) (vs:List Value),toAll ts as=some x→RVs w K as vs→RVs w K (savs ts x) vs
 |[],[],_,_,_,hv=>hv
 |[t],[a],x,[v],h,hv=>⟨to_RV h hv.1,hv.2⟩
 |[t],[a],x,[],h,hv=>hv.elim
 |[t],[a],x,_::_::_,h,hv=>hv.2.elim
 |t::u::ts,a::l,x,v::vs,h,hv=>by
  simp only[toAll] at h
  split at h
  ·rename_i p q hp hq
   cases h
   exact⟨to_RV hp hv.1,toAll_RVs (u::ts) l q vs hq hv.2⟩
  ·cases h
 |_::_::_,_::_,_,[],_,hv=>hv.elim
 |[],_::_,_,_,h,_=>by cases h
 |[t],[],_,_,h,_=>by cases h
 |[t],_::_::_,_,_,h,_=>by cases h
 |_::_::_,[],_,_,h,_=>by cases h
theorem HeapOk.to {w:World} {K:Kinds} {h:Heap} {hs:List Sh} {y:shDens hs} (hh:HeapOk w K h) (hy:(contents 0 h).bind (toAll hs)=some y):HeapOk w K (enum 0 (savs hs y)):=by
 obtain⟨l,hl,hly⟩:=Option.bind_eq_some_iff.1 hy
 refine⟨fun b id hb hk=>?_,hh.uniq⟩
 obtain⟨av,o,l1,l2,l3⟩:=hh.cells b id hb hk
 obtain⟨i,e1,e2⟩:=contents_look _ _ _ hl id av l1
 obtain⟨c,c1,c2⟩:=toAll_Box hs l y hly i av _ e2 l3
 exact⟨c,o,by rw[e1];exact look_enum _ _ _ _ c1,l2,c2⟩
theorem look_enum_lt:∀(l:List AV) (k id:Nat) (c:AV),look id (enum k l)=some c→id<k+l.length
 |[],_,_,_,h=>by cases h
 |a::l,k,id,c,h=>by
  simp only[enum,look] at h
  split at h
  ·rename_i e
   simp only[beq_iff_eq] at e
   subst e
   simp
  ·split at h
   ·cases h
   ·have:=look_enum_lt l (k+1) id c h
    simp only[List.length_cons]
    omega
theorem far_ext {w w':World} {K K':Kinds} {ts bs:List Nat} (g:Ext w K w' K') (h:∀b id,b<w.heap.size→K b=.box id→indexIn id bs 0=some id):Ext w K w' (farK ts bs K') where
 os:=g.os
 tape:=g.tape
 output:=g.output
 size:=g.size
 fix:=fun b hb hk=>by
  obtain⟨h1,h2⟩:=g.fix b hb hk
  exact⟨(farK_fixed (by rw[h1];exact hk)).trans h1,h2⟩
 stab:=fun b o hb hs=>by
  obtain⟨h1,h2⟩:=g.stab b o hb hs
  exact⟨(stab_farK _ _ _ _ _).2 h1,h2⟩
 box:=fun b id hb hk=>by
  have:=g.box b id hb hk
  unfold farK
  rw[this]
  simp only[h b id hb hk]
 bsz:=g.bsz
theorem body_mk {C:Ctx} (hC:Good C) {f:FuncId} {ss hs:List Sh} {rs:Sh} {hs':List Sh} {G:shDens ss→shDens hs→Bool} {V:shDens ss→shDens hs→rs.den×shDens hs'} (d unroll:Nat)
  (h:∀x y,G x y=true→evF C drawOk unroll d f (savs ss x) (enum 0 (savs hs y)) 64 (finB hs.length)=some (⟨rs,(V x y).1⟩,enum 0 (savs hs' (V x y).2),64)):BodyOk C.P f (bodyT ss hs rs hs' G V):=by
 intro args h0 nx Kc r hrun w K vs hvs hh Rf hk _
 simp only[bodyT] at hrun
 split at hrun
 ·rename_i x y hx hy
  cases hG:G x y with
  |false=>rw[hG] at hrun;cases hrun
  |true =>
   rw[hG] at hrun
   simp only[cond_true] at hrun
   have hho:=hh.to hy
   have hlt:∀b id,b<w.heap.size→K b=.box id→id<hs.length:=fun b id hb hkb=>by
    obtain⟨av,o,l1,_⟩:=hho.cells b id hb hkb
    have:=look_enum_lt _ _ _ _ l1
    rw[savs_length] at this
    omega
   refine(evF_ok hC unroll d f).1 _ _ _ _ _ (h x y hG) w K vs (toAll_RVs ss args x vs hx hvs) hho Rf (fun av u h' nx' w' K' g hrv hho' hkc=>?_) (fun u h' nx' w' K' g hh hkc=>by cases hkc)
   unfold finB at hkc
   split at hkc
   ·cases hkc
   ·split at hkc
    ·rename_i hc
     simp only[Bool.and_eq_true] at hc
     obtain⟨hbs,hid⟩:=hc
     simp only[Option.some.injEq,Prod.mk.injEq] at hkc
     obtain⟨e1,e2,_⟩:=hkc
     generalize remB hs.length av h'=bs at *
     generalize remT hs.length av h'=ts at *
     have hv:RV w' (farK ts bs K') ⟨rs,(V x y).1⟩ u:=by
      rw[←e1]
      exact RV.enter (fun _ _ e=>e) (fun _ _ e=>e) hrv
     have hhe:HeapOk w' (farK ts bs K') (enum 0 (savs hs' (V x y).2)):=by
      rw[←e2]
      exact HeapOk.enter hho' (bs_get hbs)
     refine hk _ u _ _ w' _ (far_ext g (fun b id hb hkb=>?_)) hv hhe hrun
     have:=List.all_eq_true.1 hid id (List.mem_range.2 (hlt b id hb hkb))
     split at this
     ·rename_i i hi
      rw[hi,Nat.eq_of_beq_eq_true this]
     ·cases this
    ·cases hkc
 ·cases hrun
theorem Good.fnB {C:Ctx} (h:Good C) {f:FuncId} {ss hs:List Sh} {hs':List Sh} (rs:Sh) (T:shDens ss→shDens hs→PO (rs.den×shDens hs')) (G:shDens ss→shDens hs→Bool) (V:shDens ss→shDens hs→rs.den×shDens hs') (d unroll:Nat) (hb:hasBody C.P f=true)
  (hw:∀x y,evF C drawOk unroll d f (savs ss x) (enum 0 (savs hs y)) 64 (finB hs.length)=(T x y).run fun v=>some (⟨rs,v.1⟩,enum 0 (savs hs' v.2),64)) (hg:∀x y,G x y=true→(T x y).val=some (V x y)):Good (C.addBody f (bodyT ss hs rs hs' G V)):=by
 refine h.addBody (body_mk h d unroll (fun x y hx=>?_)) hb
 rw[hw,PO.run_val,hg x y hx]
 rfl
end Go.Av
end
section
namespace Go.Av
open Go
def deferOf:Code→Option (FuncId×List Operand×Nat)
 | .region _ ops false=>(match ops.toList with
  |[o1,o2]=>(match o1.op,o1.dst,o2.op with
   | .makeFunc (.func g) first caps,some t,.defer c=>(match c.callee with
    | .value (.tmp t')=>bif o1.guard.isNone&&(o2.guard.isNone&&(o2.dst.isNone&&(first.isEmpty&&(c.args.isEmpty&&Nat.beq t t')))) then some (g,caps.toList,t) else none
    |_=>none)
   |_,_,_=>none)
  |_=>none)
 |_=>none
def isBoxAV:AV→Bool
 |⟨.box _ _,_⟩=>true
 |_=>false
def evDf (C:Ctx) (call:CallIn) (drawn:(FuncId→Bool)→Array Oper→Bool) (fid n unroll g:Nat) (Kd:St→List AV→Code→Option R):Code→St→Kont→Option R
 | .seq a b,s,K=>match deferOf a with
  |some (g',caps,t)=>bif Nat.beq g g'&&(Nat.blt t n&&caps.all fun x=>isBoxAV (opnd s x)) then Kd (s.set t .top) (caps.map (opnd s)) b else none
  |none=>ev C call drawn (fun _=>true) fid n unroll a s fun e s'=>match e with
   | .normal=>evDf C call drawn fid n unroll g Kd b s' K
   |e=>K e s'
 |_,_,_=>none
def trapOf (T:Nat) (ch:List PanicEntry):Option Int :=
 match panVal ch with
 |some (.iface t (.agg cs))=>bif Nat.beq t T then(match cs.toList with
  |[.int .i64 m]=>some m
  |_=>none) else none
 |_=>none
def resK (C:Ctx) (fn:Func) (s:St) (K:AV→Heap→Nat→Option R):Option R :=
 match resAV C.P s fn.results.toList with
 |some v=>K v s.heap s.next
 |none=>none
def onlyBox (a:AV):AV:=if isBoxAV a then a else .top
def evRest (C:Ctx) (call:CallIn) (drawn:(FuncId→Bool)→Array Oper→Bool) (unroll g T f:Nat) (fn gn:Func) (rest:Code) (K:AV→Heap→Nat→Option R):St→List AV→Code→Option R:=fun s caps b=>bif !Nat.beq caps.length 3 then none else
 ev C call drawn (fun _=>true) f fn.ntmps unroll b s fun e s'=>match e with
  | .ret | .normal=>resK C fn s' K
  | .panic ch=>(match trapOf T ch with
   |some m=>bif (look s'.next s'.heap).isNone then
     ev C call drawn (fun _=>true) g gn.ntmps unroll rest {ents:=enum 0 (caps++[.box s'.next 0,.bool true]),heap:=put s'.next ⟨.ty (.pair (.int .i64) .unit),(m,())⟩ s'.heap,next:=s'.next+16} fun e2 s2=>match e2 with
      | .ret | .normal=>resK C fn {ents:=mapV onlyBox s'.ents,heap:=s2.heap,next:=s2.next} K
      |_=>none
    else none
   |none=>none)
  |_=>none
def evStep (C:Ctx) (drawn:(FuncId→Bool)→Array Oper→Bool) (unroll d f g T:Nat):Body:=fun args h nx K =>
 match C.P.funcs[f]?,C.P.funcs[g]? with
 |some fn,some gn=>(match fn.body,gn.body with
  |some c,some (.seq (.region _ _ _) rest) =>
   if args.length≤fn.ntmps then
    evDf C (evF C drawn unroll d) drawn f fn.ntmps unroll g (evRest C (evF C drawn unroll d) drawn unroll g T f fn gn rest K) c {ents:=enum 0 args,heap:=h,next:=nx} fun e s=>match e with
     | .ret | .normal=>resK C fn s K
     |_=>none
   else none
  |_,_=>none)
 |_,_=>none
structure Catches (P:Program) (g T:Nat) (gn:Func) (rest:Code):Prop where
 enter:∀cap w,(invoke (.fn (.func g) cap) #[]).run P w=.ok (.enter g cap) w
 idle:∀p0 p1 p2 w,CallsD P g #[p0,p1,p2] .returning w fun e u' w'=>(∃v,e=.returned v)∧u'=.returning∧w'=w.alloc (.cells #[.int .i64 0] T)
 caught:∀p0 p1 p2 m w (Rr:World→Prop),
  (∀tm:Array Value,tm.size=gn.ntmps→tm[0]?=some p0→tm[1]?=some p1→tm[2]?=some p2→tm[3]?=some (.pointer (some ⟨w.heap.size,0,none⟩))→tm[4]?=some (.bool true) →
   rest.wp P (fun e a w'=>(e=.normal∨e=.ret)∧a.defers=[]∧Rr w') {tmps:=tm,defers:=[]} (w.alloc (.cells #[.int .i64 m] T))) →
  CallsD P g #[p0,p1,p2] (.panicking [⟨.iface T (.agg #[.int .i64 m]),false,false⟩]) w fun e u' w'=>(∃v,e=.returned v)∧settle u'=.returning∧Rr w'
section
variable {C:Ctx} {drawn:(FuncId→Bool)→Array Oper→Bool}
theorem still_alloc (w:World) (K:Kinds) (o:Obj) (ho:Obj.thaw o=true):Still w K (w.alloc o) (setK K w.heap.size .old) where
 ext:=Ext.allocO w K o ho _
 rows:=fun b id u hb hk=>⟨by rw[setK_other K _ (by omega)];exact hk,heap_alloc_old _ _ b hb⟩
 boxes:=fun b id hb _=>heap_alloc_old _ _ b hb
 fresh:=fun b hb id hk=>by
  rw[alloc_size] at hb
  by_cases h:b=w.heap.size
  ·subst h
   rw[setK_same] at hk
   cases hk
  ·rw[setK_other K _ h] at hk
   exact⟨by omega,hk⟩
theorem deferOf_wp {P:Program} {c:Code} {g:FuncId} {caps:List Operand} {t:Nat} (h:deferOf c=some (g,caps,t)) {a:Act} {w:World} {Q:Exit→Act→World→Prop} (ht:t<a.tmps.size)
  (hq:Q .normal {a.put (some t) (.func (.func g) #[] (caps.map a.eval).toArray) with defers:={target:=.fn (.func g) (caps.map a.eval).toArray,args:=#[]}::a.defers} w):c.wp P Q a w:=by
 unfold deferOf at h
 split at h
 case h_2=>cases h
 rename_i id ops
 split at h
 case h_2=>cases h
 rename_i o1 o2 hops
 split at h
 case h_2=>cases h
 rename_i g' first caps' t' c' e1 e2 e3
 split at h
 case h_2=>cases h
 rename_i t'' e4
 cases hc:(o1.guard.isNone&&(o2.guard.isNone&&(o2.dst.isNone&&(first.isEmpty&&(c'.args.isEmpty&&Nat.beq t' t''))))) with
 |false=>rw[hc] at h;cases h
 |true =>
  rw[hc] at h
  simp only[cond_true,Option.some.injEq,Prod.mk.injEq] at h
  obtain⟨rfl,rfl,rfl⟩:=h
  simp only[Bool.and_eq_true,Option.isNone_iff_eq_none] at hc
  obtain⟨g1,g2,d2,hf,hargs,htt⟩:=hc
  have htt:=Nat.eq_of_beq_eq_true htt
  subst htt
  have hops':ops=#[o1,o2]:=by rw[←hops]
  subst hops'
  have hfirst:first=#[]:=by simpa using hf
  have hargs':c'.args=#[]:=by simpa using hargs
  subst hfirst
  refine wp_region ?_
  show wpOps P #[o1,o2] Q [0,1] a w
  rw[wpOps_cons]
  unfold wpOp
  simp only[List.getElem?_toArray,List.getElem?_cons_zero]
  rw[if_pos (by simp[Region.wanted,g1])]
  refine .inl ?_
  have r1:(execOp a.eval o1).run P w=.ok (.value (.func (.func g') #[] (caps'.toList.map a.eval).toArray)) w:=by
   unfold execOp
   rw[e1]
   simp only[Instr.makeFunc]
   rw[show caps'.map a.eval=(caps'.toList.map a.eval).toArray from Array.ext' (by simp)]
   simp
  unfold Oper.wp
  rw[r1]
  simp only[Oper.upon,e2]
  rw[wpOps_cons]
  unfold wpOp
  simp only[List.getElem?_toArray,List.getElem?_cons_succ,List.getElem?_cons_zero]
  rw[if_pos (by simp[Region.wanted,g2])]
  refine .inl ?_
  have r2:(execOp (a.put (some t') (.func (.func g') #[] (caps'.toList.map a.eval).toArray)).eval o2).run P w=.ok (.defer {target:=.fn (.func g') (caps'.toList.map a.eval).toArray,args:=#[]}) w:=by
   unfold execOp
   rw[e3]
   simp only[resolve,e4,hargs']
   have:(a.put (some t') (.func (.func g') #[] (caps'.toList.map a.eval).toArray)).eval (.tmp t')=.func (.func g') #[] (caps'.toList.map a.eval).toArray:=by
    simp[Act.eval,Act.put,Array.getD_eq_getD_getElem?,ht]
   rw[this]
   simp[Deferred.ofValue]
  unfold Oper.wp
  rw[r2]
  simp only[Oper.upon,d2,wpOps,Act.put]
  exact hq
theorem evDf_ok (hC:FullOk C drawn) {call:CallIn} (hcall:CallsOk C.P call) {fr:Fr} {n f unroll g:Nat} {r:R} {Kd:St→List AV→Code→Option R} {Q:Exit→Act→World→Prop} (hfr:fr.T=fun _=>true)
  (hd:∀s K a w caps capv b,Rel fr n K s {a with defers:=fr.ds} w→a.defers={target:=.fn (.func g) capv.toArray,args:=#[]}::fr.ds→caps.all isBoxAV=true→RVs w K caps capv→Kd s caps b=some r→LoopsOk C f n b→b.wp C.P Q a w) :
  ∀(c:Code) (s:St) (Kc:Kont) (K:Kinds) (a:Act) (w:World),LoopsOk C f n c→evDf C call drawn f n unroll g Kd c s Kc=some r→Rel fr n K s a w →
   (∀e s' K' a' w',Rel fr n K' s' a' w'→Kc e s'=some r→Q e a' w')→c.wp C.P Q a w:=by
 intro c
 induction c with
 |seq x y ihx ihy =>
  intro s Kc K a w hl h hr hq
  simp only[evDf] at h
  split at h
  ·rename_i g' caps t hdf
   cases hc:(Nat.beq g g'&&(Nat.blt t n&&caps.all fun x=>isBoxAV (opnd s x))) with
   |false=>rw[hc] at h;cases h
   |true =>
    rw[hc] at h
    simp only[cond_true] at h
    simp only[Bool.and_eq_true] at hc
    obtain⟨hg,ht,hbx⟩:=hc
    have hg:=Nat.eq_of_beq_eq_true hg
    subst hg
    have ht:t<n:=by simpa [Nat.blt_eq] using ht
    refine wp_seq (deferOf_wp hdf (by have:=hr.size;omega) ?_)
    refine hd _ K _ w _ (caps.map a.eval) y ?_ (by rw[←hr.defers]) (by rw[List.all_map];exact hbx) (args_ok hr caps) h hl.2.2
    have h1:=hr.setO (d:=some t) (v:=.func (.func g) #[] (caps.map a.eval).toArray) (av:=.top) (fun t' e=>by cases e;exact ht) trivial
    exact⟨h1.ext,h1.size,rfl,h1.ents,h1.frame,h1.heap,h1.uniq⟩
  ·refine wp_seq (ev_ok hC hcall (fr:=fr) x s _ K a w _ hl.2.1 (by rw[hfr];exact h) hr (fun e s' K' a' w' hrel hkc=>?_))
   cases e with
   |normal=>exact ihy s' Kc K' a' w' hl.2.2 hkc hrel hq
   |_=>exact hq _ _ _ _ _ hrel hkc
 |_=>intro s Kc K a w _ h;cases h
theorem trapOf_eq {T:Nat} {ch:List PanicEntry} {m:Int} (h:trapOf T ch=some m):ch=[⟨.iface T (.agg #[.int .i64 m]),false,false⟩]:=by
 unfold trapOf at h
 split at h
 ·rename_i t cs hv
  cases ht:Nat.beq t T with
  |false=>rw[ht] at h;cases h
  |true =>
   rw[ht] at h
   simp only[cond_true] at h
   have ht:=Nat.eq_of_beq_eq_true ht
   subst ht
   split at h
   ·rename_i m' hm
    cases h
    rw[panVal_eq hv]
    have:cs=#[.int .i64 m]:=by rw[←hm]
    rw[this]
   ·cases h
 ·cases h
theorem RVs.boxes {w w':World} {K K':Kinds} (g:Ext w K w' K'):∀{caps:List AV} {vs:List Value},caps.all isBoxAV=true→RVs w K caps vs→RVs w' K' caps vs
 |[],[],_,_=>trivial
 |c::caps,v::vs,hb,h=>by
  simp only[List.all_cons,Bool.and_eq_true] at hb
  refine⟨?_,RVs.boxes g hb.2 h.2⟩
  have h1:=h.1
  obtain⟨sh,x⟩:=c
  cases sh with
  |box id off =>
   obtain⟨b,e,hk,hlt⟩:=RV.box h1
   subst e
   exact R1.toRV (a:=.box id off) ⟨⟨b,rfl,g.box b id hlt hk,Nat.lt_of_lt_of_le hlt g.size⟩,(fun e=>nomatch e),(fun _ c e=>nomatch e)⟩
  |_=>exact absurd hb.1 (by simp[isBoxAV])
 |[],_::_,_,h=>h.elim
 |_::_,[],_,h=>h.elim
theorem resK_ok {fr:Fr} {n:Nat} {K:Kinds} {s:St} {a:Act} {w:World} {fn:Func} {Kc:AV→Heap→Nat→Option R} {r:R} (hr:Rel fr n K s a w) (h:resK C fn s Kc=some r):∃av v,(results fn a.tmps).run C.P w=.ok v w∧RV w K av v∧Kc av s.heap s.next=some r:=by
 unfold resK at h
 split at h
 ·rename_i av hav
  obtain⟨v,h1,h2⟩:=resAV_ok hr hav
  exact⟨av,v,h1,h2,h⟩
 ·cases h
theorem len3 {α:Type} {l:List α} (h:l.length=3):∃x y z,l=[x,y,z]:=by
 match l,h with
 |[x,y,z],_=>exact⟨x,y,z,rfl⟩
theorem evStep_ok (hC:FullOk C drawn) {unroll d f g T:Nat} {gn:Func} {rid:Nat} {rops:Array Oper} {rdr:Bool} {rest:Code} (hg:C.P.funcs[g]?=some gn) (hgb:gn.body=some (.seq (.region rid rops rdr) rest)) (hcat:Catches C.P g T gn rest):BodyOk C.P f (evStep C drawn unroll d f g T):=by
 intro args h nx Kc r he w K vs hv hh Rf hk hp
 unfold evStep at he
 split at he
 case h_2=>cases he
 rename_i fn gn' hfn hgn
 rw[hg] at hgn
 cases hgn
 split at he
 case h_2=>cases he
 rename_i c _ _ _ rest' hfb hgb'
 rw[hgb] at hgb'
 cases hgb'
 split at he
 case isFalse=>cases he
 rename_i hlen
 have ih:=evF_ok hC unroll d
 refine calls_of_wp_defers hfn hfb ?_
 have hsize:(vs.toArray++Array.replicate (fn.ntmps-vs.toArray.size) undef).size=fn.ntmps:=by
  have:=RVs.length hv
  simp
  omega
 have hrel:Rel ⟨w,K,vs.toArray++Array.replicate (fn.ntmps-vs.toArray.size) undef,fun _=>true,[]⟩ fn.ntmps K {ents:=enum 0 args,heap:=h,next:=nx} {tmps:=vs.toArray++Array.replicate (fn.ntmps-vs.toArray.size) undef,defers:=[]} w:={
  ext:=Ext.refl _ _
  size:=hsize
  defers:=rfl
  ents:=fun t av ht=>by
   obtain⟨i,h1,v,h2,h3⟩:=enum_look args vs 0 hv t av ht
   have hi:i<vs.length:=(List.getElem?_eq_some_iff.1 h2).1
   have:(vs.toArray++Array.replicate (fn.ntmps-vs.toArray.size) undef).getD t undef=v:=by
    rw[Array.getD_eq_getD_getElem?,h1,Nat.zero_add,Array.getElem?_append_left (by simpa using hi)]
    simp[h2]
   rw[this]
   exact h3
  frame:=fun _ _ hT=>by cases hT
  heap:=hh.cells
  uniq:=hh.uniq}
 refine evDf_ok hC ih (fr:=⟨w,K,vs.toArray++Array.replicate (fn.ntmps-vs.toArray.size) undef,fun _=>true,[]⟩) rfl (fun s1 K1 a1 w1 caps capv b hr1 hdf hbx hcv hkd hlb=>?_) c _ _ K _ w (hC.loops f fn c hfn hfb) he hrel (fun e s' K' a' w' hrel' hkc=>?_)
 ·-- behind the defer
  have hr2:Rel ⟨w1,K1,a1.tmps,fun _=>true,a1.defers⟩ fn.ntmps K1 s1 a1 w1:=⟨Ext.refl _ _,hr1.size,rfl,hr1.ents,(fun _ _ hT=>by cases hT),hr1.heap,hr1.uniq⟩
  unfold evRest at hkd
  cases h3:Nat.beq caps.length 3 with
  |false=>rw[h3] at hkd;cases hkd
  |true =>
  rw[h3] at hkd
  simp only[Bool.not_true,cond_false] at hkd
  have h3:=Nat.eq_of_beq_eq_true h3
  rw[RVs.length hcv] at h3
  obtain⟨p0,p1,p2,rfl⟩:=len3 h3
  refine ev_ok hC ih (fr:=⟨w1,K1,a1.tmps,fun _=>true,a1.defers⟩) b _ _ K1 a1 w1 _ hlb hkd hr2 (fun e s' K' a' w' hrel' hkc=>?_)
  have hdf':a'.defers=[{target:=.fn (.func g) #[p0,p1,p2],args:=#[]}]:=by rw[hrel'.defers];exact hdf
  have hcv':=RVs.boxes hrel'.ext hbx hcv
  have hret:(e=.ret∨e=.normal)→resK C fn s' Kc=some r→bodyPostD C.P fn Rf e a' w':=by
   intro he hres
   have hst:=hrel'.still (still_alloc w' K' (.cells #[.int .i64 0] T) rfl)
   obtain⟨av,v,h1,h2,h3⟩:=resK_ok hst hres
   have hR:=hk av v _ _ _ _ (hr1.ext.trans hst.ext) h2 hst.heapOk h3
   have:Leaves C.P fn a'.tmps Rf a'.defers .returning w':=by
    rw[hdf']
    refine leaves_cons (by simp) (hcat.enter _ _) ?_
    refine(hcat.idle p0 p1 p2 w').mono ?_
    rintro e u' w'' ⟨⟨v',rfl⟩,rfl,rfl⟩
    exact⟨v,h1,hR⟩
   rcases he with rfl |rfl
   ·exact this
   ·exact this
  cases e with
  |ret=>exact hret (.inl rfl) hkc
  |normal=>exact hret (.inr rfl) hkc
  |panic ch =>
   simp only at hkc
   split at hkc
   case h_2=>cases hkc
   rename_i m hm
   rw[trapOf_eq hm]
   cases hid:(look s'.next s'.heap).isNone with
   |false=>rw[hid] at hkc;cases hkc
   |true =>
   rw[hid] at hkc
   simp only[cond_true] at hkc
   have hid:look s'.next s'.heap=none:=by simpa using hid
   show Leaves C.P fn a'.tmps Rf a'.defers (.panicking [⟨.iface T (.agg #[.int .i64 m]),false,false⟩]) w'
   rw[hdf']
   refine leaves_cons (by simp) (hcat.enter _ _) ?_
   refine(hcat.caught p0 p1 p2 m w' (fun w''=>∃v,(results fn a'.tmps).run C.P w''=.ok v w''∧Rf (.returned v) w'') (fun tm hsz t0 t1 t2 t3 t4=>?_)).mono ?_
   ·have hnb:=Rel.newBox hrel' (d:=none) (fun _ e=>by cases e) hid (c:=⟨.ty (.pair (.int .i64) .unit),(m,())⟩) (cs:=#[.int .i64 m]) T ⟨#[.int .i64 m],T,rfl,[.int .i64 m],[],rfl,rfl,rfl⟩
    have hcv2:=RVs.boxes (hnb.ext) hbx hcv
    have hv3:RV (w'.alloc (.cells #[.int .i64 m] T)) (setK K' w'.heap.size (.box s'.next)) (.box s'.next 0) (.pointer (some ⟨w'.heap.size,0,none⟩)) :=
     R1.toRV (a:=.box s'.next 0) ⟨⟨w'.heap.size,rfl,setK_same _ _ _,by rw[alloc_size];omega⟩,(fun e=>nomatch e),(fun _ c e=>nomatch e)⟩
    have hall:RVs (w'.alloc (.cells #[.int .i64 m] T)) (setK K' w'.heap.size (.box s'.next)) (caps++[.box s'.next 0,.bool true]) ([p0,p1,p2]++[.pointer (some ⟨w'.heap.size,0,none⟩),.bool true]) :=
     RVs.append hcv2 ⟨hv3,⟨rfl,(fun e=>nomatch e),(fun _ _ e=>nomatch e)⟩,trivial⟩
    have hrc:Rel ⟨w'.alloc (.cells #[.int .i64 m] T),setK K' w'.heap.size (.box s'.next),tm,fun _=>true,[]⟩ gn.ntmps (setK K' w'.heap.size (.box s'.next)) {ents:=enum 0 (caps++[.box s'.next 0,.bool true]),heap:=put s'.next ⟨.ty (.pair (.int .i64) .unit),(m,())⟩ s'.heap,next:=s'.next+16} {tmps:=tm,defers:=[]} (w'.alloc (.cells #[.int .i64 m] T)):={
     ext:=Ext.refl _ _
     size:=hsz
     defers:=rfl
     ents:=fun t av ht=>by
      obtain⟨i,h1,v,h2,h3⟩:=enum_look _ _ 0 hall t av ht
      have:tm.getD t undef=v:=by
       rw[Array.getD_eq_getD_getElem?,h1,Nat.zero_add]
       match i,h2 with
       |0,h2=>cases h2;rw[t0];rfl
       |1,h2=>cases h2;rw[t1];rfl
       |2,h2=>cases h2;rw[t2];rfl
       |3,h2=>cases h2;rw[t3];rfl
       |4,h2=>cases h2;rw[t4];rfl
      rw[this]
      exact h3
     frame:=fun _ _ hT=>by cases hT
     heap:=hnb.heap
     uniq:=hnb.uniq}
    refine ev_ok hC ih (fr:=⟨w'.alloc (.cells #[.int .i64 m] T),setK K' w'.heap.size (.box s'.next),tm,fun _=>true,[]⟩) rest _ _ _ _ _ _ (hC.loops g gn _ hg hgb).2.2 hkc hrc (fun e2 s2 K2 a2 w2 hrel2 hkc2=>?_)
    have fin:resK C fn {ents:=mapV onlyBox s'.ents,heap:=s2.heap,next:=s2.next} Kc=some r→a2.defers=[]∧∃v,(results fn a'.tmps).run C.P w2=.ok v w2∧Rf (.returned v) w2:=by
     intro hres
     have hrl:Rel ⟨w1,K1,a1.tmps,fun _=>true,a1.defers⟩ fn.ntmps K2 {ents:=mapV onlyBox s'.ents,heap:=s2.heap,next:=s2.next} a' w2:={
      ext:=hnb.ext.trans hrel2.ext
      size:=hrel'.size
      defers:=hrel'.defers
      ents:=fun t av ht=>by
       rw[look_mapV] at ht
       obtain⟨av',e1,e2⟩:=Option.map_eq_some_iff.1 ht
       subst e2
       unfold onlyBox
       split
       ·rename_i hb
        have h1:=hnb.ents t av' e1
        exact(RVs.boxes hrel2.ext (caps:=[av']) (vs:=[a'.tmps.getD t undef]) (by simp[hb]) ⟨h1,trivial⟩).1
       ·trivial
      frame:=fun _ _ hT=>by cases hT
      heap:=hrel2.heap
      uniq:=hrel2.uniq}
     obtain⟨av,v,h1,h2,h3⟩:=resK_ok hrl hres
     exact⟨hrel2.defers,v,h1,hk av v _ _ _ _ (hr1.ext.trans hrl.ext) h2 hrl.heapOk h3⟩
    cases e2 with
    |ret=>exact⟨.inr rfl,fin hkc2⟩
    |normal=>exact⟨.inl rfl,fin hkc2⟩
    |_=>cases hkc2
   ·rintro e u' w'' ⟨⟨v',rfl⟩,hs,v,h1,h2⟩
    show Leaves _ _ _ _ [] (settle u') w''
    rw[hs]
    exact⟨v,h1,h2⟩
  |_=>cases hkc
 ·have fin:(e=.ret∨e=.normal)→resK C fn s' Kc=some r→bodyPostD C.P fn Rf e a' w':=by
   intro he hres
   obtain⟨av,v,h1,h2,h3⟩:=resK_ok hrel' hres
   have hR:=hk av v _ _ _ _ hrel'.ext h2 hrel'.heapOk h3
   have hd:a'.defers=[]:=hrel'.defers
   have:Leaves C.P fn a'.tmps Rf a'.defers .returning w':=by
    rw[hd]
    exact⟨v,h1,hR⟩
   rcases he with rfl |rfl
   ·exact this
   ·exact this
  cases e with
  |ret=>exact fin (.inl rfl) hkc
  |normal=>exact fin (.inr rfl) hkc
  |_=>cases hkc
end
end Go.Av
end
section
namespace Go.Av
abbrev tIns:Ty:=.pair (.int .i64) (.pair (.int .i64) (.pair (.int .i64) (.pair (.int .i64) (.pair (.int .i64) (.pair (.int .i64) (.pair (.int .i64) (.pair .bool .unit)))))))
abbrev tItem:Ty:=.pair (.int .i64) (.pair (.int .i64) (.pair tIns .unit))
abbrev tPlace:Ty:=.pair (.int .i64) (.pair (.int .i64) .unit)
abbrev tSizes:Ty:=.pair (.int .i64) (.pair (.int .i64) (.pair (.int .i64) .unit))
abbrev tState:Ty:=.pair (.arr 15 (.int .i64)) (.pair (.int .i64) (.pair .bool (.pair .bool (.pair .bool (.pair .bool .unit)))))
abbrev tAccess:Ty:=.pair (.int .i64) (.pair (.int .i64) (.pair (.int .i64) (.pair .bool .unit)))
abbrev tFault:Ty:=.pair (.int .i64) (.pair (.int .i64) (.pair (.int .i64) (.pair (.int .i64) .unit)))
abbrev tEvent:Ty:=.pair (.int .i64) (.pair (.int .i64) (.pair (.int .i64) (.pair (.int .i64) .unit)))
abbrev tResult:Ty:=.pair .bool (.pair (.int .i64) (.pair (.int .i64) (.pair (.int .i64) (.pair (.int .i64) (.pair (.int .i64) (.pair .str (.pair .str (.pair .str .unit))))))))
abbrev tSpot:Ty:=.pair (.int .i64) (.pair (.int .i64) (.pair .bool .unit))
abbrev tRegion:Ty:=.pair (.int .i64) (.pair (.int .i64) (.pair .bool .unit))
abbrev tOp:Ty:=.pair (.int .i64) (.pair (.int .i64) (.pair (.int .i64) (.pair (.int .i64) (.pair (.int .i64) (.pair (.int .i64) .unit)))))
abbrev tOutcome:Ty:=.pair (.int .i64) (.pair .str .unit)
end Go.Av
end
section
namespace Go.Av
open Go Go.RowKit Go.ChangeShapes Go.WideShapes Go.ChangeAt
def Ty.fits (N:Nat):(t:Ty)→t.den→Prop
 | .unit,_=>True
 | .pair a b,x=>Ty.fits N a x.1∧Ty.fits N b x.2
 | .arr n e,x=>List.length x=n∧∀y∈(x:List e.den),Ty.fits N e y
 | .int k,n=>(Lit.int k n).wf=true
 | .bool,_=>True
 | .str,s=>List.length s≤N
 | .func,_=>True
 | .sl e,xs=>List.length xs≤N∧∀y∈(xs:List e.den),Ty.fits N e y
def Ty.data:Ty→Bool
 | .pair a b=>a.data&&b.data
 | .arr _ e=>e.data
 | .sl e=>e.data
 | .func=>false
 |_=>true
structure Small {H:Type} (M:DataW H→Prop) (N:Nat):Prop where
 str:∀b:List UInt8,M (.lit (.string b))→b.length≤maxLen→b.length≤N
 sl:∀e s:List (DataW H),M (.slice e s)→e.length≤maxLen→e.length≤N
 el:∀e s:List (DataW H),M (.slice e s)→∀d∈e,M d
 agg:∀l:List (DataW H),M (.agg l)→∀d∈l,M d
theorem small_all {H:Type}:Small (fun _:DataW H=>True) maxLen:=⟨fun _ _ h=>h,fun _ _ _ h=>h,fun _ _ _ _ _=>trivial,fun _ _ _ _=>trivial⟩
section
variable {H:Type} {enc:TypeId×Value→H} {P:Program} {w:World} {base:Nat} {sp:Nat→Bool} {held:Bool} {M:DataW H→Prop} {N:Nat}
theorem add_block (a:Addr) (n:Nat):(a.add n).block=a.block∧(a.add n).off=a.off+n:=by
 unfold Addr.add
 split
 ·rename_i h
  subst h
  exact⟨rfl,rfl⟩
 ·exact⟨rfl,rfl⟩
theorem cells_get {b:Nat} {a:Addr} {n:Nat} {cs:List Value} (h:w.cells? b a n=some cs):cs.length=n∧(0<n→a.spot=none)∧∀j v,cs[j]?=some v→w.cell? ⟨a.block,a.off+j,none⟩=some v:=by
 unfold World.cells? at h
 split at h
 ·have hl:cs.length=n:=by simpa using mapM_some_length h
  have key:∀j v,cs[j]?=some v→w.cell? (a.add j)=some v:=fun j v hj=>by
   have hlt:j<n:=by rw[←hl];exact(List.getElem?_eq_some_iff.1 hj).1
   have:=mapM_some_get h j j (by simp[hlt])
   rw[hj] at this
   exact this
  have hspot:0<n→a.spot=none:=fun hn=>by
   have:=key 0 cs[0] (List.getElem?_eq_getElem (by omega))
   simp only[Addr.add,if_true,World.cell?] at this
   split at this
   ·cases hs:a.spot with
    |none=>rfl
    |some s=>rw[hs] at this;simp at this
   ·cases this
  refine⟨hl,hspot,fun j v hj=>?_⟩
  have hlt:j<n:=by rw[←hl];exact(List.getElem?_eq_some_iff.1 hj).1
  have:=key j v hj
  have hs:=hspot (by omega)
  obtain⟨ab,ao,asp⟩:=a
  simp only at hs
  subst hs
  simp only[Addr.add] at this
  split at this
  ·rename_i h0
   subst h0
   exact this
  ·exact this
 ·cases h
theorem opened (K:Kids P (· < P.types.size)) (S:Small M N):∀(dp:Nat) (t:TypeId) (τ:Ty),tyOf P dp t=some τ→τ.data=true→t<P.types.size→∀(fuel:Nat) (cs:List Value) (x:DataW H×List MemPlace),
  DataW.trod enc P w base sp held fuel t cs=some x→M x.1→∃y:τ.den,RT w allOld τ y cs∧τ.fits N y:=by
 intro dp
 induction dp with
 |zero=>intro t τ h;cases h
 |succ dp ih =>
  intro t τ h hda ht fuel cs x hx hm
  simp only[tyOf] at h
  split at h
  ·rename_i k hu
   cases h
   obtain⟨n,rfl,rfl,hw⟩:=DataW.trod_int hu hx
   exact⟨n,rfl,hw⟩
  ·rename_i hu
   cases h
   obtain⟨b,rfl,rfl⟩:=DataW.trod_bool hu hx
   exact⟨b,rfl,trivial⟩
  ·rename_i hu
   cases h
   obtain⟨s,rfl,rfl,hs⟩:=DataW.trod_string hu hx
   exact⟨s.data.toList,rfl,S.str _ hm (by simpa using hs)⟩
  ·cases h;cases hda
  ·rename_i e hu
   obtain⟨τe,he,rfl⟩:=Option.map_eq_some_iff.1 h
   have hel:=K.slice ht hu
   rcases DataW.trod_slice hu hx with⟨rfl,rfl⟩ |⟨a,len,cap,elems,rest,n,rfl,rfl,rfl,_,hlc,hcm,hel',hget,_,_⟩
   ·exact⟨[],⟨none,0,0,rfl,rfl,Nat.le_refl _,fun _=>rfl,fun a ha=>by cases ha⟩,by simp[Ty.fits]⟩
   ·have key:∀k,k≤len→∃(ys:List τe.den) (cc:List Value),ys.length=k∧RL (RT w allOld τe) ys cc∧cc.length=k*P.cellsOf e∧(∀y∈ys,τe.fits N y)∧(0<cc.length→a.spot=none)∧∀j v,cc[j]?=some v→w.cell? ⟨a.block,a.off+j,none⟩=some v:=by
     intro k
     induction k with
     |zero=>intro _;exact⟨[],[],rfl,rfl,by simp,(fun y hy=>by cases hy),(fun h=>by simp at h),fun j v hj=>by simp at hj⟩
     |succ k ihk =>
      intro hk
      obtain⟨ys,cc,h1,h2,h3,h4,h6,h5⟩:=ihk (by omega)
      have hg:=hget k (by omega)
      rw[List.getElem?_eq_getElem (by omega)] at hg
      obtain⟨cs',hc,hy⟩:=Option.bind_eq_some_iff.1 hg
      obtain⟨hl,hspot,hcell⟩:=cells_get hc
      obtain⟨y,hr,hf⟩:=ih e τe he hda hel n cs' _ hy (S.el _ _ hm _ (List.mem_map_of_mem (List.getElem_mem _)))
      refine⟨ys++[y],cc++cs',by simp[h1],RL.append h2 ⟨cs',[],by simp,hr,rfl⟩,by simp[h3,hl,Nat.succ_mul],fun z hz=>?_,fun hpos=>?_,fun j v hj=>?_⟩
      ·rcases List.mem_append.1 hz with hz |hz
       ·exact h4 z hz
       ·simp at hz;subst hz;exact hf
      ·rcases Nat.eq_zero_or_pos k with rfl |hk0
       ·rw[Nat.zero_mul] at hspot
        have:(a.add 0)=a:=by simp[Addr.add]
        rw[this] at hspot
        refine hspot ?_
        simp only[List.length_append,hl,h3,Nat.zero_mul] at hpos
        omega
       ·refine h6 ?_
        rw[h3]
        simp only[List.length_append,hl,h3] at hpos
        rcases Nat.eq_zero_or_pos (P.cellsOf e) with hz |hz
        ·rw[hz] at hpos;simp at hpos
        ·exact Nat.mul_pos hk0 hz
      ·rcases Nat.lt_or_ge j cc.length with hjl |hjl
       ·rw[List.getElem?_append_left hjl] at hj
        exact h5 j v hj
       ·rw[List.getElem?_append_right hjl] at hj
        have g2:=hcell _ _ hj
        rw[(add_block _ _).1,(add_block _ _).2,show a.off+k*P.cellsOf e+(j-cc.length)=a.off+j by rw[h3] at hjl ⊢;omega] at g2
        exact g2
    obtain⟨ys,cc,h1,h2,_,h4,h6,h5⟩:=key len (Nat.le_refl _)
    refine⟨ys,⟨some a,len,cap,rfl,h1.symm,hlc,(fun e=>by cases e),fun a' ha=>?_⟩,?_,h4⟩
    ·cases ha
     exact⟨cc,h2,fun j v hj=>⟨h6 (Nat.lt_of_le_of_lt (Nat.zero_le _) (List.getElem?_eq_some_iff.1 hj).1),h5 j v hj,trivial⟩⟩
    ·rw[h1]
     have:=S.sl _ _ hm (by simp;omega)
     simpa [hel'] using this
  ·rename_i n e hu
   obtain⟨τe,he,rfl⟩:=Option.map_eq_some_iff.1 h
   obtain⟨hel,hsz⟩:=K.array ht hu
   obtain⟨xs,m,rfl,rfl,hl,hxl,hget⟩:=DataW.trod_array hu hx
   have key:∀k,k≤n→∃(ys:List τe.den),ys.length=k∧RL (RT w allOld τe) ys (cs.take (k*P.cellsOf e))∧(∀y∈ys,τe.fits N y):=by
    intro k
    induction k with
    |zero=>intro _;exact⟨[],rfl,by simp[RL],(fun y hy=>by cases hy)⟩
    |succ k ihk =>
     intro hk
     obtain⟨ys,h1,h2,h4⟩:=ihk (by omega)
     have hg:=hget k (by omega)
     rw[List.getElem?_eq_getElem (by omega)] at hg
     obtain⟨y,hr,hf⟩:=ih e τe he hda hel m _ _ hg (S.agg _ hm _ (List.mem_map_of_mem (List.getElem_mem _)))
     refine⟨ys++[y],by simp[h1],?_,fun z hz=>?_⟩
     ·rw[Nat.succ_mul,List.take_add]
      exact RL.append h2 ⟨_,[],by simp,hr,rfl⟩
     ·rcases List.mem_append.1 hz with hz |hz
      ·exact h4 z hz
      ·simp at hz;subst hz;exact hf
   obtain⟨ys,h1,h2,h4⟩:=key n (Nat.le_refl _)
   rw[List.take_of_length_le (by rw[hl,hsz];exact Nat.le_refl _)] at h2
   exact⟨ys,⟨h1,h2⟩,h1,h4⟩
  ·rename_i fs hu
   obtain⟨hty,hsz,hoff⟩:=K.struct ht hu
   obtain⟨xs,n,rfl,rfl,hl,hxl,hget⟩:=DataW.trod_struct hu hx
   have key:∀(l:List Field) (off:Nat) (τ:Ty),tyOf.fields (tyOf P dp) l=some τ→τ.data=true→(∀(j:Nat) f,l[j]?=some f→f.offset=off+((l.take j).map fun f=>P.cellsOf f.type).sum∧f.type<P.types.size∧∃y,DataW.trod enc P w base sp held n f.type ((cs.drop f.offset).take (P.cellsOf f.type))=some y∧M y.1) →
     ∃y:τ.den,RT w allOld τ y ((cs.drop off).take ((l.map fun f=>P.cellsOf f.type).sum))∧τ.fits N y:=by
    intro l
    induction l with
    |nil=>intro off τ h _ _;cases h;exact⟨(),by simp[RT],trivial⟩
    |cons f l ihl =>
     intro off τ h hda hf
     simp only[tyOf.fields] at h
     split at h
     ·rename_i a b ha hb
      cases h
      simp only[Ty.data,Bool.and_eq_true] at hda
      obtain⟨h0,hlt,y0,hy0,hm0⟩:=hf 0 f rfl
      simp at h0
      obtain⟨y,hr,hfit⟩:=ih f.type a ha hda.1 hlt n _ _ hy0 hm0
      obtain⟨z,hz,hzf⟩:=ihl (off+P.cellsOf f.type) b hb hda.2 (fun j g hg=>by
       obtain⟨q1,q2,q3⟩:=hf (j+1) g (by simpa using hg)
       refine⟨?_,q2,q3⟩
       rw[q1]
       simp only[List.take_succ_cons,List.map_cons,List.sum_cons]
       omega)
      refine⟨(y,z),⟨_,_,?_,hr,hz⟩,hfit,hzf⟩
      rw[h0,List.map_cons,List.sum_cons,List.take_add,List.drop_drop]
     ·cases h
   obtain⟨y,hr,hf⟩:=key fs.toList 0 τ h hda (fun j f hj=>by
    refine⟨by simpa using hoff j f hj,hty f (List.mem_of_getElem? hj),?_⟩
    have hj':fs[j]?=some f:=by rw[←hj];simp
    have hlt:j<xs.length:=by rw[hxl];exact(Array.getElem?_eq_some_iff.1 hj').1
    have:=hget j f hj'
    rw[List.getElem?_eq_getElem hlt] at this
    exact⟨_,this,S.agg _ hm _ (List.mem_map_of_mem (List.getElem_mem _))⟩)
   refine⟨y,?_,hf⟩
   rw[List.drop_zero,←hsz,←hl,List.take_length] at hr
   exact hr
  ·cases h
theorem opened_RV (K:Kids P (· < P.types.size)) (S:Small M N) {t:TypeId} {τ:Ty} (h:tyOf P tyDepth t=some τ) (hda:τ.data=true) (ht:t<P.types.size) {r:Reach} {b:Nat} {v:Value} (hval:Value.okWide P w r b t v) {d:DataW H} {ps:List MemPlace} (hd:DataW.Trod enc P w base sp held t v d ps) (hm:M d)
  (harr:∀n e,P.underlying t≠some (.array n e)):∃y:τ.den,RV w allOld ⟨.ty τ,y⟩ v∧τ.fits N y:=by
 obtain⟨fuel,hx⟩:=hd
 obtain⟨y,hr,hf⟩:=opened K S tyDepth t τ h hda ht fuel _ _ hx hm
 refine⟨y,⟨hr,?_⟩,hf⟩
 have h':=h
 simp only[tyDepth,tyOf] at h'
 split at h'
 ·rename_i k hu
  cases h'
  obtain⟨n,rfl⟩:=okWide_int hu hval
  exact⟨(fun e=>nomatch e),(fun _ c e=>nomatch e)⟩
 ·rename_i hu
  cases h'
  obtain⟨n,rfl⟩:=okWide_bool hu hval
  exact⟨(fun e=>nomatch e),(fun _ c e=>nomatch e)⟩
 ·rename_i hu
  cases h'
  obtain⟨n,rfl⟩:=okWide_string hu hval
  exact⟨(fun e=>nomatch e),(fun _ c e=>nomatch e)⟩
 ·cases h';cases hda
 ·rename_i e hu
  obtain⟨τe,_,rfl⟩:=Option.map_eq_some_iff.1 h'
  obtain⟨a,l,c,rfl⟩:=okWide_slice hu hval
  exact⟨(fun e=>nomatch e),(fun _ c e=>nomatch e)⟩
 ·rename_i n e hu
  exact(harr n e hu).elim
 ·rename_i fs hu
  obtain⟨cs,rfl,_⟩:=okWide_struct hu hval
  refine⟨fun _=>⟨cs,rfl⟩,fun e=>?_⟩
  have:∀(l:List Field) (f:TypeId→Option Ty) (τ:Ty),tyOf.fields f l=some τ→τ.agg=true:=by
   intro l f τ h
   cases l with
   |nil=>cases h;rfl
   |cons x l =>
    simp only[tyOf.fields] at h
    split at h
    ·cases h;rfl
    ·cases h
  rw[show Sh.agg (.ty τ)=true from this _ _ _ h'] at e
  cases e
 ·cases h'
def fitsAll (N:Nat):(ts:List Ty)→dens ts→Prop
 |[],_=>True
 |[t],x=>t.fits N x
 |t::_::_,x=>t.fits N x.1∧fitsAll N _ x.2
def argsOk (P:Program):List TypeId→List Ty→Bool
 |[],[]=>true
 |t::ts,τ::τs=>(match tyOf P tyDepth t with
  |some τ'=>decide (τ'=τ)&&τ.data
  |none=>false)&&(decide (t<P.types.size)&&((match P.underlying t with
  |some (.array _ _)=>false
  |_=>true)&&argsOk P ts τs))
 |_,_=>false
theorem opened_all (K:Kids P (· < P.types.size)) (S:Small M N) {r:Reach} {b:Nat}:∀(ts:List TypeId) (τs:List Ty) (vs:List Value) (ds:List (DataW H)) (ps:List MemPlace),argsOk P ts τs=true →
  DataW.TrodAll enc P w base sp held ts vs ds ps→(∀(j:Nat) t v,ts[j]?=some t→vs[j]?=some v→Value.okWide P w r b t v)→(∀d∈ds,M d) →
  ∃x:dens τs,RVs w allOld (avs τs x) vs∧fitsAll N τs x
 |[],[],[],[],_,_,_,_,_=>⟨(),trivial,trivial⟩
 |t::ts,τ::τs,v::vs,d::ds,ps,ha,⟨p,q,h1,h2,_⟩,hval,hm=>by
  simp only[argsOk,Bool.and_eq_true] at ha
  obtain⟨a1,a2,a3,a4⟩:=ha
  have hτ:tyOf P tyDepth t=some τ∧τ.data=true:=by
   split at a1
   ·rename_i τ' e
    simp only[Bool.and_eq_true] at a1
    exact⟨by rw[e,of_decide_eq_true a1.1],a1.2⟩
   ·cases a1
  obtain⟨y,hr,hf⟩:=opened_RV K S hτ.1 hτ.2 (of_decide_eq_true a2) (hval 0 t v rfl rfl) h1 (hm d (by simp)) (fun n e he=>by rw[he] at a3;cases a3)
  obtain⟨x,hx,hxf⟩:=opened_all K S ts τs vs ds q a4 h2 (fun j t v hj hv=>hval (j+1) t v (by simpa using hj) (by simpa using hv)) (fun d hd=>hm d (by simp[hd]))
  cases τs with
  |nil =>
   cases vs with
   |nil=>exact⟨y,⟨hr,trivial⟩,hf⟩
   |cons v' vs'=>exact hx.elim
  |cons τ' τs'=>exact⟨(y,x),⟨hr,hx⟩,hf,hxf⟩
 |[],_::_,_,_,_,h,_,_,_=>by cases h
 |_::_,[],_,_,_,h,_,_,_=>by cases h
 |_::_,_::_,[],_,_,_,h,_,_=>h.elim
 |_::_,_::_,_::_,[],_,_,h,_,_=>h.elim
 |[],[],_::_,_,_,_,h,_,_=>h.elim
 |[],[],[],_::_,_,_,h,_,_=>h.elim
theorem trodAll_len:∀{ts:List TypeId} {vs:List Value} {ds:List (DataW H)} {ps:List MemPlace},DataW.TrodAll enc P w base sp held ts vs ds ps→ds.length=ts.length
 |[],[],[],_,_=>rfl
 |_::_,_::_,_::_,_,⟨_,_,_,h2,_⟩=>by simp[trodAll_len h2]
 |[],[],_::_,_,h=>h.elim
 |[],_::_,_,_,h=>h.elim
 |_::_,[],_,_,h=>h.elim
 |_::_,_::_,[],_,h=>h.elim
theorem allLt {n:Nat} {l:List TypeId} (h:(l.all fun t=>decide (t<n))=true):∀t∈l,t<n:=fun t ht=>of_decide_eq_true (List.all_eq_true.1 h t ht)
theorem trodAll_carry {w':World}:∀(ts:List TypeId) (vs:List Value) (ds:List (DataW H)) (ps:List MemPlace),DataW.TrodAll enc P w base sp held ts vs ds ps→(∀p∈ps,w.sameAt w' p)→DataW.TrodAll enc P w' base sp held ts vs ds ps
 |[],[],[],_,h,_=>h
 |_::ts,_::vs,_::ds,_,⟨p,q,⟨n,hn⟩,h2,e⟩,hs=>⟨p,q,⟨n,DataW.trod_carry n _ _ _ hn (fun x hx=>hs x (by rw[e];exact List.mem_append_left _ hx))⟩,trodAll_carry ts vs ds q h2 (fun x hx=>hs x (by rw[e];exact List.mem_append_right _ hx)),e⟩
 |[],[],_::_,_,h,_=>h.elim
 |[],_::_,_,_,h,_=>h.elim
 |_::_,[],_,_,h,_=>h.elim
 |_::_,_::_,[],_,h,_=>h.elim
theorem grown_same {w w':World} (h:Grew w w') (p:MemPlace) (hp:p.block<w.heap.size):w.sameAt w' p:=by
 obtain⟨⟨_,_,hk⟩,_,_⟩:=h
 have:=hk p.block hp
 cases p with
 |cell b off =>
  simp only[MemPlace.block] at this hp
  simp only[World.sameAt,World.cell?]
  split at this
  ·rename_i c t fr c' t' fr' e1 e2
   rw[e1,e2]
   obtain⟨_,_,_,h4⟩:=this
   simp[h4 off (fun f=>f)]
  ·rename_i e1 e2
   rw[e1,e2]
  ·rw[this]
 |map b =>
  simp only[MemPlace.block] at this hp
  simp only[World.sameAt]
  split at this
  ·rename_i c t fr c' t' fr' e1 e2
   rw[e1,e2]
   obtain⟨h1,h2,h3,h4⟩:=this
   have:c'=c:=by
    apply Array.ext_getElem?
    exact fun j=>h4 j (fun f=>f)
   rw[this,h1,h2]
  ·rename_i e1 e2
   rw[e1,e2]
   rcases this with f |⟨h1,h2⟩
   ·exact f.elim
   ·rw[h1,h2]
  ·exact this
theorem post_kept {f:Func} {s:ChangeSpec} {apart fresh handsOn again:Bool} {W W':World} {args:Array Value} {v:Value} {ds gs:List (DataW H)} {before pa pv:List MemPlace}
  (hW:DataW.Whole enc P f.params.toList s.vars apart W args.toList ds gs before)
  (hres:∀(b:Nat) (sp:Nat→Bool) (hd:Bool),DataW.TrodAll enc P W' b sp hd f.resultTypes.toList (v.resultList f.resultTypes.size) (s.fn H (ds++gs)).results [])
  (hargs:∀sp:Nat→Bool,(∀p∈before,sp p.block=true)→DataW.TrodAll enc P W' 0 sp true f.params.toList args.toList (s.fn H (ds++gs)).args pa)
  (hvars:∀sp:Nat→Bool,(∀p∈before,sp p.block=true)→DataW.TrodVars enc P W' sp s.vars (s.fn H (ds++gs)).vars pv)
  (hps:before=pa++pv) (hk:W.keptBut W' (·∈before)) (hfz:∀a:Addr,a.block<W.heap.size→W'.frozen? a=W.frozen? a)
  (hok:∀(j:Nat) (t:TypeId) (r:Value),f.resultTypes[j]?=some t→(v.resultList f.resultTypes.size)[j]?=some r→Value.okWide P W' .any 0 t r) :
  s.post enc P f apart fresh handsOn again W args v W':=by
 have hlt:=hW.lt
 have hold:∀p∈before,(fun b=>decide (b<W.heap.size)) p.block=true:=fun p hp=>by simpa using hlt p hp
 refine⟨ds,gs,before,[],pa,pv,hW,hres _ _ _,hargs _ hold,hvars _ hold,World.keptBut_mono (fun p hp=>⟨hp,by rw[hps,List.mem_append] at hp;exact Or.inr hp⟩) hk,fun _=>?_⟩
 obtain⟨_,_,_,_,_,hz,hn⟩:=hW
 refine⟨hok,_,_,([]++pa)++pv,⟨[]++pa,pv,trodAll_append (hargs _ (fun _ _=>rfl)) (hres _ _ _),hvars _ (fun _ _=>rfl),rfl,fun b off hp=>?_,fun ha=>?_⟩,fun p hp _=>by rw[hps];simpa using hp⟩
 ·have hm:MemPlace.cell b off∈before:=by rw[hps];simpa using hp
  rw[hfz ⟨b,off,none⟩ (hlt _ hm)]
  exact hz b off hm
 ·have:=hn ha
  rw[hps] at this
  simpa using this
theorem qml (K:Kids P (· < P.types.size)) (hz:∀t e,t<P.types.size→P.underlying t=some (.slice e)→0<P.cellsOf e) {f:Func} {s:ChangeSpec} {apart:Bool} {W W':World} {args:Array Value} {ds gs:List (DataW H)} {before:List MemPlace} {t:TypeId}
  (hr:f.resultTypes=#[t]) (ht:P.underlying t=some .bool) (hts:∀t∈f.params.toList,t<P.types.size) (hv:s.vars=[])
  (hW:DataW.Whole enc P f.params.toList s.vars apart W args.toList ds gs before) (hg:Grew W W')
  (hres:(s.fn H (ds++gs)).results=[.lit (.bool true)]) (hargs:(s.fn H (ds++gs)).args=ds) (hvars:(s.fn H (ds++gs)).vars=[]) :
  s.post enc P f apart true false false W args (.bool true) W':=by
 have hW':=hW
 obtain⟨p,q,hA,hV,hpq,hfz,hnd⟩:=hW
 rw[hv] at hV
 obtain⟨rfl,rfl⟩:=trodVars_none hV
 refine post_kept (pa:=p) (pv:=[]) hW' (fun b sp hd=>?_) (fun sp hsp=>?_) (fun sp _=>?_) hpq (World.keptBut_mono (fun _ f=>f.elim) hg.1) hg.2.1 ?_
 ·rw[hres,hr]
  exact trodAll_cons_mk (shut_bool ht _) trodAll_mk0
 ·rw[hargs]
  refine DataW.TrodAll.respare K hz (fun t h=>hts t h) (trodAll_carry _ _ _ _ hA (fun x hx=>grown_same hg x ?_)) (fun x hx=>hsp x (by rw[hpq];simpa using hx))
  exact hW'.lt x (by rw[hpq];simpa using hx)
 ·rw[hvars,hv]
  exact rfl
 ·exact ok_one hr rfl (okWide_bool_mk ht _)
end
end Go.Av
end
section
namespace Go.Av
open Go
abbrev tI:Ty:=.int .i64
theorem dec_true {p:Prop} [Decidable p] (h:p):decide p=true:=decide_eq_true h
theorem dec_false {p:Prop} [Decidable p] (h:¬p):decide p=false:=decide_eq_false h
theorem w64_id {n:Int} (h1:-9223372036854775808≤n) (h2:n<9223372036854775808):w64 n=n:=wrap_i64 n h1 (by omega)
theorem inR {i n:Nat} (h:i<n):inRange (i:Int) n=true:=by
 simp[inRange]
 omega
theorem runL_count {σ:Type} {turn:σ→PO (TL σ)} (st:Nat→σ) (r:Nat×σ) {n:Nat} (hon:∀i,i<n→(turn (st i)).val=some (.on (st (i+1)))) (hout:(turn (st n)).val=some (.out r.1 r.2)) :
  ∀(k i:Nat),i+k=n→∀f,k<f→runL turn f (st i)=some r
 |0,i,h,f,hf=>by
  obtain⟨f,rfl⟩:∃g,f=g+1:=⟨f-1,by omega⟩
  have:i=n:=by omega
  subst this
  rw[runL_out hout]
 |k+1,i,h,f,hf=>by
  obtain⟨f,rfl⟩:∃g,f=g+1:=⟨f-1,by omega⟩
  have hv:=hon i (by omega)
  rw[runL_on hv]
  exact runL_count st r hon hout k (i+1) (by omega) f (by omega)
theorem getD_nat {α:Type} (l:List α) (i:Nat) (d:α):l.getD (Int.toNat (i:Int)) d=l.getD i d:=by simp
theorem getD_in {α:Type} (l:List α) (d:α) {i:Nat} (hi:i<l.length):l.getD i d=l[i]:=by
 rw[List.getD_eq_getElem?_getD,List.getElem?_eq_getElem hi];rfl
theorem w64_eq (n:Int):w64 n=if 9223372036854775808≤n % 18446744073709551616 then n % 18446744073709551616-18446744073709551616 else n % 18446744073709551616:=by
 have h:w64 n=if(true&&decide (n % 18446744073709551616≥9223372036854775808))=true then n % 18446744073709551616-18446744073709551616 else n % 18446744073709551616:=rfl
 rw[h]
 simp only[Bool.true_and,decide_eq_true_eq,ge_iff_le]
theorem i32_eq (n:Int):IntKind.i32.wrap n=if 2147483648≤n % 4294967296 then n % 4294967296-4294967296 else n % 4294967296:=by
 have h:IntKind.i32.wrap n=if(true&&decide (n % 4294967296≥2147483648))=true then n % 4294967296-4294967296 else n % 4294967296:=rfl
 rw[h]
 simp only[Bool.true_and,decide_eq_true_eq,ge_iff_le]
theorem val_yes {α:Type} {b:Bool} {p q:PO α} (h:b=true):(PO.ite b p q).val=p.val:=by subst h;rfl
theorem val_no {α:Type} {b:Bool} {p q:PO α} (h:b=false):(PO.ite b p q).val=q.val:=by subst h;rfl
theorem val_opt {α β:Type} {o:Option β} {r:β} {k:β→PO α} (h:o=some r):(PO.opt o k).val=(k r).val:=by subst h;rfl
end Go.Av
end
section
namespace Go.Av
open Go
abbrev qe7:List Ty:=[(.int .i64),(.int .i64),(.int .i64)]
abbrev qgz:Sh:=Sh.ty Ty.bool
def qbz (x:dens qe7):PO (Sh.den qgz) :=
 (.ret (decide (x.1≥x.2.1)&&decide (x.1≤x.2.2)))
def qiw (_:dens qe7):Bool:=true
def qT (x:dens qe7):Sh.den qgz:=(qbz x).getO default
theorem qk3 (x:dens qe7) (_:qiw x=true):(qbz x).val=some (qT x):=PO.sure_ok default (by simp[qbz,PO.sure])
abbrev qfx:List Ty:=[(.int .i64),(.int .i64)]
abbrev qg5:Sh:=Sh.ty Ty.bool
def qcB (x:dens qfx):PO (Sh.den qg5) :=
 (.ite (x.2==-1)
  (.ret (x.1==0))
  (.ret (qT (x.1,0,x.2))))
def qjc (_:dens qfx):Bool:=true
def qbb (x:dens qfx):Sh.den qg5:=(qcB x).getO default
theorem qlv (x:dens qfx) (_:qjc x=true):(qcB x).val=some (qbb x):=PO.sure_ok default (by simp[qcB,PO.sure])
abbrev qeT:List Ty:=[(.int .i64)]
abbrev qgJ:Sh:=Sh.tup (Sh.pair (Sh.ty tOp) (Sh.pair (Sh.ty Ty.bool) (Sh.ty Ty.unit)))
def qZ (x:dens qeT):PO (Sh.den qgJ) :=
 (.ite (x==1)
  (.ret (((-1,-1,-1,-1,0,0,()),true,())))
  (.ite (x==2)
  (.ret (((-1,-1,-1,-1,0,255,()),true,())))
  (.ite (bif x==3 then x==3 else x==4)
   (.ret (((12,-1,-1,-1,0,65535,()),true,())))
   (.ite (x==5)
   (.ret (((12,-1,12,-1,0,31,()),true,())))
   (.ite (bif x==6 then x==6 else bif x==7 then x==7 else x==8)
    (.ret (((12,-1,12,-1,1,31,()),true,())))
    (.ite (x==9)
    (.ret (((12,-1,12,-1,0,0,()),true,())))
    (.ite (bif x==10 then x==10 else bif x==11 then x==11 else bif x==12 then x==12 else bif x==13 then x==13 else bif x==14 then x==14 else bif x==15 then x==15 else x==16)
     (.ret (((12,12,12,-1,0,0,()),true,())))
     (.ite (x==17)
     (.ret (((12,12,12,12,0,0,()),true,())))
     (.ite (x==18)
      (.ret (((12,12,-1,32,0,31,()),true,())))
      (.ite (bif x==19 then x==19 else bif x==20 then x==20 else bif x==21 then x==21 else x==22)
      (.ret (((7,7,-1,-1,0,0,()),true,())))
      (.ite (x==23)
       (.ret (((-1,7,7,-1,0,0,()),true,())))
       (.ret (((0,0,0,0,0,0,()),false,()))))))))))))))
def qiA (_:dens qeT):Bool:=true
def qz (x:dens qeT):Sh.den qgJ:=(qZ x).getO default
theorem qk5 (x:dens qeT) (_:qiA x=true):(qZ x).val=some (qz x):=PO.sure_ok default (by simp[qZ,PO.sure])
abbrev qfL:List Ty:=[(.int .i64),.bool]
abbrev qho:Sh:=Sh.tup (Sh.pair (Sh.ty (Ty.int IntKind.i64)) (Sh.pair (Sh.ty (Ty.int IntKind.i64)) (Sh.ty Ty.unit)))
def qc2 (x:dens qfL):PO (Sh.den qho) :=
 (.ite (x.1==24)
  (.ret ((w64 (0-bif x.2 then 16777216 else 2048),w64 ((bif x.2 then 16777216 else 2048)-2),())))
  (.ite (x.1==25)
  (.ret ((w64 (0-bif x.2 then 1048576 else 256),w64 ((bif x.2 then 1048576 else 256)-2),())))
  (.ret ((0,0,())))))
def qje (_:dens qfL):Bool:=true
def qN (x:dens qfL):Sh.den qho:=(qc2 x).getO default
theorem qlt (x:dens qfL) (_:qje x=true):(qc2 x).val=some (qN x):=PO.sure_ok default (by simp[qc2,PO.sure])
abbrev qeW:List Ty:=[tIns]
abbrev qgt:Sh:=Sh.ty (Ty.int IntKind.i64)
def qcM (x:dens qeW):PO (Sh.den qgt) :=
 (.ite (x.2.1 != 0||(x.2.2.1 != 0||(x.2.2.2.1 != 0||(x.2.2.2.2.1 != 0||bif x.1==24 then x.2.2.2.2.2.2.1 != 0||true else true))))
  (.ite (x.2.1 != 0||(x.2.2.1 != 0||(x.2.2.2.1 != 0||(x.2.2.2.2.1 != 0||bif x.1==24 then x.2.2.2.2.2.2.1 != 0||!qT (x.2.2.2.2.2.2.1,0,13) else !qT (x.2.2.2.2.2.2.1,0,13)))))
  (.ret (2))
  (.ite (band IntKind.i64 x.2.2.2.2.2.1 1 != 0||true)
   (.ite (band IntKind.i64 x.2.2.2.2.2.1 1 != 0||!qT (x.2.2.2.2.2.1,(qN (x.1,x.2.2.2.2.2.2.2.1)).1,(qN (x.1,x.2.2.2.2.2.2.2.1)).2.1))
   (.ret (6))
   (.ret (0)))
   .fail))
  .fail)
def qir (_:dens qeW):Bool:=true
def qcN (x:dens qeW):Sh.den qgt:=(qcM x).getO default
theorem qk1 (x:dens qeW) (_:qir x=true):(qcM x).val=some (qcN x):=PO.tots_ok default (by simp[qcM,PO.tots])
abbrev qfz:List Ty:=[tIns]
abbrev qhm:Sh:=Sh.ty (Ty.int IntKind.i64)
def qV (x:dens qfz):PO (Sh.den qhm) :=
 (.ite (x.1==24||x.1==25)
  (.ret (qcN x))
  (.ite (!(qz x.1).2.1||(x.2.2.2.2.2.2.2.1||(x.2.2.2.2.2.2.1 != 0||true)))
  (.ite (!(qz x.1).2.1||(x.2.2.2.2.2.2.2.1||(x.2.2.2.2.2.2.1 != 0||!qT (x.2.2.2.2.2.1,(qz x.1).1.2.2.2.2.1,(qz x.1).1.2.2.2.2.2.1))))
   (.ret (2))
   (.ite (!qbb (x.2.1,(qz x.1).1.1)||(!qbb (x.2.2.1,(qz x.1).1.2.1)||(!qbb (x.2.2.2.1,(qz x.1).1.2.2.1)||true)))
   (.ite (!qbb (x.2.1,(qz x.1).1.1)||(!qbb (x.2.2.1,(qz x.1).1.2.1)||(!qbb (x.2.2.2.1,(qz x.1).1.2.2.1)||!qbb (x.2.2.2.2.1,(qz x.1).1.2.2.2.1))))
    (.ret (2))
    (.ite (bif x.1==17 then x.2.2.2.2.1==x.2.1||(x.1==18||true) else x.1==18||true)
    (.ite (bif x.1==17 then x.2.2.2.2.1==x.2.1||x.1==18&&!qT (x.2.2.2.2.1,1,w64 (32-x.2.2.2.2.2.1)) else x.1==18&&!qT (x.2.2.2.2.1,1,w64 (32-x.2.2.2.2.2.1)))
     (.ret (2))
     (.ret (0)))
    .fail))
   .fail))
  .fail))
def qja (_:dens qfz):Bool:=true
def qd (x:dens qfz):Sh.den qhm:=(qV x).getO default
theorem qly (x:dens qfz) (_:qja x=true):(qV x).val=some (qd x):=PO.tots_ok default (by simp[qV,PO.tots])
end Go.Av
end
section
namespace Go.Av
open Go
abbrev qin:List Ty:=[(.int .i64)]
abbrev qio:Sh:=Sh.ty Ty.str
def qfS (x:dens qin):PO (Sh.den qio) :=
 (.ite (x==13)
  (.ret ([49,49,49,48,49,48,49,48,49,48,48,48,110,110,110,110,48,48,48,48,100,100,100,100,48,48,48,48,109,109,109,109]))
  (.ite (x==14)
  (.ret ([49,49,49,48,49,48,49,49,48,48,48,48,110,110,110,110,48,48,48,48,100,100,100,100,48,48,48,48,109,109,109,109]))
  (.ite (x==15)
   (.ret ([49,49,49,48,49,48,49,49,49,48,49,48,110,110,110,110,48,48,48,48,100,100,100,100,48,48,48,48,109,109,109,109]))
   (.ite (x==16)
   (.ret ([49,49,49,49,49,48,49,49,48,48,48,48,110,110,110,110,49,49,49,49,100,100,100,100,48,48,48,48,109,109,109,109]))
   (.ite (x==17)
    (.ret ([49,49,49,49,49,48,49,49,49,48,49,48,110,110,110,110,100,100,100,100,97,97,97,97,48,48,48,48,109,109,109,109]))
    (.ite (x==18)
    (.ret ([49,49,49,49,48,48,49,49,48,49,49,48,110,110,110,110,48,69,68,67,100,100,100,100,66,65,48,119,119,119,119,119]))
    (.ite (x==19)
     (.ret ([48,49,49,48,49,48,48,48,48,48,110,110,110,100,100,100]))
     (.ite (x==20)
     (.ret ([48,49,49,48,48,48,48,48,48,48,110,110,110,100,100,100]))
     (.ite (x==21)
      (.ret ([48,49,49,49,49,48,48,48,48,48,110,110,110,100,100,100]))
      (.ite (x==22)
      (.ret ([48,49,49,49,48,48,48,48,48,48,110,110,110,100,100,100]))
      (.ite (x==23)
       (.ret ([48,49,48,48,48,48,49,48,49,48,109,109,109,110,110,110]))
       (.ite (x==24)
       (.ret ([49,49,49,48,48,76,75,74,73,72,71,70,69,68,67,66]))
       (.ite (x==25)
        (.ret ([49,49,48,49,99,99,99,99,73,72,71,70,69,68,67,66]))
        (.ret ([])))))))))))))))
def qfR (x:dens qin):Sh.den qio:=(qfS x).getO default
abbrev qip:List Ty:=[(.int .i64),.bool]
abbrev qiq:Sh:=Sh.ty Ty.str
def qfT (x:dens qip):PO (Sh.den qiq) :=
 (.ite (x.2)
  (.ite (x.1==24)
  (.ret ([49,49,49,49,48,89,86,85,84,83,82,81,80,79,78,77,49,48,120,49,121,76,75,74,73,72,71,70,69,68,67,66]))
  (.ite (x.1==25)
   (.ret ([49,49,49,49,48,85,99,99,99,99,82,81,80,79,78,77,49,48,83,48,84,76,75,74,73,72,71,70,69,68,67,66]))
   (.ret ([]))))
  (.ite (x.1==1)
  (.ret ([49,48,49,49,49,49,49,49,48,48,48,48,48,48,48,48]))
  (.ite (x.1==2)
   (.ret ([49,48,49,49,49,49,49,48,72,71,70,69,68,67,66,65]))
   (.ite (x.1==3)
   (.ret ([49,49,49,49,48,76,49,48,48,49,48,48,80,79,78,77,48,75,74,73,100,100,100,100,72,71,70,69,68,67,66,65]))
   (.ite (x.1==4)
    (.ret ([49,49,49,49,48,76,49,48,49,49,48,48,80,79,78,77,48,75,74,73,100,100,100,100,72,71,70,69,68,67,66,65]))
    (.ite (x.1==5)
    (.ret ([49,49,49,48,49,48,49,48,48,49,48,48,49,49,49,49,48,69,68,67,100,100,100,100,66,65,48,48,109,109,109,109]))
    (.ite (x.1==6)
     (.ret ([49,49,49,48,49,48,49,48,48,49,48,48,49,49,49,49,48,69,68,67,100,100,100,100,66,65,48,49,109,109,109,109]))
     (.ite (x.1==7)
     (.ret ([49,49,49,48,49,48,49,48,48,49,48,48,49,49,49,49,48,69,68,67,100,100,100,100,66,65,49,48,109,109,109,109]))
     (.ite (x.1==8)
      (.ret ([49,49,49,48,49,48,49,48,48,49,48,48,49,49,49,49,48,69,68,67,100,100,100,100,66,65,49,49,109,109,109,109]))
      (.ite (x.1==9)
      (.ret ([49,49,49,48,49,48,49,48,48,49,49,48,49,49,49,49,48,48,48,48,100,100,100,100,48,48,48,48,109,109,109,109]))
      (.ite (x.1==10)
       (.ret ([49,49,49,48,49,48,49,48,48,48,48,48,110,110,110,110,48,48,48,48,100,100,100,100,48,48,48,48,109,109,109,109]))
       (.ite (x.1==11)
       (.ret ([49,49,49,48,49,48,49,48,48,48,49,48,110,110,110,110,48,48,48,48,100,100,100,100,48,48,48,48,109,109,109,109]))
       (.ite (x.1==12)
        (.ret ([49,49,49,48,49,48,49,48,48,49,48,48,110,110,110,110,48,48,48,48,100,100,100,100,48,48,48,48,109,109,109,109]))
        (.ret (qfR x.1)))))))))))))))
def qg (x:dens qip):Sh.den qiq:=(qfT x).getO default
abbrev qiT:List Ty:=[.str,(.int .u8)]
abbrev qku:Sh:=Sh.ty Ty.bool
def qiU (x:dens qiT):Bool:=decide (List.length x.1<4611686018427387904)
def qiX (x:dens qiT):Sh.den qku:=List.any x.1 fun b=>u8I b==x.2
abbrev qgj:List Ty:=[.str,(.int .u8),(.int .i64)]
abbrev qiR:Sh:=Sh.ty Ty.bool
def qes (x:dens qgj):PO (Sh.den qiR) :=
 (.ite (qiU (x.1,x.2.1))
  (.ite (!qiX (x.1,x.2.1))
  (.ret (x.2.2==0))
  (.ret (decide (x.2.2≥0)&&decide (x.2.2≤bif lenI x.1==16 then 7 else 12))))
  .fail)
def qcE (x:dens qgj):Bool:=(qes x).val.isSome
def qbn (x:dens qgj):Sh.den qiR:=(qes x).getO default
abbrev qh0:List Ty:=[(.int .i64),.bool]
abbrev qhY:Sh:=Sh.tup (Sh.pair (Sh.ty (Ty.int IntKind.i64)) (Sh.pair (Sh.ty (Ty.int IntKind.i64)) (Sh.ty Ty.unit)))
def qhL (x:dens qh0):PO (Sh.den qhY) :=
 (.ret ((w64 (0-bif x.1==24&&!x.2 then 2048 else bif x.1==24 then 16777216 else bif x.1==25&&!x.2 then 256 else bif x.1==25 then 1048576 else 0),imax 0 (w64 ((bif x.1==24&&!x.2 then 2048 else bif x.1==24 then 16777216 else bif x.1==25&&!x.2 then 256 else bif x.1==25 then 1048576 else 0)-2)),())))
def qcW (x:dens qh0):Sh.den qhY:=(qhL x).getO default
abbrev qht:List Ty:=[tIns]
abbrev qhu:Sh:=Sh.ty Ty.bool
def qhw (x:dens qht):PO (Sh.den qhu) :=
 (.ite (x.1==2)
  (.ret (decide (x.2.2.2.2.2.1≥0)&&decide (x.2.2.2.2.2.1≤255)))
  (.ite (bif x.1==3 then x.1==3 else x.1==4)
  (.ret (decide (x.2.2.2.2.2.1≥0)&&decide (x.2.2.2.2.2.1≤65535)))
  (.ite (bif x.1==5 then x.1==5 else x.1==18)
   (.ret (decide (x.2.2.2.2.2.1≥0)&&decide (x.2.2.2.2.2.1≤31)))
   (.ite (bif x.1==6 then x.1==6 else bif x.1==7 then x.1==7 else x.1==8)
   (.ret (decide (x.2.2.2.2.2.1≥1)&&decide (x.2.2.2.2.2.1≤31)))
   (.ite (bif x.1==24 then x.1==24 else x.1==25)
    (.ret (true))
    (.ret (decide (x.2.2.2.2.2.1≥0)&&decide (x.2.2.2.2.2.1≤0))))))))
def qeZ (x:dens qht):Sh.den qhu:=(qhw x).getO default
abbrev qff:List Ty:=[tIns]
abbrev qh1:Sh:=Sh.ty (Ty.int IntKind.i64)
def qdM (x:dens qff):PO (Sh.den qh1) :=
 (.ite (qg (x.1,x.2.2.2.2.2.2.2.1)==[]||(!qeZ x||qcE (qg (x.1,x.2.2.2.2.2.2.2.1),100,x.2.1)&&(!qbn (qg (x.1,x.2.2.2.2.2.2.2.1),100,x.2.1)||qcE (qg (x.1,x.2.2.2.2.2.2.2.1),110,x.2.2.1)&&(!qbn (qg (x.1,x.2.2.2.2.2.2.2.1),110,x.2.2.1)||qcE (qg (x.1,x.2.2.2.2.2.2.2.1),109,x.2.2.2.1)&&(!qbn (qg (x.1,x.2.2.2.2.2.2.2.1),109,x.2.2.2.1)||qcE (qg (x.1,x.2.2.2.2.2.2.2.1),97,bif x.1==18 then 0 else x.2.2.2.2.1))))))
  (.ite (qg (x.1,x.2.2.2.2.2.2.2.1)==[]||(!qeZ x||(!qbn (qg (x.1,x.2.2.2.2.2.2.2.1),100,x.2.1)||(!qbn (qg (x.1,x.2.2.2.2.2.2.2.1),110,x.2.2.1)||(!qbn (qg (x.1,x.2.2.2.2.2.2.2.1),109,x.2.2.2.1)||!qbn (qg (x.1,x.2.2.2.2.2.2.2.1),97,bif x.1==18 then 0 else x.2.2.2.2.1))))))
  (.ret (2))
  (.ite (bif x.1==18 then decide (x.2.2.2.2.1<1)||(decide (x.2.2.2.2.1 > w64 (32-x.2.2.2.2.2.1))||x.1==17&&x.2.2.2.2.1==x.2.1) else x.1==17&&x.2.2.2.2.1==x.2.1)
   (.ret (2))
   (.ite (bif x.1==25 then decide (x.2.2.2.2.2.2.1<0)||(decide (x.2.2.2.2.2.2.1 > 13)||x.1 != 25&&x.2.2.2.2.2.2.1 != 0) else x.1 != 25&&x.2.2.2.2.2.2.1 != 0)
   (.ret (2))
   (.ite (bif x.1==24 then Int.tmod x.2.2.2.2.2.1 2 != 0||(decide (x.2.2.2.2.2.1<(qcW (x.1,x.2.2.2.2.2.2.2.1)).1)||decide (x.2.2.2.2.2.1 > (qcW (x.1,x.2.2.2.2.2.2.2.1)).2.1)) else x.1==25&&(Int.tmod x.2.2.2.2.2.1 2 != 0||(decide (x.2.2.2.2.2.1<(qcW (x.1,x.2.2.2.2.2.2.2.1)).1)||decide (x.2.2.2.2.2.1 > (qcW (x.1,x.2.2.2.2.2.2.2.1)).2.1))))
    (.ret (6))
    (.ret (0))))))
  .fail)
def qfg (x:dens qff):Bool:=(qdM x).val.isSome
def qdF (x:dens qff):Sh.den qh1:=(qdM x).getO default
end Go.Av
end
section
namespace Go.Av
open Go
theorem op_cases (n:Int):n=1∨n=2∨n=3∨n=4∨n=5∨n=6∨n=7∨n=8∨n=9∨n=10∨n=11∨n=12∨n=13∨n=14∨n=15∨n=16∨n=17∨n=18∨n=19∨n=20∨n=21∨n=22∨n=23∨n=24∨n=25∨(n<1∨25<n):=by omega
theorem op_none {n k:Int} (h:n<1∨25<n) (hk:1≤k∧k≤25):(n==k)=false:=by
 rw[beq_eq_false_iff_ne]
 omega
theorem bits_none {n:Int} (h:n<1∨25<n) (w:Bool):qg (n,w)=[]:=by
 have e:=fun k hk=>op_none (n:=n) (k:=k) h hk
 cases w<;>simp[qg,qfT,qfR,qfS,PO.getO,PO.val,e]
theorem bits_len (n:Int) (w:Bool):(qg (n,w)).length≤32:=by
 rcases op_cases n with rfl |rfl |rfl |rfl |rfl |rfl |rfl |rfl |rfl |rfl |rfl |rfl |rfl |rfl |rfl |rfl |rfl |rfl |rfl |rfl |rfl |rfl |rfl |rfl |rfl |h
 case inr.inr.inr.inr.inr.inr.inr.inr.inr.inr.inr.inr.inr.inr.inr.inr.inr.inr.inr.inr.inr.inr.inr.inr.inr=>rw[bits_none h];simp
 all_goals (cases w<;>decide)
theorem has_ok (n:Int) (w:Bool) (c:Int):qiU (qg (n,w),c)=true:=by
 have:=bits_len n w
 exact dec_true (show List.length (qg (n,w))<_ by omega)
theorem reg_val (n:Int) (w:Bool) (c r:Int):(qes (qg (n,w),c,r)).val=some (bif List.any (qg (n,w)) (fun b=>u8I b==c) then decide (r≥0)&&decide (r≤bif (lenI (qg (n,w))==16) then 7 else 12) else r==0):=by
 simp only[qes,PO.val,qiX]
 rw[has_ok]
 cases List.any (qg (n,w)) (fun b=>u8I b==c)<;>rfl
theorem reg_ok (n:Int) (w:Bool) (c r:Int):qcE (qg (n,w),c,r)=true:=by
 rw[qcE,reg_val];rfl
theorem reg_eq (n:Int) (w:Bool) (c r:Int):qbn (qg (n,w),c,r)=(bif List.any (qg (n,w)) (fun b=>u8I b==c) then decide (r≥0)&&decide (r≤bif (lenI (qg (n,w))==16) then 7 else 12) else r==0):=by
 rw[qbn,PO.getO,reg_val];rfl
theorem some_cond {α:Type} (b:Bool) (x y:Option α) (hx:x.isSome=true) (hy:y.isSome=true):(bif b then x else y).isSome=true:=by
 cases b<;>assumption
theorem check_ok (x:tIns.den):qfg x=true:=by
 obtain⟨op,rd,rn,rm,ra,imm,cond,w,u⟩:=x
 unfold qfg qdM
 simp only[PO.val]
 rw[reg_ok,reg_ok,reg_ok,reg_ok]
 simp only[Bool.or_true,Bool.and_true,cond_true]
 repeat' (first|rfl |apply some_cond)
theorem even_i64 (n:Int):(band .i64 n 1 != 0)=(Int.tmod n 2 != 0):=by
 have h:band .i64 n 1=n % 2:=band_low n 1 (by omega)
 rw[h,Bool.eq_iff_iff]
 simp only[bne_iff_ne,ne_eq]
 exact not_congr ((Int.dvd_iff_emod_eq_zero (a:=2) (b:=n)).symm.trans Int.dvd_iff_tmod_eq_zero)
theorem left_same (imm:Int) (h1:0≤imm) (h2:imm≤31):w64 (32-imm)=32-imm:=w64_id (by omega) (by omega)
set_option maxHeartbeats 4000000 in
theorem check_same (x:tIns.den):qd x=qdF x:=by
 obtain⟨op,rd,rn,rm,ra,imm,cond,w,u⟩:=x
 have hw:=left_same imm
 have w1:w64 (-2048)=-2048:=rfl
 have w2:w64 2046=2046:=rfl
 have w3:w64 (-16777216)=-16777216:=rfl
 have w4:w64 16777214=16777214:=rfl
 have w5:w64 (-256)=-256:=rfl
 have w6:w64 254=254:=rfl
 have w7:w64 (-1048576)=-1048576:=rfl
 have w8:w64 1048574=1048574:=rfl
 have m1:imax 0 2046=2046:=rfl
 have m2:imax 0 16777214=16777214:=rfl
 have m3:imax 0 254=254:=rfl
 have m4:imax 0 1048574=1048574:=rfl
 unfold qdF qdM
 dsimp only[PO.getO,PO.val]
 rw[reg_ok,reg_ok,reg_ok,reg_ok,reg_eq,reg_eq,reg_eq,reg_eq]
 rcases op_cases op with rfl |rfl |rfl |rfl |rfl |rfl |rfl |rfl |rfl |rfl |rfl |rfl |rfl |rfl |rfl |rfl |rfl |rfl |rfl |rfl |rfl |rfl |rfl |rfl |rfl |hop
 case inr.inr.inr.inr.inr.inr.inr.inr.inr.inr.inr.inr.inr.inr.inr.inr.inr.inr.inr.inr.inr.inr.inr.inr.inr =>
  rw[bits_none hop]
  have e:=fun k hk=>op_none (n:=op) (k:=k) hop hk
  simp[qd,qV,qz,qZ,PO.getO,PO.val,e]
 all_goals
  cases w <;>
  simp[qg,qfT,qfR,qfS,qd,qV,qz,qZ,qbb,qcB,qT,qbz,PO.getO,PO.val,qeZ,qhw,u8I,lenI,qcN,qcM,qN,qc2,qcW,qhL,even_i64,w1,w2,w3,w4,w5,w6,w7,w8,m1,m2,m3,m4]<;>grind
end Go.Av
end
section
namespace Go.Av
open Go
def wn (n:Int):Nat:=(n % 4294967296).toNat
theorem wn_int (n:Int):(wn n:Int)=n % 4294967296:=by unfold wn;omega
theorem wn_lt (n:Int):wn n<4294967296:=by unfold wn;omega
theorem wn_nat {k:Nat} (h:k<4294967296):wn (k:Int)=k:=by unfold wn;omega
theorem wn_wn (n:Int):wn (wn n:Int)=wn n:=wn_nat (wn_lt n)
theorem band_32 (n:Int):band .i64 n 4294967295=n % 4294967296:=band_low n 32 (by omega)
theorem band_31 (n:Int):band .i64 n 31=n % 32:=band_low n 5 (by omega)
theorem band_one (n:Int):band .i64 n 1=n % 2:=band_low n 1 (by omega)
theorem w64_mod (n:Int):w64 n % 4294967296=n % 4294967296:=by
 rw[w64_eq];split<;>omega
theorem wn_w64 (n:Nat):wn (w64 (n:Int))=n % 4294967296:=by unfold wn;rw[w64_mod];omega
theorem ofInt_mod (n:Int):(BitVec.ofInt 64 n).toNat % 4294967296=wn n:=by
 have:=ofInt_toNat 64 n
 unfold wn
 omega
abbrev qgU:List Ty:=[(.int .i64)]
abbrev qiI:Sh:=Sh.ty (Ty.int IntKind.i64)
def qkE (x:dens qgU):PO (Sh.den qiI) :=
 (.ret (band IntKind.i64 x 4294967295))
def qjV (_:dens qgU):Bool:=true
def qr (x:dens qgU):Sh.den qiI:=(wn x:Int)
theorem qlR (x:dens qgU) (_:qjV x=true):(qkE x).val=some (qr x):=by
 show some _=some _
 rw[band_32,qr,wn_int]
def kk (n:Int):Nat:=(n % 32).toNat
theorem kk_int (n:Int):(kk n:Int)=n % 32:=by unfold kk;omega
theorem kk_lt (n:Int):kk n<32:=by unfold kk;omega
abbrev qgX:List Ty:=[(.int .i64)]
abbrev qiG:Sh:=Sh.ty (Ty.int IntKind.i64)
def qkF (x:dens qgX):PO (Sh.den qiG) :=
 (.ret (band IntKind.i64 x 31))
def qjT (_:dens qgX):Bool:=true
def qbi (x:dens qgX):Sh.den qiG:=(kk x:Int)
theorem qlT (x:dens qgX) (_:qjT x=true):(qkF x).val=some (qbi x):=by
 show some _=some _
 rw[band_31,qbi,kk_int]
abbrev qih:List Ty:=[(.int .i64),(.int .i64)]
abbrev qjk:Sh:=Sh.ty (Ty.int IntKind.i64)
def qkT (x:dens qih):PO (Sh.den qjk) :=
 (.ret (qr (w64 (x.1+x.2))))
def qkl (_:dens qih):Bool:=true
def qdf (x:dens qih):Sh.den qjk:=(wn (x.1+x.2):Int)
theorem ql5 (x:dens qih) (_:qkl x=true):(qkT x).val=some (qdf x):=by
 show some _=some _
 rw[qr,qdf,wn_int,wn_int,w64_mod]
abbrev qhB:List Ty:=[(.int .i64),(.int .i64)]
abbrev qjt:Sh:=Sh.ty (Ty.int IntKind.i64)
def qk8 (x:dens qhB):PO (Sh.den qjt) :=
 (.ret (qr (w64 (x.1-x.2))))
def qkg (_:dens qhB):Bool:=true
def qdL (x:dens qhB):Sh.den qjt:=(wn (x.1-x.2):Int)
theorem ql9 (x:dens qhB) (_:qkg x=true):(qk8 x).val=some (qdL x):=by
 show some _=some _
 rw[qr,qdL,wn_int,wn_int,w64_mod]
abbrev qe1:List Ty:=[(.int .i64),(.int .i64)]
abbrev qgr:Sh:=Sh.ty (Ty.int IntKind.u64)
def qj6 (x:dens qe1):PO (Sh.den qgr) :=
 (.ret (IntKind.wrap IntKind.u64 (IntKind.wrap IntKind.u64 (qr x.1)*IntKind.wrap IntKind.u64 (qr x.2))))
def qiv (_:dens qe1):Bool:=true
def qcK (x:dens qe1):Sh.den qgr:=((wn x.1*wn x.2:Nat):Int)
theorem qlg (x:dens qe1) (_:qiv x=true):(qj6 x).val=some (qcK x):=by
 show some _=some _
 have h1:=wn_lt x.1
 have h2:=wn_lt x.2
 have h3:wn x.1*wn x.2≤4294967295*4294967295:=Nat.mul_le_mul (by omega) (by omega)
 rw[qcK]
 simp only[qr,u64_wrap]
 rw[Int.emod_eq_of_lt (a:=(wn x.1:Int)) (by omega) (by omega),Int.emod_eq_of_lt (a:=(wn x.2:Int)) (by omega) (by omega)]
 have e:(wn x.1:Int)*(wn x.2:Int)=((wn x.1*wn x.2:Nat):Int):=by simp
 rw[e,Int.emod_eq_of_lt (by omega) (by omega)]
theorem wn_eq {a b:Int} (h:a % 4294967296=b % 4294967296):wn a=wn b:=by unfold wn;rw[h]
theorem mul_lt (a b:Int):wn a*wn b≤18446744065119617025:=by
 have h1:=wn_lt a
 have h2:=wn_lt b
 exact Nat.mul_le_mul (show wn a≤4294967295 by omega) (show wn b≤4294967295 by omega)
theorem ofInt_nat {m:Nat} (h:m<18446744073709551616):(BitVec.ofInt 64 (m:Int)).toNat=m:=by
 have:=ofInt_toNat 64 m
 omega
theorem band_u64 {m:Nat} (h:m<18446744073709551616):band .u64 (m:Int) 4294967295=((m % 4294967296:Nat):Int):=by
 show IntKind.u64.wrap (BitVec.ofInt 64 (m:Int) &&& BitVec.ofInt 64 4294967295).toNat=_
 rw[BitVec.toNat_and,ofInt_nat h,show(BitVec.ofInt 64 4294967295).toNat=2 ^ 32-1 from by decide,Nat.and_two_pow_sub_one_eq_mod,u64_wrap]
 omega
theorem and_wn (a b:Int):wn (band .i64 a b)=wn a &&& wn b:=by
 show wn (w64 (BitVec.ofInt 64 a &&& BitVec.ofInt 64 b).toNat)=_
 rw[wn_w64,BitVec.toNat_and,show(4294967296:Nat)=2 ^ 32 from rfl,Nat.and_mod_two_pow,←ofInt_mod a,←ofInt_mod b]
theorem or_wn (a b:Int):wn (bor .i64 a b)=wn a |||wn b:=by
 show wn (w64 (BitVec.ofInt 64 a |||BitVec.ofInt 64 b).toNat)=_
 rw[wn_w64,BitVec.toNat_or,show(4294967296:Nat)=2 ^ 32 from rfl,Nat.or_mod_two_pow,←ofInt_mod a,←ofInt_mod b]
theorem xor_wn (a b:Int):wn (bxor .i64 a b)=wn a ^^^ wn b:=by
 show wn (w64 (BitVec.ofInt 64 a ^^^ BitVec.ofInt 64 b).toNat)=_
 rw[wn_w64,BitVec.toNat_xor,show(4294967296:Nat)=2 ^ 32 from rfl,Nat.xor_mod_two_pow,←ofInt_mod a,←ofInt_mod b]
theorem not_wn (a:Int):wn (icompl .i64 a)=4294967295-wn a:=by
 have e:icompl .i64 a=w64 (BitVec.ofInt 64 (-1) ^^^ BitVec.ofInt 64 a).toNat:=by
  unfold icompl
  rw[if_pos (by rfl)]
  rfl
 rw[e,show BitVec.ofInt 64 (-1)=BitVec.allOnes 64 from by decide,BitVec.allOnes_xor,wn_w64,BitVec.toNat_not,←ofInt_mod a]
 have:=(BitVec.ofInt 64 a).isLt
 omega
theorem bnot_wn (a b:Int):wn (bnot .i64 a b)=wn a &&& (4294967295-wn b):=by
 show wn (w64 (BitVec.ofInt 64 a &&& ~~~(BitVec.ofInt 64 b)).toNat)=_
 rw[wn_w64,BitVec.toNat_and,show(4294967296:Nat)=2 ^ 32 from rfl,Nat.and_mod_two_pow,BitVec.toNat_not,←ofInt_mod a,←ofInt_mod b]
 have:=(BitVec.ofInt 64 b).isLt
 congr 1
 omega
theorem ishl_nat (a:Int) (k:Nat) (hk:k≤64):ishl .i64 a (k:Int)=w64 (a*2 ^ k):=by
 unfold ishl
 have:min (k:Int).toNat IntKind.i64.bits=k:=by simp[IntKind.bits];omega
 rw[this]
theorem pow_lt {k n:Nat} (h:k≤n):2 ^ k≤2 ^ n:=Nat.pow_le_pow_right (by omega) h
theorem shl_wn (a:Nat) (k:Nat) (hk:k≤64):wn (ishl .i64 (a:Int) (k:Int))=a*2 ^ k % 4294967296:=by
 rw[ishl_nat _ _ hk,show(a:Int)*2 ^ k=((a*2 ^ k:Nat):Int) by simp,wn_w64]
abbrev qhH:List Ty:=[(.int .i64),(.int .i64)]
abbrev qjw:Sh:=Sh.ty (Ty.int IntKind.i64)
def qkX (x:dens qhH):PO (Sh.den qjw) :=
 (.ret (w64 (band IntKind.u64 (qcK (x.1,x.2)) 4294967295)))
def qkh (_:dens qhH):Bool:=true
def qeq (x:dens qhH):Sh.den qjw:=((wn x.1*wn x.2 % 4294967296:Nat):Int)
theorem qma (x:dens qhH) (_:qkh x=true):(qkX x).val=some (qeq x):=by
 show some _=some _
 have h:=mul_lt x.1 x.2
 simp only[qcK,qeq]
 rw[band_u64 (by omega),w64_id (by omega) (by omega)]
abbrev qgT:List Ty:=[(.int .i64),(.int .i64)]
abbrev qiE:Sh:=Sh.ty (Ty.int IntKind.i64)
def qkC (x:dens qgT):PO (Sh.den qiE) :=
 (.ret (w64 (ishr IntKind.u64 (qcK (x.1,x.2)) 32)))
def qj1 (_:dens qgT):Bool:=true
def qfQ (x:dens qgT):Sh.den qiE:=((wn x.1*wn x.2 / 4294967296:Nat):Int)
theorem qlX (x:dens qgT) (_:qj1 x=true):(qkC x).val=some (qfQ x):=by
 show some _=some _
 have h:=mul_lt x.1 x.2
 simp only[qcK,qfQ]
 have e:ishr .u64 ((wn x.1*wn x.2:Nat):Int) 32=((wn x.1*wn x.2 / 4294967296:Nat):Int):=by
  unfold ishr
  rw[show min (32:Int).toNat IntKind.u64.bits=32 from rfl,Int.fdiv_eq_ediv_of_nonneg _ (by omega)]
  omega
 rw[e,w64_id (by omega) (by omega)]
abbrev qhR:List Ty:=[(.int .i64)]
abbrev qjo:Sh:=Sh.ty (Ty.int IntKind.i64)
def qlf (x:dens qhR):PO (Sh.den qjo) :=
 (.ret (qr (icompl IntKind.i64 x)))
def qki (_:dens qhR):Bool:=true
def qbu (x:dens qhR):Sh.den qjo:=((4294967295-wn x:Nat):Int)
theorem qmd (x:dens qhR) (_:qki x=true):(qlf x).val=some (qbu x):=by
 show some _=some _
 rw[qr,qbu,not_wn]
abbrev qim:List Ty:=[(.int .i64),(.int .i64)]
abbrev qjr:Sh:=Sh.ty (Ty.int IntKind.i64)
def qkY (x:dens qim):PO (Sh.den qjr) :=
 (.ret (qr (band IntKind.i64 x.1 x.2)))
def qkf (_:dens qim):Bool:=true
def qem (x:dens qim):Sh.den qjr:=((wn x.1 &&& wn x.2:Nat):Int)
theorem qmf (x:dens qim) (_:qkf x=true):(qkY x).val=some (qem x):=by
 show some _=some _
 rw[qr,qem,and_wn]
abbrev qiW:List Ty:=[(.int .i64),(.int .i64)]
abbrev qjP:Sh:=Sh.ty (Ty.int IntKind.i64)
def qlB (x:dens qiW):PO (Sh.den qjP) :=
 (.ret (qr (bor IntKind.i64 x.1 x.2)))
def qkw (_:dens qiW):Bool:=true
def qeE (x:dens qiW):Sh.den qjP:=((wn x.1 |||wn x.2:Nat):Int)
theorem qmj (x:dens qiW) (_:qkw x=true):(qlB x).val=some (qeE x):=by
 show some _=some _
 rw[qr,qeE,or_wn]
abbrev qie:List Ty:=[(.int .i64),(.int .i64)]
abbrev qjh:Sh:=Sh.ty (Ty.int IntKind.i64)
def qk0 (x:dens qie):PO (Sh.den qjh) :=
 (.ret (qr (bxor IntKind.i64 x.1 x.2)))
def qkr (_:dens qie):Bool:=true
def qdj (x:dens qie):Sh.den qjh:=((wn x.1 ^^^ wn x.2:Nat):Int)
theorem qmb (x:dens qie) (_:qkr x=true):(qk0 x).val=some (qdj x):=by
 show some _=some _
 rw[qr,qdj,xor_wn]
abbrev qif:List Ty:=[(.int .i64),(.int .i64)]
abbrev qju:Sh:=Sh.ty (Ty.int IntKind.i64)
def qlb (x:dens qif):PO (Sh.den qju) :=
 (.ite (!decide (qbi x.2<0)&&true)
  (.ret (qr (ishl IntKind.i64 (qr x.1) (qbi x.2))))
  .fail)
def qko (_:dens qif):Bool:=true
def qgB (x:dens qif):Sh.den qju:=((wn x.1*2 ^ kk x.2 % 4294967296:Nat):Int)
theorem ql3 (x:dens qif) (_:qko x=true):(qlb x).val=some (qgB x):=by
 obtain⟨a,n⟩:=x
 have hk:=kk_lt n
 have hd:decide ((kk n:Int)<0)=false:=dec_false (by omega)
 show(bif !decide ((kk n:Int)<0)&&true then some ((wn (ishl .i64 (wn a:Int) (kk n:Int)):Nat):Int) else none)=some ((wn a*2 ^ kk n % 4294967296:Nat):Int)
 rw[hd,shl_wn _ _ (by omega)]
 rfl
abbrev qhF:List Ty:=[(.int .i64),(.int .i64)]
abbrev qjj:Sh:=Sh.ty (Ty.int IntKind.i64)
def qkW (x:dens qhF):PO (Sh.den qjj) :=
 (.ite (!decide (qbi x.2<0))
  (.ret (ishr IntKind.i64 (qr x.1) (qbi x.2)))
  .fail)
def qh2 (_:dens qhF):Bool:=true
def qeA (x:dens qhF):Sh.den qjj:=((wn x.1 / 2 ^ kk x.2:Nat):Int)
theorem ql2 (x:dens qhF) (_:qh2 x=true):(qkW x).val=some (qeA x):=by
 obtain⟨a,n⟩:=x
 have hk:=kk_lt n
 have hd:decide ((kk n:Int)<0)=false:=dec_false (by omega)
 show(bif !decide ((kk n:Int)<0) then some (ishr .i64 (wn a:Int) (kk n:Int)) else none)=some ((wn a / 2 ^ kk n:Nat):Int)
 rw[hd,ishr_i64 _ _ (by omega)]
 simp
abbrev qh9:List Ty:=[(.int .i64),(.int .i64)]
abbrev qjn:Sh:=Sh.ty (Ty.int IntKind.i64)
def qlh (x:dens qh9):PO (Sh.den qjn) :=
 (.ite (!decide (qbi x.2<0)&&true)
  (.ret (qr (ishr IntKind.i64 (w64 (IntKind.wrap IntKind.i32 (IntKind.wrap IntKind.u32 (qr x.1)))) (qbi x.2))))
  .fail)
def sw (m:Nat):Int:=if 2147483648≤m then(m:Int)-4294967296 else m
def qkj (_:dens qh9):Bool:=true
def qhQ (x:dens qh9):Sh.den qjn:=(wn (sw (wn x.1) / (2 ^ kk x.2:Nat)):Int)
theorem ql7 (x:dens qh9) (_:qkj x=true):(qlh x).val=some (qhQ x):=by
 obtain⟨a,n⟩:=x
 have hk:=kk_lt n
 have hl:=wn_lt a
 have e:w64 (IntKind.i32.wrap (IntKind.u32.wrap (wn a:Int)))=sw (wn a):=by
  rw[u32_wrap,i32_eq,Int.emod_emod_of_dvd _ (by decide),Int.emod_eq_of_lt (by omega) (by omega)]
  unfold sw
  split
  ·rw[if_pos (by omega),w64_id (by omega) (by omega)]
  ·rw[if_neg (by omega),w64_id (by omega) (by omega)]
 have hd:decide ((kk n:Int)<0)=false:=dec_false (by omega)
 show(bif !decide ((kk n:Int)<0)&&true then some ((wn (ishr .i64 (w64 (IntKind.i32.wrap (IntKind.u32.wrap (wn a:Int)))) (kk n:Int)):Nat):Int) else none)=some ((wn (sw (wn a) / (2 ^ kk n:Nat)):Nat):Int)
 rw[hd,e,ishr_i64 _ _ (by omega)]
 rfl
abbrev qik:List Ty:=[(.int .i64),(.int .i64)]
abbrev qjv:Sh:=Sh.ty (Ty.int IntKind.i64)
def qkU (x:dens qik):PO (Sh.den qjv) :=
 (.ite (qh2 (x.1,x.2)&&(!decide (w64 (32-qbi x.2)<0)&&true))
  (.ret (qeE (qeA (x.1,x.2),qr (ishl IntKind.i64 (qr x.1) (w64 (32-qbi x.2))))))
  .fail)
def qkp (_:dens qik):Bool:=true
def qhV (x:dens qik):Sh.den qjv:=((wn x.1 / 2 ^ kk x.2+wn x.1 % 2 ^ kk x.2*2 ^ (32-kk x.2):Nat):Int)
theorem ror_nat (m k:Nat) (hm:m<4294967296) (hk:k<32):m / 2 ^ k |||m*2 ^ (32-k) % 4294967296=m / 2 ^ k+m % 2 ^ k*2 ^ (32-k):=by
 have h0:2 ^ 32=2 ^ k*2 ^ (32-k):=by rw[←Nat.pow_add];congr 1;omega
 have h1:m*2 ^ (32-k) % 4294967296=m % 2 ^ k*2 ^ (32-k):=by
  rw[show(4294967296:Nat)=2 ^ 32 from rfl,h0,Nat.mul_mod_mul_right]
 have h2:m / 2 ^ k<2 ^ (32-k):=by
  rw[Nat.div_lt_iff_lt_mul (Nat.two_pow_pos k),Nat.mul_comm,←h0]
  omega
 rw[h1,Nat.or_comm,Nat.mul_comm (m % 2 ^ k),←Nat.two_pow_add_eq_or_of_lt h2,Nat.add_comm]
theorem ql6 (x:dens qik) (_:qkp x=true):(qkU x).val=some (qhV x):=by
 obtain⟨a,n⟩:=x
 have hk:=kk_lt n
 have hl:=wn_lt a
 have e1:w64 (32-(kk n:Int))=((32-kk n:Nat):Int):=by
  rw[w64_id (by omega) (by omega)];omega
 have hd:decide (w64 (32-(kk n:Int))<0)=false:=dec_false (by rw[e1];omega)
 have h1:wn a / 2 ^ kk n<4294967296:=Nat.lt_of_le_of_lt (Nat.div_le_self _ _) hl
 show(bif true&&(!decide (w64 (32-(kk n:Int))<0)&&true) then some ((wn ((wn a / 2 ^ kk n:Nat):Int) |||wn ((wn (ishl .i64 (wn a:Int) (w64 (32-(kk n:Int)))):Nat):Int):Nat):Int) else none)=some ((wn a / 2 ^ kk n+wn a % 2 ^ kk n*2 ^ (32-kk n):Nat):Int)
 rw[hd,e1,shl_wn _ _ (by omega),wn_nat h1,wn_nat (Nat.mod_lt _ (by omega)),ror_nat _ _ hl hk]
 rfl
abbrev qfu:List Ty:=[(.int .i64),(.int .i64),(.int .i64)]
abbrev qg7:Sh:=Sh.ty (Ty.int IntKind.i64)
def qks (x:dens qfu):PO (Sh.den qg7) :=
 (.ret (qeE (band IntKind.i64 x.2.1 x.1,bnot IntKind.i64 x.2.2 x.1)))
def qi4 (_:dens qfu):Bool:=true
def qfv (x:dens qfu):Sh.den qg7:=(((wn x.2.1 &&& wn x.1) |||(wn x.2.2 &&& (4294967295-wn x.1)):Nat):Int)
theorem qlo (x:dens qfu) (_:qi4 x=true):(qks x).val=some (qfv x):=by
 show some _=some _
 rw[qeE,qfv,and_wn,bnot_wn]
abbrev qhT:List Ty:=[(.int .i64),(.int .i64)]
abbrev qjf:Sh:=Sh.ty (Ty.int IntKind.i64)
def qle (x:dens qhT):PO (Sh.den qjf) :=
 (.ite (qh2 (x.1,x.2))
  (.ret (band IntKind.i64 (qeA (x.1,x.2)) 1))
  .fail)
def qkm (_:dens qhT):Bool:=true
def qgw (x:dens qhT):Sh.den qjf:=((wn x.1 / 2 ^ kk x.2 % 2:Nat):Int)
theorem ql4 (x:dens qhT) (_:qkm x=true):(qle x).val=some (qgw x):=by
 show some _=some _
 simp only[qeA,qgw]
 rw[band_one]
 simp
end Go.Av
end
section
namespace Go.Av
open Go
abbrev tpart:Ty:=.pair (.int .i64) (.pair (.int .i64) (.pair (.int .i64) (.pair (.int .i64) .unit)))
theorem w64_nat {k:Nat} (h:k<9223372036854775808):w64 (k:Int)=k:=w64_id (by omega) (by omega)
def fldN (n from_ many at_:Int):Nat:=(n / (2 ^ from_.toNat:Nat) % (2 ^ many.toNat:Nat)).toNat*2 ^ at_.toNat
def partOk (p:tpart.den):Bool:=(decide (0≤p.2.1)&&decide (p.2.1<64))&&((decide (0≤p.2.2.1)&&decide (p.2.2.1≤32))&&(decide (0≤p.2.2.2.1)&&decide (p.2.2.2.1≤16)))
def partN (p:tpart.den):Nat:=fldN p.1 p.2.1 p.2.2.1 p.2.2.2.1
theorem bor_nat {a b:Nat} (ha:a<9223372036854775808) (hb:b<9223372036854775808):bor .i64 (a:Int) (b:Int)=((a |||b:Nat):Int):=by
 show w64 (BitVec.ofInt 64 (a:Int) |||BitVec.ofInt 64 (b:Int)).toNat=_
 rw[BitVec.toNat_or,ofInt_nat (by omega),ofInt_nat (by omega)]
 have:a |||b<2 ^ 63:=Nat.or_lt_two_pow ha hb
 exact w64_id (by omega) (by omega)
theorem mod_pow_nat (n:Int) (k:Nat):0≤n % (2 ^ k:Nat)∧n % (2 ^ k:Nat)<(2 ^ k:Nat):=by
 have:=Nat.two_pow_pos k
 exact⟨Int.emod_nonneg _ (by omega),Int.emod_lt_of_pos _ (by omega)⟩
theorem fldN_lt (n f:Int) {m a:Nat} (hm:m≤32) (ha:a≤16):fldN n f (m:Int) (a:Int)<281474976710656:=by
 unfold fldN
 rw[Int.toNat_natCast,Int.toNat_natCast]
 have h:=mod_pow_nat (n / (2 ^ f.toNat:Nat)) m
 have h1:(n / (2 ^ f.toNat:Nat) % (2 ^ m:Nat)).toNat<2 ^ m:=by omega
 have h2:2 ^ m≤2 ^ 32:=pow_lt hm
 have h3:2 ^ a≤2 ^ 16:=pow_lt ha
 have h4:=Nat.mul_lt_mul_of_lt_of_le (Nat.lt_of_lt_of_le h1 h2) h3 (by omega)
 exact h4
theorem fld_val (n:Int) {f m a:Nat} (hf:f<64) (hm:m≤32) (ha:a≤16):ishl .i64 (band .i64 (ishr .i64 n (f:Int)) (w64 (ishl .i64 1 (m:Int)-1))) (a:Int)=(fldN n (f:Int) (m:Int) (a:Int):Int):=by
 have hl:=fldN_lt n (f:Int) hm ha
 have h1:2 ^ m≤2 ^ 32:=pow_lt hm
 have h2:ishl .i64 1 (m:Int)=((2 ^ m:Nat):Int):=by
  rw[ishl_nat _ _ (by omega),Int.one_mul,show(2:Int) ^ m=((2 ^ m:Nat):Int) by simp]
  exact w64_nat (by omega)
 have hp:=Nat.two_pow_pos m
 have h3:w64 (((2 ^ m:Nat):Int)-1)=((2 ^ m:Nat):Int)-1:=by
  generalize 2 ^ m=q at *
  exact w64_id (by omega) (by omega)
 rw[h2,h3,ishr_i64 _ _ hf,band_low _ _ (by omega),ishl_nat _ _ (by omega)]
 unfold fldN at hl ⊢
 rw[Int.toNat_natCast,Int.toNat_natCast,Int.toNat_natCast] at *
 have h:=mod_pow_nat (n / (2 ^ f:Nat)) m
 obtain⟨q,hq⟩:∃q:Nat,n / (2 ^ f:Nat) % (2 ^ m:Nat)=(q:Int):=⟨(n / (2 ^ f:Nat) % (2 ^ m:Nat)).toNat,by omega⟩
 rw[hq] at hl ⊢
 rw[Int.toNat_natCast] at hl ⊢
 rw[show(q:Int)*2 ^ a=((q*2 ^ a:Nat):Int) by simp]
 exact w64_id (by omega) (by omega)
theorem part_val (p:tpart.den) (h:partOk p=true):ishl .i64 (band .i64 (ishr .i64 p.1 p.2.1) (w64 (ishl .i64 1 p.2.2.1-1))) p.2.2.2.1=(partN p:Int)∧partN p<281474976710656∧decide (p.2.1<0)=false∧decide (p.2.2.1<0)=false∧decide (p.2.2.2.1<0)=false:=by
 obtain⟨n,f,m,a,u⟩:=p
 simp only[partOk,Bool.and_eq_true,decide_eq_true_eq] at h
 obtain⟨⟨h1,h2⟩,⟨h3,h4⟩,h5,h6⟩:=h
 dsimp only[Ty.den] at *
 obtain⟨f,rfl⟩:=Int.eq_ofNat_of_zero_le h1
 obtain⟨m,rfl⟩:=Int.eq_ofNat_of_zero_le h3
 obtain⟨a,rfl⟩:=Int.eq_ofNat_of_zero_le h5
 exact⟨fld_val n (by omega) (by omega) (by omega),fldN_lt n _ (by omega) (by omega),dec_false (by omega),dec_false (by omega),dec_false (by omega)⟩
theorem or_part {b:Nat} (p:tpart.den) (h:partOk p=true) (hb:b<281474976710656):bor .i64 (b:Int) (ishl .i64 (band .i64 (ishr .i64 p.1 p.2.1) (w64 (ishl .i64 1 p.2.2.1-1))) p.2.2.2.1)=((b |||partN p:Nat):Int)∧b |||partN p<281474976710656:=by
 obtain⟨h1,h2,_⟩:=part_val p h
 exact⟨by rw[h1,bor_nat (by omega) (by omega)],Nat.or_lt_two_pow (n:=48) hb h2⟩
abbrev qgW:List Ty:=[(.int .i64),(.sl tpart)]
abbrev qiD:Sh:=Sh.ty (Ty.int IntKind.i64)
def qdP (x:dens qgW):PO (Sh.den qiD) :=
 (.ite (decide (0<lenI x.2))
  (.ite (inRange 0 (List.length x.2))
  (.ite (!decide ((List.getD x.2 (Int.toNat 0) (Ty.dflt tpart)).2.1<0)&&(!decide ((List.getD x.2 (Int.toNat 0) (Ty.dflt tpart)).2.2.1<0)&&!decide ((List.getD x.2 (Int.toNat 0) (Ty.dflt tpart)).2.2.2.1<0)))
   (.ite (decide (1<lenI x.2))
   (.ite (inRange 1 (List.length x.2))
    (.ite (!decide ((List.getD x.2 (Int.toNat 1) (Ty.dflt tpart)).2.1<0)&&(!decide ((List.getD x.2 (Int.toNat 1) (Ty.dflt tpart)).2.2.1<0)&&!decide ((List.getD x.2 (Int.toNat 1) (Ty.dflt tpart)).2.2.2.1<0)))
    (.ite (decide (2<lenI x.2))
     (.ite (inRange 2 (List.length x.2))
     (.ite (!decide ((List.getD x.2 (Int.toNat 2) (Ty.dflt tpart)).2.1<0)&&(!decide ((List.getD x.2 (Int.toNat 2) (Ty.dflt tpart)).2.2.1<0)&&!decide ((List.getD x.2 (Int.toNat 2) (Ty.dflt tpart)).2.2.2.1<0)))
      (.ite (decide (3<lenI x.2))
      (.ite (inRange 3 (List.length x.2))
       (.ite (!decide ((List.getD x.2 (Int.toNat 3) (Ty.dflt tpart)).2.1<0)&&(!decide ((List.getD x.2 (Int.toNat 3) (Ty.dflt tpart)).2.2.1<0)&&!decide ((List.getD x.2 (Int.toNat 3) (Ty.dflt tpart)).2.2.2.1<0)))
       (.ite (decide (4<lenI x.2))
        (.ite (inRange 4 (List.length x.2))
        (.ite (!decide ((List.getD x.2 (Int.toNat 4) (Ty.dflt tpart)).2.1<0)&&(!decide ((List.getD x.2 (Int.toNat 4) (Ty.dflt tpart)).2.2.1<0)&&!decide ((List.getD x.2 (Int.toNat 4) (Ty.dflt tpart)).2.2.2.1<0)))
         (.ite (decide (5<lenI x.2))
         (.ite (inRange 5 (List.length x.2))
          (.ite (!decide ((List.getD x.2 (Int.toNat 5) (Ty.dflt tpart)).2.1<0)&&(!decide ((List.getD x.2 (Int.toNat 5) (Ty.dflt tpart)).2.2.1<0)&&!decide ((List.getD x.2 (Int.toNat 5) (Ty.dflt tpart)).2.2.2.1<0)))
          .fail
          .fail)
          .fail)
         (.ret (bor IntKind.i64 (bor IntKind.i64 (bor IntKind.i64 (bor IntKind.i64 (bor IntKind.i64 x.1 (ishl IntKind.i64 (band IntKind.i64 (ishr IntKind.i64 (List.getD x.2 (Int.toNat 0) (Ty.dflt tpart)).1 (List.getD x.2 (Int.toNat 0) (Ty.dflt tpart)).2.1) (w64 (ishl IntKind.i64 1 (List.getD x.2 (Int.toNat 0) (Ty.dflt tpart)).2.2.1-1))) (List.getD x.2 (Int.toNat 0) (Ty.dflt tpart)).2.2.2.1)) (ishl IntKind.i64 (band IntKind.i64 (ishr IntKind.i64 (List.getD x.2 (Int.toNat 1) (Ty.dflt tpart)).1 (List.getD x.2 (Int.toNat 1) (Ty.dflt tpart)).2.1) (w64 (ishl IntKind.i64 1 (List.getD x.2 (Int.toNat 1) (Ty.dflt tpart)).2.2.1-1))) (List.getD x.2 (Int.toNat 1) (Ty.dflt tpart)).2.2.2.1)) (ishl IntKind.i64 (band IntKind.i64 (ishr IntKind.i64 (List.getD x.2 (Int.toNat 2) (Ty.dflt tpart)).1 (List.getD x.2 (Int.toNat 2) (Ty.dflt tpart)).2.1) (w64 (ishl IntKind.i64 1 (List.getD x.2 (Int.toNat 2) (Ty.dflt tpart)).2.2.1-1))) (List.getD x.2 (Int.toNat 2) (Ty.dflt tpart)).2.2.2.1)) (ishl IntKind.i64 (band IntKind.i64 (ishr IntKind.i64 (List.getD x.2 (Int.toNat 3) (Ty.dflt tpart)).1 (List.getD x.2 (Int.toNat 3) (Ty.dflt tpart)).2.1) (w64 (ishl IntKind.i64 1 (List.getD x.2 (Int.toNat 3) (Ty.dflt tpart)).2.2.1-1))) (List.getD x.2 (Int.toNat 3) (Ty.dflt tpart)).2.2.2.1)) (ishl IntKind.i64 (band IntKind.i64 (ishr IntKind.i64 (List.getD x.2 (Int.toNat 4) (Ty.dflt tpart)).1 (List.getD x.2 (Int.toNat 4) (Ty.dflt tpart)).2.1) (w64 (ishl IntKind.i64 1 (List.getD x.2 (Int.toNat 4) (Ty.dflt tpart)).2.2.1-1))) (List.getD x.2 (Int.toNat 4) (Ty.dflt tpart)).2.2.2.1))))
         .fail)
        .fail)
        (.ret (bor IntKind.i64 (bor IntKind.i64 (bor IntKind.i64 (bor IntKind.i64 x.1 (ishl IntKind.i64 (band IntKind.i64 (ishr IntKind.i64 (List.getD x.2 (Int.toNat 0) (Ty.dflt tpart)).1 (List.getD x.2 (Int.toNat 0) (Ty.dflt tpart)).2.1) (w64 (ishl IntKind.i64 1 (List.getD x.2 (Int.toNat 0) (Ty.dflt tpart)).2.2.1-1))) (List.getD x.2 (Int.toNat 0) (Ty.dflt tpart)).2.2.2.1)) (ishl IntKind.i64 (band IntKind.i64 (ishr IntKind.i64 (List.getD x.2 (Int.toNat 1) (Ty.dflt tpart)).1 (List.getD x.2 (Int.toNat 1) (Ty.dflt tpart)).2.1) (w64 (ishl IntKind.i64 1 (List.getD x.2 (Int.toNat 1) (Ty.dflt tpart)).2.2.1-1))) (List.getD x.2 (Int.toNat 1) (Ty.dflt tpart)).2.2.2.1)) (ishl IntKind.i64 (band IntKind.i64 (ishr IntKind.i64 (List.getD x.2 (Int.toNat 2) (Ty.dflt tpart)).1 (List.getD x.2 (Int.toNat 2) (Ty.dflt tpart)).2.1) (w64 (ishl IntKind.i64 1 (List.getD x.2 (Int.toNat 2) (Ty.dflt tpart)).2.2.1-1))) (List.getD x.2 (Int.toNat 2) (Ty.dflt tpart)).2.2.2.1)) (ishl IntKind.i64 (band IntKind.i64 (ishr IntKind.i64 (List.getD x.2 (Int.toNat 3) (Ty.dflt tpart)).1 (List.getD x.2 (Int.toNat 3) (Ty.dflt tpart)).2.1) (w64 (ishl IntKind.i64 1 (List.getD x.2 (Int.toNat 3) (Ty.dflt tpart)).2.2.1-1))) (List.getD x.2 (Int.toNat 3) (Ty.dflt tpart)).2.2.2.1))))
       .fail)
       .fail)
      (.ret (bor IntKind.i64 (bor IntKind.i64 (bor IntKind.i64 x.1 (ishl IntKind.i64 (band IntKind.i64 (ishr IntKind.i64 (List.getD x.2 (Int.toNat 0) (Ty.dflt tpart)).1 (List.getD x.2 (Int.toNat 0) (Ty.dflt tpart)).2.1) (w64 (ishl IntKind.i64 1 (List.getD x.2 (Int.toNat 0) (Ty.dflt tpart)).2.2.1-1))) (List.getD x.2 (Int.toNat 0) (Ty.dflt tpart)).2.2.2.1)) (ishl IntKind.i64 (band IntKind.i64 (ishr IntKind.i64 (List.getD x.2 (Int.toNat 1) (Ty.dflt tpart)).1 (List.getD x.2 (Int.toNat 1) (Ty.dflt tpart)).2.1) (w64 (ishl IntKind.i64 1 (List.getD x.2 (Int.toNat 1) (Ty.dflt tpart)).2.2.1-1))) (List.getD x.2 (Int.toNat 1) (Ty.dflt tpart)).2.2.2.1)) (ishl IntKind.i64 (band IntKind.i64 (ishr IntKind.i64 (List.getD x.2 (Int.toNat 2) (Ty.dflt tpart)).1 (List.getD x.2 (Int.toNat 2) (Ty.dflt tpart)).2.1) (w64 (ishl IntKind.i64 1 (List.getD x.2 (Int.toNat 2) (Ty.dflt tpart)).2.2.1-1))) (List.getD x.2 (Int.toNat 2) (Ty.dflt tpart)).2.2.2.1))))
      .fail)
     .fail)
     (.ret (bor IntKind.i64 (bor IntKind.i64 x.1 (ishl IntKind.i64 (band IntKind.i64 (ishr IntKind.i64 (List.getD x.2 (Int.toNat 0) (Ty.dflt tpart)).1 (List.getD x.2 (Int.toNat 0) (Ty.dflt tpart)).2.1) (w64 (ishl IntKind.i64 1 (List.getD x.2 (Int.toNat 0) (Ty.dflt tpart)).2.2.1-1))) (List.getD x.2 (Int.toNat 0) (Ty.dflt tpart)).2.2.2.1)) (ishl IntKind.i64 (band IntKind.i64 (ishr IntKind.i64 (List.getD x.2 (Int.toNat 1) (Ty.dflt tpart)).1 (List.getD x.2 (Int.toNat 1) (Ty.dflt tpart)).2.1) (w64 (ishl IntKind.i64 1 (List.getD x.2 (Int.toNat 1) (Ty.dflt tpart)).2.2.1-1))) (List.getD x.2 (Int.toNat 1) (Ty.dflt tpart)).2.2.2.1))))
    .fail)
    .fail)
   (.ret (bor IntKind.i64 x.1 (ishl IntKind.i64 (band IntKind.i64 (ishr IntKind.i64 (List.getD x.2 (Int.toNat 0) (Ty.dflt tpart)).1 (List.getD x.2 (Int.toNat 0) (Ty.dflt tpart)).2.1) (w64 (ishl IntKind.i64 1 (List.getD x.2 (Int.toNat 0) (Ty.dflt tpart)).2.2.1-1))) (List.getD x.2 (Int.toNat 0) (Ty.dflt tpart)).2.2.2.1))))
   .fail)
  .fail)
  (.ret (x.1)))
def qt (x:dens qgW):Bool:=(decide ((0:Int)≤x.1)&&decide ((x.1:Int)<281474976710656))&&(decide (List.length x.2≤5)&&List.all x.2 partOk)
def qe (x:dens qgW):Sh.den qiD:=((List.foldl (fun b p=>b |||partN p) (Int.toNat x.1) x.2:Nat):Int)
theorem qlW (x:dens qgW) (h:qt x=true):(qdP x).val=some (qe x):=by
 obtain⟨n,l⟩:=x
 simp only[qt,Bool.and_eq_true,decide_eq_true_eq] at h
 obtain⟨⟨h1,h2⟩,h3,h4⟩:=h
 dsimp only[Ty.den] at *
 obtain⟨b,rfl⟩:=Int.eq_ofNat_of_zero_le h1
 unfold qe
 match l,h3,h4 with
 |[],_,_=>simp[qdP,PO.val,lenI]
 |[p],_,h4 =>
  simp only[List.all_cons,List.all_nil,Bool.and_true] at h4
  obtain⟨e1,l1⟩:=or_part p h4 (show b<281474976710656 by omega)
  obtain⟨_,_,p1,p2,p3⟩:=part_val p h4
  simp[qdP,PO.val,lenI,inRange,p1,p2,p3,e1]
 |[p,q],_,h4 =>
  simp only[List.all_cons,List.all_nil,Bool.and_true,Bool.and_eq_true] at h4
  obtain⟨hp,hq⟩:=h4
  obtain⟨e1,l1⟩:=or_part p hp (show b<281474976710656 by omega)
  obtain⟨_,_,p1,p2,p3⟩:=part_val p hp
  obtain⟨e2,l2⟩:=or_part q hq l1
  obtain⟨_,_,q1,q2,q3⟩:=part_val q hq
  simp[qdP,PO.val,lenI,inRange,p1,p2,p3,e1,q1,q2,q3,e2]
 |[p,q,r],_,h4 =>
  simp only[List.all_cons,List.all_nil,Bool.and_true,Bool.and_eq_true] at h4
  obtain⟨hp,hq,hr⟩:=h4
  obtain⟨e1,l1⟩:=or_part p hp (show b<281474976710656 by omega)
  obtain⟨_,_,p1,p2,p3⟩:=part_val p hp
  obtain⟨e2,l2⟩:=or_part q hq l1
  obtain⟨_,_,q1,q2,q3⟩:=part_val q hq
  obtain⟨e3,l3⟩:=or_part r hr l2
  obtain⟨_,_,r1,r2,r3⟩:=part_val r hr
  simp[qdP,PO.val,lenI,inRange,p1,p2,p3,e1,q1,q2,q3,e2,r1,r2,r3,e3]
 |[p,q,r,s],_,h4 =>
  simp only[List.all_cons,List.all_nil,Bool.and_true,Bool.and_eq_true] at h4
  obtain⟨hp,hq,hr,hs⟩:=h4
  obtain⟨e1,l1⟩:=or_part p hp (show b<281474976710656 by omega)
  obtain⟨_,_,p1,p2,p3⟩:=part_val p hp
  obtain⟨e2,l2⟩:=or_part q hq l1
  obtain⟨_,_,q1,q2,q3⟩:=part_val q hq
  obtain⟨e3,l3⟩:=or_part r hr l2
  obtain⟨_,_,r1,r2,r3⟩:=part_val r hr
  obtain⟨e4,l4⟩:=or_part s hs l3
  obtain⟨_,_,s1,s2,s3⟩:=part_val s hs
  simp[qdP,PO.val,lenI,inRange,p1,p2,p3,e1,q1,q2,q3,e2,r1,r2,r3,e3,s1,s2,s3,e4]
 |[p,q,r,s,t],_,h4 =>
  simp only[List.all_cons,List.all_nil,Bool.and_true,Bool.and_eq_true] at h4
  obtain⟨hp,hq,hr,hs,ht⟩:=h4
  obtain⟨e1,l1⟩:=or_part p hp (show b<281474976710656 by omega)
  obtain⟨_,_,p1,p2,p3⟩:=part_val p hp
  obtain⟨e2,l2⟩:=or_part q hq l1
  obtain⟨_,_,q1,q2,q3⟩:=part_val q hq
  obtain⟨e3,l3⟩:=or_part r hr l2
  obtain⟨_,_,r1,r2,r3⟩:=part_val r hr
  obtain⟨e4,l4⟩:=or_part s hs l3
  obtain⟨_,_,s1,s2,s3⟩:=part_val s hs
  obtain⟨e5,l5⟩:=or_part t ht l4
  obtain⟨_,_,t1,t2,t3⟩:=part_val t ht
  simp[qdP,PO.val,lenI,inRange,p1,p2,p3,e1,q1,q2,q3,e2,r1,r2,r3,e3,s1,s2,s3,e4,t1,t2,t3,e5]
 |_::_::_::_::_::_::_,h3,_=>simp at h3
abbrev qet:List Ty:=[(.int .i64),tIns,(.int .i64)]
abbrev qfV:Sh:=Sh.ty tSpot
def qj (x:dens qet):PO (Sh.den qfV) :=
 (.ite (qt (0,[(x.2.1.2.2.2.2.2.1,2,3,12,()),(x.2.1.2.1,0,4,8,()),(x.2.1.2.2.2.2.2.1,0,2,6,()),(x.2.2,0,2,4,()),(x.2.1.2.2.2.1,0,4,0,())]))
  (.ite (qt (x.1,[(x.2.1.2.2.1,0,4,0,())]))
  (.ret ((qe (x.1,[(x.2.1.2.2.1,0,4,0,())]),qe (0,[(x.2.1.2.2.2.2.2.1,2,3,12,()),(x.2.1.2.1,0,4,8,()),(x.2.1.2.2.2.2.2.1,0,2,6,()),(x.2.2,0,2,4,()),(x.2.1.2.2.2.1,0,4,0,())]),true,())))
  .fail)
  .fail)
def qbe (x:dens qet):Bool:=(qj x).val.isSome
def qY (x:dens qet):Sh.den qfV:=(qj x).getO default
theorem qkQ (x:dens qet) (h:qbe x=true):(qj x).val=some (qY x):=PO.getO_ok default h
abbrev qgh:List Ty:=[(.int .i64),tIns]
abbrev qhS:Sh:=Sh.ty tSpot
def qbQ (x:dens qgh):PO (Sh.den qhS) :=
 (.ite (qt (x.1,[(x.2.2.2.2.2.2.1,11,1,10,()),(x.2.2.2.2.2.2.1,12,4,0,())]))
  (.ite (qt (0,[(x.2.2.2.2.2.2.1,8,3,12,()),(x.2.2.1,0,4,8,()),(x.2.2.2.2.2.2.1,0,8,0,())]))
  (.ret ((qe (x.1,[(x.2.2.2.2.2.2.1,11,1,10,()),(x.2.2.2.2.2.2.1,12,4,0,())]),qe (0,[(x.2.2.2.2.2.2.1,8,3,12,()),(x.2.2.1,0,4,8,()),(x.2.2.2.2.2.2.1,0,8,0,())]),true,())))
  .fail)
  .fail)
def qga (x:dens qgh):Bool:=(qbQ x).val.isSome
def qgi (x:dens qgh):Sh.den qhS:=(qbQ x).getO default
theorem qlE (x:dens qgh) (h:qga x=true):(qbQ x).val=some (qgi x):=PO.getO_ok default h
abbrev qfD:List Ty:=[(.int .i64),(.int .i64),(.int .i64)]
abbrev qhh:Sh:=Sh.ty tSpot
def qK (x:dens qfD):PO (Sh.den qhh) :=
 (.ite (qt (x.1,[(x.2.1,0,3,0,()),(x.2.2,0,3,3,())]))
  (.ret ((qe (x.1,[(x.2.1,0,3,0,()),(x.2.2,0,3,3,())]),0,false,())))
  .fail)
def qc3 (x:dens qfD):Bool:=(qK x).val.isSome
def qc1 (x:dens qfD):Sh.den qhh:=(qK x).getO default
theorem qlm (x:dens qfD) (h:qc3 x=true):(qK x).val=some (qc1 x):=PO.getO_ok default h
abbrev qgm:List Ty:=[tIns]
abbrev qhU:Sh:=Sh.ty tSpot
def qbw (x:dens qgm):PO (Sh.den qhU) :=
 (.ite (qt (0,[(x.2.2.2.2.2.1,1,11,0,())]))
  (.ite (x.1==25)
  (.ite (qt (61440,[(band IntKind.i64 (ishr IntKind.i64 x.2.2.2.2.2.1 24) 1,0,1,10,()),(x.2.2.2.2.2.2.1,0,4,6,()),(x.2.2.2.2.2.1,12,6,0,())]))
   (.ite (qt (bor IntKind.i64 (qe (0,[(x.2.2.2.2.2.1,1,11,0,())])) 32768,[(x.2.2.2.2.2.1,18,1,13,()),(x.2.2.2.2.2.1,19,1,11,())]))
   (.ret ((qe (61440,[(band IntKind.i64 (ishr IntKind.i64 x.2.2.2.2.2.1 24) 1,0,1,10,()),(x.2.2.2.2.2.2.1,0,4,6,()),(x.2.2.2.2.2.1,12,6,0,())]),qe (bor IntKind.i64 (qe (0,[(x.2.2.2.2.2.1,1,11,0,())])) 32768,[(x.2.2.2.2.2.1,18,1,13,()),(x.2.2.2.2.2.1,19,1,11,())]),true,())))
   .fail)
   .fail)
  (.ite (qt (61440,[(band IntKind.i64 (ishr IntKind.i64 x.2.2.2.2.2.1 24) 1,0,1,10,()),(x.2.2.2.2.2.1,12,10,0,())]))
   (.ite (qt (bor IntKind.i64 (qe (0,[(x.2.2.2.2.2.1,1,11,0,())])) 36864,[(bxor IntKind.i64 (icompl IntKind.i64 (ishr IntKind.i64 x.2.2.2.2.2.1 23)) (band IntKind.i64 (ishr IntKind.i64 x.2.2.2.2.2.1 24) 1),0,1,13,()),(bxor IntKind.i64 (icompl IntKind.i64 (ishr IntKind.i64 x.2.2.2.2.2.1 22)) (band IntKind.i64 (ishr IntKind.i64 x.2.2.2.2.2.1 24) 1),0,1,11,())]))
   (.ret ((qe (61440,[(band IntKind.i64 (ishr IntKind.i64 x.2.2.2.2.2.1 24) 1,0,1,10,()),(x.2.2.2.2.2.1,12,10,0,())]),qe (bor IntKind.i64 (qe (0,[(x.2.2.2.2.2.1,1,11,0,())])) 36864,[(bxor IntKind.i64 (icompl IntKind.i64 (ishr IntKind.i64 x.2.2.2.2.2.1 23)) (band IntKind.i64 (ishr IntKind.i64 x.2.2.2.2.2.1 24) 1),0,1,13,()),(bxor IntKind.i64 (icompl IntKind.i64 (ishr IntKind.i64 x.2.2.2.2.2.1 22)) (band IntKind.i64 (ishr IntKind.i64 x.2.2.2.2.2.1 24) 1),0,1,11,())]),true,())))
   .fail)
   .fail))
  .fail)
def qhO (x:dens qgm):Bool:=(qbw x).val.isSome
def qil (x:dens qgm):Sh.den qhU:=(qbw x).getO default
theorem qlG (x:dens qgm) (h:qhO x=true):(qbw x).val=some (qil x):=PO.getO_ok default h
abbrev qeY:List Ty:=[tIns]
abbrev qgE:Sh:=Sh.ty tSpot
def qo (x:dens qeY):PO (Sh.den qgE) :=
 (.ite (x.1==16)
  (.ite (qbe (64256,x,0))
  (.ret (((qY (64256,x,0)).1,bor IntKind.i64 (qY (64256,x,0)).2.1 61440,(qY (64256,x,0)).2.2)))
  .fail)
  (.ite (x.1==17)
  (.ret ((bor IntKind.i64 64416 x.2.2.1,bor IntKind.i64 (bor IntKind.i64 (ishl IntKind.i64 x.2.1 12) (ishl IntKind.i64 x.2.2.2.2.1 8)) x.2.2.2.1,true,())))
  (.ite (x.1==18)
   (.ite (qt (w64 (w64 (x.2.2.2.2.2.1+x.2.2.2.2.1)-1),[(x.2.2.2.2.2.1,2,3,12,()),(x.2.1,0,4,8,()),(x.2.2.2.2.2.1,0,2,6,())]))
   (.ret ((bor IntKind.i64 62304 x.2.2.1,qe (w64 (w64 (x.2.2.2.2.2.1+x.2.2.2.2.1)-1),[(x.2.2.2.2.2.1,2,3,12,()),(x.2.1,0,4,8,()),(x.2.2.2.2.2.1,0,2,6,())]),true,())))
   .fail)
   (.ite (x.1==19)
   (.ite (qc3 (26624,x.2.1,x.2.2.1))
    (.ret (qc1 (26624,x.2.1,x.2.2.1)))
    .fail)
   (.ite (x.1==20)
    (.ite (qc3 (24576,x.2.1,x.2.2.1))
    (.ret (qc1 (24576,x.2.1,x.2.2.1)))
    .fail)
    (.ite (x.1==21)
    (.ite (qc3 (30720,x.2.1,x.2.2.1))
     (.ret (qc1 (30720,x.2.1,x.2.2.1)))
     .fail)
    (.ite (x.1==22)
     (.ite (qc3 (28672,x.2.1,x.2.2.1))
     (.ret (qc1 (28672,x.2.1,x.2.2.1)))
     .fail)
     (.ite (x.1==23)
     (.ite (qc3 (17024,x.2.2.1,x.2.2.2.1))
      (.ret (qc1 (17024,x.2.2.1,x.2.2.2.1)))
      .fail)
     (.ite (x.2.2.2.2.2.2.2.1)
      (.ite (qhO x)
      (.ret (qil x))
      .fail)
      (.ite (x.1==24)
      (.ite (qt (57344,[(x.2.2.2.2.2.1,1,11,0,())]))
       (.ret ((qe (57344,[(x.2.2.2.2.2.1,1,11,0,())]),0,false,())))
       .fail)
      (.ite (qt (53248,[(x.2.2.2.2.2.2.1,0,4,8,()),(x.2.2.2.2.2.1,1,8,0,())]))
       (.ret ((qe (53248,[(x.2.2.2.2.2.2.1,0,4,8,()),(x.2.2.2.2.2.1,1,8,0,())]),0,false,())))
       .fail)))))))))))
def qgx (x:dens qeY):Bool:=(qo x).val.isSome
def qgu (x:dens qeY):Sh.den qgE:=(qo x).getO default
theorem qk2 (x:dens qeY) (h:qgx x=true):(qo x).val=some (qgu x):=PO.getO_ok default h
abbrev qgo:List Ty:=[tIns]
abbrev qh7:Sh:=Sh.ty tSpot
def qn (x:dens qgo):PO (Sh.den qh7) :=
 (.ite (x.1==1)
  (.ret ((48896,0,false,())))
  (.ite (x.1==2)
  (.ret ((bor IntKind.i64 48640 x.2.2.2.2.2.1,0,false,())))
  (.ite (x.1==3)
   (.ite (qga (62016,x))
   (.ret (qgi (62016,x)))
   .fail)
   (.ite (x.1==4)
   (.ite (qga (62144,x))
    (.ret (qgi (62144,x)))
    .fail)
   (.ite (bif x.1==5 then x.1==5 else bif x.1==6 then x.1==6 else bif x.1==7 then x.1==7 else x.1==8)
    (.ite (qbe (59983,x,w64 (x.1-5)))
    (.ret (qY (59983,x,w64 (x.1-5))))
    .fail)
    (.ite (x.1==9)
    (.ite (qbe (60015,x,0))
     (.ret (qY (60015,x,0)))
     .fail)
    (.ite (x.1==10)
     (.ite (qbe (59904,x,0))
     (.ret (qY (59904,x,0)))
     .fail)
     (.ite (x.1==11)
     (.ite (qbe (59936,x,0))
      (.ret (qY (59936,x,0)))
      .fail)
     (.ite (x.1==12)
      (.ite (qbe (59968,x,0))
      (.ret (qY (59968,x,0)))
      .fail)
      (.ite (x.1==13)
      (.ite (qbe (60032,x,0))
       (.ret (qY (60032,x,0)))
       .fail)
      (.ite (x.1==14)
       (.ite (qbe (60160,x,0))
       (.ret (qY (60160,x,0)))
       .fail)
       (.ite (x.1==15)
       (.ite (qbe (60320,x,0))
        (.ret (qY (60320,x,0)))
        .fail)
       (.ite (qgx x)
        (.ret (qgu x))
        .fail)))))))))))))
def qcm (x:dens qgo):Bool:=(qn x).val.isSome
def qQ (x:dens qgo):Sh.den qh7:=(qn x).getO default
theorem qlK (x:dens qgo) (h:qcm x=true):(qn x).val=some (qQ x):=PO.getO_ok default h
end Go.Av
end
section
namespace Go.Av
open Go
def isLong (op:Int) (w:Bool):Bool:=w||(decide (3≤op)&&decide (op≤18))
theorem put_ok (b:Nat) (l:List tpart.den) (hb:b<281474976710656) (hl:(decide (List.length l≤5)&&List.all l partOk)=true):qt ((b:Int),l)=true:=by
 have h1:decide ((0:Int)≤(b:Int))=true:=dec_true (by omega)
 have h2:decide ((b:Int)<281474976710656)=true:=dec_true (by omega)
 show((decide ((0:Int)≤(b:Int))&&decide ((b:Int)<281474976710656))&&(decide (List.length l≤5)&&List.all l partOk))=true
 rw[h1,h2,hl]
 rfl
theorem put_ok0 (l:List tpart.den) (hl:(decide (List.length l≤5)&&List.all l partOk)=true):qt (0,l)=true:=put_ok 0 l (by omega) hl
section
variable (first:Nat) (op rd rn rm ra imm cond:Int) (w:Bool) (kind:Int)
theorem shifted_val (h:first<281474976710656):(qj ((first:Int),(op,rd,rn,rm,ra,imm,cond,w,()),kind)).val =
  some (qe ((first:Int),[(rn,0,4,0,())]),qe (0,[(imm,2,3,12,()),(rd,0,4,8,()),(imm,0,2,6,()),(kind,0,2,4,()),(rm,0,4,0,())]),true,()):=by
 have h1:qt ((first:Int),[(rn,0,4,0,())])=true:=put_ok first _ h rfl
 have h2:qt (0,[(imm,2,3,12,()),(rd,0,4,8,()),(imm,0,2,6,()),(kind,0,2,4,()),(rm,0,4,0,())])=true:=put_ok0 _ rfl
 show(bif qt (0,[(imm,2,3,12,()),(rd,0,4,8,()),(imm,0,2,6,()),(kind,0,2,4,()),(rm,0,4,0,())]) then(bif qt ((first:Int),[(rn,0,4,0,())]) then _ else _) else _)=_
 rw[h1,h2]
 rfl
theorem move_val (h:first<281474976710656):(qbQ ((first:Int),(op,rd,rn,rm,ra,imm,cond,w,()))).val =
  some (qe ((first:Int),[(imm,11,1,10,()),(imm,12,4,0,())]),qe (0,[(imm,8,3,12,()),(rd,0,4,8,()),(imm,0,8,0,())]),true,()):=by
 have h1:qt ((first:Int),[(imm,11,1,10,()),(imm,12,4,0,())])=true:=put_ok first _ h rfl
 have h2:qt (0,[(imm,8,3,12,()),(rd,0,4,8,()),(imm,0,8,0,())])=true:=put_ok0 _ rfl
 show(bif qt ((first:Int),[(imm,11,1,10,()),(imm,12,4,0,())]) then(bif qt (0,[(imm,8,3,12,()),(rd,0,4,8,()),(imm,0,8,0,())]) then _ else _) else _)=_
 rw[h1,h2]
 rfl
theorem short_val (a b:Int) (h:first<281474976710656):(qK ((first:Int),a,b)).val=some (qe ((first:Int),[(a,0,3,0,()),(b,0,3,3,())]),0,false,()):=by
 have h1:qt ((first:Int),[(a,0,3,0,()),(b,0,3,3,())])=true:=put_ok first _ h rfl
 show(bif qt ((first:Int),[(a,0,3,0,()),(b,0,3,3,())]) then _ else _)=_
 rw[h1]
 rfl
def lowN:Nat:=fldN imm 1 11 0
theorem lowN_lt:lowN imm<2048:=by
 unfold lowN fldN
 have h:=mod_pow_nat (imm / (2 ^ (1:Int).toNat:Nat)) 11
 have e:(11:Int).toNat=11:=rfl
 have e0:(0:Int).toNat=0:=rfl
 rw[e,e0]
 omega
theorem put_low:qe (0,[(imm,1,11,0,())])=(lowN imm:Int):=by
 show((0 |||fldN imm 1 11 0:Nat):Int)=_
 rw[Nat.zero_or]
 rfl
def wideV:tSpot.den :=
 bif op==25 then(qe (61440,[(band .i64 (ishr .i64 imm 24) 1,0,1,10,()),(cond,0,4,6,()),(imm,12,6,0,())]),qe (((lowN imm |||32768:Nat):Int),[(imm,18,1,13,()),(imm,19,1,11,())]),true,())
 else(qe (61440,[(band .i64 (ishr .i64 imm 24) 1,0,1,10,()),(imm,12,10,0,())]),qe (((lowN imm |||36864:Nat):Int),[(bxor .i64 (icompl .i64 (ishr .i64 imm 23)) (band .i64 (ishr .i64 imm 24) 1),0,1,13,()),(bxor .i64 (icompl .i64 (ishr .i64 imm 22)) (band .i64 (ishr .i64 imm 24) 1),0,1,11,())]),true,())
theorem wide_val:(qbw (op,rd,rn,rm,ra,imm,cond,w,())).val=some (wideV op imm cond):=by
 have hl:=lowN_lt imm
 have o1:lowN imm |||32768<2 ^ 48:=Nat.or_lt_two_pow (by omega) (by omega)
 have o2:lowN imm |||36864<2 ^ 48:=Nat.or_lt_two_pow (by omega) (by omega)
 have e1:bor .i64 (qe (0,[(imm,1,11,0,())])) 32768=((lowN imm |||32768:Nat):Int):=by
  rw[put_low];exact bor_nat (b:=32768) (by omega) (by omega)
 have e2:bor .i64 (qe (0,[(imm,1,11,0,())])) 36864=((lowN imm |||36864:Nat):Int):=by
  rw[put_low];exact bor_nat (b:=36864) (by omega) (by omega)
 have g0:qt (0,[(imm,1,11,0,())])=true:=put_ok0 _ rfl
 have g1:qt (61440,[(band .i64 (ishr .i64 imm 24) 1,0,1,10,()),(cond,0,4,6,()),(imm,12,6,0,())])=true:=put_ok 61440 _ (by omega) rfl
 have g2:qt (61440,[(band .i64 (ishr .i64 imm 24) 1,0,1,10,()),(imm,12,10,0,())])=true:=put_ok 61440 _ (by omega) rfl
 have g3:=put_ok (lowN imm |||32768) [(imm,18,1,13,()),(imm,19,1,11,())] o1 rfl
 have g4:=put_ok (lowN imm |||36864) [(bxor .i64 (icompl .i64 (ishr .i64 imm 23)) (band .i64 (ishr .i64 imm 24) 1),0,1,13,()),(bxor .i64 (icompl .i64 (ishr .i64 imm 22)) (band .i64 (ishr .i64 imm 24) 1),0,1,11,())] o2 rfl
 simp only[qbw,PO.val]
 rw[e1,e2,g0,g1,g2,g3,g4]
 unfold wideV
 cases op==25
 ·rfl
 ·rfl
end
def codeV (op rd rn rm ra imm cond:Int) (w:Bool):tSpot.den :=
 bif op==1 then(48896,0,false,())
 else bif op==2 then(bor .i64 48640 imm,0,false,())
 else bif op==3 then(qe (62016,[(imm,11,1,10,()),(imm,12,4,0,())]),qe (0,[(imm,8,3,12,()),(rd,0,4,8,()),(imm,0,8,0,())]),true,())
 else bif op==4 then(qe (62144,[(imm,11,1,10,()),(imm,12,4,0,())]),qe (0,[(imm,8,3,12,()),(rd,0,4,8,()),(imm,0,8,0,())]),true,())
 else bif decide (op≤16)&&decide (5≤op) then
  (qe (bif decide (op≤8) then 59983 else bif op==9 then 60015 else bif op==10 then 59904 else bif op==11 then 59936 else bif op==12 then 59968 else bif op==13 then 60032 else bif op==14 then 60160 else bif op==15 then 60320 else 64256,[(rn,0,4,0,())]),
   (bif op==16 then bor .i64 (qe (0,[(imm,2,3,12,()),(rd,0,4,8,()),(imm,0,2,6,()),(0,0,2,4,()),(rm,0,4,0,())])) 61440
   else qe (0,[(imm,2,3,12,()),(rd,0,4,8,()),(imm,0,2,6,()),(bif decide (op≤8) then op-5 else 0,0,2,4,()),(rm,0,4,0,())])),true,())
 else bif op==17 then(bor .i64 64416 rn,bor .i64 (bor .i64 (ishl .i64 rd 12) (ishl .i64 ra 8)) rm,true,())
 else bif op==18 then(bor .i64 62304 rn,qe (imm+ra-1,[(imm,2,3,12,()),(rd,0,4,8,()),(imm,0,2,6,())]),true,())
 else bif op==23 then(qe (17024,[(rn,0,3,0,()),(rm,0,3,3,())]),0,false,())
 else bif decide (op≤22) then(qe (bif op==19 then 26624 else bif op==20 then 24576 else bif op==21 then 30720 else 28672,[(rd,0,3,0,()),(rn,0,3,3,())]),0,false,())
 else bif w then wideV op imm cond
 else bif op==24 then(qe (57344,[(imm,1,11,0,())]),0,false,())
 else(qe (53248,[(cond,0,4,8,()),(imm,1,8,0,())]),0,false,())
theorem check_bfi {rd rn rm ra imm cond:Int} {w:Bool} (h:qd (18,rd,rn,rm,ra,imm,cond,w,())=0):0≤imm∧imm≤31∧1≤ra∧ra≤32-imm:=by
 have hw:=left_same imm
 simp[qd,qV,qz,qZ,qbb,qcB,qT,qbz,PO.getO,PO.val] at h
 grind
theorem bits_1 (rd rn rm ra imm cond:Int) (w:Bool) (_:qd (1,rd,rn,rm,ra,imm,cond,w,())=0):(qn (1,rd,rn,rm,ra,imm,cond,w,())).val=some (codeV 1 rd rn rm ra imm cond w):=by
 rfl
theorem bits_2 (rd rn rm ra imm cond:Int) (w:Bool) (_:qd (2,rd,rn,rm,ra,imm,cond,w,())=0):(qn (2,rd,rn,rm,ra,imm,cond,w,())).val=some (codeV 2 rd rn rm ra imm cond w):=by
 rfl
theorem bits_3 (rd rn rm ra imm cond:Int) (w:Bool) (_:qd (3,rd,rn,rm,ra,imm,cond,w,())=0):(qn (3,rd,rn,rm,ra,imm,cond,w,())).val=some (codeV 3 rd rn rm ra imm cond w):=by
 have e:(qbQ (62016,3,rd,rn,rm,ra,imm,cond,w,())).val=_:=move_val 62016 3 rd rn rm ra imm cond w (by omega)
 refine Eq.trans (b:=(bif (PO.val (qbQ (62016,3,rd,rn,rm,ra,imm,cond,w,()))).isSome then some ((PO.val (qbQ (62016,3,rd,rn,rm,ra,imm,cond,w,()))).getD default) else none)) rfl ?_
 rw[e]
 rfl
theorem bits_4 (rd rn rm ra imm cond:Int) (w:Bool) (_:qd (4,rd,rn,rm,ra,imm,cond,w,())=0):(qn (4,rd,rn,rm,ra,imm,cond,w,())).val=some (codeV 4 rd rn rm ra imm cond w):=by
 have e:(qbQ (62144,4,rd,rn,rm,ra,imm,cond,w,())).val=_:=move_val 62144 4 rd rn rm ra imm cond w (by omega)
 refine Eq.trans (b:=(bif (PO.val (qbQ (62144,4,rd,rn,rm,ra,imm,cond,w,()))).isSome then some ((PO.val (qbQ (62144,4,rd,rn,rm,ra,imm,cond,w,()))).getD default) else none)) rfl ?_
 rw[e]
 rfl
theorem bits_5 (rd rn rm ra imm cond:Int) (w:Bool) (_:qd (5,rd,rn,rm,ra,imm,cond,w,())=0):(qn (5,rd,rn,rm,ra,imm,cond,w,())).val=some (codeV 5 rd rn rm ra imm cond w):=by
 have e:(qj (59983,(5,rd,rn,rm,ra,imm,cond,w,()),(w64 (5-5)))).val=_:=shifted_val 59983 5 rd rn rm ra imm cond w (w64 (5-5)) (by omega)
 refine Eq.trans (b:=(bif (PO.val (qj (59983,(5,rd,rn,rm,ra,imm,cond,w,()),(w64 (5-5))))).isSome then some ((PO.val (qj (59983,(5,rd,rn,rm,ra,imm,cond,w,()),(w64 (5-5))))).getD default) else none)) rfl ?_
 rw[e]
 rfl
theorem bits_6 (rd rn rm ra imm cond:Int) (w:Bool) (_:qd (6,rd,rn,rm,ra,imm,cond,w,())=0):(qn (6,rd,rn,rm,ra,imm,cond,w,())).val=some (codeV 6 rd rn rm ra imm cond w):=by
 have e:(qj (59983,(6,rd,rn,rm,ra,imm,cond,w,()),(w64 (6-5)))).val=_:=shifted_val 59983 6 rd rn rm ra imm cond w (w64 (6-5)) (by omega)
 refine Eq.trans (b:=(bif (PO.val (qj (59983,(6,rd,rn,rm,ra,imm,cond,w,()),(w64 (6-5))))).isSome then some ((PO.val (qj (59983,(6,rd,rn,rm,ra,imm,cond,w,()),(w64 (6-5))))).getD default) else none)) rfl ?_
 rw[e]
 rfl
theorem bits_7 (rd rn rm ra imm cond:Int) (w:Bool) (_:qd (7,rd,rn,rm,ra,imm,cond,w,())=0):(qn (7,rd,rn,rm,ra,imm,cond,w,())).val=some (codeV 7 rd rn rm ra imm cond w):=by
 have e:(qj (59983,(7,rd,rn,rm,ra,imm,cond,w,()),(w64 (7-5)))).val=_:=shifted_val 59983 7 rd rn rm ra imm cond w (w64 (7-5)) (by omega)
 refine Eq.trans (b:=(bif (PO.val (qj (59983,(7,rd,rn,rm,ra,imm,cond,w,()),(w64 (7-5))))).isSome then some ((PO.val (qj (59983,(7,rd,rn,rm,ra,imm,cond,w,()),(w64 (7-5))))).getD default) else none)) rfl ?_
 rw[e]
 rfl
theorem bits_8 (rd rn rm ra imm cond:Int) (w:Bool) (_:qd (8,rd,rn,rm,ra,imm,cond,w,())=0):(qn (8,rd,rn,rm,ra,imm,cond,w,())).val=some (codeV 8 rd rn rm ra imm cond w):=by
 have e:(qj (59983,(8,rd,rn,rm,ra,imm,cond,w,()),(w64 (8-5)))).val=_:=shifted_val 59983 8 rd rn rm ra imm cond w (w64 (8-5)) (by omega)
 refine Eq.trans (b:=(bif (PO.val (qj (59983,(8,rd,rn,rm,ra,imm,cond,w,()),(w64 (8-5))))).isSome then some ((PO.val (qj (59983,(8,rd,rn,rm,ra,imm,cond,w,()),(w64 (8-5))))).getD default) else none)) rfl ?_
 rw[e]
 rfl
theorem bits_9 (rd rn rm ra imm cond:Int) (w:Bool) (_:qd (9,rd,rn,rm,ra,imm,cond,w,())=0):(qn (9,rd,rn,rm,ra,imm,cond,w,())).val=some (codeV 9 rd rn rm ra imm cond w):=by
 have e:(qj (60015,(9,rd,rn,rm,ra,imm,cond,w,()),0)).val=_:=shifted_val 60015 9 rd rn rm ra imm cond w 0 (by omega)
 refine Eq.trans (b:=(bif (PO.val (qj (60015,(9,rd,rn,rm,ra,imm,cond,w,()),0))).isSome then some ((PO.val (qj (60015,(9,rd,rn,rm,ra,imm,cond,w,()),0))).getD default) else none)) rfl ?_
 rw[e]
 rfl
theorem bits_10 (rd rn rm ra imm cond:Int) (w:Bool) (_:qd (10,rd,rn,rm,ra,imm,cond,w,())=0):(qn (10,rd,rn,rm,ra,imm,cond,w,())).val=some (codeV 10 rd rn rm ra imm cond w):=by
 have e:(qj (59904,(10,rd,rn,rm,ra,imm,cond,w,()),0)).val=_:=shifted_val 59904 10 rd rn rm ra imm cond w 0 (by omega)
 refine Eq.trans (b:=(bif (PO.val (qj (59904,(10,rd,rn,rm,ra,imm,cond,w,()),0))).isSome then some ((PO.val (qj (59904,(10,rd,rn,rm,ra,imm,cond,w,()),0))).getD default) else none)) rfl ?_
 rw[e]
 rfl
theorem bits_11 (rd rn rm ra imm cond:Int) (w:Bool) (_:qd (11,rd,rn,rm,ra,imm,cond,w,())=0):(qn (11,rd,rn,rm,ra,imm,cond,w,())).val=some (codeV 11 rd rn rm ra imm cond w):=by
 have e:(qj (59936,(11,rd,rn,rm,ra,imm,cond,w,()),0)).val=_:=shifted_val 59936 11 rd rn rm ra imm cond w 0 (by omega)
 refine Eq.trans (b:=(bif (PO.val (qj (59936,(11,rd,rn,rm,ra,imm,cond,w,()),0))).isSome then some ((PO.val (qj (59936,(11,rd,rn,rm,ra,imm,cond,w,()),0))).getD default) else none)) rfl ?_
 rw[e]
 rfl
theorem bits_12 (rd rn rm ra imm cond:Int) (w:Bool) (_:qd (12,rd,rn,rm,ra,imm,cond,w,())=0):(qn (12,rd,rn,rm,ra,imm,cond,w,())).val=some (codeV 12 rd rn rm ra imm cond w):=by
 have e:(qj (59968,(12,rd,rn,rm,ra,imm,cond,w,()),0)).val=_:=shifted_val 59968 12 rd rn rm ra imm cond w 0 (by omega)
 refine Eq.trans (b:=(bif (PO.val (qj (59968,(12,rd,rn,rm,ra,imm,cond,w,()),0))).isSome then some ((PO.val (qj (59968,(12,rd,rn,rm,ra,imm,cond,w,()),0))).getD default) else none)) rfl ?_
 rw[e]
 rfl
theorem bits_13 (rd rn rm ra imm cond:Int) (w:Bool) (_:qd (13,rd,rn,rm,ra,imm,cond,w,())=0):(qn (13,rd,rn,rm,ra,imm,cond,w,())).val=some (codeV 13 rd rn rm ra imm cond w):=by
 have e:(qj (60032,(13,rd,rn,rm,ra,imm,cond,w,()),0)).val=_:=shifted_val 60032 13 rd rn rm ra imm cond w 0 (by omega)
 refine Eq.trans (b:=(bif (PO.val (qj (60032,(13,rd,rn,rm,ra,imm,cond,w,()),0))).isSome then some ((PO.val (qj (60032,(13,rd,rn,rm,ra,imm,cond,w,()),0))).getD default) else none)) rfl ?_
 rw[e]
 rfl
theorem bits_14 (rd rn rm ra imm cond:Int) (w:Bool) (_:qd (14,rd,rn,rm,ra,imm,cond,w,())=0):(qn (14,rd,rn,rm,ra,imm,cond,w,())).val=some (codeV 14 rd rn rm ra imm cond w):=by
 have e:(qj (60160,(14,rd,rn,rm,ra,imm,cond,w,()),0)).val=_:=shifted_val 60160 14 rd rn rm ra imm cond w 0 (by omega)
 refine Eq.trans (b:=(bif (PO.val (qj (60160,(14,rd,rn,rm,ra,imm,cond,w,()),0))).isSome then some ((PO.val (qj (60160,(14,rd,rn,rm,ra,imm,cond,w,()),0))).getD default) else none)) rfl ?_
 rw[e]
 rfl
theorem bits_15 (rd rn rm ra imm cond:Int) (w:Bool) (_:qd (15,rd,rn,rm,ra,imm,cond,w,())=0):(qn (15,rd,rn,rm,ra,imm,cond,w,())).val=some (codeV 15 rd rn rm ra imm cond w):=by
 have e:(qj (60320,(15,rd,rn,rm,ra,imm,cond,w,()),0)).val=_:=shifted_val 60320 15 rd rn rm ra imm cond w 0 (by omega)
 refine Eq.trans (b:=(bif (PO.val (qj (60320,(15,rd,rn,rm,ra,imm,cond,w,()),0))).isSome then some ((PO.val (qj (60320,(15,rd,rn,rm,ra,imm,cond,w,()),0))).getD default) else none)) rfl ?_
 rw[e]
 rfl
theorem bits_16 (rd rn rm ra imm cond:Int) (w:Bool) (_:qd (16,rd,rn,rm,ra,imm,cond,w,())=0):(qn (16,rd,rn,rm,ra,imm,cond,w,())).val=some (codeV 16 rd rn rm ra imm cond w):=by
 have b:(qn (16,rd,rn,rm,ra,imm,cond,w,())).val=(bif (PO.val (qo (16,rd,rn,rm,ra,imm,cond,w,()))).isSome then some ((PO.val (qo (16,rd,rn,rm,ra,imm,cond,w,()))).getD default) else none):=rfl
 have e:(qj (64256,(16,rd,rn,rm,ra,imm,cond,w,()),0)).val=_:=shifted_val 64256 16 rd rn rm ra imm cond w 0 (by omega)
 have o:(qo (16,rd,rn,rm,ra,imm,cond,w,())).val=some (qe (64256,[(rn,0,4,0,())]),bor .i64 (qe (0,[(imm,2,3,12,()),(rd,0,4,8,()),(imm,0,2,6,()),(0,0,2,4,()),(rm,0,4,0,())])) 61440,true,()):=by
  refine Eq.trans (b:=(bif (PO.val (qj (64256,(16,rd,rn,rm,ra,imm,cond,w,()),0))).isSome then some (((PO.val (qj (64256,(16,rd,rn,rm,ra,imm,cond,w,()),0))).getD default).1,bor .i64 ((PO.val (qj (64256,(16,rd,rn,rm,ra,imm,cond,w,()),0))).getD default).2.1 61440,((PO.val (qj (64256,(16,rd,rn,rm,ra,imm,cond,w,()),0))).getD default).2.2) else none)) rfl ?_
  rw[e]
  rfl
 have c:codeV 16 rd rn rm ra imm cond w=(qe (64256,[(rn,0,4,0,())]),bor .i64 (qe (0,[(imm,2,3,12,()),(rd,0,4,8,()),(imm,0,2,6,()),(0,0,2,4,()),(rm,0,4,0,())])) 61440,true,()):=rfl
 rw[b,o,c]
 rfl
theorem bits_17 (rd rn rm ra imm cond:Int) (w:Bool) (_:qd (17,rd,rn,rm,ra,imm,cond,w,())=0):(qn (17,rd,rn,rm,ra,imm,cond,w,())).val=some (codeV 17 rd rn rm ra imm cond w):=by
 have b:(qn (17,rd,rn,rm,ra,imm,cond,w,())).val=(bif (PO.val (qo (17,rd,rn,rm,ra,imm,cond,w,()))).isSome then some ((PO.val (qo (17,rd,rn,rm,ra,imm,cond,w,()))).getD default) else none):=rfl
 have o:(qo (17,rd,rn,rm,ra,imm,cond,w,())).val=some (bor .i64 64416 rn,bor .i64 (bor .i64 (ishl .i64 rd 12) (ishl .i64 ra 8)) rm,true,()):=rfl
 have c:codeV 17 rd rn rm ra imm cond w=(bor .i64 64416 rn,bor .i64 (bor .i64 (ishl .i64 rd 12) (ishl .i64 ra 8)) rm,true,()):=rfl
 rw[b,o,c]
 rfl
theorem bits_18 (rd rn rm ra imm cond:Int) (w:Bool) (h:qd (18,rd,rn,rm,ra,imm,cond,w,())=0):(qn (18,rd,rn,rm,ra,imm,cond,w,())).val=some (codeV 18 rd rn rm ra imm cond w):=by
 have b:(qn (18,rd,rn,rm,ra,imm,cond,w,())).val=(bif (PO.val (qo (18,rd,rn,rm,ra,imm,cond,w,()))).isSome then some ((PO.val (qo (18,rd,rn,rm,ra,imm,cond,w,()))).getD default) else none):=rfl
 obtain⟨c1,c2,c3,c4⟩:=check_bfi h
 have hs:w64 (w64 (imm+ra)-1)=imm+ra-1:=by rw[w64_id (n:=imm+ra) (by omega) (by omega),w64_id (by omega) (by omega)]
 obtain⟨n,hn⟩:=Int.eq_ofNat_of_zero_le (show 0≤imm+ra-1 by omega)
 have g:=put_ok n [(imm,2,3,12,()),(rd,0,4,8,()),(imm,0,2,6,())] (by omega) rfl
 have o:(qo (18,rd,rn,rm,ra,imm,cond,w,())).val=some (bor .i64 62304 rn,qe (imm+ra-1,[(imm,2,3,12,()),(rd,0,4,8,()),(imm,0,2,6,())]),true,()):=by
  refine Eq.trans (b:=(bif qt (w64 (w64 (imm+ra)-1),[(imm,2,3,12,()),(rd,0,4,8,()),(imm,0,2,6,())]) then some (bor .i64 62304 rn,qe (w64 (w64 (imm+ra)-1),[(imm,2,3,12,()),(rd,0,4,8,()),(imm,0,2,6,())]),true,()) else none)) rfl ?_
  rw[hs,hn,g]
  rfl
 have c:codeV 18 rd rn rm ra imm cond w=(bor .i64 62304 rn,qe (imm+ra-1,[(imm,2,3,12,()),(rd,0,4,8,()),(imm,0,2,6,())]),true,()):=rfl
 rw[b,o,c]
 rfl
theorem bits_19 (rd rn rm ra imm cond:Int) (w:Bool) (_:qd (19,rd,rn,rm,ra,imm,cond,w,())=0):(qn (19,rd,rn,rm,ra,imm,cond,w,())).val=some (codeV 19 rd rn rm ra imm cond w):=by
 have b:(qn (19,rd,rn,rm,ra,imm,cond,w,())).val=(bif (PO.val (qo (19,rd,rn,rm,ra,imm,cond,w,()))).isSome then some ((PO.val (qo (19,rd,rn,rm,ra,imm,cond,w,()))).getD default) else none):=rfl
 have e:(qK (26624,rd,rn)).val=some (qe (26624,[(rd,0,3,0,()),(rn,0,3,3,())]),0,false,()):=short_val 26624 rd rn (by omega)
 have o:(qo (19,rd,rn,rm,ra,imm,cond,w,())).val=some (qe (26624,[(rd,0,3,0,()),(rn,0,3,3,())]),0,false,()):=by
  refine Eq.trans (b:=(bif (PO.val (qK (26624,rd,rn))).isSome then some ((PO.val (qK (26624,rd,rn))).getD default) else none)) rfl ?_
  rw[e]
  rfl
 have c:codeV 19 rd rn rm ra imm cond w=(qe (26624,[(rd,0,3,0,()),(rn,0,3,3,())]),0,false,()):=rfl
 rw[b,o,c]
 rfl
theorem bits_20 (rd rn rm ra imm cond:Int) (w:Bool) (_:qd (20,rd,rn,rm,ra,imm,cond,w,())=0):(qn (20,rd,rn,rm,ra,imm,cond,w,())).val=some (codeV 20 rd rn rm ra imm cond w):=by
 have b:(qn (20,rd,rn,rm,ra,imm,cond,w,())).val=(bif (PO.val (qo (20,rd,rn,rm,ra,imm,cond,w,()))).isSome then some ((PO.val (qo (20,rd,rn,rm,ra,imm,cond,w,()))).getD default) else none):=rfl
 have e:(qK (24576,rd,rn)).val=some (qe (24576,[(rd,0,3,0,()),(rn,0,3,3,())]),0,false,()):=short_val 24576 rd rn (by omega)
 have o:(qo (20,rd,rn,rm,ra,imm,cond,w,())).val=some (qe (24576,[(rd,0,3,0,()),(rn,0,3,3,())]),0,false,()):=by
  refine Eq.trans (b:=(bif (PO.val (qK (24576,rd,rn))).isSome then some ((PO.val (qK (24576,rd,rn))).getD default) else none)) rfl ?_
  rw[e]
  rfl
 have c:codeV 20 rd rn rm ra imm cond w=(qe (24576,[(rd,0,3,0,()),(rn,0,3,3,())]),0,false,()):=rfl
 rw[b,o,c]
 rfl
theorem bits_21 (rd rn rm ra imm cond:Int) (w:Bool) (_:qd (21,rd,rn,rm,ra,imm,cond,w,())=0):(qn (21,rd,rn,rm,ra,imm,cond,w,())).val=some (codeV 21 rd rn rm ra imm cond w):=by
 have b:(qn (21,rd,rn,rm,ra,imm,cond,w,())).val=(bif (PO.val (qo (21,rd,rn,rm,ra,imm,cond,w,()))).isSome then some ((PO.val (qo (21,rd,rn,rm,ra,imm,cond,w,()))).getD default) else none):=rfl
 have e:(qK (30720,rd,rn)).val=some (qe (30720,[(rd,0,3,0,()),(rn,0,3,3,())]),0,false,()):=short_val 30720 rd rn (by omega)
 have o:(qo (21,rd,rn,rm,ra,imm,cond,w,())).val=some (qe (30720,[(rd,0,3,0,()),(rn,0,3,3,())]),0,false,()):=by
  refine Eq.trans (b:=(bif (PO.val (qK (30720,rd,rn))).isSome then some ((PO.val (qK (30720,rd,rn))).getD default) else none)) rfl ?_
  rw[e]
  rfl
 have c:codeV 21 rd rn rm ra imm cond w=(qe (30720,[(rd,0,3,0,()),(rn,0,3,3,())]),0,false,()):=rfl
 rw[b,o,c]
 rfl
theorem bits_22 (rd rn rm ra imm cond:Int) (w:Bool) (_:qd (22,rd,rn,rm,ra,imm,cond,w,())=0):(qn (22,rd,rn,rm,ra,imm,cond,w,())).val=some (codeV 22 rd rn rm ra imm cond w):=by
 have b:(qn (22,rd,rn,rm,ra,imm,cond,w,())).val=(bif (PO.val (qo (22,rd,rn,rm,ra,imm,cond,w,()))).isSome then some ((PO.val (qo (22,rd,rn,rm,ra,imm,cond,w,()))).getD default) else none):=rfl
 have e:(qK (28672,rd,rn)).val=some (qe (28672,[(rd,0,3,0,()),(rn,0,3,3,())]),0,false,()):=short_val 28672 rd rn (by omega)
 have o:(qo (22,rd,rn,rm,ra,imm,cond,w,())).val=some (qe (28672,[(rd,0,3,0,()),(rn,0,3,3,())]),0,false,()):=by
  refine Eq.trans (b:=(bif (PO.val (qK (28672,rd,rn))).isSome then some ((PO.val (qK (28672,rd,rn))).getD default) else none)) rfl ?_
  rw[e]
  rfl
 have c:codeV 22 rd rn rm ra imm cond w=(qe (28672,[(rd,0,3,0,()),(rn,0,3,3,())]),0,false,()):=rfl
 rw[b,o,c]
 rfl
theorem bits_23 (rd rn rm ra imm cond:Int) (w:Bool) (_:qd (23,rd,rn,rm,ra,imm,cond,w,())=0):(qn (23,rd,rn,rm,ra,imm,cond,w,())).val=some (codeV 23 rd rn rm ra imm cond w):=by
 have b:(qn (23,rd,rn,rm,ra,imm,cond,w,())).val=(bif (PO.val (qo (23,rd,rn,rm,ra,imm,cond,w,()))).isSome then some ((PO.val (qo (23,rd,rn,rm,ra,imm,cond,w,()))).getD default) else none):=rfl
 have e:(qK (17024,rn,rm)).val=some (qe (17024,[(rn,0,3,0,()),(rm,0,3,3,())]),0,false,()):=short_val 17024 rn rm (by omega)
 have o:(qo (23,rd,rn,rm,ra,imm,cond,w,())).val=some (qe (17024,[(rn,0,3,0,()),(rm,0,3,3,())]),0,false,()):=by
  refine Eq.trans (b:=(bif (PO.val (qK (17024,rn,rm))).isSome then some ((PO.val (qK (17024,rn,rm))).getD default) else none)) rfl ?_
  rw[e]
  rfl
 have c:codeV 23 rd rn rm ra imm cond w=(qe (17024,[(rn,0,3,0,()),(rm,0,3,3,())]),0,false,()):=rfl
 rw[b,o,c]
 rfl
theorem bits_24 (rd rn rm ra imm cond:Int) (w:Bool) (_:qd (24,rd,rn,rm,ra,imm,cond,w,())=0):(qn (24,rd,rn,rm,ra,imm,cond,w,())).val=some (codeV 24 rd rn rm ra imm cond w):=by
 have b:(qn (24,rd,rn,rm,ra,imm,cond,w,())).val=(bif (PO.val (qo (24,rd,rn,rm,ra,imm,cond,w,()))).isSome then some ((PO.val (qo (24,rd,rn,rm,ra,imm,cond,w,()))).getD default) else none):=rfl
 have e:(qbw (24,rd,rn,rm,ra,imm,cond,w,())).val=some (wideV 24 imm cond):=wide_val 24 rd rn rm ra imm cond w
 have g:qt (57344,[(imm,1,11,0,())])=true:=put_ok 57344 [(imm,1,11,0,())] (by omega) rfl
 have o:(qo (24,rd,rn,rm,ra,imm,cond,w,())).val=some (bif w then wideV 24 imm cond else(qe (57344,[(imm,1,11,0,())]),0,false,())):=by
  refine Eq.trans (b:=(bif w then(bif (PO.val (qbw (24,rd,rn,rm,ra,imm,cond,w,()))).isSome then some ((PO.val (qbw (24,rd,rn,rm,ra,imm,cond,w,()))).getD default) else none) else(bif qt (57344,[(imm,1,11,0,())]) then some (qe (57344,[(imm,1,11,0,())]),0,false,()) else none))) rfl ?_
  rw[e,g]
  cases w<;>rfl
 have c:codeV 24 rd rn rm ra imm cond w=(bif w then wideV 24 imm cond else(qe (57344,[(imm,1,11,0,())]),0,false,())):=rfl
 rw[b,o,c]
 rfl
theorem bits_25 (rd rn rm ra imm cond:Int) (w:Bool) (_:qd (25,rd,rn,rm,ra,imm,cond,w,())=0):(qn (25,rd,rn,rm,ra,imm,cond,w,())).val=some (codeV 25 rd rn rm ra imm cond w):=by
 have b:(qn (25,rd,rn,rm,ra,imm,cond,w,())).val=(bif (PO.val (qo (25,rd,rn,rm,ra,imm,cond,w,()))).isSome then some ((PO.val (qo (25,rd,rn,rm,ra,imm,cond,w,()))).getD default) else none):=rfl
 have e:(qbw (25,rd,rn,rm,ra,imm,cond,w,())).val=some (wideV 25 imm cond):=wide_val 25 rd rn rm ra imm cond w
 have g:qt (53248,[(cond,0,4,8,()),(imm,1,8,0,())])=true:=put_ok 53248 [(cond,0,4,8,()),(imm,1,8,0,())] (by omega) rfl
 have o:(qo (25,rd,rn,rm,ra,imm,cond,w,())).val=some (bif w then wideV 25 imm cond else(qe (53248,[(cond,0,4,8,()),(imm,1,8,0,())]),0,false,())):=by
  refine Eq.trans (b:=(bif w then(bif (PO.val (qbw (25,rd,rn,rm,ra,imm,cond,w,()))).isSome then some ((PO.val (qbw (25,rd,rn,rm,ra,imm,cond,w,()))).getD default) else none) else(bif qt (53248,[(cond,0,4,8,()),(imm,1,8,0,())]) then some (qe (53248,[(cond,0,4,8,()),(imm,1,8,0,())]),0,false,()) else none))) rfl ?_
  rw[e,g]
  cases w<;>rfl
 have c:codeV 25 rd rn rm ra imm cond w=(bif w then wideV 25 imm cond else(qe (53248,[(cond,0,4,8,()),(imm,1,8,0,())]),0,false,())):=rfl
 rw[b,o,c]
 rfl
theorem bits_val (op rd rn rm ra imm cond:Int) (w:Bool) (h:qd (op,rd,rn,rm,ra,imm,cond,w,())=0):(qn (op,rd,rn,rm,ra,imm,cond,w,())).val=some (codeV op rd rn rm ra imm cond w):=by
 rcases op_cases op with rfl |rfl |rfl |rfl |rfl |rfl |rfl |rfl |rfl |rfl |rfl |rfl |rfl |rfl |rfl |rfl |rfl |rfl |rfl |rfl |rfl |rfl |rfl |rfl |rfl |hop
 case inr.inr.inr.inr.inr.inr.inr.inr.inr.inr.inr.inr.inr.inr.inr.inr.inr.inr.inr.inr.inr.inr.inr.inr.inr =>
  exfalso
  have e:=fun k hk=>op_none (n:=op) (k:=k) hop hk
  simp[qd,qV,qz,qZ,PO.getO,PO.val,e] at h
 ·exact bits_1 rd rn rm ra imm cond w h
 ·exact bits_2 rd rn rm ra imm cond w h
 ·exact bits_3 rd rn rm ra imm cond w h
 ·exact bits_4 rd rn rm ra imm cond w h
 ·exact bits_5 rd rn rm ra imm cond w h
 ·exact bits_6 rd rn rm ra imm cond w h
 ·exact bits_7 rd rn rm ra imm cond w h
 ·exact bits_8 rd rn rm ra imm cond w h
 ·exact bits_9 rd rn rm ra imm cond w h
 ·exact bits_10 rd rn rm ra imm cond w h
 ·exact bits_11 rd rn rm ra imm cond w h
 ·exact bits_12 rd rn rm ra imm cond w h
 ·exact bits_13 rd rn rm ra imm cond w h
 ·exact bits_14 rd rn rm ra imm cond w h
 ·exact bits_15 rd rn rm ra imm cond w h
 ·exact bits_16 rd rn rm ra imm cond w h
 ·exact bits_17 rd rn rm ra imm cond w h
 ·exact bits_18 rd rn rm ra imm cond w h
 ·exact bits_19 rd rn rm ra imm cond w h
 ·exact bits_20 rd rn rm ra imm cond w h
 ·exact bits_21 rd rn rm ra imm cond w h
 ·exact bits_22 rd rn rm ra imm cond w h
 ·exact bits_23 rd rn rm ra imm cond w h
 ·exact bits_24 rd rn rm ra imm cond w h
 ·exact bits_25 rd rn rm ra imm cond w h
theorem code_long (op rd rn rm ra imm cond:Int) (w:Bool) (h:qd (op,rd,rn,rm,ra,imm,cond,w,())=0):(codeV op rd rn rm ra imm cond w).2.2.1=isLong op w:=by
 have hwide:∀op:Int,(wideV op imm cond).2.2.1=true:=fun op=>by unfold wideV;cases op==25<;>rfl
 rcases op_cases op with rfl |rfl |rfl |rfl |rfl |rfl |rfl |rfl |rfl |rfl |rfl |rfl |rfl |rfl |rfl |rfl |rfl |rfl |rfl |rfl |rfl |rfl |rfl |rfl |rfl |hop
 case inr.inr.inr.inr.inr.inr.inr.inr.inr.inr.inr.inr.inr.inr.inr.inr.inr.inr.inr.inr.inr.inr.inr.inr.inr =>
  exfalso
  have e:=fun k hk=>op_none (n:=op) (k:=k) hop hk
  simp[qd,qV,qz,qZ,PO.getO,PO.val,e] at h
 all_goals
  have hw:w=false∨w=true:=by cases w<;>simp
  rcases hw with rfl |rfl
  ·rfl
  ·first
   |(exfalso;simp[qd,qV,PO.getO,PO.val] at h;done)
   |rfl
   |exact hwide _
end Go.Av
end
section
namespace Go.Av
open Go
abbrev qgk:List Ty:=[tIns]
abbrev qhC:Sh:=Sh.ty (Ty.int IntKind.i64)
def qjH (x:dens qgk):PO (Sh.den qhC) :=
 (.ite (qd x != 0)
  (.ret (0))
  (.ite (qcm x)
  (.ite ((qQ x).2.2.1)
   (.ret (4))
   (.ret (2)))
  .fail))
def qjF (_:dens qgk):Bool:=true
def q6 (x:dens qgk):Sh.den qhC:=bif qd x != 0 then 0 else bif isLong x.1 x.2.2.2.2.2.2.2.1 then 4 else 2
theorem size_val (x:tIns.den):(qjH x).val=some (bif qd x != 0 then 0 else bif isLong x.1 x.2.2.2.2.2.2.2.1 then 4 else 2):=by
 obtain⟨op,rd,rn,rm,ra,imm,cond,w,u⟩:=x
 show(bif qd (op,rd,rn,rm,ra,imm,cond,w,()) != 0 then some 0 else(bif (qn (op,rd,rn,rm,ra,imm,cond,w,())).val.isSome then(bif ((qn (op,rd,rn,rm,ra,imm,cond,w,())).val.getD default).2.2.1 then some 4 else some 2) else none))=some (bif qd (op,rd,rn,rm,ra,imm,cond,w,()) != 0 then 0 else bif isLong op w then 4 else 2)
 cases hc:(qd (op,rd,rn,rm,ra,imm,cond,w,()) != (0:Int))
 ·have h:qd (op,rd,rn,rm,ra,imm,cond,w,())=0:=by simpa using hc
  rw[bits_val op rd rn rm ra imm cond w h]
  show(bif (codeV op rd rn rm ra imm cond w).2.2.1 then some 4 else some 2)=some (bif isLong op w then 4 else 2)
  rw[code_long op rd rn rm ra imm cond w h]
  cases isLong op w<;>rfl
 ·rfl
theorem qlM (x:dens qgk) (_:qjF x=true):(qjH x).val=some (q6 x):=size_val x
end Go.Av
end
section
namespace Go.Av
open Go
end Go.Av
end
section
namespace Go.Av
open Go
def bt (m j:Nat):Nat:=m / 2 ^ j % 2
theorem bt_eq (m j:Nat):bt m j=(m.testBit j).toNat:=(Nat.toNat_testBit m j).symm
theorem bt_le (m j:Nat):bt m j≤1:=by unfold bt;omega
end Go.Av
end
section
namespace Go.Av
open Go
end Go.Av
end
section
namespace Go.Av
open Go
def wordR (l:List Int):List Int:=l.map fun n=>(wn n:Int)
theorem wordR_len (l:List Int):(wordR l).length=l.length:=by simp[wordR]
def wordSt (l:List Int) (k:Nat):List Int:=(wordR l).take k++l.drop k
theorem wordSt_step (l:List Int) {k:Nat} (h:k<l.length):(wordSt l k).set k (wn l[k]:Int)=wordSt l (k+1):=by
 unfold wordSt
 have h1:((wordR l).take k).length=k:=by rw[List.length_take,wordR_len];omega
 rw[List.set_append_right _ _ (by omega),h1,Nat.sub_self,List.drop_eq_getElem_cons h,List.set_cons_zero,List.take_succ_eq_append_getElem (by rw[wordR_len];omega),List.append_assoc]
 simp[wordR]
theorem wordSt_end (l:List Int) {k:Nat} (h:l.length≤k):wordSt l k=wordR l:=by
 unfold wordSt
 rw[List.take_of_length_le (by rw[wordR_len];omega),List.drop_of_length_le h,List.append_nil]
theorem wordSt_zero (l:List Int):wordSt l 0=l:=by simp[wordSt]
abbrev qgS:List Ty:=[tState,(.int .i64)]
abbrev qiJ:Sh:=Sh.ty Ty.bool
def qiF (x:dens qgS):PO (Sh.den qiJ) :=
 (.ite (decide (x.2<0)||decide (x.2 > 13))
  (.ret (false))
  (.ret ((bif ishr IntKind.i64 x.2 1==0 then x.1.2.2.2.1 else bif ishr IntKind.i64 x.2 1==1 then x.1.2.2.2.2.1 else bif ishr IntKind.i64 x.2 1==2 then x.1.2.2.1 else bif ishr IntKind.i64 x.2 1==3 then x.1.2.2.2.2.2.1 else bif ishr IntKind.i64 x.2 1==4 then x.1.2.2.2.2.1&&!x.1.2.2.2.1 else bif ishr IntKind.i64 x.2 1==5 then x.1.2.2.1==x.1.2.2.2.2.2.1 else ishr IntKind.i64 x.2 1==6&&(!x.1.2.2.2.1&&x.1.2.2.1==x.1.2.2.2.2.2.1))==(band IntKind.i64 x.2 1==0))))
def qjR (_:dens qgS):Bool:=true
def qdO (x:dens qgS):Sh.den qiJ:=(qiF x).getO default
theorem qlS (x:dens qgS) (_:qjR x=true):(qiF x).val=some (qdO x):=PO.sure_ok default (by simp[qiF,PO.sure])
abbrev qh3:List Ty:=[tState,tIns]
abbrev qjp:Sh:=Sh.ty Ty.bool
def qgI (x:dens qh3):PO (Sh.den qjp) :=
 (.ite (x.2.1==24||(x.2.1==25||true))
  (.ret (x.2.1==24||x.2.1==25&&qdO (x.1,x.2.2.2.2.2.2.2.1)))
  .fail)
def qkk (_:dens qh3):Bool:=true
def qb0 (x:dens qh3):Sh.den qjp:=(qgI x).getO default
theorem ql8 (x:dens qh3) (_:qkk x=true):(qgI x).val=some (qb0 x):=PO.tots_ok default (by simp[qgI,PO.tots])
def qej:LoopN where
 M:=[1,2,6,7]
 T:=[3,4,8,9,10,11,12,13,14,15,16]
 D:=[6,7]
 ss:=[.box 0 0,.box 1 0,.ty (.arr 15 (.int .i64)),.ty (.int .i64)]
 hs:=[.ty tState,.ty tState]
 es:=[.exit 0]
 σ:=(Ty.den (.int .i64))×(Sh.den (.ty tState))×(Sh.den (.ty tState))
 x0:=fun x y=>(x.2.2.2,y.1,y.2)
 put:=fun x _ s=>((x.1,x.2.1,x.2.2.1,s.1),(s.2.1,s.2.2))
 fuel:=fun _ _=>20
 turn:=fun x _ s =>
 (.ite (decide (s.1<15))
  (.ite (inRange s.1 15)
  (.ite (inRange s.1 15)
   (.ret (.on (w64 (s.1+1),(List.set s.2.1.1 (Int.toNat s.1) (qr (List.getD x.2.2.1 (Int.toNat s.1) (Ty.dflt (Ty.int IntKind.i64)))),s.2.1.2),s.2.2)))
   .fail)
  .fail)
  (.ret (.out 0 (s.1,s.2.1,s.2.2))))
abbrev qgM:List Ty:=[tState]
abbrev qiM:Sh:=Sh.ty tState
def qj0 (x:dens qgM):PO (Sh.den qiM) :=
 (.opt (LoopN.res qej ((),(),x.1,0) (x,[0,0,0,0,0,0,0,0,0,0,0,0,0,0,0],0,false,false,false,false,())) fun p0 =>
  (.ret ((p0.2.2.1.1,qr p0.2.2.1.2.1,p0.2.2.1.2.2))))
theorem words_run (r:List Int) (t u:tState.den) (hr:r.length=15) (ht:t.1=r):runL (qej.turn ((),(),r,0) (t,u)) 20 (0,t,u)=some (0,15,(wordR r,t.2),u):=by
 have key:=runL_count (σ:=Int×tState.den×tState.den) (turn:=qej.turn ((),(),r,0) (t,u)) (fun i=>((i:Int),(wordSt r i,t.2),u)) (0,15,(wordR r,t.2),u) (n:=15) (fun i hi=>?_) ?_ 15 0 (by omega) 20 (by omega)
 ·simp only[wordSt_zero] at key
  rw[←ht] at key ⊢
  exact key
 ·have h1:decide ((i:Int)<15)=true:=dec_true (by omega)
  have hi':i<r.length:=by omega
  show(bif decide ((i:Int)<15) then(bif inRange (i:Int) 15 then(bif inRange (i:Int) 15 then some (TL.on (w64 ((i:Int)+1),((wordSt r i).set (Int.toNat (i:Int)) (wn (r.getD (Int.toNat (i:Int)) 0):Int),t.2),u)) else none) else none) else _)=_
  rw[h1,inR hi,Int.toNat_natCast,getD_in r _ hi',wordSt_step r hi',w64_id (by omega) (by omega)]
  rfl
 ·show(bif decide (((15:Nat):Int)<15) then _ else _)=_
  rw[dec_false (by omega),wordSt_end r (by omega)]
  rfl
def qdR (x:dens qgM):Bool:=decide (List.length x.1=15)
def qW (x:dens qgM):Sh.den qiM:=(wordR x.1,(wn x.2.1:Int),x.2.2)
theorem qlU (x:dens qgM) (h:qdR x=true):(qj0 x).val=some (qW x):=by
 have h15:List.length x.1=15:=of_decide_eq_true h
 unfold qj0 PO.val
 have:LoopN.res qej ((),(),x.1,0) (x,[0,0,0,0,0,0,0,0,0,0,0,0,0,0,0],0,false,false,false,false,())=some (0,(15:Int),(wordR x.1,x.2),([0,0,0,0,0,0,0,0,0,0,0,0,0,0,0],0,false,false,false,false,())):=words_run x.1 x _ h15 rfl
 rw[this]
 rfl
end Go.Av
end
section
namespace Go.Av
open Go
def insN (m f a k:Nat):Nat:=2 ^ a*(2 ^ k*(m / 2 ^ (a+k))+f % 2 ^ k)+m % 2 ^ a
theorem insN_bit (m f a k j:Nat):(insN m f a k).testBit j=if j<a then m.testBit j else if j<a+k then f.testBit (j-a) else m.testBit j:=by
 unfold insN
 rw[Nat.testBit_two_pow_mul_add _ (Nat.mod_lt _ (Nat.two_pow_pos a))]
 split
 ·rename_i h
  rw[Nat.testBit_mod_two_pow,decide_eq_true h,Bool.true_and]
 ·rename_i h
  rw[Nat.testBit_two_pow_mul_add _ (Nat.mod_lt _ (Nat.two_pow_pos k))]
  split
  ·rename_i h2
   rw[if_pos (by omega),Nat.testBit_mod_two_pow,decide_eq_true h2,Bool.true_and]
  ·rename_i h2
   rw[if_neg (by omega),Nat.testBit_div_two_pow]
   congr 1
   omega
theorem mask_bit (a k j:Nat):((2 ^ k-1)*2 ^ a).testBit j=(decide (a≤j)&&decide (j<a+k)):=by
 rw[Nat.testBit_mul_two_pow,Nat.testBit_two_pow_sub_one]
 by_cases h:a≤j
 ·rw[show decide (j-a<k)=decide (j<a+k) from decide_eq_decide.2 (by omega)]
 ·rw[dec_false h];rfl
theorem mask_lt {a k:Nat} (h:a+k≤32):(2 ^ k-1)*2 ^ a<4294967296:=by
 refine Nat.lt_pow_two_of_testBit (n:=32) _ fun j hj=>?_
 rw[mask_bit,dec_false (show ¬j<a+k by omega),Bool.and_false]
theorem select_ins {m f a k:Nat} (hm:m<4294967296) (h:a+k≤32):(f*2 ^ a % 4294967296 &&& (2 ^ k-1)*2 ^ a) |||(m &&& (4294967295-(2 ^ k-1)*2 ^ a))=insN m f a k:=by
 refine Nat.eq_of_testBit_eq fun j=>?_
 rw[insN_bit,Nat.testBit_or,Nat.testBit_and,Nat.testBit_and,mask_bit,show 4294967295-(2 ^ k-1)*2 ^ a=2 ^ 32-((2 ^ k-1)*2 ^ a+1) by omega,Nat.testBit_two_pow_sub_succ (mask_lt h),mask_bit,show(4294967296:Nat)=2 ^ 32 from rfl,Nat.testBit_mod_two_pow,Nat.testBit_mul_two_pow]
 by_cases h32:j<32
 ·by_cases ha:j<a
  ·simp[ha,h32,show ¬a≤j by omega]
  ·by_cases hk:j<a+k
   ·simp[ha,h32,hk,show a≤j by omega]
   ·simp[ha,h32,hk,show a≤j by omega]
 ·have hz:m.testBit j=false:=Nat.testBit_lt_two_pow (Nat.lt_of_lt_of_le hm (Nat.pow_le_pow_right (n:=2) (by omega) (show 32≤j by omega)))
  have ha:¬j<a:=by omega
  have hk:¬j<a+k:=by omega
  simp[h32,hz,ha,hk]
abbrev qf4:List Ty:=[(.int .i64),(.int .i64),(.int .i64),(.int .i64)]
abbrev qic:Sh:=Sh.ty (Ty.int IntKind.i64)
def qjC (x:dens qf4):PO (Sh.den qic) :=
 (.ite (!decide (x.2.2.2<0)&&(!decide (x.2.2.1<0)&&true))
  (.ret (qfv (qr (ishl IntKind.i64 (w64 (ishl IntKind.i64 1 x.2.2.2-1)) x.2.2.1),qgB (x.2.1,x.2.2.1),x.1)))
  .fail)
def qcP (x:dens qf4):Bool:=decide ((0:Int)≤x.2.2.1)&&(decide ((0:Int)≤x.2.2.2)&&(decide ((x.2.2.1:Int)+x.2.2.2≤32)&&decide ((x.2.2.1:Int)<32)))
def qdY (x:dens qf4):Sh.den qic:=(insN (wn x.1) (wn x.2.1) (Int.toNat x.2.2.1) (Int.toNat x.2.2.2):Int)
theorem insert_val (m f:Int) (a k:Nat) (h:a+k≤32) (ha:a<32):(qjC (m,f,(a:Int),(k:Int))).val=some ((insN (wn m) (wn f) a k:Nat):Int):=by
 have h1:decide ((k:Int)<0)=false:=dec_false (by omega)
 have h2:decide ((a:Int)<0)=false:=dec_false (by omega)
 have hp:2 ^ k≤2 ^ 32:=pow_lt (by omega)
 have hk1:ishl .i64 1 (k:Int)=((2 ^ k:Nat):Int):=by
  rw[ishl_nat _ _ (by omega),Int.one_mul,show(2:Int) ^ k=((2 ^ k:Nat):Int) by simp]
  exact w64_nat (by omega)
 have hpos:=Nat.two_pow_pos k
 have hm1:w64 (((2 ^ k:Nat):Int)-1)=((2 ^ k-1:Nat):Int):=by
  generalize 2 ^ k=q at *
  rw[w64_id (by omega) (by omega)]
  omega
 have hml:=mask_lt h
 have hkk:kk (a:Int)=a:=by unfold kk;omega
 show(bif !decide ((k:Int)<0)&&(!decide ((a:Int)<0)&&true) then some (((wn ((wn f*2 ^ kk (a:Int) % 4294967296:Nat):Int) &&& wn ((wn (ishl .i64 (w64 (ishl .i64 1 (k:Int)-1)) (a:Int)):Nat):Int)) |||(wn m &&& (4294967295-wn ((wn (ishl .i64 (w64 (ishl .i64 1 (k:Int)-1)) (a:Int)):Nat):Int))):Nat):Int) else none)=_
 rw[h1,h2,hk1,hm1,shl_wn _ _ (by omega),hkk,Nat.mod_eq_of_lt hml,wn_nat (Nat.mod_lt _ (by omega)),wn_nat hml,select_ins (wn_lt m) h]
 rfl
theorem qlO (x:dens qf4) (h:qcP x=true):(qjC x).val=some (qdY x):=by
 obtain⟨m,f,a,k⟩:=x
 simp only[qcP,Bool.and_eq_true,decide_eq_true_eq] at h
 obtain⟨h1,h2,h3,h4⟩:=h
 obtain⟨a,rfl⟩:=Int.eq_ofNat_of_zero_le h1
 obtain⟨k,rfl⟩:=Int.eq_ofNat_of_zero_le h2
 have h3':(a:Int)+(k:Int)≤32:=h3
 have h4':(a:Int)<32:=h4
 exact insert_val m f a k (by omega) (by omega)
abbrev qfN:List Ty:=[(.int .i64),(.int .i64),(.int .i64)]
abbrev qg0:Sh:=Sh.ty (Ty.int IntKind.i64)
def qfF (x:dens qfN):PO (Sh.den qg0) :=
 (.ite (x.1==5)
  (.ret (qgB (x.2.1,x.2.2)))
  (.ite (x.1==6)
  (.ret (qeA (x.2.1,x.2.2)))
  (.ite (x.1==7)
   (.ret (qhQ (x.2.1,x.2.2)))
   (.ret (qhV (x.2.1,x.2.2))))))
def qi1 (_:dens qfN):Bool:=true
def qfC (x:dens qfN):Sh.den qg0:=(qfF x).getO default
theorem qlp (x:dens qfN) (_:qi1 x=true):(qfF x).val=some (qfC x):=PO.sure_ok default (by simp[qfF,PO.sure])
abbrev qiV:List Ty:=[(.int .i64),(.int .i64),(.int .i64)]
abbrev qjO:Sh:=Sh.ty (Ty.int IntKind.i64)
def qiS (x:dens qiV):PO (Sh.den qjO) :=
 (.ite (x.1==10)
  (.ret (qem (x.2.1,x.2.2)))
  (.ite (x.1==11)
  (.ret (qem (x.2.1,qbu x.2.2)))
  (.ite (x.1==12)
   (.ret (qeE (x.2.1,x.2.2)))
   (.ite (x.1==13)
   (.ret (qdj (x.2.1,x.2.2)))
   (.ite (x.1==14)
    (.ret (qdf (x.2.1,x.2.2)))
    (.ite (x.1==15)
    (.ret (qdL (x.2.1,x.2.2)))
    (.ret (qeq (x.2.1,x.2.2)))))))))
def qky (_:dens qiV):Bool:=true
def qiQ (x:dens qiV):Sh.den qjO:=(qiS x).getO default
theorem qmh (x:dens qiV) (_:qky x=true):(qiS x).val=some (qiQ x):=PO.sure_ok default (by simp[qiS,PO.sure])
abbrev qfB:List Ty:=[tState,(.int .i64),(.int .i64)]
abbrev qg6:Sh:=Sh.ty tState
def qhj (x:dens qfB):PO (Sh.den qg6) :=
 (.ret ((x.1.1,x.1.2.1,qgw (qdL (x.2.1,x.2.2),31)==1,qdL (x.2.1,x.2.2)==0,decide (x.2.1≥x.2.2),qgw (qem (qdj (x.2.1,x.2.2),qdj (x.2.1,qdL (x.2.1,x.2.2))),31)==1,x.1.2.2.2.2.2.2)))
def qiZ (_:dens qfB):Bool:=true
def qc0 (x:dens qfB):Sh.den qg6:=(qhj x).getO default
theorem qlw (x:dens qfB) (_:qiZ x=true):(qhj x).val=some (qc0 x):=PO.sure_ok default (by simp[qhj,PO.sure])
end Go.Av
end
