/- Texts of the proof, one behind the other. -/
import Derived.Test.YtealbjacocgjcaaGreatWipeClearsK1
section
namespace Go.Av
open Go
def putO (w:World) (b:Nat) (o:Obj):World:={w with heap:=w.heap.setIfInBounds b o}
section
variable {P:Program} {w:World}
theorem mapTy_spec {t:TypeId} (h:mapTy P t=true):∃kt et i,P.underlying t=some (.map kt et)∧P.underlying kt=some (.int .i64)∧P.info? et=some i∧i.zero=some (.int .i64 0):=by
 unfold mapTy at h
 split at h
 ·rename_i kt et hu
  simp only[Bool.and_eq_true] at h
  obtain⟨h1,h2⟩:=h
  split at h1
  ·rename_i hk
   split at h2
   ·rename_i z hz
    obtain⟨i,hi,hz'⟩:=Option.bind_eq_some_iff.1 hz
    exact⟨kt,et,i,hu,hk,hi,by rw[hz'];simp at h2;rw[h2]⟩
   ·cases h2
  ·cases h1
 ·cases h
theorem findNow_ok (k v:Int):∀(es:List MapEntry) (l:List (Int×Int)) (i:Nat),es.map (fun e=>(e.key,e.val))=l.map (fun p=>(Value.int .i64 p.1,Value.int .i64 p.2)) →
  (Instr.findNow (.int .i64) (.int .i64 k) es i=some none∧mget l k=none∧mput l k v=l++[(k,v)]) ∨
   ∃j u e0,Instr.findNow (.int .i64) (.int .i64 k) es i=some (some (i+j,.int .i64 u))∧mget l k=some u∧es[j]?=some e0∧e0.key=.int .i64 k ∧
    ∀f:MapEntry→MapEntry,(f e0).key=.int .i64 k→(f e0).val=.int .i64 v→(es.modify j f).map (fun e=>(e.key,e.val))=(mput l k v).map (fun p=>(Value.int .i64 p.1,Value.int .i64 p.2))
 |[],[],i,_=>.inl ⟨rfl,rfl,rfl⟩
 |[],_::_,_,h=>by cases h
 |_::_,[],_,h=>by cases h
 |e::es,(j0,u0)::l,i,h=>by
  simp only[List.map_cons,List.cons.injEq,Prod.mk.injEq] at h
  obtain⟨⟨hk,hv⟩,ht⟩:=h
  by_cases hkj:k=j0
  ·subst hkj
   refine .inr ⟨0,u0,e,?_,by simp[mget],rfl,hk,fun f h1 h2=>?_⟩
   ·simp[Instr.findNow,Instr.sameNow,hk,hv]
   ·simp[mput,h1,h2,ht]
  ·have hb:(k==j0)=false:=beq_eq_false_iff_ne.2 hkj
   rcases findNow_ok k v es l (i+1) ht with⟨h1,h2,h3⟩ |⟨j,u,e0,h1,h2,h3,h4,h5⟩
   ·refine .inl ⟨by simp[Instr.findNow,Instr.sameNow,hk,hb,h1],by simp[mget,hb,h2],by simp[mput,hb,h3]⟩
   ·refine .inr ⟨j+1,u,e0,by simp[Instr.findNow,Instr.sameNow,hk,hb,h1];omega,by simp[mget,hb,h2],by simpa using h3,h4,fun f f1 f2=>?_⟩
    have:=h5 f f1 f2
    simp[mput,hb,hk,hv,this]
theorem run_findKey {kt:TypeId} (hk:P.underlying kt=some (.int .i64)) {k:Int} {es:List MapEntry} {r:Option (Nat×Value)} (h:Instr.findNow (.int .i64) (.int .i64 k) es 0=some r):(Instr.findKey kt (.int .i64 k) es).run P w=.ok r w:=by
 simp only[Instr.findKey,Sem.run_bind,run_underlying hk,Result.andThen_ok,h]
 rfl
theorem run_checkKey {kt:TypeId} (hk:P.underlying kt=some (.int .i64)) {k:Int} (b:Bool) (m:Nat):(Instr.checkKey b (m+1) kt (.int .i64 k)).run P w=.ok () w:=by
 unfold Instr.checkKey
 simp only[Sem.run_bind,run_underlying hk,Result.andThen_ok]
 rfl
theorem run_lookup {t:TypeId} (ht:mapTy P t=true) {b c:Nat} {es:Array MapEntry} {l:List (Int×Int)} (hb:w.heap[b]?=some (.map es c)) (hm:MapIs l es) (k:Int) (ok:Bool) :
  (Instr.lookup t (.map (some b)) (.int .i64 k) ok).run P w=.ok (if ok then .tuple #[.int .i64 ((mget l k).getD 0),.bool (mget l k).isSome] else .int .i64 ((mget l k).getD 0)) w:=by
 obtain⟨kt,et,i,hu,hk,hi,hz⟩:=mapTy_spec ht
 have hg:(getObj b).run P w=.ok (.map es c) w:=by simp[getObj,Sem.run,hb]
 simp only[Instr.lookup,Sem.run_bind,run_underlying hu,Result.andThen_ok,hg,Sem.run_pure,run_checkKey hk]
 rcases findNow_ok k 0 es.toList l 0 hm with⟨h1,h2,_⟩ |⟨j,u,e0,h1,h2,_⟩
 ·rw[run_findKey hk h1]
  simp[zeroValue,typeInfo,hi,hz,h2]
 ·rw[run_findKey hk h1]
  simp[h2]
theorem run_mapUpdate {t:TypeId} (ht:mapTy P t=true) {b c:Nat} {es:Array MapEntry} {l:List (Int×Int)} (hb:w.heap[b]?=some (.map es c)) (hm:MapIs l es) (k v:Int) :
  ∃es' c',(Instr.mapUpdate t (.map (some b)) (.int .i64 k) (.int .i64 v)).run P w=.ok () (putO w b (.map es' c'))∧MapIs (mput l k v) es':=by
 obtain⟨kt,et,i,hu,hk,hi,hz⟩:=mapTy_spec ht
 have hg:(getObj b).run P w=.ok (.map es c) w:=by simp[getObj,Sem.run,hb]
 have hs:∀o,(setObj b o).run P w=.ok () (putO w b o):=fun o=>by simp[setObj,Sem.run,hb,putO]
 rcases findNow_ok k v es.toList l 0 hm with⟨h1,_,h3⟩ |⟨j,u,e0,h1,_,h3,h4,h5⟩
 ·refine⟨es.push ⟨.int .i64 k,.int .i64 v,c⟩,c+1,?_,?_⟩
  ·simp only[Instr.mapUpdate,Sem.run_bind,run_underlying hu,Result.andThen_ok,hg,run_checkKey hk,run_findKey hk h1,hs]
  ·unfold MapIs at hm ⊢
   rw[h3,Array.toList_push,List.map_append,List.map_append,hm]
   rfl
 ·refine⟨es.modify j fun e=>{e with key:=.int .i64 k,val:=.int .i64 v},c,?_,?_⟩
  ·have he:es[j]?=some e0:=by simpa using h3
   have hst:Instr.sameBits 10000 (.int .i64 k) (.int .i64 k)=true:=by unfold Instr.sameBits;simp
   simp only[Instr.mapUpdate,Sem.run_bind,run_underlying hu,Result.andThen_ok,hg,run_checkKey hk,run_findKey hk h1,Nat.zero_add,he,Option.map_some,Option.getD_some,h4,Instr.keyThatStays,hst,if_true,Sem.run_pure,hs]
  ·unfold MapIs
   rw[Array.toList_modify]
   exact h5 _ rfl rfl
end
end Go.Av
end
section
namespace Go.Av
open Go
section
variable {P:Program} {eqs:List TypeId} {fr:Fr} {n:Nat} {K:Kinds} {s:St} {a:Act} {w:World} {no:Lim} {id:Nat} {o:Oper}
theorem buildSl_ok (hr:Rel fr n K s a w) {e:Ty} {size:Nat} (hsz:size=e.size) (hlen:∀k,k*size=k*e.size):∀(l:List (Nat×Operand)) (z z':List e.den) (cs:Array Value),partsSl e s z l=some z'→RL (RT w K e) z cs.toList →
  ∃cells,Instr.fill (fun i=>some (i*size,size)) cs (l.map fun(i,x)=>(i,a.eval x))=some cells∧RL (RT w K e) z' cells.toList∧z'.length=z.length
 |[],z,z',cs,h,hz=>by simp only[partsSl] at h;cases h;exact⟨cs,rfl,hz,rfl⟩
 |(i,x)::l,z,z',cs,h,hz=>by
  simp only[partsSl] at h
  split at h
  ·rename_i u hu
   split at h
   ·rename_i hi
    have hx:=(opnd_RV hr x).as hu
    have hxl:=RT.length _ _ _ hx
    have hcl:=RL.length (RT.length e) z _ hz
    have hcs:(a.eval x).cells.size=size:=by rw[hsz,←hxl];simp
    have hb:=arith2 (sz:=e.size) hi
    have hfit:i*size+(a.eval x).cells.size≤cs.size:=by
     rw[hcs,hsz,←Array.length_toList,hcl];exact hb
    have hf:=foldl_cells (i*size) (a.eval x) cs hfit
    have hset:=RL.set (RT.length e) z _ i u _ hz hi hx
    obtain⟨cells,c1,c2,c3⟩:=buildSl_ok hr hsz hlen l (z.set i u) z' ((a.eval x).cells.zipIdx.foldl (fun cs (c,j)=>cs.setIfInBounds (i*size+j) c) cs) h (by
     rw[hf,hxl,hsz];exact hset)
    refine⟨cells,?_,c2,by rw[c3,List.length_set]⟩
    simp only[List.map_cons,Instr.fill]
    have hno:((a.eval x).cells.size≠size||decide (i*size+(a.eval x).cells.size > cs.size))=false:=by
     rw[hcs] at hfit
     simp only[ne_eq,hcs,not_true_eq_false,decide_false,Bool.false_or,decide_eq_false_iff_not]
     exact Nat.not_lt.2 hfit
    simp only[hno,Bool.false_eq_true,if_false]
    exact c1
   ·cases h
  ·cases h
theorem run_buildSlice0 {P:Program} (w:World) (t e:TypeId) (parts:Array (Nat×Value)) (cells:Array Value) (ie:TypeInfo)
  (hu:P.underlying t=some (.slice e)) (hie:P.info? e=some ie)
  (h:Instr.fill (fun i=>some (i*ie.size,ie.size)) #[] parts.toList=some cells) :
  (Instr.buildSlice t 0 parts).run P w=.ok (.slice (some ⟨w.heap.size,0,none⟩) 0 0) (w.alloc (.cells cells e)):=by
 have e0:Array.map (fun _=>(default:Value)) (Array.range 0)=#[]:=Array.eq_empty_of_size_eq_zero (by rw[Array.size_map,Array.size_range])
 simp[Instr.buildSlice,run_underlying hu,sizeOf,typeInfo,hie,newRow]
 simp[e0,h]
theorem run_buildAny {P:Program} (w:World) (t e:TypeId) (len:Nat) (parts:Array (Nat×Value)) (cells:Array Value) (ie:TypeInfo) (z:Value)
  (hu:P.underlying t=some (.slice e)) (hie:P.info? e=some ie) (hz:ie.zero=some z) (hsmall:¬len*ie.size > 2 ^ 24) (hpos:0<ie.size)
  (h:Instr.fill (fun i=>some (i*ie.size,ie.size)) ((Array.range (len*ie.size)).map (z.cells[· % z.cells.size]!)) parts.toList=some cells) :
  (Instr.buildSlice t len parts).run P w=.ok (.slice (some ⟨w.heap.size,0,none⟩) len len) (w.alloc (.cells cells e)):=by
 cases Nat.eq_zero_or_pos len with
 |inl h0 =>
  subst h0
  rw[Nat.zero_mul] at h
  have e0:Array.map (fun x=>z.cells[x % z.cells.size]!) (Array.range 0)=#[]:=Array.eq_empty_of_size_eq_zero (by rw[Array.size_map,Array.size_range])
  rw[e0] at h
  exact run_buildSlice0 w t e parts cells ie hu hie h
 |inr h0=>exact run_buildSlice w t e len parts cells ie z hu hie hz hsmall (Nat.ne_of_gt (Nat.mul_pos h0 hpos)) h
theorem RL.replicate {α:Type} {R:α→List Value→Prop} {z:α} {cs:List Value} (h:R z cs):∀m:Nat,RL R (List.replicate m z) (List.replicate m cs).flatten
 |0=>rfl
 |m+1=>⟨cs,_,by simp[List.replicate_succ],h,RL.replicate h m⟩
theorem zeros_cells (cs:Array Value) (m:Nat) (h:0<cs.size):((Array.range (m*cs.size)).map (cs[· % cs.size]!)).toList=(List.replicate m cs.toList).flatten:=by
 apply List.ext_getElem?
 intro j
 simp only[Array.toList_map,Array.toList_range,List.getElem?_map]
 by_cases hj:j<m*cs.size
 ·rw[List.getElem?_range hj]
  simp only[Option.map_some]
  have hmod:j % cs.size<cs.size:=Nat.mod_lt _ h
  rw[getElem!_pos cs _ hmod]
  have hdiv:j / cs.size<m:=Nat.div_lt_of_lt_mul (by rw[Nat.mul_comm];exact hj)
  have key:∀(m j:Nat),j<m*cs.size→(List.replicate m cs.toList).flatten[j]?=some cs[j % cs.size]!:=by
   intro m
   induction m with
   |zero=>intro j hj;simp at hj
   |succ m ih =>
    intro j hj
    rw[List.replicate_succ,List.flatten_cons]
    by_cases hlt:j<cs.size
    ·rw[List.getElem?_append_left (by simpa using hlt),Nat.mod_eq_of_lt hlt,getElem!_pos cs _ hlt]
     simp[hlt]
    ·rw[List.getElem?_append_right (by simpa using hlt),Array.length_toList]
     rw[Nat.succ_mul] at hj
     rw[ih (j-cs.size) (by omega)]
     congr 2
     conv=>rhs;rw[show j=(j-cs.size)+cs.size by omega]
     simp
  rw[key m j hj,getElem!_pos cs _ hmod]
 ·rw[List.getElem?_eq_none (by simpa using hj),List.getElem?_eq_none]
  ·rfl
  ·simp only[List.length_flatten,List.map_replicate,List.sum_replicate_nat,Array.length_toList]
   omega
theorem pack_RS {w:World} {K:Kinds}:∀(l:List (AV×Value)),(∀p∈l,RV w K p.1 p.2∧single p.1=true)→RS w K (pack (l.map (·.1))).sh (pack (l.map (·.1))).v (l.map (·.2))
 |[],_=>rfl
 |p::l,h=>by
  have h1:=h p (by simp)
  have h2:=pack_RS l (fun q hq=>h q (by simp[hq]))
  obtain⟨hv,hs⟩:=h1
  simp only[single,Bool.and_eq_true,beq_iff_eq] at hs
  have hr1:=RV.solid hv hs.2
  have hc:p.2.cells.toList=[p.2]:=by
   have:=hr1.2.2 hs.1
   cases hp:p.2<;>first|rfl |(rw[hp] at this;exact(this _ rfl).elim)
  have:=mkPair_RS hr1.1 h2
  rw[hc] at this
  exact this
theorem split_RTup {w:World} {K:Kinds} {x p q:AV} {vs:List Value} (h:x.split=some (p,q)) (hr:RTup w K x.sh x.v vs):∃u vs',vs=u::vs'∧R1 w K p.sh p.v u∧RTup w K q.sh q.v vs':=by
 obtain⟨s,y⟩:=x
 cases s with
 |pair a b =>
  simp only[AV.split] at h
  cases h
  cases vs with
  |nil=>exact hr.elim
  |cons u vs=>exact⟨u,vs,rfl,hr⟩
 |ty t=>cases t<;>first|exact hr.elim |cases h
 |_=>cases h
theorem nth_ok {w:World} {K:Kinds}:∀(m:Nat) (x:AV) (v:AV) (vs:List Value),opE.nth m x=some v→RTup w K x.sh x.v vs→∃u,vs[m]?=some u∧RV w K v u
 |0,x,v,vs,h,hr=>by
  obtain⟨⟨p,q⟩,h1,h2⟩:=Option.map_eq_some_iff.1 h
  obtain⟨u,vs',e,h3,h4⟩:=split_RTup h1 hr
  cases h2
  exact⟨u,by rw[e];rfl,R1.toRV h3⟩
 |m+1,x,v,vs,h,hr=>by
  obtain⟨⟨p,q⟩,h1,h2⟩:=Option.bind_eq_some_iff.1 h
  obtain⟨u,vs',e,h3,h4⟩:=split_RTup h1 hr
  obtain⟨r,e1,e2⟩:=nth_ok m q v vs' h2 h4
  exact⟨r,by rw[e];simpa using e1,e2⟩
theorem lenOf_fieldAddr {t:TypeId} {f:Nat} {fl:Field} (h:fieldOf P t f=some fl):∃fs:Array Field,P.underlying t=some (.struct fs)∧fs[f]?=some fl:=by
 unfold fieldOf at h
 split at h
 ·rename_i fs hu;exact⟨fs,hu,h⟩
 ·cases h
theorem nil_RV {w:World} {K:Kinds} (id:Nat) (τ:Ty):RV w K ⟨.osl id τ,[]⟩ (.slice none 0 0):=by
 have h1:RT w K (.sl τ) [] [.slice none 0 0]:=⟨none,0,0,rfl,rfl,Nat.le_refl _,fun _=>rfl,fun ad had=>nomatch had⟩
 refine R1.toRV (a:=⟨.osl id τ,[]⟩) ⟨⟨h1,fun A len cap hcs=>?_⟩,(fun e=>nomatch e),(fun _ c e=>nomatch e)⟩
 injection hcs with hcs
 injection hcs with q1
 subst q1
 exact .inl rfl
theorem wrap_i64 (m:Int) (h1:-9223372036854775808≤m) (h2:m≤9223372036854775807):IntKind.i64.wrap m=m:=by
 have e:IntKind.i64.wrap m=if(true&&decide (m % 18446744073709551616≥9223372036854775808))=true then m % 18446744073709551616-18446744073709551616 else m % 18446744073709551616:=rfl
 rw[e]
 simp only[Bool.true_and,decide_eq_true_eq]
 split<;>omega
theorem foldInt_ok {f:Int→Int→Int} {g:Value→Value→Sem Value} (hg:∀(k:IntKind) (x y:Int),g (.int k x) (.int k y)=pure (.int k (f x y))) {k:IntKind}:∀(l:List Operand) (m r:Int),foldInt f k m (l.map (opnd s))=some r→(∀x∈l,RV w K (opnd s x) (a.eval x)) →
  ((l.map a.eval).foldlM g (.int k m)).run P w=.ok (.int k r) w
 |[],m,r,h,_=>by cases h;rfl
 |x::l,m,r,h,hv=>by
  simp only[List.map_cons] at h
  generalize hx:opnd s x=av at h
  have hvx:=hv x (by simp)
  rw[hx] at hvx
  unfold foldInt at h
  split at h
  ·rename_i e;cases e
  ·rename_i k' b l' e
   injection e with e1 e2
   subst e1
   subst e2
   split at h
   ·rename_i hk
    subst hk
    rw[List.map_cons,List.foldlM_cons,RV.int hvx,hg]
    simpa using foldInt_ok hg l _ _ h (fun y hy=>hv y (by simp[hy]))
   ·cases h
  ·cases h
theorem extreme_ok {f:Int→Int→Int} {g:Value→Value→Sem Value} (hg:∀(k:IntKind) (x y:Int),g (.int k x) (.int k y)=pure (.int k (f x y))) {l:List Operand} {av:AV} (h:extreme f (l.map (opnd s))=some av) (hv:∀x∈l,RV w K (opnd s x) (a.eval x)) :
  ∃x l' v,l=x::l'∧((l'.map a.eval).foldlM g (a.eval x)).run P w=.ok v w∧RV w K av v:=by
 cases l with
 |nil=>cases h
 |cons x l =>
  simp only[List.map_cons] at h
  generalize hx:opnd s x=ax at h
  have hvx:=hv x (by simp)
  rw[hx] at hvx
  unfold extreme at h
  split at h
  ·rename_i k m l' e
   injection e with e1 e2
   subst e1
   subst e2
   obtain⟨r,hr,rfl⟩:=Option.map_eq_some_iff.1 h
   refine⟨x,l,.int k r,rfl,?_,RV.scalar (av:=.int _ _) rfl rfl rfl⟩
   rw[RV.int hvx]
   exact foldInt_ok hg l m r hr (fun y hy=>hv y (by simp[hy]))
  ·cases h
theorem winPart_spec {s:St} {l:List (Nat×Operand)} {b:Nat} {e:Ty} {y:Nat×Nat} (h:winPart s l=some (b,e,y)):∃x,l=[(0,x)]∧opnd s x=⟨.win b e,y⟩:=by
 unfold winPart at h
 split at h
 ·split at h
  ·rename_i hx
   cases h
   exact⟨_,rfl,hx⟩
  ·cases h
 ·cases h
theorem wslArgs_spec {x y:AV} {tg b:Nat} {τ:Ty} {xs ys:List (Nat×Nat)} (h:wslArgs x y=some (tg,⟨b,τ,xs,ys⟩)):∃tg',wslOf b τ x=some (tg,xs)∧y=⟨.wsl tg' b τ,ys⟩:=by
 unfold wslArgs at h
 split at h
 ·split at h
  ·rename_i hx
   cases h
   exact⟨_,hx,rfl⟩
  ·cases h
 ·cases h
theorem ownNil_RV {P:Program} {w:World} {K:Kinds} {id:Nat} {e:TypeId} {a:AV} {v:Value} (h:RV w K a v):RV w K (ownNil P e id a) v:=by
 unfold ownNil
 split
 ·split
  ·split
   ·rename_i hn
    have hv:=RV.lit h
    rw[hv,nilSl_eq hn]
    exact nil_RV id _
   ·exact h
  ·exact h
 ·exact h
theorem opE_ok (heqs:eqs.all (eqOk P)=true) (hr:Rel fr n K s a w) (hd:∀t,o.dst=some t→t<n) {c:Bool} {e:Eff} (h:opE P eqs s no id o=some (c,e)) (hc:c=true):OpOk P fr n s a w o e:=by
 have exv:∀{m:Sem Value},(execOp a.eval o=do let x ←m;pure (.value x))→∀{v:Value} {av:AV},m.run P w=.ok v w→RV w K av v→OpOk P fr n s a w o (.val av) :=
  fun hm _ _ hrun hv=>OpOk.pure hr hd hv (exec_v hm hrun)
 have opn:=fun x=>opnd_RV hr x
 unfold opE at h
 split at h
 all_goals rename_i ho
 -- move, assign
 iterate 2
  ·split at h
   ·rename_i v
    split at h
    ·rename_i hn
     have hv:=nilSl_eq hn
     subst hv
     have hrun:(execOp a.eval o).run P w=.ok (.value (.slice none 0 0)) w:=by simp[execOp,ho,Act.eval]
     split at h
     ·split at h
      ·cases h
       exact OpOk.pure hr hd (nil_RV id _) hrun
      ·cases h
       exact OpOk.pure hr hd (RV.scalar (av:=.lit _) ⟨rfl,rfl⟩ rfl rfl) hrun
     ·cases h
    ·cases h
     exact OpOk.pure hr hd (constAV_RV v) (by simp[execOp,ho,Act.eval])
   ·rename_i x _
    cases h
    exact OpOk.pure hr hd (opn _) (by simp[execOp,ho])
 -- pick
 ·rename_i c' x y
  split at h
  ·rename_i b hb
   cases h
   have hcv:=RV.bool (hb▸opn c')
   refine OpOk.pure hr hd (v:=if b then a.eval x else a.eval y) ?_ ?_
   ·cases b
    ·exact opn y
    ·exact opn x
   ·cases b<;>simp[execOp,ho,hcv,asBool]
  ·cases h
 -- alloc
 ·rename_i t
  split at h
  ·rename_i z hz
   split at h
   ·rename_i hid
    cases h
    obtain⟨i,zv,hi,hzv,hrs⟩:=zeroOf_ok hz
    simp only[Bool.and_eq_true,Option.isNone_iff_eq_none] at hid
    have hzz:(P.info? t).bind (·.zero)=some zv:=by rw[hi];exact hzv
    rw[hzz]
    refine⟨_,_,_,.inl ?_,hr.newBox hd hid.1 t (newOf_ok hid.2 (hrs w K).1)⟩
    simp[execOp,ho,Instr.alloc,run_zeroValue hi hzv,newVar,newRow]
   ·cases h
  ·cases h
 -- box
 ·rename_i t x
  split at h
  ·rename_i hcond
   simp only[Bool.and_eq_true,Option.isNone_iff_eq_none] at hcond
   cases h
   refine⟨_,_,_,.inl ?_,hr.newBox hd hcond.1 t (BoxOk.of_RS (solid_bare hcond.2) (RV.solid (opn x) hcond.2).1)⟩
   simp[execOp,ho,Instr.box,newVar,newRow]
  ·cases h
 -- build
 ·rename_i t parts
  have bld:∀{z z':AV} {zv:Value} {i:TypeInfo} (place:Nat→Option (Nat×Nat)),zeroOf P t id=some z→P.info? t=some i→i.zero=some zv→RS w K z.sh z.v zv.cells.toList→z.sh.agg=true →
    partsAV place s z parts.toList=some z'→(∀cells,Instr.fill place zv.cells (parts.toList.map fun(i,x)=>(i,a.eval x))=some cells→P.built t (parts.toList.map fun(i,x)=>(i,a.eval x))=some cells)→OpOk P fr n s a w o (.val z'):=by
   intro z z' zv i place hz hi hzv hrs hag hp hb
   obtain⟨cells,c1,c2,c3⟩:=partsAV_ok hr place parts.toList z z' zv.cells hp hrs
   have hrun:=run_build (P:=P) w t (parts.map fun(i,x)=>(i,a.eval x)) cells (by rw[Array.toList_map];exact hb cells c1)
   refine OpOk.pure hr hd (v:=.agg cells) (R1.toRV ⟨c2,fun _=>⟨_,rfl⟩,fun e=>by rw[c3,hag] at e;cases e⟩) ?_
   simp[execOp,ho,hrun]
  split at h
  ·rename_i z fs hz hu
   split at h
   ·rename_i pl hpl
    obtain⟨z',hz',e⟩:=Option.map_eq_some_iff.1 h
    cases e
    obtain⟨i,zv,hi,hzv,hrs⟩:=zeroOf_ok hz
    refine bld (pl.toArray[·]?) hz hi hzv (hrs w K).1 (by rw[(hrs w K).2];simp[isStruct,hu]) hz' (fun cells hc=>?_)
    unfold places at hpl
    simp only[Program.built,hi,hu,hzv,hpl]
    exact hc
   ·cases h
  ·rename_i z m e hz hu
   split at h
   ·rename_i hie
    obtain⟨z',hz',e'⟩:=Option.map_eq_some_iff.1 h
    cases e'
    obtain⟨ie,hie⟩:=Option.isSome_iff_exists.1 hie
    obtain⟨i,zv,hi,hzv,hrs⟩:=zeroOf_ok hz
    have hce:P.cellsOf e=ie.size:=by simp[Program.cellsOf,hie]
    refine bld (fun i=>some (i*P.cellsOf e,P.cellsOf e)) hz hi hzv (hrs w K).1 (by rw[(hrs w K).2];simp[isStruct,hu]) hz' (fun cells hc=>?_)
    rw[hce] at hc
    simp only[Program.built,hi,hu,hzv,hie]
    exact hc
   ·cases h
  ·cases h
 -- buildSlice
 ·rename_i t len parts
  split at h
  ·rename_i e hu
   split at h
   ·rename_i p hp
    split at h
    ·rename_i i hi
     split at h
     ·rename_i hcond
      obtain⟨k1,k2,k3⟩:=hcond
      subst k1
      cases h
      obtain⟨b,e',y⟩:=p
      obtain⟨x,hparts,hx⟩:=winPart_spec hp
      obtain⟨zv,hzv⟩:=Option.isSome_iff_exists.1 k3
      have hpe:parts=#[(0,x)]:=by cases h':parts;simp_all
      obtain⟨bb,j,cap,hb,g1,g2,g3,g4,g5⟩:=RV.win (hx▸opn x)
      have hcells:(a.eval x).cells=#[a.eval x]:=by rw[hb];rfl
      have hrun:=run_buildSlice (P:=P) w t e 1 (parts.map fun(i,x)=>(i,a.eval x)) #[a.eval x] i zv hu hi hzv (by rw[k2];decide) (by rw[k2];decide) (by
       subst hpe
       simp[Instr.fill,k2,hcells,show Array.range 1=#[0] from rfl])
      have hst:Still w K (w.alloc (.cells #[a.eval x] e)) (setK K w.heap.size (.row id 1)):=Still.alloc w K _ _ _ _ 0
      refine⟨_,_,_,.inl (by simp[execOp,ho,hrun];rfl),(hr.still hst).setO hd ?_⟩
      refine R1.toRV (a:=⟨.wsl none b e',[y]⟩) ⟨⟨⟨some ⟨w.heap.size,0,none⟩,1,1,rfl,rfl,Nat.le_refl _,(fun h=>by cases h),fun ad had=>?_⟩,(fun t _ _ _ ht=>by cases ht)⟩,(fun e=>nomatch e),(fun _ c e=>nomatch e)⟩
      cases had
      refine⟨[a.eval x],⟨[a.eval x],[],rfl,?_,rfl⟩,?_⟩
      ·exact RWin.ext hst.ext.size (fun b' hb' hk'=>⟨hst.ext.box b' _ hb' hk',fun n hn=>hst.ext.bsz b' _ n hb' hk' hn⟩) ⟨bb,j,cap,by rw[hb],g1,g2,g3,g4,g5⟩
      ·have:=At.new w K [a.eval x] #[] e (0,0) id 1 0 (Nat.le_refl _)
       simpa using this
     ·cases h
    ·cases h
   ·split at h
    ·rename_i τ z hτ hz
     split at h
     ·rename_i z0 hz0
      split at h
      ·rename_i hcond
       obtain⟨k1,k2,k3⟩:=hcond
       obtain⟨xs,hxs,e'⟩:=Option.map_eq_some_iff.1 h
       cases e'
       unfold zeroTy at hz
       split at hz
       ·rename_i z1 hz1
        cases hz
        obtain⟨i,zv,hi,hzv,hrs⟩:=zeroOf_ok hz1
        have hce:P.cellsOf e=i.size:=by simp[Program.cellsOf,hi]
        have hz2:RT w K τ z0 zv.cells.toList:=by
         have h1:=(hrs w K).1
         obtain⟨sh,x⟩:=z1
         cases sh
         case tup=>exact h1.elim
         all_goals
          have h2:=RS.ren (w':=w) (K':=K) (ρ:=fun _=>none) (σ:=some) (fun _ _ _ hh=>⟨hh,rfl⟩) (Nat.le_refl _) (fun _ _ _ _ _ _ hh=>nomatch hh) (fun b id j _ hk hj=>by cases hj;exact⟨hk,fun _ h=>h⟩) _ _ _ h1
          exact as_RT _ _ _ _ _ hz0 h2
        have hzl:=RT.length _ _ _ hz2
        have hzs:zv.cells.size=P.cellsOf e:=by rw[k3,←hzl];simp
        have hpos:0<P.cellsOf e:=k2
        have hrl:=RL.replicate hz2 len
        have hcells:=zeros_cells zv.cells len (by rw[hzs];exact hpos)
        obtain⟨cells,c1,c2,c3⟩:=buildSl_ok hr k3 (fun k=>by rw[k3]) parts.toList (List.replicate len z0) xs ((Array.range (len*zv.cells.size)).map (zv.cells[· % zv.cells.size]!)) hxs (by rw[hcells];exact hrl)
        have hrun:=run_buildAny (P:=P) w t e len (parts.map fun(i,x)=>(i,a.eval x)) cells i zv hu hi hzv (by rw[←hce];omega) (by rw[←hce];exact hpos)
         (by rw[Array.toList_map,←hce,←hzs];rw[hzs] at c1 ⊢;exact c1)
        have hst:Still w K (w.alloc (.cells cells e)) (setK K w.heap.size (.row id (len*τ.size))):=Still.alloc w K _ _ _ _ 0
        refine⟨_,_,_,.inl (by simp[execOp,ho,hrun];rfl),(hr.still hst).setO hd ?_⟩
        have hxl:xs.length=len:=by rw[c3];simp
        have hcl:=RL.length (RT.length τ) xs _ c2
        have hat:At (w.alloc (.cells cells e)) (setK K w.heap.size (.row id (len*τ.size))) ⟨w.heap.size,0,none⟩ cells.toList:=by
         have:=At.new w K cells.toList #[] e (0,0) id (len*τ.size) 0 (by rw[hcl,hxl];exact Nat.le_refl _)
         simpa using this
        refine R1.toRV (a:=⟨.osl id τ,xs⟩) ⟨⟨⟨some ⟨w.heap.size,0,none⟩,len,len,rfl,hxl.symm,Nat.le_refl _,(fun h=>by cases h),fun ad had=>?_⟩,fun A l c hc=>?_⟩,(fun e=>nomatch e),(fun _ c e=>nomatch e)⟩
        ·cases had
         exact⟨_,RL.imp (RT.ext hst.ext.stab τ) xs _ c2,hat⟩
        ·injection hc with hc
         injection hc with q1 q2 q3
         exact .inr (.inl (by rw[←q2,←q3]))
       ·cases hz
      ·cases h
     ·cases h
    ·cases h
  ·cases h
 -- load
 ·rename_i t x
  split at h
  ·cases h
  ·rename_i hk
   obtain⟨v,hv,e'⟩:=Option.map_eq_some_iff.1 h
   cases e'
   obtain⟨r,r1,r2⟩:=loadAV_ok hr (by simpa using hk) hv (opn x)
   exact exv (by unfold execOp;rw[ho]) r1 r2
 -- store
 ·rename_i t x y
  split at h
  ·cases h
  ·rename_i hk
   split at h
   case isFalse=>cases h
   obtain⟨ef,hef,e'⟩:=Option.map_eq_some_iff.1 h
   cases e'
   obtain⟨w',r1,r2⟩:=storeAV_ok hr hd (by simpa using hk) hef (opn x) (opn y)
   exact⟨undef,w',K,.inr ⟨by simp[execOp,ho,r1],rfl⟩,r2⟩
 -- nilCheck
 ·rename_i x
  split at h
  ·rename_i id' off v hx
   cases h
   obtain⟨b,hb,_⟩:=RV.box (hx▸opn x)
   exact OpOk.pure hr hd (v:=a.eval x) (hx▸opn x) (by simp[execOp,ho,hb])
  ·rename_i t off v hx
   cases h
   obtain⟨ad,cc,hb,_⟩:=RV.ref (hx▸opn x)
   exact OpOk.pure hr hd (v:=a.eval x) (hx▸opn x) (by simp[execOp,ho,hb])
  ·rename_i i1 i2 i3 i4 v hx
   cases h
   obtain⟨b,hb,_⟩:=RV.boxi (hx▸opn x)
   exact OpOk.pure hr hd (v:=a.eval x) (hx▸opn x) (by simp[execOp,ho,hb])
  ·rename_i i1 i2 i3 v hx
   cases h
   obtain⟨b,hb,_⟩:=RV.elp (hx▸opn x)
   exact OpOk.pure hr hd (v:=a.eval x) (hx▸opn x) (by simp[execOp,ho,hb])
  ·rename_i i1 i2 v hx
   cases h
   obtain⟨ad,cc,hb,_⟩:=RV.wref (hx▸opn x)
   exact OpOk.pure hr hd (v:=a.eval x) (hx▸opn x) (by simp[execOp,ho,hb])
  ·cases h
 -- binOp
 ·rename_i op t x y _
  obtain⟨⟨c',r⟩,hb,e'⟩:=Option.map_eq_some_iff.1 h
  cases e'
  obtain⟨z,z1,z2⟩:=binAV_ok heqs hb hc (opn x) (opn y) x y
  exact exv (m:=do eqGuard op t x y (a.eval x) (a.eval y);binOp op t (a.eval x) (a.eval y)) (by unfold execOp;rw[ho]) z1 z2
 -- unOp
 ·rename_i op t x
  obtain⟨r,hb,e'⟩:=Option.map_eq_some_iff.1 h
  cases e'
  obtain⟨z,z1,z2⟩:=unAV_ok (P:=P) hb (opn x)
  exact exv (by unfold execOp;rw[ho]) z1 z2
 -- convert
 ·rename_i t t' x
  obtain⟨r,hb,e'⟩:=Option.map_eq_some_iff.1 h
  cases e'
  obtain⟨z,z1,z2⟩:=convAV_ok hb (opn x)
  exact exv (by unfold execOp;rw[ho]) z1 z2
 -- makeFunc
 ·rename_i fn first caps
  split at h
  ·rename_i f
   split at h
   ·rename_i hcond
    cases h
    simp only[Bool.and_eq_true,List.all_eq_true] at hcond
    have hp:=pack_RS (w:=w) (K:=K) (caps.toList.map fun c=>(opnd s c,a.eval c)) (fun p hp=>by
     obtain⟨c,hc1,rfl⟩:=List.mem_map.1 hp
     exact⟨opn c,hcond.2 c hc1⟩)
    have e1:(caps.toList.map fun c=>(opnd s c,a.eval c)).map (·.1)=caps.toList.map (opnd s):=by rw[List.map_map];rfl
    have e2:(caps.toList.map fun c=>(opnd s c,a.eval c)).map (·.2)=caps.toList.map a.eval:=by rw[List.map_map];rfl
    rw[e1,e2] at hp
    have hf:first=#[]:=by simpa using hcond.1
    refine OpOk.pure hr hd (v:=.func (.func f) #[] (caps.map a.eval)) (R1.toRV (a:=⟨.fn f (pack (caps.toList.map (opnd s))).sh,(pack (caps.toList.map (opnd s))).v⟩) ⟨⟨caps.toList.map a.eval,?_,hp⟩,(fun e=>nomatch e),(fun _ c e=>nomatch e)⟩) ?_
    ·simp[Value.cells,←Array.toList_map]
    ·subst hf
     simp[execOp,ho,Instr.makeFunc]
   ·cases h
  ·cases h
 -- fieldAddr
 ·rename_i t x f
  split at h
  ·rename_i fl hfl
   split at h
   ·cases h
   ·rename_i hcond
    obtain⟨fs,hu,hfs⟩:=lenOf_fieldAddr hfl
    have hk:known P fl.type=true:=by
     cases hkk:known P fl.type
     ·exact(hcond (.inr (by rw[hkk];rfl))).elim
     ·rfl
    have hn0:P.cellsOf fl.type≠0:=fun h0=>hcond (.inl h0)
    have hrun:∀ad:Addr,(Instr.fieldAt t (.pointer (some ad)) f).run P w=.ok (.pointer (some (ad.add fl.offset))) w:=fun ad=>by
     simp[Instr.fieldAt,run_underlying hu,hfs,Instr.sureAddr,fieldPlace,run_sizeOf hk,hn0]
    split at h
    ·rename_i id' off v hx
     cases h
     obtain⟨b,hb,hkb⟩:=RV.box (hx▸opn x)
     refine exv (v:=.pointer (some ((⟨b,off,none⟩:Addr).add fl.offset))) (by unfold execOp;rw[ho]) (by rw[hb];exact hrun _) (R1.toRV (a:=.box id' (off+fl.offset)) ⟨⟨b,?_,hkb⟩,(fun e=>nomatch e),(fun _ c e=>nomatch e)⟩)
     rw[add_eq rfl]
     rfl
    ·rename_i τ off v hx
     cases h
     obtain⟨ad,cc,hb,h1,h2⟩:=RV.ref (hx▸opn x)
     refine exv (v:=.pointer (some ((ad.add off).add fl.offset))) (by unfold execOp;rw[ho]) (by rw[hb];exact hrun _) (R1.toRV (a:=⟨.ref τ (off+fl.offset),v⟩) ⟨⟨ad,cc,?_,h1,h2⟩,(fun e=>nomatch e),(fun _ c e=>nomatch e)⟩)
     rw[add_add]
     rfl
    ·rename_i id' e o' v hx
     cases h
     obtain⟨b,hb,hkb⟩:=RV.elp (hx▸opn x)
     refine exv (v:=.pointer (some ((⟨b,v*e.size+o',none⟩:Addr).add fl.offset))) (by unfold execOp;rw[ho]) (by rw[hb];exact hrun _) (R1.toRV (a:=⟨.elp id' e (o'+fl.offset),v⟩) ⟨⟨b,?_,hkb⟩,(fun e=>nomatch e),(fun _ c e=>nomatch e)⟩)
     rw[add_eq rfl,Nat.add_assoc]
     rfl
    ·cases h
  ·cases h
 -- field
 ·rename_i t x f
  split at h
  ·rename_i fl hfl
   split at h
   ·cases h
   ·rename_i hk
    obtain⟨r,hb,e'⟩:=Option.map_eq_some_iff.1 h
    cases e'
    have hk2:known P fl.type=true∧(opnd s x).sh.agg=true∧(opnd s x).sh.bare=true:=by simpa using hk
    obtain⟨hk,hag,hba⟩:=hk2
    obtain⟨fs,hu,hfs⟩:=lenOf_fieldAddr hfl
    have hx1:R1 w K (opnd s x).sh (opnd s x).v (a.eval x):=RV.solid (opn x) (by
     unfold AV.solid
     cases e:(opnd s x).sh<;>first|rfl |(rw[e] at hag;cases hag;done) |(rw[e] at hba;cases hba))
    obtain⟨cs,hcs⟩:=hx1.2.1 hag
    have hlen:=RS.length _ _ _ hx1.1
    obtain⟨i1,i2,i3⟩:=Sh.sub_RS _ _ _ _ _ _ _ hb hx1.1
    have hsz:r.sh.size=P.cellsOf fl.type:=by
     have:=RS.length _ _ _ i1
     rw[List.length_take,List.length_drop,hlen] at this
     omega
    have hone:isStruct P fl.type=false→P.cellsOf fl.type=1:=fun e=>by rw[←hsz];exact Sh.size_pos _ (by rw[i2,e])
    have hp:=run_part (P:=P) (cs:=cs.toList) (off:=fl.offset) hk (by rw[hcs] at hlen;simp only[Value.cells] at hlen;rw[hlen];exact i3) hone w
    refine exv (by unfold execOp;rw[ho]) (v:=mkV (isStruct P fl.type) ((cs.toList.drop fl.offset).take (P.cellsOf fl.type))) ?_ ?_
    ·rw[hcs]
     simpa [Instr.field,run_underlying hu,hfs,asAgg] using hp
    ·have i1':RS w K r.sh r.v (List.take (P.cellsOf fl.type) (List.drop fl.offset cs.toList)):=by rw[hcs] at i1;exact i1
     exact RV.of_cells i1' i2 (fun _ _ c e=>RS.one _ _ _ i1' c (by rw[e];simp))
  ·cases h
 -- indexAddr
 ·rename_i t x i
  split at h
  ·rename_i el m hu hi
   split at h
   ·rename_i e xs hxs
    split at h
    ·rename_i hcond
     obtain⟨hsz,hpos,hk⟩:=hcond
     cases h
     simp only[inRange,Bool.and_eq_true,decide_eq_true_eq] at hc
     obtain⟨k,hik⟩:=natOf_ok hi (opn i)
     have hsl:∃A len cap,a.eval x=.slice A len cap∧RT w K (.sl e) xs [.slice A len cap]:=by
      have hx:=opn x
      generalize opnd s x=ax at hx hxs
      obtain⟨sh,xv⟩:=ax
      cases sh<;>simp only[asSl] at hxs<;>try cases hxs
      case ty τ =>
       cases τ<;>simp only[] at hxs<;>try cases hxs
       exact RV.sl hx
      case osl =>
       obtain⟨A,len,cap,h1,h2,_⟩:=RV.osl hx
       exact⟨A,len,cap,h1,h2⟩
     obtain⟨A,len,cap,hav,A',len',cap',he,x1,x2,x3,x4⟩:=hsl
     injection he with he _
     injection he with q1 q2 q3
     subst q1 q2 q3
     cases A with
     |none=>have:=x3 rfl;omega
     |some ad =>
      obtain⟨cc,c1,c2⟩:=x4 ad rfl
      have hlt:m.toNat<xs.length:=by omega
      have hg:=RL.get (RT.length e) e.dflt xs cc m.toNat c1 hlt
      have hat:=c2.add (m.toNat*e.size) e.size
      refine exv (v:=.pointer (some ((ad.add (m.toNat*e.size)).add 0))) (by unfold execOp;rw[ho]) ?_ (R1.toRV (a:=⟨.ref e 0,_⟩) ⟨⟨_,_,rfl,hg,hat⟩,(fun e=>nomatch e),(fun _ c e=>nomatch e)⟩)
      rw[hav,hik]
      have hs:=run_sizeOf hk w
      rw[hsz] at hs
      have h1:0≤m:=hc.1
      have h2:m<len:=by rw[x1];exact hc.2
      simp[Instr.indexAt,asIntOf,run_underlying hu,h1,h2,hs,Addr.add]
    ·cases h
   ·split at h
    ·rename_i id' e y hx
     split at h
     ·rename_i hcond
      obtain⟨hsz,hpos,hk⟩:=hcond
      cases h
      simp only[inRange,Bool.and_eq_true,decide_eq_true_eq] at hc
      obtain⟨kk,hik⟩:=natOf_ok hi (opn i)
      obtain⟨b,j,cap,hb,g1,g2,g3,g4,g5⟩:=RV.win (hx▸opn x)
      have hj:=g4 (by omega)
      refine exv (v:=.pointer (some ((⟨b,j,none⟩:Addr).add (m.toNat*e.size)))) (by unfold execOp;rw[ho]) ?_ (R1.toRV (a:=⟨.elp id' e 0,y.1+m.toNat⟩) ⟨⟨b,?_,g1,g2,g5.le (Nat.mul_le_mul_right _ (by show y.1+m.toNat+1≤y.1+y.2;omega))⟩,(fun e=>nomatch e),(fun _ c e=>nomatch e)⟩)
      ·rw[hb,hik]
       have hs:=run_sizeOf hk w
       rw[hsz] at hs
       simp[Instr.indexAt,asIntOf,run_underlying hu,hc.1,hc.2,hs]
      ·rw[add_eq rfl,hj,Nat.add_mul,Nat.add_zero]
       rfl
     ·cases h
    ·rename_i tg id' e ys hx
     split at h
     ·rename_i hcond
      obtain⟨hsz,hk⟩:=hcond
      cases h
      simp only[inRange,Bool.and_eq_true,decide_eq_true_eq] at hc
      obtain⟨kk,hik⟩:=natOf_ok hi (opn i)
      obtain⟨A,len,cap,hb,⟨A',len',cap',he,x1,x2,x3,x4⟩,_⟩:=RV.wsl (hx▸opn x)
      injection he with he _
      injection he with q1 q2 q3
      subst q1 q2 q3
      cases A with
      |none=>have:=x3 rfl;omega
      |some ad =>
       obtain⟨cc,c1,c2⟩:=x4 ad rfl
       have hlt:m.toNat<ys.length:=by omega
       have hlen:∀x c,RWin w K id' e x c→c.length=1:=fun _ _ ⟨_,_,_,h,_⟩=>by rw[h];rfl
       have hg:=RL.getW (d:=(0,0)) hlen ys cc m.toNat c1 hlt
       have hat:=c2.add m.toNat 1
       refine exv (v:=.pointer (some (ad.add m.toNat))) (by unfold execOp;rw[ho]) ?_ (R1.toRV (a:=⟨.wref id' e,_⟩) ⟨⟨_,_,rfl,hg,hat⟩,(fun e=>nomatch e),(fun _ c e=>nomatch e)⟩)
       rw[hb,hik]
       have hs:=run_sizeOf hk w
       rw[hsz] at hs
       have h1:0≤m:=hc.1
       have h2:m<len:=by rw[x1];exact hc.2
       simp[Instr.indexAt,asIntOf,run_underlying hu,h1,h2,hs]
     ·cases h
    ·cases h
  ·rename_i k el m hu hi
   split at h
   ·rename_i id' off v cst hx
    split at h
    ·cases h
    ·rename_i hcond
     have hk:known P el=true:=by
      cases hkk:known P el
      ·exact(hcond (.inr (by rw[hkk];rfl))).elim
      ·rfl
     cases h
     simp only[inRange,Bool.and_eq_true,decide_eq_true_eq] at hc
     obtain⟨kk,hik⟩:=natOf_ok hi (opn _)
     obtain⟨b,hb,hkb⟩:=RV.box (hx▸opn x)
     refine exv (v:=.pointer (some ((⟨b,off,none⟩:Addr).add (m.toNat*P.cellsOf el)))) (by unfold execOp;rw[ho]) ?_ (R1.toRV (a:=.box id' (off+m.toNat*P.cellsOf el)) ⟨⟨b,?_,hkb⟩,(fun e=>nomatch e),(fun _ c e=>nomatch e)⟩)
     ·rw[hb,hik]
      simp[Instr.indexAt,asIntOf,run_underlying hu,Instr.sureAddr,hc.1,hc.2,run_sizeOf hk]
     ·rw[add_eq rfl]
      rfl
   ·rename_i id' off v hx _
    split at h
    ·rename_i e he
     split at h
     ·rename_i hcond
      obtain⟨hsz,hk⟩:=hcond
      cases h
      simp only[inRange,Bool.and_eq_true,decide_eq_true_eq] at hc
      obtain⟨kk,hik⟩:=natOf_ok hi (opn _)
      obtain⟨b,hb,hkb,hlt⟩:=RV.box (hx▸opn x)
      refine exv (v:=.pointer (some ((⟨b,off,none⟩:Addr).add (m.toNat*P.cellsOf el)))) (by unfold execOp;rw[ho]) ?_ (R1.toRV (a:=⟨.boxi id' off k e,m.toNat⟩) ⟨⟨b,?_,hkb,hlt,(show m.toNat<k by omega)⟩,(fun e=>nomatch e),(fun _ c e=>nomatch e)⟩)
      ·rw[hb,hik]
       simp[Instr.indexAt,asIntOf,run_underlying hu,Instr.sureAddr,hc.1,hc.2,run_sizeOf hk]
      ·rw[add_eq rfl,hsz]
       rfl
     ·cases h
    ·cases h
   ·cases h
  ·cases h
 -- index
 ·rename_i t x i
  split at h
  ·rename_i m xs hu hi hx
   cases h
   simp only[inRange,Bool.and_eq_true,decide_eq_true_eq] at hc
   obtain⟨k,hik⟩:=natOf_ok hi (opn i)
   have hv:=RV.str (w:=w) (K:=K) (by have:=opn x;rw[hx] at this;exact this)
   refine exv (v:=.int .u8 (List.getD xs m.toNat 0).toNat) (by unfold execOp;rw[ho]) ?_ (RV.scalar (av:=.int _ _) rfl rfl rfl)
   rw[hv,hik]
   have hlt:m.toNat<xs.length:=by omega
   have hget:(⟨⟨xs⟩⟩:ByteArray)[m.toNat]?=some xs[m.toNat]:=by
    rw[getElem?_pos (⟨⟨xs⟩⟩:ByteArray) m.toNat hlt]
    rfl
   simp[Instr.index,asIntOf,run_underlying hu,hc.1,hget,List.getD,hlt]
  ·rename_i k el m m' e xs hu hi hx
   split at h
   ·rename_i hcond
    obtain⟨h1,h2,h3,hk⟩:=hcond
    cases h
    subst h1
    simp only[inRange,Bool.and_eq_true,decide_eq_true_eq] at hc
    obtain⟨kk,hik⟩:=natOf_ok hi (opn i)
    have hx1:R1 w K (.ty (.arr k e)) xs (a.eval x):=by have:=opn x;rw[hx] at this;exact this
    obtain⟨cs,hcs⟩:=hx1.2.1 rfl
    obtain⟨l1,l2⟩:=hx1.1
    have hlt:m.toNat<k:=by omega
    have hg:=RL.get (RT.length e) e.dflt xs _ m.toNat l2 (by rw[l1];exact hlt)
    have hll:=RL.length (RT.length e) xs _ l2
    have hb:=arith2 (sz:=e.size) hlt
    have hone:isStruct P el=false→P.cellsOf el=1:=fun e'=>by rw[h2];exact Ty.size_pos _ (by rw[←h3,e'])
    have hp:=run_part (P:=P) (cs:=cs.toList) (off:=m.toNat*e.size) hk (by rw[hcs] at hll;simp only[Value.cells] at hll;rw[hll,l1,h2];exact hb) hone w
    refine exv (v:=mkV (isStruct P el) ((cs.toList.drop (m.toNat*e.size)).take (P.cellsOf el))) (by unfold execOp;rw[ho]) ?_ ?_
    ·rw[hcs,hik]
     have hs:=run_sizeOf hk w
     rw[h2] at hs
     rw[h2] at hp
     simpa [Instr.index,asIntOf,run_underlying hu,hc.1,hc.2,hs,h2] using hp
    ·have hg':RT w K e (List.getD xs m.toNat e.dflt) (List.take e.size (List.drop (m.toNat*e.size) cs.toList)):=by rw[hcs] at hg;exact hg
     rw[h2]
     exact RV.of_cells (av:=⟨.ty e,_⟩) hg' (by rw[h3];rfl) (fun _ _ c e'=>RT.one _ _ _ hg' c (by rw[e'];simp))
   ·cases h
  ·cases h
 -- slice
 ·rename_i t x lo hi mx
  split at h
  ·cases h
  ·rename_i hmx
   have hmx:mx=none:=by cases mx<;>simp at hmx ⊢
   subst hmx
   have oRV:∀q:Option Operand,optRV w K (q.map (opnd s)) (q.map a.eval):=fun q=>by
    cases q with
    |none=>trivial
    |some q=>exact opn q
   split at h
   ·rename_i hu
    split at h
    ·rename_i v hx
     obtain⟨⟨c',r⟩,hb,e'⟩:=Option.map_eq_some_iff.1 h
     cases e'
     obtain⟨z,z1,z2⟩:=sliceAt_str hu (oRV lo) (oRV hi) hb hc
     have hv:=RV.str (w:=w) (K:=K) (b:=v) (v:=a.eval x) (by have:=opn x;rw[hx] at this;exact this)
     refine exv (m:=Instr.sliceAt t (a.eval x) (lo.map a.eval) (hi.map a.eval) none) (by unfold execOp;rw[ho];rfl) ?_ z2
     rw[hv]
     exact z1
    ·cases h
   ·rename_i el hu
    split at h
    ·rename_i e xs hxs
     split at h
     ·rename_i hcond
      obtain⟨⟨c',r⟩,hb,e'⟩:=Option.map_eq_some_iff.1 h
      cases e'
      obtain⟨z,z1,z2⟩:=sliceAt_sl hu hcond.2 hcond.1 hxs (opn x) (oRV lo) (oRV hi) hb hc
      exact exv (m:=Instr.sliceAt t (a.eval x) (lo.map a.eval) (hi.map a.eval) none) (by unfold execOp;rw[ho];rfl) z1 z2
     ·cases h
    ·split at h
     ·rename_i id' e y hx
      split at h
      ·rename_i hcond
       obtain⟨⟨c',r⟩,hb,e'⟩:=Option.map_eq_some_iff.1 h
       cases e'
       obtain⟨z,z1,z2⟩:=sliceAt_win hu hcond.2 hcond.1 (hx▸opn x) (oRV lo) (oRV hi) hb hc
       exact exv (m:=Instr.sliceAt t (a.eval x) (lo.map a.eval) (hi.map a.eval) none) (by unfold execOp;rw[ho];rfl) z1 z2
      ·cases h
     ·cases h
   ·cases h
 -- makeSlice
 ·rename_i t len cap
  split at h
  ·rename_i e cc hu hcap
   split at h
   ·rename_i τ z i hτ hz hi
    split at h
    ·rename_i hsz
     cases h
     simp only[roomOk,Bool.and_eq_true,decide_eq_true_eq] at hc
     obtain⟨⟨h1,h2⟩,h3⟩:=hc
     obtain⟨k,hik⟩:=natOf_ok hcap (opn cap)
     obtain⟨zv,hzv⟩:∃zv,i.zero=some zv:=by
      unfold zeroTy at hz
      split at hz
      ·rename_i z1 hz1
       obtain⟨i',zv,hi',hzv,_⟩:=zeroOf_ok hz1
       rw[hi] at hi'
       cases hi'
       exact⟨zv,hzv⟩
      ·cases hz
     have hce:P.cellsOf e=i.size:=by simp[Program.cellsOf,hi]
     have hw:IntKind.i64.wrap cc=cc:=by
      exact wrap_i64 _ (by omega) (by omega)
     have hl0:IntKind.i64.wrap 0=0:=by decide
     have hrun:∃cells:Array Value,cells.size=cc.toNat*τ.size∧(Instr.makeSlice t (.int .i64 0) (.int k cc)).run P w=.ok (.slice (some ⟨w.heap.size,0,none⟩) 0 cc.toNat) (w.alloc (.cells cells e)):=by
      by_cases h0:cc.toNat*i.size=0
      ·refine⟨#[],by rw[←hsz,hce,h0];rfl,?_⟩
       have hn:¬(cc<0):=by omega
       have hm:¬((i.bytes:Int)*cc > 281474976710656):=by rw[Int.mul_comm];omega
       simp[Instr.makeSlice,run_underlying hu,typeInfo,hi,asInt,asIntOf,hw,hl0,hn,hm,sizeOf,h0,newRow]
       congr 2
       exact Array.eq_empty_of_size_eq_zero (by simp)
      ·refine⟨(Array.range (cc.toNat*i.size)).map (zv.cells[· % zv.cells.size]!),by rw[←hsz,hce];simp,?_⟩
       have hn:¬(cc<0):=by omega
       have hm:¬((i.bytes:Int)*cc > 281474976710656):=by rw[Int.mul_comm];omega
       simp[Instr.makeSlice,run_underlying hu,typeInfo,hi,asInt,asIntOf,hw,hl0,hn,hm,sizeOf,h0,newRow,zeroValue,hzv]
     obtain⟨cells,hcs,hrun⟩:=hrun
     have hst:Still w K (w.alloc (.cells cells e)) (setK K w.heap.size (.row id 0)):=Still.alloc w K _ _ _ _ 0
     refine⟨_,_,_,.inl (exec_v (m:=Instr.makeSlice t (.int .i64 0) (a.eval cap)) (by unfold execOp;rw[ho];rfl) (by rw[hik];exact hrun)),(hr.still hst).setO hd ?_⟩
     refine R1.toRV (a:=⟨.osl id τ,[]⟩) ⟨⟨⟨_,0,cc.toNat,rfl,rfl,Nat.zero_le _,(fun h=>by cases h),fun ad _=>⟨[],rfl,fun j v hj=>by simp at hj⟩⟩,fun A l c hc=>?_⟩,(fun e=>nomatch e),(fun _ c e=>nomatch e)⟩
     injection hc with hc
     injection hc with q1 q2 q3
     subst q1 q2 q3
     refine .inr (.inr ⟨_,rfl,rfl,by rw[setK_same,Nat.zero_mul],cells,e,heap_new w _,?_⟩)
     show 0+cc.toNat*τ.size≤cells.size
     omega
    ·cases h
   ·cases h
  ·cases h
 -- lookup
 ·rename_i t x i ok
  split at h
  ·rename_i b u k hx hi
   split at h
   ·rename_i l hl
    split at h
    ·rename_i hmt
     cases h
     obtain⟨bb,hb,hkb,hlt⟩:=RV.mp (hx▸opn x)
     obtain⟨av,bo,e1,e2,e3⟩:=hr.heap bb b hlt hkb
     have:av=⟨.mapc,l⟩:=by
      unfold heapAt at hl
      split at hl
      ·cases hl
      ·rw[e1] at hl;cases hl;rfl
     subst this
     obtain⟨es,c,rfl,hm⟩:=e3
     have hiv:a.eval i=.int .i64 k:=RV.int (hi▸opn i)
     have hrun:=run_lookup hmt e2 hm k ok
     refine exv (m:=Instr.lookup t (a.eval x) (a.eval i) ok) (by unfold execOp;rw[ho]) (by rw[hb,hiv];exact hrun) ?_
     cases ok
     ·exact RV.scalar (av:=.int _ _) rfl rfl rfl
     ·exact⟨_,rfl,⟨rfl,(fun e=>nomatch e),(fun _ c e=>nomatch e)⟩,⟨rfl,(fun e=>nomatch e),(fun _ c e=>nomatch e)⟩,rfl⟩
    ·cases h
   ·cases h
  ·cases h
 -- mapUpdate
 ·rename_i t x i v
  split at h
  ·rename_i b u k vv hx hi hv
   split at h
   ·rename_i l hl
    split at h
    ·rename_i hmt
     cases h
     obtain⟨bb,hb,hkb,hlt⟩:=RV.mp (hx▸opn x)
     obtain⟨av,bo,e1,e2,e3⟩:=hr.heap bb b hlt hkb
     rw[hl] at e1
     cases e1
     obtain⟨es,c,rfl,hm⟩:=e3
     have hiv:a.eval i=.int .i64 k:=RV.int (hi▸opn i)
     have hvv:a.eval v=.int .i64 vv:=RV.int (hv▸opn v)
     obtain⟨es',c',hrun,hm'⟩:=run_mapUpdate hmt e2 hm k vv
     refine⟨undef,putO w bb (.map es' c'),K,.inr ⟨by simp[execOp,ho,hb,hiv,hvv,hrun],rfl⟩,?_⟩
     have hh:(putO w bb (.map es' c')).heap[bb]?=some (.map es' c'):=by simp[putO,hlt]
     exact hr.putObj (w':=putO w bb (.map es' c')) (c:=⟨.mapc,mput l k vv⟩) hd hlt hkb rfl rfl rfl (by simp[putO]) (fun x hx=>by simp[putO,Array.getElem?_setIfInBounds,Ne.symm hx]) e2 rfl hh (fun m ⟨cs,T,q1,_⟩=>by rw[e2] at q1;cases q1) ⟨es',c',rfl,hm'⟩ undef
    ·cases h
   ·cases h
  ·cases h
 -- extract
 ·rename_i x m
  split at h
  ·rename_i sh v hx
   obtain⟨r,hb,e'⟩:=Option.map_eq_some_iff.1 h
   cases e'
   obtain⟨vs,hv,ht⟩:∃vs,a.eval x=.tuple vs∧RTup w K sh v vs.toList:=by have:=opn x;rw[hx] at this;exact this
   obtain⟨u,hu,hr'⟩:=nth_ok _ _ _ _ hb ht
   refine exv (by unfold execOp;rw[ho]) ?_ hr'
   rw[hv]
   have hu':vs[m]?=some u:=by simpa using hu
   simp[Instr.extract,hu']
  ·cases h
 -- builtin calls
 ·rename_i c'
  split at h
  ·rename_i hcal
   split at h
   ·rename_i t x hat hargs
    have hat:c'.argTypes=#[t]:=by cases h':c'.argTypes;simp_all
    have hargs:c'.args=#[x]:=by cases h':c'.args;simp_all
    have hex:∀v:Value,(Builtin.len_ #[t] o.type #[a.eval x]).run P w=.ok v w→(execOp a.eval o).run P w=.ok (.value v) w:=fun v hv=>by
     simp[execOp,ho,resolve,hcal,invoke,builtin,hat,hargs,hv]
    have fin:∀m:Nat,(Builtin.len_ #[t] o.type #[a.eval x]).run P w=.ok (.int .i64 m) w→OpOk P fr n s a w o (.val (.int .i64 (m:Nat))):=fun m hm =>
     OpOk.pure hr hd (RV.scalar (av:=.int _ _) rfl rfl rfl) (hex _ hm)
    split at h
    ·rename_i v hu hx
     cases h
     refine fin _ ?_
     have hv:=RV.str (w:=w) (K:=K) (b:=v) (v:=a.eval x) (by have:=opn x;rw[hx] at this;exact this)
     rw[hv]
     simp[Builtin.len_,run_underlying hu,goInt]
     rfl
    ·rename_i e τ v hu hx
     cases h
     refine fin _ ?_
     obtain⟨A,len,cap,hv,A',len',cap',he,x1,_⟩:=RV.sl (w:=w) (K:=K) (by have:=opn x;rw[hx] at this;exact this)
     injection he with he _
     injection he with q1 q2 q3
     rw[hv,q2,x1]
     simp[Builtin.len_,run_underlying hu,goInt]
    ·rename_i e id' τ v hu hx
     cases h
     refine fin _ ?_
     obtain⟨A,len,cap,hv,⟨A',len',cap',he,x1,_⟩,_⟩:=RV.osl (w:=w) (K:=K) (by have:=opn x;rw[hx] at this;exact this)
     injection he with he _
     injection he with q1 q2 q3
     rw[hv,q2,x1]
     simp[Builtin.len_,run_underlying hu,goInt]
    ·rename_i e id' τ v hu hx
     cases h
     refine fin _ ?_
     obtain⟨b,j,cap,hv,_⟩:=RV.win (w:=w) (K:=K) (by have:=opn x;rw[hx] at this;exact this)
     rw[hv]
     simp[Builtin.len_,run_underlying hu,goInt]
    ·rename_i e tg id' τ v hu hx
     cases h
     refine fin _ ?_
     obtain⟨A,len,cap,hv,⟨A',len',cap',he,x1,_⟩,_⟩:=RV.wsl (w:=w) (K:=K) (by have:=opn x;rw[hx] at this;exact this)
     injection he with he _
     injection he with q1 q2 q3
     rw[hv,q2,x1]
     simp[Builtin.len_,run_underlying hu,goInt]
    ·rename_i _ m e hu
     cases h
     refine fin _ ?_
     simp[Builtin.len_,run_underlying hu,goInt]
    ·cases h
   ·cases h
  ·rename_i hcal
   obtain⟨v,hv,e'⟩:=Option.map_eq_some_iff.1 h
   cases e'
   obtain⟨x,l,u,hl,hrun,hu⟩:=extreme_ok (P:=P) (w:=w) (K:=K) (a:=a) (g:=Builtin.min2) (fun k x y=>by simp[Builtin.min2,imin,Bool.cond_eq_ite]) hv (fun x _=>opn x)
   have hargs:c'.args=(x::l).toArray:=by cases h':c'.args;simp_all
   exact OpOk.pure hr hd hu (by simp[execOp,ho,resolve,hcal,invoke,builtin,Builtin.min_,hargs,hrun])
  ·rename_i hcal
   obtain⟨v,hv,e'⟩:=Option.map_eq_some_iff.1 h
   cases e'
   obtain⟨x,l,u,hl,hrun,hu⟩:=extreme_ok (P:=P) (w:=w) (K:=K) (a:=a) (g:=Builtin.max2) (fun k x y=>by simp[Builtin.max2,imax,Bool.cond_eq_ite]) hv (fun x _=>opn x)
   have hargs:c'.args=(x::l).toArray:=by cases h':c'.args;simp_all
   exact OpOk.pure hr hd hu (by simp[execOp,ho,resolve,hcal,invoke,builtin,Builtin.max_,hargs,hrun])
  ·rename_i hcal
   split at h
   ·rename_i t t' x y hat hargs
    split at h
    ·rename_i htt
     subst htt
     have hat:c'.argTypes=#[t,t]:=by cases h':c'.argTypes;simp_all
     have hargs:c'.args=#[x,y]:=by cases h':c'.args;simp_all
     split at h
     ·rename_i e hu
      split at h
      ·rename_i p hp
       split at h
       ·rename_i i hi
        split at h
        ·rename_i hcond
         cases h
         obtain⟨k1,k2,k3⟩:=hcond
         obtain⟨tg,b,τ,xs,ys⟩:=p
         obtain⟨tg',hx,hy⟩:=wslArgs_spec hp
         obtain⟨A,l,k,q1,q2,q3⟩:=wslOf_ok hx (opn x)
         obtain⟨B,l2,k2',p1,p2,_⟩:=RV.wsl (hy▸opn y)
         obtain⟨r,w',K',hrun,hrel⟩:=append_wsl_ok (d:=o.dst) (ty:=o.type) (u:=a.eval x) (v:=a.eval y) hr hd hu hi k1 k2 k3 (by simpa [wroom] using hc) q1 (by rw[q1];exact q2) q3 (by rw[p1];exact p2)
         exact⟨r,w',K',.inl (by simp[execOp,ho,resolve,hcal,invoke,builtin,hat,hargs,hrun]),hrel⟩
        ·cases h
       ·cases h
      ·split at h
       ·rename_i id' τ xs i hx hi
        split at h
        ·rename_i ys hy
         split at h
         ·rename_i hcond
          cases h
          obtain⟨k1,k2,k3,k4⟩:=hcond
          obtain⟨hy1,hy2⟩:=RV.as_mk (opn y) hy
          obtain⟨r,w',K',hrun,hrel⟩:=append_ok (d:=o.dst) (ty:=o.type) hr hd hu hi k1 k3 k4 (by simpa using hc) (hx▸ownNil_RV (opn x)) hy1 hy2
          exact⟨r,w',K',.inl (by simp[execOp,ho,resolve,hcal,invoke,builtin,hat,hargs,hrun]),hrel⟩
         ·cases h
        ·cases h
       ·cases h
     ·cases h
    ·have hat:c'.argTypes=#[t,t']:=by cases h':c'.argTypes;simp_all
     have hargs:c'.args=#[x,y]:=by cases h':c'.args;simp_all
     split at h
     ·rename_i e hu hu'
      split at h
      ·rename_i id' xs b i hx hy hi
       split at h
       ·rename_i hcond
        cases h
        obtain⟨k1,k2,k3⟩:=hcond
        obtain⟨r,w',K',hrun,hrel⟩:=append_str_ok (d:=o.dst) (ty:=o.type) hr hd hu hu' hi k1 k2 k3 (by simpa using hc) (hx▸opn x) (hy▸opn y)
        exact⟨r,w',K',.inl (by simp[execOp,ho,resolve,hcal,invoke,builtin,hat,hargs,hrun]),hrel⟩
       ·cases h
      ·cases h
     ·cases h
   ·cases h
  ·cases h
 ·cases h
end
end Go.Av
end
section
namespace Go.Av
open Go
abbrev Heap:=List (Nat×AV)
abbrev R:=AV×Heap×Nat
abbrev Kont:=Exit→St→Option R
abbrev Plain:=List AV→Option (Bool×AV)
structure Loop where
 M:List Nat
 T:List Nat
 run:List AV→Heap→Nat→(Exit→List AV→Heap→Nat→Option R)→Option R
abbrev Body:=List AV→Heap→Nat→(AV→Heap→Nat→Option R)→Option R
structure Ctx where
 P:Program
 eqs:List TypeId
 plain:FuncId→Option Plain
 loops:FuncId→Nat→Option Loop
 bodies:FuncId→Option Body:=fun _=>none
 cuts:FuncId→Nat→Option Loop:=fun _ _=>none
 gets:FuncId→Option (Nat×TypeId):=fun _=>none
 owns:FuncId→Bool:=fun _=>false
def panAV (v:Value):AV:=⟨.tup (.lit v),()⟩
def panOf (a:AV):Option Value :=
 match a.sh with
 | .tup (.lit v)=>some v
 |_=>none
def panVal:List PanicEntry→Option Value
 |[⟨v,false,false⟩]=>some v
 |_=>none
def Sh.boxes:Sh→List Nat
 | .pair a b=>a.boxes++b.boxes
 | .box id _=>[id]
 | .boxi id _ _ _=>[id]
 | .win id _=>[id]
 | .elp id _ _=>[id]
 | .mp id=>[id]
 | .nbox id=>[id]
 | .wsl _ id _=>[id]
 | .wref id _=>[id]
 | .fn _ caps=>caps.boxes
 | .tup a=>a.boxes
 | .tyc _ a=>a.boxes
 |_=>[]
def Sh.rows:Sh→List Nat
 | .pair a b=>a.rows++b.rows
 | .osl id _=>[id]
 | .tsl _ id=>[id]
 | .wsl (some id) _ _=>[id]
 | .fn _ caps=>caps.rows
 | .tup a=>a.rows
 | .tyc _ a=>a.rows
 |_=>[]
def addNew (l:List Nat):List Nat→List Nat
 |[]=>l
 |x::xs=>if l.contains x then addNew l xs else addNew (l++[x]) xs
def contentBoxes (h:Heap):List Nat→List Nat
 |[]=>[]
 |id::l=>(match look id h with
  |some c=>c.sh.boxes
  |none=>[])++contentBoxes h l
def contentRows (h:Heap):List Nat→List Nat
 |[]=>[]
 |id::l=>(match look id h with
  |some c=>c.sh.rows
  |none=>[])++contentRows h l
def hasBox (h:Heap) (id:Nat):Bool:=(look id h).isSome
def reach (h:Heap):Nat→List Nat→List Nat
 |0,l=>l
 |d+1,l=>reach h d (addNew l ((contentBoxes h l).filter (hasBox h)))
def allBoxes:List AV→List Nat
 |[]=>[]
 |a::l=>a.sh.boxes++allBoxes l
def allRows:List AV→List Nat
 |[]=>[]
 |a::l=>a.sh.rows++allRows l
def indexIn (id:Nat):List Nat→Nat→Option Nat
 |[],_=>none
 |x::l,k=>if id==x then some k else indexIn id l (k+1)
def nthOr (N:Nat) (l:List Nat) (j:Nat):Option Nat :=
 match l[j]? with
 |some x=>some x
 |none=>some (N+j)
def localHeap (h:Heap) (ρ σ:Nat→Option Nat):List Nat→Nat→Heap
 |[],_=>[]
 |id::l,k=>(match look id h with
  |some c=>[(k,c.ren ρ σ)]
  |none=>[])++localHeap h ρ σ l (k+1)
def strikeAll (ts:List Nat) (j:Nat):Option Nat:=if ts.contains j then none else some j
def backHeap (ρ σ:Nat→Option Nat) (h:Heap):Heap→Heap
 |[]=>h
 |(j,c)::l=>match σ j with
  |some id=>put id (c.ren ρ σ) (backHeap ρ σ h l)
  |none=>backHeap ρ σ h l
def freshIn (N:Nat) (bs:List Nat) (h:Heap):Heap→Bool
 |[]=>true
 |(j,_)::l=>(match bs[j]? with
  |some _=>true
  |none=>(look (N+j) h).isNone)&&freshIn N bs h l
def noDup:List Nat→Bool
 |[]=>true
 |x::l=>!l.contains x&&noDup l
def noRow (_:Nat):Option Nat:=none
def inCall (own:Bool) (body:List AV→Heap→Nat→(AV→Heap→Nat→Option R)→Option R) (args:List AV) (s:St) (K:AV→St→Option R):Option R :=
 let bs:=reach s.heap 4 (addNew [] ((allBoxes args).filter (hasBox s.heap)))
 let ts:=addNew [] ((bif own then allRows args else[])++contentRows s.heap bs)
 let ρ:=fun id=>indexIn id ts 0
 let σ:=fun id=>indexIn id bs 0
 if noDup bs&&bs.all (hasBox s.heap) then
  body (args.map (·.ren (bif own then ρ else noRow) σ)) (localHeap s.heap ρ σ bs 0) 64 fun v h nx =>
   if freshIn s.next bs s.heap h then
    let ρ':=nthOr s.next ts
    let σ':=nthOr s.next bs
    K (v.ren ρ' σ') {ents:=mapV (·.ren (strikeAll ts) some) s.ents,heap:=backHeap ρ' σ' (mapV (·.ren (strikeAll ts) some) s.heap) h,next:=s.next+nx}
   else none
 else none
def zipM:List Nat→List AV→List (Nat×AV)
 |t::M,a::l=>put t a (zipM M l)
 |_,_=>[]
def without (T:List Nat) (l0:List (Nat×AV)):List (Nat×AV)→List (Nat×AV)
 |[]=>[]
 |(j,_)::l=>if T.contains j then without T l0 l else match look j l0 with
  |some v=>(j,v)::without T l0 l
  |none=>without T l0 l
def zipOn (base:List (Nat×AV)):List Nat→List AV→List (Nat×AV)
 |t::M,a::l=>put t a (zipOn base M l)
 |_,_=>base
def keysIn (T:List Nat):List (Nat×AV)→Bool
 |[]=>true
 |(j,_)::l=>T.contains j&&keysIn T l
def inLoop (run:List AV→Heap→Nat→(Exit→List AV→Heap→Nat→Option R)→Option R) (vals:List AV) (heap:Heap) (next:Nat)
  (K:Exit→List AV→Heap→Nat→(Nat→Option Nat)→Option R):Option R :=
 let bs:=reach heap 4 (addNew [] ((allBoxes vals).filter (hasBox heap)))
 let ts:=addNew [] (allRows vals++contentRows heap bs)
 let ρ:=fun id=>indexIn id ts 0
 let σ:=fun id=>indexIn id bs 0
 if noDup bs&&bs.all (hasBox heap) then
  run (vals.map (·.ren ρ σ)) (localHeap heap ρ σ bs 0) 64 fun e vals' h nx =>
   if freshIn next bs heap h then
    let ρ':=nthOr next ts
    let σ':=nthOr next bs
    K e (vals'.map (·.ren ρ' σ')) (backHeap ρ' σ' (mapV (·.ren (strikeAll ts) some) heap) h) (next+nx) (strikeAll ts)
   else none
 else none
def firstReg:Code→Option Nat
 | .region id _ _=>some id
 | .seq a b=>match firstReg a with
  |some r=>some r
  |none=>firstReg b
 | .cond _ a b=>match firstReg a with
  |some r=>some r
  |none=>firstReg b
 | .block _ c=>firstReg c
 | .loop c=>firstReg c
 | .scope c=>firstReg c
 |_=>none
def dstOk (n:Nat) (o:Oper):Bool :=
 match o.dst with
 |some d=>Nat.blt d n
 |none=>true
def unpack:Sh→(d:Nat)→Bool
 | .ty .unit,_=>true
 |_,0=>false
 | .pair a b,d+1=>!a.agg&&unpack b d
 | .ty (.pair a b),d+1=>!a.agg&&unpack (.ty b) d
 |_,_=>false
def parts:Nat→AV→List AV
 |0,_=>[]
 |d+1,a=>match a.split with
  |some (p,q)=>p::parts d q
  |none=>[]
def calleeOf (s:St) (c:Call):Option (FuncId×List AV) :=
 match c.callee with
 | .value f=>match opnd s f with
  |⟨.fn g caps,x⟩=>if unpack caps 12 then some (g,c.args.toList.map (opnd s)++parts 12 ⟨caps,x⟩) else none
  |⟨.ty .func,some g⟩=>some (g,c.args.toList.map (opnd s))
  |_=>none
 |_=>none
def unwin (s:St) (f:Nat→Bool) (a:AV):AV :=
 match a with
 |⟨.win id e,y⟩=>(match heapAt s f id with
  |some ⟨.rowc e',xs⟩=>(match Ty.dec e' e with
   |isTrue h=>if 0<e.size then⟨.ty (.sl e),shown (h▸xs:List e.den) y⟩ else⟨.win id e,y⟩
   |isFalse _=>⟨.win id e,y⟩)
  |_=>⟨.win id e,y⟩)
 |a=>a
def winId:AV→Option Nat
 |⟨.win id _,_⟩=>some id
 |_=>none
def isBools:Option AV→Bool
 |some ⟨.rowc .bool,_⟩=>true
 |_=>false
def isInts:Sh→Bool
 | .ty (.sl (.int _)) | .ty (.int _) | .ty .bool | .osl _ (.int _)=>true
 |_=>false
def showMem (s:St) (f:Nat→Bool) (a:AV):Option (List Nat×AV) :=
 match a with
 |⟨.box id 0,_⟩=>(match heapAt s f id with
  |some ⟨.pair (.ty t) (.pair (.wsl _ rid e) (.ty .unit)),x⟩=>(match heapAt s f rid with
   |some ⟨.rowc e',xs⟩=>(match Ty.dec e' e with
    |isTrue h=>if 0<e.size then some ([id,rid],⟨.ref (.pair t (.pair (.sl (.sl e)) .unit)) 0,(x.1,rowsOf (h▸xs:List e.den) x.2.1,())⟩) else none
    |isFalse _=>none)
   |_=>none)
  |_=>none)
 |_=>none
def showArg (s:St) (f:Nat→Bool) (a:AV):AV :=
 match showMem s f a with
 |some p=>p.2
 |none=>a.ren noRow noRow
def isOne:Sh→Bool
 | .ty (.int _) | .ty .bool | .ty .str=>true
 |_=>false
def snapMark:AV:=⟨.tup (.tup (.ty .unit)),()⟩
def showMap (s:St) (f:Nat→Bool) (a:AV):Option (List Nat×AV×AV) :=
 match a with
 |⟨.box id 0,_⟩=>(match heapAt s f id with
  |some ⟨.pair (.ty (.sl e)) (.pair (.ty (.int .i64)) (.pair (.mp m) _)),x⟩=>(match heapAt s f m with
   |some ⟨.mapc,en⟩=>some ([id,m],⟨.ty (.sl e),x.1⟩,⟨.mapc,en⟩)
   |_=>none)
  |_=>none)
 |_=>none
def snapArgs (s:St) (f:Nat→Bool) (args:List AV):Option (List AV) :=
 match args with
 |a::rest=>(match showMap s f a with
  |some p=>some (snapMark::p.2.1::p.2.2::rest.map (·.ren noRow noRow))
  |none=>none)
 |[]=>none
def plainEff (s:St) (f:Nat→Bool) (ps:Plain) (args:List AV):Option (Bool×AV) :=
 match snapArgs s f args with
 |some l=>(match ps l with
  |some v=>if isOne v.2.sh then some v else none
  |none=>none)
 |none =>
 bif args.any (fun a=>(showMem s f a).isSome) then
  match ps (args.map (showArg s f)) with
   |some v=>if isOne v.2.sh then some v else none
   |none=>none
 else match args.filterMap winId with
 |[]=>ps (args.map (·.ren noRow noRow))
 |i::l=>bif (i::l).all fun i=>isBools (heapAt s f i) then
   match ps (args.map fun a=>(unwin s f a).ren noRow noRow) with
   |some v=>if isInts v.2.sh then some v else none
   |none=>none
  else none
def getEff (P:Program) (s:St) (f:Nat→Bool) (p:Nat×TypeId) (args:List AV):Option (Bool×AV) :=
 match args with
 |[⟨.box id 0,_⟩]=>bif known P p.2 then(match loadAV P s f p.2 (.box id p.1) with
  |some v=>bif isOne v.sh then some (true,v) else none
  |none=>none) else none
 |_=>none
def effOf (C:Ctx) (s:St) (no:Lim) (id:Nat) (o:Oper):Res Eff :=
 match o.op with
 | .call c=>match calleeOf s c with
  |some (g,args)=>(match C.plain g with
   |some ps=>(match C.gets g with
    |some p=>(getEff C.P s (no.rd id) p args).map fun v=>(v.1,.val v.2)
    |none=>(plainEff s (no.rd id) ps args).map fun v=>(v.1,.val (v.2.ren (nthOr id []) (nthOr id []))))
   |none=>none)
  |none=>opE C.P C.eqs s no id o
 |_=>opE C.P C.eqs s no id o
def walked (C:Ctx) (s:St) (o:Oper):Option (FuncId×List AV) :=
 match o.op with
 | .call c=>match calleeOf s c with
  |some (g,args)=>(match C.plain g with
   |some _=>none
   |none=>some (g,args))
  |none=>none
 |_=>none
abbrev CallIn:=FuncId→List AV→Heap→Nat→(AV→Heap→Nat→Option R)→Option R
def stepOp (C:Ctx) (call:CallIn) (n:Nat) (no:Lim) (id:Nat) (o:Oper) (s:St) (K:St→Option R):Option R :=
 bif dstOk n o then
  match walked C s o with
  |some (g,args)=>inCall (C.owns g) (call g) args s fun v s'=>match panOf v with
   |some _=>none
   |none=>K (s'.setO o.dst v)
  |none=>match effOf C s no id o with
   |some (c,e)=>bif c then K (s.apply o.dst e) else none
   |none=>none
 else none
def Ty.cellsV:(t:Ty)→t.den→Option (List Value)
 | .unit,_=>some []
 | .pair a b,x=>match Ty.cellsV a x.1,Ty.cellsV b x.2 with
  |some c,some d=>some (c++d)
  |_,_=>none
 | .int k,n=>some [.int k n]
 | .bool,b=>some [.bool b]
 | .str,s=>some [.string ⟨⟨s⟩⟩]
 |_,_=>none
def AV.value (a:AV):Option Value :=
 match a with
 |⟨.ty t,x⟩=>(match t.cellsV x with
  |some cs=>some (mkV t.agg cs)
  |none=>none)
 |_=>none
def isIface:Value→Bool
 | .iface _ _=>true
 |_=>false
def strInts (b:List UInt8):List Int:=b.map fun b=>(b.toNat:Int)
def srcBytes (a:AV):Option (List Int) :=
 match a with
 |⟨.ty .str,b⟩=>some (strInts b)
 |a=>bytesAV a
def bytesOf (xs:List Int):List UInt8:=xs.map toByte
def opY (P:Program) (s:St) (id:Nat) (o:Oper):Res Eff :=
 match o.op with
 | .makeInterface t x=>match P.underlying t with
  |some (.interface _)=>none
  |some _=>(opnd s x).value.map fun v=>(true,.val (.lit (.iface t v)))
  |none=>none
 | .makeSlice t (.tmp i) (.tmp j)=>match P.underlying t,natOf (opnd s (.tmp i)) with
  |some (.slice e),some c=>(match tyOf P tyDepth e,zeroTy P e,P.info? e with
   |some τ,some z,some inf=>(match z.as τ with
    |some z=>if i=j∧P.cellsOf e=τ.size∧0<τ.size∧(look id s.heap).isNone=true then
      some (roomOk c inf.bytes,.new id ⟨.rowc τ,zeros c z⟩ ⟨.win id τ,(0,nspan 0 c)⟩) else none
    |none=>none)
   |_,_,_=>none)
  |_,_=>none
 | .makeMap _ none=>if(look id s.heap).isNone=true then some (true,.new id ⟨.mapc,[]⟩ ⟨.mp id,()⟩) else none
 | .convert t u x=>match P.underlying t,P.underlying u,opnd s x with
  |some (.slice e),some .string,⟨.win b (.int .u8),y⟩=>(match look b s.heap with
   |some ⟨.rowc (.int .u8),xs⟩=>if isBytes P e=true then yes (.val (.str (bytesOf (shown (xs:List Int) y)))) else none
   |_=>none)
  |_,_,_=>none
 | .call c=>match c.callee with
  | .builtin .copy=>(match c.argTypes.toList,c.args.toList with
   |[t,_],[x,y]=>(match P.underlying t,opnd s x with
    |some (.slice el),⟨.win b (.int .u8),v⟩=>(match look b s.heap,srcBytes (opnd s y),P.info? el with
     |some ⟨.rowc (.int .u8),xs⟩,some ys,some i=>if i.size=1 then yes (.put b ⟨.rowc (.int .u8),mend (xs:List Int) v.1 ys v.2⟩) else none
     |_,_,_=>none)
    |_,_=>none)
   |_,_=>none)
  |_=>none
 |_=>none
def opZ (P:Program) (s:St) (o:Oper):Option St :=
 match o.op with
 | .slice t x none none none=>match P.underlying t,opnd s x with
  |some (.array n el),⟨.box id 0,_⟩=>(match look id s.heap with
   |some ⟨.ty (.arr m e),xs⟩=>if m=n∧P.cellsOf el=e.size∧known P el=true∧0<e.size∧0<n then
     some {s.setO o.dst ⟨.win id e,(0,n)⟩ with heap:=Av.put id ⟨.rowc e,xs⟩ s.heap} else none
   |_=>none)
  |_,_=>none
 |_=>none
def panics (s:St) (o:Oper):Option (Option Value) :=
 match o.op with
 | .panic x=>(match opnd s x with
  |⟨.lit v,_⟩=>if isIface v then some (some v) else some none
  |_=>some none)
 |_=>none
def stepY (C:Ctx) (call:CallIn) (n:Nat) (no:Lim) (id:Nat) (o:Oper) (s:St) (K:St→Option R) (Kp:Value→St→Option R):Option R :=
 bif dstOk n o then
  match panics s o with
  |some (some v)=>Kp v s
  |some none=>none
  |none=>match walked C s o with
   |some (g,args)=>inCall (C.owns g) (call g) args s fun v s'=>match panOf v with
    |some u=>Kp u s'
    |none=>K (s'.setO o.dst v)
   |none=>match opZ C.P s o with
    |some s'=>K s'
    |none=>match opY C.P s id o with
     |some (c,e)=>bif c then K (s.apply o.dst e) else none
     |none=>match effOf C s no id o with
      |some (c,e)=>bif c then K (s.apply o.dst e) else none
      |none=>none
 else none
def guardSlot (ops:Array Oper) (j:Nat):Option Nat:=(ops[j]?).bind (·.dst)
def runOps (C:Ctx) (call:CallIn) (n:Nat) (no:Lim) (ops:Array Oper):List Oper→(id:Nat)→St→(St→Option R)→Option R
 |[],_,s,K=>K s
 |o::l,id,s,K=>match o.guard with
  |none=>stepOp C call n no id o s fun s=>runOps C call n no ops l (id+16) s K
  |some (j,want)=>match guardSlot ops j with
   |some d=>(match s.get d with
    |⟨.ty .bool,b⟩=>bif b then
      (bif want then stepOp C call n no id o (s.set d (.bool true)) fun s=>runOps C call n no ops l (id+16) s K
       else bif dstOk n o then runOps C call n no ops l (id+16) ((s.set d (.bool true)).setO o.dst .undef) K else none)
     else(bif want then bif dstOk n o then runOps C call n no ops l (id+16) ((s.set d (.bool false)).setO o.dst .undef) K else none
       else stepOp C call n no id o (s.set d (.bool false)) fun s=>runOps C call n no ops l (id+16) s K)
    |⟨.tup (.ty .unit),_⟩=>bif dstOk n o then runOps C call n no ops l (id+16) (s.setO o.dst .undef) K else none
    |_=>none)
   |none=>none
def runY (C:Ctx) (call:CallIn) (n:Nat) (no:Lim) (ops:Array Oper):List Oper→(id:Nat)→St→(St→Option R)→(Value→St→Option R)→Option R
 |[],_,s,K,_=>K s
 |o::l,id,s,K,Kp=>match o.guard with
  |none=>stepY C call n no id o s (fun s=>runY C call n no ops l (id+16) s K Kp) Kp
  |some (j,want)=>match guardSlot ops j with
   |some d=>(match s.get d with
    |⟨.ty .bool,b⟩=>bif b then
      (bif want then stepY C call n no id o (s.set d (.bool true)) (fun s=>runY C call n no ops l (id+16) s K Kp) Kp
       else bif dstOk n o then runY C call n no ops l (id+16) ((s.set d (.bool true)).setO o.dst .undef) K Kp else none)
     else(bif want then bif dstOk n o then runY C call n no ops l (id+16) ((s.set d (.bool false)).setO o.dst .undef) K Kp else none
       else stepY C call n no id o (s.set d (.bool false)) (fun s=>runY C call n no ops l (id+16) s K Kp) Kp)
    |⟨.tup (.ty .unit),_⟩=>bif dstOk n o then runY C call n no ops l (id+16) (s.setO o.dst .undef) K Kp else none
    |_=>none)
   |none=>none
def iter (f:St→Kont→Option R):Nat→St→Kont→Option R
 |0,_,_=>none
 |m+1,s,K=>f s fun e s'=>match e with
  | .normal=>iter f m s' K
  |e=>K e s'
def noId:Lim:=⟨fun _ _=>false,fun _ _=>true⟩
def noB (_:Nat):Bool:=false
def makes (base:Nat):List Oper→Nat→List Nat
 |[],_=>[]
 |o::l,id=>match o.op with
  | .alloc _ | .box _ _=>id::makes base l (id+16)
  |_=>makes base l (id+16)
def edges (o:Oper):List Nat:=o.after.toList.filterMap fun e=>if Region.binds .any e then some e.on else none
def maskOf (acc:List Nat):List Nat→Nat
 |[]=>0
 |e::l=>((1 <<< e) |||acc.getD e 0) |||maskOf acc l
def ancs:List Oper→List Nat→List Nat
 |[],acc=>acc
 |o::l,acc=>ancs l (acc++[maskOf acc (edges o)])
def wroteBy (t:Nat):List Oper→Option Oper
 |[]=>none
 |o::l=>match o.dst with
  |some d=>if d==t then some o else wroteBy t l
  |none=>wroteBy t l
def rootW (s:St) (ops:List Oper):Nat→Nat→Option Nat
 |0,_=>none
 |d+1,t=>match wroteBy t ops with
  |some o=>(match o.op with
   | .fieldAddr _ (.tmp x) _ | .indexAddr _ (.tmp x) _ | .nilCheck (.tmp x) | .move (.tmp x) | .assign (.tmp x)=>rootW s ops d x
   |_=>none)
  |none=>(match s.get t with
   |⟨.box id _,_⟩=>some id
   |⟨.boxi id _ _ _,_⟩=>some id
   |⟨.win id _,_⟩=>some id
   |⟨.elp id _ _,_⟩=>some id
   |_=>none)
def storeBox (s:St) (ops:List Oper) (o:Oper):Option (Option Nat) :=
 match o.op with
 | .store _ (.tmp t) _=>some (rootW s ops 8 t)
 | .store _ _ _=>some none
 |_=>none
def isBox (b:Nat):Option Nat→Bool
 |some c=>c==b
 |none=>true
def unordered (anc:List Nat) (i k:Nat):Bool:=bif Nat.blt i k then !(anc.getD k 0).testBit i else !(anc.getD i 0).testBit k
def clash (anc:List Nat) (i b:Nat):Nat→List (Option (Option Nat))→Bool
 |_,[]=>false
 |k,none::l=>clash anc i b (k+1) l
 |k,some w::l=>(unordered anc i k&&isBox b w)||clash anc i b (k+1) l
def limOf (s:St) (base:Nat) (ops:Array Oper):Lim where
 rd:=fun id b=>(makes base ops.toList base).contains b||clash (ancs ops.toList []) ((id-base) / 16) b 0 (ops.toList.map (storeBox s ops.toList))
 wr:=fun id b=>match (ops.toList.map (storeBox s ops.toList)).getD ((id-base) / 16) none with
  |some w=>isBox b w
  |none=>true
inductive Tree where
 |leaf (s:St)
 |ite (b:Bool) (t e:Tree)
 |fail
def Tree.fold (K:St→Option R):Tree→Option R
 | .leaf s=>K s
 | .ite b t e=>bif b then t.fold K else e.fold K
 | .fail=>none
def Tree.bindO (f:St→Option Tree):Tree→Option Tree
 | .leaf s=>f s
 | .ite b t e=>match t.bindO f with
  |some t=>(match e.bindO f with
   |some e=>some (.ite b t e)
   |none=>none)
  |none=>none
 | .fail=>some .fail
def AV.known (a:AV):Bool :=
 match a.sh with
 | .top=>false
 | .tup (.ty .unit)=>false
 |_=>true
def Sh.merge (b:Bool):(s:Sh)→s.den→(t:Sh)→t.den→Option AV
 | .osl i e,x,.osl j e',y=>match Ty.dec e e' with
  |isTrue h=>if i=j then some ⟨.osl j e',bif b then h▸x else y⟩ else some ⟨.ty (.sl e'),bif b then h▸x else y⟩
  |isFalse _=>none
 | .box i o,_,.box j o',_=>if i=j∧o=o' then some (.box j o') else none
 | .ref τ o,x,.ref τ' o',y=>match Ty.dec τ τ' with
  |isTrue h=>if o=o' then some ⟨.ref τ' o',bif b then h▸x else y⟩ else none
  |isFalse _=>none
 |s,x,.ty τ,y=>match s.as x τ with
  |some x'=>some ⟨.ty τ,bif b then x' else y⟩
  |none=>none
 | .ty τ,x,t,y=>match t.as y τ with
  |some y'=>some ⟨.ty τ,bif b then x else y'⟩
  |none=>none
 | .pair p q,x,.pair p' q',y=>match Sh.merge b p x.1 p' y.1,Sh.merge b q x.2 q' y.2 with
  |some u,some v=>some (AV.mkPair u v)
  |_,_=>none
 |_,_,_,_=>none
def AV.merge (b:Bool) (x y:AV):Option AV :=
 if x.known&&y.known then Sh.merge b x.sh x.v y.sh y.v else some .top
def mergeW (b:Bool) (s1 s2:St):List Nat→List (Nat×AV)→Option (List (Nat×AV))
 |[],e=>some e
 |t::W,e=>match AV.merge b (s1.get t) (s2.get t) with
  |some v=>mergeW b s1 s2 W (put t v e)
  |none=>none
def mergeSt (W:List Nat) (s:St) (b:Bool) (s1 s2:St):Option St :=
 (mergeW b s1 s2 W s.ents).map fun e=>{s with ents:=e,next:=max s1.next s2.next}
def andO (b:Bool):Option Bool→Option Bool
 |none=>some b
 |some c=>some (b&&c)
def iteO (b:Bool):Option Bool→Option Bool→Option Bool
 |none,none=>none
 |none,some d=>some (bif b then true else d)
 |some c,none=>some (bif b then c else true)
 |some c,some d=>some (bif b then c else d)
def Tree.merge (W:List Nat) (s:St):Tree→Option (Option Bool×St)
 | .leaf s1=>some (none,s1)
 | .fail=>none
 | .ite b t .fail=>(t.merge W s).map fun p=>(andO b p.1,p.2)
 | .ite b .fail e=>(e.merge W s).map fun p=>(andO (!b) p.1,p.2)
 | .ite b t e=>match t.merge W s with
  |some p=>(match e.merge W s with
   |some q=>(mergeSt W s b p.2 q.2).map fun s'=>(iteO b p.1 q.1,s')
   |none=>none)
  |none=>none
def Tree.join (W:List Nat) (s:St) (t:Tree):Tree :=
 match t.merge W s with
 |some (none,s')=>.leaf s'
 |some (some c,s')=>.ite c (.leaf s') .fail
 |none=>t
def sure (s:St) (o:Oper):Bool :=
 match o.op with
 | .move _ | .assign _ | .pick .. | .box .. | .build .. | .buildSlice .. | .load .. | .nilCheck _ | .unOp .. | .convert .. | .makeFunc .. | .fieldAddr .. | .field .. | .extract ..=>true
 | .binOp op _ x y _=>(match op with
  | .sub | .mul | .and | .or | .xor | .andNot | .eql | .neq | .lss | .leq | .gtr | .geq=>true
  | .add=>(match opnd s x with
   |⟨.ty (.int _),_⟩=>true
   |_=>false)
  | .shl | .shr=>(match y with
   | .const (.int _ n)=>decide (0≤n)
   |_=>false)
  | .quo | .rem=>(match y with
   | .const (.int _ n)=>decide (n≠0)
   |_=>false))
 | .call c=>(match c.callee with
  | .builtin .len | .builtin .min | .builtin .max=>true
  |_=>false)
 |_=>false
def treeOp (C:Ctx) (n:Nat) (no:Lim) (id:Nat) (o:Oper) (s:St):Option Tree :=
 bif dstOk n o then
  match walked C s o with
  |some _=>none
  |none=>match effOf C s no id o with
   |some (c,.val a)=>some (bif sure s o then .leaf (s.setO o.dst a) else .ite c (.leaf (s.setO o.dst a)) .fail)
   |_=>none
 else none
def unknow (d:Option Nat) (kn:List (Nat×Bool)):List (Nat×Bool) :=
 match d with
 |some d=>kn.filter fun p=>!(p.1==d)
 |none=>kn
def bval (kn:List (Nat×Bool)):Operand→Option Bool
 | .const (.bool b)=>some b
 | .tmp t=>(kn.find? fun p=>p.1==t).map (·.2)
 |_=>none
def learnt (kn:List (Nat×Bool)) (o:Oper):Option Bool :=
 match o.op with
 | .move (.tmp t)=>bval kn (.tmp t)
 | .assign (.tmp t)=>bval kn (.tmp t)
 | .pick c a b=>match bval kn c with
  |some true=>bval kn a
  |some false=>bval kn b
  |none=>none
 |_=>none
def learn (o:Oper) (kn:List (Nat×Bool)):List (Nat×Bool) :=
 match o.dst,learnt kn o with
 |some d,some b=>(d,b)::unknow (some d) kn
 |d,_=>unknow d kn
def treeOps (C:Ctx) (n:Nat) (no:Lim) (ops:Array Oper):List Oper→(id:Nat)→(kn:List (Nat×Bool))→St→Option Tree
 |[],_,_,s=>some (.leaf s)
 |o::l,id,kn,s=>match o.guard with
  |none=>(treeOp C n no id o s).bind fun t=>t.bindO (treeOps C n no ops l (id+16) (learn o kn))
  |some (j,want)=>match guardSlot ops j with
   |some d=>(match s.get d with
    |⟨.ty .bool,b⟩ =>
     let on:=fun c=>bif c==want then(treeOp C n no id o (s.set d (.bool c))).bind fun t=>t.bindO (treeOps C n no ops l (id+16) (learn o ((d,c)::kn)))
      else bif dstOk n o then treeOps C n no ops l (id+16) (unknow o.dst ((d,c)::kn)) ((s.set d (.bool c)).setO o.dst .undef) else none
     (match kn.find? (fun p=>p.1==d) with
     |some (_,c)=>on c
     |none=>match on true with
      |some t=>(match on false with
       |some e=>some (.ite b t e)
       |none=>none)
      |none=>none)
    |⟨.tup (.ty .unit),_⟩=>bif dstOk n o then treeOps C n no ops l (id+16) (unknow o.dst kn) (s.setO o.dst .undef) else none
    |_=>none)
   |none=>none
def slotOf:Operand→Option Nat
 | .tmp t=>some t
 |_=>none
def isFirst (o:Oper):Bool :=
 match o.guard with
 |none=>(match o.op with
  | .move _ | .assign _ | .load .. | .fieldAddr ..=>true
  |_=>false)
 |some _=>false
def firstsOf:List Oper→List Bool→List Bool
 |[],acc=>acc
 |o::l,acc=>firstsOf l (acc++[isFirst o&&(edges o).all fun e=>acc.getD e false])
def idxOf (want:Bool):List Bool→Nat→List Nat
 |[],_=>[]
 |b::l,k=>bif b==want then k::idxOf want l (k+1) else idxOf want l (k+1)
def firstOk (ops:Array Oper):List Nat→Array Bool→Bool
 |[],_=>true
 |i::l,listed=>Region.free .any ops listed i&&((Region.ready .any ops listed).contains i&&firstOk ops l (listed.setIfInBounds i true))
def chainOk (ops:Array Oper):List Nat→Array Bool→Bool
 |[],listed=>(Region.ready .any ops listed).isEmpty
 |i::l,listed=>(Region.ready .any ops listed==[i])&&chainOk ops l (listed.setIfInBounds i true)
def listF (F:List Nat) (l:Array Bool):Array Bool:=F.foldl (fun l i=>l.setIfInBounds i true) l
def heldF (ops:Array Oper):List Nat:=idxOf true (firstsOf ops.toList []) 0
def heldL (ops:Array Oper):List Nat:=idxOf false (firstsOf ops.toList []) 0
def heldOk (ops:Array Oper):Bool :=
 Region.noSelect ops&&(Nat.beq ((heldF ops).length+(heldL ops).length) ops.size &&
  (firstOk ops (heldF ops) (Array.replicate ops.size false)&&chainOk ops (heldL ops) (listF (heldF ops) (Array.replicate ops.size false))))
def firstOp (C:Ctx) (s:St) (o:Oper):Option (AV×List Nat) :=
 match o.op with
 | .move x=>some (opnd s x,[])
 | .assign x=>some (opnd s x,[])
 | .load t x=>(match opnd s x with
  |⟨.box id off,_⟩=>bif known C.P t then(match loadAV C.P s noB t (.box id off) with
   |some v=>some (v,[id])
   |none=>none) else none
  |_=>none)
 | .fieldAddr t x f=>(match fieldOf C.P t f with
  |some fl=>if C.P.cellsOf fl.type=0∨!known C.P fl.type then none else(match opnd s x with
   |⟨.box id off,_⟩=>some (.box id (off+fl.offset),[])
   |_=>none)
  |none=>none)
 |_=>none
def firstRun (C:Ctx) (n:Nat) (ops:Array Oper):List Nat→St→List Nat→Option (St×List Nat)
 |[],s,lb=>some (s,lb)
 |i::l,s,lb=>match ops[i]? with
  |some o=>bif isFirst o&&dstOk n o then(match firstOp C s o with
   |some (v,b)=>firstRun C n ops l (s.setO o.dst v) (lb++b)
   |none=>none) else none
  |none=>none
def runC (C:Ctx) (call:CallIn) (n:Nat) (ops:Array Oper):List Nat→(id:Nat)→St→(St→Option R)→(Value→St→Option R)→Option R
 |[],_,s,K,_=>K s
 |i::l,id,s,K,Kp=>match ops[i]? with
  |some o=>bif o.guard.isNone then stepY C call n noId id o s (fun s=>runC C call n ops l (id+16) s K Kp) Kp else none
  |none=>none
def heldM (ops:Array Oper):List Nat→List Nat
 |[]=>[]
 |i::l=>(match ops[i]? with
  |some o=>o.op.operands.toList.filterMap slotOf++o.dst.toList
  |none=>[])++heldM ops l
def heldD (ops:Array Oper):List Nat→List Nat
 |[]=>[]
 |i::l=>(match ops[i]? with
  |some o=>(match o.op with
   | .move (.const _) | .assign (.const _)=>o.dst.toList
   |_=>[])
  |none=>[])++heldD ops l
def heldS (ops:Array Oper):List Nat:=heldM ops (heldL ops)++heldD ops (heldF ops)
def farFrom (lb:List Nat) (vals:List AV) (h:Heap):Bool :=
 lb.all fun id=>!(reach h 4 (addNew [] ((allBoxes vals).filter (hasBox h)))).contains id
def opsW (ops:Array Oper):List Nat:=ops.toList.filterMap (·.dst)
def heldIn (C:Ctx) (call:CallIn) (n:Nat) (ops:Array Oper) (M T:List Nat):List AV→Heap→Nat→(Exit→List AV→Heap→Nat→Option R)→Option R:=fun vals heap nx Ke =>
 runC C call n ops (heldL ops) nx {ents:=zipM M vals,heap:=heap,next:=nx+16*ops.size}
  (fun s=>if keysIn (M++T) s.ents then Ke .normal (M.map s.get) s.heap s.next else none)
  (fun v s=>if keysIn (M++T) s.ents then Ke (.panic [⟨v,false,false⟩]) (M.map s.get) s.heap s.next else none)
def wantsHeld (ops:Array Oper):Bool:=ops.toList.any fun o=>match o.op with
 | .makeSlice _ (.tmp _) _=>true
 |_=>false
def heldEnd (s1:St) (M T:List Nat) (K:Kont):Exit→List AV→Heap→Nat→(Nat→Option Nat)→Option R:=fun e vals h nx ρ =>
 match e with
 | .normal=>K .normal {ents:=zipOn (mapV (·.ren ρ some) (without (M++T) s1.ents s1.ents)) M vals,heap:=h,next:=nx}
 | .panic ch=>K (.panic ch) {ents:=mapV (·.ren ρ some) (without (M++T) s1.ents s1.ents),heap:=h,next:=nx}
 |_=>none
def heldR (C:Ctx) (call:CallIn) (tset:Nat→Bool) (n:Nat) (ops:Array Oper) (s:St) (K:Kont):Option R :=
 if heldOk ops&&(heldS ops++opsW ops).all tset then
  match firstRun C n ops (heldF ops) s [] with
  |some (s1,lb) =>
   if farFrom lb ((heldS ops).map s1.get) s1.heap then
    inLoop (heldIn C call n ops (heldS ops) (opsW ops)) ((heldS ops).map s1.get) s1.heap s1.next (heldEnd s1 (heldS ops) (opsW ops) K)
   else none
  |none=>none
 else none
def codeW:Code→List Nat
 | .region _ ops _=>opsW ops
 | .seq a b=>codeW a++codeW b
 | .cond _ a b=>codeW a++codeW b
 |_=>[]
def treeC (C:Ctx) (drawn:(FuncId→Bool)→Array Oper→Bool) (n:Nat):Code→St→Option Tree
 | .skip,s=>some (.leaf s)
 | .region _ ops draw,s =>
  if draw then
   (if drawn (fun g=>(C.plain g).isSome) ops then(treeOps C n (limOf s s.next ops) ops ops.toList s.next [] {s with next:=s.next+16*ops.size}).map (Tree.join (opsW ops) s) else none)
  else(treeOps C n noId ops ops.toList s.next [] {s with next:=s.next+16*ops.size}).map (Tree.join (opsW ops) s)
 | .seq a b,s=>(treeC C drawn n a s).bind fun t=>t.bindO (treeC C drawn n b)
 | .cond c x y,s=>match opnd s c with
  |⟨.ty .bool,b⟩=>(match treeC C drawn n x s with
   |some t=>(match treeC C drawn n y s with
    |some e=>some (Tree.join (codeW x++codeW y) s (.ite b t e))
    |none=>none)
   |none=>none)
  |_=>none
 |_,_=>none
def hasLabel:Code→Nat→Bool
 | .seq a b,l=>hasLabel a l||hasLabel b l
 | .label l',l=>l'==l
 |_,_=>false
def iterJ (f:Option Nat→St→Kont→Option R) (has:Nat→Bool):Nat→Option Nat→St→Kont→Option R
 |0,_,_,_=>none
 |m+1,j,s,K=>f j s fun e s'=>match e with
  | .goto l=>bif has l then iterJ f has m (some l) s' K else K (.goto l) s'
  |e=>K e s'
def cutKey:Code→Option Nat
 | .region r _ _=>some (2*r)
 | .seq (.region r _ _) _=>some (2*r+1)
 |_=>none
def evJ (C:Ctx) (call:CallIn) (drawn:(FuncId→Bool)→Array Oper→Bool) (tset:Nat→Bool) (fid n unroll:Nat):Code→Option Nat→St→Kont→Option R
 | .skip,none,s,K=>K .normal s
 | .region id ops draw,none,s,K=>match treeC C drawn n (.region id ops draw) s with
  |some t=>t.fold (K .normal)
  |none=>if draw then
    if drawn (fun g=>(C.plain g).isSome) ops&&!wantsHeld ops then runOps C call n (limOf s s.next ops) ops ops.toList s.next {s with next:=s.next+16*ops.size} fun s=>K .normal s
    else heldR C call tset n ops {s with next:=s.next+16*ops.size} K
   else runY C call n noId ops ops.toList s.next {s with next:=s.next+16*ops.size} (fun s=>K .normal s) (fun v s=>K (.panic [⟨v,false,false⟩]) s)
 | .seq a b,none,s,K=>match (cutKey a).bind (C.cuts fid) with
  |some L=>if(L.M++L.T).all tset then inLoop L.run (L.M.map s.get) s.heap s.next fun e vals h nx ρ =>
    K e {ents:=zipOn (mapV (·.ren ρ some) (without (L.M++L.T) s.ents s.ents)) L.M vals,heap:=h,next:=nx} else none
  |none=>evJ C call drawn tset fid n unroll a none s fun e s'=>match e with
   | .normal=>evJ C call drawn tset fid n unroll b none s' K
   |e=>K e s'
 | .seq a b,some l,s,K=>bif hasLabel a l then evJ C call drawn tset fid n unroll a (some l) s fun e s'=>match e with
   | .normal=>evJ C call drawn tset fid n unroll b none s' K
   |e=>K e s'
  else evJ C call drawn tset fid n unroll b (some l) s K
 | .cond c x y,none,s,K=>match treeC C drawn n (.cond c x y) s with
  |some t=>t.fold (K .normal)
  |none=>match opnd s c with
   |⟨.ty .bool,b⟩=>bif b then evJ C call drawn tset fid n unroll x none s K else evJ C call drawn tset fid n unroll y none s K
   |_=>none
 | .block id c,none,s,K=>evJ C call drawn tset fid n unroll c none s fun e s'=>match e with
  | .exit j=>if j==id then K .normal s' else K (.exit j) s'
  |e=>K e s'
 | .loop c,none,s,K=>match (firstReg c).bind (C.loops fid) with
  |some L=>if(L.M++L.T).all tset then inLoop L.run (L.M.map s.get) s.heap s.next fun e vals h nx ρ =>
    K e {ents:=zipOn (mapV (·.ren ρ some) (without (L.M++L.T) s.ents s.ents)) L.M vals,heap:=h,next:=nx} else none
  |none=>iter (evJ C call drawn tset fid n unroll c none) unroll s K
 | .scope c,none,s,K=>iterJ (evJ C call drawn tset fid n unroll c) (hasLabel c) unroll none s K
 | .exit id,none,s,K=>K (.exit id) s
 | .goto l,none,s,K=>K (.goto l) s
 | .label _,none,s,K=>K .normal s
 | .label l',some l,s,K=>bif l'==l then K .normal s else none
 | .ret,none,s,K=>K .ret s
 |_,_,_,_=>none
@[reducible] def ev (C:Ctx) (call:CallIn) (drawn:(FuncId→Bool)→Array Oper→Bool) (tset:Nat→Bool) (fid n unroll:Nat) (c:Code) (s:St) (K:Kont):Option R :=
 evJ C call drawn tset fid n unroll c none s K
def enum:Nat→List AV→List (Nat×AV)
 |_,[]=>[]
 |k,a::l=>(k,a)::enum (k+1) l
def resOne (P:Program) (s:St):ResultVar→Option AV
 | .tmp t=>some (s.get t)
 | .cell a t=>if known P t then loadAV P s noB t (s.get a) else none
def resMany (P:Program) (s:St):List ResultVar→Option AV
 |[]=>some .unit
 |r::l=>match resOne P s r,resMany P s l with
  |some a,some b=>if a.solid then some ⟨.pair a.sh b.sh,(a.v,b.v)⟩ else none
  |_,_=>none
def resAV (P:Program) (s:St) (rs:List ResultVar):Option AV :=
 match rs with
 |[r]=>resOne P s r
 |rs=>match resMany P s rs with
  |some a=>some ⟨.tup a.sh,a.v⟩
  |none=>none
def evF (C:Ctx) (drawn:(FuncId→Bool)→Array Oper→Bool) (unroll:Nat):Nat→CallIn
 |0,_,_,_,_,_=>none
 |d+1,f,args,h,nx,K=>match C.bodies f with
  |some b=>b args h nx K
  |none=>match C.P.funcs[f]? with
  |some fn=>(match fn.body with
   |some c=>if args.length≤fn.ntmps then ev C (evF C drawn unroll d) drawn (fun _=>true) f fn.ntmps unroll c {ents:=enum 0 args,heap:=h,next:=nx} fun e s =>
     match e with
     | .ret | .normal=>(match resAV C.P s fn.results.toList with
      |some v=>K v s.heap s.next
      |none=>none)
     | .panic ch=>(match panVal ch with
      |some v=>K (panAV v) s.heap s.next
      |none=>none)
     |_=>none
    else none
   |none=>none)
  |none=>none
end Go.Av
end
section
namespace Go.Av
open Go
structure HeapOk (w:World) (K:Kinds) (h:Heap):Prop where
 cells:∀b id,b<w.heap.size→K b=.box id→∃av o,look id h=some av∧w.heap[b]?=some o∧BoxOk w K av.sh av.v o
 uniq:∀b b' id,b<w.heap.size→b' < w.heap.size→K b=.box id→K b'=.box id→b=b'
theorem Rel.heapOk {fr:Fr} {n:Nat} {K:Kinds} {s:St} {a:Act} {w:World} (h:Rel fr n K s a w):HeapOk w K s.heap:=⟨h.heap,h.uniq⟩
def farK (ts bs:List Nat) (K:Kinds):Kinds:=fun b =>
 match K b with
 | .old=>.old
 | .far u=>.far u
 | .box id=>(match indexIn id bs 0 with
  |some j=>.box j
  |none=>.far 0)
 | .row id u=>(match indexIn id ts 0 with
  |some j=>.row j u
  |none=>.far u)
def renKind (ρ σ:Nat→Option Nat):Kind→Kind
 | .old=>.old
 | .far u=>.far u
 | .box j=>(match σ j with
  |some id=>.box id
  |none=>.far 0)
 | .row j u=>(match ρ j with
  |some id=>.row id u
  |none=>.far u)
def backK (N:Nat) (ts bs:List Nat) (w:World) (K K':Kinds):Kinds:=fun b =>
 if b<w.heap.size then
  match K b with
  | .old=>.old
  | .far u=>.far u
  | .box id=>.box id
  | .row id u=>if ts.contains id then renKind (nthOr N ts) (nthOr N bs) (K' b) else .row id u
 else renKind (nthOr N ts) (nthOr N bs) (K' b)
theorem indexIn_spec {id:Nat}:∀(l:List Nat) (k j:Nat),indexIn id l k=some j→∃i,j=k+i∧l[i]?=some id
 |[],_,_,h=>by cases h
 |x::l,k,j,h=>by
  simp only[indexIn] at h
  split at h
  ·rename_i e
   cases h
   exact⟨0,rfl,by simp at e;simp[e]⟩
  ·obtain⟨i,h1,h2⟩:=indexIn_spec l (k+1) j h
   exact⟨i+1,by omega,by simpa using h2⟩
theorem indexIn_isSome {id:Nat}:∀(l:List Nat) (k:Nat),l.contains id=true→(indexIn id l k).isSome=true
 |[],_,h=>by simp at h
 |x::l,k,h=>by
  simp only[indexIn]
  split
  ·rfl
  ·rename_i e
   simp only[beq_iff_eq] at e
   refine indexIn_isSome l (k+1) ?_
   simp only[List.contains_cons,Bool.or_eq_true,beq_iff_eq] at h
   rcases h with h |h
   ·exact(e h).elim
   ·exact h
theorem contains_of_get {l:List Nat} {i id:Nat} (h:l[i]?=some id):l.contains id=true:=by
 have:=List.mem_of_getElem? h
 simpa using this
theorem stab_farK (ts bs:List Nat) (K:Kinds) (b o:Nat):Stab (farK ts bs K) b o↔Stab K b o:=by
 unfold Stab farK
 cases e:K b with
 |old=>exact Iff.rfl
 |far u=>exact Iff.rfl
 |box id=>simp only;cases h:indexIn id bs 0<;>simp[StabK]
 |row id u=>simp only;cases h:indexIn id ts 0<;>simp[StabK]
theorem stab_renKind (ρ σ:Nat→Option Nat) (k:Kind) (o:Nat):StabK (renKind ρ σ k) o↔StabK k o:=by
 cases k with
 |old=>exact Iff.rfl
 |far u=>exact Iff.rfl
 |box id=>simp only[renKind];cases σ id<;>simp[StabK]
 |row id u=>simp only[renKind];cases ρ id<;>exact Iff.rfl
section
variable {w w':World} {K K':Kinds} {N:Nat} {ts bs:List Nat}
theorem farK_fixed {b:Nat} (h:(K b).fixed=true):farK ts bs K b=K b:=by
 unfold farK
 cases e:K b with
 |old=>rfl
 |far u=>rfl
 |box id=>rw[e] at h;cases h
 |row id u=>rw[e] at h;cases h
theorem RV.enter {ρ σ:Nat→Option Nat} (hρ:∀id j,ρ id=some j→indexIn id ts 0=some j) (hσ:∀id j,σ id=some j→indexIn id bs 0=some j) {a:AV} {v:Value} (h:RV w K a v):RV w (farK ts bs K) (a.ren ρ σ) v:=by
 refine RV.ren (w':=w) (K':=farK ts bs K) (fun b o _ hs=>⟨(stab_farK _ _ _ _ _).2 hs,rfl⟩) (Nat.le_refl _) (fun b id u j _ hk hj=>⟨?_,rfl⟩) (fun b id j _ hk hj=>?_) h
 ·unfold farK;rw[hk];simp only[hρ _ _ hj]
 ·exact⟨by unfold farK;rw[hk];simp only[hσ _ _ hj],fun _ h=>h⟩
theorem RS.enter {ρ σ:Nat→Option Nat} (hρ:∀id j,ρ id=some j→indexIn id ts 0=some j) (hσ:∀id j,σ id=some j→indexIn id bs 0=some j) {a:AV} {cs:List Value} (h:RS w K a.sh a.v cs) :
  RS w (farK ts bs K) (a.ren ρ σ).sh (a.ren ρ σ).v cs:=by
 have:=RS.ren (w':=w) (K':=farK ts bs K) (ρ:=ρ) (σ:=σ) (fun b o _ hs=>⟨(stab_farK _ _ _ _ _).2 hs,rfl⟩) (Nat.le_refl _) (fun b id u j _ hk hj=>⟨by unfold farK;rw[hk];simp only[hρ _ _ hj],rfl⟩) (fun b id j _ hk hj=>⟨by unfold farK;rw[hk];simp only[hσ _ _ hj],fun _ h=>h⟩) _ _ _ h
 obtain⟨sh,x⟩:=a
 cases sh
 case tup=>exact h.elim
 all_goals exact this
theorem BoxOk.enter {ρ σ:Nat→Option Nat} (hρ:∀id j,ρ id=some j→indexIn id ts 0=some j) (hσ:∀id j,σ id=some j→indexIn id bs 0=some j) {a:AV} {o:Obj} (h:BoxOk w K a.sh a.v o) :
  BoxOk w (farK ts bs K) (a.ren ρ σ).sh (a.ren ρ σ).v o :=
 BoxOk.ren (w':=w) (K':=farK ts bs K) (ρ:=ρ) (σ:=σ) (fun b o _ hs=>⟨(stab_farK _ _ _ _ _).2 hs,rfl⟩) (Nat.le_refl _) (fun b id u j _ hk hj=>⟨by unfold farK;rw[hk];simp only[hρ _ _ hj],rfl⟩) (fun b id j _ hk hj=>⟨by unfold farK;rw[hk];simp only[hσ _ _ hj],fun _ h=>h⟩) h
theorem look_localHeap {ρ σ:Nat→Option Nat} {h:Heap}:∀(bs:List Nat) (k i id:Nat) (c:AV),bs[i]?=some id→(∀j,j<bs.length→∃x y,bs[j]?=some x∧look x h=some y)→look id h=some c→look (k+i) (localHeap h ρ σ bs k)=some (c.ren ρ σ)
 |[],_,_,_,_,hi,_,_=>by simp at hi
 |x::bs,k,i,id,c,hi,hall,hc=>by
  obtain⟨x',y,hx,hy⟩:=hall 0 (by simp)
  simp at hx
  subst hx
  simp only[localHeap,hy,List.singleton_append,look]
  cases i with
  |zero =>
   simp at hi
   subst hi
   rw[hy] at hc
   cases hc
   simp
  |succ i =>
   have h1:(k+(i+1)==k)=false:=by simp
   have h2:Nat.blt (k+(i+1)) k=false:=by
    cases hb:Nat.blt (k+(i+1)) k
    ·rfl
    ·rw[Nat.blt_eq] at hb;omega
   rw[h1,h2]
   simp only[Bool.false_eq_true,if_false]
   have:=look_localHeap (ρ:=ρ) (σ:=σ) bs (k+1) i id c (by simpa using hi) (fun j hj=>by obtain⟨x,y,e1,e2⟩:=hall (j+1) (by simp;omega);exact⟨x,y,by simpa using e1,e2⟩) hc
   rw[show k+(i+1)=k+1+i by omega]
   exact this
theorem noDup_inj:∀(l:List Nat) (i j x:Nat),noDup l=true→l[i]?=some x→l[j]?=some x→i=j
 |[],i,_,_,_,h,_=>by simp at h
 |y::l,i,j,x,hn,hi,hj=>by
  simp only[noDup,Bool.and_eq_true,Bool.not_eq_true'] at hn
  cases i with
  |zero =>
   cases j with
   |zero=>rfl
   |succ j =>
    simp at hi
    subst hi
    have:=contains_of_get (l:=l) (i:=j) (by simpa using hj)
    rw[hn.1] at this
    cases this
  |succ i =>
   cases j with
   |zero =>
    simp at hj
    subst hj
    have:=contains_of_get (l:=l) (i:=i) (by simpa using hi)
    rw[hn.1] at this
    cases this
   |succ j =>
    have:=noDup_inj l i j x hn.2 (by simpa using hi) (by simpa using hj)
    omega
theorem HeapOk.enter {h:Heap} (hh:HeapOk w K h) (hbs:∀j,j<bs.length→∃x y,bs[j]?=some x∧look x h=some y) :
  HeapOk w (farK ts bs K) (localHeap h (fun id=>indexIn id ts 0) (fun id=>indexIn id bs 0) bs 0) where
 cells:=fun b j hb hk=>by
  unfold farK at hk
  cases e:K b with
  |old=>rw[e] at hk;cases hk
  |far u=>rw[e] at hk;cases hk
  |row id u=>rw[e] at hk;simp only at hk;split at hk<;>cases hk
  |box id =>
   rw[e] at hk
   simp only at hk
   split at hk
   ·rename_i j' hj
    cases hk
    obtain⟨i,e1,e2⟩:=indexIn_spec _ _ _ hj
    obtain⟨av,o,l1,l2,l3⟩:=hh.cells b id hb e
    refine⟨_,o,?_,l2,l3.enter (ts:=ts) (bs:=bs) (fun _ _ h=>h) (fun _ _ h=>h)⟩
    have:=look_localHeap (ρ:=fun id=>indexIn id ts 0) (σ:=fun id=>indexIn id bs 0) bs 0 i id av e2 hbs l1
    rw[e1]
    exact this
   ·cases hk
 uniq:=fun b b' j hb hb' hk hk'=>by
  have key:∀x,farK ts bs K x=.box j→∃id,K x=.box id∧bs[j]?=some id:=fun x hx=>by
   unfold farK at hx
   cases e:K x with
   |old=>rw[e] at hx;cases hx
   |far u=>rw[e] at hx;cases hx
   |row id u=>rw[e] at hx;simp only at hx;split at hx<;>cases hx
   |box id =>
    rw[e] at hx
    simp only at hx
    split at hx
    ·rename_i j' hj
     cases hx
     obtain⟨i,e1,e2⟩:=indexIn_spec _ _ _ hj
     exact⟨id,rfl,by rw[e1,Nat.zero_add];exact e2⟩
    ·cases hx
  obtain⟨id,h1,h2⟩:=key b hk
  obtain⟨id',h3,h4⟩:=key b' hk'
  rw[h2] at h4
  cases h4
  exact hh.uniq b b' id hb hb' h1 h3
theorem backK_stab (g:Ext w (farK ts bs K) w' K') (b o:Nat) (hb:b<w.heap.size) (hs:Stab K b o):Stab (backK N ts bs w K K') b o:=by
 have h1:=(g.stab b o hb ((stab_farK ts bs K b o).2 hs)).1
 unfold Stab at h1 hs ⊢
 unfold backK
 rw[if_pos hb]
 cases e:K b with
 |old=>trivial
 |far u=>rw[e] at hs;exact hs
 |box id=>rw[e] at hs;exact hs.elim
 |row id u =>
  rw[e] at hs
  simp only
  split
  ·exact(stab_renKind _ _ _ _).2 h1
  ·exact hs
theorem backK_ext (g:Ext w (farK ts bs K) w' K'):Ext w K w' (backK N ts bs w K K') where
 os:=g.os
 tape:=g.tape
 output:=g.output
 size:=g.size
 fix:=fun b hb hf=>by
  obtain⟨h1,h2⟩:=g.fix b hb (by rw[farK_fixed hf];exact hf)
  refine⟨?_,h2⟩
  unfold backK
  simp only[hb,if_true]
  cases e:K b with
  |old=>rfl
  |far u=>rfl
  |box id=>exact absurd hf (by rw[e];exact Bool.false_ne_true)
  |row id u=>exact absurd hf (by rw[e];exact Bool.false_ne_true)
 stab:=fun b o hb hs=>⟨backK_stab g b o hb hs,(g.stab b o hb ((stab_farK ts bs K b o).2 hs)).2⟩
 box:=fun b id hb hk=>by unfold backK;simp only[hb,if_true,hk]
 bsz:=fun b id n hb hk hn=>by
  cases hi:indexIn id bs 0 with
  |some j=>exact g.bsz b j n hb (by unfold farK;simp only[hk,hi]) hn
  |none =>
   obtain⟨_,h2⟩:=g.fix b hb (by unfold farK;simp only[hk,hi];rfl)
   obtain⟨cs,T,h3,h4⟩:=hn
   exact⟨cs,T,h2.trans h3,h4⟩
theorem RV.back (g:Ext w (farK ts bs K) w' K') {a:AV} {v:Value} (h:RV w K a v):RV w' (backK N ts bs w K K') (a.ren (strikeAll ts) some) v:=by
 refine RV.ren (backK_ext g).stab g.size (fun b id u j hb hk hj=>?_) (fun b id j hb hk hj=>by cases hj;exact⟨(backK_ext g).box b id hb hk,fun n hn=>(backK_ext (N:=N) g).bsz b id n hb hk hn⟩) h
 unfold strikeAll at hj
 split at hj
 ·cases hj
 ·rename_i hn
  cases hj
  have hfar:farK ts bs K b=.far u:=by
   unfold farK
   rw[hk]
   simp only
   cases hi:indexIn id ts 0 with
   |none=>rfl
   |some j=>obtain⟨i,_,e⟩:=indexIn_spec _ _ _ hi;exact(hn (contains_of_get e)).elim
  obtain⟨h1,h2⟩:=g.fix b hb (by rw[hfar];rfl)
  refine⟨?_,h2⟩
  unfold backK
  rw[if_pos hb,hk]
  simp only
  rw[if_neg hn]
theorem RS.back (g:Ext w (farK ts bs K) w' K') {a:AV} {cs:List Value} (h:RS w K a.sh a.v cs):RS w' (backK N ts bs w K K') (a.ren (strikeAll ts) some).sh (a.ren (strikeAll ts) some).v cs:=by
 have:=RS.ren (w':=w') (K':=backK N ts bs w K K') (ρ:=strikeAll ts) (σ:=some) (backK_ext g).stab g.size (fun b id u j hb hk hj=>by
  unfold strikeAll at hj
  split at hj
  ·cases hj
  ·rename_i hn
   cases hj
   have hfar:farK ts bs K b=.far u:=by
    unfold farK
    rw[hk]
    simp only
    cases hi:indexIn id ts 0 with
    |none=>rfl
    |some j=>obtain⟨i,_,e⟩:=indexIn_spec _ _ _ hi;exact(hn (contains_of_get e)).elim
   obtain⟨h1,h2⟩:=g.fix b hb (by rw[hfar];rfl)
   refine⟨?_,h2⟩
   unfold backK
   rw[if_pos hb,hk]
   simp only
   rw[if_neg hn]) (fun b id j hb hk hj=>by cases hj;exact⟨(backK_ext g).box b id hb hk,fun n hn=>(backK_ext (N:=N) g).bsz b id n hb hk hn⟩) _ _ _ h
 obtain⟨sh,x⟩:=a
 cases sh
 case tup=>exact h.elim
 all_goals exact this
theorem BoxOk.back (g:Ext w (farK ts bs K) w' K') {a:AV} {o:Obj} (h:BoxOk w K a.sh a.v o):BoxOk w' (backK N ts bs w K K') (a.ren (strikeAll ts) some).sh (a.ren (strikeAll ts) some).v o :=
 BoxOk.ren (w':=w') (K':=backK N ts bs w K K') (ρ:=strikeAll ts) (σ:=some) (backK_ext g).stab g.size (fun b id u j hb hk hj=>by
  unfold strikeAll at hj
  split at hj
  ·cases hj
  ·rename_i hn
   cases hj
   have hfar:farK ts bs K b=.far u:=by
    unfold farK
    rw[hk]
    simp only
    cases hi:indexIn id ts 0 with
    |none=>rfl
    |some j=>obtain⟨i,_,e⟩:=indexIn_spec _ _ _ hi;exact(hn (contains_of_get e)).elim
   obtain⟨h1,h2⟩:=g.fix b hb (by rw[hfar];rfl)
   refine⟨?_,h2⟩
   unfold backK
   rw[if_pos hb,hk]
   simp only
   rw[if_neg hn]) (fun b id j hb hk hj=>by cases hj;exact⟨(backK_ext g).box b id hb hk,fun n hn=>(backK_ext (N:=N) g).bsz b id n hb hk hn⟩) h
theorem backK_of (g:Ext w (farK ts bs K) w' K') (b:Nat):(backK N ts bs w K K' b=renKind (nthOr N ts) (nthOr N bs) (K' b))∨(b<w.heap.size∧(K' b).fixed=true∧∀o,Stab K' b o→Stab (backK N ts bs w K K') b o):=by
 unfold backK
 by_cases hb:b<w.heap.size
 ·rw[if_pos hb]
  cases e:K b with
  |old =>
   obtain⟨h1,_⟩:=g.fix b hb (by rw[farK_fixed (by rw[e];rfl),e];rfl)
   rw[farK_fixed (by rw[e];rfl),e] at h1
   exact .inl (by rw[h1];rfl)
  |far u =>
   obtain⟨h1,_⟩:=g.fix b hb (by rw[farK_fixed (by rw[e];rfl),e];rfl)
   rw[farK_fixed (by rw[e];rfl),e] at h1
   exact .inl (by rw[h1];rfl)
  |box id =>
   cases hi:indexIn id bs 0 with
   |none =>
    have hf:farK ts bs K b=.far 0:=by unfold farK;rw[e];simp only[hi]
    obtain⟨h1,_⟩:=g.fix b hb (by rw[hf];rfl)
    rw[hf] at h1
    refine .inr ⟨hb,by rw[h1];rfl,fun o hs=>?_⟩
    unfold Stab at hs
    rw[h1] at hs
    exact absurd hs (Nat.not_lt_zero o)
   |some j =>
    have hf:farK ts bs K b=.box j:=by unfold farK;rw[e];simp only[hi]
    have h1:=g.box b j hb hf
    obtain⟨i,e1,e2⟩:=indexIn_spec _ _ _ hi
    refine .inl ?_
    rw[h1]
    simp only[renKind,nthOr,e1,Nat.zero_add,e2]
  |row id u =>
   by_cases hc:ts.contains id=true
   ·exact .inl (by simp only[hc,if_true])
   ·have hf:farK ts bs K b=.far u:=by
     unfold farK
     rw[e]
     simp only
     cases hi:indexIn id ts 0 with
     |none=>rfl
     |some j=>obtain⟨i,_,e⟩:=indexIn_spec _ _ _ hi;exact(hc (contains_of_get e)).elim
    obtain⟨h1,_⟩:=g.fix b hb (by rw[hf];rfl)
    rw[hf] at h1
    refine .inr ⟨hb,by rw[h1];rfl,fun o hs=>?_⟩
    unfold Stab at hs ⊢
    rw[h1] at hs
    have:(fun b=>if b<w.heap.size then(match K b with
     | .old=>.old
     | .far u=>.far u
     | .box id=>.box id
     | .row id u=>if ts.contains id then renKind (nthOr N ts) (nthOr N bs) (K' b) else .row id u)
     else renKind (nthOr N ts) (nthOr N bs) (K' b)) b=Kind.row id u:=by
     simp only[hb,if_true,e,hc]
     rfl
    rw[this]
    exact hs
 ·rw[if_neg hb]
  exact .inl rfl
theorem back_keep (g:Ext w (farK ts bs K) w' K') (b o:Nat) (hs:Stab K' b o):Stab (backK N ts bs w K K') b o:=by
 rcases backK_of (N:=N) g b with h |⟨_,_,h⟩
 ·unfold Stab at hs ⊢
  rw[h]
  exact(stab_renKind _ _ _ _).2 hs
 ·exact h o hs
theorem RV.leave (g:Ext w (farK ts bs K) w' K') {a:AV} {v:Value} (h:RV w' K' a v):RV w' (backK N ts bs w K K') (a.ren (nthOr N ts) (nthOr N bs)) v:=by
 refine RV.ren (w':=w') (fun b o _ hs=>⟨back_keep g b o hs,rfl⟩) (Nat.le_refl _) (fun b id u j _ hk hj=>⟨?_,rfl⟩) (fun b id j _ hk hj=>⟨?_,fun _ h=>h⟩) h
 ·rcases backK_of (N:=N) g b with h |⟨_,h,_⟩
  ·rw[h,hk];simp only[renKind,hj]
  ·rw[hk] at h;cases h
 ·rcases backK_of (N:=N) g b with h |⟨_,h,_⟩
  ·rw[h,hk];simp only[renKind,hj]
  ·rw[hk] at h;cases h
theorem RS.leave (g:Ext w (farK ts bs K) w' K') {a:AV} {cs:List Value} (h:RS w' K' a.sh a.v cs):RS w' (backK N ts bs w K K') (a.ren (nthOr N ts) (nthOr N bs)).sh (a.ren (nthOr N ts) (nthOr N bs)).v cs:=by
 have:=RS.ren (w':=w') (K':=backK N ts bs w K K') (ρ:=nthOr N ts) (σ:=nthOr N bs) (fun b o _ hs=>⟨back_keep g b o hs,rfl⟩) (Nat.le_refl _) (fun b id u j _ hk hj=>⟨(by
   rcases backK_of (N:=N) g b with h |⟨_,h,_⟩
   ·rw[h,hk];simp only[renKind,hj]
   ·rw[hk] at h;cases h),rfl⟩) (fun b id j _ hk hj=>⟨(by
   rcases backK_of (N:=N) g b with h |⟨_,h,_⟩
   ·rw[h,hk];simp only[renKind,hj]
   ·rw[hk] at h;cases h),fun _ h=>h⟩) _ _ _ h
 obtain⟨sh,x⟩:=a
 cases sh
 case tup=>exact h.elim
 all_goals exact this
theorem BoxOk.leave (g:Ext w (farK ts bs K) w' K') {a:AV} {o:Obj} (h:BoxOk w' K' a.sh a.v o):BoxOk w' (backK N ts bs w K K') (a.ren (nthOr N ts) (nthOr N bs)).sh (a.ren (nthOr N ts) (nthOr N bs)).v o :=
 BoxOk.ren (w':=w') (K':=backK N ts bs w K K') (ρ:=nthOr N ts) (σ:=nthOr N bs) (fun b o _ hs=>⟨back_keep g b o hs,rfl⟩) (Nat.le_refl _) (fun b id u j _ hk hj=>⟨(by
   rcases backK_of (N:=N) g b with h |⟨_,h,_⟩
   ·rw[h,hk];simp only[renKind,hj]
   ·rw[hk] at h;cases h),rfl⟩) (fun b id j _ hk hj=>⟨(by
   rcases backK_of (N:=N) g b with h |⟨_,h,_⟩
   ·rw[h,hk];simp only[renKind,hj]
   ·rw[hk] at h;cases h),fun _ h=>h⟩) h
theorem freshIn_mem {h0:Heap}:∀(h:Heap),freshIn N bs h0 h=true→∀x∈h,bs[x.1]?=none→look (N+x.1) h0=none
 |[],_,_,hx,_=>by cases hx
 |(k,u)::l,hf,x,hx,hn=>by
  simp only[freshIn,Bool.and_eq_true] at hf
  rcases List.mem_cons.1 hx with rfl |hx
  ·rw[hn] at hf
   simpa using hf.1
  ·exact freshIn_mem l hf.2 x hx hn
theorem look_mem {α:Type} {j:Nat} {c:α}:∀(h:List (Nat×α)),look j h=some c→(j,c)∈h
 |[],h=>by cases h
 |(k,u)::l,h=>by
  simp only[look] at h
  split at h
  ·rename_i e
   simp only[beq_iff_eq] at e
   cases h
   subst e
   exact List.mem_cons_self
  ·split at h
   ·cases h
   ·exact List.mem_cons_of_mem _ (look_mem l h)
theorem look_back_old {ρ σ:Nat→Option Nat} {h0:Heap} {id:Nat}:∀(h:Heap),(∀x∈h,σ x.1≠some id)→look id (backHeap ρ σ h0 h)=look id h0
 |[],_=>rfl
 |(k,u)::l,hall=>by
  have hk:=hall (k,u) List.mem_cons_self
  have ih:=look_back_old (ρ:=ρ) (h0:=h0) l (fun x hx=>hall x (List.mem_cons_of_mem _ hx))
  simp only[backHeap]
  split
  ·rename_i id' e
   rw[look_put,if_neg (fun e'=>hk (by rw[e,e']))]
   exact ih
  ·exact ih
theorem look_back_new {ρ σ:Nat→Option Nat} {h0:Heap} {id j:Nat} {c:AV} (hj:σ j=some id):∀(h:Heap),look j h=some c→(∀x∈h,σ x.1=some id→x.1=j)→look id (backHeap ρ σ h0 h)=some (c.ren ρ σ)
 |[],h,_=>by cases h
 |(k,u)::l,h,hall=>by
  simp only[look] at h
  simp only[backHeap]
  split at h
  ·rename_i e
   simp only[beq_iff_eq] at e
   cases h
   subst e
   rw[hj]
   simp only
   rw[look_put,if_pos rfl]
  ·rename_i hne
   simp only[beq_iff_eq] at hne
   split at h
   ·cases h
   ·have ih:=look_back_new (ρ:=ρ) (h0:=h0) hj l h (fun x hx=>hall x (List.mem_cons_of_mem _ hx))
    split
    ·rename_i id' e
     rw[look_put,if_neg (fun e'=>hne ((hall (k,u) List.mem_cons_self (by rw[e,e'])).symm))]
     exact ih
    ·exact ih
theorem HeapOk.leave {h0 h':Heap} (hh:HeapOk w K h0) (hnd:noDup bs=true) (hbs:bs.all (hasBox h0)=true) (g:Ext w (farK ts bs K) w' K') (hh':HeapOk w' K' h') (hf:freshIn N bs h0 h'=true) :
  HeapOk w' (backK N ts bs w K K') (backHeap (nthOr N ts) (nthOr N bs) (mapV (·.ren (strikeAll ts) some) h0) h'):=by
 have hin:∀(i x:Nat),bs[i]?=some x→(look x h0).isSome=true:=fun i x hi=>List.all_eq_true.1 hbs x (List.mem_of_getElem? hi)
 -- two names of boxes that come back are unlike
 have inj:∀(j j' id:Nat),(∃c,(j,c)∈h')→(∃c,(j',c)∈h')→nthOr N bs j=some id→nthOr N bs j'=some id→j=j':=by
  intro j j' id ⟨c,hc⟩ ⟨c',hc'⟩ e1 e2
  unfold nthOr at e1 e2
  cases h1:bs[j]? with
  |some x =>
   rw[h1] at e1
   cases e1
   cases h2:bs[j']? with
   |some y =>
    rw[h2] at e2
    cases e2
    exact noDup_inj bs j j' id hnd h1 h2
   |none =>
    rw[h2] at e2
    cases e2
    have:=freshIn_mem h' hf _ hc' h2
    have h3:=hin _ _ h1
    simp only at this
    rw[this] at h3
    cases h3
  |none =>
   rw[h1] at e1
   cases e1
   cases h2:bs[j']? with
   |some y =>
    rw[h2] at e2
    cases e2
    have:=freshIn_mem h' hf _ hc h1
    have h3:=hin _ _ h2
    simp only at this
    rw[this] at h3
    cases h3
   |none =>
    rw[h2] at e2
    simp only[Option.some.injEq] at e2
    omega
 have origin:∀(b id:Nat),b<w'.heap.size→backK N ts bs w K K' b=.box id→(∃j,K' b=.box j∧nthOr N bs j=some id)∨(b<w.heap.size∧K b=.box id∧indexIn id bs 0=none):=by
  intro b id hb hk
  by_cases hlt:b<w.heap.size
  ·cases e:K b with
   |box id' =>
    have:backK N ts bs w K K' b=.box id':=by unfold backK;simp only[hlt,if_true,e]
    rw[this] at hk
    cases hk
    cases hi:indexIn id bs 0 with
    |none=>exact .inr ⟨hlt,rfl,rfl⟩
    |some j =>
     have hfar:farK ts bs K b=.box j:=by unfold farK;simp only[e,hi]
     have h1:=g.box b j hlt hfar
     obtain⟨i,e1,e2⟩:=indexIn_spec _ _ _ hi
     exact .inl ⟨j,h1,by simp only[nthOr,e1,Nat.zero_add,e2]⟩
   |old =>
    have:backK N ts bs w K K' b=.old:=by unfold backK;simp only[hlt,if_true,e]
    rw[this] at hk
    cases hk
   |far u =>
    have:backK N ts bs w K K' b=.far u:=by unfold backK;simp only[hlt,if_true,e]
    rw[this] at hk
    cases hk
   |row id' u =>
    have:backK N ts bs w K K' b=if ts.contains id' then renKind (nthOr N ts) (nthOr N bs) (K' b) else .row id' u:=by unfold backK;simp only[hlt,if_true,e]
    rw[this] at hk
    split at hk
    ·cases e':K' b with
     |box j=>rw[e'] at hk;simp only[renKind] at hk;split at hk<;>cases hk;exact .inl ⟨j,rfl,by assumption⟩
     |old=>rw[e'] at hk;cases hk
     |far u=>rw[e'] at hk;cases hk
     |row j u=>rw[e'] at hk;simp only[renKind] at hk;split at hk<;>cases hk
    ·cases hk
  ·have:backK N ts bs w K K' b=renKind (nthOr N ts) (nthOr N bs) (K' b):=by unfold backK;simp only[hlt,if_false]
   rw[this] at hk
   cases e':K' b with
   |box j=>rw[e'] at hk;simp only[renKind] at hk;split at hk<;>cases hk;exact .inl ⟨j,rfl,by assumption⟩
   |old=>rw[e'] at hk;cases hk
   |far u=>rw[e'] at hk;cases hk
   |row j u=>rw[e'] at hk;simp only[renKind] at hk;split at hk<;>cases hk
 have notback:∀(b id:Nat),b<w.heap.size→K b=.box id→indexIn id bs 0=none→∀x∈h',nthOr N bs x.1≠some id:=by
  intro b id hb hk hi x hx e
  unfold nthOr at e
  obtain⟨av,o,l1,_⟩:=hh.cells b id hb hk
  cases h1:bs[x.1]? with
  |some y =>
   rw[h1] at e
   cases e
   have:=indexIn_isSome bs 0 (contains_of_get h1)
   rw[hi] at this
   cases this
  |none =>
   rw[h1] at e
   have e':N+x.1=id:=by simpa using e
   have:=freshIn_mem h' hf x hx h1
   rw[e',l1] at this
   cases this
 refine⟨fun b id hb hk=>?_,fun b b' id hb hb' hk hk'=>?_⟩
 ·rcases origin b id hb hk with⟨j,h1,h2⟩ |⟨h1,h2,h3⟩
  ·obtain⟨av,o,l1,l2,l3⟩:=hh'.cells b j hb h1
   refine⟨_,o,look_back_new h2 h' l1 (fun x hx e=>inj x.1 j id ⟨x.2,hx⟩ ⟨av,look_mem _ l1⟩ e h2),l2,BoxOk.leave g l3⟩
  ·obtain⟨av,o,l1,l2,l3⟩:=hh.cells b id h1 h2
   have hfar:farK ts bs K b=.far 0:=by unfold farK;simp only[h2,h3]
   obtain⟨_,f2⟩:=g.fix b h1 (by rw[hfar];rfl)
   refine⟨av.ren (strikeAll ts) some,o,?_,f2.trans l2,BoxOk.back g l3⟩
   rw[look_back_old h' (notback b id h1 h2 h3),look_mapV,l1]
   rfl
 ·rcases origin b id hb hk with⟨j,h1,h2⟩ |⟨h1,h2,h3⟩
  ·rcases origin b' id hb' hk' with⟨j',h1',h2'⟩ |⟨h1',h2',h3'⟩
   ·obtain⟨av,_,l1,_⟩:=hh'.cells b j hb h1
    obtain⟨av',_,l1',_⟩:=hh'.cells b' j' hb' h1'
    have:=inj j j' id ⟨_,look_mem _ l1⟩ ⟨_,look_mem _ l1'⟩ h2 h2'
    subst this
    exact hh'.uniq b b' j hb hb' h1 h1'
   ·obtain⟨av,_,l1,_⟩:=hh'.cells b j hb h1
    exact(notback b' id h1' h2' h3' _ (look_mem _ l1) h2).elim
  ·rcases origin b' id hb' hk' with⟨j',h1',h2'⟩ |⟨h1',h2',h3'⟩
   ·obtain⟨av,_,l1,_⟩:=hh'.cells b' j' hb' h1'
    exact(notback b id h1 h2 h3 _ (look_mem _ l1) h2').elim
   ·exact hh.uniq b b' id h1 h1' h2 h2'
end
end Go.Av
end
section
namespace Go.Av
open Go
def RVs (w:World) (K:Kinds):List AV→List Value→Prop
 |[],[]=>True
 |a::as,v::vs=>RV w K a v∧RVs w K as vs
 |_,_=>False
theorem RVs.length {w:World} {K:Kinds}:∀{as:List AV} {vs:List Value},RVs w K as vs→as.length=vs.length
 |[],[],_=>rfl
 |_::_,_::_,h=>by simp[RVs.length h.2]
 |[],_::_,h=>h.elim
 |_::_,[],h=>h.elim
theorem RVs.map {w w':World} {K K':Kinds} {f:AV→AV} (hf:∀a v,RV w K a v→RV w' K' (f a) v):∀{as:List AV} {vs:List Value},RVs w K as vs→RVs w' K' (as.map f) vs
 |[],[],_=>trivial
 |_::_,_::_,h=>⟨hf _ _ h.1,RVs.map hf h.2⟩
 |[],_::_,h=>h.elim
 |_::_,[],h=>h.elim
theorem RVs.append {w:World} {K:Kinds}:∀{as bs:List AV} {vs us:List Value},RVs w K as vs→RVs w K bs us→RVs w K (as++bs) (vs++us)
 |[],_,[],_,_,h=>h
 |_::_,_,_::_,_,h,h'=>⟨h.1,RVs.append h.2 h'⟩
 |[],_,_::_,_,h,_=>h.elim
 |_::_,_,[],_,h,_=>h.elim
def BodyOk (P:Program) (f:FuncId) (body:List AV→Heap→Nat→(AV→Heap→Nat→Option R)→Option R):Prop :=
 ∀args h nx Kc r,body args h nx Kc=some r→∀(w:World) (K:Kinds) (vs:List Value),RVs w K args vs→HeapOk w K h→∀(Rf:Ending→World→Prop),
  (∀av v h' nx' w' K',Ext w K w' K'→RV w' K' av v→HeapOk w' K' h'→Kc av h' nx'=some r→Rf (.returned v) w') →
  (∀u h' nx' w' K',Ext w K w' K'→HeapOk w' K' h'→Kc (panAV u) h' nx'=some r→Rf (.panicked [⟨u,false,false⟩]) w')→Calls P f vs.toArray w Rf
def PlainOk (P:Program) (f:FuncId) (ps:Plain):Prop :=
 ∀args v,ps args=some (true,v)→∀(w:World) (K:Kinds) (vs:List Value),RVs w K args vs→(∀b,b<w.heap.size→(K b).fixed=true) →
  Calls P f vs.toArray w fun e w'=>∃r K',e=.returned r∧Ext w K w' K'∧(∀b id,b<w'.heap.size→K' b≠.box id)∧RV w' K' v r
def SnapAt (w:World) (K:Kinds) (sl en:AV) (p:Value):Prop :=
 ∃b cs T c0 c1 mb rest o,p=.pointer (some ⟨b,0,none⟩)∧w.heap[b]?=some (.cells cs T (0,0))∧cs.toList=c0::c1::.map (some mb)::rest∧RS w K sl.sh sl.v [c0]∧w.heap[mb]?=some o∧BoxOk w K en.sh en.v o
def SnapOk (P:Program) (f:FuncId) (ps:Plain):Prop :=
 ∀sl en rest v,ps (snapMark::sl::en::rest)=some (true,v)→∀(w:World) (K:Kinds) (p:Value) (vs:List Value),SnapAt w K sl en p→RVs w K rest vs→(∀b,b<w.heap.size→(K b).fixed=true) →
  Calls P f (p::vs).toArray w fun e w'=>∃r K',e=.returned r∧Ext w K w' K'∧(∀b id,b<w'.heap.size→K' b≠.box id)∧RV w' K' v r
def GetOk (P:Program) (f:FuncId) (p:Nat×TypeId):Prop :=
 ∀(w:World) (b:Nat) (r:Value),w.cell? ⟨b,p.1,none⟩=some r→Calls P f #[.pointer (some ⟨b,0,none⟩)] w fun e w'=>e=.returned r∧w'=w
structure CtxOk (C:Ctx):Prop where
 gets:∀f p,C.gets f=some p→GetOk C.P f p
 snap:∀f ps,C.plain f=some ps→SnapOk C.P f ps
 eqs:C.eqs.all (eqOk C.P)=true
 plain:∀f ps,C.plain f=some ps→PlainOk C.P f ps
 names : ∀ (f : FuncId) (fn : Func), C.P.funcs[f]? = some fn → fn.name ≠ "runtime.NumGoroutine"
 bodyOk:∀f b,C.bodies f=some b→BodyOk C.P f b
 bodyFn:∀f b,C.bodies f=some b→∃fn,C.P.funcs[f]?=some fn∧fn.body.isSome=true
 plainBody:∀f ps,C.plain f=some ps→∃fn,C.P.funcs[f]?=some fn∧fn.body.isSome=true
 mixed:C.P.follows .mixedOrders=true
section
variable {C:Ctx} {fr:Fr} {n:Nat} {K:Kinds} {s:St} {a:Act} {w:World}
theorem bs_get {bs:List Nat} {h:Heap} (hb:bs.all (hasBox h)=true):∀j,j<bs.length→∃x y,bs[j]?=some x∧look x h=some y:=by
 intro j hj
 have:=List.all_eq_true.1 hb bs[j] (List.getElem_mem hj)
 obtain⟨y,hy⟩:=Option.isSome_iff_exists.1 this
 exact⟨bs[j],y,List.getElem?_eq_getElem hj,hy⟩
theorem inCall_ok {own:Bool} {f:FuncId} {body:List AV→Heap→Nat→(AV→Heap→Nat→Option R)→Option R} (hbody:BodyOk C.P f body) {args:List AV} {Kc:AV→St→Option R} {r:R} (h:inCall own body args s Kc=some r)
  (hr:Rel fr n K s a w) {vs:List Value} (hv:RVs w K args vs) (Rf:Ending→World→Prop) (hk:∀av v s' K' w',Rel fr n K' s' a w'→RV w' K' av v→Kc av s'=some r→Rf (.returned v) w')
  (hp:∀u s' K' w',Rel fr n K' s' a w'→Kc (panAV u) s'=some r→Rf (.panicked [⟨u,false,false⟩]) w') :
  Calls C.P f vs.toArray w Rf:=by
 unfold inCall at h
 simp only at h
 split at h
 ·rename_i hcond
  simp only[Bool.and_eq_true] at hcond
  obtain⟨hnd,hbs⟩:=hcond
  generalize reach s.heap 4 (addNew [] ((allBoxes args).filter (hasBox s.heap)))=bs at *
  generalize addNew [] ((bif own then allRows args else[])++contentRows s.heap bs)=ts at *
  have hin:RVs w (farK ts bs K) (args.map (·.ren (bif own then(fun id=>indexIn id ts 0) else noRow) fun id=>indexIn id bs 0)) vs :=
   RVs.map (fun a v hh=>hh.enter (fun _ _ e=>by
    cases own
    ·cases e
    ·exact e) (fun _ _ e=>e)) hv
  have hho:=HeapOk.enter (ts:=ts) hr.heapOk (bs_get hbs)
  have back:∀h' nx' w' K',Ext w (farK ts bs K) w' K'→HeapOk w' K' h'→freshIn s.next bs s.heap h'=true →
    Rel fr n (backK s.next ts bs w K K') {ents:=mapV (·.ren (strikeAll ts) some) s.ents,heap:=backHeap (nthOr s.next ts) (nthOr s.next bs) (mapV (·.ren (strikeAll ts) some) s.heap) h',next:=s.next+nx'} a w':=fun h' nx' w' K' g hho' hf=>by
   have hl:=HeapOk.leave hr.heapOk hnd hbs g hho' hf
   exact{
    ext:=hr.ext.trans (backK_ext g)
    size:=hr.size
    defers:=hr.defers
    ents:=fun t av ht=>by
     simp only[look_mapV,Option.map_eq_some_iff] at ht
     obtain⟨av',e1,e2⟩:=ht
     subst e2
     exact RV.back g (hr.ents t av' e1)
    frame:=fun t ht=>hr.frame t (by simpa [look_mapV] using ht)
    heap:=hl.cells
    uniq:=hl.uniq}
  refine hbody _ _ _ _ _ h w (farK ts bs K) vs hin hho Rf (fun av v h' nx' w' K' g hrv hho' hkc=>?_) (fun u h' nx' w' K' g hho' hkc=>?_)
  ·split at hkc
   ·rename_i hf
    exact hk _ v _ (backK s.next ts bs w K K') w' (back h' nx' w' K' g hho' hf) (RV.leave g hrv) hkc
   ·cases hkc
  ·split at hkc
   ·rename_i hf
    exact hp u _ (backK s.next ts bs w K K') w' (back h' nx' w' K' g hho' hf) hkc
   ·cases hkc
 ·cases h
theorem plain_back (hr:Rel fr n K s a w) {w':World} {K':Kinds} (g:Ext w (farK [] [] K) w' K') (hno:∀b id,b<w'.heap.size→K' b≠.box id) {v:AV} {r:Value} (hrv:RV w' K' v r) (N:Nat) :
  ∃K'',Rel fr n K'' s a w'∧RV w' K'' (v.ren (nthOr N []) (nthOr N [])) r:=by
 refine⟨backK N [] [] w K K',hr.still ?_,RV.leave g hrv⟩
 exact{
  ext:=backK_ext g
  rows:=fun b id u hb hk=>by
   have hf:farK [] [] K b=.far u:=by unfold farK;rw[hk];rfl
   obtain⟨_,h2⟩:=g.fix b hb (by rw[hf];rfl)
   refine⟨?_,h2⟩
   unfold backK
   simp only[hb,if_true,hk]
   rfl
  boxes:=fun b id hb hk=>by
   have hf:farK [] [] K b=.far 0:=by unfold farK;rw[hk];rfl
   exact(g.fix b hb (by rw[hf];rfl)).2
  fresh:=fun b hb id hk=>by
   by_cases hlt:b<w.heap.size
   ·refine⟨hlt,?_⟩
    unfold backK at hk
    simp only[hlt,if_true] at hk
    cases e:K b with
    |old=>rw[e] at hk;cases hk
    |far u=>rw[e] at hk;cases hk
    |box id'=>rw[e] at hk;cases hk;rfl
    |row id' u=>rw[e] at hk;cases hk
   ·unfold backK at hk
    simp only[hlt,if_false] at hk
    cases e:K' b with
    |old=>rw[e] at hk;cases hk
    |far u=>rw[e] at hk;cases hk
    |box id'=>exact(hno b id' hb e).elim
    |row id' u=>rw[e] at hk;simp only[renKind] at hk;split at hk<;>cases hk}
def frzK (ids:List Nat) (K:Kinds):Kinds:=fun b =>
 match K b with
 | .old=>.old
 | .far u=>.far u
 | .box id=>if ids.contains id then .old else .far 0
 | .row _ u=>.far u
theorem frzK_fixed (ids:List Nat) (K:Kinds) (b:Nat):(frzK ids K b).fixed=true:=by
 unfold frzK
 cases K b with
 |box id=>simp only;split<;>rfl
 |_=>rfl
def midK (w:World) (K K':Kinds):Kinds:=fun b=>if b<w.heap.size then farK [] [] K b else K' b
theorem unwin_RV (hr:Rel fr n K s a w) {f:Nat→Bool} {ids:List Nat} {av:AV} {u:Value} (hid:∀i,winId av=some i→ids.contains i=true) (h:RV w K av u):RV w (frzK ids K) ((unwin s f av).ren noRow noRow) u:=by
 have keep:Keep w K w (frzK ids K):=fun b o _ hs=>⟨by
  unfold Stab frzK at *
  cases hk:K b with
  |box id=>rw[hk] at hs;exact hs.elim
  |_=>rw[hk] at hs;exact hs,rfl⟩
 have gen:∀av',RV w K av' u→RV w (frzK ids K) (av'.ren noRow noRow) u:=fun av' h'=>RV.ren keep (Nat.le_refl _) (fun _ _ _ _ _ _ e=>by cases e) (fun _ _ _ _ _ e=>by cases e) h'
 obtain⟨sh,x⟩:=av
 cases sh
 case win id e =>
  simp only[unwin]
  split
  ·rename_i e' xs hc
   split
   ·rename_i he _
    subst he
    split
    ·rename_i hpos
     obtain⟨b,j,cap,rfl,g1,g2,g3,g4,cs,T,g5,g6⟩:=RV.win h
     obtain⟨av,bo,e1,e2,e3⟩:=hr.heap b id g2 g1
     have:av=⟨.rowc e',xs⟩:=by
      unfold heapAt at hc
      split at hc
      ·cases hc
      ·rw[e1] at hc;cases hc;rfl
     subst this
     rw[g5] at e2;cases e2
     obtain⟨cs',T',hbo,e4⟩:=e3
     cases hbo
     have hll:=RL.length (RT.length e') _ _ e4
     have hcl:=@Array.length_toList _ cs
     have hlen:x.1+x.2≤List.length (α:=e'.den) xs:=by
      rw[←hcl,hll] at g6
      exact Nat.le_of_mul_le_mul_right g6 hpos
     have s1:=(RL.split (RT.length e') xs _ x.1 e4 (by omega)).2
     have s2:=(RL.split (RT.length e') _ _ x.2 s1 (by rw[List.length_drop];omega)).1
     have hst:∀o,Stab (frzK ids K) b o:=fun o=>by
      unfold Stab frzK
      rw[g1]
      simp only[hid id rfl,if_true]
      trivial
     have hx2:x.2=List.length (List.take x.2 (List.drop x.1 (xs:List e'.den))):=by
      rw[List.length_take,List.length_drop];omega
     refine R1.toRV (a:=⟨.ty (.sl e'),List.take x.2 (List.drop x.1 (xs:List e'.den))⟩) ⟨⟨some ⟨b,j,none⟩,x.2,cap,rfl,hx2,g3,(fun e=>nomatch e),fun ad had=>⟨_,RL.imp (RT.ext keep e') _ _ s2,?_⟩⟩,(fun e=>nomatch e),(fun _ c e=>nomatch e)⟩
     cases had
     intro i v hi
     refine⟨rfl,?_,hst _⟩
     rw[List.getElem?_take] at hi
     split at hi
     ·rename_i hlt
      rw[List.getElem?_drop] at hi
      have hne:x.2≠0:=fun h0=>by rw[h0,Nat.zero_mul] at hlt;exact Nat.not_lt_zero _ hlt
      rw[g4 hne]
      simp only[World.cell?,g5,Option.isSome_none,Bool.false_eq_true,if_false]
      simpa using hi
     ·cases hi
    ·exact gen _ h
   ·exact gen _ h
  ·exact gen _ h
 all_goals exact gen _ h
theorem RL_ints {w:World} {K:Kinds} {k:IntKind}:∀(xs:List Int) (cs:List Value),RL (RT w K (.int k)) xs cs→∀c∈cs,∃m,c=.int k m
 |[],cs,h,c,hc=>by rw[show cs=[] from h] at hc;cases hc
 |x::xs,_,⟨c1,c2,e,h1,h2⟩,c,hc=>by
  subst e
  rw[show c1=[.int k x] from h1] at hc
  rcases List.mem_append.1 hc with hc |hc
  ·exact⟨x,by simpa using hc⟩
  ·exact RL_ints xs c2 h2 c hc
theorem RL_bools {w:World} {K:Kinds}:∀(xs:List Bool) (cs:List Value),RL (RT w K .bool) xs cs→∀c∈cs,∃b,c=.bool b
 |[],cs,h,c,hc=>by rw[show cs=[] from h] at hc;cases hc
 |x::xs,_,⟨c1,c2,e,h1,h2⟩,c,hc=>by
  subst e
  rw[show c1=[.bool x] from h1] at hc
  rcases List.mem_append.1 hc with hc |hc
  ·exact⟨x,by simpa using hc⟩
  ·exact RL_bools xs c2 h2 c hc
theorem RVs.mapMem {w w':World} {K K':Kinds} {f:AV→AV}:∀{as:List AV} {vs:List Value},(∀a∈as,∀v,RV w K a v→RV w' K' (f a) v)→RVs w K as vs→RVs w' K' (as.map f) vs
 |[],[],_,_=>trivial
 |_::_,_::_,hf,h=>⟨hf _ (by simp) _ h.1,RVs.mapMem (fun a ha=>hf a (by simp[ha])) h.2⟩
 |[],_::_,_,h=>h.elim
 |_::_,[],_,h=>h.elim
theorem win_ok {f:FuncId} {ps:Plain} (hp:PlainOk C.P f ps) {args:List AV} {v:AV} {no:Nat→Bool} (hids:(args.filterMap winId).all (fun i=>isBools (heapAt s no i))=true) (h:ps (args.map fun a=>(unwin s no a).ren noRow noRow)=some (true,v)) (hv:isInts v.sh=true)
  (hr:Rel fr n K s a w) {vs:List Value} (hvs:RVs w K args vs) (N:Nat) :
  Calls C.P f vs.toArray w fun e w'=>∃r K',e=.returned r∧Rel fr n K' s a w'∧RV w' K' (v.ren (nthOr N []) (nthOr N [])) r:=by
 have hin:RVs w (frzK (args.filterMap winId) K) (args.map fun a=>(unwin s no a).ren noRow noRow) vs :=
  RVs.mapMem (fun a ha v hh=>unwin_RV hr (fun i hi=>by rw[List.contains_iff_mem];exact List.mem_filterMap.2 ⟨a,ha,hi⟩) hh) hvs
 refine(hp _ _ h w _ vs hin (fun b _=>frzK_fixed _ _ b)).mono ?_
 rintro e w' ⟨r,K',he,g,hno,hrv⟩
 have g2:Ext w (farK [] [] K) w' (midK w K K'):={
  os:=g.os
  tape:=g.tape
  output:=g.output
  size:=g.size
  fix:=fun b hb _=>⟨by unfold midK;rw[if_pos hb],(g.fix b hb (frzK_fixed _ _ b)).2⟩
  stab:=fun b o hb hs=>⟨by unfold Stab midK;rw[if_pos hb];exact hs,World.cell?_of_block (a:=⟨b,o,none⟩) (g.fix b hb (frzK_fixed _ _ b)).2⟩
  box:=fun b id hb hk=>by unfold farK at hk;cases e:K b<;>rw[e] at hk<;>cases hk
  bsz:=fun b id m hb hk=>by unfold farK at hk;cases e:K b<;>rw[e] at hk<;>cases hk}
 have hno2:∀b id,b<w'.heap.size→midK w K K' b≠.box id:=fun b id hb hk=>by
  unfold midK at hk
  split at hk
  ·unfold farK at hk;cases e:K b<;>rw[e] at hk<;>cases hk
  ·exact hno b id hb hk
 have hsl:∀(k:IntKind) (x:List Int) (A:Option Addr) (len cap:Nat),RT w' K' (.sl (.int k)) x [.slice A len cap]→RT w' (midK w K K') (.sl (.int k)) x [.slice A len cap]:=fun k x A len cap hrt=>by
  obtain⟨A',len',cap',he,x1,x2,x3,x4⟩:=hrt
  injection he with he _
  injection he with q1 q2 q3
  subst q1 q2 q3
  refine⟨A,len,cap,rfl,x1,x2,x3,fun ad had=>?_⟩
  obtain⟨cc,c1,c2⟩:=x4 ad had
  refine⟨cc,RL.imp (fun _ _ h=>h) _ _ c1,fun i v hi=>?_⟩
  obtain⟨p1,p2,p3⟩:=c2 i v hi
  refine⟨p1,p2,?_⟩
  obtain⟨m,rfl⟩:=RL_ints _ _ c1 v (List.mem_of_getElem? hi)
  unfold Stab midK
  split
  ·rename_i hb
   obtain⟨f1,f2⟩:=g.fix ad.block hb (frzK_fixed _ _ _)
   unfold Stab at p3
   rw[f1] at p3
   unfold frzK at p3
   unfold farK
   cases hk:K ad.block with
   |old=>trivial
   |far u=>rw[hk] at p3;exact p3
   |row id u=>rw[hk] at p3;exact p3
   |box id =>
    rw[hk] at p3
    simp only at p3
    split at p3
    ·rename_i hc
     exfalso
     have hb2:=List.all_eq_true.1 hids id (by simpa using hc)
     obtain⟨av,bo,e1,e2,e3⟩:=hr.heap ad.block id hb hk
     unfold isBools at hb2
     split at hb2
     ·rename_i xs hh
      have:av=⟨.rowc .bool,xs⟩:=by
       unfold heapAt at hh
       split at hh
       ·cases hh
       ·rw[e1] at hh;cases hh;rfl
      subst this
      obtain⟨cs,T,rfl,hrl⟩:=e3
      rw[World.cell?_of_block (a:=⟨ad.block,ad.off+i,none⟩) f2] at p2
      simp only[World.cell?,e2,Option.isSome_none,Bool.false_eq_true,if_false] at p2
      obtain⟨b,hb⟩:=RL_bools _ _ hrl (.int k m) (by
       have:=List.mem_of_getElem? (l:=cs.toList) (i:=ad.off+i) (a:=.int k m) (by simpa using p2)
       exact this)
      cases hb
     ·cases hb2
    ·exact(Nat.not_lt_zero _ p3).elim
  ·exact p3
 have hrv2:RV w' (midK w K K') v r:=by
  obtain⟨sh,x⟩:=v
  cases sh with
  |ty t =>
   cases t with
   |int k=>exact RV.scalar (av:=.int k x) (by rw[RV.int hrv];rfl) rfl (by rw[RV.int hrv];rfl)
   |bool=>exact hrv
   |sl t =>
    cases t with
    |int k =>
     obtain⟨A,len,cap,rfl,hrt⟩:=RV.sl hrv
     exact R1.toRV (a:=⟨.ty (.sl (.int k)),x⟩) ⟨hsl k x A len cap hrt,(fun e=>nomatch e),(fun _ c e=>nomatch e)⟩
    |_=>cases hv
   |_=>cases hv
  |osl id' t =>
   cases t with
   |int k =>
    obtain⟨A,len,cap,rfl,hrt,hown⟩:=RV.osl hrv
    refine R1.toRV (a:=⟨.osl id' (.int k),x⟩) ⟨⟨hsl k x A len cap hrt,fun A2 len2 cap2 hc=>?_⟩,(fun e=>nomatch e),(fun _ c e=>nomatch e)⟩
    injection hc with hc _
    injection hc with q1 q2 q3
    subst q1 q2 q3
    rcases hown with h |h |⟨a',e1,e2,e3,arr,T,e4,e5⟩
    ·exact .inl h
    ·exact .inr (.inl h)
    ·refine .inr (.inr ⟨a',e1,e2,?_,arr,T,e4,e5⟩)
     unfold midK
     split
     ·rename_i hb
      have f1:=(g.fix a'.block hb (frzK_fixed _ _ _)).1
      have f2:=frzK_fixed (args.filterMap winId) K a'.block
      rw[←f1,e3] at f2
      cases f2
     ·exact e3
   |_=>cases hv
  |_=>cases hv
 obtain⟨K'',k1,k2⟩:=plain_back hr g2 hno2 hrv2 N
 exact⟨r,K'',he,k1,k2⟩
theorem win_RT (hr:Rel fr n K s a w) {f:Nat→Bool} {ids:List Nat} {id:Nat} {e:Ty} {xs:List e.den} (hc:heapAt s f id=some ⟨.rowc e,xs⟩) (hpos:0<e.size) (hid:ids.contains id=true) (keep:Keep w K w (frzK ids K)) {x:Nat×Nat} {c:List Value} :
  RWin w K id e x c→RT w (frzK ids K) (.sl e) (shown xs x) c:=by
 rintro⟨b,j,cap,rfl,g1,g2,g3,g4,cs,T,g5,g6⟩
 obtain⟨av,bo,e1,e2,e3⟩:=hr.heap b id g2 g1
 have:av=⟨.rowc e,xs⟩:=by
  unfold heapAt at hc
  split at hc
  ·cases hc
  ·rw[e1] at hc;cases hc;rfl
 subst this
 rw[g5] at e2;cases e2
 obtain⟨cs',T',hbo,e4⟩:=e3
 cases hbo
 have hll:=RL.length (RT.length e) _ _ e4
 have hcl:=@Array.length_toList _ cs
 have hlen:x.1+x.2≤List.length (α:=e.den) xs:=by
  rw[←hcl,hll] at g6
  exact Nat.le_of_mul_le_mul_right g6 hpos
 have s1:=(RL.split (RT.length e) xs _ x.1 e4 (by omega)).2
 have s2:=(RL.split (RT.length e) _ _ x.2 s1 (by rw[List.length_drop];omega)).1
 have hst:∀o,Stab (frzK ids K) b o:=fun o=>by
  unfold Stab frzK
  rw[g1]
  simp only[hid,if_true]
  trivial
 have hx2:x.2=List.length (List.take x.2 (List.drop x.1 (xs:List e.den))):=by
  rw[List.length_take,List.length_drop];omega
 refine⟨some ⟨b,j,none⟩,x.2,cap,rfl,hx2,g3,(fun e=>nomatch e),fun ad had=>⟨_,RL.imp (RT.ext keep e) _ _ s2,?_⟩⟩
 cases had
 intro i v hi
 refine⟨rfl,?_,hst _⟩
 rw[List.getElem?_take] at hi
 split at hi
 ·rename_i hlt
  rw[List.getElem?_drop] at hi
  have hne:x.2≠0:=fun h0=>by rw[h0,Nat.zero_mul] at hlt;exact Nat.not_lt_zero _ hlt
  rw[g4 hne]
  simp only[World.cell?,g5,Option.isSome_none,Bool.false_eq_true,if_false]
  simpa using hi
 ·cases hi
theorem RL.mapL {α β:Type} {R:α→List Value→Prop} {R':β→List Value→Prop} {g:α→β} (h:∀x c,R x c→R' (g x) c):∀(xs:List α) (cs:List Value),RL R xs cs→RL R' (xs.map g) cs
 |[],_,hh=>hh
 |_::xs,_,⟨c1,c2,e,h1,h2⟩=>⟨c1,c2,e,h _ _ h1,RL.mapL h xs c2 h2⟩
theorem show_RV (hr:Rel fr n K s a w) {f:Nat→Bool} {ids:List Nat} {av:AV} {p:List Nat×AV} (hp:showMem s f av=some p) (hids:∀i∈p.1,ids.contains i=true) {u:Value} (h:RV w K av u):RV w (frzK ids K) p.2 u:=by
 have keep:Keep w K w (frzK ids K):=fun b o _ hs=>⟨by
  unfold Stab frzK at *
  cases hk:K b with
  |box id=>rw[hk] at hs;exact hs.elim
  |_=>rw[hk] at hs;exact hs,rfl⟩
 unfold showMem at hp
 split at hp
 ·rename_i id _
  split at hp
  ·rename_i t tg rid e x hc
   split at hp
   ·rename_i e' xs hc2
    split at hp
    ·rename_i he _
     subst he
     split at hp
     ·rename_i hpos
      cases hp
      have i1:=hids id (by simp)
      have i2:=hids rid (by simp)
      obtain⟨b,rfl,hkb,hlt⟩:=RV.box h
      obtain⟨av,bo,e1,e2,e3⟩:=hr.heap b id hlt hkb
      have:av=⟨.pair (.ty t) (.pair (.wsl tg rid e') (.ty .unit)),x⟩:=by
       unfold heapAt at hc
       split at hc
       ·cases hc
       ·rw[e1] at hc;cases hc;rfl
      subst this
      obtain⟨cs,T,rfl,c1,c2,hcs,h1,c3,c4,rfl,⟨⟨A,len,cap,rfl,x1,x2,x3,x4⟩,_⟩,h3⟩:=e3
      have h4:c4=[]:=h3
      subst h4
      refine R1.toRV (a:=⟨.ref (.pair t (.pair (.sl (.sl e')) .unit)) 0,_⟩) ⟨⟨⟨b,0,none⟩,cs.toList,rfl,?_,?_⟩,(fun e=>nomatch e),(fun _ c e=>nomatch e)⟩
      ·refine⟨c1,_,hcs,RT.ext keep t _ _ h1,_,_,rfl,?_,rfl⟩
       refine⟨A,len,cap,rfl,by unfold rowsOf;rw[List.length_map];exact x1,x2,x3,fun ad had=>?_⟩
       obtain⟨cc,k1,k2⟩:=x4 ad had
       exact⟨cc,RL.mapL (fun y c hy=>win_RT hr hc2 hpos i2 keep hy) _ _ k1,k2.ext keep⟩
      ·intro j v hj
       refine⟨rfl,?_,?_⟩
       ·simp only[World.cell?,e2,Option.isSome_none,Bool.false_eq_true,if_false]
        simpa using hj
       ·unfold Stab frzK
        simp only[hkb,i1,if_true]
        trivial
     ·cases hp
    ·cases hp
   ·cases hp
  ·cases hp
 ·cases hp
theorem show_ok {f:FuncId} {ps:Plain} (hp:PlainOk C.P f ps) {args:List AV} {v:AV} {no:Nat→Bool} (h:ps (args.map (showArg s no))=some (true,v)) (hv:isOne v.sh=true)
  (hr:Rel fr n K s a w) {vs:List Value} (hvs:RVs w K args vs) (N:Nat) :
  Calls C.P f vs.toArray w fun e w'=>∃r K',e=.returned r∧Rel fr n K' s a w'∧RV w' K' (v.ren (nthOr N []) (nthOr N [])) r:=by
 let ids:=(args.filterMap (showMem s no)).flatMap (·.1)
 have keep:Keep w K w (frzK ids K):=fun b o _ hs=>⟨by
  unfold Stab frzK at *
  cases hk:K b with
  |box id=>rw[hk] at hs;exact hs.elim
  |_=>rw[hk] at hs;exact hs,rfl⟩
 have hin:RVs w (frzK ids K) (args.map (showArg s no)) vs:=RVs.mapMem (fun a ha v hh=>by
  unfold showArg
  cases hm:showMem s no a with
  |none=>exact RV.ren keep (Nat.le_refl _) (fun _ _ _ _ _ _ e=>by cases e) (fun _ _ _ _ _ e=>by cases e) hh
  |some p=>exact show_RV hr hm (fun i hi=>by rw[List.contains_iff_mem];exact List.mem_flatMap.2 ⟨p,List.mem_filterMap.2 ⟨a,ha,hm⟩,hi⟩) hh) hvs
 refine(hp _ _ h w _ vs hin (fun b _=>frzK_fixed _ _ b)).mono ?_
 rintro e w' ⟨r,K',he,g,hno,hrv⟩
 have g2:Ext w (farK [] [] K) w' (midK w K K'):={
  os:=g.os
  tape:=g.tape
  output:=g.output
  size:=g.size
  fix:=fun b hb _=>⟨by unfold midK;rw[if_pos hb],(g.fix b hb (frzK_fixed _ _ b)).2⟩
  stab:=fun b o hb hs=>⟨by unfold Stab midK;rw[if_pos hb];exact hs,World.cell?_of_block (a:=⟨b,o,none⟩) (g.fix b hb (frzK_fixed _ _ b)).2⟩
  box:=fun b id hb hk=>by unfold farK at hk;cases e:K b<;>rw[e] at hk<;>cases hk
  bsz:=fun b id m hb hk=>by unfold farK at hk;cases e:K b<;>rw[e] at hk<;>cases hk}
 have hno2:∀b id,b<w'.heap.size→midK w K K' b≠.box id:=fun b id hb hk=>by
  unfold midK at hk
  split at hk
  ·unfold farK at hk;cases e:K b<;>rw[e] at hk<;>cases hk
  ·exact hno b id hb hk
 have hrv2:RV w' (midK w K K') v r:=by
  obtain⟨sh,x⟩:=v
  cases sh with
  |ty t =>
   cases t with
   |int k=>exact RV.scalar (av:=.int k x) (by rw[RV.int hrv];rfl) rfl (by rw[RV.int hrv];rfl)
   |bool=>exact hrv
   |str=>exact hrv
   |_=>cases hv
  |_=>cases hv
 obtain⟨K'',k1,k2⟩:=plain_back hr g2 hno2 hrv2 N
 exact⟨r,K'',he,k1,k2⟩
theorem snap_At (hr:Rel fr n K s a w) {f:Nat→Bool} {ids:List Nat} {av:AV} {p:List Nat×AV×AV} (hp:showMap s f av=some p) {u:Value} (h:RV w K av u):SnapAt w (frzK ids K) p.2.1 p.2.2 u:=by
 have keep:Keep w K w (frzK ids K):=fun b o _ hs=>⟨by
  unfold Stab frzK at *
  cases hk:K b with
  |box id=>rw[hk] at hs;exact hs.elim
  |_=>rw[hk] at hs;exact hs,rfl⟩
 unfold showMap at hp
 split at hp
 ·rename_i id _
  split at hp
  ·rename_i e m q x hc
   split at hp
   ·rename_i en hc2
    cases hp
    obtain⟨b,rfl,hkb,hlt⟩:=RV.box h
    obtain⟨av,bo,e1,e2,e3⟩:=hr.heap b id hlt hkb
    have:av=⟨.pair (.ty (.sl e)) (.pair (.ty (.int .i64)) (.pair (.mp m) q)),x⟩:=by
     unfold heapAt at hc
     split at hc
     ·cases hc
     ·rw[e1] at hc;cases hc;rfl
    subst this
    obtain⟨cs,T,rfl,c1,c2,hcs,h1,c3,c4,rfl,h3,c5,c6,rfl,⟨mb,rfl,hkm,hltm⟩,h5⟩:=e3
    have h3':c3=[.int .i64 x.2.1]:=h3
    subst h3'
    obtain⟨A,len,cap,rfl,h1'⟩:=h1
    obtain⟨av2,bo2,f1,f2,f3⟩:=hr.heap mb m hltm hkm
    have:av2=⟨.mapc,en⟩:=by
     unfold heapAt at hc2
     split at hc2
     ·cases hc2
     ·rw[f1] at hc2;cases hc2;rfl
    subst this
    refine⟨b,cs,T,_,_,mb,c6,bo2,rfl,e2,by rw[hcs];rfl,?_,f2,f3⟩
    exact RT.ext keep (.sl e) x.1 _ ⟨A,len,cap,rfl,h1'⟩
   ·cases hp
  ·cases hp
 ·cases hp
theorem snap_ok {f:FuncId} {ps:Plain} (hp:SnapOk C.P f ps) {args l:List AV} {v:AV} {no:Nat→Bool} (hl:snapArgs s no args=some l) (h:ps l=some (true,v)) (hv:isOne v.sh=true)
  (hr:Rel fr n K s a w) {vs:List Value} (hvs:RVs w K args vs) (N:Nat) :
  Calls C.P f vs.toArray w fun e w'=>∃r K',e=.returned r∧Rel fr n K' s a w'∧RV w' K' (v.ren (nthOr N []) (nthOr N [])) r:=by
 unfold snapArgs at hl
 split at hl
 ·rename_i a0 rest
  split at hl
  ·rename_i p hsp
   cases hl
   match vs,hvs with
   |u::vs,hvs =>
   have keep:Keep w K w (frzK p.1 K):=fun b o _ hs=>⟨by
    unfold Stab frzK at *
    cases hk:K b with
    |box id=>rw[hk] at hs;exact hs.elim
    |_=>rw[hk] at hs;exact hs,rfl⟩
   have hin:RVs w (frzK p.1 K) (rest.map (·.ren noRow noRow)) vs:=RVs.mapMem (fun a ha v hh=>RV.ren keep (Nat.le_refl _) (fun _ _ _ _ _ _ e=>by cases e) (fun _ _ _ _ _ e=>by cases e) hh) hvs.2
   refine(hp _ _ _ _ h w _ u vs (snap_At hr hsp hvs.1) hin (fun b _=>frzK_fixed _ _ b)).mono ?_
   rintro e w' ⟨r,K',he,g,hno,hrv⟩
   have g2:Ext w (farK [] [] K) w' (midK w K K'):={
    os:=g.os
    tape:=g.tape
    output:=g.output
    size:=g.size
    fix:=fun b hb _=>⟨by unfold midK;rw[if_pos hb],(g.fix b hb (frzK_fixed _ _ b)).2⟩
    stab:=fun b o hb hs=>⟨by unfold Stab midK;rw[if_pos hb];exact hs,World.cell?_of_block (a:=⟨b,o,none⟩) (g.fix b hb (frzK_fixed _ _ b)).2⟩
    box:=fun b id hb hk=>by unfold farK at hk;cases e:K b<;>rw[e] at hk<;>cases hk
    bsz:=fun b id m hb hk=>by unfold farK at hk;cases e:K b<;>rw[e] at hk<;>cases hk}
   have hno2:∀b id,b<w'.heap.size→midK w K K' b≠.box id:=fun b id hb hk=>by
    unfold midK at hk
    split at hk
    ·unfold farK at hk;cases e:K b<;>rw[e] at hk<;>cases hk
    ·exact hno b id hb hk
   have hrv2:RV w' (midK w K K') v r:=by
    obtain⟨sh,x⟩:=v
    cases sh with
    |ty t =>
     cases t with
     |int k=>exact RV.scalar (av:=.int k x) (by rw[RV.int hrv];rfl) rfl (by rw[RV.int hrv];rfl)
     |bool=>exact hrv
     |str=>exact hrv
     |_=>cases hv
    |_=>cases hv
   obtain⟨K'',k1,k2⟩:=plain_back hr g2 hno2 hrv2 N
   exact⟨r,K'',he,k1,k2⟩
  ·cases hl
 ·cases hl
theorem plain_ok {f:FuncId} {ps:Plain} (hp:PlainOk C.P f ps) (hps:SnapOk C.P f ps) {args:List AV} {v:AV} {no:Nat→Bool} (h:plainEff s no ps args=some (true,v)) (hr:Rel fr n K s a w) {vs:List Value} (hv:RVs w K args vs) (N:Nat) :
  Calls C.P f vs.toArray w fun e w'=>∃r K',e=.returned r∧Rel fr n K' s a w'∧RV w' K' (v.ren (nthOr N []) (nthOr N [])) r:=by
 unfold plainEff at h
 split at h
 ·rename_i l hl
  split at h
  ·rename_i v' hpl
   split at h
   ·rename_i hi
    cases h
    exact snap_ok hps hl hpl hi hr hv N
   ·cases h
  ·cases h
 cases hsh:args.any (fun a=>(showMem s no a).isSome) with
 |true =>
  rw[hsh] at h
  simp only[cond_true] at h
  split at h
  ·rename_i v' hps
   split at h
   ·rename_i hi
    cases h
    exact show_ok hp hps hi hr hv N
   ·cases h
  ·cases h
 |false =>
 rw[hsh] at h
 simp only[cond_false] at h
 split at h
 ·have hin:RVs w (farK [] [] K) (args.map (·.ren noRow noRow)) vs:=RVs.map (fun a v hh=>hh.enter (fun _ _ e=>by cases e) (fun _ _ e=>by cases e)) hv
  refine(hp _ _ h w (farK [] [] K) vs hin (fun b _=>?_)).mono ?_
  ·unfold farK
   cases K b<;>rfl
  ·rintro e w' ⟨r,K',he,g,hno,hrv⟩
   obtain⟨K'',k1,k2⟩:=plain_back hr g hno hrv N
   exact⟨r,K'',he,k1,k2⟩
 ·rename_i i l hl
  rw[←hl] at h
  cases hb:(args.filterMap winId).all fun i=>isBools (heapAt s no i)
  ·rw[hb] at h;cases h
  ·rw[hb] at h
   simp only[cond_true] at h
   split at h
   ·rename_i v' hps
    split at h
    ·rename_i hi
     cases h
     exact win_ok hp hb hps hi hr hv N
    ·cases h
   ·cases h
theorem parts_ok:∀(d:Nat) (sh:Sh) (x:sh.den) (cs:List Value),unpack sh d=true→RS w K sh x cs→(∀c∈cs,c.oneCell'=true)→RVs w K (parts d ⟨sh,x⟩) cs:=by
 intro d
 induction d with
 |zero =>
  intro sh x cs h hr _
  cases sh<;>try cases h
  rename_i t
  cases t<;>first|cases h |skip
  rw[show cs=[] from hr]
  trivial
 |succ d ih =>
  intro sh x cs h hr h1
  have fin:∀(p q:AV) (c1 c2:List Value),RS w K p.sh p.v c1→p.sh.agg=false→cs=c1++c2→RVs w K (parts d q) c2→RVs w K (p::parts d q) cs:=by
   intro p q c1 c2 hp hg he hq
   have hl:=RS.length _ _ _ hp
   rw[Sh.size_pos _ hg] at hl
   obtain⟨c,rfl⟩:=List.length_eq_one_iff.1 hl
   subst he
   exact⟨RV.scalar hp hg (h1 c (by simp)),hq⟩
  cases sh with
  |pair a b =>
   simp only[unpack,Bool.and_eq_true,Bool.not_eq_true'] at h
   obtain⟨c1,c2,e,r1,r2⟩:=hr
   exact fin ⟨a,x.1⟩ ⟨b,x.2⟩ c1 c2 r1 h.1 e (ih b x.2 c2 h.2 r2 (fun c hc=>h1 c (by rw[e];simp[hc])))
  |ty t =>
   cases t with
   |unit =>
    rw[show cs=[] from hr]
    trivial
   |pair a b =>
    simp only[unpack,Bool.and_eq_true,Bool.not_eq_true'] at h
    obtain⟨c1,c2,e,r1,r2⟩:=hr
    exact fin ⟨.ty a,x.1⟩ ⟨.ty b,x.2⟩ c1 c2 r1 h.1 e (ih (.ty b) x.2 c2 h.2 r2 (fun c hc=>h1 c (by rw[e];simp[hc])))
   |_=>cases h
  |_=>cases h
theorem args_ok (hr:Rel fr n K s a w):∀l:List Operand,RVs w K (l.map (opnd s)) (l.map a.eval)
 |[]=>trivial
 |x::l=>⟨opnd_RV hr x,args_ok hr l⟩
theorem callee_ok (hC:CtxOk C) (hr:Rel fr n K s a w) {o:Oper} {c:Call} (ho:o.op=.call c) {g:FuncId} {args:List AV} (h:calleeOf s c=some (g,args)) {fn:Func} (hfn:C.P.funcs[g]?=some fn) (hb:fn.body.isSome=true) :
  ∃vs,(execOp a.eval o).run C.P w=.ok (.enter g vs.toArray) w∧RVs w K args vs:=by
 unfold calleeOf at h
 split at h
 ·rename_i f hcal
  split at h
  ·rename_i g' caps x hx
   split at h
   ·rename_i hun
    cases h
    have hv:=opnd_RV hr f
    rw[hx] at hv
    obtain⟨cc,hcc,hrs⟩:=RV.fn hv
    refine⟨c.args.toList.map a.eval++cc,?_,RVs.append (args_ok hr _) (parts_ok 12 caps x cc hun hrs (RS.one _ _ _ hrs))⟩
    have hnm:=hC.names g fn hfn
    have hbn:¬fn.body=none:=fun e=>by rw[e] at hb;cases hb
    have e1:c.args.map a.eval++cc.toArray=(c.args.toList.map a.eval++cc).toArray:=by
     apply Array.ext'
     simp
    rw[←e1]
    simp[execOp,ho,resolve,hcal,Deferred.ofValue,hcc,invoke,callFunc,hfn,hnm,hbn]
   ·cases h
  ·rename_i g' hx
   cases h
   have hv:=opnd_RV hr f
   rw[hx] at hv
   have hcc:=RV.func hv
   refine⟨c.args.toList.map a.eval,?_,args_ok hr _⟩
   have hnm:=hC.names g fn hfn
   have hbn:¬fn.body=none:=fun e=>by rw[e] at hb;cases hb
   have e1:c.args.map a.eval=(c.args.toList.map a.eval).toArray:=by
    apply Array.ext'
    simp
   rw[←e1]
   simp[execOp,ho,resolve,hcal,Deferred.ofValue,hcc,fnVal,invoke,callFunc,hfn,hnm,hbn]
  ·cases h
 ·cases h
def CallsOk (P:Program) (call:CallIn):Prop:=∀f,BodyOk P f (call f)∧∀args h nx Kc r,call f args h nx Kc=some r→∃fn,P.funcs[f]?=some fn∧fn.body.isSome=true
theorem dstOk_spec {o:Oper} (h:dstOk n o=true):∀t,o.dst=some t→t<n:=by
 intro t ht
 unfold dstOk at h
 rw[ht] at h
 simpa [Nat.blt_eq] using h
theorem upon_opOk {o:Oper} {e:Eff} {next:Act→World→Prop} {Q:Exit→Act→World→Prop} (h:OpOk C.P fr n s a w o e) (hn:∀K' a' w',Rel fr n K' (s.apply o.dst e) a' w'→next a' w'):o.wp C.P a w next Q:=by
 obtain⟨v,w',K',hrun,hrel⟩:=h
 unfold Oper.wp
 rcases hrun with hrun |⟨hrun,rfl⟩
 ·rw[hrun];exact hn _ _ _ hrel
 ·rw[hrun];exact hn _ _ _ hrel
theorem isOne_RS {w:World} {K:Kinds} {sh:Sh} {x:sh.den} {cs:List Value} (h:isOne sh=true) (hr:RS w K sh x cs):∃c,cs=[c]∧RV w K ⟨sh,x⟩ c:=by
 unfold isOne at h
 split at h
 ·have e:cs=[.int _ x]:=hr
  exact⟨_,e,rfl,(fun e=>nomatch e),(fun _ _ e=>nomatch e)⟩
 ·have e:cs=[.bool x]:=hr
  exact⟨_,e,rfl,(fun e=>nomatch e),(fun _ _ e=>nomatch e)⟩
 ·have e:cs=[.string ⟨⟨x⟩⟩]:=hr
  exact⟨_,e,rfl,(fun e=>nomatch e),(fun _ _ e=>nomatch e)⟩
 ·cases h
theorem effOf_ok (hC:CtxOk C) {no:Lim} {id:Nat} {o:Oper} {c:Bool} {e:Eff} (h:effOf C s no id o=some (c,e)) (hc:c=true) (hr:Rel fr n K s a w) (hd:dstOk n o=true) {next:Act→World→Prop} {Q:Exit→Act→World→Prop}
  (hn:∀K' a' w',Rel fr n K' (s.apply o.dst e) a' w'→next a' w'):o.wp C.P a w next Q:=by
 have hd':=dstOk_spec hd
 unfold effOf at h
 split at h
 ·rename_i cl ho
  split at h
  ·rename_i g args hcal
   split at h
   ·rename_i ps hps
    obtain⟨fn,hfn,hb⟩:=hC.plainBody g ps hps
    obtain⟨vs,hrun,hvs⟩:=callee_ok hC hr ho hcal hfn hb
    split at h
    ·rename_i p hp
     obtain⟨⟨c',v⟩,hv,e'⟩:=Option.map_eq_some_iff.1 h
     simp only[Prod.mk.injEq] at e'
     obtain⟨e1,e2⟩:=e'
     subst e1
     subst e2
     subst hc
     unfold getEff at hv
     split at hv
     ·rename_i id' x
      cases hk:known C.P p.2 with
      |false=>rw[hk] at hv;cases hv
      |true =>
       rw[hk] at hv
       simp only[cond_true] at hv
       split at hv
       ·rename_i v' hl
        cases hone:isOne v'.sh with
        |false=>rw[hone] at hv;cases hv
        |true =>
         rw[hone] at hv
         cases hv
         match vs,hvs with
         |[u],hvs =>
          obtain⟨b,hu,hkb,hlt⟩:=RV.box hvs.1
          subst hu
          have hcell:∃r,w.cell? ⟨b,p.1,none⟩=some r∧RV w K v r:=by
           simp only[loadAV] at hl
           split at hl
           ·rename_i c0 hc0
            obtain⟨av,bo,e1,e2,e3⟩:=hr.heap b id' hlt hkb
            have:c0=av:=by
             unfold heapAt at hc0
             split at hc0
             ·cases hc0
             ·rw[e1] at hc0;cases hc0;rfl
            subst this
            obtain⟨cs,T,hbo,e4⟩:=BoxOk.sub hl e3;subst hbo
            obtain⟨i1,i2,i3⟩:=Sh.sub_RS _ _ _ _ _ _ _ hl e4
            obtain⟨r,hr1,hr2⟩:=isOne_RS hone i1
            refine⟨r,?_,hr2⟩
            have hj:((cs.toList.drop p.1).take (C.P.cellsOf p.2))[0]?=some r:=by rw[hr1];rfl
            rw[List.getElem?_take] at hj
            split at hj
            ·rw[List.getElem?_drop] at hj
             simp only[World.cell?,e2,Option.isSome_none,Bool.false_eq_true,if_false]
             simpa using hj
            ·cases hj
           ·cases hl
          obtain⟨r,h1,h2⟩:=hcell
          unfold Oper.wp
          rw[hrun,Oper.upon_enter]
          refine(hC.gets g p hp w b r h1).mono ?_
          rintro e w' ⟨rfl,rfl⟩
          exact hn K _ _ (hr.setO hd' h2)
       ·cases hv
     ·cases hv
    obtain⟨⟨c',v⟩,hv,e'⟩:=Option.map_eq_some_iff.1 h
    simp only[Prod.mk.injEq] at e'
    obtain⟨e1,e2⟩:=e'
    subst e1
    subst e2
    subst hc
    unfold Oper.wp
    rw[hrun,Oper.upon_enter]
    refine(plain_ok (hC.plain g ps hps) (hC.snap g ps hps) hv hr hvs id).mono ?_
    rintro e w' ⟨r,K',rfl,hrel,hrv⟩
    exact hn K' _ _ (hrel.setO hd' hrv)
   ·cases h
  ·exact upon_opOk (opE_ok hC.eqs hr hd' h hc) hn
 ·exact upon_opOk (opE_ok hC.eqs hr hd' h hc) hn
theorem stepOp_ok (hC:CtxOk C) {call:CallIn} (hcall:CallsOk C.P call) {no:Lim} {id:Nat} {o:Oper} {Kc:St→Option R} {r:R} (h:stepOp C call n no id o s Kc=some r) (hr:Rel fr n K s a w) {next:Act→World→Prop} {Q:Exit→Act→World→Prop}
  (hn:∀s' K' a' w',Rel fr n K' s' a' w'→Kc s'=some r→next a' w'):o.wp C.P a w next Q:=by
 unfold stepOp at h
 cases hd:dstOk n o
 ·rw[hd] at h;cases h
 ·rw[hd] at h
  simp only[cond_true] at h
  split at h
  ·rename_i g args hw
   unfold walked at hw
   split at hw
   ·rename_i cl ho
    split at hw
    ·rename_i g' args' hcal
     split at hw
     ·cases hw
     ·cases hw
      have hne:∃fn,C.P.funcs[g]?=some fn∧fn.body.isSome=true:=by
       unfold inCall at h
       simp only at h
       split at h
       ·exact(hcall g).2 _ _ _ _ _ h
       ·cases h
      obtain⟨fn,hfn,hb⟩:=hne
      obtain⟨vs,hrun,hvs⟩:=callee_ok hC hr ho hcal hfn hb
      unfold Oper.wp
      rw[hrun,Oper.upon_enter]
      refine inCall_ok (hcall g).1 h hr hvs _ (fun av v s' K' w' hrel hrv hkc=>?_) (fun u s' K' w' _ hkc=>?_)
      ·split at hkc
       ·cases hkc
       ·exact hn _ K' _ _ (hrel.setO (dstOk_spec hd) hrv) hkc
      ·cases hkc
    ·cases hw
   ·cases hw
  ·split at h
   ·rename_i c e he
    cases c
    ·cases h
    ·exact effOf_ok hC he rfl hr hd (fun K' a' w' hrel=>hn _ K' a' w' hrel h)
   ·cases h
theorem cellsV_RT:∀(t:Ty) (x:t.den) (cs ds:List Value),t.cellsV x=some ds→RT w K t x cs→cs=ds
 | .unit,_,_,_,h,hr=>by cases h;exact hr
 | .pair a b,x,_,_,h,⟨c1,c2,e,h1,h2⟩=>by
  simp only[Ty.cellsV] at h
  split at h
  ·rename_i c d e1 e2
   cases h
   rw[e,cellsV_RT a x.1 c1 c e1 h1,cellsV_RT b x.2 c2 d e2 h2]
  ·cases h
 | .int _,_,_,_,h,hr=>by cases h;exact hr
 | .bool,_,_,_,h,hr=>by cases h;exact hr
 | .str,_,_,_,h,hr=>by cases h;exact hr
 | .arr _ _,_,_,_,h,_=>by cases h
 | .func,_,_,_,h,_=>by cases h
 | .sl _,_,_,_,h,_=>by cases h
theorem value_RV {av:AV} {u v:Value} (h:av.value=some u) (hr:RV w K av v):v=u:=by
 obtain⟨s,x⟩:=av
 cases s<;>simp only[AV.value] at h<;>try cases h
 rename_i t
 split at h
 ·rename_i cs hcs
  cases h
  have h1:R1 w K (.ty t) x v:=hr
  rw[h1.mkV,cellsV_RT t x _ _ hcs h1.1]
  rfl
 ·cases h
theorem run_makeRow {P:Program} {w:World} {t e:TypeId} (hu:P.underlying t=some (.slice e)) {i:TypeInfo} (hi:P.info? e=some i) {zv:Value} (hzv:i.zero=some zv) (hpos:0<i.size) {k:IntKind} {c:Int} (h1:0≤c) (h2:c*i.bytes≤281474976710656) (h3:c≤9223372036854775807) :
  (Instr.makeSlice t (.int k c) (.int k c)).run P w=.ok (.slice (some ⟨w.heap.size,0,none⟩) c.toNat c.toNat) (w.alloc (.cells ((Array.range (c.toNat*i.size)).map (zv.cells[· % zv.cells.size]!)) e)):=by
 have hw:IntKind.i64.wrap c=c:=wrap_i64 _ (by omega) (by omega)
 have hn:¬(c<0):=by omega
 have hm:¬((i.bytes:Int)*c > 281474976710656):=by rw[Int.mul_comm];omega
 have hlt:¬(c > c):=by omega
 by_cases h0:c.toNat*i.size=0
 ·simp[Instr.makeSlice,run_underlying hu,typeInfo,hi,asInt,asIntOf,hw,hn,hm,sizeOf,h0,newRow]
  congr 2
  exact(Array.eq_empty_of_size_eq_zero (by simp)).trans (Array.eq_empty_of_size_eq_zero (by simp)).symm
 ·simp[Instr.makeSlice,run_underlying hu,typeInfo,hi,asInt,asIntOf,hw,hn,hm,sizeOf,h0,newRow,zeroValue,hzv]
theorem RL_ints_of {w:World} {K:Kinds} (k:IntKind):∀xs:List Int,RL (RT w K (.int k)) xs (xs.map (Value.int k))
 |[]=>rfl
 |x::xs=>⟨[.int k x],xs.map (Value.int k),rfl,rfl,RL_ints_of k xs⟩
theorem src_ok {P:Program} {sv:AV} {ys:List Int} (h:srcBytes sv=some ys) {v:Value} (hv:RV w K sv v) :
  (Builtin.lenOf v).run P w=.ok ys.length w∧∀m,m≤ys.length→(Builtin.firstCells 1 m v).run P w=.ok ((ys.take m).map (Value.int .u8)).toArray w:=by
 unfold srcBytes at h
 split at h
 ·rename_i b
  cases h
  rw[RV.str hv]
  refine⟨by simp[Builtin.lenOf,strInts];rfl,fun m hm=>?_⟩
  simp only[Builtin.firstCells]
  rw[show ∀x:Array Value,(pure x:Sem (Array Value)).run P w=.ok x w from fun _=>rfl]
  congr 1
  apply Array.ext'
  simp[ByteArray.data_extract,List.map_take,strInts]
  rfl
 ·obtain⟨A,len,cap,rfl,hlen,hnil,hle,hat⟩:=bytesAV_ok h hv
  refine⟨by simp[Builtin.lenOf,hlen],fun m hm=>?_⟩
  cases A with
  |none =>
   have h0:=hnil rfl
   have hx:ys=[]:=List.length_eq_zero_iff.1 (by omega)
   subst hx
   simp[Builtin.firstCells]
  |some ad =>
   refine run_firstCells_some w 1 m ad len cap ((ys.take m).map (Value.int .u8)) (by simp;omega) (fun j u hj=>(hat ad rfl).cell j u ?_)
   rw[List.map_take,List.getElem?_take] at hj
   split at hj
   ·exact hj
   ·cases hj
theorem copy_ok {P:Program} (hr:Rel fr n K s a w) {d:Option Nat} (hd:∀t,d=some t→t<n) {t t' ty el:TypeId} {i:TypeInfo} (ht:P.underlying t=some (.slice el)) (hi:P.info? el=some i) (h1:i.size=1) {id:Nat} {y:Nat×Nat} {xs:List Int}
  (hc:look id s.heap=some ⟨.rowc (.int .u8),xs⟩) {u v:Value} (hu:RV w K ⟨.win id (.int .u8),y⟩ u) {sv:AV} {ys:List Int} (hs:srcBytes sv=some ys) (hv:RV w K sv v) :
  ∃r w',(Builtin.copy_ #[t,t'] ty #[u,v]).run P w=.ok r w'∧Rel fr n K (s.apply d (.put id ⟨.rowc (.int .u8),mend xs y.1 ys y.2⟩)) (a.put d r) w':=by
 obtain⟨b,j,cap,rfl,g1,g2,g3,g4,cs,T,g5,g6⟩:=RV.win hu
 obtain⟨av,bo,e1,e2,e3⟩:=hr.heap b id g2 g1
 rw[hc] at e1
 cases e1
 rw[g5] at e2
 cases e2
 obtain⟨cs',T',hbo,e4⟩:=e3
 cases hbo
 obtain⟨s1,s2⟩:=src_ok (P:=P) hs hv
 have hfc:=s2 (min ys.length y.2) (Nat.min_le_left _ _)
 have hcs:cs.toList=xs.map (Value.int .u8):=bytes_cells e4
 have hcl:cs.size=xs.length:=by rw[←Array.length_toList,hcs,List.length_map]
 have hlen:y.1+y.2≤xs.length:=by rw[←hcl];simpa [Ty.size] using g6
 by_cases h0:y.2=0
 ·refine⟨goInt 0,w,?_,?_⟩
  ·have hfc0:(Builtin.firstCells 1 0 v).run P w=.ok #[] w:=by
    have:=s2 0 (Nat.zero_le _)
    simpa using this
   simp[Builtin.copy_,run_underlying ht,sizeOf,typeInfo,hi,h1,s1,h0,hfc0,storeCells]
  ·have hsp:mend xs y.1 ys y.2=xs:=by simp[mend,h0]
   rw[hsp]
   exact hr.putObj hd g2 g1 rfl rfl rfl rfl (fun _ _=>rfl) g5 rfl g5 (fun _ h=>h) (c:=⟨.rowc (.int .u8),xs⟩) ⟨cs,T,rfl,e4⟩ _
 ·have hj:j=y.1:=by have:=g4 h0;simpa [Ty.size] using this
  subst hj
  have hst:=run_storeCells_at (P:=P) b y.1 T ((ys.take (min ys.length y.2)).map (Value.int .u8)) 0 cs w g5 (by simp;omega) (fun v hv=>by obtain⟨m,_,rfl⟩:=List.mem_map.1 hv;rfl)
  refine⟨_,_,?_,hr.putBox hd g2 g1 g5 (c:=⟨.rowc (.int .u8),mend xs y.1 ys y.2⟩) (cs:=(cs.toList.take (y.1+0)++(ys.take (min ys.length y.2)).map (Value.int .u8)++cs.toList.drop (y.1+0+((ys.take (min ys.length y.2)).map (Value.int .u8)).length)).toArray) ?_ ⟨_,T,rfl,?_⟩ (goInt (min ys.length y.2:Nat))⟩
  ·generalize hm:min ys.length y.2=m at hfc hst ⊢
   have hm':Nat.min ys.length y.2=m:=hm
   have hrun:(Builtin.copy_ #[t,t'] ty #[.slice (some ⟨b,y.1,none⟩) y.2 cap,v]).run P w=((storeCells ⟨b,y.1,none⟩ ((ys.take m).map (Value.int .u8))).run P w).andThen fun _ w'=>.ok (goInt m) w':=by
    simp only[Builtin.copy_]
    simp[run_underlying ht,sizeOf,typeInfo,hi,h1,s1,hm',hfc]
   rw[hrun,hst]
   rfl
  ·simp;omega
  ·rw[List.toList_toArray,hcs,←List.map_take,←List.map_drop,←List.map_append,←List.map_append]
   have:mend xs y.1 ys y.2=xs.take (y.1+0)++ys.take (min ys.length y.2)++xs.drop (y.1+0+((ys.take (min ys.length y.2)).map (Value.int .u8)).length):=by
    simp only[mend,Nat.add_zero,List.length_map,List.length_take]
    rw[show min (min ys.length y.2) ys.length=min ys.length y.2 by omega]
    congr 2
    rw[←List.take_take,List.take_of_length_le (l:=List.take y.2 ys) (by rw[List.length_take];omega)]
   rw[this]
   exact RL_ints_of _ _
theorem opY_ok {id:Nat} {o:Oper} {e:Eff} (h:opY C.P s id o=some (true,e)) (hr:Rel fr n K s a w) (hd:dstOk n o=true) {next:Act→World→Prop} {Q:Exit→Act→World→Prop}
  (hn:∀K' a' w',Rel fr n K' (s.apply o.dst e) a' w'→next a' w'):o.wp C.P a w next Q:=by
 have hd':=dstOk_spec hd
 refine upon_opOk ?_ hn
 unfold opY at h
 split at h
 ·rename_i t x ho
  split at h
  ·cases h
  ·rename_i d hni hu
   obtain⟨v,hv,e'⟩:=Option.map_eq_some_iff.1 h
   cases e'
   have hx:=value_RV hv (opnd_RV hr x)
   refine OpOk.pure hr hd' (v:=.iface t v) ⟨⟨rfl,rfl⟩,(fun e=>nomatch e),(fun _ c e=>nomatch e)⟩ ?_
   rw[show execOp a.eval o=(Instr.makeInterface t (a.eval x) >>= fun x=>pure (.value x)) by unfold execOp;rw[ho],hx]
   simp only[Instr.makeInterface,Sem.run_bind,run_underlying hu]
   cases d<;>first|rfl |exact(hni _ rfl).elim
  ·cases h
 ·rename_i t i j ho
  split at h
  ·rename_i e' c hu hcap
   split at h
   ·rename_i τ z inf hτ hz hi
    split at h
    ·rename_i z0 hz0
     split at h
     ·rename_i hcond
      obtain⟨k1,k2,k3,k4⟩:=hcond
      subst k1
      simp only[Option.some.injEq,Prod.mk.injEq,roomOk,Bool.and_eq_true,decide_eq_true_eq] at h
      obtain⟨⟨⟨h1,h2⟩,h3⟩,rfl⟩:=h
      obtain⟨k,hik⟩:=natOf_ok hcap (opnd_RV hr (.tmp i))
      unfold zeroTy at hz
      split at hz
      ·rename_i z1 hz1
       cases hz
       obtain⟨i',zv,hi',hzv,hrs⟩:=zeroOf_ok hz1
       rw[hi] at hi'
       cases hi'
       have hce:C.P.cellsOf e'=inf.size:=by simp[Program.cellsOf,hi]
       have hz2:RT w K τ z0 zv.cells.toList:=by
        have h1:=(hrs w K).1
        obtain⟨sh,x⟩:=z1
        cases sh
        case tup=>exact h1.elim
        all_goals
         have h2:=RS.ren (w':=w) (K':=K) (ρ:=fun _=>none) (σ:=some) (fun _ _ _ hh=>⟨hh,rfl⟩) (Nat.le_refl _) (fun _ _ _ _ _ _ hh=>nomatch hh) (fun b id j _ hk hj=>by cases hj;exact⟨hk,fun _ h=>h⟩) _ _ _ h1
         exact as_RT _ _ _ _ _ hz0 h2
       have hzl:=RT.length _ _ _ hz2
       have hzs:zv.cells.size=inf.size:=by rw[←hce,k2,←hzl];simp
       have hpos:0<inf.size:=by rw[←hce,k2];exact k3
       have hrl:=RL.replicate hz2 c.toNat
       have hcells:=zeros_cells zv.cells c.toNat (by rw[hzs];exact hpos)
       rw[hzs] at hcells
       have hrun:=run_makeRow (P:=C.P) (w:=w) hu hi hzv hpos (k:=k) h1 h2 h3
       rw[hzs] at hrun
       refine⟨_,_,setK K w.heap.size (.box id),.inl (exec_v (m:=Instr.makeSlice t (a.eval (.tmp i)) (a.eval (.tmp i))) (by unfold execOp;rw[ho]) (by rw[hik];exact hrun)),?_⟩
       have hlen:(Array.map (fun x=>zv.cells[x % inf.size]!) (Array.range (c.toNat*inf.size))).size=c.toNat*inf.size:=by simp
       refine hr.newObj (c:=⟨.rowc τ,List.replicate c.toNat z0⟩) hd' (by simpa using k4) ⟨_,e',rfl,by rw[hcells];exact hrl⟩ ?_
       refine R1.toRV (a:=⟨.win id τ,(0,c.toNat)⟩) ⟨⟨w.heap.size,0,c.toNat,rfl,setK_same _ _ _,by rw[alloc_size];omega,Nat.le_refl _,fun _=>(Nat.zero_mul _).symm,_,e',heap_new w _,?_⟩,(fun e=>nomatch e),(fun _ c e=>nomatch e)⟩
       rw[hlen,←hce,k2]
       show(0+c.toNat)*τ.size≤_
       rw[Nat.zero_add]
       exact Nat.le_refl _
      ·cases hz
     ·cases h
    ·cases h
   ·cases h
  ·cases h
 ·rename_i t ho
  split at h
  ·rename_i hf
   cases h
   refine⟨.map (some w.heap.size),w.alloc (.map #[] 0),setK K w.heap.size (.box id),.inl (exec_v (m:=Instr.makeMap t none) (by unfold execOp;rw[ho];rfl) (by rfl)),?_⟩
   refine hr.newObj (c:=⟨.mapc,[]⟩) hd' (by simpa using hf) ⟨#[],0,rfl,rfl⟩ ?_
   exact R1.toRV (a:=⟨.mp id,()⟩) ⟨⟨w.heap.size,rfl,setK_same _ _ _,by rw[alloc_size];omega⟩,(fun e=>nomatch e),(fun _ c e=>nomatch e)⟩
  ·cases h
 ·rename_i t u x ho
  split at h
  ·rename_i e b y hu1 hu2 hx
   split at h
   ·rename_i xs hc
    split at h
    ·rename_i hby
     cases h
     have he:C.P.underlying e=some (.int .u8):=by
      unfold isBytes at hby
      split at hby
      ·rename_i hh;exact hh
      ·cases hby
     obtain⟨bb,j,cap,hb,g1,g2,g3,g4,cs,T,g5,g6⟩:=RV.win (hx▸opnd_RV hr x)
     obtain⟨av,bo,e1,e2,e3⟩:=hr.heap bb b g2 g1
     rw[hc] at e1
     cases e1
     rw[g5] at e2
     cases e2
     obtain⟨cs',T',hbo,e4⟩:=e3
     cases hbo
     have hcs:cs.toList=(xs:List Int).map (Value.int .u8):=bytes_cells e4
     have hcl:cs.size=List.length (α:=Int) xs:=by rw[←Array.length_toList,hcs,List.length_map]
     have hlen:y.1+y.2≤List.length (α:=Int) xs:=by rw[←hcl];simpa [Ty.size] using g6
     have hsl:(shown (xs:List Int) y).length=y.2:=by simp[shown];omega
     refine OpOk.pure hr hd' (v:=.string ⟨⟨bytesOf (shown (xs:List Int) y)⟩⟩) (RV.scalar (av:=.str _) rfl rfl rfl) (exec_v (m:=convert t u (a.eval x)) (by unfold execOp;rw[ho]) ?_)
     rw[hb,run_convert_bytes_string w t u e _ _ _ hu1 he hu2]
     have hl:(loadCells ⟨bb,j,none⟩ y.2).run C.P w=.ok ((shown (xs:List Int) y).map (Value.int .u8)).toArray w:=by
      have:=run_loadCells_list (P:=C.P) w ⟨bb,j,none⟩ ((shown (xs:List Int) y).map (Value.int .u8)) (fun k v hk=>by
       have hlt:k<y.2:=by
        have:=(List.getElem?_eq_some_iff.1 hk).1
        rw[List.length_map,hsl] at this
        exact this
       have hj:j=y.1:=by have:=g4 (by omega);simpa [Ty.size] using this
       subst hj
       rw[add_eq rfl]
       simp only[World.cell?,g5,Option.isSome_none,Bool.false_eq_true,if_false]
       rw[←Array.getElem?_toList,hcs]
       simp only[shown,List.map_take,List.map_drop,List.getElem?_take,List.getElem?_drop,hlt,if_true] at hk
       exact hk)
      simpa [hsl] using this
     rw[run_bytesToString w ⟨bb,j,none⟩ y.2 cap _ hl,foldl_push_bytes]
     simp[ByteArray.empty,ByteArray.emptyWithCapacity,bytesOf]
     rfl
    ·cases h
   ·cases h
  ·cases h
 ·rename_i c ho
  split at h
  ·rename_i hcal
   split at h
   ·rename_i t t' x y hat hargs
    split at h
    ·rename_i el b v hu hx
     split at h
     ·rename_i xs ys i hc hs hi
      split at h
      ·rename_i h1
       cases h
       have hat:c.argTypes=#[t,t']:=by cases h':c.argTypes;simp_all
       have hargs:c.args=#[x,y]:=by cases h':c.args;simp_all
       obtain⟨r,w',hrun,hrel⟩:=copy_ok (P:=C.P) (t':=t') (ty:=o.type) hr hd' hu hi h1 hc (hx▸opnd_RV hr x) hs (opnd_RV hr y)
       exact⟨r,w',K,.inl (by simp[execOp,ho,resolve,hcal,invoke,builtin,hat,hargs,hrun]),hrel⟩
      ·cases h
     ·cases h
    ·cases h
   ·cases h
  ·cases h
 ·cases h
theorem opZ_ok {o:Oper} {s':St} (h:opZ C.P s o=some s') (hr:Rel fr n K s a w) (hd:dstOk n o=true) {next:Act→World→Prop} {Q:Exit→Act→World→Prop}
  (hn:∀K' a' w',Rel fr n K' s' a' w'→next a' w'):o.wp C.P a w next Q:=by
 have hd':=dstOk_spec hd
 unfold opZ at h
 split at h
 ·rename_i t x ho
  split at h
  ·rename_i nn el id _ hu hx
   split at h
   ·rename_i m e xs hc
    split at h
    ·rename_i hcond
     obtain⟨k1,k2,k3,k4,k5⟩:=hcond
     subst k1
     cases h
     obtain⟨b,hb,hkb,hlt⟩:=RV.box (hx▸opnd_RV hr x)
     obtain⟨av,bo,e1,e2,e3⟩:=hr.heap b id hlt hkb
     rw[hc] at e1
     cases e1
     obtain⟨cs,T,rfl,e4⟩:=e3
     obtain⟨hxl,hrl⟩:=e4
     have hll:=RL.length (RT.length e) _ _ hrl
     have hcl:=@Array.length_toList _ cs
     have hrun:(execOp a.eval o).run C.P w=.ok (.value (.slice (some ⟨b,0,none⟩) m m)) w:=by
      refine exec_v (m:=Instr.sliceAt t (a.eval x) none none none) (by unfold execOp;rw[ho];rfl) ?_
      have hs:=run_sizeOf k3 w
      have hne:¬m=0:=by omega
      rw[hb]
      simp[Instr.sliceAt,Instr.sureAddr,Instr.sliceBounds,run_underlying hu,hs,hne,Addr.add]
     have hput:=hr.putObj (w':=w) (d:=none) (fun _ e=>nomatch e) hlt hkb rfl rfl rfl rfl (fun _ _=>rfl) e2 rfl e2 (fun _ h=>h) (c:=⟨.rowc e,xs⟩) ⟨cs,T,rfl,hrl⟩ undef
     have hset:=hput.setO (d:=o.dst) (av:=⟨.win id e,(0,m)⟩) (v:=.slice (some ⟨b,0,none⟩) m m) hd' (R1.toRV (a:=⟨.win id e,(0,m)⟩) ⟨⟨b,0,m,rfl,hkb,hlt,Nat.le_refl _,fun _=>(Nat.zero_mul _).symm,cs,T,e2,by show(0+m)*e.size≤_;rw[Nat.zero_add,←hcl,hll,hxl];exact Nat.le_refl _⟩,(fun e=>nomatch e),(fun _ c e=>nomatch e)⟩)
     unfold Oper.wp
     rw[hrun,Oper.upon_value]
     refine hn K _ w ?_
     cases hdo:o.dst<;>rw[hdo] at hset<;>exact hset
    ·cases h
   ·cases h
  ·cases h
 ·cases h
theorem panOf_RV {av:AV} {u v:Value} (h:panOf av=some u) (hr:RV w K av v):False:=by
 obtain⟨s,x⟩:=av
 cases s with
 |tup s =>
  cases s with
  |lit u'=>obtain⟨vs,_,h'⟩:=hr;exact h'
  |_=>simp only[panOf] at h;cases h
 |_=>simp only[panOf] at h;cases h
theorem upon_panics {no:Lim} {o:Oper} {v:Value} (h:panics s o=some (some v)) (hr:Rel fr n K s a w) {next:Act→World→Prop} {Q:Exit→Act→World→Prop} (hp:Q (.panic [⟨v,false,false⟩]) a w):o.wp C.P a w next Q:=by
 unfold panics at h
 split at h
 ·rename_i x ho
  split at h
  ·rename_i u _ hu
   split at h
   ·rename_i hi
    obtain rfl:u=v:=by injection h with h;injection h
    have hv:=opnd_RV hr x
    rw[hu] at hv
    have:=RV.lit hv
    unfold Oper.wp
    rw[show execOp a.eval o=(Instr.panic (a.eval x) >>= fun x=>pure (.value x)) by unfold execOp;rw[ho],this]
    cases u<;>first|exact hp |cases hi
   ·cases h
  ·cases h
 ·cases h
theorem stepY_ok (hC:CtxOk C) {call:CallIn} (hcall:CallsOk C.P call) {no:Lim} {id:Nat} {o:Oper} {Kc:St→Option R} {Kp:Value→St→Option R} {r:R} (h:stepY C call n no id o s Kc Kp=some r) (hr:Rel fr n K s a w) {next:Act→World→Prop} {Q:Exit→Act→World→Prop}
  (hn:∀s' K' a' w',Rel fr n K' s' a' w'→Kc s'=some r→next a' w') (hp:∀u s' K' a' w',Rel fr n K' s' a' w'→Kp u s'=some r→Q (.panic [⟨u,false,false⟩]) a' w'):o.wp C.P a w next Q:=by
 unfold stepY at h
 cases hd:dstOk n o
 ·rw[hd] at h;cases h
 ·rw[hd] at h
  simp only[cond_true] at h
  split at h
  ·rename_i v hv
   exact upon_panics (no:=no) hv hr (hp v s K a w hr h)
  ·cases h
  ·split at h
   ·rename_i g args hw
    unfold walked at hw
    split at hw
    ·rename_i cl ho
     split at hw
     ·rename_i g' args' hcal
      split at hw
      ·cases hw
      ·cases hw
       have hne:∃fn,C.P.funcs[g]?=some fn∧fn.body.isSome=true:=by
        unfold inCall at h
        simp only at h
        split at h
        ·exact(hcall g).2 _ _ _ _ _ h
        ·cases h
       obtain⟨fn,hfn,hb⟩:=hne
       obtain⟨vs,hrun,hvs⟩:=callee_ok hC hr ho hcal hfn hb
       unfold Oper.wp
       rw[hrun,Oper.upon_enter]
       refine inCall_ok (hcall g).1 h hr hvs _ (fun av v s' K' w' hrel hrv hkc=>?_) (fun u s' K' w' hrel hkc=>?_)
       ·split at hkc
        ·rename_i u hu
         exact(panOf_RV hu hrv).elim
        ·exact hn _ K' _ _ (hrel.setO (dstOk_spec hd) hrv) hkc
       ·exact hp u s' K' _ w' hrel hkc
     ·cases hw
    ·cases hw
   ·split at h
    ·rename_i s' hz
     exact opZ_ok hz hr hd (fun K' a' w' hrel=>hn _ K' a' w' hrel h)
    ·split at h
     ·rename_i c e he
      cases c
      ·cases h
      ·exact opY_ok he hr hd (fun K' a' w' hrel=>hn _ K' a' w' hrel h)
     ·split at h
      ·rename_i c e he
       cases c
       ·cases h
       ·exact effOf_ok hC he rfl hr hd (fun K' a' w' hrel=>hn _ K' a' w' hrel h)
      ·cases h
theorem look_set_same {d:Nat} {av:AV}:∀l:List (Nat×AV),look d l=some av→put d av l=l
 |[],h=>by cases h
 |(j,u)::l,h=>by
  simp only[look] at h
  simp only[put]
  split at h
  ·rename_i e
   cases h
   rw[if_pos e]
   simp only[beq_iff_eq] at e
   rw[e]
  ·rename_i e
   split at h
   ·cases h
   ·rename_i e'
    rw[if_neg e,if_neg e',look_set_same l h]
theorem set_same {d:Nat} {b c:Bool} (h:s.get d=⟨.ty .bool,b⟩) (e:b=c):s.set d (.bool c)=s:=by
 subst e
 have:look d s.ents=some (.bool b):=by
  unfold St.get at h
  cases hl:look d s.ents with
  |none=>rw[hl] at h;cases h
  |some av=>rw[hl] at h;exact congrArg some h
 unfold St.set
 rw[look_set_same _ this]
theorem wanted_of {ops:Array Oper} {o:Oper} {j:Nat} {want:Bool} {d:Nat} {b:Bool} (hr:Rel fr n K s a w) (hg:o.guard=some (j,want)) (hs:guardSlot ops j=some d) (hb:s.get d=⟨.ty .bool,b⟩) :
  Region.wanted o (yielded ops a.tmps)=(b==want):=by
 have hv:=RV.bool (hb▸hr.get d)
 have hlt:d<a.tmps.size:=by
  rcases Nat.lt_or_ge d a.tmps.size with h |h
  ·exact h
  ·rw[Array.getD_eq_getD_getElem?,Array.getElem?_eq_none h] at hv
   cases hv
 have hy:yielded ops a.tmps j=some b:=by
  unfold guardSlot at hs
  unfold yielded
  rw[hs]
  simp only[Option.bind_some]
  rw[Array.getD_eq_getD_getElem?,Array.getElem?_eq_getElem hlt] at hv
  simp only[Option.getD_some] at hv
  rw[Array.getElem?_eq_getElem hlt,hv]
 simp only[Region.wanted,hg,hy]
 cases b<;>cases want<;>rfl
theorem RV_undef {w:World} {K:Kinds}:RV w K .undef undef:=⟨#[],rfl,rfl⟩
theorem wanted_undef {ops:Array Oper} {o:Oper} {j:Nat} {want:Bool} {d:Nat} {x:Unit} (hr:Rel fr n K s a w) (hg:o.guard=some (j,want)) (hs:guardSlot ops j=some d) (hb:s.get d=⟨.tup (.ty .unit),x⟩) :
  Region.wanted o (yielded ops a.tmps)=false:=by
 have hv:=hr.get d
 rw[hb] at hv
 obtain⟨vs,e,_⟩:=hv
 have hy:yielded ops a.tmps j=none:=by
  unfold guardSlot at hs
  unfold yielded
  rw[hs]
  simp only[Option.bind_some]
  rw[Array.getD_eq_getD_getElem?] at e
  cases h:a.tmps[d]? with
  |none=>rfl
  |some v =>
   rw[h] at e
   simp only[Option.getD_some] at e
   rw[e]
 simp[Region.wanted,hg,hy]
theorem runOps_ok (hC:CtxOk C) {call:CallIn} (hcall:CallsOk C.P call) {no:Lim} {ops:Array Oper} {Q:Exit→Act→World→Prop}:∀(l:List Oper) (k id:Nat) (s:St) (K:Kinds) (a:Act) (w:World) (Kc:St→Option R) (r:R),(∀j,l[j]?=ops[k+j]?) →
  runOps C call n no ops l id s Kc=some r→Rel fr n K s a w→(∀s' K' a' w',Rel fr n K' s' a' w'→Kc s'=some r→Q .normal a' w')→wpOps C.P ops Q (List.range' k l.length) a w
 |[],k,id,s,K,a,w,Kc,r,_,h,hr,hq=>by
  simp only[List.length_nil,List.range'_zero,wpOps]
  exact hq s K a w hr h
 |o::l,k,id,s,K,a,w,Kc,r,hl,h,hr,hq=>by
  have h0:ops[k]?=some o:=by simpa using(hl 0).symm
  have hrest:∀j,l[j]?=ops[k+1+j]?:=fun j=>by
   have:=hl (j+1)
   rw[show k+1+j=k+(j+1) by omega]
   simpa using this
  simp only[List.length_cons,List.range'_succ,wpOps,h0]
  have go:∀s',stepOp C call n no id o s' (fun s=>runOps C call n no ops l (id+16) s Kc)=some r→Rel fr n K s' a w→o.wp C.P a w (wpOps C.P ops Q (List.range' (k+1) l.length)) Q:=fun s' hs hr' =>
   stepOp_ok hC hcall hs hr' (fun s'' K' a' w' hrel hkc=>runOps_ok hC hcall l (k+1) (id+16) s'' K' a' w' Kc r hrest hkc hrel hq)
  have sk:∀s',(bif dstOk n o then runOps C call n no ops l (id+16) (s'.setO o.dst .undef) Kc else none)=some r→Rel fr n K s' a w→wpOps C.P ops Q (List.range' (k+1) l.length) (a.put o.dst undef) w:=fun s' hs hr'=>by
   cases hd:dstOk n o
   ·rw[hd] at hs;cases hs
   ·rw[hd] at hs
    exact runOps_ok hC hcall l (k+1) (id+16) _ K _ w Kc r hrest hs (hr'.setO (dstOk_spec hd) RV_undef) hq
  unfold runOps at h
  split at h
  ·rename_i hg
   have hw:Region.wanted o (yielded ops a.tmps)=true:=by simp[Region.wanted,hg]
   rw[if_pos hw]
   exact .inl (go s h hr)
  ·rename_i j want hg
   split at h
   ·rename_i d hs
    split at h
    ·rename_i b hb
     have hw:=wanted_of hr hg hs hb
     cases b
     ·simp only[cond_false] at h
      rw[set_same hb rfl] at h
      cases want
      ·rw[hw]
       exact .inl (go s h hr)
      ·rw[hw]
       exact sk s h hr
     ·simp only[cond_true] at h
      rw[set_same hb rfl] at h
      cases want
      ·rw[hw]
       exact sk s h hr
      ·rw[hw]
       exact .inl (go s h hr)
    ·rename_i x hb
     have hw:=wanted_undef hr hg hs hb
     rw[hw]
     exact sk s h hr
    ·cases h
   ·cases h
theorem runY_ok (hC:CtxOk C) {call:CallIn} (hcall:CallsOk C.P call) {no:Lim} {ops:Array Oper} {Q:Exit→Act→World→Prop}:∀(l:List Oper) (k id:Nat) (s:St) (K:Kinds) (a:Act) (w:World) (Kc:St→Option R) (Kp:Value→St→Option R) (r:R),(∀j,l[j]?=ops[k+j]?) →
  runY C call n no ops l id s Kc Kp=some r→Rel fr n K s a w→(∀s' K' a' w',Rel fr n K' s' a' w'→Kc s'=some r→Q .normal a' w')→(∀u s' K' a' w',Rel fr n K' s' a' w'→Kp u s'=some r→Q (.panic [⟨u,false,false⟩]) a' w')→wpOps C.P ops Q (List.range' k l.length) a w
 |[],k,id,s,K,a,w,Kc,Kp,r,_,h,hr,hq,hp=>by
  simp only[List.length_nil,List.range'_zero,wpOps]
  exact hq s K a w hr h
 |o::l,k,id,s,K,a,w,Kc,Kp,r,hl,h,hr,hq,hp=>by
  have h0:ops[k]?=some o:=by simpa using(hl 0).symm
  have hrest:∀j,l[j]?=ops[k+1+j]?:=fun j=>by
   have:=hl (j+1)
   rw[show k+1+j=k+(j+1) by omega]
   simpa using this
  simp only[List.length_cons,List.range'_succ,wpOps,h0]
  have go:∀s',stepY C call n no id o s' (fun s=>runY C call n no ops l (id+16) s Kc Kp) Kp=some r→Rel fr n K s' a w→o.wp C.P a w (wpOps C.P ops Q (List.range' (k+1) l.length)) Q:=fun s' hs hr' =>
   stepY_ok hC hcall hs hr' (fun s'' K' a' w' hrel hkc=>runY_ok hC hcall l (k+1) (id+16) s'' K' a' w' Kc Kp r hrest hkc hrel hq hp) hp
  have sk:∀s',(bif dstOk n o then runY C call n no ops l (id+16) (s'.setO o.dst .undef) Kc Kp else none)=some r→Rel fr n K s' a w→wpOps C.P ops Q (List.range' (k+1) l.length) (a.put o.dst undef) w:=fun s' hs hr'=>by
   cases hd:dstOk n o
   ·rw[hd] at hs;cases hs
   ·rw[hd] at hs
    exact runY_ok hC hcall l (k+1) (id+16) _ K _ w Kc Kp r hrest hs (hr'.setO (dstOk_spec hd) RV_undef) hq hp
  unfold runY at h
  split at h
  ·rename_i hg
   have hw:Region.wanted o (yielded ops a.tmps)=true:=by simp[Region.wanted,hg]
   rw[if_pos hw]
   exact .inl (go s h hr)
  ·rename_i j want hg
   split at h
   ·rename_i d hs
    split at h
    ·rename_i b hb
     have hw:=wanted_of hr hg hs hb
     cases b
     ·simp only[cond_false] at h
      rw[set_same hb rfl] at h
      cases want
      ·rw[hw]
       exact .inl (go s h hr)
      ·rw[hw]
       exact sk s h hr
     ·simp only[cond_true] at h
      rw[set_same hb rfl] at h
      cases want
      ·rw[hw]
       exact sk s h hr
      ·rw[hw]
       exact .inl (go s h hr)
    ·rename_i x hb
     have hw:=wanted_undef hr hg hs hb
     rw[hw]
     exact sk s h hr
    ·cases h
   ·cases h
end
end Go.Av
end
section
namespace Go.Av
open Go
theorem merge_RS {w:World} {K:Kinds} {b:Bool} (s:Sh) (x:s.den) (t:Sh) (y:t.den):∀(v:AV),Sh.merge b s x t y=some v →
  (∀cs,(b=true→RS w K s x cs)→(b=false→RS w K t y cs)→RS w K v.sh v.v cs)∧(b=true→s.agg=v.sh.agg)∧(b=false→t.agg=v.sh.agg):=by
 fun_induction Sh.merge b s x t y with
 |case1 =>
  intro v h
  cases h
  refine⟨fun cs h1 h2=>?_,fun _=>rfl,fun _=>rfl⟩
  cases b
  ·exact h2 rfl
  ·exact h1 rfl
 |case2 =>
  intro v h
  cases h
  refine⟨fun cs h1 h2=>?_,fun _=>rfl,fun _=>rfl⟩
  cases b
  ·exact(h2 rfl).1
  ·exact(h1 rfl).1
 |case4 _ _ _ _ e =>
  intro v h
  cases h
  obtain⟨rfl,rfl⟩:=e
  refine⟨fun cs h1 h2=>?_,fun _=>rfl,fun _=>rfl⟩
  cases b
  ·exact h2 rfl
  ·exact h1 rfl
 |case6 =>
  intro v h
  cases h
  refine⟨fun cs h1 h2=>?_,fun _=>rfl,fun _=>rfl⟩
  cases b
  ·exact h2 rfl
  ·exact h1 rfl
 |case9 =>
  rename_i e
  intro v h
  cases h
  refine⟨fun cs h1 h2=>?_,fun _=>?_,fun _=>rfl⟩
  ·cases b
   ·exact h2 rfl
   ·exact as_RT _ _ _ _ _ e (h1 rfl)
  ·exact as_agg _ _ _ _ e
 |case11 =>
  rename_i e
  intro v h
  cases h
  refine⟨fun cs h1 h2=>?_,fun _=>rfl,fun _=>?_⟩
  ·cases b
   ·exact as_RT _ _ _ _ _ e (h2 rfl)
   ·exact h1 rfl
  ·exact as_agg _ _ _ _ e
 |case13 p q p' q' x y u v' e1 e2 ih1 ih2 =>
  intro v h
  cases h
  refine⟨fun cs h1 h2=>?_,fun _=>(mkPair_agg _ _).symm,fun _=>(mkPair_agg _ _).symm⟩
  cases b
  ·obtain⟨c1,c2,rfl,r1,r2⟩:=h2 rfl
   exact mkPair_RS ((ih1 _ e2).1 c1 (fun e=>by cases e) (fun _=>r1)) ((ih2 _ e1).1 c2 (fun e=>by cases e) (fun _=>r2))
  ·obtain⟨c1,c2,rfl,r1,r2⟩:=h1 rfl
   exact mkPair_RS ((ih1 _ e2).1 c1 (fun _=>r1) (fun e=>by cases e)) ((ih2 _ e1).1 c2 (fun _=>r2) (fun e=>by cases e))
 |_=>intro v h;cases h
theorem as_solid:∀(s:Sh) (x:s.den) (t:Ty) (y:t.den),s.as x t=some y→AV.solid ⟨s,x⟩=true:=by
 intro s x t y h
 cases s with
 |tup s=>cases t<;>cases h
 |top=>cases t<;>cases h
 |tyc T s=>cases t<;>cases h
 |_=>rfl
theorem merge_solid {b:Bool} (s:Sh) (x:s.den) (t:Sh) (y:t.den):∀(v:AV),Sh.merge b s x t y=some v→AV.solid ⟨s,x⟩=true∧AV.solid ⟨t,y⟩=true:=by
 fun_cases Sh.merge b s x t y
 case case9=>rename_i e;exact fun v h=>⟨as_solid _ _ _ _ e,rfl⟩
 case case11=>rename_i e;exact fun v h=>⟨rfl,as_solid _ _ _ _ e⟩
 all_goals first|exact fun v h=>⟨rfl,rfl⟩ |exact fun v h=>nomatch h
theorem merge_RV {w:World} {K:Kinds} {b:Bool} {x y v:AV} (h:AV.merge b x y=some v) {u:Value} (hr:RV w K (bif b then x else y) u):RV w K v u:=by
 unfold AV.merge at h
 split at h
 ·obtain⟨h1,h2⟩:=merge_solid _ _ _ _ _ h
  obtain⟨g1,g2,g3⟩:=merge_RS (w:=w) (K:=K) _ _ _ _ _ h
  cases b
  ·have:=RV.solid hr h2
   exact R1.toRV ⟨g1 _ (fun e=>by cases e) (fun _=>this.1),fun e=>this.2.1 ((g3 rfl).trans e),fun e=>this.2.2 ((g3 rfl).trans e)⟩
  ·have:=RV.solid hr h1
   exact R1.toRV ⟨g1 _ (fun _=>this.1) (fun e=>by cases e),fun e=>this.2.1 ((g2 rfl).trans e),fun e=>this.2.2 ((g2 rfl).trans e)⟩
 ·cases h
  exact RV_top _
def Same (W:List Nat) (s s':St):Prop:=s'.heap=s.heap∧∀t,W.contains t=false→look t s'.ents=look t s.ents
theorem Same.refl (W:List Nat) (s:St):Same W s s:=⟨rfl,fun _ _=>rfl⟩
theorem Same.trans {W:List Nat} {s s' s'':St} (h:Same W s s') (g:Same W s' s''):Same W s s'':=⟨g.1.trans h.1,fun t ht=>(g.2 t ht).trans (h.2 t ht)⟩
theorem Same.mono {W W':List Nat} {s s':St} (hW:∀t,W.contains t=true→W'.contains t=true) (h:Same W s s'):Same W' s s':=⟨h.1,fun t ht=>h.2 t (by
 cases e:W.contains t
 ·rfl
 ·rw[hW t e] at ht;cases ht)⟩
theorem Same.set {W:List Nat} {s:St} {d:Nat} (v:AV) (hd:W.contains d=true):Same W s (s.set d v):=⟨rfl,fun t ht=>by
 simp only[St.set,look_put]
 rw[if_neg]
 intro e
 subst e
 rw[hd] at ht
 cases ht⟩
theorem Same.setO {W:List Nat} {s:St} {d:Option Nat} (v:AV) (hd:∀t,d=some t→W.contains t=true):Same W s (s.setO d v):=by
 cases d with
 |none=>exact Same.refl _ _
 |some t=>exact Same.set v (hd t rfl)
theorem Same.next {W:List Nat} {s:St} (m:Nat):Same W s {s with next:=m}:=⟨rfl,fun _ _=>rfl⟩
def Impl (s1 s2:St):Prop:=∀(fr:Fr) (n:Nat) (K:Kinds) (a:Act) (w:World),Rel fr n K s1 a w→Rel fr n K s2 a w
theorem Impl.refl (s:St):Impl s s:=fun _ _ _ _ _ h=>h
theorem Impl.trans {s s' s'':St} (h:Impl s s') (g:Impl s' s''):Impl s s'':=fun _ _ _ _ _ hr=>g _ _ _ _ _ (h _ _ _ _ _ hr)
theorem look_mergeW {b:Bool} {s1 s2:St}:∀(W:List Nat) (e e':List (Nat×AV)),mergeW b s1 s2 W e=some e'→∀t,(W.contains t=false→look t e'=look t e) ∧
  (W.contains t=true→∃v,look t e'=some v∧AV.merge b (s1.get t) (s2.get t)=some v)
 |[],e,e',h,t=>by cases h;exact⟨fun _=>rfl,fun h=>by cases h⟩
 |d::W,e,e',h,t=>by
  simp only[mergeW] at h
  split at h
  ·rename_i v hv
   obtain⟨h1,h2⟩:=look_mergeW W _ _ h t
   refine⟨fun ht=>?_,fun ht=>?_⟩
   ·simp only[List.contains_cons,Bool.or_eq_false_iff,beq_eq_false_iff_ne,ne_eq] at ht
    rw[h1 ht.2,look_put,if_neg ht.1]
   ·cases hc:W.contains t
    ·simp only[List.contains_cons,hc,Bool.or_false,beq_iff_eq] at ht
     subst ht
     exact⟨v,by rw[h1 hc,look_put,if_pos rfl],hv⟩
    ·exact h2 hc
  ·cases h
theorem mergeSt_ok {W:List Nat} {s s1 s2 s':St} {b:Bool} (h:mergeSt W s b s1 s2=some s') (h1:Same W s s1) (h2:Same W s s2):Same W s s'∧Impl (bif b then s1 else s2) s':=by
 obtain⟨e,he,rfl⟩:=Option.map_eq_some_iff.1 h
 refine⟨⟨rfl,fun t ht=>((look_mergeW W _ _ he t).1 ht)⟩,fun fr n K a w hr=>?_⟩
 have hs:Same W s (bif b then s1 else s2):=by
  cases b
  ·exact h2
  ·exact h1
 exact{
  ext:=hr.ext
  size:=hr.size
  defers:=hr.defers
  ents:=fun t av ht=>by
   cases hc:W.contains t
   ·rw[(look_mergeW W _ _ he t).1 hc,←hs.2 t hc] at ht
    exact hr.ents t av ht
   ·obtain⟨v,hv,hm⟩:=(look_mergeW W _ _ he t).2 hc
    rw[hv] at ht
    cases ht
    refine merge_RV hm ?_
    have:=hr.get t
    cases b
    ·exact this
    ·exact this
  frame:=fun t ht hT=>by
   cases hc:W.contains t
   ·rw[(look_mergeW W _ _ he t).1 hc,←hs.2 t hc] at ht
    exact hr.frame t ht hT
   ·obtain⟨v,hv,_⟩:=(look_mergeW W _ _ he t).2 hc
    rw[hv] at ht
    cases ht
  heap:=fun b' id hb hk=>by
   have:=hr.heap b' id hb hk
   rw[hs.1] at this
   exact this
  uniq:=hr.uniq}
namespace Tree
def All (G:St→Prop):Tree→Prop
 | .leaf s=>G s
 | .ite b t e=>(b=true→t.All G)∧(b=false→e.All G)
 | .fail=>False
def Leaves (G:St→Prop):Tree→Prop
 | .leaf s=>G s
 | .ite _ t e=>t.Leaves G∧e.Leaves G
 | .fail=>True
theorem All.imp {G G':St→Prop} (h:∀s,G s→G' s):∀t:Tree,t.All G→t.All G'
 | .leaf s,hh=>h s hh
 | .ite _ t e,hh=>⟨fun hb=>All.imp h t (hh.1 hb),fun hb=>All.imp h e (hh.2 hb)⟩
 | .fail,hh=>hh
theorem Leaves.imp {G G':St→Prop} (h:∀s,G s→G' s):∀t:Tree,t.Leaves G→t.Leaves G'
 | .leaf s,hh=>h s hh
 | .ite _ t e,hh=>⟨Leaves.imp h t hh.1,Leaves.imp h e hh.2⟩
 | .fail,_=>trivial
theorem All.fold {Kc:St→Option R} {r:R}:∀t:Tree,t.fold Kc=some r→t.All fun s=>Kc s=some r
 | .leaf _,h=>h
 | .ite b t e,h=>by
  simp only[Tree.fold] at h
  exact⟨fun hb=>All.fold t (by rw[hb] at h;exact h),fun hb=>All.fold e (by rw[hb] at h;exact h)⟩
 | .fail,h=>by cases h
theorem All.bindO {f:St→Option Tree} {G:St→Prop}:∀(t t':Tree),t.bindO f=some t'→t'.All G→t.All fun s=>∃t1,f s=some t1∧t1.All G
 | .leaf s,t',h,g=>⟨t',h,g⟩
 | .ite b t e,t',h,g=>by
  simp only[Tree.bindO] at h
  split at h
  ·rename_i t1 h1
   split at h
   ·rename_i e1 h2
    cases h
    exact⟨fun hb=>All.bindO t t1 h1 (g.1 hb),fun hb=>All.bindO e e1 h2 (g.2 hb)⟩
   ·cases h
  ·cases h
 | .fail,t',h,g=>by cases h;exact g
theorem Leaves.bindO {f:St→Option Tree} {G G':St→Prop} (hf:∀s t,G s→f s=some t→t.Leaves G'):∀(t t':Tree),t.bindO f=some t'→t.Leaves G→t'.Leaves G'
 | .leaf s,t',h,g=>hf s t' g h
 | .ite b t e,t',h,g=>by
  simp only[Tree.bindO] at h
  split at h
  ·rename_i t1 h1
   split at h
   ·rename_i e1 h2
    cases h
    exact⟨Leaves.bindO hf t t1 h1 g.1,Leaves.bindO hf e e1 h2 g.2⟩
   ·cases h
  ·cases h
 | .fail,t',h,_=>by cases h;trivial
def Cl (G:St→Prop) (s:St):Prop:=∃s',Impl s s'∧G s'
def Met (c:Option Bool):Prop:=∀b,c=some b→b=true
theorem met_and {b:Bool} {c:Option Bool} (h:Met (andO b c)):b=true∧Met c:=by
 cases c with
 |none=>exact⟨h b rfl,fun _ e=>by cases e⟩
 |some d =>
  have:=h _ rfl
  simp only[Bool.and_eq_true] at this
  exact⟨this.1,fun _ e=>by cases e;exact this.2⟩
theorem met_ite {b:Bool} {c d:Option Bool} (h:Met (iteO b c d)):(b=true→Met c)∧(b=false→Met d):=by
 refine⟨fun hb=>?_,fun hb=>?_⟩
 ·subst hb
  cases c with
  |none=>exact fun _ e=>by cases e
  |some c=>cases d<;>exact fun _ e=>by cases e;exact h _ rfl
 ·subst hb
  cases d with
  |none=>exact fun _ e=>by cases e
  |some d=>cases c<;>exact fun _ e=>by cases e;exact h _ rfl
theorem merge_ok {W:List Nat} {s:St}:∀(t:Tree) (c:Option Bool) (s':St),t.merge W s=some (c,s')→t.Leaves (Same W s)→Same W s s'∧(Met c→t.All fun s1=>Impl s1 s'):=by
 intro t
 fun_induction Tree.merge W s t with
 |case1 s1=>intro c s' h hl;cases h;exact⟨hl,fun _=>Impl.refl _⟩
 |case2=>intro c s' h;cases h
 |case3 b t ih =>
  intro c s' h hl
  obtain⟨⟨c',s1⟩,h1,h2⟩:=Option.map_eq_some_iff.1 h
  simp only[Prod.mk.injEq] at h2
  obtain⟨rfl,rfl⟩:=h2
  obtain⟨g1,g2⟩:=ih _ _ h1 hl.1
  refine⟨g1,fun hc=>?_⟩
  obtain⟨hc1,hc2⟩:=met_and hc
  exact⟨fun _=>g2 hc2,fun hb=>by rw[hb] at hc1;cases hc1⟩
 |case4 b e _ ih =>
  intro c s' h hl
  obtain⟨⟨c',s1⟩,h1,h2⟩:=Option.map_eq_some_iff.1 h
  simp only[Prod.mk.injEq] at h2
  obtain⟨rfl,rfl⟩:=h2
  obtain⟨g1,g2⟩:=ih _ _ h1 hl.2
  refine⟨g1,fun hc=>?_⟩
  obtain⟨hc1,hc2⟩:=met_and hc
  exact⟨(fun hb=>by rw[hb] at hc1;cases hc1),fun _=>g2 hc2⟩
 |case5 b t e _ _ p hp q hq iht ihe =>
  intro c s' h hl
  obtain⟨s1,h1,h2⟩:=Option.map_eq_some_iff.1 h
  simp only[Prod.mk.injEq] at h2
  obtain⟨rfl,rfl⟩:=h2
  obtain⟨g1,g2⟩:=iht _ _ hp hl.1
  obtain⟨f1,f2⟩:=ihe _ _ hq hl.2
  obtain⟨m1,m2⟩:=mergeSt_ok h1 g1 f1
  refine⟨m1,fun hc=>⟨fun hb=>?_,fun hb=>?_⟩⟩
  ·have:=(met_ite hc).1 hb
   subst hb
   exact All.imp (fun _ hi=>hi.trans m2) _ (g2 this)
  ·have:=(met_ite hc).2 hb
   subst hb
   exact All.imp (fun _ hi=>hi.trans m2) _ (f2 this)
 |_=>intro c s' h;cases h
theorem All.join {W:List Nat} {s:St} {G:St→Prop} {t:Tree} (hl:t.Leaves (Same W s)) (h:(t.join W s).All G):t.All (Cl G):=by
 unfold Tree.join at h
 split at h
 ·rename_i s' hp
  obtain⟨_,h2⟩:=merge_ok t _ _ hp hl
  exact All.imp (fun s1 hi=>⟨_,hi,h⟩) _ (h2 (fun _ e=>by cases e))
 ·rename_i c s' hp
  obtain⟨_,h2⟩:=merge_ok t _ _ hp hl
  cases hc:c
  ·exact(h.2 hc).elim
  ·exact All.imp (fun s1 hi=>⟨_,hi,h.1 hc⟩) _ (h2 (fun _ e=>by cases e;exact hc))
 ·exact All.imp (fun s1 hi=>⟨_,Impl.refl _,hi⟩) _ h
theorem Leaves.join {W:List Nat} {s:St} {t:Tree} (hl:t.Leaves (Same W s)):(t.join W s).Leaves (Same W s):=by
 unfold Tree.join
 split
 ·rename_i s' hp
  exact(merge_ok t _ _ hp hl).1
 ·rename_i c s' hp
  exact⟨(merge_ok t _ _ hp hl).1,trivial⟩
 ·exact hl
end Tree
section
variable {C:Ctx} {n:Nat} {no:Lim} {ops:Array Oper}
theorem intOp_sure {op:BinOp} {k k':IntKind} {m1 m2:Int} {c:Bool} {v:AV} (h:intOp op k m1 k' m2=some (c,v)) (hs:(op=.shl∨op=.shr→0≤m2)∧(op=.quo∨op=.rem→m2≠0)):c=true:=by
 unfold intOp at h
 split at h
 ·cases h;have:=hs.1 (.inl rfl);simp;omega
 ·cases h;have:=hs.1 (.inr rfl);simp;omega
 ·split at h
  ·split at h<;>first|(cases h;rfl) |skip
   ·cases h;have:=hs.2 (.inl rfl);simp;omega
   ·cases h;have:=hs.2 (.inr rfl);simp;omega
   ·cases h
  ·cases h
theorem binAV_sure {P:Program} {eqs:List TypeId} {op:BinOp} {t:TypeId} {x y:AV} {c:Bool} {v:AV} (h:binAV P eqs op t x y=some (c,v))
  (hs:op=.sub∨op=.mul∨op=.and∨op=.or∨op=.xor∨op=.andNot∨op=.eql∨op=.neq∨op=.lss∨op=.leq∨op=.gtr∨op=.geq):c=true:=by
 unfold binAV at h
 split at h
 ·refine intOp_sure h ⟨fun e=>?_,fun e=>?_⟩<;>rcases e with rfl |rfl<;>simp at hs
 ·unfold strOp at h
  split at h<;>first|(cases h;rfl) |skip
  ·simp at hs
  ·cases h
 ·split at h
  ·obtain⟨b,_,e⟩:=Option.map_eq_some_iff.1 h
   cases e
   rfl
  ·obtain⟨b,_,e⟩:=Option.map_eq_some_iff.1 h
   cases e
   rfl
  ·cases h
theorem binAV_none {P:Program} {eqs:List TypeId} {op:BinOp} {t:TypeId} {x y:AV} {c:Bool} {v:AV} (h:(match op with
  | .eql=>(eqOp P eqs t x y).map fun b=>(true,AV.bool b)
  | .neq=>(eqOp P eqs t x y).map fun b=>(true,AV.bool !b)
  |_=>none)=some (c,v)) (hop:op≠.eql∧op≠.neq):False:=by
 split at h
 ·exact hop.1 rfl
 ·exact hop.2 rfl
 ·cases h
theorem binAV_left {P:Program} {eqs:List TypeId} {op:BinOp} {t:TypeId} {k:IntKind} {m:Int} {y:AV} {c:Bool} {v:AV} (h:binAV P eqs op t ⟨.ty (.int k),m⟩ y=some (c,v)) (hop:op≠.eql∧op≠.neq):∃k' m',intOp op k m k' m'=some (c,v):=by
 obtain⟨sy,vy⟩:=y
 cases sy with
 |ty τ=>cases τ with
  |int k'=>exact⟨k',vy,h⟩
  |_=>exact(binAV_none h hop).elim
 |_=>exact(binAV_none h hop).elim
theorem binAV_right {P:Program} {eqs:List TypeId} {op:BinOp} {t:TypeId} {k:IntKind} {m:Int} {x:AV} {c:Bool} {v:AV} (h:binAV P eqs op t x ⟨.ty (.int k),m⟩=some (c,v)) (hop:op≠.eql∧op≠.neq):∃k' m',intOp op k' m' k m=some (c,v):=by
 obtain⟨sx,vx⟩:=x
 cases sx with
 |ty τ=>cases τ with
  |int k'=>exact⟨k',vx,h⟩
  |_=>exact(binAV_none h hop).elim
 |_=>exact(binAV_none h hop).elim
theorem sure_ok {P:Program} {eqs:List TypeId} {id:Nat} {o:Oper} {s:St} {c:Bool} {e:Eff} (hs:sure s o=true) (h:opE P eqs s no id o=some (c,e)):c=true:=by
 unfold sure at hs
 unfold opE at h
 have map1:∀{α:Type} {x:Option α} {f:α→Eff},(x.map fun v=>(true,f v))=some (c,e)→c=true:=fun h=>by
  obtain⟨_,_,e⟩:=Option.map_eq_some_iff.1 h
  cases e
  rfl
 have yes1:∀{e':Eff},yes e'=some (c,e)→c=true:=fun h=>by cases h;rfl
 split at hs
 ·rename_i ho;rw[ho] at h;simp only at h;repeat' split at h
  all_goals first|exact yes1 h |cases h
 ·rename_i ho;rw[ho] at h;simp only at h;repeat' split at h
  all_goals first|exact yes1 h |cases h
 ·rename_i ho;rw[ho] at h;simp only at h;repeat' split at h
  all_goals first|exact yes1 h |cases h
 ·rename_i ho;rw[ho] at h;simp only at h;repeat' split at h
  all_goals first|exact yes1 h |cases h
 ·rename_i ho;rw[ho] at h;simp only at h;repeat' split at h
  all_goals first|exact map1 h |exact yes1 h |(cases h;done)
 ·rename_i ho;rw[ho] at h;simp only at h;repeat' split at h
  all_goals first|exact map1 h |exact yes1 h |(cases h;done)
 ·rename_i ho;rw[ho] at h;simp only at h;repeat' split at h
  all_goals first|exact map1 h |exact yes1 h |(cases h;done)
 ·rename_i ho;rw[ho] at h;simp only at h;repeat' split at h
  all_goals first|exact yes1 h |cases h
 ·rename_i ho;rw[ho] at h;simp only at h;repeat' split at h
  all_goals first|exact map1 h |exact yes1 h |(cases h;done)
 ·rename_i ho;rw[ho] at h;simp only at h;repeat' split at h
  all_goals first|exact map1 h |exact yes1 h |(cases h;done)
 ·rename_i ho;rw[ho] at h;simp only at h;repeat' split at h
  all_goals first|exact yes1 h |cases h
 ·rename_i ho;rw[ho] at h;simp only at h;repeat' split at h
  all_goals first|exact yes1 h |cases h
 ·rename_i ho;rw[ho] at h;simp only at h;repeat' split at h
  all_goals first|exact map1 h |exact yes1 h |(cases h;done)
 ·rename_i ho;rw[ho] at h;simp only at h;repeat' split at h
  all_goals first|exact map1 h |exact yes1 h |(cases h;done)
 ·rename_i op t x y _ ho
  rw[ho] at h
  simp only at h
  obtain⟨⟨c',v⟩,hb,e1⟩:=Option.map_eq_some_iff.1 h
  cases e1
  split at hs
  all_goals first|(refine binAV_sure hb ?_;simp;done) |skip
  ·split at hs
   ·rename_i hx
    rw[hx] at hb
    obtain⟨k',m',h'⟩:=binAV_left hb (by simp)
    exact intOp_sure h' ⟨(fun e=>by rcases e with e |e<;>cases e),(fun e=>by rcases e with e |e<;>cases e)⟩
   ·cases hs
  ·split at hs
   ·obtain⟨k',m',h'⟩:=binAV_right hb (by simp)
    exact intOp_sure h' ⟨fun _=>of_decide_eq_true hs,(fun e=>by rcases e with e |e<;>cases e)⟩
   ·cases hs
  ·split at hs
   ·obtain⟨k',m',h'⟩:=binAV_right hb (by simp)
    exact intOp_sure h' ⟨fun _=>of_decide_eq_true hs,(fun e=>by rcases e with e |e<;>cases e)⟩
   ·cases hs
  ·split at hs
   ·obtain⟨k',m',h'⟩:=binAV_right hb (by simp)
    exact intOp_sure h' ⟨(fun e=>by rcases e with e |e<;>cases e),fun _=>of_decide_eq_true hs⟩
   ·cases hs
  ·split at hs
   ·obtain⟨k',m',h'⟩:=binAV_right hb (by simp)
    exact intOp_sure h' ⟨(fun e=>by rcases e with e |e<;>cases e),fun _=>of_decide_eq_true hs⟩
   ·cases hs
 ·rename_i cl ho
  split at hs
  ·rename_i hcal
   rw[ho] at h
   simp only[hcal] at h
   repeat' split at h
   all_goals first|exact yes1 h |cases h
  ·rename_i hcal
   rw[ho] at h
   simp only[hcal] at h
   exact map1 h
  ·rename_i hcal
   rw[ho] at h
   simp only[hcal] at h
   exact map1 h
  ·cases hs
 ·cases hs
theorem sure_eff {id:Nat} {o:Oper} {s:St} {c:Bool} {e:Eff} (hs:sure s o=true) (h:effOf C s no id o=some (c,e)):c=true:=by
 unfold effOf at h
 split at h
 ·rename_i cl ho
  have hcal:∃b,cl.callee=.builtin b:=by
   unfold sure at hs
   rw[ho] at hs
   simp only at hs
   split at hs
   ·rename_i e;exact⟨_,e⟩
   ·rename_i e;exact⟨_,e⟩
   ·rename_i e;exact⟨_,e⟩
   ·cases hs
  obtain⟨b,hb⟩:=hcal
  have:calleeOf s cl=none:=by unfold calleeOf;rw[hb]
  rw[this] at h
  exact sure_ok hs h
 ·exact sure_ok hs h
theorem treeOp_spec {id:Nat} {o:Oper} {s:St} {t:Tree} (h:treeOp C n no id o s=some t):∃c a,dstOk n o=true∧walked C s o=none∧effOf C s no id o=some (c,.val a)∧(∀G,t.All G→c=true∧G (s.setO o.dst a))∧(∀G,G (s.setO o.dst a)→t.Leaves G):=by
 unfold treeOp at h
 cases hd:dstOk n o
 ·rw[hd] at h;cases h
 ·rw[hd] at h
  simp only[cond_true] at h
  split at h
  ·cases h
  ·rename_i hw
   split at h
   ·rename_i c a he
    cases h
    refine⟨c,a,rfl,hw,he,fun G hg=>?_,fun G hg=>?_⟩
    ·cases hs:sure s o
     ·rw[hs] at hg
      cases c
      ·exact(hg.2 rfl).elim
      ·exact⟨rfl,hg.1 rfl⟩
     ·rw[hs] at hg
      exact⟨sure_eff hs he,hg⟩
    ·cases hs:sure s o
     ·exact⟨hg,trivial⟩
     ·exact hg
   ·cases h
theorem treeOp_ok {call:CallIn} {id:Nat} {o:Oper} {s:St} {t:Tree} (h:treeOp C n no id o s=some t) {Kc:St→Option R} {r:R} (hk:t.All fun s'=>(∃c a,effOf C s no id o=some (c,.val a)∧s'=s.setO o.dst a)→Kc s'=some r):stepOp C call n no id o s Kc=some r:=by
 obtain⟨c,a,hd,hw,he,hg,_⟩:=treeOp_spec h
 obtain⟨rfl,hk'⟩:=hg _ hk
 unfold stepOp
 rw[hd,hw]
 simp only[cond_true,he]
 exact hk' ⟨_,a,he,rfl⟩
theorem treeOp_same {W:List Nat} {id:Nat} {o:Oper} {s:St} {t:Tree} (h:treeOp C n no id o s=some t) (hd:∀t,o.dst=some t→W.contains t=true):t.Leaves (Same W s):=by
 obtain⟨c,a,_,_,_,_,hl⟩:=treeOp_spec h
 exact hl _ (Same.setO _ hd)
def KnOk (kn:List (Nat×Bool)) (s:St):Prop:=∀p∈kn,s.get p.1=.bool p.2
theorem get_set {s:St} {d t:Nat} {v:AV}:(s.set d v).get t=if t=d then v else s.get t:=by
 simp only[St.set,St.get,look_put]
 split<;>rfl
theorem KnOk.setO {kn:List (Nat×Bool)} {s:St} (h:KnOk kn s) (d:Option Nat) (v:AV):KnOk (unknow d kn) (s.setO d v):=by
 cases d with
 |none=>exact h
 |some d =>
  intro p hp
  simp only[unknow,List.mem_filter,Bool.not_eq_true',beq_eq_false_iff_ne,ne_eq] at hp
  simp only[St.setO,get_set,if_neg hp.2]
  exact h p hp.1
theorem KnOk.set {kn:List (Nat×Bool)} {s:St} (h:KnOk kn s) {d:Nat} {c:Bool} (hd:s.get d=.bool c):KnOk ((d,c)::kn) (s.set d (.bool c)):=by
 intro p hp
 simp only[get_set]
 split
 ·rename_i e
  rcases List.mem_cons.1 hp with rfl |hp
  ·rfl
  ·have:=h p hp
   rw[e,hd] at this
   exact this
 ·rename_i e
  rcases List.mem_cons.1 hp with rfl |hp
  ·exact(e rfl).elim
  ·exact h p hp
theorem bval_ok {kn:List (Nat×Bool)} {s:St} (h:KnOk kn s) {x:Operand} {b:Bool} (hx:bval kn x=some b):opnd s x=.bool b:=by
 unfold bval at hx
 split at hx
 ·cases hx;rfl
 ·obtain⟨p,hp,rfl⟩:=Option.map_eq_some_iff.1 hx
  have h1:=h _ (List.mem_of_find?_eq_some hp)
  have h2:=List.find?_some hp
  simp only[beq_iff_eq] at h2
  rw[←h2]
  exact h1
 ·cases hx
theorem learnt_ok {kn:List (Nat×Bool)} {s:St} (h:KnOk kn s) {id:Nat} {o:Oper} {b c:Bool} {a:AV} (hl:learnt kn o=some b) (he:effOf C s no id o=some (c,.val a)):a=.bool b:=by
 unfold learnt at hl
 split at hl
 ·rename_i t ho
  have:=bval_ok h hl
  unfold effOf at he
  rw[ho] at he
  simp only at he
  unfold opE at he
  rw[ho] at he
  simp only[yes] at he
  cases he
  exact this
 ·rename_i t ho
  have:=bval_ok h hl
  unfold effOf at he
  rw[ho] at he
  simp only at he
  unfold opE at he
  rw[ho] at he
  simp only[yes] at he
  cases he
  exact this
 ·rename_i x y z ho
  unfold effOf at he
  rw[ho] at he
  simp only at he
  unfold opE at he
  rw[ho] at he
  simp only at he
  split at hl
  ·rename_i hx
   rw[bval_ok h hx] at he
   simp only[AV.bool,yes,cond_true] at he
   cases he
   exact bval_ok h hl
  ·rename_i hx
   rw[bval_ok h hx] at he
   simp only[AV.bool,yes,cond_false] at he
   cases he
   exact bval_ok h hl
  ·cases hl
 ·cases hl
theorem KnOk.learn {kn:List (Nat×Bool)} {s:St} (h:KnOk kn s) {id:Nat} {o:Oper} {c:Bool} {a:AV} (he:effOf C s no id o=some (c,.val a)):KnOk (learn o kn) (s.setO o.dst a):=by
 have h0:=h.setO o.dst a
 unfold Av.learn
 split
 ·rename_i d b hd hl
  rw[hd] at h0 ⊢
  intro p hp
  rcases List.mem_cons.1 hp with rfl |hp
  ·simp only[St.setO,get_set,if_true]
   exact learnt_ok h hl he
  ·exact h0 p hp
 ·exact h0
theorem treeOps_same {W:List Nat} (hops:∀o∈ops.toList,∀t,o.dst=some t→W.contains t=true):∀(l:List Oper) (id:Nat) (kn:List (Nat×Bool)) (s:St) (t:Tree),(∀o∈l,o∈ops.toList)→treeOps C n no ops l id kn s=some t→t.Leaves (Same W s)
 |[],_,_,s,t,_,h=>by cases h;exact Same.refl _ _
 |o::l,id,kn,s,t,hl,h=>by
  have hd:∀t,o.dst=some t→W.contains t=true:=hops o (hl o (by simp))
  have hl':∀o∈l,o∈ops.toList:=fun o ho=>hl o (by simp[ho])
  have step:∀(s':St) (kn':List (Nat×Bool)) (t':Tree),Same W s s'→((treeOp C n no id o s').bind fun t=>t.bindO (treeOps C n no ops l (id+16) kn'))=some t'→t'.Leaves (Same W s):=fun s' kn' t' hs hh=>by
   obtain⟨t1,e1,e2⟩:=Option.bind_eq_some_iff.1 hh
   exact Tree.Leaves.bindO (G:=Same W s) (fun s1 t2 h1 h2=>Tree.Leaves.imp (fun s2 h3=>h1.trans h3) _ (treeOps_same hops l _ _ _ _ hl' h2)) _ _ e2 (Tree.Leaves.imp (fun s2 h3=>hs.trans h3) _ (treeOp_same e1 hd))
  have skip:∀(s':St) (kn':List (Nat×Bool)) (t':Tree),Same W s s'→(bif dstOk n o then treeOps C n no ops l (id+16) kn' (s'.setO o.dst .undef) else none)=some t'→t'.Leaves (Same W s):=fun s' kn' t' hs hh=>by
   cases hdo:dstOk n o
   ·rw[hdo] at hh;cases hh
   ·rw[hdo] at hh
    exact Tree.Leaves.imp (fun s2 h3=>(hs.trans (Same.setO _ hd)).trans h3) _ (treeOps_same hops l _ _ _ _ hl' hh)
  unfold treeOps at h
  split at h
  ·exact step s _ t (Same.refl _ _) h
  ·rename_i j want hg
   split at h
   ·rename_i d hs
    have hdW:W.contains d=true:=by
     unfold guardSlot at hs
     obtain⟨o',ho',hd'⟩:=Option.bind_eq_some_iff.1 hs
     refine hops o' ?_ d hd'
     rw[←Array.getElem?_toList] at ho'
     exact List.mem_of_getElem? ho'
    have on:∀(c:Bool) (t':Tree),(bif c==want then(treeOp C n no id o (s.set d (.bool c))).bind fun t=>t.bindO (treeOps C n no ops l (id+16) (learn o ((d,c)::kn)))
      else bif dstOk n o then treeOps C n no ops l (id+16) (unknow o.dst ((d,c)::kn)) ((s.set d (.bool c)).setO o.dst .undef) else none)=some t'→t'.Leaves (Same W s):=fun c t' hh=>by
     cases hc:(c==want)
     ·rw[hc] at hh
      exact skip _ _ _ (Same.set _ hdW) hh
     ·rw[hc] at hh
      exact step _ _ _ (Same.set _ hdW) hh
    split at h
    ·simp only at h
     split at h
     ·exact on _ _ h
     ·split at h
      ·rename_i e1
       split at h
       ·rename_i e2
        cases h
        exact⟨on true _ e1,on false _ e2⟩
       ·cases h
      ·cases h
    ·exact skip _ _ _ (Same.refl _ _) h
    ·cases h
   ·cases h
theorem treeOps_ok {call:CallIn} {Kc:St→Option R} {r:R}:∀(l:List Oper) (id:Nat) (kn:List (Nat×Bool)) (s:St) (t:Tree),KnOk kn s→treeOps C n no ops l id kn s=some t→(t.All fun s=>Kc s=some r)→runOps C call n no ops l id s Kc=some r
 |[],_,_,s,t,_,h,hk=>by cases h;exact hk
 |o::l,id,kn,s,t,hkn,h,hk=>by
  have step:∀(s':St) (kn':List (Nat×Bool)) (t':Tree),KnOk kn' s'→((treeOp C n no id o s').bind fun t=>t.bindO (treeOps C n no ops l (id+16) (learn o kn')))=some t'→(t'.All fun s=>Kc s=some r) →
    stepOp C call n no id o s' (fun s=>runOps C call n no ops l (id+16) s Kc)=some r:=fun s' kn' t' hn hh hk'=>by
   obtain⟨t1,e1,e2⟩:=Option.bind_eq_some_iff.1 hh
   refine treeOp_ok e1 (Tree.All.imp (fun s1 hs1 ha=>?_) _ (Tree.All.bindO _ _ e2 hk'))
   obtain⟨t2,f1,f2⟩:=hs1
   obtain⟨_,a,he,rfl⟩:=ha
   exact treeOps_ok l _ _ _ _ (hn.learn he) f1 f2
  have skip:∀(s':St) (kn':List (Nat×Bool)) (t':Tree),KnOk kn' s'→(bif dstOk n o then treeOps C n no ops l (id+16) (unknow o.dst kn') (s'.setO o.dst .undef) else none)=some t'→(t'.All fun s=>Kc s=some r) →
    (bif dstOk n o then runOps C call n no ops l (id+16) (s'.setO o.dst .undef) Kc else none)=some r:=fun s' kn' t' hn hh hk'=>by
   cases hdo:dstOk n o
   ·rw[hdo] at hh;cases hh
   ·rw[hdo] at hh
    exact treeOps_ok l _ _ _ _ (hn.setO _ _) hh hk'
  unfold treeOps at h
  unfold runOps
  cases hg:o.guard with
  |none =>
   rw[hg] at h
   exact step s _ t hkn h hk
  |some jw =>
   obtain⟨j,want⟩:=jw
   rw[hg] at h
   simp only at h ⊢
   cases hs:guardSlot ops j with
   |none=>rw[hs] at h;cases h
   |some d =>
    rw[hs] at h
    simp only at h ⊢
    split at h
    ·rename_i b hb
     have fin:∀c,b=c→∀t',(bif c==want then(treeOp C n no id o (s.set d (.bool c))).bind fun t=>t.bindO (treeOps C n no ops l (id+16) (learn o ((d,c)::kn)))
       else bif dstOk n o then treeOps C n no ops l (id+16) (unknow o.dst ((d,c)::kn)) ((s.set d (.bool c)).setO o.dst .undef) else none)=some t'→(t'.All fun s=>Kc s=some r) →
       (bif b then(bif want then stepOp C call n no id o (s.set d (.bool true)) fun s=>runOps C call n no ops l (id+16) s Kc
         else bif dstOk n o then runOps C call n no ops l (id+16) ((s.set d (.bool true)).setO o.dst .undef) Kc else none)
        else(bif want then bif dstOk n o then runOps C call n no ops l (id+16) ((s.set d (.bool false)).setO o.dst .undef) Kc else none
         else stepOp C call n no id o (s.set d (.bool false)) fun s=>runOps C call n no ops l (id+16) s Kc))=some r:=fun c hb' t' hh hk'=>by
      have hn:KnOk ((d,c)::kn) (s.set d (.bool c)):=hkn.set (by rw[hb,hb'])
      have on:(bif c==want then stepOp C call n no id o (s.set d (.bool c)) (fun s=>runOps C call n no ops l (id+16) s Kc) else bif dstOk n o then runOps C call n no ops l (id+16) ((s.set d (.bool c)).setO o.dst .undef) Kc else none)=some r:=by
       cases hc:(c==want)
       ·rw[hc] at hh
        exact skip _ _ _ hn hh hk'
       ·rw[hc] at hh
        exact step _ _ _ hn hh hk'
      subst hb'
      cases b<;>cases want<;>exact on
     split at h
     ·rename_i p c hf
      have hp:=List.mem_of_find?_eq_some hf
      have hpd:=List.find?_some hf
      simp only[beq_iff_eq] at hpd
      have hkb:=hkn _ hp
      simp only at hkb
      rw[hpd,hb] at hkb
      have hbc:b=c:=by
       have:=congrArg (fun a:AV=>match a with|⟨.ty .bool,b⟩=>b |_=>true) hkb
       exact this
      exact fin c hbc t h hk
     ·split at h
      ·rename_i e1
       split at h
       ·rename_i e2
        cases h
        cases hb':b
        ·have:=fin false hb' _ e2 (hk.2 hb')
         rw[hb'] at this
         exact this
        ·have:=fin true hb' _ e1 (hk.1 hb')
         rw[hb'] at this
         exact this
       ·cases h
      ·cases h
    ·exact skip _ _ _ hkn h hk
    ·cases h
end
end Go.Av
end
