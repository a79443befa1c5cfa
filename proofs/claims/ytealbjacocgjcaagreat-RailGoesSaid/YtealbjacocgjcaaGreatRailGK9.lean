/- Texts of the proof, one behind the other. -/
import Derived.Test.YtealbjacocgjcaaGreatRailGK8
section
namespace Go.Av
open Go
section
variable {P:Program} {eqs:List TypeId} {fr:Fr} {n:Nat} {K:Kinds} {s:St} {a:Act} {w:World} {no:Lim} {id:Nat} {o:Oper}
theorem buildSl_ok (hr:Rel fr n K s a w) {e:Ty} {size:Nat} (hsz:size=e.size) (hlen:∀k,k*size=k*e.size):∀(l:List (Nat×Operand)) (z z':List e.den) (cs:Array Value),partsSl e s z l=some z'→RL (RT w K e) z cs.toList →
  ∃cells,Instr.fill (fun i=>some (i*size,size)) cs (l.map fun(i,x)=>(i,a.eval x))=some cells∧RL (RT w K e) z' cells.toList∧z'.length=z.length
 |[],z,z',cs,h,hz=>by simp only[partsSl] at h;cases h;exact⟨cs,rfl,hz,rfl⟩
 |(i,x)::l,z,z',cs,h,hz=>by
  simp only[partsSl] at h
  split at h
  ·rename_i u hu
   split at h
   ·rename_i hi
    have hx:=(opnd_RV hr x).as hu
    have hxl:=RT.length _ _ _ hx
    have hcl:=RL.length (RT.length e) z _ hz
    have hcs:(a.eval x).cells.size=size:=by rw[hsz,←hxl];simp
    have hb:=arith2 (sz:=e.size) hi
    have hfit:i*size+(a.eval x).cells.size≤cs.size:=by
     rw[hcs,hsz,←Array.length_toList,hcl];exact hb
    have hf:=foldl_cells (i*size) (a.eval x) cs hfit
    have hset:=RL.set (RT.length e) z _ i u _ hz hi hx
    obtain⟨cells,c1,c2,c3⟩:=buildSl_ok hr hsz hlen l (z.set i u) z' ((a.eval x).cells.zipIdx.foldl (fun cs (c,j)=>cs.setIfInBounds (i*size+j) c) cs) h (by
     rw[hf,hxl,hsz];exact hset)
    refine⟨cells,?_,c2,by rw[c3,List.length_set]⟩
    simp only[List.map_cons,Instr.fill]
    have hno:((a.eval x).cells.size≠size||decide (i*size+(a.eval x).cells.size > cs.size))=false:=by
     rw[hcs] at hfit
     simp only[ne_eq,hcs,not_true_eq_false,decide_false,Bool.false_or,decide_eq_false_iff_not]
     exact Nat.not_lt.2 hfit
    simp only[hno,Bool.false_eq_true,if_false]
    exact c1
   ·cases h
  ·cases h
theorem run_buildSlice0 {P:Program} (w:World) (t e:TypeId) (parts:Array (Nat×Value)) (cells:Array Value) (ie:TypeInfo)
  (hu:P.underlying t=some (.slice e)) (hie:P.info? e=some ie)
  (h:Instr.fill (fun i=>some (i*ie.size,ie.size)) #[] parts.toList=some cells) :
  (Instr.buildSlice t 0 parts).run P w=.ok (.slice (some ⟨w.heap.size,0,none⟩) 0 0) (w.alloc (.cells cells e)):=by
 have e0:Array.map (fun _=>(default:Value)) (Array.range 0)=#[]:=Array.eq_empty_of_size_eq_zero (by rw[Array.size_map,Array.size_range])
 simp[Instr.buildSlice,run_underlying hu,sizeOf,typeInfo,hie,newRow]
 simp[e0,h]
theorem run_buildAny {P:Program} (w:World) (t e:TypeId) (len:Nat) (parts:Array (Nat×Value)) (cells:Array Value) (ie:TypeInfo) (z:Value)
  (hu:P.underlying t=some (.slice e)) (hie:P.info? e=some ie) (hz:ie.zero=some z) (hsmall:¬len*ie.size > 2 ^ 24) (hpos:0<ie.size)
  (h:Instr.fill (fun i=>some (i*ie.size,ie.size)) ((Array.range (len*ie.size)).map (z.cells[· % z.cells.size]!)) parts.toList=some cells) :
  (Instr.buildSlice t len parts).run P w=.ok (.slice (some ⟨w.heap.size,0,none⟩) len len) (w.alloc (.cells cells e)):=by
 cases Nat.eq_zero_or_pos len with
 |inl h0 =>
  subst h0
  rw[Nat.zero_mul] at h
  have e0:Array.map (fun x=>z.cells[x % z.cells.size]!) (Array.range 0)=#[]:=Array.eq_empty_of_size_eq_zero (by rw[Array.size_map,Array.size_range])
  rw[e0] at h
  exact run_buildSlice0 w t e parts cells ie hu hie h
 |inr h0=>exact run_buildSlice w t e len parts cells ie z hu hie hz hsmall (Nat.ne_of_gt (Nat.mul_pos h0 hpos)) h
theorem RL.replicate {α:Type} {R:α→List Value→Prop} {z:α} {cs:List Value} (h:R z cs):∀m:Nat,RL R (List.replicate m z) (List.replicate m cs).flatten
 |0=>rfl
 |m+1=>⟨cs,_,by simp[List.replicate_succ],h,RL.replicate h m⟩
theorem zeros_cells (cs:Array Value) (m:Nat) (h:0<cs.size):((Array.range (m*cs.size)).map (cs[· % cs.size]!)).toList=(List.replicate m cs.toList).flatten:=by
 apply List.ext_getElem?
 intro j
 simp only[Array.toList_map,Array.toList_range,List.getElem?_map]
 by_cases hj:j<m*cs.size
 ·rw[List.getElem?_range hj]
  simp only[Option.map_some]
  have hmod:j % cs.size<cs.size:=Nat.mod_lt _ h
  rw[getElem!_pos cs _ hmod]
  have hdiv:j / cs.size<m:=Nat.div_lt_of_lt_mul (by rw[Nat.mul_comm];exact hj)
  have key:∀(m j:Nat),j<m*cs.size→(List.replicate m cs.toList).flatten[j]?=some cs[j % cs.size]!:=by
   intro m
   induction m with
   |zero=>intro j hj;simp at hj
   |succ m ih =>
    intro j hj
    rw[List.replicate_succ,List.flatten_cons]
    by_cases hlt:j<cs.size
    ·rw[List.getElem?_append_left (by simpa using hlt),Nat.mod_eq_of_lt hlt,getElem!_pos cs _ hlt]
     simp[hlt]
    ·rw[List.getElem?_append_right (by simpa using hlt),Array.length_toList]
     rw[Nat.succ_mul] at hj
     rw[ih (j-cs.size) (by omega)]
     congr 2
     conv=>rhs;rw[show j=(j-cs.size)+cs.size by omega]
     simp
  rw[key m j hj,getElem!_pos cs _ hmod]
 ·rw[List.getElem?_eq_none (by simpa using hj),List.getElem?_eq_none]
  ·rfl
  ·simp only[List.length_flatten,List.map_replicate,List.sum_replicate_nat,Array.length_toList]
   omega
theorem pack_RS {w:World} {K:Kinds}:∀(l:List (AV×Value)),(∀p∈l,RV w K p.1 p.2∧single p.1=true)→RS w K (pack (l.map (·.1))).sh (pack (l.map (·.1))).v (l.map (·.2))
 |[],_=>rfl
 |p::l,h=>by
  have h1:=h p (by simp)
  have h2:=pack_RS l (fun q hq=>h q (by simp[hq]))
  obtain⟨hv,hs⟩:=h1
  simp only[single,Bool.and_eq_true,beq_iff_eq] at hs
  have hr1:=RV.solid hv hs.2
  have hc:p.2.cells.toList=[p.2]:=by
   have:=hr1.2.2 hs.1
   cases hp:p.2<;>first|rfl |(rw[hp] at this;exact(this _ rfl).elim)
  have:=mkPair_RS hr1.1 h2
  rw[hc] at this
  exact this
theorem split_RTup {w:World} {K:Kinds} {x p q:AV} {vs:List Value} (h:x.split=some (p,q)) (hr:RTup w K x.sh x.v vs):∃u vs',vs=u::vs'∧R1 w K p.sh p.v u∧RTup w K q.sh q.v vs':=by
 obtain⟨s,y⟩:=x
 cases s with
 |pair a b =>
  simp only[AV.split] at h
  cases h
  cases vs with
  |nil=>exact hr.elim
  |cons u vs=>exact⟨u,vs,rfl,hr⟩
 |ty t=>cases t<;>first|exact hr.elim |cases h
 |_=>cases h
theorem nth_ok {w:World} {K:Kinds}:∀(m:Nat) (x:AV) (v:AV) (vs:List Value),opE.nth m x=some v→RTup w K x.sh x.v vs→∃u,vs[m]?=some u∧RV w K v u
 |0,x,v,vs,h,hr=>by
  obtain⟨⟨p,q⟩,h1,h2⟩:=Option.map_eq_some_iff.1 h
  obtain⟨u,vs',e,h3,h4⟩:=split_RTup h1 hr
  cases h2
  exact⟨u,by rw[e];rfl,R1.toRV h3⟩
 |m+1,x,v,vs,h,hr=>by
  obtain⟨⟨p,q⟩,h1,h2⟩:=Option.bind_eq_some_iff.1 h
  obtain⟨u,vs',e,h3,h4⟩:=split_RTup h1 hr
  obtain⟨r,e1,e2⟩:=nth_ok m q v vs' h2 h4
  exact⟨r,by rw[e];simpa using e1,e2⟩
theorem lenOf_fieldAddr {t:TypeId} {f:Nat} {fl:Field} (h:fieldOf P t f=some fl):∃fs:Array Field,P.underlying t=some (.struct fs)∧fs[f]?=some fl:=by
 unfold fieldOf at h
 split at h
 ·rename_i fs hu;exact⟨fs,hu,h⟩
 ·cases h
theorem nil_RV {w:World} {K:Kinds} (id:Nat) (τ:Ty):RV w K ⟨.osl id τ,[]⟩ (.slice none 0 0):=by
 have h1:RT w K (.sl τ) [] [.slice none 0 0]:=⟨none,0,0,rfl,rfl,Nat.le_refl _,fun _=>rfl,fun ad had=>(by cases had)⟩
 refine R1.toRV (a:=⟨.osl id τ,[]⟩) ⟨⟨h1,fun A len cap hcs=>?_⟩,(fun e=>(by cases e)),(fun _ c e=>(by cases e))⟩
 injection hcs with hcs
 injection hcs with q1
 subst q1
 exact .inl rfl
theorem wrap_i64 (m:Int) (h1:-9223372036854775808≤m) (h2:m≤9223372036854775807):IntKind.i64.wrap m=m:=by
 have e:IntKind.i64.wrap m=if(true&&decide (m % 18446744073709551616≥9223372036854775808))=true then m % 18446744073709551616-18446744073709551616 else m % 18446744073709551616:=rfl
 rw[e]
 simp only[Bool.true_and,decide_eq_true_eq]
 split<;>omega
theorem foldInt_ok {f:Int→Int→Int} {g:Value→Value→Sem Value} (hg:∀(k:IntKind) (x y:Int),g (.int k x) (.int k y)=pure (.int k (f x y))) {k:IntKind}:∀(l:List Operand) (m r:Int),foldInt f k m (l.map (opnd s))=some r→(∀x∈l,RV w K (opnd s x) (a.eval x)) →
  ((l.map a.eval).foldlM g (.int k m)).run P w=.ok (.int k r) w
 |[],m,r,h,_=>by cases h;rfl
 |x::l,m,r,h,hv=>by
  simp only[List.map_cons] at h
  generalize hx:opnd s x=av at h
  have hvx:=hv x (by simp)
  rw[hx] at hvx
  unfold foldInt at h
  split at h
  ·rename_i e;cases e
  ·rename_i k' b l' e
   injection e with e1 e2
   subst e1
   subst e2
   split at h
   ·rename_i hk
    subst hk
    rw[List.map_cons,List.foldlM_cons,RV.int hvx,hg]
    simpa using foldInt_ok hg l _ _ h (fun y hy=>hv y (by simp[hy]))
   ·cases h
  ·cases h
theorem extreme_ok {f:Int→Int→Int} {g:Value→Value→Sem Value} (hg:∀(k:IntKind) (x y:Int),g (.int k x) (.int k y)=pure (.int k (f x y))) {l:List Operand} {av:AV} (h:extreme f (l.map (opnd s))=some av) (hv:∀x∈l,RV w K (opnd s x) (a.eval x)) :
  ∃x l' v,l=x::l'∧((l'.map a.eval).foldlM g (a.eval x)).run P w=.ok v w∧RV w K av v:=by
 cases l with
 |nil=>cases h
 |cons x l =>
  simp only[List.map_cons] at h
  generalize hx:opnd s x=ax at h
  have hvx:=hv x (by simp)
  rw[hx] at hvx
  unfold extreme at h
  split at h
  ·rename_i k m l' e
   injection e with e1 e2
   subst e1
   subst e2
   obtain⟨r,hr,rfl⟩:=Option.map_eq_some_iff.1 h
   refine⟨x,l,.int k r,rfl,?_,RV.scalar (av:=.int _ _) rfl rfl rfl⟩
   rw[RV.int hvx]
   exact foldInt_ok hg l m r hr (fun y hy=>hv y (by simp[hy]))
  ·cases h
theorem winPart_spec {s:St} {l:List (Nat×Operand)} {b:Nat} {e:Ty} {y:Nat×Nat} (h:winPart s l=some (b,e,y)):∃x,l=[(0,x)]∧opnd s x=⟨.win b e,y⟩:=by
 unfold winPart at h
 split at h
 ·split at h
  ·rename_i hx
   cases h
   exact⟨_,rfl,hx⟩
  ·cases h
 ·cases h
theorem wslArgs_spec {x y:AV} {tg b:Nat} {τ:Ty} {xs ys:List (Nat×Nat)} (h:wslArgs x y=some (tg,⟨b,τ,xs,ys⟩)):∃tg',wslOf b τ x=some (tg,xs)∧y=⟨.wsl tg' b τ,ys⟩:=by
 unfold wslArgs at h
 split at h
 ·split at h
  ·rename_i hx
   cases h
   exact⟨_,hx,rfl⟩
  ·cases h
 ·cases h
theorem ownNil_RV {P:Program} {w:World} {K:Kinds} {id:Nat} {e:TypeId} {a:AV} {v:Value} (h:RV w K a v):RV w K (ownNil P e id a) v:=by
 unfold ownNil
 split
 ·split
  ·split
   ·rename_i hn
    have hv:=RV.lit h
    rw[hv,nilSl_eq hn]
    exact nil_RV id _
   ·exact h
  ·exact h
 ·exact h
theorem opE_ok (heqs:eqs.all (eqOk P)=true) (hr:Rel fr n K s a w) (hd:∀t,o.dst=some t→t<n) {c:Bool} {e:Eff} (h:opE P eqs s no id o=some (c,e)) (hc:c=true):OpOk P fr n s a w o e:=by
 have exv:∀{m:Sem Value},(execOp a.eval o=do let x ←m;pure (.value x))→∀{v:Value} {av:AV},m.run P w=.ok v w→RV w K av v→OpOk P fr n s a w o (.val av) :=
  fun hm _ _ hrun hv=>OpOk.pure hr hd hv (exec_v hm hrun)
 have opn:=fun x=>opnd_RV hr x
 unfold opE at h
 split at h
 all_goals rename_i ho
 iterate 2
  ·split at h
   ·rename_i v
    split at h
    ·rename_i hn
     have hv:=nilSl_eq hn
     subst hv
     have hrun:(execOp a.eval o).run P w=.ok (.value (.slice none 0 0)) w:=by simp[execOp,ho,Act.eval]
     split at h
     ·split at h
      ·cases h
       exact OpOk.pure hr hd (nil_RV id _) hrun
      ·cases h
       exact OpOk.pure hr hd (RV.scalar (av:=.lit _) ⟨rfl,rfl⟩ rfl rfl) hrun
     ·cases h
    ·cases h
     exact OpOk.pure hr hd (constAV_RV v) (by simp[execOp,ho,Act.eval])
   ·rename_i x _
    cases h
    exact OpOk.pure hr hd (opn _) (by simp[execOp,ho])
 ·rename_i c' x y
  split at h
  ·rename_i b hb
   cases h
   have hcv:=RV.bool (hb▸opn c')
   refine OpOk.pure hr hd (v:=if b then a.eval x else a.eval y) ?_ ?_
   ·cases b
    ·exact opn y
    ·exact opn x
   ·cases b<;>simp[execOp,ho,hcv,asBool]
  ·cases h
 ·rename_i t
  split at h
  ·rename_i z hz
   split at h
   ·rename_i hid
    cases h
    obtain⟨i,zv,hi,hzv,hrs⟩:=zeroOf_ok hz
    simp only[Bool.and_eq_true,Option.isNone_iff_eq_none] at hid
    have hzz:(P.info? t).bind (·.zero)=some zv:=by rw[hi];exact hzv
    rw[hzz]
    refine⟨_,_,_,.inl ?_,hr.newBox hd hid.1 t (newOf_ok hid.2 (hrs w K).1)⟩
    simp[execOp,ho,Instr.alloc,run_zeroValue hi hzv,newVar,newRow]
   ·cases h
  ·cases h
 ·rename_i t x
  split at h
  ·rename_i hcond
   simp only[Bool.and_eq_true,Option.isNone_iff_eq_none] at hcond
   cases h
   refine⟨_,_,_,.inl ?_,hr.newBox hd hcond.1 t (BoxOk.of_RS (solid_bare hcond.2) (RV.solid (opn x) hcond.2).1)⟩
   simp[execOp,ho,Instr.box,newVar,newRow]
  ·cases h
 ·rename_i t parts
  have bld:∀{z z':AV} {zv:Value} {i:TypeInfo} (place:Nat→Option (Nat×Nat)),zeroOf P t id=some z→P.info? t=some i→i.zero=some zv→RS w K z.sh z.v zv.cells.toList→z.sh.agg=true →
    partsAV place s z parts.toList=some z'→(∀cells,Instr.fill place zv.cells (parts.toList.map fun(i,x)=>(i,a.eval x))=some cells→P.built t (parts.toList.map fun(i,x)=>(i,a.eval x))=some cells)→OpOk P fr n s a w o (.val z'):=by
   intro z z' zv i place hz hi hzv hrs hag hp hb
   obtain⟨cells,c1,c2,c3⟩:=partsAV_ok hr place parts.toList z z' zv.cells hp hrs
   have hrun:=run_build (P:=P) w t (parts.map fun(i,x)=>(i,a.eval x)) cells (by rw[Array.toList_map];exact hb cells c1)
   refine OpOk.pure hr hd (v:=.agg cells) (R1.toRV ⟨c2,fun _=>⟨_,rfl⟩,fun e=>by rw[c3,hag] at e;cases e⟩) ?_
   simp[execOp,ho,hrun]
  split at h
  ·rename_i z fs hz hu
   split at h
   ·rename_i pl hpl
    obtain⟨z',hz',e⟩:=Option.map_eq_some_iff.1 h
    cases e
    obtain⟨i,zv,hi,hzv,hrs⟩:=zeroOf_ok hz
    refine bld (pl.toArray[·]?) hz hi hzv (hrs w K).1 (by rw[(hrs w K).2];simp[isStruct,hu]) hz' (fun cells hc=>?_)
    unfold places at hpl
    simp only[Program.built,hi,hu,hzv,hpl]
    exact hc
   ·cases h
  ·rename_i z m e hz hu
   split at h
   ·rename_i hie
    obtain⟨z',hz',e'⟩:=Option.map_eq_some_iff.1 h
    cases e'
    obtain⟨ie,hie⟩:=Option.isSome_iff_exists.1 hie
    obtain⟨i,zv,hi,hzv,hrs⟩:=zeroOf_ok hz
    have hce:P.cellsOf e=ie.size:=by simp[Program.cellsOf,hie]
    refine bld (fun i=>some (i*P.cellsOf e,P.cellsOf e)) hz hi hzv (hrs w K).1 (by rw[(hrs w K).2];simp[isStruct,hu]) hz' (fun cells hc=>?_)
    rw[hce] at hc
    simp only[Program.built,hi,hu,hzv,hie]
    exact hc
   ·cases h
  ·cases h
 ·rename_i t len parts
  split at h
  ·rename_i e hu
   split at h
   ·rename_i p hp
    split at h
    ·rename_i i hi
     split at h
     ·rename_i hcond
      obtain⟨k1,k2,k3⟩:=hcond
      subst k1
      cases h
      obtain⟨b,e',y⟩:=p
      obtain⟨x,hparts,hx⟩:=winPart_spec hp
      obtain⟨zv,hzv⟩:=Option.isSome_iff_exists.1 k3
      have hpe:parts=#[(0,x)]:=by cases h':parts;simp_all
      obtain⟨bb,j,cap,hb,g1,g2,g3,g4,g5⟩:=RV.win (hx▸opn x)
      have hcells:(a.eval x).cells=#[a.eval x]:=by rw[hb];rfl
      have hrun:=run_buildSlice (P:=P) w t e 1 (parts.map fun(i,x)=>(i,a.eval x)) #[a.eval x] i zv hu hi hzv (by rw[k2];decide) (by rw[k2];decide) (by
       subst hpe
       simp[Instr.fill,k2,hcells,show Array.range 1=#[0] from rfl])
      have hst:Still w K (w.alloc (.cells #[a.eval x] e)) (setK K w.heap.size (.row id 1)):=Still.alloc w K _ _ _ _ 0
      refine⟨_,_,_,.inl (by simp[execOp,ho,hrun];rfl),(hr.still hst).setO hd ?_⟩
      refine R1.toRV (a:=⟨.wsl none b e',[y]⟩) ⟨⟨⟨some ⟨w.heap.size,0,none⟩,1,1,rfl,rfl,Nat.le_refl _,(fun h=>by cases h),fun ad had=>?_⟩,(fun t _ _ _ ht=>by cases ht)⟩,(fun e=>(by cases e)),(fun _ c e=>(by cases e))⟩
      cases had
      refine⟨[a.eval x],⟨[a.eval x],[],rfl,?_,rfl⟩,?_⟩
      ·exact RWin.ext hst.ext.size (fun b' hb' hk'=>⟨hst.ext.box b' _ hb' hk',fun n hn=>hst.ext.bsz b' _ n hb' hk' hn⟩) ⟨bb,j,cap,by rw[hb],g1,g2,g3,g4,g5⟩
      ·have:=At.new w K [a.eval x] #[] e (0,0) id 1 0 (Nat.le_refl _)
       simpa using this
     ·cases h
    ·cases h
   ·split at h
    ·rename_i τ z hτ hz
     split at h
     ·rename_i z0 hz0
      split at h
      ·rename_i hcond
       obtain⟨k1,k2,k3⟩:=hcond
       obtain⟨xs,hxs,e'⟩:=Option.map_eq_some_iff.1 h
       cases e'
       unfold zeroTy at hz
       split at hz
       ·rename_i z1 hz1
        cases hz
        obtain⟨i,zv,hi,hzv,hrs⟩:=zeroOf_ok hz1
        have hce:P.cellsOf e=i.size:=by simp[Program.cellsOf,hi]
        have hz2:RT w K τ z0 zv.cells.toList:=by
         have h1:=(hrs w K).1
         obtain⟨sh,x⟩:=z1
         cases sh
         case tup=>exact h1.elim
         all_goals
          have h2:=RS.ren (w':=w) (K':=K) (ρ:=fun _=>none) (σ:=some) (fun _ _ _ hh=>⟨hh,rfl⟩) (Nat.le_refl _) (fun _ _ _ _ _ _ hh=>(by cases hh)) (fun b id j _ hk hj=>by cases hj;exact⟨hk,fun _ h=>h⟩) _ _ _ h1
          exact as_RT _ _ _ _ _ hz0 h2
        have hzl:=RT.length _ _ _ hz2
        have hzs:zv.cells.size=P.cellsOf e:=by rw[k3,←hzl];simp
        have hpos:0<P.cellsOf e:=k2
        have hrl:=RL.replicate hz2 len
        have hcells:=zeros_cells zv.cells len (by rw[hzs];exact hpos)
        obtain⟨cells,c1,c2,c3⟩:=buildSl_ok hr k3 (fun k=>by rw[k3]) parts.toList (List.replicate len z0) xs ((Array.range (len*zv.cells.size)).map (zv.cells[· % zv.cells.size]!)) hxs (by rw[hcells];exact hrl)
        have hrun:=run_buildAny (P:=P) w t e len (parts.map fun(i,x)=>(i,a.eval x)) cells i zv hu hi hzv (by rw[←hce];omega) (by rw[←hce];exact hpos)
         (by rw[Array.toList_map,←hce,←hzs];rw[hzs] at c1 ⊢;exact c1)
        have hst:Still w K (w.alloc (.cells cells e)) (setK K w.heap.size (.row id (len*τ.size))):=Still.alloc w K _ _ _ _ 0
        refine⟨_,_,_,.inl (by simp[execOp,ho,hrun];rfl),(hr.still hst).setO hd ?_⟩
        have hxl:xs.length=len:=by rw[c3];simp
        have hcl:=RL.length (RT.length τ) xs _ c2
        have hat:At (w.alloc (.cells cells e)) (setK K w.heap.size (.row id (len*τ.size))) ⟨w.heap.size,0,none⟩ cells.toList:=by
         have:=At.new w K cells.toList #[] e (0,0) id (len*τ.size) 0 (by rw[hcl,hxl];exact Nat.le_refl _)
         simpa using this
        refine R1.toRV (a:=⟨.osl id τ,xs⟩) ⟨⟨⟨some ⟨w.heap.size,0,none⟩,len,len,rfl,hxl.symm,Nat.le_refl _,(fun h=>by cases h),fun ad had=>?_⟩,fun A l c hc=>?_⟩,(fun e=>(by cases e)),(fun _ c e=>(by cases e))⟩
        ·cases had
         exact⟨_,RL.imp (RT.ext hst.ext.stab τ) xs _ c2,hat⟩
        ·injection hc with hc
         injection hc with q1 q2 q3
         exact .inr (.inl (by rw[←q2,←q3]))
       ·cases hz
      ·cases h
     ·cases h
    ·cases h
  ·cases h
 ·rename_i t x
  split at h
  ·cases h
  ·rename_i hk
   obtain⟨v,hv,e'⟩:=Option.map_eq_some_iff.1 h
   cases e'
   obtain⟨r,r1,r2⟩:=loadAV_ok hr (by simpa using hk) hv (opn x)
   exact exv (by unfold execOp;rw[ho]) r1 r2
 ·rename_i t x y
  split at h
  ·cases h
  ·rename_i hk
   split at h
   case isFalse=>cases h
   obtain⟨ef,hef,e'⟩:=Option.map_eq_some_iff.1 h
   cases e'
   obtain⟨w',r1,r2⟩:=storeAV_ok hr hd (by simpa using hk) hef (opn x) (opn y)
   exact⟨undef,w',K,.inr ⟨by simp[execOp,ho,r1],rfl⟩,r2⟩
 ·rename_i x
  split at h
  ·rename_i id' off v hx
   cases h
   obtain⟨b,hb,_⟩:=RV.box (hx▸opn x)
   exact OpOk.pure hr hd (v:=a.eval x) (hx▸opn x) (by simp[execOp,ho,hb])
  ·rename_i t off v hx
   cases h
   obtain⟨ad,cc,hb,_⟩:=RV.ref (hx▸opn x)
   exact OpOk.pure hr hd (v:=a.eval x) (hx▸opn x) (by simp[execOp,ho,hb])
  ·rename_i i1 i2 i3 i4 v hx
   cases h
   obtain⟨b,hb,_⟩:=RV.boxi (hx▸opn x)
   exact OpOk.pure hr hd (v:=a.eval x) (hx▸opn x) (by simp[execOp,ho,hb])
  ·rename_i i1 i2 i3 v hx
   cases h
   obtain⟨b,hb,_⟩:=RV.elp (hx▸opn x)
   exact OpOk.pure hr hd (v:=a.eval x) (hx▸opn x) (by simp[execOp,ho,hb])
  ·rename_i i1 i2 v hx
   cases h
   obtain⟨ad,cc,hb,_⟩:=RV.wref (hx▸opn x)
   exact OpOk.pure hr hd (v:=a.eval x) (hx▸opn x) (by simp[execOp,ho,hb])
  ·cases h
 ·rename_i op t x y _
  obtain⟨⟨c',r⟩,hb,e'⟩:=Option.map_eq_some_iff.1 h
  cases e'
  obtain⟨z,z1,z2⟩:=binAV_ok heqs hb hc (opn x) (opn y) x y
  exact exv (m:=do eqGuard op t x y (a.eval x) (a.eval y);binOp op t (a.eval x) (a.eval y)) (by unfold execOp;rw[ho]) z1 z2
 ·rename_i op t x
  obtain⟨r,hb,e'⟩:=Option.map_eq_some_iff.1 h
  cases e'
  obtain⟨z,z1,z2⟩:=unAV_ok (P:=P) hb (opn x)
  exact exv (by unfold execOp;rw[ho]) z1 z2
 ·rename_i t t' x
  obtain⟨r,hb,e'⟩:=Option.map_eq_some_iff.1 h
  cases e'
  obtain⟨z,z1,z2⟩:=convAV_ok hb (opn x)
  exact exv (by unfold execOp;rw[ho]) z1 z2
 ·rename_i fn first caps
  split at h
  ·rename_i f
   split at h
   ·rename_i hcond
    cases h
    simp only[Bool.and_eq_true,List.all_eq_true] at hcond
    have hp:=pack_RS (w:=w) (K:=K) (caps.toList.map fun c=>(opnd s c,a.eval c)) (fun p hp=>by
     obtain⟨c,hc1,rfl⟩:=List.mem_map.1 hp
     exact⟨opn c,hcond.2 c hc1⟩)
    have e1:(caps.toList.map fun c=>(opnd s c,a.eval c)).map (·.1)=caps.toList.map (opnd s):=by rw[List.map_map];rfl
    have e2:(caps.toList.map fun c=>(opnd s c,a.eval c)).map (·.2)=caps.toList.map a.eval:=by rw[List.map_map];rfl
    rw[e1,e2] at hp
    have hf:first=#[]:=by simpa using hcond.1
    refine OpOk.pure hr hd (v:=.func (.func f) #[] (caps.map a.eval)) (R1.toRV (a:=⟨.fn f (pack (caps.toList.map (opnd s))).sh,(pack (caps.toList.map (opnd s))).v⟩) ⟨⟨caps.toList.map a.eval,?_,hp⟩,(fun e=>(by cases e)),(fun _ c e=>(by cases e))⟩) ?_
    ·simp[Value.cells,←Array.toList_map]
    ·subst hf
     simp[execOp,ho,Instr.makeFunc]
   ·cases h
  ·cases h
 ·rename_i t x f
  split at h
  ·rename_i fl hfl
   split at h
   ·cases h
   ·rename_i hcond
    obtain⟨fs,hu,hfs⟩:=lenOf_fieldAddr hfl
    have hk:known P fl.type=true:=by
     cases hkk:known P fl.type
     ·exact(hcond (.inr (by rw[hkk];rfl))).elim
     ·rfl
    have hn0:P.cellsOf fl.type≠0:=fun h0=>hcond (.inl h0)
    have hrun:∀ad:Addr,(Instr.fieldAt t (.pointer (some ad)) f).run P w=.ok (.pointer (some (ad.add fl.offset))) w:=fun ad=>by
     simp[Instr.fieldAt,run_underlying hu,hfs,Instr.sureAddr,fieldPlace,run_sizeOf hk,hn0]
    split at h
    ·rename_i id' off v hx
     cases h
     obtain⟨b,hb,hkb⟩:=RV.box (hx▸opn x)
     refine exv (v:=.pointer (some ((⟨b,off,none⟩:Addr).add fl.offset))) (by unfold execOp;rw[ho]) (by rw[hb];exact hrun _) (R1.toRV (a:=.box id' (off+fl.offset)) ⟨⟨b,?_,hkb⟩,(fun e=>(by cases e)),(fun _ c e=>(by cases e))⟩)
     rw[add_eq rfl]
     rfl
    ·rename_i τ off v hx
     cases h
     obtain⟨ad,cc,hb,h1,h2⟩:=RV.ref (hx▸opn x)
     refine exv (v:=.pointer (some ((ad.add off).add fl.offset))) (by unfold execOp;rw[ho]) (by rw[hb];exact hrun _) (R1.toRV (a:=⟨.ref τ (off+fl.offset),v⟩) ⟨⟨ad,cc,?_,h1,h2⟩,(fun e=>(by cases e)),(fun _ c e=>(by cases e))⟩)
     rw[add_add]
     rfl
    ·rename_i id' e o' v hx
     cases h
     obtain⟨b,hb,hkb⟩:=RV.elp (hx▸opn x)
     refine exv (v:=.pointer (some ((⟨b,v*e.size+o',none⟩:Addr).add fl.offset))) (by unfold execOp;rw[ho]) (by rw[hb];exact hrun _) (R1.toRV (a:=⟨.elp id' e (o'+fl.offset),v⟩) ⟨⟨b,?_,hkb⟩,(fun e=>(by cases e)),(fun _ c e=>(by cases e))⟩)
     rw[add_eq rfl,Nat.add_assoc]
     rfl
    ·cases h
  ·cases h
 ·rename_i t x f
  split at h
  ·rename_i fl hfl
   split at h
   ·cases h
   ·rename_i hk
    obtain⟨r,hb,e'⟩:=Option.map_eq_some_iff.1 h
    cases e'
    have hk2:known P fl.type=true∧(opnd s x).sh.agg=true∧(opnd s x).sh.bare=true:=by simpa using hk
    obtain⟨hk,hag,hba⟩:=hk2
    obtain⟨fs,hu,hfs⟩:=lenOf_fieldAddr hfl
    have hx1:R1 w K (opnd s x).sh (opnd s x).v (a.eval x):=RV.solid (opn x) (by
     unfold AV.solid
     cases e:(opnd s x).sh<;>first|rfl |(rw[e] at hag;cases hag;done) |(rw[e] at hba;cases hba))
    obtain⟨cs,hcs⟩:=hx1.2.1 hag
    have hlen:=RS.length _ _ _ hx1.1
    obtain⟨i1,i2,i3⟩:=Sh.sub_RS _ _ _ _ _ _ _ hb hx1.1
    have hsz:r.sh.size=P.cellsOf fl.type:=by
     have:=RS.length _ _ _ i1
     rw[List.length_take,List.length_drop,hlen] at this
     omega
    have hone:isStruct P fl.type=false→P.cellsOf fl.type=1:=fun e=>by rw[←hsz];exact Sh.size_pos _ (by rw[i2,e])
    have hp:=run_part (P:=P) (cs:=cs.toList) (off:=fl.offset) hk (by rw[hcs] at hlen;simp only[Value.cells] at hlen;rw[hlen];exact i3) hone w
    refine exv (by unfold execOp;rw[ho]) (v:=mkV (isStruct P fl.type) ((cs.toList.drop fl.offset).take (P.cellsOf fl.type))) ?_ ?_
    ·rw[hcs]
     simpa [Instr.field,run_underlying hu,hfs,asAgg] using hp
    ·have i1':RS w K r.sh r.v (List.take (P.cellsOf fl.type) (List.drop fl.offset cs.toList)):=by rw[hcs] at i1;exact i1
     exact RV.of_cells i1' i2 (fun _ _ c e=>RS.one _ _ _ i1' c (by rw[e];simp))
  ·cases h
 ·rename_i t x i
  split at h
  ·rename_i el m hu hi
   split at h
   ·rename_i e xs hxs
    split at h
    ·rename_i hcond
     obtain⟨hsz,hpos,hk⟩:=hcond
     cases h
     simp only[inRange,Bool.and_eq_true,decide_eq_true_eq] at hc
     obtain⟨k,hik⟩:=natOf_ok hi (opn i)
     have hsl:∃A len cap,a.eval x=.slice A len cap∧RT w K (.sl e) xs [.slice A len cap]:=by
      have hx:=opn x
      generalize opnd s x=ax at hx hxs
      obtain⟨sh,xv⟩:=ax
      cases sh<;>simp only[asSl] at hxs<;>try cases hxs
      case ty τ =>
       cases τ<;>simp only[] at hxs<;>try cases hxs
       exact RV.sl hx
      case osl =>
       obtain⟨A,len,cap,h1,h2,_⟩:=RV.osl hx
       exact⟨A,len,cap,h1,h2⟩
     obtain⟨A,len,cap,hav,A',len',cap',he,x1,x2,x3,x4⟩:=hsl
     injection he with he _
     injection he with q1 q2 q3
     subst q1 q2 q3
     cases A with
     |none=>have:=x3 rfl;omega
     |some ad =>
      obtain⟨cc,c1,c2⟩:=x4 ad rfl
      have hlt:m.toNat<xs.length:=by omega
      have hg:=RL.get (RT.length e) e.dflt xs cc m.toNat c1 hlt
      have hat:=c2.add (m.toNat*e.size) e.size
      refine exv (v:=.pointer (some ((ad.add (m.toNat*e.size)).add 0))) (by unfold execOp;rw[ho]) ?_ (R1.toRV (a:=⟨.ref e 0,_⟩) ⟨⟨_,_,rfl,hg,hat⟩,(fun e=>(by cases e)),(fun _ c e=>(by cases e))⟩)
      rw[hav,hik]
      have hs:=run_sizeOf hk w
      rw[hsz] at hs
      have h1:0≤m:=hc.1
      have h2:m<len:=by rw[x1];exact hc.2
      simp[Instr.indexAt,asIntOf,run_underlying hu,h1,h2,hs,Addr.add]
    ·cases h
   ·split at h
    ·rename_i id' e y hx
     split at h
     ·rename_i hcond
      obtain⟨hsz,hpos,hk⟩:=hcond
      cases h
      simp only[inRange,Bool.and_eq_true,decide_eq_true_eq] at hc
      obtain⟨kk,hik⟩:=natOf_ok hi (opn i)
      obtain⟨b,j,cap,hb,g1,g2,g3,g4,g5⟩:=RV.win (hx▸opn x)
      have hj:=g4 (by omega)
      refine exv (v:=.pointer (some ((⟨b,j,none⟩:Addr).add (m.toNat*e.size)))) (by unfold execOp;rw[ho]) ?_ (R1.toRV (a:=⟨.elp id' e 0,y.1+m.toNat⟩) ⟨⟨b,?_,g1,g2,g5.le (Nat.mul_le_mul_right _ (by show y.1+m.toNat+1≤y.1+y.2;omega))⟩,(fun e=>(by cases e)),(fun _ c e=>(by cases e))⟩)
      ·rw[hb,hik]
       have hs:=run_sizeOf hk w
       rw[hsz] at hs
       simp[Instr.indexAt,asIntOf,run_underlying hu,hc.1,hc.2,hs]
      ·rw[add_eq rfl,hj,Nat.add_mul,Nat.add_zero]
       rfl
     ·cases h
    ·rename_i tg id' e ys hx
     split at h
     ·rename_i hcond
      obtain⟨hsz,hk⟩:=hcond
      cases h
      simp only[inRange,Bool.and_eq_true,decide_eq_true_eq] at hc
      obtain⟨kk,hik⟩:=natOf_ok hi (opn i)
      obtain⟨A,len,cap,hb,⟨A',len',cap',he,x1,x2,x3,x4⟩,_⟩:=RV.wsl (hx▸opn x)
      injection he with he _
      injection he with q1 q2 q3
      subst q1 q2 q3
      cases A with
      |none=>have:=x3 rfl;omega
      |some ad =>
       obtain⟨cc,c1,c2⟩:=x4 ad rfl
       have hlt:m.toNat<ys.length:=by omega
       have hlen:∀x c,RWin w K id' e x c→c.length=1:=fun _ _ ⟨_,_,_,h,_⟩=>by rw[h];rfl
       have hg:=RL.getW (d:=(0,0)) hlen ys cc m.toNat c1 hlt
       have hat:=c2.add m.toNat 1
       refine exv (v:=.pointer (some (ad.add m.toNat))) (by unfold execOp;rw[ho]) ?_ (R1.toRV (a:=⟨.wref id' e,_⟩) ⟨⟨_,_,rfl,hg,hat⟩,(fun e=>(by cases e)),(fun _ c e=>(by cases e))⟩)
       rw[hb,hik]
       have hs:=run_sizeOf hk w
       rw[hsz] at hs
       have h1:0≤m:=hc.1
       have h2:m<len:=by rw[x1];exact hc.2
       simp[Instr.indexAt,asIntOf,run_underlying hu,h1,h2,hs]
     ·cases h
    ·cases h
  ·rename_i k el m hu hi
   split at h
   ·rename_i id' off v cst hx
    split at h
    ·cases h
    ·rename_i hcond
     have hk:known P el=true:=by
      cases hkk:known P el
      ·exact(hcond (.inr (by rw[hkk];rfl))).elim
      ·rfl
     cases h
     simp only[inRange,Bool.and_eq_true,decide_eq_true_eq] at hc
     obtain⟨kk,hik⟩:=natOf_ok hi (opn _)
     obtain⟨b,hb,hkb⟩:=RV.box (hx▸opn x)
     refine exv (v:=.pointer (some ((⟨b,off,none⟩:Addr).add (m.toNat*P.cellsOf el)))) (by unfold execOp;rw[ho]) ?_ (R1.toRV (a:=.box id' (off+m.toNat*P.cellsOf el)) ⟨⟨b,?_,hkb⟩,(fun e=>(by cases e)),(fun _ c e=>(by cases e))⟩)
     ·rw[hb,hik]
      simp[Instr.indexAt,asIntOf,run_underlying hu,Instr.sureAddr,hc.1,hc.2,run_sizeOf hk]
     ·rw[add_eq rfl]
      rfl
   ·rename_i id' off v hx _
    split at h
    ·rename_i e he
     split at h
     ·rename_i hcond
      obtain⟨hsz,hk⟩:=hcond
      cases h
      simp only[inRange,Bool.and_eq_true,decide_eq_true_eq] at hc
      obtain⟨kk,hik⟩:=natOf_ok hi (opn _)
      obtain⟨b,hb,hkb,hlt⟩:=RV.box (hx▸opn x)
      refine exv (v:=.pointer (some ((⟨b,off,none⟩:Addr).add (m.toNat*P.cellsOf el)))) (by unfold execOp;rw[ho]) ?_ (R1.toRV (a:=⟨.boxi id' off k e,m.toNat⟩) ⟨⟨b,?_,hkb,hlt,(show m.toNat<k by omega)⟩,(fun e=>(by cases e)),(fun _ c e=>(by cases e))⟩)
      ·rw[hb,hik]
       simp[Instr.indexAt,asIntOf,run_underlying hu,Instr.sureAddr,hc.1,hc.2,run_sizeOf hk]
      ·rw[add_eq rfl,hsz]
       rfl
     ·cases h
    ·cases h
   ·cases h
  ·cases h
 ·rename_i t x i
  split at h
  ·rename_i m xs hu hi hx
   cases h
   simp only[inRange,Bool.and_eq_true,decide_eq_true_eq] at hc
   obtain⟨k,hik⟩:=natOf_ok hi (opn i)
   have hv:=RV.str (w:=w) (K:=K) (by have:=opn x;rw[hx] at this;exact this)
   refine exv (v:=.int .u8 (List.getD xs m.toNat 0).toNat) (by unfold execOp;rw[ho]) ?_ (RV.scalar (av:=.int _ _) rfl rfl rfl)
   rw[hv,hik]
   have hlt:m.toNat<xs.length:=by omega
   have hget:(⟨⟨xs⟩⟩:ByteArray)[m.toNat]?=some xs[m.toNat]:=by
    rw[getElem?_pos (⟨⟨xs⟩⟩:ByteArray) m.toNat hlt]
    rfl
   simp[Instr.index,asIntOf,run_underlying hu,hc.1,hget,List.getD,hlt]
  ·rename_i k el m m' e xs hu hi hx
   split at h
   ·rename_i hcond
    obtain⟨h1,h2,h3,hk⟩:=hcond
    cases h
    subst h1
    simp only[inRange,Bool.and_eq_true,decide_eq_true_eq] at hc
    obtain⟨kk,hik⟩:=natOf_ok hi (opn i)
    have hx1:R1 w K (.ty (.arr k e)) xs (a.eval x):=by have:=opn x;rw[hx] at this;exact this
    obtain⟨cs,hcs⟩:=hx1.2.1 rfl
    obtain⟨l1,l2⟩:=hx1.1
    have hlt:m.toNat<k:=by omega
    have hg:=RL.get (RT.length e) e.dflt xs _ m.toNat l2 (by rw[l1];exact hlt)
    have hll:=RL.length (RT.length e) xs _ l2
    have hb:=arith2 (sz:=e.size) hlt
    have hone:isStruct P el=false→P.cellsOf el=1:=fun e'=>by rw[h2];exact Ty.size_pos _ (by rw[←h3,e'])
    have hp:=run_part (P:=P) (cs:=cs.toList) (off:=m.toNat*e.size) hk (by rw[hcs] at hll;simp only[Value.cells] at hll;rw[hll,l1,h2];exact hb) hone w
    refine exv (v:=mkV (isStruct P el) ((cs.toList.drop (m.toNat*e.size)).take (P.cellsOf el))) (by unfold execOp;rw[ho]) ?_ ?_
    ·rw[hcs,hik]
     have hs:=run_sizeOf hk w
     rw[h2] at hs
     rw[h2] at hp
     simpa [Instr.index,asIntOf,run_underlying hu,hc.1,hc.2,hs,h2] using hp
    ·have hg':RT w K e (List.getD xs m.toNat e.dflt) (List.take e.size (List.drop (m.toNat*e.size) cs.toList)):=by rw[hcs] at hg;exact hg
     rw[h2]
     exact RV.of_cells (av:=⟨.ty e,_⟩) hg' (by rw[h3];rfl) (fun _ _ c e'=>RT.one _ _ _ hg' c (by rw[e'];simp))
   ·cases h
  ·cases h
 ·rename_i t x lo hi mx
  split at h
  ·cases h
  ·rename_i hmx
   have hmx:mx=none:=by cases mx<;>simp at hmx ⊢
   subst hmx
   have oRV:∀q:Option Operand,optRV w K (q.map (opnd s)) (q.map a.eval):=fun q=>by
    cases q with
    |none=>trivial
    |some q=>exact opn q
   split at h
   ·rename_i hu
    split at h
    ·rename_i v hx
     obtain⟨⟨c',r⟩,hb,e'⟩:=Option.map_eq_some_iff.1 h
     cases e'
     obtain⟨z,z1,z2⟩:=sliceAt_str hu (oRV lo) (oRV hi) hb hc
     have hv:=RV.str (w:=w) (K:=K) (b:=v) (v:=a.eval x) (by have:=opn x;rw[hx] at this;exact this)
     refine exv (m:=Instr.sliceAt t (a.eval x) (lo.map a.eval) (hi.map a.eval) none) (by unfold execOp;rw[ho];rfl) ?_ z2
     rw[hv]
     exact z1
    ·cases h
   ·rename_i el hu
    split at h
    ·rename_i e xs hxs
     split at h
     ·rename_i hcond
      obtain⟨⟨c',r⟩,hb,e'⟩:=Option.map_eq_some_iff.1 h
      cases e'
      obtain⟨z,z1,z2⟩:=sliceAt_sl hu hcond.2 hcond.1 hxs (opn x) (oRV lo) (oRV hi) hb hc
      exact exv (m:=Instr.sliceAt t (a.eval x) (lo.map a.eval) (hi.map a.eval) none) (by unfold execOp;rw[ho];rfl) z1 z2
     ·cases h
    ·split at h
     ·rename_i id' e y hx
      split at h
      ·rename_i hcond
       obtain⟨⟨c',r⟩,hb,e'⟩:=Option.map_eq_some_iff.1 h
       cases e'
       obtain⟨z,z1,z2⟩:=sliceAt_win hu hcond.2 hcond.1 (hx▸opn x) (oRV lo) (oRV hi) hb hc
       exact exv (m:=Instr.sliceAt t (a.eval x) (lo.map a.eval) (hi.map a.eval) none) (by unfold execOp;rw[ho];rfl) z1 z2
      ·cases h
     ·cases h
   ·cases h
 ·rename_i t len cap
  split at h
  ·rename_i e cc hu hcap
   split at h
   ·rename_i τ z i hτ hz hi
    split at h
    ·rename_i hsz
     cases h
     simp only[roomOk,Bool.and_eq_true,decide_eq_true_eq] at hc
     obtain⟨⟨h1,h2⟩,h3⟩:=hc
     obtain⟨k,hik⟩:=natOf_ok hcap (opn cap)
     obtain⟨zv,hzv⟩:∃zv,i.zero=some zv:=by
      unfold zeroTy at hz
      split at hz
      ·rename_i z1 hz1
       obtain⟨i',zv,hi',hzv,_⟩:=zeroOf_ok hz1
       rw[hi] at hi'
       cases hi'
       exact⟨zv,hzv⟩
      ·cases hz
     have hce:P.cellsOf e=i.size:=by simp[Program.cellsOf,hi]
     have hw:IntKind.i64.wrap cc=cc:=by
      exact wrap_i64 _ (by omega) (by omega)
     have hl0:IntKind.i64.wrap 0=0:=by decide
     have hrun:∃cells:Array Value,cells.size=cc.toNat*τ.size∧(Instr.makeSlice t (.int .i64 0) (.int k cc)).run P w=.ok (.slice (some ⟨w.heap.size,0,none⟩) 0 cc.toNat) (w.alloc (.cells cells e)):=by
      by_cases h0:cc.toNat*i.size=0
      ·refine⟨#[],by rw[←hsz,hce,h0];rfl,?_⟩
       have hn:¬(cc<0):=by omega
       have hm:¬((i.bytes:Int)*cc > 281474976710656):=by rw[Int.mul_comm];omega
       simp[Instr.makeSlice,run_underlying hu,typeInfo,hi,asInt,asIntOf,hw,hl0,hn,hm,sizeOf,h0,newRow]
       congr 2
       exact Array.eq_empty_of_size_eq_zero (by simp)
      ·refine⟨(Array.range (cc.toNat*i.size)).map (zv.cells[· % zv.cells.size]!),by rw[←hsz,hce];simp,?_⟩
       have hn:¬(cc<0):=by omega
       have hm:¬((i.bytes:Int)*cc > 281474976710656):=by rw[Int.mul_comm];omega
       simp[Instr.makeSlice,run_underlying hu,typeInfo,hi,asInt,asIntOf,hw,hl0,hn,hm,sizeOf,h0,newRow,zeroValue,hzv]
     obtain⟨cells,hcs,hrun⟩:=hrun
     have hst:Still w K (w.alloc (.cells cells e)) (setK K w.heap.size (.row id 0)):=Still.alloc w K _ _ _ _ 0
     refine⟨_,_,_,.inl (exec_v (m:=Instr.makeSlice t (.int .i64 0) (a.eval cap)) (by unfold execOp;rw[ho];rfl) (by rw[hik];exact hrun)),(hr.still hst).setO hd ?_⟩
     refine R1.toRV (a:=⟨.osl id τ,[]⟩) ⟨⟨⟨_,0,cc.toNat,rfl,rfl,Nat.zero_le _,(fun h=>by cases h),fun ad _=>⟨[],rfl,fun j v hj=>by simp at hj⟩⟩,fun A l c hc=>?_⟩,(fun e=>(by cases e)),(fun _ c e=>(by cases e))⟩
     injection hc with hc
     injection hc with q1 q2 q3
     subst q1 q2 q3
     refine .inr (.inr ⟨_,rfl,rfl,by rw[setK_same,Nat.zero_mul],cells,e,heap_new w _,?_⟩)
     show 0+cc.toNat*τ.size≤cells.size
     omega
    ·cases h
   ·cases h
  ·cases h
 ·rename_i t x i ok
  split at h
  ·rename_i b u k hx hi
   split at h
   ·rename_i l hl
    split at h
    ·rename_i hmt
     cases h
     obtain⟨bb,hb,hkb,hlt⟩:=RV.mp (hx▸opn x)
     obtain⟨av,bo,e1,e2,e3⟩:=hr.heap bb b hlt hkb
     have:av=⟨.mapc,l⟩:=by
      unfold heapAt at hl
      split at hl
      ·cases hl
      ·rw[e1] at hl;cases hl;rfl
     subst this
     obtain⟨es,c,rfl,hm⟩:=e3
     have hiv:a.eval i=.int .i64 k:=RV.int (hi▸opn i)
     have hrun:=run_lookup hmt e2 hm k ok
     refine exv (m:=Instr.lookup t (a.eval x) (a.eval i) ok) (by unfold execOp;rw[ho]) (by rw[hb,hiv];exact hrun) ?_
     cases ok
     ·exact RV.scalar (av:=.int _ _) rfl rfl rfl
     ·exact⟨_,rfl,⟨rfl,(fun e=>(by cases e)),(fun _ c e=>(by cases e))⟩,⟨rfl,(fun e=>(by cases e)),(fun _ c e=>(by cases e))⟩,rfl⟩
    ·cases h
   ·cases h
  ·cases h
 ·rename_i t x i v
  split at h
  ·rename_i b u k vv hx hi hv
   split at h
   ·rename_i l hl
    split at h
    ·rename_i hmt
     cases h
     obtain⟨bb,hb,hkb,hlt⟩:=RV.mp (hx▸opn x)
     obtain⟨av,bo,e1,e2,e3⟩:=hr.heap bb b hlt hkb
     rw[hl] at e1
     cases e1
     obtain⟨es,c,rfl,hm⟩:=e3
     have hiv:a.eval i=.int .i64 k:=RV.int (hi▸opn i)
     have hvv:a.eval v=.int .i64 vv:=RV.int (hv▸opn v)
     obtain⟨es',c',hrun,hm'⟩:=run_mapUpdate hmt e2 hm k vv
     refine⟨undef,putO w bb (.map es' c'),K,.inr ⟨by simp[execOp,ho,hb,hiv,hvv,hrun],rfl⟩,?_⟩
     have hh:(putO w bb (.map es' c')).heap[bb]?=some (.map es' c'):=by simp[putO,hlt]
     exact hr.putObj (w':=putO w bb (.map es' c')) (c:=⟨.mapc,mput l k vv⟩) hd hlt hkb rfl rfl rfl (by simp[putO]) (fun x hx=>by simp[putO,Ne.symm hx]) e2 rfl hh (fun m ⟨cs,T,q1,_⟩=>by rw[e2] at q1;cases q1) ⟨es',c',rfl,hm'⟩ undef
    ·cases h
   ·cases h
  ·cases h
 ·rename_i x m
  split at h
  ·rename_i sh v hx
   obtain⟨r,hb,e'⟩:=Option.map_eq_some_iff.1 h
   cases e'
   obtain⟨vs,hv,ht⟩:∃vs,a.eval x=.tuple vs∧RTup w K sh v vs.toList:=by have:=opn x;rw[hx] at this;exact this
   obtain⟨u,hu,hr'⟩:=nth_ok _ _ _ _ hb ht
   refine exv (by unfold execOp;rw[ho]) ?_ hr'
   rw[hv]
   have hu':vs[m]?=some u:=by simpa using hu
   simp[Instr.extract,hu']
  ·cases h
 ·rename_i c'
  split at h
  ·rename_i hcal
   split at h
   ·rename_i t x hat hargs
    have hat:c'.argTypes=#[t]:=by cases h':c'.argTypes;simp_all
    have hargs:c'.args=#[x]:=by cases h':c'.args;simp_all
    have hex:∀v:Value,(Builtin.len_ #[t] o.type #[a.eval x]).run P w=.ok v w→(execOp a.eval o).run P w=.ok (.value v) w:=fun v hv=>by
     simp[execOp,ho,resolve,hcal,invoke,builtin,hat,hargs,hv]
    have fin:∀m:Nat,(Builtin.len_ #[t] o.type #[a.eval x]).run P w=.ok (.int .i64 m) w→OpOk P fr n s a w o (.val (.int .i64 (m:Nat))):=fun m hm =>
     OpOk.pure hr hd (RV.scalar (av:=.int _ _) rfl rfl rfl) (hex _ hm)
    split at h
    ·rename_i v hu hx
     cases h
     refine fin _ ?_
     have hv:=RV.str (w:=w) (K:=K) (b:=v) (v:=a.eval x) (by have:=opn x;rw[hx] at this;exact this)
     rw[hv]
     simp[Builtin.len_,run_underlying hu,goInt]
     rfl
    ·rename_i e τ v hu hx
     cases h
     refine fin _ ?_
     obtain⟨A,len,cap,hv,A',len',cap',he,x1,_⟩:=RV.sl (w:=w) (K:=K) (by have:=opn x;rw[hx] at this;exact this)
     injection he with he _
     injection he with q1 q2 q3
     rw[hv,q2,x1]
     simp[Builtin.len_,run_underlying hu,goInt]
    ·rename_i e id' τ v hu hx
     cases h
     refine fin _ ?_
     obtain⟨A,len,cap,hv,⟨A',len',cap',he,x1,_⟩,_⟩:=RV.osl (w:=w) (K:=K) (by have:=opn x;rw[hx] at this;exact this)
     injection he with he _
     injection he with q1 q2 q3
     rw[hv,q2,x1]
     simp[Builtin.len_,run_underlying hu,goInt]
    ·rename_i e id' τ v hu hx
     cases h
     refine fin _ ?_
     obtain⟨b,j,cap,hv,_⟩:=RV.win (w:=w) (K:=K) (by have:=opn x;rw[hx] at this;exact this)
     rw[hv]
     simp[Builtin.len_,run_underlying hu,goInt]
    ·rename_i e tg id' τ v hu hx
     cases h
     refine fin _ ?_
     obtain⟨A,len,cap,hv,⟨A',len',cap',he,x1,_⟩,_⟩:=RV.wsl (w:=w) (K:=K) (by have:=opn x;rw[hx] at this;exact this)
     injection he with he _
     injection he with q1 q2 q3
     rw[hv,q2,x1]
     simp[Builtin.len_,run_underlying hu,goInt]
    ·rename_i _ m e hu
     cases h
     refine fin _ ?_
     simp[Builtin.len_,run_underlying hu,goInt]
    ·cases h
   ·cases h
  ·rename_i hcal
   obtain⟨v,hv,e'⟩:=Option.map_eq_some_iff.1 h
   cases e'
   obtain⟨x,l,u,hl,hrun,hu⟩:=extreme_ok (P:=P) (w:=w) (K:=K) (a:=a) (g:=Builtin.min2) (fun k x y=>by simp[Builtin.min2,imin,Bool.cond_eq_ite]) hv (fun x _=>opn x)
   have hargs:c'.args=(x::l).toArray:=by cases h':c'.args;simp_all
   exact OpOk.pure hr hd hu (by simp[execOp,ho,resolve,hcal,invoke,builtin,Builtin.min_,hargs,hrun])
  ·rename_i hcal
   obtain⟨v,hv,e'⟩:=Option.map_eq_some_iff.1 h
   cases e'
   obtain⟨x,l,u,hl,hrun,hu⟩:=extreme_ok (P:=P) (w:=w) (K:=K) (a:=a) (g:=Builtin.max2) (fun k x y=>by simp[Builtin.max2,imax,Bool.cond_eq_ite]) hv (fun x _=>opn x)
   have hargs:c'.args=(x::l).toArray:=by cases h':c'.args;simp_all
   exact OpOk.pure hr hd hu (by simp[execOp,ho,resolve,hcal,invoke,builtin,Builtin.max_,hargs,hrun])
  ·rename_i hcal
   split at h
   ·rename_i t t' x y hat hargs
    split at h
    ·rename_i htt
     subst htt
     have hat:c'.argTypes=#[t,t]:=by cases h':c'.argTypes;simp_all
     have hargs:c'.args=#[x,y]:=by cases h':c'.args;simp_all
     split at h
     ·rename_i e hu
      split at h
      ·rename_i p hp
       split at h
       ·rename_i i hi
        split at h
        ·rename_i hcond
         cases h
         obtain⟨k1,k2,k3⟩:=hcond
         obtain⟨tg,b,τ,xs,ys⟩:=p
         obtain⟨tg',hx,hy⟩:=wslArgs_spec hp
         obtain⟨A,l,k,q1,q2,q3⟩:=wslOf_ok hx (opn x)
         obtain⟨B,l2,k2',p1,p2,_⟩:=RV.wsl (hy▸opn y)
         obtain⟨r,w',K',hrun,hrel⟩:=append_wsl_ok (d:=o.dst) (ty:=o.type) (u:=a.eval x) (v:=a.eval y) hr hd hu hi k1 k2 k3 (by simpa [wroom] using hc) q1 (by rw[q1];exact q2) q3 (by rw[p1];exact p2)
         exact⟨r,w',K',.inl (by simp[execOp,ho,resolve,hcal,invoke,builtin,hat,hargs,hrun]),hrel⟩
        ·cases h
       ·cases h
      ·split at h
       ·rename_i id' τ xs i hx hi
        split at h
        ·rename_i ys hy
         split at h
         ·rename_i hcond
          cases h
          obtain⟨k1,k2,k3,k4⟩:=hcond
          obtain⟨hy1,hy2⟩:=RV.as_mk (opn y) hy
          obtain⟨r,w',K',hrun,hrel⟩:=append_ok (d:=o.dst) (ty:=o.type) hr hd hu hi k1 k3 k4 (by simpa using hc) (hx▸ownNil_RV (opn x)) hy1 hy2
          exact⟨r,w',K',.inl (by simp[execOp,ho,resolve,hcal,invoke,builtin,hat,hargs,hrun]),hrel⟩
         ·cases h
        ·cases h
       ·cases h
     ·cases h
    ·have hat:c'.argTypes=#[t,t']:=by cases h':c'.argTypes;simp_all
     have hargs:c'.args=#[x,y]:=by cases h':c'.args;simp_all
     split at h
     ·rename_i e hu hu'
      split at h
      ·rename_i id' xs b i hx hy hi
       split at h
       ·rename_i hcond
        cases h
        obtain⟨k1,k2,k3⟩:=hcond
        obtain⟨r,w',K',hrun,hrel⟩:=append_str_ok (d:=o.dst) (ty:=o.type) hr hd hu hu' hi k1 k2 k3 (by simpa using hc) (hx▸opn x) (hy▸opn y)
        exact⟨r,w',K',.inl (by simp[execOp,ho,resolve,hcal,invoke,builtin,hat,hargs,hrun]),hrel⟩
       ·cases h
      ·cases h
     ·cases h
   ·cases h
  ·cases h
 ·cases h
end
end Go.Av
end
