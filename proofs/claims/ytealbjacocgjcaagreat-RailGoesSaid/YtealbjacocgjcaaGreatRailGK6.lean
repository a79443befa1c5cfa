/- Texts of the proof, one behind the other. -/
import Derived.Test.YtealbjacocgjcaaGreatRailGK5
section
namespace Go.Av
open Go
section
variable {P:Program} {eqs:List TypeId} {fr:Fr} {n:Nat} {K:Kinds} {s:St} {a:Act} {w:World} {no:Nat→Bool} {id:Nat} {o:Oper}
def OpOk (P:Program) (fr:Fr) (n:Nat) (s:St) (a:Act) (w:World) (o:Oper) (e:Eff):Prop :=
 ∃v w' K',((execOp a.eval o).run P w=.ok (.value v) w'∨(execOp a.eval o).run P w=.ok .skip w'∧v=undef)∧Rel fr n K' (s.apply o.dst e) (a.put o.dst v) w'
theorem OpOk.pure (hr:Rel fr n K s a w) (hd:∀t,o.dst=some t→t<n) {av:AV} {v:Value} (hv:RV w K av v) (hrun:(execOp a.eval o).run P w=.ok (.value v) w) :
  OpOk P fr n s a w o (.val av):=⟨v,w,K,.inl hrun,hr.setO hd hv⟩
theorem solid_bare {a:AV} (h:a.solid=true):a.sh.bare=true:=by
 obtain⟨s,x⟩:=a
 cases s<;>first|rfl |cases h
theorem newOf_ok {t:TypeId} {z:AV} {zv:Value} (hb:z.sh.bare=true) (h:RS w K z.sh z.v zv.cells.toList):BoxOk w K (newOf t z (some zv)).sh (newOf t z (some zv)).v (.cells zv.cells t (0,0)):=by
 have e:(zv=.agg ⟨[.pointer none,.slice none 0 0]⟩∧newOf t z (some zv)=⟨.tyc t (.pair (.lit (.pointer none)) (.pair (.lit (.slice none 0 0)) (.ty .unit))),((),(),())⟩)∨newOf t z (some zv)=z:=by
  unfold newOf
  split
  ·rename_i heq
   cases heq
   exact .inl ⟨rfl,rfl⟩
  ·exact .inr rfl
 rcases e with⟨rfl,e⟩ |e
 ·rw[e]
  exact⟨_,rfl,[_],[_],rfl,⟨rfl,rfl⟩,[_],[],rfl,⟨rfl,rfl⟩,rfl⟩
 ·rw[e]
  exact BoxOk.of_RS hb h
theorem RV.scalar {av:AV} {v:Value} (h:RS w K av.sh av.v [v]) (h1:av.sh.agg=false) (h2:v.oneCell'=true):RV w K av v:=by
 have hc:v.cells=#[v]:=by cases v<;>first|rfl |cases h2
 exact R1.toRV ⟨by rw[hc];exact h,(fun e=>by rw[h1] at e;cases e),(fun _ c e=>by subst e;cases h2)⟩
theorem constAV_RV (v:Value):RV w K (constAV v) v:=by
 cases v
 case int k m=>exact RV.scalar (av:=.int k m) rfl rfl rfl
 case bool b=>exact RV.scalar (av:=.bool b) rfl rfl rfl
 case string b=>exact RV.scalar (av:=.str b.data.toList) rfl rfl rfl
 case agg=>trivial
 case tuple=>trivial
 all_goals exact RV.scalar (av:=.lit _) ⟨rfl,rfl⟩ rfl rfl
theorem opnd_RV (hr:Rel fr n K s a w) (x:Operand):RV w K (opnd s x) (a.eval x):=by
 cases x
 case tmp t=>exact hr.get t
 case const v=>exact constAV_RV v
 case global g=>trivial
 case func f=>exact RV.scalar (av:=⟨.fn f (.ty .unit),()⟩) ⟨[],rfl,rfl⟩ rfl rfl
theorem RV.int {k:IntKind} {m:Int} {v:Value} (h:RV w K ⟨.ty (.int k),m⟩ v):v=.int k m:=by
 obtain⟨h1,_,h3⟩:=h
 have h1:v.cells.toList=[.int k m]:=h1
 cases v<;>simp[Value.cells] at h1<;>first|(obtain⟨rfl,rfl⟩:=h1;rfl) |exact(h3 rfl _ rfl).elim |cases h1
theorem RV.one_ {s:Sh} {x:s.den} {c v:Value} (h:R1 w K s x v) (ha:s.agg=false) (hc:v.cells.toList=[c]):v=c:=by
 cases v
 case agg cs=>exact(h.2.2 ha cs rfl).elim
 all_goals (simp[Value.cells] at hc;exact hc)
theorem RV.bool {b:Bool} {v:Value} (h:RV w K ⟨.ty .bool,b⟩ v):v=.bool b:=RV.one_ h rfl h.1
theorem RV.func {f:Option FuncId} {v:Value} (h:RV w K ⟨.ty .func,f⟩ v):v=fnVal f:=RV.one_ h rfl h.1
theorem RV.str {b:List UInt8} {v:Value} (h:RV w K ⟨.ty .str,b⟩ v):v=.string ⟨⟨b⟩⟩:=RV.one_ h rfl h.1
theorem RV.sl {e:Ty} {xs:List e.den} {v:Value} (h:RV w K ⟨.ty (.sl e),xs⟩ v):∃A len cap,v=.slice A len cap∧RT w K (.sl e) xs [.slice A len cap]:=by
 obtain⟨A,len,cap,h1,h2⟩:=h.1
 have:=RV.one_ h rfl h1
 subst this
 exact⟨A,len,cap,rfl,⟨A,len,cap,rfl,h2⟩⟩
theorem RV.osl {id:Nat} {e:Ty} {xs:List e.den} {v:Value} (h:RV w K ⟨.osl id e,xs⟩ v):∃A len cap,v=.slice A len cap∧RT w K (.sl e) xs [.slice A len cap]∧Own w K id e.size A len cap:=by
 obtain⟨⟨A,len,cap,h1,h2⟩,h3⟩:=h.1
 have:=RV.one_ h rfl h1
 subst this
 exact⟨A,len,cap,rfl,⟨A,len,cap,rfl,h2⟩,h3 A len cap h1⟩
theorem RV.box {id off:Nat} {v:Value} (h:RV w K (.box id off) v):∃b,v=.pointer (some ⟨b,off,none⟩)∧K b=.box id∧b<w.heap.size:=by
 obtain⟨b,h1,h2⟩:=h.1
 exact⟨b,RV.one_ h rfl h1,h2⟩
theorem RV.boxi {id off m:Nat} {e:Ty} {i:Nat} {v:Value} (h:RV w K ⟨.boxi id off m e,i⟩ v):∃b,v=.pointer (some ⟨b,off+i*e.size,none⟩)∧K b=.box id∧b<w.heap.size∧i<m:=by
 obtain⟨b,h1,h2⟩:=h.1
 exact⟨b,RV.one_ h rfl h1,h2⟩
theorem RV.win {id:Nat} {e:Ty} {y:Nat×Nat} {v:Value} (h:RV w K ⟨.win id e,y⟩ v):∃b j cap,v=.slice (some ⟨b,j,none⟩) y.2 cap∧K b=.box id∧b<w.heap.size∧y.2≤cap∧(y.2≠0→j=y.1*e.size)∧RowLen w b ((y.1+y.2)*e.size):=by
 obtain⟨b,j,cap,h1,h2⟩:=h.1
 exact⟨b,j,cap,RV.one_ h rfl h1,h2⟩
theorem RV.elp {id:Nat} {e:Ty} {o i:Nat} {v:Value} (h:RV w K ⟨.elp id e o,i⟩ v):∃b,v=.pointer (some ⟨b,i*e.size+o,none⟩)∧K b=.box id∧b<w.heap.size∧RowLen w b ((i+1)*e.size):=by
 obtain⟨b,h1,h2⟩:=h.1
 exact⟨b,RV.one_ h rfl h1,h2⟩
theorem RV.mp {id:Nat} {x:Unit} {v:Value} (h:RV w K ⟨.mp id,x⟩ v):∃b,v=.map (some b)∧K b=.box id∧b<w.heap.size:=by
 obtain⟨b,h1,h2⟩:=h.1
 exact⟨b,RV.one_ h rfl h1,h2⟩
theorem RV.wref {id:Nat} {e:Ty} {y:Nat×Nat} {v:Value} (h:RV w K ⟨.wref id e,y⟩ v):∃a cc,v=.pointer (some a)∧RWin w K id e y cc∧At w K a cc:=by
 obtain⟨a,cc,h1,h2⟩:=h.1
 exact⟨a,cc,RV.one_ h rfl h1,h2⟩
theorem RV.wsl {tg:Option Nat} {id:Nat} {e:Ty} {ys:List (Nat×Nat)} {v:Value} (h:RV w K ⟨.wsl tg id e,ys⟩ v):∃A len cap,v=.slice A len cap∧RWsl w K id e ys [.slice A len cap]∧∀t,tg=some t→Own w K t 1 A len cap:=by
 obtain⟨⟨A,len,cap,h1,h2⟩,h3⟩:=h.1
 have:=RV.one_ h rfl h1
 subst this
 exact⟨A,len,cap,rfl,⟨A,len,cap,rfl,h2⟩,fun t ht=>h3 t A len cap ht h1⟩
theorem RL.getW {α:Type} {R:α→List Value→Prop} {d:α} (hl:∀x c,R x c→c.length=1):∀(xs:List α) (cs:List Value) (i:Nat),RL R xs cs→i<xs.length→R (xs.getD i d) ((cs.drop i).take 1)
 |[],_,_,_,h=>by cases h
 |x::xs,_,0,⟨c1,c2,e,h1,_⟩,_=>by
  have:=hl _ _ h1
  subst e
  simp only[List.getD_cons_zero,List.drop_zero]
  rw[List.take_append_of_le_length (by omega),List.take_of_length_le (by omega)]
  exact h1
 |x::xs,_,i+1,⟨c1,c2,e,h1,h2⟩,hi=>by
  have:=hl _ _ h1
  subst e
  rw[List.getD_cons_succ,List.drop_append,List.drop_of_length_le (by omega),List.nil_append,show i+1-c1.length=i by omega]
  exact RL.getW hl xs c2 i h2 (by simpa using hi)
theorem RV.ref {t:Ty} {off:Nat} {x:t.den} {v:Value} (h:RV w K ⟨.ref t off,x⟩ v):∃a cc,v=.pointer (some (a.add off))∧RT w K t x cc∧At w K a cc:=by
 obtain⟨a,cc,h1,h2⟩:=h.1
 exact⟨a,cc,RV.one_ h rfl h1,h2⟩
theorem RV.lit {u v:Value} (h:RV w K (.lit u) v):v=u:=RV.one_ h rfl h.1.1
theorem RV.fn {f:Nat} {c:Sh} {x:c.den} {v:Value} (h:RV w K ⟨.fn f c,x⟩ v):∃cc,v=.func (.func f) #[] cc.toArray∧RS w K c x cc:=by
 obtain⟨cc,h1,h2⟩:=h.1
 exact⟨cc,RV.one_ h rfl h1,h2⟩
theorem RV.as {av:AV} {t:Ty} {x:t.den} {v:Value} (h:RV w K av v) (ha:av.as t=some x):RT w K t x v.cells.toList:=by
 obtain⟨sh,y⟩:=av
 cases sh
 case tup=>cases t<;>cases ha
 case top=>cases t<;>cases ha
 all_goals exact as_RT _ _ _ _ _ ha h.1
theorem RV.of_cells {av:AV} {cs:List Value} (h:RS w K av.sh av.v cs) {g:Bool} (hg:av.sh.agg=g) (hlen:g=false→cs.length=1→∀c,cs=[c]→c.oneCell'=true) :
  RV w K av (if g then .agg cs.toArray else cs.headD undef):=by
 subst hg
 cases e:av.sh.agg
 ·have h1:=RS.length _ _ _ h
  rw[Sh.size_pos _ e] at h1
  obtain⟨c,rfl⟩:=List.length_eq_one_iff.1 h1
  exact RV.scalar h e (hlen e rfl c rfl)
 ·exact R1.toRV ⟨h,(fun _=>⟨_,rfl⟩),(fun e'=>by rw[e] at e';cases e')⟩
theorem known_spec {t:TypeId} (h:known P t=true):∃d i,P.underlying t=some d∧P.info? t=some i∧P.cellsOf t=i.size∧(isStruct P t=true↔((∃fs,d=.struct fs)∨∃n e,d=.array n e)):=by
 unfold known at h
 obtain⟨d,hd⟩:=Option.isSome_iff_exists.1 h
 have:∃i,P.info? t=some i:=by
  unfold Program.underlying at hd
  cases hi:P.info? t with
  |none=>rw[hi] at hd;cases hd
  |some i=>exact⟨i,rfl⟩
 obtain⟨i,hi⟩:=this
 refine⟨d,i,hd,hi,by simp[Program.cellsOf,hi],?_⟩
 unfold isStruct
 rw[hd]
 cases d<;>simp
theorem run_isAgg {t:TypeId} (h:known P t=true) (w:World):(isAgg t).run P w=.ok (isStruct P t) w:=by
 obtain⟨d,i,hd,_⟩:=known_spec h
 simp only[isAgg,Sem.run_bind,run_underlying hd,Result.andThen_ok]
 unfold isStruct
 rw[hd]
 cases d<;>rfl
theorem run_sizeOf {t:TypeId} (h:known P t=true) (w:World):(sizeOf t).run P w=.ok (P.cellsOf t) w:=by
 obtain⟨d,i,_,hi,hc,_⟩:=known_spec h
 simp[sizeOf,typeInfo,hi,hc]
theorem add_eq {a:Addr} (h:a.spot=none) (j:Nat):a.add j=⟨a.block,a.off+j,none⟩:=by
 unfold Addr.add
 split
 ·rename_i hj;subst hj;cases a;simp at h;subst h;rfl
 ·rfl
theorem add_add (a:Addr) (i j:Nat):(a.add i).add j=a.add (i+j):=by
 unfold Addr.add
 by_cases hi:i=0<;>by_cases hj:j=0<;>simp[hi,hj,Nat.add_assoc]
theorem At.cell {a:Addr} {cs:List Value} (h:At w K a cs) (j:Nat) (v:Value) (hj:cs[j]?=some v):w.cell? (a.add j)=some v:=by
 obtain⟨h1,h2,_⟩:=h j v hj
 rw[add_eq h1]
 exact h2
theorem run_loadVar_cells {t:TypeId} (hk:known P t=true) {a:Addr} {cs:List Value} (hlen:cs.length=P.cellsOf t) (hg:isStruct P t=false→P.cellsOf t=1)
  (h:∀j v,cs[j]?=some v→w.cell? (a.add j)=some v):(loadVar t a).run P w=.ok (if isStruct P t then .agg cs.toArray else cs.headD undef) w:=by
 simp only[loadVar,Sem.run_bind,run_isAgg hk,Result.andThen_ok]
 cases e:isStruct P t
 ·simp only[Bool.false_eq_true,if_false]
  have h1:=hg e
  obtain⟨c,rfl⟩:=List.length_eq_one_iff.1 (hlen.trans h1)
  have:=h 0 c rfl
  simp only[Addr.add,if_true] at this
  simp[this]
 ·simp only[if_true,Sem.run_bind,run_sizeOf hk,Result.andThen_ok,←hlen,run_loadCells_list w a cs h]
  rfl
theorem exec_v {m:Sem Value} (h:execOp a.eval o=(do let x ←m;pure (.value x))) {v:Value} {w':World} (hm:m.run P w=.ok v w'):(execOp a.eval o).run P w=.ok (.value v) w':=by
 rw[h,Sem.run_bind,hm];rfl
theorem RL.lt {e:Ty} {xs:List e.den} {cs:List Value} {i:Nat} (h:RL (RT w K e) xs cs) (hp:0<e.size) (hle:(i+1)*e.size≤cs.length):i<xs.length:=by
 rw[RL.length (RT.length e) _ _ h] at hle
 exact Nat.le_of_mul_le_mul_right hle hp
theorem loadAV_ok (hr:Rel fr n K s a w) {t:TypeId} (hk:known P t=true) {x v:AV} (hl:loadAV P s no t x=some v) {u:Value} (hx:RV w K x u) :
  ∃r,(Instr.loadAt t u).run P w=.ok r w∧RV w K v r:=by
 have hst:∀g:Bool,isStruct P t=g→v.sh.agg=g→∀cs,RS w K v.sh v.v cs→cs.length=P.cellsOf t→∀ad:Addr,u=.pointer (some ad)→(∀j c,cs[j]?=some c→w.cell? (ad.add j)=some c) →
   ∃r,(Instr.loadAt t u).run P w=.ok r w∧RV w K v r:=by
  intro g hg hv cs hrs hlen ad hu hc
  subst hu
  have h1:isStruct P t=false→P.cellsOf t=1:=fun e=>by
   rw[←hlen,RS.length _ _ _ hrs,Sh.size_pos _ (by rw[hv,←hg,e])]
  have hrun:=run_loadVar_cells (P:=P) hk hlen h1 hc
  refine⟨_,hrun,?_⟩
  rw[hg]
  exact RV.of_cells hrs hv (fun _ _ c e=>RS.one _ _ _ hrs c (by rw[e];simp))
 obtain⟨sh,xv⟩:=x
 cases sh<;>simp only[loadAV] at hl<;>try cases hl
 case box id off =>
  split at hl
  ·rename_i c hc
   obtain⟨b,hu,hkb,hlt⟩:=RV.box hx
   obtain⟨av,bo,e1,e2,e3⟩:=hr.heap b id hlt hkb
   have:c=av:=by
    unfold heapAt at hc
    split at hc
    ·cases hc
    ·rw[e1] at hc;cases hc;rfl
   subst this
   obtain⟨cs,T,hbo,e4⟩:=BoxOk.sub hl e3;subst hbo;replace e3:=e4
   obtain⟨i1,i2,i3⟩:=Sh.sub_RS _ _ _ _ _ _ _ hl e3
   have hlen:=RS.length _ _ _ e3
   refine hst _ rfl i2 _ i1 (by rw[List.length_take,List.length_drop,hlen];omega) ⟨b,off,none⟩ hu (fun j c hj=>?_)
   rw[add_eq rfl]
   simp only[World.cell?,e2,Option.isSome_none,Bool.false_eq_true,if_false]
   rw[List.getElem?_take] at hj
   split at hj
   ·rw[List.getElem?_drop] at hj
    simpa using hj
   ·cases hj
  ·cases hl
 case ref τ off =>
  obtain⟨ad,cc,hu,h1,h2⟩:=RV.ref hx
  obtain⟨i1,i2,i3⟩:=Sh.sub_RS (.ty τ) _ _ _ _ _ _ hl h1
  have hlen:=RT.length _ _ _ h1
  refine hst _ rfl i2 _ i1 (by rw[List.length_take,List.length_drop,hlen];simp only[Sh.size] at i3;omega) (ad.add off) hu (fun j c hj=>?_)
  rw[add_add]
  refine h2.cell (off+j) c ?_
  rw[List.getElem?_take] at hj
  split at hj
  ·rw[List.getElem?_drop] at hj
   exact hj
  ·cases hj
 case wref id e =>
  split at hl
  ·rename_i hcond
   cases hl
   obtain⟨ad,cc,hu,h1,h2⟩:=RV.wref hx
   have hlen:cc.length=1:=by obtain⟨_,_,_,h,_⟩:=h1;rw[h];rfl
   exact hst false hcond.2 rfl cc h1 (hlen.trans hcond.1.symm) ad hu (fun j c hj=>h2.cell j c hj)
  ·cases hl
 case boxi id off m e =>
  split at hl
  ·rename_i c hc
   split at hl
   ·rename_i m' e' xs hsub
    split at hl
    ·rename_i he _
     subst he
     split at hl
     ·rename_i hcond
      obtain⟨c1,c2,c3⟩:=hcond
      subst c1
      cases hl
      obtain⟨b,hu,hkb,hlt,hi⟩:=RV.boxi hx
      obtain⟨av,bo,e1,e2,e3⟩:=hr.heap b id hlt hkb
      have:c=av:=by
       unfold heapAt at hc
       split at hc
       ·cases hc
       ·rw[e1] at hc;cases hc;rfl
      subst this
      obtain⟨cs,T,hbo,e4⟩:=BoxOk.sub hsub e3;subst hbo;replace e3:=e4
      obtain⟨i1,i2,i3⟩:=Sh.sub_RS _ _ _ _ _ _ _ hsub e3
      obtain⟨i4,i5⟩:=i1
      have hlen:=RS.length _ _ _ e3
      have hg:=RL.get (RT.length e) e.dflt _ _ xv i5 (by rw[i4];exact hi)
      have hmul:(xv+1)*e.size≤m'*e.size:=Nat.mul_le_mul_right _ hi
      rw[Nat.succ_mul] at hmul
      have i3':off+m'*e.size≤c.sh.size:=i3
      have hl2:(List.take e.size (List.drop (xv*e.size) (List.take (m'*e.size) (List.drop off cs.toList)))).length=P.cellsOf t:=by
       rw[List.length_take,List.length_drop,List.length_take,List.length_drop,hlen,c2]
       rw[Nat.min_eq_left (show m'*e.size≤c.sh.size-off from Nat.le_sub_of_add_le (by rw[Nat.add_comm];exact i3'))]
       exact Nat.min_eq_left (Nat.le_sub_of_add_le (by rw[Nat.add_comm];exact hmul))
      refine hst _ rfl c3.symm _ hg hl2 ⟨b,off+xv*e.size,none⟩ hu (fun j c hj=>?_)
      rw[add_eq rfl]
      simp only[World.cell?,e2,Option.isSome_none,Bool.false_eq_true,if_false]
      rw[List.getElem?_take] at hj
      split at hj
      ·rw[List.getElem?_drop,List.getElem?_take] at hj
       split at hj
       ·rw[List.getElem?_drop] at hj
        rw[Nat.add_assoc]
        simpa using hj
       ·cases hj
      ·cases hj
     ·cases hl
    ·cases hl
   ·cases hl
  ·cases hl
 case elp id e o =>
  split at hl
  ·rename_i e' xs hc
   split at hl
   ·rename_i he _
    subst he
    split at hl
    ·rename_i hpos
     obtain⟨b,hu,hkb,hlt,cs,T,e2,hle⟩:=RV.elp hx
     obtain⟨av,bo,e1,e2',e3⟩:=hr.heap b id hlt hkb
     have:av=⟨.rowc e',xs⟩:=by
      unfold heapAt at hc
      split at hc
      ·cases hc
      ·rw[e1] at hc;cases hc;rfl
     subst this
     rw[e2] at e2';cases e2'
     obtain⟨cs',T',hbo,e4⟩:=e3
     cases hbo
     have hi:xv<List.length (α:=e'.den) xs:=RL.lt e4 hpos hle
     have hg:=RL.get (RT.length e') e'.dflt _ _ xv e4 hi
     obtain⟨i1,i2,i3⟩:=Ty.sub_RT _ _ _ _ _ _ _ hl hg
     have hcl:=@Array.length_toList _ cs
     refine hst _ rfl i2 _ i1 (by rw[List.length_take,List.length_drop,List.length_take,List.length_drop,hcl];rw[Nat.succ_mul] at hle;omega) ⟨b,xv*e'.size+o,none⟩ hu (fun j c hj=>?_)
     rw[add_eq rfl]
     simp only[World.cell?,e2,Option.isSome_none,Bool.false_eq_true,if_false]
     rw[List.getElem?_take] at hj
     split at hj
     ·rw[List.getElem?_drop,List.getElem?_take] at hj
      split at hj
      ·rw[List.getElem?_drop] at hj
       rw[Nat.add_assoc]
       simpa using hj
      ·cases hj
     ·cases hj
    ·cases hl
   ·cases hl
  ·cases hl
theorem RV.solid {av:AV} {v:Value} (h:RV w K av v) (hs:av.solid=true):R1 w K av.sh av.v v:=by
 obtain⟨sh,x⟩:=av
 cases sh
 case tup=>cases hs
 case top=>cases hs
 all_goals exact h
theorem run_storeVar {t:TypeId} (hk:known P t=true) {b off:Nat} {cur:Array Value} {T:TypeId} (hb:w.heap[b]?=some (.cells cur T (0,0))) {v:Value} (hlen:v.cells.toList.length=P.cellsOf t)
  (hfit:off+P.cellsOf t≤cur.size) (h1:∀c∈v.cells.toList,c.oneCell'=true) :
  (Instr.storeAt t (.pointer (some ⟨b,off,none⟩)) v).run P w=.ok () (w.setRow b (cur.toList.take off++v.cells.toList++cur.toList.drop (off+P.cellsOf t)).toArray):=by
 have hst:=run_storeCells_at P b off T v.cells.toList 0 cur w hb (by rw[hlen];omega) h1
 simp only[Nat.add_zero,hlen] at hst
 have hsz:v.cells.size=P.cellsOf t:=by rw[←hlen];simp
 show(storeVar t ⟨b,off,none⟩ v).run P w=_
 simp only[storeVar,Sem.run_bind,run_sizeOf hk,Result.andThen_ok,hsz,ne_eq,not_true_eq_false,if_false,hst]
theorem arith1 {i m sz off len:Nat} (hi:i<m) (h:off+m*sz≤len):off+i*sz+sz≤len:=by
 have:=Nat.mul_le_mul_right sz hi
 rw[Nat.succ_mul] at this
 omega
theorem arith2 {i m sz:Nat} (hi:i<m):i*sz+sz≤m*sz:=by
 have:=Nat.mul_le_mul_right sz hi
 rw[Nat.succ_mul] at this
 omega
theorem splice {α:Type} (C V:List α) (p sz o n:Nat) (h:o+n≤sz) (hc:p+sz≤C.length) :
  C.take p++(((C.drop p).take sz).take o++V++((C.drop p).take sz).drop (o+n))++C.drop (p+sz)=C.take (p+o)++V++C.drop (p+o+n):=by
 have f1:C.take (p+o)=C.take p++(C.drop p).take o:=by rw[List.take_add]
 have f2:((C.drop p).take sz).take o=(C.drop p).take o:=by rw[List.take_take,Nat.min_eq_left (by omega)]
 have f3:=drop_mid (C.drop p) (o+n) sz h (by rw[List.length_drop];omega)
 rw[List.drop_drop,List.drop_drop] at f3
 rw[f1,f2,show p+o+n=p+(o+n) by omega,f3]
 simp[List.append_assoc]
theorem arith3 {i o n sz len:Nat} (h:(i+1)*sz≤len) (h3:o+n≤sz):i*sz+o+n≤len:=by
 rw[Nat.succ_mul] at h
 omega
theorem storeAV_ok (hr:Rel fr n K s a w) (hd:∀t,o.dst=some t→t<n) {t:TypeId} (hk:known P t=true) {x y:AV} {e:Eff} (hl:storeAV P s t x y=some e) {u v:Value} (hx:RV w K x u) (hy:RV w K y v) :
  ∃w',(Instr.storeAt t u v).run P w=.ok () w'∧Rel fr n K (s.apply o.dst e) (a.put o.dst undef) w':=by
 obtain⟨sh,xv⟩:=x
 cases sh<;>simp only[storeAV] at hl<;>try cases hl
 case box id off =>
  split at hl
  ·rename_i c hc
   split at hl
   ·rename_i hcond
    obtain⟨hsz,hsol⟩:=hcond
    obtain⟨z,hz,rfl⟩:=Option.map_eq_some_iff.1 hl
    obtain⟨b,rfl,hkb,hlt⟩:=RV.box hx
    obtain⟨av,bo,e1,e2,e3⟩:=hr.heap b id hlt hkb
    rw[hc] at e1
    cases e1
    obtain⟨cs,T,hbo,e4,e5⟩:=BoxOk.upd hz (solid_bare hsol) e3;subst hbo;replace e3:=e4
    have hy1:=RV.solid hy hsol
    obtain⟨i1,i2,i3⟩:=Sh.upd_RS _ _ _ _ _ _ _ hz e3 hy1.1
    have hlen:=RS.length _ _ _ e3
    have hylen:=RS.length _ _ _ hy1.1
    rw[hsz] at hylen i1 i3
    refine⟨_,run_storeVar (P:=P) hk e2 hylen (by rw[←Array.length_toList,hlen];exact i3) (RS.one _ _ _ hy1.1),?_⟩
    have hcl:=@Array.length_toList _ cs
    exact hr.putBox hd hlt hkb e2 (by simp only[List.size_toArray,List.length_append,List.length_take,List.length_drop];omega) (e5 _ (by simpa using i1)) undef
   ·cases hl
  ·cases hl
 case boxi id off m e' =>
  split at hl
  ·rename_i c hc
   split at hl
   ·rename_i m' e'' xs hsub
    split at hl
    ·rename_i he u' hdec hu'
     subst he
     split at hl
     ·rename_i hcond
      obtain⟨c1,c2⟩:=hcond
      subst c1
      obtain⟨z,hz,rfl⟩:=Option.map_eq_some_iff.1 hl
      obtain⟨b,rfl,hkb,hlt,hi⟩:=RV.boxi hx
      obtain⟨av,bo,e1,e2,e3⟩:=hr.heap b id hlt hkb
      rw[hc] at e1
      cases e1
      obtain⟨cs,T,hbo,e4,e5⟩:=BoxOk.upd hz rfl e3;subst hbo;replace e3:=e4
      have hv:=RV.as hy hu'
      have hvlen:=RT.length _ _ _ hv
      obtain⟨j1,j2,j3⟩:=Sh.sub_RS _ _ _ _ _ _ _ hsub e3
      obtain⟨j4,j5⟩:=j1
      have hset:=RL.set (RT.length e') _ _ xv u' _ j5 (by rw[j4];exact hi) hv
      have hnew:RS w K (.ty (.arr m' e')) (List.set xs xv u') _:=⟨by simpa using j4,hset⟩
      obtain⟨i1,i2,i3⟩:=Sh.upd_RS _ _ _ _ _ _ _ hz e3 hnew
      have hlen:=RS.length _ _ _ e3
      have hmul:=arith2 (sz:=e'.size) hi
      have j3':off+m'*e'.size≤c.sh.size:=j3
      have hfit:off+xv*e'.size+P.cellsOf t≤cs.size:=by
       rw[←Array.length_toList,hlen,c2]
       exact arith1 hi j3'
      refine⟨_,run_storeVar (P:=P) hk e2 (by rw[hvlen,c2]) hfit (RT.one _ _ _ hv),?_⟩
      have hcl:=@Array.length_toList _ cs
      refine hr.putBox hd hlt hkb e2 (by simp only[List.size_toArray,List.length_append,List.length_take,List.length_drop,hvlen];omega) (e5 _ ?_) undef
      have hsz:(Sh.ty (Ty.arr m' e')).size=m'*e'.size:=rfl
      have:(cs.toList.take (off+xv*e'.size)++v.cells.toList++cs.toList.drop (off+xv*e'.size+P.cellsOf t)) =
        List.take off cs.toList++(List.take (xv*e'.size) (List.take (m'*e'.size) (List.drop off cs.toList))++v.cells.toList++List.drop (xv*e'.size+e'.size) (List.take (m'*e'.size) (List.drop off cs.toList))) ++
         List.drop (off+(Sh.ty (Ty.arr m' e')).size) cs.toList:=by
       rw[hsz,c2]
       have f1:List.take (off+xv*e'.size) cs.toList=List.take off cs.toList++List.take (xv*e'.size) (List.drop off cs.toList):=by rw[List.take_add]
       have f2:List.take (xv*e'.size) (List.take (m'*e'.size) (List.drop off cs.toList))=List.take (xv*e'.size) (List.drop off cs.toList):=by
        rw[List.take_take,Nat.min_eq_left (Nat.le_trans (Nat.le_add_right _ _) hmul)]
       have f3:List.drop (off+xv*e'.size+e'.size) cs.toList=List.drop (xv*e'.size+e'.size) (List.take (m'*e'.size) (List.drop off cs.toList))++List.drop (off+m'*e'.size) cs.toList:=by
        have:=drop_mid (List.drop off cs.toList) (xv*e'.size+e'.size) (m'*e'.size) hmul (by rw[List.length_drop,hlen];exact Nat.le_sub_of_add_le (by rw[Nat.add_comm];exact j3'))
        rw[List.drop_drop,List.drop_drop] at this
        rw[Nat.add_assoc,this]
       rw[f1,f2,f3]
       simp[List.append_assoc]
      rw[this]
      simpa using i1
     ·cases hl
    ·cases hl
   ·cases hl
  ·cases hl
 case elp id e' o =>
  split at hl
  ·rename_i e'' xs hc
   split at hl
   ·rename_i he _
    subst he
    split at hl
    ·rename_i hcond
     obtain⟨hsz,hsol,hpos⟩:=hcond
     obtain⟨z,hz,rfl⟩:=Option.map_eq_some_iff.1 hl
     obtain⟨q,hq,hz⟩:=Option.bind_eq_some_iff.1 hz
     obtain⟨b,rfl,hkb,hlt,cs,T,e2,hle⟩:=RV.elp hx
     obtain⟨av,bo,e1,e2',e3⟩:=hr.heap b id hlt hkb
     rw[hc] at e1
     cases e1
     rw[e2] at e2';cases e2'
     obtain⟨cs',T',hbo,e4⟩:=e3
     cases hbo
     have hi:xv<List.length (α:=e''.den) xs:=RL.lt e4 hpos hle
     have hy1:=RV.solid hy hsol
     have hylen:=RS.length _ _ _ hy1.1
     rw[hsz] at hylen
     have hg:=RL.get (RT.length e'') e''.dflt _ _ xv e4 hi
     obtain⟨i1,i2,i3⟩:=Ty.upd_RT _ _ _ _ _ _ _ hq hg hy1.1
     have hnew:=as_RT _ _ _ _ _ hz i1
     have hset:=RL.set (RT.length e'') _ _ xv z _ e4 hi hnew
     have hcl:=@Array.length_toList _ cs
     rw[hsz] at i3 hset
     have hfit:=arith3 hle i3
     refine⟨_,run_storeVar (P:=P) hk e2 hylen hfit (RS.one _ _ _ hy1.1),?_⟩
     refine hr.putBox (c:=⟨.rowc e'',List.set xs xv z⟩) hd hlt hkb e2 (by simp only[List.size_toArray,List.length_append,List.length_take,List.length_drop];omega) ?_ undef
     refine⟨_,T,rfl,?_⟩
     have hcs:xv*e''.size+e''.size≤cs.toList.length:=by rw[hcl,←Nat.succ_mul];exact hle
     rw[splice cs.toList _ (xv*e''.size) e''.size o (P.cellsOf t) i3 hcs] at hset
     exact hset
    ·cases hl
   ·cases hl
  ·cases hl
theorem constAV_RS {v:Value} (h:v.oneCell'=true):RS w K (constAV v).sh (constAV v).v [v]∧(constAV v).sh.agg=false:=by
 cases v
 case int k m=>exact⟨rfl,rfl⟩
 case bool b=>exact⟨rfl,rfl⟩
 case string b=>exact⟨rfl,rfl⟩
 case agg=>cases h
 case tuple=>cases h
 all_goals exact⟨⟨rfl,rfl⟩,rfl⟩
theorem elems_RL {α:Type} {f:List Value→Option α} {R:α→List Value→Prop} {size:Nat} (hf:∀cs x,f cs=some x→R x cs):∀(m:Nat) (cs:List Value) (xs:List α),zeroAV.elems f size m cs=some xs→RL R xs cs∧xs.length=m
 |0,[],xs,h=>by simp[zeroAV.elems] at h;subst h;exact⟨rfl,rfl⟩
 |0,_::_,xs,h=>by simp[zeroAV.elems] at h
 |m+1,cs,xs,h=>by
  simp only[zeroAV.elems] at h
  split at h
  ·rename_i x l e1 e2
   cases h
   obtain⟨h1,h2⟩:=elems_RL hf m _ _ e2
   exact⟨⟨cs.take size,cs.drop size,(List.take_append_drop _ _).symm,hf _ _ e1,h1⟩,by simp[h2]⟩
  ·cases h
theorem fields_RS {f:TypeId→List Value→Nat→Option (AV×Nat)} (hf:∀t cs tag z tag',f t cs tag=some (z,tag')→RS w K z.sh z.v cs) :
  ∀(fs:List Field) (cs:List Value) (tag:Nat) (z:AV) (tag':Nat),zeroAV.fields P f fs cs tag=some (z,tag')→RS w K z.sh z.v cs∧z.sh.agg=true
 |[],[],tag,z,tag',h=>by simp[zeroAV.fields] at h;obtain⟨rfl,_⟩:=h;exact⟨rfl,rfl⟩
 |[],_::_,_,_,_,h=>by simp[zeroAV.fields] at h
 |x::fs,cs,tag,z,tag',h=>by
  simp only[zeroAV.fields] at h
  split at h
  ·rename_i b tag1 e1
   split at h
   ·rename_i b' tag2 e2
    cases h
    have h1:=hf _ _ _ _ _ e1
    have h2:=(fields_RS hf fs _ _ _ _ e2).1
    refine⟨?_,mkPair_agg _ _⟩
    have:=mkPair_RS h1 h2
    rwa [List.take_append_drop] at this
   ·cases h
  ·cases h
theorem zeroAV_RS:∀(d:Nat) (t:TypeId) (cs:List Value) (tag:Nat) (z:AV) (tag':Nat),zeroAV P d t cs tag=some (z,tag')→RS w K z.sh z.v cs∧z.sh.agg=isStruct P t
 |0,_,_,_,_,_,h=>by cases h
 |d+1,t,cs,tag,z,tag',h=>by
  have ih:=fun t cs tag z tag' h=>(zeroAV_RS d t cs tag z tag' h).1
  unfold zeroAV at h
  unfold isStruct
  split at h
  ·rename_i fs hu
   simp only[hu]
   exact fields_RS ih fs.toList cs tag z tag' h
  ·rename_i m e hu
   simp only[hu]
   split at h
   ·rename_i τ _
    obtain⟨xs,hxs,h2⟩:=Option.map_eq_some_iff.1 h
    cases h2
    obtain⟨h1,h2⟩:=elems_RL (R:=RT w K τ) (fun c x hx=>by
     obtain⟨⟨y,tg⟩,hy,hy2⟩:=Option.bind_eq_some_iff.1 hx
     exact as_RT _ _ _ _ _ hy2 (ih _ _ _ _ _ hy)) m cs xs hxs
    exact⟨⟨h2,h1⟩,rfl⟩
   ·cases h
  ·rename_i e hu
   simp only[hu]
   split at h
   ·rename_i v
    split at h
    ·rename_i hn
     have hv:=nilSl_eq hn
     subst hv
     split at h
     ·cases h
      exact⟨⟨⟨none,0,0,rfl,rfl,Nat.le_refl _,fun _=>rfl,fun a ha=>by cases ha⟩,fun A len cap hc=>by injection hc with hc;injection hc with h1;subst h1;exact .inl rfl⟩,rfl⟩
     ·cases h
      exact⟨⟨rfl,rfl⟩,rfl⟩
    ·cases h
   ·cases h
  ·rename_i h1 h2 h3
   have hs:isStruct P t=false:=by
    unfold isStruct
    split
    ·rename_i fs e;exact(h1 _ e).elim
    ·rename_i n e e';exact(h2 _ _ e').elim
    ·rfl
   show _∧_=isStruct P t
   rw[hs]
   split at h
   ·rename_i v
    split at h
    ·rename_i hv
     cases h
     exact constAV_RS hv
    ·cases h
   ·cases h
theorem zeroOf_ok {t:TypeId} {tag:Nat} {z:AV} (h:zeroOf P t tag=some z):∃i zv,P.info? t=some i∧i.zero=some zv∧∀w K,RS w K z.sh z.v zv.cells.toList∧z.sh.agg=isStruct P t:=by
 unfold zeroOf at h
 split at h
 ·rename_i zv hz
  obtain⟨i,hi,hzv⟩:=Option.bind_eq_some_iff.1 hz
  obtain⟨⟨z',tg⟩,hz',rfl⟩:=Option.map_eq_some_iff.1 h
  exact⟨i,zv,hi,hzv,fun w K=>zeroAV_RS _ _ _ _ _ _ hz'⟩
 ·cases h
theorem run_zeroValue {t:TypeId} {i:TypeInfo} {z:Value} (hi:P.info? t=some i) (hz:i.zero=some z) (w:World):(zeroValue t).run P w=.ok z w:=by
 simp[zeroValue,typeInfo,hi,hz]
theorem foldl_set (off:Nat):∀(vs:List Value) (k:Nat) (cs:Array Value),off+k+vs.length≤cs.size →
  ((vs.zipIdx k).foldl (fun cs x=>cs.setIfInBounds (off+x.2) x.1) cs).toList=cs.toList.take (off+k)++vs++cs.toList.drop (off+k+vs.length)
 |[],k,cs,_=>by simp
 |v::vs,k,cs,h=>by
  simp only[List.length_cons] at h
  simp only[List.zipIdx_cons,List.foldl_cons]
  rw[foldl_set off vs (k+1) _ (by simp;omega)]
  simp only[Array.toList_setIfInBounds,List.length_cons]
  have hlt:off+k<cs.toList.length:=by simp;omega
  rw[show off+(k+1)=off+k+1 by omega]
  have e1:(cs.toList.set (off+k) v).take (off+k+1)=cs.toList.take (off+k)++[v]:=by
   rw[List.take_add_one,List.take_set_of_le (Nat.le_refl _),List.getElem?_set_self hlt]
   rfl
  have e2:(cs.toList.set (off+k) v).drop (off+k+1+vs.length)=cs.toList.drop (off+k+(vs.length+1)):=by
   rw[List.drop_set_of_lt (by omega)]
   congr 1
   omega
  rw[e1,e2]
  simp
theorem foldl_cells (off:Nat) (v:Value) (cs:Array Value) (h:off+v.cells.size≤cs.size) :
  (v.cells.zipIdx.foldl (fun cs (c,j)=>cs.setIfInBounds (off+j) c) cs).toList=cs.toList.take off++v.cells.toList++cs.toList.drop (off+v.cells.toList.length):=by
 have:=foldl_set off v.cells.toList 0 cs (by simpa using h)
 rw[←Array.foldl_toList,Array.toList_zipIdx]
 simpa using this
theorem partsAV_ok (hr:Rel fr n K s a w) (place:Nat→Option (Nat×Nat)):∀(l:List (Nat×Operand)) (z z':AV) (cs:Array Value),partsAV place s z l=some z'→RS w K z.sh z.v cs.toList →
  ∃cells,Instr.fill place cs (l.map fun(i,x)=>(i,a.eval x))=some cells∧RS w K z'.sh z'.v cells.toList∧z'.sh.agg=z.sh.agg
 |[],z,z',cs,h,hz=>by simp only[partsAV] at h;cases h;exact⟨cs,rfl,hz,rfl⟩
 |(i,x)::l,z,z',cs,h,hz=>by
  simp only[partsAV] at h
  split at h
  ·rename_i o size hp
   split at h
   ·rename_i hc
    simp only[Bool.and_eq_true,beq_iff_eq] at hc
    obtain⟨hsol,hsz⟩:=hc
    split at h
    ·rename_i z1 hz1
     have hx:=RV.solid (opnd_RV hr x) hsol
     have hxl:=RS.length _ _ _ hx.1
     have hzl:=RS.length _ _ _ hz
     obtain⟨i1,i2,i3⟩:=Sh.upd_RS _ _ _ _ _ _ _ hz1 hz hx.1
     have hsz2:(a.eval x).cells.size=size:=by rw[←hsz,←hxl];simp
     have hfit:o+(a.eval x).cells.size≤cs.size:=by rw[hsz2,←hsz,←Array.length_toList,hzl];exact i3
     have hf:=foldl_cells o (a.eval x) cs hfit
     obtain⟨cells,c1,c2,c3⟩:=partsAV_ok hr place l z1 z' ((a.eval x).cells.zipIdx.foldl (fun cs (c,j)=>cs.setIfInBounds (o+j) c) cs) h (by rw[hf,hxl];exact i1)
     refine⟨cells,?_,c2,c3.trans i2⟩
     simp only[List.map_cons,Instr.fill,hp]
     have hno:((a.eval x).cells.size≠size||decide (o+(a.eval x).cells.size > cs.size))=false:=by
      simp only[ne_eq,hsz2,not_true_eq_false,decide_false,Bool.false_or,decide_eq_false_iff_not]
      rw[←hsz2];omega
     simp only[hno,Bool.false_eq_true,if_false]
     exact c1
    ·cases h
   ·cases h
  ·cases h
theorem run_part {t:TypeId} (hk:known P t=true) {cs:List Value} {off:Nat} (hfit:off+P.cellsOf t≤cs.length) (hg:isStruct P t=false→P.cellsOf t=1) (w:World) :
  (part t cs.toArray off).run P w=.ok (mkV (isStruct P t) ((cs.drop off).take (P.cellsOf t))) w:=by
 simp only[part,Sem.run_bind,run_isAgg hk,Result.andThen_ok,mkV]
 cases e:isStruct P t
 ·have h1:=hg e
  rw[h1] at hfit
  have hlt:off<cs.length:=by omega
  simp only[Bool.false_eq_true,if_false,List.getElem?_toArray,List.getElem?_eq_getElem hlt,h1]
  rw[List.drop_eq_getElem_cons hlt]
  rfl
 ·simp only[if_true,Sem.run_bind,run_sizeOf hk,Result.andThen_ok,Sem.run_pure,List.extract_toArray,List.extract_eq_take_drop]
  rw[Nat.add_sub_cancel_left]
theorem R1.mkV {sh:Sh} {x:sh.den} {v:Value} (h:R1 w K sh x v):v=mkV sh.agg v.cells.toList:=by
 unfold Av.mkV
 cases e:sh.agg
 ·have:=h.2.2 e
  cases v<;>first|rfl |exact(this _ rfl).elim
 ·obtain⟨c,rfl⟩:=h.2.1 e
  simp[Value.cells]
theorem toList_mk (l:List UInt8):(⟨⟨l⟩⟩:ByteArray).toList=l:=by rw[ByteArray.toList_eq]
theorem eqFields_run {d:Nat} (ih:∀(t:TypeId) (τ:Ty),eqTy P d t τ=true→∀(k:Nat) (x y:τ.den) (cs ds:List Value),RT w K τ x cs→RT w K τ y ds→(Op.equalIn (d+k) t (mkV τ.agg cs) (mkV τ.agg ds)).run P w=.ok (τ.eqb x y) w) (k:Nat) :
  ∀(fs:List Field) (τ:Ty) (off:Nat) (x y:τ.den) (cs ds cs' ds':List Value),eqTy.fields P (eqTy P d) fs off τ=true→cs.drop off=cs'→ds.drop off=ds'→off≤cs.length→off≤ds.length→RT w K τ x cs'→RT w K τ y ds' →
   (Op.eqFields (d+k) cs.toArray ds.toArray fs).run P w=.ok (τ.eqb x y) w
 |[],τ,off,x,y,cs,ds,cs',ds',h,_,_,_,_,hx,hy=>by
  cases τ<;>simp only[eqTy.fields] at h<;>try cases h
  rfl
 |f::fs,τ,off,x,y,cs,ds,cs',ds',h,e1,e2,l1,l2,hx,hy=>by
  cases τ<;>simp only[eqTy.fields] at h<;>try cases h
  rename_i ta tb
  simp only[Bool.and_eq_true,beq_iff_eq,bne_iff_ne,ne_eq] at h
  obtain⟨h1,h2,h3,h4,h5,h6,h7⟩:=h
  obtain⟨c1,c2,ec,hx1,hx2⟩:=hx
  obtain⟨d1,d2,ed,hy1,hy2⟩:=hy
  have lc1:=RT.length _ _ _ hx1
  have ld1:=RT.length _ _ _ hy1
  have lc:cs'.length=ta.size+c2.length:=by rw[ec,List.length_append,lc1]
  have ld:ds'.length=ta.size+d2.length:=by rw[ed,List.length_append,ld1]
  rw[←e1,List.length_drop] at lc
  rw[←e2,List.length_drop] at ld
  have hone:isStruct P f.type=false→P.cellsOf f.type=1:=fun e=>by rw[h4];exact Ty.size_pos _ (by rw[←h5,e])
  have p1:=run_part (cs:=cs) (off:=off) h6 (by rw[h4];omega) hone w
  have p2:=run_part (cs:=ds) (off:=off) h6 (by rw[h4];omega) hone w
  have t1:(cs.drop off).take (P.cellsOf f.type)=c1:=by rw[e1,ec,h4,←lc1];simp
  have t2:(ds.drop off).take (P.cellsOf f.type)=d1:=by rw[e2,ed,h4,←ld1];simp
  rw[t1,h5] at p1
  rw[t2,h5] at p2
  have hq:=ih _ _ h3 k x.1 y.1 c1 d1 hx1 hy1
  have hrest:=eqFields_run ih k fs tb (off+ta.size) x.2 y.2 cs ds c2 d2 h7
   (by rw[←List.drop_drop,e1,ec,←lc1];simp) (by rw[←List.drop_drop,e2,ed,←ld1];simp) (by omega) (by omega) hx2 hy2
  rw[Op.eqFields,if_pos h1]
  simp only[Sem.run_bind,h2,p1,p2,hq,Result.andThen_ok,Sem.run_ite,Sem.run_pure,hrest,Ty.eqb]
  cases ta.eqb x.1 y.1<;>simp
theorem eqItems_run {d:Nat} (ih:∀(t:TypeId) (τ:Ty),eqTy P d t τ=true→∀(k:Nat) (x y:τ.den) (cs ds:List Value),RT w K τ x cs→RT w K τ y ds→(Op.equalIn (d+k) t (mkV τ.agg cs) (mkV τ.agg ds)).run P w=.ok (τ.eqb x y) w) (k:Nat)
  {e:TypeId} {τ:Ty} (h3:eqTy P d e τ=true) (h4:P.cellsOf e=τ.size) (h5:isStruct P e=τ.agg) (h6:known P e=true) (cs ds:List Value) :
  ∀(m i:Nat) (x y:List τ.den) (cs' ds':List Value),cs.drop (i*τ.size)=cs'→ds.drop (i*τ.size)=ds'→i*τ.size≤cs.length→i*τ.size≤ds.length→RL (RT w K τ) x cs'→RL (RT w K τ) y ds'→x.length=m→y.length=m →
   (Op.eqItems (d+k) e (P.cellsOf e) cs.toArray ds.toArray (List.range' i m)).run P w=.ok (Ty.eqb.go τ.eqb x y) w
 |0,i,x,y,cs',ds',_,_,_,_,_,_,lx,ly=>by
  rw[List.length_eq_zero_iff.1 lx,List.length_eq_zero_iff.1 ly]
  rfl
 |m+1,i,[],y,cs',ds',_,_,_,_,_,_,lx,ly=>by cases lx
 |m+1,i,_::_,[],cs',ds',_,_,_,_,_,_,lx,ly=>by cases ly
 |m+1,i,x::xs,y::ys,cs',ds',e1,e2,l1,l2,hx,hy,lx,ly=>by
  obtain⟨c1,c2,ec,hx1,hx2⟩:=hx
  obtain⟨d1,d2,ed,hy1,hy2⟩:=hy
  have lc1:=RT.length _ _ _ hx1
  have ld1:=RT.length _ _ _ hy1
  have lc:cs'.length=τ.size+c2.length:=by rw[ec,List.length_append,lc1]
  have ld:ds'.length=τ.size+d2.length:=by rw[ed,List.length_append,ld1]
  rw[←e1,List.length_drop] at lc
  rw[←e2,List.length_drop] at ld
  have hone:isStruct P e=false→P.cellsOf e=1:=fun hh=>by rw[h4];exact Ty.size_pos _ (by rw[←h5,hh])
  have p1:=run_part (cs:=cs) (off:=i*τ.size) h6 (by rw[h4];omega) hone w
  have p2:=run_part (cs:=ds) (off:=i*τ.size) h6 (by rw[h4];omega) hone w
  have t1:(cs.drop (i*τ.size)).take (P.cellsOf e)=c1:=by rw[e1,ec,h4,←lc1];simp
  have t2:(ds.drop (i*τ.size)).take (P.cellsOf e)=d1:=by rw[e2,ed,h4,←ld1];simp
  rw[t1,h5] at p1
  rw[t2,h5] at p2
  have hq:=ih _ _ h3 k x y c1 d1 hx1 hy1
  have hs:(i+1)*τ.size=i*τ.size+τ.size:=Nat.succ_mul _ _
  have hrest:=eqItems_run ih k h3 h4 h5 h6 cs ds m (i+1) xs ys c2 d2
   (by rw[hs,←List.drop_drop,e1,ec,←lc1];simp) (by rw[hs,←List.drop_drop,e2,ed,←ld1];simp) (by omega) (by omega) hx2 hy2 (by simpa using lx) (by simpa using ly)
  rw[List.range'_succ,Op.eqItems]
  simp only[Sem.run_bind,h4,p1,p2,hq,Result.andThen_ok,Ty.eqb.go]
  rw[h4] at hrest
  cases τ.eqb x y
  ·simp
  ·simpa using hrest
theorem eqTy_run:∀(d:Nat) (t:TypeId) (τ:Ty),eqTy P d t τ=true→∀(k:Nat) (x y:τ.den) (cs ds:List Value),RT w K τ x cs→RT w K τ y ds →
  (Op.equalIn (d+k) t (mkV τ.agg cs) (mkV τ.agg ds)).run P w=.ok (τ.eqb x y) w
 |0,_,_,h,_,_,_,_,_,_,_=>by cases h
 |d+1,t,τ,h,k,x,y,cs,ds,hx,hy=>by
  unfold eqTy at h
  rw[show d+1+k=d+k+1 by omega]
  split at h
  ·rename_i k1 k2 hu
   rw[show cs=_ from hx,show ds=_ from hy]
   exact run_equalIn_int w _ _ _ _ _ _ hu
  ·rename_i hu
   rw[show cs=_ from hx,show ds=_ from hy]
   exact run_equalIn_bool w _ _ _ _ hu
  ·rename_i hu
   rw[show cs=_ from hx,show ds=_ from hy]
   have:=run_equalIn_string (P:=P) w (d+k) t ⟨⟨x⟩⟩ ⟨⟨y⟩⟩ hu
   rw[toList_mk,toList_mk] at this
   exact this
  ·rename_i τ _ _ fs hu
   simp only[Bool.and_eq_true,Bool.not_eq_true'] at h
   obtain⟨h1,h2⟩:=h
   have hfs:P.fieldsOf t=fs:=by simp[Program.fieldsOf,hu]
   have hagg:τ.agg=true:=by
    generalize fs.toList=l at h2
    cases l<;>cases τ<;>first|rfl |(simp[eqTy.fields] at h2;done)
   have:=run_equalIn_agg (P:=P) w (d+k) t cs.toArray ds.toArray (by rw[hfs,hu]) h1
   unfold mkV
   rw[hagg]
   simp only[if_true]
   rw[this,hfs]
   exact eqFields_run (fun t τ hh=>eqTy_run d t τ hh) k fs.toList τ 0 x y cs ds cs ds h2 rfl rfl (Nat.zero_le _) (Nat.zero_le _) hx hy
  ·rename_i n e m τe hu
   simp only[Bool.and_eq_true,beq_iff_eq] at h
   obtain⟨hn,h3,h4,h5,h6⟩:=h
   subst hn
   have hinfo:∃i,P.info? e=some i:=by
    unfold known at h6
    obtain⟨de,hde⟩:=Option.isSome_iff_exists.1 h6
    exact info_of_underlying hde
   obtain⟨i,hi⟩:=hinfo
   have:=run_equalIn_array (P:=P) w (d+k) cs.toArray ds.toArray hu hi
   unfold mkV
   simp only[Ty.agg,if_true]
   rw[this,List.range_eq_range']
   exact eqItems_run (fun t τ hh=>eqTy_run d t τ hh) k h3 h4 h5 h6 cs ds n 0 x y cs ds (by simp) (by simp) (by simp) (by simp) hx.2 hy.2 hx.1 hy.1
  ·cases h
def binRun (P:Program) (op:BinOp) (t:TypeId) (x y:Operand) (u v:Value) (w:World):Result Value :=
 (do eqGuard op t x y u v;binOp op t u v:Sem Value).run P w
theorem intOp_ok {op:BinOp} {k k':IntKind} {m m':Int} {c:Bool} {r:AV} (h:intOp op k m k' m'=some (c,r)) (hc:c=true) (t:TypeId) (x y:Operand) :
  ∃v,binRun P op t x y (.int k m) (.int k' m') w=.ok v w∧RV w K r v:=by
 subst hc
 have sc:∀(k:IntKind) (m:Int),RV w K (.int k m) (.int k m):=fun k m=>RV.scalar (av:=.int k m) rfl rfl rfl
 have sb:∀(b:Bool),RV w K (.bool b) (.bool b):=fun b=>RV.scalar (av:=.bool b) rfl rfl rfl
 cases op
 case shl =>
  simp only[intOp,Option.some.injEq,Prod.mk.injEq,Bool.not_eq_true',decide_eq_false_iff_not] at h
  obtain⟨h1,rfl⟩:=h
  exact⟨_,by simp[binRun,eqGuard,binOp,Op.shift,h1]<;>rfl,sc _ _⟩
 case shr =>
  simp only[intOp,Option.some.injEq,Prod.mk.injEq,Bool.not_eq_true',decide_eq_false_iff_not] at h
  obtain⟨h1,rfl⟩:=h
  exact⟨_,by simp[binRun,eqGuard,binOp,Op.shift,h1]<;>rfl,sc _ _⟩
 case quo =>
  simp only[intOp] at h
  split at h
  ·rename_i e
   subst e
   simp only[Option.some.injEq,Prod.mk.injEq,Bool.not_eq_true',decide_eq_false_iff_not] at h
   obtain⟨h1,rfl⟩:=h
   exact⟨_,by simp[binRun,eqGuard,binOp,Op.intDiv,h1]<;>rfl,sc _ _⟩
  ·cases h
 case rem =>
  simp only[intOp] at h
  split at h
  ·rename_i e
   subst e
   simp only[Option.some.injEq,Prod.mk.injEq,Bool.not_eq_true',decide_eq_false_iff_not] at h
   obtain⟨h1,rfl⟩:=h
   exact⟨_,by simp[binRun,eqGuard,binOp,Op.intDiv,h1]<;>rfl,sc _ _⟩
  ·cases h
 all_goals
  simp only[intOp] at h
  split at h
  ·rename_i e
   subst e
   cases h
   first
    |exact⟨_,by simp[binRun,eqGuard,binOp,Op.intArith]<;>rfl,sc _ _⟩
    |exact⟨_,by simp[binRun,eqGuard,binOp,Op.intBits]<;>rfl,sc _ _⟩
    |exact⟨_,by simp[binRun,eqGuard,binOp,Op.intCmp]<;>rfl,sb _⟩
  ·cases h
theorem strOp_ok {op:BinOp} {m m':List UInt8} {c:Bool} {r:AV} (h:strOp op m m'=some (c,r)) (hc:c=true) (t:TypeId) (x y:Operand) :
  ∃v,binRun P op t x y (.string ⟨⟨m⟩⟩) (.string ⟨⟨m'⟩⟩) w=.ok v w∧RV w K r v:=by
 subst hc
 have sb:∀(b:Bool),RV w K (.bool b) (.bool b):=fun b=>RV.scalar (av:=.bool b) rfl rfl rfl
 cases op<;>simp only[strOp] at h<;>try cases h
 case add =>
  simp only[Option.some.injEq,Prod.mk.injEq,Nat.ble_eq] at h
  obtain⟨h1,rfl⟩:=h
  refine⟨.string ⟨⟨m++m'⟩⟩,?_,RV.scalar (av:=.str _) rfl rfl rfl⟩
  have hs:¬(((m.length+m'.length:Nat):Int) > IntKind.i64.max):=by
   have:IntKind.i64.max=9223372036854775807:=by decide
   rw[this];omega
  have hcat:(⟨⟨m⟩⟩:ByteArray)++⟨⟨m'⟩⟩=⟨⟨m++m'⟩⟩:=by
   apply ByteArray.ext
   simp
  have hsz:∀l:List UInt8,(⟨⟨l⟩⟩:ByteArray).size=l.length:=fun l=>rfl
  simp only[binRun,eqGuard,binOp,Op.stringOp,hsz,hs,if_false,hcat]
  rfl
 case eql=>exact⟨.bool (m==m'),by simp only[binRun,eqGuard,binOp,Op.stringOp,toList_mk];rfl,sb _⟩
 case neq=>exact⟨.bool (!(m==m')),by simp only[binRun,eqGuard,binOp,Op.stringOp,toList_mk];rfl,sb _⟩
 case lss=>exact⟨.bool (Op.bytesLess m m'),by simp only[binRun,eqGuard,binOp,Op.stringOp,toList_mk];rfl,sb _⟩
theorem as_agg:∀(s:Sh) (x:s.den) (t:Ty) (y:t.den),s.as x t=some y→s.agg=t.agg:=by
 intro s x t y h
 cases s
 case ty s =>
  simp only[Sh.as] at h
  split at h
  ·rename_i e _;subst e;rfl
  ·cases h
 case pair a b=>cases t<;>first|rfl |cases h
 case osl id e=>cases t<;>first|rfl |cases h
 case lit v=>cases t<;>first|rfl |cases h
 case fn f caps=>cases t<;>first|rfl |cases h
 all_goals cases t<;>cases h
theorem RV.as_mk {av:AV} {t:Ty} {x:t.den} {v:Value} (h:RV w K av v) (ha:av.as t=some x):v=mkV t.agg v.cells.toList∧RT w K t x v.cells.toList:=by
 refine⟨?_,h.as ha⟩
 rw[←as_agg _ _ _ _ ha]
 obtain⟨sh,y⟩:=av
 cases sh
 case tup=>cases t<;>cases ha
 case top=>cases t<;>cases ha
 all_goals exact R1.mkV h
theorem run_ptr_r {t e:TypeId} (he:P.underlying t=some (.pointer e)) (d:Nat) (p:Option Addr) (w:World):(Op.equalIn (d+1) t (.pointer p) (.pointer none)).run P w=.ok p.isNone w:=by
 cases p<;>simp[Op.equalIn,run_underlying he]
theorem run_ptr_l {t e:TypeId} (he:P.underlying t=some (.pointer e)) (d:Nat) (p:Option Addr) (w:World):(Op.equalIn (d+1) t (.pointer none) (.pointer p)).run P w=.ok p.isNone w:=by
 cases p<;>simp[Op.equalIn,run_underlying he]
theorem eqOp_ok (heqs:eqs.all (eqOk P)=true) {t:TypeId} {x y:AV} {b:Bool} (h:eqOp P eqs t x y=some b) {u v:Value} (hu:RV w K x u) (hv:RV w K y v) (op:BinOp) (hop:op=.eql∨op=.neq) (x' y':Operand) :
  binRun P op t x' y' u v w=.ok (.bool (if op=.eql then b else !b)) w:=by
 have ptr:∀(p q:Option Addr) (b:Bool) (e:TypeId),P.underlying t=some (.pointer e)→(p=none∨q=none)→b=(p.isNone&&q.isNone)→binRun P op t x' y' (.pointer p) (.pointer q) w=.ok (.bool (if op=.eql then b else !b)) w:=by
  intro p q b e he hpq hb
  subst hb
  have h0:(Op.equal t (.pointer p) (.pointer q)).run P w=.ok (p.isNone&&q.isNone) w:=by
   rcases hpq with rfl |rfl
   ·exact run_ptr_l he 9999 q w
   ·rw[Option.isNone_none,Bool.and_true]
    exact run_ptr_r he 9999 p w
  rcases hop with rfl |rfl
  ·have e1:binRun P .eql t x' y' (.pointer p) (.pointer q) w=((Op.equal t (.pointer p) (.pointer q)).run P w).andThen fun b w'=>.ok (.bool b) w':=by
    simp[binRun,eqGuard,binOp]
   rw[e1,h0]
   rfl
  ·have e1:binRun P .neq t x' y' (.pointer p) (.pointer q) w=((Op.equal t (.pointer p) (.pointer q)).run P w).andThen fun b w'=>.ok (.bool !b) w':=by
    simp[binRun,eqGuard,binOp]
   rw[e1,h0]
   rfl
 unfold eqOp at h
 split at h
 ·rename_i a c
  split at h
  ·rename_i hb
   cases h
   have hb':P.underlying t=some .bool:=by
    generalize P.underlying t=z at hb
    cases z with
    |none=>cases hb
    |some d=>cases d<;>first|rfl |cases hb
   rw[RV.bool hu,RV.bool hv]
   rcases hop with rfl |rfl
   ·have:=run_eql_bool (P:=P) w t a c hb'
    simp[binRun,eqGuard,this]
   ·have:=run_neq_bool (P:=P) w t a c hb'
    simp[binRun,eqGuard,this]
  ·cases h
 ·split at h
  ·rename_i hb
   cases h
   obtain⟨e,he⟩:∃e,P.underlying t=some (.pointer e):=by
    generalize P.underlying t=z at hb
    cases z with
    |none=>cases hb
    |some d=>cases d<;>first|exact⟨_,rfl⟩ |cases hb
   obtain⟨bb,rfl,_⟩:=RV.box hu
   rw[RV.lit hv]
   exact ptr _ _ _ e he (.inr rfl) rfl
  ·cases h
 ·split at h
  ·rename_i hb
   cases h
   obtain⟨e,he⟩:∃e,P.underlying t=some (.pointer e):=by
    generalize P.underlying t=z at hb
    cases z with
    |none=>cases hb
    |some d=>cases d<;>first|exact⟨_,rfl⟩ |cases hb
   obtain⟨bb,rfl,_⟩:=RV.box hv
   rw[RV.lit hu]
   exact ptr _ _ _ e he (.inl rfl) rfl
  ·cases h
 ·split at h
  ·rename_i hb
   cases h
   obtain⟨e,he⟩:∃e,P.underlying t=some (.pointer e):=by
    generalize P.underlying t=z at hb
    cases z with
    |none=>cases hb
    |some d=>cases d<;>first|exact⟨_,rfl⟩ |cases hb
   rw[RV.lit hu,RV.lit hv]
   exact ptr _ _ _ e he (.inl rfl) rfl
  ·cases h
 ·split at h
  ·rename_i hb
   cases h
   obtain⟨e,he⟩:∃e,P.underlying t=some (.pointer e):=by
    generalize P.underlying t=z at hb
    cases z with
    |none=>cases hb
    |some d=>cases d<;>first|exact⟨_,rfl⟩ |cases hb
   obtain⟨ad,cc,rfl,_⟩:=RV.ref hu
   rw[RV.lit hv]
   exact ptr _ _ _ e he (.inr rfl) rfl
  ·cases h
 ·split at h
  ·rename_i hmem
   split at h
   ·rename_i τ hτ
    split at h
    ·rename_i a c e1 e2
     cases h
     have hok:=List.all_eq_true.1 heqs t (by simpa using hmem)
     simp only[eqOk,hτ,Bool.and_eq_true,Bool.not_eq_true'] at hok
     obtain⟨h1,h2,h3⟩:=hok
     obtain⟨hu1,hu2⟩:=RV.as_mk hu e1
     obtain⟨hv1,hv2⟩:=RV.as_mk hv e2
     have hq:=eqTy_run (w:=w) (K:=K) tyDepth t τ h2 (10000-tyDepth) a c _ _ hu2 hv2
     rw[←hu1,←hv1] at hq
     rw[h3] at hu1 hv1
     simp only[mkV,if_true] at hu1 hv1
     rw[hu1,hv1] at hq
     rw[hu1,hv1]
     have hq':(Op.equalIn 10000 t (.agg u.cells.toList.toArray) (.agg v.cells.toList.toArray)).run P w=.ok (τ.eqb a c) w:=hq
     have hg:=run_eqGuard_agg (P:=P) w op t x' y' u.cells.toList.toArray v.cells.toList.toArray h1
     rcases hop with rfl |rfl
     ·have:=run_eql_struct (P:=P) w t u.cells.toList.toArray v.cells.toList.toArray
      rw[hq'] at this
      simp only[binRun,Sem.run_bind,hg,Result.andThen_ok,this,if_true]
     ·have:=run_neq_struct (P:=P) w t u.cells.toList.toArray v.cells.toList.toArray
      rw[hq'] at this
      simp only[binRun,Sem.run_bind,hg,Result.andThen_ok,this]
      rfl
    ·cases h
   ·cases h
  ·cases h
theorem binAV_ok (heqs:eqs.all (eqOk P)=true) {op:BinOp} {t:TypeId} {x y r:AV} {c:Bool} (h:binAV P eqs op t x y=some (c,r)) (hc:c=true) {u v:Value} (hu:RV w K x u) (hv:RV w K y v) (x' y':Operand) :
  ∃z,binRun P op t x' y' u v w=.ok z w∧RV w K r z:=by
 unfold binAV at h
 split at h
 ·rw[RV.int hu,RV.int hv]
  exact intOp_ok h hc t x' y'
 ·rw[RV.str hu,RV.str hv]
  exact strOp_ok h hc t x' y'
 ·split at h
  ·obtain⟨b,hb,e⟩:=Option.map_eq_some_iff.1 h
   cases e
   exact⟨_,eqOp_ok heqs hb hu hv .eql (.inl rfl) x' y',RV.scalar (av:=.bool b) rfl rfl rfl⟩
  ·obtain⟨b,hb,e⟩:=Option.map_eq_some_iff.1 h
   cases e
   exact⟨_,eqOp_ok heqs hb hu hv .neq (.inr rfl) x' y',RV.scalar (av:=.bool _) rfl rfl rfl⟩
  ·cases h
theorem unAV_ok {op:UnOp} {x r:AV} (h:unAV op x=some r) {u:Value} (hu:RV w K x u):∃z,(Op.unary op u).run P w=.ok z w∧RV w K r z:=by
 unfold unAV at h
 split at h
 ·cases h
  rw[RV.int hu]
  exact⟨_,rfl,RV.scalar (av:=.int _ _) rfl rfl rfl⟩
 ·cases h
  rw[RV.int hu]
  exact⟨_,rfl,RV.scalar (av:=.int _ _) rfl rfl rfl⟩
 ·cases h
  rw[RV.bool hu]
  exact⟨_,rfl,RV.scalar (av:=.bool _) rfl rfl rfl⟩
 ·cases h
theorem bytes_cells {xs:List Int}:∀{cc:List Value},RL (RT w K (.int .u8)) xs cc→cc=xs.map (Value.int .u8):=by
 induction xs with
 |nil=>intro cc h;exact h
 |cons x xs ih =>
  intro cc h
  obtain⟨c1,c2,e,h1,h2⟩:=h
  rw[e,show c1=[.int .u8 x] from h1,ih h2]
  rfl
theorem bytesAV_ok {x:AV} {xs:List Int} (h:bytesAV x=some xs) {u:Value} (hu:RV w K x u):∃A len cap,u=.slice A len cap∧len=xs.length∧(A=none→cap=0)∧len≤cap∧∀a,A=some a→At w K a (xs.map (Value.int .u8)):=by
 have fin:∀(A:Option Addr) (len cap:Nat),RT w K (.sl (.int .u8)) xs [.slice A len cap]→u=.slice A len cap→∃A len cap,u=.slice A len cap∧len=xs.length∧(A=none→cap=0)∧len≤cap∧∀a,A=some a→At w K a (xs.map (Value.int .u8)):=fun A len cap hr hv=>by
  obtain⟨A',len',cap',e,h2,h3,h4,h5⟩:=hr
  simp only[List.cons.injEq,Value.slice.injEq,and_true] at e
  obtain⟨rfl,rfl,rfl⟩:=e
  refine⟨_,_,_,hv,h2,h4,h3,fun a ha=>?_⟩
  obtain⟨cc,k1,k2⟩:=h5 a ha
  rw[←bytes_cells k1]
  exact k2
 unfold bytesAV at h
 split at h
 ·cases h
  obtain⟨A,len,cap,hv,hr⟩:=RV.sl hu
  exact fin A len cap hr hv
 ·cases h
  obtain⟨A,len,cap,hv,hr,_⟩:=RV.osl hu
  exact fin A len cap hr hv
 ·cases h
theorem convAV_ok {src dst:TypeId} {x r:AV} (h:convAV P src dst x=some r) {u:Value} (hu:RV w K x u):∃z,(convert src dst u).run P w=.ok z w∧RV w K r z:=by
 unfold convAV at h
 split at h
 ·rename_i d k k' a h1 h2
  cases h
  rw[RV.int hu]
  refine⟨.int k (k.wrap a),?_,RV.scalar (av:=.int _ _) rfl rfl rfl⟩
  simp[convert,run_underlying h1,run_underlying h2,Conv.intToInt]
 ·rename_i d a h1 h2
  cases h
  rw[RV.str hu]
  refine⟨.string ⟨⟨a⟩⟩,?_,RV.scalar (av:=.str _) rfl rfl rfl⟩
  simp[convert,run_underlying h1,run_underlying h2]
 ·rename_i x0 e h1 h2 hne
  split at h
  ·rename_i hb
   obtain⟨xs,hxs,e'⟩:=Option.map_eq_some_iff.1 h
   cases e'
   have he:P.underlying e=some (.int .u8):=by
    unfold isBytes at hb
    split at hb
    ·rename_i hh;exact hh
    ·cases hb
   obtain⟨A,len,cap,rfl,hlen,hnil,hle,hat⟩:=bytesAV_ok hxs hu
   refine⟨.string ⟨⟨xs.map toByte⟩⟩,?_,RV.scalar (av:=.str _) rfl rfl rfl⟩
   rw[run_convert_bytes_string w src dst e A len cap h1 he h2]
   cases A with
   |none =>
    have:xs=[]:=List.length_eq_zero_iff.1 (by have:=hnil rfl;omega)
    subst this
    simp[Conv.bytesToString]
    rfl
   |some a =>
    have hl:(loadCells a len).run P w=.ok (xs.map (Value.int .u8)).toArray w:=by
     have:=run_loadCells_list (P:=P) w a (xs.map (Value.int .u8)) (fun j v hj=>by
      obtain⟨q1,q2,_⟩:=hat a rfl j v hj
      rw[add_eq q1]
      exact q2)
     simpa [hlen] using this
    rw[run_bytesToString w a len cap xs hl,foldl_push_bytes]
    simp[ByteArray.empty,ByteArray.emptyWithCapacity]
    rfl
  ·cases h
 ·cases h
theorem natOf_ok {x:AV} {i:Int} (h:natOf x=some i) {u:Value} (hu:RV w K x u):∃k,u=.int k i:=by
 unfold natOf at h
 split at h
 ·cases h;exact⟨_,RV.int hu⟩
 ·cases h
theorem At.add {a:Addr} {cc:List Value} (h:At w K a cc) (j m:Nat):At w K (a.add j) ((cc.drop j).take m):=by
 intro i v hi
 rw[List.getElem?_take] at hi
 split at hi
 ·rw[List.getElem?_drop] at hi
  obtain⟨h1,h2,h3⟩:=h (j+i) v hi
  rw[add_eq h1]
  exact⟨rfl,by rw[Nat.add_assoc];exact h2,by rw[Nat.add_assoc];exact h3⟩
 ·cases hi
theorem RT_slice {e:Ty} {xs:List e.den} {A:Option Addr} {len cap:Nat} (h:RT w K (.sl e) xs [.slice A len cap]) {l m:Nat} (h1:l≤m) (h2:m≤xs.length) :
  RT w K (.sl e) ((xs.take m).drop l) [.slice (if cap=l then A else A.map (·.add (l*e.size))) (m-l) (cap-l)]:=by
 obtain⟨A',len',cap',he,h3,h4,h5,h6⟩:=h
 injection he with he _
 injection he with e1 e2 e3
 subst e1 e2 e3
 have hlen:((xs.take m).drop l).length=m-l:=by rw[List.length_drop,List.length_take,Nat.min_eq_left h2]
 refine⟨_,_,_,rfl,hlen.symm,by omega,fun hn=>?_,fun ad had=>?_⟩
 ·split at hn
  ·omega
  ·cases A with
   |none=>have:=h5 rfl;omega
   |some a=>cases hn
 ·split at had
  ·rename_i hcl
   subst hcl
   have hnil:(xs.take m).drop cap=[]:=List.length_eq_zero_iff.1 (by omega)
   rw[hnil]
   exact⟨[],rfl,fun j v hj=>by simp at hj⟩
  ·cases A with
   |none=>cases had
   |some a =>
    cases had
    obtain⟨cc,k1,k2⟩:=h6 a rfl
    have s1:=RL.split (RT.length e) xs cc m k1 h2
    have s2:=RL.split (RT.length e) (xs.take m) _ l s1.1 (by rw[List.length_take,Nat.min_eq_left h2];exact h1)
    refine⟨_,s2.2,?_⟩
    rw[List.drop_take]
    exact k2.add _ _
theorem Own_slice {id sz:Nat} {A:Option Addr} {len cap l:Nat} (h:Own w K id sz A len cap) (hl:l≤len) (hc:len≤cap) :
  Own w K id sz (if cap=l then A else A.map (·.add (l*sz))) (len-l) (cap-l):=by
 rcases h with h |h |⟨a,ha,hs,hk,arr,T,hh,hle⟩
 ·subst h
  exact .inl (by split<;>rfl)
 ·exact .inr (.inl (by omega))
 ·by_cases e:cap=l
  ·exact .inr (.inl (by omega))
  ·rw[if_neg e]
   subst ha
   refine .inr (.inr ⟨a.add (l*sz),rfl,?_,?_,arr,T,?_,?_⟩)
   ·rw[add_eq hs]
   ·rw[add_eq hs]
    rw[hk]
    congr 1
    have:l*sz+(len-l)*sz=len*sz:=by rw[←Nat.add_mul];congr 1;omega
    show a.off+len*sz=a.off+l*sz+(len-l)*sz
    omega
   ·rw[add_eq hs];exact hh
   ·rw[add_eq hs]
    have:l*sz+(cap-l)*sz=cap*sz:=by rw[←Nat.add_mul];congr 1;omega
    show a.off+l*sz+(cap-l)*sz≤arr.size
    omega
theorem sliceBound_ok {x:AV} {i:Int} (hn:natOf x=some i) {u:Value} (hu:RV w K x u) {y:Nat} (code:BoundsCode) (h0:0≤i) (h1:i≤y):(Instr.sliceBound u y code).run P w=.ok i.toNat w:=by
 obtain⟨k,rfl⟩:=natOf_ok hn hu
 simp[Instr.sliceBound,asIntOf,h0,h1]
def optRV (w:World) (K:Kinds):Option AV→Option Value→Prop
 |none,none=>True
 |some x,some u=>RV w K x u
 |_,_=>False
theorem bounds_ok {lo hi:Option AV} {u v:Option Value} (hu:optRV w K lo u) (hv:optRV w K hi v) {len cap:Nat} {l h:Int} (hl:lo.elim (some (0:Int)) natOf=some l) (hh:hi.elim (some ((len:Nat):Int)) natOf=some h)
  (h1:0≤h) (h2:h≤len) (h3:0≤l) (h4:l≤h) (hc:len≤cap) (b:Bool):(Instr.sliceBounds b len cap u v none).run P w=.ok (l.toNat,h.toNat,cap) w:=by
 cases hi with
 |none =>
  cases v with
  |some v=>exact hv.elim
  |none =>
   simp at hh
   subst hh
   cases lo with
   |none =>
    cases u with
    |some u=>exact hu.elim
    |none =>
     simp at hl
     subst hl
     simp[Instr.sliceBounds]
   |some x =>
    cases u with
    |none=>exact hu.elim
    |some u =>
     have:=sliceBound_ok (P:=P) (y:=len) hl hu .sliceB h3 (by omega)
     simp[Instr.sliceBounds,this]
 |some y =>
  cases v with
  |none=>exact hv.elim
  |some v =>
   have g1:=sliceBound_ok (P:=P) (y:=cap) hh hv (if b then .sliceAcap else .sliceAlen) h1 (by omega)
   cases lo with
   |none =>
    cases u with
    |some u=>exact hu.elim
    |none =>
     simp at hl
     subst hl
     simp[Instr.sliceBounds,g1]
   |some x =>
    cases u with
    |none=>exact hu.elim
    |some u =>
     have:=sliceBound_ok (P:=P) (y:=h.toNat) hl hu .sliceB h3 (by omega)
     simp[Instr.sliceBounds,g1,this]
theorem extract_mk (s:List UInt8) (l h:Nat):(⟨⟨s⟩⟩:ByteArray).extract l h=⟨⟨(s.take h).drop l⟩⟩:=by
 apply ByteArray.ext
 rw[ByteArray.data_extract]
 simp[List.extract_eq_take_drop,List.drop_take]
theorem sliceAt_str {t:TypeId} (ht:P.underlying t=some .string) {s:List UInt8} {lo hi:Option AV} {u v:Option Value} (hu:optRV w K lo u) (hv:optRV w K hi v) {c:Bool} {r:AV}
  (h:sliceAV (.str s) lo hi=some (c,r)) (hc:c=true):∃z,(Instr.sliceAt t (.string ⟨⟨s⟩⟩) u v none).run P w=.ok z w∧RV w K r z:=by
 subst hc
 simp only[sliceAV] at h
 split at h
 ·rename_i l h' e1 e2
  simp only[Option.some.injEq,Prod.mk.injEq,Bool.and_eq_true,decide_eq_true_eq] at h
  obtain⟨⟨⟨⟨h1,h2⟩,h3⟩,h4⟩,rfl⟩:=h
  have hb:=bounds_ok (P:=P) hu hv e1 e2 h1 h2 h3 h4 (Nat.le_refl _) false
  refine⟨_,?_,RV.scalar (av:=.str _) rfl rfl rfl⟩
  have hsz:(⟨⟨s⟩⟩:ByteArray).size=s.length:=rfl
  simp[Instr.sliceAt,Instr.slice,run_underlying ht,hsz,hb,extract_mk]
 ·cases h
theorem sliceAt_sl {t el:TypeId} (ht:P.underlying t=some (.slice el)) (hk:known P el=true) {e:Ty} (hsz:P.cellsOf el=e.size) {x:AV} {xs:List e.den} (hx:asSl x=some ⟨e,xs⟩) {uv:Value} (hxv:RV w K x uv)
  {lo hi:Option AV} {u v:Option Value} (hu:optRV w K lo u) (hv:optRV w K hi v) {c:Bool} {r:AV} (h:sliceAV x lo hi=some (c,r)) (hc:c=true) :
  ∃z,(Instr.sliceAt t uv u v none).run P w=.ok z w∧RV w K r z:=by
 subst hc
 have key:∀(A:Option Addr) (len cap:Nat),RT w K (.sl e) xs [.slice A len cap]→∀(l h:Int),lo.elim (some (0:Int)) natOf=some l→hi.elim (some ((xs.length:Nat):Int)) natOf=some h→0≤h→h≤xs.length→0≤l→l≤h →
   (Instr.sliceAt t (.slice A len cap) u v none).run P w=.ok (.slice (if cap=l.toNat then A else A.map (·.add (l.toNat*e.size))) (h.toNat-l.toNat) (cap-l.toNat)) w ∧
   RT w K (.sl e) ((xs.take h.toNat).drop l.toNat) [.slice (if cap=l.toNat then A else A.map (·.add (l.toNat*e.size))) (h.toNat-l.toNat) (cap-l.toNat)]:=by
  intro A len cap hr l h hl hh h1 h2 h3 h4
  have hr':=hr
  obtain⟨A',len',cap',he,g1,g2,g3,g4⟩:=hr
  injection he with he _
  injection he with q1 q2 q3
  subst q1 q2 q3
  have hb:=bounds_ok (P:=P) hu hv hl (by rw[g1];exact hh) h1 (by rw[g1];exact h2) h3 h4 g2 true
  refine⟨?_,RT_slice hr' (by omega) (by omega)⟩
  have hs:=run_sizeOf hk w
  rw[hsz] at hs
  simp[Instr.sliceAt,Instr.slice,run_underlying ht,hb,hs]
 obtain⟨sh,xv⟩:=x
 cases sh<;>simp only[asSl] at hx<;>try cases hx
 case ty τ =>
  cases τ<;>simp only[] at hx<;>try cases hx
  simp only[sliceAV] at h
  split at h
  ·rename_i l h' e1 e2
   simp only[Option.some.injEq,Prod.mk.injEq,Bool.and_eq_true,decide_eq_true_eq] at h
   obtain⟨⟨⟨⟨h1,h2⟩,h3⟩,h4⟩,rfl⟩:=h
   obtain⟨A,len,cap,rfl,hr⟩:=RV.sl hxv
   obtain⟨k1,k2⟩:=key A len cap hr l h' e1 e2 h1 h2 h3 h4
   exact⟨_,k1,RV.scalar (av:=⟨.ty (.sl _),_⟩) k2 rfl rfl⟩
  ·cases h
 case osl id =>
  obtain⟨A,len,cap,rfl,hr,hown⟩:=RV.osl hxv
  simp only[sliceAV] at h
  split at h
  ·split at h
   ·rename_i l e1
    simp only[Option.some.injEq,Prod.mk.injEq,inRange,Bool.and_eq_true,decide_eq_true_eq] at h
    obtain⟨⟨h1,h2⟩,rfl⟩:=h
    obtain⟨k1,k2⟩:=key A len cap hr l _ e1 rfl (by omega) (by omega) h1 (by omega)
    have hr':=hr
    obtain⟨A',len',cap',he,g1,g2,g3,g4⟩:=hr'
    injection he with he _
    injection he with q1 q2 q3
    subst q1 q2 q3
    refine⟨_,k1,R1.toRV (a:=⟨.osl id _,_⟩) ⟨⟨?_,?_⟩,(fun e=>(by cases e)),(fun _ c e=>(by cases e))⟩⟩
    ·rw[Int.toNat_natCast,List.take_length] at k2
     rw[Int.toNat_natCast]
     exact k2
    ·intro A2 len2 cap2 hc
     injection hc with hc _
     injection hc with q1 q2 q3
     subst q1 q2 q3
     rw[Int.toNat_natCast,←g1]
     exact Own_slice hown (by omega) g2
   ·cases h
  ·split at h
   ·rename_i hi' _ l h' e1 e2
    simp only[Option.some.injEq,Prod.mk.injEq,Bool.and_eq_true,decide_eq_true_eq] at h
    obtain⟨⟨⟨⟨h1,h2⟩,h3⟩,h4⟩,rfl⟩:=h
    obtain⟨k1,k2⟩:=key A len cap hr l h' e1 e2 h1 h2 h3 h4
    exact⟨_,k1,RV.scalar (av:=⟨.ty (.sl _),_⟩) k2 rfl rfl⟩
   ·cases h
theorem RowLen.le {b m n:Nat} (h:RowLen w b n) (hm:m≤n):RowLen w b m :=
 let⟨cs,T,h1,h2⟩:=h
 ⟨cs,T,h1,Nat.le_trans hm h2⟩
theorem sliceAt_win {t el:TypeId} (ht:P.underlying t=some (.slice el)) (hk:known P el=true) {e:Ty} (hsz:P.cellsOf el=e.size) {id:Nat} {y:Nat×Nat} {uv:Value} (hxv:RV w K ⟨.win id e,y⟩ uv)
  {lo hi:Option AV} {u v:Option Value} (hu:optRV w K lo u) (hv:optRV w K hi v) {c:Bool} {r:AV} (h:sliceWin id e y lo hi=some (c,r)) (hc:c=true) :
  ∃z,(Instr.sliceAt t uv u v none).run P w=.ok z w∧RV w K r z:=by
 subst hc
 obtain⟨b,j,cap,rfl,g1,g2,g3,g4,g5⟩:=RV.win hxv
 simp only[sliceWin] at h
 split at h
 ·rename_i l h' e1 e2
  simp only[Option.some.injEq,Prod.mk.injEq,Bool.and_eq_true,decide_eq_true_eq] at h
  obtain⟨⟨⟨⟨h1,h2⟩,h3⟩,h4⟩,rfl⟩:=h
  have hb:=bounds_ok (P:=P) hu hv e1 e2 h1 h2 h3 h4 g3 true
  have hs:=run_sizeOf hk w
  rw[hsz] at hs
  refine⟨.slice (if cap=l.toNat then some ⟨b,j,none⟩ else some ((⟨b,j,none⟩:Addr).add (l.toNat*e.size))) (h'.toNat-l.toNat) (cap-l.toNat),?_,?_⟩
  ·simp[Instr.sliceAt,Instr.slice,run_underlying ht,hb,hs]
  ·obtain⟨q,hq,hq2⟩:∃q,(if cap=l.toNat then some ⟨b,j,none⟩ else some ((⟨b,j,none⟩:Addr).add (l.toNat*e.size)))=some (⟨b,q,none⟩:Addr)∧(h'.toNat-l.toNat≠0→q=(y.1+l.toNat)*e.size):=by
    split
    ·exact⟨j,rfl,fun hne=>absurd hne (by omega)⟩
    ·refine⟨j+l.toNat*e.size,by rw[add_eq rfl],fun hne=>?_⟩
     rw[g4 (by omega),Nat.add_mul]
   rw[hq]
   refine R1.toRV (a:=⟨.win id e,_⟩) ⟨⟨b,q,_,rfl,g1,g2,(by show h'.toNat-l.toNat≤_;omega),hq2,g5.le ?_⟩,(fun e=>(by cases e)),(fun _ c e=>(by cases e))⟩
   exact Nat.mul_le_mul_right _ (by show y.1+l.toNat+(h'.toNat-l.toNat)≤_;omega)
 ·cases h
end
end Go.Av
end
