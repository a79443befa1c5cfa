/- Texts of the proof, one behind the other. -/
import Derived.Test.YtealbjacocgjcaaGreatRailGK31
import Derived.Test.YtealbjacocgjcaaGreatRailGK30
import Derived.Test.YtealbjacocgjcaaGreatRailGK26
import Derived.Test.YtealbjacocgjcaaGreatRailGK28
section
namespace Go.Av
open Go
abbrev Flg:Type:=Bool×Bool×Bool×Bool×Unit
abbrev IS:Type:=(Int→Nat)×Flg×(Nat→Nat)
inductive PI where
 |op (i:tIns.den)
 |br (o c:Int) (t:Nat)
def cmpF (a b:Nat):Flg:=(decide (2147483648≤wn ((a:Int)-b)),a==b,decide (b≤a),cmpV a b,())
def holdsF (F:Flg) (c:Int):Bool :=
 bif decide (c<0)||decide (c > 13) then false else((bif c / 2==0 then F.2.1 else bif c / 2==1 then F.2.2.1 else bif c / 2==2 then F.1 else bif c / 2==3 then F.2.2.2.1 else bif c / 2==4 then F.2.2.1&&!F.2.1 else bif c / 2==5 then F.1==F.2.2.2.1 else c / 2==6&&(!F.2.1&&F.1==F.2.2.2.1))==(c % 2==0))
def goesF (F:Flg) (o c:Int):Bool:=o==24||o==25&&holdsF F c
structure Env where
 P:List PI
 o:Nat
 r:Nat
 n:Nat
 h:Nat
def Env.okR (E:Env) (a:Nat):Bool:=(regR E.o E.r E.n a).isSome
def Env.okW (E:Env) (a:Nat):Bool:=(regW E.o E.r a).isSome
abbrev IO3:Type:=Bool×Nat×IS
def doI (E:Env) (j:Nat) (i:tIns.den) (s:IS):IO3 :=
 bif i.1==2 then(true,j,s)
 else bif i.1==19 then(bif E.okR (s.1 i.2.2.1) then(false,j+1,updR s.1 i.2.1 (s.2.2 (s.1 i.2.2.1)),s.2) else(false,E.h,s))
 else bif i.1==20 then(bif E.okW (s.1 i.2.2.1) then(false,j+1,s.1,s.2.1,updW s.2.2 (s.1 i.2.2.1) (s.1 i.2.1)) else(false,E.h,s))
 else bif i.1==23 then(false,j+1,s.1,cmpF (s.1 i.2.2.1) (s.1 i.2.2.2.1),s.2.2)
 else(false,j+1,stepR s.1 i,s.2)
def atI (E:Env) (j:Nat) (s:IS):PI→IO3
 | .op i=>doI E j i s
 | .br o c t=>bif goesF s.2.1 o c then(false,t,s) else(false,j+1,s)
def stepI (E:Env) (skip:Bool) (j:Nat) (s:IS):IO3 :=
 match E.P[j]? with
 |none=>(false,E.h,s)
 |some p=>bif skip then(false,j+1,s) else atI E j s p
def hitI (f:tFault.den) (s:IS):IS :=
 bif f.1==2 then(updR s.1 f.2.2.1 (s.1 f.2.2.1 ^^^ 2 ^ kk f.2.2.2.1),s.2)
 else bif f.1==3 then(s.1,(qbj ([],0,s.2.1) f).2.2,s.2.2)
 else s
def opK (i:tIns.den):Bool:=okB i.1 i.2.1 i.2.2.1 i.2.2.2.1 i.2.2.2.2.1 i.2.2.2.2.2.1 i.2.2.2.2.2.2.1 i.2.2.2.2.2.2.2.1&&(i.1==2||(decide (3≤i.1)&&decide (i.1≤20)||i.1==23))
structure Lk (E:Env) (adr:Nat→Int) (j:Nat) (s:IS) (st:tState.den) (mem:MemT):Prop where
 rep:repS st s.1
 pc:(show Int from st.2.1)=adr j
 fl:st.2.2=s.2.1
 mw:MW E.o E.r E.n mem s.2.2
structure PrgOk (hd:tHead.den) (fl:List UInt8) (E:Env) (adr:Nat→Int):Prop where
 sz:SzOk E.o E.r E.n
 hand:(show Int from hd.2.1)=adr E.h
 hin:E.h≤E.P.length
 rng:∀j,j≤E.P.length→0≤adr j∧adr j<4294967296
 fin:fetchX fl (adr E.P.length)=none
 op:∀j i,E.P[j]?=some (.op i)→opK i=true∧fetchX fl (adr j)=some (i,bif isLong i.1 i.2.2.2.2.2.2.2.1 then 4 else 2)∧adr (j+1)=adr j+(bif isLong i.1 i.2.2.2.2.2.2.2.1 then 4 else 2)
 br:∀j o c t,E.P[j]?=some (.br o c t)→t≤E.P.length∧(o=24∨o=25)∧∃imm w,okB o 0 0 0 0 imm c w=true∧fetchX fl (adr j)=some ((o,0,0,0,0,imm,c,w,()),bif w then 4 else 2)∧adr (j+1)=adr j+(bif w then 4 else 2)∧adr t=adr j+4+imm
theorem holds_F (s:tState.den) (c:Int):qd2 (s,c)=holdsF s.2.2 c:=by
 obtain⟨r,pc,n,z,cf,v,u⟩:=s
 exact holds_val r pc n z cf v c
theorem goes_F (s:tState.den) (o c:Int):goesV s o c=goesF s.2.2 o c:=by
 unfold goesV goesF
 rw[holds_F]
theorem rep_set14 {r:List Int} {ρ:Int→Nat} (hl:r.length=15) (h:∀k:Int,0≤k→wn (rg r k)=ρ k) (rd v:Int) (hrd:0≤rd∧rd≤14):(r.set rd.toNat v).length=15∧∀k:Int,0≤k→wn (rg (r.set rd.toNat v) k)=updR ρ rd (wn v) k:=by
 refine⟨by simp[hl],fun k hk=>?_⟩
 by_cases e:k=rd
 ·subst e
  rw[updR_same]
  unfold rg
  rw[List.getD_eq_getElem?_getD,List.getElem?_set,if_pos rfl,if_pos (by omega)]
  rfl
 ·rw[updR_other _ _ e,←h k hk]
  unfold rg
  rw[List.getD_eq_getElem?_getD,List.getD_eq_getElem?_getD,List.getElem?_set,if_neg (by omega)]
theorem check_bits {k p r b:Int} (h:qp (k,p,r,b,())=0) (hk:k=2):0≤r∧r≤14:=by
 subst hk
 have hx:=check_reg 2 p r b h
 simp only[inRange,beq_self_eq_true,Bool.not_true,Bool.false_or,Bool.and_eq_true,decide_eq_true_eq] at hx
 omega
theorem hit_link {E:Env} {adr:Nat→Int} {j:Nat} {s:IS} {st:tState.den} {mem:MemT} (h:Lk E adr j s st mem) (f:tFault.den) (hf:qp f=0):Lk E adr j (hitI f s) (qbj st f) mem:=by
 obtain⟨⟨hl,hr⟩,hpc,hfl,hm⟩:=h
 obtain⟨k,p,r,b,u⟩:=f
 unfold hitI qbj
 dsimp only
 cases h2:(k==(2:Int))
 ·cases h3:(k==(3:Int))
  ·exact⟨⟨hl,hr⟩,hpc,hfl,hm⟩
  ·obtain⟨rs,pc,n,z,cf,v,u'⟩:=st
   obtain⟨ρ,F,W⟩:=s
   dsimp only at hfl
   subst hfl
   simp only[cond_false,cond_true]
   cases (b==(0:Int))<;>cases (b==(1:Int))<;>cases (b==(2:Int))<;>cases (b==(3:Int))<;>exact⟨⟨hl,hr⟩,hpc,rfl,hm⟩
 ·have hk2:k=2:=by simpa using h2
  obtain⟨r0,r1⟩:=check_bits hf hk2
  simp only[cond_true]
  have e:wn (qeZ (List.getD st.1 (Int.toNat r) (Ty.dflt (.int .i64)),b))=s.1 r ^^^ 2 ^ kk b:=by
   show wn ((wn (rg st.1 r) ^^^ wn (ishl .i64 1 ((kk b:Nat):Int)):Nat):Int)=_
   have hb:=kk_lt b
   have e1:wn (ishl .i64 1 ((kk b:Nat):Int))=2 ^ kk b:=by
    have:=shl_wn 1 (kk b) (by omega)
    rw[Nat.one_mul] at this
    refine this.trans (Nat.mod_eq_of_lt ?_)
    exact Nat.lt_of_lt_of_le (Nat.pow_lt_pow_right (by omega) hb) (Nat.le_refl _)
   rw[e1,hr r r0]
   refine wn_nat ?_
   have a1:s.1 r<2 ^ 32:=by rw[←hr r r0];exact wn_lt _
   have a2:2 ^ kk b<2 ^ 32:=Nat.pow_lt_pow_right (by omega) hb
   exact Nat.xor_lt_two_pow a1 a2
  have:=rep_set14 hl hr r (qeZ (List.getD st.1 (Int.toNat r) (Ty.dflt (.int .i64)),b)) ⟨r0,r1⟩
  rw[e] at this
  exact⟨this,hpc,hfl,hm⟩
theorem opK_facts {i:tIns.den} (h:opK i=true):qd i=0∧(i.1=2∨(3≤(show Int from i.1)∧(show Int from i.1)≤20)∨i.1=23):=by
 obtain⟨op,rd,rn,rm,ra,imm,cond,w,u⟩:=i
 unfold opK at h
 rw[Bool.and_eq_true] at h
 refine⟨(check_iff op rd rn rm ra imm cond w).2 h.1,?_⟩
 have h:=h.2
 simp only[Bool.or_eq_true,Bool.and_eq_true,decide_eq_true_eq,beq_iff_eq] at h
 exact h
theorem step_at {s:tState.den} (op rd rn rm ra imm cond:Int) (w:Bool) (ld:Int) (hck:qd (op,rd,rn,rm,ra,imm,cond,w,())=0) (h2:op≠2) (h24:op≠24) (h25:op≠25) (p:Int) (hp:(show Int from s.2.1)=p) (h0:0≤p) (h1:p+(bif isLong op w then 4 else 2)<4294967296) :
  qG (s,(op,rd,rn,rm,ra,imm,cond,w,()),ld)=(((nextS s op rd rn rm ra imm ld).1,p+(bif isLong op w then 4 else 2),(nextS s op rd rn rm ra imm ld).2.2),true,()):=by
 have hc:(qd (op,rd,rn,rm,ra,imm,cond,w,()) != (0:Int))=false:=by simpa using hck
 show stepV (qd (op,rd,rn,rm,ra,imm,cond,w,()) != 0) s op rd rn rm ra imm cond w ld=_
 rw[hc,stepV_ok _ _ _ _ _ _ _ _ _ _ h2,far_plain _ _ _ _ _ h24 h25]
 have:(wn (((wn s.2.1:Nat):Int)+(bif isLong op w then 4 else 2)):Int)=p+(bif isLong op w then 4 else 2):=by
  have e:((wn s.2.1:Nat):Int)=p:=by
   rw[show s.2.1=p from hp]
   have:(bif isLong op w then(4:Int) else 2)=4∨(bif isLong op w then(4:Int) else 2)=2:=by cases isLong op w<;>simp
   rw[wn_int]
   omega
  rw[e,wn_int]
  have:(bif isLong op w then(4:Int) else 2)=4∨(bif isLong op w then(4:Int) else 2)=2:=by cases isLong op w<;>simp
  omega
 rw[this]
theorem rep_regs {s:tState.den} {ρ:Int→Nat} (h:repS s ρ):repS (wordR s.1,s.2) ρ:=⟨by rw[wordR_len];exact h.1,fun k hk=>by rw[show rg (wordR s.1,s.2).1 k=(wn (rg s.1 k):Int) from wordR_reg _ _,wn_wn];exact h.2 k hk⟩
set_option maxHeartbeats 1000000 in
theorem act_link' {E:Env} {adr:Nat→Int} {hd:tHead.den} {j:Nat} {s:IS} {st:tState.den} {mem:MemT} (hs:SzOk E.o E.r E.n) (hh:(show Int from hd.2.1)=adr E.h) (h:Lk E adr j s st mem) (op rd rn rm ra imm cond:Int) (w:Bool) (u:Unit) (hck:qd (op,rd,rn,rm,ra,imm,cond,w,u)=0) (hop:op=2∨(3≤op∧op≤20)∨op=23) (h0:0≤adr j) (h1:adr (j+1)<4294967296)
  (ha:adr (j+1)=adr j+(bif isLong op w then 4 else 2)) :
  (actX hd st (op,rd,rn,rm,ra,imm,cond,w,u) mem).2.2.1=(doI E j (op,rd,rn,rm,ra,imm,cond,w,u) s).1∧Lk E adr (doI E j (op,rd,rn,rm,ra,imm,cond,w,u) s).2.1 (doI E j (op,rd,rn,rm,ra,imm,cond,w,u) s).2.2 (actX hd st (op,rd,rn,rm,ra,imm,cond,w,u) mem).2.1 (actX hd st (op,rd,rn,rm,ra,imm,cond,w,u) mem).2.2.2:=by
 obtain⟨hrep,hpc,hfl,hm⟩:=h
 have hc:(qd (op,rd,rn,rm,ra,imm,cond,w,()) != (0:Int))=false:=by simpa using hck
 obtain⟨_,hrd,hrn,hrm,h17,_⟩:=check_bounds hck
 have hacc:qc (st,(op,rd,rn,rm,ra,imm,cond,w,()))=accessV false op (rg st.1 rn) (rg st.1 rd):=by
  show accessV (qd (op,rd,rn,rm,ra,imm,cond,w,()) != 0) op _ _=_
  rw[hc]
 have h1':adr j+(bif isLong op w then 4 else 2)<4294967296:=by rw[←ha];exact h1
 by_cases e2:op=2
 ·subst e2
  have ho:doI E j (2,rd,rn,rm,ra,imm,cond,w,u) s=(true,j,s):=rfl
  rw[ho]
  have hx:actX hd st (2,rd,rn,rm,ra,imm,cond,w,u) mem=finX st (2,rd,rn,rm,ra,imm,cond,w,()) mem 0 0:=by
   unfold actX
   rw[show qc (st,(2,rd,rn,rm,ra,imm,cond,w,u))=_ from hacc]
   rfl
  rw[hx]
  have hst:qG (st,(2,rd,rn,rm,ra,imm,cond,w,()),0)=(wState st,false,()):=by
   show stepV (qd (2,rd,rn,rm,ra,imm,cond,w,()) != 0) st 2 rd rn rm ra imm cond w 0=_
   rw[hc]
   rfl
  unfold finX
  rw[hst]
  refine⟨rfl,⟨(rep_regs hrep).1,(rep_regs hrep).2⟩,?_,hfl,hm⟩
  show((wn st.2.1:Nat):Int)=adr j
  have hpc:st.2.1=adr j:=hpc
  rw[hpc,wn_int]
  have:(bif isLong 2 w then(4:Int) else 2)=4∨(bif isLong 2 w then(4:Int) else 2)=2:=by cases isLong 2 w<;>simp
  omega
 ·have h24:op≠24:=by omega
  have h25:op≠25:=by omega
  have hstep:=fun ld=>step_at (s:=st) op rd rn rm ra imm cond w ld hck e2 h24 h25 (adr j) hpc h0 h1'
  have b2:(op==(2:Int))=false:=beq_eq_false_iff_ne.2 e2
  have b24:(op==(24:Int))=false:=beq_eq_false_iff_ne.2 h24
  have b25:(op==(25:Int))=false:=beq_eq_false_iff_ne.2 h25
  by_cases e23:op=23
  ·subst e23
   have ho:doI E j (23,rd,rn,rm,ra,imm,cond,w,u) s=(false,j+1,s.1,cmpF (s.1 rn) (s.1 rm),s.2.2):=rfl
   rw[ho]
   have hx:actX hd st (23,rd,rn,rm,ra,imm,cond,w,u) mem=finX st (23,rd,rn,rm,ra,imm,cond,w,()) mem 0 0:=by
    unfold actX
    rw[show qc (st,(23,rd,rn,rm,ra,imm,cond,w,u))=_ from hacc]
    rfl
   rw[hx]
   unfold finX
   rw[hstep 0]
   have enx:nextS st 23 rd rn rm ra imm 0=qc9 (wState st,(wn (rg st.1 rn):Int),(wn (rg st.1 rm):Int)):=by
    show qc9 (wState st,rg (wordR st.1) rn,rg (wordR st.1) rm)=_
    rw[wordR_reg,wordR_reg]
   rw[enx,compare_val _ _ _ (wn_lt _) (wn_lt _),hrep.2 rn hrn.1,hrep.2 rm hrm.1]
   exact⟨rfl,⟨(rep_regs hrep).1,(rep_regs hrep).2⟩,ha.symm,rfl,hm⟩
  ·have b23:(op==(23:Int))=false:=beq_eq_false_iff_ne.2 e23
   have hr3:3≤op∧op≤20:=by
    rcases hop with e |e |e
    ·exact absurd e e2
    ·exact e
    ·exact absurd e e23
   have enx:∀ld,nextS st op rd rn rm ra imm ld=(regsOf (wordR st.1) op rd rn rm ra imm ld,((wn st.2.1:Nat):Int),st.2.2):=fun ld=>by
    unfold nextS
    rw[b24,b25]
    show makesS (wState st) op rd rn rm ra imm ld=_
    unfold makesS
    rw[b23]
    rfl
   by_cases e20:op=20
   ·subst e20
    have hst:=mw_store hs hm (s.1 rn) (s.1 rd)
    have hacc':qc (st,(20,rd,rn,rm,ra,imm,cond,w,u))=((((s.1 rn:Nat):Int),4,((s.1 rd:Nat):Int),true,()),true,()):=by
     refine hacc.trans ?_
     show((((wn (rg st.1 rn):Nat):Int),4,((wn (rg st.1 rd):Nat):Int),true,()),true,())=_
     rw[hrep.2 rn hrn.1,hrep.2 rd hrd.1]
    have hx:actX hd st (20,rd,rn,rm,ra,imm,cond,w,u) mem=(bif (storeM mem ((s.1 rn:Nat):Int) 4 ((s.1 rd:Nat):Int)).1 != 0 then trapX hd st (storeM mem ((s.1 rn:Nat):Int) 4 ((s.1 rd:Nat):Int)).2 ((s.1 rn:Nat):Int)
      else finX st (20,rd,rn,rm,ra,imm,cond,w,u) (storeM mem ((s.1 rn:Nat):Int) 4 ((s.1 rd:Nat):Int)).2 0 ((s.1 rn:Nat):Int)):=by
     unfold actX
     rw[hacc']
     rfl
    have ho:doI E j (20,rd,rn,rm,ra,imm,cond,w,u) s=(bif E.okW (s.1 rn) then(false,j+1,s.1,s.2.1,updW s.2.2 (s.1 rn) (s.1 rd)) else(false,E.h,s)):=rfl
    rw[ho,hx]
    cases hw:E.okW (s.1 rn)
    ·obtain⟨a1,a2⟩:=hst.2 hw
     rw[a1,a2]
     exact⟨rfl,hrep,hh,hfl,hm⟩
    ·obtain⟨a1,a2⟩:=hst.1 hw
     rw[a1]
     show(finX st (20,rd,rn,rm,ra,imm,cond,w,u) _ 0 _).2.2.1=_∧_
     unfold finX
     rw[show qG (st,(20,rd,rn,rm,ra,imm,cond,w,u),0)=_ from hstep 0,enx 0]
     have ew:wn ((s.1 rd:Nat):Int)=s.1 rd:=by rw[←hrep.2 rd hrd.1];exact wn_wn _
     rw[ew] at a2
     exact⟨rfl,⟨(rep_regs hrep).1,(rep_regs hrep).2⟩,ha.symm,hfl,a2⟩
   ·have b20:(op==(20:Int))=false:=beq_eq_false_iff_ne.2 e20
    have hmk:makesRd op=true:=by
     unfold makesRd
     rw[decide_eq_true hr3.1,decide_eq_true (show op≤19 by omega)]
     rfl
    have hrep':∀ld,repS (qG (st,(op,rd,rn,rm,ra,imm,cond,w,()),ld)).1 (bif op==17 then updR (updR s.1 rd (s.1 rn*s.1 rm % 4294967296)) ra (s.1 rn*s.1 rm / 4294967296) else updR s.1 rd (wn (vOf op imm ra (s.1 rd) (s.1 rn) (s.1 rm) ld))):=fun ld=>by
     obtain⟨t,e1,e2⟩:=step_makes hrep op rd rn rm ra imm cond w ld hck hmk
     rw[e1]
     exact e2
    by_cases e19:op=19
    ·subst e19
     have hld:=mw_load hs hm (s.1 rn)
     have hacc':qc (st,(19,rd,rn,rm,ra,imm,cond,w,u))=((((s.1 rn:Nat):Int),4,0,false,()),true,()):=by
      refine hacc.trans ?_
      show((((wn (rg st.1 rn):Nat):Int),4,0,false,()),true,())=_
      rw[hrep.2 rn hrn.1]
     have hx:actX hd st (19,rd,rn,rm,ra,imm,cond,w,u) mem=(bif (loadM mem ((s.1 rn:Nat):Int) 4).2.1 != 0 then trapX hd st mem ((s.1 rn:Nat):Int)
       else finX st (19,rd,rn,rm,ra,imm,cond,w,u) mem (loadM mem ((s.1 rn:Nat):Int) 4).1 ((s.1 rn:Nat):Int)):=by
      unfold actX
      rw[hacc']
      rfl
     have ho:doI E j (19,rd,rn,rm,ra,imm,cond,w,u) s=(bif E.okR (s.1 rn) then(false,j+1,updR s.1 rd (s.2.2 (s.1 rn)),s.2) else(false,E.h,s)):=rfl
     cases hw:E.okR (s.1 rn)
     ·rw[show(regR E.o E.r E.n (s.1 rn)).isSome=false from hw] at hld
      rw[ho,hx,hld,hw]
      exact⟨rfl,hrep,hh,hfl,hm⟩
     ·rw[show(regR E.o E.r E.n (s.1 rn)).isSome=true from hw] at hld
      have hr2:=hrep' ((s.2.2 (s.1 rn):Nat):Int)
      have ev:wn (vOf 19 imm ra (s.1 rd) (s.1 rn) (s.1 rm) ((s.2.2 (s.1 rn):Nat):Int))=s.2.2 (s.1 rn):=by
       show wn ((wn ((s.2.2 (s.1 rn):Nat):Int):Nat):Int)=_
       rw[wn_wn]
       exact wn_nat (mw_lt hs hm hw)
      have hr2:repS (qG (st,(19,rd,rn,rm,ra,imm,cond,w,()),((s.2.2 (s.1 rn):Nat):Int))).1 (updR s.1 rd (s.2.2 (s.1 rn))):=by
       have e17:((19:Int)==17)=false:=rfl
       rw[e17,cond_false,ev] at hr2
       exact hr2
      rw[hstep] at hr2
      have hx2:actX hd st (19,rd,rn,rm,ra,imm,cond,w,u) mem=finX st (19,rd,rn,rm,ra,imm,cond,w,u) mem ((s.2.2 (s.1 rn):Nat):Int) ((s.1 rn:Nat):Int):=by
       rw[hx,hld]
       rfl
      rw[ho,hx2,hw]
      unfold finX
      rw[show qG (st,(19,rd,rn,rm,ra,imm,cond,w,u),((s.2.2 (s.1 rn):Nat):Int))=_ from hstep _]
      refine⟨rfl,hr2,ha.symm,?_,hm⟩
      rw[enx]
      exact hfl
    ·have b19:(op==(19:Int))=false:=beq_eq_false_iff_ne.2 e19
     have b21:(op==(21:Int))=false:=beq_eq_false_iff_ne.2 (by omega)
     have b22:(op==(22:Int))=false:=beq_eq_false_iff_ne.2 (by omega)
     have ho:doI E j (op,rd,rn,rm,ra,imm,cond,w,u) s=(false,j+1,stepR s.1 (op,rd,rn,rm,ra,imm,cond,w,u),s.2):=by
      unfold doI
      dsimp only
      rw[b2,b19,b20,b23]
      rfl
     have hx:actX hd st (op,rd,rn,rm,ra,imm,cond,w,u) mem=finX st (op,rd,rn,rm,ra,imm,cond,w,()) mem 0 0:=by
      unfold actX
      rw[show qc (st,(op,rd,rn,rm,ra,imm,cond,w,u))=_ from hacc]
      unfold accessV
      rw[b19,b20,b21,b22]
      rfl
     have hr2:=hrep' 0
     rw[hstep] at hr2
     rw[ho,hx]
     unfold finX
     rw[hstep 0]
     refine⟨rfl,hr2,ha.symm,?_,hm⟩
     rw[enx]
     exact hfl
theorem act_link {E:Env} {adr:Nat→Int} {hd:tHead.den} {j:Nat} {s:IS} {st:tState.den} {mem:MemT} (hs:SzOk E.o E.r E.n) (hh:(show Int from hd.2.1)=adr E.h) (h:Lk E adr j s st mem) {i:tIns.den} (hk:opK i=true) (h0:0≤adr j) (h1:adr (j+1)<4294967296)
  (ha:adr (j+1)=adr j+(bif isLong i.1 i.2.2.2.2.2.2.2.1 then 4 else 2)) :
  (actX hd st i mem).2.2.1=(doI E j i s).1∧Lk E adr (doI E j i s).2.1 (doI E j i s).2.2 (actX hd st i mem).2.1 (actX hd st i mem).2.2.2:=by
 obtain⟨hck,hop⟩:=opK_facts hk
 obtain⟨op,rd,rn,rm,ra,imm,cond,w,u⟩:=i
 exact act_link' hs hh h op rd rn rm ra imm cond w u hck hop h0 h1 ha
end Go.Av
end
section
namespace Go.Av
open Go
theorem br_link {E:Env} {adr:Nat→Int} {hd:tHead.den} {j:Nat} {s:IS} {st:tState.den} {mem:MemT} (h:Lk E adr j s st mem) (o c:Int) (t:Nat) (imm:Int) (w:Bool) (hok:okB o 0 0 0 0 imm c w=true) (ho:o=24∨o=25)
  (h0:0≤adr j∧adr j<4294967296) (h1:0≤adr (j+1)∧adr (j+1)<4294967296) (ht:0≤adr t∧adr t<4294967296) (ha:adr (j+1)=adr j+(bif w then 4 else 2)) (hb:adr t=adr j+4+imm) :
  (actX hd st (o,0,0,0,0,imm,c,w,()) mem).2.2.1=(atI E j s (.br o c t)).1∧Lk E adr (atI E j s (.br o c t)).2.1 (atI E j s (.br o c t)).2.2 (actX hd st (o,0,0,0,0,imm,c,w,()) mem).2.1 (actX hd st (o,0,0,0,0,imm,c,w,()) mem).2.2.2:=by
 obtain⟨hrep,hpc,hfl,hm⟩:=h
 have hck:=(check_iff o 0 0 0 0 imm c w).2 hok
 have hc:(qd (o,0,0,0,0,imm,c,w,()) != (0:Int))=false:=by simpa using hck
 have hacc:qc (st,(o,0,0,0,0,imm,c,w,()))=((0,0,0,false,()),false,()):=by
  show accessV (qd (o,0,0,0,0,imm,c,w,()) != 0) o _ _=_
  rw[hc]
  rcases ho with rfl |rfl<;>rfl
 have hx:actX hd st (o,0,0,0,0,imm,c,w,()) mem=finX st (o,0,0,0,0,imm,c,w,()) mem 0 0:=by
  unfold actX
  rw[hacc]
  rfl
 have hpw:((wn st.2.1:Nat):Int)=adr j:=by
  have hpc:st.2.1=adr j:=hpc
  rw[hpc,wn_int]
  omega
 have hst:qG (st,(o,0,0,0,0,imm,c,w,()),0)=((wordR st.1,(bif goesF st.2.2 o c then adr t else adr (j+1)),st.2.2),true,()):=by
  show stepV (qd (o,0,0,0,0,imm,c,w,()) != 0) st o 0 0 0 0 imm c w 0=_
  rw[hc,stepV_ok _ _ _ _ _ _ _ _ _ _ (by omega)]
  have e1:nextS st o 0 0 0 0 imm 0=wState st:=by
   unfold nextS
   rcases ho with rfl |rfl<;>rfl
  have e2:isLong o w=w:=by
   unfold isLong
   rcases ho with rfl |rfl<;>simp
  have e3:farV (wState st) o imm c w=bif goesF st.2.2 o c then 4+imm else bif w then 4 else 2:=by
   unfold farV
   rw[goes_F,e2]
   rfl
  rw[e1,e3,hpw]
  have e4:((wn (adr j+(bif goesF st.2.2 o c then 4+imm else bif w then 4 else 2)):Nat):Int)=bif goesF st.2.2 o c then adr t else adr (j+1):=by
   rw[wn_int]
   cases goesF st.2.2 o c
   ·simp only[cond_false]
    rw[←ha]
    omega
   ·simp only[cond_true]
    rw[show adr j+(4+imm)=adr t by omega]
    omega
  rw[e4]
  rfl
 rw[hx]
 unfold finX
 rw[hst]
 have hA:atI E j s (.br o c t)=(false,(bif goesF st.2.2 o c then t else j+1),s):=by
  show(bif goesF s.2.1 o c then(false,t,s) else(false,j+1,s))=_
  rw[hfl]
  cases goesF s.2.1 o c<;>rfl
 rw[hA]
 refine⟨rfl,⟨(rep_regs hrep).1,(rep_regs hrep).2⟩,?_,hfl,hm⟩
 show(bif goesF st.2.2 o c then adr t else adr (j+1))=adr (bif goesF st.2.2 o c then t else j+1)
 cases goesF st.2.2 o c<;>rfl
theorem noF_check:qp noFault=0:=rfl
section
variable {hd:tHead.den} {fl:List UInt8} {E:Env} {adr:Nat→Int} (hp:PrgOk hd fl E adr)
include hp
theorem adr_next {j:Nat} (hj:j<E.P.length):adr j<adr (j+1):=by
 have hg:E.P[j]?=some E.P[j]:=List.getElem?_eq_getElem hj
 cases hq:E.P[j] with
 |op i =>
  rw[hq] at hg
  obtain⟨_,_,h⟩:=hp.op j i hg
  rw[h]
  cases isLong i.1 i.2.2.2.2.2.2.2.1<;>(simp only[cond_true,cond_false];omega)
 |br o c t =>
  rw[hq] at hg
  obtain⟨_,_,imm,w,_,_,h,_⟩:=hp.br j o c t hg
  rw[h]
  cases w<;>(simp only[cond_true,cond_false];omega)
theorem adr_lt {i:Nat}:∀{j:Nat},i<j→j≤E.P.length→adr i<adr j
 |0,h,_=>by cases h
 |j+1,h,hj=>by
  have h1:=adr_next hp (j:=j) (by omega)
  rcases Nat.lt_or_ge i j with h' |h'
  ·have:=adr_lt h' (by omega)
   omega
  ·have:i=j:=by omega
   subst this
   exact h1
theorem adr_inj {i j:Nat} (hi:i≤E.P.length) (hj:j≤E.P.length):(adr i==adr j)=(i==j):=by
 rcases Nat.lt_trichotomy i j with h |h |h
 ·have:=adr_lt hp h hj
  rw[beq_eq_false_iff_ne.2 (show adr i≠adr j by omega),beq_eq_false_iff_ne.2 (show i≠j by omega)]
 ·subst h
  rw[beq_self_eq_true,beq_self_eq_true]
 ·have:=adr_lt hp h hi
  rw[beq_eq_false_iff_ne.2 (show adr i≠adr j by omega),beq_eq_false_iff_ne.2 (show i≠j by omega)]
theorem step_in {skip:Bool} {j:Nat} {s:IS} (hj:j≤E.P.length):(stepI E skip j s).2.1≤E.P.length:=by
 unfold stepI
 cases hg:E.P[j]? with
 |none=>exact hp.hin
 |some p =>
  have hlt:j<E.P.length:=by
   rcases Nat.lt_or_ge j E.P.length with h |h
   ·exact h
   ·rw[List.getElem?_eq_none h] at hg
    cases hg
  cases skip
  ·show(atI E j s p).2.1≤_
   cases p with
   |op i =>
    have hh:=hp.hin
    show(doI E j i s).2.1≤_
    unfold doI
    cases (i.1==(2:Int))
    ·cases (i.1==(19:Int))
     ·cases (i.1==(20:Int))
      ·cases (i.1==(23:Int))<;>exact hlt
      ·cases E.okW (s.1 i.2.2.1)
       ·exact hh
       ·exact hlt
     ·cases E.okR (s.1 i.2.2.1)
      ·exact hh
      ·exact hlt
    ·exact hj
   |br o c t =>
    obtain⟨ht,_⟩:=hp.br j o c t hg
    show(bif goesF s.2.1 o c then(false,t,s) else(false,j+1,s)).2.1≤_
    cases goesF s.2.1 o c
    ·exact hlt
    ·exact ht
  ·exact hlt
theorem step_link {j:Nat} {s:IS} {st:tState.den} {mem:MemT} (hj:j≤E.P.length) (h:Lk E adr j s st mem) (f:tFault.den) (hf:qp f=0) :
  (stepMX hd fl st mem f).2.2.1=(stepI E (f.1==(1:Int)) j (hitI f s)).1∧Lk E adr (stepI E (f.1==(1:Int)) j (hitI f s)).2.1 (stepI E (f.1==(1:Int)) j (hitI f s)).2.2 (stepMX hd fl st mem f).2.1 (stepMX hd fl st mem f).2.2.2:=by
 have hl:=hit_link h f hf
 have hfx:faultX f=f:=by
  unfold faultX
  rw[hf]
  rfl
 unfold stepMX
 rw[hfx]
 generalize hs':hitI f s=s' at *
 generalize hst':qbj st f=st' at *
 unfold turnX
 have hpc:st'.2.1=adr j:=hl.pc
 rw[hpc]
 unfold stepI
 cases hg:E.P[j]? with
 |none =>
  have:j=E.P.length:=by
   rcases Nat.lt_or_ge j E.P.length with h |h
   ·rw[List.getElem?_eq_getElem h] at hg
    cases hg
   ·omega
  rw[this,hp.fin]
  exact⟨rfl,hl.rep,hp.hand,hl.fl,hl.mw⟩
 |some p =>
  have hlt:j<E.P.length:=by
   rcases Nat.lt_or_ge j E.P.length with h |h
   ·exact h
   ·rw[List.getElem?_eq_none h] at hg
    cases hg
  have hr0:=hp.rng j hj
  have hr1:=hp.rng (j+1) hlt
  have hskip:∀(i:tIns.den) (n:Int),adr (j+1)=adr j+n→fetchX fl (adr j)=some (i,n)→(f.1==(1:Int))=true →
    ((1,adr j,0,1,()) ,(st'.1,qdj (adr j,n),st'.2.2),false,mem).2.2.1=((false,j+1,s'):IO3).1∧Lk E adr (j+1) s' (st'.1,qdj (adr j,n),st'.2.2) mem:=fun i n hn _ _=>by
   refine⟨rfl,hl.rep,?_,hl.fl,hl.mw⟩
   show((wn (adr j+n):Nat):Int)=adr (j+1)
   rw[←hn,wn_int]
   omega
  cases p with
  |op i =>
   obtain⟨h1,h2,h3⟩:=hp.op j i hg
   rw[h2]
   cases hk:(f.1==(1:Int))
   ·have:=act_link (hd:=hd) hp.sz hp.hand hl h1 hr0.1 hr1.2 h3
    exact this
   ·exact hskip i _ h3 h2 hk
  |br o c t =>
   obtain⟨h0,h1,imm,w,h2,h3,h4,h5⟩:=hp.br j o c t hg
   rw[h3]
   cases hk:(f.1==(1:Int))
   ·have:=br_link (hd:=hd) hl o c t imm w h2 h1 hr0 hr1 (hp.rng t h0) h4 h5
    exact this
   ·exact hskip _ _ h4 h3 hk
end
def goI (E:Env) (f:tFault.den):Nat→Int→IO3→Nat×Nat×IO3
 |0,_,q=>(0,0,q)
 |n+1,k,q=>bif q.1 then(0,0,q) else
   ((goI E f n (k+1) (stepI E ((nowX f k).1==(1:Int)) q.2.1 (hitI (nowX f k) q.2.2))).1+1,
    (bif q.2.1==E.h then 1 else 0)+(goI E f n (k+1) (stepI E ((nowX f k).1==(1:Int)) q.2.1 (hitI (nowX f k) q.2.2))).2.1,
    (goI E f n (k+1) (stepI E ((nowX f k).1==(1:Int)) q.2.1 (hitI (nowX f k) q.2.2))).2.2)
def goN (E:Env):Nat→IO3→Nat×Nat×IO3
 |0,q=>(0,0,q)
 |n+1,q=>bif q.1 then(0,0,q) else
   ((goN E n (stepI E false q.2.1 q.2.2)).1+1,(bif q.2.1==E.h then 1 else 0)+(goN E n (stepI E false q.2.1 q.2.2)).2.1,(goN E n (stepI E false q.2.1 q.2.2)).2.2)
theorem now_ok {f:tFault.den} (hf:qp f=0) (k:Int):qp (nowX f k)=0:=by
 unfold nowX
 cases f.2.1==k
 ·exact noF_check
 ·exact hf
theorem go_link {hd:tHead.den} {fl:List UInt8} {E:Env} {adr:Nat→Int} (hp:PrgOk hd fl E adr) (f:tFault.den) (hf:qp f=0):∀(n:Nat) (k:Int) (b:Bool) (j:Nat) (s:IS) (st:tState.den) (mem:MemT),j≤E.P.length→Lk E adr j s st mem →
  (goX hd fl f n k (st,b,mem)).1.length=(goI E f n k (b,j,s)).1∧(goX hd fl f n k (st,b,mem)).2.1=(((goI E f n k (b,j,s)).2.1:Nat):Int)∧(goX hd fl f n k (st,b,mem)).2.2.2.1=(goI E f n k (b,j,s)).2.2.1 ∧
   (goI E f n k (b,j,s)).2.2.2.1≤E.P.length ∧
   Lk E adr (goI E f n k (b,j,s)).2.2.2.1 (goI E f n k (b,j,s)).2.2.2.2 (goX hd fl f n k (st,b,mem)).2.2.1 (goX hd fl f n k (st,b,mem)).2.2.2.2
 |0,_,_,_,_,_,_,hj,h=>⟨rfl,rfl,rfl,hj,h⟩
 |n+1,k,true,_,_,_,_,hj,h=>⟨rfl,rfl,rfl,hj,h⟩
 |n+1,k,false,j,s,st,mem,hj,h=>by
  obtain⟨a1,a2⟩:=step_link hp hj h (nowX f k) (now_ok hf k)
  have hin:=step_in hp (skip:=(nowX f k).1==(1:Int)) (s:=hitI (nowX f k) s) hj
  obtain⟨b1,b2,b3,b4,b5⟩:=go_link hp f hf n (k+1) (stepI E ((nowX f k).1==(1:Int)) j (hitI (nowX f k) s)).1 _ _ _ _ hin a2
  rw[goX,goI]
  simp only[cond_false]
  have e:((stepMX hd fl st mem (nowX f k)).2.1,(stepI E ((nowX f k).1==(1:Int)) j (hitI (nowX f k) s)).1,(stepMX hd fl st mem (nowX f k)).2.2.2)=(stepMX hd fl st mem (nowX f k)).2:=by rw[←a1]
  rw[e] at b1 b2 b3 b5
  refine⟨?_,?_,b3,b4,b5⟩
  ·show _+1=_+1
   rw[b1]
  ·have e1:(st.2.1==hd.2.1)=(j==E.h):=by
    rw[←adr_inj hp hj hp.hin]
    have x1:st.2.1=adr j:=h.pc
    have x2:hd.2.1=adr E.h:=hp.hand
    rw[x1,x2]
   show(bif st.2.1==hd.2.1 then(1:Int) else 0)+_=_
   rw[b2,e1]
   cases (j==E.h)
   ·simp
   ·simp
theorem goI_after (E:Env) (f:tFault.den):∀(n:Nat) (k:Int) (q:IO3),(show Int from f.2.1)<k→goI E f n k q=goN E n q
 |0,_,_,_=>rfl
 |n+1,k,q,h=>by
  have hk:nowX f k=noFault:=by
   unfold nowX
   rw[beq_eq_false_iff_ne.2 (show f.2.1≠k from fun e=>by
    have:(show Int from f.2.1)=k:=e
    omega)]
   rfl
  rw[goI,goN,hk]
  have e:stepI E (noFault.1==(1:Int)) q.2.1 (hitI noFault q.2.2)=stepI E false q.2.1 q.2.2:=rfl
  rw[e,goI_after E f n (k+1) _ (by omega)]
theorem goI_none (E:Env):∀(n:Nat) (k:Int) (q:IO3),goI E noFault n k q=goN E n q
 |0,_,_=>rfl
 |n+1,k,q=>by
  rw[goI,goN,now_none]
  have e:stepI E (noFault.1==(1:Int)) q.2.1 (hitI noFault q.2.2)=stepI E false q.2.1 q.2.2:=rfl
  rw[e,goI_none E n (k+1) _]
theorem goI_split (E:Env) (f:tFault.den) (m:Nat):∀(T:Nat) (k:Int) (q:IO3),k+(T:Int)≤(show Int from f.2.1) →
  goI E f (T+m) k q=((goN E T q).1+(goI E f m (k+T) (goN E T q).2.2).1,(goN E T q).2.1+(goI E f m (k+T) (goN E T q).2.2).2.1,(goI E f m (k+T) (goN E T q).2.2).2.2)
 |0,k,q,_=>by simp[goN]
 |T+1,k,q,h=>by
  rw[show T+1+m=(T+m)+1 by omega,goI,goN]
  cases hq:q.1
  ·have hk:nowX f k=noFault:=by
    unfold nowX
    rw[beq_eq_false_iff_ne.2 (show f.2.1≠k from fun e=>by
     have:(show Int from f.2.1)=k:=e
     omega)]
    rfl
   rw[hk]
   have e:stepI E (noFault.1==(1:Int)) q.2.1 (hitI noFault q.2.2)=stepI E false q.2.1 q.2.2:=rfl
   simp only[cond_false]
   rw[e,goI_split E f m T (k+1) _ (by omega),show k+1+(T:Int)=k+((T+1:Nat):Int) by omega]
   simp only[Prod.mk.injEq,and_true]
   constructor<;>omega
  ·simp only[cond_true]
   have hd:∀n k',goI E f n k' q=(0,0,q):=fun n k'=>by
    cases n with
    |zero=>rfl
    |succ n=>rw[goI,hq];rfl
   rw[hd]
   simp
theorem goI_hit (E:Env) (f:tFault.den) (m:Nat) (k:Int) (j:Nat) (s:IS) (h:(show Int from f.2.1)=k) :
  goI E f (m+1) k (false,j,s)=((goN E m (stepI E (f.1==(1:Int)) j (hitI f s))).1+1,(bif j==E.h then 1 else 0)+(goN E m (stepI E (f.1==(1:Int)) j (hitI f s))).2.1,(goN E m (stepI E (f.1==(1:Int)) j (hitI f s))).2.2):=by
 have hk:nowX f k=f:=by
  unfold nowX
  rw[show(f.2.1==k)=true from beq_iff_eq.2 h]
  rfl
 rw[goI,hk]
 simp only[cond_false]
 rw[goI_after E f m (k+1) _ (by omega)]
theorem goN_done (E:Env) (n:Nat) {q:IO3} (h:q.1=true):goN E n q=(0,0,q):=by
 cases n with
 |zero=>rfl
 |succ n=>rw[goN,h];rfl
theorem goN_add (E:Env) (m:Nat):∀(n:Nat) (q:IO3),goN E (n+m) q=((goN E n q).1+(goN E m (goN E n q).2.2).1,(goN E n q).2.1+(goN E m (goN E n q).2.2).2.1,(goN E m (goN E n q).2.2).2.2)
 |0,q=>by simp[goN]
 |n+1,q=>by
  rw[show n+1+m=(n+m)+1 by omega,goN,goN]
  cases hq:q.1
  ·simp only[cond_false]
   rw[goN_add E m n]
   simp only[Prod.mk.injEq,and_true]
   constructor<;>omega
  ·simp only[cond_true]
   rw[goN_done E m hq]
   simp
end Go.Av
end
section
namespace Go.Av
open Go
theorem size_encP (op rd rn rm ra imm cond:Int) (w:Bool) (hok:okB op rd rn rm ra imm cond w=true):(bif isLong op w then(4:Int) else 2)=lenI (eBytes op rd rn rm ra imm cond w):=by
 have h:qd (op,rd,rn,rm,ra,imm,cond,w,())=0:=(check_iff op rd rn rm ra imm cond w).2 hok
 obtain⟨_,⟨s1,s2,_⟩ |⟨s1,s2,_,_⟩⟩:=same_bits op rd rn rm ra imm cond w h
 ·have e:eBytes op rd rn rm ra imm cond w=by2 (hb (e1 op rd rn rm ra imm cond w) 0):=by unfold eBytes;rw[s2];rfl
  rw[s1,e]
  rfl
 ·have e:eBytes op rd rn rm ra imm cond w=by2 (hb (e1 op rd rn rm ra imm cond w) 0)++by2 (hb (e2 op rd rn rm ra imm cond w) 0):=by unfold eBytes;rw[s2];rfl
  rw[s1,e]
  rfl
theorem size_encI (i:tIns.den) (h:okI i=true):(bif isLong i.1 i.2.2.2.2.2.2.2.1 then(4:Int) else 2)=lenI (encB i)∧qba i=lenI (encB i):=by
 obtain⟨op,rd,rn,rm,ra,imm,cond,w,u⟩:=i
 have e:=size_encP op rd rn rm ra imm cond w h
 refine⟨e,?_⟩
 have hc:qd (op,rd,rn,rm,ra,imm,cond,w,())=0:=(check_iff op rd rn rm ra imm cond w).2 h
 refine Eq.trans ?_ e
 show(bif qd (op,rd,rn,rm,ra,imm,cond,w,()) != 0 then(0:Int) else bif isLong op w then 4 else 2)=_
 rw[hc]
 rfl
section
variable (it:List tItem.den)
def cntI:Nat→Nat
 |0=>0
 |i+1=>bif (itemAt it i).1==1 then cntI i else cntI i+1
def piI (i:Nat):PI:=bif (itemAt it i).1==2 then .br (itemAt it i).2.2.1.1 (itemAt it i).2.2.1.2.2.2.2.2.2.1 (cntI it (tgt it i)) else .op (itemAt it i).2.2.1
def prgTo:Nat→List PI
 |0=>[]
 |i+1=>bif (itemAt it i).1==1 then prgTo i else prgTo i++[piI it i]
theorem prg_len:∀i,(prgTo it i).length=cntI it i
 |0=>rfl
 |i+1=>by
  have:=prg_len i
  rw[prgTo,cntI]
  cases ((itemAt it i).1==(1:Int))
  ·simp only[cond_false,List.length_append,this,List.length_cons,List.length_nil]
  ·exact this
theorem prg_pre (i:Nat):∀n,i≤n→∃t,prgTo it n=prgTo it i++t
 |0,h=>⟨[],by
  have:i=0:=by omega
  subst this
  simp⟩
 |n+1,h=>by
  rcases Nat.lt_or_ge n i with h' |h'
  ·have:i=n+1:=by omega
   subst this
   exact⟨[],by simp⟩
  ·obtain⟨t,ht⟩:=prg_pre i n h'
   rw[prgTo]
   cases ((itemAt it n).1==(1:Int))
   ·exact⟨t++[piI it n],by simp only[cond_false];rw[ht,List.append_assoc]⟩
   ·exact⟨t,ht⟩
theorem prg_get {i n:Nat} (hi:i<n) (hk:((itemAt it i).1==(1:Int))=false):(prgTo it n)[cntI it i]?=some (piI it i):=by
 obtain⟨t,ht⟩:=prg_pre it (i+1) n hi
 rw[prgTo,hk,cond_false] at ht
 rw[ht,List.append_assoc,←prg_len it i,List.getElem?_append_right (Nat.le_refl _),Nat.sub_self]
 rfl
theorem cnt_inv {j:Nat}:∀{n:Nat},j<cntI it n→∃i,i<n∧((itemAt it i).1==(1:Int))=false∧cntI it i=j
 |0,h=>by cases h
 |n+1,h=>by
  rw[cntI] at h
  cases hk:((itemAt it n).1==(1:Int))
  ·rw[hk,cond_false] at h
   rcases Nat.lt_or_ge j (cntI it n) with h' |h'
   ·obtain⟨i,h1,h2,h3⟩:=cnt_inv h'
    exact⟨i,by omega,h2,h3⟩
   ·exact⟨n,by omega,hk,by omega⟩
  ·rw[hk,cond_true] at h
   obtain⟨i,h1,h2,h3⟩:=cnt_inv h
   exact⟨i,by omega,h2,h3⟩
theorem cnt_mono {i:Nat}:∀{k:Nat},i≤k→cntI it i≤cntI it k
 |0,h=>by rw[show i=0 by omega];exact Nat.le_refl _
 |k+1,h=>by
  rcases Nat.lt_or_ge k i with h' |h'
  ·rw[show i=k+1 by omega];exact Nat.le_refl _
  ·have:=cnt_mono h'
   rw[cntI]
   cases ((itemAt it k).1==(1:Int))
   ·simp only[cond_false];omega
   ·exact this
variable (b:Int) (ws:List Bool)
theorem cnt_pos {i:Nat}:∀{k:Nat},i≤k→cntI it i=cntI it k→posI it b ws i=posI it b ws k
 |0,h,_=>by rw[show i=0 by omega]
 |k+1,h,hc=>by
  rcases Nat.lt_or_ge k i with h' |h'
  ·rw[show i=k+1 by omega]
  ·have hm:=cnt_mono it h'
   rw[cntI] at hc
   cases hk:((itemAt it k).1==(1:Int))
   ·rw[hk,cond_false] at hc
    omega
   ·rw[hk,cond_true] at hc
    rw[cnt_pos h' hc]
    show _=posI it b ws k+sizeJ (itemAt it k) (wd ws k)
    have:(itemAt it k).1=(1:Int):=by simpa using hk
    unfold sizeJ
    rw[this]
    show _=posI it b ws k+0
    omega
def adrI (j:Nat):Int:=posI it b ws ((firstP (fun i=>cntI it i==j) (it.length+1)).getD 0)
theorem adr_at {i:Nat} (hi:i≤it.length):adrI it b ws (cntI it i)=posI it b ws i:=by
 unfold adrI
 cases hf:firstP (fun k=>cntI it k==cntI it i) (it.length+1) with
 |none =>
  have:=firstP_none hf i (by omega)
  simp at this
 |some k =>
  obtain⟨h1,h2,h3⟩:=firstP_some hf
  have hk:cntI it k=cntI it i:=by simpa using h2
  show posI it b ws k=_
  rcases Nat.lt_or_ge i k with h |h
  ·have:=h3 i h
   simp at this
  ·exact cnt_pos it b ws h hk
end
section
variable (it:List tItem.den) (b:Int) (ws:List Bool) (hn:it.length≤21000) (hf:AsmFine it b) (hp:(passTo it b ws it.length).1=false)
include hn hf hp
theorem ins_len {i:Nat} (hi:i<it.length) (hk:((itemAt it i).1==(1:Int))=false):((encB (insM it b ws i)).length:Int)=sizeJ (itemAt it i) (wd ws i):=by
 have h1:=ins_ok it b ws hn hf hp hi hk
 have h2:=ins_size it b ws hn hf hp hi hk
 rw[←h2]
 exact(size_encI _ h1).2.symm
theorem cat_pos:∀{i:Nat},i≤it.length→(((cat (insTo it b ws i)).length:Nat):Int)=posI it b ws i-b
 |0,_=>by simp[insTo,cat,posI]
 |i+1,h=>by
  have ih:=cat_pos (i:=i) (by omega)
  show _=posI it b ws i+sizeJ (itemAt it i) (wd ws i)-b
  rw[insTo]
  cases hk:((itemAt it i).1==(1:Int))
  ·have hl:=ins_len it b ws hn hf hp (show i<it.length by omega) hk
   simp only[cond_false]
   rw[cat_snoc,List.length_append]
   omega
  ·simp only[cond_true]
   have:(itemAt it i).1=(1:Int):=by simpa using hk
   have e:sizeJ (itemAt it i) (wd ws i)=0:=by
    unfold sizeJ
    rw[this]
    rfl
   omega
end
theorem fetch_at (it:List tItem.den) (ws:List Bool) (hn:it.length≤21000) (hf:AsmFine it 64) (hp:(passTo it 64 ws it.length).1=false) (hdr fl:List UInt8) (hh:hdr.length=64) (hfl:fl=hdr++bytesTo it 64 ws it.length) {i:Nat} (hi:i<it.length) (hk:((itemAt it i).1==(1:Int))=false) :
  fetchX fl (posI it 64 ws i)=some (insM it 64 ws i,sizeJ (itemAt it i) (wd ws i)):=by
 obtain⟨hby,_⟩:=insTo_bytes it 64 ws it.length (fun k hk' h=>ins_ok it 64 ws hn hf hp hk' h)
 obtain⟨t,ht⟩:=insTo_pre it 64 ws (i+1) it.length hi
 rw[insTo,hk,cond_false] at ht
 have hcat:cat (insTo it 64 ws it.length)=cat (insTo it 64 ws i)++(encB (insM it 64 ws i)++cat t):=by
  rw[ht]
  unfold cat
  rw[List.flatMap_append,List.flatMap_append]
  simp
 have hpos:=cat_pos it 64 ws hn hf hp (i:=i) (by omega)
 have hok:=ins_ok it 64 ws hn hf hp hi hk
 have hlen:=ins_len it 64 ws hn hf hp hi hk
 have hl2:2≤(encB (insM it 64 ws i)).length:=by rcases encB_len _ hok with e |e<;>omega
 have hb0:=pos_bound it 64 ws i
 have hev:=pos_even it 64 ws i 0
 have hev0:posI it 64 ws 0=64:=rfl
 have hdrop:fl.drop (posI it 64 ws i).toNat=encB (insM it 64 ws i)++cat t:=by
  rw[hfl,hby,hcat,List.drop_append,hh]
  have e1:hdr.drop (posI it 64 ws i).toNat=[]:=List.drop_of_length_le (by omega)
  have e2:(posI it 64 ws i).toNat-64=(cat (insTo it 64 ws i)).length:=by omega
  rw[e1,e2,List.nil_append,List.drop_left]
 have hlt:posI it 64 ws i<lenI fl:=by
  simp only[lenI]
  rw[hfl,hby,hcat]
  simp only[List.length_append,hh]
  omega
 unfold fetchX
 have c1:(band .i64 (posI it 64 ws i) 1 != 0||decide (posI it 64 ws i≥lenI fl))=false:=by
  rw[band_one,dec_false (show ¬posI it 64 ws i≥lenI fl by omega)]
  have:posI it 64 ws i % 2=0:=by omega
  rw[this]
  rfl
 rw[c1,hdrop,dec_encB _ hok,←hlen]
 rfl
theorem asm_prg (it:List tItem.den) (ws:List Bool) (hn:it.length≤21000) (hf:AsmFine it 64) (hp:(passTo it 64 ws it.length).1=false) (hdr fl:List UInt8) (hh:hdr.length=64) (hfl:fl=hdr++bytesTo it 64 ws it.length)
  (hop:∀i,i<it.length→((itemAt it i).1==(0:Int))=true→opK (itemAt it i).2.2.1=true) (hd:tHead.den) (hl:Nat) (hl1:hl≤it.length) (hand:(show Int from hd.2.1)=posI it 64 ws hl) (o r:Nat) (hs:SzOk o r fl.length) :
  PrgOk hd fl ⟨prgTo it it.length,o,r,fl.length,cntI it hl⟩ (adrI it 64 ws):=by
 have hlenP:(prgTo it it.length).length=cntI it it.length:=prg_len it it.length
 have at_:∀j,j<(prgTo it it.length).length→∃i,i<it.length∧((itemAt it i).1==(1:Int))=false∧cntI it i=j∧(prgTo it it.length)[j]?=some (piI it i):=fun j hj=>by
  rw[hlenP] at hj
  obtain⟨i,h1,h2,h3⟩:=cnt_inv it hj
  refine⟨i,h1,h2,h3,?_⟩
  rw[←h3]
  exact prg_get it h1 h2
 have lt_:∀{j:Nat} {p:PI},(prgTo it it.length)[j]?=some p→j<(prgTo it it.length).length:=fun{j p} h=>by
  rcases Nat.lt_or_ge j (prgTo it it.length).length with h' |h'
  ·exact h'
  ·rw[List.getElem?_eq_none h'] at h
   cases h
 have next_:∀{i:Nat},i<it.length→((itemAt it i).1==(1:Int))=false→adrI it 64 ws (cntI it i+1)=posI it 64 ws i+sizeJ (itemAt it i) (wd ws i):=fun{i} h1 h2=>by
  have e:cntI it (i+1)=cntI it i+1:=by rw[cntI,h2];rfl
  rw[←e,adr_at it 64 ws (by omega)]
  rfl
 have size_:∀{i:Nat},i<it.length→((itemAt it i).1==(1:Int))=false→sizeJ (itemAt it i) (wd ws i)=bif isLong (insM it 64 ws i).1 (insM it 64 ws i).2.2.2.2.2.2.2.1 then(4:Int) else 2:=fun{i} h1 h2=>by
  rw[←ins_len it 64 ws hn hf hp h1 h2]
  exact(size_encI _ (ins_ok it 64 ws hn hf hp h1 h2)).1.symm
 have kind_:∀{i:Nat},i<it.length→qcI (itemAt it i)=true:=fun{i} h=>by
  have:=hf.item i h
  unfold badJ at this
  simpa using this
 refine⟨hs,?_,?_,?_,?_,?_,?_⟩
 ·rw[hand]
  exact(adr_at it 64 ws hl1).symm
 ·show cntI it hl≤(prgTo it it.length).length
  rw[hlenP]
  exact cnt_mono it hl1
 ·intro j hj
  unfold adrI
  have:=pos_bound it 64 ws ((firstP (fun i=>cntI it i==j) (it.length+1)).getD 0)
  have hk:(firstP (fun i=>cntI it i==j) (it.length+1)).getD 0≤it.length:=by
   cases hf:firstP (fun i=>cntI it i==j) (it.length+1) with
   |none=>exact Nat.zero_le _
   |some k =>
    have:=(firstP_some hf).1
    show k≤_
    omega
  omega
 ·show fetchX fl (adrI it 64 ws (prgTo it it.length).length)=none
  rw[hlenP,adr_at it 64 ws (Nat.le_refl _)]
  obtain⟨hby,_⟩:=insTo_bytes it 64 ws it.length (fun k hk' h=>ins_ok it 64 ws hn hf hp hk' h)
  have hpos:=cat_pos it 64 ws hn hf hp (Nat.le_refl _)
  have hge:posI it 64 ws it.length≥lenI fl:=by
   simp only[lenI]
   rw[hfl,hby]
   simp only[List.length_append,hh]
   omega
  unfold fetchX
  rw[dec_true hge,Bool.or_true]
  rfl
 ·intro j i hj
  obtain⟨k,h1,h2,h3,h4⟩:=at_ j (lt_ hj)
  rw[h4] at hj
  have hpi:piI it k=.op i:=by injection hj
  have hk2:((itemAt it k).1==(2:Int))=false:=by
   cases hk2:((itemAt it k).1==(2:Int))
   ·rfl
   ·unfold piI at hpi
    rw[hk2] at hpi
    cases hpi
  have hi:(itemAt it k).2.2.1=i:=by
   unfold piI at hpi
   rw[hk2] at hpi
   injection hpi
  have hk0:((itemAt it k).1==(0:Int))=true:=by
   rcases item_kinds _ (kind_ h1) with e |e |⟨e,_⟩
   ·rw[e];rfl
   ·rw[e] at h2;cases h2
   ·rw[e] at hk2;cases hk2
  have hins:insM it 64 ws k=i:=by
   unfold insM
   rw[hk2,←hi]
   rfl
  have hft:=fetch_at it ws hn hf hp hdr fl hh hfl h1 h2
  have hsz:=size_ h1 h2
  rw[hins] at hft hsz
  rw[←h3]
  refine⟨hi▸hop k h1 hk0,?_,?_⟩
  ·rw[adr_at it 64 ws (by omega),hft,hsz]
  ·rw[next_ h1 h2,adr_at it 64 ws (by omega),hsz]
 ·intro j o' c t hj
  obtain⟨k,h1,h2,h3,h4⟩:=at_ j (lt_ hj)
  rw[h4] at hj
  have hpi:piI it k=.br o' c t:=by injection hj
  have hk2:((itemAt it k).1==(2:Int))=true:=by
   cases hk2:((itemAt it k).1==(2:Int))
   ·unfold piI at hpi
    rw[hk2] at hpi
    cases hpi
   ·rfl
  unfold piI at hpi
  rw[hk2,cond_true] at hpi
  injection hpi with e1 e2 e3
  have hbr:((itemAt it k).1 != (2:Int))=false:=by
   unfold bne
   rw[hk2]
   rfl
  obtain⟨_,t2⟩:=tgt_some it hf.miss h1 hbr
  have hins:insM it 64 ws k=(o',0,0,0,0,offM it 64 ws k,c,wd ws k,()):=by
   unfold insM
   rw[hk2,←e1,←e2]
   rfl
  have hok:=ins_ok it 64 ws hn hf hp h1 h2
  have hft:=fetch_at it ws hn hf hp hdr fl hh hfl h1 h2
  have hszJ:sizeJ (itemAt it k) (wd ws k)=bif wd ws k then(4:Int) else 2:=by
   have:(itemAt it k).1=(2:Int):=by simpa using hk2
   unfold sizeJ
   rw[this]
   rfl
  rw[hins] at hft hok
  have ho:o'=24∨o'=25:=by
   rcases item_kinds _ (kind_ h1) with e |e |⟨_,⟨e,_⟩ |⟨e,_⟩⟩
   ·rw[e] at hk2;cases hk2
   ·rw[e] at h2;cases h2
   ·left;rw[←e1];exact e
   ·right;rw[←e1];exact e
  rw[←h3,←e3]
  refine⟨?_,ho,offM it 64 ws k,wd ws k,hok,?_,?_,?_⟩
  ·show cntI it (tgt it k)≤(prgTo it it.length).length
   rw[hlenP]
   exact cnt_mono it (by omega)
  ·rw[adr_at it 64 ws (by omega),hft,hszJ]
  ·rw[next_ h1 h2,adr_at it 64 ws (by omega),hszJ]
  ·rw[adr_at it 64 ws (by omega),adr_at it 64 ws (by omega)]
   unfold offM
   omega
end Go.Av
end
section
namespace Go.Av
open Go
def labsL:List tItem.den→List Int
 |[]=>[]
 |j::l=>bif j.1==1 then j.2.1::labsL l else labsL l
def jOk (ls:List Int) (j:tItem.den):Bool :=
 bif j.1==0 then opK j.2.2.1 else bif j.1==1 then true else j.1==2&&(((j.2.2.1.1==24&&j.2.2.1.2.2.2.2.2.2.1==0)||(j.2.2.1.1==25&&(decide (0≤j.2.2.1.2.2.2.2.2.2.1)&&decide (j.2.2.1.2.2.2.2.2.2.1≤13))))&&ls.contains j.2.1)
structure ItOk (it:List tItem.den):Prop where
 len:it.length≤21000
 all:∀j∈it,jOk (labsL it) j=true
 nodup:(labsL it).Nodup
theorem item_mem {it:List tItem.den} {i:Nat} (h:i<it.length):itemAt it i∈it:=by
 unfold itemAt
 rw[getD_in it _ h]
 exact List.getElem_mem h
theorem labs_mem {it:List tItem.den} {l:Int}:l∈labsL it↔∃i,i<it.length∧isLab it l i=true:=by
 induction it with
 |nil=>simp[labsL]
 |cons j r ih =>
  have hs:∀i,isLab (j::r) l (i+1)=isLab r l i:=fun i=>rfl
  have h0:isLab (j::r) l 0=(j.1==1&&j.2.1==l):=rfl
  have hx:(∃i,i<(j::r).length∧isLab (j::r) l i=true)↔(j.1==1&&j.2.1==l)=true∨∃i,i<r.length∧isLab r l i=true:=by
   constructor
   ·rintro⟨i,h1,h2⟩
    cases i with
    |zero=>left;rw[←h0];exact h2
    |succ i=>right;exact⟨i,by simpa using h1,by rw[←hs];exact h2⟩
   ·rintro(h |⟨i,h1,h2⟩)
    ·exact⟨0,by simp,by rw[h0];exact h⟩
    ·exact⟨i+1,by simpa using h1,by rw[hs];exact h2⟩
  rw[hx]
  simp only[labsL]
  cases hj:(j.1==(1:Int))
  ·simp only[cond_false,Bool.false_and,Bool.false_eq_true,false_or]
   exact ih
  ·simp only[cond_true,List.mem_cons,Bool.true_and,beq_iff_eq]
   rw[ih]
   constructor
   ·rintro(h |h)
    ·exact .inl h.symm
    ·exact .inr h
   ·rintro(h |h)
    ·exact .inl h.symm
    ·exact .inr h
theorem labs_uniq {it:List tItem.den} {l:Int} (hn:(labsL it).Nodup):∀{i k:Nat},i<it.length→k<it.length→isLab it l i=true→isLab it l k=true→i=k:=by
 induction it with
 |nil=>intro i k h;cases h
 |cons j r ih =>
  intro i k hi hk h1 h2
  simp only[labsL] at hn
  have h0:isLab (j::r) l 0=(j.1==1&&j.2.1==l):=rfl
  have hs:∀i,isLab (j::r) l (i+1)=isLab r l i:=fun i=>rfl
  have key:∀m,m<r.length→isLab r l m=true→isLab (j::r) l 0=true→False:=fun m hm h3 h4=>by
   rw[h0,Bool.and_eq_true,beq_iff_eq,beq_iff_eq] at h4
   have hb:(j.1==(1:Int))=true:=by rw[h4.1];rfl
   rw[hb,cond_true] at hn
   have:=(List.nodup_cons.1 hn).1
   rw[h4.2] at this
   exact this (labs_mem.2 ⟨m,hm,h3⟩)
  cases i with
  |zero =>
   cases k with
   |zero=>rfl
   |succ k=>exact(key k (by simpa using hk) (by rw[←hs];exact h2) h1).elim
  |succ i =>
   cases k with
   |zero=>exact(key i (by simpa using hi) (by rw[←hs];exact h1) h2).elim
   |succ k =>
    have hn':(labsL r).Nodup:=by
     cases hb:(j.1==(1:Int))
     ·rw[hb,cond_false] at hn;exact hn
     ·rw[hb,cond_true] at hn;exact(List.nodup_cons.1 hn).2
    have:=ih hn' (i:=i) (k:=k) (by simpa using hi) (by simpa using hk) (by rw[←hs];exact h1) (by rw[←hs];exact h2)
    omega
theorem opK_ok {i:tIns.den} (h:opK i=true):okI i=true:=by
 unfold opK at h
 rw[Bool.and_eq_true] at h
 exact h.1
theorem branch_ok (op rd rn rm ra imm cond:Int) (w:Bool) (u:Unit) (h:((op==24&&cond==0)||(op==25&&(decide (0≤cond)&&decide (cond≤13))))=true):qdq (op,rd,rn,rm,ra,imm,cond,w,u)=true:=by
 unfold qdq qfc PO.getO
 simp only[PO.val]
 by_cases g:op=24
 ·subst g
  have h':(cond==(0:Int))=true:=by
   rw[Bool.or_eq_true] at h
   rcases h with h |h
   ·rw[Bool.and_eq_true] at h;exact h.2
   ·rw[Bool.and_eq_true] at h;cases h.1
  show(cond==(0:Int))=true
  exact h'
 ·have e:(op==(24:Int))=false:=beq_eq_false_iff_ne.2 g
  rw[e,Bool.false_and,Bool.false_or,Bool.and_eq_true] at h
  have e2:op=25:=by simpa using h.1
  subst e2
  have h2:=h.2
  rw[Bool.and_eq_true] at h2
  show(decide (cond≥0)&&decide (cond≤13))=true
  rw[Bool.and_eq_true]
  exact⟨h2.1,h2.2⟩
theorem itok_fine {it:List tItem.den} (h:ItOk it):AsmFine it 64:=by
 have hj:∀i,i<it.length→jOk (labsL it) (itemAt it i)=true:=fun i hi=>h.all _ (item_mem hi)
 refine⟨rfl,fun i hi=>?_,fun i hi=>?_,fun i hi=>?_,fun i hi=>?_,?_⟩
 ·have:=hj i hi
  unfold badJ
  generalize itemAt it i=j at this
  obtain⟨k,l,⟨op,rd,rn,rm,ra,imm,cond,w,u⟩,u'⟩:=j
  have hv:qcI (k,l,(op,rd,rn,rm,ra,imm,cond,w,u),u')=true:=by
   unfold qcI qgZ PO.getO
   simp only[PO.val]
   unfold jOk at this
   dsimp only at this
   cases e0:(k==(0:Int))
   ·rw[e0,cond_false] at this
    cases e1:(k==(1:Int))
    ·rw[e1,cond_false,Bool.and_eq_true,Bool.and_eq_true] at this
     obtain⟨e2,e3,_⟩:=this
     have hb:=branch_ok op rd rn rm ra imm cond w u e3
     simp only[e2,cond_true,cond_false]
     simpa using hb
    ·simp only[cond_true,cond_false]
     rfl
   ·simp only[cond_true]
    rfl
  rw[hv]
  rfl
 ·have:=hj i hi
  unfold chkAt
  unfold jOk at this
  cases e0:((itemAt it i).1==(0:Int))
  ·rfl
  ·rw[e0,cond_true] at this
   have:=(qlW _).2 (opK_ok this)
   rw[this]
   rfl
 ·unfold dupAt
  cases e1:((itemAt it i).1==(1:Int))
  ·rfl
  ·rw[Bool.true_and]
   cases hf:firstP (isLab it (itemAt it i).2.1) i with
   |none=>rfl
   |some k =>
    obtain⟨k1,k2,_⟩:=firstP_some hf
    have hi':isLab it (itemAt it i).2.1 i=true:=by
     unfold isLab
     rw[e1]
     simp
    have:=labs_uniq h.nodup (by omega) hi k2 hi'
    omega
 ·unfold missAt
  cases e2:((itemAt it i).1==(2:Int))
  ·rfl
  ·rw[Bool.true_and]
   have hb:(itemAt it i).1=(2:Int):=by simpa using e2
   have:=hj i hi
   unfold jOk at this
   rw[hb] at this
   have this:((2:Int)==2&&((((itemAt it i).2.2.1.1==24&&(itemAt it i).2.2.1.2.2.2.2.2.2.1==0)||((itemAt it i).2.2.1.1==25&&(decide (0≤(itemAt it i).2.2.1.2.2.2.2.2.2.1)&&decide ((itemAt it i).2.2.1.2.2.2.2.2.2.1≤13))))&&(labsL it).contains (itemAt it i).2.1))=true:=this
   rw[Bool.and_eq_true,Bool.and_eq_true] at this
   have hm:=this.2.2
   rw[List.contains_iff_mem] at hm
   obtain⟨k,k1,k2⟩:=labs_mem.1 hm
   cases hf:firstP (isLab it (itemAt it i).2.1) it.length with
   |none =>
    have:=firstP_none hf k k1
    rw[k2] at this
    cases this
   |some _=>rfl
 ·have:=pos_bound it 0 (allT it) it.length
  have:=h.len
  omega
def cntL (l:Int):List tItem.den→Nat
 |[]=>0
 |j::r=>bif j.1==1 then(bif j.2.1==l then 0 else cntL l r) else cntL l r+1
def piL (f:Int→Nat) (j:tItem.den):PI:=bif j.1==2 then .br j.2.2.1.1 j.2.2.1.2.2.2.2.2.2.1 (f j.2.1) else .op j.2.2.1
def stripL (f:Int→Nat):List tItem.den→List PI
 |[]=>[]
 |j::r=>bif j.1==1 then stripL f r else piL f j::stripL f r
theorem cntI_cons (j:tItem.den) (r:List tItem.den):∀i,cntI (j::r) (i+1)=(bif j.1==1 then 0 else 1)+cntI r i
 |0=>by
  show(bif j.1==1 then 0 else 0+1)=_
  cases (j.1==(1:Int))<;>rfl
 |i+1=>by
  have ih:=cntI_cons j r i
  rw[cntI,ih]
  show(bif (itemAt r i).1==1 then _ else _)=_+(bif (itemAt r i).1==1 then _ else _)
  cases ((itemAt r i).1==(1:Int))<;>simp only[cond_true,cond_false]<;>omega
theorem cnt_lab (l:Int):∀(it:List tItem.den) (k:Nat),k<it.length→isLab it l k=true→(∀i,i<k→isLab it l i=false)→cntI it k=cntL l it
 |[],_,h,_,_=>by cases h
 |j::r,0,_,h,_=>by
  have h0:(j.1==1&&j.2.1==l)=true:=h
  rw[Bool.and_eq_true] at h0
  show 0=bif j.1==1 then(bif j.2.1==l then 0 else cntL l r) else cntL l r+1
  rw[h0.1,h0.2]
  rfl
 |j::r,k+1,hk,h,hb=>by
  have ih:=cnt_lab l r k (by simpa using hk) h (fun i hi=>hb (i+1) (by omega))
  have h0:(j.1==1&&j.2.1==l)=false:=hb 0 (by omega)
  rw[cntI_cons,ih,cntL]
  cases hj:(j.1==(1:Int))
  ·simp only[cond_false];omega
  ·rw[hj,Bool.true_and] at h0
   rw[h0]
   simp
theorem strip_snoc (f:Int→Nat) (j:tItem.den):∀l:List tItem.den,stripL f (l++[j])=bif j.1==1 then stripL f l else stripL f l++[piL f j]
 |[]=>by
  simp only[List.nil_append,stripL]
 |i::l=>by
  rw[List.cons_append,stripL,strip_snoc f j l,stripL]
  cases (i.1==(1:Int))<;>cases (j.1==(1:Int))<;>rfl
theorem prg_strip {it:List tItem.den} (h:ItOk it):prgTo it it.length=stripL (fun l=>cntL l it) it:=by
 have key:∀n,n≤it.length→prgTo it n=stripL (fun l=>cntL l it) (it.take n):=by
  intro n
  induction n with
  |zero=>intro _;rfl
  |succ n ih =>
   intro hn
   have hlt:n<it.length:=by omega
   have hi:it[n]=itemAt it n:=(getD_in it _ hlt).symm
   rw[prgTo,ih (by omega),List.take_succ_eq_append_getElem hlt,hi,strip_snoc]
   cases hk:((itemAt it n).1==(1:Int))
   ·simp only[cond_false]
    congr 2
    unfold piI piL
    cases hk2:((itemAt it n).1==(2:Int))
    ·rfl
    ·simp only[cond_true]
     have hf:=itok_fine h
     have hbr:((itemAt it n).1 != (2:Int))=false:=by
      unfold bne
      rw[hk2]
      rfl
     obtain⟨t1,t2⟩:=tgt_some it hf.miss hlt hbr
     obtain⟨s1,s2,s3⟩:=firstP_some t1
     rw[cnt_lab _ it (tgt it n) t2 s2 s3]
   ·rfl
 have:=key it.length (Nat.le_refl _)
 rw[List.take_length] at this
 exact this
theorem cntL_pre (l:Int):∀(pre H:List tItem.den),(∀j∈pre,(j.1==(1:Int))=false)→cntL l (pre++H)=pre.length+cntL l H
 |[],H,_=>by simp
 |j::r,H,h=>by
  have hj:=h j (by simp)
  have ih:=cntL_pre l r H (fun i hi=>h i (by simp[hi]))
  rw[List.cons_append,cntL,hj,cond_false,ih,List.length_cons]
  omega
theorem strip_pre (f:Int→Nat):∀(pre H:List tItem.den),(∀j∈pre,(j.1==(0:Int))=true)→stripL f (pre++H)=pre.map (fun j=>.op j.2.2.1)++stripL f H
 |[],H,_=>rfl
 |j::r,H,h=>by
  have hj:=h j (by simp)
  have hj0:j.1=(0:Int):=by simpa using hj
  have ih:=strip_pre f r H (fun i hi=>h i (by simp[hi]))
  rw[List.cons_append,stripL,ih]
  have e1:(j.1==(1:Int))=false:=by rw[hj0];rfl
  have e2:(j.1==(2:Int))=false:=by rw[hj0];rfl
  rw[e1,cond_false,List.map_cons,List.cons_append]
  congr 1
  unfold piL
  rw[e2]
  rfl
end Go.Av
end
section
namespace Go.Av
open Go
def zeroL (h:Int):List tItem.den:=its [ldrI 0 5,movw 2 0,cmpI 0 2]++[itC 1 h]
def wipe1 (ref:Bool) (base n a:Int):List tItem.den:=headL ref n a++its [movw 0 0]++its (addrI ref 5 base 1)++its [strI 0 5]++tailL a
def look1 (ref:Bool) (base n a h:Int):List tItem.den:=headL ref n a++its (addrI ref 5 base 1)++zeroL h++tailL a
def handL (ref:Bool) (l:Nat→Int) (s:tSizes.den) (twice:Bool) (h:Int):List tItem.den :=
 [itL h]++its [movw 0 0]++its (wordI ref 5 537919488)++its [strI 0 5] ++
 wipe1 ref 537001984 s.2.1 (l 0)++wipe1 ref 537133056 s.2.2.1 (l 1)++wipe1 ref 537395200 s.2.2.1 (l 2) ++
 look1 ref 537001984 s.2.1 (l 3) h++look1 ref 537133056 s.2.2.1 (l 4) h++look1 ref 537395200 s.2.2.1 (l 5) h ++
 its (wordI ref 5 537919488)++zeroL h++its (wordI ref 5 538968064)++its (wordI ref 0 195890093)++its [strI 0 5,bkptI]++(match twice with
  |true=>its [bkptI]
  |false=>[])
def lab (ref:Bool) (first:Int) (k:Nat):Int:=match ref with
 |true=>w64 (first+(2*k:Nat))
 |false=>match k with
  |0=>w64 (first+0)
  |1=>w64 (first+2)
  |2=>w64 (first+4)
  |3=>w64 (w64 (first+6)+0)
  |4=>w64 (w64 (first+6)+2)
  |_=>w64 (w64 (first+6)+4)
abbrev qfq:List Ty:=[tSizes,.bool,tI,tI]
abbrev qkZ:Sh:=.osl 32 tItem
def qi5 (x:dens qfq):PO (List tItem.den):=.ite x.2.1 (.ret (handL false (lab false x.2.2.2) x.1 true x.2.2.1)) (.ret (handL false (lab false x.2.2.2) x.1 false x.2.2.1))
def qi3 (_:dens qfq):Bool:=true
def qdh (x:dens qfq):List tItem.den:=handL false (lab false x.2.2.2) x.1 x.2.1 x.2.2.1
theorem qmg (x:dens qfq) (_:qi3 x=true):(qi5 x).val=some (qdh x):=by
 unfold qi5 qdh
 cases x.2.1<;>rfl
abbrev qc4:List Ty:=[]
abbrev qiD:Sh:=.ty .bool
def qiL (_:dens qc4):PO Bool:=.ret true
def qfI (_:dens qc4):Bool:=true
def qfE (_:dens qc4):Bool:=true
theorem qk4 (x:dens qc4) (_:qfI x=true):(qiL x).val=some (qfE x):=rfl
end Go.Av
end
section
namespace Go.Av
open Go
def unlikeL (frm h:Int):List tItem.den:=its [ldrI 2 frm,cmpI 0 2]++[itC 1 h]
def gateL (ref:Bool) (b1 b2:Bool) (image out h first:Int):List tItem.den :=
 headL ref out first++its [movw 3 (lo ref image),addI 4 1 3]++its (addrI ref 5 537133056 4)++its (addrI ref 6 537001984 1)++its [ldrI 0 5,strI 0 6]++tailL first ++
 (match b1 with
  |true=>headL ref out (w64 (first+2))++its [movw 3 (lo ref image),addI 4 1 3]++its (addrI ref 5 537133056 4)++its (addrI ref 7 537395200 4)++its (addrI ref 6 537001984 1)++its [ldrI 0 6]++unlikeL 5 h++unlikeL 7 h++tailL (w64 (first+2))
  |false=>[]) ++
 its (wordI ref 5 537919488)++its (wordI ref 0 3235799053)++its [strI 0 5,bkptI]++(match b2 with
  |true=>its [bkptI]
  |false=>[])
abbrev qhi:List Ty:=[tI,tI,.bool,tI,tI]
abbrev qlN:Sh:=.osl 32 tItem
def qlK (x:dens qhi):PO (List tItem.den):=two x.2.2.1 fun b1 b2=>.ret (gateL false b1 b2 x.1 x.2.1 x.2.2.2.1 x.2.2.2.2)
def qkQ (_:dens qhi):Bool:=true
def qkN (x:dens qhi):List tItem.den:=gateL false x.2.2.1 x.2.2.1 x.1 x.2.1 x.2.2.2.1 x.2.2.2.2
theorem qm9 (x:dens qhi) (_:qkQ x=true):(qlK x).val=some (qkN x):=two_val _ _
abbrev qcW:List Ty:=[]
abbrev qh2:Sh:=.ty .bool
def qiE (_:dens qcW):PO Bool:=.ret true
def qfD (_:dens qcW):Bool:=true
def qfB (_:dens qcW):Bool:=true
theorem qk3 (x:dens qcW) (_:qfD x=true):(qiE x).val=some (qfB x):=rfl
end Go.Av
end
section
namespace Go.Av
open Go
def qbz:LoopN where
 M:=[0,2,5,6]
 T:=[3,7,8,9,10,11,12,13]
 D:=[0,5,6]
 ss:=[.ty .str,.ty .bool,.ty (.int .i64),.ty (.int .i64)]
 hs:=[]
 es:=[.exit 0,.ret]
 σ:=(Ty.den .bool)×(Ty.den (.int .i64))
 x0:=fun x _=>(x.2.1,x.2.2.2)
 put:=fun x _ s=>((x.1,s.1,x.2.2.1,s.2),())
 fuel:=fun x _=>List.length x.1+1
 turn:=fun x _ s =>
 (.ite (decide (s.2<x.2.2.1))
  (.ite (inRange s.2 (List.length x.1))
  (.ite (u8I (List.getD x.1 (Int.toNat s.2) 0) != 0)
   (.ret (.out 1 (false,s.2)))
   (.ret (.on (s.1,w64 (s.2+1)))))
  .fail)
  (.ret (.out 0 (s.1,s.2))))
abbrev qfm:List Ty:=[.str]
abbrev qk6:Sh:=.ty .bool
def qja (x:dens qfm):PO Bool :=
 (.opt (LoopN.res qbz (x,false,lenI x,0) ()) fun p0 =>
  (.ite (way p0.1)
  (.ret (true))
  (.ret (p0.2.1))))
def qd5 (x:dens qfm):Bool:=decide (List.length x<9223372036854775808)
def qb8 (x:dens qfm):Bool:=(x:List UInt8).all (·==0)
theorem zero_run (l:List UInt8) (hb:l.length<9223372036854775808):∀(k i:Nat),i+k=l.length→∀f,k<f →
  runL (qbz.turn (l,false,(l.length:Int),0) ()) f (false,(i:Int))=some (bif (l.drop i).all (·==0) then(0,false,(l.length:Int)) else(1,false,((i+((l.drop i).takeWhile (·==0)).length:Nat):Int)))
 |0,i,h,f,hf=>by
  obtain⟨f,rfl⟩:∃g,f=g+1:=⟨f-1,by omega⟩
  rw[List.drop_of_length_le (by omega)]
  refine runL_out ?_
  simp only[qbz,PO.val,dec_false (show ¬(i:Int)<(l.length:Int) by omega),cond_false]
  have:i=l.length:=by omega
  subst this
  rfl
 |k+1,i,h,f,hf=>by
  obtain⟨f,rfl⟩:∃g,f=g+1:=⟨f-1,by omega⟩
  have hi:i<l.length:=by omega
  rw[List.drop_eq_getElem_cons hi]
  have h1:decide ((i:Int)<(l.length:Int))=true:=dec_true (by omega)
  have h2:l.getD i 0=l[i]:=by rw[List.getD_eq_getElem?_getD,List.getElem?_eq_getElem hi];rfl
  cases hc:(l[i]==0)
  ·have:((l[i].toNat:Int) != 0)=true:=by
    simp only[beq_eq_false_iff_ne,ne_eq] at hc
    simp only[bne_iff_ne,ne_eq]
    intro h0
    apply hc
    have:l[i].toNat=0:=by omega
    exact UInt8.toNat_inj.1 this
   simp only[List.all_cons,hc,Bool.false_and,cond_false,List.takeWhile_cons,Bool.false_eq_true,if_false,List.length_nil,Nat.add_zero]
   refine runL_out ?_
   simp only[qbz,PO.val,h1,inR hi,cond_true,getD_nat,h2,this]
  ·have:((l[i].toNat:Int) != 0)=false:=by
    simp only[beq_iff_eq] at hc
    rw[hc]
    rfl
   have ht:(qbz.turn (l,false,(l.length:Int),0) () (false,(i:Int))).val=some (.on (false,((i+1:Nat):Int))):=by
    simp only[qbz,PO.val,h1,inR hi,cond_true,getD_nat,h2,this,cond_false]
    rw[w64_id (by omega) (by omega)]
    rfl
   refine(runL_on ht).trans ((zero_run l hb k (i+1) (by omega) f (by omega)).trans ?_)
   simp only[List.all_cons,hc,Bool.true_and,List.takeWhile_cons,if_true,List.length_cons]
   rw[show i+1+((l.drop (i+1)).takeWhile (·==0)).length=i+(((l.drop (i+1)).takeWhile (·==0)).length+1) by omega]
theorem qmf (x:dens qfm) (h:qd5 x=true):(qja x).val=some (qb8 x):=by
 have hb:List.length x<9223372036854775808:=of_decide_eq_true h
 have:=zero_run x hb (List.length x) 0 (by omega) (List.length x+1) (by omega)
 have e:LoopN.res qbz (x,false,lenI x,0) ()=_:=this
 unfold qja PO.val
 rw[e]
 simp only[List.drop_zero,qb8]
 cases (x:List UInt8).all (·==0)<;>rfl
abbrev qeE:List Ty:=[tResult]
abbrev qgm:Sh:=Sh.ty Ty.bool
def qgo (x:dens qeE):PO (Sh.den qgm) :=
 (.ite (bif x.2.2.2.2.1==0 then qd5 x.2.2.2.2.2.2.1&&bif qb8 x.2.2.2.2.2.2.1 then qd5 x.2.2.2.2.2.2.2.1&&bif qb8 x.2.2.2.2.2.2.2.1 then qd5 x.2.2.2.2.2.2.2.2.1 else true else true else true)
  (.ret (x.2.2.2.2.1==0&&(qb8 x.2.2.2.2.2.2.1&&(qb8 x.2.2.2.2.2.2.2.1&&qb8 x.2.2.2.2.2.2.2.2.1))))
  .fail)
def qiA (x:dens qeE):Bool:=(qgo x).val.isSome
def qiQ (x:dens qeE):Sh.den qgm:=(qgo x).getO default
theorem qlZ (x:dens qeE) (h:qiA x=true):(qgo x).val=some (qiQ x):=PO.getO_ok default h
abbrev qfk:List Ty:=[tResult,tResult]
abbrev qg1:Sh:=Sh.ty Ty.bool
def qg2 (x:dens qfk):PO (Sh.den qg1) :=
 (.ret (x.1.1==x.2.1&&(x.1.2.2.2.2.1==x.2.2.2.2.2.1&&(x.1.2.2.2.2.2.1==x.2.2.2.2.2.2.1&&x.1.2.2.2.2.2.2.1==x.2.2.2.2.2.2.2.1))))
def qi6 (_:dens qfk):Bool:=true
def qjd (x:dens qfk):Sh.den qg1:=(qg2 x).getO default
theorem ql8 (x:dens qfk) (_:qi6 x=true):(qg2 x).val=some (qjd x):=PO.sure_ok default (by simp[qg2,PO.sure])
abbrev qgs:List Ty:=[tResult]
abbrev qiw:Sh:=Sh.ty tOutcome
def qiB (x:dens qgs):PO (Sh.den qiw) :=
 (.ite (!x.1)
  (.ret ((0,[],())))
  (.ite (x.2.2.2.2.1==3235799053)
  (.ret ((1,x.2.2.2.2.2.2.1,())))
  (.ite (x.2.2.2.2.2.1==195890093)
   (.ret ((2,[],())))
   (.ret ((3,[],()))))))
def qkh (_:dens qgs):Bool:=true
def qkk (x:dens qgs):Sh.den qiw:=(qiB x).getO default
theorem qmR (x:dens qgs) (_:qkh x=true):(qiB x).val=some (qkk x):=PO.sure_ok default (by simp[qiB,PO.sure])
abbrev qeU:List Ty:=[tSizes]
abbrev qgj:Sh:=Sh.ty (Ty.int IntKind.i64)
def qgi (x:dens qeU):PO (Sh.den qgj) :=
 (.ite (qJ (x,0) != 0)
  (.ret (0))
  (.ret (w64 (w64 (32*w64 (x.2.1+w64 (2*x.2.2.1)))+256))))
def qiP (_:dens qeU):Bool:=true
def qh6 (x:dens qeU):Sh.den qgj:=(qgi x).getO default
theorem qlY (x:dens qeU) (_:qiP x=true):(qgi x).val=some (qh6 x):=PO.sure_ok default (by simp[qgi,PO.sure])
end Go.Av
end
section
namespace Go.Av
open Go
abbrev tStore:Ty:=.pair (.int .i64) (.pair (.int .i64) (.pair (.int .i64) .unit))
abbrev qkt (x:dens qd1):List tIns.den:=bif decide (x.1<0)||decide (x.1 > 7) then[] else[(3,x.1,0,0,0,band IntKind.i64 x.2 65535,0,false,()),(4,x.1,0,0,0,band IntKind.i64 (ishr IntKind.i64 x.2 16) 65535,0,false,())]
abbrev qly:List Ty:=qd1
abbrev qlx:Sh:=qnt
abbrev qlB (x:dens qd1):PO (List tIns.den):=qkT x
abbrev qku (x:dens qd1):Bool:=qlO x
theorem qmY (x:dens qly) (h:qku x=true):(qlB x).val=some (qkt x):=qm8 x h
def frontL (hd:tHead.den):List Int:=[List.getD (qy hd) (Int.toNat 0) (Ty.dflt (.int .i64)),List.getD (qy hd) (Int.toNat 1) (Ty.dflt (.int .i64)),List.getD (qy hd) (Int.toNat 2) (Ty.dflt (.int .i64)),List.getD (qy hd) (Int.toNat 3) (Ty.dflt (.int .i64)),
 List.getD (qy hd) (Int.toNat 4) (Ty.dflt (.int .i64)),List.getD (qy hd) (Int.toNat 5) (Ty.dflt (.int .i64)),List.getD (qy hd) (Int.toNat 6) (Ty.dflt (.int .i64)),List.getD (qy hd) (Int.toNat 7) (Ty.dflt (.int .i64)),
 List.getD (qy hd) (Int.toNat 8) (Ty.dflt (.int .i64)),List.getD (qy hd) (Int.toNat 9) (Ty.dflt (.int .i64)),List.getD (qy hd) (Int.toNat 10) (Ty.dflt (.int .i64)),List.getD (qy hd) (Int.toNat 11) (Ty.dflt (.int .i64)),
 List.getD (qy hd) (Int.toNat 12) (Ty.dflt (.int .i64)),List.getD (qy hd) (Int.toNat 13) (Ty.dflt (.int .i64)),List.getD (qy hd) (Int.toNat 14) (Ty.dflt (.int .i64)),List.getD (qy hd) (Int.toNat 15) (Ty.dflt (.int .i64))]
def qdt:LoopN where
 M:=[1,7,19,20]
 T:=[9,21,22,23,24,25,26]
 D:=[19,20]
 ss:=[.ty .str,.box 0 0,.ty (.arr 16 (.int .i64)),.ty (.int .i64)]
 hs:=[shBldL 0 0]
 es:=[.exit 0]
 σ:=(Ty.den (.int .i64))×(Sh.den (shBldL 0 0))
 x0:=fun x y=>(x.2.2.2,y)
 put:=fun x _ s=>((x.1,x.2.1,x.2.2.1,s.1),s.2)
 fuel:=fun _ _=>17
 turn:=fun x _ s =>
 (.ite (decide (s.1<16))
  (.ite (inRange s.1 16)
  (.ite (qcH s.2.2.1 (qM (List.getD x.2.2.1 (Int.toNat s.1) (Ty.dflt (Ty.int IntKind.i64)))))
   (.ret (.on (w64 (s.1+1),((),qd0 s.2.2.1 (qM (List.getD x.2.2.1 (Int.toNat s.1) (Ty.dflt (Ty.int IntKind.i64)))),()))))
   .fail)
  .fail)
  (.ret (.out 0 (s.1,s.2))))
abbrev qfZ:List Ty:=[tHead,.str]
abbrev qhD:Sh:=Sh.tup (Sh.pair (Sh.ty Ty.str) (Sh.pair (Sh.ty (Ty.int IntKind.i64)) (Sh.ty Ty.unit)))
def qjO (x:dens qfZ):PO (Sh.den qhD) :=
 (.ite (qO (x.1,w64 (64+lenI x.2)) != 0)
  (.ret (([],qO (x.1,w64 (64+lenI x.2)),())))
  (.opt (LoopN.res qdt (x.2,(),qy x.1,0) ((),[],())) fun p0 =>
  (.ite (qcH p0.2.2.2.1 x.2)
   (.ret (qd0 p0.2.2.2.1 x.2,0,()))
   .fail)))
def headB (hd:tHead.den):List UInt8:=(frontL hd).flatMap qM
def headTo (fr:List Int) (k:Nat):List UInt8:=(List.range k).flatMap fun(i:Nat)=>qM (List.getD fr (Int.toNat (i:Int)) (Ty.dflt (.int .i64)))
theorem headTo_all (hd:tHead.den):headTo (qy hd) 16=headB hd:=by
 have h:List.range 16=[0,1,2,3,4,5,6,7,8,9,10,11,12,13,14,15]:=by decide
 unfold headTo headB frontL
 rw[h]
 simp only[List.flatMap_cons,List.flatMap_nil]
 rfl
theorem headTo_next (fr:List Int) (k:Nat):headTo fr (k+1)=headTo fr k++qM (List.getD fr (Int.toNat (k:Int)) (Ty.dflt (.int .i64))):=by
 unfold headTo
 rw[List.range_succ,List.flatMap_append]
 simp
theorem bytes_wlen (n:Int):(qM n).length=4:=rfl
theorem headTo_len (fr:List Int):∀k,(headTo fr k).length=4*k
 |0=>rfl
 |k+1=>by rw[headTo_next,List.length_append,headTo_len fr k,bytes_wlen];omega
theorem bld_fit (acc:List UInt8) (w:Int) (h:acc.length≤64):qcH acc (qM w)=true:=by
 unfold qcH
 rw[Nat.ble_eq,bytes_wlen];omega
theorem bld_on (code:List UInt8) (fr:List Int) (k:Nat) (hk:k<16) (acc:List UInt8) (w:List UInt8) (hw:qM (List.getD fr (Int.toNat (k:Int)) (Ty.dflt (.int .i64)))=w) (hf:qcH acc w=true) :
  (qdt.turn (code,(),fr,0) ((),[],()) ((k:Int),((),acc,()))).val=some (.on (((k+1:Nat):Int),((),acc++w,()))):=by
 subst hw
 refine(val_yes (dec_true (show(k:Int)<16 by omega))).trans ((val_yes (inR hk)).trans ((val_yes hf).trans ?_))
 dsimp only
 rw[w64_id (n:=(k:Int)+1) (by omega) (by omega)]
 rfl
theorem bld_res (fr:List Int) (code:List UInt8):LoopN.res qdt (code,(),fr,0) ((),[],())=some (0,16,((),headTo fr 16,())):=by
 unfold LoopN.res
 refine runL_count (turn:=qdt.turn (code,(),fr,0) ((),[],())) (fun k=>((k:Int),((),headTo fr k,()))) (0,(16,((),headTo fr 16,()))) (n:=16) (fun k hk=>?_) ?_ 16 0 (by omega) 17 (by omega)
 ·have hl:=headTo_len fr k
  have h:=bld_on code fr k hk (headTo fr k) _ rfl (bld_fit _ _ (by omega))
  rw[←headTo_next] at h
  exact h
 ·exact(val_no (dec_false (show ¬(((16:Nat):Int)<16) by omega))).trans rfl
def qdG (x:dens qfZ):Bool:=decide (List.length x.2≤140737488300000)
def qo (x:dens qfZ):Sh.den qhD:=bif qO (x.1,w64 (64+lenI x.2)) != 0 then([],qO (x.1,w64 (64+lenI x.2)),()) else(headB x.1++x.2,0,())
theorem qmD (x:dens qfZ) (h:qdG x=true):(qjO x).val=some (qo x):=by
 obtain⟨hd,code⟩:=x
 have hc:code.length≤140737488300000:=of_decide_eq_true h
 unfold qjO qo
 dsimp only
 cases hk:(qO (hd,w64 (64+lenI code)) != (0:Int))
 ·refine(val_no rfl).trans ((val_opt (bld_res (qy hd) code)).trans ((val_yes ?_).trans ?_))
  ·show qcH (headTo (qy hd) 16) code=true
   unfold qcH
   rw[Nat.ble_eq,headTo_len];omega
  ·show some (qd0 (headTo (qy hd) 16) code,(0:Int),())=_
   unfold qd0
   rw[headTo_all]
   rfl
 ·exact(val_yes rfl).trans rfl
def appT {α:Type} (base:List tItem.den):List tItem.den→(List tItem.den→PO α)→PO α
 |[],K=>K base
 |i::l,K=>.ite (Nat.ble ((List.length base+List.length [i])*80) 140737488355328) (appT (base++[i]) l K) .fail
def putB (x:tStore.den):Int:=bif x.1==1 then 537133056 else bif x.1==2 then 537395200 else bif x.1==3 then 537919488 else 537001984
def putN (x:tStore.den) (s:tSizes.den):Int:=bif x.1==1 then s.2.2.1 else bif x.1==2 then s.2.2.1 else bif x.1==3 then 4 else s.2.1
def putBad (x:tStore.den) (s:tSizes.den):Bool:=decide (x.2.1<0)||decide (x.2.1≥w64 (Int.tdiv (putN x s) 4))
def putA (x:tStore.den):Int:=w64 (putB x+w64 (4*x.2.1))
def put5 (x:tStore.den):List tItem.den:=[(0,0,(3,7,0,0,0,band IntKind.i64 (putA x) 65535,0,false,()),()),(0,0,(4,7,0,0,0,band IntKind.i64 (ishr IntKind.i64 (putA x) 16) 65535,0,false,()),()),
 (0,0,(3,3,0,0,0,band IntKind.i64 x.2.2.1 65535,0,false,()),()),(0,0,(4,3,0,0,0,band IntKind.i64 (ishr IntKind.i64 x.2.2.1 16) 65535,0,false,()),()),(0,0,(20,3,7,0,0,0,0,false,()),())]
def qe8:LoopN where
 M:=[1,2,3,8,9]
 T:=[11,12,13,14,15,16,17,18,19,20,21,22,23,24,25,26,27]
 D:=[1,9]
 ss:=[.ty (.sl tStore),.ty .bool,.box 0 0,.osl 0 tItem,.ty (.int .i64)]
 hs:=[.ty tSizes]
 es:=[.exit 0]
 σ:=(List (Ty.den tItem))×(Ty.den (.int .i64))×(Sh.den (.ty tSizes))
 x0:=fun x y=>(x.2.2.2.1,x.2.2.2.2,y)
 put:=fun x _ s=>((x.1,x.2.1,x.2.2.1,s.1,s.2.1),s.2.2)
 fuel:=fun x _=>List.length x.1+1
 turn:=fun x _ s =>
 (.ite (decide (s.2.1<lenI x.1)&&decide (s.2.1<40))
  (.ite (inRange s.2.1 (List.length x.1))
  (.ite (putBad (List.getD x.1 (Int.toNat s.2.1) (Ty.dflt tStore)) s.2.2)
   (.ret (.on (s.1,w64 (s.2.1+1),s.2.2)))
   (appT s.1 (put5 (List.getD x.1 (Int.toNat s.2.1) (Ty.dflt tStore))) fun o=>.ret (.on (o,w64 (s.2.1+1),s.2.2))))
  .fail)
  (.ret (.out 0 (s.1,s.2.1,s.2.2))))
def qe6:LoopN where
 M:=[2,4,7,8,9,10,11]
 T:=[20,21,22,23,24,25,26,27,28,29,30,31,32,33,34,35,36,37]
 D:=[2,8,11]
 ss:=[.ty (.int .i64),.box 0 0,.ty .str,.ty (.sl tPlace),.ty (.int .i64),.ty (.int .i64),.ty (.int .i64)]
 hs:=[.ty tSizes]
 es:=[.exit 0]
 σ:=(Ty.den (.int .i64))×(Ty.den (.int .i64))×(Sh.den (.ty tSizes))
 x0:=fun x y=>(x.2.2.2.2.2.1,x.2.2.2.2.2.2,y)
 put:=fun x _ s=>((x.1,x.2.1,x.2.2.1,x.2.2.2.1,x.2.2.2.2.1,s.1,s.2.1),s.2.2)
 fuel:=fun x _=>List.length x.2.2.2.1+1
 turn:=fun x _ s =>
 (.ite (decide (s.2.1<lenI x.2.2.2.1))
  (.ite (inRange s.2.1 (List.length x.2.2.2.1))
  (.ite (bif (List.getD x.2.2.2.1 (Int.toNat s.2.1) (Ty.dflt tPlace)).1==x.1 then inRange s.2.1 (List.length x.2.2.2.1) else true)
   (.ret (.on (bif (List.getD x.2.2.2.1 (Int.toNat s.2.1) (Ty.dflt tPlace)).1==x.1 then(List.getD x.2.2.2.1 (Int.toNat s.2.1) (Ty.dflt tPlace)).2.1 else s.1,w64 (s.2.1+1),s.2.2)))
   .fail)
  .fail)
  (.ret (.out 0 (s.1,s.2.1,s.2.2))))
abbrev qcX:List Ty:=[(.sl tItem),tSizes,(.int .i64)]
abbrev qdP:Sh:=Sh.ty Ty.str
def qdS (x:dens qcX):PO (Sh.den qdP) :=
 (.ite (qb7 (x.1,64))
  (.opt (LoopN.res qe6 (x.2.2,(),(qj (x.1,64)).1,(qj (x.1,64)).2.1,(qj (x.1,64)).2.2.1,0,0) x.2.1) fun p0 =>
  (.ite (qdG ((64,p0.2.1,p0.2.2.2,0,()),(qj (x.1,64)).1))
   (.ite ((qj (x.1,64)).2.2.1 != 0||(qo ((64,p0.2.1,p0.2.2.2,0,()),(qj (x.1,64)).1)).2.1 != 0)
   (.ret ([]))
   (.ret ((qo ((64,p0.2.1,p0.2.2.2,0,()),(qj (x.1,64)).1)).1)))
   .fail))
  .fail)
def qdU (x:dens qcX):Bool:=(qdS x).val.isSome
def qdW (x:dens qcX):Sh.den qdP:=(qdS x).getO default
theorem qk1 (x:dens qcX) (h:qdU x=true):(qdS x).val=some (qdW x):=PO.getO_ok default h
abbrev qdr:List Ty:=[tSizes]
abbrev qeT:Sh:=Sh.ty Ty.bool
def qeQ (x:dens qdr):PO (Sh.den qeT) :=
 (.ret (x.1==0&&(decide (x.2.1≥0)&&(decide (x.2.1≤80)&&(decide (x.2.2.1≥4)&&(decide (x.2.2.1≤120)&&(Int.tmod x.2.1 4==0&&Int.tmod x.2.2.1 4==0)))))))
def qgG (_:dens qdr):Bool:=true
def qgM (x:dens qdr):Sh.den qeT:=(qeQ x).getO default
theorem qlu (x:dens qdr) (_:qgG x=true):(qeQ x).val=some (qgM x):=PO.sure_ok default (by simp[qeQ,PO.sure])
abbrev qcY:List Ty:=[tSizes,(.sl tStore),.bool]
abbrev qdV:Sh:=Sh.tup (Sh.pair (Sh.ty Ty.str) (Sh.pair (Sh.ty (Ty.int IntKind.i64)) (Sh.ty Ty.unit)))
def qdM (x:dens qcY):PO (Sh.den qdV) :=
 (.opt (LoopN.res qe8 (x.2.1,x.2.2,(),[],0) x.1) fun p0 =>
  (.ite (Nat.ble ((List.length p0.2.1+List.length (qdh (p0.2.2.2,x.2.2,0,1)))*80) 140737488355328)
  (.ite (qdU (p0.2.1++qdh (p0.2.2.2,x.2.2,0,1),p0.2.2.2,0))
   (.ret ((qdW (p0.2.1++qdh (p0.2.2.2,x.2.2,0,1),p0.2.2.2,0),lenI p0.2.1,())))
   .fail)
  .fail))
def qfH (x:dens qcY):Bool:=(qdM x).val.isSome
def qfx (x:dens qcY):Sh.den qdV:=(qdM x).getO default
theorem qk7 (x:dens qcY) (h:qfH x=true):(qdM x).val=some (qfx x):=PO.getO_ok default h
end Go.Av
end
section
namespace Go.Av
open Go
theorem ishr_pow (m k:Nat) (hk:k≤62):ishr .i64 (m:Int) (k:Int)=((m / 2 ^ k:Nat):Int):=by
 unfold ishr
 rw[Int.toNat_natCast,Nat.min_eq_left (by show k≤64;omega),Int.fdiv_eq_ediv_of_nonneg _ (by exact Int.le_of_lt (Int.pow_pos (by decide)))]
 push_cast
 rfl
theorem u8_mod (n:Int):IntKind.u8.wrap n=n % 256:=rfl
theorem wbytes (v:Int):qM v=[toByte ((wn v % 256:Nat):Int),toByte ((wn v / 256 % 256:Nat):Int),toByte ((wn v / 65536 % 256:Nat):Int),toByte ((wn v / 16777216 % 256:Nat):Int)]:=by
 show[toByte (IntKind.u8.wrap (ishr .i64 (wn v:Int) ((0:Nat):Int))),toByte (IntKind.u8.wrap (ishr .i64 (wn v:Int) ((8:Nat):Int))),toByte (IntKind.u8.wrap (ishr .i64 (wn v:Int) ((16:Nat):Int))),toByte (IntKind.u8.wrap (ishr .i64 (wn v:Int) ((24:Nat):Int)))]=_
 rw[ishr_pow _ 0 (by omega),ishr_pow _ 8 (by omega),ishr_pow _ 16 (by omega),ishr_pow _ 24 (by omega),u8_mod,u8_mod,u8_mod,u8_mod,show(2:Nat) ^ 0=1 from rfl,show(2:Nat) ^ 8=256 from rfl,show(2:Nat) ^ 16=65536 from rfl,show(2:Nat) ^ 24=16777216 from rfl,Nat.div_one]
 rfl
theorem toByte_val {k:Nat} (h:k<256):((toByte (k:Int)).toNat:Int)=(k:Int):=by
 unfold toByte
 rw[Int.toNat_natCast]
 have:(UInt8.ofNat k).toNat=k:=by
  rw[UInt8.toNat_ofNat']
  exact Nat.mod_eq_of_lt h
 rw[this]
end Go.Av
end
section
namespace Go.Av
open Go
theorem u8I_w64 (b:UInt8):w64 (u8I b)=u8I b:=by
 have:=b.toNat_lt
 exact w64_id (by show(-9223372036854775808:Int)≤((b.toNat:Nat):Int);omega) (by show((b.toNat:Nat):Int)<(9223372036854775808:Int);omega)
def le4:List UInt8→Int
 |[a,b,c,d]=>u8I a+256*u8I b+65536*u8I c+16777216*u8I d
 |_=>0
theorem four {t:List UInt8} (h:t.length=4):∃a b c d,t=[a,b,c,d]:=by
 match t,h with
 |[a,b,c,d],_=>exact⟨a,b,c,d,rfl⟩
theorem of_word {t:List UInt8} (h:t.length=4):(qgx t).val=some (le4 t,true,()):=by
 obtain⟨a,b,c,d,rfl⟩:=four h
 have ha:=a.toNat_lt
 have hb:=b.toNat_lt
 have hc:=c.toNat_lt
 have hd:=d.toNat_lt
 unfold qgx
 refine(val_no rfl).trans ((val_yes rfl).trans ((val_yes rfl).trans ((val_yes rfl).trans ((val_yes rfl).trans ?_))))
 show some (bor .i64 (bor .i64 (bor .i64 (bor .i64 0 (ishl .i64 (w64 (u8I a)) 0)) (ishl .i64 (w64 (u8I b)) 8)) (ishl .i64 (w64 (u8I c)) 16)) (ishl .i64 (w64 (u8I d)) 24),true,())=some (u8I a+256*u8I b+65536*u8I c+16777216*u8I d,true,())
 rw[u8I_w64,u8I_w64,u8I_w64,u8I_w64]
 have e0:bor .i64 0 (ishl .i64 (u8I a) 0)=((a.toNat:Nat):Int):=by
  have:=bor_sm 0 a.toNat 0 (by omega) (by omega) (by omega)
  rw[Nat.pow_zero,Nat.mul_one,Nat.add_zero] at this
  exact this
 have e1:bor .i64 ((a.toNat:Nat):Int) (ishl .i64 (u8I b) 8)=((b.toNat*2 ^ 8+a.toNat:Nat):Int):=bor_sm a.toNat b.toNat 8 (by omega) (by omega) (by omega)
 have e2:bor .i64 ((b.toNat*2 ^ 8+a.toNat:Nat):Int) (ishl .i64 (u8I c) 16)=((c.toNat*2 ^ 16+(b.toNat*2 ^ 8+a.toNat):Nat):Int):=bor_sm _ c.toNat 16 (by omega) (by omega) (by omega)
 have e3:bor .i64 ((c.toNat*2 ^ 16+(b.toNat*2 ^ 8+a.toNat):Nat):Int) (ishl .i64 (u8I d) 24)=((d.toNat*2 ^ 24+(c.toNat*2 ^ 16+(b.toNat*2 ^ 8+a.toNat)):Nat):Int):=bor_sm _ d.toNat 24 (by omega) (by omega) (by omega)
 rw[e0,e1,e2,e3]
 have:((d.toNat*2 ^ 24+(c.toNat*2 ^ 16+(b.toNat*2 ^ 8+a.toNat)):Nat):Int)=u8I a+256*u8I b+65536*u8I c+16777216*u8I d:=by
  unfold u8I
  omega
 rw[this]
def atX (s:List UInt8) (k:Nat):Int:=le4 ((s.drop (4*k)).take 4)
theorem piece (s:List UInt8) (k:Nat) (hk:k<16) (hs:64≤s.length):((s.drop (4*k)).take 4).length=4∧List.drop (Int.toNat (w64 (4*(k:Int)))) (List.take (Int.toNat (w64 (w64 (4*(k:Int))+4))) s)=(s.drop (4*k)).take 4:=by
 have e1:w64 (4*(k:Int))=((4*k:Nat):Int):=by rw[w64_id (by omega) (by omega)];omega
 have e2:w64 (((4*k:Nat):Int)+4)=((4*k+4:Nat):Int):=by rw[w64_id (by omega) (by omega)];omega
 refine⟨by rw[List.length_take,List.length_drop];omega,?_⟩
 rw[e1,e2,Int.toNat_natCast,Int.toNat_natCast,List.drop_take,show 4*k+4-4*k=4 by omega]
theorem at_word (s:List UInt8) (k:Nat) (hk:k<16) (hs:64≤s.length):qC (s,(k:Int))=atX s k:=by
 obtain⟨p1,p2⟩:=piece s k hk hs
 have hg:=at_total s k hk hs
 have hT:(qfC (s,(k:Int))).val=some (atX s k):=by
  unfold qca at hg
  unfold qfC at hg ⊢
  cases hc:(decide (0≤w64 (w64 (4*(k:Int))+4))&&decide (w64 (w64 (4*(k:Int))+4)≤lenI s)&&decide (0≤w64 (4*(k:Int)))&&decide (w64 (4*(k:Int))≤w64 (w64 (4*(k:Int))+4))&&qgw (List.drop (Int.toNat (w64 (4*(k:Int)))) (List.take (Int.toNat (w64 (w64 (4*(k:Int))+4))) s))) with
  |false=>rw[val_no hc] at hg;cases hg
  |true =>
   refine(val_yes rfl).trans ?_
   show some (qhZ (List.drop (Int.toNat (w64 (4*(k:Int)))) (List.take (Int.toNat (w64 (w64 (4*(k:Int))+4))) s))).1=_
   rw[p2]
   unfold qhZ PO.getO
   rw[of_word p1]
   rfl
 unfold qC PO.getO
 rw[hT]
 rfl
theorem wb_len (v:Int):(qM v).length=4:=by rw[wbytes];rfl
theorem front_is (rs hn i o r md:Int):qy (rs,hn,(i,o,r,()),md,())=[537133056,bor .i64 rs 1,bor .i64 hn 1,bor .i64 hn 1,bor .i64 hn 1,bor .i64 hn 1,bor .i64 hn 1,i,o,r,md,bor .i64 hn 1,bor .i64 hn 1,bor .i64 hn 1,bor .i64 hn 1,bor .i64 hn 1]:=by
 kernel_rfl
theorem wn_self {n:Int} (h0:0≤n) (h1:n<4294967296):(wn n:Int)=n:=by
 rw[wn_int]
 omega
theorem le4_bytes (v:Int):le4 (qM v)=(wn v:Int):=by
 have hw:=wn_lt v
 rw[wbytes]
 show u8I (toByte _)+256*u8I (toByte _)+65536*u8I (toByte _)+16777216*u8I (toByte _)=_
 have e:∀k:Nat,k<256→u8I (toByte ((k:Nat):Int))=(k:Int):=fun k hk=>toByte_val hk
 rw[e _ (Nat.mod_lt _ (by omega)),e _ (Nat.mod_lt _ (by omega)),e _ (Nat.mod_lt _ (by omega)),e _ (Nat.mod_lt _ (by omega))]
 omega
theorem flat_at (t:List UInt8):∀(l:List Int) (k:Nat) (h:k<l.length),((l.flatMap qM++t).drop (4*k)).take 4=qM l[k]
 |[],_,h=>by cases h
 |v::l,0,_=>by
  show(((v::l).flatMap qM++t)).take 4=_
  rw[List.flatMap_cons,List.append_assoc]
  have:=wb_len v
  rw[List.take_append_of_le_length (by omega),List.take_of_length_le (by omega)]
  rfl
 |v::l,k+1,h=>by
  have ih:=flat_at t l k (by simpa using h)
  have hb:=wb_len v
  rw[List.flatMap_cons,List.append_assoc,show 4*(k+1)=(qM v).length+4*k by omega,List.drop_append,Nat.add_sub_cancel_left,List.drop_of_length_le (by omega),List.nil_append]
  exact ih
theorem flat_len:∀l:List Int,(l.flatMap qM).length=4*l.length
 |[]=>rfl
 |v::l=>by
  have:=wb_len v
  rw[List.flatMap_cons,List.length_append,flat_len l,List.length_cons]
  omega
theorem frontL_is (rs hn i o r md:Int):frontL (rs,hn,(i,o,r,()),md,())=[537133056,bor .i64 rs 1,bor .i64 hn 1,bor .i64 hn 1,bor .i64 hn 1,bor .i64 hn 1,bor .i64 hn 1,i,o,r,md,bor .i64 hn 1,bor .i64 hn 1,bor .i64 hn 1,bor .i64 hn 1,bor .i64 hn 1]:=by
 unfold frontL
 rw[front_is]
 rfl
theorem headB_len (hd:tHead.den):(headB hd).length=64:=flat_len (frontL hd)
theorem bor_one {n:Int} (h:0≤n∧n<4294967296) (he:n % 2=0):bor .i64 n 1=n+1:=by
 obtain⟨m,rfl⟩:=Int.eq_ofNat_of_zero_le h.1
 have hb:=bor_natM (a:=m) (b:=1) (by omega) (by omega)
 have:m |||1=m+1:=by
  have e:m=2*(m / 2):=by omega
  have e2:=Nat.two_pow_add_eq_or_of_lt (i:=1) (b:=1) (by omega) (m / 2)
  rw[Nat.pow_one,←e] at e2
  exact e2.symm
 rw[this] at hb
 exact hb
theorem parse_built (hn o r:Int) (code:List UInt8) (h1:64≤hn∧hn<4294967296) (h2:hn % 2=0) (ho:0≤o∧o<4294967296) (hr:0≤r∧r<4294967296)
  (hc:qO ((64,hn,(0,o,r,()),0,()),lenI (headB (64,hn,(0,o,r,()),0,())++code))=0) :
  parseX (headB (64,hn,(0,o,r,()),0,())++code)=((64,hn,(0,o,r,()),0,()),0,()):=by
 have hlen:64≤(headB (64,hn,(0,o,r,()),0,())++code).length:=by
  rw[List.length_append,headB_len]
  omega
 have hF:=frontL_is 64 hn 0 o r 0
 have e64:bor .i64 64 1=65:=by decide
 have ehn:bor .i64 hn 1=hn+1:=bor_one ⟨by omega,h1.2⟩ h2
 rw[e64,ehn] at hF
 have hat:∀(k:Nat) (hk:k<16),qC (headB (64,hn,(0,o,r,()),0,())++code,(k:Int))=(wn (([537133056,65,hn+1,hn+1,hn+1,hn+1,hn+1,0,o,r,0,hn+1,hn+1,hn+1,hn+1,hn+1]:List Int)[k]'hk):Int):=fun k hk=>by
  rw[at_word _ k hk hlen]
  unfold atX headB
  rw[hF]
  have:=flat_at code [537133056,65,hn+1,hn+1,hn+1,hn+1,hn+1,0,o,r,0,hn+1,hn+1,hn+1,hn+1,hn+1] k hk
  rw[this,le4_bytes]
 generalize hs:headB (64,hn,(0,o,r,()),0,())++code=s at *
 have whn:(wn (hn+1):Int)=hn+1:=wn_self (by omega) (by omega)
 have a1:qC (s,1)=65:=hat 1 (by omega)
 have a3:qC (s,3)=hn+1:=(hat 3 (by omega)).trans whn
 have a7:qC (s,7)=0:=hat 7 (by omega)
 have a8:qC (s,8)=o:=(hat 8 (by omega)).trans (wn_self ho.1 ho.2)
 have a9:qC (s,9)=r:=(hat 9 (by omega)).trans (wn_self hr.1 hr.2)
 have a10:qC (s,10)=0:=hat 10 (by omega)
 have hh:headX s=(64,hn,(0,o,r,()),0,()):=by
  unfold headX
  rw[a1,a3,a7,a8,a9,a10,w64_id (n:=hn+1-1) (by omega) (by omega)]
  have:hn+1-1=hn:=by omega
  rw[this]
  rfl
 unfold parseX
 rw[hh,hc,dec_false (show ¬lenI s<64 by simp only[lenI];omega)]
 have hall:(List.range' 0 16).all (wordIs s (qy (64,hn,(0,o,r,()),0,())))=true:=by
  rw[front_is,e64,ehn,List.all_eq_true]
  intro k hk
  have hk16:k<16:=by
   have:=(List.mem_range'_1.1 hk).2
   omega
  unfold wordIs
  rw[hat k hk16,Int.toNat_natCast]
  have hg:List.getD [537133056,65,hn+1,hn+1,hn+1,hn+1,hn+1,0,o,r,0,hn+1,hn+1,hn+1,hn+1,hn+1] k (Ty.dflt (.int .i64))=[537133056,65,hn+1,hn+1,hn+1,hn+1,hn+1,0,o,r,0,hn+1,hn+1,hn+1,hn+1,hn+1][k]'hk16:=getD_in (α:=Int) _ _ hk16
  rw[hg]
  have hv:∀x∈([537133056,65,hn+1,hn+1,hn+1,hn+1,hn+1,0,o,r,0,hn+1,hn+1,hn+1,hn+1,hn+1]:List Int),(wn x:Int)=x:=by
   intro x hx
   simp only[List.mem_cons,List.not_mem_nil,or_false] at hx
   rcases hx with rfl |rfl |rfl |rfl |rfl |rfl |rfl |rfl |rfl |rfl |rfl |rfl |rfl |rfl |rfl |rfl<;>exact wn_self (by omega) (by omega)
  rw[hv _ (List.getElem_mem hk16)]
  simp
 rw[hall]
 rfl
end Go.Av
end
section
namespace Go.Av
open Go
def atF (h:Int) (acc:Int) (p:tPlace.den):Int:=bif p.1==h then p.2.1 else acc
theorem places_fold {it:List tItem.den} (ws:List Bool) {h:Int} (hn:(labsL it).Nodup) {k:Nat} (hk:k<it.length) (hl:isLab it h k=true) (z:Int):∀n,n≤it.length→(placesTo it 64 ws n).foldl (atF h) z=if k<n then posI it 64 ws k else z
 |0,_=>rfl
 |n+1,hn'=>by
  have ih:=places_fold ws hn hk hl z n (by omega)
  rw[placesTo]
  cases h1:((itemAt it n).1==(1:Int))
  ·simp only[cond_false]
   rw[ih]
   have:k≠n:=fun e=>by
    subst e
    unfold isLab at hl
    rw[h1] at hl
    cases hl
   by_cases c:k<n
   ·rw[if_pos c,if_pos (by omega)]
   ·rw[if_neg c,if_neg (by omega)]
  ·simp only[cond_true]
   rw[List.foldl_append,ih]
   show atF h _ ((itemAt it n).2.1,posI it 64 ws n,())=_
   unfold atF
   cases h2:((itemAt it n).2.1==h)
   ·have:k≠n:=fun e=>by
     subst e
     unfold isLab at hl
     rw[h1,Bool.true_and,h2] at hl
     cases hl
    simp only[cond_false]
    by_cases c:k<n
    ·rw[if_pos c,if_pos (by omega)]
    ·rw[if_neg c,if_neg (by omega)]
   ·have:k=n:=labs_uniq hn hk (by omega) hl (by unfold isLab;rw[h1,h2];rfl)
    subst this
    simp only[cond_true]
    rw[if_pos (by omega)]
theorem mcheck_ok (o r n:Nat) (ho:o≤65536) (h4:o % 4=0) (hr:4≤r∧r≤65536) (hr4:r % 4=0) (hn:n≤262144):qJ (((0:Int),(o:Int),(r:Int),()),(n:Int))=0:=by
 have a1:Int.tmod (o:Int) 4=0:=by rw[Int.tmod_eq_emod_of_nonneg (by omega)];omega
 have a2:Int.tmod (r:Int) 4=0:=by rw[Int.tmod_eq_emod_of_nonneg (by omega)];omega
 have a0:Int.tmod (0:Int) 4=0:=rfl
 unfold qJ qd7 PO.getO
 simp only[PO.val,a0,a1,a2]
 rw[dec_false (show ¬((o:Nat):Int)<0 by omega),dec_false (show ¬((r:Nat):Int)<0 by omega)]
 rw[dec_false (show ¬((n:Nat):Int)<0 by omega),dec_false (show ¬((r:Nat):Int)<4 by omega),dec_false (show ¬((n:Nat):Int) > 262144 by omega),dec_false (show ¬((o:Nat):Int) > 65536 by omega),dec_false (show ¬((r:Nat):Int) > 65536 by omega)]
 rfl
theorem imgcheck_ok (hn:Int) (o r n:Nat) (ho:o≤65536) (h4:o % 4=0) (hr:4≤r∧r≤65536) (hr4:r % 4=0) (hn1:n≤262144) (hn2:64<n) (h1:64≤hn∧hn<n) (h2:hn % 2=0):qO ((64,hn,((0:Int),(o:Int),(r:Int),()),0,()),(n:Int))=0:=by
 have hm:=mcheck_ok o r n ho h4 hr hr4 hn1
 have p:∀a:Int,64≤a→a<n→a % 2=0→qb4 (a,(n:Int))=true:=fun a x1 x2 x3=>by
  show(decide (a≥64)&&(decide (a<(n:Int))&&band .i64 a 1==0))=true
  rw[band_one,x3,dec_true (show a≥64 from x1),dec_true x2]
  rfl
 unfold qO qex PO.getO
 simp only[PO.val,hm,p 64 (by omega) (by omega) (by omega),p hn h1.1 h1.2 h2]
 rfl
structure IsImg (it:List tItem.den) (o r:Nat) (k:Nat) (img:List UInt8) (hd:tHead.den) (adr:Nat→Int):Prop where
 parse:parseX img=(hd,0,())
 head:hd=(64,hd.2.1,((0:Int),(o:Int),(r:Int),()),0,())
 prg:PrgOk hd img ⟨prgTo it it.length,o,r,img.length,cntI it k⟩ adr
 zero:adr 0=64
theorem item_even (it:List tItem.den) (ws:List Bool) (i:Nat):posI it 64 ws i % 2=0:=by
 have h:=pos_even it 64 ws i 0
 have h0:posI it 64 ws 0=64:=rfl
 omega
theorem pos_lt {it:List tItem.den} {ws:List Bool} (hn:it.length≤21000) (hf:AsmFine it 64) (hp:(passTo it 64 ws it.length).1=false) {i k:Nat} (_:i≤k) (hk:k≤it.length) (hc:cntI it i<cntI it k):posI it 64 ws i<posI it 64 ws k:=by
 obtain⟨m,m1,m2,m3⟩:=cnt_inv it hc
 have him:i≤m:=by
  rcases Nat.lt_or_ge m i with h |h
  ·have:=cnt_mono it (show m+1≤i by omega)
   rw[cntI,m2,cond_false] at this
   omega
  ·exact h
 have h1:=pos_mono it 64 ws him
 have h2:=pos_mono it 64 ws (show m+1≤k by omega)
 have h3:=ins_len it 64 ws hn hf hp (show m<it.length by omega) m2
 have h4:=encB_len _ (ins_ok it 64 ws hn hf hp (show m<it.length by omega) m2)
 have h5:posI it 64 ws (m+1)=posI it 64 ws m+sizeJ (itemAt it m) (wd ws m):=rfl
 omega
end Go.Av
end
section
namespace Go.Av
open Go
def wOf (o r n:Nat) (y:MemT) (a:Nat):Nat:=match regR o r n a with
 |some j=>(leV ((y.2.drop (posM y j (a:Int))).take 4)).toNat
 |none=>0
theorem wOf_mw {o r n:Nat} (hs:SzOk o r n) {y:MemT} (hw:MemWf y) (h1:y.1.1=rgsW o r n) (h2:y.1.2.1=winsOf 0 (rgsW o r n)):MW o r n y (wOf o r n y):=by
 refine⟨hw,h1,h2,fun a j hj=>?_⟩
 unfold wOf
 rw[hj]
 have hf:findX (a:Int) 4 false y.1.1=some j:=by rw[h1];exact regR_find hs hj
 obtain⟨_,_,_,_,q5,_,_⟩:=acc_ok hw hf (.inr rfl)
 have:=leV_lt ((y.2.drop (posM y j (a:Int))).take 4) (fun b hb=>hw.bytes b (List.mem_of_mem_drop (List.mem_of_mem_take hb))) (by
  rw[List.length_take,List.length_drop]
  have:posM y j (a:Int)+4≤y.2.length:=q5
  omega)
 show leV _=(((leV _).toNat:Nat):Int)
 omega
def beginS (o r n:Nat) (img:List UInt8):IS:=(fun k=>wn (rg (List.set (List.set [0,0,0,0,0,0,0,0,0,0,0,0,0,0,0] 13 537133056) 14 (qby 0)) k),(false,false,false,false,()),wOf o r n (newM (rgsW o r n) img []))
end Go.Av
end
section
namespace Go.Av
open Go
def GoTo (E:Env) (k c j:Nat) (s:IS) (j':Nat) (s':IS):Prop:=goN E k (false,j,s)=(k,c,false,j',s')
def Ends (E:Env) (k c j:Nat) (s:IS) (j':Nat) (s':IS):Prop:=goN E k (false,j,s)=(k,c,true,j',s')
theorem GoTo.refl (E:Env) (j:Nat) (s:IS):GoTo E 0 0 j s j s:=rfl
theorem GoTo.trans {E:Env} {k c j k' c' j' j'':Nat} {s s' s'':IS} (h:GoTo E k c j s j' s') (h':GoTo E k' c' j' s' j'' s''):GoTo E (k+k') (c+c') j s j'' s'':=by
 unfold GoTo at *
 rw[goN_add,h,h']
theorem GoTo.ends {E:Env} {k c j k' c' j' j'':Nat} {s s' s'':IS} (h:GoTo E k c j s j' s') (h':Ends E k' c' j' s' j'' s''):Ends E (k+k') (c+c') j s j'' s'':=by
 unfold GoTo Ends at *
 rw[goN_add,h,h']
theorem go_one {E:Env} {j j':Nat} {s s':IS} (h:stepI E false j s=(false,j',s')):GoTo E 1 (bif j==E.h then 1 else 0) j s j' s':=by
 show((goN E 0 (stepI E false j s)).1+1,(bif j==E.h then 1 else 0)+(goN E 0 (stepI E false j s)).2.1,(goN E 0 (stepI E false j s)).2.2)=_
 rw[h]
 rfl
theorem go_cons {E:Env} {k c j j1 j':Nat} {s s1 s':IS} (h:stepI E false j s=(false,j1,s1)) (hj:j≠E.h) (h':GoTo E k c j1 s1 j' s'):GoTo E (k+1) c j s j' s':=by
 have:=(go_one h).trans h'
 rw[beq_eq_false_iff_ne.2 hj] at this
 rw[Nat.add_comm k 1]
 simpa using this
theorem step_op {E:Env} {j:Nat} {i:tIns.den} (h:E.P[j]?=some (.op i)) (s:IS):stepI E false j s=doI E j i s:=by
 unfold stepI
 rw[h]
 rfl
theorem step_br {E:Env} {j t:Nat} {o c:Int} (h:E.P[j]?=some (.br o c t)) (s:IS):stepI E false j s=bif goesF s.2.1 o c then(false,t,s) else(false,j+1,s):=by
 unfold stepI
 rw[h]
 rfl
theorem step_b {E:Env} {j t:Nat} (h:E.P[j]?=some (.br 24 0 t)) (s:IS):stepI E false j s=(false,t,s):=step_br h s
theorem wn_cast (m:Nat) (h:m<4294967296):wn ((m:Nat):Int)=m:=wn_nat h
theorem insN_16 (d i:Nat):insN d i 16 16=i % 65536*65536+d % 65536+d / 4294967296*4294967296:=by
 unfold insN
 rw[show(2:Nat) ^ 16=65536 from rfl,show(2:Nat) ^ (16+16)=4294967296 from rfl]
 omega
theorem do_movt (E:Env) (j:Nat) (rd imm:Int) (s:IS) (hd:s.1 rd<4294967296):doI E j (insI 4 rd 0 0 0 imm 0) s=(false,j+1,updR s.1 rd (wn imm % 65536*65536+s.1 rd % 65536),s.2):=by
 show(false,j+1,updR s.1 rd (wn ((insN (wn ((s.1 rd:Nat):Int)) (wn imm) 16 16:Nat):Int)),s.2)=_
 have h1:wn imm % 65536<65536:=Nat.mod_lt _ (by omega)
 have h2:s.1 rd % 65536<65536:=Nat.mod_lt _ (by omega)
 have h3:wn imm % 65536*65536+s.1 rd % 65536<4294967296:=by
  generalize wn imm % 65536=x at *
  generalize s.1 rd % 65536=y at *
  omega
 have e:insN (s.1 rd) (wn imm) 16 16=wn imm % 65536*65536+s.1 rd % 65536:=by
  rw[insN_16,Nat.div_eq_of_lt hd,Nat.zero_mul,Nat.add_zero]
 rw[wn_cast _ hd,e,wn_cast _ h3]
theorem goes_eqF (a b:Nat):goesF (cmpF a b) 25 0=(a==b):=by
 unfold goesF holdsF cmpF
 show((a==b)==true)=_
 cases (a==b)<;>rfl
theorem goes_neF (a b:Nat):goesF (cmpF a b) 25 1=(a != b):=by
 unfold goesF holdsF cmpF
 show((a==b)==false)=(!(a==b))
 cases (a==b)<;>rfl
theorem lo_val (n:Int):wn (lo false n)=wn n % 65536:=by
 show wn (band .i64 n 65535)=_
 rw[band_16]
 unfold wn
 omega
theorem hi_val (n:Int):wn (hi false n)=wn n / 65536:=by
 show wn (band .i64 (ishr .i64 n 16) 65535)=_
 rw[ishr_16,band_16]
 unfold wn
 omega
theorem lo_in (n:Int):0≤lo false n∧lo false n≤65535:=by
 show 0≤band .i64 n 65535∧band .i64 n 65535≤65535
 rw[band_16]
 omega
theorem hi_in (n:Int):0≤hi false n∧hi false n≤65535:=by
 show 0≤band .i64 (ishr .i64 n 16) 65535∧band .i64 (ishr .i64 n 16) 65535≤65535
 rw[band_16]
 omega
def cfTo (E:Env) (stop:Nat→Bool):Nat→Nat→Bool
 |0,j=>stop j
 |n+1,j=>stop j||(match E.P[j]? with
  |none=>cfTo E stop n E.h
  |some (.op i)=>!(i.1==2)&&(cfTo E stop n (j+1)&&(bif i.1==19||i.1==20 then cfTo E stop n E.h else true))
  |some (.br o _ t)=>cfTo E stop n t&&(bif o==24 then true else cfTo E stop n (j+1)))
theorem cf_ok {E:Env} {stop:Nat→Bool} (hh:stop E.h=true):∀(n j:Nat) (s:IS),cfTo E stop n j=true→∃k j' s',k≤n∧GoTo E k 0 j s j' s'∧stop j'=true
 |0,j,s,h=>⟨0,j,s,Nat.le_refl _,GoTo.refl E j s,h⟩
 |n+1,j,s,h=>by
  cases hs:stop j with
  |true=>exact⟨0,j,s,Nat.zero_le _,GoTo.refl E j s,hs⟩
  |false =>
   have hj:j≠E.h:=fun e=>by rw[e,hh] at hs;cases hs
   simp only[cfTo,hs,Bool.false_or] at h
   have on:∀j1 s1,stepI E false j s=(false,j1,s1)→cfTo E stop n j1=true→∃k j' s',k≤n+1∧GoTo E k 0 j s j' s'∧stop j'=true:=fun j1 s1 e hc=>by
    obtain⟨k,j',s',h1,h2,h3⟩:=cf_ok hh n j1 s1 hc
    exact⟨k+1,j',s',by omega,go_cons e hj h2,h3⟩
   cases hp:E.P[j]? with
   |none =>
    rw[hp] at h
    exact on E.h s (by unfold stepI;rw[hp]) h
   |some p =>
    rw[hp] at h
    cases p with
    |op i =>
     simp only[Bool.and_eq_true,Bool.not_eq_true'] at h
     obtain⟨h2,h1,h3⟩:=h
     have e:=step_op hp s
     unfold doI at e
     rw[h2,cond_false] at e
     cases e19:(i.1==(19:Int))
     ·rw[e19,cond_false] at e
      cases e20:(i.1==(20:Int))
      ·rw[e20,cond_false] at e
       cases e23:(i.1==(23:Int))
       ·rw[e23,cond_false] at e
        exact on _ _ e h1
       ·rw[e23,cond_true] at e
        exact on _ _ e h1
      ·rw[e20,cond_true] at e
       rw[e19,e20] at h3
       cases ho:E.okW (s.1 i.2.2.1)
       ·rw[ho] at e
        exact on _ _ e h3
       ·rw[ho] at e
        exact on _ _ e h1
     ·rw[e19,cond_true] at e
      rw[e19] at h3
      cases ho:E.okR (s.1 i.2.2.1)
      ·rw[ho] at e
       exact on _ _ e h3
      ·rw[ho] at e
       exact on _ _ e h1
    |br o c t =>
     simp only[Bool.and_eq_true] at h
     obtain⟨h1,h3⟩:=h
     have e:=step_br hp s
     cases hg:goesF s.2.1 o c
     ·rw[hg,cond_false] at e
      have ho:(o==(24:Int))=false:=by
       cases ho:(o==(24:Int))
       ·rfl
       ·unfold goesF at hg
        rw[ho] at hg
        cases hg
      rw[ho,cond_false] at h3
      exact on _ _ e h3
     ·rw[hg,cond_true] at e
      exact on _ _ e h1
def shiftP (m:Nat):PI→PI
 | .op i=>.op i
 | .br o c t=>.br o c (m+t)
def shiftO (m:Nat) (q:IO3):IO3:=(q.1,m+q.2.1,q.2.2)
structure Part (E E':Env) (m:Nat):Prop where
 prg:∀j,E.P[m+j]?=(E'.P[j]?).map (shiftP m)
 o:E.o=E'.o
 r:E.r=E'.r
 n:E.n=E'.n
 h:E.h=m+E'.h
theorem part_step {E E':Env} {m:Nat} (hp:Part E E' m) (skip:Bool) (j:Nat) (s:IS):stepI E skip (m+j) s=shiftO m (stepI E' skip j s):=by
 have hR:∀a,E.okR a=E'.okR a:=fun a=>by unfold Env.okR;rw[hp.o,hp.r,hp.n]
 have hW:∀a,E.okW a=E'.okW a:=fun a=>by unfold Env.okW;rw[hp.o,hp.r]
 unfold stepI
 rw[hp.prg j]
 cases hq:E'.P[j]? with
 |none =>
  show(false,E.h,s)=shiftO m (false,E'.h,s)
  rw[hp.h]
  rfl
 |some p =>
  cases skip
  ·show atI E (m+j) s (shiftP m p)=shiftO m (atI E' j s p)
   cases p with
   |op i =>
    show doI E (m+j) i s=shiftO m (doI E' j i s)
    unfold doI
    cases (i.1==(2:Int))
    ·cases (i.1==(19:Int))
     ·cases (i.1==(20:Int))
      ·cases (i.1==(23:Int))<;>rfl
      ·simp only[cond_true,cond_false]
       rw[hW,hp.h]
       cases E'.okW (s.1 i.2.2.1)<;>rfl
     ·simp only[cond_true,cond_false]
      rw[hR,hp.h]
      cases E'.okR (s.1 i.2.2.1)<;>rfl
    ·rfl
   |br o c t =>
    show(bif goesF s.2.1 o c then(false,m+t,s) else(false,m+j+1,s))=shiftO m (bif goesF s.2.1 o c then(false,t,s) else(false,j+1,s))
    cases goesF s.2.1 o c<;>rfl
  ·rfl
theorem part_go {E E':Env} {m:Nat} (hp:Part E E' m):∀(n:Nat) (b:Bool) (j:Nat) (s:IS),goN E n (b,m+j,s)=((goN E' n (b,j,s)).1,(goN E' n (b,j,s)).2.1,shiftO m (goN E' n (b,j,s)).2.2)
 |0,_,_,_=>rfl
 |n+1,true,_,_=>rfl
 |n+1,false,j,s=>by
  have hs:=part_step hp false j s
  rw[goN,goN]
  simp only[cond_false]
  rw[hs]
  have ih:=part_go hp n (stepI E' false j s).1 (stepI E' false j s).2.1 (stepI E' false j s).2.2
  have e:shiftO m (stepI E' false j s)=((stepI E' false j s).1,m+(stepI E' false j s).2.1,(stepI E' false j s).2.2):=rfl
  rw[e,ih]
  have eh:(m+j==E.h)=(j==E'.h):=by
   rw[hp.h,Bool.eq_iff_iff,beq_iff_eq,beq_iff_eq]
   omega
  rw[eh]
theorem part_goI {E E':Env} {m:Nat} (hp:Part E E' m) (f:tFault.den):∀(n:Nat) (k:Int) (b:Bool) (j:Nat) (s:IS),goI E f n k (b,m+j,s)=((goI E' f n k (b,j,s)).1,(goI E' f n k (b,j,s)).2.1,shiftO m (goI E' f n k (b,j,s)).2.2)
 |0,_,_,_,_=>rfl
 |n+1,_,true,_,_=>rfl
 |n+1,k,false,j,s=>by
  have hs:=part_step hp ((nowX f k).1==(1:Int)) j (hitI (nowX f k) s)
  rw[goI,goI]
  simp only[cond_false]
  rw[hs]
  have ih:=part_goI hp f n (k+1) (stepI E' ((nowX f k).1==(1:Int)) j (hitI (nowX f k) s)).1 (stepI E' ((nowX f k).1==(1:Int)) j (hitI (nowX f k) s)).2.1 (stepI E' ((nowX f k).1==(1:Int)) j (hitI (nowX f k) s)).2.2
  have e:∀q:IO3,shiftO m q=(q.1,m+q.2.1,q.2.2):=fun _=>rfl
  rw[e (stepI E' ((nowX f k).1==(1:Int)) j (hitI (nowX f k) s)),ih]
  have eh:(m+j==E.h)=(j==E'.h):=by
   rw[hp.h,Bool.eq_iff_iff,beq_iff_eq,beq_iff_eq]
   omega
  rw[eh]
theorem strip_shift (m:Nat) (f:Int→Nat):∀l:List tItem.den,stripL (fun x=>m+f x) l=(stripL f l).map (shiftP m)
 |[]=>rfl
 |j::l=>by
  rw[stripL,stripL,strip_shift m f l]
  cases (j.1==(1:Int))
  ·simp only[cond_false,List.map_cons]
   congr 1
   unfold piL
   cases (j.1==(2:Int))<;>rfl
  ·rfl
theorem part_of {pre H:List tItem.den} (hI:ItOk (pre++H)) (hpre:∀j∈pre,(j.1==(0:Int))=true) (o r n h:Nat):Part ⟨prgTo (pre++H) (pre++H).length,o,r,n,pre.length+h⟩ ⟨stripL (fun l=>cntL l H) H,o,r,n,h⟩ pre.length:=by
 refine⟨fun j=>?_,rfl,rfl,rfl,rfl⟩
 show(prgTo (pre++H) (pre++H).length)[pre.length+j]?=_
 have hp1:∀j∈pre,(j.1==(1:Int))=false:=fun j hj=>by
  have:=hpre j hj
  have:j.1=(0:Int):=by simpa using this
  rw[this]
  rfl
 have e:(fun l=>cntL l (pre++H))=fun l=>pre.length+cntL l H:=funext fun l=>cntL_pre l pre H hp1
 rw[prg_strip hI,e,strip_pre _ _ _ hpre,strip_shift]
 have hl:(List.map (fun j:tItem.den=>PI.op j.2.2.1) pre).length=pre.length:=List.length_map ..
 rw[List.getElem?_append_right (by omega),hl,Nat.add_sub_cancel_left,List.getElem?_map]
end Go.Av
end
section
namespace Go.Av
open Go
def exec1 (E:Env) (i:tIns.den) (s:IS):Option IS :=
 bif i.1==2 then none
 else bif i.1==19 then(bif E.okR (s.1 i.2.2.1) then some (updR s.1 i.2.1 (s.2.2 (s.1 i.2.2.1)),s.2) else none)
 else bif i.1==20 then(bif E.okW (s.1 i.2.2.1) then some (s.1,s.2.1,updW s.2.2 (s.1 i.2.2.1) (s.1 i.2.1)) else none)
 else bif i.1==23 then some (s.1,cmpF (s.1 i.2.2.1) (s.1 i.2.2.2.1),s.2.2)
 else some (stepR s.1 i,s.2)
theorem exec1_do {E:Env} {i:tIns.den} {s s':IS} (h:exec1 E i s=some s') (j:Nat):doI E j i s=(false,j+1,s'):=by
 unfold exec1 at h
 unfold doI
 cases h2:(i.1==(2:Int))
 ·rw[h2,cond_false] at h
  cases h19:(i.1==(19:Int))
  ·rw[h19,cond_false] at h
   cases h20:(i.1==(20:Int))
   ·rw[h20,cond_false] at h
    cases h23:(i.1==(23:Int))
    ·rw[h23,cond_false] at h
     cases h
     rfl
    ·rw[h23,cond_true] at h
     cases h
     rfl
   ·rw[h20,cond_true] at h
    cases ho:E.okW (s.1 i.2.2.1)
    ·rw[ho] at h;cases h
    ·rw[ho,cond_true] at h
     cases h
     simp only[cond_true,cond_false]
  ·rw[h19,cond_true] at h
   cases ho:E.okR (s.1 i.2.2.1)
   ·rw[ho] at h;cases h
   ·rw[ho,cond_true] at h
    cases h
    simp only[cond_true,cond_false]
 ·rw[h2] at h
  cases h
def execL (E:Env):List tIns.den→IS→Option IS
 |[],s=>some s
 |i::l,s=>(exec1 E i s).bind (execL E l)
theorem execL_app (E:Env):∀(a b:List tIns.den) (s:IS),execL E (a++b) s=(execL E a s).bind (execL E b)
 |[],_,_=>rfl
 |i::a,b,s=>by
  show(exec1 E i s).bind (execL E (a++b))=((exec1 E i s).bind (execL E a)).bind (execL E b)
  cases exec1 E i s with
  |none=>rfl
  |some s1=>exact execL_app E a b s1
theorem execL_go {E:Env}:∀(l:List tIns.den) (j:Nat) (s s':IS),(∀i,i<l.length→E.P[j+i]?=(l[i]?).map .op)→(∀i,i<l.length→j+i≠E.h)→execL E l s=some s'→GoTo E l.length 0 j s (j+l.length) s'
 |[],j,s,s',_,_,h=>by
  cases h
  exact GoTo.refl E j s
 |i::l,j,s,s',hP,hh,h=>by
  have h:(exec1 E i s).bind (execL E l)=some s':=h
  cases h1:exec1 E i s with
  |none=>rw[h1] at h;cases h
  |some s1 =>
   rw[h1] at h
   have hp0:E.P[j]?=some (.op i):=hP 0 (by simp)
   have hj:j≠E.h:=hh 0 (by simp)
   have ih:=execL_go l (j+1) s1 s' (fun m hm=>by
    have:=hP (m+1) (by simpa using hm)
    rw[show j+(m+1)=j+1+m by omega] at this
    simpa using this) (fun m hm=>by
    have:=hh (m+1) (by simpa using hm)
    rw[show j+(m+1)=j+1+m by omega] at this
    exact this) h
   have:=go_cons (by rw[step_op hp0,exec1_do h1]) hj ih
   rw[show(i::l).length=l.length+1 from rfl,show j+(l.length+1)=j+1+l.length by omega]
   exact this
theorem word_at (E:Env) (rd n:Int) (s:IS):∃ρ',execL E [insI 3 rd 0 0 0 (lo false n) 0,insI 4 rd 0 0 0 (hi false n) 0] s=some (ρ',s.2)∧ρ' rd=wn n∧∀k,k≠rd→ρ' k=s.1 k:=by
 have hn:=wn_lt n
 refine⟨updR (updR s.1 rd (wn (lo false n))) rd (wn n),?_,updR_same _ _ _,fun k hk=>by rw[updR_other _ _ hk,updR_other _ _ hk]⟩
 show some (stepR (updR s.1 rd (wn (lo false n))) (insI 4 rd 0 0 0 (hi false n) 0),s.2)=_
 have:=do_movt E 0 rd (hi false n) (updR s.1 rd (wn (lo false n)),s.2) (by
  show updR s.1 rd (wn (lo false n)) rd<_
  rw[updR_same]
  exact wn_lt _)
 have e:stepR (updR s.1 rd (wn (lo false n))) (insI 4 rd 0 0 0 (hi false n) 0)=updR (updR s.1 rd (wn (lo false n))) rd (wn n):=by
  have h1:(stepR (updR s.1 rd (wn (lo false n))) (insI 4 rd 0 0 0 (hi false n) 0))=updR (updR s.1 rd (wn (lo false n))) rd (wn (hi false n) % 65536*65536+(updR s.1 rd (wn (lo false n)) rd) % 65536):=congrArg (fun q=>q.2.2.1) this
  rw[h1,updR_same,lo_val,hi_val]
  congr 1
  omega
 rw[e]
end Go.Av
end
section
namespace Go.Av
open Go
theorem opK_mov (op rd imm:Int) (ho:op=3∨op=4) (hd:0≤rd∧rd≤12) (hi:0≤imm∧imm≤65535):opK (insI op rd 0 0 0 imm 0)=true:=by
 have e:∀b:Bool,b=true→(bw rd 0 12&&(true&&(true&&(true&&bw imm 0 65535))))=b→True:=fun _ _ _=>trivial
 have h1:bw rd 0 12=true:=by unfold bw;rw[Bool.and_eq_true];exact⟨decide_eq_true hd.1,decide_eq_true hd.2⟩
 have h2:bw imm 0 65535=true:=by unfold bw;rw[Bool.and_eq_true];exact⟨decide_eq_true hi.1,decide_eq_true hi.2⟩
 rcases ho with rfl |rfl
 ·show((!false&&(true&&(bw rd 0 12&&(true&&(true&&(true&&bw imm 0 65535))))))&&true)=true
  rw[h1,h2]
  rfl
 ·show((!false&&(true&&(bw rd 0 12&&(true&&(true&&(true&&bw imm 0 65535))))))&&true)=true
  rw[h1,h2]
  rfl
theorem opK_lo (rd n:Int) (hd:0≤rd∧rd≤12):opK (insI 3 rd 0 0 0 (lo false n) 0)=true:=opK_mov 3 rd _ (.inl rfl) hd (lo_in n)
theorem opK_hi (rd n:Int) (hd:0≤rd∧rd≤12):opK (insI 4 rd 0 0 0 (hi false n) 0)=true:=opK_mov 4 rd _ (.inr rfl) hd (hi_in n)
theorem labsL_pre:∀(pre:List tIns.den) (H:List tItem.den),labsL (its pre++H)=labsL H
 |[],_=>rfl
 |_::pre,H=>labsL_pre pre H
theorem itok_pre {pre:List tIns.den} {H:List tItem.den} (hpre:∀i∈pre,opK i=true) (hH:H.all (jOk (labsL H))=true) (hn:(labsL H).Nodup) (hlen:pre.length+H.length≤21000):ItOk (its pre++H):=by
 refine⟨by rw[List.length_append];unfold its;rw[List.length_map];exact hlen,fun j hj=>?_,by rw[labsL_pre];exact hn⟩
 rw[labsL_pre]
 rcases List.mem_append.1 hj with h |h
 ·obtain⟨i,hi,rfl⟩:=List.mem_map.1 h
  have:=hpre i hi
  show(bif (0:Int)==0 then opK i else _)=true
  exact this
 ·exact List.all_eq_true.1 hH j h
theorem its_kind0 (pre:List tIns.den):∀j∈its pre,(j.1==(0:Int))=true:=fun j hj=>by
 obtain⟨i,_,rfl⟩:=List.mem_map.1 hj
 rfl
def handH (o r:Nat) (tw:Bool):List tItem.den:=handL false (lab false 1) ((0:Int),(o:Int),(r:Int),()) tw 0
def handP (o r:Nat) (tw:Bool):List PI:=stripL (fun l=>cntL l (handH o r tw)) (handH o r tw)
def handE (o r n:Nat) (tw:Bool):Env:=⟨handP o r tw,o,r,n,0⟩
structure WLoop (E:Env) (p:Nat) (base n:Int):Prop where
 i0:E.P[p]?=some (.op (insI 3 1 0 0 0 0 0))
 i1:E.P[p+1]?=some (.op (insI 3 2 0 0 0 (lo false n) 0))
 i2:E.P[p+2]?=some (.op (insI 4 2 0 0 0 (hi false n) 0))
 i3:E.P[p+3]?=some (.op (insI 23 0 1 2 0 0 0))
 i4:E.P[p+4]?=some (.br 25 2 (p+14))
 i5:E.P[p+5]?=some (.op (insI 3 0 0 0 0 0 0))
 i6:E.P[p+6]?=some (.op (insI 3 5 0 0 0 0 0))
 i7:E.P[p+7]?=some (.op (insI 4 5 0 0 0 (hi false base) 0))
 i8:E.P[p+8]?=some (.op (insI 18 5 1 0 16 0 0))
 i9:E.P[p+9]?=some (.op (insI 20 0 5 0 0 0 0))
 i10:E.P[p+10]?=some (.op (insI 3 3 0 0 0 4 0))
 i11:E.P[p+11]?=some (.op (insI 14 4 1 3 0 0 0))
 i12:E.P[p+12]?=some (.op (insI 5 1 0 4 0 0 0))
 i13:E.P[p+13]?=some (.br 24 0 (p+1))
 hb:E.h<p
structure LLoop (E:Env) (p:Nat) (base n:Int):Prop where
 i0:E.P[p]?=some (.op (insI 3 1 0 0 0 0 0))
 i1:E.P[p+1]?=some (.op (insI 3 2 0 0 0 (lo false n) 0))
 i2:E.P[p+2]?=some (.op (insI 4 2 0 0 0 (hi false n) 0))
 i3:E.P[p+3]?=some (.op (insI 23 0 1 2 0 0 0))
 i4:E.P[p+4]?=some (.br 25 2 (p+16))
 i5:E.P[p+5]?=some (.op (insI 3 5 0 0 0 0 0))
 i6:E.P[p+6]?=some (.op (insI 4 5 0 0 0 (hi false base) 0))
 i7:E.P[p+7]?=some (.op (insI 18 5 1 0 16 0 0))
 i8:E.P[p+8]?=some (.op (insI 19 0 5 0 0 0 0))
 i9:E.P[p+9]?=some (.op (insI 3 2 0 0 0 0 0))
 i10:E.P[p+10]?=some (.op (insI 23 0 0 2 0 0 0))
 i11:E.P[p+11]?=some (.br 25 1 E.h)
 i12:E.P[p+12]?=some (.op (insI 3 3 0 0 0 4 0))
 i13:E.P[p+13]?=some (.op (insI 14 4 1 3 0 0 0))
 i14:E.P[p+14]?=some (.op (insI 5 1 0 4 0 0 0))
 i15:E.P[p+15]?=some (.br 24 0 (p+1))
 hb:E.h<p
end Go.Av
end
section
namespace Go.Av
open Go
section
variable {E:Env} {p:Nat} {base n:Int}
end
end Go.Av
end
section
namespace Go.Av
open Go
section
variable {E:Env} {p:Nat} {base n:Int}
end
end Go.Av
end
section
namespace Go.Av
open Go
structure HandAt (E:Env) (mo mr:Nat):Prop where
 so:E.o=4*mo
 sr:E.r=4*mr
 sz:SzOk E.o E.r E.n
 b0:E.P[E.h]?=some (.op (insI 3 0 0 0 0 0 0))
 b1:E.P[E.h+1]?=some (.op (insI 3 5 0 0 0 (lo false 537919488) 0))
 b2:E.P[E.h+2]?=some (.op (insI 4 5 0 0 0 (hi false 537919488) 0))
 b3:E.P[E.h+3]?=some (.op (insI 20 0 5 0 0 0 0))
 w0:WLoop E (E.h+4) 537001984 (E.o:Int)
 w1:WLoop E (E.h+18) 537133056 (E.r:Int)
 w2:WLoop E (E.h+32) 537395200 (E.r:Int)
 l0:LLoop E (E.h+46) 537001984 (E.o:Int)
 l1:LLoop E (E.h+62) 537133056 (E.r:Int)
 l2:LLoop E (E.h+78) 537395200 (E.r:Int)
 e0:E.P[E.h+94]?=some (.op (insI 3 5 0 0 0 (lo false 537919488) 0))
 e1:E.P[E.h+95]?=some (.op (insI 4 5 0 0 0 (hi false 537919488) 0))
 e2:E.P[E.h+96]?=some (.op (insI 19 0 5 0 0 0 0))
 e3:E.P[E.h+97]?=some (.op (insI 3 2 0 0 0 0 0))
 e4:E.P[E.h+98]?=some (.op (insI 23 0 0 2 0 0 0))
 e5:E.P[E.h+99]?=some (.br 25 1 E.h)
 e6:E.P[E.h+100]?=some (.op (insI 3 5 0 0 0 (lo false 538968064) 0))
 e7:E.P[E.h+101]?=some (.op (insI 4 5 0 0 0 (hi false 538968064) 0))
 e8:E.P[E.h+102]?=some (.op (insI 3 0 0 0 0 (lo false 195890093) 0))
 e9:E.P[E.h+103]?=some (.op (insI 4 0 0 0 0 (hi false 195890093) 0))
 e10:E.P[E.h+104]?=some (.op (insI 20 0 5 0 0 0 0))
 e11:E.P[E.h+105]?=some (.op (insI 2 0 0 0 0 0 0))
structure Wp (mo mr:Nat) (W:Nat→Nat):Prop where
 out:∀t,t<mo→W (537001984+4*t)=0
 a:∀t,t<mr→W (537133056+4*t)=0
 b:∀t,t<mr→W (537395200+4*t)=0
 commit:W 537919488=0
section
variable {E:Env} {mo mr:Nat} (H:HandAt E mo mr)
include H
end
end Go.Av
end
section
namespace Go.Av
open Go
structure CodeOk (H:List tItem.den):Prop where
 all:H.all (jOk (labsL H))=true
 nodup:(labsL H).Nodup
 lab:(0:Int)∈labsL H
 cnt:cntL 0 H<(stripL (fun l=>cntL l H) H).length
 len:H.length≤2000
end Go.Av
end
