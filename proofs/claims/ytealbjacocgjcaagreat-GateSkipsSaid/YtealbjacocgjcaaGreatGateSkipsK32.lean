/- Texts of the proof, one behind the other. -/
import Derived.Test.YtealbjacocgjcaaGreatGateSkipsK31
import Derived.Test.YtealbjacocgjcaaGreatGateSkipsK30
import Derived.Test.YtealbjacocgjcaaGreatGateSkipsK26
import Derived.Test.YtealbjacocgjcaaGreatGateSkipsK28
section
namespace Go.Av
open Go
abbrev Flg:Type:=Bool×Bool×Bool×Bool×Unit
abbrev IS:Type:=(Int→Nat)×Flg×(Nat→Nat)
inductive PI where
 |op (i:tIns.den)
 |br (o c:Int) (t:Nat)
def cmpF (a b:Nat):Flg:=(decide (2147483648≤wn ((a:Int)-b)),a==b,decide (b≤a),cmpV a b,())
def holdsF (F:Flg) (c:Int):Bool :=
 bif decide (c<0)||decide (c > 13) then false else((bif c / 2==0 then F.2.1 else bif c / 2==1 then F.2.2.1 else bif c / 2==2 then F.1 else bif c / 2==3 then F.2.2.2.1 else bif c / 2==4 then F.2.2.1&&!F.2.1 else bif c / 2==5 then F.1==F.2.2.2.1 else c / 2==6&&(!F.2.1&&F.1==F.2.2.2.1))==(c % 2==0))
def goesF (F:Flg) (o c:Int):Bool:=o==24||o==25&&holdsF F c
structure Env where
 P:List PI
 o:Nat
 r:Nat
 n:Nat
 h:Nat
def Env.okR (E:Env) (a:Nat):Bool:=(regR E.o E.r E.n a).isSome
def Env.okW (E:Env) (a:Nat):Bool:=(regW E.o E.r a).isSome
abbrev IO3:Type:=Bool×Nat×IS
def doI (E:Env) (j:Nat) (i:tIns.den) (s:IS):IO3 :=
 bif i.1==2 then(true,j,s)
 else bif i.1==19 then(bif E.okR (s.1 i.2.2.1) then(false,j+1,updR s.1 i.2.1 (s.2.2 (s.1 i.2.2.1)),s.2) else(false,E.h,s))
 else bif i.1==20 then(bif E.okW (s.1 i.2.2.1) then(false,j+1,s.1,s.2.1,updW s.2.2 (s.1 i.2.2.1) (s.1 i.2.1)) else(false,E.h,s))
 else bif i.1==23 then(false,j+1,s.1,cmpF (s.1 i.2.2.1) (s.1 i.2.2.2.1),s.2.2)
 else(false,j+1,stepR s.1 i,s.2)
def atI (E:Env) (j:Nat) (s:IS):PI→IO3
 | .op i=>doI E j i s
 | .br o c t=>bif goesF s.2.1 o c then(false,t,s) else(false,j+1,s)
def stepI (E:Env) (skip:Bool) (j:Nat) (s:IS):IO3 :=
 match E.P[j]? with
 |none=>(false,E.h,s)
 |some p=>bif skip then(false,j+1,s) else atI E j s p
def hitI (f:tFault.den) (s:IS):IS :=
 bif f.1==2 then(updR s.1 f.2.2.1 (s.1 f.2.2.1 ^^^ 2 ^ kk f.2.2.2.1),s.2)
 else bif f.1==3 then(s.1,(qbk ([],0,s.2.1) f).2.2,s.2.2)
 else s
def opK (i:tIns.den):Bool:=okB i.1 i.2.1 i.2.2.1 i.2.2.2.1 i.2.2.2.2.1 i.2.2.2.2.2.1 i.2.2.2.2.2.2.1 i.2.2.2.2.2.2.2.1&&(i.1==2||(decide (3≤i.1)&&decide (i.1≤20)||i.1==23))
structure Lk (E:Env) (adr:Nat→Int) (j:Nat) (s:IS) (st:tState.den) (mem:MemT):Prop where
 rep:repS st s.1
 pc:(show Int from st.2.1)=adr j
 fl:st.2.2=s.2.1
 mw:MW E.o E.r E.n mem s.2.2
structure PrgOk (hd:tHead.den) (fl:List UInt8) (E:Env) (adr:Nat→Int):Prop where
 sz:SzOk E.o E.r E.n
 hand:(show Int from hd.2.1)=adr E.h
 hin:E.h≤E.P.length
 rng:∀j,j≤E.P.length→0≤adr j∧adr j<4294967296
 fin:fetchX fl (adr E.P.length)=none
 op:∀j i,E.P[j]?=some (.op i)→opK i=true∧fetchX fl (adr j)=some (i,bif isLong i.1 i.2.2.2.2.2.2.2.1 then 4 else 2)∧adr (j+1)=adr j+(bif isLong i.1 i.2.2.2.2.2.2.2.1 then 4 else 2)
 br:∀j o c t,E.P[j]?=some (.br o c t)→t≤E.P.length∧(o=24∨o=25)∧∃imm w,okB o 0 0 0 0 imm c w=true∧fetchX fl (adr j)=some ((o,0,0,0,0,imm,c,w,()),bif w then 4 else 2)∧adr (j+1)=adr j+(bif w then 4 else 2)∧adr t=adr j+4+imm
theorem holds_F (s:tState.den) (c:Int):qd5 (s,c)=holdsF s.2.2 c:=by
 obtain⟨r,pc,n,z,cf,v,u⟩:=s
 exact holds_val r pc n z cf v c
theorem goes_F (s:tState.den) (o c:Int):goesV s o c=goesF s.2.2 o c:=by
 unfold goesV goesF
 rw[holds_F]
theorem rep_set14 {r:List Int} {ρ:Int→Nat} (hl:r.length=15) (h:∀k:Int,0≤k→wn (rg r k)=ρ k) (rd v:Int) (hrd:0≤rd∧rd≤14):(r.set rd.toNat v).length=15∧∀k:Int,0≤k→wn (rg (r.set rd.toNat v) k)=updR ρ rd (wn v) k:=by
 refine⟨by simp[hl],fun k hk=>?_⟩
 by_cases e:k=rd
 ·subst e
  rw[updR_same]
  unfold rg
  rw[List.getD_eq_getElem?_getD,List.getElem?_set,if_pos rfl,if_pos (by omega)]
  rfl
 ·rw[updR_other _ _ e,←h k hk]
  unfold rg
  rw[List.getD_eq_getElem?_getD,List.getD_eq_getElem?_getD,List.getElem?_set,if_neg (by omega)]
theorem check_bits {k p r b:Int} (h:qr (k,p,r,b,())=0) (hk:k=2):0≤r∧r≤14:=by
 subst hk
 have hx:=check_reg 2 p r b h
 simp only[inRange,beq_self_eq_true,Bool.not_true,Bool.false_or,Bool.and_eq_true,decide_eq_true_eq] at hx
 omega
theorem hit_link {E:Env} {adr:Nat→Int} {j:Nat} {s:IS} {st:tState.den} {mem:MemT} (h:Lk E adr j s st mem) (f:tFault.den) (hf:qr f=0):Lk E adr j (hitI f s) (qbk st f) mem:=by
 obtain⟨⟨hl,hr⟩,hpc,hfl,hm⟩:=h
 obtain⟨k,p,r,b,u⟩:=f
 unfold hitI qbk
 dsimp only
 cases h2:(k==(2:Int))
 ·cases h3:(k==(3:Int))
  ·exact⟨⟨hl,hr⟩,hpc,hfl,hm⟩
  ·obtain⟨rs,pc,n,z,cf,v,u'⟩:=st
   obtain⟨ρ,F,W⟩:=s
   dsimp only at hfl
   subst hfl
   simp only[cond_false,cond_true]
   cases (b==(0:Int))<;>cases (b==(1:Int))<;>cases (b==(2:Int))<;>cases (b==(3:Int))<;>exact⟨⟨hl,hr⟩,hpc,rfl,hm⟩
 ·have hk2:k=2:=by simpa using h2
  obtain⟨r0,r1⟩:=check_bits hf hk2
  simp only[cond_true]
  have e:wn (qe9 (List.getD st.1 (Int.toNat r) (Ty.dflt (.int .i64)),b))=s.1 r ^^^ 2 ^ kk b:=by
   show wn ((wn (rg st.1 r) ^^^ wn (ishl .i64 1 ((kk b:Nat):Int)):Nat):Int)=_
   have hb:=kk_lt b
   have e1:wn (ishl .i64 1 ((kk b:Nat):Int))=2 ^ kk b:=by
    have:=shl_wn 1 (kk b) (by omega)
    rw[Nat.one_mul] at this
    refine this.trans (Nat.mod_eq_of_lt ?_)
    exact Nat.lt_of_lt_of_le (Nat.pow_lt_pow_right (by omega) hb) (Nat.le_refl _)
   rw[e1,hr r r0]
   refine wn_nat ?_
   have a1:s.1 r<2 ^ 32:=by rw[←hr r r0];exact wn_lt _
   have a2:2 ^ kk b<2 ^ 32:=Nat.pow_lt_pow_right (by omega) hb
   exact Nat.xor_lt_two_pow a1 a2
  have:=rep_set14 hl hr r (qe9 (List.getD st.1 (Int.toNat r) (Ty.dflt (.int .i64)),b)) ⟨r0,r1⟩
  rw[e] at this
  exact⟨this,hpc,hfl,hm⟩
theorem opK_facts {i:tIns.den} (h:opK i=true):qd i=0∧(i.1=2∨(3≤(show Int from i.1)∧(show Int from i.1)≤20)∨i.1=23):=by
 obtain⟨op,rd,rn,rm,ra,imm,cond,w,u⟩:=i
 unfold opK at h
 rw[Bool.and_eq_true] at h
 refine⟨(check_iff op rd rn rm ra imm cond w).2 h.1,?_⟩
 have h:=h.2
 simp only[Bool.or_eq_true,Bool.and_eq_true,decide_eq_true_eq,beq_iff_eq] at h
 exact h
theorem step_at {s:tState.den} (op rd rn rm ra imm cond:Int) (w:Bool) (ld:Int) (hck:qd (op,rd,rn,rm,ra,imm,cond,w,())=0) (h2:op≠2) (h24:op≠24) (h25:op≠25) (p:Int) (hp:(show Int from s.2.1)=p) (h0:0≤p) (h1:p+(bif isLong op w then 4 else 2)<4294967296) :
  qA (s,(op,rd,rn,rm,ra,imm,cond,w,()),ld)=(((nextS s op rd rn rm ra imm ld).1,p+(bif isLong op w then 4 else 2),(nextS s op rd rn rm ra imm ld).2.2),true,()):=by
 have hc:(qd (op,rd,rn,rm,ra,imm,cond,w,()) != (0:Int))=false:=by simpa using hck
 show stepV (qd (op,rd,rn,rm,ra,imm,cond,w,()) != 0) s op rd rn rm ra imm cond w ld=_
 rw[hc,stepV_ok _ _ _ _ _ _ _ _ _ _ h2,far_plain _ _ _ _ _ h24 h25]
 have:(wn (((wn s.2.1:Nat):Int)+(bif isLong op w then 4 else 2)):Int)=p+(bif isLong op w then 4 else 2):=by
  have e:((wn s.2.1:Nat):Int)=p:=by
   rw[show s.2.1=p from hp]
   have:(bif isLong op w then(4:Int) else 2)=4∨(bif isLong op w then(4:Int) else 2)=2:=by cases isLong op w<;>simp
   rw[wn_int]
   omega
  rw[e,wn_int]
  have:(bif isLong op w then(4:Int) else 2)=4∨(bif isLong op w then(4:Int) else 2)=2:=by cases isLong op w<;>simp
  omega
 rw[this]
theorem rep_regs {s:tState.den} {ρ:Int→Nat} (h:repS s ρ):repS (wordR s.1,s.2) ρ:=⟨by rw[wordR_len];exact h.1,fun k hk=>by rw[show rg (wordR s.1,s.2).1 k=(wn (rg s.1 k):Int) from wordR_reg _ _,wn_wn];exact h.2 k hk⟩
set_option maxHeartbeats 1000000 in
theorem act_link' {E:Env} {adr:Nat→Int} {hd:tHead.den} {j:Nat} {s:IS} {st:tState.den} {mem:MemT} (hs:SzOk E.o E.r E.n) (hh:(show Int from hd.2.1)=adr E.h) (h:Lk E adr j s st mem) (op rd rn rm ra imm cond:Int) (w:Bool) (u:Unit) (hck:qd (op,rd,rn,rm,ra,imm,cond,w,u)=0) (hop:op=2∨(3≤op∧op≤20)∨op=23) (h0:0≤adr j) (h1:adr (j+1)<4294967296)
  (ha:adr (j+1)=adr j+(bif isLong op w then 4 else 2)) :
  (actX hd st (op,rd,rn,rm,ra,imm,cond,w,u) mem).2.2.1=(doI E j (op,rd,rn,rm,ra,imm,cond,w,u) s).1∧Lk E adr (doI E j (op,rd,rn,rm,ra,imm,cond,w,u) s).2.1 (doI E j (op,rd,rn,rm,ra,imm,cond,w,u) s).2.2 (actX hd st (op,rd,rn,rm,ra,imm,cond,w,u) mem).2.1 (actX hd st (op,rd,rn,rm,ra,imm,cond,w,u) mem).2.2.2:=by
 obtain⟨hrep,hpc,hfl,hm⟩:=h
 have hc:(qd (op,rd,rn,rm,ra,imm,cond,w,()) != (0:Int))=false:=by simpa using hck
 obtain⟨_,hrd,hrn,hrm,h17,_⟩:=check_bounds hck
 have hacc:qc (st,(op,rd,rn,rm,ra,imm,cond,w,()))=accessV false op (rg st.1 rn) (rg st.1 rd):=by
  show accessV (qd (op,rd,rn,rm,ra,imm,cond,w,()) != 0) op _ _=_
  rw[hc]
 have h1':adr j+(bif isLong op w then 4 else 2)<4294967296:=by rw[←ha];exact h1
 by_cases e2:op=2
 ·subst e2
  have ho:doI E j (2,rd,rn,rm,ra,imm,cond,w,u) s=(true,j,s):=rfl
  rw[ho]
  have hx:actX hd st (2,rd,rn,rm,ra,imm,cond,w,u) mem=finX st (2,rd,rn,rm,ra,imm,cond,w,()) mem 0 0:=by
   unfold actX
   rw[show qc (st,(2,rd,rn,rm,ra,imm,cond,w,u))=_ from hacc]
   rfl
  rw[hx]
  have hst:qA (st,(2,rd,rn,rm,ra,imm,cond,w,()),0)=(wState st,false,()):=by
   show stepV (qd (2,rd,rn,rm,ra,imm,cond,w,()) != 0) st 2 rd rn rm ra imm cond w 0=_
   rw[hc]
   rfl
  unfold finX
  rw[hst]
  refine⟨rfl,⟨(rep_regs hrep).1,(rep_regs hrep).2⟩,?_,hfl,hm⟩
  show((wn st.2.1:Nat):Int)=adr j
  have hpc:st.2.1=adr j:=hpc
  rw[hpc,wn_int]
  have:(bif isLong 2 w then(4:Int) else 2)=4∨(bif isLong 2 w then(4:Int) else 2)=2:=by cases isLong 2 w<;>simp
  omega
 ·have h24:op≠24:=by omega
  have h25:op≠25:=by omega
  have hstep:=fun ld=>step_at (s:=st) op rd rn rm ra imm cond w ld hck e2 h24 h25 (adr j) hpc h0 h1'
  have b2:(op==(2:Int))=false:=beq_eq_false_iff_ne.2 e2
  have b24:(op==(24:Int))=false:=beq_eq_false_iff_ne.2 h24
  have b25:(op==(25:Int))=false:=beq_eq_false_iff_ne.2 h25
  by_cases e23:op=23
  ·subst e23
   have ho:doI E j (23,rd,rn,rm,ra,imm,cond,w,u) s=(false,j+1,s.1,cmpF (s.1 rn) (s.1 rm),s.2.2):=rfl
   rw[ho]
   have hx:actX hd st (23,rd,rn,rm,ra,imm,cond,w,u) mem=finX st (23,rd,rn,rm,ra,imm,cond,w,()) mem 0 0:=by
    unfold actX
    rw[show qc (st,(23,rd,rn,rm,ra,imm,cond,w,u))=_ from hacc]
    rfl
   rw[hx]
   unfold finX
   rw[hstep 0]
   have enx:nextS st 23 rd rn rm ra imm 0=qde (wState st,(wn (rg st.1 rn):Int),(wn (rg st.1 rm):Int)):=by
    show qde (wState st,rg (wordR st.1) rn,rg (wordR st.1) rm)=_
    rw[wordR_reg,wordR_reg]
   rw[enx,compare_val _ _ _ (wn_lt _) (wn_lt _),hrep.2 rn hrn.1,hrep.2 rm hrm.1]
   exact⟨rfl,⟨(rep_regs hrep).1,(rep_regs hrep).2⟩,ha.symm,rfl,hm⟩
  ·have b23:(op==(23:Int))=false:=beq_eq_false_iff_ne.2 e23
   have hr3:3≤op∧op≤20:=by
    rcases hop with e |e |e
    ·exact absurd e e2
    ·exact e
    ·exact absurd e e23
   have enx:∀ld,nextS st op rd rn rm ra imm ld=(regsOf (wordR st.1) op rd rn rm ra imm ld,((wn st.2.1:Nat):Int),st.2.2):=fun ld=>by
    unfold nextS
    rw[b24,b25]
    show makesS (wState st) op rd rn rm ra imm ld=_
    unfold makesS
    rw[b23]
    rfl
   by_cases e20:op=20
   ·subst e20
    have hst:=mw_store hs hm (s.1 rn) (s.1 rd)
    have hacc':qc (st,(20,rd,rn,rm,ra,imm,cond,w,u))=((((s.1 rn:Nat):Int),4,((s.1 rd:Nat):Int),true,()),true,()):=by
     refine hacc.trans ?_
     show((((wn (rg st.1 rn):Nat):Int),4,((wn (rg st.1 rd):Nat):Int),true,()),true,())=_
     rw[hrep.2 rn hrn.1,hrep.2 rd hrd.1]
    have hx:actX hd st (20,rd,rn,rm,ra,imm,cond,w,u) mem=(bif (storeM mem ((s.1 rn:Nat):Int) 4 ((s.1 rd:Nat):Int)).1 != 0 then trapX hd st (storeM mem ((s.1 rn:Nat):Int) 4 ((s.1 rd:Nat):Int)).2 ((s.1 rn:Nat):Int)
      else finX st (20,rd,rn,rm,ra,imm,cond,w,u) (storeM mem ((s.1 rn:Nat):Int) 4 ((s.1 rd:Nat):Int)).2 0 ((s.1 rn:Nat):Int)):=by
     unfold actX
     rw[hacc']
     rfl
    have ho:doI E j (20,rd,rn,rm,ra,imm,cond,w,u) s=(bif E.okW (s.1 rn) then(false,j+1,s.1,s.2.1,updW s.2.2 (s.1 rn) (s.1 rd)) else(false,E.h,s)):=rfl
    rw[ho,hx]
    cases hw:E.okW (s.1 rn)
    ·obtain⟨a1,a2⟩:=hst.2 hw
     rw[a1,a2]
     exact⟨rfl,hrep,hh,hfl,hm⟩
    ·obtain⟨a1,a2⟩:=hst.1 hw
     rw[a1]
     show(finX st (20,rd,rn,rm,ra,imm,cond,w,u) _ 0 _).2.2.1=_∧_
     unfold finX
     rw[show qA (st,(20,rd,rn,rm,ra,imm,cond,w,u),0)=_ from hstep 0,enx 0]
     have ew:wn ((s.1 rd:Nat):Int)=s.1 rd:=by rw[←hrep.2 rd hrd.1];exact wn_wn _
     rw[ew] at a2
     exact⟨rfl,⟨(rep_regs hrep).1,(rep_regs hrep).2⟩,ha.symm,hfl,a2⟩
   ·have b20:(op==(20:Int))=false:=beq_eq_false_iff_ne.2 e20
    have hmk:makesRd op=true:=by
     unfold makesRd
     rw[decide_eq_true hr3.1,decide_eq_true (show op≤19 by omega)]
     rfl
    have hrep':∀ld,repS (qA (st,(op,rd,rn,rm,ra,imm,cond,w,()),ld)).1 (bif op==17 then updR (updR s.1 rd (s.1 rn*s.1 rm % 4294967296)) ra (s.1 rn*s.1 rm / 4294967296) else updR s.1 rd (wn (vOf op imm ra (s.1 rd) (s.1 rn) (s.1 rm) ld))):=fun ld=>by
     obtain⟨t,e1,e2⟩:=step_makes hrep op rd rn rm ra imm cond w ld hck hmk
     rw[e1]
     exact e2
    by_cases e19:op=19
    ·subst e19
     have hld:=mw_load hs hm (s.1 rn)
     have hacc':qc (st,(19,rd,rn,rm,ra,imm,cond,w,u))=((((s.1 rn:Nat):Int),4,0,false,()),true,()):=by
      refine hacc.trans ?_
      show((((wn (rg st.1 rn):Nat):Int),4,0,false,()),true,())=_
      rw[hrep.2 rn hrn.1]
     have hx:actX hd st (19,rd,rn,rm,ra,imm,cond,w,u) mem=(bif (loadM mem ((s.1 rn:Nat):Int) 4).2.1 != 0 then trapX hd st mem ((s.1 rn:Nat):Int)
       else finX st (19,rd,rn,rm,ra,imm,cond,w,u) mem (loadM mem ((s.1 rn:Nat):Int) 4).1 ((s.1 rn:Nat):Int)):=by
      unfold actX
      rw[hacc']
      rfl
     have ho:doI E j (19,rd,rn,rm,ra,imm,cond,w,u) s=(bif E.okR (s.1 rn) then(false,j+1,updR s.1 rd (s.2.2 (s.1 rn)),s.2) else(false,E.h,s)):=rfl
     cases hw:E.okR (s.1 rn)
     ·rw[show(regR E.o E.r E.n (s.1 rn)).isSome=false from hw] at hld
      rw[ho,hx,hld,hw]
      exact⟨rfl,hrep,hh,hfl,hm⟩
     ·rw[show(regR E.o E.r E.n (s.1 rn)).isSome=true from hw] at hld
      have hr2:=hrep' ((s.2.2 (s.1 rn):Nat):Int)
      have ev:wn (vOf 19 imm ra (s.1 rd) (s.1 rn) (s.1 rm) ((s.2.2 (s.1 rn):Nat):Int))=s.2.2 (s.1 rn):=by
       show wn ((wn ((s.2.2 (s.1 rn):Nat):Int):Nat):Int)=_
       rw[wn_wn]
       exact wn_nat (mw_lt hs hm hw)
      have hr2:repS (qA (st,(19,rd,rn,rm,ra,imm,cond,w,()),((s.2.2 (s.1 rn):Nat):Int))).1 (updR s.1 rd (s.2.2 (s.1 rn))):=by
       have e17:((19:Int)==17)=false:=rfl
       rw[e17,cond_false,ev] at hr2
       exact hr2
      rw[hstep] at hr2
      have hx2:actX hd st (19,rd,rn,rm,ra,imm,cond,w,u) mem=finX st (19,rd,rn,rm,ra,imm,cond,w,u) mem ((s.2.2 (s.1 rn):Nat):Int) ((s.1 rn:Nat):Int):=by
       rw[hx,hld]
       rfl
      rw[ho,hx2,hw]
      unfold finX
      rw[show qA (st,(19,rd,rn,rm,ra,imm,cond,w,u),((s.2.2 (s.1 rn):Nat):Int))=_ from hstep _]
      refine⟨rfl,hr2,ha.symm,?_,hm⟩
      rw[enx]
      exact hfl
    ·have b19:(op==(19:Int))=false:=beq_eq_false_iff_ne.2 e19
     have b21:(op==(21:Int))=false:=beq_eq_false_iff_ne.2 (by omega)
     have b22:(op==(22:Int))=false:=beq_eq_false_iff_ne.2 (by omega)
     have ho:doI E j (op,rd,rn,rm,ra,imm,cond,w,u) s=(false,j+1,stepR s.1 (op,rd,rn,rm,ra,imm,cond,w,u),s.2):=by
      unfold doI
      dsimp only
      rw[b2,b19,b20,b23]
      rfl
     have hx:actX hd st (op,rd,rn,rm,ra,imm,cond,w,u) mem=finX st (op,rd,rn,rm,ra,imm,cond,w,()) mem 0 0:=by
      unfold actX
      rw[show qc (st,(op,rd,rn,rm,ra,imm,cond,w,u))=_ from hacc]
      unfold accessV
      rw[b19,b20,b21,b22]
      rfl
     have hr2:=hrep' 0
     rw[hstep] at hr2
     rw[ho,hx]
     unfold finX
     rw[hstep 0]
     refine⟨rfl,hr2,ha.symm,?_,hm⟩
     rw[enx]
     exact hfl
theorem act_link {E:Env} {adr:Nat→Int} {hd:tHead.den} {j:Nat} {s:IS} {st:tState.den} {mem:MemT} (hs:SzOk E.o E.r E.n) (hh:(show Int from hd.2.1)=adr E.h) (h:Lk E adr j s st mem) {i:tIns.den} (hk:opK i=true) (h0:0≤adr j) (h1:adr (j+1)<4294967296)
  (ha:adr (j+1)=adr j+(bif isLong i.1 i.2.2.2.2.2.2.2.1 then 4 else 2)) :
  (actX hd st i mem).2.2.1=(doI E j i s).1∧Lk E adr (doI E j i s).2.1 (doI E j i s).2.2 (actX hd st i mem).2.1 (actX hd st i mem).2.2.2:=by
 obtain⟨hck,hop⟩:=opK_facts hk
 obtain⟨op,rd,rn,rm,ra,imm,cond,w,u⟩:=i
 exact act_link' hs hh h op rd rn rm ra imm cond w u hck hop h0 h1 ha
end Go.Av
end
section
namespace Go.Av
open Go
theorem br_link {E:Env} {adr:Nat→Int} {hd:tHead.den} {j:Nat} {s:IS} {st:tState.den} {mem:MemT} (h:Lk E adr j s st mem) (o c:Int) (t:Nat) (imm:Int) (w:Bool) (hok:okB o 0 0 0 0 imm c w=true) (ho:o=24∨o=25)
  (h0:0≤adr j∧adr j<4294967296) (h1:0≤adr (j+1)∧adr (j+1)<4294967296) (ht:0≤adr t∧adr t<4294967296) (ha:adr (j+1)=adr j+(bif w then 4 else 2)) (hb:adr t=adr j+4+imm) :
  (actX hd st (o,0,0,0,0,imm,c,w,()) mem).2.2.1=(atI E j s (.br o c t)).1∧Lk E adr (atI E j s (.br o c t)).2.1 (atI E j s (.br o c t)).2.2 (actX hd st (o,0,0,0,0,imm,c,w,()) mem).2.1 (actX hd st (o,0,0,0,0,imm,c,w,()) mem).2.2.2:=by
 obtain⟨hrep,hpc,hfl,hm⟩:=h
 have hck:=(check_iff o 0 0 0 0 imm c w).2 hok
 have hc:(qd (o,0,0,0,0,imm,c,w,()) != (0:Int))=false:=by simpa using hck
 have hacc:qc (st,(o,0,0,0,0,imm,c,w,()))=((0,0,0,false,()),false,()):=by
  show accessV (qd (o,0,0,0,0,imm,c,w,()) != 0) o _ _=_
  rw[hc]
  rcases ho with rfl |rfl<;>rfl
 have hx:actX hd st (o,0,0,0,0,imm,c,w,()) mem=finX st (o,0,0,0,0,imm,c,w,()) mem 0 0:=by
  unfold actX
  rw[hacc]
  rfl
 have hpw:((wn st.2.1:Nat):Int)=adr j:=by
  have hpc:st.2.1=adr j:=hpc
  rw[hpc,wn_int]
  omega
 have hst:qA (st,(o,0,0,0,0,imm,c,w,()),0)=((wordR st.1,(bif goesF st.2.2 o c then adr t else adr (j+1)),st.2.2),true,()):=by
  show stepV (qd (o,0,0,0,0,imm,c,w,()) != 0) st o 0 0 0 0 imm c w 0=_
  rw[hc,stepV_ok _ _ _ _ _ _ _ _ _ _ (by omega)]
  have e1:nextS st o 0 0 0 0 imm 0=wState st:=by
   unfold nextS
   rcases ho with rfl |rfl<;>rfl
  have e2:isLong o w=w:=by
   unfold isLong
   rcases ho with rfl |rfl<;>simp
  have e3:farV (wState st) o imm c w=bif goesF st.2.2 o c then 4+imm else bif w then 4 else 2:=by
   unfold farV
   rw[goes_F,e2]
   rfl
  rw[e1,e3,hpw]
  have e4:((wn (adr j+(bif goesF st.2.2 o c then 4+imm else bif w then 4 else 2)):Nat):Int)=bif goesF st.2.2 o c then adr t else adr (j+1):=by
   rw[wn_int]
   cases goesF st.2.2 o c
   ·simp only[cond_false]
    rw[←ha]
    omega
   ·simp only[cond_true]
    rw[show adr j+(4+imm)=adr t by omega]
    omega
  rw[e4]
  rfl
 rw[hx]
 unfold finX
 rw[hst]
 have hA:atI E j s (.br o c t)=(false,(bif goesF st.2.2 o c then t else j+1),s):=by
  show(bif goesF s.2.1 o c then(false,t,s) else(false,j+1,s))=_
  rw[hfl]
  cases goesF s.2.1 o c<;>rfl
 rw[hA]
 refine⟨rfl,⟨(rep_regs hrep).1,(rep_regs hrep).2⟩,?_,hfl,hm⟩
 show(bif goesF st.2.2 o c then adr t else adr (j+1))=adr (bif goesF st.2.2 o c then t else j+1)
 cases goesF st.2.2 o c<;>rfl
theorem noF_check:qr noFault=0:=rfl
section
variable {hd:tHead.den} {fl:List UInt8} {E:Env} {adr:Nat→Int} (hp:PrgOk hd fl E adr)
include hp
theorem adr_next {j:Nat} (hj:j<E.P.length):adr j<adr (j+1):=by
 have hg:E.P[j]?=some E.P[j]:=List.getElem?_eq_getElem hj
 cases hq:E.P[j] with
 |op i =>
  rw[hq] at hg
  obtain⟨_,_,h⟩:=hp.op j i hg
  rw[h]
  cases isLong i.1 i.2.2.2.2.2.2.2.1<;>(simp only[cond_true,cond_false];omega)
 |br o c t =>
  rw[hq] at hg
  obtain⟨_,_,imm,w,_,_,h,_⟩:=hp.br j o c t hg
  rw[h]
  cases w<;>(simp only[cond_true,cond_false];omega)
theorem adr_lt {i:Nat}:∀{j:Nat},i<j→j≤E.P.length→adr i<adr j
 |0,h,_=>by cases h
 |j+1,h,hj=>by
  have h1:=adr_next hp (j:=j) (by omega)
  rcases Nat.lt_or_ge i j with h' |h'
  ·have:=adr_lt h' (by omega)
   omega
  ·have:i=j:=by omega
   subst this
   exact h1
theorem adr_inj {i j:Nat} (hi:i≤E.P.length) (hj:j≤E.P.length):(adr i==adr j)=(i==j):=by
 rcases Nat.lt_trichotomy i j with h |h |h
 ·have:=adr_lt hp h hj
  rw[beq_eq_false_iff_ne.2 (show adr i≠adr j by omega),beq_eq_false_iff_ne.2 (show i≠j by omega)]
 ·subst h
  rw[beq_self_eq_true,beq_self_eq_true]
 ·have:=adr_lt hp h hi
  rw[beq_eq_false_iff_ne.2 (show adr i≠adr j by omega),beq_eq_false_iff_ne.2 (show i≠j by omega)]
theorem step_in {skip:Bool} {j:Nat} {s:IS} (hj:j≤E.P.length):(stepI E skip j s).2.1≤E.P.length:=by
 unfold stepI
 cases hg:E.P[j]? with
 |none=>exact hp.hin
 |some p =>
  have hlt:j<E.P.length:=by
   rcases Nat.lt_or_ge j E.P.length with h |h
   ·exact h
   ·rw[List.getElem?_eq_none h] at hg
    cases hg
  cases skip
  ·show(atI E j s p).2.1≤_
   cases p with
   |op i =>
    have hh:=hp.hin
    show(doI E j i s).2.1≤_
    unfold doI
    cases (i.1==(2:Int))
    ·cases (i.1==(19:Int))
     ·cases (i.1==(20:Int))
      ·cases (i.1==(23:Int))<;>exact hlt
      ·cases E.okW (s.1 i.2.2.1)
       ·exact hh
       ·exact hlt
     ·cases E.okR (s.1 i.2.2.1)
      ·exact hh
      ·exact hlt
    ·exact hj
   |br o c t =>
    obtain⟨ht,_⟩:=hp.br j o c t hg
    show(bif goesF s.2.1 o c then(false,t,s) else(false,j+1,s)).2.1≤_
    cases goesF s.2.1 o c
    ·exact hlt
    ·exact ht
  ·exact hlt
theorem step_link {j:Nat} {s:IS} {st:tState.den} {mem:MemT} (hj:j≤E.P.length) (h:Lk E adr j s st mem) (f:tFault.den) (hf:qr f=0) :
  (stepMX hd fl st mem f).2.2.1=(stepI E (f.1==(1:Int)) j (hitI f s)).1∧Lk E adr (stepI E (f.1==(1:Int)) j (hitI f s)).2.1 (stepI E (f.1==(1:Int)) j (hitI f s)).2.2 (stepMX hd fl st mem f).2.1 (stepMX hd fl st mem f).2.2.2:=by
 have hl:=hit_link h f hf
 have hfx:faultX f=f:=by
  unfold faultX
  rw[hf]
  rfl
 unfold stepMX
 rw[hfx]
 generalize hs':hitI f s=s' at *
 generalize hst':qbk st f=st' at *
 unfold turnX
 have hpc:st'.2.1=adr j:=hl.pc
 rw[hpc]
 unfold stepI
 cases hg:E.P[j]? with
 |none =>
  have:j=E.P.length:=by
   rcases Nat.lt_or_ge j E.P.length with h |h
   ·rw[List.getElem?_eq_getElem h] at hg
    cases hg
   ·omega
  rw[this,hp.fin]
  exact⟨rfl,hl.rep,hp.hand,hl.fl,hl.mw⟩
 |some p =>
  have hlt:j<E.P.length:=by
   rcases Nat.lt_or_ge j E.P.length with h |h
   ·exact h
   ·rw[List.getElem?_eq_none h] at hg
    cases hg
  have hr0:=hp.rng j hj
  have hr1:=hp.rng (j+1) hlt
  have hskip:∀(i:tIns.den) (n:Int),adr (j+1)=adr j+n→fetchX fl (adr j)=some (i,n)→(f.1==(1:Int))=true →
    ((1,adr j,0,1,()) ,(st'.1,qdv (adr j,n),st'.2.2),false,mem).2.2.1=((false,j+1,s'):IO3).1∧Lk E adr (j+1) s' (st'.1,qdv (adr j,n),st'.2.2) mem:=fun i n hn _ _=>by
   refine⟨rfl,hl.rep,?_,hl.fl,hl.mw⟩
   show((wn (adr j+n):Nat):Int)=adr (j+1)
   rw[←hn,wn_int]
   omega
  cases p with
  |op i =>
   obtain⟨h1,h2,h3⟩:=hp.op j i hg
   rw[h2]
   cases hk:(f.1==(1:Int))
   ·have:=act_link (hd:=hd) hp.sz hp.hand hl h1 hr0.1 hr1.2 h3
    exact this
   ·exact hskip i _ h3 h2 hk
  |br o c t =>
   obtain⟨h0,h1,imm,w,h2,h3,h4,h5⟩:=hp.br j o c t hg
   rw[h3]
   cases hk:(f.1==(1:Int))
   ·have:=br_link (hd:=hd) hl o c t imm w h2 h1 hr0 hr1 (hp.rng t h0) h4 h5
    exact this
   ·exact hskip _ _ h4 h3 hk
end
def goI (E:Env) (f:tFault.den):Nat→Int→IO3→Nat×Nat×IO3
 |0,_,q=>(0,0,q)
 |n+1,k,q=>bif q.1 then(0,0,q) else
   ((goI E f n (k+1) (stepI E ((nowX f k).1==(1:Int)) q.2.1 (hitI (nowX f k) q.2.2))).1+1,
    (bif q.2.1==E.h then 1 else 0)+(goI E f n (k+1) (stepI E ((nowX f k).1==(1:Int)) q.2.1 (hitI (nowX f k) q.2.2))).2.1,
    (goI E f n (k+1) (stepI E ((nowX f k).1==(1:Int)) q.2.1 (hitI (nowX f k) q.2.2))).2.2)
def goN (E:Env):Nat→IO3→Nat×Nat×IO3
 |0,q=>(0,0,q)
 |n+1,q=>bif q.1 then(0,0,q) else
   ((goN E n (stepI E false q.2.1 q.2.2)).1+1,(bif q.2.1==E.h then 1 else 0)+(goN E n (stepI E false q.2.1 q.2.2)).2.1,(goN E n (stepI E false q.2.1 q.2.2)).2.2)
theorem now_ok {f:tFault.den} (hf:qr f=0) (k:Int):qr (nowX f k)=0:=by
 unfold nowX
 cases f.2.1==k
 ·exact noF_check
 ·exact hf
theorem go_link {hd:tHead.den} {fl:List UInt8} {E:Env} {adr:Nat→Int} (hp:PrgOk hd fl E adr) (f:tFault.den) (hf:qr f=0):∀(n:Nat) (k:Int) (b:Bool) (j:Nat) (s:IS) (st:tState.den) (mem:MemT),j≤E.P.length→Lk E adr j s st mem →
  (goX hd fl f n k (st,b,mem)).1.length=(goI E f n k (b,j,s)).1∧(goX hd fl f n k (st,b,mem)).2.1=(((goI E f n k (b,j,s)).2.1:Nat):Int)∧(goX hd fl f n k (st,b,mem)).2.2.2.1=(goI E f n k (b,j,s)).2.2.1 ∧
   (goI E f n k (b,j,s)).2.2.2.1≤E.P.length ∧
   Lk E adr (goI E f n k (b,j,s)).2.2.2.1 (goI E f n k (b,j,s)).2.2.2.2 (goX hd fl f n k (st,b,mem)).2.2.1 (goX hd fl f n k (st,b,mem)).2.2.2.2
 |0,_,_,_,_,_,_,hj,h=>⟨rfl,rfl,rfl,hj,h⟩
 |n+1,k,true,_,_,_,_,hj,h=>⟨rfl,rfl,rfl,hj,h⟩
 |n+1,k,false,j,s,st,mem,hj,h=>by
  obtain⟨a1,a2⟩:=step_link hp hj h (nowX f k) (now_ok hf k)
  have hin:=step_in hp (skip:=(nowX f k).1==(1:Int)) (s:=hitI (nowX f k) s) hj
  obtain⟨b1,b2,b3,b4,b5⟩:=go_link hp f hf n (k+1) (stepI E ((nowX f k).1==(1:Int)) j (hitI (nowX f k) s)).1 _ _ _ _ hin a2
  rw[goX,goI]
  simp only[cond_false]
  have e:((stepMX hd fl st mem (nowX f k)).2.1,(stepI E ((nowX f k).1==(1:Int)) j (hitI (nowX f k) s)).1,(stepMX hd fl st mem (nowX f k)).2.2.2)=(stepMX hd fl st mem (nowX f k)).2:=by rw[←a1]
  rw[e] at b1 b2 b3 b5
  refine⟨?_,?_,b3,b4,b5⟩
  ·show _+1=_+1
   rw[b1]
  ·have e1:(st.2.1==hd.2.1)=(j==E.h):=by
    rw[←adr_inj hp hj hp.hin]
    have x1:st.2.1=adr j:=h.pc
    have x2:hd.2.1=adr E.h:=hp.hand
    rw[x1,x2]
   show(bif st.2.1==hd.2.1 then(1:Int) else 0)+_=_
   rw[b2,e1]
   cases (j==E.h)
   ·simp
   ·simp
theorem goI_after (E:Env) (f:tFault.den):∀(n:Nat) (k:Int) (q:IO3),(show Int from f.2.1)<k→goI E f n k q=goN E n q
 |0,_,_,_=>rfl
 |n+1,k,q,h=>by
  have hk:nowX f k=noFault:=by
   unfold nowX
   rw[beq_eq_false_iff_ne.2 (show f.2.1≠k from fun e=>by
    have:(show Int from f.2.1)=k:=e
    omega)]
   rfl
  rw[goI,goN,hk]
  have e:stepI E (noFault.1==(1:Int)) q.2.1 (hitI noFault q.2.2)=stepI E false q.2.1 q.2.2:=rfl
  rw[e,goI_after E f n (k+1) _ (by omega)]
theorem goI_none (E:Env):∀(n:Nat) (k:Int) (q:IO3),goI E noFault n k q=goN E n q
 |0,_,_=>rfl
 |n+1,k,q=>by
  rw[goI,goN,now_none]
  have e:stepI E (noFault.1==(1:Int)) q.2.1 (hitI noFault q.2.2)=stepI E false q.2.1 q.2.2:=rfl
  rw[e,goI_none E n (k+1) _]
theorem goI_split (E:Env) (f:tFault.den) (m:Nat):∀(T:Nat) (k:Int) (q:IO3),k+(T:Int)≤(show Int from f.2.1) →
  goI E f (T+m) k q=((goN E T q).1+(goI E f m (k+T) (goN E T q).2.2).1,(goN E T q).2.1+(goI E f m (k+T) (goN E T q).2.2).2.1,(goI E f m (k+T) (goN E T q).2.2).2.2)
 |0,k,q,_=>by simp[goN]
 |T+1,k,q,h=>by
  rw[show T+1+m=(T+m)+1 by omega,goI,goN]
  cases hq:q.1
  ·have hk:nowX f k=noFault:=by
    unfold nowX
    rw[beq_eq_false_iff_ne.2 (show f.2.1≠k from fun e=>by
     have:(show Int from f.2.1)=k:=e
     omega)]
    rfl
   rw[hk]
   have e:stepI E (noFault.1==(1:Int)) q.2.1 (hitI noFault q.2.2)=stepI E false q.2.1 q.2.2:=rfl
   simp only[cond_false]
   rw[e,goI_split E f m T (k+1) _ (by omega),show k+1+(T:Int)=k+((T+1:Nat):Int) by omega]
   simp only[Prod.mk.injEq,and_true]
   constructor<;>omega
  ·simp only[cond_true]
   have hd:∀n k',goI E f n k' q=(0,0,q):=fun n k'=>by
    cases n with
    |zero=>rfl
    |succ n=>rw[goI,hq];rfl
   rw[hd]
   simp
theorem goI_hit (E:Env) (f:tFault.den) (m:Nat) (k:Int) (j:Nat) (s:IS) (h:(show Int from f.2.1)=k) :
  goI E f (m+1) k (false,j,s)=((goN E m (stepI E (f.1==(1:Int)) j (hitI f s))).1+1,(bif j==E.h then 1 else 0)+(goN E m (stepI E (f.1==(1:Int)) j (hitI f s))).2.1,(goN E m (stepI E (f.1==(1:Int)) j (hitI f s))).2.2):=by
 have hk:nowX f k=f:=by
  unfold nowX
  rw[show(f.2.1==k)=true from beq_iff_eq.2 h]
  rfl
 rw[goI,hk]
 simp only[cond_false]
 rw[goI_after E f m (k+1) _ (by omega)]
theorem goN_done (E:Env) (n:Nat) {q:IO3} (h:q.1=true):goN E n q=(0,0,q):=by
 cases n with
 |zero=>rfl
 |succ n=>rw[goN,h];rfl
theorem goN_add (E:Env) (m:Nat):∀(n:Nat) (q:IO3),goN E (n+m) q=((goN E n q).1+(goN E m (goN E n q).2.2).1,(goN E n q).2.1+(goN E m (goN E n q).2.2).2.1,(goN E m (goN E n q).2.2).2.2)
 |0,q=>by simp[goN]
 |n+1,q=>by
  rw[show n+1+m=(n+m)+1 by omega,goN,goN]
  cases hq:q.1
  ·simp only[cond_false]
   rw[goN_add E m n]
   simp only[Prod.mk.injEq,and_true]
   constructor<;>omega
  ·simp only[cond_true]
   rw[goN_done E m hq]
   simp
end Go.Av
end
section
namespace Go.Av
open Go
theorem size_encP (op rd rn rm ra imm cond:Int) (w:Bool) (hok:okB op rd rn rm ra imm cond w=true):(bif isLong op w then(4:Int) else 2)=lenI (eBytes op rd rn rm ra imm cond w):=by
 have h:qd (op,rd,rn,rm,ra,imm,cond,w,())=0:=(check_iff op rd rn rm ra imm cond w).2 hok
 obtain⟨_,⟨s1,s2,_⟩ |⟨s1,s2,_,_⟩⟩:=same_bits op rd rn rm ra imm cond w h
 ·have e:eBytes op rd rn rm ra imm cond w=by2 (hb (e1 op rd rn rm ra imm cond w) 0):=by unfold eBytes;rw[s2];rfl
  rw[s1,e]
  rfl
 ·have e:eBytes op rd rn rm ra imm cond w=by2 (hb (e1 op rd rn rm ra imm cond w) 0)++by2 (hb (e2 op rd rn rm ra imm cond w) 0):=by unfold eBytes;rw[s2];rfl
  rw[s1,e]
  rfl
theorem size_encI (i:tIns.den) (h:okI i=true):(bif isLong i.1 i.2.2.2.2.2.2.2.1 then(4:Int) else 2)=lenI (encB i)∧qba i=lenI (encB i):=by
 obtain⟨op,rd,rn,rm,ra,imm,cond,w,u⟩:=i
 have e:=size_encP op rd rn rm ra imm cond w h
 refine⟨e,?_⟩
 have hc:qd (op,rd,rn,rm,ra,imm,cond,w,())=0:=(check_iff op rd rn rm ra imm cond w).2 h
 refine Eq.trans ?_ e
 show(bif qd (op,rd,rn,rm,ra,imm,cond,w,()) != 0 then(0:Int) else bif isLong op w then 4 else 2)=_
 rw[hc]
 rfl
section
variable (it:List tItem.den)
def cntI:Nat→Nat
 |0=>0
 |i+1=>bif (itemAt it i).1==1 then cntI i else cntI i+1
def piI (i:Nat):PI:=bif (itemAt it i).1==2 then .br (itemAt it i).2.2.1.1 (itemAt it i).2.2.1.2.2.2.2.2.2.1 (cntI it (tgt it i)) else .op (itemAt it i).2.2.1
def prgTo:Nat→List PI
 |0=>[]
 |i+1=>bif (itemAt it i).1==1 then prgTo i else prgTo i++[piI it i]
theorem prg_len:∀i,(prgTo it i).length=cntI it i
 |0=>rfl
 |i+1=>by
  have:=prg_len i
  rw[prgTo,cntI]
  cases ((itemAt it i).1==(1:Int))
  ·simp only[cond_false,List.length_append,this,List.length_cons,List.length_nil]
  ·exact this
theorem prg_pre (i:Nat):∀n,i≤n→∃t,prgTo it n=prgTo it i++t
 |0,h=>⟨[],by
  have:i=0:=by omega
  subst this
  simp⟩
 |n+1,h=>by
  rcases Nat.lt_or_ge n i with h' |h'
  ·have:i=n+1:=by omega
   subst this
   exact⟨[],by simp⟩
  ·obtain⟨t,ht⟩:=prg_pre i n h'
   rw[prgTo]
   cases ((itemAt it n).1==(1:Int))
   ·exact⟨t++[piI it n],by simp only[cond_false];rw[ht,List.append_assoc]⟩
   ·exact⟨t,ht⟩
theorem prg_get {i n:Nat} (hi:i<n) (hk:((itemAt it i).1==(1:Int))=false):(prgTo it n)[cntI it i]?=some (piI it i):=by
 obtain⟨t,ht⟩:=prg_pre it (i+1) n hi
 rw[prgTo,hk,cond_false] at ht
 rw[ht,List.append_assoc,←prg_len it i,List.getElem?_append_right (Nat.le_refl _),Nat.sub_self]
 rfl
theorem cnt_inv {j:Nat}:∀{n:Nat},j<cntI it n→∃i,i<n∧((itemAt it i).1==(1:Int))=false∧cntI it i=j
 |0,h=>by cases h
 |n+1,h=>by
  rw[cntI] at h
  cases hk:((itemAt it n).1==(1:Int))
  ·rw[hk,cond_false] at h
   rcases Nat.lt_or_ge j (cntI it n) with h' |h'
   ·obtain⟨i,h1,h2,h3⟩:=cnt_inv h'
    exact⟨i,by omega,h2,h3⟩
   ·exact⟨n,by omega,hk,by omega⟩
  ·rw[hk,cond_true] at h
   obtain⟨i,h1,h2,h3⟩:=cnt_inv h
   exact⟨i,by omega,h2,h3⟩
theorem cnt_mono {i:Nat}:∀{k:Nat},i≤k→cntI it i≤cntI it k
 |0,h=>by rw[show i=0 by omega];exact Nat.le_refl _
 |k+1,h=>by
  rcases Nat.lt_or_ge k i with h' |h'
  ·rw[show i=k+1 by omega];exact Nat.le_refl _
  ·have:=cnt_mono h'
   rw[cntI]
   cases ((itemAt it k).1==(1:Int))
   ·simp only[cond_false];omega
   ·exact this
variable (b:Int) (ws:List Bool)
theorem cnt_pos {i:Nat}:∀{k:Nat},i≤k→cntI it i=cntI it k→posI it b ws i=posI it b ws k
 |0,h,_=>by rw[show i=0 by omega]
 |k+1,h,hc=>by
  rcases Nat.lt_or_ge k i with h' |h'
  ·rw[show i=k+1 by omega]
  ·have hm:=cnt_mono it h'
   rw[cntI] at hc
   cases hk:((itemAt it k).1==(1:Int))
   ·rw[hk,cond_false] at hc
    omega
   ·rw[hk,cond_true] at hc
    rw[cnt_pos h' hc]
    show _=posI it b ws k+sizeJ (itemAt it k) (wd ws k)
    have:(itemAt it k).1=(1:Int):=by simpa using hk
    unfold sizeJ
    rw[this]
    show _=posI it b ws k+0
    omega
def adrI (j:Nat):Int:=posI it b ws ((firstP (fun i=>cntI it i==j) (it.length+1)).getD 0)
theorem adr_at {i:Nat} (hi:i≤it.length):adrI it b ws (cntI it i)=posI it b ws i:=by
 unfold adrI
 cases hf:firstP (fun k=>cntI it k==cntI it i) (it.length+1) with
 |none =>
  have:=firstP_none hf i (by omega)
  simp at this
 |some k =>
  obtain⟨h1,h2,h3⟩:=firstP_some hf
  have hk:cntI it k=cntI it i:=by simpa using h2
  show posI it b ws k=_
  rcases Nat.lt_or_ge i k with h |h
  ·have:=h3 i h
   simp at this
  ·exact cnt_pos it b ws h hk
end
section
variable (it:List tItem.den) (b:Int) (ws:List Bool) (hn:it.length≤21000) (hf:AsmFine it b) (hp:(passTo it b ws it.length).1=false)
include hn hf hp
theorem ins_len {i:Nat} (hi:i<it.length) (hk:((itemAt it i).1==(1:Int))=false):((encB (insM it b ws i)).length:Int)=sizeJ (itemAt it i) (wd ws i):=by
 have h1:=ins_ok it b ws hn hf hp hi hk
 have h2:=ins_size it b ws hn hf hp hi hk
 rw[←h2]
 exact(size_encI _ h1).2.symm
theorem cat_pos:∀{i:Nat},i≤it.length→(((cat (insTo it b ws i)).length:Nat):Int)=posI it b ws i-b
 |0,_=>by simp[insTo,cat,posI]
 |i+1,h=>by
  have ih:=cat_pos (i:=i) (by omega)
  show _=posI it b ws i+sizeJ (itemAt it i) (wd ws i)-b
  rw[insTo]
  cases hk:((itemAt it i).1==(1:Int))
  ·have hl:=ins_len it b ws hn hf hp (show i<it.length by omega) hk
   simp only[cond_false]
   rw[cat_snoc,List.length_append]
   omega
  ·simp only[cond_true]
   have:(itemAt it i).1=(1:Int):=by simpa using hk
   have e:sizeJ (itemAt it i) (wd ws i)=0:=by
    unfold sizeJ
    rw[this]
    rfl
   omega
end
theorem fetch_at (it:List tItem.den) (ws:List Bool) (hn:it.length≤21000) (hf:AsmFine it 64) (hp:(passTo it 64 ws it.length).1=false) (hdr fl:List UInt8) (hh:hdr.length=64) (hfl:fl=hdr++bytesTo it 64 ws it.length) {i:Nat} (hi:i<it.length) (hk:((itemAt it i).1==(1:Int))=false) :
  fetchX fl (posI it 64 ws i)=some (insM it 64 ws i,sizeJ (itemAt it i) (wd ws i)):=by
 obtain⟨hby,_⟩:=insTo_bytes it 64 ws it.length (fun k hk' h=>ins_ok it 64 ws hn hf hp hk' h)
 obtain⟨t,ht⟩:=insTo_pre it 64 ws (i+1) it.length hi
 rw[insTo,hk,cond_false] at ht
 have hcat:cat (insTo it 64 ws it.length)=cat (insTo it 64 ws i)++(encB (insM it 64 ws i)++cat t):=by
  rw[ht]
  unfold cat
  rw[List.flatMap_append,List.flatMap_append]
  simp
 have hpos:=cat_pos it 64 ws hn hf hp (i:=i) (by omega)
 have hok:=ins_ok it 64 ws hn hf hp hi hk
 have hlen:=ins_len it 64 ws hn hf hp hi hk
 have hl2:2≤(encB (insM it 64 ws i)).length:=by rcases encB_len _ hok with e |e<;>omega
 have hb0:=pos_bound it 64 ws i
 have hev:=pos_even it 64 ws i 0
 have hev0:posI it 64 ws 0=64:=rfl
 have hdrop:fl.drop (posI it 64 ws i).toNat=encB (insM it 64 ws i)++cat t:=by
  rw[hfl,hby,hcat,List.drop_append,hh]
  have e1:hdr.drop (posI it 64 ws i).toNat=[]:=List.drop_of_length_le (by omega)
  have e2:(posI it 64 ws i).toNat-64=(cat (insTo it 64 ws i)).length:=by omega
  rw[e1,e2,List.nil_append,List.drop_left]
 have hlt:posI it 64 ws i<lenI fl:=by
  simp only[lenI]
  rw[hfl,hby,hcat]
  simp only[List.length_append,hh]
  omega
 unfold fetchX
 have c1:(band .i64 (posI it 64 ws i) 1 != 0||decide (posI it 64 ws i≥lenI fl))=false:=by
  rw[band_one,dec_false (show ¬posI it 64 ws i≥lenI fl by omega)]
  have:posI it 64 ws i % 2=0:=by omega
  rw[this]
  rfl
 rw[c1,hdrop,dec_encB _ hok,←hlen]
 rfl
theorem asm_prg (it:List tItem.den) (ws:List Bool) (hn:it.length≤21000) (hf:AsmFine it 64) (hp:(passTo it 64 ws it.length).1=false) (hdr fl:List UInt8) (hh:hdr.length=64) (hfl:fl=hdr++bytesTo it 64 ws it.length)
  (hop:∀i,i<it.length→((itemAt it i).1==(0:Int))=true→opK (itemAt it i).2.2.1=true) (hd:tHead.den) (hl:Nat) (hl1:hl≤it.length) (hand:(show Int from hd.2.1)=posI it 64 ws hl) (o r:Nat) (hs:SzOk o r fl.length) :
  PrgOk hd fl ⟨prgTo it it.length,o,r,fl.length,cntI it hl⟩ (adrI it 64 ws):=by
 have hlenP:(prgTo it it.length).length=cntI it it.length:=prg_len it it.length
 have at_:∀j,j<(prgTo it it.length).length→∃i,i<it.length∧((itemAt it i).1==(1:Int))=false∧cntI it i=j∧(prgTo it it.length)[j]?=some (piI it i):=fun j hj=>by
  rw[hlenP] at hj
  obtain⟨i,h1,h2,h3⟩:=cnt_inv it hj
  refine⟨i,h1,h2,h3,?_⟩
  rw[←h3]
  exact prg_get it h1 h2
 have lt_:∀{j:Nat} {p:PI},(prgTo it it.length)[j]?=some p→j<(prgTo it it.length).length:=fun{j p} h=>by
  rcases Nat.lt_or_ge j (prgTo it it.length).length with h' |h'
  ·exact h'
  ·rw[List.getElem?_eq_none h'] at h
   cases h
 have next_:∀{i:Nat},i<it.length→((itemAt it i).1==(1:Int))=false→adrI it 64 ws (cntI it i+1)=posI it 64 ws i+sizeJ (itemAt it i) (wd ws i):=fun{i} h1 h2=>by
  have e:cntI it (i+1)=cntI it i+1:=by rw[cntI,h2];rfl
  rw[←e,adr_at it 64 ws (by omega)]
  rfl
 have size_:∀{i:Nat},i<it.length→((itemAt it i).1==(1:Int))=false→sizeJ (itemAt it i) (wd ws i)=bif isLong (insM it 64 ws i).1 (insM it 64 ws i).2.2.2.2.2.2.2.1 then(4:Int) else 2:=fun{i} h1 h2=>by
  rw[←ins_len it 64 ws hn hf hp h1 h2]
  exact(size_encI _ (ins_ok it 64 ws hn hf hp h1 h2)).1.symm
 have kind_:∀{i:Nat},i<it.length→qcJ (itemAt it i)=true:=fun{i} h=>by
  have:=hf.item i h
  unfold badJ at this
  simpa using this
 refine⟨hs,?_,?_,?_,?_,?_,?_⟩
 ·rw[hand]
  exact(adr_at it 64 ws hl1).symm
 ·show cntI it hl≤(prgTo it it.length).length
  rw[hlenP]
  exact cnt_mono it hl1
 ·intro j hj
  unfold adrI
  have:=pos_bound it 64 ws ((firstP (fun i=>cntI it i==j) (it.length+1)).getD 0)
  have hk:(firstP (fun i=>cntI it i==j) (it.length+1)).getD 0≤it.length:=by
   cases hf:firstP (fun i=>cntI it i==j) (it.length+1) with
   |none=>exact Nat.zero_le _
   |some k =>
    have:=(firstP_some hf).1
    show k≤_
    omega
  omega
 ·show fetchX fl (adrI it 64 ws (prgTo it it.length).length)=none
  rw[hlenP,adr_at it 64 ws (Nat.le_refl _)]
  obtain⟨hby,_⟩:=insTo_bytes it 64 ws it.length (fun k hk' h=>ins_ok it 64 ws hn hf hp hk' h)
  have hpos:=cat_pos it 64 ws hn hf hp (Nat.le_refl _)
  have hge:posI it 64 ws it.length≥lenI fl:=by
   simp only[lenI]
   rw[hfl,hby]
   simp only[List.length_append,hh]
   omega
  unfold fetchX
  rw[dec_true hge,Bool.or_true]
  rfl
 ·intro j i hj
  obtain⟨k,h1,h2,h3,h4⟩:=at_ j (lt_ hj)
  rw[h4] at hj
  have hpi:piI it k=.op i:=by injection hj
  have hk2:((itemAt it k).1==(2:Int))=false:=by
   cases hk2:((itemAt it k).1==(2:Int))
   ·rfl
   ·unfold piI at hpi
    rw[hk2] at hpi
    cases hpi
  have hi:(itemAt it k).2.2.1=i:=by
   unfold piI at hpi
   rw[hk2] at hpi
   injection hpi
  have hk0:((itemAt it k).1==(0:Int))=true:=by
   rcases item_kinds _ (kind_ h1) with e |e |⟨e,_⟩
   ·rw[e];rfl
   ·rw[e] at h2;cases h2
   ·rw[e] at hk2;cases hk2
  have hins:insM it 64 ws k=i:=by
   unfold insM
   rw[hk2,←hi]
   rfl
  have hft:=fetch_at it ws hn hf hp hdr fl hh hfl h1 h2
  have hsz:=size_ h1 h2
  rw[hins] at hft hsz
  rw[←h3]
  refine⟨hi▸hop k h1 hk0,?_,?_⟩
  ·rw[adr_at it 64 ws (by omega),hft,hsz]
  ·rw[next_ h1 h2,adr_at it 64 ws (by omega),hsz]
 ·intro j o' c t hj
  obtain⟨k,h1,h2,h3,h4⟩:=at_ j (lt_ hj)
  rw[h4] at hj
  have hpi:piI it k=.br o' c t:=by injection hj
  have hk2:((itemAt it k).1==(2:Int))=true:=by
   cases hk2:((itemAt it k).1==(2:Int))
   ·unfold piI at hpi
    rw[hk2] at hpi
    cases hpi
   ·rfl
  unfold piI at hpi
  rw[hk2,cond_true] at hpi
  injection hpi with e1 e2 e3
  have hbr:((itemAt it k).1 != (2:Int))=false:=by
   unfold bne
   rw[hk2]
   rfl
  obtain⟨_,t2⟩:=tgt_some it hf.miss h1 hbr
  have hins:insM it 64 ws k=(o',0,0,0,0,offM it 64 ws k,c,wd ws k,()):=by
   unfold insM
   rw[hk2,←e1,←e2]
   rfl
  have hok:=ins_ok it 64 ws hn hf hp h1 h2
  have hft:=fetch_at it ws hn hf hp hdr fl hh hfl h1 h2
  have hszJ:sizeJ (itemAt it k) (wd ws k)=bif wd ws k then(4:Int) else 2:=by
   have:(itemAt it k).1=(2:Int):=by simpa using hk2
   unfold sizeJ
   rw[this]
   rfl
  rw[hins] at hft hok
  have ho:o'=24∨o'=25:=by
   rcases item_kinds _ (kind_ h1) with e |e |⟨_,⟨e,_⟩ |⟨e,_⟩⟩
   ·rw[e] at hk2;cases hk2
   ·rw[e] at h2;cases h2
   ·left;rw[←e1];exact e
   ·right;rw[←e1];exact e
  rw[←h3,←e3]
  refine⟨?_,ho,offM it 64 ws k,wd ws k,hok,?_,?_,?_⟩
  ·show cntI it (tgt it k)≤(prgTo it it.length).length
   rw[hlenP]
   exact cnt_mono it (by omega)
  ·rw[adr_at it 64 ws (by omega),hft,hszJ]
  ·rw[next_ h1 h2,adr_at it 64 ws (by omega),hszJ]
  ·rw[adr_at it 64 ws (by omega),adr_at it 64 ws (by omega)]
   unfold offM
   omega
end Go.Av
end
section
namespace Go.Av
open Go
def labsL:List tItem.den→List Int
 |[]=>[]
 |j::l=>bif j.1==1 then j.2.1::labsL l else labsL l
def jOk (ls:List Int) (j:tItem.den):Bool :=
 bif j.1==0 then opK j.2.2.1 else bif j.1==1 then true else j.1==2&&(((j.2.2.1.1==24&&j.2.2.1.2.2.2.2.2.2.1==0)||(j.2.2.1.1==25&&(decide (0≤j.2.2.1.2.2.2.2.2.2.1)&&decide (j.2.2.1.2.2.2.2.2.2.1≤13))))&&ls.contains j.2.1)
structure ItOk (it:List tItem.den):Prop where
 len:it.length≤21000
 all:∀j∈it,jOk (labsL it) j=true
 nodup:(labsL it).Nodup
theorem item_mem {it:List tItem.den} {i:Nat} (h:i<it.length):itemAt it i∈it:=by
 unfold itemAt
 rw[getD_in it _ h]
 exact List.getElem_mem h
theorem labs_mem {it:List tItem.den} {l:Int}:l∈labsL it↔∃i,i<it.length∧isLab it l i=true:=by
 induction it with
 |nil=>simp[labsL]
 |cons j r ih =>
  have hs:∀i,isLab (j::r) l (i+1)=isLab r l i:=fun i=>rfl
  have h0:isLab (j::r) l 0=(j.1==1&&j.2.1==l):=rfl
  have hx:(∃i,i<(j::r).length∧isLab (j::r) l i=true)↔(j.1==1&&j.2.1==l)=true∨∃i,i<r.length∧isLab r l i=true:=by
   constructor
   ·rintro⟨i,h1,h2⟩
    cases i with
    |zero=>left;rw[←h0];exact h2
    |succ i=>right;exact⟨i,by simpa using h1,by rw[←hs];exact h2⟩
   ·rintro(h |⟨i,h1,h2⟩)
    ·exact⟨0,by simp,by rw[h0];exact h⟩
    ·exact⟨i+1,by simpa using h1,by rw[hs];exact h2⟩
  rw[hx]
  simp only[labsL]
  cases hj:(j.1==(1:Int))
  ·simp only[cond_false,Bool.false_and,Bool.false_eq_true,false_or]
   exact ih
  ·simp only[cond_true,List.mem_cons,Bool.true_and,beq_iff_eq]
   rw[ih]
   constructor
   ·rintro(h |h)
    ·exact .inl h.symm
    ·exact .inr h
   ·rintro(h |h)
    ·exact .inl h.symm
    ·exact .inr h
theorem labs_uniq {it:List tItem.den} {l:Int} (hn:(labsL it).Nodup):∀{i k:Nat},i<it.length→k<it.length→isLab it l i=true→isLab it l k=true→i=k:=by
 induction it with
 |nil=>intro i k h;cases h
 |cons j r ih =>
  intro i k hi hk h1 h2
  simp only[labsL] at hn
  have h0:isLab (j::r) l 0=(j.1==1&&j.2.1==l):=rfl
  have hs:∀i,isLab (j::r) l (i+1)=isLab r l i:=fun i=>rfl
  have key:∀m,m<r.length→isLab r l m=true→isLab (j::r) l 0=true→False:=fun m hm h3 h4=>by
   rw[h0,Bool.and_eq_true,beq_iff_eq,beq_iff_eq] at h4
   have hb:(j.1==(1:Int))=true:=by rw[h4.1];rfl
   rw[hb,cond_true] at hn
   have:=(List.nodup_cons.1 hn).1
   rw[h4.2] at this
   exact this (labs_mem.2 ⟨m,hm,h3⟩)
  cases i with
  |zero =>
   cases k with
   |zero=>rfl
   |succ k=>exact(key k (by simpa using hk) (by rw[←hs];exact h2) h1).elim
  |succ i =>
   cases k with
   |zero=>exact(key i (by simpa using hi) (by rw[←hs];exact h1) h2).elim
   |succ k =>
    have hn':(labsL r).Nodup:=by
     cases hb:(j.1==(1:Int))
     ·rw[hb,cond_false] at hn;exact hn
     ·rw[hb,cond_true] at hn;exact(List.nodup_cons.1 hn).2
    have:=ih hn' (i:=i) (k:=k) (by simpa using hi) (by simpa using hk) (by rw[←hs];exact h1) (by rw[←hs];exact h2)
    omega
theorem opK_ok {i:tIns.den} (h:opK i=true):okI i=true:=by
 unfold opK at h
 rw[Bool.and_eq_true] at h
 exact h.1
theorem branch_ok (op rd rn rm ra imm cond:Int) (w:Bool) (u:Unit) (h:((op==24&&cond==0)||(op==25&&(decide (0≤cond)&&decide (cond≤13))))=true):qdy (op,rd,rn,rm,ra,imm,cond,w,u)=true:=by
 unfold qdy qfi PO.getO
 simp only[PO.val]
 by_cases g:op=24
 ·subst g
  have h':(cond==(0:Int))=true:=by
   rw[Bool.or_eq_true] at h
   rcases h with h |h
   ·rw[Bool.and_eq_true] at h;exact h.2
   ·rw[Bool.and_eq_true] at h;cases h.1
  show(cond==(0:Int))=true
  exact h'
 ·have e:(op==(24:Int))=false:=beq_eq_false_iff_ne.2 g
  rw[e,Bool.false_and,Bool.false_or,Bool.and_eq_true] at h
  have e2:op=25:=by simpa using h.1
  subst e2
  have h2:=h.2
  rw[Bool.and_eq_true] at h2
  show(decide (cond≥0)&&decide (cond≤13))=true
  rw[Bool.and_eq_true]
  exact⟨h2.1,h2.2⟩
theorem itok_fine {it:List tItem.den} (h:ItOk it):AsmFine it 64:=by
 have hj:∀i,i<it.length→jOk (labsL it) (itemAt it i)=true:=fun i hi=>h.all _ (item_mem hi)
 refine⟨rfl,fun i hi=>?_,fun i hi=>?_,fun i hi=>?_,fun i hi=>?_,?_⟩
 ·have:=hj i hi
  unfold badJ
  generalize itemAt it i=j at this
  obtain⟨k,l,⟨op,rd,rn,rm,ra,imm,cond,w,u⟩,u'⟩:=j
  have hv:qcJ (k,l,(op,rd,rn,rm,ra,imm,cond,w,u),u')=true:=by
   unfold qcJ qg8 PO.getO
   simp only[PO.val]
   unfold jOk at this
   dsimp only at this
   cases e0:(k==(0:Int))
   ·rw[e0,cond_false] at this
    cases e1:(k==(1:Int))
    ·rw[e1,cond_false,Bool.and_eq_true,Bool.and_eq_true] at this
     obtain⟨e2,e3,_⟩:=this
     have hb:=branch_ok op rd rn rm ra imm cond w u e3
     simp only[e2,cond_true,cond_false]
     simpa using hb
    ·simp only[cond_true,cond_false]
     rfl
   ·simp only[cond_true]
    rfl
  rw[hv]
  rfl
 ·have:=hj i hi
  unfold chkAt
  unfold jOk at this
  cases e0:((itemAt it i).1==(0:Int))
  ·rfl
  ·rw[e0,cond_true] at this
   have:=(qlv _).2 (opK_ok this)
   rw[this]
   rfl
 ·unfold dupAt
  cases e1:((itemAt it i).1==(1:Int))
  ·rfl
  ·rw[Bool.true_and]
   cases hf:firstP (isLab it (itemAt it i).2.1) i with
   |none=>rfl
   |some k =>
    obtain⟨k1,k2,_⟩:=firstP_some hf
    have hi':isLab it (itemAt it i).2.1 i=true:=by
     unfold isLab
     rw[e1]
     simp
    have:=labs_uniq h.nodup (by omega) hi k2 hi'
    omega
 ·unfold missAt
  cases e2:((itemAt it i).1==(2:Int))
  ·rfl
  ·rw[Bool.true_and]
   have hb:(itemAt it i).1=(2:Int):=by simpa using e2
   have:=hj i hi
   unfold jOk at this
   rw[hb] at this
   have this:((2:Int)==2&&((((itemAt it i).2.2.1.1==24&&(itemAt it i).2.2.1.2.2.2.2.2.2.1==0)||((itemAt it i).2.2.1.1==25&&(decide (0≤(itemAt it i).2.2.1.2.2.2.2.2.2.1)&&decide ((itemAt it i).2.2.1.2.2.2.2.2.2.1≤13))))&&(labsL it).contains (itemAt it i).2.1))=true:=this
   rw[Bool.and_eq_true,Bool.and_eq_true] at this
   have hm:=this.2.2
   rw[List.contains_iff_mem] at hm
   obtain⟨k,k1,k2⟩:=labs_mem.1 hm
   cases hf:firstP (isLab it (itemAt it i).2.1) it.length with
   |none =>
    have:=firstP_none hf k k1
    rw[k2] at this
    cases this
   |some _=>rfl
 ·have:=pos_bound it 0 (allT it) it.length
  have:=h.len
  omega
def cntL (l:Int):List tItem.den→Nat
 |[]=>0
 |j::r=>bif j.1==1 then(bif j.2.1==l then 0 else cntL l r) else cntL l r+1
def piL (f:Int→Nat) (j:tItem.den):PI:=bif j.1==2 then .br j.2.2.1.1 j.2.2.1.2.2.2.2.2.2.1 (f j.2.1) else .op j.2.2.1
def stripL (f:Int→Nat):List tItem.den→List PI
 |[]=>[]
 |j::r=>bif j.1==1 then stripL f r else piL f j::stripL f r
theorem cntI_cons (j:tItem.den) (r:List tItem.den):∀i,cntI (j::r) (i+1)=(bif j.1==1 then 0 else 1)+cntI r i
 |0=>by
  show(bif j.1==1 then 0 else 0+1)=_
  cases (j.1==(1:Int))<;>rfl
 |i+1=>by
  have ih:=cntI_cons j r i
  rw[cntI,ih]
  show(bif (itemAt r i).1==1 then _ else _)=_+(bif (itemAt r i).1==1 then _ else _)
  cases ((itemAt r i).1==(1:Int))<;>simp only[cond_true,cond_false]<;>omega
theorem cnt_lab (l:Int):∀(it:List tItem.den) (k:Nat),k<it.length→isLab it l k=true→(∀i,i<k→isLab it l i=false)→cntI it k=cntL l it
 |[],_,h,_,_=>by cases h
 |j::r,0,_,h,_=>by
  have h0:(j.1==1&&j.2.1==l)=true:=h
  rw[Bool.and_eq_true] at h0
  show 0=bif j.1==1 then(bif j.2.1==l then 0 else cntL l r) else cntL l r+1
  rw[h0.1,h0.2]
  rfl
 |j::r,k+1,hk,h,hb=>by
  have ih:=cnt_lab l r k (by simpa using hk) h (fun i hi=>hb (i+1) (by omega))
  have h0:(j.1==1&&j.2.1==l)=false:=hb 0 (by omega)
  rw[cntI_cons,ih,cntL]
  cases hj:(j.1==(1:Int))
  ·simp only[cond_false];omega
  ·rw[hj,Bool.true_and] at h0
   rw[h0]
   simp
theorem strip_snoc (f:Int→Nat) (j:tItem.den):∀l:List tItem.den,stripL f (l++[j])=bif j.1==1 then stripL f l else stripL f l++[piL f j]
 |[]=>by
  simp only[List.nil_append,stripL]
 |i::l=>by
  rw[List.cons_append,stripL,strip_snoc f j l,stripL]
  cases (i.1==(1:Int))<;>cases (j.1==(1:Int))<;>rfl
theorem prg_strip {it:List tItem.den} (h:ItOk it):prgTo it it.length=stripL (fun l=>cntL l it) it:=by
 have key:∀n,n≤it.length→prgTo it n=stripL (fun l=>cntL l it) (it.take n):=by
  intro n
  induction n with
  |zero=>intro _;rfl
  |succ n ih =>
   intro hn
   have hlt:n<it.length:=by omega
   have hi:it[n]=itemAt it n:=(getD_in it _ hlt).symm
   rw[prgTo,ih (by omega),List.take_succ_eq_append_getElem hlt,hi,strip_snoc]
   cases hk:((itemAt it n).1==(1:Int))
   ·simp only[cond_false]
    congr 2
    unfold piI piL
    cases hk2:((itemAt it n).1==(2:Int))
    ·rfl
    ·simp only[cond_true]
     have hf:=itok_fine h
     have hbr:((itemAt it n).1 != (2:Int))=false:=by
      unfold bne
      rw[hk2]
      rfl
     obtain⟨t1,t2⟩:=tgt_some it hf.miss hlt hbr
     obtain⟨s1,s2,s3⟩:=firstP_some t1
     rw[cnt_lab _ it (tgt it n) t2 s2 s3]
   ·rfl
 have:=key it.length (Nat.le_refl _)
 rw[List.take_length] at this
 exact this
theorem cntL_pre (l:Int):∀(pre H:List tItem.den),(∀j∈pre,(j.1==(1:Int))=false)→cntL l (pre++H)=pre.length+cntL l H
 |[],H,_=>by simp
 |j::r,H,h=>by
  have hj:=h j (by simp)
  have ih:=cntL_pre l r H (fun i hi=>h i (by simp[hi]))
  rw[List.cons_append,cntL,hj,cond_false,ih,List.length_cons]
  omega
theorem strip_pre (f:Int→Nat):∀(pre H:List tItem.den),(∀j∈pre,(j.1==(0:Int))=true)→stripL f (pre++H)=pre.map (fun j=>.op j.2.2.1)++stripL f H
 |[],H,_=>rfl
 |j::r,H,h=>by
  have hj:=h j (by simp)
  have hj0:j.1=(0:Int):=by simpa using hj
  have ih:=strip_pre f r H (fun i hi=>h i (by simp[hi]))
  rw[List.cons_append,stripL,ih]
  have e1:(j.1==(1:Int))=false:=by rw[hj0];rfl
  have e2:(j.1==(2:Int))=false:=by rw[hj0];rfl
  rw[e1,cond_false,List.map_cons,List.cons_append]
  congr 1
  unfold piL
  rw[e2]
  rfl
end Go.Av
end
section
namespace Go.Av
open Go
def zeroL (h:Int):List tItem.den:=its [ldrI 0 5,movw 2 0,cmpI 0 2]++[itC 1 h]
def wipe1 (ref:Bool) (base n a:Int):List tItem.den:=headL ref n a++its [movw 0 0]++its (addrI ref 5 base 1)++its [strI 0 5]++tailL a
def look1 (ref:Bool) (base n a h:Int):List tItem.den:=headL ref n a++its (addrI ref 5 base 1)++zeroL h++tailL a
def handL (ref:Bool) (l:Nat→Int) (s:tSizes.den) (twice:Bool) (h:Int):List tItem.den :=
 [itL h]++its [movw 0 0]++its (wordI ref 5 537919488)++its [strI 0 5] ++
 wipe1 ref 537001984 s.2.1 (l 0)++wipe1 ref 537133056 s.2.2.1 (l 1)++wipe1 ref 537395200 s.2.2.1 (l 2) ++
 look1 ref 537001984 s.2.1 (l 3) h++look1 ref 537133056 s.2.2.1 (l 4) h++look1 ref 537395200 s.2.2.1 (l 5) h ++
 its (wordI ref 5 537919488)++zeroL h++its (wordI ref 5 538968064)++its (wordI ref 0 195890093)++its [strI 0 5,bkptI]++(match twice with
  |true=>its [bkptI]
  |false=>[])
def lab (ref:Bool) (first:Int) (k:Nat):Int:=match ref with
 |true=>w64 (first+(2*k:Nat))
 |false=>match k with
  |0=>w64 (first+0)
  |1=>w64 (first+2)
  |2=>w64 (first+4)
  |3=>w64 (w64 (first+6)+0)
  |4=>w64 (w64 (first+6)+2)
  |_=>w64 (w64 (first+6)+4)
abbrev qfy:List Ty:=[tSizes,.bool,tI,tI]
abbrev qkM:Sh:=.osl 32 tItem
def qi1 (x:dens qfy):PO (List tItem.den):=.ite x.2.1 (.ret (handL false (lab false x.2.2.2) x.1 true x.2.2.1)) (.ret (handL false (lab false x.2.2.2) x.1 false x.2.2.1))
def qiZ (_:dens qfy):Bool:=true
def qbD (x:dens qfy):List tItem.den:=handL false (lab false x.2.2.2) x.1 x.2.1 x.2.2.1
theorem qlJ (x:dens qfy) (_:qiZ x=true):(qi1 x).val=some (qbD x):=by
 unfold qi1 qbD
 cases x.2.1<;>rfl
abbrev qc9:List Ty:=[]
abbrev qiD:Sh:=.ty .bool
def qiF (_:dens qc9):PO Bool:=.ret true
def qfP (_:dens qc9):Bool:=true
def qfE (_:dens qc9):Bool:=true
theorem qkO (x:dens qc9) (_:qfP x=true):(qiF x).val=some (qfE x):=rfl
end Go.Av
end
section
namespace Go.Av
open Go
def unlikeL (frm h:Int):List tItem.den:=its [ldrI 2 frm,cmpI 0 2]++[itC 1 h]
def gateL (ref:Bool) (b1 b2:Bool) (image out h first:Int):List tItem.den :=
 headL ref out first++its [movw 3 (lo ref image),addI 4 1 3]++its (addrI ref 5 537133056 4)++its (addrI ref 6 537001984 1)++its [ldrI 0 5,strI 0 6]++tailL first ++
 (match b1 with
  |true=>headL ref out (w64 (first+2))++its [movw 3 (lo ref image),addI 4 1 3]++its (addrI ref 5 537133056 4)++its (addrI ref 7 537395200 4)++its (addrI ref 6 537001984 1)++its [ldrI 0 6]++unlikeL 5 h++unlikeL 7 h++tailL (w64 (first+2))
  |false=>[]) ++
 its (wordI ref 5 537919488)++its (wordI ref 0 3235799053)++its [strI 0 5,bkptI]++(match b2 with
  |true=>its [bkptI]
  |false=>[])
abbrev qht:List Ty:=[tI,tI,.bool,tI,tI]
abbrev qli:Sh:=.osl 32 tItem
def qln (x:dens qht):PO (List tItem.den):=two x.2.2.1 fun b1 b2=>.ret (gateL false b1 b2 x.1 x.2.1 x.2.2.2.1 x.2.2.2.2)
def qkA (_:dens qht):Bool:=true
def qhi (x:dens qht):List tItem.den:=gateL false x.2.2.1 x.2.2.1 x.1 x.2.1 x.2.2.2.1 x.2.2.2.2
theorem qmx (x:dens qht) (_:qkA x=true):(qln x).val=some (qhi x):=two_val _ _
abbrev qcY:List Ty:=[]
abbrev qiy:Sh:=.ty .bool
def qix (_:dens qcY):PO Bool:=.ret true
def qfQ (_:dens qcY):Bool:=true
def qfF (_:dens qcY):Bool:=true
theorem qkI (x:dens qcY) (_:qfQ x=true):(qix x).val=some (qfF x):=rfl
end Go.Av
end
section
namespace Go.Av
open Go
def qby:LoopN where
 M:=[0,2,5,6]
 T:=[3,7,8,9,10,11,12,13]
 D:=[0,5,6]
 ss:=[.ty .str,.ty .bool,.ty (.int .i64),.ty (.int .i64)]
 hs:=[]
 es:=[.exit 0,.ret]
 σ:=(Ty.den .bool)×(Ty.den (.int .i64))
 x0:=fun x _=>(x.2.1,x.2.2.2)
 put:=fun x _ s=>((x.1,s.1,x.2.2.1,s.2),())
 fuel:=fun x _=>List.length x.1+1
 turn:=fun x _ s =>
 (.ite (decide (s.2<x.2.2.1))
  (.ite (inRange s.2 (List.length x.1))
  (.ite (u8I (List.getD x.1 (Int.toNat s.2) 0) != 0)
   (.ret (.out 1 (false,s.2)))
   (.ret (.on (s.1,w64 (s.2+1)))))
  .fail)
  (.ret (.out 0 (s.1,s.2))))
abbrev qfl:List Ty:=[.str]
abbrev qkL:Sh:=.ty .bool
def qi3 (x:dens qfl):PO Bool :=
 (.opt (LoopN.res qby (x,false,lenI x,0) ()) fun p0 =>
  (.ite (way p0.1)
  (.ret (true))
  (.ret (p0.2.1))))
def qea (x:dens qfl):Bool:=decide (List.length x<9223372036854775808)
def qb5 (x:dens qfl):Bool:=(x:List UInt8).all (·==0)
theorem zero_run (l:List UInt8) (hb:l.length<9223372036854775808):∀(k i:Nat),i+k=l.length→∀f,k<f →
  runL (qby.turn (l,false,(l.length:Int),0) ()) f (false,(i:Int))=some (bif (l.drop i).all (·==0) then(0,false,(l.length:Int)) else(1,false,((i+((l.drop i).takeWhile (·==0)).length:Nat):Int)))
 |0,i,h,f,hf=>by
  obtain⟨f,rfl⟩:∃g,f=g+1:=⟨f-1,by omega⟩
  rw[List.drop_of_length_le (by omega)]
  refine runL_out ?_
  simp only[qby,PO.val,dec_false (show ¬(i:Int)<(l.length:Int) by omega),cond_false]
  have:i=l.length:=by omega
  subst this
  rfl
 |k+1,i,h,f,hf=>by
  obtain⟨f,rfl⟩:∃g,f=g+1:=⟨f-1,by omega⟩
  have hi:i<l.length:=by omega
  rw[List.drop_eq_getElem_cons hi]
  have h1:decide ((i:Int)<(l.length:Int))=true:=dec_true (by omega)
  have h2:l.getD i 0=l[i]:=by rw[List.getD_eq_getElem?_getD,List.getElem?_eq_getElem hi];rfl
  cases hc:(l[i]==0)
  ·have:((l[i].toNat:Int) != 0)=true:=by
    simp only[beq_eq_false_iff_ne,ne_eq] at hc
    simp only[bne_iff_ne,ne_eq]
    intro h0
    apply hc
    have:l[i].toNat=0:=by omega
    exact UInt8.toNat_inj.1 this
   simp only[List.all_cons,hc,Bool.false_and,cond_false,List.takeWhile_cons,Bool.false_eq_true,if_false,List.length_nil,Nat.add_zero]
   refine runL_out ?_
   simp only[qby,PO.val,h1,inR hi,cond_true,getD_nat,h2,this]
  ·have:((l[i].toNat:Int) != 0)=false:=by
    simp only[beq_iff_eq] at hc
    rw[hc]
    rfl
   have ht:(qby.turn (l,false,(l.length:Int),0) () (false,(i:Int))).val=some (.on (false,((i+1:Nat):Int))):=by
    simp only[qby,PO.val,h1,inR hi,cond_true,getD_nat,h2,this,cond_false]
    rw[w64_id (by omega) (by omega)]
    rfl
   refine(runL_on ht).trans ((zero_run l hb k (i+1) (by omega) f (by omega)).trans ?_)
   simp only[List.all_cons,hc,Bool.true_and,List.takeWhile_cons,if_true,List.length_cons]
   rw[show i+1+((l.drop (i+1)).takeWhile (·==0)).length=i+(((l.drop (i+1)).takeWhile (·==0)).length+1) by omega]
theorem qlM (x:dens qfl) (h:qea x=true):(qi3 x).val=some (qb5 x):=by
 have hb:List.length x<9223372036854775808:=of_decide_eq_true h
 have:=zero_run x hb (List.length x) 0 (by omega) (List.length x+1) (by omega)
 have e:LoopN.res qby (x,false,lenI x,0) ()=_:=this
 unfold qi3 PO.val
 rw[e]
 simp only[List.drop_zero,qb5]
 cases (x:List UInt8).all (·==0)<;>rfl
abbrev qeU:List Ty:=[tResult]
abbrev qgl:Sh:=Sh.ty Ty.bool
def qgo (x:dens qeU):PO (Sh.den qgl) :=
 (.ite (bif x.2.2.2.2.1==0 then qea x.2.2.2.2.2.2.1&&bif qb5 x.2.2.2.2.2.2.1 then qea x.2.2.2.2.2.2.2.1&&bif qb5 x.2.2.2.2.2.2.2.1 then qea x.2.2.2.2.2.2.2.2.1 else true else true else true)
  (.ret (x.2.2.2.2.1==0&&(qb5 x.2.2.2.2.2.2.1&&(qb5 x.2.2.2.2.2.2.2.1&&qb5 x.2.2.2.2.2.2.2.2.1))))
  .fail)
def qiG (x:dens qeU):Bool:=(qgo x).val.isSome
def qiJ (x:dens qeU):Sh.den qgl:=(qgo x).getO default
theorem qlw (x:dens qeU) (h:qiG x=true):(qgo x).val=some (qiJ x):=PO.getO_ok default h
abbrev qfs:List Ty:=[tResult,tResult]
abbrev qhc:Sh:=Sh.ty Ty.bool
def qg3 (x:dens qfs):PO (Sh.den qhc) :=
 (.ret (x.1.1==x.2.1&&(x.1.2.2.2.2.1==x.2.2.2.2.2.1&&(x.1.2.2.2.2.2.1==x.2.2.2.2.2.2.1&&x.1.2.2.2.2.2.2.1==x.2.2.2.2.2.2.2.1))))
def qi2 (_:dens qfs):Bool:=true
def qec (x:dens qfs):Sh.den qhc:=(qg3 x).getO default
theorem qlL (x:dens qfs) (_:qi2 x=true):(qg3 x).val=some (qec x):=PO.sure_ok default (by simp[qg3,PO.sure])
abbrev qgP:List Ty:=[tResult]
abbrev qiK:Sh:=Sh.ty tOutcome
def qgL (x:dens qgP):PO (Sh.den qiK) :=
 (.ite (!x.1)
  (.ret ((0,[],())))
  (.ite (x.2.2.2.2.1==3235799053)
  (.ret ((1,x.2.2.2.2.2.2.1,())))
  (.ite (x.2.2.2.2.2.1==195890093)
   (.ret ((2,[],())))
   (.ret ((3,[],()))))))
def qkc (_:dens qgP):Bool:=true
def qfA (x:dens qgP):Sh.den qiK:=(qgL x).getO default
theorem qmk (x:dens qgP) (_:qkc x=true):(qgL x).val=some (qfA x):=PO.sure_ok default (by simp[qgL,PO.sure])
abbrev qeF:List Ty:=[tSizes]
abbrev qgp:Sh:=Sh.ty (Ty.int IntKind.i64)
def qgr (x:dens qeF):PO (Sh.den qgp) :=
 (.ite (qI (x,0) != 0)
  (.ret (0))
  (.ret (w64 (w64 (32*w64 (x.2.1+w64 (2*x.2.2.1)))+256))))
def qij (_:dens qeF):Bool:=true
def qiv (x:dens qeF):Sh.den qgp:=(qgr x).getO default
theorem qlt (x:dens qeF) (_:qij x=true):(qgr x).val=some (qiv x):=PO.sure_ok default (by simp[qgr,PO.sure])
end Go.Av
end
section
namespace Go.Av
open Go
abbrev tStore:Ty:=.pair (.int .i64) (.pair (.int .i64) (.pair (.int .i64) .unit))
abbrev tCase:Ty:=.pair (.int .i64) (.pair (.int .i64) (.pair (.sl tStore) (.pair .bool .unit)))
abbrev qj6 (x:dens qd8):List tIns.den:=bif decide (x.1<0)||decide (x.1 > 7) then[] else[(3,x.1,0,0,0,band IntKind.i64 x.2 65535,0,false,()),(4,x.1,0,0,0,band IntKind.i64 (ishr IntKind.i64 x.2 16) 65535,0,false,())]
abbrev qle:List Ty:=qd8
abbrev qla:Sh:=qmI
abbrev qk8 (x:dens qd8):PO (List tIns.den):=qkt x
abbrev qj7 (x:dens qd8):Bool:=qlo x
theorem qmj (x:dens qle) (h:qj7 x=true):(qk8 x).val=some (qj6 x):=qmv x h
def frontL (hd:tHead.den):List Int:=[List.getD (qt hd) (Int.toNat 0) (Ty.dflt (.int .i64)),List.getD (qt hd) (Int.toNat 1) (Ty.dflt (.int .i64)),List.getD (qt hd) (Int.toNat 2) (Ty.dflt (.int .i64)),List.getD (qt hd) (Int.toNat 3) (Ty.dflt (.int .i64)),
 List.getD (qt hd) (Int.toNat 4) (Ty.dflt (.int .i64)),List.getD (qt hd) (Int.toNat 5) (Ty.dflt (.int .i64)),List.getD (qt hd) (Int.toNat 6) (Ty.dflt (.int .i64)),List.getD (qt hd) (Int.toNat 7) (Ty.dflt (.int .i64)),
 List.getD (qt hd) (Int.toNat 8) (Ty.dflt (.int .i64)),List.getD (qt hd) (Int.toNat 9) (Ty.dflt (.int .i64)),List.getD (qt hd) (Int.toNat 10) (Ty.dflt (.int .i64)),List.getD (qt hd) (Int.toNat 11) (Ty.dflt (.int .i64)),
 List.getD (qt hd) (Int.toNat 12) (Ty.dflt (.int .i64)),List.getD (qt hd) (Int.toNat 13) (Ty.dflt (.int .i64)),List.getD (qt hd) (Int.toNat 14) (Ty.dflt (.int .i64)),List.getD (qt hd) (Int.toNat 15) (Ty.dflt (.int .i64))]
def qdI:LoopN where
 M:=[1,7,19,20]
 T:=[9,21,22,23,24,25,26]
 D:=[19,20]
 ss:=[.ty .str,.box 0 0,.ty (.arr 16 (.int .i64)),.ty (.int .i64)]
 hs:=[shBldL 0 0]
 es:=[.exit 0]
 σ:=(Ty.den (.int .i64))×(Sh.den (shBldL 0 0))
 x0:=fun x y=>(x.2.2.2,y)
 put:=fun x _ s=>((x.1,x.2.1,x.2.2.1,s.1),s.2)
 fuel:=fun _ _=>17
 turn:=fun x _ s =>
 (.ite (decide (s.1<16))
  (.ite (inRange s.1 16)
  (.ite (qcK s.2.2.1 (qD (List.getD x.2.2.1 (Int.toNat s.1) (Ty.dflt (Ty.int IntKind.i64)))))
   (.ret (.on (w64 (s.1+1),((),qd7 s.2.2.1 (qD (List.getD x.2.2.1 (Int.toNat s.1) (Ty.dflt (Ty.int IntKind.i64)))),()))))
   .fail)
  .fail)
  (.ret (.out 0 (s.1,s.2))))
abbrev qfY:List Ty:=[tHead,.str]
abbrev qhQ:Sh:=Sh.tup (Sh.pair (Sh.ty Ty.str) (Sh.pair (Sh.ty (Ty.int IntKind.i64)) (Sh.ty Ty.unit)))
def qjH (x:dens qfY):PO (Sh.den qhQ) :=
 (.ite (qO (x.1,w64 (64+lenI x.2)) != 0)
  (.ret (([],qO (x.1,w64 (64+lenI x.2)),())))
  (.opt (LoopN.res qdI (x.2,(),qt x.1,0) ((),[],())) fun p0 =>
  (.ite (qcK p0.2.2.2.1 x.2)
   (.ret (qd7 p0.2.2.2.1 x.2,0,()))
   .fail)))
def headB (hd:tHead.den):List UInt8:=(frontL hd).flatMap qD
def headTo (fr:List Int) (k:Nat):List UInt8:=(List.range k).flatMap fun(i:Nat)=>qD (List.getD fr (Int.toNat (i:Int)) (Ty.dflt (.int .i64)))
theorem headTo_all (hd:tHead.den):headTo (qt hd) 16=headB hd:=by
 have h:List.range 16=[0,1,2,3,4,5,6,7,8,9,10,11,12,13,14,15]:=by decide
 unfold headTo headB frontL
 rw[h]
 simp only[List.flatMap_cons,List.flatMap_nil]
 rfl
theorem headTo_next (fr:List Int) (k:Nat):headTo fr (k+1)=headTo fr k++qD (List.getD fr (Int.toNat (k:Int)) (Ty.dflt (.int .i64))):=by
 unfold headTo
 rw[List.range_succ,List.flatMap_append]
 simp
theorem bytes_wlen (n:Int):(qD n).length=4:=rfl
theorem headTo_len (fr:List Int):∀k,(headTo fr k).length=4*k
 |0=>rfl
 |k+1=>by rw[headTo_next,List.length_append,headTo_len fr k,bytes_wlen];omega
theorem bld_fit (acc:List UInt8) (w:Int) (h:acc.length≤64):qcK acc (qD w)=true:=by
 unfold qcK
 rw[Nat.ble_eq,bytes_wlen];omega
theorem bld_on (code:List UInt8) (fr:List Int) (k:Nat) (hk:k<16) (acc:List UInt8) (w:List UInt8) (hw:qD (List.getD fr (Int.toNat (k:Int)) (Ty.dflt (.int .i64)))=w) (hf:qcK acc w=true) :
  (qdI.turn (code,(),fr,0) ((),[],()) ((k:Int),((),acc,()))).val=some (.on (((k+1:Nat):Int),((),acc++w,()))):=by
 subst hw
 refine(val_yes (dec_true (show(k:Int)<16 by omega))).trans ((val_yes (inR hk)).trans ((val_yes hf).trans ?_))
 dsimp only
 rw[w64_id (n:=(k:Int)+1) (by omega) (by omega)]
 rfl
theorem bld_res (fr:List Int) (code:List UInt8):LoopN.res qdI (code,(),fr,0) ((),[],())=some (0,16,((),headTo fr 16,())):=by
 unfold LoopN.res
 refine runL_count (turn:=qdI.turn (code,(),fr,0) ((),[],())) (fun k=>((k:Int),((),headTo fr k,()))) (0,(16,((),headTo fr 16,()))) (n:=16) (fun k hk=>?_) ?_ 16 0 (by omega) 17 (by omega)
 ·have hl:=headTo_len fr k
  have h:=bld_on code fr k hk (headTo fr k) _ rfl (bld_fit _ _ (by omega))
  rw[←headTo_next] at h
  exact h
 ·exact(val_no (dec_false (show ¬(((16:Nat):Int)<16) by omega))).trans rfl
def qf5 (x:dens qfY):Bool:=decide (List.length x.2≤140737488300000)
def qdg (x:dens qfY):Sh.den qhQ:=bif qO (x.1,w64 (64+lenI x.2)) != 0 then([],qO (x.1,w64 (64+lenI x.2)),()) else(headB x.1++x.2,0,())
theorem ql7 (x:dens qfY) (h:qf5 x=true):(qjH x).val=some (qdg x):=by
 obtain⟨hd,code⟩:=x
 have hc:code.length≤140737488300000:=of_decide_eq_true h
 unfold qjH qdg
 dsimp only
 cases hk:(qO (hd,w64 (64+lenI code)) != (0:Int))
 ·refine(val_no rfl).trans ((val_opt (bld_res (qt hd) code)).trans ((val_yes ?_).trans ?_))
  ·show qcK (headTo (qt hd) 16) code=true
   unfold qcK
   rw[Nat.ble_eq,headTo_len];omega
  ·show some (qd7 (headTo (qt hd) 16) code,(0:Int),())=_
   unfold qd7
   rw[headTo_all]
   rfl
 ·exact(val_yes rfl).trans rfl
def appT {α:Type} (base:List tItem.den):List tItem.den→(List tItem.den→PO α)→PO α
 |[],K=>K base
 |i::l,K=>.ite (Nat.ble ((List.length base+List.length [i])*80) 140737488355328) (appT (base++[i]) l K) .fail
theorem appT_val {α:Type} (K:List tItem.den→PO α):∀(l base:List tItem.den),base.length+l.length≤1000000→(appT base l K).val=(K (base++l)).val
 |[],base,_=>by
  rw[List.append_nil]
  rfl
 |i::l,base,h=>by
  simp only[List.length_cons] at h
  have hg:Nat.ble ((List.length base+List.length [i])*80) 140737488355328=true:=by
   rw[Nat.ble_eq]
   simp only[List.length_cons,List.length_nil]
   omega
  refine(val_yes hg).trans ?_
  rw[appT_val K l (base++[i]) (by
   rw[List.length_append]
   simp only[List.length_cons,List.length_nil]
   omega),List.append_assoc]
  rfl
def putB (x:tStore.den):Int:=bif x.1==1 then 537133056 else bif x.1==2 then 537395200 else bif x.1==3 then 537919488 else 537001984
def putN (x:tStore.den) (s:tSizes.den):Int:=bif x.1==1 then s.2.2.1 else bif x.1==2 then s.2.2.1 else bif x.1==3 then 4 else s.2.1
def putBad (x:tStore.den) (s:tSizes.den):Bool:=decide (x.2.1<0)||decide (x.2.1≥w64 (Int.tdiv (putN x s) 4))
def putA (x:tStore.den):Int:=w64 (putB x+w64 (4*x.2.1))
def put5 (x:tStore.den):List tItem.den:=[(0,0,(3,7,0,0,0,band IntKind.i64 (putA x) 65535,0,false,()),()),(0,0,(4,7,0,0,0,band IntKind.i64 (ishr IntKind.i64 (putA x) 16) 65535,0,false,()),()),
 (0,0,(3,3,0,0,0,band IntKind.i64 x.2.2.1 65535,0,false,()),()),(0,0,(4,3,0,0,0,band IntKind.i64 (ishr IntKind.i64 x.2.2.1 16) 65535,0,false,()),()),(0,0,(20,3,7,0,0,0,0,false,()),())]
def qe8:LoopN where
 M:=[1,2,3,8,9]
 T:=[11,12,13,14,15,16,17,18,19,20,21,22,23,24,25,26,27]
 D:=[1,9]
 ss:=[.ty (.sl tStore),.ty .bool,.box 0 0,.osl 0 tItem,.ty (.int .i64)]
 hs:=[.ty tSizes]
 es:=[.exit 0]
 σ:=(List (Ty.den tItem))×(Ty.den (.int .i64))×(Sh.den (.ty tSizes))
 x0:=fun x y=>(x.2.2.2.1,x.2.2.2.2,y)
 put:=fun x _ s=>((x.1,x.2.1,x.2.2.1,s.1,s.2.1),s.2.2)
 fuel:=fun x _=>List.length x.1+1
 turn:=fun x _ s =>
 (.ite (decide (s.2.1<lenI x.1)&&decide (s.2.1<40))
  (.ite (inRange s.2.1 (List.length x.1))
  (.ite (putBad (List.getD x.1 (Int.toNat s.2.1) (Ty.dflt tStore)) s.2.2)
   (.ret (.on (s.1,w64 (s.2.1+1),s.2.2)))
   (appT s.1 (put5 (List.getD x.1 (Int.toNat s.2.1) (Ty.dflt tStore))) fun o=>.ret (.on (o,w64 (s.2.1+1),s.2.2))))
  .fail)
  (.ret (.out 0 (s.1,s.2.1,s.2.2))))
def qcF:LoopN where
 M:=[2,4,7,8,9,10,11]
 T:=[20,21,22,23,24,25,26,27,28,29,30,31,32,33,34,35,36,37]
 D:=[2,8,11]
 ss:=[.ty (.int .i64),.box 0 0,.ty .str,.ty (.sl tPlace),.ty (.int .i64),.ty (.int .i64),.ty (.int .i64)]
 hs:=[.ty tSizes]
 es:=[.exit 0]
 σ:=(Ty.den (.int .i64))×(Ty.den (.int .i64))×(Sh.den (.ty tSizes))
 x0:=fun x y=>(x.2.2.2.2.2.1,x.2.2.2.2.2.2,y)
 put:=fun x _ s=>((x.1,x.2.1,x.2.2.1,x.2.2.2.1,x.2.2.2.2.1,s.1,s.2.1),s.2.2)
 fuel:=fun x _=>List.length x.2.2.2.1+1
 turn:=fun x _ s =>
 (.ite (decide (s.2.1<lenI x.2.2.2.1))
  (.ite (inRange s.2.1 (List.length x.2.2.2.1))
  (.ite (bif (List.getD x.2.2.2.1 (Int.toNat s.2.1) (Ty.dflt tPlace)).1==x.1 then inRange s.2.1 (List.length x.2.2.2.1) else true)
   (.ret (.on (bif (List.getD x.2.2.2.1 (Int.toNat s.2.1) (Ty.dflt tPlace)).1==x.1 then(List.getD x.2.2.2.1 (Int.toNat s.2.1) (Ty.dflt tPlace)).2.1 else s.1,w64 (s.2.1+1),s.2.2)))
   .fail)
  .fail)
  (.ret (.out 0 (s.1,s.2.1,s.2.2))))
abbrev qc0:List Ty:=[(.sl tItem),tSizes,(.int .i64)]
abbrev qdV:Sh:=Sh.ty Ty.str
def qb6 (x:dens qc0):PO (Sh.den qdV) :=
 (.ite (qdo (x.1,64))
  (.opt (LoopN.res qcF (x.2.2,(),(qbd (x.1,64)).1,(qbd (x.1,64)).2.1,(qbd (x.1,64)).2.2.1,0,0) x.2.1) fun p0 =>
  (.ite (qf5 ((64,p0.2.1,p0.2.2.2,0,()),(qbd (x.1,64)).1))
   (.ite ((qbd (x.1,64)).2.2.1 != 0||(qdg ((64,p0.2.1,p0.2.2.2,0,()),(qbd (x.1,64)).1)).2.1 != 0)
   (.ret ([]))
   (.ret ((qdg ((64,p0.2.1,p0.2.2.2,0,()),(qbd (x.1,64)).1)).1)))
   .fail))
  .fail)
def qbg (x:dens qc0):Bool:=(qb6 x).val.isSome
def qE (x:dens qc0):Sh.den qdV:=(qb6 x).getO default
theorem qkQ (x:dens qc0) (h:qbg x=true):(qb6 x).val=some (qE x):=PO.getO_ok default h
abbrev qdA:List Ty:=[tSizes]
abbrev qeI:Sh:=Sh.ty Ty.bool
def qeW (x:dens qdA):PO (Sh.den qeI) :=
 (.ret (x.1==0&&(decide (x.2.1≥0)&&(decide (x.2.1≤80)&&(decide (x.2.2.1≥4)&&(decide (x.2.2.1≤120)&&(Int.tmod x.2.1 4==0&&Int.tmod x.2.2.1 4==0)))))))
def qgH (_:dens qdA):Bool:=true
def qgB (x:dens qdA):Sh.den qeI:=(qeW x).getO default
theorem qk6 (x:dens qdA) (_:qgH x=true):(qeW x).val=some (qgB x):=PO.sure_ok default (by simp[qeW,PO.sure])
abbrev qc5:List Ty:=[tSizes,(.sl tStore),.bool]
abbrev qdZ:Sh:=Sh.tup (Sh.pair (Sh.ty Ty.str) (Sh.pair (Sh.ty (Ty.int IntKind.i64)) (Sh.ty Ty.unit)))
def qd0 (x:dens qc5):PO (Sh.den qdZ) :=
 (.opt (LoopN.res qe8 (x.2.1,x.2.2,(),[],0) x.1) fun p0 =>
  (.ite (Nat.ble ((List.length p0.2.1+List.length (qbD (p0.2.2.2,x.2.2,0,1)))*80) 140737488355328)
  (.ite (qbg (p0.2.1++qbD (p0.2.2.2,x.2.2,0,1),p0.2.2.2,0))
   (.ret ((qE (p0.2.1++qbD (p0.2.2.2,x.2.2,0,1),p0.2.2.2,0),lenI p0.2.1,())))
   .fail)
  .fail))
def qfJ (x:dens qc5):Bool:=(qd0 x).val.isSome
def qfG (x:dens qc5):Sh.den qdZ:=(qd0 x).getO default
theorem qkK (x:dens qc5) (h:qfJ x=true):(qd0 x).val=some (qfG x):=PO.getO_ok default h
end Go.Av
end
section
namespace Go.Av
open Go
theorem ishr_pow (m k:Nat) (hk:k≤62):ishr .i64 (m:Int) (k:Int)=((m / 2 ^ k:Nat):Int):=by
 unfold ishr
 rw[Int.toNat_natCast,Nat.min_eq_left (by show k≤64;omega),Int.fdiv_eq_ediv_of_nonneg _ (by exact Int.le_of_lt (Int.pow_pos (by decide)))]
 push_cast
 rfl
theorem u8_mod (n:Int):IntKind.u8.wrap n=n % 256:=rfl
theorem wbytes (v:Int):qD v=[toByte ((wn v % 256:Nat):Int),toByte ((wn v / 256 % 256:Nat):Int),toByte ((wn v / 65536 % 256:Nat):Int),toByte ((wn v / 16777216 % 256:Nat):Int)]:=by
 show[toByte (IntKind.u8.wrap (ishr .i64 (wn v:Int) ((0:Nat):Int))),toByte (IntKind.u8.wrap (ishr .i64 (wn v:Int) ((8:Nat):Int))),toByte (IntKind.u8.wrap (ishr .i64 (wn v:Int) ((16:Nat):Int))),toByte (IntKind.u8.wrap (ishr .i64 (wn v:Int) ((24:Nat):Int)))]=_
 rw[ishr_pow _ 0 (by omega),ishr_pow _ 8 (by omega),ishr_pow _ 16 (by omega),ishr_pow _ 24 (by omega),u8_mod,u8_mod,u8_mod,u8_mod,show(2:Nat) ^ 0=1 from rfl,show(2:Nat) ^ 8=256 from rfl,show(2:Nat) ^ 16=65536 from rfl,show(2:Nat) ^ 24=16777216 from rfl,Nat.div_one]
 rfl
theorem toByte_val {k:Nat} (h:k<256):((toByte (k:Int)).toNat:Int)=(k:Int):=by
 unfold toByte
 rw[Int.toNat_natCast]
 have:(UInt8.ofNat k).toNat=k:=by
  rw[UInt8.toNat_ofNat']
  exact Nat.mod_eq_of_lt h
 rw[this]
end Go.Av
end
section
namespace Go.Av
open Go
theorem u8I_w64 (b:UInt8):w64 (u8I b)=u8I b:=by
 have:=b.toNat_lt
 exact w64_id (by show(-9223372036854775808:Int)≤((b.toNat:Nat):Int);omega) (by show((b.toNat:Nat):Int)<(9223372036854775808:Int);omega)
def le4:List UInt8→Int
 |[a,b,c,d]=>u8I a+256*u8I b+65536*u8I c+16777216*u8I d
 |_=>0
theorem four {t:List UInt8} (h:t.length=4):∃a b c d,t=[a,b,c,d]:=by
 match t,h with
 |[a,b,c,d],_=>exact⟨a,b,c,d,rfl⟩
theorem of_word {t:List UInt8} (h:t.length=4):(qgG t).val=some (le4 t,true,()):=by
 obtain⟨a,b,c,d,rfl⟩:=four h
 have ha:=a.toNat_lt
 have hb:=b.toNat_lt
 have hc:=c.toNat_lt
 have hd:=d.toNat_lt
 unfold qgG
 refine(val_no rfl).trans ((val_yes rfl).trans ((val_yes rfl).trans ((val_yes rfl).trans ((val_yes rfl).trans ?_))))
 show some (bor .i64 (bor .i64 (bor .i64 (bor .i64 0 (ishl .i64 (w64 (u8I a)) 0)) (ishl .i64 (w64 (u8I b)) 8)) (ishl .i64 (w64 (u8I c)) 16)) (ishl .i64 (w64 (u8I d)) 24),true,())=some (u8I a+256*u8I b+65536*u8I c+16777216*u8I d,true,())
 rw[u8I_w64,u8I_w64,u8I_w64,u8I_w64]
 have e0:bor .i64 0 (ishl .i64 (u8I a) 0)=((a.toNat:Nat):Int):=by
  have:=bor_sm 0 a.toNat 0 (by omega) (by omega) (by omega)
  rw[Nat.pow_zero,Nat.mul_one,Nat.add_zero] at this
  exact this
 have e1:bor .i64 ((a.toNat:Nat):Int) (ishl .i64 (u8I b) 8)=((b.toNat*2 ^ 8+a.toNat:Nat):Int):=bor_sm a.toNat b.toNat 8 (by omega) (by omega) (by omega)
 have e2:bor .i64 ((b.toNat*2 ^ 8+a.toNat:Nat):Int) (ishl .i64 (u8I c) 16)=((c.toNat*2 ^ 16+(b.toNat*2 ^ 8+a.toNat):Nat):Int):=bor_sm _ c.toNat 16 (by omega) (by omega) (by omega)
 have e3:bor .i64 ((c.toNat*2 ^ 16+(b.toNat*2 ^ 8+a.toNat):Nat):Int) (ishl .i64 (u8I d) 24)=((d.toNat*2 ^ 24+(c.toNat*2 ^ 16+(b.toNat*2 ^ 8+a.toNat)):Nat):Int):=bor_sm _ d.toNat 24 (by omega) (by omega) (by omega)
 rw[e0,e1,e2,e3]
 have:((d.toNat*2 ^ 24+(c.toNat*2 ^ 16+(b.toNat*2 ^ 8+a.toNat)):Nat):Int)=u8I a+256*u8I b+65536*u8I c+16777216*u8I d:=by
  unfold u8I
  omega
 rw[this]
def atX (s:List UInt8) (k:Nat):Int:=le4 ((s.drop (4*k)).take 4)
theorem piece (s:List UInt8) (k:Nat) (hk:k<16) (hs:64≤s.length):((s.drop (4*k)).take 4).length=4∧List.drop (Int.toNat (w64 (4*(k:Int)))) (List.take (Int.toNat (w64 (w64 (4*(k:Int))+4))) s)=(s.drop (4*k)).take 4:=by
 have e1:w64 (4*(k:Int))=((4*k:Nat):Int):=by rw[w64_id (by omega) (by omega)];omega
 have e2:w64 (((4*k:Nat):Int)+4)=((4*k+4:Nat):Int):=by rw[w64_id (by omega) (by omega)];omega
 refine⟨by rw[List.length_take,List.length_drop];omega,?_⟩
 rw[e1,e2,Int.toNat_natCast,Int.toNat_natCast,List.drop_take,show 4*k+4-4*k=4 by omega]
theorem at_word (s:List UInt8) (k:Nat) (hk:k<16) (hs:64≤s.length):qx (s,(k:Int))=atX s k:=by
 obtain⟨p1,p2⟩:=piece s k hk hs
 have hg:=at_total s k hk hs
 have hT:(qfM (s,(k:Int))).val=some (atX s k):=by
  unfold qb9 at hg
  unfold qfM at hg ⊢
  cases hc:(decide (0≤w64 (w64 (4*(k:Int))+4))&&decide (w64 (w64 (4*(k:Int))+4)≤lenI s)&&decide (0≤w64 (4*(k:Int)))&&decide (w64 (4*(k:Int))≤w64 (w64 (4*(k:Int))+4))&&qgA (List.drop (Int.toNat (w64 (4*(k:Int)))) (List.take (Int.toNat (w64 (w64 (4*(k:Int))+4))) s))) with
  |false=>rw[val_no hc] at hg;cases hg
  |true =>
   refine(val_yes rfl).trans ?_
   show some (qhY (List.drop (Int.toNat (w64 (4*(k:Int)))) (List.take (Int.toNat (w64 (w64 (4*(k:Int))+4))) s))).1=_
   rw[p2]
   unfold qhY PO.getO
   rw[of_word p1]
   rfl
 unfold qx PO.getO
 rw[hT]
 rfl
theorem wb_len (v:Int):(qD v).length=4:=by rw[wbytes];rfl
theorem front_is (rs hn i o r md:Int):qt (rs,hn,(i,o,r,()),md,())=[537133056,bor .i64 rs 1,bor .i64 hn 1,bor .i64 hn 1,bor .i64 hn 1,bor .i64 hn 1,bor .i64 hn 1,i,o,r,md,bor .i64 hn 1,bor .i64 hn 1,bor .i64 hn 1,bor .i64 hn 1,bor .i64 hn 1]:=by
 kernel_rfl
theorem wn_self {n:Int} (h0:0≤n) (h1:n<4294967296):(wn n:Int)=n:=by
 rw[wn_int]
 omega
theorem le4_bytes (v:Int):le4 (qD v)=(wn v:Int):=by
 have hw:=wn_lt v
 rw[wbytes]
 show u8I (toByte _)+256*u8I (toByte _)+65536*u8I (toByte _)+16777216*u8I (toByte _)=_
 have e:∀k:Nat,k<256→u8I (toByte ((k:Nat):Int))=(k:Int):=fun k hk=>toByte_val hk
 rw[e _ (Nat.mod_lt _ (by omega)),e _ (Nat.mod_lt _ (by omega)),e _ (Nat.mod_lt _ (by omega)),e _ (Nat.mod_lt _ (by omega))]
 omega
theorem flat_at (t:List UInt8):∀(l:List Int) (k:Nat) (h:k<l.length),((l.flatMap qD++t).drop (4*k)).take 4=qD l[k]
 |[],_,h=>by cases h
 |v::l,0,_=>by
  show(((v::l).flatMap qD++t)).take 4=_
  rw[List.flatMap_cons,List.append_assoc]
  have:=wb_len v
  rw[List.take_append_of_le_length (by omega),List.take_of_length_le (by omega)]
  rfl
 |v::l,k+1,h=>by
  have ih:=flat_at t l k (by simpa using h)
  have hb:=wb_len v
  rw[List.flatMap_cons,List.append_assoc,show 4*(k+1)=(qD v).length+4*k by omega,List.drop_append,Nat.add_sub_cancel_left,List.drop_of_length_le (by omega),List.nil_append]
  exact ih
theorem flat_len:∀l:List Int,(l.flatMap qD).length=4*l.length
 |[]=>rfl
 |v::l=>by
  have:=wb_len v
  rw[List.flatMap_cons,List.length_append,flat_len l,List.length_cons]
  omega
theorem frontL_is (rs hn i o r md:Int):frontL (rs,hn,(i,o,r,()),md,())=[537133056,bor .i64 rs 1,bor .i64 hn 1,bor .i64 hn 1,bor .i64 hn 1,bor .i64 hn 1,bor .i64 hn 1,i,o,r,md,bor .i64 hn 1,bor .i64 hn 1,bor .i64 hn 1,bor .i64 hn 1,bor .i64 hn 1]:=by
 unfold frontL
 rw[front_is]
 rfl
theorem headB_len (hd:tHead.den):(headB hd).length=64:=flat_len (frontL hd)
theorem bor_one {n:Int} (h:0≤n∧n<4294967296) (he:n % 2=0):bor .i64 n 1=n+1:=by
 obtain⟨m,rfl⟩:=Int.eq_ofNat_of_zero_le h.1
 have hb:=bor_natM (a:=m) (b:=1) (by omega) (by omega)
 have:m |||1=m+1:=by
  have e:m=2*(m / 2):=by omega
  have e2:=Nat.two_pow_add_eq_or_of_lt (i:=1) (b:=1) (by omega) (m / 2)
  rw[Nat.pow_one,←e] at e2
  exact e2.symm
 rw[this] at hb
 exact hb
theorem parse_built (hn o r:Int) (code:List UInt8) (h1:64≤hn∧hn<4294967296) (h2:hn % 2=0) (ho:0≤o∧o<4294967296) (hr:0≤r∧r<4294967296)
  (hc:qO ((64,hn,(0,o,r,()),0,()),lenI (headB (64,hn,(0,o,r,()),0,())++code))=0) :
  parseX (headB (64,hn,(0,o,r,()),0,())++code)=((64,hn,(0,o,r,()),0,()),0,()):=by
 have hlen:64≤(headB (64,hn,(0,o,r,()),0,())++code).length:=by
  rw[List.length_append,headB_len]
  omega
 have hF:=frontL_is 64 hn 0 o r 0
 have e64:bor .i64 64 1=65:=by decide
 have ehn:bor .i64 hn 1=hn+1:=bor_one ⟨by omega,h1.2⟩ h2
 rw[e64,ehn] at hF
 have hat:∀(k:Nat) (hk:k<16),qx (headB (64,hn,(0,o,r,()),0,())++code,(k:Int))=(wn (([537133056,65,hn+1,hn+1,hn+1,hn+1,hn+1,0,o,r,0,hn+1,hn+1,hn+1,hn+1,hn+1]:List Int)[k]'hk):Int):=fun k hk=>by
  rw[at_word _ k hk hlen]
  unfold atX headB
  rw[hF]
  have:=flat_at code [537133056,65,hn+1,hn+1,hn+1,hn+1,hn+1,0,o,r,0,hn+1,hn+1,hn+1,hn+1,hn+1] k hk
  rw[this,le4_bytes]
 generalize hs:headB (64,hn,(0,o,r,()),0,())++code=s at *
 have whn:(wn (hn+1):Int)=hn+1:=wn_self (by omega) (by omega)
 have a1:qx (s,1)=65:=hat 1 (by omega)
 have a3:qx (s,3)=hn+1:=(hat 3 (by omega)).trans whn
 have a7:qx (s,7)=0:=hat 7 (by omega)
 have a8:qx (s,8)=o:=(hat 8 (by omega)).trans (wn_self ho.1 ho.2)
 have a9:qx (s,9)=r:=(hat 9 (by omega)).trans (wn_self hr.1 hr.2)
 have a10:qx (s,10)=0:=hat 10 (by omega)
 have hh:headX s=(64,hn,(0,o,r,()),0,()):=by
  unfold headX
  rw[a1,a3,a7,a8,a9,a10,w64_id (n:=hn+1-1) (by omega) (by omega)]
  have:hn+1-1=hn:=by omega
  rw[this]
  rfl
 unfold parseX
 rw[hh,hc,dec_false (show ¬lenI s<64 by simp only[lenI];omega)]
 have hall:(List.range' 0 16).all (wordIs s (qt (64,hn,(0,o,r,()),0,())))=true:=by
  rw[front_is,e64,ehn,List.all_eq_true]
  intro k hk
  have hk16:k<16:=by
   have:=(List.mem_range'_1.1 hk).2
   omega
  unfold wordIs
  rw[hat k hk16,Int.toNat_natCast]
  have hg:List.getD [537133056,65,hn+1,hn+1,hn+1,hn+1,hn+1,0,o,r,0,hn+1,hn+1,hn+1,hn+1,hn+1] k (Ty.dflt (.int .i64))=[537133056,65,hn+1,hn+1,hn+1,hn+1,hn+1,0,o,r,0,hn+1,hn+1,hn+1,hn+1,hn+1][k]'hk16:=getD_in (α:=Int) _ _ hk16
  rw[hg]
  have hv:∀x∈([537133056,65,hn+1,hn+1,hn+1,hn+1,hn+1,0,o,r,0,hn+1,hn+1,hn+1,hn+1,hn+1]:List Int),(wn x:Int)=x:=by
   intro x hx
   simp only[List.mem_cons,List.not_mem_nil,or_false] at hx
   rcases hx with rfl |rfl |rfl |rfl |rfl |rfl |rfl |rfl |rfl |rfl |rfl |rfl |rfl |rfl |rfl |rfl<;>exact wn_self (by omega) (by omega)
  rw[hv _ (List.getElem_mem hk16)]
  simp
 rw[hall]
 rfl
end Go.Av
end
section
namespace Go.Av
open Go
def atF (h:Int) (acc:Int) (p:tPlace.den):Int:=bif p.1==h then p.2.1 else acc
theorem places_fold {it:List tItem.den} (ws:List Bool) {h:Int} (hn:(labsL it).Nodup) {k:Nat} (hk:k<it.length) (hl:isLab it h k=true) (z:Int):∀n,n≤it.length→(placesTo it 64 ws n).foldl (atF h) z=if k<n then posI it 64 ws k else z
 |0,_=>rfl
 |n+1,hn'=>by
  have ih:=places_fold ws hn hk hl z n (by omega)
  rw[placesTo]
  cases h1:((itemAt it n).1==(1:Int))
  ·simp only[cond_false]
   rw[ih]
   have:k≠n:=fun e=>by
    subst e
    unfold isLab at hl
    rw[h1] at hl
    cases hl
   by_cases c:k<n
   ·rw[if_pos c,if_pos (by omega)]
   ·rw[if_neg c,if_neg (by omega)]
  ·simp only[cond_true]
   rw[List.foldl_append,ih]
   show atF h _ ((itemAt it n).2.1,posI it 64 ws n,())=_
   unfold atF
   cases h2:((itemAt it n).2.1==h)
   ·have:k≠n:=fun e=>by
     subst e
     unfold isLab at hl
     rw[h1,Bool.true_and,h2] at hl
     cases hl
    simp only[cond_false]
    by_cases c:k<n
    ·rw[if_pos c,if_pos (by omega)]
    ·rw[if_neg c,if_neg (by omega)]
   ·have:k=n:=labs_uniq hn hk (by omega) hl (by unfold isLab;rw[h1,h2];rfl)
    subst this
    simp only[cond_true]
    rw[if_pos (by omega)]
theorem image4 (h e:Int) (code:List UInt8) (pl:List tPlace.den) (sz:tSizes.den) (hp:pl.length≤21000):LoopN.res qcF (h,(),code,pl,e,0,0) sz=some (0,(pl.foldl (atF h) 0,(pl.length:Int),sz)):=by
 unfold LoopN.res
 refine runL_count (turn:=qcF.turn (h,(),code,pl,e,0,0) sz) (fun n=>((pl.take n).foldl (atF h) 0,(n:Int),sz)) (0,(pl.foldl (atF h) 0,(pl.length:Int),sz)) (n:=pl.length) (fun n hn=>?_) ?_ pl.length 0 (by omega) _ (Nat.lt_succ_self _)
 ·refine(val_yes (dec_true (show(n:Int)<lenI pl by simp only[lenI];omega))).trans ((val_yes (inR hn)).trans ((val_yes ?_).trans ?_))
  ·dsimp only
   rw[inR hn]
   cases ((List.getD pl (Int.toNat (n:Int)) (Ty.dflt tPlace)).1==h)<;>rfl
  ·have e1:(pl.take (n+1)).foldl (atF h) 0=atF h ((pl.take n).foldl (atF h) 0) (List.getD pl n (Ty.dflt tPlace)):=by
    rw[List.take_succ_eq_append_getElem hn,List.foldl_append,getD_in pl _ hn]
    rfl
   show some (TL.on (bif (List.getD pl (Int.toNat (n:Int)) (Ty.dflt tPlace)).1==h then(List.getD pl (Int.toNat (n:Int)) (Ty.dflt tPlace)).2.1 else(pl.take n).foldl (atF h) 0,w64 ((n:Int)+1),sz))=_
   rw[w64_id (n:=(n:Int)+1) (by omega) (by omega),e1]
   rfl
 ·refine(val_no (dec_false (show ¬((pl.length:Nat):Int)<lenI pl by simp only[lenI];omega))).trans ?_
  dsimp only
  rw[List.take_length]
  rfl
theorem mcheck_ok (o r n:Nat) (ho:o≤65536) (h4:o % 4=0) (hr:4≤r∧r≤65536) (hr4:r % 4=0) (hn:n≤262144):qI (((0:Int),(o:Int),(r:Int),()),(n:Int))=0:=by
 have a1:Int.tmod (o:Int) 4=0:=by rw[Int.tmod_eq_emod_of_nonneg (by omega)];omega
 have a2:Int.tmod (r:Int) 4=0:=by rw[Int.tmod_eq_emod_of_nonneg (by omega)];omega
 have a0:Int.tmod (0:Int) 4=0:=rfl
 unfold qI qeb PO.getO
 simp only[PO.val,a0,a1,a2]
 rw[dec_false (show ¬((o:Nat):Int)<0 by omega),dec_false (show ¬((r:Nat):Int)<0 by omega)]
 rw[dec_false (show ¬((n:Nat):Int)<0 by omega),dec_false (show ¬((r:Nat):Int)<4 by omega),dec_false (show ¬((n:Nat):Int) > 262144 by omega),dec_false (show ¬((o:Nat):Int) > 65536 by omega),dec_false (show ¬((r:Nat):Int) > 65536 by omega)]
 rfl
theorem imgcheck_ok (hn:Int) (o r n:Nat) (ho:o≤65536) (h4:o % 4=0) (hr:4≤r∧r≤65536) (hr4:r % 4=0) (hn1:n≤262144) (hn2:64<n) (h1:64≤hn∧hn<n) (h2:hn % 2=0):qO ((64,hn,((0:Int),(o:Int),(r:Int),()),0,()),(n:Int))=0:=by
 have hm:=mcheck_ok o r n ho h4 hr hr4 hn1
 have p:∀a:Int,64≤a→a<n→a % 2=0→qb4 (a,(n:Int))=true:=fun a x1 x2 x3=>by
  show(decide (a≥64)&&(decide (a<(n:Int))&&band .i64 a 1==0))=true
  rw[band_one,x3,dec_true (show a≥64 from x1),dec_true x2]
  rfl
 unfold qO qeD PO.getO
 simp only[PO.val,hm,p 64 (by omega) (by omega) (by omega),p hn h1.1 h1.2 h2]
 rfl
structure IsImg (it:List tItem.den) (o r:Nat) (k:Nat) (img:List UInt8) (hd:tHead.den) (adr:Nat→Int):Prop where
 parse:parseX img=(hd,0,())
 head:hd=(64,hd.2.1,((0:Int),(o:Int),(r:Int),()),0,())
 prg:PrgOk hd img ⟨prgTo it it.length,o,r,img.length,cntI it k⟩ adr
 zero:adr 0=64
theorem item_even (it:List tItem.den) (ws:List Bool) (i:Nat):posI it 64 ws i % 2=0:=by
 have h:=pos_even it 64 ws i 0
 have h0:posI it 64 ws 0=64:=rfl
 omega
theorem pos_lt {it:List tItem.den} {ws:List Bool} (hn:it.length≤21000) (hf:AsmFine it 64) (hp:(passTo it 64 ws it.length).1=false) {i k:Nat} (_:i≤k) (hk:k≤it.length) (hc:cntI it i<cntI it k):posI it 64 ws i<posI it 64 ws k:=by
 obtain⟨m,m1,m2,m3⟩:=cnt_inv it hc
 have him:i≤m:=by
  rcases Nat.lt_or_ge m i with h |h
  ·have:=cnt_mono it (show m+1≤i by omega)
   rw[cntI,m2,cond_false] at this
   omega
  ·exact h
 have h1:=pos_mono it 64 ws him
 have h2:=pos_mono it 64 ws (show m+1≤k by omega)
 have h3:=ins_len it 64 ws hn hf hp (show m<it.length by omega) m2
 have h4:=encB_len _ (ins_ok it 64 ws hn hf hp (show m<it.length by omega) m2)
 have h5:posI it 64 ws (m+1)=posI it 64 ws m+sizeJ (itemAt it m) (wd ws m):=rfl
 omega
theorem image_run {it:List tItem.den} (hI:ItOk it) (o r:Nat) (ho:o≤65536) (h4:o % 4=0) (hr:4≤r∧r≤65536) (hr4:r % 4=0) {h:Int} {k:Nat} (hk:k<it.length) (hl:isLab it h k=true) (hc:cntI it k<cntI it it.length) :
  qbg (it,((0:Int),(o:Int),(r:Int),()),h)=true∧∃hd adr,IsImg it o r k (qE (it,((0:Int),(o:Int),(r:Int),()),h)) hd adr:=by
 have hf:=itok_fine hI
 have hn:=hI.len
 obtain⟨a1,⟨hc0,_⟩ |⟨_,K,hK,hv⟩⟩:=asm_val it 64 hn
 ·exfalso
  apply hc0
  have:codeM it 64=0:=by
   unfold codeM
   have n1:firstP (badJ it) it.length=none:=by
    cases e:firstP (badJ it) it.length with
    |none=>rfl
    |some j=>obtain⟨j1,j2,_⟩:=firstP_some e;rw[hf.item j j1] at j2;cases j2
   have n2:firstP (chkAt it) it.length=none:=by
    cases e:firstP (chkAt it) it.length with
    |none=>rfl
    |some j=>obtain⟨j1,j2,_⟩:=firstP_some e;rw[hf.chk j j1] at j2;cases j2
   have n3:firstP (dupAt it) it.length=none:=by
    cases e:firstP (dupAt it) it.length with
    |none=>rfl
    |some j=>obtain⟨j1,j2,_⟩:=firstP_some e;rw[hf.dup j j1] at j2;cases j2
   have n4:firstP (missAt it) it.length=none:=by
    cases e:firstP (missAt it) it.length with
    |none=>rfl
    |some j=>obtain⟨j1,j2,_⟩:=firstP_some e;rw[hf.miss j j1] at j2;cases j2
   have hb:baseBad 64=false:=rfl
   rw[hb,cond_false,n1,n2,n3,n4]
   dsimp only
   rw[dec_false (show ¬posI it 0 (allT it) it.length > 262144 by have:=hf.small;omega)]
   rfl
  exact this
 ·have hK:(passTo it 64 (widesAt it 64 K) it.length).1=false:=hK
  generalize hws:widesAt it 64 K=ws at *
  have hpl:(placesTo it 64 ws it.length).length≤21000:=Nat.le_trans (places_len it 64 ws it.length) hn
  have hbl:=bytes_len it 64 ws it.length
  have hfold:=places_fold ws hI.nodup hk hl 0 it.length (Nat.le_refl _)
  rw[if_pos hk] at hfold
  have hloop:=image4 h 0 (bytesTo it 64 ws it.length) (placesTo it 64 ws it.length) ((0:Int),(o:Int),(r:Int),()) hpl
  rw[hfold] at hloop
  obtain⟨hby,_⟩:=insTo_bytes it 64 ws it.length (fun j hj h=>ins_ok it 64 ws hn hf hK hj h)
  have hcat:=cat_pos it 64 ws hn hf hK (Nat.le_refl _)
  rw[←hby] at hcat
  have hpk:=pos_lt hn hf hK (show k≤it.length by omega) (Nat.le_refl _) hc
  have hpk0:=pos_bound it 64 ws k
  have hev:=item_even it ws k
  generalize hcd:bytesTo it 64 ws it.length=code at *
  generalize hhd:((64,posI it 64 ws k,((0:Int),(o:Int),(r:Int),()),0,()):tHead.den)=hd
  have hchk:qO (hd,w64 (64+lenI code))=0:=by
   have e:w64 (64+lenI code)=((64+code.length:Nat):Int):=by
    simp only[lenI]
    rw[w64_id (by omega) (by omega)]
    omega
   rw[e,←hhd]
   exact imgcheck_ok _ o r _ ho h4 hr hr4 (by omega) (by omega) ⟨by omega,by omega⟩ hev
  have hGB:qf5 (hd,code)=true:=decide_eq_true (by show code.length≤140737488300000;omega)
  have hVB:qdg (hd,code)=(headB hd++code,0,()):=by
   unfold qdg
   dsimp only
   rw[hchk]
   rfl
  have hT:(qb6 (it,((0:Int),(o:Int),(r:Int),()),h)).val=some (headB hd++code):=by
   unfold qb6
   dsimp only
   rw[hv]
   dsimp only
   refine(val_yes a1).trans ((val_opt hloop).trans ?_)
   dsimp only
   rw[hhd]
   refine(val_yes hGB).trans ?_
   rw[hVB]
   exact(val_no rfl).trans rfl
  have hG:qbg (it,((0:Int),(o:Int),(r:Int),()),h)=true:=by
   unfold qbg
   rw[hT]
   rfl
  have hV:qE (it,((0:Int),(o:Int),(r:Int),()),h)=headB hd++code:=by
   unfold qE PO.getO
   rw[hT]
   rfl
  refine⟨hG,hd,adrI it 64 ws,?_⟩
  rw[hV]
  have hlen:(headB hd++code).length=64+code.length:=by rw[List.length_append,headB_len]
  refine⟨?_,?_,?_,?_⟩
  ·rw[←hhd]
   refine parse_built _ _ _ code ⟨by omega,by omega⟩ hev ⟨by omega,by omega⟩ ⟨by omega,by omega⟩ ?_
   have e:lenI (headB (64,posI it 64 ws k,((0:Int),(o:Int),(r:Int),()),0,())++code)=((64+code.length:Nat):Int):=by
    simp only[lenI]
    rw[List.length_append,headB_len]
   rw[e]
   exact imgcheck_ok _ o r _ ho h4 hr hr4 (by omega) (by omega) ⟨by omega,by omega⟩ hev
  ·rw[←hhd]
  ·refine asm_prg it ws hn hf hK (headB hd) (headB hd++code) (headB_len hd) (by rw[hcd]) (fun i hi h0=>?_) hd k (by omega) (by rw[←hhd]) o r ⟨ho,hr.2,by rw[hlen];omega⟩
   have:=hI.all _ (item_mem hi)
   unfold jOk at this
   rw[h0,cond_true] at this
   exact this
  ·have:=adr_at it 64 ws (i:=0) (Nat.zero_le _)
   exact this
end Go.Av
end
section
namespace Go.Av
open Go
def wOf (o r n:Nat) (y:MemT) (a:Nat):Nat:=match regR o r n a with
 |some j=>(leV ((y.2.drop (posM y j (a:Int))).take 4)).toNat
 |none=>0
theorem wOf_mw {o r n:Nat} (hs:SzOk o r n) {y:MemT} (hw:MemWf y) (h1:y.1.1=rgsW o r n) (h2:y.1.2.1=winsOf 0 (rgsW o r n)):MW o r n y (wOf o r n y):=by
 refine⟨hw,h1,h2,fun a j hj=>?_⟩
 unfold wOf
 rw[hj]
 have hf:findX (a:Int) 4 false y.1.1=some j:=by rw[h1];exact regR_find hs hj
 obtain⟨_,_,_,_,q5,_,_⟩:=acc_ok hw hf (.inr rfl)
 have:=leV_lt ((y.2.drop (posM y j (a:Int))).take 4) (fun b hb=>hw.bytes b (List.mem_of_mem_drop (List.mem_of_mem_take hb))) (by
  rw[List.length_take,List.length_drop]
  have:posM y j (a:Int)+4≤y.2.length:=q5
  omega)
 show leV _=(((leV _).toNat:Nat):Int)
 omega
theorem regW_ge {o r a j:Nat} (h:regW o r a=some j):2≤j:=by
 unfold regW at h
 cases hm:(a % 4 != 0)
 ·rw[hm,cond_false] at h
  cases h1:inW 537001984 o a
  ·rw[h1,cond_false] at h
   cases h2:inW 537133056 r a
   ·rw[h2,cond_false] at h
    cases h3:inW 537395200 r a
    ·rw[h3,cond_false] at h
     cases h4:inW 537919488 4 a
     ·rw[h4,cond_false] at h
      cases h5:inW 538968064 4 a
      ·rw[h5] at h;cases h
      ·rw[h5] at h;cases h;omega
     ·rw[h4] at h;cases h;omega
    ·rw[h3] at h;cases h;omega
   ·rw[h2] at h;cases h;omega
  ·rw[h1] at h;cases h;omega
 ·rw[hm] at h
  cases h
theorem leV_zero:∀l:List Int,(∀b∈l,b=0)→leV l=0
 |[],_=>rfl
 |b::l,h=>by
  rw[leV,leV_zero l (fun x hx=>h x (by simp[hx])),h b (by simp)]
  rfl
theorem new_zero {o r n:Nat} (hs:SzOk o r n) (img:List UInt8) (hn:n=img.length) (hw:MemWf (newM (rgsW o r n) img [])) {a j:Nat} (hj:regW o r a=some j):wOf o r n (newM (rgsW o r n) img []) a=0:=by
 have hjR:=regR_regW (n:=n) hs hj
 have hj2:=regW_ge hj
 unfold wOf
 rw[hjR]
 have hf:findX (a:Int) 4 false (newM (rgsW o r n) img []).1.1=some j:=regR_find hs hjR
 obtain⟨a1,_,_,_,q5,_,_⟩:=acc_ok hw hf (.inr rfl)
 have a1:j<(rgsW o r n).length:=a1
 have q5:posM (newM (rgsW o r n) img []) j (a:Int)+4≤(newM (rgsW o r n) img []).2.length:=q5
 have hsep:=wins_sepW (rgsW o r n) 0 0 j (by omega) a1
 have hw0:(winsOf 0 (rgsW o r n)).getD 0 (0,0)=(0,n):=by
  show((0:Nat),((n:Int)).toNat)=_
  rw[Int.toNat_natCast]
 rw[hw0] at hsep
 have h0:((rgsW o r n).getD 0 rDef).2.1.toNat=n:=by
  show((n:Int)).toNat=n
  rw[Int.toNat_natCast]
 rw[h0] at hsep
 have hpos:n≤posM (newM (rgsW o r n) img []) j (a:Int):=by
  unfold posM
  show n≤((winsOf 0 (rgsW o r n)).getD j (0,0)).1+_
  omega
 show(leV (((newM (rgsW o r n) img []).2.drop (posM (newM (rgsW o r n) img []) j (a:Int))).take 4)).toNat=0
 generalize posM (newM (rgsW o r n) img []) j (a:Int)=p at *
 have hz:∀b∈((newM (rgsW o r n) img []).2.drop p).take 4,b=0:=by
  intro b hb
  obtain⟨i,hi⟩:=List.mem_iff_getElem?.1 hb
  rw[List.getElem?_take] at hi
  by_cases hi4:i<4
  ·rw[if_pos hi4,List.getElem?_drop] at hi
   have e0:wAt (winsOf 0 (rgsW o r n)) 0=(0,n):=hw0
   have e1:(wAt (winsOf 0 (rgsW o r n)) 1).2=0:=rfl
   have hx:(newM (rgsW o r n) img []).2=mend (mend (zeros ((sumL (rgsW o r n):Nat):Int) 0) (wAt (winsOf 0 (rgsW o r n)) 0).1 (strInts img) (wAt (winsOf 0 (rgsW o r n)) 0).2) (wAt (winsOf 0 (rgsW o r n)) 1).1 (strInts []) (wAt (winsOf 0 (rgsW o r n)) 1).2:=rfl
   rw[hx,e0,e1] at hi
   have e2:∀(xs:List Int) (q:Nat) (ys:List Int),mend xs q ys 0=xs:=fun xs q ys=>by
    unfold mend
    rw[List.take_zero,List.append_nil,Nat.min_zero,Nat.add_zero,List.take_append_drop]
   rw[e2] at hi
   have hsl:(strInts img).length=n:=by rw[hn];exact List.length_map ..
   have hsum:n≤sumL (rgsW o r n):=by
    show n≤((n:Int)).toNat+_
    rw[Int.toNat_natCast]
    omega
   have hzl:(zeros ((sumL (rgsW o r n):Nat):Int) (0:Int)).length=sumL (rgsW o r n):=by simp[zeros]
   rw[mend_get _ _ _ _ _ (by rw[hsl,Nat.min_self,hzl];omega),hsl,Nat.min_self,if_neg (by omega),if_neg (by omega)] at hi
   exact List.eq_of_mem_replicate (List.mem_iff_getElem?.2 ⟨_,hi⟩)
  ·rw[if_neg hi4] at hi
   cases hi
 rw[leV_zero _ hz]
 rfl
theorem flat_congr {α β:Type} {f g:α→List β}:∀{l:List α},(∀x∈l,f x=g x)→l.flatMap f=l.flatMap g
 |[],_=>rfl
 |x::l,h=>by rw[List.flatMap_cons,List.flatMap_cons,h x (by simp),flat_congr (fun y hy=>h y (by simp[hy]))]
def bytesW (W:Nat→Nat) (b n:Nat):List UInt8:=(List.range (n / 4)).flatMap fun i=>qD ((W (b+4*i):Nat):Int)
theorem bytesOf_strInts (l:List UInt8):bytesOf (strInts l)=l:=by
 unfold bytesOf strInts
 rw[List.map_map]
 have:(toByte∘fun b:UInt8=>(b.toNat:Int))=id:=by
  funext b
  show toByte ((b.toNat:Nat):Int)=b
  unfold toByte
  rw[Int.toNat_natCast]
  exact UInt8.ofNat_toNat
 rw[this,List.map_id]
theorem bytes_four (l:List Int) (h:∀b∈l,0≤b∧b<256) (hl:l.length=4):bytesOf l=qD (leV l):=by
 have h1:=leV_bytes l h hl
 have h2:=bytesOf_strInts (qD (leV l))
 have h3:strInts (qD (leV l))=l:=h1
 rw[h3] at h2
 exact h2
theorem bytes_chunks:∀(m:Nat) (xs:List Int),xs.length=4*m→bytesOf xs=(List.range m).flatMap fun i=>bytesOf ((xs.drop (4*i)).take 4)
 |0,xs,h=>by
  have:xs=[]:=List.eq_nil_of_length_eq_zero (by omega)
  subst this
  rfl
 |m+1,xs,h=>by
  have ih:=bytes_chunks m (xs.drop 4) (by rw[List.length_drop];omega)
  rw[List.range_succ_eq_map,List.flatMap_cons]
  have e:bytesOf xs=bytesOf ((xs.drop (4*0)).take 4)++bytesOf (xs.drop 4):=by
   unfold bytesOf
   rw[←List.map_append,Nat.mul_zero,List.drop_zero,List.take_append_drop]
  rw[e,ih,List.flatMap_map]
  congr 1
  apply flat_congr
  intro i _
  rw[List.drop_drop,show 4+4*i=4*(i+1) by omega]
theorem reg_words {o r n:Nat} (_:SzOk o r n) {y:MemT} {W:Nat→Nat} (h:MW o r n y W) {k b len:Nat} (hk:2≤k∧k<7) (hb:(rgsW o r n).getD k rDef=((b:Int),(len:Int),true,())) (h4:len % 4=0)
  (hreg:∀i,i<len / 4→regR o r n (b+4*i)=some k):(qfD (k:Int) y).1=bytesW W b len:=by
 have hlen:y.1.2.1.length=7:=by rw[←h.wf.len,h.regs];rfl
 unfold qfD regionM
 have hbn:(decide ((k:Int)<0)||decide ((k:Int)≥lenI y.1.2.1))=false:=by
  simp only[lenI,hlen,Bool.or_eq_false_iff,decide_eq_false_iff_not]
  omega
 rw[hbn]
 show bytesOf (shown y.2 (wAt y.1.2.1 (k:Int)))=_
 obtain⟨w1,w2⟩:=h.wf.wins k (by rw[h.regs];exact hk.2)
 rw[h.regs,hb] at w1
 have w1:((y.1.2.1.getD k (0,0)).2:Int)=(len:Int):=w1
 have e1:wAt y.1.2.1 (k:Int)=y.1.2.1.getD k (0,0):=by
  unfold wAt
  rw[Int.toNat_natCast]
 rw[e1]
 unfold shown
 have hl2:(y.1.2.1.getD k (0,0)).2=len:=by omega
 rw[hl2] at w2 ⊢
 have hxl:((y.2.drop (y.1.2.1.getD k (0,0)).1).take len).length=4*(len / 4):=by
  rw[List.length_take,List.length_drop]
  omega
 rw[bytes_chunks (len / 4) _ hxl]
 unfold bytesW
 apply flat_congr
 intro i hi
 have hi:=List.mem_range.1 hi
 have hw:=h.word (b+4*i) k (hreg i hi)
 have hp:posM y k ((b+4*i:Nat):Int)=(y.1.2.1.getD k (0,0)).1+4*i:=by
  unfold posM
  rw[h.regs,hb]
  show _+(((b+4*i:Nat):Int)-(b:Int)).toNat=_
  omega
 rw[hp] at hw
 have ec:(((y.2.drop (y.1.2.1.getD k (0,0)).1).take len).drop (4*i)).take 4=(y.2.drop ((y.1.2.1.getD k (0,0)).1+4*i)).take 4:=by
  rw[List.drop_take,List.take_take,List.drop_drop,Nat.min_eq_left (by omega)]
 rw[ec,←hw]
 refine bytes_four _ (fun x hx=>h.wf.bytes x (List.mem_of_mem_drop (List.mem_of_mem_take hx))) ?_
 rw[List.length_take,List.length_drop]
 omega
theorem regR_out {o r n:Nat} (hs:SzOk o r n) (i:Nat) (hi:i<o / 4):regW o r (537001984+4*i)=some 2∧regR o r n (537001984+4*i)=some 2:=by
 have h1:regW o r (537001984+4*i)=some 2:=by
  unfold regW
  rw[show((537001984+4*i) % 4 != 0)=false by rw[bne_eq_false_iff_eq];omega,show inW 537001984 o (537001984+4*i)=true from decide_eq_true (by omega)]
  rfl
 exact⟨h1,regR_regW hs h1⟩
theorem regR_a {o r n:Nat} (hs:SzOk o r n) (i:Nat) (hi:i<r / 4):regW o r (537133056+4*i)=some 3∧regR o r n (537133056+4*i)=some 3:=by
 have ho:=hs.out
 have h1:regW o r (537133056+4*i)=some 3:=by
  unfold regW
  rw[show((537133056+4*i) % 4 != 0)=false by rw[bne_eq_false_iff_eq];omega,show inW 537001984 o (537133056+4*i)=false from decide_eq_false (by omega),show inW 537133056 r (537133056+4*i)=true from decide_eq_true (by omega)]
  rfl
 exact⟨h1,regR_regW hs h1⟩
theorem regR_b {o r n:Nat} (hs:SzOk o r n) (i:Nat) (hi:i<r / 4):regW o r (537395200+4*i)=some 4∧regR o r n (537395200+4*i)=some 4:=by
 have ho:=hs.out
 have hr:=hs.rail
 have h1:regW o r (537395200+4*i)=some 4:=by
  unfold regW
  rw[show((537395200+4*i) % 4 != 0)=false by rw[bne_eq_false_iff_eq];omega,show inW 537001984 o (537395200+4*i)=false from decide_eq_false (by omega),show inW 537133056 r (537395200+4*i)=false from decide_eq_false (by omega),show inW 537395200 r (537395200+4*i)=true from decide_eq_true (by omega)]
  rfl
 exact⟨h1,regR_regW hs h1⟩
theorem regR_commit {o r n:Nat} (hs:SzOk o r n):regW o r 537919488=some 5∧regR o r n 537919488=some 5:=by
 have ho:=hs.out
 have hr:=hs.rail
 have h1:regW o r 537919488=some 5:=by
  unfold regW
  rw[show inW 537001984 o 537919488=false from decide_eq_false (by omega),show inW 537133056 r 537919488=false from decide_eq_false (by omega),show inW 537395200 r 537919488=false from decide_eq_false (by omega)]
  rfl
 exact⟨h1,regR_regW hs h1⟩
theorem regR_status {o r n:Nat} (hs:SzOk o r n):regW o r 538968064=some 6∧regR o r n 538968064=some 6:=by
 have ho:=hs.out
 have hr:=hs.rail
 have h1:regW o r 538968064=some 6:=by
  unfold regW
  rw[show inW 537001984 o 538968064=false from decide_eq_false (by omega),show inW 537133056 r 538968064=false from decide_eq_false (by omega),show inW 537395200 r 538968064=false from decide_eq_false (by omega)]
  rfl
 exact⟨h1,regR_regW hs h1⟩
def beginS (o r n:Nat) (img:List UInt8):IS:=(fun k=>wn (rg (List.set (List.set [0,0,0,0,0,0,0,0,0,0,0,0,0,0,0] 13 537133056) 14 (qbx 0)) k),(false,false,false,false,()),wOf o r n (newM (rgsW o r n) img []))
theorem begin_zero {o r n:Nat} (hs:SzOk o r n) (hr:4≤r) (ho4:o % 4=0) (hr4:r % 4=0) (img:List UInt8) (hn:n=img.length) {a:Nat} (ha:(regW o r a).isSome=true):(beginS o r n img).2.2 a=0:=by
 obtain⟨j,hj⟩:=Option.isSome_iff_exists.1 ha
 have hck:=mcheck_ok o r n hs.out ho4 ⟨hr,hs.rail⟩ hr4 hs.flash
 obtain⟨r1,r2,_⟩:=regsX_ok 0 o r n hck (by omega)
 exact new_zero hs img hn (newM_wf _ _ _ r1 (by rw[r2];omega)) hj
theorem run_im {it:List tItem.den} {o r k:Nat} {img:List UInt8} {hd:tHead.den} {adr:Nat→Int} (hr:4≤r) (ho4:o % 4=0) (hr4:r % 4=0) (h:IsImg it o r k img hd adr) (f:tFault.den) (hf:qr f=0) (b:Nat) (hb:b≤67108864) :
  ∃cy:Int,qK (img,[],f,(b:Int)) =
   (((goI ⟨prgTo it it.length,o,r,img.length,cntI it k⟩ f b 0 (false,0,beginS o r img.length img)).2.2.1,
    (((goI ⟨prgTo it it.length,o,r,img.length,cntI it k⟩ f b 0 (false,0,beginS o r img.length img)).1:Nat):Int),cy,
    (((goI ⟨prgTo it it.length,o,r,img.length,cntI it k⟩ f b 0 (false,0,beginS o r img.length img)).2.1:Nat):Int),
    (((goI ⟨prgTo it it.length,o,r,img.length,cntI it k⟩ f b 0 (false,0,beginS o r img.length img)).2.2.2.2.2.2 537919488:Nat):Int),
    (((goI ⟨prgTo it it.length,o,r,img.length,cntI it k⟩ f b 0 (false,0,beginS o r img.length img)).2.2.2.2.2.2 538968064:Nat):Int),
    bytesW (goI ⟨prgTo it it.length,o,r,img.length,cntI it k⟩ f b 0 (false,0,beginS o r img.length img)).2.2.2.2.2.2 537001984 o,
    bytesW (goI ⟨prgTo it it.length,o,r,img.length,cntI it k⟩ f b 0 (false,0,beginS o r img.length img)).2.2.2.2.2.2 537133056 r,
    bytesW (goI ⟨prgTo it it.length,o,r,img.length,cntI it k⟩ f b 0 (false,0,beginS o r img.length img)).2.2.2.2.2.2 537395200 r,()),0,()):=by
 obtain⟨hp,hh,hprg,hz⟩:=h
 have hs:SzOk o r img.length:=hprg.sz
 have hck:=mcheck_ok o r img.length hs.out ho4 ⟨hr,hs.rail⟩ hr4 hs.flash
 obtain⟨r1,r2,_⟩:=regsX_ok 0 o r img.length hck (by omega)
 have hwf:=newM_wf (rgsW o r img.length) img [] r1 (by rw[r2];omega)
 have hmw:=wOf_mw hs hwf rfl rfl
 have hlk:Lk ⟨prgTo it it.length,o,r,img.length,cntI it k⟩ adr 0 (beginS o r img.length img) (List.set (List.set [0,0,0,0,0,0,0,0,0,0,0,0,0,0,0] 13 537133056) 14 (qbx 0),64,false,false,false,false,()) (newM (rgsW o r img.length) img []) :=
  ⟨⟨rfl,fun _ _=>rfl⟩,hz.symm,rfl,hmw⟩
 obtain⟨g1,g2,g3,_,g5⟩:=go_link hprg f hf b 0 false 0 (beginS o r img.length img) _ _ (Nat.zero_le _) hlk
 have hrun:qK (img,[],f,(b:Int))=(resX (startX (parseX img).1 img []) f (b:Int),0,()):=by
  exact runX_ok (by rw[hp];rfl) (by rw[hp,hh];rfl) f (b:Int) hf ⟨by omega,by omega⟩
 rw[hrun,hp,resX_G]
 have hst:goX (startX hd img []).1.1 (startX hd img []).1.2.1 f ((b:Int)).toNat 0 (runSof (startX hd img []))=goX hd img f b 0 ((List.set (List.set [0,0,0,0,0,0,0,0,0,0,0,0,0,0,0] 13 537133056) 14 (qbx 0),64,false,false,false,false,()),false,newM (rgsW o r img.length) img []):=by
  rw[Int.toNat_natCast]
  have e:runSof (startX hd img [])=((List.set (List.set [0,0,0,0,0,0,0,0,0,0,0,0,0,0,0] 13 537133056) 14 (qbx 0),64,false,false,false,false,()),false,newM (rgsW o r img.length) img []):=by
   rw[hh]
   rfl
  rw[e]
  rfl
 rw[hst]
 refine⟨cycX (goX hd img f b 0 ((List.set (List.set [0,0,0,0,0,0,0,0,0,0,0,0,0,0,0] 13 537133056) 14 (qbx 0),64,false,false,false,false,()),false,newM (rgsW o r img.length) img [])).1,?_⟩
 unfold resG
 generalize goX hd img f b 0 ((List.set (List.set [0,0,0,0,0,0,0,0,0,0,0,0,0,0,0] 13 537133056) 14 (qbx 0),64,false,false,false,false,()),false,newM (rgsW o r img.length) img [])=G at *
 generalize goI ⟨prgTo it it.length,o,r,img.length,cntI it k⟩ f b 0 (false,0,beginS o r img.length img)=X at *
 have hm:=g5.mw
 have c1:qik 537919488 G.2.2.2.2=((X.2.2.2.2.2.2 537919488:Nat):Int):=by
  have:=mw_load hs hm 537919488
  rw[(regR_commit hs).2] at this
  exact congrArg (fun p=>p.1) this
 have c2:qik 538968064 G.2.2.2.2=((X.2.2.2.2.2.2 538968064:Nat):Int):=by
  have:=mw_load hs hm 538968064
  rw[(regR_status hs).2] at this
  exact congrArg (fun p=>p.1) this
 have c3:=reg_words hs hm (k:=2) (b:=537001984) (len:=o) ⟨by omega,by omega⟩ rfl ho4 (fun i hi=>(regR_out hs i hi).2)
 have c4:=reg_words hs hm (k:=3) (b:=537133056) (len:=r) ⟨by omega,by omega⟩ rfl hr4 (fun i hi=>(regR_a hs i hi).2)
 have c5:=reg_words hs hm (k:=4) (b:=537395200) (len:=r) ⟨by omega,by omega⟩ rfl hr4 (fun i hi=>(regR_b hs i hi).2)
 rw[g1,g2,g3,c1,c2]
 have c3:(qfD 2 G.2.2.2.2).1=_:=c3
 have c4:(qfD 3 G.2.2.2.2).1=_:=c4
 have c5:(qfD 4 G.2.2.2.2).1=_:=c5
 rw[c3,c4,c5]
end Go.Av
end
section
namespace Go.Av
open Go
def GoTo (E:Env) (k c j:Nat) (s:IS) (j':Nat) (s':IS):Prop:=goN E k (false,j,s)=(k,c,false,j',s')
def Ends (E:Env) (k c j:Nat) (s:IS) (j':Nat) (s':IS):Prop:=goN E k (false,j,s)=(k,c,true,j',s')
theorem GoTo.refl (E:Env) (j:Nat) (s:IS):GoTo E 0 0 j s j s:=rfl
theorem GoTo.trans {E:Env} {k c j k' c' j' j'':Nat} {s s' s'':IS} (h:GoTo E k c j s j' s') (h':GoTo E k' c' j' s' j'' s''):GoTo E (k+k') (c+c') j s j'' s'':=by
 unfold GoTo at *
 rw[goN_add,h,h']
theorem GoTo.ends {E:Env} {k c j k' c' j' j'':Nat} {s s' s'':IS} (h:GoTo E k c j s j' s') (h':Ends E k' c' j' s' j'' s''):Ends E (k+k') (c+c') j s j'' s'':=by
 unfold GoTo Ends at *
 rw[goN_add,h,h']
theorem go_one {E:Env} {j j':Nat} {s s':IS} (h:stepI E false j s=(false,j',s')):GoTo E 1 (bif j==E.h then 1 else 0) j s j' s':=by
 show((goN E 0 (stepI E false j s)).1+1,(bif j==E.h then 1 else 0)+(goN E 0 (stepI E false j s)).2.1,(goN E 0 (stepI E false j s)).2.2)=_
 rw[h]
 rfl
theorem end_one {E:Env} {j j':Nat} {s s':IS} (h:stepI E false j s=(true,j',s')):Ends E 1 (bif j==E.h then 1 else 0) j s j' s':=by
 show((goN E 0 (stepI E false j s)).1+1,(bif j==E.h then 1 else 0)+(goN E 0 (stepI E false j s)).2.1,(goN E 0 (stepI E false j s)).2.2)=_
 rw[h]
 rfl
theorem go_cons {E:Env} {k c j j1 j':Nat} {s s1 s':IS} (h:stepI E false j s=(false,j1,s1)) (hj:j≠E.h) (h':GoTo E k c j1 s1 j' s'):GoTo E (k+1) c j s j' s':=by
 have:=(go_one h).trans h'
 rw[beq_eq_false_iff_ne.2 hj] at this
 rw[Nat.add_comm k 1]
 simpa using this
theorem ends_more {E:Env} {k c j j':Nat} {s s':IS} (h:Ends E k c j s j' s') {n:Nat} (hn:k≤n):goN E n (false,j,s)=(k,c,true,j',s'):=by
 obtain⟨m,rfl⟩:∃m,n=k+m:=⟨n-k,by omega⟩
 unfold Ends at h
 rw[goN_add,h,goN_done E m rfl]
 rfl
theorem step_op {E:Env} {j:Nat} {i:tIns.den} (h:E.P[j]?=some (.op i)) (s:IS):stepI E false j s=doI E j i s:=by
 unfold stepI
 rw[h]
 rfl
theorem step_br {E:Env} {j t:Nat} {o c:Int} (h:E.P[j]?=some (.br o c t)) (s:IS):stepI E false j s=bif goesF s.2.1 o c then(false,t,s) else(false,j+1,s):=by
 unfold stepI
 rw[h]
 rfl
theorem step_b {E:Env} {j t:Nat} (h:E.P[j]?=some (.br 24 0 t)) (s:IS):stepI E false j s=(false,t,s):=step_br h s
theorem wn_cast (m:Nat) (h:m<4294967296):wn ((m:Nat):Int)=m:=wn_nat h
theorem insN_16 (d i:Nat):insN d i 16 16=i % 65536*65536+d % 65536+d / 4294967296*4294967296:=by
 unfold insN
 rw[show(2:Nat) ^ 16=65536 from rfl,show(2:Nat) ^ (16+16)=4294967296 from rfl]
 omega
theorem insN_0 (d n:Nat):insN d n 0 16=d / 65536*65536+n % 65536:=by
 unfold insN
 rw[show(2:Nat) ^ 16=65536 from rfl,show(2:Nat) ^ 0=1 from rfl]
 omega
theorem do_movt (E:Env) (j:Nat) (rd imm:Int) (s:IS) (hd:s.1 rd<4294967296):doI E j (insI 4 rd 0 0 0 imm 0) s=(false,j+1,updR s.1 rd (wn imm % 65536*65536+s.1 rd % 65536),s.2):=by
 show(false,j+1,updR s.1 rd (wn ((insN (wn ((s.1 rd:Nat):Int)) (wn imm) 16 16:Nat):Int)),s.2)=_
 have h1:wn imm % 65536<65536:=Nat.mod_lt _ (by omega)
 have h2:s.1 rd % 65536<65536:=Nat.mod_lt _ (by omega)
 have h3:wn imm % 65536*65536+s.1 rd % 65536<4294967296:=by
  generalize wn imm % 65536=x at *
  generalize s.1 rd % 65536=y at *
  omega
 have e:insN (s.1 rd) (wn imm) 16 16=wn imm % 65536*65536+s.1 rd % 65536:=by
  rw[insN_16,Nat.div_eq_of_lt hd,Nat.zero_mul,Nat.add_zero]
 rw[wn_cast _ hd,e,wn_cast _ h3]
theorem do_bfi (E:Env) (j:Nat) (rd rn:Int) (s:IS) (hd:s.1 rd<4294967296) (hn:s.1 rn<4294967296):doI E j (insI 18 rd rn 0 16 0 0) s=(false,j+1,updR s.1 rd (s.1 rd / 65536*65536+s.1 rn % 65536),s.2):=by
 show(false,j+1,updR s.1 rd (wn ((insN (wn ((s.1 rd:Nat):Int)) (wn ((s.1 rn:Nat):Int)) 0 16:Nat):Int)),s.2)=_
 rw[wn_cast _ hd,wn_cast _ hn,insN_0,wn_cast]
 omega
theorem do_add (E:Env) (j:Nat) (rd rn rm:Int) (s:IS) (h:s.1 rn+s.1 rm<4294967296):doI E j (insI 14 rd rn rm 0 0 0) s=(false,j+1,updR s.1 rd (s.1 rn+s.1 rm),s.2):=by
 show(false,j+1,updR s.1 rd (wn ((wn (((s.1 rn:Nat):Int)+((s.1 rm:Nat):Int)):Nat):Int)),s.2)=_
 rw[wn_wn,show((s.1 rn:Nat):Int)+((s.1 rm:Nat):Int)=((s.1 rn+s.1 rm:Nat):Int) by omega,wn_cast _ h]
theorem do_lsl (E:Env) (j:Nat) (rd rm:Int) (s:IS) (h:s.1 rm<4294967296):doI E j (insI 5 rd 0 rm 0 0 0) s=(false,j+1,updR s.1 rd (s.1 rm),s.2):=by
 show(false,j+1,updR s.1 rd (wn ((wn ((s.1 rm:Nat):Int)*2 ^ kk 0 % 4294967296:Nat):Int)),s.2)=_
 have:kk 0=0:=rfl
 rw[wn_cast _ h,this,Nat.pow_zero,Nat.mul_one,Nat.mod_eq_of_lt h,wn_cast _ h]
theorem do_cmp (E:Env) (j:Nat) (rn rm:Int) (s:IS):doI E j (insI 23 0 rn rm 0 0 0) s=(false,j+1,s.1,cmpF (s.1 rn) (s.1 rm),s.2.2):=rfl
theorem do_ldr (E:Env) (j:Nat) (rd rn:Int) (s:IS):doI E j (insI 19 rd rn 0 0 0 0) s=bif E.okR (s.1 rn) then(false,j+1,updR s.1 rd (s.2.2 (s.1 rn)),s.2) else(false,E.h,s):=rfl
theorem do_str (E:Env) (j:Nat) (rd rn:Int) (s:IS):doI E j (insI 20 rd rn 0 0 0 0) s=bif E.okW (s.1 rn) then(false,j+1,s.1,s.2.1,updW s.2.2 (s.1 rn) (s.1 rd)) else(false,E.h,s):=rfl
theorem goes_csF (a b:Nat):goesF (cmpF a b) 25 2=decide (b≤a):=by
 unfold goesF holdsF cmpF
 show(decide (b≤a)==true)=_
 cases decide (b≤a)<;>rfl
theorem goes_neF (a b:Nat):goesF (cmpF a b) 25 1=(a != b):=by
 unfold goesF holdsF cmpF
 show((a==b)==false)=(!(a==b))
 cases (a==b)<;>rfl
theorem lo_val (n:Int):wn (lo false n)=wn n % 65536:=by
 show wn (band .i64 n 65535)=_
 rw[band_16]
 unfold wn
 omega
theorem hi_val (n:Int):wn (hi false n)=wn n / 65536:=by
 show wn (band .i64 (ishr .i64 n 16) 65535)=_
 rw[ishr_16,band_16]
 unfold wn
 omega
theorem lo_in (n:Int):0≤lo false n∧lo false n≤65535:=by
 show 0≤band .i64 n 65535∧band .i64 n 65535≤65535
 rw[band_16]
 omega
theorem hi_in (n:Int):0≤hi false n∧hi false n≤65535:=by
 show 0≤band .i64 (ishr .i64 n 16) 65535∧band .i64 (ishr .i64 n 16) 65535≤65535
 rw[band_16]
 omega
def shiftP (m:Nat):PI→PI
 | .op i=>.op i
 | .br o c t=>.br o c (m+t)
def shiftO (m:Nat) (q:IO3):IO3:=(q.1,m+q.2.1,q.2.2)
structure Part (E E':Env) (m:Nat):Prop where
 prg:∀j,E.P[m+j]?=(E'.P[j]?).map (shiftP m)
 o:E.o=E'.o
 r:E.r=E'.r
 n:E.n=E'.n
 h:E.h=m+E'.h
theorem part_step {E E':Env} {m:Nat} (hp:Part E E' m) (skip:Bool) (j:Nat) (s:IS):stepI E skip (m+j) s=shiftO m (stepI E' skip j s):=by
 have hR:∀a,E.okR a=E'.okR a:=fun a=>by unfold Env.okR;rw[hp.o,hp.r,hp.n]
 have hW:∀a,E.okW a=E'.okW a:=fun a=>by unfold Env.okW;rw[hp.o,hp.r]
 unfold stepI
 rw[hp.prg j]
 cases hq:E'.P[j]? with
 |none =>
  show(false,E.h,s)=shiftO m (false,E'.h,s)
  rw[hp.h]
  rfl
 |some p =>
  cases skip
  ·show atI E (m+j) s (shiftP m p)=shiftO m (atI E' j s p)
   cases p with
   |op i =>
    show doI E (m+j) i s=shiftO m (doI E' j i s)
    unfold doI
    cases (i.1==(2:Int))
    ·cases (i.1==(19:Int))
     ·cases (i.1==(20:Int))
      ·cases (i.1==(23:Int))<;>rfl
      ·simp only[cond_true,cond_false]
       rw[hW,hp.h]
       cases E'.okW (s.1 i.2.2.1)<;>rfl
     ·simp only[cond_true,cond_false]
      rw[hR,hp.h]
      cases E'.okR (s.1 i.2.2.1)<;>rfl
    ·rfl
   |br o c t =>
    show(bif goesF s.2.1 o c then(false,m+t,s) else(false,m+j+1,s))=shiftO m (bif goesF s.2.1 o c then(false,t,s) else(false,j+1,s))
    cases goesF s.2.1 o c<;>rfl
  ·rfl
theorem part_go {E E':Env} {m:Nat} (hp:Part E E' m):∀(n:Nat) (b:Bool) (j:Nat) (s:IS),goN E n (b,m+j,s)=((goN E' n (b,j,s)).1,(goN E' n (b,j,s)).2.1,shiftO m (goN E' n (b,j,s)).2.2)
 |0,_,_,_=>rfl
 |n+1,true,_,_=>rfl
 |n+1,false,j,s=>by
  have hs:=part_step hp false j s
  rw[goN,goN]
  simp only[cond_false]
  rw[hs]
  have ih:=part_go hp n (stepI E' false j s).1 (stepI E' false j s).2.1 (stepI E' false j s).2.2
  have e:shiftO m (stepI E' false j s)=((stepI E' false j s).1,m+(stepI E' false j s).2.1,(stepI E' false j s).2.2):=rfl
  rw[e,ih]
  have eh:(m+j==E.h)=(j==E'.h):=by
   rw[hp.h,Bool.eq_iff_iff,beq_iff_eq,beq_iff_eq]
   omega
  rw[eh]
theorem part_goI {E E':Env} {m:Nat} (hp:Part E E' m) (f:tFault.den):∀(n:Nat) (k:Int) (b:Bool) (j:Nat) (s:IS),goI E f n k (b,m+j,s)=((goI E' f n k (b,j,s)).1,(goI E' f n k (b,j,s)).2.1,shiftO m (goI E' f n k (b,j,s)).2.2)
 |0,_,_,_,_=>rfl
 |n+1,_,true,_,_=>rfl
 |n+1,k,false,j,s=>by
  have hs:=part_step hp ((nowX f k).1==(1:Int)) j (hitI (nowX f k) s)
  rw[goI,goI]
  simp only[cond_false]
  rw[hs]
  have ih:=part_goI hp f n (k+1) (stepI E' ((nowX f k).1==(1:Int)) j (hitI (nowX f k) s)).1 (stepI E' ((nowX f k).1==(1:Int)) j (hitI (nowX f k) s)).2.1 (stepI E' ((nowX f k).1==(1:Int)) j (hitI (nowX f k) s)).2.2
  have e:∀q:IO3,shiftO m q=(q.1,m+q.2.1,q.2.2):=fun _=>rfl
  rw[e (stepI E' ((nowX f k).1==(1:Int)) j (hitI (nowX f k) s)),ih]
  have eh:(m+j==E.h)=(j==E'.h):=by
   rw[hp.h,Bool.eq_iff_iff,beq_iff_eq,beq_iff_eq]
   omega
  rw[eh]
theorem strip_shift (m:Nat) (f:Int→Nat):∀l:List tItem.den,stripL (fun x=>m+f x) l=(stripL f l).map (shiftP m)
 |[]=>rfl
 |j::l=>by
  rw[stripL,stripL,strip_shift m f l]
  cases (j.1==(1:Int))
  ·simp only[cond_false,List.map_cons]
   congr 1
   unfold piL
   cases (j.1==(2:Int))<;>rfl
  ·rfl
theorem part_of {pre H:List tItem.den} (hI:ItOk (pre++H)) (hpre:∀j∈pre,(j.1==(0:Int))=true) (o r n h:Nat):Part ⟨prgTo (pre++H) (pre++H).length,o,r,n,pre.length+h⟩ ⟨stripL (fun l=>cntL l H) H,o,r,n,h⟩ pre.length:=by
 refine⟨fun j=>?_,rfl,rfl,rfl,rfl⟩
 show(prgTo (pre++H) (pre++H).length)[pre.length+j]?=_
 have hp1:∀j∈pre,(j.1==(1:Int))=false:=fun j hj=>by
  have:=hpre j hj
  have:j.1=(0:Int):=by simpa using this
  rw[this]
  rfl
 have e:(fun l=>cntL l (pre++H))=fun l=>pre.length+cntL l H:=funext fun l=>cntL_pre l pre H hp1
 rw[prg_strip hI,e,strip_pre _ _ _ hpre,strip_shift]
 have hl:(List.map (fun j:tItem.den=>PI.op j.2.2.1) pre).length=pre.length:=List.length_map ..
 rw[List.getElem?_append_right (by omega),hl,Nat.add_sub_cancel_left,List.getElem?_map]
end Go.Av
end
section
namespace Go.Av
open Go
def exec1 (E:Env) (i:tIns.den) (s:IS):Option IS :=
 bif i.1==2 then none
 else bif i.1==19 then(bif E.okR (s.1 i.2.2.1) then some (updR s.1 i.2.1 (s.2.2 (s.1 i.2.2.1)),s.2) else none)
 else bif i.1==20 then(bif E.okW (s.1 i.2.2.1) then some (s.1,s.2.1,updW s.2.2 (s.1 i.2.2.1) (s.1 i.2.1)) else none)
 else bif i.1==23 then some (s.1,cmpF (s.1 i.2.2.1) (s.1 i.2.2.2.1),s.2.2)
 else some (stepR s.1 i,s.2)
theorem exec1_do {E:Env} {i:tIns.den} {s s':IS} (h:exec1 E i s=some s') (j:Nat):doI E j i s=(false,j+1,s'):=by
 unfold exec1 at h
 unfold doI
 cases h2:(i.1==(2:Int))
 ·rw[h2,cond_false] at h
  cases h19:(i.1==(19:Int))
  ·rw[h19,cond_false] at h
   cases h20:(i.1==(20:Int))
   ·rw[h20,cond_false] at h
    cases h23:(i.1==(23:Int))
    ·rw[h23,cond_false] at h
     cases h
     rfl
    ·rw[h23,cond_true] at h
     cases h
     rfl
   ·rw[h20,cond_true] at h
    cases ho:E.okW (s.1 i.2.2.1)
    ·rw[ho] at h;cases h
    ·rw[ho,cond_true] at h
     cases h
     simp only[cond_true,cond_false]
  ·rw[h19,cond_true] at h
   cases ho:E.okR (s.1 i.2.2.1)
   ·rw[ho] at h;cases h
   ·rw[ho,cond_true] at h
    cases h
    simp only[cond_true,cond_false]
 ·rw[h2] at h
  cases h
def execL (E:Env):List tIns.den→IS→Option IS
 |[],s=>some s
 |i::l,s=>(exec1 E i s).bind (execL E l)
theorem execL_app (E:Env):∀(a b:List tIns.den) (s:IS),execL E (a++b) s=(execL E a s).bind (execL E b)
 |[],_,_=>rfl
 |i::a,b,s=>by
  show(exec1 E i s).bind (execL E (a++b))=((exec1 E i s).bind (execL E a)).bind (execL E b)
  cases exec1 E i s with
  |none=>rfl
  |some s1=>exact execL_app E a b s1
theorem execL_go {E:Env}:∀(l:List tIns.den) (j:Nat) (s s':IS),(∀i,i<l.length→E.P[j+i]?=(l[i]?).map .op)→(∀i,i<l.length→j+i≠E.h)→execL E l s=some s'→GoTo E l.length 0 j s (j+l.length) s'
 |[],j,s,s',_,_,h=>by
  cases h
  exact GoTo.refl E j s
 |i::l,j,s,s',hP,hh,h=>by
  have h:(exec1 E i s).bind (execL E l)=some s':=h
  cases h1:exec1 E i s with
  |none=>rw[h1] at h;cases h
  |some s1 =>
   rw[h1] at h
   have hp0:E.P[j]?=some (.op i):=hP 0 (by simp)
   have hj:j≠E.h:=hh 0 (by simp)
   have ih:=execL_go l (j+1) s1 s' (fun m hm=>by
    have:=hP (m+1) (by simpa using hm)
    rw[show j+(m+1)=j+1+m by omega] at this
    simpa using this) (fun m hm=>by
    have:=hh (m+1) (by simpa using hm)
    rw[show j+(m+1)=j+1+m by omega] at this
    exact this) h
   have:=go_cons (by rw[step_op hp0,exec1_do h1]) hj ih
   rw[show(i::l).length=l.length+1 from rfl,show j+(l.length+1)=j+1+l.length by omega]
   exact this
theorem word_at (E:Env) (rd n:Int) (s:IS):∃ρ',execL E [insI 3 rd 0 0 0 (lo false n) 0,insI 4 rd 0 0 0 (hi false n) 0] s=some (ρ',s.2)∧ρ' rd=wn n∧∀k,k≠rd→ρ' k=s.1 k:=by
 have hn:=wn_lt n
 refine⟨updR (updR s.1 rd (wn (lo false n))) rd (wn n),?_,updR_same _ _ _,fun k hk=>by rw[updR_other _ _ hk,updR_other _ _ hk]⟩
 show some (stepR (updR s.1 rd (wn (lo false n))) (insI 4 rd 0 0 0 (hi false n) 0),s.2)=_
 have:=do_movt E 0 rd (hi false n) (updR s.1 rd (wn (lo false n)),s.2) (by
  show updR s.1 rd (wn (lo false n)) rd<_
  rw[updR_same]
  exact wn_lt _)
 have e:stepR (updR s.1 rd (wn (lo false n))) (insI 4 rd 0 0 0 (hi false n) 0)=updR (updR s.1 rd (wn (lo false n))) rd (wn n):=by
  have h1:(stepR (updR s.1 rd (wn (lo false n))) (insI 4 rd 0 0 0 (hi false n) 0))=updR (updR s.1 rd (wn (lo false n))) rd (wn (hi false n) % 65536*65536+(updR s.1 rd (wn (lo false n)) rd) % 65536):=congrArg (fun q=>q.2.2.1) this
  rw[h1,updR_same,lo_val,hi_val]
  congr 1
  omega
 rw[e]
theorem put_addr {o r n:Nat} (hs:SzOk o r n) (x:tStore.den) (hb:putBad x ((0:Int),(o:Int),(r:Int),())=false):∃a:Nat,putA x=(a:Int)∧a<4294967296∧(regW o r a).isSome=true:=by
 obtain⟨wh,at_,wd,u⟩:=x
 have ho:=hs.out
 have hr:=hs.rail
 unfold putBad at hb
 rw[Bool.or_eq_false_iff] at hb
 have h0:(0:Int)≤at_:=Int.not_lt.1 (of_decide_eq_false hb.1)
 have h1:at_<w64 (Int.tdiv (putN (wh,at_,wd,u) ((0:Int),(o:Int),(r:Int),())) 4):=by
  have:=of_decide_eq_false hb.2
  exact Int.not_le.1 this
 have dv:∀m:Nat,m≤65536→w64 (Int.tdiv (m:Int) 4)=((m / 4:Nat):Int):=fun m hm=>by
  rw[Int.tdiv_eq_ediv_of_nonneg (by omega),w64_id (by omega) (by omega)]
  omega
 obtain⟨t,rfl⟩:=Int.eq_ofNat_of_zero_le h0
 have key:∀(b m:Nat),b≤537919488→m≤65536→putB (wh,(t:Int),wd,u)=(b:Int)→putN (wh,(t:Int),wd,u) ((0:Int),(o:Int),(r:Int),())=(m:Int)→(∀i,i<m / 4→(regW o r (b+4*i)).isSome=true)→∃a:Nat,putA (wh,(t:Int),wd,u)=(a:Int)∧a<4294967296∧(regW o r a).isSome=true:=fun b m hb' hm e1 e2 e3=>by
  rw[e2,dv m hm] at h1
  have ht:t<m / 4:=by
   have h1:((t:Nat):Int)<((m / 4:Nat):Int):=h1
   omega
  refine⟨b+4*t,?_,by omega,e3 t ht⟩
  unfold putA
  rw[e1]
  show w64 ((b:Int)+w64 (4*(t:Int)))=_
  rw[w64_id (n:=4*(t:Int)) (by omega) (by omega),w64_id (by omega) (by omega)]
  omega
 by_cases c1:wh=1
 ·subst c1
  exact key 537133056 r (by omega) hr rfl rfl (fun i hi=>by rw[(regR_a hs i hi).1];rfl)
 ·have b1:(wh==(1:Int))=false:=beq_eq_false_iff_ne.2 c1
  by_cases c2:wh=2
  ·subst c2
   exact key 537395200 r (by omega) hr rfl rfl (fun i hi=>by rw[(regR_b hs i hi).1];rfl)
  ·have b2:(wh==(2:Int))=false:=beq_eq_false_iff_ne.2 c2
   by_cases c3:wh=3
   ·subst c3
    exact key 537919488 4 (by omega) (by omega) rfl rfl (fun i hi=>by
     have:i=0:=by omega
     subst this
     rw[(regR_commit hs).1]
     rfl)
   ·have b3:(wh==(3:Int))=false:=beq_eq_false_iff_ne.2 c3
    refine key 537001984 o (by omega) ho ?_ ?_ (fun i hi=>by rw[(regR_out hs i hi).1];rfl)
    ·show(bif wh==1 then _ else bif wh==2 then _ else bif wh==3 then _ else _)=_
     rw[b1,b2,b3]
     rfl
    ·show(bif wh==1 then _ else bif wh==2 then _ else bif wh==3 then _ else _)=_
     rw[b1,b2,b3]
     rfl
def putI5 (x:tStore.den):List tIns.den:=[insI 3 7 0 0 0 (lo false (putA x)) 0,insI 4 7 0 0 0 (hi false (putA x)) 0,insI 3 3 0 0 0 (lo false x.2.2.1) 0,insI 4 3 0 0 0 (hi false x.2.2.1) 0,insI 20 3 7 0 0 0 0]
theorem put5_its (x:tStore.den):put5 x=its (putI5 x):=rfl
theorem put_exec (E:Env) (x:tStore.den) (s:IS) {a:Nat} (ha:putA x=(a:Int)) (ha2:a<4294967296) (hw:E.okW a=true):∃ρ',execL E (putI5 x) s=some (ρ',s.2.1,updW s.2.2 a (wn x.2.2.1)):=by
 obtain⟨ρ1,e1,v1,k1⟩:=word_at E 7 (putA x) s
 obtain⟨ρ2,e2,v2,k2⟩:=word_at E 3 x.2.2.1 (ρ1,s.2)
 refine⟨ρ2,?_⟩
 have e:putI5 x=[insI 3 7 0 0 0 (lo false (putA x)) 0,insI 4 7 0 0 0 (hi false (putA x)) 0]++([insI 3 3 0 0 0 (lo false x.2.2.1) 0,insI 4 3 0 0 0 (hi false x.2.2.1) 0]++[insI 20 3 7 0 0 0 0]):=rfl
 rw[e,execL_app,e1]
 show execL E (_++_) (ρ1,s.2)=_
 rw[execL_app,e2]
 have h7:ρ2 7=a:=by
  rw[k2 7 (by decide)]
  show ρ1 7=a
  rw[v1,ha]
  exact wn_nat ha2
 show((bif E.okW (ρ2 7) then some (ρ2,s.2.1,updW s.2.2 (ρ2 7) (ρ2 3)) else none):Option IS).bind (execL E [])=_
 rw[h7,hw,v2]
 rfl
def putsI (sz:tSizes.den) (l:List tStore.den):List tIns.den:=l.flatMap fun x=>bif putBad x sz then[] else putI5 x
def putsL (sz:tSizes.den) (l:List tStore.den):List tItem.den:=l.flatMap fun x=>bif putBad x sz then[] else put5 x
theorem puts_its (sz:tSizes.den):∀l:List tStore.den,putsL sz l=its (putsI sz l)
 |[]=>rfl
 |x::l=>by
  have ih:=puts_its sz l
  show(bif putBad x sz then[] else put5 x)++putsL sz l=its ((bif putBad x sz then[] else putI5 x)++putsI sz l)
  rw[ih,put5_its]
  unfold its
  rw[List.map_append]
  cases putBad x sz<;>rfl
theorem puts_len (sz:tSizes.den):∀l:List tStore.den,(putsI sz l).length≤5*l.length
 |[]=>Nat.le_refl _
 |x::l=>by
  have ih:=puts_len sz l
  show((bif putBad x sz then[] else putI5 x)++putsI sz l).length≤_
  rw[List.length_append,List.length_cons]
  cases putBad x sz
  ·show 5+_≤_
   omega
  ·show 0+_≤_
   omega
def putsW (sz:tSizes.den):List tStore.den→(Nat→Nat)→Nat→Nat
 |[],W=>W
 |x::l,W=>putsW sz l (bif putBad x sz then W else updW W (putA x).toNat (wn x.2.2.1))
theorem puts_exec {E:Env} (hs:SzOk E.o E.r E.n):∀(l:List tStore.den) (s:IS),∃ρ',execL E (putsI ((0:Int),(E.o:Int),(E.r:Int),()) l) s=some (ρ',s.2.1,putsW ((0:Int),(E.o:Int),(E.r:Int),()) l s.2.2)
 |[],s=>⟨s.1,rfl⟩
 |x::l,s=>by
  show ∃ρ',execL E ((bif putBad x _ then[] else putI5 x)++putsI _ l) s=_
  rw[execL_app]
  cases hb:putBad x ((0:Int),(E.o:Int),(E.r:Int),())
  ·obtain⟨a,a1,a2,a3⟩:=put_addr hs x hb
   obtain⟨ρ1,e1⟩:=put_exec E x s a1 a2 a3
   rw[cond_false,e1]
   obtain⟨ρ2,e2⟩:=puts_exec hs l (ρ1,s.2.1,updW s.2.2 a (wn x.2.2.1))
   refine⟨ρ2,?_⟩
   show execL E (putsI _ l) (ρ1,s.2.1,updW s.2.2 a (wn x.2.2.1))=_
   rw[e2,putsW,hb,a1]
   rfl
  ·rw[cond_true]
   obtain⟨ρ2,e2⟩:=puts_exec hs l s
   refine⟨ρ2,?_⟩
   show execL E (putsI _ l) s=_
   rw[e2,putsW,hb]
   rfl
end Go.Av
end
section
namespace Go.Av
open Go
theorem opK_mov (op rd imm:Int) (ho:op=3∨op=4) (hd:0≤rd∧rd≤12) (hi:0≤imm∧imm≤65535):opK (insI op rd 0 0 0 imm 0)=true:=by
 have e:∀b:Bool,b=true→(bw rd 0 12&&(true&&(true&&(true&&bw imm 0 65535))))=b→True:=fun _ _ _=>trivial
 have h1:bw rd 0 12=true:=by unfold bw;rw[Bool.and_eq_true];exact⟨decide_eq_true hd.1,decide_eq_true hd.2⟩
 have h2:bw imm 0 65535=true:=by unfold bw;rw[Bool.and_eq_true];exact⟨decide_eq_true hi.1,decide_eq_true hi.2⟩
 rcases ho with rfl |rfl
 ·show((!false&&(true&&(bw rd 0 12&&(true&&(true&&(true&&bw imm 0 65535))))))&&true)=true
  rw[h1,h2]
  rfl
 ·show((!false&&(true&&(bw rd 0 12&&(true&&(true&&(true&&bw imm 0 65535))))))&&true)=true
  rw[h1,h2]
  rfl
theorem opK_lo (rd n:Int) (hd:0≤rd∧rd≤12):opK (insI 3 rd 0 0 0 (lo false n) 0)=true:=opK_mov 3 rd _ (.inl rfl) hd (lo_in n)
theorem opK_hi (rd n:Int) (hd:0≤rd∧rd≤12):opK (insI 4 rd 0 0 0 (hi false n) 0)=true:=opK_mov 4 rd _ (.inr rfl) hd (hi_in n)
theorem puts_opK (sz:tSizes.den):∀(l:List tStore.den),∀i∈putsI sz l,opK i=true
 |[],_,h=>by cases h
 |x::l,i,h=>by
  have h:i∈(bif putBad x sz then[] else putI5 x)++putsI sz l:=h
  rcases List.mem_append.1 h with h |h
  ·cases hb:putBad x sz
   ·rw[hb,cond_false] at h
    simp only[putI5,List.mem_cons,List.not_mem_nil,or_false] at h
    rcases h with rfl |rfl |rfl |rfl |rfl
    ·exact opK_lo 7 _ (by omega)
    ·exact opK_hi 7 _ (by omega)
    ·exact opK_lo 3 _ (by omega)
    ·exact opK_hi 3 _ (by omega)
    ·rfl
   ·rw[hb] at h;cases h
  ·exact puts_opK sz l i h
theorem labsL_pre:∀(pre:List tIns.den) (H:List tItem.den),labsL (its pre++H)=labsL H
 |[],_=>rfl
 |_::pre,H=>labsL_pre pre H
theorem itok_pre {pre:List tIns.den} {H:List tItem.den} (hpre:∀i∈pre,opK i=true) (hH:H.all (jOk (labsL H))=true) (hn:(labsL H).Nodup) (hlen:pre.length+H.length≤21000):ItOk (its pre++H):=by
 refine⟨by rw[List.length_append];unfold its;rw[List.length_map];exact hlen,fun j hj=>?_,by rw[labsL_pre];exact hn⟩
 rw[labsL_pre]
 rcases List.mem_append.1 hj with h |h
 ·obtain⟨i,hi,rfl⟩:=List.mem_map.1 h
  have:=hpre i hi
  show(bif (0:Int)==0 then opK i else _)=true
  exact this
 ·exact List.all_eq_true.1 hH j h
theorem its_kind0 (pre:List tIns.den):∀j∈its pre,(j.1==(0:Int))=true:=fun j hj=>by
 obtain⟨i,_,rfl⟩:=List.mem_map.1 hj
 rfl
theorem headL_all {L:List Int} (n:Int) {a:Int} (h:L.contains (w64 (a+1))=true):(headL false n a).all (jOk L)=true:=by
 show((true&&(true&&(opK (insI 3 2 0 0 0 (lo false n) 0)&&(opK (insI 4 2 0 0 0 (hi false n) 0)&&(true&&((true&&(true&&L.contains (w64 (a+1))))&&true)))))))=true
 rw[opK_lo 2 n (by omega),opK_hi 2 n (by omega),h]
 rfl
theorem tailL_all {L:List Int} {a:Int} (h:L.contains a=true):(tailL a).all (jOk L)=true:=by
 show((true&&(true&&(true&&((true&&(true&&L.contains a))&&(true&&true))))))=true
 rw[h]
 rfl
theorem zeroL_all {L:List Int} {h:Int} (hh:L.contains h=true):(zeroL h).all (jOk L)=true:=by
 show((true&&(true&&(true&&((true&&(true&&L.contains h))&&true)))))=true
 rw[hh]
 rfl
theorem wipe1_all {L:List Int} (base n a:Int) (h:L.contains (w64 (a+1))=true) (h':L.contains a=true):(wipe1 false base n a).all (jOk L)=true:=by
 unfold wipe1
 rw[List.all_append,List.all_append,List.all_append,List.all_append,headL_all n h,tailL_all h']
 show(((true&&(true&&true))&&(true&&(opK (insI 4 5 0 0 0 (hi false base) 0)&&(true&&true))))&&(true&&true)&&true)=true
 rw[opK_hi 5 base (by omega)]
 rfl
theorem look1_all {L:List Int} (base n a h:Int) (h1:L.contains (w64 (a+1))=true) (h2:L.contains a=true) (h3:L.contains h=true):(look1 false base n a h).all (jOk L)=true:=by
 unfold look1
 rw[List.all_append,List.all_append,List.all_append,headL_all n h1,tailL_all h2,zeroL_all h3]
 show((true&&(true&&(opK (insI 4 5 0 0 0 (hi false base) 0)&&(true&&true))))&&true&&true)=true
 rw[opK_hi 5 base (by omega)]
 rfl
def handH (o r:Nat) (tw:Bool):List tItem.den:=handL false (lab false 1) ((0:Int),(o:Int),(r:Int),()) tw 0
theorem hand_V (o r:Nat) (tw:Bool):qbD (((0:Int),(o:Int),(r:Int),()),tw,0,1)=handH o r tw:=rfl
theorem hand_labs (o r:Nat) (tw:Bool):labsL (handH o r tw)=[0,1,2,3,4,5,6,7,8,9,10,11,12]:=by
 cases tw
 ·kernel_rfl
 ·kernel_rfl
theorem hand_all (o r:Nat) (tw:Bool):(handH o r tw).all (jOk (labsL (handH o r tw)))=true:=by
 rw[hand_labs]
 unfold handH handL
 rw[List.all_append,List.all_append,List.all_append,List.all_append,List.all_append,List.all_append,List.all_append,List.all_append,List.all_append,List.all_append,List.all_append,List.all_append,List.all_append,List.all_append,List.all_append]
 rw[wipe1_all _ _ _ (by kernel_rfl) (by kernel_rfl),wipe1_all _ _ _ (by kernel_rfl) (by kernel_rfl),wipe1_all _ _ _ (by kernel_rfl) (by kernel_rfl),look1_all _ _ _ _ (by kernel_rfl) (by kernel_rfl) (by kernel_rfl),look1_all _ _ _ _ (by kernel_rfl) (by kernel_rfl) (by kernel_rfl),look1_all _ _ _ _ (by kernel_rfl) (by kernel_rfl) (by kernel_rfl)]
 cases tw
 ·kernel_rfl
 ·kernel_rfl
def handP (o r:Nat) (tw:Bool):List PI:=stripL (fun l=>cntL l (handH o r tw)) (handH o r tw)
def handE (o r n:Nat) (tw:Bool):Env:=⟨handP o r tw,o,r,n,0⟩
structure WLoop (E:Env) (p:Nat) (base n:Int):Prop where
 i0:E.P[p]?=some (.op (insI 3 1 0 0 0 0 0))
 i1:E.P[p+1]?=some (.op (insI 3 2 0 0 0 (lo false n) 0))
 i2:E.P[p+2]?=some (.op (insI 4 2 0 0 0 (hi false n) 0))
 i3:E.P[p+3]?=some (.op (insI 23 0 1 2 0 0 0))
 i4:E.P[p+4]?=some (.br 25 2 (p+14))
 i5:E.P[p+5]?=some (.op (insI 3 0 0 0 0 0 0))
 i6:E.P[p+6]?=some (.op (insI 3 5 0 0 0 0 0))
 i7:E.P[p+7]?=some (.op (insI 4 5 0 0 0 (hi false base) 0))
 i8:E.P[p+8]?=some (.op (insI 18 5 1 0 16 0 0))
 i9:E.P[p+9]?=some (.op (insI 20 0 5 0 0 0 0))
 i10:E.P[p+10]?=some (.op (insI 3 3 0 0 0 4 0))
 i11:E.P[p+11]?=some (.op (insI 14 4 1 3 0 0 0))
 i12:E.P[p+12]?=some (.op (insI 5 1 0 4 0 0 0))
 i13:E.P[p+13]?=some (.br 24 0 (p+1))
 hb:E.h<p
structure LLoop (E:Env) (p:Nat) (base n:Int):Prop where
 i0:E.P[p]?=some (.op (insI 3 1 0 0 0 0 0))
 i1:E.P[p+1]?=some (.op (insI 3 2 0 0 0 (lo false n) 0))
 i2:E.P[p+2]?=some (.op (insI 4 2 0 0 0 (hi false n) 0))
 i3:E.P[p+3]?=some (.op (insI 23 0 1 2 0 0 0))
 i4:E.P[p+4]?=some (.br 25 2 (p+16))
 i5:E.P[p+5]?=some (.op (insI 3 5 0 0 0 0 0))
 i6:E.P[p+6]?=some (.op (insI 4 5 0 0 0 (hi false base) 0))
 i7:E.P[p+7]?=some (.op (insI 18 5 1 0 16 0 0))
 i8:E.P[p+8]?=some (.op (insI 19 0 5 0 0 0 0))
 i9:E.P[p+9]?=some (.op (insI 3 2 0 0 0 0 0))
 i10:E.P[p+10]?=some (.op (insI 23 0 0 2 0 0 0))
 i11:E.P[p+11]?=some (.br 25 1 E.h)
 i12:E.P[p+12]?=some (.op (insI 3 3 0 0 0 4 0))
 i13:E.P[p+13]?=some (.op (insI 14 4 1 3 0 0 0))
 i14:E.P[p+14]?=some (.op (insI 5 1 0 4 0 0 0))
 i15:E.P[p+15]?=some (.br 24 0 (p+1))
 hb:E.h<p
theorem hand_w0 (o r n:Nat) (tw:Bool):WLoop (handE o r n tw) 4 537001984 o:=⟨by kernel_rfl,by kernel_rfl,by kernel_rfl,by kernel_rfl,by kernel_rfl,by kernel_rfl,by kernel_rfl,by kernel_rfl,by kernel_rfl,by kernel_rfl,by kernel_rfl,by kernel_rfl,by kernel_rfl,by kernel_rfl,by show 0<4;omega⟩
theorem hand_w1 (o r n:Nat) (tw:Bool):WLoop (handE o r n tw) 18 537133056 r:=⟨by kernel_rfl,by kernel_rfl,by kernel_rfl,by kernel_rfl,by kernel_rfl,by kernel_rfl,by kernel_rfl,by kernel_rfl,by kernel_rfl,by kernel_rfl,by kernel_rfl,by kernel_rfl,by kernel_rfl,by kernel_rfl,by show 0<18;omega⟩
theorem hand_w2 (o r n:Nat) (tw:Bool):WLoop (handE o r n tw) 32 537395200 r:=⟨by kernel_rfl,by kernel_rfl,by kernel_rfl,by kernel_rfl,by kernel_rfl,by kernel_rfl,by kernel_rfl,by kernel_rfl,by kernel_rfl,by kernel_rfl,by kernel_rfl,by kernel_rfl,by kernel_rfl,by kernel_rfl,by show 0<32;omega⟩
theorem hand_l0 (o r n:Nat) (tw:Bool):LLoop (handE o r n tw) 46 537001984 o:=⟨by kernel_rfl,by kernel_rfl,by kernel_rfl,by kernel_rfl,by kernel_rfl,by kernel_rfl,by kernel_rfl,by kernel_rfl,by kernel_rfl,by kernel_rfl,by kernel_rfl,by kernel_rfl,by kernel_rfl,by kernel_rfl,by kernel_rfl,by kernel_rfl,by show 0<46;omega⟩
theorem hand_l1 (o r n:Nat) (tw:Bool):LLoop (handE o r n tw) 62 537133056 r:=⟨by kernel_rfl,by kernel_rfl,by kernel_rfl,by kernel_rfl,by kernel_rfl,by kernel_rfl,by kernel_rfl,by kernel_rfl,by kernel_rfl,by kernel_rfl,by kernel_rfl,by kernel_rfl,by kernel_rfl,by kernel_rfl,by kernel_rfl,by kernel_rfl,by show 0<62;omega⟩
theorem hand_l2 (o r n:Nat) (tw:Bool):LLoop (handE o r n tw) 78 537395200 r:=⟨by kernel_rfl,by kernel_rfl,by kernel_rfl,by kernel_rfl,by kernel_rfl,by kernel_rfl,by kernel_rfl,by kernel_rfl,by kernel_rfl,by kernel_rfl,by kernel_rfl,by kernel_rfl,by kernel_rfl,by kernel_rfl,by kernel_rfl,by kernel_rfl,by show 0<78;omega⟩
end Go.Av
end
section
namespace Go.Av
open Go
theorem x_movw (E:Env) (rd imm:Int) (s:IS):exec1 E (insI 3 rd 0 0 0 imm 0) s=some (updR s.1 rd (wn imm),s.2):=rfl
theorem x_movt (E:Env) (rd imm:Int) (s:IS) (hd:s.1 rd<4294967296):exec1 E (insI 4 rd 0 0 0 imm 0) s=some (updR s.1 rd (wn imm % 65536*65536+s.1 rd % 65536),s.2) :=
 congrArg (fun q:IO3=>some q.2.2) (do_movt E 0 rd imm s hd)
theorem x_bfi (E:Env) (rd rn:Int) (s:IS) (hd:s.1 rd<4294967296) (hn:s.1 rn<4294967296):exec1 E (insI 18 rd rn 0 16 0 0) s=some (updR s.1 rd (s.1 rd / 65536*65536+s.1 rn % 65536),s.2) :=
 congrArg (fun q:IO3=>some q.2.2) (do_bfi E 0 rd rn s hd hn)
theorem x_add (E:Env) (rd rn rm:Int) (s:IS) (h:s.1 rn+s.1 rm<4294967296):exec1 E (insI 14 rd rn rm 0 0 0) s=some (updR s.1 rd (s.1 rn+s.1 rm),s.2) :=
 congrArg (fun q:IO3=>some q.2.2) (do_add E 0 rd rn rm s h)
theorem x_lsl (E:Env) (rd rm:Int) (s:IS) (h:s.1 rm<4294967296):exec1 E (insI 5 rd 0 rm 0 0 0) s=some (updR s.1 rd (s.1 rm),s.2) :=
 congrArg (fun q:IO3=>some q.2.2) (do_lsl E 0 rd rm s h)
theorem x_cmp (E:Env) (rn rm:Int) (s:IS):exec1 E (insI 23 0 rn rm 0 0 0) s=some (s.1,cmpF (s.1 rn) (s.1 rm),s.2.2):=rfl
theorem execL_cons {E:Env} {i:tIns.den} {l:List tIns.den} {s s1:IS} (h:exec1 E i s=some s1):execL E (i::l) s=execL E l s1:=by
 show(exec1 E i s).bind (execL E l)=_
 rw[h]
 rfl
theorem run_list {E:Env} {j:Nat} {s s':IS} (l:List tIns.den) (hP:∀i,i<l.length→E.P[j+i]?=(l[i]?).map .op) (hh:E.h<j) (h:execL E l s=some s'):GoTo E l.length 0 j s (j+l.length) s' :=
 execL_go l j s s' hP (fun i _=>by omega) h
theorem high_low {x y:Nat} (hx:x % 65536=0) (hy:y<65536):x / 65536*65536+y % 65536=x+y:=by
 rw[Nat.mod_eq_of_lt hy,Nat.div_mul_cancel (Nat.dvd_of_mod_eq_zero hx)]
theorem addr_exec (E:Env) (rd rn:Int) (base:Int) (s:IS) (hne:rn≠rd) (hn:s.1 rn<65536) (hb:wn base % 65536=0) :
  ∃ρ',execL E [insI 3 rd 0 0 0 0 0,insI 4 rd 0 0 0 (hi false base) 0,insI 18 rd rn 0 16 0 0] s=some (ρ',s.2)∧ρ' rd=wn base+s.1 rn∧∀k,k≠rd→ρ' k=s.1 k:=by
 have hl:=wn_lt base
 have h0:wn 0=0:=rfl
 refine⟨updR (updR (updR s.1 rd 0) rd (wn base)) rd (wn base+s.1 rn),?_,updR_same _ _ _,fun k hk=>by rw[updR_other _ _ hk,updR_other _ _ hk,updR_other _ _ hk]⟩
 rw[execL_cons (x_movw E rd 0 s),h0]
 have e1:=x_movt E rd (hi false base) (updR s.1 rd 0,s.2) (by
  show updR s.1 rd 0 rd<_
  rw[updR_same]
  omega)
 have v1:wn (hi false base) % 65536*65536+(updR s.1 rd 0) rd % 65536=wn base:=by
  rw[updR_same,hi_val]
  generalize wn base=x at *
  omega
 rw[show((updR s.1 rd 0,s.2):IS).1=updR s.1 rd 0 from rfl,v1] at e1
 rw[execL_cons e1]
 have e2:=x_bfi E rd rn (updR (updR s.1 rd 0) rd (wn base),s.2) (by
  show updR (updR s.1 rd 0) rd (wn base) rd<_
  rw[updR_same]
  exact hl) (by
  show updR (updR s.1 rd 0) rd (wn base) rn<_
  rw[updR_other _ _ hne,updR_other _ _ hne]
  omega)
 have v2:(updR (updR s.1 rd 0) rd (wn base)) rd / 65536*65536+(updR (updR s.1 rd 0) rd (wn base)) rn % 65536=wn base+s.1 rn:=by
  have a1:(updR (updR s.1 rd 0) rd (wn base)) rd=wn base:=updR_same _ _ _
  have a2:(updR (updR s.1 rd 0) rd (wn base)) rn=s.1 rn:=(updR_other _ _ hne).trans (updR_other _ _ hne)
  rw[a1,a2]
  exact high_low hb hn
 rw[show((updR (updR s.1 rd 0) rd (wn base),s.2):IS).1=updR (updR s.1 rd 0) rd (wn base) from rfl,v2] at e2
 rw[execL_cons e2]
 rfl
theorem next_exec (E:Env) (s:IS) (h:s.1 1<65536):∃ρ',execL E [insI 3 3 0 0 0 4 0,insI 14 4 1 3 0 0 0,insI 5 1 0 4 0 0 0] s=some (ρ',s.2)∧ρ' 1=s.1 1+4:=by
 have h4:wn 4=4:=rfl
 refine⟨updR (updR (updR s.1 3 4) 4 (s.1 1+4)) 1 (s.1 1+4),?_,updR_same _ _ _⟩
 rw[execL_cons (x_movw E 3 4 s),h4]
 have g1:(updR s.1 3 4) 1=s.1 1:=updR_other _ _ (by decide)
 have g2:(updR s.1 3 4) 3=4:=updR_same _ _ _
 have e1:=x_add E 4 1 3 (updR s.1 3 4,s.2) (by
  show(updR s.1 3 4) 1+(updR s.1 3 4) 3<_
  rw[g1,g2]
  omega)
 rw[show((updR s.1 3 4,s.2):IS).1=updR s.1 3 4 from rfl,g1,g2] at e1
 rw[execL_cons e1]
 have g3:(updR (updR s.1 3 4) 4 (s.1 1+4)) 4=s.1 1+4:=updR_same _ _ _
 have e2:=x_lsl E 1 4 (updR (updR s.1 3 4) 4 (s.1 1+4),s.2) (by
  show(updR (updR s.1 3 4) 4 (s.1 1+4)) 4<_
  rw[g3]
  omega)
 rw[show((updR (updR s.1 3 4) 4 (s.1 1+4),s.2):IS).1=updR (updR s.1 3 4) 4 (s.1 1+4) from rfl,g3] at e2
 rw[execL_cons e2]
 rfl
theorem head_exec (E:Env) (n:Int) (s:IS):∃ρ',execL E [insI 3 2 0 0 0 (lo false n) 0,insI 4 2 0 0 0 (hi false n) 0,insI 23 0 1 2 0 0 0] s=some (ρ',cmpF (s.1 1) (wn n),s.2.2)∧∀k,k≠2→ρ' k=s.1 k:=by
 obtain⟨ρ',e,v,k⟩:=word_at E 2 n s
 refine⟨ρ',?_,k⟩
 have:[insI 3 2 0 0 0 (lo false n) 0,insI 4 2 0 0 0 (hi false n) 0,insI 23 0 1 2 0 0 0]=[insI 3 2 0 0 0 (lo false n) 0,insI 4 2 0 0 0 (hi false n) 0]++[insI 23 0 1 2 0 0 0]:=rfl
 rw[this,execL_app,e]
 show execL E [insI 23 0 1 2 0 0 0] (ρ',s.2)=_
 rw[execL_cons (x_cmp E 1 2 (ρ',s.2))]
 show some (ρ',cmpF (ρ' 1) (ρ' 2),s.2.2)=_
 rw[v,k 1 (by decide)]
theorem three_at {E:Env} {j:Nat} {a b c:tIns.den} (h0:E.P[j]?=some (.op a)) (h1:E.P[j+1]?=some (.op b)) (h2:E.P[j+2]?=some (.op c)):∀i,i < [a,b,c].length→E.P[j+i]?=([a,b,c][i]?).map .op:=by
 intro i hi
 have hi:i<3:=hi
 have:i=0∨i=1∨i=2:=by omega
 rcases this with rfl |rfl |rfl
 ·exact h0
 ·exact h1
 ·exact h2
section
variable {E:Env} {p:Nat} {base n:Int}
theorem wl_exit (h:WLoop E p base n) (s:IS) (hv:wn n≤s.1 1):∃s',GoTo E 4 0 (p+1) s (p+14) s'∧s'.2.2=s.2.2:=by
 obtain⟨ρ1,e1,_⟩:=head_exec E n s
 have hb:=h.hb
 have g1:=run_list [insI 3 2 0 0 0 (lo false n) 0,insI 4 2 0 0 0 (hi false n) 0,insI 23 0 1 2 0 0 0] (three_at h.i1 h.i2 h.i3) (by omega) e1
 have g2:GoTo E 1 0 (p+4) (ρ1,cmpF (s.1 1) (wn n),s.2.2) (p+14) (ρ1,cmpF (s.1 1) (wn n),s.2.2):=by
  refine go_cons ?_ (by omega) (GoTo.refl _ _ _)
  rw[step_br h.i4]
  show(bif goesF (cmpF (s.1 1) (wn n)) 25 2 then _ else _)=_
  rw[goes_csF,decide_eq_true hv]
  rfl
 exact⟨_,g1.trans g2,rfl⟩
theorem wl_turn (h:WLoop E p base n) (s:IS) (hv:s.1 1<wn n) (hn:wn n≤65536) (hb:wn base % 65536=0) :
  (E.okW (wn base+s.1 1)=true→∃s',GoTo E 13 0 (p+1) s (p+1) s'∧s'.1 1=s.1 1+4∧s'.2.2=updW s.2.2 (wn base+s.1 1) 0) ∧
  (E.okW (wn base+s.1 1)=false→∃s',GoTo E 9 0 (p+1) s E.h s'):=by
 have hh:=h.hb
 obtain⟨ρ1,e1,k1⟩:=head_exec E n s
 have g1:=run_list [insI 3 2 0 0 0 (lo false n) 0,insI 4 2 0 0 0 (hi false n) 0,insI 23 0 1 2 0 0 0] (three_at h.i1 h.i2 h.i3) (by omega) e1
 have g2:GoTo E 1 0 (p+4) (ρ1,cmpF (s.1 1) (wn n),s.2.2) (p+5) (ρ1,cmpF (s.1 1) (wn n),s.2.2):=by
  refine go_cons ?_ (by omega) (GoTo.refl _ _ _)
  rw[step_br h.i4]
  show(bif goesF (cmpF (s.1 1) (wn n)) 25 2 then _ else _)=_
  rw[goes_csF,decide_eq_false (by omega)]
  rfl
 have g3:GoTo E 1 0 (p+5) (ρ1,cmpF (s.1 1) (wn n),s.2.2) (p+6) (updR ρ1 0 0,cmpF (s.1 1) (wn n),s.2.2):=by
  refine go_cons ?_ (by omega) (GoTo.refl _ _ _)
  rw[step_op h.i5]
  rfl
 have v1:(updR ρ1 0 0) 1=s.1 1:=by rw[updR_other _ _ (by decide),k1 1 (by decide)]
 obtain⟨ρ2,e2,w2,k2⟩:=addr_exec E 5 1 base (updR ρ1 0 0,cmpF (s.1 1) (wn n),s.2.2) (by decide) (by
  show(updR ρ1 0 0) 1<_
  rw[v1]
  omega) hb
 rw[show((updR ρ1 0 0,cmpF (s.1 1) (wn n),s.2.2):IS).1 1=s.1 1 from v1] at w2
 have g4:=run_list (j:=p+6) [insI 3 5 0 0 0 0 0,insI 4 5 0 0 0 (hi false base) 0,insI 18 5 1 0 16 0 0] (three_at h.i6 h.i7 h.i8) (by omega) e2
 have r0:ρ2 0=0:=by
  rw[k2 0 (by decide)]
  show(updR ρ1 0 0) 0=0
  exact updR_same _ _ _
 have r1:ρ2 1=s.1 1:=by rw[k2 1 (by decide)];exact v1
 have g:=((g1.trans g2).trans g3).trans g4
 constructor
 ·intro hw
  have g5:GoTo E 1 0 (p+9) (ρ2,cmpF (s.1 1) (wn n),s.2.2) (p+10) (ρ2,cmpF (s.1 1) (wn n),updW s.2.2 (wn base+s.1 1) 0):=by
   refine go_cons ?_ (by omega) (GoTo.refl _ _ _)
   rw[step_op h.i9,do_str]
   show(bif E.okW (ρ2 5) then(false,p+9+1,ρ2,cmpF (s.1 1) (wn n),updW s.2.2 (ρ2 5) (ρ2 0)) else _)=_
   rw[w2,hw,r0]
   rfl
  obtain⟨ρ3,e3,w3⟩:=next_exec E (ρ2,cmpF (s.1 1) (wn n),updW s.2.2 (wn base+s.1 1) 0) (by show ρ2 1<_;omega)
  have g6:=run_list (j:=p+10) [insI 3 3 0 0 0 4 0,insI 14 4 1 3 0 0 0,insI 5 1 0 4 0 0 0] (three_at h.i10 h.i11 h.i12) (by omega) e3
  have g7:GoTo E 1 0 (p+13) (ρ3,cmpF (s.1 1) (wn n),updW s.2.2 (wn base+s.1 1) 0) (p+1) (ρ3,cmpF (s.1 1) (wn n),updW s.2.2 (wn base+s.1 1) 0) :=
   go_cons (step_b h.i13 _) (by omega) (GoTo.refl _ _ _)
  exact⟨_,((g.trans g5).trans g6).trans g7,by show ρ3 1=_;rw[w3];show ρ2 1+4=_;rw[r1],rfl⟩
 ·intro hw
  have g5:GoTo E 1 0 (p+9) (ρ2,cmpF (s.1 1) (wn n),s.2.2) E.h (ρ2,cmpF (s.1 1) (wn n),s.2.2):=by
   refine go_cons ?_ (by omega) (GoTo.refl _ _ _)
   rw[step_op h.i9,do_str]
   show(bif E.okW (ρ2 5) then _ else(false,E.h,ρ2,cmpF (s.1 1) (wn n),s.2.2))=_
   rw[w2,hw]
   rfl
  exact⟨_,g.trans g5⟩
theorem wl_all (h:WLoop E p base n) {B M:Nat} (hB:wn base=B) (hM:wn n=4*M) (hn:4*M≤65536) (hb:B % 65536=0) (hok:∀t,t<M→E.okW (B+4*t)=true):∀(d i:Nat) (s:IS),i+d=M→s.1 1=4*i →
  ∃s',GoTo E (13*d+4) 0 (p+1) s (p+14) s'∧(∀t,i≤t→t<M→s'.2.2 (B+4*t)=0)∧∀a,(∀t,i≤t→t<M→a≠B+4*t)→s'.2.2 a=s.2.2 a
 |0,i,s,hd,hi=>by
  obtain⟨s',g,e⟩:=wl_exit h s (by omega)
  exact⟨s',g,fun t h1 h2=>by omega,fun a _=>by rw[e]⟩
 |d+1,i,s,hd,hi=>by
  obtain⟨t1,_⟩:=wl_turn h s (by omega) (by omega) (by omega)
  have ha:wn base+s.1 1=B+4*i:=by omega
  obtain⟨s1,g1,v1,w1⟩:=t1 (by rw[ha];exact hok i (by omega))
  obtain⟨s2,g2,z2,k2⟩:=wl_all h hB hM hn hb hok d (i+1) s1 (by omega) (by omega)
  rw[ha] at w1
  refine⟨s2,?_,fun t h1 h2=>?_,fun a ha'=>?_⟩
  ·have:=g1.trans g2
   rw[show 13+(13*d+4)=13*(d+1)+4 by omega] at this
   exact this
  ·rcases Nat.lt_or_ge i t with h3 |h3
   ·exact z2 t h3 h2
   ·have:t=i:=by omega
    subst this
    rw[k2 _ (fun t' h4 _=>by omega),w1,updW_same]
  ·rw[k2 a (fun t h4 h5=>ha' t (by omega) h5),w1,updW_other _ _ (ha' i (Nat.le_refl _) (by omega))]
end
end Go.Av
end
section
namespace Go.Av
open Go
section
variable {E:Env} {p:Nat} {base n:Int}
theorem ll_exit (h:LLoop E p base n) (s:IS) (hv:wn n≤s.1 1):∃s',GoTo E 4 0 (p+1) s (p+16) s'∧s'.2.2=s.2.2:=by
 obtain⟨ρ1,e1,_⟩:=head_exec E n s
 have hb:=h.hb
 have g1:=run_list [insI 3 2 0 0 0 (lo false n) 0,insI 4 2 0 0 0 (hi false n) 0,insI 23 0 1 2 0 0 0] (three_at h.i1 h.i2 h.i3) (by omega) e1
 have g2:GoTo E 1 0 (p+4) (ρ1,cmpF (s.1 1) (wn n),s.2.2) (p+16) (ρ1,cmpF (s.1 1) (wn n),s.2.2):=by
  refine go_cons ?_ (by omega) (GoTo.refl _ _ _)
  rw[step_br h.i4]
  show(bif goesF (cmpF (s.1 1) (wn n)) 25 2 then _ else _)=_
  rw[goes_csF,decide_eq_true hv]
  rfl
 exact⟨_,g1.trans g2,rfl⟩
theorem ll_turn (h:LLoop E p base n) (s:IS) (hv:s.1 1<wn n) (hn:wn n≤65536) (hb:wn base % 65536=0) :
  (E.okR (wn base+s.1 1)=true→s.2.2 (wn base+s.1 1)=0→∃s',GoTo E 15 0 (p+1) s (p+1) s'∧s'.1 1=s.1 1+4∧s'.2.2=s.2.2) ∧
  (E.okR (wn base+s.1 1)=false∨s.2.2 (wn base+s.1 1)≠0→∃k s',k≤11∧GoTo E k 0 (p+1) s E.h s'∧s'.2.2=s.2.2):=by
 have hh:=h.hb
 obtain⟨ρ1,e1,k1⟩:=head_exec E n s
 have g1:=run_list [insI 3 2 0 0 0 (lo false n) 0,insI 4 2 0 0 0 (hi false n) 0,insI 23 0 1 2 0 0 0] (three_at h.i1 h.i2 h.i3) (by omega) e1
 have g2:GoTo E 1 0 (p+4) (ρ1,cmpF (s.1 1) (wn n),s.2.2) (p+5) (ρ1,cmpF (s.1 1) (wn n),s.2.2):=by
  refine go_cons ?_ (by omega) (GoTo.refl _ _ _)
  rw[step_br h.i4]
  show(bif goesF (cmpF (s.1 1) (wn n)) 25 2 then _ else _)=_
  rw[goes_csF,decide_eq_false (by omega)]
  rfl
 have v1:ρ1 1=s.1 1:=k1 1 (by decide)
 obtain⟨ρ2,e2,w2,k2⟩:=addr_exec E 5 1 base (ρ1,cmpF (s.1 1) (wn n),s.2.2) (by decide) (by
  show ρ1 1<_
  rw[v1]
  omega) hb
 rw[show((ρ1,cmpF (s.1 1) (wn n),s.2.2):IS).1 1=s.1 1 from v1] at w2
 have g4:=run_list (j:=p+5) [insI 3 5 0 0 0 0 0,insI 4 5 0 0 0 (hi false base) 0,insI 18 5 1 0 16 0 0] (three_at h.i5 h.i6 h.i7) (by omega) e2
 have r1:ρ2 1=s.1 1:=by rw[k2 1 (by decide)];exact v1
 have g:=(g1.trans g2).trans g4
 have ld:E.okR (wn base+s.1 1)=true→GoTo E 1 0 (p+8) (ρ2,cmpF (s.1 1) (wn n),s.2.2) (p+9) (updR ρ2 0 (s.2.2 (wn base+s.1 1)),cmpF (s.1 1) (wn n),s.2.2):=fun hw=>by
  refine go_cons ?_ (by omega) (GoTo.refl _ _ _)
  rw[step_op h.i8,do_ldr]
  show(bif E.okR (ρ2 5) then(false,p+8+1,updR ρ2 0 (s.2.2 (ρ2 5)),cmpF (s.1 1) (wn n),s.2.2) else _)=_
  rw[w2,hw]
  rfl
 have cmp:∀x:Nat,GoTo E 2 0 (p+9) (updR ρ2 0 x,cmpF (s.1 1) (wn n),s.2.2) (p+11) (updR (updR ρ2 0 x) 2 0,cmpF x 0,s.2.2):=fun x=>by
  have a0:(updR (updR ρ2 0 x) 2 0) 0=x:=(updR_other _ _ (by decide)).trans (updR_same _ _ _)
  have a2:(updR (updR ρ2 0 x) 2 0) 2=0:=updR_same _ _ _
  refine go_cons (j1:=p+10) (s1:=(updR (updR ρ2 0 x) 2 0,cmpF (s.1 1) (wn n),s.2.2)) ?_ (by omega) (go_cons ?_ (by omega) (GoTo.refl _ _ _))
  ·rw[step_op h.i9]
   rfl
  ·rw[step_op h.i10,do_cmp]
   show(false,p+10+1,updR (updR ρ2 0 x) 2 0,cmpF ((updR (updR ρ2 0 x) 2 0) 0) ((updR (updR ρ2 0 x) 2 0) 2),s.2.2)=_
   rw[a0,a2]
 constructor
 ·intro hw hz
  have g5:=ld hw
  rw[hz] at g5
  have g6:=cmp 0
  have g7:GoTo E 1 0 (p+11) (updR (updR ρ2 0 0) 2 0,cmpF 0 0,s.2.2) (p+12) (updR (updR ρ2 0 0) 2 0,cmpF 0 0,s.2.2):=by
   refine go_cons ?_ (by omega) (GoTo.refl _ _ _)
   rw[step_br h.i11]
   show(bif goesF (cmpF 0 0) 25 1 then _ else _)=_
   rw[goes_neF]
   rfl
  have b1:(updR (updR ρ2 0 0) 2 0) 1=s.1 1:=((updR_other _ _ (by decide)).trans (updR_other _ _ (by decide))).trans r1
  obtain⟨ρ3,e3,w3⟩:=next_exec E (updR (updR ρ2 0 0) 2 0,cmpF 0 0,s.2.2) (by
   show(updR (updR ρ2 0 0) 2 0) 1<_
   rw[b1]
   omega)
  have g8:=run_list (j:=p+12) [insI 3 3 0 0 0 4 0,insI 14 4 1 3 0 0 0,insI 5 1 0 4 0 0 0] (three_at h.i12 h.i13 h.i14) (by omega) e3
  have g9:GoTo E 1 0 (p+15) (ρ3,cmpF 0 0,s.2.2) (p+1) (ρ3,cmpF 0 0,s.2.2):=go_cons (step_b h.i15 _) (by omega) (GoTo.refl _ _ _)
  exact⟨_,((((g.trans g5).trans g6).trans g7).trans g8).trans g9,by
   show ρ3 1=_
   rw[w3]
   show(updR (updR ρ2 0 0) 2 0) 1+4=_
   rw[b1],rfl⟩
 ·intro hor
  cases hw:E.okR (wn base+s.1 1)
  ·have g5:GoTo E 1 0 (p+8) (ρ2,cmpF (s.1 1) (wn n),s.2.2) E.h (ρ2,cmpF (s.1 1) (wn n),s.2.2):=by
    refine go_cons ?_ (by omega) (GoTo.refl _ _ _)
    rw[step_op h.i8,do_ldr]
    show(bif E.okR (ρ2 5) then _ else(false,E.h,ρ2,cmpF (s.1 1) (wn n),s.2.2))=_
    rw[w2,hw]
    rfl
   exact⟨8,_,by omega,g.trans g5,rfl⟩
  ·have hnz:s.2.2 (wn base+s.1 1)≠0:=by
    rcases hor with h' |h'
    ·rw[hw] at h';cases h'
    ·exact h'
   have g5:=ld hw
   generalize s.2.2 (wn base+s.1 1)=x at *
   have g6:=cmp x
   have g7:GoTo E 1 0 (p+11) (updR (updR ρ2 0 x) 2 0,cmpF x 0,s.2.2) E.h (updR (updR ρ2 0 x) 2 0,cmpF x 0,s.2.2):=by
    refine go_cons ?_ (by omega) (GoTo.refl _ _ _)
    rw[step_br h.i11]
    show(bif goesF (cmpF x 0) 25 1 then _ else _)=_
    rw[goes_neF,show(x != 0)=true from bne_iff_ne.2 hnz]
    rfl
   exact⟨11,_,by omega,((g.trans g5).trans g6).trans g7,rfl⟩
theorem ll_all (h:LLoop E p base n) {B M:Nat} (hB:wn base=B) (hM:wn n=4*M) (hn:4*M≤65536) (hb:B % 65536=0) (hok:∀t,t<M→E.okR (B+4*t)=true):∀(d i:Nat) (s:IS),i+d=M→s.1 1=4*i →
  ((∀t,i≤t→t<M→s.2.2 (B+4*t)=0)→∃s',GoTo E (15*d+4) 0 (p+1) s (p+16) s'∧s'.2.2=s.2.2) ∧
  ((∃t,i≤t∧t<M∧s.2.2 (B+4*t)≠0)→∃k s',k≤15*d∧GoTo E k 0 (p+1) s E.h s'∧s'.2.2=s.2.2)
 |0,i,s,hd,hi=>by
  refine⟨fun _=>?_,fun⟨t,h1,h2,_⟩=>by omega⟩
  exact ll_exit h s (by omega)
 |d+1,i,s,hd,hi=>by
  obtain⟨t1,t2⟩:=ll_turn h s (by omega) (by omega) (by omega)
  have ha:wn base+s.1 1=B+4*i:=by omega
  rw[ha] at t1 t2
  have hoi:=hok i (by omega)
  constructor
  ·intro hz
   obtain⟨s1,g1,v1,w1⟩:=t1 hoi (hz i (Nat.le_refl _) (by omega))
   obtain⟨f1,_⟩:=ll_all h hB hM hn hb hok d (i+1) s1 (by omega) (by omega)
   obtain⟨s2,g2,w2⟩:=f1 (fun t h1 h2=>by rw[w1];exact hz t (by omega) h2)
   refine⟨s2,?_,by rw[w2,w1]⟩
   have:=g1.trans g2
   rw[show 15+(15*d+4)=15*(d+1)+4 by omega] at this
   exact this
  ·rintro⟨t,h1,h2,h3⟩
   by_cases hz:s.2.2 (B+4*i)=0
   ·obtain⟨s1,g1,v1,w1⟩:=t1 hoi hz
    obtain⟨_,f2⟩:=ll_all h hB hM hn hb hok d (i+1) s1 (by omega) (by omega)
    have hti:t≠i:=fun e=>h3 (by rw[e];exact hz)
    obtain⟨k,s2,k1,g2,w2⟩:=f2 ⟨t,by omega,h2,by rw[w1];exact h3⟩
    exact⟨15+k,s2,by omega,by simpa using g1.trans g2,by rw[w2,w1]⟩
   ·obtain⟨k,s1,k1,g1,w1⟩:=t2 (.inr hz)
    exact⟨k,s1,by omega,g1,w1⟩
end
end Go.Av
end
section
namespace Go.Av
open Go
structure HandAt (E:Env) (mo mr:Nat):Prop where
 so:E.o=4*mo
 sr:E.r=4*mr
 sz:SzOk E.o E.r E.n
 b0:E.P[E.h]?=some (.op (insI 3 0 0 0 0 0 0))
 b1:E.P[E.h+1]?=some (.op (insI 3 5 0 0 0 (lo false 537919488) 0))
 b2:E.P[E.h+2]?=some (.op (insI 4 5 0 0 0 (hi false 537919488) 0))
 b3:E.P[E.h+3]?=some (.op (insI 20 0 5 0 0 0 0))
 w0:WLoop E (E.h+4) 537001984 (E.o:Int)
 w1:WLoop E (E.h+18) 537133056 (E.r:Int)
 w2:WLoop E (E.h+32) 537395200 (E.r:Int)
 l0:LLoop E (E.h+46) 537001984 (E.o:Int)
 l1:LLoop E (E.h+62) 537133056 (E.r:Int)
 l2:LLoop E (E.h+78) 537395200 (E.r:Int)
 e0:E.P[E.h+94]?=some (.op (insI 3 5 0 0 0 (lo false 537919488) 0))
 e1:E.P[E.h+95]?=some (.op (insI 4 5 0 0 0 (hi false 537919488) 0))
 e2:E.P[E.h+96]?=some (.op (insI 19 0 5 0 0 0 0))
 e3:E.P[E.h+97]?=some (.op (insI 3 2 0 0 0 0 0))
 e4:E.P[E.h+98]?=some (.op (insI 23 0 0 2 0 0 0))
 e5:E.P[E.h+99]?=some (.br 25 1 E.h)
 e6:E.P[E.h+100]?=some (.op (insI 3 5 0 0 0 (lo false 538968064) 0))
 e7:E.P[E.h+101]?=some (.op (insI 4 5 0 0 0 (hi false 538968064) 0))
 e8:E.P[E.h+102]?=some (.op (insI 3 0 0 0 0 (lo false 195890093) 0))
 e9:E.P[E.h+103]?=some (.op (insI 4 0 0 0 0 (hi false 195890093) 0))
 e10:E.P[E.h+104]?=some (.op (insI 20 0 5 0 0 0 0))
 e11:E.P[E.h+105]?=some (.op (insI 2 0 0 0 0 0 0))
theorem hand_at (mo mr n:Nat) (tw:Bool) (hs:SzOk (4*mo) (4*mr) n):HandAt (handE (4*mo) (4*mr) n tw) mo mr :=
 ⟨rfl,rfl,hs,by kernel_rfl,by kernel_rfl,by kernel_rfl,by kernel_rfl,hand_w0 _ _ _ _,hand_w1 _ _ _ _,hand_w2 _ _ _ _,hand_l0 _ _ _ _,hand_l1 _ _ _ _,hand_l2 _ _ _ _,
  by kernel_rfl,by kernel_rfl,by kernel_rfl,by kernel_rfl,by kernel_rfl,by kernel_rfl,by kernel_rfl,by kernel_rfl,by kernel_rfl,by kernel_rfl,by kernel_rfl,by kernel_rfl⟩
structure Wp (mo mr:Nat) (W:Nat→Nat):Prop where
 out:∀t,t<mo→W (537001984+4*t)=0
 a:∀t,t<mr→W (537133056+4*t)=0
 b:∀t,t<mr→W (537395200+4*t)=0
 commit:W 537919488=0
section
variable {E:Env} {mo mr:Nat} (H:HandAt E mo mr)
include H
theorem h_out {t:Nat} (ht:t<mo):E.okW (537001984+4*t)=true∧E.okR (537001984+4*t)=true:=by
 have so:=H.so
 obtain⟨a,b⟩:=regR_out H.sz t (by omega)
 unfold Env.okW Env.okR
 rw[a,b]
 exact⟨rfl,rfl⟩
theorem h_a {t:Nat} (ht:t<mr):E.okW (537133056+4*t)=true∧E.okR (537133056+4*t)=true:=by
 have sr:=H.sr
 obtain⟨a,b⟩:=regR_a H.sz t (by omega)
 unfold Env.okW Env.okR
 rw[a,b]
 exact⟨rfl,rfl⟩
theorem h_b {t:Nat} (ht:t<mr):E.okW (537395200+4*t)=true∧E.okR (537395200+4*t)=true:=by
 have sr:=H.sr
 obtain⟨a,b⟩:=regR_b H.sz t (by omega)
 unfold Env.okW Env.okR
 rw[a,b]
 exact⟨rfl,rfl⟩
theorem h_commit:E.okW 537919488=true∧E.okR 537919488=true:=by
 obtain⟨a,b⟩:=regR_commit H.sz
 unfold Env.okW Env.okR
 rw[a,b]
 exact⟨rfl,rfl⟩
theorem h_status:E.okW 538968064=true:=by
 obtain⟨a,_⟩:=regR_status H.sz
 unfold Env.okW
 rw[a]
 rfl
theorem h_n:wn (E.o:Int)=4*mo∧wn (E.r:Int)=4*mr∧4*mo≤65536∧4*mr≤65536:=by
 have so:=H.so
 have sr:=H.sr
 have h1:=H.sz.out
 have h2:=H.sz.rail
 refine⟨?_,?_,by omega,by omega⟩
 ·rw[wn_nat (show E.o<4294967296 by omega)];exact so
 ·rw[wn_nat (show E.r<4294967296 by omega)];exact sr
theorem h_begin (s:IS):∃s',GoTo E 4 1 E.h s (E.h+4) s'∧s'.2.2=updW s.2.2 537919488 0:=by
 have g0:=go_one (E:=E) (j:=E.h) (s:=s) (show stepI E false E.h s=(false,E.h+1,updR s.1 0 0,s.2) by rw[step_op H.b0];rfl)
 rw[beq_self_eq_true] at g0
 obtain⟨ρ1,e1,v1,k1⟩:=word_at E 5 537919488 (updR s.1 0 0,s.2)
 have g1:=execL_go (j:=E.h+1) [insI 3 5 0 0 0 (lo false 537919488) 0,insI 4 5 0 0 0 (hi false 537919488) 0] _ _ (fun i hi=>by
  have hi:i<2:=hi
  have:i=0∨i=1:=by omega
  rcases this with rfl |rfl
  ·exact H.b1
  ·exact H.b2) (fun i _=>by omega) e1
 have r0:ρ1 0=0:=(k1 0 (by decide)).trans (show(updR s.1 0 0) 0=0 from updR_same _ _ _)
 have r5:ρ1 5=537919488:=v1
 have g2:GoTo E 1 0 (E.h+3) (ρ1,s.2) (E.h+4) (ρ1,s.2.1,updW s.2.2 537919488 0):=by
  refine go_cons ?_ (by omega) (GoTo.refl _ _ _)
  rw[step_op H.b3,do_str]
  show(bif E.okW (ρ1 5) then(false,E.h+3+1,ρ1,s.2.1,updW s.2.2 (ρ1 5) (ρ1 0)) else _)=_
  rw[r5,(h_commit H).1,r0]
  rfl
 exact⟨_,(g0.trans g1).trans g2,rfl⟩
omit H in
theorem first_step {p:Nat} (h0:E.P[p]?=some (.op (insI 3 1 0 0 0 0 0))) (hb:E.h<p) (s:IS):GoTo E 1 0 p s (p+1) (updR s.1 1 0,s.2) :=
 go_cons (by rw[step_op h0];rfl) (by omega) (GoTo.refl _ _ _)
omit H in
theorem one_zero (s:IS):((updR s.1 1 0,s.2):IS).1 1=0:=updR_same s.1 1 0
theorem h_wipes (s:IS) (hc:s.2.2 537919488=0):∃s',GoTo E (13*mo+5+(13*mr+5)+(13*mr+5)) 0 (E.h+4) s (E.h+46) s'∧Wp mo mr s'.2.2:=by
 obtain⟨n1,n2,n3,n4⟩:=h_n H
 have f0:=first_step H.w0.i0 H.w0.hb s
 obtain⟨s1,g1,z1,k1⟩:=wl_all H.w0 (B:=537001984) rfl n1 n3 (by decide) (fun t ht=>(h_out H ht).1) mo 0 (updR s.1 1 0,s.2) (by omega) (one_zero s)
 have f1:=first_step H.w1.i0 H.w1.hb s1
 obtain⟨s2,g2,z2,k2⟩:=wl_all H.w1 (B:=537133056) rfl n2 n4 (by decide) (fun t ht=>(h_a H ht).1) mr 0 (updR s1.1 1 0,s1.2) (by omega) (one_zero s1)
 have f2:=first_step H.w2.i0 H.w2.hb s2
 obtain⟨s3,g3,z3,k3⟩:=wl_all H.w2 (B:=537395200) rfl n2 n4 (by decide) (fun t ht=>(h_b H ht).1) mr 0 (updR s2.1 1 0,s2.2) (by omega) (one_zero s2)
 refine⟨s3,?_,⟨fun t ht=>?_,fun t ht=>?_,fun t ht=>z3 t (Nat.zero_le _) ht,?_⟩⟩
 ·have:=((f0.trans g1).trans (f1.trans g2)).trans (f2.trans g3)
  rw[show 1+(13*mo+4)+(1+(13*mr+4))+(1+(13*mr+4))=13*mo+5+(13*mr+5)+(13*mr+5) by omega] at this
  exact this
 ·rw[k3 _ (fun t' _ _=>by omega)]
  show s2.2.2 _=0
  rw[k2 _ (fun t' _ _=>by omega)]
  exact z1 t (Nat.zero_le _) ht
 ·rw[k3 _ (fun t' _ _=>by omega)]
  exact z2 t (Nat.zero_le _) ht
 ·rw[k3 _ (fun t' _ _=>by omega)]
  show s2.2.2 _=0
  rw[k2 _ (fun t' _ _=>by omega)]
  show s1.2.2 _=0
  rw[k1 _ (fun t' _ _=>by omega)]
  exact hc
theorem h_looks (s:IS):(Wp mo mr s.2.2→∃s',GoTo E (15*mo+5+(15*mr+5)+(15*mr+5)) 0 (E.h+46) s (E.h+94) s'∧s'.2.2=s.2.2) ∧
  ∃k j' s',k≤15*mo+5+(15*mr+5)+(15*mr+5)∧GoTo E k 0 (E.h+46) s j' s'∧s'.2.2=s.2.2∧(j'=E.h∨(j'=E.h+94∧(∀t,t<mo→s.2.2 (537001984+4*t)=0)∧(∀t,t<mr→s.2.2 (537133056+4*t)=0)∧(∀t,t<mr→s.2.2 (537395200+4*t)=0))):=by
 obtain⟨n1,n2,n3,n4⟩:=h_n H
 have f0:=first_step H.l0.i0 H.l0.hb s
 obtain⟨a1,a2⟩:=ll_all H.l0 (B:=537001984) rfl n1 n3 (by decide) (fun t ht=>(h_out H ht).2) mo 0 (updR s.1 1 0,s.2) (by omega) (one_zero s)
 have L1:=fun s1:IS=>ll_all H.l1 (B:=537133056) rfl n2 n4 (by decide) (fun t ht=>(h_a H ht).2) mr 0 (updR s1.1 1 0,s1.2) (by omega) (one_zero s1)
 have L2:=fun s1:IS=>ll_all H.l2 (B:=537395200) rfl n2 n4 (by decide) (fun t ht=>(h_b H ht).2) mr 0 (updR s1.1 1 0,s1.2) (by omega) (one_zero s1)
 have key:(∀t,t<mo→s.2.2 (537001984+4*t)=0)→(∀t,t<mr→s.2.2 (537133056+4*t)=0)→(∀t,t<mr→s.2.2 (537395200+4*t)=0)→∃s',GoTo E (15*mo+5+(15*mr+5)+(15*mr+5)) 0 (E.h+46) s (E.h+94) s'∧s'.2.2=s.2.2:=fun z0 z1 z2=>by
  obtain⟨s1,g1,w1⟩:=a1 (fun t _ ht=>z0 t ht)
  have w1:s1.2.2=s.2.2:=w1
  obtain⟨s2,g2,w2⟩:=(L1 s1).1 (fun t _ ht=>by show s1.2.2 _=0;rw[w1];exact z1 t ht)
  have w2:s2.2.2=s1.2.2:=w2
  obtain⟨s3,g3,w3⟩:=(L2 s2).1 (fun t _ ht=>by show s2.2.2 _=0;rw[w2,w1];exact z2 t ht)
  have w3:s3.2.2=s2.2.2:=w3
  refine⟨s3,?_,by rw[w3,w2,w1]⟩
  have:=((f0.trans g1).trans ((first_step H.l1.i0 H.l1.hb s1).trans g2)).trans ((first_step H.l2.i0 H.l2.hb s2).trans g3)
  rw[show 1+(15*mo+4)+(1+(15*mr+4))+(1+(15*mr+4))=15*mo+5+(15*mr+5)+(15*mr+5) by omega] at this
  exact this
 refine⟨fun hz=>key hz.out hz.a hz.b,?_⟩
 by_cases z0:∀t,t<mo→s.2.2 (537001984+4*t)=0
 ·by_cases z1:∀t,t<mr→s.2.2 (537133056+4*t)=0
  ·by_cases z2:∀t,t<mr→s.2.2 (537395200+4*t)=0
   ·obtain⟨s',g,w⟩:=key z0 z1 z2
    exact⟨_,_,s',Nat.le_refl _,g,w,.inr ⟨rfl,z0,z1,z2⟩⟩
   ·obtain⟨t,ht⟩:=Classical.not_forall.1 z2
    obtain⟨ht,hne⟩:=Classical.not_imp.1 ht
    obtain⟨s1,g1,w1⟩:=a1 (fun t _ ht=>z0 t ht)
    have w1:s1.2.2=s.2.2:=w1
    obtain⟨s2,g2,w2⟩:=(L1 s1).1 (fun t _ ht=>by show s1.2.2 _=0;rw[w1];exact z1 t ht)
    have w2:s2.2.2=s1.2.2:=w2
    obtain⟨k,s3,k3,g3,w3⟩:=(L2 s2).2 ⟨t,Nat.zero_le _,ht,by show s2.2.2 _≠0;rw[w2,w1];exact hne⟩
    have w3:s3.2.2=s2.2.2:=w3
    exact⟨_,_,s3,by omega,((f0.trans g1).trans ((first_step H.l1.i0 H.l1.hb s1).trans g2)).trans ((first_step H.l2.i0 H.l2.hb s2).trans g3),by rw[w3,w2,w1],.inl rfl⟩
  ·obtain⟨t,ht⟩:=Classical.not_forall.1 z1
   obtain⟨ht,hne⟩:=Classical.not_imp.1 ht
   obtain⟨s1,g1,w1⟩:=a1 (fun t _ ht=>z0 t ht)
   have w1:s1.2.2=s.2.2:=w1
   obtain⟨k,s2,k2,g2,w2⟩:=(L1 s1).2 ⟨t,Nat.zero_le _,ht,by show s1.2.2 _≠0;rw[w1];exact hne⟩
   have w2:s2.2.2=s1.2.2:=w2
   exact⟨_,_,s2,by omega,(f0.trans g1).trans ((first_step H.l1.i0 H.l1.hb s1).trans g2),by rw[w2,w1],.inl rfl⟩
 ·obtain⟨t,ht⟩:=Classical.not_forall.1 z0
  obtain⟨ht,hne⟩:=Classical.not_imp.1 ht
  obtain⟨k,s1,k1,g1,w1⟩:=a2 ⟨t,Nat.zero_le _,ht,hne⟩
  exact⟨_,_,s1,by omega,f0.trans g1,w1,.inl rfl⟩
theorem h_look (s:IS):(s.2.2 537919488=0→∃s',GoTo E 6 0 (E.h+94) s (E.h+100) s'∧s'.2.2=s.2.2)∧(s.2.2 537919488≠0→∃s',GoTo E 6 0 (E.h+94) s E.h s'):=by
 obtain⟨ρ1,e1,v1,_⟩:=word_at E 5 537919488 s
 have g1:=execL_go (j:=E.h+94) [insI 3 5 0 0 0 (lo false 537919488) 0,insI 4 5 0 0 0 (hi false 537919488) 0] _ _ (fun i hi=>by
  have hi:i<2:=hi
  have:i=0∨i=1:=by omega
  rcases this with rfl |rfl
  ·exact H.e0
  ·exact H.e1) (fun i _=>by omega) e1
 have r5:ρ1 5=537919488:=v1
 generalize hx:s.2.2 537919488=x
 have a0:(updR (updR ρ1 0 x) 2 0) 0=x:=(updR_other _ _ (by decide)).trans (updR_same _ _ _)
 have a2:(updR (updR ρ1 0 x) 2 0) 2=0:=updR_same _ _ _
 have g2:GoTo E 3 0 (E.h+96) (ρ1,s.2) (E.h+99) (updR (updR ρ1 0 x) 2 0,cmpF x 0,s.2.2):=by
  refine go_cons (j1:=E.h+97) (s1:=(updR ρ1 0 x,s.2)) ?_ (by omega) (go_cons (j1:=E.h+98) (s1:=(updR (updR ρ1 0 x) 2 0,s.2)) ?_ (by omega) (go_cons ?_ (by omega) (GoTo.refl _ _ _)))
  ·rw[step_op H.e2,do_ldr]
   show(bif E.okR (ρ1 5) then(false,E.h+96+1,updR ρ1 0 (s.2.2 (ρ1 5)),s.2) else _)=_
   rw[r5,(h_commit H).2,hx]
   rfl
  ·rw[step_op H.e3]
   rfl
  ·rw[step_op H.e4,do_cmp]
   show(false,E.h+98+1,updR (updR ρ1 0 x) 2 0,cmpF ((updR (updR ρ1 0 x) 2 0) 0) ((updR (updR ρ1 0 x) 2 0) 2),s.2.2)=_
   rw[a0,a2]
 have g3:stepI E false (E.h+99) (updR (updR ρ1 0 x) 2 0,cmpF x 0,s.2.2)=bif x != 0 then(false,E.h,updR (updR ρ1 0 x) 2 0,cmpF x 0,s.2.2) else(false,E.h+99+1,updR (updR ρ1 0 x) 2 0,cmpF x 0,s.2.2):=by
  rw[step_br H.e5]
  show(bif goesF (cmpF x 0) 25 1 then _ else _)=_
  rw[goes_neF]
 constructor
 ·intro h0
  refine⟨_,(g1.trans g2).trans (go_cons (E:=E) (j:=E.h+99) (j1:=E.h+100) (s1:=(updR (updR ρ1 0 x) 2 0,cmpF x 0,s.2.2)) (by rw[g3,h0];rfl) (by omega) (GoTo.refl _ _ _)),rfl⟩
 ·intro h0
  have hb:(x != 0)=true:=bne_iff_ne.2 h0
  exact⟨_,(g1.trans g2).trans (go_cons (E:=E) (j:=E.h+99) (j1:=E.h) (s1:=(updR (updR ρ1 0 x) 2 0,cmpF x 0,s.2.2)) (by rw[g3,hb];rfl) (by omega) (GoTo.refl _ _ _))⟩
theorem h_end (s:IS):∃s',Ends E 6 0 (E.h+100) s (E.h+105) s'∧s'.2.2=updW s.2.2 538968064 195890093:=by
 obtain⟨ρ1,e1,v1,_⟩:=word_at E 5 538968064 s
 obtain⟨ρ2,e2,v2,k2⟩:=word_at E 0 195890093 (ρ1,s.2)
 have g1:=execL_go (j:=E.h+100) [insI 3 5 0 0 0 (lo false 538968064) 0,insI 4 5 0 0 0 (hi false 538968064) 0] _ _ (fun i hi=>by
  have hi:i<2:=hi
  have:i=0∨i=1:=by omega
  rcases this with rfl |rfl
  ·exact H.e6
  ·exact H.e7) (fun i _=>by omega) e1
 have g2:=execL_go (j:=E.h+102) [insI 3 0 0 0 0 (lo false 195890093) 0,insI 4 0 0 0 0 (hi false 195890093) 0] _ _ (fun i hi=>by
  have hi:i<2:=hi
  have:i=0∨i=1:=by omega
  rcases this with rfl |rfl
  ·exact H.e8
  ·exact H.e9) (fun i _=>by omega) e2
 have r5:ρ2 5=538968064:=(k2 5 (by decide)).trans v1
 have r0:ρ2 0=195890093:=v2
 have g3:GoTo E 1 0 (E.h+104) (ρ2,s.2) (E.h+105) (ρ2,s.2.1,updW s.2.2 538968064 195890093):=by
  refine go_cons ?_ (by omega) (GoTo.refl _ _ _)
  rw[step_op H.e10,do_str]
  show(bif E.okW (ρ2 5) then(false,E.h+104+1,ρ2,s.2.1,updW s.2.2 (ρ2 5) (ρ2 0)) else _)=_
  rw[r5,h_status H,r0]
  rfl
 have g4:Ends E 1 0 (E.h+105) (ρ2,s.2.1,updW s.2.2 538968064 195890093) (E.h+105) (ρ2,s.2.1,updW s.2.2 538968064 195890093):=by
  have:=end_one (E:=E) (j:=E.h+105) (s:=(ρ2,s.2.1,updW s.2.2 538968064 195890093)) (j':=E.h+105) (s':=(ρ2,s.2.1,updW s.2.2 538968064 195890093)) (by rw[step_op H.e11];rfl)
  rw[beq_eq_false_iff_ne.2 (show E.h+105≠E.h by omega)] at this
  exact this
 exact⟨_,((g1.trans g2).trans g3).ends g4,rfl⟩
def hSteps (mo mr:Nat):Nat:=28*mo+56*mr+46
theorem wp_upd {W:Nat→Nat} (h:Wp mo mr W) (v:Nat):Wp mo mr (updW W 538968064 v):=by
 obtain⟨_,_,n3,n4⟩:=h_n H
 exact⟨fun t ht=>by rw[updW_other _ _ (by omega)];exact h.out t ht,fun t ht=>by rw[updW_other _ _ (by omega)];exact h.a t ht,fun t ht=>by rw[updW_other _ _ (by omega)];exact h.b t ht,by rw[updW_other _ _ (by omega)];exact h.commit⟩
theorem h_run (s:IS):∃s',Ends E (hSteps mo mr) 1 E.h s (E.h+105) s'∧Wp mo mr s'.2.2∧s'.2.2 538968064=195890093:=by
 obtain⟨s1,g1,w1⟩:=h_begin H s
 obtain⟨s2,g2,z2⟩:=h_wipes H s1 (by rw[w1,updW_same])
 obtain⟨s3,g3,w3⟩:=(h_looks H s2).1 z2
 obtain⟨s4,g4,w4⟩:=(h_look H s3).1 (by rw[w3];exact z2.commit)
 obtain⟨s5,g5,w5⟩:=h_end H s4
 refine⟨s5,?_,?_,by rw[w5,updW_same]⟩
 ·have:=(((g1.trans g2).trans g3).trans g4).ends g5
  have e:4+(13*mo+5+(13*mr+5)+(13*mr+5))+(15*mo+5+(15*mr+5)+(15*mr+5))+6+6=hSteps mo mr:=by
   unfold hSteps
   omega
  rw[e] at this
  exact this
 ·rw[w5,w4,w3]
  exact wp_upd H z2 _
end
end Go.Av
end
section
namespace Go.Av
open Go
structure CodeOk (H:List tItem.den):Prop where
 all:H.all (jOk (labsL H))=true
 nodup:(labsL H).Nodup
 lab:(0:Int)∈labsL H
 cnt:cntL 0 H<(stripL (fun l=>cntL l H) H).length
 len:H.length≤2000
def localE (H:List tItem.den) (o r n:Nat):Env:=⟨stripL (fun l=>cntL l H) H,o,r,n,cntL 0 H⟩
theorem img_part {pre:List tIns.den} {H:List tItem.den} (hpre:∀i∈pre,opK i=true) (hlen:pre.length≤2000) (hc:CodeOk H) (o r:Nat) (ho:o≤65536) (h4:o % 4=0) (hr:4≤r∧r≤65536) (hr4:r % 4=0) :
  qbg (its pre++H,((0:Int),(o:Int),(r:Int),()),0)=true∧∃hd adr k,IsImg (its pre++H) o r k (qE (its pre++H,((0:Int),(o:Int),(r:Int),()),0)) hd adr∧cntI (its pre++H) k=pre.length+cntL 0 H:=by
 have hI:ItOk (its pre++H):=itok_pre hpre hc.all hc.nodup (by have:=hc.len;omega)
 have hl:(0:Int)∈labsL (its pre++H):=by rw[labsL_pre];exact hc.lab
 obtain⟨k,k1,k2⟩:=labs_mem.1 hl
 have hk:cntI (its pre++H) k=pre.length+cntL 0 H:=by
  rw[cnt_lab 0 _ k k1 k2 (fun i hi=>by
   cases e:isLab (its pre++H) 0 i
   ·rfl
   ·have:=labs_uniq hI.nodup (by omega) k1 e k2
    omega)]
  rw[cntL_pre 0 (its pre) H (fun j hj=>by
   obtain⟨i,_,rfl⟩:=List.mem_map.1 hj
   rfl)]
  unfold its
  rw[List.length_map]
 have hcn:cntI (its pre++H) k<cntI (its pre++H) (its pre++H).length:=by
  rw[hk,←prg_len,prg_strip hI]
  have e:(fun l=>cntL l (its pre++H))=fun l=>(its pre).length+cntL l H:=funext fun l=>cntL_pre l (its pre) H (fun j hj=>by
   obtain⟨i,_,rfl⟩:=List.mem_map.1 hj
   rfl)
  rw[e,strip_pre _ _ _ (its_kind0 pre),strip_shift,List.length_append,List.length_map,List.length_map]
  have:=hc.cnt
  have hil:(its pre).length=pre.length:=by unfold its;rw[List.length_map]
  omega
 obtain⟨g,hd,adr,him⟩:=image_run hI o r ho h4 hr hr4 k1 k2 hcn
 exact⟨g,hd,adr,k,him,hk⟩
theorem run_behind {pre:List tIns.den} {H:List tItem.den} (hpre:∀i∈pre,opK i=true) (hlen:pre.length≤2000) (hc:CodeOk H) {o r k:Nat} {img:List UInt8} {hd:tHead.den} {adr:Nat→Int} (hr:4≤r) (ho4:o % 4=0) (hr4:r % 4=0) (h:IsImg (its pre++H) o r k img hd adr) (hk:cntI (its pre++H) k=pre.length+cntL 0 H)
  {s1:IS} (he:execL ⟨prgTo (its pre++H) (its pre++H).length,o,r,img.length,cntI (its pre++H) k⟩ pre (beginS o r img.length img)=some s1) (f:tFault.den) (hf:qr f=0) (hfs:(pre.length:Int)≤(show Int from f.2.1)∨f=noFault) (n:Nat) (hb:pre.length+n≤67108864) :
  ∃cy:Int,qK (img,[],f,((pre.length+n:Nat):Int)) =
   (((goI (localE H o r img.length) f n pre.length (false,0,s1)).2.2.1,((pre.length+(goI (localE H o r img.length) f n pre.length (false,0,s1)).1:Nat):Int),cy,(((goI (localE H o r img.length) f n pre.length (false,0,s1)).2.1:Nat):Int),
    (((goI (localE H o r img.length) f n pre.length (false,0,s1)).2.2.2.2.2.2 537919488:Nat):Int),(((goI (localE H o r img.length) f n pre.length (false,0,s1)).2.2.2.2.2.2 538968064:Nat):Int),
    bytesW (goI (localE H o r img.length) f n pre.length (false,0,s1)).2.2.2.2.2.2 537001984 o,bytesW (goI (localE H o r img.length) f n pre.length (false,0,s1)).2.2.2.2.2.2 537133056 r,bytesW (goI (localE H o r img.length) f n pre.length (false,0,s1)).2.2.2.2.2.2 537395200 r,()),0,()):=by
 have hI:ItOk (its pre++H):=itok_pre hpre hc.all hc.nodup (by have:=hc.len;omega)
 obtain⟨cy,hrun⟩:=run_im hr ho4 hr4 h f hf (pre.length+n) hb
 have hil:(its pre).length=pre.length:=by unfold its;rw[List.length_map]
 have hpart:=part_of hI (its_kind0 pre) o r img.length (cntL 0 H)
 rw[hil,←hk] at hpart
 have hgo:GoTo ⟨prgTo (its pre++H) (its pre++H).length,o,r,img.length,cntI (its pre++H) k⟩ pre.length 0 0 (beginS o r img.length img) (0+pre.length) s1:=by
  refine execL_go pre 0 _ s1 (fun i hi=>?_) (fun i hi=>?_) he
  ·show(prgTo (its pre++H) (its pre++H).length)[0+i]?=_
   rw[Nat.zero_add,prg_strip hI,strip_pre _ _ _ (its_kind0 pre),List.getElem?_append_left (by rw[List.length_map,hil];exact hi),List.getElem?_map]
   unfold its
   rw[List.getElem?_map]
   cases pre[i]?<;>rfl
  ·show 0+i≠cntI (its pre++H) k
   rw[hk]
   omega
 have key:goI ⟨prgTo (its pre++H) (its pre++H).length,o,r,img.length,cntI (its pre++H) k⟩ f (pre.length+n) 0 (false,0,beginS o r img.length img) =
   (pre.length+(goI (localE H o r img.length) f n pre.length (false,0,s1)).1,(goI (localE H o r img.length) f n pre.length (false,0,s1)).2.1,shiftO pre.length (goI (localE H o r img.length) f n pre.length (false,0,s1)).2.2):=by
  have hg:goN ⟨prgTo (its pre++H) (its pre++H).length,o,r,img.length,cntI (its pre++H) k⟩ pre.length (false,0,beginS o r img.length img)=(pre.length,0,false,pre.length+0,s1):=by
   have:=hgo
   unfold GoTo at this
   rw[this]
   simp
  rcases hfs with hfs |rfl
  ·rw[goI_split _ f n pre.length 0 _ (by omega),hg]
   dsimp only
   have:=part_goI hpart f n (0+(pre.length:Int)) false 0 s1
   rw[this,Int.zero_add,Nat.zero_add]
   rfl
  ·rw[goI_none,goI_none,goN_add,hg]
   dsimp only
   rw[part_go hpart n false 0 s1,Nat.zero_add]
   rfl
 rw[key] at hrun
 exact⟨cy,hrun⟩
theorem of_kind (hal:Bool) (st cy hn cm stt:Int) (x y z:List UInt8):qfA (hal,st,cy,hn,cm,stt,x,y,z,())=bif !hal then(0,[],()) else bif cm==3235799053 then(1,x,()) else bif stt==195890093 then(2,[],()) else(3,[],()):=by
 unfold qfA qgL PO.getO
 simp only[PO.val]
 cases hal
 ·rfl
 ·cases (cm==(3235799053:Int))
  ·cases (stt==(195890093:Int))<;>rfl
  ·rfl
end Go.Av
end
