/- Texts of the proof, one behind the other. -/
import Derived.Test.YtealbjacocgjcaaGreatGateFaultK31
import Derived.Test.YtealbjacocgjcaaGreatGateFaultK30
import Derived.Test.YtealbjacocgjcaaGreatGateFaultK26
import Derived.Test.YtealbjacocgjcaaGreatGateFaultK28
section
namespace Go.Av
open Go
abbrev Flg:Type:=Bool×Bool×Bool×Bool×Unit
abbrev IS:Type:=(Int→Nat)×Flg×(Nat→Nat)
inductive PI where
 |op (i:qA.den)
 |br (o c:Int) (t:Nat)
def qbk (a b:Nat):Flg:=(decide (2147483648≤wn ((a:Int)-b)),a==b,decide (b≤a),qCh a b,())
def qyu (F:Flg) (c:Int):Bool :=
 bif decide (c<0)||decide (c > 13) then false else((bif c / 2==0 then F.2.1 else bif c / 2==1 then F.2.2.1 else bif c / 2==2 then F.1 else bif c / 2==3 then F.2.2.2.1 else bif c / 2==4 then F.2.2.1&&!F.2.1 else bif c / 2==5 then F.1==F.2.2.2.1 else c / 2==6&&(!F.2.1&&F.1==F.2.2.2.1))==(c % 2==0))
def qbV (F:Flg) (o c:Int):Bool:=o==24||o==25&&qyu F c
structure Env where
 P:List PI
 o:Nat
 r:Nat
 n:Nat
 h:Nat
def Env.okR (E:Env) (a:Nat):Bool:=(qiS E.o E.r E.n a).isSome
def Env.okW (E:Env) (a:Nat):Bool:=(qdf E.o E.r a).isSome
abbrev IO3:Type:=Bool×Nat×IS
def doI (E:Env) (j:Nat) (i:qA.den) (s:IS):IO3 :=
 bif i.1==2 then(true,j,s)
 else bif i.1==19 then(bif E.okR (s.1 i.2.2.1) then(false,j+1,qn s.1 i.2.1 (s.2.2 (s.1 i.2.2.1)),s.2) else(false,E.h,s))
 else bif i.1==20 then(bif E.okW (s.1 i.2.2.1) then(false,j+1,s.1,s.2.1,qcb s.2.2 (s.1 i.2.2.1) (s.1 i.2.1)) else(false,E.h,s))
 else bif i.1==23 then(false,j+1,s.1,qbk (s.1 i.2.2.1) (s.1 i.2.2.2.1),s.2.2)
 else(false,j+1,qjc s.1 i,s.2)
def atI (E:Env) (j:Nat) (s:IS):PI→IO3
 | .op i=>doI E j i s
 | .br o c t=>bif qbV s.2.1 o c then(false,t,s) else(false,j+1,s)
def qN (E:Env) (skip:Bool) (j:Nat) (s:IS):IO3 :=
 match E.P[j]? with
 |none=>(false,E.h,s)
 |some p=>bif skip then(false,j+1,s) else atI E j s p
def qbE (f:qX.den) (s:IS):IS :=
 bif f.1==2 then(qn s.1 f.2.2.1 (s.1 f.2.2.1 ^^^ 2 ^ kk f.2.2.2.1),s.2)
 else bif f.1==3 then(s.1,(qcJ ([],0,s.2.1) f).2.2,s.2.2)
 else s
def opK (i:qA.den):Bool:=okB i.1 i.2.1 i.2.2.1 i.2.2.2.1 i.2.2.2.2.1 i.2.2.2.2.2.1 i.2.2.2.2.2.2.1 i.2.2.2.2.2.2.2.1&&(i.1==2||(decide (3≤i.1)&&decide (i.1≤20)||i.1==23))
structure Lk (E:Env) (adr:Nat→Int) (j:Nat) (s:IS) (st:qE.den) (mem:qcS):Prop where
 rep:qxt st s.1
 pc:(show Int from st.2.1)=adr j
 fl:st.2.2=s.2.1
 mw:MW E.o E.r E.n mem s.2.2
structure PrgOk (hd:qce.den) (fl:List UInt8) (E:Env) (adr:Nat→Int):Prop where
 sz:SzOk E.o E.r E.n
 hand:(show Int from hd.2.1)=adr E.h
 hin:E.h≤E.P.length
 rng:∀j,j≤E.P.length→0≤adr j∧adr j<4294967296
 fin:qiE fl (adr E.P.length)=none
 op:∀j i,E.P[j]?=some (.op i)→opK i=true∧qiE fl (adr j)=some (i,bif qbR i.1 i.2.2.2.2.2.2.2.1 then 4 else 2)∧adr (j+1)=adr j+(bif qbR i.1 i.2.2.2.2.2.2.2.1 then 4 else 2)
 br:∀j o c t,E.P[j]?=some (.br o c t)→t≤E.P.length∧(o=24∨o=25)∧∃imm w,okB o 0 0 0 0 imm c w=true∧qiE fl (adr j)=some ((o,0,0,0,0,imm,c,w,()),bif w then 4 else 2)∧adr (j+1)=adr j+(bif w then 4 else 2)∧adr t=adr j+4+imm
theorem qOM (s:qE.den) (c:Int):qhA (s,c)=qyu s.2.2 c:=by
 obtain⟨r,pc,n,z,cf,v,u⟩:=s
 exact qI9 r pc n z cf v c
theorem qQC (s:qE.den) (o c:Int):qm5 s o c=qbV s.2.2 o c:=by
 unfold qm5 qbV
 rw[qOM]
theorem qLu {r:List Int} {ρ:Int→Nat} (hl:r.length=15) (h:∀k:Int,0≤k→wn (rg r k)=ρ k) (rd v:Int) (hrd:0≤rd∧rd≤14):(r.set rd.toNat v).length=15∧∀k:Int,0≤k→wn (rg (r.set rd.toNat v) k)=qn ρ rd (wn v) k:=by
 refine⟨by simp[hl],fun k hk=>?_⟩
 by_cases e:k=rd
 ·subst e
  rw[qbL]
  unfold rg
  rw[List.getD_eq_getElem?_getD,List.getElem?_set,if_pos rfl,if_pos (by omega)]
  rfl
 ·rw[qba _ _ e,←h k hk]
  unfold rg
  rw[List.getD_eq_getElem?_getD,List.getD_eq_getElem?_getD,List.getElem?_set,if_neg (by omega)]
theorem qHw {k p r b:Int} (h:qM (k,p,r,b,())=0) (hk:k=2):0≤r∧r≤14:=by
 subst hk
 have hx:=qAh 2 p r b h
 simp only[inRange,beq_self_eq_true,Bool.not_true,Bool.false_or,Bool.and_eq_true,decide_eq_true_eq] at hx
 omega
theorem qMG {E:Env} {adr:Nat→Int} {j:Nat} {s:IS} {st:qE.den} {mem:qcS} (h:Lk E adr j s st mem) (f:qX.den) (hf:qM f=0):Lk E adr j (qbE f s) (qcJ st f) mem:=by
 obtain⟨⟨hl,hr⟩,hpc,hfl,hm⟩:=h
 obtain⟨k,p,r,b,u⟩:=f
 unfold qbE qcJ
 dsimp only
 cases h2:(k==(2:Int))
 ·cases h3:(k==(3:Int))
  ·exact⟨⟨hl,hr⟩,hpc,hfl,hm⟩
  ·obtain⟨rs,pc,n,z,cf,v,u'⟩:=st
   obtain⟨ρ,F,W⟩:=s
   dsimp only at hfl
   subst hfl
   simp only[cond_false,cond_true]
   cases (b==(0:Int))<;>cases (b==(1:Int))<;>cases (b==(2:Int))<;>cases (b==(3:Int))<;>exact⟨⟨hl,hr⟩,hpc,rfl,hm⟩
 ·have hk2:k=2:=by simpa using h2
  obtain⟨r0,r1⟩:=qHw hf hk2
  simp only[cond_true]
  have e:wn (qiT (List.getD st.1 (Int.toNat r) (Ty.dflt (.int .i64)),b))=s.1 r ^^^ 2 ^ kk b:=by
   show wn ((wn (rg st.1 r) ^^^ wn (qt .i64 1 ((kk b:Nat):Int)):Nat):Int)=_
   have hb:=qv7 b
   have e1:wn (qt .i64 1 ((kk b:Nat):Int))=2 ^ kk b:=by
    have:=qxy 1 (kk b) (by omega)
    rw[Nat.one_mul] at this
    refine this.trans (Nat.mod_eq_of_lt ?_)
    exact Nat.lt_of_lt_of_le (Nat.pow_lt_pow_right (by omega) hb) (Nat.le_refl _)
   rw[e1,hr r r0]
   refine qc1 ?_
   have a1:s.1 r<2 ^ 32:=by rw[←hr r r0];exact qga _
   have a2:2 ^ kk b<2 ^ 32:=Nat.pow_lt_pow_right (by omega) hb
   exact Nat.xor_lt_two_pow a1 a2
  have:=qLu hl hr r (qiT (List.getD st.1 (Int.toNat r) (Ty.dflt (.int .i64)),b)) ⟨r0,r1⟩
  rw[e] at this
  exact⟨this,hpc,hfl,hm⟩
theorem qKn {i:qA.den} (h:opK i=true):qf i=0∧(i.1=2∨(3≤(show Int from i.1)∧(show Int from i.1)≤20)∨i.1=23):=by
 obtain⟨op,rd,rn,rm,ra,imm,cond,w,u⟩:=i
 unfold opK at h
 rw[Bool.and_eq_true] at h
 refine⟨(qny op rd rn rm ra imm cond w).2 h.1,?_⟩
 have h:=h.2
 simp only[Bool.or_eq_true,Bool.and_eq_true,decide_eq_true_eq,beq_iff_eq] at h
 exact h
theorem qO6 {s:qE.den} (op rd rn rm ra imm cond:Int) (w:Bool) (ld:Int) (hck:qf (op,rd,rn,rm,ra,imm,cond,w,())=0) (h2:op≠2) (h24:op≠24) (h25:op≠25) (p:Int) (hp:(show Int from s.2.1)=p) (h0:0≤p) (h1:p+(bif qbR op w then 4 else 2)<4294967296) :
  qbf (s,(op,rd,rn,rm,ra,imm,cond,w,()),ld)=(((qpr s op rd rn rm ra imm ld).1,p+(bif qbR op w then 4 else 2),(qpr s op rd rn rm ra imm ld).2.2),true,()):=by
 have hc:(qf (op,rd,rn,rm,ra,imm,cond,w,()) != (0:Int))=false:=by simpa using hck
 show qlX (qf (op,rd,rn,rm,ra,imm,cond,w,()) != 0) s op rd rn rm ra imm cond w ld=_
 rw[hc,qxn _ _ _ _ _ _ _ _ _ _ h2,qJ8 _ _ _ _ _ h24 h25]
 have:(wn (((wn s.2.1:Nat):Int)+(bif qbR op w then 4 else 2)):Int)=p+(bif qbR op w then 4 else 2):=by
  have e:((wn s.2.1:Nat):Int)=p:=by
   rw[show s.2.1=p from hp]
   have:(bif qbR op w then(4:Int) else 2)=4∨(bif qbR op w then(4:Int) else 2)=2:=by cases qbR op w<;>simp
   rw[qhO]
   omega
  rw[e,qhO]
  have:(bif qbR op w then(4:Int) else 2)=4∨(bif qbR op w then(4:Int) else 2)=2:=by cases qbR op w<;>simp
  omega
 rw[this]
theorem qlE {s:qE.den} {ρ:Int→Nat} (h:qxt s ρ):qxt (qcv s.1,s.2) ρ:=⟨by rw[qqb];exact h.1,fun k hk=>by rw[show rg (qcv s.1,s.2).1 k=(wn (rg s.1 k):Int) from qpX _ _,qvW];exact h.2 k hk⟩
set_option maxHeartbeats 1000000 in
theorem qLm {E:Env} {adr:Nat→Int} {hd:qce.den} {j:Nat} {s:IS} {st:qE.den} {mem:qcS} (hs:SzOk E.o E.r E.n) (hh:(show Int from hd.2.1)=adr E.h) (h:Lk E adr j s st mem) (op rd rn rm ra imm cond:Int) (w:Bool) (u:Unit) (hck:qf (op,rd,rn,rm,ra,imm,cond,w,u)=0) (hop:op=2∨(3≤op∧op≤20)∨op=23) (h0:0≤adr j) (h1:adr (j+1)<4294967296)
  (ha:adr (j+1)=adr j+(bif qbR op w then 4 else 2)) :
  (qeM hd st (op,rd,rn,rm,ra,imm,cond,w,u) mem).2.2.1=(doI E j (op,rd,rn,rm,ra,imm,cond,w,u) s).1∧Lk E adr (doI E j (op,rd,rn,rm,ra,imm,cond,w,u) s).2.1 (doI E j (op,rd,rn,rm,ra,imm,cond,w,u) s).2.2 (qeM hd st (op,rd,rn,rm,ra,imm,cond,w,u) mem).2.1 (qeM hd st (op,rd,rn,rm,ra,imm,cond,w,u) mem).2.2.2:=by
 obtain⟨hrep,hpc,hfl,hm⟩:=h
 have hc:(qf (op,rd,rn,rm,ra,imm,cond,w,()) != (0:Int))=false:=by simpa using hck
 obtain⟨_,hrd,hrn,hrm,h17,_⟩:=qlJ hck
 have hacc:qc (st,(op,rd,rn,rm,ra,imm,cond,w,()))=qgN false op (rg st.1 rn) (rg st.1 rd):=by
  show qgN (qf (op,rd,rn,rm,ra,imm,cond,w,()) != 0) op _ _=_
  rw[hc]
 have h1':adr j+(bif qbR op w then 4 else 2)<4294967296:=by rw[←ha];exact h1
 by_cases e2:op=2
 ·subst e2
  have ho:doI E j (2,rd,rn,rm,ra,imm,cond,w,u) s=(true,j,s):=rfl
  rw[ho]
  have hx:qeM hd st (2,rd,rn,rm,ra,imm,cond,w,u) mem=qhg st (2,rd,rn,rm,ra,imm,cond,w,()) mem 0 0:=by
   unfold qeM
   rw[show qc (st,(2,rd,rn,rm,ra,imm,cond,w,u))=_ from hacc]
   rfl
  rw[hx]
  have hst:qbf (st,(2,rd,rn,rm,ra,imm,cond,w,()),0)=(qcj st,false,()):=by
   show qlX (qf (2,rd,rn,rm,ra,imm,cond,w,()) != 0) st 2 rd rn rm ra imm cond w 0=_
   rw[hc]
   rfl
  unfold qhg
  rw[hst]
  refine⟨rfl,⟨(qlE hrep).1,(qlE hrep).2⟩,?_,hfl,hm⟩
  show((wn st.2.1:Nat):Int)=adr j
  have hpc:st.2.1=adr j:=hpc
  rw[hpc,qhO]
  have:(bif qbR 2 w then(4:Int) else 2)=4∨(bif qbR 2 w then(4:Int) else 2)=2:=by cases qbR 2 w<;>simp
  omega
 ·have h24:op≠24:=by omega
  have h25:op≠25:=by omega
  have hstep:=fun ld=>qO6 (s:=st) op rd rn rm ra imm cond w ld hck e2 h24 h25 (adr j) hpc h0 h1'
  have b2:(op==(2:Int))=false:=beq_eq_false_iff_ne.2 e2
  have b24:(op==(24:Int))=false:=beq_eq_false_iff_ne.2 h24
  have b25:(op==(25:Int))=false:=beq_eq_false_iff_ne.2 h25
  by_cases e23:op=23
  ·subst e23
   have ho:doI E j (23,rd,rn,rm,ra,imm,cond,w,u) s=(false,j+1,s.1,qbk (s.1 rn) (s.1 rm),s.2.2):=rfl
   rw[ho]
   have hx:qeM hd st (23,rd,rn,rm,ra,imm,cond,w,u) mem=qhg st (23,rd,rn,rm,ra,imm,cond,w,()) mem 0 0:=by
    unfold qeM
    rw[show qc (st,(23,rd,rn,rm,ra,imm,cond,w,u))=_ from hacc]
    rfl
   rw[hx]
   unfold qhg
   rw[hstep 0]
   have enx:qpr st 23 rd rn rm ra imm 0=qf4 (qcj st,(wn (rg st.1 rn):Int),(wn (rg st.1 rm):Int)):=by
    show qf4 (qcj st,rg (qcv st.1) rn,rg (qcv st.1) rm)=_
    rw[qpX,qpX]
   rw[enx,qEX _ _ _ (qga _) (qga _),hrep.2 rn hrn.1,hrep.2 rm hrm.1]
   exact⟨rfl,⟨(qlE hrep).1,(qlE hrep).2⟩,ha.symm,rfl,hm⟩
  ·have b23:(op==(23:Int))=false:=beq_eq_false_iff_ne.2 e23
   have hr3:3≤op∧op≤20:=by
    rcases hop with e |e |e
    ·exact absurd e e2
    ·exact e
    ·exact absurd e e23
   have enx:∀ld,qpr st op rd rn rm ra imm ld=(qka (qcv st.1) op rd rn rm ra imm ld,((wn st.2.1:Nat):Int),st.2.2):=fun ld=>by
    unfold qpr
    rw[b24,b25]
    show qfg (qcj st) op rd rn rm ra imm ld=_
    unfold qfg
    rw[b23]
    rfl
   by_cases e20:op=20
   ·subst e20
    have hst:=qMR hs hm (s.1 rn) (s.1 rd)
    have hacc':qc (st,(20,rd,rn,rm,ra,imm,cond,w,u))=((((s.1 rn:Nat):Int),4,((s.1 rd:Nat):Int),true,()),true,()):=by
     refine hacc.trans ?_
     show((((wn (rg st.1 rn):Nat):Int),4,((wn (rg st.1 rd):Nat):Int),true,()),true,())=_
     rw[hrep.2 rn hrn.1,hrep.2 rd hrd.1]
    have hx:qeM hd st (20,rd,rn,rm,ra,imm,cond,w,u) mem=(bif (qd6 mem ((s.1 rn:Nat):Int) 4 ((s.1 rd:Nat):Int)).1 != 0 then qmR hd st (qd6 mem ((s.1 rn:Nat):Int) 4 ((s.1 rd:Nat):Int)).2 ((s.1 rn:Nat):Int)
      else qhg st (20,rd,rn,rm,ra,imm,cond,w,u) (qd6 mem ((s.1 rn:Nat):Int) 4 ((s.1 rd:Nat):Int)).2 0 ((s.1 rn:Nat):Int)):=by
     unfold qeM
     rw[hacc']
     rfl
    have ho:doI E j (20,rd,rn,rm,ra,imm,cond,w,u) s=(bif E.okW (s.1 rn) then(false,j+1,s.1,s.2.1,qcb s.2.2 (s.1 rn) (s.1 rd)) else(false,E.h,s)):=rfl
    rw[ho,hx]
    cases hw:E.okW (s.1 rn)
    ·obtain⟨a1,a2⟩:=hst.2 hw
     rw[a1,a2]
     exact⟨rfl,hrep,hh,hfl,hm⟩
    ·obtain⟨a1,a2⟩:=hst.1 hw
     rw[a1]
     show(qhg st (20,rd,rn,rm,ra,imm,cond,w,u) _ 0 _).2.2.1=_∧_
     unfold qhg
     rw[show qbf (st,(20,rd,rn,rm,ra,imm,cond,w,u),0)=_ from hstep 0,enx 0]
     have ew:wn ((s.1 rd:Nat):Int)=s.1 rd:=by rw[←hrep.2 rd hrd.1];exact qvW _
     rw[ew] at a2
     exact⟨rfl,⟨(qlE hrep).1,(qlE hrep).2⟩,ha.symm,hfl,a2⟩
   ·have b20:(op==(20:Int))=false:=beq_eq_false_iff_ne.2 e20
    have hmk:qnn op=true:=by
     unfold qnn
     rw[decide_eq_true hr3.1,decide_eq_true (show op≤19 by omega)]
     rfl
    have hrep':∀ld,qxt (qbf (st,(op,rd,rn,rm,ra,imm,cond,w,()),ld)).1 (bif op==17 then qn (qn s.1 rd (s.1 rn*s.1 rm % 4294967296)) ra (s.1 rn*s.1 rm / 4294967296) else qn s.1 rd (wn (vOf op imm ra (s.1 rd) (s.1 rn) (s.1 rm) ld))):=fun ld=>by
     obtain⟨t,e1,e2⟩:=qIL hrep op rd rn rm ra imm cond w ld hck hmk
     rw[e1]
     exact e2
    by_cases e19:op=19
    ·subst e19
     have hld:=qzt hs hm (s.1 rn)
     have hacc':qc (st,(19,rd,rn,rm,ra,imm,cond,w,u))=((((s.1 rn:Nat):Int),4,0,false,()),true,()):=by
      refine hacc.trans ?_
      show((((wn (rg st.1 rn):Nat):Int),4,0,false,()),true,())=_
      rw[hrep.2 rn hrn.1]
     have hx:qeM hd st (19,rd,rn,rm,ra,imm,cond,w,u) mem=(bif (ql6 mem ((s.1 rn:Nat):Int) 4).2.1 != 0 then qmR hd st mem ((s.1 rn:Nat):Int)
       else qhg st (19,rd,rn,rm,ra,imm,cond,w,u) mem (ql6 mem ((s.1 rn:Nat):Int) 4).1 ((s.1 rn:Nat):Int)):=by
      unfold qeM
      rw[hacc']
      rfl
     have ho:doI E j (19,rd,rn,rm,ra,imm,cond,w,u) s=(bif E.okR (s.1 rn) then(false,j+1,qn s.1 rd (s.2.2 (s.1 rn)),s.2) else(false,E.h,s)):=rfl
     cases hw:E.okR (s.1 rn)
     ·rw[show(qiS E.o E.r E.n (s.1 rn)).isSome=false from hw] at hld
      rw[ho,hx,hld,hw]
      exact⟨rfl,hrep,hh,hfl,hm⟩
     ·rw[show(qiS E.o E.r E.n (s.1 rn)).isSome=true from hw] at hld
      have hr2:=hrep' ((s.2.2 (s.1 rn):Nat):Int)
      have ev:wn (vOf 19 imm ra (s.1 rd) (s.1 rn) (s.1 rm) ((s.2.2 (s.1 rn):Nat):Int))=s.2.2 (s.1 rn):=by
       show wn ((wn ((s.2.2 (s.1 rn):Nat):Int):Nat):Int)=_
       rw[qvW]
       exact qc1 (qR3 hs hm hw)
      have hr2:qxt (qbf (st,(19,rd,rn,rm,ra,imm,cond,w,()),((s.2.2 (s.1 rn):Nat):Int))).1 (qn s.1 rd (s.2.2 (s.1 rn))):=by
       have e17:((19:Int)==17)=false:=rfl
       rw[e17,cond_false,ev] at hr2
       exact hr2
      rw[hstep] at hr2
      have hx2:qeM hd st (19,rd,rn,rm,ra,imm,cond,w,u) mem=qhg st (19,rd,rn,rm,ra,imm,cond,w,u) mem ((s.2.2 (s.1 rn):Nat):Int) ((s.1 rn:Nat):Int):=by
       rw[hx,hld]
       rfl
      rw[ho,hx2,hw]
      unfold qhg
      rw[show qbf (st,(19,rd,rn,rm,ra,imm,cond,w,u),((s.2.2 (s.1 rn):Nat):Int))=_ from hstep _]
      refine⟨rfl,hr2,ha.symm,?_,hm⟩
      rw[enx]
      exact hfl
    ·have b19:(op==(19:Int))=false:=beq_eq_false_iff_ne.2 e19
     have b21:(op==(21:Int))=false:=beq_eq_false_iff_ne.2 (by omega)
     have b22:(op==(22:Int))=false:=beq_eq_false_iff_ne.2 (by omega)
     have ho:doI E j (op,rd,rn,rm,ra,imm,cond,w,u) s=(false,j+1,qjc s.1 (op,rd,rn,rm,ra,imm,cond,w,u),s.2):=by
      unfold doI
      dsimp only
      rw[b2,b19,b20,b23]
      rfl
     have hx:qeM hd st (op,rd,rn,rm,ra,imm,cond,w,u) mem=qhg st (op,rd,rn,rm,ra,imm,cond,w,()) mem 0 0:=by
      unfold qeM
      rw[show qc (st,(op,rd,rn,rm,ra,imm,cond,w,u))=_ from hacc]
      unfold qgN
      rw[b19,b20,b21,b22]
      rfl
     have hr2:=hrep' 0
     rw[hstep] at hr2
     rw[ho,hx]
     unfold qhg
     rw[hstep 0]
     refine⟨rfl,hr2,ha.symm,?_,hm⟩
     rw[enx]
     exact hfl
theorem qMf {E:Env} {adr:Nat→Int} {hd:qce.den} {j:Nat} {s:IS} {st:qE.den} {mem:qcS} (hs:SzOk E.o E.r E.n) (hh:(show Int from hd.2.1)=adr E.h) (h:Lk E adr j s st mem) {i:qA.den} (hk:opK i=true) (h0:0≤adr j) (h1:adr (j+1)<4294967296)
  (ha:adr (j+1)=adr j+(bif qbR i.1 i.2.2.2.2.2.2.2.1 then 4 else 2)) :
  (qeM hd st i mem).2.2.1=(doI E j i s).1∧Lk E adr (doI E j i s).2.1 (doI E j i s).2.2 (qeM hd st i mem).2.1 (qeM hd st i mem).2.2.2:=by
 obtain⟨hck,hop⟩:=qKn hk
 obtain⟨op,rd,rn,rm,ra,imm,cond,w,u⟩:=i
 exact qLm hs hh h op rd rn rm ra imm cond w u hck hop h0 h1 ha
end Go.Av
end
section
namespace Go.Av
open Go
theorem qOm {E:Env} {adr:Nat→Int} {hd:qce.den} {j:Nat} {s:IS} {st:qE.den} {mem:qcS} (h:Lk E adr j s st mem) (o c:Int) (t:Nat) (imm:Int) (w:Bool) (hok:okB o 0 0 0 0 imm c w=true) (ho:o=24∨o=25)
  (h0:0≤adr j∧adr j<4294967296) (h1:0≤adr (j+1)∧adr (j+1)<4294967296) (ht:0≤adr t∧adr t<4294967296) (ha:adr (j+1)=adr j+(bif w then 4 else 2)) (hb:adr t=adr j+4+imm) :
  (qeM hd st (o,0,0,0,0,imm,c,w,()) mem).2.2.1=(atI E j s (.br o c t)).1∧Lk E adr (atI E j s (.br o c t)).2.1 (atI E j s (.br o c t)).2.2 (qeM hd st (o,0,0,0,0,imm,c,w,()) mem).2.1 (qeM hd st (o,0,0,0,0,imm,c,w,()) mem).2.2.2:=by
 obtain⟨hrep,hpc,hfl,hm⟩:=h
 have hck:=(qny o 0 0 0 0 imm c w).2 hok
 have hc:(qf (o,0,0,0,0,imm,c,w,()) != (0:Int))=false:=by simpa using hck
 have hacc:qc (st,(o,0,0,0,0,imm,c,w,()))=((0,0,0,false,()),false,()):=by
  show qgN (qf (o,0,0,0,0,imm,c,w,()) != 0) o _ _=_
  rw[hc]
  rcases ho with rfl |rfl<;>rfl
 have hx:qeM hd st (o,0,0,0,0,imm,c,w,()) mem=qhg st (o,0,0,0,0,imm,c,w,()) mem 0 0:=by
  unfold qeM
  rw[hacc]
  rfl
 have hpw:((wn st.2.1:Nat):Int)=adr j:=by
  have hpc:st.2.1=adr j:=hpc
  rw[hpc,qhO]
  omega
 have hst:qbf (st,(o,0,0,0,0,imm,c,w,()),0)=((qcv st.1,(bif qbV st.2.2 o c then adr t else adr (j+1)),st.2.2),true,()):=by
  show qlX (qf (o,0,0,0,0,imm,c,w,()) != 0) st o 0 0 0 0 imm c w 0=_
  rw[hc,qxn _ _ _ _ _ _ _ _ _ _ (by omega)]
  have e1:qpr st o 0 0 0 0 imm 0=qcj st:=by
   unfold qpr
   rcases ho with rfl |rfl<;>rfl
  have e2:qbR o w=w:=by
   unfold qbR
   rcases ho with rfl |rfl<;>simp
  have e3:qu6 (qcj st) o imm c w=bif qbV st.2.2 o c then 4+imm else bif w then 4 else 2:=by
   unfold qu6
   rw[qQC,e2]
   rfl
  rw[e1,e3,hpw]
  have e4:((wn (adr j+(bif qbV st.2.2 o c then 4+imm else bif w then 4 else 2)):Nat):Int)=bif qbV st.2.2 o c then adr t else adr (j+1):=by
   rw[qhO]
   cases qbV st.2.2 o c
   ·simp only[cond_false]
    rw[←ha]
    omega
   ·simp only[cond_true]
    rw[show adr j+(4+imm)=adr t by omega]
    omega
  rw[e4]
  rfl
 rw[hx]
 unfold qhg
 rw[hst]
 have hA:atI E j s (.br o c t)=(false,(bif qbV st.2.2 o c then t else j+1),s):=by
  show(bif qbV s.2.1 o c then(false,t,s) else(false,j+1,s))=_
  rw[hfl]
  cases qbV s.2.1 o c<;>rfl
 rw[hA]
 refine⟨rfl,⟨(qlE hrep).1,(qlE hrep).2⟩,?_,hfl,hm⟩
 show(bif qbV st.2.2 o c then adr t else adr (j+1))=adr (bif qbV st.2.2 o c then t else j+1)
 cases qbV st.2.2 o c<;>rfl
theorem qz9:qM qev=0:=rfl
section
variable {hd:qce.den} {fl:List UInt8} {E:Env} {adr:Nat→Int} (hp:PrgOk hd fl E adr)
include hp
theorem qMd {j:Nat} (hj:j<E.P.length):adr j<adr (j+1):=by
 have hg:E.P[j]?=some E.P[j]:=List.getElem?_eq_getElem hj
 cases hq:E.P[j] with
 |op i =>
  rw[hq] at hg
  obtain⟨_,_,h⟩:=hp.op j i hg
  rw[h]
  cases qbR i.1 i.2.2.2.2.2.2.2.1<;>(simp only[cond_true,cond_false];omega)
 |br o c t =>
  rw[hq] at hg
  obtain⟨_,_,imm,w,_,_,h,_⟩:=hp.br j o c t hg
  rw[h]
  cases w<;>(simp only[cond_true,cond_false];omega)
theorem qCc {i:Nat}:∀{j:Nat},i<j→j≤E.P.length→adr i<adr j
 |0,h,_=>by cases h
 |j+1,h,hj=>by
  have h1:=qMd hp (j:=j) (by omega)
  rcases Nat.lt_or_ge i j with h' |h'
  ·have:=qCc h' (by omega)
   omega
  ·have:i=j:=by omega
   subst this
   exact h1
theorem qPj {i j:Nat} (hi:i≤E.P.length) (hj:j≤E.P.length):(adr i==adr j)=(i==j):=by
 rcases Nat.lt_trichotomy i j with h |h |h
 ·have:=qCc hp h hj
  rw[beq_eq_false_iff_ne.2 (show adr i≠adr j by omega),beq_eq_false_iff_ne.2 (show i≠j by omega)]
 ·subst h
  rw[beq_self_eq_true,beq_self_eq_true]
 ·have:=qCc hp h hi
  rw[beq_eq_false_iff_ne.2 (show adr i≠adr j by omega),beq_eq_false_iff_ne.2 (show i≠j by omega)]
theorem qN9 {skip:Bool} {j:Nat} {s:IS} (hj:j≤E.P.length):(qN E skip j s).2.1≤E.P.length:=by
 unfold qN
 cases hg:E.P[j]? with
 |none=>exact hp.hin
 |some p =>
  have hlt:j<E.P.length:=by
   rcases Nat.lt_or_ge j E.P.length with h |h
   ·exact h
   ·rw[List.getElem?_eq_none h] at hg
    cases hg
  cases skip
  ·show(atI E j s p).2.1≤_
   cases p with
   |op i =>
    have hh:=hp.hin
    show(doI E j i s).2.1≤_
    unfold doI
    cases (i.1==(2:Int))
    ·cases (i.1==(19:Int))
     ·cases (i.1==(20:Int))
      ·cases (i.1==(23:Int))<;>exact hlt
      ·cases E.okW (s.1 i.2.2.1)
       ·exact hh
       ·exact hlt
     ·cases E.okR (s.1 i.2.2.1)
      ·exact hh
      ·exact hlt
    ·exact hj
   |br o c t =>
    obtain⟨ht,_⟩:=hp.br j o c t hg
    show(bif qbV s.2.1 o c then(false,t,s) else(false,j+1,s)).2.1≤_
    cases qbV s.2.1 o c
    ·exact hlt
    ·exact ht
  ·exact hlt
theorem qJf {j:Nat} {s:IS} {st:qE.den} {mem:qcS} (hj:j≤E.P.length) (h:Lk E adr j s st mem) (f:qX.den) (hf:qM f=0) :
  (qcC hd fl st mem f).2.2.1=(qN E (f.1==(1:Int)) j (qbE f s)).1∧Lk E adr (qN E (f.1==(1:Int)) j (qbE f s)).2.1 (qN E (f.1==(1:Int)) j (qbE f s)).2.2 (qcC hd fl st mem f).2.1 (qcC hd fl st mem f).2.2.2:=by
 have hl:=qMG h f hf
 have hfx:qpQ f=f:=by
  unfold qpQ
  rw[hf]
  rfl
 unfold qcC
 rw[hfx]
 generalize hs':qbE f s=s' at *
 generalize hst':qcJ st f=st' at *
 unfold qyj
 have hpc:st'.2.1=adr j:=hl.pc
 rw[hpc]
 unfold qN
 cases hg:E.P[j]? with
 |none =>
  have:j=E.P.length:=by
   rcases Nat.lt_or_ge j E.P.length with h |h
   ·rw[List.getElem?_eq_getElem h] at hg
    cases hg
   ·omega
  rw[this,hp.fin]
  exact⟨rfl,hl.rep,hp.hand,hl.fl,hl.mw⟩
 |some p =>
  have hlt:j<E.P.length:=by
   rcases Nat.lt_or_ge j E.P.length with h |h
   ·exact h
   ·rw[List.getElem?_eq_none h] at hg
    cases hg
  have hr0:=hp.rng j hj
  have hr1:=hp.rng (j+1) hlt
  have hskip:∀(i:qA.den) (n:Int),adr (j+1)=adr j+n→qiE fl (adr j)=some (i,n)→(f.1==(1:Int))=true →
    ((1,adr j,0,1,()) ,(st'.1,qgx (adr j,n),st'.2.2),false,mem).2.2.1=((false,j+1,s'):IO3).1∧Lk E adr (j+1) s' (st'.1,qgx (adr j,n),st'.2.2) mem:=fun i n hn _ _=>by
   refine⟨rfl,hl.rep,?_,hl.fl,hl.mw⟩
   show((wn (adr j+n):Nat):Int)=adr (j+1)
   rw[←hn,qhO]
   omega
  cases p with
  |op i =>
   obtain⟨h1,h2,h3⟩:=hp.op j i hg
   rw[h2]
   cases hk:(f.1==(1:Int))
   ·have:=qMf (hd:=hd) hp.sz hp.hand hl h1 hr0.1 hr1.2 h3
    exact this
   ·exact hskip i _ h3 h2 hk
  |br o c t =>
   obtain⟨h0,h1,imm,w,h2,h3,h4,h5⟩:=hp.br j o c t hg
   rw[h3]
   cases hk:(f.1==(1:Int))
   ·have:=qOm (hd:=hd) hl o c t imm w h2 h1 hr0 hr1 (hp.rng t h0) h4 h5
    exact this
   ·exact hskip _ _ h4 h3 hk
end
def goI (E:Env) (f:qX.den):Nat→Int→IO3→Nat×Nat×IO3
 |0,_,q=>(0,0,q)
 |n+1,k,q=>bif q.1 then(0,0,q) else
   ((goI E f n (k+1) (qN E ((qcn f k).1==(1:Int)) q.2.1 (qbE (qcn f k) q.2.2))).1+1,
    (bif q.2.1==E.h then 1 else 0)+(goI E f n (k+1) (qN E ((qcn f k).1==(1:Int)) q.2.1 (qbE (qcn f k) q.2.2))).2.1,
    (goI E f n (k+1) (qN E ((qcn f k).1==(1:Int)) q.2.1 (qbE (qcn f k) q.2.2))).2.2)
def goN (E:Env):Nat→IO3→Nat×Nat×IO3
 |0,q=>(0,0,q)
 |n+1,q=>bif q.1 then(0,0,q) else
   ((goN E n (qN E false q.2.1 q.2.2)).1+1,(bif q.2.1==E.h then 1 else 0)+(goN E n (qN E false q.2.1 q.2.2)).2.1,(goN E n (qN E false q.2.1 q.2.2)).2.2)
theorem qPP {f:qX.den} (hf:qM f=0) (k:Int):qM (qcn f k)=0:=by
 unfold qcn
 cases f.2.1==k
 ·exact qz9
 ·exact hf
theorem qGe {hd:qce.den} {fl:List UInt8} {E:Env} {adr:Nat→Int} (hp:PrgOk hd fl E adr) (f:qX.den) (hf:qM f=0):∀(n:Nat) (k:Int) (b:Bool) (j:Nat) (s:IS) (st:qE.den) (mem:qcS),j≤E.P.length→Lk E adr j s st mem →
  (goX hd fl f n k (st,b,mem)).1.length=(goI E f n k (b,j,s)).1∧(goX hd fl f n k (st,b,mem)).2.1=(((goI E f n k (b,j,s)).2.1:Nat):Int)∧(goX hd fl f n k (st,b,mem)).2.2.2.1=(goI E f n k (b,j,s)).2.2.1 ∧
   (goI E f n k (b,j,s)).2.2.2.1≤E.P.length ∧
   Lk E adr (goI E f n k (b,j,s)).2.2.2.1 (goI E f n k (b,j,s)).2.2.2.2 (goX hd fl f n k (st,b,mem)).2.2.1 (goX hd fl f n k (st,b,mem)).2.2.2.2
 |0,_,_,_,_,_,_,hj,h=>⟨rfl,rfl,rfl,hj,h⟩
 |n+1,k,true,_,_,_,_,hj,h=>⟨rfl,rfl,rfl,hj,h⟩
 |n+1,k,false,j,s,st,mem,hj,h=>by
  obtain⟨a1,a2⟩:=qJf hp hj h (qcn f k) (qPP hf k)
  have hin:=qN9 hp (skip:=(qcn f k).1==(1:Int)) (s:=qbE (qcn f k) s) hj
  obtain⟨b1,b2,b3,b4,b5⟩:=qGe hp f hf n (k+1) (qN E ((qcn f k).1==(1:Int)) j (qbE (qcn f k) s)).1 _ _ _ _ hin a2
  rw[goX,goI]
  simp only[cond_false]
  have e:((qcC hd fl st mem (qcn f k)).2.1,(qN E ((qcn f k).1==(1:Int)) j (qbE (qcn f k) s)).1,(qcC hd fl st mem (qcn f k)).2.2.2)=(qcC hd fl st mem (qcn f k)).2:=by rw[←a1]
  rw[e] at b1 b2 b3 b5
  refine⟨?_,?_,b3,b4,b5⟩
  ·show _+1=_+1
   rw[b1]
  ·have e1:(st.2.1==hd.2.1)=(j==E.h):=by
    rw[←qPj hp hj hp.hin]
    have x1:st.2.1=adr j:=h.pc
    have x2:hd.2.1=adr E.h:=hp.hand
    rw[x1,x2]
   show(bif st.2.1==hd.2.1 then(1:Int) else 0)+_=_
   rw[b2,e1]
   cases (j==E.h)
   ·simp
   ·simp
theorem qAM (E:Env) (f:qX.den):∀(n:Nat) (k:Int) (q:IO3),(show Int from f.2.1)<k→goI E f n k q=goN E n q
 |0,_,_,_=>rfl
 |n+1,k,q,h=>by
  have hk:qcn f k=qev:=by
   unfold qcn
   rw[beq_eq_false_iff_ne.2 (show f.2.1≠k from fun e=>by
    have:(show Int from f.2.1)=k:=e
    omega)]
   rfl
  rw[goI,goN,hk]
  have e:qN E (qev.1==(1:Int)) q.2.1 (qbE qev q.2.2)=qN E false q.2.1 q.2.2:=rfl
  rw[e,qAM E f n (k+1) _ (by omega)]
theorem qtR (E:Env):∀(n:Nat) (k:Int) (q:IO3),goI E qev n k q=goN E n q
 |0,_,_=>rfl
 |n+1,k,q=>by
  rw[goI,goN,qNd]
  have e:qN E (qev.1==(1:Int)) q.2.1 (qbE qev q.2.2)=qN E false q.2.1 q.2.2:=rfl
  rw[e,qtR E n (k+1) _]
theorem qsa (E:Env) (f:qX.den) (m:Nat):∀(T:Nat) (k:Int) (q:IO3),k+(T:Int)≤(show Int from f.2.1) →
  goI E f (T+m) k q=((goN E T q).1+(goI E f m (k+T) (goN E T q).2.2).1,(goN E T q).2.1+(goI E f m (k+T) (goN E T q).2.2).2.1,(goI E f m (k+T) (goN E T q).2.2).2.2)
 |0,k,q,_=>by simp[goN]
 |T+1,k,q,h=>by
  rw[show T+1+m=(T+m)+1 by omega,goI,goN]
  cases hq:q.1
  ·have hk:qcn f k=qev:=by
    unfold qcn
    rw[beq_eq_false_iff_ne.2 (show f.2.1≠k from fun e=>by
     have:(show Int from f.2.1)=k:=e
     omega)]
    rfl
   rw[hk]
   have e:qN E (qev.1==(1:Int)) q.2.1 (qbE qev q.2.2)=qN E false q.2.1 q.2.2:=rfl
   simp only[cond_false]
   rw[e,qsa E f m T (k+1) _ (by omega),show k+1+(T:Int)=k+((T+1:Nat):Int) by omega]
   simp only[Prod.mk.injEq,and_true]
   constructor<;>omega
  ·simp only[cond_true]
   have hd:∀n k',goI E f n k' q=(0,0,q):=fun n k'=>by
    cases n with
    |zero=>rfl
    |succ n=>rw[goI,hq];rfl
   rw[hd]
   simp
theorem qOT (E:Env) (f:qX.den) (m:Nat) (k:Int) (j:Nat) (s:IS) (h:(show Int from f.2.1)=k) :
  goI E f (m+1) k (false,j,s)=((goN E m (qN E (f.1==(1:Int)) j (qbE f s))).1+1,(bif j==E.h then 1 else 0)+(goN E m (qN E (f.1==(1:Int)) j (qbE f s))).2.1,(goN E m (qN E (f.1==(1:Int)) j (qbE f s))).2.2):=by
 have hk:qcn f k=f:=by
  unfold qcn
  rw[show(f.2.1==k)=true from beq_iff_eq.2 h]
  rfl
 rw[goI,hk]
 simp only[cond_false]
 rw[qAM E f m (k+1) _ (by omega)]
theorem que (E:Env) (n:Nat) {q:IO3} (h:q.1=true):goN E n q=(0,0,q):=by
 cases n with
 |zero=>rfl
 |succ n=>rw[goN,h];rfl
theorem qnt (E:Env) (m:Nat):∀(n:Nat) (q:IO3),goN E (n+m) q=((goN E n q).1+(goN E m (goN E n q).2.2).1,(goN E n q).2.1+(goN E m (goN E n q).2.2).2.1,(goN E m (goN E n q).2.2).2.2)
 |0,q=>by simp[goN]
 |n+1,q=>by
  rw[show n+1+m=(n+m)+1 by omega,goN,goN]
  cases hq:q.1
  ·simp only[cond_false]
   rw[qnt E m n]
   simp only[Prod.mk.injEq,and_true]
   constructor<;>omega
  ·simp only[cond_true]
   rw[que E m hq]
   simp
end Go.Av
end
section
namespace Go.Av
open Go
theorem qLv (op rd rn rm ra imm cond:Int) (w:Bool) (hok:okB op rd rn rm ra imm cond w=true):(bif qbR op w then(4:Int) else 2)=qi (qfS op rd rn rm ra imm cond w):=by
 have h:qf (op,rd,rn,rm,ra,imm,cond,w,())=0:=(qny op rd rn rm ra imm cond w).2 hok
 obtain⟨_,⟨s1,s2,_⟩ |⟨s1,s2,_,_⟩⟩:=qvq op rd rn rm ra imm cond w h
 ·have e:qfS op rd rn rm ra imm cond w=by2 (hb (e1 op rd rn rm ra imm cond w) 0):=by unfold qfS;rw[s2];rfl
  rw[s1,e]
  rfl
 ·have e:qfS op rd rn rm ra imm cond w=by2 (hb (e1 op rd rn rm ra imm cond w) 0)++by2 (hb (e2 op rd rn rm ra imm cond w) 0):=by unfold qfS;rw[s2];rfl
  rw[s1,e]
  rfl
theorem qAf (i:qA.den) (h:okI i=true):(bif qbR i.1 i.2.2.2.2.2.2.2.1 then(4:Int) else 2)=qi (qo2 i)∧qci i=qi (qo2 i):=by
 obtain⟨op,rd,rn,rm,ra,imm,cond,w,u⟩:=i
 have e:=qLv op rd rn rm ra imm cond w h
 refine⟨e,?_⟩
 have hc:qf (op,rd,rn,rm,ra,imm,cond,w,())=0:=(qny op rd rn rm ra imm cond w).2 h
 refine Eq.trans ?_ e
 show(bif qf (op,rd,rn,rm,ra,imm,cond,w,()) != 0 then(0:Int) else bif qbR op w then 4 else 2)=_
 rw[hc]
 rfl
section
variable (it:List qk.den)
def qbM:Nat→Nat
 |0=>0
 |i+1=>bif (ql it i).1==1 then qbM i else qbM i+1
def piI (i:Nat):PI:=bif (ql it i).1==2 then .br (ql it i).2.2.1.1 (ql it i).2.2.1.2.2.2.2.2.2.1 (qbM it (tgt it i)) else .op (ql it i).2.2.1
def qcl:Nat→List PI
 |0=>[]
 |i+1=>bif (ql it i).1==1 then qcl i else qcl i++[piI it i]
theorem qwd:∀i,(qcl it i).length=qbM it i
 |0=>rfl
 |i+1=>by
  have:=qwd i
  rw[qcl,qbM]
  cases ((ql it i).1==(1:Int))
  ·simp only[cond_false,List.length_append,this,List.length_cons,List.length_nil]
  ·exact this
theorem qG8 (i:Nat):∀n,i≤n→∃t,qcl it n=qcl it i++t
 |0,h=>⟨[],by
  have:i=0:=by omega
  subst this
  simp⟩
 |n+1,h=>by
  rcases Nat.lt_or_ge n i with h' |h'
  ·have:i=n+1:=by omega
   subst this
   exact⟨[],by simp⟩
  ·obtain⟨t,ht⟩:=qG8 i n h'
   rw[qcl]
   cases ((ql it n).1==(1:Int))
   ·exact⟨t++[piI it n],by simp only[cond_false];rw[ht,List.append_assoc]⟩
   ·exact⟨t,ht⟩
theorem qOV {i n:Nat} (hi:i<n) (hk:((ql it i).1==(1:Int))=false):(qcl it n)[qbM it i]?=some (piI it i):=by
 obtain⟨t,ht⟩:=qG8 it (i+1) n hi
 rw[qcl,hk,cond_false] at ht
 rw[ht,List.append_assoc,←qwd it i,List.getElem?_append_right (Nat.le_refl _),Nat.sub_self]
 rfl
theorem qwf {j:Nat}:∀{n:Nat},j<qbM it n→∃i,i<n∧((ql it i).1==(1:Int))=false∧qbM it i=j
 |0,h=>by cases h
 |n+1,h=>by
  rw[qbM] at h
  cases hk:((ql it n).1==(1:Int))
  ·rw[hk,cond_false] at h
   rcases Nat.lt_or_ge j (qbM it n) with h' |h'
   ·obtain⟨i,h1,h2,h3⟩:=qwf h'
    exact⟨i,by omega,h2,h3⟩
   ·exact⟨n,by omega,hk,by omega⟩
  ·rw[hk,cond_true] at h
   obtain⟨i,h1,h2,h3⟩:=qwf h
   exact⟨i,by omega,h2,h3⟩
theorem qrZ {i:Nat}:∀{k:Nat},i≤k→qbM it i≤qbM it k
 |0,h=>by rw[show i=0 by omega];exact Nat.le_refl _
 |k+1,h=>by
  rcases Nat.lt_or_ge k i with h' |h'
  ·rw[show i=k+1 by omega];exact Nat.le_refl _
  ·have:=qrZ h'
   rw[qbM]
   cases ((ql it k).1==(1:Int))
   ·simp only[cond_false];omega
   ·exact this
variable (b:Int) (ws:List Bool)
theorem qGR {i:Nat}:∀{k:Nat},i≤k→qbM it i=qbM it k→qbe it b ws i=qbe it b ws k
 |0,h,_=>by rw[show i=0 by omega]
 |k+1,h,hc=>by
  rcases Nat.lt_or_ge k i with h' |h'
  ·rw[show i=k+1 by omega]
  ·have hm:=qrZ it h'
   rw[qbM] at hc
   cases hk:((ql it k).1==(1:Int))
   ·rw[hk,cond_false] at hc
    omega
   ·rw[hk,cond_true] at hc
    rw[qGR h' hc]
    show _=qbe it b ws k+qfD (ql it k) (wd ws k)
    have:(ql it k).1=(1:Int):=by simpa using hk
    unfold qfD
    rw[this]
    show _=qbe it b ws k+0
    omega
def qxm (j:Nat):Int:=qbe it b ws ((q7 (fun i=>qbM it i==j) (it.length+1)).getD 0)
theorem qmA {i:Nat} (hi:i≤it.length):qxm it b ws (qbM it i)=qbe it b ws i:=by
 unfold qxm
 cases hf:q7 (fun k=>qbM it k==qbM it i) (it.length+1) with
 |none =>
  have:=qdB hf i (by omega)
  simp at this
 |some k =>
  obtain⟨h1,h2,h3⟩:=qcX hf
  have hk:qbM it k=qbM it i:=by simpa using h2
  show qbe it b ws k=_
  rcases Nat.lt_or_ge i k with h |h
  ·have:=h3 i h
   simp at this
  ·exact qGR it b ws h hk
end
section
variable (it:List qk.den) (b:Int) (ws:List Bool) (hn:it.length≤21000) (hf:AsmFine it b) (hp:(qbr it b ws it.length).1=false)
include hn hf hp
theorem qwe {i:Nat} (hi:i<it.length) (hk:((ql it i).1==(1:Int))=false):((qo2 (qe8 it b ws i)).length:Int)=qfD (ql it i) (wd ws i):=by
 have h1:=qn1 it b ws hn hf hp hi hk
 have h2:=qMI it b ws hn hf hp hi hk
 rw[←h2]
 exact(qAf _ h1).2.symm
theorem qvZ:∀{i:Nat},i≤it.length→(((cat (qjS it b ws i)).length:Nat):Int)=qbe it b ws i-b
 |0,_=>by simp[qjS,cat,qbe]
 |i+1,h=>by
  have ih:=qvZ (i:=i) (by omega)
  show _=qbe it b ws i+qfD (ql it i) (wd ws i)-b
  rw[qjS]
  cases hk:((ql it i).1==(1:Int))
  ·have hl:=qwe it b ws hn hf hp (show i<it.length by omega) hk
   simp only[cond_false]
   rw[qDF,List.length_append]
   omega
  ·simp only[cond_true]
   have:(ql it i).1=(1:Int):=by simpa using hk
   have e:qfD (ql it i) (wd ws i)=0:=by
    unfold qfD
    rw[this]
    rfl
   omega
end
theorem qDs (it:List qk.den) (ws:List Bool) (hn:it.length≤21000) (hf:AsmFine it 64) (hp:(qbr it 64 ws it.length).1=false) (hdr fl:List UInt8) (hh:hdr.length=64) (hfl:fl=hdr++qc9 it 64 ws it.length) {i:Nat} (hi:i<it.length) (hk:((ql it i).1==(1:Int))=false) :
  qiE fl (qbe it 64 ws i)=some (qe8 it 64 ws i,qfD (ql it i) (wd ws i)):=by
 obtain⟨hby,_⟩:=qpw it 64 ws it.length (fun k hk' h=>qn1 it 64 ws hn hf hp hk' h)
 obtain⟨t,ht⟩:=qAe it 64 ws (i+1) it.length hi
 rw[qjS,hk,cond_false] at ht
 have hcat:cat (qjS it 64 ws it.length)=cat (qjS it 64 ws i)++(qo2 (qe8 it 64 ws i)++cat t):=by
  rw[ht]
  unfold cat
  rw[List.flatMap_append,List.flatMap_append]
  simp
 have hpos:=qvZ it 64 ws hn hf hp (i:=i) (by omega)
 have hok:=qn1 it 64 ws hn hf hp hi hk
 have hlen:=qwe it 64 ws hn hf hp hi hk
 have hl2:2≤(qo2 (qe8 it 64 ws i)).length:=by rcases qB3 _ hok with e |e<;>omega
 have hb0:=qhx it 64 ws i
 have hev:=qxq it 64 ws i 0
 have hev0:qbe it 64 ws 0=64:=rfl
 have hdrop:fl.drop (qbe it 64 ws i).toNat=qo2 (qe8 it 64 ws i)++cat t:=by
  rw[hfl,hby,hcat,List.drop_append,hh]
  have e1:hdr.drop (qbe it 64 ws i).toNat=[]:=List.drop_of_length_le (by omega)
  have e2:(qbe it 64 ws i).toNat-64=(cat (qjS it 64 ws i)).length:=by omega
  rw[e1,e2,List.nil_append,List.drop_left]
 have hlt:qbe it 64 ws i<qi fl:=by
  simp only[qi]
  rw[hfl,hby,hcat]
  simp only[List.length_append,hh]
  omega
 unfold qiE
 have c1:(qR .i64 (qbe it 64 ws i) 1 != 0||decide (qbe it 64 ws i≥qi fl))=false:=by
  rw[qoW,qC (show ¬qbe it 64 ws i≥qi fl by omega)]
  have:qbe it 64 ws i % 2=0:=by omega
  rw[this]
  rfl
 rw[c1,hdrop,qNt _ hok,←hlen]
 rfl
theorem qOZ (it:List qk.den) (ws:List Bool) (hn:it.length≤21000) (hf:AsmFine it 64) (hp:(qbr it 64 ws it.length).1=false) (hdr fl:List UInt8) (hh:hdr.length=64) (hfl:fl=hdr++qc9 it 64 ws it.length)
  (hop:∀i,i<it.length→((ql it i).1==(0:Int))=true→opK (ql it i).2.2.1=true) (hd:qce.den) (hl:Nat) (hl1:hl≤it.length) (hand:(show Int from hd.2.1)=qbe it 64 ws hl) (o r:Nat) (hs:SzOk o r fl.length) :
  PrgOk hd fl ⟨qcl it it.length,o,r,fl.length,qbM it hl⟩ (qxm it 64 ws):=by
 have hlenP:(qcl it it.length).length=qbM it it.length:=qwd it it.length
 have at_:∀j,j<(qcl it it.length).length→∃i,i<it.length∧((ql it i).1==(1:Int))=false∧qbM it i=j∧(qcl it it.length)[j]?=some (piI it i):=fun j hj=>by
  rw[hlenP] at hj
  obtain⟨i,h1,h2,h3⟩:=qwf it hj
  refine⟨i,h1,h2,h3,?_⟩
  rw[←h3]
  exact qOV it h1 h2
 have lt_:∀{j:Nat} {p:PI},(qcl it it.length)[j]?=some p→j<(qcl it it.length).length:=fun{j p} h=>by
  rcases Nat.lt_or_ge j (qcl it it.length).length with h' |h'
  ·exact h'
  ·rw[List.getElem?_eq_none h'] at h
   cases h
 have next_:∀{i:Nat},i<it.length→((ql it i).1==(1:Int))=false→qxm it 64 ws (qbM it i+1)=qbe it 64 ws i+qfD (ql it i) (wd ws i):=fun{i} h1 h2=>by
  have e:qbM it (i+1)=qbM it i+1:=by rw[qbM,h2];rfl
  rw[←e,qmA it 64 ws (by omega)]
  rfl
 have size_:∀{i:Nat},i<it.length→((ql it i).1==(1:Int))=false→qfD (ql it i) (wd ws i)=bif qbR (qe8 it 64 ws i).1 (qe8 it 64 ws i).2.2.2.2.2.2.2.1 then(4:Int) else 2:=fun{i} h1 h2=>by
  rw[←qwe it 64 ws hn hf hp h1 h2]
  exact(qAf _ (qn1 it 64 ws hn hf hp h1 h2)).1.symm
 have kind_:∀{i:Nat},i<it.length→qfi (ql it i)=true:=fun{i} h=>by
  have:=hf.item i h
  unfold qor at this
  simpa using this
 refine⟨hs,?_,?_,?_,?_,?_,?_⟩
 ·rw[hand]
  exact(qmA it 64 ws hl1).symm
 ·show qbM it hl≤(qcl it it.length).length
  rw[hlenP]
  exact qrZ it hl1
 ·intro j hj
  unfold qxm
  have:=qhx it 64 ws ((q7 (fun i=>qbM it i==j) (it.length+1)).getD 0)
  have hk:(q7 (fun i=>qbM it i==j) (it.length+1)).getD 0≤it.length:=by
   cases hf:q7 (fun i=>qbM it i==j) (it.length+1) with
   |none=>exact Nat.zero_le _
   |some k =>
    have:=(qcX hf).1
    show k≤_
    omega
  omega
 ·show qiE fl (qxm it 64 ws (qcl it it.length).length)=none
  rw[hlenP,qmA it 64 ws (Nat.le_refl _)]
  obtain⟨hby,_⟩:=qpw it 64 ws it.length (fun k hk' h=>qn1 it 64 ws hn hf hp hk' h)
  have hpos:=qvZ it 64 ws hn hf hp (Nat.le_refl _)
  have hge:qbe it 64 ws it.length≥qi fl:=by
   simp only[qi]
   rw[hfl,hby]
   simp only[List.length_append,hh]
   omega
  unfold qiE
  rw[qK hge,Bool.or_true]
  rfl
 ·intro j i hj
  obtain⟨k,h1,h2,h3,h4⟩:=at_ j (lt_ hj)
  rw[h4] at hj
  have hpi:piI it k=.op i:=by injection hj
  have hk2:((ql it k).1==(2:Int))=false:=by
   cases hk2:((ql it k).1==(2:Int))
   ·rfl
   ·unfold piI at hpi
    rw[hk2] at hpi
    cases hpi
  have hi:(ql it k).2.2.1=i:=by
   unfold piI at hpi
   rw[hk2] at hpi
   injection hpi
  have hk0:((ql it k).1==(0:Int))=true:=by
   rcases qq1 _ (kind_ h1) with e |e |⟨e,_⟩
   ·rw[e];rfl
   ·rw[e] at h2;cases h2
   ·rw[e] at hk2;cases hk2
  have hins:qe8 it 64 ws k=i:=by
   unfold qe8
   rw[hk2,←hi]
   rfl
  have hft:=qDs it ws hn hf hp hdr fl hh hfl h1 h2
  have hsz:=size_ h1 h2
  rw[hins] at hft hsz
  rw[←h3]
  refine⟨hi▸hop k h1 hk0,?_,?_⟩
  ·rw[qmA it 64 ws (by omega),hft,hsz]
  ·rw[next_ h1 h2,qmA it 64 ws (by omega),hsz]
 ·intro j o' c t hj
  obtain⟨k,h1,h2,h3,h4⟩:=at_ j (lt_ hj)
  rw[h4] at hj
  have hpi:piI it k=.br o' c t:=by injection hj
  have hk2:((ql it k).1==(2:Int))=true:=by
   cases hk2:((ql it k).1==(2:Int))
   ·unfold piI at hpi
    rw[hk2] at hpi
    cases hpi
   ·rfl
  unfold piI at hpi
  rw[hk2,cond_true] at hpi
  injection hpi with e1 e2 e3
  have hbr:((ql it k).1 != (2:Int))=false:=by
   unfold bne
   rw[hk2]
   rfl
  obtain⟨_,t2⟩:=qt6 it hf.miss h1 hbr
  have hins:qe8 it 64 ws k=(o',0,0,0,0,qjO it 64 ws k,c,wd ws k,()):=by
   unfold qe8
   rw[hk2,←e1,←e2]
   rfl
  have hok:=qn1 it 64 ws hn hf hp h1 h2
  have hft:=qDs it ws hn hf hp hdr fl hh hfl h1 h2
  have hszJ:qfD (ql it k) (wd ws k)=bif wd ws k then(4:Int) else 2:=by
   have:(ql it k).1=(2:Int):=by simpa using hk2
   unfold qfD
   rw[this]
   rfl
  rw[hins] at hft hok
  have ho:o'=24∨o'=25:=by
   rcases qq1 _ (kind_ h1) with e |e |⟨_,⟨e,_⟩ |⟨e,_⟩⟩
   ·rw[e] at hk2;cases hk2
   ·rw[e] at h2;cases h2
   ·left;rw[←e1];exact e
   ·right;rw[←e1];exact e
  rw[←h3,←e3]
  refine⟨?_,ho,qjO it 64 ws k,wd ws k,hok,?_,?_,?_⟩
  ·show qbM it (tgt it k)≤(qcl it it.length).length
   rw[hlenP]
   exact qrZ it (by omega)
  ·rw[qmA it 64 ws (by omega),hft,hszJ]
  ·rw[next_ h1 h2,qmA it 64 ws (by omega),hszJ]
  ·rw[qmA it 64 ws (by omega),qmA it 64 ws (by omega)]
   unfold qjO
   omega
end Go.Av
end
section
namespace Go.Av
open Go
def qd2:List qk.den→List Int
 |[]=>[]
 |j::l=>bif j.1==1 then j.2.1::qd2 l else qd2 l
def jOk (ls:List Int) (j:qk.den):Bool :=
 bif j.1==0 then opK j.2.2.1 else bif j.1==1 then true else j.1==2&&(((j.2.2.1.1==24&&j.2.2.1.2.2.2.2.2.2.1==0)||(j.2.2.1.1==25&&(decide (0≤j.2.2.1.2.2.2.2.2.2.1)&&decide (j.2.2.1.2.2.2.2.2.2.1≤13))))&&ls.contains j.2.1)
structure ItOk (it:List qk.den):Prop where
 len:it.length≤21000
 all:∀j∈it,jOk (qd2 it) j=true
 nodup:(qd2 it).Nodup
theorem qBM {it:List qk.den} {i:Nat} (h:i<it.length):ql it i∈it:=by
 unfold ql
 rw[qet it _ h]
 exact List.getElem_mem h
theorem qw0 {it:List qk.den} {l:Int}:l∈qd2 it↔∃i,i<it.length∧qcq it l i=true:=by
 induction it with
 |nil=>simp[qd2]
 |cons j r ih =>
  have hs:∀i,qcq (j::r) l (i+1)=qcq r l i:=fun i=>rfl
  have h0:qcq (j::r) l 0=(j.1==1&&j.2.1==l):=rfl
  have hx:(∃i,i<(j::r).length∧qcq (j::r) l i=true)↔(j.1==1&&j.2.1==l)=true∨∃i,i<r.length∧qcq r l i=true:=by
   constructor
   ·rintro⟨i,h1,h2⟩
    cases i with
    |zero=>left;rw[←h0];exact h2
    |succ i=>right;exact⟨i,by simpa using h1,by rw[←hs];exact h2⟩
   ·rintro(h |⟨i,h1,h2⟩)
    ·exact⟨0,by simp,by rw[h0];exact h⟩
    ·exact⟨i+1,by simpa using h1,by rw[hs];exact h2⟩
  rw[hx]
  simp only[qd2]
  cases hj:(j.1==(1:Int))
  ·simp only[cond_false,Bool.false_and,Bool.false_eq_true,false_or]
   exact ih
  ·simp only[cond_true,List.mem_cons,Bool.true_and,beq_iff_eq]
   rw[ih]
   constructor
   ·rintro(h |h)
    ·exact .inl h.symm
    ·exact .inr h
   ·rintro(h |h)
    ·exact .inl h.symm
    ·exact .inr h
theorem qvl {it:List qk.den} {l:Int} (hn:(qd2 it).Nodup):∀{i k:Nat},i<it.length→k<it.length→qcq it l i=true→qcq it l k=true→i=k:=by
 induction it with
 |nil=>intro i k h;cases h
 |cons j r ih =>
  intro i k hi hk h1 h2
  simp only[qd2] at hn
  have h0:qcq (j::r) l 0=(j.1==1&&j.2.1==l):=rfl
  have hs:∀i,qcq (j::r) l (i+1)=qcq r l i:=fun i=>rfl
  have key:∀m,m<r.length→qcq r l m=true→qcq (j::r) l 0=true→False:=fun m hm h3 h4=>by
   rw[h0,Bool.and_eq_true,beq_iff_eq,beq_iff_eq] at h4
   have hb:(j.1==(1:Int))=true:=by rw[h4.1];rfl
   rw[hb,cond_true] at hn
   have:=(List.nodup_cons.1 hn).1
   rw[h4.2] at this
   exact this (qw0.2 ⟨m,hm,h3⟩)
  cases i with
  |zero =>
   cases k with
   |zero=>rfl
   |succ k=>exact(key k (by simpa using hk) (by rw[←hs];exact h2) h1).elim
  |succ i =>
   cases k with
   |zero=>exact(key i (by simpa using hi) (by rw[←hs];exact h1) h2).elim
   |succ k =>
    have hn':(qd2 r).Nodup:=by
     cases hb:(j.1==(1:Int))
     ·rw[hb,cond_false] at hn;exact hn
     ·rw[hb,cond_true] at hn;exact(List.nodup_cons.1 hn).2
    have:=ih hn' (i:=i) (k:=k) (by simpa using hi) (by simpa using hk) (by rw[←hs];exact h1) (by rw[←hs];exact h2)
    omega
theorem qQI {i:qA.den} (h:opK i=true):okI i=true:=by
 unfold opK at h
 rw[Bool.and_eq_true] at h
 exact h.1
theorem qLB (op rd rn rm ra imm cond:Int) (w:Bool) (u:Unit) (h:((op==24&&cond==0)||(op==25&&(decide (0≤cond)&&decide (cond≤13))))=true):qgE (op,rd,rn,rm,ra,imm,cond,w,u)=true:=by
 unfold qgE qjE PO.qH
 simp only[PO.val]
 by_cases g:op=24
 ·subst g
  have h':(cond==(0:Int))=true:=by
   rw[Bool.or_eq_true] at h
   rcases h with h |h
   ·rw[Bool.and_eq_true] at h;exact h.2
   ·rw[Bool.and_eq_true] at h;cases h.1
  show(cond==(0:Int))=true
  exact h'
 ·have e:(op==(24:Int))=false:=beq_eq_false_iff_ne.2 g
  rw[e,Bool.false_and,Bool.false_or,Bool.and_eq_true] at h
  have e2:op=25:=by simpa using h.1
  subst e2
  have h2:=h.2
  rw[Bool.and_eq_true] at h2
  show(decide (cond≥0)&&decide (cond≤13))=true
  rw[Bool.and_eq_true]
  exact⟨h2.1,h2.2⟩
theorem qAk {it:List qk.den} (h:ItOk it):AsmFine it 64:=by
 have hj:∀i,i<it.length→jOk (qd2 it) (ql it i)=true:=fun i hi=>h.all _ (qBM hi)
 refine⟨rfl,fun i hi=>?_,fun i hi=>?_,fun i hi=>?_,fun i hi=>?_,?_⟩
 ·have:=hj i hi
  unfold qor
  generalize ql it i=j at this
  obtain⟨k,l,⟨op,rd,rn,rm,ra,imm,cond,w,u⟩,u'⟩:=j
  have hv:qfi (k,l,(op,rd,rn,rm,ra,imm,cond,w,u),u')=true:=by
   unfold qfi qlS PO.qH
   simp only[PO.val]
   unfold jOk at this
   dsimp only at this
   cases e0:(k==(0:Int))
   ·rw[e0,cond_false] at this
    cases e1:(k==(1:Int))
    ·rw[e1,cond_false,Bool.and_eq_true,Bool.and_eq_true] at this
     obtain⟨e2,e3,_⟩:=this
     have hb:=qLB op rd rn rm ra imm cond w u e3
     simp only[e2,cond_true,cond_false]
     simpa using hb
    ·simp only[cond_true,cond_false]
     rfl
   ·simp only[cond_true]
    rfl
  rw[hv]
  rfl
 ·have:=hj i hi
  unfold qjd
  unfold jOk at this
  cases e0:((ql it i).1==(0:Int))
  ·rfl
  ·rw[e0,cond_true] at this
   have:=(qwV _).2 (qQI this)
   rw[this]
   rfl
 ·unfold qgs
  cases e1:((ql it i).1==(1:Int))
  ·rfl
  ·rw[Bool.true_and]
   cases hf:q7 (qcq it (ql it i).2.1) i with
   |none=>rfl
   |some k =>
    obtain⟨k1,k2,_⟩:=qcX hf
    have hi':qcq it (ql it i).2.1 i=true:=by
     unfold qcq
     rw[e1]
     simp
    have:=qvl h.nodup (by omega) hi k2 hi'
    omega
 ·unfold qfX
  cases e2:((ql it i).1==(2:Int))
  ·rfl
  ·rw[Bool.true_and]
   have hb:(ql it i).1=(2:Int):=by simpa using e2
   have:=hj i hi
   unfold jOk at this
   rw[hb] at this
   have this:((2:Int)==2&&((((ql it i).2.2.1.1==24&&(ql it i).2.2.1.2.2.2.2.2.2.1==0)||((ql it i).2.2.1.1==25&&(decide (0≤(ql it i).2.2.1.2.2.2.2.2.2.1)&&decide ((ql it i).2.2.1.2.2.2.2.2.2.1≤13))))&&(qd2 it).contains (ql it i).2.1))=true:=this
   rw[Bool.and_eq_true,Bool.and_eq_true] at this
   have hm:=this.2.2
   rw[List.contains_iff_mem] at hm
   obtain⟨k,k1,k2⟩:=qw0.1 hm
   cases hf:q7 (qcq it (ql it i).2.1) it.length with
   |none =>
    have:=qdB hf k k1
    rw[k2] at this
    cases this
   |some _=>rfl
 ·have:=qhx it 0 (qmf it) it.length
  have:=h.len
  omega
def qeL (l:Int):List qk.den→Nat
 |[]=>0
 |j::r=>bif j.1==1 then(bif j.2.1==l then 0 else qeL l r) else qeL l r+1
def piL (f:Int→Nat) (j:qk.den):PI:=bif j.1==2 then .br j.2.2.1.1 j.2.2.1.2.2.2.2.2.2.1 (f j.2.1) else .op j.2.2.1
def qc2 (f:Int→Nat):List qk.den→List PI
 |[]=>[]
 |j::r=>bif j.1==1 then qc2 f r else piL f j::qc2 f r
theorem qz5 (j:qk.den) (r:List qk.den):∀i,qbM (j::r) (i+1)=(bif j.1==1 then 0 else 1)+qbM r i
 |0=>by
  show(bif j.1==1 then 0 else 0+1)=_
  cases (j.1==(1:Int))<;>rfl
 |i+1=>by
  have ih:=qz5 j r i
  rw[qbM,ih]
  show(bif (ql r i).1==1 then _ else _)=_+(bif (ql r i).1==1 then _ else _)
  cases ((ql r i).1==(1:Int))<;>simp only[cond_true,cond_false]<;>omega
theorem qzT (l:Int):∀(it:List qk.den) (k:Nat),k<it.length→qcq it l k=true→(∀i,i<k→qcq it l i=false)→qbM it k=qeL l it
 |[],_,h,_,_=>by cases h
 |j::r,0,_,h,_=>by
  have h0:(j.1==1&&j.2.1==l)=true:=h
  rw[Bool.and_eq_true] at h0
  show 0=bif j.1==1 then(bif j.2.1==l then 0 else qeL l r) else qeL l r+1
  rw[h0.1,h0.2]
  rfl
 |j::r,k+1,hk,h,hb=>by
  have ih:=qzT l r k (by simpa using hk) h (fun i hi=>hb (i+1) (by omega))
  have h0:(j.1==1&&j.2.1==l)=false:=hb 0 (by omega)
  rw[qz5,ih,qeL]
  cases hj:(j.1==(1:Int))
  ·simp only[cond_false];omega
  ·rw[hj,Bool.true_and] at h0
   rw[h0]
   simp
theorem qxB (f:Int→Nat) (j:qk.den):∀l:List qk.den,qc2 f (l++[j])=bif j.1==1 then qc2 f l else qc2 f l++[piL f j]
 |[]=>by
  simp only[List.nil_append,qc2]
 |i::l=>by
  rw[List.cons_append,qc2,qxB f j l,qc2]
  cases (i.1==(1:Int))<;>cases (j.1==(1:Int))<;>rfl
theorem quX {it:List qk.den} (h:ItOk it):qcl it it.length=qc2 (fun l=>qeL l it) it:=by
 have key:∀n,n≤it.length→qcl it n=qc2 (fun l=>qeL l it) (it.take n):=by
  intro n
  induction n with
  |zero=>intro _;rfl
  |succ n ih =>
   intro hn
   have hlt:n<it.length:=by omega
   have hi:it[n]=ql it n:=(qet it _ hlt).symm
   rw[qcl,ih (by omega),List.take_succ_eq_append_getElem hlt,hi,qxB]
   cases hk:((ql it n).1==(1:Int))
   ·simp only[cond_false]
    congr 2
    unfold piI piL
    cases hk2:((ql it n).1==(2:Int))
    ·rfl
    ·simp only[cond_true]
     have hf:=qAk h
     have hbr:((ql it n).1 != (2:Int))=false:=by
      unfold bne
      rw[hk2]
      rfl
     obtain⟨t1,t2⟩:=qt6 it hf.miss hlt hbr
     obtain⟨s1,s2,s3⟩:=qcX t1
     rw[qzT _ it (tgt it n) t2 s2 s3]
   ·rfl
 have:=key it.length (Nat.le_refl _)
 rw[List.take_length] at this
 exact this
theorem qtS (l:Int):∀(pre H:List qk.den),(∀j∈pre,(j.1==(1:Int))=false)→qeL l (pre++H)=pre.length+qeL l H
 |[],H,_=>by simp
 |j::r,H,h=>by
  have hj:=h j (by simp)
  have ih:=qtS l r H (fun i hi=>h i (by simp[hi]))
  rw[List.cons_append,qeL,hj,cond_false,ih,List.length_cons]
  omega
theorem qst (f:Int→Nat):∀(pre H:List qk.den),(∀j∈pre,(j.1==(0:Int))=true)→qc2 f (pre++H)=pre.map (fun j=>.op j.2.2.1)++qc2 f H
 |[],H,_=>rfl
 |j::r,H,h=>by
  have hj:=h j (by simp)
  have hj0:j.1=(0:Int):=by simpa using hj
  have ih:=qst f r H (fun i hi=>h i (by simp[hi]))
  rw[List.cons_append,qc2,ih]
  have e1:(j.1==(1:Int))=false:=by rw[hj0];rfl
  have e2:(j.1==(2:Int))=false:=by rw[hj0];rfl
  rw[e1,cond_false,List.map_cons,List.cons_append]
  congr 1
  unfold piL
  rw[e2]
  rfl
end Go.Av
end
section
namespace Go.Av
open Go
def qIc (h:Int):List qk.den:=its [qBt 0 5,qrz 2 0,qMw 0 2]++[itC 1 h]
def qyt (ref:Bool) (base n a:Int):List qk.den:=qyB ref n a++its [qrz 0 0]++its (qq3 ref 5 base 1)++its [qBO 0 5]++qxw a
def qxP (ref:Bool) (base n a h:Int):List qk.den:=qyB ref n a++its (qq3 ref 5 base 1)++qIc h++qxw a
def qx4 (ref:Bool) (l:Nat→Int) (s:qbQ.den) (twice:Bool) (h:Int):List qk.den :=
 [itL h]++its [qrz 0 0]++its (qrc ref 5 537919488)++its [qBO 0 5] ++
 qyt ref 537001984 s.2.1 (l 0)++qyt ref 537133056 s.2.2.1 (l 1)++qyt ref 537395200 s.2.2.1 (l 2) ++
 qxP ref 537001984 s.2.1 (l 3) h++qxP ref 537133056 s.2.2.1 (l 4) h++qxP ref 537395200 s.2.2.1 (l 5) h ++
 its (qrc ref 5 537919488)++qIc h++its (qrc ref 5 538968064)++its (qrc ref 0 195890093)++its [qBO 0 5,qBe]++(match twice with
  |true=>its [qBe]
  |false=>[])
def lab (ref:Bool) (first:Int) (k:Nat):Int:=match ref with
 |true=>w64 (first+(2*k:Nat))
 |false=>match k with
  |0=>w64 (first+0)
  |1=>w64 (first+2)
  |2=>w64 (first+4)
  |3=>w64 (w64 (first+6)+0)
  |4=>w64 (w64 (first+6)+2)
  |_=>w64 (w64 (first+6)+4)
abbrev qjD:List Ty:=[qbQ,.bool,tI,tI]
abbrev qs7:Sh:=.osl 32 qk
def qpi (x:qd qjD):PO (List qk.den):=.ite x.2.1 (.ret (qx4 false (lab false x.2.2.2) x.1 true x.2.2.1)) (.ret (qx4 false (lab false x.2.2.2) x.1 false x.2.2.1))
def qo8 (_:qd qjD):Bool:=true
def qdA (x:qd qjD):List qk.den:=qx4 false (lab false x.2.2.2) x.1 x.2.1 x.2.2.1
theorem qyv (x:qd qjD) (_:qo8 x=true):(qpi x).val=some (qdA x):=by
 unfold qpi qdA
 cases x.2.1<;>rfl
abbrev qfM:List Ty:=[]
abbrev qoj:Sh:=.ty .bool
def qob (_:qd qfM):PO Bool:=.ret true
def qjP (_:qd qfM):Bool:=true
def qjW (_:qd qfM):Bool:=true
theorem qtq (x:qd qfM) (_:qjP x=true):(qob x).val=some (qjW x):=rfl
end Go.Av
end
section
namespace Go.Av
open Go
def qG3 (frm h:Int):List qk.den:=its [qBt 2 frm,qMw 0 2]++[itC 1 h]
def qtO (ref:Bool) (b1 b2:Bool) (image out h first:Int):List qk.den :=
 qyB ref out first++its [qrz 3 (lo ref image),qHq 4 1 3]++its (qq3 ref 5 537133056 4)++its (qq3 ref 6 537001984 1)++its [qBt 0 5,qBO 0 6]++qxw first ++
 (match b1 with
  |true=>qyB ref out (w64 (first+2))++its [qrz 3 (lo ref image),qHq 4 1 3]++its (qq3 ref 5 537133056 4)++its (qq3 ref 7 537395200 4)++its (qq3 ref 6 537001984 1)++its [qBt 0 6]++qG3 5 h++qG3 7 h++qxw (w64 (first+2))
  |false=>[]) ++
 its (qrc ref 5 537919488)++its (qrc ref 0 3235799053)++its [qBO 0 5,qBe]++(match b2 with
  |true=>its [qBe]
  |false=>[])
abbrev qmp:List Ty:=[tI,tI,.bool,tI,tI]
abbrev qwM:Sh:=.osl 32 qk
def qwx (x:qd qmp):PO (List qk.den):=two x.2.2.1 fun b1 b2=>.ret (qtO false b1 b2 x.1 x.2.1 x.2.2.2.1 x.2.2.2.2)
def qsU (_:qd qmp):Bool:=true
def qmj (x:qd qmp):List qk.den:=qtO false x.2.2.1 x.2.2.1 x.1 x.2.1 x.2.2.2.1 x.2.2.2.2
theorem qCq (x:qd qmp) (_:qsU x=true):(qwx x).val=some (qmj x):=qPD _ _
abbrev qfN:List Ty:=[]
abbrev qoA:Sh:=.ty .bool
def qoB (_:qd qfN):PO Bool:=.ret true
def qjT (_:qd qfN):Bool:=true
def qjR (_:qd qfN):Bool:=true
theorem qs0 (x:qd qfN) (_:qjT x=true):(qoB x).val=some (qjR x):=rfl
end Go.Av
end
section
namespace Go.Av
open Go
def qdp:LoopN where
 M:=[0,2,5,6]
 T:=[3,7,8,9,10,11,12,13]
 D:=[0,5,6]
 ss:=[.ty .str,.ty .bool,.ty (.int .i64),.ty (.int .i64)]
 hs:=[]
 es:=[.exit 0,.ret]
 σ:=(Ty.den .bool)×(Ty.den (.int .i64))
 x0:=fun x _=>(x.2.1,x.2.2.2)
 put:=fun x _ s=>((x.1,s.1,x.2.2.1,s.2),())
 fuel:=fun x _=>List.length x.1+1
 turn:=fun x _ s =>
 (.ite (decide (s.2<x.2.2.1))
  (.ite (inRange s.2 (List.length x.1))
  (.ite (u8I (List.getD x.1 (Int.toNat s.2) 0) != 0)
   (.ret (.out 1 (false,s.2)))
   (.ret (.on (s.1,w64 (s.2+1)))))
  .fail)
  (.ret (.out 0 (s.1,s.2))))
abbrev qjs:List Ty:=[.str]
abbrev qtp:Sh:=.ty .bool
def qpo (x:qd qjs):PO Bool :=
 (.opt (LoopN.res qdp (x,false,qi x,0) ()) fun p0 =>
  (.ite (way p0.1)
  (.ret (true))
  (.ret (p0.2.1))))
def qeq (x:qd qjs):Bool:=decide (List.length x<9223372036854775808)
def qbI (x:qd qjs):Bool:=(x:List UInt8).all (·==0)
theorem qBX (l:List UInt8) (hb:l.length<9223372036854775808):∀(k i:Nat),i+k=l.length→∀f,k<f →
  qeK (qdp.turn (l,false,(l.length:Int),0) ()) f (false,(i:Int))=some (bif (l.drop i).all (·==0) then(0,false,(l.length:Int)) else(1,false,((i+((l.drop i).takeWhile (·==0)).length:Nat):Int)))
 |0,i,h,f,hf=>by
  obtain⟨f,rfl⟩:∃g,f=g+1:=⟨f-1,by omega⟩
  rw[List.drop_of_length_le (by omega)]
  refine qb6 ?_
  simp only[qdp,PO.val,qC (show ¬(i:Int)<(l.length:Int) by omega),cond_false]
  have:i=l.length:=by omega
  subst this
  rfl
 |k+1,i,h,f,hf=>by
  obtain⟨f,rfl⟩:∃g,f=g+1:=⟨f-1,by omega⟩
  have hi:i<l.length:=by omega
  rw[List.drop_eq_getElem_cons hi]
  have h1:decide ((i:Int)<(l.length:Int))=true:=qK (by omega)
  have h2:l.getD i 0=l[i]:=by rw[List.getD_eq_getElem?_getD,List.getElem?_eq_getElem hi];rfl
  cases hc:(l[i]==0)
  ·have:((l[i].toNat:Int) != 0)=true:=by
    simp only[beq_eq_false_iff_ne,ne_eq] at hc
    simp only[bne_iff_ne,ne_eq]
    intro h0
    apply hc
    have:l[i].toNat=0:=by omega
    exact UInt8.toNat_inj.1 this
   simp only[List.all_cons,hc,Bool.false_and,cond_false,List.takeWhile_cons,Bool.false_eq_true,if_false,List.length_nil,Nat.add_zero]
   refine qb6 ?_
   simp only[qdp,PO.val,h1,inR hi,cond_true,qj3,h2,this]
  ·have:((l[i].toNat:Int) != 0)=false:=by
    simp only[beq_iff_eq] at hc
    rw[hc]
    rfl
   have ht:(qdp.turn (l,false,(l.length:Int),0) () (false,(i:Int))).val=some (.on (false,((i+1:Nat):Int))):=by
    simp only[qdp,PO.val,h1,inR hi,cond_true,qj3,h2,this,cond_false]
    rw[qu (by omega) (by omega)]
    rfl
   refine(qeQ ht).trans ((qBX l hb k (i+1) (by omega) f (by omega)).trans ?_)
   simp only[List.all_cons,hc,Bool.true_and,List.takeWhile_cons,if_true,List.length_cons]
   rw[show i+1+((l.drop (i+1)).takeWhile (·==0)).length=i+(((l.drop (i+1)).takeWhile (·==0)).length+1) by omega]
theorem qyP (x:qd qjs) (h:qeq x=true):(qpo x).val=some (qbI x):=by
 have hb:List.length x<9223372036854775808:=of_decide_eq_true h
 have:=qBX x hb (List.length x) 0 (by omega) (List.length x+1) (by omega)
 have e:LoopN.res qdp (x,false,qi x,0) ()=_:=this
 unfold qpo PO.val
 rw[e]
 simp only[List.drop_zero,qbI]
 cases (x:List UInt8).all (·==0)<;>rfl
abbrev qiw:List Ty:=[qeR]
abbrev qkV:Sh:=Sh.ty Ty.bool
def qg3 (x:qd qiw):PO (Sh.den qkV) :=
 (.ite (bif x.2.2.2.2.1==0 then qeq x.2.2.2.2.2.2.1&&bif qbI x.2.2.2.2.2.2.1 then qeq x.2.2.2.2.2.2.2.1&&bif qbI x.2.2.2.2.2.2.2.1 then qeq x.2.2.2.2.2.2.2.2.1 else true else true else true)
  (.ret (x.2.2.2.2.1==0&&(qbI x.2.2.2.2.2.2.1&&(qbI x.2.2.2.2.2.2.2.1&&qbI x.2.2.2.2.2.2.2.2.1))))
  .fail)
def qfW (x:qd qiw):Bool:=(qg3 x).val.isSome
def qdN (x:qd qiw):Sh.den qkV:=(qg3 x).qH default
theorem qxj (x:qd qiw) (h:qfW x=true):(qg3 x).val=some (qdN x):=PO.qcg default h
abbrev qjj:List Ty:=[qeR,qeR]
abbrev qlM:Sh:=Sh.ty Ty.bool
def ql9 (x:qd qjj):PO (Sh.den qlM) :=
 (.ret (x.1.1==x.2.1&&(x.1.2.2.2.2.1==x.2.2.2.2.2.1&&(x.1.2.2.2.2.2.1==x.2.2.2.2.2.2.1&&x.1.2.2.2.2.2.2.1==x.2.2.2.2.2.2.2.1))))
def qo9 (_:qd qjj):Bool:=true
def qoY (x:qd qjj):Sh.den qlM:=(ql9 x).qH default
theorem qyL (x:qd qjj) (_:qo9 x=true):(ql9 x).val=some (qoY x):=PO.qco default (by simp[ql9,PO.sure])
abbrev qk5:List Ty:=[qeR]
abbrev qos:Sh:=Sh.ty qMv
def qlD (x:qd qk5):PO (Sh.den qos) :=
 (.ite (!x.1)
  (.ret ((0,[],())))
  (.ite (x.2.2.2.2.1==3235799053)
  (.ret ((1,x.2.2.2.2.2.2.1,())))
  (.ite (x.2.2.2.2.2.1==195890093)
   (.ret ((2,[],())))
   (.ret ((3,[],()))))))
def qro (_:qd qk5):Bool:=true
def qe7 (x:qd qk5):Sh.den qos:=(qlD x).qH default
theorem qA7 (x:qd qk5) (_:qro x=true):(qlD x).val=some (qe7 x):=PO.qco default (by simp[qlD,PO.sure])
abbrev qiy:List Ty:=[qbQ]
abbrev qkU:Sh:=Sh.ty (Ty.int IntKind.i64)
def qix (x:qd qiy):PO (Sh.den qkU) :=
 (.ite (qbt (x,0) != 0)
  (.ret (0))
  (.ret (w64 (w64 (32*w64 (x.2.1+w64 (2*x.2.2.1)))+256))))
def qoD (_:qd qiy):Bool:=true
def qfH (x:qd qiy):Sh.den qkU:=(qix x).qH default
theorem qxf (x:qd qiy) (_:qoD x=true):(qix x).val=some (qfH x):=PO.qco default (by simp[qix,PO.sure])
end Go.Av
end
section
namespace Go.Av
open Go
abbrev qbi:Ty:=.pair (.int .i64) (.pair (.int .i64) (.pair (.int .i64) .unit))
abbrev qiB:Ty:=.pair (.int .i64) (.pair (.int .i64) (.pair (.sl qbi) (.pair .bool .unit)))
abbrev qr4 (x:qd qhy):List qA.den:=bif decide (x.1<0)||decide (x.1 > 7) then[] else[(3,x.1,0,0,0,qR IntKind.i64 x.2 65535,0,false,()),(4,x.1,0,0,0,qR IntKind.i64 (qw IntKind.i64 x.2 16) 65535,0,false,())]
abbrev quL:List Ty:=qhy
abbrev quK:Sh:=qFv
abbrev qu0 (x:qd qhy):PO (List qA.den):=qsR x
abbrev qrw (x:qd qhy):Bool:=qwr x
theorem qA0 (x:qd quL) (h:qrw x=true):(qu0 x).val=some (qr4 x):=qCD x h
def qvs (hd:qce.den):List Int:=[List.getD (qQ hd) (Int.toNat 0) (Ty.dflt (.int .i64)),List.getD (qQ hd) (Int.toNat 1) (Ty.dflt (.int .i64)),List.getD (qQ hd) (Int.toNat 2) (Ty.dflt (.int .i64)),List.getD (qQ hd) (Int.toNat 3) (Ty.dflt (.int .i64)),
 List.getD (qQ hd) (Int.toNat 4) (Ty.dflt (.int .i64)),List.getD (qQ hd) (Int.toNat 5) (Ty.dflt (.int .i64)),List.getD (qQ hd) (Int.toNat 6) (Ty.dflt (.int .i64)),List.getD (qQ hd) (Int.toNat 7) (Ty.dflt (.int .i64)),
 List.getD (qQ hd) (Int.toNat 8) (Ty.dflt (.int .i64)),List.getD (qQ hd) (Int.toNat 9) (Ty.dflt (.int .i64)),List.getD (qQ hd) (Int.toNat 10) (Ty.dflt (.int .i64)),List.getD (qQ hd) (Int.toNat 11) (Ty.dflt (.int .i64)),
 List.getD (qQ hd) (Int.toNat 12) (Ty.dflt (.int .i64)),List.getD (qQ hd) (Int.toNat 13) (Ty.dflt (.int .i64)),List.getD (qQ hd) (Int.toNat 14) (Ty.dflt (.int .i64)),List.getD (qQ hd) (Int.toNat 15) (Ty.dflt (.int .i64))]
def qg1:LoopN where
 M:=[1,7,19,20]
 T:=[9,21,22,23,24,25,26]
 D:=[19,20]
 ss:=[.ty .str,.box 0 0,.ty (.arr 16 (.int .i64)),.ty (.int .i64)]
 hs:=[qy4 0 0]
 es:=[.exit 0]
 σ:=(Ty.den (.int .i64))×(Sh.den (qy4 0 0))
 x0:=fun x y=>(x.2.2.2,y)
 put:=fun x _ s=>((x.1,x.2.1,x.2.2.1,s.1),s.2)
 fuel:=fun _ _=>17
 turn:=fun x _ s =>
 (.ite (decide (s.1<16))
  (.ite (inRange s.1 16)
  (.ite (qfj s.2.2.1 (q8 (List.getD x.2.2.1 (Int.toNat s.1) (Ty.dflt (Ty.int IntKind.i64)))))
   (.ret (.on (w64 (s.1+1),((),qhz s.2.2.1 (q8 (List.getD x.2.2.1 (Int.toNat s.1) (Ty.dflt (Ty.int IntKind.i64)))),()))))
   .fail)
  .fail)
  (.ret (.out 0 (s.1,s.2))))
abbrev qkd:List Ty:=[qce,.str]
abbrev qmO:Sh:=Sh.tup (Sh.pair (Sh.ty Ty.str) (Sh.pair (Sh.ty (Ty.int IntKind.i64)) (Sh.ty Ty.unit)))
def qqr (x:qd qkd):PO (Sh.den qmO) :=
 (.ite (qbO (x.1,w64 (64+qi x.2)) != 0)
  (.ret (([],qbO (x.1,w64 (64+qi x.2)),())))
  (.opt (LoopN.res qg1 (x.2,(),qQ x.1,0) ((),[],())) fun p0 =>
  (.ite (qfj p0.2.2.2.1 x.2)
   (.ret (qhz p0.2.2.2.1 x.2,0,()))
   .fail)))
def qiD (hd:qce.den):List UInt8:=(qvs hd).flatMap q8
def qkk (fr:List Int) (k:Nat):List UInt8:=(List.range k).flatMap fun(i:Nat)=>q8 (List.getD fr (Int.toNat (i:Int)) (Ty.dflt (.int .i64)))
theorem qHu (hd:qce.den):qkk (qQ hd) 16=qiD hd:=by
 have h:List.range 16=[0,1,2,3,4,5,6,7,8,9,10,11,12,13,14,15]:=by decide
 unfold qkk qiD qvs
 rw[h]
 simp only[List.flatMap_cons,List.flatMap_nil]
 rfl
theorem qwD (fr:List Int) (k:Nat):qkk fr (k+1)=qkk fr k++q8 (List.getD fr (Int.toNat (k:Int)) (Ty.dflt (.int .i64))):=by
 unfold qkk
 rw[List.range_succ,List.flatMap_append]
 simp
theorem qyq (n:Int):(q8 n).length=4:=rfl
theorem qtD (fr:List Int):∀k,(qkk fr k).length=4*k
 |0=>rfl
 |k+1=>by rw[qwD,List.length_append,qtD fr k,qyq];omega
theorem qOQ (acc:List UInt8) (w:Int) (h:acc.length≤64):qfj acc (q8 w)=true:=by
 unfold qfj
 rw[Nat.ble_eq,qyq];omega
theorem qPM (code:List UInt8) (fr:List Int) (k:Nat) (hk:k<16) (acc:List UInt8) (w:List UInt8) (hw:q8 (List.getD fr (Int.toNat (k:Int)) (Ty.dflt (.int .i64)))=w) (hf:qfj acc w=true) :
  (qg1.turn (code,(),fr,0) ((),[],()) ((k:Int),((),acc,()))).val=some (.on (((k+1:Nat):Int),((),acc++w,()))):=by
 subst hw
 refine(qe (qK (show(k:Int)<16 by omega))).trans ((qe (inR hk)).trans ((qe hf).trans ?_))
 dsimp only
 rw[qu (n:=(k:Int)+1) (by omega) (by omega)]
 rfl
theorem qOy (fr:List Int) (code:List UInt8):LoopN.res qg1 (code,(),fr,0) ((),[],())=some (0,16,((),qkk fr 16,())):=by
 unfold LoopN.res
 refine qdJ (turn:=qg1.turn (code,(),fr,0) ((),[],())) (fun k=>((k:Int),((),qkk fr k,()))) (0,(16,((),qkk fr 16,()))) (n:=16) (fun k hk=>?_) ?_ 16 0 (by omega) 17 (by omega)
 ·have hl:=qtD fr k
  have h:=qPM code fr k hk (qkk fr k) _ rfl (qOQ _ _ (by omega))
  rw[←qwD] at h
  exact h
 ·exact(qB (qC (show ¬(((16:Nat):Int)<16) by omega))).trans rfl
def qkz (x:qd qkd):Bool:=decide (List.length x.2≤140737488300000)
def qf1 (x:qd qkd):Sh.den qmO:=bif qbO (x.1,w64 (64+qi x.2)) != 0 then([],qbO (x.1,w64 (64+qi x.2)),()) else(qiD x.1++x.2,0,())
theorem qzQ (x:qd qkd) (h:qkz x=true):(qqr x).val=some (qf1 x):=by
 obtain⟨hd,code⟩:=x
 have hc:code.length≤140737488300000:=of_decide_eq_true h
 unfold qqr qf1
 dsimp only
 cases hk:(qbO (hd,w64 (64+qi code)) != (0:Int))
 ·refine(qB rfl).trans ((qcP (qOy (qQ hd) code)).trans ((qe ?_).trans ?_))
  ·show qfj (qkk (qQ hd) 16) code=true
   unfold qfj
   rw[Nat.ble_eq,qtD];omega
  ·show some (qhz (qkk (qQ hd) 16) code,(0:Int),())=_
   unfold qhz
   rw[qHu]
   rfl
 ·exact(qe rfl).trans rfl
def qIy {α:Type} (base:List qk.den):List qk.den→(List qk.den→PO α)→PO α
 |[],K=>K base
 |i::l,K=>.ite (Nat.ble ((List.length base+List.length [i])*80) 140737488355328) (qIy (base++[i]) l K) .fail
theorem qBu {α:Type} (K:List qk.den→PO α):∀(l base:List qk.den),base.length+l.length≤1000000→(qIy base l K).val=(K (base++l)).val
 |[],base,_=>by
  rw[List.append_nil]
  rfl
 |i::l,base,h=>by
  simp only[List.length_cons] at h
  have hg:Nat.ble ((List.length base+List.length [i])*80) 140737488355328=true:=by
   rw[Nat.ble_eq]
   simp only[List.length_cons,List.length_nil]
   omega
  refine(qe hg).trans ?_
  rw[qBu K l (base++[i]) (by
   rw[List.length_append]
   simp only[List.length_cons,List.length_nil]
   omega),List.append_assoc]
  rfl
def qH6 (x:qbi.den):Int:=bif x.1==1 then 537133056 else bif x.1==2 then 537395200 else bif x.1==3 then 537919488 else 537001984
def qBY (x:qbi.den) (s:qbQ.den):Int:=bif x.1==1 then s.2.2.1 else bif x.1==2 then s.2.2.1 else bif x.1==3 then 4 else s.2.1
def qdx (x:qbi.den) (s:qbQ.den):Bool:=decide (x.2.1<0)||decide (x.2.1≥w64 (Int.tdiv (qBY x s) 4))
def qkN (x:qbi.den):Int:=w64 (qH6 x+w64 (4*x.2.1))
def qvL (x:qbi.den):List qk.den:=[(0,0,(3,7,0,0,0,qR IntKind.i64 (qkN x) 65535,0,false,()),()),(0,0,(4,7,0,0,0,qR IntKind.i64 (qw IntKind.i64 (qkN x) 16) 65535,0,false,()),()),
 (0,0,(3,3,0,0,0,qR IntKind.i64 x.2.2.1 65535,0,false,()),()),(0,0,(4,3,0,0,0,qR IntKind.i64 (qw IntKind.i64 x.2.2.1 16) 65535,0,false,()),()),(0,0,(20,3,7,0,0,0,0,false,()),())]
def qiZ:LoopN where
 M:=[1,2,3,8,9]
 T:=[11,12,13,14,15,16,17,18,19,20,21,22,23,24,25,26,27]
 D:=[1,9]
 ss:=[.ty (.sl qbi),.ty .bool,.box 0 0,.osl 0 qk,.ty (.int .i64)]
 hs:=[.ty qbQ]
 es:=[.exit 0]
 σ:=(List (Ty.den qk))×(Ty.den (.int .i64))×(Sh.den (.ty qbQ))
 x0:=fun x y=>(x.2.2.2.1,x.2.2.2.2,y)
 put:=fun x _ s=>((x.1,x.2.1,x.2.2.1,s.1,s.2.1),s.2.2)
 fuel:=fun x _=>List.length x.1+1
 turn:=fun x _ s =>
 (.ite (decide (s.2.1<qi x.1)&&decide (s.2.1<40))
  (.ite (inRange s.2.1 (List.length x.1))
  (.ite (qdx (List.getD x.1 (Int.toNat s.2.1) (Ty.dflt qbi)) s.2.2)
   (.ret (.on (s.1,w64 (s.2.1+1),s.2.2)))
   (qIy s.1 (qvL (List.getD x.1 (Int.toNat s.2.1) (Ty.dflt qbi))) fun o=>.ret (.on (o,w64 (s.2.1+1),s.2.2))))
  .fail)
  (.ret (.out 0 (s.1,s.2.1,s.2.2))))
def qfc:LoopN where
 M:=[2,4,7,8,9,10,11]
 T:=[20,21,22,23,24,25,26,27,28,29,30,31,32,33,34,35,36,37]
 D:=[2,8,11]
 ss:=[.ty (.int .i64),.box 0 0,.ty .str,.ty (.sl qij),.ty (.int .i64),.ty (.int .i64),.ty (.int .i64)]
 hs:=[.ty qbQ]
 es:=[.exit 0]
 σ:=(Ty.den (.int .i64))×(Ty.den (.int .i64))×(Sh.den (.ty qbQ))
 x0:=fun x y=>(x.2.2.2.2.2.1,x.2.2.2.2.2.2,y)
 put:=fun x _ s=>((x.1,x.2.1,x.2.2.1,x.2.2.2.1,x.2.2.2.2.1,s.1,s.2.1),s.2.2)
 fuel:=fun x _=>List.length x.2.2.2.1+1
 turn:=fun x _ s =>
 (.ite (decide (s.2.1<qi x.2.2.2.1))
  (.ite (inRange s.2.1 (List.length x.2.2.2.1))
  (.ite (bif (List.getD x.2.2.2.1 (Int.toNat s.2.1) (Ty.dflt qij)).1==x.1 then inRange s.2.1 (List.length x.2.2.2.1) else true)
   (.ret (.on (bif (List.getD x.2.2.2.1 (Int.toNat s.2.1) (Ty.dflt qij)).1==x.1 then(List.getD x.2.2.2.1 (Int.toNat s.2.1) (Ty.dflt qij)).2.1 else s.1,w64 (s.2.1+1),s.2.2)))
   .fail)
  .fail)
  (.ret (.out 0 (s.1,s.2.1,s.2.2))))
abbrev qfI:List Ty:=[(.sl qk),qbQ,(.int .i64)]
abbrev qhq:Sh:=Sh.ty Ty.str
def qer (x:qd qfI):PO (Sh.den qhq) :=
 (.ite (qgj (x.1,64))
  (.opt (LoopN.res qfc (x.2.2,(),(qcp (x.1,64)).1,(qcp (x.1,64)).2.1,(qcp (x.1,64)).2.2.1,0,0) x.2.1) fun p0 =>
  (.ite (qkz ((64,p0.2.1,p0.2.2.2,0,()),(qcp (x.1,64)).1))
   (.ite ((qcp (x.1,64)).2.2.1 != 0||(qf1 ((64,p0.2.1,p0.2.2.2,0,()),(qcp (x.1,64)).1)).2.1 != 0)
   (.ret ([]))
   (.ret ((qf1 ((64,p0.2.1,p0.2.2.2,0,()),(qcp (x.1,64)).1)).1)))
   .fail))
  .fail)
def qcx (x:qd qfI):Bool:=(qer x).val.isSome
def qbp (x:qd qfI):Sh.den qhq:=(qer x).qH default
theorem qs9 (x:qd qfI) (h:qcx x=true):(qer x).val=some (qbp x):=PO.qcg default h
abbrev qgI:List Ty:=[qbQ]
abbrev qiq:Sh:=Sh.ty Ty.bool
def qin (x:qd qgI):PO (Sh.den qiq) :=
 (.ret (x.1==0&&(decide (x.2.1≥0)&&(decide (x.2.1≤80)&&(decide (x.2.2.1≥4)&&(decide (x.2.2.1≤120)&&(Int.tmod x.2.1 4==0&&Int.tmod x.2.2.1 4==0)))))))
def qlo (_:qd qgI):Bool:=true
def qlw (x:qd qgI):Sh.den qiq:=(qin x).qH default
theorem quz (x:qd qgI) (_:qlo x=true):(qin x).val=some (qlw x):=PO.qco default (by simp[qin,PO.sure])
abbrev qfV:List Ty:=[qbQ,(.sl qbi),.bool]
abbrev qhw:Sh:=Sh.tup (Sh.pair (Sh.ty Ty.str) (Sh.pair (Sh.ty (Ty.int IntKind.i64)) (Sh.ty Ty.unit)))
def qhi (x:qd qfV):PO (Sh.den qhw) :=
 (.opt (LoopN.res qiZ (x.2.1,x.2.2,(),[],0) x.1) fun p0 =>
  (.ite (Nat.ble ((List.length p0.2.1+List.length (qdA (p0.2.2.2,x.2.2,0,1)))*80) 140737488355328)
  (.ite (qcx (p0.2.1++qdA (p0.2.2.2,x.2.2,0,1),p0.2.2.2,0))
   (.ret ((qbp (p0.2.1++qdA (p0.2.2.2,x.2.2,0,1),p0.2.2.2,0),qi p0.2.1,())))
   .fail)
  .fail))
def qjN (x:qd qfV):Bool:=(qhi x).val.isSome
def qjK (x:qd qfV):Sh.den qhw:=(qhi x).qH default
theorem qsZ (x:qd qfV) (h:qjN x=true):(qhi x).val=some (qjK x):=PO.qcg default h
end Go.Av
end
section
namespace Go.Av
open Go
theorem qtv (m k:Nat) (hk:k≤62):qw .i64 (m:Int) (k:Int)=((m / 2 ^ k:Nat):Int):=by
 unfold qw
 rw[Int.toNat_natCast,Nat.min_eq_left (by show k≤64;omega),Int.fdiv_eq_ediv_of_nonneg _ (by exact Int.le_of_lt (Int.pow_pos (by decide)))]
 push_cast
 rfl
theorem qyQ (n:Int):IntKind.u8.wrap n=n % 256:=rfl
theorem qIY (v:Int):q8 v=[toByte ((wn v % 256:Nat):Int),toByte ((wn v / 256 % 256:Nat):Int),toByte ((wn v / 65536 % 256:Nat):Int),toByte ((wn v / 16777216 % 256:Nat):Int)]:=by
 show[toByte (IntKind.u8.wrap (qw .i64 (wn v:Int) ((0:Nat):Int))),toByte (IntKind.u8.wrap (qw .i64 (wn v:Int) ((8:Nat):Int))),toByte (IntKind.u8.wrap (qw .i64 (wn v:Int) ((16:Nat):Int))),toByte (IntKind.u8.wrap (qw .i64 (wn v:Int) ((24:Nat):Int)))]=_
 rw[qtv _ 0 (by omega),qtv _ 8 (by omega),qtv _ 16 (by omega),qtv _ 24 (by omega),qyQ,qyQ,qyQ,qyQ,show(2:Nat) ^ 0=1 from rfl,show(2:Nat) ^ 8=256 from rfl,show(2:Nat) ^ 16=65536 from rfl,show(2:Nat) ^ 24=16777216 from rfl,Nat.div_one]
 rfl
theorem qHo {k:Nat} (h:k<256):((toByte (k:Int)).toNat:Int)=(k:Int):=by
 unfold toByte
 rw[Int.toNat_natCast]
 have:(UInt8.ofNat k).toNat=k:=by
  rw[UInt8.toNat_ofNat']
  exact Nat.mod_eq_of_lt h
 rw[this]
end Go.Av
end
section
namespace Go.Av
open Go
theorem qvX (b:UInt8):w64 (u8I b)=u8I b:=by
 have:=b.toNat_lt
 exact qu (by show(-9223372036854775808:Int)≤((b.toNat:Nat):Int);omega) (by show((b.toNat:Nat):Int)<(9223372036854775808:Int);omega)
def le4:List UInt8→Int
 |[a,b,c,d]=>u8I a+256*u8I b+65536*u8I c+16777216*u8I d
 |_=>0
theorem four {t:List UInt8} (h:t.length=4):∃a b c d,t=[a,b,c,d]:=by
 match t,h with
 |[a,b,c,d],_=>exact⟨a,b,c,d,rfl⟩
theorem qPq {t:List UInt8} (h:t.length=4):(qle t).val=some (le4 t,true,()):=by
 obtain⟨a,b,c,d,rfl⟩:=four h
 have ha:=a.toNat_lt
 have hb:=b.toNat_lt
 have hc:=c.toNat_lt
 have hd:=d.toNat_lt
 unfold qle
 refine(qB rfl).trans ((qe rfl).trans ((qe rfl).trans ((qe rfl).trans ((qe rfl).trans ?_))))
 show some (bor .i64 (bor .i64 (bor .i64 (bor .i64 0 (qt .i64 (w64 (u8I a)) 0)) (qt .i64 (w64 (u8I b)) 8)) (qt .i64 (w64 (u8I c)) 16)) (qt .i64 (w64 (u8I d)) 24),true,())=some (u8I a+256*u8I b+65536*u8I c+16777216*u8I d,true,())
 rw[qvX,qvX,qvX,qvX]
 have e0:bor .i64 0 (qt .i64 (u8I a) 0)=((a.toNat:Nat):Int):=by
  have:=quP 0 a.toNat 0 (by omega) (by omega) (by omega)
  rw[Nat.pow_zero,Nat.mul_one,Nat.add_zero] at this
  exact this
 have e1:bor .i64 ((a.toNat:Nat):Int) (qt .i64 (u8I b) 8)=((b.toNat*2 ^ 8+a.toNat:Nat):Int):=quP a.toNat b.toNat 8 (by omega) (by omega) (by omega)
 have e2:bor .i64 ((b.toNat*2 ^ 8+a.toNat:Nat):Int) (qt .i64 (u8I c) 16)=((c.toNat*2 ^ 16+(b.toNat*2 ^ 8+a.toNat):Nat):Int):=quP _ c.toNat 16 (by omega) (by omega) (by omega)
 have e3:bor .i64 ((c.toNat*2 ^ 16+(b.toNat*2 ^ 8+a.toNat):Nat):Int) (qt .i64 (u8I d) 24)=((d.toNat*2 ^ 24+(c.toNat*2 ^ 16+(b.toNat*2 ^ 8+a.toNat)):Nat):Int):=quP _ d.toNat 24 (by omega) (by omega) (by omega)
 rw[e0,e1,e2,e3]
 have:((d.toNat*2 ^ 24+(c.toNat*2 ^ 16+(b.toNat*2 ^ 8+a.toNat)):Nat):Int)=u8I a+256*u8I b+65536*u8I c+16777216*u8I d:=by
  unfold u8I
  omega
 rw[this]
def atX (s:List UInt8) (k:Nat):Int:=le4 ((s.drop (4*k)).take 4)
theorem piece (s:List UInt8) (k:Nat) (hk:k<16) (hs:64≤s.length):((s.drop (4*k)).take 4).length=4∧List.drop (Int.toNat (w64 (4*(k:Int)))) (List.take (Int.toNat (w64 (w64 (4*(k:Int))+4))) s)=(s.drop (4*k)).take 4:=by
 have e1:w64 (4*(k:Int))=((4*k:Nat):Int):=by rw[qu (by omega) (by omega)];omega
 have e2:w64 (((4*k:Nat):Int)+4)=((4*k+4:Nat):Int):=by rw[qu (by omega) (by omega)];omega
 refine⟨by rw[List.length_take,List.length_drop];omega,?_⟩
 rw[e1,e2,Int.toNat_natCast,Int.toNat_natCast,List.drop_take,show 4*k+4-4*k=4 by omega]
theorem qOR (s:List UInt8) (k:Nat) (hk:k<16) (hs:64≤s.length):qW (s,(k:Int))=atX s k:=by
 obtain⟨p1,p2⟩:=piece s k hk hs
 have hg:=qw3 s k hk hs
 have hT:(qjL (s,(k:Int))).val=some (atX s k):=by
  unfold qes at hg
  unfold qjL at hg ⊢
  cases hc:(decide (0≤w64 (w64 (4*(k:Int))+4))&&decide (w64 (w64 (4*(k:Int))+4)≤qi s)&&decide (0≤w64 (4*(k:Int)))&&decide (w64 (4*(k:Int))≤w64 (w64 (4*(k:Int))+4))&&qlq (List.drop (Int.toNat (w64 (4*(k:Int)))) (List.take (Int.toNat (w64 (w64 (4*(k:Int))+4))) s))) with
  |false=>rw[qB hc] at hg;cases hg
  |true =>
   refine(qe rfl).trans ?_
   show some (qnD (List.drop (Int.toNat (w64 (4*(k:Int)))) (List.take (Int.toNat (w64 (w64 (4*(k:Int))+4))) s))).1=_
   rw[p2]
   unfold qnD PO.qH
   rw[qPq p1]
   rfl
 unfold qW PO.qH
 rw[hT]
 rfl
theorem qy8 (v:Int):(q8 v).length=4:=by rw[qIY];rfl
theorem qBT (rs hn i o r md:Int):qQ (rs,hn,(i,o,r,()),md,())=[537133056,bor .i64 rs 1,bor .i64 hn 1,bor .i64 hn 1,bor .i64 hn 1,bor .i64 hn 1,bor .i64 hn 1,i,o,r,md,bor .i64 hn 1,bor .i64 hn 1,bor .i64 hn 1,bor .i64 hn 1,bor .i64 hn 1]:=by
 kernel_rfl
theorem qwg {n:Int} (h0:0≤n) (h1:n<4294967296):(wn n:Int)=n:=by
 rw[qhO]
 omega
theorem qLa (v:Int):le4 (q8 v)=(wn v:Int):=by
 have hw:=qga v
 rw[qIY]
 show u8I (toByte _)+256*u8I (toByte _)+65536*u8I (toByte _)+16777216*u8I (toByte _)=_
 have e:∀k:Nat,k<256→u8I (toByte ((k:Nat):Int))=(k:Int):=fun k hk=>qHo hk
 rw[e _ (Nat.mod_lt _ (by omega)),e _ (Nat.mod_lt _ (by omega)),e _ (Nat.mod_lt _ (by omega)),e _ (Nat.mod_lt _ (by omega))]
 omega
theorem qF3 (t:List UInt8):∀(l:List Int) (k:Nat) (h:k<l.length),((l.flatMap q8++t).drop (4*k)).take 4=q8 l[k]
 |[],_,h=>by cases h
 |v::l,0,_=>by
  show(((v::l).flatMap q8++t)).take 4=_
  rw[List.flatMap_cons,List.append_assoc]
  have:=qy8 v
  rw[List.take_append_of_le_length (by omega),List.take_of_length_le (by omega)]
  rfl
 |v::l,k+1,h=>by
  have ih:=qF3 t l k (by simpa using h)
  have hb:=qy8 v
  rw[List.flatMap_cons,List.append_assoc,show 4*(k+1)=(q8 v).length+4*k by omega,List.drop_append,Nat.add_sub_cancel_left,List.drop_of_length_le (by omega),List.nil_append]
  exact ih
theorem qCt:∀l:List Int,(l.flatMap q8).length=4*l.length
 |[]=>rfl
 |v::l=>by
  have:=qy8 v
  rw[List.flatMap_cons,List.length_append,qCt l,List.length_cons]
  omega
theorem qK9 (rs hn i o r md:Int):qvs (rs,hn,(i,o,r,()),md,())=[537133056,bor .i64 rs 1,bor .i64 hn 1,bor .i64 hn 1,bor .i64 hn 1,bor .i64 hn 1,bor .i64 hn 1,i,o,r,md,bor .i64 hn 1,bor .i64 hn 1,bor .i64 hn 1,bor .i64 hn 1,bor .i64 hn 1]:=by
 unfold qvs
 rw[qBT]
 rfl
theorem qsl (hd:qce.den):(qiD hd).length=64:=qCt (qvs hd)
theorem qO0 {n:Int} (h:0≤n∧n<4294967296) (he:n % 2=0):bor .i64 n 1=n+1:=by
 obtain⟨m,rfl⟩:=Int.eq_ofNat_of_zero_le h.1
 have hb:=qCl (a:=m) (b:=1) (by omega) (by omega)
 have:m |||1=m+1:=by
  have e:m=2*(m / 2):=by omega
  have e2:=Nat.two_pow_add_eq_or_of_lt (i:=1) (b:=1) (by omega) (m / 2)
  rw[Nat.pow_one,←e] at e2
  exact e2.symm
 rw[this] at hb
 exact hb
theorem qET (hn o r:Int) (code:List UInt8) (h1:64≤hn∧hn<4294967296) (h2:hn % 2=0) (ho:0≤o∧o<4294967296) (hr:0≤r∧r<4294967296)
  (hc:qbO ((64,hn,(0,o,r,()),0,()),qi (qiD (64,hn,(0,o,r,()),0,())++code))=0) :
  qds (qiD (64,hn,(0,o,r,()),0,())++code)=((64,hn,(0,o,r,()),0,()),0,()):=by
 have hlen:64≤(qiD (64,hn,(0,o,r,()),0,())++code).length:=by
  rw[List.length_append,qsl]
  omega
 have hF:=qK9 64 hn 0 o r 0
 have e64:bor .i64 64 1=65:=by decide
 have ehn:bor .i64 hn 1=hn+1:=qO0 ⟨by omega,h1.2⟩ h2
 rw[e64,ehn] at hF
 have hat:∀(k:Nat) (hk:k<16),qW (qiD (64,hn,(0,o,r,()),0,())++code,(k:Int))=(wn (([537133056,65,hn+1,hn+1,hn+1,hn+1,hn+1,0,o,r,0,hn+1,hn+1,hn+1,hn+1,hn+1]:List Int)[k]'hk):Int):=fun k hk=>by
  rw[qOR _ k hk hlen]
  unfold atX qiD
  rw[hF]
  have:=qF3 code [537133056,65,hn+1,hn+1,hn+1,hn+1,hn+1,0,o,r,0,hn+1,hn+1,hn+1,hn+1,hn+1] k hk
  rw[this,qLa]
 generalize hs:qiD (64,hn,(0,o,r,()),0,())++code=s at *
 have whn:(wn (hn+1):Int)=hn+1:=qwg (by omega) (by omega)
 have a1:qW (s,1)=65:=hat 1 (by omega)
 have a3:qW (s,3)=hn+1:=(hat 3 (by omega)).trans whn
 have a7:qW (s,7)=0:=hat 7 (by omega)
 have a8:qW (s,8)=o:=(hat 8 (by omega)).trans (qwg ho.1 ho.2)
 have a9:qW (s,9)=r:=(hat 9 (by omega)).trans (qwg hr.1 hr.2)
 have a10:qW (s,10)=0:=hat 10 (by omega)
 have hh:qje s=(64,hn,(0,o,r,()),0,()):=by
  unfold qje
  rw[a1,a3,a7,a8,a9,a10,qu (n:=hn+1-1) (by omega) (by omega)]
  have:hn+1-1=hn:=by omega
  rw[this]
  rfl
 unfold qds
 rw[hh,hc,qC (show ¬qi s<64 by simp only[qi];omega)]
 have hall:(List.range' 0 16).all (qn3 s (qQ (64,hn,(0,o,r,()),0,())))=true:=by
  rw[qBT,e64,ehn,List.all_eq_true]
  intro k hk
  have hk16:k<16:=by
   have:=(List.mem_range'_1.1 hk).2
   omega
  unfold qn3
  rw[hat k hk16,Int.toNat_natCast]
  have hg:List.getD [537133056,65,hn+1,hn+1,hn+1,hn+1,hn+1,0,o,r,0,hn+1,hn+1,hn+1,hn+1,hn+1] k (Ty.dflt (.int .i64))=[537133056,65,hn+1,hn+1,hn+1,hn+1,hn+1,0,o,r,0,hn+1,hn+1,hn+1,hn+1,hn+1][k]'hk16:=qet (α:=Int) _ _ hk16
  rw[hg]
  have hv:∀x∈([537133056,65,hn+1,hn+1,hn+1,hn+1,hn+1,0,o,r,0,hn+1,hn+1,hn+1,hn+1,hn+1]:List Int),(wn x:Int)=x:=by
   intro x hx
   simp only[List.mem_cons,List.not_mem_nil,or_false] at hx
   rcases hx with rfl |rfl |rfl |rfl |rfl |rfl |rfl |rfl |rfl |rfl |rfl |rfl |rfl |rfl |rfl |rfl<;>exact qwg (by omega) (by omega)
  rw[hv _ (List.getElem_mem hk16)]
  simp
 rw[hall]
 rfl
end Go.Av
end
section
namespace Go.Av
open Go
def atF (h:Int) (acc:Int) (p:qij.den):Int:=bif p.1==h then p.2.1 else acc
theorem qwJ {it:List qk.den} (ws:List Bool) {h:Int} (hn:(qd2 it).Nodup) {k:Nat} (hk:k<it.length) (hl:qcq it h k=true) (z:Int):∀n,n≤it.length→(qc4 it 64 ws n).foldl (atF h) z=if k<n then qbe it 64 ws k else z
 |0,_=>rfl
 |n+1,hn'=>by
  have ih:=qwJ ws hn hk hl z n (by omega)
  rw[qc4]
  cases h1:((ql it n).1==(1:Int))
  ·simp only[cond_false]
   rw[ih]
   have:k≠n:=fun e=>by
    subst e
    unfold qcq at hl
    rw[h1] at hl
    cases hl
   by_cases c:k<n
   ·rw[if_pos c,if_pos (by omega)]
   ·rw[if_neg c,if_neg (by omega)]
  ·simp only[cond_true]
   rw[List.foldl_append,ih]
   show atF h _ ((ql it n).2.1,qbe it 64 ws n,())=_
   unfold atF
   cases h2:((ql it n).2.1==h)
   ·have:k≠n:=fun e=>by
     subst e
     unfold qcq at hl
     rw[h1,Bool.true_and,h2] at hl
     cases hl
    simp only[cond_false]
    by_cases c:k<n
    ·rw[if_pos c,if_pos (by omega)]
    ·rw[if_neg c,if_neg (by omega)]
   ·have:k=n:=qvl hn hk (by omega) hl (by unfold qcq;rw[h1,h2];rfl)
    subst this
    simp only[cond_true]
    rw[if_pos (by omega)]
theorem qQH (h e:Int) (code:List UInt8) (pl:List qij.den) (sz:qbQ.den) (hp:pl.length≤21000):LoopN.res qfc (h,(),code,pl,e,0,0) sz=some (0,(pl.foldl (atF h) 0,(pl.length:Int),sz)):=by
 unfold LoopN.res
 refine qdJ (turn:=qfc.turn (h,(),code,pl,e,0,0) sz) (fun n=>((pl.take n).foldl (atF h) 0,(n:Int),sz)) (0,(pl.foldl (atF h) 0,(pl.length:Int),sz)) (n:=pl.length) (fun n hn=>?_) ?_ pl.length 0 (by omega) _ (Nat.lt_succ_self _)
 ·refine(qe (qK (show(n:Int)<qi pl by simp only[qi];omega))).trans ((qe (inR hn)).trans ((qe ?_).trans ?_))
  ·dsimp only
   rw[inR hn]
   cases ((List.getD pl (Int.toNat (n:Int)) (Ty.dflt qij)).1==h)<;>rfl
  ·have e1:(pl.take (n+1)).foldl (atF h) 0=atF h ((pl.take n).foldl (atF h) 0) (List.getD pl n (Ty.dflt qij)):=by
    rw[List.take_succ_eq_append_getElem hn,List.foldl_append,qet pl _ hn]
    rfl
   show some (TL.on (bif (List.getD pl (Int.toNat (n:Int)) (Ty.dflt qij)).1==h then(List.getD pl (Int.toNat (n:Int)) (Ty.dflt qij)).2.1 else(pl.take n).foldl (atF h) 0,w64 ((n:Int)+1),sz))=_
   rw[qu (n:=(n:Int)+1) (by omega) (by omega),e1]
   rfl
 ·refine(qB (qC (show ¬((pl.length:Nat):Int)<qi pl by simp only[qi];omega))).trans ?_
  dsimp only
  rw[List.take_length]
  rfl
theorem qsf (o r n:Nat) (ho:o≤65536) (h4:o % 4=0) (hr:4≤r∧r≤65536) (hr4:r % 4=0) (hn:n≤262144):qbt (((0:Int),(o:Int),(r:Int),()),(n:Int))=0:=by
 have a1:Int.tmod (o:Int) 4=0:=by rw[Int.tmod_eq_emod_of_nonneg (by omega)];omega
 have a2:Int.tmod (r:Int) 4=0:=by rw[Int.tmod_eq_emod_of_nonneg (by omega)];omega
 have a0:Int.tmod (0:Int) 4=0:=rfl
 unfold qbt qhF PO.qH
 simp only[PO.val,a0,a1,a2]
 rw[qC (show ¬((o:Nat):Int)<0 by omega),qC (show ¬((r:Nat):Int)<0 by omega)]
 rw[qC (show ¬((n:Nat):Int)<0 by omega),qC (show ¬((r:Nat):Int)<4 by omega),qC (show ¬((n:Nat):Int) > 262144 by omega),qC (show ¬((o:Nat):Int) > 65536 by omega),qC (show ¬((r:Nat):Int) > 65536 by omega)]
 rfl
theorem qwE (hn:Int) (o r n:Nat) (ho:o≤65536) (h4:o % 4=0) (hr:4≤r∧r≤65536) (hr4:r % 4=0) (hn1:n≤262144) (hn2:64<n) (h1:64≤hn∧hn<n) (h2:hn % 2=0):qbO ((64,hn,((0:Int),(o:Int),(r:Int),()),0,()),(n:Int))=0:=by
 have hm:=qsf o r n ho h4 hr hr4 hn1
 have p:∀a:Int,64≤a→a<n→a % 2=0→qej (a,(n:Int))=true:=fun a x1 x2 x3=>by
  show(decide (a≥64)&&(decide (a<(n:Int))&&qR .i64 a 1==0))=true
  rw[qoW,x3,qK (show a≥64 from x1),qK x2]
  rfl
 unfold qbO qid PO.qH
 simp only[PO.val,hm,p 64 (by omega) (by omega) (by omega),p hn h1.1 h1.2 h2]
 rfl
structure IsImg (it:List qk.den) (o r:Nat) (k:Nat) (img:List UInt8) (hd:qce.den) (adr:Nat→Int):Prop where
 parse:qds img=(hd,0,())
 head:hd=(64,hd.2.1,((0:Int),(o:Int),(r:Int),()),0,())
 prg:PrgOk hd img ⟨qcl it it.length,o,r,img.length,qbM it k⟩ adr
 zero:adr 0=64
theorem qK7 (it:List qk.den) (ws:List Bool) (i:Nat):qbe it 64 ws i % 2=0:=by
 have h:=qxq it 64 ws i 0
 have h0:qbe it 64 ws 0=64:=rfl
 omega
theorem qRh {it:List qk.den} {ws:List Bool} (hn:it.length≤21000) (hf:AsmFine it 64) (hp:(qbr it 64 ws it.length).1=false) {i k:Nat} (_:i≤k) (hk:k≤it.length) (hc:qbM it i<qbM it k):qbe it 64 ws i<qbe it 64 ws k:=by
 obtain⟨m,m1,m2,m3⟩:=qwf it hc
 have him:i≤m:=by
  rcases Nat.lt_or_ge m i with h |h
  ·have:=qrZ it (show m+1≤i by omega)
   rw[qbM,m2,cond_false] at this
   omega
  ·exact h
 have h1:=qw2 it 64 ws him
 have h2:=qw2 it 64 ws (show m+1≤k by omega)
 have h3:=qwe it 64 ws hn hf hp (show m<it.length by omega) m2
 have h4:=qB3 _ (qn1 it 64 ws hn hf hp (show m<it.length by omega) m2)
 have h5:qbe it 64 ws (m+1)=qbe it 64 ws m+qfD (ql it m) (wd ws m):=rfl
 omega
theorem qIS {it:List qk.den} (hI:ItOk it) (o r:Nat) (ho:o≤65536) (h4:o % 4=0) (hr:4≤r∧r≤65536) (hr4:r % 4=0) {h:Int} {k:Nat} (hk:k<it.length) (hl:qcq it h k=true) (hc:qbM it k<qbM it it.length) :
  qcx (it,((0:Int),(o:Int),(r:Int),()),h)=true∧∃hd adr,IsImg it o r k (qbp (it,((0:Int),(o:Int),(r:Int),()),h)) hd adr:=by
 have hf:=qAk hI
 have hn:=hI.len
 obtain⟨a1,⟨hc0,_⟩ |⟨_,K,hK,hv⟩⟩:=qOe it 64 hn
 ·exfalso
  apply hc0
  have:qhX it 64=0:=by
   unfold qhX
   have n1:q7 (qor it) it.length=none:=by
    cases e:q7 (qor it) it.length with
    |none=>rfl
    |some j=>obtain⟨j1,j2,_⟩:=qcX e;rw[hf.item j j1] at j2;cases j2
   have n2:q7 (qjd it) it.length=none:=by
    cases e:q7 (qjd it) it.length with
    |none=>rfl
    |some j=>obtain⟨j1,j2,_⟩:=qcX e;rw[hf.chk j j1] at j2;cases j2
   have n3:q7 (qgs it) it.length=none:=by
    cases e:q7 (qgs it) it.length with
    |none=>rfl
    |some j=>obtain⟨j1,j2,_⟩:=qcX e;rw[hf.dup j j1] at j2;cases j2
   have n4:q7 (qfX it) it.length=none:=by
    cases e:q7 (qfX it) it.length with
    |none=>rfl
    |some j=>obtain⟨j1,j2,_⟩:=qcX e;rw[hf.miss j j1] at j2;cases j2
   have hb:qns 64=false:=rfl
   rw[hb,cond_false,n1,n2,n3,n4]
   dsimp only
   rw[qC (show ¬qbe it 0 (qmf it) it.length > 262144 by have:=hf.small;omega)]
   rfl
  exact this
 ·have hK:(qbr it 64 (qch it 64 K) it.length).1=false:=hK
  generalize hws:qch it 64 K=ws at *
  have hpl:(qc4 it 64 ws it.length).length≤21000:=Nat.le_trans (qtI it 64 ws it.length) hn
  have hbl:=qva it 64 ws it.length
  have hfold:=qwJ ws hI.nodup hk hl 0 it.length (Nat.le_refl _)
  rw[if_pos hk] at hfold
  have hloop:=qQH h 0 (qc9 it 64 ws it.length) (qc4 it 64 ws it.length) ((0:Int),(o:Int),(r:Int),()) hpl
  rw[hfold] at hloop
  obtain⟨hby,_⟩:=qpw it 64 ws it.length (fun j hj h=>qn1 it 64 ws hn hf hK hj h)
  have hcat:=qvZ it 64 ws hn hf hK (Nat.le_refl _)
  rw[←hby] at hcat
  have hpk:=qRh hn hf hK (show k≤it.length by omega) (Nat.le_refl _) hc
  have hpk0:=qhx it 64 ws k
  have hev:=qK7 it ws k
  generalize hcd:qc9 it 64 ws it.length=code at *
  generalize hhd:((64,qbe it 64 ws k,((0:Int),(o:Int),(r:Int),()),0,()):qce.den)=hd
  have hchk:qbO (hd,w64 (64+qi code))=0:=by
   have e:w64 (64+qi code)=((64+code.length:Nat):Int):=by
    simp only[qi]
    rw[qu (by omega) (by omega)]
    omega
   rw[e,←hhd]
   exact qwE _ o r _ ho h4 hr hr4 (by omega) (by omega) ⟨by omega,by omega⟩ hev
  have hGB:qkz (hd,code)=true:=decide_eq_true (by show code.length≤140737488300000;omega)
  have hVB:qf1 (hd,code)=(qiD hd++code,0,()):=by
   unfold qf1
   dsimp only
   rw[hchk]
   rfl
  have hT:(qer (it,((0:Int),(o:Int),(r:Int),()),h)).val=some (qiD hd++code):=by
   unfold qer
   dsimp only
   rw[hv]
   dsimp only
   refine(qe a1).trans ((qcP hloop).trans ?_)
   dsimp only
   rw[hhd]
   refine(qe hGB).trans ?_
   rw[hVB]
   exact(qB rfl).trans rfl
  have hG:qcx (it,((0:Int),(o:Int),(r:Int),()),h)=true:=by
   unfold qcx
   rw[hT]
   rfl
  have hV:qbp (it,((0:Int),(o:Int),(r:Int),()),h)=qiD hd++code:=by
   unfold qbp PO.qH
   rw[hT]
   rfl
  refine⟨hG,hd,qxm it 64 ws,?_⟩
  rw[hV]
  have hlen:(qiD hd++code).length=64+code.length:=by rw[List.length_append,qsl]
  refine⟨?_,?_,?_,?_⟩
  ·rw[←hhd]
   refine qET _ _ _ code ⟨by omega,by omega⟩ hev ⟨by omega,by omega⟩ ⟨by omega,by omega⟩ ?_
   have e:qi (qiD (64,qbe it 64 ws k,((0:Int),(o:Int),(r:Int),()),0,())++code)=((64+code.length:Nat):Int):=by
    simp only[qi]
    rw[List.length_append,qsl]
   rw[e]
   exact qwE _ o r _ ho h4 hr hr4 (by omega) (by omega) ⟨by omega,by omega⟩ hev
  ·rw[←hhd]
  ·refine qOZ it ws hn hf hK (qiD hd) (qiD hd++code) (qsl hd) (by rw[hcd]) (fun i hi h0=>?_) hd k (by omega) (by rw[←hhd]) o r ⟨ho,hr.2,by rw[hlen];omega⟩
   have:=hI.all _ (qBM hi)
   unfold jOk at this
   rw[h0,cond_true] at this
   exact this
  ·have:=qmA it 64 ws (i:=0) (Nat.zero_le _)
   exact this
end Go.Av
end
section
namespace Go.Av
open Go
def wOf (o r n:Nat) (y:qcS) (a:Nat):Nat:=match qiS o r n a with
 |some j=>(leV ((y.2.drop (posM y j (a:Int))).take 4)).toNat
 |none=>0
theorem qQb {o r n:Nat} (hs:SzOk o r n) {y:qcS} (hw:MemWf y) (h1:y.1.1=qcZ o r n) (h2:y.1.2.1=qbC 0 (qcZ o r n)):MW o r n y (wOf o r n y):=by
 refine⟨hw,h1,h2,fun a j hj=>?_⟩
 unfold wOf
 rw[hj]
 have hf:qg0 (a:Int) 4 false y.1.1=some j:=by rw[h1];exact qpY hs hj
 obtain⟨_,_,_,_,q5,_,_⟩:=qp5 hw hf (.inr rfl)
 have:=qJr ((y.2.drop (posM y j (a:Int))).take 4) (fun b hb=>hw.bytes b (List.mem_of_mem_drop (List.mem_of_mem_take hb))) (by
  rw[List.length_take,List.length_drop]
  have:posM y j (a:Int)+4≤y.2.length:=q5
  omega)
 show leV _=(((leV _).toNat:Nat):Int)
 omega
theorem qOB {o r a j:Nat} (h:qdf o r a=some j):2≤j:=by
 unfold qdf at h
 cases hm:(a % 4 != 0)
 ·rw[hm,cond_false] at h
  cases h1:inW 537001984 o a
  ·rw[h1,cond_false] at h
   cases h2:inW 537133056 r a
   ·rw[h2,cond_false] at h
    cases h3:inW 537395200 r a
    ·rw[h3,cond_false] at h
     cases h4:inW 537919488 4 a
     ·rw[h4,cond_false] at h
      cases h5:inW 538968064 4 a
      ·rw[h5] at h;cases h
      ·rw[h5] at h;cases h;omega
     ·rw[h4] at h;cases h;omega
    ·rw[h3] at h;cases h;omega
   ·rw[h2] at h;cases h;omega
  ·rw[h1] at h;cases h;omega
 ·rw[hm] at h
  cases h
theorem qBi:∀l:List Int,(∀b∈l,b=0)→leV l=0
 |[],_=>rfl
 |b::l,h=>by
  rw[leV,qBi l (fun x hx=>h x (by simp[hx])),h b (by simp)]
  rfl
theorem qNa {o r n:Nat} (hs:SzOk o r n) (img:List UInt8) (hn:n=img.length) (hw:MemWf (qiQ (qcZ o r n) img [])) {a j:Nat} (hj:qdf o r a=some j):wOf o r n (qiQ (qcZ o r n) img []) a=0:=by
 have hjR:=qk3 (n:=n) hs hj
 have hj2:=qOB hj
 unfold wOf
 rw[hjR]
 have hf:qg0 (a:Int) 4 false (qiQ (qcZ o r n) img []).1.1=some j:=qpY hs hjR
 obtain⟨a1,_,_,_,q5,_,_⟩:=qp5 hw hf (.inr rfl)
 have a1:j<(qcZ o r n).length:=a1
 have q5:posM (qiQ (qcZ o r n) img []) j (a:Int)+4≤(qiQ (qcZ o r n) img []).2.length:=q5
 have hsep:=qvA (qcZ o r n) 0 0 j (by omega) a1
 have hw0:(qbC 0 (qcZ o r n)).getD 0 (0,0)=(0,n):=by
  show((0:Nat),((n:Int)).toNat)=_
  rw[Int.toNat_natCast]
 rw[hw0] at hsep
 have h0:((qcZ o r n).getD 0 qew).2.1.toNat=n:=by
  show((n:Int)).toNat=n
  rw[Int.toNat_natCast]
 rw[h0] at hsep
 have hpos:n≤posM (qiQ (qcZ o r n) img []) j (a:Int):=by
  unfold posM
  show n≤((qbC 0 (qcZ o r n)).getD j (0,0)).1+_
  omega
 show(leV (((qiQ (qcZ o r n) img []).2.drop (posM (qiQ (qcZ o r n) img []) j (a:Int))).take 4)).toNat=0
 generalize posM (qiQ (qcZ o r n) img []) j (a:Int)=p at *
 have hz:∀b∈((qiQ (qcZ o r n) img []).2.drop p).take 4,b=0:=by
  intro b hb
  obtain⟨i,hi⟩:=List.mem_iff_getElem?.1 hb
  rw[List.getElem?_take] at hi
  by_cases hi4:i<4
  ·rw[if_pos hi4,List.getElem?_drop] at hi
   have e0:wAt (qbC 0 (qcZ o r n)) 0=(0,n):=hw0
   have e1:(wAt (qbC 0 (qcZ o r n)) 1).2=0:=rfl
   have hx:(qiQ (qcZ o r n) img []).2=qdG (qdG (zeros ((qdE (qcZ o r n):Nat):Int) 0) (wAt (qbC 0 (qcZ o r n)) 0).1 (qdY img) (wAt (qbC 0 (qcZ o r n)) 0).2) (wAt (qbC 0 (qcZ o r n)) 1).1 (qdY []) (wAt (qbC 0 (qcZ o r n)) 1).2:=rfl
   rw[hx,e0,e1] at hi
   have e2:∀(xs:List Int) (q:Nat) (ys:List Int),qdG xs q ys 0=xs:=fun xs q ys=>by
    unfold qdG
    rw[List.take_zero,List.append_nil,Nat.min_zero,Nat.add_zero,List.take_append_drop]
   rw[e2] at hi
   have hsl:(qdY img).length=n:=by rw[hn];exact List.length_map ..
   have hsum:n≤qdE (qcZ o r n):=by
    show n≤((n:Int)).toNat+_
    rw[Int.toNat_natCast]
    omega
   have hzl:(zeros ((qdE (qcZ o r n):Nat):Int) (0:Int)).length=qdE (qcZ o r n):=by simp[zeros]
   rw[qBL _ _ _ _ _ (by rw[hsl,Nat.min_self,hzl];omega),hsl,Nat.min_self,if_neg (by omega),if_neg (by omega)] at hi
   exact List.eq_of_mem_replicate (List.mem_iff_getElem?.2 ⟨_,hi⟩)
  ·rw[if_neg hi4] at hi
   cases hi
 rw[qBi _ hz]
 rfl
theorem qq4 {α β:Type} {f g:α→List β}:∀{l:List α},(∀x∈l,f x=g x)→l.flatMap f=l.flatMap g
 |[],_=>rfl
 |x::l,h=>by rw[List.flatMap_cons,List.flatMap_cons,h x (by simp),qq4 (fun y hy=>h y (by simp[hy]))]
def qdn (W:Nat→Nat) (b n:Nat):List UInt8:=(List.range (n / 4)).flatMap fun i=>q8 ((W (b+4*i):Nat):Int)
theorem qyG (l:List UInt8):bytesOf (qdY l)=l:=by
 unfold bytesOf qdY
 rw[List.map_map]
 have:(toByte∘fun b:UInt8=>(b.toNat:Int))=id:=by
  funext b
  show toByte ((b.toNat:Nat):Int)=b
  unfold toByte
  rw[Int.toNat_natCast]
  exact UInt8.ofNat_toNat
 rw[this,List.map_id]
theorem qHO (l:List Int) (h:∀b∈l,0≤b∧b<256) (hl:l.length=4):bytesOf l=q8 (leV l):=by
 have h1:=qJo l h hl
 have h2:=qyG (q8 (leV l))
 have h3:qdY (q8 (leV l))=l:=h1
 rw[h3] at h2
 exact h2
theorem qvD:∀(m:Nat) (xs:List Int),xs.length=4*m→bytesOf xs=(List.range m).flatMap fun i=>bytesOf ((xs.drop (4*i)).take 4)
 |0,xs,h=>by
  have:xs=[]:=List.eq_nil_of_length_eq_zero (by omega)
  subst this
  rfl
 |m+1,xs,h=>by
  have ih:=qvD m (xs.drop 4) (by rw[List.length_drop];omega)
  rw[List.range_succ_eq_map,List.flatMap_cons]
  have e:bytesOf xs=bytesOf ((xs.drop (4*0)).take 4)++bytesOf (xs.drop 4):=by
   unfold bytesOf
   rw[←List.map_append,Nat.mul_zero,List.drop_zero,List.take_append_drop]
  rw[e,ih,List.flatMap_map]
  congr 1
  apply qq4
  intro i _
  rw[List.drop_drop,show 4+4*i=4*(i+1) by omega]
theorem quD {o r n:Nat} (_:SzOk o r n) {y:qcS} {W:Nat→Nat} (h:MW o r n y W) {k b len:Nat} (hk:2≤k∧k<7) (hb:(qcZ o r n).getD k qew=((b:Int),(len:Int),true,())) (h4:len % 4=0)
  (hreg:∀i,i<len / 4→qiS o r n (b+4*i)=some k):(qjV (k:Int) y).1=qdn W b len:=by
 have hlen:y.1.2.1.length=7:=by rw[←h.wf.len,h.regs];rfl
 unfold qjV qtb
 have hbn:(decide ((k:Int)<0)||decide ((k:Int)≥qi y.1.2.1))=false:=by
  simp only[qi,hlen,Bool.or_eq_false_iff,decide_eq_false_iff_not]
  omega
 rw[hbn]
 show bytesOf (shown y.2 (wAt y.1.2.1 (k:Int)))=_
 obtain⟨w1,w2⟩:=h.wf.wins k (by rw[h.regs];exact hk.2)
 rw[h.regs,hb] at w1
 have w1:((y.1.2.1.getD k (0,0)).2:Int)=(len:Int):=w1
 have e1:wAt y.1.2.1 (k:Int)=y.1.2.1.getD k (0,0):=by
  unfold wAt
  rw[Int.toNat_natCast]
 rw[e1]
 unfold shown
 have hl2:(y.1.2.1.getD k (0,0)).2=len:=by omega
 rw[hl2] at w2 ⊢
 have hxl:((y.2.drop (y.1.2.1.getD k (0,0)).1).take len).length=4*(len / 4):=by
  rw[List.length_take,List.length_drop]
  omega
 rw[qvD (len / 4) _ hxl]
 unfold qdn
 apply qq4
 intro i hi
 have hi:=List.mem_range.1 hi
 have hw:=h.word (b+4*i) k (hreg i hi)
 have hp:posM y k ((b+4*i:Nat):Int)=(y.1.2.1.getD k (0,0)).1+4*i:=by
  unfold posM
  rw[h.regs,hb]
  show _+(((b+4*i:Nat):Int)-(b:Int)).toNat=_
  omega
 rw[hp] at hw
 have ec:(((y.2.drop (y.1.2.1.getD k (0,0)).1).take len).drop (4*i)).take 4=(y.2.drop ((y.1.2.1.getD k (0,0)).1+4*i)).take 4:=by
  rw[List.drop_take,List.take_take,List.drop_drop,Nat.min_eq_left (by omega)]
 rw[ec,←hw]
 refine qHO _ (fun x hx=>h.wf.bytes x (List.mem_of_mem_drop (List.mem_of_mem_take hx))) ?_
 rw[List.length_take,List.length_drop]
 omega
theorem qw8 {o r n:Nat} (hs:SzOk o r n) (i:Nat) (hi:i<o / 4):qdf o r (537001984+4*i)=some 2∧qiS o r n (537001984+4*i)=some 2:=by
 have h1:qdf o r (537001984+4*i)=some 2:=by
  unfold qdf
  rw[show((537001984+4*i) % 4 != 0)=false by rw[bne_eq_false_iff_eq];omega,show inW 537001984 o (537001984+4*i)=true from decide_eq_true (by omega)]
  rfl
 exact⟨h1,qk3 hs h1⟩
theorem qxH {o r n:Nat} (hs:SzOk o r n) (i:Nat) (hi:i<r / 4):qdf o r (537133056+4*i)=some 3∧qiS o r n (537133056+4*i)=some 3:=by
 have ho:=hs.out
 have h1:qdf o r (537133056+4*i)=some 3:=by
  unfold qdf
  rw[show((537133056+4*i) % 4 != 0)=false by rw[bne_eq_false_iff_eq];omega,show inW 537001984 o (537133056+4*i)=false from decide_eq_false (by omega),show inW 537133056 r (537133056+4*i)=true from decide_eq_true (by omega)]
  rfl
 exact⟨h1,qk3 hs h1⟩
theorem qyD {o r n:Nat} (hs:SzOk o r n) (i:Nat) (hi:i<r / 4):qdf o r (537395200+4*i)=some 4∧qiS o r n (537395200+4*i)=some 4:=by
 have ho:=hs.out
 have hr:=hs.rail
 have h1:qdf o r (537395200+4*i)=some 4:=by
  unfold qdf
  rw[show((537395200+4*i) % 4 != 0)=false by rw[bne_eq_false_iff_eq];omega,show inW 537001984 o (537395200+4*i)=false from decide_eq_false (by omega),show inW 537133056 r (537395200+4*i)=false from decide_eq_false (by omega),show inW 537395200 r (537395200+4*i)=true from decide_eq_true (by omega)]
  rfl
 exact⟨h1,qk3 hs h1⟩
theorem qsF {o r n:Nat} (hs:SzOk o r n):qdf o r 537919488=some 5∧qiS o r n 537919488=some 5:=by
 have ho:=hs.out
 have hr:=hs.rail
 have h1:qdf o r 537919488=some 5:=by
  unfold qdf
  rw[show inW 537001984 o 537919488=false from decide_eq_false (by omega),show inW 537133056 r 537919488=false from decide_eq_false (by omega),show inW 537395200 r 537919488=false from decide_eq_false (by omega)]
  rfl
 exact⟨h1,qk3 hs h1⟩
theorem qwG {o r n:Nat} (hs:SzOk o r n):qdf o r 538968064=some 6∧qiS o r n 538968064=some 6:=by
 have ho:=hs.out
 have hr:=hs.rail
 have h1:qdf o r 538968064=some 6:=by
  unfold qdf
  rw[show inW 537001984 o 538968064=false from decide_eq_false (by omega),show inW 537133056 r 538968064=false from decide_eq_false (by omega),show inW 537395200 r 538968064=false from decide_eq_false (by omega)]
  rfl
 exact⟨h1,qk3 hs h1⟩
def qdl (o r n:Nat) (img:List UInt8):IS:=(fun k=>wn (rg (List.set (List.set [0,0,0,0,0,0,0,0,0,0,0,0,0,0,0] 13 537133056) 14 (qdr 0)) k),(false,false,false,false,()),wOf o r n (qiQ (qcZ o r n) img []))
theorem qHH {o r n:Nat} (hs:SzOk o r n) (hr:4≤r) (ho4:o % 4=0) (hr4:r % 4=0) (img:List UInt8) (hn:n=img.length) {a:Nat} (ha:(qdf o r a).isSome=true):(qdl o r n img).2.2 a=0:=by
 obtain⟨j,hj⟩:=Option.isSome_iff_exists.1 ha
 have hck:=qsf o r n hs.out ho4 ⟨hr,hs.rail⟩ hr4 hs.flash
 obtain⟨r1,r2,_⟩:=qtz 0 o r n hck (by omega)
 exact qNa hs img hn (qzs _ _ _ r1 (by rw[r2];omega)) hj
theorem qQN {it:List qk.den} {o r k:Nat} {img:List UInt8} {hd:qce.den} {adr:Nat→Int} (hr:4≤r) (ho4:o % 4=0) (hr4:r % 4=0) (h:IsImg it o r k img hd adr) (f:qX.den) (hf:qM f=0) (b:Nat) (hb:b≤67108864) :
  ∃cy:Int,qO (img,[],f,(b:Int)) =
   (((goI ⟨qcl it it.length,o,r,img.length,qbM it k⟩ f b 0 (false,0,qdl o r img.length img)).2.2.1,
    (((goI ⟨qcl it it.length,o,r,img.length,qbM it k⟩ f b 0 (false,0,qdl o r img.length img)).1:Nat):Int),cy,
    (((goI ⟨qcl it it.length,o,r,img.length,qbM it k⟩ f b 0 (false,0,qdl o r img.length img)).2.1:Nat):Int),
    (((goI ⟨qcl it it.length,o,r,img.length,qbM it k⟩ f b 0 (false,0,qdl o r img.length img)).2.2.2.2.2.2 537919488:Nat):Int),
    (((goI ⟨qcl it it.length,o,r,img.length,qbM it k⟩ f b 0 (false,0,qdl o r img.length img)).2.2.2.2.2.2 538968064:Nat):Int),
    qdn (goI ⟨qcl it it.length,o,r,img.length,qbM it k⟩ f b 0 (false,0,qdl o r img.length img)).2.2.2.2.2.2 537001984 o,
    qdn (goI ⟨qcl it it.length,o,r,img.length,qbM it k⟩ f b 0 (false,0,qdl o r img.length img)).2.2.2.2.2.2 537133056 r,
    qdn (goI ⟨qcl it it.length,o,r,img.length,qbM it k⟩ f b 0 (false,0,qdl o r img.length img)).2.2.2.2.2.2 537395200 r,()),0,()):=by
 obtain⟨hp,hh,hprg,hz⟩:=h
 have hs:SzOk o r img.length:=hprg.sz
 have hck:=qsf o r img.length hs.out ho4 ⟨hr,hs.rail⟩ hr4 hs.flash
 obtain⟨r1,r2,_⟩:=qtz 0 o r img.length hck (by omega)
 have hwf:=qzs (qcZ o r img.length) img [] r1 (by rw[r2];omega)
 have hmw:=qQb hs hwf rfl rfl
 have hlk:Lk ⟨qcl it it.length,o,r,img.length,qbM it k⟩ adr 0 (qdl o r img.length img) (List.set (List.set [0,0,0,0,0,0,0,0,0,0,0,0,0,0,0] 13 537133056) 14 (qdr 0),64,false,false,false,false,()) (qiQ (qcZ o r img.length) img []) :=
  ⟨⟨rfl,fun _ _=>rfl⟩,hz.symm,rfl,hmw⟩
 obtain⟨g1,g2,g3,_,g5⟩:=qGe hprg f hf b 0 false 0 (qdl o r img.length img) _ _ (Nat.zero_le _) hlk
 have hrun:qO (img,[],f,(b:Int))=(qzo (qkp (qds img).1 img []) f (b:Int),0,()):=by
  exact qOA (by rw[hp];rfl) (by rw[hp,hh];rfl) f (b:Int) hf ⟨by omega,by omega⟩
 rw[hrun,hp,qQR]
 have hst:goX (qkp hd img []).1.1 (qkp hd img []).1.2.1 f ((b:Int)).toNat 0 (qcI (qkp hd img []))=goX hd img f b 0 ((List.set (List.set [0,0,0,0,0,0,0,0,0,0,0,0,0,0,0] 13 537133056) 14 (qdr 0),64,false,false,false,false,()),false,qiQ (qcZ o r img.length) img []):=by
  rw[Int.toNat_natCast]
  have e:qcI (qkp hd img [])=((List.set (List.set [0,0,0,0,0,0,0,0,0,0,0,0,0,0,0] 13 537133056) 14 (qdr 0),64,false,false,false,false,()),false,qiQ (qcZ o r img.length) img []):=by
   rw[hh]
   rfl
  rw[e]
  rfl
 rw[hst]
 refine⟨qtK (goX hd img f b 0 ((List.set (List.set [0,0,0,0,0,0,0,0,0,0,0,0,0,0,0] 13 537133056) 14 (qdr 0),64,false,false,false,false,()),false,qiQ (qcZ o r img.length) img [])).1,?_⟩
 unfold qQz
 generalize goX hd img f b 0 ((List.set (List.set [0,0,0,0,0,0,0,0,0,0,0,0,0,0,0] 13 537133056) 14 (qdr 0),64,false,false,false,false,()),false,qiQ (qcZ o r img.length) img [])=G at *
 generalize goI ⟨qcl it it.length,o,r,img.length,qbM it k⟩ f b 0 (false,0,qdl o r img.length img)=X at *
 have hm:=g5.mw
 have c1:qox 537919488 G.2.2.2.2=((X.2.2.2.2.2.2 537919488:Nat):Int):=by
  have:=qzt hs hm 537919488
  rw[(qsF hs).2] at this
  exact congrArg (fun p=>p.1) this
 have c2:qox 538968064 G.2.2.2.2=((X.2.2.2.2.2.2 538968064:Nat):Int):=by
  have:=qzt hs hm 538968064
  rw[(qwG hs).2] at this
  exact congrArg (fun p=>p.1) this
 have c3:=quD hs hm (k:=2) (b:=537001984) (len:=o) ⟨by omega,by omega⟩ rfl ho4 (fun i hi=>(qw8 hs i hi).2)
 have c4:=quD hs hm (k:=3) (b:=537133056) (len:=r) ⟨by omega,by omega⟩ rfl hr4 (fun i hi=>(qxH hs i hi).2)
 have c5:=quD hs hm (k:=4) (b:=537395200) (len:=r) ⟨by omega,by omega⟩ rfl hr4 (fun i hi=>(qyD hs i hi).2)
 rw[g1,g2,g3,c1,c2]
 have c3:(qjV 2 G.2.2.2.2).1=_:=c3
 have c4:(qjV 3 G.2.2.2.2).1=_:=c4
 have c5:(qjV 4 G.2.2.2.2).1=_:=c5
 rw[c3,c4,c5]
end Go.Av
end
section
namespace Go.Av
open Go
def GoTo (E:Env) (k c j:Nat) (s:IS) (j':Nat) (s':IS):Prop:=goN E k (false,j,s)=(k,c,false,j',s')
def Ends (E:Env) (k c j:Nat) (s:IS) (j':Nat) (s':IS):Prop:=goN E k (false,j,s)=(k,c,true,j',s')
theorem GoTo.refl (E:Env) (j:Nat) (s:IS):GoTo E 0 0 j s j s:=rfl
theorem GoTo.trans {E:Env} {k c j k' c' j' j'':Nat} {s s' s'':IS} (h:GoTo E k c j s j' s') (h':GoTo E k' c' j' s' j'' s''):GoTo E (k+k') (c+c') j s j'' s'':=by
 unfold GoTo at *
 rw[qnt,h,h']
theorem GoTo.ends {E:Env} {k c j k' c' j' j'':Nat} {s s' s'':IS} (h:GoTo E k c j s j' s') (h':Ends E k' c' j' s' j'' s''):Ends E (k+k') (c+c') j s j'' s'':=by
 unfold GoTo Ends at *
 rw[qnt,h,h']
theorem qKT {E:Env} {j j':Nat} {s s':IS} (h:qN E false j s=(false,j',s')):GoTo E 1 (bif j==E.h then 1 else 0) j s j' s':=by
 show((goN E 0 (qN E false j s)).1+1,(bif j==E.h then 1 else 0)+(goN E 0 (qN E false j s)).2.1,(goN E 0 (qN E false j s)).2.2)=_
 rw[h]
 rfl
theorem qvV {E:Env} {j j':Nat} {s s':IS} (h:qN E false j s=(true,j',s')):Ends E 1 (bif j==E.h then 1 else 0) j s j' s':=by
 show((goN E 0 (qN E false j s)).1+1,(bif j==E.h then 1 else 0)+(goN E 0 (qN E false j s)).2.1,(goN E 0 (qN E false j s)).2.2)=_
 rw[h]
 rfl
theorem qS {E:Env} {k c j j1 j':Nat} {s s1 s':IS} (h:qN E false j s=(false,j1,s1)) (hj:j≠E.h) (h':GoTo E k c j1 s1 j' s'):GoTo E (k+1) c j s j' s':=by
 have:=(qKT h).trans h'
 rw[beq_eq_false_iff_ne.2 hj] at this
 rw[Nat.add_comm k 1]
 simpa using this
theorem qLr {E:Env} {k c j j':Nat} {s s':IS} (h:Ends E k c j s j' s') {n:Nat} (hn:k≤n):goN E n (false,j,s)=(k,c,true,j',s'):=by
 obtain⟨m,rfl⟩:∃m,n=k+m:=⟨n-k,by omega⟩
 unfold Ends at h
 rw[qnt,h,que E m rfl]
 rfl
theorem qbj {E:Env} {j:Nat} {i:qA.den} (h:E.P[j]?=some (.op i)) (s:IS):qN E false j s=doI E j i s:=by
 unfold qN
 rw[h]
 rfl
theorem qgS {E:Env} {j t:Nat} {o c:Int} (h:E.P[j]?=some (.br o c t)) (s:IS):qN E false j s=bif qbV s.2.1 o c then(false,t,s) else(false,j+1,s):=by
 unfold qN
 rw[h]
 rfl
theorem qya {E:Env} {j t:Nat} (h:E.P[j]?=some (.br 24 0 t)) (s:IS):qN E false j s=(false,t,s):=qgS h s
theorem ql4 (m:Nat) (h:m<4294967296):wn ((m:Nat):Int)=m:=qc1 h
theorem qGo (d i:Nat):qmg d i 16 16=i % 65536*65536+d % 65536+d / 4294967296*4294967296:=by
 unfold qmg
 rw[show(2:Nat) ^ 16=65536 from rfl,show(2:Nat) ^ (16+16)=4294967296 from rfl]
 omega
theorem qQK (d n:Nat):qmg d n 0 16=d / 65536*65536+n % 65536:=by
 unfold qmg
 rw[show(2:Nat) ^ 16=65536 from rfl,show(2:Nat) ^ 0=1 from rfl]
 omega
theorem qGS (E:Env) (j:Nat) (rd imm:Int) (s:IS) (hd:s.1 rd<4294967296):doI E j (qp 4 rd 0 0 0 imm 0) s=(false,j+1,qn s.1 rd (wn imm % 65536*65536+s.1 rd % 65536),s.2):=by
 show(false,j+1,qn s.1 rd (wn ((qmg (wn ((s.1 rd:Nat):Int)) (wn imm) 16 16:Nat):Int)),s.2)=_
 have h1:wn imm % 65536<65536:=Nat.mod_lt _ (by omega)
 have h2:s.1 rd % 65536<65536:=Nat.mod_lt _ (by omega)
 have h3:wn imm % 65536*65536+s.1 rd % 65536<4294967296:=by
  generalize wn imm % 65536=x at *
  generalize s.1 rd % 65536=y at *
  omega
 have e:qmg (s.1 rd) (wn imm) 16 16=wn imm % 65536*65536+s.1 rd % 65536:=by
  rw[qGo,Nat.div_eq_of_lt hd,Nat.zero_mul,Nat.add_zero]
 rw[ql4 _ hd,e,ql4 _ h3]
theorem qPV (E:Env) (j:Nat) (rd rn:Int) (s:IS) (hd:s.1 rd<4294967296) (hn:s.1 rn<4294967296):doI E j (qp 18 rd rn 0 16 0 0) s=(false,j+1,qn s.1 rd (s.1 rd / 65536*65536+s.1 rn % 65536),s.2):=by
 show(false,j+1,qn s.1 rd (wn ((qmg (wn ((s.1 rd:Nat):Int)) (wn ((s.1 rn:Nat):Int)) 0 16:Nat):Int)),s.2)=_
 rw[ql4 _ hd,ql4 _ hn,qQK,ql4]
 omega
theorem qPW (E:Env) (j:Nat) (rd rn rm:Int) (s:IS) (h:s.1 rn+s.1 rm<4294967296):doI E j (qp 14 rd rn rm 0 0 0) s=(false,j+1,qn s.1 rd (s.1 rn+s.1 rm),s.2):=by
 show(false,j+1,qn s.1 rd (wn ((wn (((s.1 rn:Nat):Int)+((s.1 rm:Nat):Int)):Nat):Int)),s.2)=_
 rw[qvW,show((s.1 rn:Nat):Int)+((s.1 rm:Nat):Int)=((s.1 rn+s.1 rm:Nat):Int) by omega,ql4 _ h]
theorem qQ7 (E:Env) (j:Nat) (rd rm:Int) (s:IS) (h:s.1 rm<4294967296):doI E j (qp 5 rd 0 rm 0 0 0) s=(false,j+1,qn s.1 rd (s.1 rm),s.2):=by
 show(false,j+1,qn s.1 rd (wn ((wn ((s.1 rm:Nat):Int)*2 ^ kk 0 % 4294967296:Nat):Int)),s.2)=_
 have:kk 0=0:=rfl
 rw[ql4 _ h,this,Nat.pow_zero,Nat.mul_one,Nat.mod_eq_of_lt h,ql4 _ h]
theorem qDK (E:Env) (j:Nat) (rn rm:Int) (s:IS):doI E j (qp 23 0 rn rm 0 0 0) s=(false,j+1,s.1,qbk (s.1 rn) (s.1 rm),s.2.2):=rfl
theorem qoo (E:Env) (j:Nat) (rd rn:Int) (s:IS):doI E j (qp 19 rd rn 0 0 0 0) s=bif E.okR (s.1 rn) then(false,j+1,qn s.1 rd (s.2.2 (s.1 rn)),s.2) else(false,E.h,s):=rfl
theorem qls (E:Env) (j:Nat) (rd rn:Int) (s:IS):doI E j (qp 20 rd rn 0 0 0 0) s=bif E.okW (s.1 rn) then(false,j+1,s.1,s.2.1,qcb s.2.2 (s.1 rn) (s.1 rd)) else(false,E.h,s):=rfl
theorem qOk (E:Env) (j:Nat) (imm:Int) (s:IS):doI E j (qp 2 0 0 0 0 imm 0) s=(true,j,s):=rfl
theorem qk1 (a b:Nat):qbV (qbk a b) 25 2=decide (b≤a):=by
 unfold qbV qyu qbk
 show(decide (b≤a)==true)=_
 cases decide (b≤a)<;>rfl
theorem qrG (a b:Nat):qbV (qbk a b) 25 1=(a != b):=by
 unfold qbV qyu qbk
 show((a==b)==false)=(!(a==b))
 cases (a==b)<;>rfl
theorem qLE (n:Int):wn (lo false n)=wn n % 65536:=by
 show wn (qR .i64 n 65535)=_
 rw[qvP]
 unfold wn
 omega
theorem qKp (n:Int):wn (hi false n)=wn n / 65536:=by
 show wn (qR .i64 (qw .i64 n 16) 65535)=_
 rw[qPx,qvP]
 unfold wn
 omega
theorem qR0 (n:Int):0≤lo false n∧lo false n≤65535:=by
 show 0≤qR .i64 n 65535∧qR .i64 n 65535≤65535
 rw[qvP]
 omega
theorem qRJ (n:Int):0≤hi false n∧hi false n≤65535:=by
 show 0≤qR .i64 (qw .i64 n 16) 65535∧qR .i64 (qw .i64 n 16) 65535≤65535
 rw[qvP]
 omega
def qzm (E:Env) (stop:Nat→Bool):Nat→Nat→Bool
 |0,j=>stop j
 |n+1,j=>stop j||(match E.P[j]? with
  |none=>qzm E stop n E.h
  |some (.op i)=>!(i.1==2)&&(qzm E stop n (j+1)&&(bif i.1==19||i.1==20 then qzm E stop n E.h else true))
  |some (.br o _ t)=>qzm E stop n t&&(bif o==24 then true else qzm E stop n (j+1)))
def qx2 (m:Nat):PI→PI
 | .op i=>.op i
 | .br o c t=>.br o c (m+t)
def qmv (m:Nat) (q:IO3):IO3:=(q.1,m+q.2.1,q.2.2)
structure Part (E E':Env) (m:Nat):Prop where
 prg:∀j,E.P[m+j]?=(E'.P[j]?).map (qx2 m)
 o:E.o=E'.o
 r:E.r=E'.r
 n:E.n=E'.n
 h:E.h=m+E'.h
theorem qAo {E E':Env} {m:Nat} (hp:Part E E' m) (skip:Bool) (j:Nat) (s:IS):qN E skip (m+j) s=qmv m (qN E' skip j s):=by
 have hR:∀a,E.okR a=E'.okR a:=fun a=>by unfold Env.okR;rw[hp.o,hp.r,hp.n]
 have hW:∀a,E.okW a=E'.okW a:=fun a=>by unfold Env.okW;rw[hp.o,hp.r]
 unfold qN
 rw[hp.prg j]
 cases hq:E'.P[j]? with
 |none =>
  show(false,E.h,s)=qmv m (false,E'.h,s)
  rw[hp.h]
  rfl
 |some p =>
  cases skip
  ·show atI E (m+j) s (qx2 m p)=qmv m (atI E' j s p)
   cases p with
   |op i =>
    show doI E (m+j) i s=qmv m (doI E' j i s)
    unfold doI
    cases (i.1==(2:Int))
    ·cases (i.1==(19:Int))
     ·cases (i.1==(20:Int))
      ·cases (i.1==(23:Int))<;>rfl
      ·simp only[cond_true,cond_false]
       rw[hW,hp.h]
       cases E'.okW (s.1 i.2.2.1)<;>rfl
     ·simp only[cond_true,cond_false]
      rw[hR,hp.h]
      cases E'.okR (s.1 i.2.2.1)<;>rfl
    ·rfl
   |br o c t =>
    show(bif qbV s.2.1 o c then(false,m+t,s) else(false,m+j+1,s))=qmv m (bif qbV s.2.1 o c then(false,t,s) else(false,j+1,s))
    cases qbV s.2.1 o c<;>rfl
  ·rfl
theorem qG5 {E E':Env} {m:Nat} (hp:Part E E' m):∀(n:Nat) (b:Bool) (j:Nat) (s:IS),goN E n (b,m+j,s)=((goN E' n (b,j,s)).1,(goN E' n (b,j,s)).2.1,qmv m (goN E' n (b,j,s)).2.2)
 |0,_,_,_=>rfl
 |n+1,true,_,_=>rfl
 |n+1,false,j,s=>by
  have hs:=qAo hp false j s
  rw[goN,goN]
  simp only[cond_false]
  rw[hs]
  have ih:=qG5 hp n (qN E' false j s).1 (qN E' false j s).2.1 (qN E' false j s).2.2
  have e:qmv m (qN E' false j s)=((qN E' false j s).1,m+(qN E' false j s).2.1,(qN E' false j s).2.2):=rfl
  rw[e,ih]
  have eh:(m+j==E.h)=(j==E'.h):=by
   rw[hp.h,Bool.eq_iff_iff,beq_iff_eq,beq_iff_eq]
   omega
  rw[eh]
theorem qDO {E E':Env} {m:Nat} (hp:Part E E' m) (f:qX.den):∀(n:Nat) (k:Int) (b:Bool) (j:Nat) (s:IS),goI E f n k (b,m+j,s)=((goI E' f n k (b,j,s)).1,(goI E' f n k (b,j,s)).2.1,qmv m (goI E' f n k (b,j,s)).2.2)
 |0,_,_,_,_=>rfl
 |n+1,_,true,_,_=>rfl
 |n+1,k,false,j,s=>by
  have hs:=qAo hp ((qcn f k).1==(1:Int)) j (qbE (qcn f k) s)
  rw[goI,goI]
  simp only[cond_false]
  rw[hs]
  have ih:=qDO hp f n (k+1) (qN E' ((qcn f k).1==(1:Int)) j (qbE (qcn f k) s)).1 (qN E' ((qcn f k).1==(1:Int)) j (qbE (qcn f k) s)).2.1 (qN E' ((qcn f k).1==(1:Int)) j (qbE (qcn f k) s)).2.2
  have e:∀q:IO3,qmv m q=(q.1,m+q.2.1,q.2.2):=fun _=>rfl
  rw[e (qN E' ((qcn f k).1==(1:Int)) j (qbE (qcn f k) s)),ih]
  have eh:(m+j==E.h)=(j==E'.h):=by
   rw[hp.h,Bool.eq_iff_iff,beq_iff_eq,beq_iff_eq]
   omega
  rw[eh]
theorem qsI (m:Nat) (f:Int→Nat):∀l:List qk.den,qc2 (fun x=>m+f x) l=(qc2 f l).map (qx2 m)
 |[]=>rfl
 |j::l=>by
  rw[qc2,qc2,qsI m f l]
  cases (j.1==(1:Int))
  ·simp only[cond_false,List.map_cons]
   congr 1
   unfold piL
   cases (j.1==(2:Int))<;>rfl
  ·rfl
theorem qO5 {pre H:List qk.den} (hI:ItOk (pre++H)) (hpre:∀j∈pre,(j.1==(0:Int))=true) (o r n h:Nat):Part ⟨qcl (pre++H) (pre++H).length,o,r,n,pre.length+h⟩ ⟨qc2 (fun l=>qeL l H) H,o,r,n,h⟩ pre.length:=by
 refine⟨fun j=>?_,rfl,rfl,rfl,rfl⟩
 show(qcl (pre++H) (pre++H).length)[pre.length+j]?=_
 have hp1:∀j∈pre,(j.1==(1:Int))=false:=fun j hj=>by
  have:=hpre j hj
  have:j.1=(0:Int):=by simpa using this
  rw[this]
  rfl
 have e:(fun l=>qeL l (pre++H))=fun l=>pre.length+qeL l H:=funext fun l=>qtS l pre H hp1
 rw[quX hI,e,qst _ _ _ hpre,qsI]
 have hl:(List.map (fun j:qk.den=>PI.op j.2.2.1) pre).length=pre.length:=List.length_map ..
 rw[List.getElem?_append_right (by omega),hl,Nat.add_sub_cancel_left,List.getElem?_map]
end Go.Av
end
section
namespace Go.Av
open Go
def qjb (E:Env) (i:qA.den) (s:IS):Option IS :=
 bif i.1==2 then none
 else bif i.1==19 then(bif E.okR (s.1 i.2.2.1) then some (qn s.1 i.2.1 (s.2.2 (s.1 i.2.2.1)),s.2) else none)
 else bif i.1==20 then(bif E.okW (s.1 i.2.2.1) then some (s.1,s.2.1,qcb s.2.2 (s.1 i.2.2.1) (s.1 i.2.1)) else none)
 else bif i.1==23 then some (s.1,qbk (s.1 i.2.2.1) (s.1 i.2.2.2.1),s.2.2)
 else some (qjc s.1 i,s.2)
theorem qMA {E:Env} {i:qA.den} {s s':IS} (h:qjb E i s=some s') (j:Nat):doI E j i s=(false,j+1,s'):=by
 unfold qjb at h
 unfold doI
 cases h2:(i.1==(2:Int))
 ·rw[h2,cond_false] at h
  cases h19:(i.1==(19:Int))
  ·rw[h19,cond_false] at h
   cases h20:(i.1==(20:Int))
   ·rw[h20,cond_false] at h
    cases h23:(i.1==(23:Int))
    ·rw[h23,cond_false] at h
     cases h
     rfl
    ·rw[h23,cond_true] at h
     cases h
     rfl
   ·rw[h20,cond_true] at h
    cases ho:E.okW (s.1 i.2.2.1)
    ·rw[ho] at h;cases h
    ·rw[ho,cond_true] at h
     cases h
     simp only[cond_true,cond_false]
  ·rw[h19,cond_true] at h
   cases ho:E.okR (s.1 i.2.2.1)
   ·rw[ho] at h;cases h
   ·rw[ho,cond_true] at h
    cases h
    simp only[cond_true,cond_false]
 ·rw[h2] at h
  cases h
def qdK (E:Env):List qA.den→IS→Option IS
 |[],s=>some s
 |i::l,s=>(qjb E i s).bind (qdK E l)
theorem qpS (E:Env):∀(a b:List qA.den) (s:IS),qdK E (a++b) s=(qdK E a s).bind (qdK E b)
 |[],_,_=>rfl
 |i::a,b,s=>by
  show(qjb E i s).bind (qdK E (a++b))=((qjb E i s).bind (qdK E a)).bind (qdK E b)
  cases qjb E i s with
  |none=>rfl
  |some s1=>exact qpS E a b s1
theorem qi1 {E:Env}:∀(l:List qA.den) (j:Nat) (s s':IS),(∀i,i<l.length→E.P[j+i]?=(l[i]?).map .op)→(∀i,i<l.length→j+i≠E.h)→qdK E l s=some s'→GoTo E l.length 0 j s (j+l.length) s'
 |[],j,s,s',_,_,h=>by
  cases h
  exact GoTo.refl E j s
 |i::l,j,s,s',hP,hh,h=>by
  have h:(qjb E i s).bind (qdK E l)=some s':=h
  cases h1:qjb E i s with
  |none=>rw[h1] at h;cases h
  |some s1 =>
   rw[h1] at h
   have hp0:E.P[j]?=some (.op i):=hP 0 (by simp)
   have hj:j≠E.h:=hh 0 (by simp)
   have ih:=qi1 l (j+1) s1 s' (fun m hm=>by
    have:=hP (m+1) (by simpa using hm)
    rw[show j+(m+1)=j+1+m by omega] at this
    simpa using this) (fun m hm=>by
    have:=hh (m+1) (by simpa using hm)
    rw[show j+(m+1)=j+1+m by omega] at this
    exact this) h
   have:=qS (by rw[qbj hp0,qMA h1]) hj ih
   rw[show(i::l).length=l.length+1 from rfl,show j+(l.length+1)=j+1+l.length by omega]
   exact this
theorem qlY (E:Env) (rd n:Int) (s:IS):∃ρ',qdK E [qp 3 rd 0 0 0 (lo false n) 0,qp 4 rd 0 0 0 (hi false n) 0] s=some (ρ',s.2)∧ρ' rd=wn n∧∀k,k≠rd→ρ' k=s.1 k:=by
 have hn:=qga n
 refine⟨qn (qn s.1 rd (wn (lo false n))) rd (wn n),?_,qbL _ _ _,fun k hk=>by rw[qba _ _ hk,qba _ _ hk]⟩
 show some (qjc (qn s.1 rd (wn (lo false n))) (qp 4 rd 0 0 0 (hi false n) 0),s.2)=_
 have:=qGS E 0 rd (hi false n) (qn s.1 rd (wn (lo false n)),s.2) (by
  show qn s.1 rd (wn (lo false n)) rd<_
  rw[qbL]
  exact qga _)
 have e:qjc (qn s.1 rd (wn (lo false n))) (qp 4 rd 0 0 0 (hi false n) 0)=qn (qn s.1 rd (wn (lo false n))) rd (wn n):=by
  have h1:(qjc (qn s.1 rd (wn (lo false n))) (qp 4 rd 0 0 0 (hi false n) 0))=qn (qn s.1 rd (wn (lo false n))) rd (wn (hi false n) % 65536*65536+(qn s.1 rd (wn (lo false n)) rd) % 65536):=congrArg (fun q=>q.2.2.1) this
  rw[h1,qbL,qLE,qKp]
  congr 1
  omega
 rw[e]
theorem qMo {o r n:Nat} (hs:SzOk o r n) (x:qbi.den) (hb:qdx x ((0:Int),(o:Int),(r:Int),())=false):∃a:Nat,qkN x=(a:Int)∧a<4294967296∧(qdf o r a).isSome=true:=by
 obtain⟨wh,at_,wd,u⟩:=x
 have ho:=hs.out
 have hr:=hs.rail
 unfold qdx at hb
 rw[Bool.or_eq_false_iff] at hb
 have h0:(0:Int)≤at_:=Int.not_lt.1 (of_decide_eq_false hb.1)
 have h1:at_<w64 (Int.tdiv (qBY (wh,at_,wd,u) ((0:Int),(o:Int),(r:Int),())) 4):=by
  have:=of_decide_eq_false hb.2
  exact Int.not_le.1 this
 have dv:∀m:Nat,m≤65536→w64 (Int.tdiv (m:Int) 4)=((m / 4:Nat):Int):=fun m hm=>by
  rw[Int.tdiv_eq_ediv_of_nonneg (by omega),qu (by omega) (by omega)]
  omega
 obtain⟨t,rfl⟩:=Int.eq_ofNat_of_zero_le h0
 have key:∀(b m:Nat),b≤537919488→m≤65536→qH6 (wh,(t:Int),wd,u)=(b:Int)→qBY (wh,(t:Int),wd,u) ((0:Int),(o:Int),(r:Int),())=(m:Int)→(∀i,i<m / 4→(qdf o r (b+4*i)).isSome=true)→∃a:Nat,qkN (wh,(t:Int),wd,u)=(a:Int)∧a<4294967296∧(qdf o r a).isSome=true:=fun b m hb' hm e1 e2 e3=>by
  rw[e2,dv m hm] at h1
  have ht:t<m / 4:=by
   have h1:((t:Nat):Int)<((m / 4:Nat):Int):=h1
   omega
  refine⟨b+4*t,?_,by omega,e3 t ht⟩
  unfold qkN
  rw[e1]
  show w64 ((b:Int)+w64 (4*(t:Int)))=_
  rw[qu (n:=4*(t:Int)) (by omega) (by omega),qu (by omega) (by omega)]
  omega
 by_cases c1:wh=1
 ·subst c1
  exact key 537133056 r (by omega) hr rfl rfl (fun i hi=>by rw[(qxH hs i hi).1];rfl)
 ·have b1:(wh==(1:Int))=false:=beq_eq_false_iff_ne.2 c1
  by_cases c2:wh=2
  ·subst c2
   exact key 537395200 r (by omega) hr rfl rfl (fun i hi=>by rw[(qyD hs i hi).1];rfl)
  ·have b2:(wh==(2:Int))=false:=beq_eq_false_iff_ne.2 c2
   by_cases c3:wh=3
   ·subst c3
    exact key 537919488 4 (by omega) (by omega) rfl rfl (fun i hi=>by
     have:i=0:=by omega
     subst this
     rw[(qsF hs).1]
     rfl)
   ·have b3:(wh==(3:Int))=false:=beq_eq_false_iff_ne.2 c3
    refine key 537001984 o (by omega) ho ?_ ?_ (fun i hi=>by rw[(qw8 hs i hi).1];rfl)
    ·show(bif wh==1 then _ else bif wh==2 then _ else bif wh==3 then _ else _)=_
     rw[b1,b2,b3]
     rfl
    ·show(bif wh==1 then _ else bif wh==2 then _ else bif wh==3 then _ else _)=_
     rw[b1,b2,b3]
     rfl
def qqJ (x:qbi.den):List qA.den:=[qp 3 7 0 0 0 (lo false (qkN x)) 0,qp 4 7 0 0 0 (hi false (qkN x)) 0,qp 3 3 0 0 0 (lo false x.2.2.1) 0,qp 4 3 0 0 0 (hi false x.2.2.1) 0,qp 20 3 7 0 0 0 0]
theorem qNu (x:qbi.den):qvL x=its (qqJ x):=rfl
theorem qM9 (E:Env) (x:qbi.den) (s:IS) {a:Nat} (ha:qkN x=(a:Int)) (ha2:a<4294967296) (hw:E.okW a=true):∃ρ',qdK E (qqJ x) s=some (ρ',s.2.1,qcb s.2.2 a (wn x.2.2.1)):=by
 obtain⟨ρ1,e1,v1,k1⟩:=qlY E 7 (qkN x) s
 obtain⟨ρ2,e2,v2,k2⟩:=qlY E 3 x.2.2.1 (ρ1,s.2)
 refine⟨ρ2,?_⟩
 have e:qqJ x=[qp 3 7 0 0 0 (lo false (qkN x)) 0,qp 4 7 0 0 0 (hi false (qkN x)) 0]++([qp 3 3 0 0 0 (lo false x.2.2.1) 0,qp 4 3 0 0 0 (hi false x.2.2.1) 0]++[qp 20 3 7 0 0 0 0]):=rfl
 rw[e,qpS,e1]
 show qdK E (_++_) (ρ1,s.2)=_
 rw[qpS,e2]
 have h7:ρ2 7=a:=by
  rw[k2 7 (by decide)]
  show ρ1 7=a
  rw[v1,ha]
  exact qc1 ha2
 show((bif E.okW (ρ2 7) then some (ρ2,s.2.1,qcb s.2.2 (ρ2 7) (ρ2 3)) else none):Option IS).bind (qdK E [])=_
 rw[h7,hw,v2]
 rfl
def qcz (sz:qbQ.den) (l:List qbi.den):List qA.den:=l.flatMap fun x=>bif qdx x sz then[] else qqJ x
def qgy (sz:qbQ.den) (l:List qbi.den):List qk.den:=l.flatMap fun x=>bif qdx x sz then[] else qvL x
theorem qwP (sz:qbQ.den):∀l:List qbi.den,qgy sz l=its (qcz sz l)
 |[]=>rfl
 |x::l=>by
  have ih:=qwP sz l
  show(bif qdx x sz then[] else qvL x)++qgy sz l=its ((bif qdx x sz then[] else qqJ x)++qcz sz l)
  rw[ih,qNu]
  unfold its
  rw[List.map_append]
  cases qdx x sz<;>rfl
theorem qr0 (sz:qbQ.den):∀l:List qbi.den,(qcz sz l).length≤5*l.length
 |[]=>Nat.le_refl _
 |x::l=>by
  have ih:=qr0 sz l
  show((bif qdx x sz then[] else qqJ x)++qcz sz l).length≤_
  rw[List.length_append,List.length_cons]
  cases qdx x sz
  ·show 5+_≤_
   omega
  ·show 0+_≤_
   omega
def qf8 (sz:qbQ.den):List qbi.den→(Nat→Nat)→Nat→Nat
 |[],W=>W
 |x::l,W=>qf8 sz l (bif qdx x sz then W else qcb W (qkN x).toNat (wn x.2.2.1))
theorem quM {E:Env} (hs:SzOk E.o E.r E.n):∀(l:List qbi.den) (s:IS),∃ρ',qdK E (qcz ((0:Int),(E.o:Int),(E.r:Int),()) l) s=some (ρ',s.2.1,qf8 ((0:Int),(E.o:Int),(E.r:Int),()) l s.2.2)
 |[],s=>⟨s.1,rfl⟩
 |x::l,s=>by
  show ∃ρ',qdK E ((bif qdx x _ then[] else qqJ x)++qcz _ l) s=_
  rw[qpS]
  cases hb:qdx x ((0:Int),(E.o:Int),(E.r:Int),())
  ·obtain⟨a,a1,a2,a3⟩:=qMo hs x hb
   obtain⟨ρ1,e1⟩:=qM9 E x s a1 a2 a3
   rw[cond_false,e1]
   obtain⟨ρ2,e2⟩:=quM hs l (ρ1,s.2.1,qcb s.2.2 a (wn x.2.2.1))
   refine⟨ρ2,?_⟩
   show qdK E (qcz _ l) (ρ1,s.2.1,qcb s.2.2 a (wn x.2.2.1))=_
   rw[e2,qf8,hb,a1]
   rfl
  ·rw[cond_true]
   obtain⟨ρ2,e2⟩:=quM hs l s
   refine⟨ρ2,?_⟩
   show qdK E (qcz _ l) s=_
   rw[e2,qf8,hb]
   rfl
end Go.Av
end
section
namespace Go.Av
open Go
theorem qG6 (op rd imm:Int) (ho:op=3∨op=4) (hd:0≤rd∧rd≤12) (hi:0≤imm∧imm≤65535):opK (qp op rd 0 0 0 imm 0)=true:=by
 have e:∀b:Bool,b=true→(bw rd 0 12&&(true&&(true&&(true&&bw imm 0 65535))))=b→True:=fun _ _ _=>trivial
 have h1:bw rd 0 12=true:=by unfold bw;rw[Bool.and_eq_true];exact⟨decide_eq_true hd.1,decide_eq_true hd.2⟩
 have h2:bw imm 0 65535=true:=by unfold bw;rw[Bool.and_eq_true];exact⟨decide_eq_true hi.1,decide_eq_true hi.2⟩
 rcases ho with rfl |rfl
 ·show((!false&&(true&&(bw rd 0 12&&(true&&(true&&(true&&bw imm 0 65535))))))&&true)=true
  rw[h1,h2]
  rfl
 ·show((!false&&(true&&(bw rd 0 12&&(true&&(true&&(true&&bw imm 0 65535))))))&&true)=true
  rw[h1,h2]
  rfl
theorem qyZ (rd n:Int) (hd:0≤rd∧rd≤12):opK (qp 3 rd 0 0 0 (lo false n) 0)=true:=qG6 3 rd _ (.inl rfl) hd (qR0 n)
theorem qvw (rd n:Int) (hd:0≤rd∧rd≤12):opK (qp 4 rd 0 0 0 (hi false n) 0)=true:=qG6 4 rd _ (.inr rfl) hd (qRJ n)
theorem qt8 (sz:qbQ.den):∀(l:List qbi.den),∀i∈qcz sz l,opK i=true
 |[],_,h=>by cases h
 |x::l,i,h=>by
  have h:i∈(bif qdx x sz then[] else qqJ x)++qcz sz l:=h
  rcases List.mem_append.1 h with h |h
  ·cases hb:qdx x sz
   ·rw[hb,cond_false] at h
    simp only[qqJ,List.mem_cons,List.not_mem_nil,or_false] at h
    rcases h with rfl |rfl |rfl |rfl |rfl
    ·exact qyZ 7 _ (by omega)
    ·exact qvw 7 _ (by omega)
    ·exact qyZ 3 _ (by omega)
    ·exact qvw 3 _ (by omega)
    ·rfl
   ·rw[hb] at h;cases h
  ·exact qt8 sz l i h
theorem qss:∀(pre:List qA.den) (H:List qk.den),qd2 (its pre++H)=qd2 H
 |[],_=>rfl
 |_::pre,H=>qss pre H
theorem qDc {pre:List qA.den} {H:List qk.den} (hpre:∀i∈pre,opK i=true) (hH:H.all (jOk (qd2 H))=true) (hn:(qd2 H).Nodup) (hlen:pre.length+H.length≤21000):ItOk (its pre++H):=by
 refine⟨by rw[List.length_append];unfold its;rw[List.length_map];exact hlen,fun j hj=>?_,by rw[qss];exact hn⟩
 rw[qss]
 rcases List.mem_append.1 hj with h |h
 ·obtain⟨i,hi,rfl⟩:=List.mem_map.1 h
  have:=hpre i hi
  show(bif (0:Int)==0 then opK i else _)=true
  exact this
 ·exact List.all_eq_true.1 hH j h
theorem qvo (pre:List qA.den):∀j∈its pre,(j.1==(0:Int))=true:=fun j hj=>by
 obtain⟨i,_,rfl⟩:=List.mem_map.1 hj
 rfl
theorem qpZ {L:List Int} (n:Int) {a:Int} (h:L.contains (w64 (a+1))=true):(qyB false n a).all (jOk L)=true:=by
 show((true&&(true&&(opK (qp 3 2 0 0 0 (lo false n) 0)&&(opK (qp 4 2 0 0 0 (hi false n) 0)&&(true&&((true&&(true&&L.contains (w64 (a+1))))&&true)))))))=true
 rw[qyZ 2 n (by omega),qvw 2 n (by omega),h]
 rfl
theorem qp8 {L:List Int} {a:Int} (h:L.contains a=true):(qxw a).all (jOk L)=true:=by
 show((true&&(true&&(true&&((true&&(true&&L.contains a))&&(true&&true))))))=true
 rw[h]
 rfl
theorem qLD {L:List Int} {h:Int} (hh:L.contains h=true):(qIc h).all (jOk L)=true:=by
 show((true&&(true&&(true&&((true&&(true&&L.contains h))&&true)))))=true
 rw[hh]
 rfl
theorem qve {L:List Int} (base n a:Int) (h:L.contains (w64 (a+1))=true) (h':L.contains a=true):(qyt false base n a).all (jOk L)=true:=by
 unfold qyt
 rw[List.all_append,List.all_append,List.all_append,List.all_append,qpZ n h,qp8 h']
 show(((true&&(true&&true))&&(true&&(opK (qp 4 5 0 0 0 (hi false base) 0)&&(true&&true))))&&(true&&true)&&true)=true
 rw[qvw 5 base (by omega)]
 rfl
theorem quH {L:List Int} (base n a h:Int) (h1:L.contains (w64 (a+1))=true) (h2:L.contains a=true) (h3:L.contains h=true):(qxP false base n a h).all (jOk L)=true:=by
 unfold qxP
 rw[List.all_append,List.all_append,List.all_append,qpZ n h1,qp8 h2,qLD h3]
 show((true&&(true&&(opK (qp 4 5 0 0 0 (hi false base) 0)&&(true&&true))))&&true&&true)=true
 rw[qvw 5 base (by omega)]
 rfl
def qqY (o r:Nat) (tw:Bool):List qk.den:=qx4 false (lab false 1) ((0:Int),(o:Int),(r:Int),()) tw 0
theorem qQv (o r:Nat) (tw:Bool):qdA (((0:Int),(o:Int),(r:Int),()),tw,0,1)=qqY o r tw:=rfl
theorem qAA (o r:Nat) (tw:Bool):qd2 (qqY o r tw)=[0,1,2,3,4,5,6,7,8,9,10,11,12]:=by
 cases tw
 ·kernel_rfl
 ·kernel_rfl
theorem qNr (o r:Nat) (tw:Bool):(qqY o r tw).all (jOk (qd2 (qqY o r tw)))=true:=by
 rw[qAA]
 unfold qqY qx4
 rw[List.all_append,List.all_append,List.all_append,List.all_append,List.all_append,List.all_append,List.all_append,List.all_append,List.all_append,List.all_append,List.all_append,List.all_append,List.all_append,List.all_append,List.all_append]
 rw[qve _ _ _ (by kernel_rfl) (by kernel_rfl),qve _ _ _ (by kernel_rfl) (by kernel_rfl),qve _ _ _ (by kernel_rfl) (by kernel_rfl),quH _ _ _ _ (by kernel_rfl) (by kernel_rfl) (by kernel_rfl),quH _ _ _ _ (by kernel_rfl) (by kernel_rfl) (by kernel_rfl),quH _ _ _ _ (by kernel_rfl) (by kernel_rfl) (by kernel_rfl)]
 cases tw
 ·kernel_rfl
 ·kernel_rfl
def qN0 (o r:Nat) (tw:Bool):List PI:=qc2 (fun l=>qeL l (qqY o r tw)) (qqY o r tw)
def qqS (o r n:Nat) (tw:Bool):Env:=⟨qN0 o r tw,o,r,n,0⟩
structure WLoop (E:Env) (p:Nat) (base n:Int):Prop where
 i0:E.P[p]?=some (.op (qp 3 1 0 0 0 0 0))
 i1:E.P[p+1]?=some (.op (qp 3 2 0 0 0 (lo false n) 0))
 i2:E.P[p+2]?=some (.op (qp 4 2 0 0 0 (hi false n) 0))
 i3:E.P[p+3]?=some (.op (qp 23 0 1 2 0 0 0))
 i4:E.P[p+4]?=some (.br 25 2 (p+14))
 i5:E.P[p+5]?=some (.op (qp 3 0 0 0 0 0 0))
 i6:E.P[p+6]?=some (.op (qp 3 5 0 0 0 0 0))
 i7:E.P[p+7]?=some (.op (qp 4 5 0 0 0 (hi false base) 0))
 i8:E.P[p+8]?=some (.op (qp 18 5 1 0 16 0 0))
 i9:E.P[p+9]?=some (.op (qp 20 0 5 0 0 0 0))
 i10:E.P[p+10]?=some (.op (qp 3 3 0 0 0 4 0))
 i11:E.P[p+11]?=some (.op (qp 14 4 1 3 0 0 0))
 i12:E.P[p+12]?=some (.op (qp 5 1 0 4 0 0 0))
 i13:E.P[p+13]?=some (.br 24 0 (p+1))
 hb:E.h<p
structure LLoop (E:Env) (p:Nat) (base n:Int):Prop where
 i0:E.P[p]?=some (.op (qp 3 1 0 0 0 0 0))
 i1:E.P[p+1]?=some (.op (qp 3 2 0 0 0 (lo false n) 0))
 i2:E.P[p+2]?=some (.op (qp 4 2 0 0 0 (hi false n) 0))
 i3:E.P[p+3]?=some (.op (qp 23 0 1 2 0 0 0))
 i4:E.P[p+4]?=some (.br 25 2 (p+16))
 i5:E.P[p+5]?=some (.op (qp 3 5 0 0 0 0 0))
 i6:E.P[p+6]?=some (.op (qp 4 5 0 0 0 (hi false base) 0))
 i7:E.P[p+7]?=some (.op (qp 18 5 1 0 16 0 0))
 i8:E.P[p+8]?=some (.op (qp 19 0 5 0 0 0 0))
 i9:E.P[p+9]?=some (.op (qp 3 2 0 0 0 0 0))
 i10:E.P[p+10]?=some (.op (qp 23 0 0 2 0 0 0))
 i11:E.P[p+11]?=some (.br 25 1 E.h)
 i12:E.P[p+12]?=some (.op (qp 3 3 0 0 0 4 0))
 i13:E.P[p+13]?=some (.op (qp 14 4 1 3 0 0 0))
 i14:E.P[p+14]?=some (.op (qp 5 1 0 4 0 0 0))
 i15:E.P[p+15]?=some (.br 24 0 (p+1))
 hb:E.h<p
theorem qOX (o r n:Nat) (tw:Bool):WLoop (qqS o r n tw) 4 537001984 o:=⟨by kernel_rfl,by kernel_rfl,by kernel_rfl,by kernel_rfl,by kernel_rfl,by kernel_rfl,by kernel_rfl,by kernel_rfl,by kernel_rfl,by kernel_rfl,by kernel_rfl,by kernel_rfl,by kernel_rfl,by kernel_rfl,by show 0<4;omega⟩
theorem qON (o r n:Nat) (tw:Bool):WLoop (qqS o r n tw) 18 537133056 r:=⟨by kernel_rfl,by kernel_rfl,by kernel_rfl,by kernel_rfl,by kernel_rfl,by kernel_rfl,by kernel_rfl,by kernel_rfl,by kernel_rfl,by kernel_rfl,by kernel_rfl,by kernel_rfl,by kernel_rfl,by kernel_rfl,by show 0<18;omega⟩
theorem qOl (o r n:Nat) (tw:Bool):WLoop (qqS o r n tw) 32 537395200 r:=⟨by kernel_rfl,by kernel_rfl,by kernel_rfl,by kernel_rfl,by kernel_rfl,by kernel_rfl,by kernel_rfl,by kernel_rfl,by kernel_rfl,by kernel_rfl,by kernel_rfl,by kernel_rfl,by kernel_rfl,by kernel_rfl,by show 0<32;omega⟩
theorem qPg (o r n:Nat) (tw:Bool):LLoop (qqS o r n tw) 46 537001984 o:=⟨by kernel_rfl,by kernel_rfl,by kernel_rfl,by kernel_rfl,by kernel_rfl,by kernel_rfl,by kernel_rfl,by kernel_rfl,by kernel_rfl,by kernel_rfl,by kernel_rfl,by kernel_rfl,by kernel_rfl,by kernel_rfl,by kernel_rfl,by kernel_rfl,by show 0<46;omega⟩
theorem qOv (o r n:Nat) (tw:Bool):LLoop (qqS o r n tw) 62 537133056 r:=⟨by kernel_rfl,by kernel_rfl,by kernel_rfl,by kernel_rfl,by kernel_rfl,by kernel_rfl,by kernel_rfl,by kernel_rfl,by kernel_rfl,by kernel_rfl,by kernel_rfl,by kernel_rfl,by kernel_rfl,by kernel_rfl,by kernel_rfl,by kernel_rfl,by show 0<62;omega⟩
theorem qPi (o r n:Nat) (tw:Bool):LLoop (qqS o r n tw) 78 537395200 r:=⟨by kernel_rfl,by kernel_rfl,by kernel_rfl,by kernel_rfl,by kernel_rfl,by kernel_rfl,by kernel_rfl,by kernel_rfl,by kernel_rfl,by kernel_rfl,by kernel_rfl,by kernel_rfl,by kernel_rfl,by kernel_rfl,by kernel_rfl,by kernel_rfl,by show 0<78;omega⟩
end Go.Av
end
section
namespace Go.Av
open Go
theorem qCU (E:Env) (rd imm:Int) (s:IS):qjb E (qp 3 rd 0 0 0 imm 0) s=some (qn s.1 rd (wn imm),s.2):=rfl
theorem qQf (E:Env) (rd imm:Int) (s:IS) (hd:s.1 rd<4294967296):qjb E (qp 4 rd 0 0 0 imm 0) s=some (qn s.1 rd (wn imm % 65536*65536+s.1 rd % 65536),s.2) :=
 congrArg (fun q:IO3=>some q.2.2) (qGS E 0 rd imm s hd)
theorem qRq (E:Env) (rd rn:Int) (s:IS) (hd:s.1 rd<4294967296) (hn:s.1 rn<4294967296):qjb E (qp 18 rd rn 0 16 0 0) s=some (qn s.1 rd (s.1 rd / 65536*65536+s.1 rn % 65536),s.2) :=
 congrArg (fun q:IO3=>some q.2.2) (qPV E 0 rd rn s hd hn)
theorem qN3 (E:Env) (rd rn rm:Int) (s:IS) (h:s.1 rn+s.1 rm<4294967296):qjb E (qp 14 rd rn rm 0 0 0) s=some (qn s.1 rd (s.1 rn+s.1 rm),s.2) :=
 congrArg (fun q:IO3=>some q.2.2) (qPW E 0 rd rn rm s h)
theorem qRU (E:Env) (rd rm:Int) (s:IS) (h:s.1 rm<4294967296):qjb E (qp 5 rd 0 rm 0 0 0) s=some (qn s.1 rd (s.1 rm),s.2) :=
 congrArg (fun q:IO3=>some q.2.2) (qQ7 E 0 rd rm s h)
theorem qRH (E:Env) (rn rm:Int) (s:IS):qjb E (qp 23 0 rn rm 0 0 0) s=some (s.1,qbk (s.1 rn) (s.1 rm),s.2.2):=rfl
theorem qhd {E:Env} {i:qA.den} {l:List qA.den} {s s1:IS} (h:qjb E i s=some s1):qdK E (i::l) s=qdK E l s1:=by
 show(qjb E i s).bind (qdK E l)=_
 rw[h]
 rfl
theorem qlc {E:Env} {j:Nat} {s s':IS} (l:List qA.den) (hP:∀i,i<l.length→E.P[j+i]?=(l[i]?).map .op) (hh:E.h<j) (h:qdK E l s=some s'):GoTo E l.length 0 j s (j+l.length) s' :=
 qi1 l j s s' hP (fun i _=>by omega) h
theorem qM0 {x y:Nat} (hx:x % 65536=0) (hy:y<65536):x / 65536*65536+y % 65536=x+y:=by
 rw[Nat.mod_eq_of_lt hy,Nat.div_mul_cancel (Nat.dvd_of_mod_eq_zero hx)]
theorem qlg (E:Env) (rd rn:Int) (base:Int) (s:IS) (hne:rn≠rd) (hn:s.1 rn<65536) (hb:wn base % 65536=0) :
  ∃ρ',qdK E [qp 3 rd 0 0 0 0 0,qp 4 rd 0 0 0 (hi false base) 0,qp 18 rd rn 0 16 0 0] s=some (ρ',s.2)∧ρ' rd=wn base+s.1 rn∧∀k,k≠rd→ρ' k=s.1 k:=by
 have hl:=qga base
 have h0:wn 0=0:=rfl
 refine⟨qn (qn (qn s.1 rd 0) rd (wn base)) rd (wn base+s.1 rn),?_,qbL _ _ _,fun k hk=>by rw[qba _ _ hk,qba _ _ hk,qba _ _ hk]⟩
 rw[qhd (qCU E rd 0 s),h0]
 have e1:=qQf E rd (hi false base) (qn s.1 rd 0,s.2) (by
  show qn s.1 rd 0 rd<_
  rw[qbL]
  omega)
 have v1:wn (hi false base) % 65536*65536+(qn s.1 rd 0) rd % 65536=wn base:=by
  rw[qbL,qKp]
  generalize wn base=x at *
  omega
 rw[show((qn s.1 rd 0,s.2):IS).1=qn s.1 rd 0 from rfl,v1] at e1
 rw[qhd e1]
 have e2:=qRq E rd rn (qn (qn s.1 rd 0) rd (wn base),s.2) (by
  show qn (qn s.1 rd 0) rd (wn base) rd<_
  rw[qbL]
  exact hl) (by
  show qn (qn s.1 rd 0) rd (wn base) rn<_
  rw[qba _ _ hne,qba _ _ hne]
  omega)
 have v2:(qn (qn s.1 rd 0) rd (wn base)) rd / 65536*65536+(qn (qn s.1 rd 0) rd (wn base)) rn % 65536=wn base+s.1 rn:=by
  have a1:(qn (qn s.1 rd 0) rd (wn base)) rd=wn base:=qbL _ _ _
  have a2:(qn (qn s.1 rd 0) rd (wn base)) rn=s.1 rn:=(qba _ _ hne).trans (qba _ _ hne)
  rw[a1,a2]
  exact qM0 hb hn
 rw[show((qn (qn s.1 rd 0) rd (wn base),s.2):IS).1=qn (qn s.1 rd 0) rd (wn base) from rfl,v2] at e2
 rw[qhd e2]
 rfl
theorem qsu (E:Env) (s:IS) (h:s.1 1<65536):∃ρ',qdK E [qp 3 3 0 0 0 4 0,qp 14 4 1 3 0 0 0,qp 5 1 0 4 0 0 0] s=some (ρ',s.2)∧ρ' 1=s.1 1+4:=by
 have h4:wn 4=4:=rfl
 refine⟨qn (qn (qn s.1 3 4) 4 (s.1 1+4)) 1 (s.1 1+4),?_,qbL _ _ _⟩
 rw[qhd (qCU E 3 4 s),h4]
 have g1:(qn s.1 3 4) 1=s.1 1:=qba _ _ (by decide)
 have g2:(qn s.1 3 4) 3=4:=qbL _ _ _
 have e1:=qN3 E 4 1 3 (qn s.1 3 4,s.2) (by
  show(qn s.1 3 4) 1+(qn s.1 3 4) 3<_
  rw[g1,g2]
  omega)
 rw[show((qn s.1 3 4,s.2):IS).1=qn s.1 3 4 from rfl,g1,g2] at e1
 rw[qhd e1]
 have g3:(qn (qn s.1 3 4) 4 (s.1 1+4)) 4=s.1 1+4:=qbL _ _ _
 have e2:=qRU E 1 4 (qn (qn s.1 3 4) 4 (s.1 1+4),s.2) (by
  show(qn (qn s.1 3 4) 4 (s.1 1+4)) 4<_
  rw[g3]
  omega)
 rw[show((qn (qn s.1 3 4) 4 (s.1 1+4),s.2):IS).1=qn (qn s.1 3 4) 4 (s.1 1+4) from rfl,g3] at e2
 rw[qhd e2]
 rfl
theorem qjI (E:Env) (n:Int) (s:IS):∃ρ',qdK E [qp 3 2 0 0 0 (lo false n) 0,qp 4 2 0 0 0 (hi false n) 0,qp 23 0 1 2 0 0 0] s=some (ρ',qbk (s.1 1) (wn n),s.2.2)∧∀k,k≠2→ρ' k=s.1 k:=by
 obtain⟨ρ',e,v,k⟩:=qlY E 2 n s
 refine⟨ρ',?_,k⟩
 have:[qp 3 2 0 0 0 (lo false n) 0,qp 4 2 0 0 0 (hi false n) 0,qp 23 0 1 2 0 0 0]=[qp 3 2 0 0 0 (lo false n) 0,qp 4 2 0 0 0 (hi false n) 0]++[qp 23 0 1 2 0 0 0]:=rfl
 rw[this,qpS,e]
 show qdK E [qp 23 0 1 2 0 0 0] (ρ',s.2)=_
 rw[qhd (qRH E 1 2 (ρ',s.2))]
 show some (ρ',qbk (ρ' 1) (ρ' 2),s.2.2)=_
 rw[v,k 1 (by decide)]
theorem qdo {E:Env} {j:Nat} {a b c:qA.den} (h0:E.P[j]?=some (.op a)) (h1:E.P[j+1]?=some (.op b)) (h2:E.P[j+2]?=some (.op c)):∀i,i < [a,b,c].length→E.P[j+i]?=([a,b,c][i]?).map .op:=by
 intro i hi
 have hi:i<3:=hi
 have:i=0∨i=1∨i=2:=by omega
 rcases this with rfl |rfl |rfl
 ·exact h0
 ·exact h1
 ·exact h2
section
variable {E:Env} {p:Nat} {base n:Int}
theorem qOJ (h:WLoop E p base n) (s:IS) (hv:wn n≤s.1 1):∃s',GoTo E 4 0 (p+1) s (p+14) s'∧s'.2.2=s.2.2:=by
 obtain⟨ρ1,e1,_⟩:=qjI E n s
 have hb:=h.hb
 have g1:=qlc [qp 3 2 0 0 0 (lo false n) 0,qp 4 2 0 0 0 (hi false n) 0,qp 23 0 1 2 0 0 0] (qdo h.i1 h.i2 h.i3) (by omega) e1
 have g2:GoTo E 1 0 (p+4) (ρ1,qbk (s.1 1) (wn n),s.2.2) (p+14) (ρ1,qbk (s.1 1) (wn n),s.2.2):=by
  refine qS ?_ (by omega) (GoTo.refl _ _ _)
  rw[qgS h.i4]
  show(bif qbV (qbk (s.1 1) (wn n)) 25 2 then _ else _)=_
  rw[qk1,decide_eq_true hv]
  rfl
 exact⟨_,g1.trans g2,rfl⟩
theorem qPI (h:WLoop E p base n) (s:IS) (hv:s.1 1<wn n) (hn:wn n≤65536) (hb:wn base % 65536=0) :
  (E.okW (wn base+s.1 1)=true→∃s',GoTo E 13 0 (p+1) s (p+1) s'∧s'.1 1=s.1 1+4∧s'.2.2=qcb s.2.2 (wn base+s.1 1) 0) ∧
  (E.okW (wn base+s.1 1)=false→∃s',GoTo E 9 0 (p+1) s E.h s'):=by
 have hh:=h.hb
 obtain⟨ρ1,e1,k1⟩:=qjI E n s
 have g1:=qlc [qp 3 2 0 0 0 (lo false n) 0,qp 4 2 0 0 0 (hi false n) 0,qp 23 0 1 2 0 0 0] (qdo h.i1 h.i2 h.i3) (by omega) e1
 have g2:GoTo E 1 0 (p+4) (ρ1,qbk (s.1 1) (wn n),s.2.2) (p+5) (ρ1,qbk (s.1 1) (wn n),s.2.2):=by
  refine qS ?_ (by omega) (GoTo.refl _ _ _)
  rw[qgS h.i4]
  show(bif qbV (qbk (s.1 1) (wn n)) 25 2 then _ else _)=_
  rw[qk1,decide_eq_false (by omega)]
  rfl
 have g3:GoTo E 1 0 (p+5) (ρ1,qbk (s.1 1) (wn n),s.2.2) (p+6) (qn ρ1 0 0,qbk (s.1 1) (wn n),s.2.2):=by
  refine qS ?_ (by omega) (GoTo.refl _ _ _)
  rw[qbj h.i5]
  rfl
 have v1:(qn ρ1 0 0) 1=s.1 1:=by rw[qba _ _ (by decide),k1 1 (by decide)]
 obtain⟨ρ2,e2,w2,k2⟩:=qlg E 5 1 base (qn ρ1 0 0,qbk (s.1 1) (wn n),s.2.2) (by decide) (by
  show(qn ρ1 0 0) 1<_
  rw[v1]
  omega) hb
 rw[show((qn ρ1 0 0,qbk (s.1 1) (wn n),s.2.2):IS).1 1=s.1 1 from v1] at w2
 have g4:=qlc (j:=p+6) [qp 3 5 0 0 0 0 0,qp 4 5 0 0 0 (hi false base) 0,qp 18 5 1 0 16 0 0] (qdo h.i6 h.i7 h.i8) (by omega) e2
 have r0:ρ2 0=0:=by
  rw[k2 0 (by decide)]
  show(qn ρ1 0 0) 0=0
  exact qbL _ _ _
 have r1:ρ2 1=s.1 1:=by rw[k2 1 (by decide)];exact v1
 have g:=((g1.trans g2).trans g3).trans g4
 constructor
 ·intro hw
  have g5:GoTo E 1 0 (p+9) (ρ2,qbk (s.1 1) (wn n),s.2.2) (p+10) (ρ2,qbk (s.1 1) (wn n),qcb s.2.2 (wn base+s.1 1) 0):=by
   refine qS ?_ (by omega) (GoTo.refl _ _ _)
   rw[qbj h.i9,qls]
   show(bif E.okW (ρ2 5) then(false,p+9+1,ρ2,qbk (s.1 1) (wn n),qcb s.2.2 (ρ2 5) (ρ2 0)) else _)=_
   rw[w2,hw,r0]
   rfl
  obtain⟨ρ3,e3,w3⟩:=qsu E (ρ2,qbk (s.1 1) (wn n),qcb s.2.2 (wn base+s.1 1) 0) (by show ρ2 1<_;omega)
  have g6:=qlc (j:=p+10) [qp 3 3 0 0 0 4 0,qp 14 4 1 3 0 0 0,qp 5 1 0 4 0 0 0] (qdo h.i10 h.i11 h.i12) (by omega) e3
  have g7:GoTo E 1 0 (p+13) (ρ3,qbk (s.1 1) (wn n),qcb s.2.2 (wn base+s.1 1) 0) (p+1) (ρ3,qbk (s.1 1) (wn n),qcb s.2.2 (wn base+s.1 1) 0) :=
   qS (qya h.i13 _) (by omega) (GoTo.refl _ _ _)
  exact⟨_,((g.trans g5).trans g6).trans g7,by show ρ3 1=_;rw[w3];show ρ2 1+4=_;rw[r1],rfl⟩
 ·intro hw
  have g5:GoTo E 1 0 (p+9) (ρ2,qbk (s.1 1) (wn n),s.2.2) E.h (ρ2,qbk (s.1 1) (wn n),s.2.2):=by
   refine qS ?_ (by omega) (GoTo.refl _ _ _)
   rw[qbj h.i9,qls]
   show(bif E.okW (ρ2 5) then _ else(false,E.h,ρ2,qbk (s.1 1) (wn n),s.2.2))=_
   rw[w2,hw]
   rfl
  exact⟨_,g.trans g5⟩
theorem qyV (h:WLoop E p base n) {B M:Nat} (hB:wn base=B) (hM:wn n=4*M) (hn:4*M≤65536) (hb:B % 65536=0) (hok:∀t,t<M→E.okW (B+4*t)=true):∀(d i:Nat) (s:IS),i+d=M→s.1 1=4*i →
  ∃s',GoTo E (13*d+4) 0 (p+1) s (p+14) s'∧(∀t,i≤t→t<M→s'.2.2 (B+4*t)=0)∧∀a,(∀t,i≤t→t<M→a≠B+4*t)→s'.2.2 a=s.2.2 a
 |0,i,s,hd,hi=>by
  obtain⟨s',g,e⟩:=qOJ h s (by omega)
  exact⟨s',g,fun t h1 h2=>by omega,fun a _=>by rw[e]⟩
 |d+1,i,s,hd,hi=>by
  obtain⟨t1,_⟩:=qPI h s (by omega) (by omega) (by omega)
  have ha:wn base+s.1 1=B+4*i:=by omega
  obtain⟨s1,g1,v1,w1⟩:=t1 (by rw[ha];exact hok i (by omega))
  obtain⟨s2,g2,z2,k2⟩:=qyV h hB hM hn hb hok d (i+1) s1 (by omega) (by omega)
  rw[ha] at w1
  refine⟨s2,?_,fun t h1 h2=>?_,fun a ha'=>?_⟩
  ·have:=g1.trans g2
   rw[show 13+(13*d+4)=13*(d+1)+4 by omega] at this
   exact this
  ·rcases Nat.lt_or_ge i t with h3 |h3
   ·exact z2 t h3 h2
   ·have:t=i:=by omega
    subst this
    rw[k2 _ (fun t' h4 _=>by omega),w1,qlb]
  ·rw[k2 a (fun t h4 h5=>ha' t (by omega) h5),w1,qcR _ _ (ha' i (Nat.le_refl _) (by omega))]
end
end Go.Av
end
section
namespace Go.Av
open Go
section
variable {E:Env} {p:Nat} {base n:Int}
theorem qOC (h:LLoop E p base n) (s:IS) (hv:wn n≤s.1 1):∃s',GoTo E 4 0 (p+1) s (p+16) s'∧s'.2.2=s.2.2:=by
 obtain⟨ρ1,e1,_⟩:=qjI E n s
 have hb:=h.hb
 have g1:=qlc [qp 3 2 0 0 0 (lo false n) 0,qp 4 2 0 0 0 (hi false n) 0,qp 23 0 1 2 0 0 0] (qdo h.i1 h.i2 h.i3) (by omega) e1
 have g2:GoTo E 1 0 (p+4) (ρ1,qbk (s.1 1) (wn n),s.2.2) (p+16) (ρ1,qbk (s.1 1) (wn n),s.2.2):=by
  refine qS ?_ (by omega) (GoTo.refl _ _ _)
  rw[qgS h.i4]
  show(bif qbV (qbk (s.1 1) (wn n)) 25 2 then _ else _)=_
  rw[qk1,decide_eq_true hv]
  rfl
 exact⟨_,g1.trans g2,rfl⟩
theorem qOr (h:LLoop E p base n) (s:IS) (hv:s.1 1<wn n) (hn:wn n≤65536) (hb:wn base % 65536=0) :
  (E.okR (wn base+s.1 1)=true→s.2.2 (wn base+s.1 1)=0→∃s',GoTo E 15 0 (p+1) s (p+1) s'∧s'.1 1=s.1 1+4∧s'.2.2=s.2.2) ∧
  (E.okR (wn base+s.1 1)=false∨s.2.2 (wn base+s.1 1)≠0→∃k s',k≤11∧GoTo E k 0 (p+1) s E.h s'∧s'.2.2=s.2.2):=by
 have hh:=h.hb
 obtain⟨ρ1,e1,k1⟩:=qjI E n s
 have g1:=qlc [qp 3 2 0 0 0 (lo false n) 0,qp 4 2 0 0 0 (hi false n) 0,qp 23 0 1 2 0 0 0] (qdo h.i1 h.i2 h.i3) (by omega) e1
 have g2:GoTo E 1 0 (p+4) (ρ1,qbk (s.1 1) (wn n),s.2.2) (p+5) (ρ1,qbk (s.1 1) (wn n),s.2.2):=by
  refine qS ?_ (by omega) (GoTo.refl _ _ _)
  rw[qgS h.i4]
  show(bif qbV (qbk (s.1 1) (wn n)) 25 2 then _ else _)=_
  rw[qk1,decide_eq_false (by omega)]
  rfl
 have v1:ρ1 1=s.1 1:=k1 1 (by decide)
 obtain⟨ρ2,e2,w2,k2⟩:=qlg E 5 1 base (ρ1,qbk (s.1 1) (wn n),s.2.2) (by decide) (by
  show ρ1 1<_
  rw[v1]
  omega) hb
 rw[show((ρ1,qbk (s.1 1) (wn n),s.2.2):IS).1 1=s.1 1 from v1] at w2
 have g4:=qlc (j:=p+5) [qp 3 5 0 0 0 0 0,qp 4 5 0 0 0 (hi false base) 0,qp 18 5 1 0 16 0 0] (qdo h.i5 h.i6 h.i7) (by omega) e2
 have r1:ρ2 1=s.1 1:=by rw[k2 1 (by decide)];exact v1
 have g:=(g1.trans g2).trans g4
 have ld:E.okR (wn base+s.1 1)=true→GoTo E 1 0 (p+8) (ρ2,qbk (s.1 1) (wn n),s.2.2) (p+9) (qn ρ2 0 (s.2.2 (wn base+s.1 1)),qbk (s.1 1) (wn n),s.2.2):=fun hw=>by
  refine qS ?_ (by omega) (GoTo.refl _ _ _)
  rw[qbj h.i8,qoo]
  show(bif E.okR (ρ2 5) then(false,p+8+1,qn ρ2 0 (s.2.2 (ρ2 5)),qbk (s.1 1) (wn n),s.2.2) else _)=_
  rw[w2,hw]
  rfl
 have cmp:∀x:Nat,GoTo E 2 0 (p+9) (qn ρ2 0 x,qbk (s.1 1) (wn n),s.2.2) (p+11) (qn (qn ρ2 0 x) 2 0,qbk x 0,s.2.2):=fun x=>by
  have a0:(qn (qn ρ2 0 x) 2 0) 0=x:=(qba _ _ (by decide)).trans (qbL _ _ _)
  have a2:(qn (qn ρ2 0 x) 2 0) 2=0:=qbL _ _ _
  refine qS (j1:=p+10) (s1:=(qn (qn ρ2 0 x) 2 0,qbk (s.1 1) (wn n),s.2.2)) ?_ (by omega) (qS ?_ (by omega) (GoTo.refl _ _ _))
  ·rw[qbj h.i9]
   rfl
  ·rw[qbj h.i10,qDK]
   show(false,p+10+1,qn (qn ρ2 0 x) 2 0,qbk ((qn (qn ρ2 0 x) 2 0) 0) ((qn (qn ρ2 0 x) 2 0) 2),s.2.2)=_
   rw[a0,a2]
 constructor
 ·intro hw hz
  have g5:=ld hw
  rw[hz] at g5
  have g6:=cmp 0
  have g7:GoTo E 1 0 (p+11) (qn (qn ρ2 0 0) 2 0,qbk 0 0,s.2.2) (p+12) (qn (qn ρ2 0 0) 2 0,qbk 0 0,s.2.2):=by
   refine qS ?_ (by omega) (GoTo.refl _ _ _)
   rw[qgS h.i11]
   show(bif qbV (qbk 0 0) 25 1 then _ else _)=_
   rw[qrG]
   rfl
  have b1:(qn (qn ρ2 0 0) 2 0) 1=s.1 1:=((qba _ _ (by decide)).trans (qba _ _ (by decide))).trans r1
  obtain⟨ρ3,e3,w3⟩:=qsu E (qn (qn ρ2 0 0) 2 0,qbk 0 0,s.2.2) (by
   show(qn (qn ρ2 0 0) 2 0) 1<_
   rw[b1]
   omega)
  have g8:=qlc (j:=p+12) [qp 3 3 0 0 0 4 0,qp 14 4 1 3 0 0 0,qp 5 1 0 4 0 0 0] (qdo h.i12 h.i13 h.i14) (by omega) e3
  have g9:GoTo E 1 0 (p+15) (ρ3,qbk 0 0,s.2.2) (p+1) (ρ3,qbk 0 0,s.2.2):=qS (qya h.i15 _) (by omega) (GoTo.refl _ _ _)
  exact⟨_,((((g.trans g5).trans g6).trans g7).trans g8).trans g9,by
   show ρ3 1=_
   rw[w3]
   show(qn (qn ρ2 0 0) 2 0) 1+4=_
   rw[b1],rfl⟩
 ·intro hor
  cases hw:E.okR (wn base+s.1 1)
  ·have g5:GoTo E 1 0 (p+8) (ρ2,qbk (s.1 1) (wn n),s.2.2) E.h (ρ2,qbk (s.1 1) (wn n),s.2.2):=by
    refine qS ?_ (by omega) (GoTo.refl _ _ _)
    rw[qbj h.i8,qoo]
    show(bif E.okR (ρ2 5) then _ else(false,E.h,ρ2,qbk (s.1 1) (wn n),s.2.2))=_
    rw[w2,hw]
    rfl
   exact⟨8,_,by omega,g.trans g5,rfl⟩
  ·have hnz:s.2.2 (wn base+s.1 1)≠0:=by
    rcases hor with h' |h'
    ·rw[hw] at h';cases h'
    ·exact h'
   have g5:=ld hw
   generalize s.2.2 (wn base+s.1 1)=x at *
   have g6:=cmp x
   have g7:GoTo E 1 0 (p+11) (qn (qn ρ2 0 x) 2 0,qbk x 0,s.2.2) E.h (qn (qn ρ2 0 x) 2 0,qbk x 0,s.2.2):=by
    refine qS ?_ (by omega) (GoTo.refl _ _ _)
    rw[qgS h.i11]
    show(bif qbV (qbk x 0) 25 1 then _ else _)=_
    rw[qrG,show(x != 0)=true from bne_iff_ne.2 hnz]
    rfl
   exact⟨11,_,by omega,((g.trans g5).trans g6).trans g7,rfl⟩
theorem quJ (h:LLoop E p base n) {B M:Nat} (hB:wn base=B) (hM:wn n=4*M) (hn:4*M≤65536) (hb:B % 65536=0) (hok:∀t,t<M→E.okR (B+4*t)=true):∀(d i:Nat) (s:IS),i+d=M→s.1 1=4*i →
  ((∀t,i≤t→t<M→s.2.2 (B+4*t)=0)→∃s',GoTo E (15*d+4) 0 (p+1) s (p+16) s'∧s'.2.2=s.2.2) ∧
  ((∃t,i≤t∧t<M∧s.2.2 (B+4*t)≠0)→∃k s',k≤15*d∧GoTo E k 0 (p+1) s E.h s'∧s'.2.2=s.2.2)
 |0,i,s,hd,hi=>by
  refine⟨fun _=>?_,fun⟨t,h1,h2,_⟩=>by omega⟩
  exact qOC h s (by omega)
 |d+1,i,s,hd,hi=>by
  obtain⟨t1,t2⟩:=qOr h s (by omega) (by omega) (by omega)
  have ha:wn base+s.1 1=B+4*i:=by omega
  rw[ha] at t1 t2
  have hoi:=hok i (by omega)
  constructor
  ·intro hz
   obtain⟨s1,g1,v1,w1⟩:=t1 hoi (hz i (Nat.le_refl _) (by omega))
   obtain⟨f1,_⟩:=quJ h hB hM hn hb hok d (i+1) s1 (by omega) (by omega)
   obtain⟨s2,g2,w2⟩:=f1 (fun t h1 h2=>by rw[w1];exact hz t (by omega) h2)
   refine⟨s2,?_,by rw[w2,w1]⟩
   have:=g1.trans g2
   rw[show 15+(15*d+4)=15*(d+1)+4 by omega] at this
   exact this
  ·rintro⟨t,h1,h2,h3⟩
   by_cases hz:s.2.2 (B+4*i)=0
   ·obtain⟨s1,g1,v1,w1⟩:=t1 hoi hz
    obtain⟨_,f2⟩:=quJ h hB hM hn hb hok d (i+1) s1 (by omega) (by omega)
    have hti:t≠i:=fun e=>h3 (by rw[e];exact hz)
    obtain⟨k,s2,k1,g2,w2⟩:=f2 ⟨t,by omega,h2,by rw[w1];exact h3⟩
    exact⟨15+k,s2,by omega,by simpa using g1.trans g2,by rw[w2,w1]⟩
   ·obtain⟨k,s1,k1,g1,w1⟩:=t2 (.inr hz)
    exact⟨k,s1,by omega,g1,w1⟩
end
end Go.Av
end
section
namespace Go.Av
open Go
structure HandAt (E:Env) (mo mr:Nat):Prop where
 so:E.o=4*mo
 sr:E.r=4*mr
 sz:SzOk E.o E.r E.n
 b0:E.P[E.h]?=some (.op (qp 3 0 0 0 0 0 0))
 b1:E.P[E.h+1]?=some (.op (qp 3 5 0 0 0 (lo false 537919488) 0))
 b2:E.P[E.h+2]?=some (.op (qp 4 5 0 0 0 (hi false 537919488) 0))
 b3:E.P[E.h+3]?=some (.op (qp 20 0 5 0 0 0 0))
 w0:WLoop E (E.h+4) 537001984 (E.o:Int)
 w1:WLoop E (E.h+18) 537133056 (E.r:Int)
 w2:WLoop E (E.h+32) 537395200 (E.r:Int)
 l0:LLoop E (E.h+46) 537001984 (E.o:Int)
 l1:LLoop E (E.h+62) 537133056 (E.r:Int)
 l2:LLoop E (E.h+78) 537395200 (E.r:Int)
 e0:E.P[E.h+94]?=some (.op (qp 3 5 0 0 0 (lo false 537919488) 0))
 e1:E.P[E.h+95]?=some (.op (qp 4 5 0 0 0 (hi false 537919488) 0))
 e2:E.P[E.h+96]?=some (.op (qp 19 0 5 0 0 0 0))
 e3:E.P[E.h+97]?=some (.op (qp 3 2 0 0 0 0 0))
 e4:E.P[E.h+98]?=some (.op (qp 23 0 0 2 0 0 0))
 e5:E.P[E.h+99]?=some (.br 25 1 E.h)
 e6:E.P[E.h+100]?=some (.op (qp 3 5 0 0 0 (lo false 538968064) 0))
 e7:E.P[E.h+101]?=some (.op (qp 4 5 0 0 0 (hi false 538968064) 0))
 e8:E.P[E.h+102]?=some (.op (qp 3 0 0 0 0 (lo false 195890093) 0))
 e9:E.P[E.h+103]?=some (.op (qp 4 0 0 0 0 (hi false 195890093) 0))
 e10:E.P[E.h+104]?=some (.op (qp 20 0 5 0 0 0 0))
 e11:E.P[E.h+105]?=some (.op (qp 2 0 0 0 0 0 0))
theorem qOo (mo mr n:Nat) (tw:Bool) (hs:SzOk (4*mo) (4*mr) n):HandAt (qqS (4*mo) (4*mr) n tw) mo mr :=
 ⟨rfl,rfl,hs,by kernel_rfl,by kernel_rfl,by kernel_rfl,by kernel_rfl,qOX _ _ _ _,qON _ _ _ _,qOl _ _ _ _,qPg _ _ _ _,qOv _ _ _ _,qPi _ _ _ _,
  by kernel_rfl,by kernel_rfl,by kernel_rfl,by kernel_rfl,by kernel_rfl,by kernel_rfl,by kernel_rfl,by kernel_rfl,by kernel_rfl,by kernel_rfl,by kernel_rfl,by kernel_rfl⟩
structure Wp (mo mr:Nat) (W:Nat→Nat):Prop where
 out:∀t,t<mo→W (537001984+4*t)=0
 a:∀t,t<mr→W (537133056+4*t)=0
 b:∀t,t<mr→W (537395200+4*t)=0
 commit:W 537919488=0
section
variable {E:Env} {mo mr:Nat} (H:HandAt E mo mr)
include H
theorem qxO {t:Nat} (ht:t<mo):E.okW (537001984+4*t)=true∧E.okR (537001984+4*t)=true:=by
 have so:=H.so
 obtain⟨a,b⟩:=qw8 H.sz t (by omega)
 unfold Env.okW Env.okR
 rw[a,b]
 exact⟨rfl,rfl⟩
theorem h_a {t:Nat} (ht:t<mr):E.okW (537133056+4*t)=true∧E.okR (537133056+4*t)=true:=by
 have sr:=H.sr
 obtain⟨a,b⟩:=qxH H.sz t (by omega)
 unfold Env.okW Env.okR
 rw[a,b]
 exact⟨rfl,rfl⟩
theorem h_b {t:Nat} (ht:t<mr):E.okW (537395200+4*t)=true∧E.okR (537395200+4*t)=true:=by
 have sr:=H.sr
 obtain⟨a,b⟩:=qyD H.sz t (by omega)
 unfold Env.okW Env.okR
 rw[a,b]
 exact⟨rfl,rfl⟩
theorem qpf:E.okW 537919488=true∧E.okR 537919488=true:=by
 obtain⟨a,b⟩:=qsF H.sz
 unfold Env.okW Env.okR
 rw[a,b]
 exact⟨rfl,rfl⟩
theorem qMT:E.okW 538968064=true:=by
 obtain⟨a,_⟩:=qwG H.sz
 unfold Env.okW
 rw[a]
 rfl
theorem h_n:wn (E.o:Int)=4*mo∧wn (E.r:Int)=4*mr∧4*mo≤65536∧4*mr≤65536:=by
 have so:=H.so
 have sr:=H.sr
 have h1:=H.sz.out
 have h2:=H.sz.rail
 refine⟨?_,?_,by omega,by omega⟩
 ·rw[qc1 (show E.o<4294967296 by omega)];exact so
 ·rw[qc1 (show E.r<4294967296 by omega)];exact sr
theorem qOz (s:IS):∃s',GoTo E 4 1 E.h s (E.h+4) s'∧s'.2.2=qcb s.2.2 537919488 0:=by
 have g0:=qKT (E:=E) (j:=E.h) (s:=s) (show qN E false E.h s=(false,E.h+1,qn s.1 0 0,s.2) by rw[qbj H.b0];rfl)
 rw[beq_self_eq_true] at g0
 obtain⟨ρ1,e1,v1,k1⟩:=qlY E 5 537919488 (qn s.1 0 0,s.2)
 have g1:=qi1 (j:=E.h+1) [qp 3 5 0 0 0 (lo false 537919488) 0,qp 4 5 0 0 0 (hi false 537919488) 0] _ _ (fun i hi=>by
  have hi:i<2:=hi
  have:i=0∨i=1:=by omega
  rcases this with rfl |rfl
  ·exact H.b1
  ·exact H.b2) (fun i _=>by omega) e1
 have r0:ρ1 0=0:=(k1 0 (by decide)).trans (show(qn s.1 0 0) 0=0 from qbL _ _ _)
 have r5:ρ1 5=537919488:=v1
 have g2:GoTo E 1 0 (E.h+3) (ρ1,s.2) (E.h+4) (ρ1,s.2.1,qcb s.2.2 537919488 0):=by
  refine qS ?_ (by omega) (GoTo.refl _ _ _)
  rw[qbj H.b3,qls]
  show(bif E.okW (ρ1 5) then(false,E.h+3+1,ρ1,s.2.1,qcb s.2.2 (ρ1 5) (ρ1 0)) else _)=_
  rw[r5,(qpf H).1,r0]
  rfl
 exact⟨_,(g0.trans g1).trans g2,rfl⟩
omit H in
theorem qhl {p:Nat} (h0:E.P[p]?=some (.op (qp 3 1 0 0 0 0 0))) (hb:E.h<p) (s:IS):GoTo E 1 0 p s (p+1) (qn s.1 1 0,s.2) :=
 qS (by rw[qbj h0];rfl) (by omega) (GoTo.refl _ _ _)
omit H in
theorem qj0 (s:IS):((qn s.1 1 0,s.2):IS).1 1=0:=qbL s.1 1 0
theorem qPk (s:IS) (hc:s.2.2 537919488=0):∃s',GoTo E (13*mo+5+(13*mr+5)+(13*mr+5)) 0 (E.h+4) s (E.h+46) s'∧Wp mo mr s'.2.2:=by
 obtain⟨n1,n2,n3,n4⟩:=h_n H
 have f0:=qhl H.w0.i0 H.w0.hb s
 obtain⟨s1,g1,z1,k1⟩:=qyV H.w0 (B:=537001984) rfl n1 n3 (by decide) (fun t ht=>(qxO H ht).1) mo 0 (qn s.1 1 0,s.2) (by omega) (qj0 s)
 have f1:=qhl H.w1.i0 H.w1.hb s1
 obtain⟨s2,g2,z2,k2⟩:=qyV H.w1 (B:=537133056) rfl n2 n4 (by decide) (fun t ht=>(h_a H ht).1) mr 0 (qn s1.1 1 0,s1.2) (by omega) (qj0 s1)
 have f2:=qhl H.w2.i0 H.w2.hb s2
 obtain⟨s3,g3,z3,k3⟩:=qyV H.w2 (B:=537395200) rfl n2 n4 (by decide) (fun t ht=>(h_b H ht).1) mr 0 (qn s2.1 1 0,s2.2) (by omega) (qj0 s2)
 refine⟨s3,?_,⟨fun t ht=>?_,fun t ht=>?_,fun t ht=>z3 t (Nat.zero_le _) ht,?_⟩⟩
 ·have:=((f0.trans g1).trans (f1.trans g2)).trans (f2.trans g3)
  rw[show 1+(13*mo+4)+(1+(13*mr+4))+(1+(13*mr+4))=13*mo+5+(13*mr+5)+(13*mr+5) by omega] at this
  exact this
 ·rw[k3 _ (fun t' _ _=>by omega)]
  show s2.2.2 _=0
  rw[k2 _ (fun t' _ _=>by omega)]
  exact z1 t (Nat.zero_le _) ht
 ·rw[k3 _ (fun t' _ _=>by omega)]
  exact z2 t (Nat.zero_le _) ht
 ·rw[k3 _ (fun t' _ _=>by omega)]
  show s2.2.2 _=0
  rw[k2 _ (fun t' _ _=>by omega)]
  show s1.2.2 _=0
  rw[k1 _ (fun t' _ _=>by omega)]
  exact hc
theorem qN8 (s:IS):(Wp mo mr s.2.2→∃s',GoTo E (15*mo+5+(15*mr+5)+(15*mr+5)) 0 (E.h+46) s (E.h+94) s'∧s'.2.2=s.2.2) ∧
  ∃k j' s',k≤15*mo+5+(15*mr+5)+(15*mr+5)∧GoTo E k 0 (E.h+46) s j' s'∧s'.2.2=s.2.2∧(j'=E.h∨(j'=E.h+94∧(∀t,t<mo→s.2.2 (537001984+4*t)=0)∧(∀t,t<mr→s.2.2 (537133056+4*t)=0)∧(∀t,t<mr→s.2.2 (537395200+4*t)=0))):=by
 obtain⟨n1,n2,n3,n4⟩:=h_n H
 have f0:=qhl H.l0.i0 H.l0.hb s
 obtain⟨a1,a2⟩:=quJ H.l0 (B:=537001984) rfl n1 n3 (by decide) (fun t ht=>(qxO H ht).2) mo 0 (qn s.1 1 0,s.2) (by omega) (qj0 s)
 have L1:=fun s1:IS=>quJ H.l1 (B:=537133056) rfl n2 n4 (by decide) (fun t ht=>(h_a H ht).2) mr 0 (qn s1.1 1 0,s1.2) (by omega) (qj0 s1)
 have L2:=fun s1:IS=>quJ H.l2 (B:=537395200) rfl n2 n4 (by decide) (fun t ht=>(h_b H ht).2) mr 0 (qn s1.1 1 0,s1.2) (by omega) (qj0 s1)
 have key:(∀t,t<mo→s.2.2 (537001984+4*t)=0)→(∀t,t<mr→s.2.2 (537133056+4*t)=0)→(∀t,t<mr→s.2.2 (537395200+4*t)=0)→∃s',GoTo E (15*mo+5+(15*mr+5)+(15*mr+5)) 0 (E.h+46) s (E.h+94) s'∧s'.2.2=s.2.2:=fun z0 z1 z2=>by
  obtain⟨s1,g1,w1⟩:=a1 (fun t _ ht=>z0 t ht)
  have w1:s1.2.2=s.2.2:=w1
  obtain⟨s2,g2,w2⟩:=(L1 s1).1 (fun t _ ht=>by show s1.2.2 _=0;rw[w1];exact z1 t ht)
  have w2:s2.2.2=s1.2.2:=w2
  obtain⟨s3,g3,w3⟩:=(L2 s2).1 (fun t _ ht=>by show s2.2.2 _=0;rw[w2,w1];exact z2 t ht)
  have w3:s3.2.2=s2.2.2:=w3
  refine⟨s3,?_,by rw[w3,w2,w1]⟩
  have:=((f0.trans g1).trans ((qhl H.l1.i0 H.l1.hb s1).trans g2)).trans ((qhl H.l2.i0 H.l2.hb s2).trans g3)
  rw[show 1+(15*mo+4)+(1+(15*mr+4))+(1+(15*mr+4))=15*mo+5+(15*mr+5)+(15*mr+5) by omega] at this
  exact this
 refine⟨fun hz=>key hz.out hz.a hz.b,?_⟩
 by_cases z0:∀t,t<mo→s.2.2 (537001984+4*t)=0
 ·by_cases z1:∀t,t<mr→s.2.2 (537133056+4*t)=0
  ·by_cases z2:∀t,t<mr→s.2.2 (537395200+4*t)=0
   ·obtain⟨s',g,w⟩:=key z0 z1 z2
    exact⟨_,_,s',Nat.le_refl _,g,w,.inr ⟨rfl,z0,z1,z2⟩⟩
   ·obtain⟨t,ht⟩:=Classical.not_forall.1 z2
    obtain⟨ht,hne⟩:=Classical.not_imp.1 ht
    obtain⟨s1,g1,w1⟩:=a1 (fun t _ ht=>z0 t ht)
    have w1:s1.2.2=s.2.2:=w1
    obtain⟨s2,g2,w2⟩:=(L1 s1).1 (fun t _ ht=>by show s1.2.2 _=0;rw[w1];exact z1 t ht)
    have w2:s2.2.2=s1.2.2:=w2
    obtain⟨k,s3,k3,g3,w3⟩:=(L2 s2).2 ⟨t,Nat.zero_le _,ht,by show s2.2.2 _≠0;rw[w2,w1];exact hne⟩
    have w3:s3.2.2=s2.2.2:=w3
    exact⟨_,_,s3,by omega,((f0.trans g1).trans ((qhl H.l1.i0 H.l1.hb s1).trans g2)).trans ((qhl H.l2.i0 H.l2.hb s2).trans g3),by rw[w3,w2,w1],.inl rfl⟩
  ·obtain⟨t,ht⟩:=Classical.not_forall.1 z1
   obtain⟨ht,hne⟩:=Classical.not_imp.1 ht
   obtain⟨s1,g1,w1⟩:=a1 (fun t _ ht=>z0 t ht)
   have w1:s1.2.2=s.2.2:=w1
   obtain⟨k,s2,k2,g2,w2⟩:=(L1 s1).2 ⟨t,Nat.zero_le _,ht,by show s1.2.2 _≠0;rw[w1];exact hne⟩
   have w2:s2.2.2=s1.2.2:=w2
   exact⟨_,_,s2,by omega,(f0.trans g1).trans ((qhl H.l1.i0 H.l1.hb s1).trans g2),by rw[w2,w1],.inl rfl⟩
 ·obtain⟨t,ht⟩:=Classical.not_forall.1 z0
  obtain⟨ht,hne⟩:=Classical.not_imp.1 ht
  obtain⟨k,s1,k1,g1,w1⟩:=a2 ⟨t,Nat.zero_le _,ht,hne⟩
  exact⟨_,_,s1,by omega,f0.trans g1,w1,.inl rfl⟩
theorem qQ9 (s:IS):(s.2.2 537919488=0→∃s',GoTo E 6 0 (E.h+94) s (E.h+100) s'∧s'.2.2=s.2.2)∧(s.2.2 537919488≠0→∃s',GoTo E 6 0 (E.h+94) s E.h s'):=by
 obtain⟨ρ1,e1,v1,_⟩:=qlY E 5 537919488 s
 have g1:=qi1 (j:=E.h+94) [qp 3 5 0 0 0 (lo false 537919488) 0,qp 4 5 0 0 0 (hi false 537919488) 0] _ _ (fun i hi=>by
  have hi:i<2:=hi
  have:i=0∨i=1:=by omega
  rcases this with rfl |rfl
  ·exact H.e0
  ·exact H.e1) (fun i _=>by omega) e1
 have r5:ρ1 5=537919488:=v1
 generalize hx:s.2.2 537919488=x
 have a0:(qn (qn ρ1 0 x) 2 0) 0=x:=(qba _ _ (by decide)).trans (qbL _ _ _)
 have a2:(qn (qn ρ1 0 x) 2 0) 2=0:=qbL _ _ _
 have g2:GoTo E 3 0 (E.h+96) (ρ1,s.2) (E.h+99) (qn (qn ρ1 0 x) 2 0,qbk x 0,s.2.2):=by
  refine qS (j1:=E.h+97) (s1:=(qn ρ1 0 x,s.2)) ?_ (by omega) (qS (j1:=E.h+98) (s1:=(qn (qn ρ1 0 x) 2 0,s.2)) ?_ (by omega) (qS ?_ (by omega) (GoTo.refl _ _ _)))
  ·rw[qbj H.e2,qoo]
   show(bif E.okR (ρ1 5) then(false,E.h+96+1,qn ρ1 0 (s.2.2 (ρ1 5)),s.2) else _)=_
   rw[r5,(qpf H).2,hx]
   rfl
  ·rw[qbj H.e3]
   rfl
  ·rw[qbj H.e4,qDK]
   show(false,E.h+98+1,qn (qn ρ1 0 x) 2 0,qbk ((qn (qn ρ1 0 x) 2 0) 0) ((qn (qn ρ1 0 x) 2 0) 2),s.2.2)=_
   rw[a0,a2]
 have g3:qN E false (E.h+99) (qn (qn ρ1 0 x) 2 0,qbk x 0,s.2.2)=bif x != 0 then(false,E.h,qn (qn ρ1 0 x) 2 0,qbk x 0,s.2.2) else(false,E.h+99+1,qn (qn ρ1 0 x) 2 0,qbk x 0,s.2.2):=by
  rw[qgS H.e5]
  show(bif qbV (qbk x 0) 25 1 then _ else _)=_
  rw[qrG]
 constructor
 ·intro h0
  refine⟨_,(g1.trans g2).trans (qS (E:=E) (j:=E.h+99) (j1:=E.h+100) (s1:=(qn (qn ρ1 0 x) 2 0,qbk x 0,s.2.2)) (by rw[g3,h0];rfl) (by omega) (GoTo.refl _ _ _)),rfl⟩
 ·intro h0
  have hb:(x != 0)=true:=bne_iff_ne.2 h0
  exact⟨_,(g1.trans g2).trans (qS (E:=E) (j:=E.h+99) (j1:=E.h) (s1:=(qn (qn ρ1 0 x) 2 0,qbk x 0,s.2.2)) (by rw[g3,hb];rfl) (by omega) (GoTo.refl _ _ _))⟩
theorem qRY (s:IS):∃s',Ends E 6 0 (E.h+100) s (E.h+105) s'∧s'.2.2=qcb s.2.2 538968064 195890093:=by
 obtain⟨ρ1,e1,v1,_⟩:=qlY E 5 538968064 s
 obtain⟨ρ2,e2,v2,k2⟩:=qlY E 0 195890093 (ρ1,s.2)
 have g1:=qi1 (j:=E.h+100) [qp 3 5 0 0 0 (lo false 538968064) 0,qp 4 5 0 0 0 (hi false 538968064) 0] _ _ (fun i hi=>by
  have hi:i<2:=hi
  have:i=0∨i=1:=by omega
  rcases this with rfl |rfl
  ·exact H.e6
  ·exact H.e7) (fun i _=>by omega) e1
 have g2:=qi1 (j:=E.h+102) [qp 3 0 0 0 0 (lo false 195890093) 0,qp 4 0 0 0 0 (hi false 195890093) 0] _ _ (fun i hi=>by
  have hi:i<2:=hi
  have:i=0∨i=1:=by omega
  rcases this with rfl |rfl
  ·exact H.e8
  ·exact H.e9) (fun i _=>by omega) e2
 have r5:ρ2 5=538968064:=(k2 5 (by decide)).trans v1
 have r0:ρ2 0=195890093:=v2
 have g3:GoTo E 1 0 (E.h+104) (ρ2,s.2) (E.h+105) (ρ2,s.2.1,qcb s.2.2 538968064 195890093):=by
  refine qS ?_ (by omega) (GoTo.refl _ _ _)
  rw[qbj H.e10,qls]
  show(bif E.okW (ρ2 5) then(false,E.h+104+1,ρ2,s.2.1,qcb s.2.2 (ρ2 5) (ρ2 0)) else _)=_
  rw[r5,qMT H,r0]
  rfl
 have g4:Ends E 1 0 (E.h+105) (ρ2,s.2.1,qcb s.2.2 538968064 195890093) (E.h+105) (ρ2,s.2.1,qcb s.2.2 538968064 195890093):=by
  have:=qvV (E:=E) (j:=E.h+105) (s:=(ρ2,s.2.1,qcb s.2.2 538968064 195890093)) (j':=E.h+105) (s':=(ρ2,s.2.1,qcb s.2.2 538968064 195890093)) (by rw[qbj H.e11];rfl)
  rw[beq_eq_false_iff_ne.2 (show E.h+105≠E.h by omega)] at this
  exact this
 exact⟨_,((g1.trans g2).trans g3).ends g4,rfl⟩
def qdj (mo mr:Nat):Nat:=28*mo+56*mr+46
theorem qQ0 {W:Nat→Nat} (h:Wp mo mr W) (v:Nat):Wp mo mr (qcb W 538968064 v):=by
 obtain⟨_,_,n3,n4⟩:=h_n H
 exact⟨fun t ht=>by rw[qcR _ _ (by omega)];exact h.out t ht,fun t ht=>by rw[qcR _ _ (by omega)];exact h.a t ht,fun t ht=>by rw[qcR _ _ (by omega)];exact h.b t ht,by rw[qcR _ _ (by omega)];exact h.commit⟩
theorem qSb (s:IS):∃s',Ends E (qdj mo mr) 1 E.h s (E.h+105) s'∧Wp mo mr s'.2.2∧s'.2.2 538968064=195890093:=by
 obtain⟨s1,g1,w1⟩:=qOz H s
 obtain⟨s2,g2,z2⟩:=qPk H s1 (by rw[w1,qlb])
 obtain⟨s3,g3,w3⟩:=(qN8 H s2).1 z2
 obtain⟨s4,g4,w4⟩:=(qQ9 H s3).1 (by rw[w3];exact z2.commit)
 obtain⟨s5,g5,w5⟩:=qRY H s4
 refine⟨s5,?_,?_,by rw[w5,qlb]⟩
 ·have:=(((g1.trans g2).trans g3).trans g4).ends g5
  have e:4+(13*mo+5+(13*mr+5)+(13*mr+5))+(15*mo+5+(15*mr+5)+(15*mr+5))+6+6=qdj mo mr:=by
   unfold qdj
   omega
  rw[e] at this
  exact this
 ·rw[w5,w4,w3]
  exact qQ0 H z2 _
end
end Go.Av
end
section
namespace Go.Av
open Go
structure CodeOk (H:List qk.den):Prop where
 all:H.all (jOk (qd2 H))=true
 nodup:(qd2 H).Nodup
 lab:(0:Int)∈qd2 H
 cnt:qeL 0 H<(qc2 (fun l=>qeL l H) H).length
 len:H.length≤2000
def qiM (H:List qk.den) (o r n:Nat):Env:=⟨qc2 (fun l=>qeL l H) H,o,r,n,qeL 0 H⟩
theorem qBs {pre:List qA.den} {H:List qk.den} (hpre:∀i∈pre,opK i=true) (hlen:pre.length≤2000) (hc:CodeOk H) (o r:Nat) (ho:o≤65536) (h4:o % 4=0) (hr:4≤r∧r≤65536) (hr4:r % 4=0) :
  qcx (its pre++H,((0:Int),(o:Int),(r:Int),()),0)=true∧∃hd adr k,IsImg (its pre++H) o r k (qbp (its pre++H,((0:Int),(o:Int),(r:Int),()),0)) hd adr∧qbM (its pre++H) k=pre.length+qeL 0 H:=by
 have hI:ItOk (its pre++H):=qDc hpre hc.all hc.nodup (by have:=hc.len;omega)
 have hl:(0:Int)∈qd2 (its pre++H):=by rw[qss];exact hc.lab
 obtain⟨k,k1,k2⟩:=qw0.1 hl
 have hk:qbM (its pre++H) k=pre.length+qeL 0 H:=by
  rw[qzT 0 _ k k1 k2 (fun i hi=>by
   cases e:qcq (its pre++H) 0 i
   ·rfl
   ·have:=qvl hI.nodup (by omega) k1 e k2
    omega)]
  rw[qtS 0 (its pre) H (fun j hj=>by
   obtain⟨i,_,rfl⟩:=List.mem_map.1 hj
   rfl)]
  unfold its
  rw[List.length_map]
 have hcn:qbM (its pre++H) k<qbM (its pre++H) (its pre++H).length:=by
  rw[hk,←qwd,quX hI]
  have e:(fun l=>qeL l (its pre++H))=fun l=>(its pre).length+qeL l H:=funext fun l=>qtS l (its pre) H (fun j hj=>by
   obtain⟨i,_,rfl⟩:=List.mem_map.1 hj
   rfl)
  rw[e,qst _ _ _ (qvo pre),qsI,List.length_append,List.length_map,List.length_map]
  have:=hc.cnt
  have hil:(its pre).length=pre.length:=by unfold its;rw[List.length_map]
  omega
 obtain⟨g,hd,adr,him⟩:=qIS hI o r ho h4 hr hr4 k1 k2 hcn
 exact⟨g,hd,adr,k,him,hk⟩
theorem qIs {pre:List qA.den} {H:List qk.den} (hpre:∀i∈pre,opK i=true) (hlen:pre.length≤2000) (hc:CodeOk H) {o r k:Nat} {img:List UInt8} {hd:qce.den} {adr:Nat→Int} (hr:4≤r) (ho4:o % 4=0) (hr4:r % 4=0) (h:IsImg (its pre++H) o r k img hd adr) (hk:qbM (its pre++H) k=pre.length+qeL 0 H)
  {s1:IS} (he:qdK ⟨qcl (its pre++H) (its pre++H).length,o,r,img.length,qbM (its pre++H) k⟩ pre (qdl o r img.length img)=some s1) (f:qX.den) (hf:qM f=0) (hfs:(pre.length:Int)≤(show Int from f.2.1)∨f=qev) (n:Nat) (hb:pre.length+n≤67108864) :
  ∃cy:Int,qO (img,[],f,((pre.length+n:Nat):Int)) =
   (((goI (qiM H o r img.length) f n pre.length (false,0,s1)).2.2.1,((pre.length+(goI (qiM H o r img.length) f n pre.length (false,0,s1)).1:Nat):Int),cy,(((goI (qiM H o r img.length) f n pre.length (false,0,s1)).2.1:Nat):Int),
    (((goI (qiM H o r img.length) f n pre.length (false,0,s1)).2.2.2.2.2.2 537919488:Nat):Int),(((goI (qiM H o r img.length) f n pre.length (false,0,s1)).2.2.2.2.2.2 538968064:Nat):Int),
    qdn (goI (qiM H o r img.length) f n pre.length (false,0,s1)).2.2.2.2.2.2 537001984 o,qdn (goI (qiM H o r img.length) f n pre.length (false,0,s1)).2.2.2.2.2.2 537133056 r,qdn (goI (qiM H o r img.length) f n pre.length (false,0,s1)).2.2.2.2.2.2 537395200 r,()),0,()):=by
 have hI:ItOk (its pre++H):=qDc hpre hc.all hc.nodup (by have:=hc.len;omega)
 obtain⟨cy,hrun⟩:=qQN hr ho4 hr4 h f hf (pre.length+n) hb
 have hil:(its pre).length=pre.length:=by unfold its;rw[List.length_map]
 have hpart:=qO5 hI (qvo pre) o r img.length (qeL 0 H)
 rw[hil,←hk] at hpart
 have hgo:GoTo ⟨qcl (its pre++H) (its pre++H).length,o,r,img.length,qbM (its pre++H) k⟩ pre.length 0 0 (qdl o r img.length img) (0+pre.length) s1:=by
  refine qi1 pre 0 _ s1 (fun i hi=>?_) (fun i hi=>?_) he
  ·show(qcl (its pre++H) (its pre++H).length)[0+i]?=_
   rw[Nat.zero_add,quX hI,qst _ _ _ (qvo pre),List.getElem?_append_left (by rw[List.length_map,hil];exact hi),List.getElem?_map]
   unfold its
   rw[List.getElem?_map]
   cases pre[i]?<;>rfl
  ·show 0+i≠qbM (its pre++H) k
   rw[hk]
   omega
 have key:goI ⟨qcl (its pre++H) (its pre++H).length,o,r,img.length,qbM (its pre++H) k⟩ f (pre.length+n) 0 (false,0,qdl o r img.length img) =
   (pre.length+(goI (qiM H o r img.length) f n pre.length (false,0,s1)).1,(goI (qiM H o r img.length) f n pre.length (false,0,s1)).2.1,qmv pre.length (goI (qiM H o r img.length) f n pre.length (false,0,s1)).2.2):=by
  have hg:goN ⟨qcl (its pre++H) (its pre++H).length,o,r,img.length,qbM (its pre++H) k⟩ pre.length (false,0,qdl o r img.length img)=(pre.length,0,false,pre.length+0,s1):=by
   have:=hgo
   unfold GoTo at this
   rw[this]
   simp
  rcases hfs with hfs |rfl
  ·rw[qsa _ f n pre.length 0 _ (by omega),hg]
   dsimp only
   have:=qDO hpart f n (0+(pre.length:Int)) false 0 s1
   rw[this,Int.zero_add,Nat.zero_add]
   rfl
  ·rw[qtR,qtR,qnt,hg]
   dsimp only
   rw[qG5 hpart n false 0 s1,Nat.zero_add]
   rfl
 rw[key] at hrun
 exact⟨cy,hrun⟩
theorem qtM (W:Nat→Nat) (b n:Nat) (h:n % 4=0):(qdn W b n).length=n:=by
 unfold qdn
 have key:∀l:List Nat,(l.flatMap fun i=>q8 ((W (b+4*i):Nat):Int)).length=4*l.length:=by
  intro l
  induction l with
  |nil=>rfl
  |cons x l ih =>
   have:=qy8 ((W (b+4*x):Nat):Int)
   rw[List.flatMap_cons,List.length_append,ih,List.length_cons]
   omega
 rw[key,List.length_range]
 omega
theorem qsA {W:Nat→Nat} {b n:Nat} (h:∀i,i<n / 4→W (b+4*i)=0):qbI (qdn W b n)=true:=by
 show(qdn W b n).all (·==0)=true
 unfold qdn
 rw[List.all_eq_true]
 intro x hx
 obtain⟨i,hi,hxi⟩:=List.mem_flatMap.1 hx
 rw[h i (List.mem_range.1 hi)] at hxi
 have e:q8 ((0:Nat):Int)=[0,0,0,0]:=rfl
 rw[e] at hxi
 simp only[List.mem_cons,List.not_mem_nil,or_false] at hxi
 rcases hxi with rfl |rfl |rfl |rfl<;>rfl
theorem qIN (hal:Bool) (st cy hn cm stt:Int) (x y z:List UInt8) (hx:x.length<9223372036854775808) (hy:y.length<9223372036854775808) (hz:z.length<9223372036854775808) :
  qfW (hal,st,cy,hn,cm,stt,x,y,z,())=true∧qdN (hal,st,cy,hn,cm,stt,x,y,z,())=(cm==0&&(qbI x&&(qbI y&&qbI z))):=by
 have g1:qeq x=true:=decide_eq_true hx
 have g2:qeq y=true:=decide_eq_true hy
 have g3:qeq z=true:=decide_eq_true hz
 have hT:(qg3 (hal,st,cy,hn,cm,stt,x,y,z,())).val=some (cm==0&&(qbI x&&(qbI y&&qbI z))):=by
  unfold qg3
  refine(qe ?_).trans rfl
  dsimp only
  rw[g1,g2,g3]
  cases (cm==(0:Int))<;>cases qbI x<;>cases qbI y<;>cases qbI z<;>rfl
 exact⟨by unfold qfW;rw[hT];rfl,by unfold qdN PO.qH;rw[hT];rfl⟩
theorem qwc (hal:Bool) (st cy hn cm stt:Int) (x y z:List UInt8):qe7 (hal,st,cy,hn,cm,stt,x,y,z,())=bif !hal then(0,[],()) else bif cm==3235799053 then(1,x,()) else bif stt==195890093 then(2,[],()) else(3,[],()):=by
 unfold qe7 qlD PO.qH
 simp only[PO.val]
 cases hal
 ·rfl
 ·cases (cm==(3235799053:Int))
  ·cases (stt==(195890093:Int))<;>rfl
  ·rfl
end Go.Av
end
