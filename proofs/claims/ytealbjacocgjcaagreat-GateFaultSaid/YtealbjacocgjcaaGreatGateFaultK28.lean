/- Texts of the proof, one behind the other. -/
import Derived.Test.YtealbjacocgjcaaGreatGateFaultK27
import Derived.Test.YtealbjacocgjcaaGreatGateFaultK26
section
namespace Go.Av
open Go
end Go.Av
end
section
namespace Go.Av
open Go
theorem qRo {l:List Bool} (h:l.length=16):∃x0 x1 x2 x3 x4 x5 x6 x7 x8 x9 x10 x11 x12 x13 x14 x15:Bool,l=[x0,x1,x2,x3,x4,x5,x6,x7,x8,x9,x10,x11,x12,x13,x14,x15]:=by
 match l,h with
 |[x0,x1,x2,x3,x4,x5,x6,x7,x8,x9,x10,x11,x12,x13,x14,x15],_=>exact⟨_,_,_,_,_,_,_,_,_,_,_,_,_,_,_,_,rfl⟩
end Go.Av
end
section
namespace Go.Av
open Go
def hx (s:List UInt8) (k:Nat):List Bool:=qbG 16 (qjf s k)
theorem qBv (s:List UInt8) (k:Nat):(hx s k).length=16:=qdi ..
theorem qNh (s:List UInt8) (k:Nat):H (hx s k)=((qjf s k:Nat):Int):=by
 unfold H hx
 rw[qty,Nat.mod_eq_of_lt (qNo s k)]
abbrev zI:qA.den:=(0,0,0,0,0,0,0,false,())
abbrev D4:=qA.den×Int×Int×Unit
def qQo (n:Int):Option qA.den→D4
 |some i=>(i,n,0,())
 |none=>(zI,0,7,())
def qne (s:List UInt8):D4 :=
 bif decide (qi s<2) then(zI,0,3,())
 else bif Nat.ble 59392 (qjf s 0) then(bif decide (qi s<4) then(zI,0,3,()) else qQo 4 (qcm (hx s 0) (hx s 1)))
 else qQo 2 (qc5 (hx s 0))
theorem qyi {S:Option D1} {d:Option qA.den} (h:op1 S=some d):∃p:D1,S=some p∧(p.2.1=true→d=some p.1)∧(p.2.1=false→d=none):=by
 obtain⟨p,h1,h2⟩:=qOK h
 refine⟨p,h1,fun e=>?_,fun e=>?_⟩
 ·rw[←h2,e];rfl
 ·rw[←h2,e];rfl
theorem qNH (l:List Bool) (hl:l.length=16):qfP (H l)=true∧((qcV (H l)).2.1=true→qc5 l=some (qcV (H l)).1)∧((qcV (H l)).2.1=false→qc5 l=none):=by
 obtain⟨p,h1,h2,h3⟩:=qyi (qMN l hl)
 have hv:qcV (H l)=p:=by unfold qcV PO.qH;rw[h1];rfl
 have hg:qfP (H l)=true:=by unfold qfP;rw[h1];rfl
 rw[hv]
 exact⟨hg,h2,h3⟩
theorem qPd (lx ly:List Bool) (hx:lx.length=16) (hy:ly.length=16):qgo (H lx,H ly)=true∧((qc6 (H lx,H ly)).2.1=true→qdH lx ly=some (qc6 (H lx,H ly)).1)∧((qc6 (H lx,H ly)).2.1=false→qdH lx ly=none):=by
 obtain⟨p,h1,h2,h3⟩:=qyi (qOn lx ly hx hy)
 have hv:qc6 (H lx,H ly)=p:=by unfold qc6 PO.qH;rw[h1];rfl
 have hg:qgo (H lx,H ly)=true:=by unfold qgo;rw[h1];rfl
 rw[hv]
 exact⟨hg,h2,h3⟩
theorem qK3 (lx ly:List Bool) (hx:lx.length=16) (hy:ly.length=16):qfm (H lx,H ly)=true∧((qcK (H lx,H ly)).2.1=true→qd5 lx ly=some (qcK (H lx,H ly)).1)∧((qcK (H lx,H ly)).2.1=false→qd5 lx ly=none):=by
 obtain⟨p,h1,h2,h3⟩:=qyi (qJ2 lx ly hx hy)
 have hv:qcK (H lx,H ly)=p:=by unfold qcK PO.qH;rw[h1];rfl
 have hg:qfm (H lx,H ly)=true:=by unfold qfm;rw[h1];rfl
 rw[hv]
 exact⟨hg,h2,h3⟩
theorem qPG (lx ly:List Bool) (hx:lx.length=16) (hy:ly.length=16):qgn (H lx,H ly)=true∧((qc8 (H lx,H ly)).2.1=true→qj9 lx ly=some (qc8 (H lx,H ly)).1)∧((qc8 (H lx,H ly)).2.1=false→qj9 lx ly=none):=by
 obtain⟨p,h1,h2,h3⟩:=qyi (qOj lx ly hx hy)
 have hv:qc8 (H lx,H ly)=p:=by unfold qc8 PO.qH;rw[h1];rfl
 have hg:qgn (H lx,H ly)=true:=by unfold qgn;rw[h1];rfl
 rw[hv]
 exact⟨hg,h2,h3⟩
theorem qMD (lx ly:List Bool) (hx:lx.length=16) (hy:ly.length=16):qfU (H lx,H ly)=true∧((qcT (H lx,H ly)).2.1=true→qpk lx ly=some (qcT (H lx,H ly)).1)∧((qcT (H lx,H ly)).2.1=false→qpk lx ly=none):=by
 obtain⟨p,h1,h2,h3⟩:=qyi (qMY lx ly hx hy)
 have hv:qcT (H lx,H ly)=p:=by unfold qcT PO.qH;rw[h1];rfl
 have hg:qfU (H lx,H ly)=true:=by unfold qfU;rw[h1];rfl
 rw[hv]
 exact⟨hg,h2,h3⟩
def pk:Option qA.den→D1
 |some i=>(i,true,())
 |none=>(zI,false,())
theorem qPR (lx ly:List Bool) (hx:lx.length=16) (hy:ly.length=16):(qic (H lx,H ly)).val=some (pk (qcm lx ly)):=by
 obtain⟨a1,a2,a3⟩:=qPd lx ly hx hy
 obtain⟨b1,b2,b3⟩:=qK3 lx ly hx hy
 obtain⟨c1,c2,c3⟩:=qPG lx ly hx hy
 obtain⟨d1,d2,d3⟩:=qMD lx ly hx hy
 unfold qic qcm PO.val
 rw[a1]
 dsimp only[cond_true,PO.val]
 cases ea:(qc6 (H lx,H ly)).2.1
 ·rw[a3 ea,b1]
  dsimp only[cond_true,cond_false,PO.val]
  cases eb:(qcK (H lx,H ly)).2.1
  ·rw[b3 eb,c1]
   dsimp only[cond_true,cond_false,PO.val]
   cases ec:(qc8 (H lx,H ly)).2.1
   ·rw[c3 ec,d1]
    dsimp only[cond_true,cond_false,PO.val]
    cases ed:(qcT (H lx,H ly)).2.1
    ·rw[d3 ed];rfl
    ·rw[d2 ed];rfl
   ·rw[c2 ec];rfl
  ·rw[b2 eb];rfl
 ·rw[a2 ea];rfl
theorem qCV (s:List UInt8):(qgR s).val=some (qne s):=by
 unfold qgR qne PO.val
 cases h2:decide (qi s<2)
 ·have h2':=of_decide_eq_false h2
  cases hb:Nat.ble 59392 (qjf s 0)
  ·have hs:qct s=2:=by unfold qct;rw[h2,hb];rfl
   have g:qcd (s,0)=true:=by
    simp only[qcd,Bool.or_eq_true,Bool.and_eq_true,beq_iff_eq,decide_eq_true_eq]
    exact .inl ⟨trivial,by omega⟩
   have hv:qb4 (s,0)=H (hx s 0):=(qNh s 0).symm
   obtain⟨n1,n2,n3⟩:=qNH (hx s 0) (qBv s 0)
   rw[hs,h2,g,hv,n1]
   dsimp only[cond_true,cond_false,PO.val,Bool.or_false]
   cases e:(qcV (H (hx s 0))).2.1
   ·rw[n3 e];rfl
   ·rw[n2 e];rfl
  ·have hs:qct s=4:=by unfold qct;rw[h2,hb];rfl
   rw[hs]
   cases h4:decide (qi s<4)
   ·have h4':=of_decide_eq_false h4
    have g:qcd (s,0)=true:=by
     simp only[qcd,Bool.or_eq_true,Bool.and_eq_true,beq_iff_eq,decide_eq_true_eq]
     exact .inl ⟨trivial,by omega⟩
    have g1:qcd (s,1)=true:=by
     simp only[qcd,Bool.or_eq_true,Bool.and_eq_true,beq_iff_eq,decide_eq_true_eq]
     exact .inr ⟨trivial,by omega⟩
    have hv:qb4 (s,0)=H (hx s 0):=(qNh s 0).symm
    have hv1:qb4 (s,1)=H (hx s 1):=(qNh s 1).symm
    have ht:=qPR (hx s 0) (hx s 1) (qBv s 0) (qBv s 1)
    have gl:qh9 (H (hx s 0),H (hx s 1))=true:=by unfold qh9;rw[ht];rfl
    have vl:qg6 (H (hx s 0),H (hx s 1))=pk (qcm (hx s 0) (hx s 1)):=by unfold qg6 PO.qH;rw[ht];rfl
    rw[g,g1,hv,hv1,gl,vl]
    dsimp only[cond_true,cond_false,PO.val,Bool.or_false]
    cases qcm (hx s 0) (hx s 1)<;>rfl
   ·rfl
 ·have hs:qct s=0:=by unfold qct;rw[h2];rfl
  rw[hs]
  rfl
theorem qB8 (s:List UInt8):qgP s=true:=by unfold qgP;rw[qCV];rfl
theorem qNv (s:List UInt8):qx s=qne s:=by unfold qx PO.qH;rw[qCV];rfl
def isL (l:List Bool):Bool:=l.getD 0 false&&(l.getD 1 false&&(l.getD 2 false&&(l.getD 3 false||l.getD 4 false)))
theorem qG9 {l:List Bool} (hl:l.length=16):Nat.ble 59392 (hb l 0)=isL l:=by
 obtain⟨x0,x1,x2,x3,x4,x5,x6,x7,x8,x9,x10,x11,x12,x13,x14,x15,rfl⟩:=qRo hl
 have h:=qt2 [x0,x1,x2,x3,x4,x5,x6,x7,x8,x9,x10,x11,x12,x13,x14,x15] 11 (by simp)
 have e:hb ([x0,x1,x2,x3,x4,x5,x6,x7,x8,x9,x10,x11,x12,x13,x14,x15].take ([x0,x1,x2,x3,x4,x5,x6,x7,x8,x9,x10,x11,x12,x13,x14,x15].length-11)) 0=hb [x0,x1,x2,x3,x4] 0:=rfl
 rw[e] at h
 show _=(x0&&(x1&&(x2&&(x3||x4))))
 have h3:Nat.ble 59392 (hb [x0,x1,x2,x3,x4,x5,x6,x7,x8,x9,x10,x11,x12,x13,x14,x15] 0)=Nat.ble 29 (hb [x0,x1,x2,x3,x4] 0):=by
  rw[Bool.eq_iff_iff,Nat.ble_eq,Nat.ble_eq,←h]
  omega
 rw[h3]
 cases x0<;>cases x1<;>cases x2<;>cases x3<;>cases x4<;>rfl
section
variable (op rd rn rm ra imm cond:Int) (w:Bool)
def e1:List Bool:=hl (ltr rd rn rm ra imm cond) ((qm (op,w)).take 16)
def e2:List Bool:=hl (ltr rd rn rm ra imm cond) ((qm (op,w)).drop 16)
abbrev qQM:qA.den:=(op,rd,rn,rm,ra,imm,cond,w,())
def Two:Prop:=((qm (op,w)).length=16∧isL (e1 op rd rn rm ra imm cond w)=false∧qc5 (e1 op rd rn rm ra imm cond w)=some (qQM op rd rn rm ra imm cond w))∨((qm (op,w)).length=32∧isL (e1 op rd rn rm ra imm cond w)=true∧qcm (e1 op rd rn rm ra imm cond w) (e2 op rd rn rm ra imm cond w)=some (qQM op rd rn rm ra imm cond w))
end
set_option maxHeartbeats 1000000 in
theorem qJB (op rd rn rm ra imm cond:Int) (w:Bool) (h:okB op rd rn rm ra imm cond w=true):Two op rd rn rm ra imm cond w:=by
 rcases qi2 op with rfl |rfl |rfl |rfl |rfl |rfl |rfl |rfl |rfl |rfl |rfl |rfl |rfl |rfl |rfl |rfl |rfl |rfl |rfl |rfl |rfl |rfl |rfl |rfl |rfl |hop
 case inr.inr.inr.inr.inr.inr.inr.inr.inr.inr.inr.inr.inr.inr.inr.inr.inr.inr.inr.inr.inr.inr.inr.inr.inr =>
  exfalso
  have e:=fun k hk=>qnv (n:=op) (k:=k) hop hk
  have e2:bw op 10 16=false:=by unfold bw;rw[Bool.and_eq_false_iff,decide_eq_false_iff_not,decide_eq_false_iff_not];omega
  simp[okB,e,e2] at h
 case inr.inr.inr.inr.inr.inr.inr.inr.inr.inr.inr.inr.inr.inr.inr.inr.inr.inr.inr.inr.inr.inr.inr.inl =>
  cases w
  ·have h:(rd==0&&(rn==0&&(rm==0&&(ra==0&&(cond==0&&(imm % 2==0&&bw imm (-2048) 2046))))))=true:=h
   simp only[Bool.and_eq_true,beq_iff_eq,decide_eq_true_eq] at h
   obtain⟨rfl,rfl,rfl,rfl,rfl,h1,h2,h3⟩:=h
   exact .inl ⟨by kernel_rfl,by kernel_rfl,qRj imm h1 h2 h3⟩
  ·have h:(rd==0&&(rn==0&&(rm==0&&(ra==0&&(cond==0&&(imm % 2==0&&bw imm (-16777216) 16777214))))))=true:=h
   simp only[Bool.and_eq_true,beq_iff_eq,decide_eq_true_eq] at h
   obtain⟨rfl,rfl,rfl,rfl,rfl,h1,h2,h3⟩:=h
   exact .inr ⟨by kernel_rfl,by kernel_rfl,qRb imm h1 h2 h3⟩
 case inr.inr.inr.inr.inr.inr.inr.inr.inr.inr.inr.inr.inr.inr.inr.inr.inr.inr.inr.inr.inr.inr.inr.inr.inl =>
  cases w
  ·have h:(rd==0&&(rn==0&&(rm==0&&(ra==0&&(bw cond 0 13&&(imm % 2==0&&bw imm (-256) 254))))))=true:=h
   simp only[Bool.and_eq_true,beq_iff_eq,decide_eq_true_eq] at h
   obtain⟨rfl,rfl,rfl,rfl,⟨c1,c2⟩,h1,h2,h3⟩:=h
   exact .inl ⟨by kernel_rfl,by kernel_rfl,qRn imm h1 h2 h3 cond c1 c2⟩
  ·have h:(rd==0&&(rn==0&&(rm==0&&(ra==0&&(bw cond 0 13&&(imm % 2==0&&bw imm (-1048576) 1048574))))))=true:=h
   simp only[Bool.and_eq_true,beq_iff_eq,decide_eq_true_eq] at h
   obtain⟨rfl,rfl,rfl,rfl,⟨c1,c2⟩,h1,h2,h3⟩:=h
   exact .inr ⟨by kernel_rfl,by kernel_rfl,qRf imm h1 h2 h3 cond c1 c2⟩
 all_goals
  cases w
  case true=>exact Bool.noConfusion (show false=true from h)
 ·have h:(cond==0&&(rd==0&&(rn==0&&(rm==0&&(ra==0&&imm==0)))))=true:=h
  simp only[Bool.and_eq_true,beq_iff_eq] at h
  obtain⟨rfl,rfl,rfl,rfl,rfl,rfl⟩:=h
  exact .inl ⟨by kernel_rfl,by kernel_rfl,qS3⟩
 ·have h:(cond==0&&(rd==0&&(rn==0&&(rm==0&&(ra==0&&bw imm 0 255)))))=true:=h
  simp only[Bool.and_eq_true,beq_iff_eq,decide_eq_true_eq] at h
  obtain⟨rfl,rfl,rfl,rfl,rfl,h1,h2⟩:=h
  exact .inl ⟨by kernel_rfl,by kernel_rfl,qSO imm h1 h2⟩
 ·have h:(cond==0&&(bw rd 0 12&&(rn==0&&(rm==0&&(ra==0&&bw imm 0 65535)))))=true:=h
  simp only[Bool.and_eq_true,beq_iff_eq,decide_eq_true_eq] at h
  obtain⟨rfl,⟨d1,d2⟩,rfl,rfl,rfl,h1,h2⟩:=h
  exact .inr ⟨by kernel_rfl,by kernel_rfl,qSF rd d1 d2 imm h1 h2⟩
 ·have h:(cond==0&&(bw rd 0 12&&(rn==0&&(rm==0&&(ra==0&&bw imm 0 65535)))))=true:=h
  simp only[Bool.and_eq_true,beq_iff_eq,decide_eq_true_eq] at h
  obtain⟨rfl,⟨d1,d2⟩,rfl,rfl,rfl,h1,h2⟩:=h
  exact .inr ⟨by kernel_rfl,by kernel_rfl,qSq rd d1 d2 imm h1 h2⟩
 ·have h:(cond==0&&(bw rd 0 12&&(rn==0&&(bw rm 0 12&&(ra==0&&bw imm 0 31)))))=true:=h
  simp only[Bool.and_eq_true,beq_iff_eq,decide_eq_true_eq] at h
  obtain⟨rfl,⟨d1,d2⟩,rfl,⟨m1,m2⟩,rfl,h1,h2⟩:=h
  exact .inr ⟨by kernel_rfl,by kernel_rfl,qSJ rd d1 d2 rm m1 m2 imm h1 h2⟩
 ·have h:(cond==0&&(bw rd 0 12&&(rn==0&&(bw rm 0 12&&(ra==0&&bw imm 1 31)))))=true:=h
  simp only[Bool.and_eq_true,beq_iff_eq,decide_eq_true_eq] at h
  obtain⟨rfl,⟨d1,d2⟩,rfl,⟨m1,m2⟩,rfl,h1,h2⟩:=h
  exact .inr ⟨by kernel_rfl,by kernel_rfl,qS9 rd d1 d2 rm m1 m2 imm h1 h2⟩
 ·have h:(cond==0&&(bw rd 0 12&&(rn==0&&(bw rm 0 12&&(ra==0&&bw imm 1 31)))))=true:=h
  simp only[Bool.and_eq_true,beq_iff_eq,decide_eq_true_eq] at h
  obtain⟨rfl,⟨d1,d2⟩,rfl,⟨m1,m2⟩,rfl,h1,h2⟩:=h
  exact .inr ⟨by kernel_rfl,by kernel_rfl,qSh rd d1 d2 rm m1 m2 imm h1 h2⟩
 ·have h:(cond==0&&(bw rd 0 12&&(rn==0&&(bw rm 0 12&&(ra==0&&bw imm 1 31)))))=true:=h
  simp only[Bool.and_eq_true,beq_iff_eq,decide_eq_true_eq] at h
  obtain⟨rfl,⟨d1,d2⟩,rfl,⟨m1,m2⟩,rfl,h1,h2⟩:=h
  exact .inr ⟨by kernel_rfl,by kernel_rfl,qSU rd d1 d2 rm m1 m2 imm h1 h2⟩
 ·have h:(cond==0&&(bw rd 0 12&&(rn==0&&(bw rm 0 12&&(ra==0&&imm==0)))))=true:=h
  simp only[Bool.and_eq_true,beq_iff_eq,decide_eq_true_eq] at h
  obtain⟨rfl,⟨d1,d2⟩,rfl,⟨m1,m2⟩,rfl,rfl⟩:=h
  exact .inr ⟨by kernel_rfl,by kernel_rfl,qSM rd d1 d2 rm m1 m2⟩
 ·have h:(cond==0&&(bw rd 0 12&&(bw rn 0 12&&(bw rm 0 12&&(ra==0&&imm==0)))))=true:=h
  simp only[Bool.and_eq_true,beq_iff_eq,decide_eq_true_eq] at h
  obtain⟨rfl,⟨d1,d2⟩,⟨n1,n2⟩,⟨m1,m2⟩,rfl,rfl⟩:=h
  exact .inr ⟨by kernel_rfl,by kernel_rfl,qRK rd d1 d2 rn n1 n2 rm m1 m2⟩
 ·have h:(cond==0&&(bw rd 0 12&&(bw rn 0 12&&(bw rm 0 12&&(ra==0&&imm==0)))))=true:=h
  simp only[Bool.and_eq_true,beq_iff_eq,decide_eq_true_eq] at h
  obtain⟨rfl,⟨d1,d2⟩,⟨n1,n2⟩,⟨m1,m2⟩,rfl,rfl⟩:=h
  exact .inr ⟨by kernel_rfl,by kernel_rfl,qRu rd d1 d2 rn n1 n2 rm m1 m2⟩
 ·have h:(cond==0&&(bw rd 0 12&&(bw rn 0 12&&(bw rm 0 12&&(ra==0&&imm==0)))))=true:=h
  simp only[Bool.and_eq_true,beq_iff_eq,decide_eq_true_eq] at h
  obtain⟨rfl,⟨d1,d2⟩,⟨n1,n2⟩,⟨m1,m2⟩,rfl,rfl⟩:=h
  exact .inr ⟨by kernel_rfl,by kernel_rfl,qRy rd d1 d2 rn n1 n2 rm m1 m2⟩
 ·have h:(cond==0&&(bw rd 0 12&&(bw rn 0 12&&(bw rm 0 12&&(ra==0&&imm==0)))))=true:=h
  simp only[Bool.and_eq_true,beq_iff_eq,decide_eq_true_eq] at h
  obtain⟨rfl,⟨d1,d2⟩,⟨n1,n2⟩,⟨m1,m2⟩,rfl,rfl⟩:=h
  exact .inr ⟨by kernel_rfl,by kernel_rfl,qRG rd d1 d2 rn n1 n2 rm m1 m2⟩
 ·have h:(cond==0&&(bw rd 0 12&&(bw rn 0 12&&(bw rm 0 12&&(ra==0&&imm==0)))))=true:=h
  simp only[Bool.and_eq_true,beq_iff_eq,decide_eq_true_eq] at h
  obtain⟨rfl,⟨d1,d2⟩,⟨n1,n2⟩,⟨m1,m2⟩,rfl,rfl⟩:=h
  exact .inr ⟨by kernel_rfl,by kernel_rfl,qSe rd d1 d2 rn n1 n2 rm m1 m2⟩
 ·have h:(cond==0&&(bw rd 0 12&&(bw rn 0 12&&(bw rm 0 12&&(ra==0&&imm==0)))))=true:=h
  simp only[Bool.and_eq_true,beq_iff_eq,decide_eq_true_eq] at h
  obtain⟨rfl,⟨d1,d2⟩,⟨n1,n2⟩,⟨m1,m2⟩,rfl,rfl⟩:=h
  exact .inr ⟨by kernel_rfl,by kernel_rfl,qR5 rd d1 d2 rn n1 n2 rm m1 m2⟩
 ·have h:(cond==0&&(bw rd 0 12&&(bw rn 0 12&&(bw rm 0 12&&(ra==0&&imm==0)))))=true:=h
  simp only[Bool.and_eq_true,beq_iff_eq,decide_eq_true_eq] at h
  obtain⟨rfl,⟨d1,d2⟩,⟨n1,n2⟩,⟨m1,m2⟩,rfl,rfl⟩:=h
  exact .inr ⟨by kernel_rfl,by kernel_rfl,qSa rd d1 d2 rn n1 n2 rm m1 m2⟩
 ·have h:(cond==0&&(bw rd 0 12&&(bw rn 0 12&&(bw rm 0 12&&(bw ra 0 12&&(imm==0&&ra != rd))))))=true:=h
  simp only[Bool.and_eq_true,beq_iff_eq,decide_eq_true_eq,bne_iff_ne] at h
  obtain⟨rfl,⟨d1,d2⟩,⟨n1,n2⟩,⟨m1,m2⟩,⟨a1,a2⟩,rfl,hne⟩:=h
  exact .inr ⟨by kernel_rfl,by kernel_rfl,qR7 rd d1 d2 ra a1 a2 rn n1 n2 rm m1 m2 hne⟩
 ·have h:(cond==0&&(bw rd 0 12&&(bw rn 0 12&&(rm==0&&(bw imm 0 31&&bw ra 1 (32-imm))))))=true:=h
  simp only[Bool.and_eq_true,beq_iff_eq,decide_eq_true_eq] at h
  obtain⟨rfl,⟨d1,d2⟩,⟨n1,n2⟩,rfl,⟨h1,h2⟩,a1,a2⟩:=h
  exact .inr ⟨by kernel_rfl,by kernel_rfl,qRT rd d1 d2 rn n1 n2 imm h1 h2 ra a1 a2⟩
 ·have h:(cond==0&&(bw rd 0 7&&(bw rn 0 7&&(rm==0&&(ra==0&&imm==0)))))=true:=h
  simp only[Bool.and_eq_true,beq_iff_eq,decide_eq_true_eq] at h
  obtain⟨rfl,⟨d1,d2⟩,⟨n1,n2⟩,rfl,rfl,rfl⟩:=h
  exact .inl ⟨by kernel_rfl,by kernel_rfl,qRD rd d1 d2 rn n1 n2⟩
 ·have h:(cond==0&&(bw rd 0 7&&(bw rn 0 7&&(rm==0&&(ra==0&&imm==0)))))=true:=h
  simp only[Bool.and_eq_true,beq_iff_eq,decide_eq_true_eq] at h
  obtain⟨rfl,⟨d1,d2⟩,⟨n1,n2⟩,rfl,rfl,rfl⟩:=h
  exact .inl ⟨by kernel_rfl,by kernel_rfl,qRI rd d1 d2 rn n1 n2⟩
 ·have h:(cond==0&&(bw rd 0 7&&(bw rn 0 7&&(rm==0&&(ra==0&&imm==0)))))=true:=h
  simp only[Bool.and_eq_true,beq_iff_eq,decide_eq_true_eq] at h
  obtain⟨rfl,⟨d1,d2⟩,⟨n1,n2⟩,rfl,rfl,rfl⟩:=h
  exact .inl ⟨by kernel_rfl,by kernel_rfl,qRE rd d1 d2 rn n1 n2⟩
 ·have h:(cond==0&&(bw rd 0 7&&(bw rn 0 7&&(rm==0&&(ra==0&&imm==0)))))=true:=h
  simp only[Bool.and_eq_true,beq_iff_eq,decide_eq_true_eq] at h
  obtain⟨rfl,⟨d1,d2⟩,⟨n1,n2⟩,rfl,rfl,rfl⟩:=h
  exact .inl ⟨by kernel_rfl,by kernel_rfl,qRR rd d1 d2 rn n1 n2⟩
 ·have h:(cond==0&&(rd==0&&(bw rn 0 7&&(bw rm 0 7&&(ra==0&&imm==0)))))=true:=h
  simp only[Bool.and_eq_true,beq_iff_eq,decide_eq_true_eq] at h
  obtain⟨rfl,rfl,⟨n1,n2⟩,⟨m1,m2⟩,rfl,rfl⟩:=h
  exact .inl ⟨by kernel_rfl,by kernel_rfl,qRS rn n1 n2 rm m1 m2⟩
end Go.Av
end
section
namespace Go.Av
open Go
theorem qAV (l:List UInt8):∀b∈qdY l,0≤b∧b<256:=by
 intro b hb
 obtain⟨u,_,rfl⟩:=List.mem_map.1 hb
 have:=u.toNat_lt
 omega
theorem qqn (v:Int):(qk0 v).length=4:=by
 unfold qk0 qdY
 rw[List.length_map]
 rfl
theorem qFO {α:Type} (xs:List α) (o:Nat) (ys:List α) (n:Nat) (h:o+min ys.length n≤xs.length):(qdG xs o ys n).length=xs.length:=by
 unfold qdG
 simp
 omega
theorem qNG {α:Type} {xs ys:List α} {o n:Nat} {b:α} (h:b∈qdG xs o ys n):b∈xs∨b∈ys:=by
 unfold qdG at h
 rcases List.mem_append.1 h with h |h
 ·rcases List.mem_append.1 h with h |h
  ·exact .inl (List.mem_of_mem_take h)
  ·exact .inr (List.mem_of_mem_take h)
 ·exact .inl (List.mem_of_mem_drop h)
theorem qBU {y:qcS} (hy:MemWf y) (a n v:Int):MemWf (qd6 y a n v).2∧(qd6 y a n v).2.1=y.1:=by
 unfold qd6
 rcases qpt y.1.1 a n true with⟨e,he,hf⟩ |⟨j,hj,hn,_,hf⟩
 ·rw[hf]
  have hb:(e != 0)=true:=by simpa using he
  dsimp only
  rw[hb]
  exact⟨hy,rfl⟩
 ·rw[hf]
  obtain⟨_,_,_,_,g5,_,_⟩:=qp5 hy hj hn
  have hl:=qFO y.2 (posM y j a) (qk0 v) n.toNat (by rw[qqn];omega)
  refine⟨⟨hy.regs,hy.len,fun i hi=>?_,fun b hb=>?_⟩,rfl⟩
  ·obtain⟨w1,w2⟩:=hy.wins i hi
   exact⟨w1,by show _≤(qdG y.2 (posM y j a) (qk0 v) n.toNat).length;rw[hl];exact w2⟩
  ·rcases qNG (show b∈qdG y.2 (posM y j a) (qk0 v) n.toNat from hb) with h |h
   ·exact hy.bytes b h
   ·exact qAV _ b h
theorem qCO (r:List Int):(qcv r).length=r.length:=by unfold qcv;simp
theorem qAP (r:List Int) (op rd rn rm ra imm ld:Int):(qka r op rd rn rm ra imm ld).length=r.length:=by
 unfold qka
 cases op==17
 ·cases qnn op<;>simp
 ·simp
theorem qNy (s:qE.den) (i:qA.den) (ld:Int) (h:List.length s.1=15):List.length (qbf (s,i,ld)).1.1=15:=by
 obtain⟨op,rd,rn,rm,ra,imm,cond,w,u⟩:=i
 have hw:List.length (qcj s).1=15:=by
  show(qcv s.1).length=15
  rw[qCO,h]
 show List.length (qlX _ s op rd rn rm ra imm cond w ld).1.1=15
 unfold qlX
 cases (qf (op,rd,rn,rm,ra,imm,cond,w,u) != 0||op==2)
 ·show List.length (bif op==24||op==25 then qcj s else qfg (qcj s) op rd rn rm ra imm ld).1=15
  cases op==24||op==25
  ·show List.length (qfg (qcj s) op rd rn rm ra imm ld).1=15
   unfold qfg
   cases op==23
   ·show(qka (qcj s).1 op rd rn rm ra imm ld).length=15
    rw[qAP,hw]
   ·exact hw
  ·exact hw
 ·exact hw
theorem qC8 (bad:Bool) (op a d:Int):(show Int from(qgN bad op a d).1.1)=0∨(show Int from(qgN bad op a d).1.1)=(wn a:Int):=by
 unfold qgN
 cases bad<;>cases op==19<;>cases op==20<;>cases op==21<;>cases op==22<;>first|exact .inl rfl |exact .inr rfl
theorem qEf (st:qE.den) (ins:qA.den):(show Int from(qc (st,ins)).1.1)<9223372036854775808:=by
 obtain⟨op,rd,rn,rm,ra,imm,cond,w,u⟩:=ins
 have:=qga (rg st.1 rn)
 rcases qC8 (qf (op,rd,rn,rm,ra,imm,cond,w,u) != 0) op (rg st.1 rn) (rg st.1 rd) with h |h
 ·exact Int.lt_of_le_of_lt (Int.le_of_eq h) (by decide)
 ·exact Int.lt_of_le_of_lt (Int.le_of_eq h) (by omega)
end Go.Av
end
