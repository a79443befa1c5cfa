/- Texts of the proof, one behind the other. -/
import Derived.Test.YtealbjacocgjcaaGreatRailGK27
import Derived.Test.YtealbjacocgjcaaGreatRailGK26
section
namespace Go.Av
open Go
end Go.Av
end
section
namespace Go.Av
open Go
theorem len16 {l:List Bool} (h:l.length=16):∃x0 x1 x2 x3 x4 x5 x6 x7 x8 x9 x10 x11 x12 x13 x14 x15:Bool,l=[x0,x1,x2,x3,x4,x5,x6,x7,x8,x9,x10,x11,x12,x13,x14,x15]:=by
 match l,h with
 |[x0,x1,x2,x3,x4,x5,x6,x7,x8,x9,x10,x11,x12,x13,x14,x15],_=>exact⟨_,_,_,_,_,_,_,_,_,_,_,_,_,_,_,_,rfl⟩
end Go.Av
end
section
namespace Go.Av
open Go
def hx (s:List UInt8) (k:Nat):List Bool:=bitsN 16 (halfN s k)
theorem hx_len (s:List UInt8) (k:Nat):(hx s k).length=16:=bitsN_len ..
theorem hx_H (s:List UInt8) (k:Nat):H (hx s k)=((halfN s k:Nat):Int):=by
 unfold H hx
 rw[bitsN_hb,Nat.mod_eq_of_lt (halfN_lt s k)]
abbrev zI:tIns.den:=(0,0,0,0,0,0,0,false,())
abbrev D4:=tIns.den×Int×Int×Unit
def dOut (n:Int):Option tIns.den→D4
 |some i=>(i,n,0,())
 |none=>(zI,0,7,())
def dDec (s:List UInt8):D4 :=
 bif decide (lenI s<2) then(zI,0,3,())
 else bif Nat.ble 59392 (halfN s 0) then(bif decide (lenI s<4) then(zI,0,3,()) else dOut 4 (dLong (hx s 0) (hx s 1)))
 else dOut 2 (dNarrow (hx s 0))
theorem op1_V {S:Option D1} {d:Option tIns.den} (h:op1 S=some d):∃p:D1,S=some p∧(p.2.1=true→d=some p.1)∧(p.2.1=false→d=none):=by
 obtain⟨p,h1,h2⟩:=op1_get h
 refine⟨p,h1,fun e=>?_,fun e=>?_⟩
 ·rw[←h2,e];rfl
 ·rw[←h2,e];rfl
theorem narrow_V (l:List Bool) (hl:l.length=16):qcU (H l)=true∧((qbp (H l)).2.1=true→dNarrow l=some (qbp (H l)).1)∧((qbp (H l)).2.1=false→dNarrow l=none):=by
 obtain⟨p,h1,h2,h3⟩:=op1_V (narrow_T l hl)
 have hv:qbp (H l)=p:=by unfold qbp PO.getO;rw[h1];rfl
 have hg:qcU (H l)=true:=by unfold qcU;rw[h1];rfl
 rw[hv]
 exact⟨hg,h2,h3⟩
theorem three_V (lx ly:List Bool) (hx:lx.length=16) (hy:ly.length=16):qde (H lx,H ly)=true∧((qbu (H lx,H ly)).2.1=true→dThree lx ly=some (qbu (H lx,H ly)).1)∧((qbu (H lx,H ly)).2.1=false→dThree lx ly=none):=by
 obtain⟨p,h1,h2,h3⟩:=op1_V (three_T lx ly hx hy)
 have hv:qbu (H lx,H ly)=p:=by unfold qbu PO.getO;rw[h1];rfl
 have hg:qde (H lx,H ly)=true:=by unfold qde;rw[h1];rfl
 rw[hv]
 exact⟨hg,h2,h3⟩
theorem product_V (lx ly:List Bool) (hx:lx.length=16) (hy:ly.length=16):qcJ (H lx,H ly)=true∧((qbk (H lx,H ly)).2.1=true→dProduct lx ly=some (qbk (H lx,H ly)).1)∧((qbk (H lx,H ly)).2.1=false→dProduct lx ly=none):=by
 obtain⟨p,h1,h2,h3⟩:=op1_V (product_T lx ly hx hy)
 have hv:qbk (H lx,H ly)=p:=by unfold qbk PO.getO;rw[h1];rfl
 have hg:qcJ (H lx,H ly)=true:=by unfold qcJ;rw[h1];rfl
 rw[hv]
 exact⟨hg,h2,h3⟩
theorem plain_V (lx ly:List Bool) (hx:lx.length=16) (hy:ly.length=16):qdg (H lx,H ly)=true∧((qbt (H lx,H ly)).2.1=true→dPlain lx ly=some (qbt (H lx,H ly)).1)∧((qbt (H lx,H ly)).2.1=false→dPlain lx ly=none):=by
 obtain⟨p,h1,h2,h3⟩:=op1_V (plain_T lx ly hx hy)
 have hv:qbt (H lx,H ly)=p:=by unfold qbt PO.getO;rw[h1];rfl
 have hg:qdg (H lx,H ly)=true:=by unfold qdg;rw[h1];rfl
 rw[hv]
 exact⟨hg,h2,h3⟩
theorem branch_V (lx ly:List Bool) (hx:lx.length=16) (hy:ly.length=16):qc1 (H lx,H ly)=true∧((qbo (H lx,H ly)).2.1=true→dBranch lx ly=some (qbo (H lx,H ly)).1)∧((qbo (H lx,H ly)).2.1=false→dBranch lx ly=none):=by
 obtain⟨p,h1,h2,h3⟩:=op1_V (branch_T lx ly hx hy)
 have hv:qbo (H lx,H ly)=p:=by unfold qbo PO.getO;rw[h1];rfl
 have hg:qc1 (H lx,H ly)=true:=by unfold qc1;rw[h1];rfl
 rw[hv]
 exact⟨hg,h2,h3⟩
def pk:Option tIns.den→D1
 |some i=>(i,true,())
 |none=>(zI,false,())
theorem long_T (lx ly:List Bool) (hx:lx.length=16) (hy:ly.length=16):(qez (H lx,H ly)).val=some (pk (dLong lx ly)):=by
 obtain⟨a1,a2,a3⟩:=three_V lx ly hx hy
 obtain⟨b1,b2,b3⟩:=product_V lx ly hx hy
 obtain⟨c1,c2,c3⟩:=plain_V lx ly hx hy
 obtain⟨d1,d2,d3⟩:=branch_V lx ly hx hy
 unfold qez dLong PO.val
 rw[a1]
 dsimp only[cond_true,PO.val]
 cases ea:(qbu (H lx,H ly)).2.1
 ·rw[a3 ea,b1]
  dsimp only[cond_true,cond_false,PO.val]
  cases eb:(qbk (H lx,H ly)).2.1
  ·rw[b3 eb,c1]
   dsimp only[cond_true,cond_false,PO.val]
   cases ec:(qbt (H lx,H ly)).2.1
   ·rw[c3 ec,d1]
    dsimp only[cond_true,cond_false,PO.val]
    cases ed:(qbo (H lx,H ly)).2.1
    ·rw[d3 ed];rfl
    ·rw[d2 ed];rfl
   ·rw[c2 ec];rfl
  ·rw[b2 eb];rfl
 ·rw[a2 ea];rfl
theorem decode_T (s:List UInt8):(qdy s).val=some (dDec s):=by
 unfold qdy dDec PO.val
 cases h2:decide (lenI s<2)
 ·have h2':=of_decide_eq_false h2
  cases hb:Nat.ble 59392 (halfN s 0)
  ·have hs:qbe s=2:=by unfold qbe;rw[h2,hb];rfl
   have g:q9 (s,0)=true:=by
    simp only[q9,Bool.or_eq_true,Bool.and_eq_true,beq_iff_eq,decide_eq_true_eq]
    exact .inl ⟨trivial,by omega⟩
   have hv:qW (s,0)=H (hx s 0):=(hx_H s 0).symm
   obtain⟨n1,n2,n3⟩:=narrow_V (hx s 0) (hx_len s 0)
   rw[hs,h2,g,hv,n1]
   dsimp only[cond_true,cond_false,PO.val,Bool.or_false]
   cases e:(qbp (H (hx s 0))).2.1
   ·rw[n3 e];rfl
   ·rw[n2 e];rfl
  ·have hs:qbe s=4:=by unfold qbe;rw[h2,hb];rfl
   rw[hs]
   cases h4:decide (lenI s<4)
   ·have h4':=of_decide_eq_false h4
    have g:q9 (s,0)=true:=by
     simp only[q9,Bool.or_eq_true,Bool.and_eq_true,beq_iff_eq,decide_eq_true_eq]
     exact .inl ⟨trivial,by omega⟩
    have g1:q9 (s,1)=true:=by
     simp only[q9,Bool.or_eq_true,Bool.and_eq_true,beq_iff_eq,decide_eq_true_eq]
     exact .inr ⟨trivial,by omega⟩
    have hv:qW (s,0)=H (hx s 0):=(hx_H s 0).symm
    have hv1:qW (s,1)=H (hx s 1):=(hx_H s 1).symm
    have ht:=long_T (hx s 0) (hx s 1) (hx_len s 0) (hx_len s 1)
    have gl:qew (H (hx s 0),H (hx s 1))=true:=by unfold qew;rw[ht];rfl
    have vl:qdI (H (hx s 0),H (hx s 1))=pk (dLong (hx s 0) (hx s 1)):=by unfold qdI PO.getO;rw[ht];rfl
    rw[g,g1,hv,hv1,gl,vl]
    dsimp only[cond_true,cond_false,PO.val,Bool.or_false]
    cases dLong (hx s 0) (hx s 1)<;>rfl
   ·rfl
 ·have hs:qbe s=0:=by unfold qbe;rw[h2];rfl
  rw[hs]
  rfl
theorem decode_G (s:List UInt8):qdB s=true:=by unfold qdB;rw[decode_T];rfl
theorem decode_V (s:List UInt8):ql s=dDec s:=by unfold ql PO.getO;rw[decode_T];rfl
def isL (l:List Bool):Bool:=l.getD 0 false&&(l.getD 1 false&&(l.getD 2 false&&(l.getD 3 false||l.getD 4 false)))
theorem isL_ble {l:List Bool} (hl:l.length=16):Nat.ble 59392 (hb l 0)=isL l:=by
 obtain⟨x0,x1,x2,x3,x4,x5,x6,x7,x8,x9,x10,x11,x12,x13,x14,x15,rfl⟩:=len16 hl
 have h:=hb_shift [x0,x1,x2,x3,x4,x5,x6,x7,x8,x9,x10,x11,x12,x13,x14,x15] 11 (by simp)
 have e:hb ([x0,x1,x2,x3,x4,x5,x6,x7,x8,x9,x10,x11,x12,x13,x14,x15].take ([x0,x1,x2,x3,x4,x5,x6,x7,x8,x9,x10,x11,x12,x13,x14,x15].length-11)) 0=hb [x0,x1,x2,x3,x4] 0:=rfl
 rw[e] at h
 show _=(x0&&(x1&&(x2&&(x3||x4))))
 have h3:Nat.ble 59392 (hb [x0,x1,x2,x3,x4,x5,x6,x7,x8,x9,x10,x11,x12,x13,x14,x15] 0)=Nat.ble 29 (hb [x0,x1,x2,x3,x4] 0):=by
  rw[Bool.eq_iff_iff,Nat.ble_eq,Nat.ble_eq,←h]
  omega
 rw[h3]
 cases x0<;>cases x1<;>cases x2<;>cases x3<;>cases x4<;>rfl
section
variable (op rd rn rm ra imm cond:Int) (w:Bool)
def e1:List Bool:=hl (ltr rd rn rm ra imm cond) ((qh (op,w)).take 16)
def e2:List Bool:=hl (ltr rd rn rm ra imm cond) ((qh (op,w)).drop 16)
abbrev theI:tIns.den:=(op,rd,rn,rm,ra,imm,cond,w,())
def Two:Prop:=((qh (op,w)).length=16∧isL (e1 op rd rn rm ra imm cond w)=false∧dNarrow (e1 op rd rn rm ra imm cond w)=some (theI op rd rn rm ra imm cond w))∨((qh (op,w)).length=32∧isL (e1 op rd rn rm ra imm cond w)=true∧dLong (e1 op rd rn rm ra imm cond w) (e2 op rd rn rm ra imm cond w)=some (theI op rd rn rm ra imm cond w))
end
set_option maxHeartbeats 1000000 in
theorem two_ok (op rd rn rm ra imm cond:Int) (w:Bool) (h:okB op rd rn rm ra imm cond w=true):Two op rd rn rm ra imm cond w:=by
 rcases op_cases op with rfl |rfl |rfl |rfl |rfl |rfl |rfl |rfl |rfl |rfl |rfl |rfl |rfl |rfl |rfl |rfl |rfl |rfl |rfl |rfl |rfl |rfl |rfl |rfl |rfl |hop
 case inr.inr.inr.inr.inr.inr.inr.inr.inr.inr.inr.inr.inr.inr.inr.inr.inr.inr.inr.inr.inr.inr.inr.inr.inr =>
  exfalso
  have e:=fun k hk=>op_none (n:=op) (k:=k) hop hk
  have e2:bw op 10 16=false:=by unfold bw;rw[Bool.and_eq_false_iff,decide_eq_false_iff_not,decide_eq_false_iff_not];omega
  simp[okB,e,e2] at h
 case inr.inr.inr.inr.inr.inr.inr.inr.inr.inr.inr.inr.inr.inr.inr.inr.inr.inr.inr.inr.inr.inr.inr.inl =>
  cases w
  ·have h:(rd==0&&(rn==0&&(rm==0&&(ra==0&&(cond==0&&(imm % 2==0&&bw imm (-2048) 2046))))))=true:=h
   simp only[Bool.and_eq_true,beq_iff_eq,decide_eq_true_eq] at h
   obtain⟨rfl,rfl,rfl,rfl,rfl,h1,h2,h3⟩:=h
   exact .inl ⟨by kernel_rfl,by kernel_rfl,bk_24 imm h1 h2 h3⟩
  ·have h:(rd==0&&(rn==0&&(rm==0&&(ra==0&&(cond==0&&(imm % 2==0&&bw imm (-16777216) 16777214))))))=true:=h
   simp only[Bool.and_eq_true,beq_iff_eq,decide_eq_true_eq] at h
   obtain⟨rfl,rfl,rfl,rfl,rfl,h1,h2,h3⟩:=h
   exact .inr ⟨by kernel_rfl,by kernel_rfl,bk_24w imm h1 h2 h3⟩
 case inr.inr.inr.inr.inr.inr.inr.inr.inr.inr.inr.inr.inr.inr.inr.inr.inr.inr.inr.inr.inr.inr.inr.inr.inl =>
  cases w
  ·have h:(rd==0&&(rn==0&&(rm==0&&(ra==0&&(bw cond 0 13&&(imm % 2==0&&bw imm (-256) 254))))))=true:=h
   simp only[Bool.and_eq_true,beq_iff_eq,decide_eq_true_eq] at h
   obtain⟨rfl,rfl,rfl,rfl,⟨c1,c2⟩,h1,h2,h3⟩:=h
   exact .inl ⟨by kernel_rfl,by kernel_rfl,bk_25 imm h1 h2 h3 cond c1 c2⟩
  ·have h:(rd==0&&(rn==0&&(rm==0&&(ra==0&&(bw cond 0 13&&(imm % 2==0&&bw imm (-1048576) 1048574))))))=true:=h
   simp only[Bool.and_eq_true,beq_iff_eq,decide_eq_true_eq] at h
   obtain⟨rfl,rfl,rfl,rfl,⟨c1,c2⟩,h1,h2,h3⟩:=h
   exact .inr ⟨by kernel_rfl,by kernel_rfl,bk_25w imm h1 h2 h3 cond c1 c2⟩
 all_goals
  cases w
  case true=>exact Bool.noConfusion (show false=true from h)
 ·have h:(cond==0&&(rd==0&&(rn==0&&(rm==0&&(ra==0&&imm==0)))))=true:=h
  simp only[Bool.and_eq_true,beq_iff_eq] at h
  obtain⟨rfl,rfl,rfl,rfl,rfl,rfl⟩:=h
  exact .inl ⟨by kernel_rfl,by kernel_rfl,bk_1⟩
 ·have h:(cond==0&&(rd==0&&(rn==0&&(rm==0&&(ra==0&&bw imm 0 255)))))=true:=h
  simp only[Bool.and_eq_true,beq_iff_eq,decide_eq_true_eq] at h
  obtain⟨rfl,rfl,rfl,rfl,rfl,h1,h2⟩:=h
  exact .inl ⟨by kernel_rfl,by kernel_rfl,bk_2 imm h1 h2⟩
 ·have h:(cond==0&&(bw rd 0 12&&(rn==0&&(rm==0&&(ra==0&&bw imm 0 65535)))))=true:=h
  simp only[Bool.and_eq_true,beq_iff_eq,decide_eq_true_eq] at h
  obtain⟨rfl,⟨d1,d2⟩,rfl,rfl,rfl,h1,h2⟩:=h
  exact .inr ⟨by kernel_rfl,by kernel_rfl,bk_3 rd d1 d2 imm h1 h2⟩
 ·have h:(cond==0&&(bw rd 0 12&&(rn==0&&(rm==0&&(ra==0&&bw imm 0 65535)))))=true:=h
  simp only[Bool.and_eq_true,beq_iff_eq,decide_eq_true_eq] at h
  obtain⟨rfl,⟨d1,d2⟩,rfl,rfl,rfl,h1,h2⟩:=h
  exact .inr ⟨by kernel_rfl,by kernel_rfl,bk_4 rd d1 d2 imm h1 h2⟩
 ·have h:(cond==0&&(bw rd 0 12&&(rn==0&&(bw rm 0 12&&(ra==0&&bw imm 0 31)))))=true:=h
  simp only[Bool.and_eq_true,beq_iff_eq,decide_eq_true_eq] at h
  obtain⟨rfl,⟨d1,d2⟩,rfl,⟨m1,m2⟩,rfl,h1,h2⟩:=h
  exact .inr ⟨by kernel_rfl,by kernel_rfl,bk_5 rd d1 d2 rm m1 m2 imm h1 h2⟩
 ·have h:(cond==0&&(bw rd 0 12&&(rn==0&&(bw rm 0 12&&(ra==0&&bw imm 1 31)))))=true:=h
  simp only[Bool.and_eq_true,beq_iff_eq,decide_eq_true_eq] at h
  obtain⟨rfl,⟨d1,d2⟩,rfl,⟨m1,m2⟩,rfl,h1,h2⟩:=h
  exact .inr ⟨by kernel_rfl,by kernel_rfl,bk_6 rd d1 d2 rm m1 m2 imm h1 h2⟩
 ·have h:(cond==0&&(bw rd 0 12&&(rn==0&&(bw rm 0 12&&(ra==0&&bw imm 1 31)))))=true:=h
  simp only[Bool.and_eq_true,beq_iff_eq,decide_eq_true_eq] at h
  obtain⟨rfl,⟨d1,d2⟩,rfl,⟨m1,m2⟩,rfl,h1,h2⟩:=h
  exact .inr ⟨by kernel_rfl,by kernel_rfl,bk_7 rd d1 d2 rm m1 m2 imm h1 h2⟩
 ·have h:(cond==0&&(bw rd 0 12&&(rn==0&&(bw rm 0 12&&(ra==0&&bw imm 1 31)))))=true:=h
  simp only[Bool.and_eq_true,beq_iff_eq,decide_eq_true_eq] at h
  obtain⟨rfl,⟨d1,d2⟩,rfl,⟨m1,m2⟩,rfl,h1,h2⟩:=h
  exact .inr ⟨by kernel_rfl,by kernel_rfl,bk_8 rd d1 d2 rm m1 m2 imm h1 h2⟩
 ·have h:(cond==0&&(bw rd 0 12&&(rn==0&&(bw rm 0 12&&(ra==0&&imm==0)))))=true:=h
  simp only[Bool.and_eq_true,beq_iff_eq,decide_eq_true_eq] at h
  obtain⟨rfl,⟨d1,d2⟩,rfl,⟨m1,m2⟩,rfl,rfl⟩:=h
  exact .inr ⟨by kernel_rfl,by kernel_rfl,bk_9 rd d1 d2 rm m1 m2⟩
 ·have h:(cond==0&&(bw rd 0 12&&(bw rn 0 12&&(bw rm 0 12&&(ra==0&&imm==0)))))=true:=h
  simp only[Bool.and_eq_true,beq_iff_eq,decide_eq_true_eq] at h
  obtain⟨rfl,⟨d1,d2⟩,⟨n1,n2⟩,⟨m1,m2⟩,rfl,rfl⟩:=h
  exact .inr ⟨by kernel_rfl,by kernel_rfl,bk_10 rd d1 d2 rn n1 n2 rm m1 m2⟩
 ·have h:(cond==0&&(bw rd 0 12&&(bw rn 0 12&&(bw rm 0 12&&(ra==0&&imm==0)))))=true:=h
  simp only[Bool.and_eq_true,beq_iff_eq,decide_eq_true_eq] at h
  obtain⟨rfl,⟨d1,d2⟩,⟨n1,n2⟩,⟨m1,m2⟩,rfl,rfl⟩:=h
  exact .inr ⟨by kernel_rfl,by kernel_rfl,bk_11 rd d1 d2 rn n1 n2 rm m1 m2⟩
 ·have h:(cond==0&&(bw rd 0 12&&(bw rn 0 12&&(bw rm 0 12&&(ra==0&&imm==0)))))=true:=h
  simp only[Bool.and_eq_true,beq_iff_eq,decide_eq_true_eq] at h
  obtain⟨rfl,⟨d1,d2⟩,⟨n1,n2⟩,⟨m1,m2⟩,rfl,rfl⟩:=h
  exact .inr ⟨by kernel_rfl,by kernel_rfl,bk_12 rd d1 d2 rn n1 n2 rm m1 m2⟩
 ·have h:(cond==0&&(bw rd 0 12&&(bw rn 0 12&&(bw rm 0 12&&(ra==0&&imm==0)))))=true:=h
  simp only[Bool.and_eq_true,beq_iff_eq,decide_eq_true_eq] at h
  obtain⟨rfl,⟨d1,d2⟩,⟨n1,n2⟩,⟨m1,m2⟩,rfl,rfl⟩:=h
  exact .inr ⟨by kernel_rfl,by kernel_rfl,bk_13 rd d1 d2 rn n1 n2 rm m1 m2⟩
 ·have h:(cond==0&&(bw rd 0 12&&(bw rn 0 12&&(bw rm 0 12&&(ra==0&&imm==0)))))=true:=h
  simp only[Bool.and_eq_true,beq_iff_eq,decide_eq_true_eq] at h
  obtain⟨rfl,⟨d1,d2⟩,⟨n1,n2⟩,⟨m1,m2⟩,rfl,rfl⟩:=h
  exact .inr ⟨by kernel_rfl,by kernel_rfl,bk_14 rd d1 d2 rn n1 n2 rm m1 m2⟩
 ·have h:(cond==0&&(bw rd 0 12&&(bw rn 0 12&&(bw rm 0 12&&(ra==0&&imm==0)))))=true:=h
  simp only[Bool.and_eq_true,beq_iff_eq,decide_eq_true_eq] at h
  obtain⟨rfl,⟨d1,d2⟩,⟨n1,n2⟩,⟨m1,m2⟩,rfl,rfl⟩:=h
  exact .inr ⟨by kernel_rfl,by kernel_rfl,bk_15 rd d1 d2 rn n1 n2 rm m1 m2⟩
 ·have h:(cond==0&&(bw rd 0 12&&(bw rn 0 12&&(bw rm 0 12&&(ra==0&&imm==0)))))=true:=h
  simp only[Bool.and_eq_true,beq_iff_eq,decide_eq_true_eq] at h
  obtain⟨rfl,⟨d1,d2⟩,⟨n1,n2⟩,⟨m1,m2⟩,rfl,rfl⟩:=h
  exact .inr ⟨by kernel_rfl,by kernel_rfl,bk_16 rd d1 d2 rn n1 n2 rm m1 m2⟩
 ·have h:(cond==0&&(bw rd 0 12&&(bw rn 0 12&&(bw rm 0 12&&(bw ra 0 12&&(imm==0&&ra != rd))))))=true:=h
  simp only[Bool.and_eq_true,beq_iff_eq,decide_eq_true_eq,bne_iff_ne] at h
  obtain⟨rfl,⟨d1,d2⟩,⟨n1,n2⟩,⟨m1,m2⟩,⟨a1,a2⟩,rfl,hne⟩:=h
  exact .inr ⟨by kernel_rfl,by kernel_rfl,bk_17 rd d1 d2 ra a1 a2 rn n1 n2 rm m1 m2 hne⟩
 ·have h:(cond==0&&(bw rd 0 12&&(bw rn 0 12&&(rm==0&&(bw imm 0 31&&bw ra 1 (32-imm))))))=true:=h
  simp only[Bool.and_eq_true,beq_iff_eq,decide_eq_true_eq] at h
  obtain⟨rfl,⟨d1,d2⟩,⟨n1,n2⟩,rfl,⟨h1,h2⟩,a1,a2⟩:=h
  exact .inr ⟨by kernel_rfl,by kernel_rfl,bk_18 rd d1 d2 rn n1 n2 imm h1 h2 ra a1 a2⟩
 ·have h:(cond==0&&(bw rd 0 7&&(bw rn 0 7&&(rm==0&&(ra==0&&imm==0)))))=true:=h
  simp only[Bool.and_eq_true,beq_iff_eq,decide_eq_true_eq] at h
  obtain⟨rfl,⟨d1,d2⟩,⟨n1,n2⟩,rfl,rfl,rfl⟩:=h
  exact .inl ⟨by kernel_rfl,by kernel_rfl,bk_19 rd d1 d2 rn n1 n2⟩
 ·have h:(cond==0&&(bw rd 0 7&&(bw rn 0 7&&(rm==0&&(ra==0&&imm==0)))))=true:=h
  simp only[Bool.and_eq_true,beq_iff_eq,decide_eq_true_eq] at h
  obtain⟨rfl,⟨d1,d2⟩,⟨n1,n2⟩,rfl,rfl,rfl⟩:=h
  exact .inl ⟨by kernel_rfl,by kernel_rfl,bk_20 rd d1 d2 rn n1 n2⟩
 ·have h:(cond==0&&(bw rd 0 7&&(bw rn 0 7&&(rm==0&&(ra==0&&imm==0)))))=true:=h
  simp only[Bool.and_eq_true,beq_iff_eq,decide_eq_true_eq] at h
  obtain⟨rfl,⟨d1,d2⟩,⟨n1,n2⟩,rfl,rfl,rfl⟩:=h
  exact .inl ⟨by kernel_rfl,by kernel_rfl,bk_21 rd d1 d2 rn n1 n2⟩
 ·have h:(cond==0&&(bw rd 0 7&&(bw rn 0 7&&(rm==0&&(ra==0&&imm==0)))))=true:=h
  simp only[Bool.and_eq_true,beq_iff_eq,decide_eq_true_eq] at h
  obtain⟨rfl,⟨d1,d2⟩,⟨n1,n2⟩,rfl,rfl,rfl⟩:=h
  exact .inl ⟨by kernel_rfl,by kernel_rfl,bk_22 rd d1 d2 rn n1 n2⟩
 ·have h:(cond==0&&(rd==0&&(bw rn 0 7&&(bw rm 0 7&&(ra==0&&imm==0)))))=true:=h
  simp only[Bool.and_eq_true,beq_iff_eq,decide_eq_true_eq] at h
  obtain⟨rfl,rfl,⟨n1,n2⟩,⟨m1,m2⟩,rfl,rfl⟩:=h
  exact .inl ⟨by kernel_rfl,by kernel_rfl,bk_23 rn n1 n2 rm m1 m2⟩
end Go.Av
end
section
namespace Go.Av
open Go
theorem strInts_bytes (l:List UInt8):∀b∈strInts l,0≤b∧b<256:=by
 intro b hb
 obtain⟨u,_,rfl⟩:=List.mem_map.1 hb
 have:=u.toNat_lt
 omega
theorem bytes4_length (v:Int):(bytes4 v).length=4:=by
 unfold bytes4 strInts
 rw[List.length_map]
 rfl
theorem mend_length {α:Type} (xs:List α) (o:Nat) (ys:List α) (n:Nat) (h:o+min ys.length n≤xs.length):(mend xs o ys n).length=xs.length:=by
 unfold mend
 simp
 omega
theorem mend_mem {α:Type} {xs ys:List α} {o n:Nat} {b:α} (h:b∈mend xs o ys n):b∈xs∨b∈ys:=by
 unfold mend at h
 rcases List.mem_append.1 h with h |h
 ·rcases List.mem_append.1 h with h |h
  ·exact .inl (List.mem_of_mem_take h)
  ·exact .inr (List.mem_of_mem_take h)
 ·exact .inl (List.mem_of_mem_drop h)
theorem store_wf {y:MemT} (hy:MemWf y) (a n v:Int):MemWf (storeM y a n v).2∧(storeM y a n v).2.1=y.1:=by
 unfold storeM
 rcases findM_cases y.1.1 a n true with⟨e,he,hf⟩ |⟨j,hj,hn,_,hf⟩
 ·rw[hf]
  have hb:(e != 0)=true:=by simpa using he
  dsimp only
  rw[hb]
  exact⟨hy,rfl⟩
 ·rw[hf]
  obtain⟨_,_,_,_,g5,_,_⟩:=acc_ok hy hj hn
  have hl:=mend_length y.2 (posM y j a) (bytes4 v) n.toNat (by rw[bytes4_length];omega)
  refine⟨⟨hy.regs,hy.len,fun i hi=>?_,fun b hb=>?_⟩,rfl⟩
  ·obtain⟨w1,w2⟩:=hy.wins i hi
   exact⟨w1,by show _≤(mend y.2 (posM y j a) (bytes4 v) n.toNat).length;rw[hl];exact w2⟩
  ·rcases mend_mem (show b∈mend y.2 (posM y j a) (bytes4 v) n.toNat from hb) with h |h
   ·exact hy.bytes b h
   ·exact strInts_bytes _ b h
theorem wordR_length (r:List Int):(wordR r).length=r.length:=by unfold wordR;simp
theorem regsOf_length (r:List Int) (op rd rn rm ra imm ld:Int):(regsOf r op rd rn rm ra imm ld).length=r.length:=by
 unfold regsOf
 cases op==17
 ·cases makesRd op<;>simp
 ·simp
theorem step_len (s:tState.den) (i:tIns.den) (ld:Int) (h:List.length s.1=15):List.length (qG (s,i,ld)).1.1=15:=by
 obtain⟨op,rd,rn,rm,ra,imm,cond,w,u⟩:=i
 have hw:List.length (wState s).1=15:=by
  show(wordR s.1).length=15
  rw[wordR_length,h]
 show List.length (stepV _ s op rd rn rm ra imm cond w ld).1.1=15
 unfold stepV
 cases (qd (op,rd,rn,rm,ra,imm,cond,w,u) != 0||op==2)
 ·show List.length (bif op==24||op==25 then wState s else makesS (wState s) op rd rn rm ra imm ld).1=15
  cases op==24||op==25
  ·show List.length (makesS (wState s) op rd rn rm ra imm ld).1=15
   unfold makesS
   cases op==23
   ·show(regsOf (wState s).1 op rd rn rm ra imm ld).length=15
    rw[regsOf_length,hw]
   ·exact hw
  ·exact hw
 ·exact hw
theorem accessV_addr (bad:Bool) (op a d:Int):(show Int from(accessV bad op a d).1.1)=0∨(show Int from(accessV bad op a d).1.1)=(wn a:Int):=by
 unfold accessV
 cases bad<;>cases op==19<;>cases op==20<;>cases op==21<;>cases op==22<;>first|exact .inl rfl |exact .inr rfl
theorem access_addr (st:tState.den) (ins:tIns.den):(show Int from(qc (st,ins)).1.1)<9223372036854775808:=by
 obtain⟨op,rd,rn,rm,ra,imm,cond,w,u⟩:=ins
 have:=wn_lt (rg st.1 rn)
 rcases accessV_addr (qd (op,rd,rn,rm,ra,imm,cond,w,u) != 0) op (rg st.1 rn) (rg st.1 rd) with h |h
 ·exact Int.lt_of_le_of_lt (Int.le_of_eq h) (by decide)
 ·exact Int.lt_of_le_of_lt (Int.le_of_eq h) (by omega)
end Go.Av
end
