/- Texts of the proof, one behind the other. -/
import Derived.Test.YtamnhodjidmlcaaGreatCampaignSomeK2
import Derived.Test.YtamnhodjidmlcaaGreatCampaignSomeK1
section
namespace Go.Av
open Go
def qfm (s:List UInt8) (k:Nat):Nat:=(s.getD (2*k) 0).toNat+256*(s.getD (2*k+1) 0).toNat
theorem qy4 (s:List UInt8) (k:Nat):qfm s k<65536:=by
 unfold qfm
 have h1:=(s.getD (2*k) 0).toNat_lt
 have h2:=(s.getD (2*k+1) 0).toNat_lt
 omega
theorem qqR (b k:Nat) (hk:k≤62) (h:b*2 ^ k<4611686018427387904):qC .i64 (b:Int) (k:Int)=((b*2 ^ k:Nat):Int):=by
 rw[qrh _ _ (by omega),show(b:Int)*2 ^ k=((b*2 ^ k:Nat):Int) by simp,qt (by omega) (by omega)]
theorem qQ0 (a b k:Nat) (hk:k≤62) (ha:a<2 ^ k) (h:b*2 ^ k<4611686018427387904):bor .i64 (a:Int) (qC .i64 (b:Int) (k:Int))=((b*2 ^ k+a:Nat):Int):=by
 have hp:2 ^ k≤2 ^ 62:=qeU hk
 rw[qqR b k hk h,qth (by omega) (by omega),Nat.or_comm,Nat.mul_comm b,Nat.two_pow_add_eq_or_of_lt ha]
abbrev qmT:List Ty:=[(.int .i64),(.int .i64),(.int .i64)]
abbrev qpt:Sh:=Sh.ty (Ty.int IntKind.i64)
def qpg (x:qc qmT):PO (Sh.den qpt) :=
 (.ite (!decide (x.2.1<0)&&!decide (x.2.2<0))
  (.ret (qbC IntKind.i64 (qba IntKind.i64 x.1 x.2.1) (w64 (qC IntKind.i64 1 x.2.2-1))))
  .fail)
def qn (x:qc qmT):Bool:=decide (0≤x.2.1)&&(decide (x.2.1≤16)&&(decide (0≤x.2.2)&&decide (x.2.2≤24)))
def qa (x:qc qmT):Sh.den qpt:=x.1 / (2 ^ x.2.1.toNat:Nat) % (2 ^ x.2.2.toNat:Nat)
theorem qOf (n at_ many:Int) (h1:0≤at_) (h2:at_≤16) (h3:0≤many) (h4:many≤24):qbC IntKind.i64 (qba IntKind.i64 n at_) (w64 (qC IntKind.i64 1 many-1))=n / (2 ^ at_.toNat:Nat) % (2 ^ many.toNat:Nat):=by
 obtain⟨a,rfl⟩:=Int.eq_ofNat_of_zero_le h1
 obtain⟨m,rfl⟩:=Int.eq_ofNat_of_zero_le h3
 have hp:2 ^ m≤2 ^ 24:=qeU (by omega)
 have hp0:=Nat.two_pow_pos m
 have e:=qqR 1 m (by omega) (by omega)
 rw[qnX n a (by omega),show qC IntKind.i64 1 (m:Int)=_ from e,qt (by omega) (by omega),Nat.one_mul,qjW _ m (by omega),Int.toNat_natCast,Int.toNat_natCast]
theorem qRF (n a m:Int) (h1:0≤a) (h2:a≤16) (h3:0≤m) (h4:m≤24):(qpg (n,a,m)).val=some (qa (n,a,m)):=by
 have e:=qOf n a m h1 h2 h3 h4
 unfold qpg PO.val
 dsimp only
 rw[qW (p:=a<0) (by omega),qW (p:=m<0) (by omega)]
 exact congrArg some e
theorem qBs (x:qc qmT) (h:qn x=true):(qpg x).val=some (qa x):=by
 simp only[qn,Bool.and_eq_true,decide_eq_true_eq] at h
 exact qRF x.1 x.2.1 x.2.2 h.1 h.2.1 h.2.2.1 h.2.2.2
abbrev qm1:List Ty:=[.str,(.int .i64)]
abbrev qpb:Sh:=Sh.ty (Ty.int IntKind.i64)
def qpi (x:qc qm1):PO (Sh.den qpb) :=
 (.ite (inRange (w64 (2*x.2)) (List.length x.1)&&inRange (w64 (w64 (2*x.2)+1)) (List.length x.1))
  (.ret (bor IntKind.i64 (w64 (u8I (List.getD x.1 (Int.toNat (w64 (2*x.2))) 0))) (qC IntKind.i64 (w64 (u8I (List.getD x.1 (Int.toNat (w64 (w64 (2*x.2)+1))) 0))) 8)))
  .fail)
def qcC (x:qc qm1):Bool:=(x.2==0&&decide (2≤qh x.1))||(x.2==1&&decide (4≤qh x.1))
def qco (x:qc qm1):Sh.den qpb:=(qfm x.1 x.2.toNat:Int)
theorem qI9 (s:List UInt8) (k:Nat) (hk:k≤1) (h:2*k+2≤s.length):(qpi (s,(k:Int))).val=some (qfm s k:Int):=by
 have e1:w64 (2*(k:Int))=((2*k:Nat):Int):=by rw[qt (by omega) (by omega)];omega
 have e2:w64 (((2*k:Nat):Int)+1)=((2*k+1:Nat):Int):=by rw[qt (by omega) (by omega)];omega
 have l1:=(s.getD (2*k) 0).toNat_lt
 have l2:=(s.getD (2*k+1) 0).toNat_lt
 unfold qpi PO.val
 dsimp only
 rw[e1,e2,inR (show 2*k<s.length by omega),inR (show 2*k+1<s.length by omega),qhE,qhE]
 unfold qfm u8I
 generalize (s.getD (2*k) 0).toNat=a at *
 generalize (s.getD (2*k+1) 0).toNat=b at *
 rw[qrb (by omega),qrb (by omega)]
 have:=qQ0 a b 8 (by omega) (by omega) (by omega)
 dsimp only[Bool.and_self,cond_true,PO.val]
 rw[show bor IntKind.i64 (a:Int) (qC IntKind.i64 (b:Int) 8)=((b*2 ^ 8+a:Nat):Int) from this]
 exact congrArg some (congrArg Nat.cast (by omega:b*2 ^ 8+a=a+256*b))
theorem qCc (x:qc qm1) (h:qcC x=true):(qpi x).val=some (qco x):=by
 obtain⟨s,n⟩:=x
 simp only[qcC,Bool.or_eq_true,Bool.and_eq_true,beq_iff_eq,decide_eq_true_eq] at h
 rcases h with⟨h,hl⟩ |⟨h,hl⟩
 ·subst h
  exact qI9 s 0 (by omega) (by simp only[qh] at hl;omega)
 ·subst h
  exact qI9 s 1 (by omega) (by simp only[qh] at hl;omega)
abbrev qkJ:List Ty:=[(.int .i64),(.int .i64)]
abbrev qnq:Sh:=Sh.ty (Ty.int IntKind.i64)
def qln (x:qc qkJ):PO (Sh.den qnq) :=
 (.ite (!decide (w64 (x.2-1)<0))
  (.ite (qba IntKind.i64 x.1 (w64 (x.2-1))==1)
  (.ite (!decide (x.2<0))
   (.ret (w64 (x.1-qC IntKind.i64 1 x.2)))
   .fail)
  (.ret (x.1)))
  .fail)
def qcK (x:qc qkJ):Bool:=decide (1≤x.2)&&(decide (x.2≤24)&&(decide (0≤x.1)&&decide (x.1<33554432)))
def qb8 (x:qc qkJ):Sh.den qnq:=bif x.1 / (2 ^ (x.2-1).toNat:Nat)==1 then x.1-(2 ^ x.2.toNat:Nat) else x.1
theorem qOy (n:Int) (k:Nat) (hk:k≤23) (h3:0≤n) (h4:n<33554432):(qln (n,((k+1:Nat):Int))).val=some (qb8 (n,((k+1:Nat):Int))):=by
 have hp:2 ^ (k+1)≤2 ^ 24:=qeU (by omega)
 have e1:w64 (((k+1:Nat):Int)-1)=(k:Int):=by rw[qt (by omega) (by omega)];omega
 have e2:=qnX n k (by omega)
 have e3:=qqR 1 (k+1) (by omega) (by omega)
 have e4:(((k+1:Nat):Int)-1).toNat=k:=by omega
 unfold qln qb8 PO.val
 dsimp only
 rw[e1,e2,e4,show qC IntKind.i64 1 ((k+1:Nat):Int)=_ from e3,qW (p:=(k:Int)<0) (by omega),qW (p:=((k+1:Nat):Int)<0) (by omega),Nat.one_mul,Int.toNat_natCast]
 rw[qt (n:=n-((2 ^ (k+1):Nat):Int)) (by omega) (by omega)]
 cases n / ((2 ^ k:Nat):Int)==1<;>rfl
theorem qL1 (n m:Int) (h1:1≤m) (h2:m≤24) (h3:0≤n) (h4:n<33554432):(qln (n,m)).val=some (qb8 (n,m)):=by
 obtain⟨k,rfl⟩:∃k:Nat,m=((k+1:Nat):Int):=⟨(m-1).toNat,by omega⟩
 exact qOy n k (by omega) h3 h4
theorem qyX (x:qc qkJ) (h:qcK x=true):(qln x).val=some (qb8 x):=by
 simp only[qcK,Bool.and_eq_true,decide_eq_true_eq] at h
 exact qL1 x.1 x.2 h.1 h.2.1 h.2.2.1 h.2.2.2
def qdS:LoopN where
 M:=[2,5,6,7]
 T:=[4,8,9,10,11,12,13]
 D:=[5,6,7]
 ss:=[.ty .bool,.ty (.sl (.int .i64)),.ty (.int .i64),.ty (.int .i64)]
 hs:=[]
 es:=[.exit 0,.ret]
 σ:=(Ty.den .bool)×(Ty.den (.int .i64))
 x0:=fun x _=>(x.1,x.2.2.2)
 put:=fun x _ s=>((s.1,x.2.1,x.2.2.1,s.2),())
 fuel:=fun x _=>List.length x.2.1+1
 turn:=fun x _ s =>
 (.ite (decide (s.2<x.2.2.1))
  (.ite (inRange s.2 (List.length x.2.1))
  (.ite (decide (List.getD x.2.1 (Int.toNat s.2) (Ty.dflt (Ty.int IntKind.i64)) > 12))
   (.ret (.out 1 (false,s.2)))
   (.ret (.on (s.1,w64 (s.2+1)))))
  .fail)
  (.ret (.out 0 (s.1,s.2))))
theorem qH2 (r:List Int) (hr:r.length<100) (ok:Bool):∀(k i:Nat),i+k=r.length→∀f,k<f →
  ∃o st,qcF (qdS.turn (false,r,((r.length:Nat):Int),0) ()) f (ok,(i:Int))=some (o,st)∧(PO.ite (way o) (.ret true) (.ret st.1)).val=some ((r.drop i).all fun x=>decide (x≤12))
 |0,i,h,f,hf=>by
  obtain⟨f,rfl⟩:∃g,f=g+1:=⟨f-1,by omega⟩
  refine⟨0,(ok,(i:Int)),qbg ?_,by rw[List.drop_of_length_le (by omega)];rfl⟩
  dsimp only[qdS,PO.val]
  rw[qW (p:=(i:Int)<((r.length:Nat):Int)) (by omega)]
  rfl
 |k+1,i,h,f,hf=>by
  obtain⟨f,rfl⟩:∃g,f=g+1:=⟨f-1,by omega⟩
  have hi:i<r.length:=by omega
  have hw:w64 ((i:Int)+1)=((i+1:Nat):Int):=by rw[qt (by omega) (by omega)];omega
  rw[List.drop_eq_getElem_cons hi,List.all_cons]
  by_cases hb:r[i]≤12
  ·have e:(qdS.turn (false,r,((r.length:Nat):Int),0) () (ok,(i:Int))).val=some (.on (ok,((i+1:Nat):Int))):=by
    dsimp only[qdS,PO.val]
    rw[qK (p:=(i:Int)<((r.length:Nat):Int)) (by omega),inR hi,qhE,qgY r _ hi,qW (p:=r[i] > 12) (by omega),hw]
    rfl
   obtain⟨o,st,g1,g2⟩:=qH2 r hr ok k (i+1) (by omega) f (by omega)
   exact⟨o,st,(qcx e).trans g1,by rw[qK hb,Bool.true_and];exact g2⟩
  ·have e:(qdS.turn (false,r,((r.length:Nat):Int),0) () (ok,(i:Int))).val=some (.out 1 (false,(i:Int))):=by
    dsimp only[qdS,PO.val]
    rw[qK (p:=(i:Int)<((r.length:Nat):Int)) (by omega),inR hi,qhE,qgY r _ hi,qK (p:=r[i] > 12) (by omega)]
    rfl
   exact⟨1,_,qbg e,by rw[qW hb];rfl⟩
abbrev qmW:List Ty:=[(.sl (.int .i64))]
abbrev qpC:Sh:=Sh.ty Ty.bool
def qss (x:qc qmW):PO (Sh.den qpC) :=
 (.opt (LoopN.res qdS (false,x,qh x,0) ()) fun p0 =>
  (.ite (way p0.1)
  (.ret (true))
  (.ret (p0.2.1))))
def qbj (x:qc qmW):Bool:=Nat.blt (List.length x) 100
def qbL (x:qc qmW):Sh.den qpC:=List.all x fun r=>decide ((r:Int)≤12)
theorem qCo (x:qc qmW) (h:qbj x=true):(qss x).val=some (qbL x):=by
 have hl:List.length x<100:=Nat.blt_eq▸h
 obtain⟨o,st,h1,h2⟩:=qH2 x hl false (List.length x) 0 (by omega) (List.length x+1) (by omega)
 have h1':LoopN.res qdS (false,x,qh x,0) ()=some (o,st):=h1
 unfold qss PO.val
 rw[h1']
 exact h2
abbrev qmZ:List Ty:=[.str]
abbrev qpx:Sh:=Sh.ty (Ty.int IntKind.i64)
def qsE (x:qc qmZ):PO (Sh.den qpx) :=
 (.ite (decide (qh x<2))
  (.ret (0))
  (.ite (qcC (x,0))
  (.ite (decide (qba IntKind.i64 (qco (x,0)) 11≥29))
   (.ret (4))
   (.ret (2)))
  .fail))
def qsA (_:qc qmZ):Bool:=true
def qbv (x:qc qmZ):Sh.den qpx:=bif decide (qh x<2) then 0 else bif Nat.ble 59392 (qfm x 0) then 4 else 2
theorem qBK (x:qc qmZ) (_:qsA x=true):(qsE x).val=some (qbv x):=by
 unfold qsE qbv PO.val
 cases hl:decide (qh x<2)
 ·have hl:=of_decide_eq_false hl
  have g:qcC (x,0)=true:=by
   simp only[qcC,Bool.or_eq_true,Bool.and_eq_true,beq_iff_eq,decide_eq_true_eq]
   exact .inl ⟨trivial,by omega⟩
  have e:qba IntKind.i64 (qco (x,0)) 11=((qfm x 0:Nat):Int) / (2 ^ 11:Nat):=qnX _ 11 (by omega)
  dsimp only[cond_false,PO.val]
  rw[g,e]
  dsimp only[cond_true,PO.val]
  cases hb:Nat.ble 59392 (qfm x 0)
  ·have hb:¬59392≤qfm x 0:=by rw[←Nat.ble_eq,hb];simp
   rw[qW (by omega)]
   rfl
  ·have hb:=Nat.le_of_ble_eq_true hb
   rw[qK (by omega)]
   rfl
 ·rfl
abbrev qk2:List Ty:=[(.int .i64)]
abbrev qnA:Sh:=Sh.tup (Sh.pair (Sh.ty qbd) (Sh.pair (Sh.ty Ty.bool) (Sh.ty Ty.unit)))
def qiT (x:qc qk2):PO (Sh.den qnA) :=
 (.ite (qn (x,0,3)&&qn (x,3,3))
  (.ite (x==48896)
  (.ret (((1,0,0,0,0,0,0,false,()),true,())))
  (.ite (qba IntKind.i64 x 8==190)
   (.ite (qn (x,0,8))
   (.ret (((2,0,0,0,0,qa (x,0,8),0,false,()),true,())))
   .fail)
   (.ite (qba IntKind.i64 x 6==416)
   (.ret (((19,qa (x,0,3),qa (x,3,3),0,0,0,0,false,()),true,())))
   (.ite (qba IntKind.i64 x 6==384)
    (.ret (((20,qa (x,0,3),qa (x,3,3),0,0,0,0,false,()),true,())))
    (.ite (qba IntKind.i64 x 6==480)
    (.ret (((21,qa (x,0,3),qa (x,3,3),0,0,0,0,false,()),true,())))
    (.ite (qba IntKind.i64 x 6==448)
     (.ret (((22,qa (x,0,3),qa (x,3,3),0,0,0,0,false,()),true,())))
     (.ite (qba IntKind.i64 x 6==266)
     (.ret (((23,0,qa (x,0,3),qa (x,3,3),0,0,0,false,()),true,())))
     (.ite (qba IntKind.i64 x 11==28)
      (.ite (qn (x,0,11))
      (.ite (qcK (qa (x,0,11),11))
       (.ret (((24,0,0,0,0,w64 (2*qb8 (qa (x,0,11),11)),0,false,()),true,())))
       .fail)
      .fail)
      (.ite (bif qba IntKind.i64 x 12==13 then qn (x,8,4) else true)
      (.ite (qba IntKind.i64 x 12==13&&decide (qa (x,8,4)≤13))
       (.ite (qn (x,8,4))
       (.ite (qn (x,0,8))
        (.ite (qcK (qa (x,0,8),8))
        (.ret (((25,0,0,0,0,w64 (2*qb8 (qa (x,0,8),8)),qa (x,8,4),false,()),true,())))
        .fail)
        .fail)
       .fail)
       (.ret (((0,0,0,0,0,0,0,false,()),false,()))))
      .fail)))))))))
  .fail)
def qgx (x:qc qk2):Bool:=(qiT x).val.isSome
def qdq (x:qc qk2):Sh.den qnA:=(qiT x).qQ default
theorem qy1 (x:qc qk2) (h:qgx x=true):(qiT x).val=some (qdq x):=PO.qb7 default h
abbrev qlS:List Ty:=[(.int .i64),(.int .i64)]
abbrev qoM:Sh:=Sh.tup (Sh.pair (Sh.ty qbd) (Sh.pair (Sh.ty Ty.bool) (Sh.ty Ty.unit)))
def qjE (x:qc qlS):PO (Sh.den qoM) :=
 (.ite (qn (x.2,8,4))
  (.ite (qn (x.1,0,4))
  (.ite (qn (x.2,0,4))
   (.ite (qn (x.2,12,3)&&qn (x.2,6,2))
   (.ite (qn (x.2,4,2))
    (.ite (qba IntKind.i64 x.2 15==1)
    (.ret (((0,0,0,0,0,0,0,false,()),false,())))
    (.ite (x.1==59983)
     (.ite (qbj [qa (x.2,8,4),qa (x.2,0,4)])
     (.ite (qbL [qa (x.2,8,4),qa (x.2,0,4)])
      (.ite (qa (x.2,4,2)==0)
      (.ret (((w64 (5+qa (x.2,4,2)),qa (x.2,8,4),0,qa (x.2,0,4),0,bor IntKind.i64 (qC IntKind.i64 (qa (x.2,12,3)) 2) (qa (x.2,6,2)),0,false,()),true,())))
      (.ret (((w64 (5+qa (x.2,4,2)),qa (x.2,8,4),0,qa (x.2,0,4),0,bor IntKind.i64 (qC IntKind.i64 (qa (x.2,12,3)) 2) (qa (x.2,6,2)),0,false,()),decide (bor IntKind.i64 (qC IntKind.i64 (qa (x.2,12,3)) 2) (qa (x.2,6,2)) > 0),()))))
      (.ret (((w64 (5+qa (x.2,4,2)),qa (x.2,8,4),0,qa (x.2,0,4),0,bor IntKind.i64 (qC IntKind.i64 (qa (x.2,12,3)) 2) (qa (x.2,6,2)),0,false,()),false,()))))
     .fail)
     (.ite (x.1==60015)
     (.ite (qbj [qa (x.2,8,4),qa (x.2,0,4)])
      (.ite (qbL [qa (x.2,8,4),qa (x.2,0,4)])
      (.ite (qa (x.2,4,2)==0)
       (.ret (((9,qa (x.2,8,4),0,qa (x.2,0,4),0,0,0,false,()),bor IntKind.i64 (qC IntKind.i64 (qa (x.2,12,3)) 2) (qa (x.2,6,2))==0,())))
       (.ret (((9,qa (x.2,8,4),0,qa (x.2,0,4),0,0,0,false,()),false,()))))
      (.ret (((9,qa (x.2,8,4),0,qa (x.2,0,4),0,0,0,false,()),false,()))))
      .fail)
     (.ite (qef IntKind.i64 x.1 15==59904)
      (.ite (qbj [qa (x.2,8,4),qa (x.1,0,4),qa (x.2,0,4)])
      (.ite (qbL [qa (x.2,8,4),qa (x.1,0,4),qa (x.2,0,4)])
       (.ite (qa (x.2,4,2)==0)
       (.ret (((10,qa (x.2,8,4),qa (x.1,0,4),qa (x.2,0,4),0,0,0,false,()),bor IntKind.i64 (qC IntKind.i64 (qa (x.2,12,3)) 2) (qa (x.2,6,2))==0,())))
       (.ret (((10,qa (x.2,8,4),qa (x.1,0,4),qa (x.2,0,4),0,0,0,false,()),false,()))))
       (.ret (((10,qa (x.2,8,4),qa (x.1,0,4),qa (x.2,0,4),0,0,0,false,()),false,()))))
      .fail)
      (.ite (qef IntKind.i64 x.1 15==59936)
      (.ite (qbj [qa (x.2,8,4),qa (x.1,0,4),qa (x.2,0,4)])
       (.ite (qbL [qa (x.2,8,4),qa (x.1,0,4),qa (x.2,0,4)])
       (.ite (qa (x.2,4,2)==0)
        (.ret (((11,qa (x.2,8,4),qa (x.1,0,4),qa (x.2,0,4),0,0,0,false,()),bor IntKind.i64 (qC IntKind.i64 (qa (x.2,12,3)) 2) (qa (x.2,6,2))==0,())))
        (.ret (((11,qa (x.2,8,4),qa (x.1,0,4),qa (x.2,0,4),0,0,0,false,()),false,()))))
       (.ret (((11,qa (x.2,8,4),qa (x.1,0,4),qa (x.2,0,4),0,0,0,false,()),false,()))))
       .fail)
      (.ite (qef IntKind.i64 x.1 15==59968)
       (.ite (qbj [qa (x.2,8,4),qa (x.1,0,4),qa (x.2,0,4)])
       (.ite (qbL [qa (x.2,8,4),qa (x.1,0,4),qa (x.2,0,4)])
        (.ite (qa (x.2,4,2)==0)
        (.ret (((12,qa (x.2,8,4),qa (x.1,0,4),qa (x.2,0,4),0,0,0,false,()),bor IntKind.i64 (qC IntKind.i64 (qa (x.2,12,3)) 2) (qa (x.2,6,2))==0,())))
        (.ret (((12,qa (x.2,8,4),qa (x.1,0,4),qa (x.2,0,4),0,0,0,false,()),false,()))))
        (.ret (((12,qa (x.2,8,4),qa (x.1,0,4),qa (x.2,0,4),0,0,0,false,()),false,()))))
       .fail)
       (.ite (qef IntKind.i64 x.1 15==60032)
       (.ite (qbj [qa (x.2,8,4),qa (x.1,0,4),qa (x.2,0,4)])
        (.ite (qbL [qa (x.2,8,4),qa (x.1,0,4),qa (x.2,0,4)])
        (.ite (qa (x.2,4,2)==0)
         (.ret (((13,qa (x.2,8,4),qa (x.1,0,4),qa (x.2,0,4),0,0,0,false,()),bor IntKind.i64 (qC IntKind.i64 (qa (x.2,12,3)) 2) (qa (x.2,6,2))==0,())))
         (.ret (((13,qa (x.2,8,4),qa (x.1,0,4),qa (x.2,0,4),0,0,0,false,()),false,()))))
        (.ret (((13,qa (x.2,8,4),qa (x.1,0,4),qa (x.2,0,4),0,0,0,false,()),false,()))))
        .fail)
       (.ite (qef IntKind.i64 x.1 15==60160)
        (.ite (qbj [qa (x.2,8,4),qa (x.1,0,4),qa (x.2,0,4)])
        (.ite (qbL [qa (x.2,8,4),qa (x.1,0,4),qa (x.2,0,4)])
         (.ite (qa (x.2,4,2)==0)
         (.ret (((14,qa (x.2,8,4),qa (x.1,0,4),qa (x.2,0,4),0,0,0,false,()),bor IntKind.i64 (qC IntKind.i64 (qa (x.2,12,3)) 2) (qa (x.2,6,2))==0,())))
         (.ret (((14,qa (x.2,8,4),qa (x.1,0,4),qa (x.2,0,4),0,0,0,false,()),false,()))))
         (.ret (((14,qa (x.2,8,4),qa (x.1,0,4),qa (x.2,0,4),0,0,0,false,()),false,()))))
        .fail)
        (.ite (qef IntKind.i64 x.1 15==60320)
        (.ite (qbj [qa (x.2,8,4),qa (x.1,0,4),qa (x.2,0,4)])
         (.ite (qbL [qa (x.2,8,4),qa (x.1,0,4),qa (x.2,0,4)])
         (.ite (qa (x.2,4,2)==0)
          (.ret (((15,qa (x.2,8,4),qa (x.1,0,4),qa (x.2,0,4),0,0,0,false,()),bor IntKind.i64 (qC IntKind.i64 (qa (x.2,12,3)) 2) (qa (x.2,6,2))==0,())))
          (.ret (((15,qa (x.2,8,4),qa (x.1,0,4),qa (x.2,0,4),0,0,0,false,()),false,()))))
         (.ret (((15,qa (x.2,8,4),qa (x.1,0,4),qa (x.2,0,4),0,0,0,false,()),false,()))))
         .fail)
        (.ret (((0,0,0,0,0,0,0,false,()),false,()))))))))))))
    .fail)
   .fail)
   .fail)
  .fail)
  .fail)
def qhD (x:qc qlS):Bool:=(qjE x).val.isSome
def qdO (x:qc qlS):Sh.den qoM:=(qjE x).qQ default
theorem qzS (x:qc qlS) (h:qhD x=true):(qjE x).val=some (qdO x):=PO.qb7 default h
abbrev qjN:List Ty:=[(.int .i64),(.int .i64)]
abbrev qmg:Sh:=Sh.tup (Sh.pair (Sh.ty qbd) (Sh.pair (Sh.ty Ty.bool) (Sh.ty Ty.unit)))
def qhH (x:qc qjN):PO (Sh.den qmg) :=
 (.ite (qn (x.1,0,4))
  (.ite (qn (x.2,0,4))
  (.ite (qn (x.2,12,4)&&qn (x.2,8,4))
   (.ite (qn (x.2,4,4))
   (.ite (qa (x.2,4,4) != 0)
    (.ret (((0,0,0,0,0,0,0,false,()),false,())))
    (.ite (qef IntKind.i64 x.1 15==64256)
    (.ite (qa (x.2,12,4)==15)
     (.ite (qbj [qa (x.2,8,4),qa (x.1,0,4),qa (x.2,0,4)])
     (.ret (((16,qa (x.2,8,4),qa (x.1,0,4),qa (x.2,0,4),0,0,0,false,()),qbL [qa (x.2,8,4),qa (x.1,0,4),qa (x.2,0,4)],())))
     .fail)
     (.ret (((16,qa (x.2,8,4),qa (x.1,0,4),qa (x.2,0,4),0,0,0,false,()),false,()))))
    (.ite (qef IntKind.i64 x.1 15==64416)
     (.ite (qa (x.2,12,4) != qa (x.2,8,4))
     (.ite (qbj [qa (x.2,12,4),qa (x.2,8,4),qa (x.1,0,4),qa (x.2,0,4)])
      (.ret (((17,qa (x.2,12,4),qa (x.1,0,4),qa (x.2,0,4),qa (x.2,8,4),0,0,false,()),qbL [qa (x.2,12,4),qa (x.2,8,4),qa (x.1,0,4),qa (x.2,0,4)],())))
      .fail)
     (.ret (((17,qa (x.2,12,4),qa (x.1,0,4),qa (x.2,0,4),qa (x.2,8,4),0,0,false,()),false,()))))
     (.ret (((0,0,0,0,0,0,0,false,()),false,()))))))
   .fail)
   .fail)
  .fail)
  .fail)
def qfK (x:qc qjN):Bool:=(qhH x).val.isSome
def qda (x:qc qjN):Sh.den qmg:=(qhH x).qQ default
theorem qyk (x:qc qjN) (h:qfK x=true):(qhH x).val=some (qda x):=PO.qb7 default h
abbrev qlM:List Ty:=[(.int .i64),(.int .i64)]
abbrev qoL:Sh:=Sh.tup (Sh.pair (Sh.ty qbd) (Sh.pair (Sh.ty Ty.bool) (Sh.ty Ty.unit)))
def qjF (x:qc qlM):PO (Sh.den qoL) :=
 (.ite (qn (x.2,8,4))
  (.ite (qba IntKind.i64 x.2 15==1)
  (.ret (((0,0,0,0,0,0,0,false,()),false,())))
  (.ite (qef IntKind.i64 x.1 15==62304)
   (.ite (qn (x.1,0,4))
   (.ite (qn (x.2,12,3))
    (.ite (qn (x.2,6,2))
    (.ite (qn (x.2,0,5))
     (.ite (qn (x.2,5,1))
     (.ite (qa (x.2,5,1)==0)
      (.ite (decide (w64 (w64 (qa (x.2,0,5)+1)-bor IntKind.i64 (qC IntKind.i64 (qa (x.2,12,3)) 2) (qa (x.2,6,2)))≥1))
      (.ite (qbj [qa (x.2,8,4),qa (x.1,0,4)])
       (.ret (((18,qa (x.2,8,4),qa (x.1,0,4),0,w64 (w64 (qa (x.2,0,5)+1)-bor IntKind.i64 (qC IntKind.i64 (qa (x.2,12,3)) 2) (qa (x.2,6,2))),bor IntKind.i64 (qC IntKind.i64 (qa (x.2,12,3)) 2) (qa (x.2,6,2)),0,false,()),qbL [qa (x.2,8,4),qa (x.1,0,4)],())))
       .fail)
      (.ret (((18,qa (x.2,8,4),qa (x.1,0,4),0,w64 (w64 (qa (x.2,0,5)+1)-bor IntKind.i64 (qC IntKind.i64 (qa (x.2,12,3)) 2) (qa (x.2,6,2))),bor IntKind.i64 (qC IntKind.i64 (qa (x.2,12,3)) 2) (qa (x.2,6,2)),0,false,()),false,()))))
      (.ret (((18,qa (x.2,8,4),qa (x.1,0,4),0,w64 (w64 (qa (x.2,0,5)+1)-bor IntKind.i64 (qC IntKind.i64 (qa (x.2,12,3)) 2) (qa (x.2,6,2))),bor IntKind.i64 (qC IntKind.i64 (qa (x.2,12,3)) 2) (qa (x.2,6,2)),0,false,()),false,()))))
     .fail)
     .fail)
    .fail)
    .fail)
   .fail)
   (.ite (qef IntKind.i64 x.1 1039==62016)
   (.ite (qn (x.1,0,4))
    (.ite (qn (x.1,10,1))
    (.ite (qn (x.2,12,3))
     (.ite (qn (x.2,0,8))
     (.ite (qbj [qa (x.2,8,4)])
      (.ret (((3,qa (x.2,8,4),0,0,0,bor IntKind.i64 (bor IntKind.i64 (bor IntKind.i64 (qC IntKind.i64 (qa (x.1,0,4)) 12) (qC IntKind.i64 (qa (x.1,10,1)) 11)) (qC IntKind.i64 (qa (x.2,12,3)) 8)) (qa (x.2,0,8)),0,false,()),qbL [qa (x.2,8,4)],())))
      .fail)
     .fail)
     .fail)
    .fail)
    .fail)
   (.ite (qef IntKind.i64 x.1 1039==62144)
    (.ite (qn (x.1,0,4))
    (.ite (qn (x.1,10,1))
     (.ite (qn (x.2,12,3))
     (.ite (qn (x.2,0,8))
      (.ite (qbj [qa (x.2,8,4)])
      (.ret (((4,qa (x.2,8,4),0,0,0,bor IntKind.i64 (bor IntKind.i64 (bor IntKind.i64 (qC IntKind.i64 (qa (x.1,0,4)) 12) (qC IntKind.i64 (qa (x.1,10,1)) 11)) (qC IntKind.i64 (qa (x.2,12,3)) 8)) (qa (x.2,0,8)),0,false,()),qbL [qa (x.2,8,4)],())))
      .fail)
      .fail)
     .fail)
     .fail)
    .fail)
    (.ret (((0,0,0,0,0,0,0,false,()),false,())))))))
  .fail)
def qhz (x:qc qlM):Bool:=(qjF x).val.isSome
def qdL (x:qc qlM):Sh.den qoL:=(qjF x).qQ default
theorem qzK (x:qc qlM) (h:qhz x=true):(qjF x).val=some (qdL x):=PO.qb7 default h
abbrev qlk:List Ty:=[(.int .i64),(.int .i64)]
abbrev qnv:Sh:=Sh.tup (Sh.pair (Sh.ty qbd) (Sh.pair (Sh.ty Ty.bool) (Sh.ty Ty.unit)))
def qiU (x:qc qlk):PO (Sh.den qnv) :=
 (.ite (qn (x.1,10,1)&&(qn (x.2,13,1)&&qn (x.2,11,1)))
  (.ite (qn (x.2,0,11))
  (.ite (qba IntKind.i64 x.1 11 != 30||qba IntKind.i64 x.2 14 != 2)
   (.ret (((0,0,0,0,0,0,0,false,()),false,())))
   (.ite (qn (x.2,12,1))
   (.ite (qa (x.2,12,1)==1)
    (.ite (qn (x.1,0,10))
    (.ite (qcK (bor IntKind.i64 (bor IntKind.i64 (bor IntKind.i64 (bor IntKind.i64 (qC IntKind.i64 (qa (x.1,10,1)) 23) (qC IntKind.i64 (qie IntKind.i64 (qie IntKind.i64 1 (qa (x.2,13,1))) (qa (x.1,10,1))) 22)) (qC IntKind.i64 (qie IntKind.i64 (qie IntKind.i64 1 (qa (x.2,11,1))) (qa (x.1,10,1))) 21)) (qC IntKind.i64 (qa (x.1,0,10)) 11)) (qa (x.2,0,11)),24))
     (.ret (((24,0,0,0,0,w64 (2*qb8 (bor IntKind.i64 (bor IntKind.i64 (bor IntKind.i64 (bor IntKind.i64 (qC IntKind.i64 (qa (x.1,10,1)) 23) (qC IntKind.i64 (qie IntKind.i64 (qie IntKind.i64 1 (qa (x.2,13,1))) (qa (x.1,10,1))) 22)) (qC IntKind.i64 (qie IntKind.i64 (qie IntKind.i64 1 (qa (x.2,11,1))) (qa (x.1,10,1))) 21)) (qC IntKind.i64 (qa (x.1,0,10)) 11)) (qa (x.2,0,11)),24)),0,true,()),true,())))
     .fail)
    .fail)
    (.ite (qn (x.1,6,4))
    (.ite (qn (x.1,0,6))
     (.ite (qcK (bor IntKind.i64 (bor IntKind.i64 (bor IntKind.i64 (bor IntKind.i64 (qC IntKind.i64 (qa (x.1,10,1)) 19) (qC IntKind.i64 (qa (x.2,11,1)) 18)) (qC IntKind.i64 (qa (x.2,13,1)) 17)) (qC IntKind.i64 (qa (x.1,0,6)) 11)) (qa (x.2,0,11)),20))
     (.ret (((25,0,0,0,0,w64 (2*qb8 (bor IntKind.i64 (bor IntKind.i64 (bor IntKind.i64 (bor IntKind.i64 (qC IntKind.i64 (qa (x.1,10,1)) 19) (qC IntKind.i64 (qa (x.2,11,1)) 18)) (qC IntKind.i64 (qa (x.2,13,1)) 17)) (qC IntKind.i64 (qa (x.1,0,6)) 11)) (qa (x.2,0,11)),20)),qa (x.1,6,4),true,()),decide (qa (x.1,6,4)≤13),())))
     .fail)
     .fail)
    .fail))
   .fail))
  .fail)
  .fail)
def qgV (x:qc qlk):Bool:=(qiU x).val.isSome
def qdn (x:qc qlk):Sh.den qnv:=(qiU x).qQ default
theorem qyM (x:qc qlk) (h:qgV x=true):(qiU x).val=some (qdn x):=PO.qb7 default h
abbrev qmP:List Ty:=[(.int .i64),(.int .i64)]
abbrev qpm:Sh:=Sh.tup (Sh.pair (Sh.ty qbd) (Sh.pair (Sh.ty Ty.bool) (Sh.ty Ty.unit)))
def qks (x:qc qmP):PO (Sh.den qpm) :=
 (.ite (qhD x) (.ite (qdO x).2.1 (.ret ((qdO x).1,true,())) (.ite (qfK x) (.ite (qda x).2.1 (.ret ((qda x).1,true,())) (.ite (qhz x) (.ite (qdL x).2.1 (.ret ((qdL x).1,true,())) (.ite (qgV x) (.ite (qdn x).2.1 (.ret ((qdn x).1,true,())) (.ret ((0,0,0,0,0,0,0,false,()),false,()))) .fail)) .fail)) .fail)) .fail)
def qkt (x:qc qmP):Bool:=(qks x).val.isSome
def qiV (x:qc qmP):Sh.den qpm:=(qks x).qQ default
theorem qBc (x:qc qmP) (h:qkt x=true):(qks x).val=some (qiV x):=PO.qb7 default h
abbrev qk9:List Ty:=[.str]
abbrev qnt:Sh:=Sh.tup (Sh.pair (Sh.ty qbd) (Sh.pair (Sh.ty (Ty.int IntKind.i64)) (Sh.pair (Sh.ty (Ty.int IntKind.i64)) (Sh.ty Ty.unit))))
def qiS (x:qc qk9):PO (Sh.den qnt) :=
 (.ite (qbv x==0||decide (qh x<qbv x))
  (.ret (((0,0,0,0,0,0,0,false,()),0,3,())))
  (.ite (qbv x==2)
  (.ite (qcC (x,0))
   (.ite (qgx (qco (x,0)))
   (.ite (!(qdq (qco (x,0))).2.1)
    (.ret (((0,0,0,0,0,0,0,false,()),0,7,())))
    (.ret (((qdq (qco (x,0))).1,qbv x,0,()))))
   .fail)
   .fail)
  (.ite (qcC (x,0))
   (.ite (qcC (x,1))
   (.ite (qkt (qco (x,0),qco (x,1)))
    (.ite (!(qiV (qco (x,0),qco (x,1))).2.1)
    (.ret (((0,0,0,0,0,0,0,false,()),0,7,())))
    (.ret (((qiV (qco (x,0),qco (x,1))).1,qbv x,0,()))))
    .fail)
   .fail)
   .fail)))
def qiP (x:qc qk9):Bool:=(qiS x).val.isSome
def qH (x:qc qk9):Sh.den qnt:=(qiS x).qQ default
theorem qy0 (x:qc qk9) (h:qiP x=true):(qiS x).val=some (qH x):=PO.qb7 default h
def qV:Nat→Nat→List Bool
 |0,_=>[]
 |m+1,n=>(n / 2 ^ m % 2==1)::qV m n
theorem qd0:∀m n:Nat,(qV m n).length=m
 |0,_=>rfl
 |m+1,n=>congrArg (·+1) (qd0 m n)
def tx (l:List Bool):List UInt8:=l.map fun b=>bif b then 49 else 48
theorem qu3 (l:List Bool):(tx l).length=l.length:=List.length_map ..
theorem qNK (n:Nat):toByte (IntKind.wrap IntKind.u8 (w64 (48+Int.tmod (n:Int) 2)))=(bif n % 2==1 then 49 else 48):=by
 rw[qmv _ _ (by omega)]
 have h:(n:Int) % 2=((n % 2:Nat):Int):=by omega
 rw[h]
 rcases Nat.mod_two_eq_zero_or_one n with h |h<;>rw[h]<;>rfl
theorem qEa (n:Nat) (h:n<4294967296):w64 (Int.tdiv (n:Int) 2)=((n / 2:Nat):Int):=by
 rw[qpN _ _ (by omega),qt (by omega) (by omega)]
 omega
abbrev qhj:List Ty:=[(.int .i64)]
abbrev qkj:Sh:=Sh.ty Ty.str
def qfw (x:qc qhj):PO (Sh.den qkj) :=
 (.ret ([toByte (IntKind.wrap IntKind.u8 (w64 (48+Int.tmod (w64 (Int.tdiv (w64 (Int.tdiv (w64 (Int.tdiv (w64 (Int.tdiv (w64 (Int.tdiv (w64 (Int.tdiv (w64 (Int.tdiv (w64 (Int.tdiv (w64 (Int.tdiv (w64 (Int.tdiv (w64 (Int.tdiv (w64 (Int.tdiv (w64 (Int.tdiv (w64 (Int.tdiv (w64 (Int.tdiv x 2)) 2)) 2)) 2)) 2)) 2)) 2)) 2)) 2)) 2)) 2)) 2)) 2)) 2)) 2)) 2))),toByte (IntKind.wrap IntKind.u8 (w64 (48+Int.tmod (w64 (Int.tdiv (w64 (Int.tdiv (w64 (Int.tdiv (w64 (Int.tdiv (w64 (Int.tdiv (w64 (Int.tdiv (w64 (Int.tdiv (w64 (Int.tdiv (w64 (Int.tdiv (w64 (Int.tdiv (w64 (Int.tdiv (w64 (Int.tdiv (w64 (Int.tdiv (w64 (Int.tdiv x 2)) 2)) 2)) 2)) 2)) 2)) 2)) 2)) 2)) 2)) 2)) 2)) 2)) 2)) 2))),toByte (IntKind.wrap IntKind.u8 (w64 (48+Int.tmod (w64 (Int.tdiv (w64 (Int.tdiv (w64 (Int.tdiv (w64 (Int.tdiv (w64 (Int.tdiv (w64 (Int.tdiv (w64 (Int.tdiv (w64 (Int.tdiv (w64 (Int.tdiv (w64 (Int.tdiv (w64 (Int.tdiv (w64 (Int.tdiv (w64 (Int.tdiv x 2)) 2)) 2)) 2)) 2)) 2)) 2)) 2)) 2)) 2)) 2)) 2)) 2)) 2))),toByte (IntKind.wrap IntKind.u8 (w64 (48+Int.tmod (w64 (Int.tdiv (w64 (Int.tdiv (w64 (Int.tdiv (w64 (Int.tdiv (w64 (Int.tdiv (w64 (Int.tdiv (w64 (Int.tdiv (w64 (Int.tdiv (w64 (Int.tdiv (w64 (Int.tdiv (w64 (Int.tdiv (w64 (Int.tdiv x 2)) 2)) 2)) 2)) 2)) 2)) 2)) 2)) 2)) 2)) 2)) 2)) 2))),toByte (IntKind.wrap IntKind.u8 (w64 (48+Int.tmod (w64 (Int.tdiv (w64 (Int.tdiv (w64 (Int.tdiv (w64 (Int.tdiv (w64 (Int.tdiv (w64 (Int.tdiv (w64 (Int.tdiv (w64 (Int.tdiv (w64 (Int.tdiv (w64 (Int.tdiv (w64 (Int.tdiv x 2)) 2)) 2)) 2)) 2)) 2)) 2)) 2)) 2)) 2)) 2)) 2))),toByte (IntKind.wrap IntKind.u8 (w64 (48+Int.tmod (w64 (Int.tdiv (w64 (Int.tdiv (w64 (Int.tdiv (w64 (Int.tdiv (w64 (Int.tdiv (w64 (Int.tdiv (w64 (Int.tdiv (w64 (Int.tdiv (w64 (Int.tdiv (w64 (Int.tdiv x 2)) 2)) 2)) 2)) 2)) 2)) 2)) 2)) 2)) 2)) 2))),toByte (IntKind.wrap IntKind.u8 (w64 (48+Int.tmod (w64 (Int.tdiv (w64 (Int.tdiv (w64 (Int.tdiv (w64 (Int.tdiv (w64 (Int.tdiv (w64 (Int.tdiv (w64 (Int.tdiv (w64 (Int.tdiv (w64 (Int.tdiv x 2)) 2)) 2)) 2)) 2)) 2)) 2)) 2)) 2)) 2))),toByte (IntKind.wrap IntKind.u8 (w64 (48+Int.tmod (w64 (Int.tdiv (w64 (Int.tdiv (w64 (Int.tdiv (w64 (Int.tdiv (w64 (Int.tdiv (w64 (Int.tdiv (w64 (Int.tdiv (w64 (Int.tdiv x 2)) 2)) 2)) 2)) 2)) 2)) 2)) 2)) 2))),toByte (IntKind.wrap IntKind.u8 (w64 (48+Int.tmod (w64 (Int.tdiv (w64 (Int.tdiv (w64 (Int.tdiv (w64 (Int.tdiv (w64 (Int.tdiv (w64 (Int.tdiv (w64 (Int.tdiv x 2)) 2)) 2)) 2)) 2)) 2)) 2)) 2))),toByte (IntKind.wrap IntKind.u8 (w64 (48+Int.tmod (w64 (Int.tdiv (w64 (Int.tdiv (w64 (Int.tdiv (w64 (Int.tdiv (w64 (Int.tdiv (w64 (Int.tdiv x 2)) 2)) 2)) 2)) 2)) 2)) 2))),toByte (IntKind.wrap IntKind.u8 (w64 (48+Int.tmod (w64 (Int.tdiv (w64 (Int.tdiv (w64 (Int.tdiv (w64 (Int.tdiv (w64 (Int.tdiv x 2)) 2)) 2)) 2)) 2)) 2))),toByte (IntKind.wrap IntKind.u8 (w64 (48+Int.tmod (w64 (Int.tdiv (w64 (Int.tdiv (w64 (Int.tdiv (w64 (Int.tdiv x 2)) 2)) 2)) 2)) 2))),toByte (IntKind.wrap IntKind.u8 (w64 (48+Int.tmod (w64 (Int.tdiv (w64 (Int.tdiv (w64 (Int.tdiv x 2)) 2)) 2)) 2))),toByte (IntKind.wrap IntKind.u8 (w64 (48+Int.tmod (w64 (Int.tdiv (w64 (Int.tdiv x 2)) 2)) 2))),toByte (IntKind.wrap IntKind.u8 (w64 (48+Int.tmod (w64 (Int.tdiv x 2)) 2))),toByte (IntKind.wrap IntKind.u8 (w64 (48+Int.tmod x 2)))]))
def qnn (_:qc qhj):Bool:=true
def qhl (x:qc qhj):Sh.den qkj:=(qfw x).qQ default
theorem qRD (n:Nat) (h:n<65536):(qfw (n:Int)).val=some (tx (qV 16 n)):=by
 have e:∀k,k≤16→w64 (Int.tdiv ((n / 2 ^ k:Nat):Int) 2)=((n / 2 ^ (k+1):Nat):Int):=fun k _=>by
  rw[qEa _ (Nat.lt_of_le_of_lt (Nat.div_le_self ..) (by omega)),Nat.div_div_eq_div_mul,Nat.pow_succ]
 have e0:w64 (Int.tdiv (n:Int) 2)=((n / 2 ^ 1:Nat):Int):=qEa n (by omega)
 unfold qfw PO.val
 rw[e0,e 1 (by omega),e 2 (by omega),e 3 (by omega),e 4 (by omega),e 5 (by omega),e 6 (by omega),e 7 (by omega),e 8 (by omega),e 9 (by omega),e 10 (by omega),e 11 (by omega),e 12 (by omega),e 13 (by omega),e 14 (by omega)]
 simp only[qNK]
 simp only[qV,tx,List.map,Nat.pow_zero,Nat.div_one]
theorem qp6 (x:qc qhj) (_:qnn x=true):(qfw x).val=some (qhl x):=PO.qbS default (by simp[qfw,PO.sure])
theorem qRC (n:Nat) (h:n<65536):qhl (n:Int)=tx (qV 16 n):=by
 have:=qp6 (n:Int) rfl
 rw[qRD n h] at this
 exact(Option.some.inj this).symm
def qdA:LoopN where
 M:=[0,3,4]
 T:=[5,6,7,8,9,10,11]
 D:=[0,4]
 ss:=[.ty (.int .i64),.ty (.int .i64),.ty (.int .i64)]
 hs:=[]
 es:=[.exit 0]
 σ:=(Ty.den (.int .i64))×(Ty.den (.int .i64))
 x0:=fun x _=>(x.2.1,x.2.2)
 put:=fun x _ s=>((x.1,s.1,s.2),())
 fuel:=fun x _=>Int.toNat x.1+1
 turn:=fun x _ s =>
 (.ite (decide (s.2<x.1))
  (.ret (.on (w64 (s.1*2),w64 (s.2+1))))
  (.ret (.out 0 (s.1,s.2))))
abbrev qgz:List Ty:=[(.int .i64)]
abbrev qjo:Sh:=Sh.ty (Ty.int IntKind.i64)
def qja (x:qc qgz):PO (Sh.den qjo) :=
 (.opt (LoopN.res qdA (x,1,0) ()) fun p0 =>
  (.ret (p0.2.1)))
def qck (x:qc qgz):Bool:=decide ((0:Int)≤x)&&decide ((x:Int)≤62)
def qZ (x:qc qgz):Sh.den qjo:=((2 ^ Int.toNat x:Nat):Int)
theorem qHx (i n:Nat) (hi:i<n) (hn:n≤62):w64 (((2 ^ i:Nat):Int)*2)=((2 ^ (i+1):Nat):Int):=by
 have h2:2 ^ (i+1)≤2 ^ 62:=qeU (by omega)
 have h3:((2 ^ i:Nat):Int)*2=((2 ^ (i+1):Nat):Int):=by rw[Nat.pow_succ];simp
 rw[h3]
 generalize 2 ^ (i+1)=q at h2 ⊢
 rw[qt (by omega) (by omega)]
theorem qLk (n:Nat) (hn:n≤62):qcF (qdA.turn ((n:Int),1,0) ()) (n+1) (1,0)=some (0,((2 ^ n:Nat):Int),(n:Int)):=by
 refine qhP (σ:=Int×Int) (fun i=>(((2 ^ i:Nat):Int),(i:Int))) (0,((2 ^ n:Nat):Int),(n:Int)) (n:=n) (fun i hi=>?_) ?_ n 0 (by omega) _ (by omega)
 ·simp only[qdA,PO.val,qK (show(i:Int)<(n:Int) by omega),cond_true]
  rw[qHx i n hi hn,qt (n:=(i:Int)+1) (by omega) (by omega)]
  rfl
 ·simp only[qdA,PO.val,qW (show ¬(n:Int)<(n:Int) by omega),cond_false]
theorem qOI (x:Int) (h1:0≤x) (h2:x≤62):(qja x).val=some (qZ x):=by
 obtain⟨n,rfl⟩:=Int.eq_ofNat_of_zero_le h1
 have h1:LoopN.res qdA ((n:Int),1,0) ()=some (0,((2 ^ n:Nat):Int),(n:Int)):=qLk n (by omega)
 unfold qja PO.val
 rw[h1]
 rfl
theorem qvd (x:qc qgz) (h:qck x=true):(qja x).val=some (qZ x):=by
 simp only[qck,Bool.and_eq_true,decide_eq_true_eq] at h
 exact qOI x h.1 h.2
def qeE:LoopN where
 M:=[0,1,5,6]
 T:=[7,8,9,10,11,12,13]
 D:=[1,6]
 ss:=[.ty (.int .i64),.ty (.int .i64),.ty (.int .i64),.ty (.int .i64)]
 hs:=[]
 es:=[.exit 0]
 σ:=(Ty.den (.int .i64))×(Ty.den (.int .i64))
 x0:=fun x _=>(x.2.2.1,x.2.2.2)
 put:=fun x _ s=>((x.1,x.2.1,s.1,s.2),())
 fuel:=fun x _=>Int.toNat x.2.1+1
 turn:=fun x _ s =>
 (.ite (decide (s.2<x.2.1))
  (.ret (.on (w64 (s.1*2),w64 (s.2+1))))
  (.ret (.out 0 (s.1,s.2))))
abbrev qhh:List Ty:=[(.int .i64),(.int .i64)]
abbrev qkc:Sh:=Sh.ty (Ty.int IntKind.i64)
def qhn (x:qc qhh):PO (Sh.den qkc) :=
 (.opt (LoopN.res qeE (x.1,x.2,1,0) ()) fun p0 =>
  (.ite (decide (x.1≥p0.2.1))
  (.ret (w64 (x.1-w64 (2*p0.2.1))))
  (.ret (x.1))))
def qb3 (x:qc qhh):Bool:=decide ((0:Int)≤x.2)&&(decide ((x.2:Int)≤24)&&(decide ((-4294967296:Int)≤x.1)&&decide ((x.1:Int)<4294967296)))
def qL (x:qc qhh):Sh.den qkc:=bif decide ((x.1:Int)≥(2 ^ Int.toNat x.2:Nat)) then(x.1-2*(2 ^ Int.toNat x.2:Nat):Int) else x.1
theorem qSi (z:Int) (n:Nat) (hn:n≤24) (h1:-4294967296≤z) (h2:z<4294967296):(qhn (z,(n:Int))).val=some (qL (z,(n:Int))):=by
 have hr:LoopN.res qeE (z,(n:Int),1,0) ()=some (0,((2 ^ n:Nat):Int),(n:Int)):=by
  refine qhP (σ:=Int×Int) (fun i=>(((2 ^ i:Nat):Int),(i:Int))) (0,((2 ^ n:Nat):Int),(n:Int)) (n:=n) (fun i hi=>?_) ?_ n 0 (by omega) _ (by show n<Int.toNat (n:Int)+1;omega)
  ·simp only[qeE,PO.val,qK (show(i:Int)<(n:Int) by omega),cond_true]
   rw[qHx i n hi (by omega),qt (n:=(i:Int)+1) (by omega) (by omega)]
   rfl
  ·simp only[qeE,PO.val,qW (show ¬(n:Int)<(n:Int) by omega),cond_false]
 have hp:2 ^ n≤2 ^ 24:=qeU hn
 unfold qhn qL PO.val
 rw[hr]
 dsimp only[way,PO.val]
 rw[Int.toNat_natCast]
 generalize 2 ^ n=q at hp ⊢
 rw[qt (n:=2*(q:Int)) (by omega) (by omega),qt (n:=z-2*(q:Int)) (by omega) (by omega)]
 cases decide (z≥(q:Int))<;>rfl
theorem qQB (z m:Int) (h1:0≤m) (h2:m≤24) (h3:-4294967296≤z) (h4:z<4294967296):(qhn (z,m)).val=some (qL (z,m)):=by
 obtain⟨n,rfl⟩:=Int.eq_ofNat_of_zero_le h1
 exact qSi z n (by omega) h3 h4
theorem qvI (x:qc qhh) (h:qb3 x=true):(qhn x).val=some (qL x):=by
 simp only[qb3,Bool.and_eq_true,decide_eq_true_eq] at h
 exact qQB x.1 x.2 h.1 h.2.1 h.2.2.1 h.2.2.2
abbrev qhu:List Ty:=[.str,(.int .i64)]
abbrev qkf:Sh:=Sh.ty Ty.str
def qki (x:qc qhu):PO (Sh.den qkf) :=
 (.ite (inRange (w64 (2*x.2)) (List.length x.1)&&(inRange (w64 (w64 (2*x.2)+1)) (List.length x.1)&&true))
  (.ret (qhl (w64 (w64 (u8I (List.getD x.1 (Int.toNat (w64 (2*x.2))) 0))+w64 (256*w64 (u8I (List.getD x.1 (Int.toNat (w64 (w64 (2*x.2)+1))) 0)))))))
  .fail)
def qb2 (x:qc qhu):Bool:=(x.2==0&&decide (2≤qh x.1))||(x.2==1&&decide (4≤qh x.1))
def qbt (x:qc qhu):Sh.den qkf:=tx (qV 16 (qfm x.1 x.2.toNat))
theorem qDQ (s:List UInt8) (k:Nat) (hk:k≤1) (h:2*k+2≤s.length):(qki (s,(k:Int))).val=some (tx (qV 16 (qfm s k))):=by
 have e1:w64 (2*(k:Int))=((2*k:Nat):Int):=by rw[qt (by omega) (by omega)];omega
 have e2:w64 (((2*k:Nat):Int)+1)=((2*k+1:Nat):Int):=by rw[qt (by omega) (by omega)];omega
 have l1:=(s.getD (2*k) 0).toNat_lt
 have l2:=(s.getD (2*k+1) 0).toNat_lt
 unfold qki PO.val
 dsimp only
 rw[e1,e2,inR (show 2*k<s.length by omega),inR (show 2*k+1<s.length by omega),qhE,qhE]
 have hh:=qy4 s k
 have e:qfm s k=(s.getD (2*k) 0).toNat+256*(s.getD (2*k+1) 0).toNat:=rfl
 unfold u8I
 generalize (s.getD (2*k) 0).toNat=a at *
 generalize (s.getD (2*k+1) 0).toNat=b at *
 rw[qrb (by omega),qrb (by omega),qt (n:=256*(b:Int)) (by omega) (by omega),qt (n:=(a:Int)+256*(b:Int)) (by omega) (by omega),show(a:Int)+256*(b:Int)=((qfm s k:Nat):Int) by omega]
 exact congrArg some (qRC _ hh)
theorem qvC (x:qc qhu) (h:qb2 x=true):(qki x).val=some (qbt x):=by
 obtain⟨s,n⟩:=x
 simp only[qb2,Bool.or_eq_true,Bool.and_eq_true,beq_iff_eq,decide_eq_true_eq] at h
 rcases h with⟨h,hl⟩ |⟨h,hl⟩
 ·subst h
  exact qDQ s 0 (by omega) (by simp only[qh] at hl;omega)
 ·subst h
  exact qDQ s 1 (by omega) (by simp only[qh] at hl;omega)
abbrev qhx:List Ty:=[.str]
abbrev qj4:Sh:=Sh.ty (Ty.int IntKind.i64)
def qfv (x:qc qhx):PO (Sh.den qj4) :=
 (.ite (decide (qh x<2))
  (.ret (0))
  (.ite (qb2 (x,0)&&(decide (5≤qh (qbt (x,0)))&&true&&true))
  (.ite (List.drop (Int.toNat 0) (List.take (Int.toNat 5) (qbt (x,0)))==[49,49,49,48,49]||(List.drop (Int.toNat 0) (List.take (Int.toNat 5) (qbt (x,0)))==[49,49,49,49,48]||List.drop (Int.toNat 0) (List.take (Int.toNat 5) (qbt (x,0)))==[49,49,49,49,49]))
   (.ret (4))
   (.ret (2)))
  .fail))
def qfo (x:qc qhx):Bool:=(qfv x).val.isSome
def qcO (x:qc qhx):Sh.den qj4:=(qfv x).qQ default
theorem qvQ (x:qc qhx) (h:qfo x=true):(qfv x).val=some (qcO x):=PO.qb7 default h
def qcb:LoopN where
 M:=[0,1,2,6,7,8,9,10,11,12,13,14]
 T:=[15,32,33,34,35,36,37,38,39,40,41,42,43,44,45,46,47,48,49,50,51,52,53,54,55,56,57,58,59,60,61,62,63,64,65,66,67,68,69,70,71,72,73,74,75,76,77,78,79,80]
 D:=[2,8,14]
 ss:=[.ty (.int .i64),.ty .bool,.ty .str,.box 0 0,.ty .bool,.ty .str,.box 1 0,.box 2 0,.ty (.int .i64),.ty (.int .i64),.ty (.int .i64),.ty (.int .i64)]
 hs:=[.ty qbd,.ty qbd,.ty (.int .i64)]
 es:=[.exit 0,.ret]
 σ:=(Ty.den .bool)×(Ty.den (.int .i64))×(Ty.den (.int .i64))×(Ty.den (.int .i64))×(Ty.den (.int .i64))×(Sh.den (.ty qbd))×(Sh.den (.ty qbd))×(Sh.den (.ty (.int .i64)))
 x0:=fun x y=>(x.2.2.2.2.1,x.2.2.2.2.2.2.2.2.1,x.2.2.2.2.2.2.2.2.2.1,x.2.2.2.2.2.2.2.2.2.2.1,x.2.2.2.2.2.2.2.2.2.2.2,y.1,y.2.1,y.2.2)
 put:=fun x _ s=>((x.1,x.2.1,x.2.2.1,x.2.2.2.1,s.1,x.2.2.2.2.2.1,x.2.2.2.2.2.2.1,x.2.2.2.2.2.2.2.1,s.2.1,s.2.2.1,s.2.2.2.1,s.2.2.2.2.1),(s.2.2.2.2.2.1,s.2.2.2.2.2.2.1,s.2.2.2.2.2.2.2))
 fuel:=fun _ _=>40
 turn:=fun x _ s =>
 (.ite (decide (s.2.2.2.2.1<qh x.2.2.2.2.2.1))
  (.ite (inRange s.2.2.2.2.1 (List.length x.2.2.1))
  (.ite (inRange s.2.2.2.2.1 (List.length x.2.2.2.2.2.1)&&bif u8I (List.getD x.2.2.2.2.2.1 (Int.toNat s.2.2.2.2.1) 0)==48 then inRange s.2.2.2.2.1 (List.length x.2.2.2.2.2.1)&&inRange s.2.2.2.2.1 (List.length x.2.2.1) else inRange s.2.2.2.2.1 (List.length x.2.2.2.2.2.1)&&bif u8I (List.getD x.2.2.2.2.2.1 (Int.toNat s.2.2.2.2.1) 0)==49 then inRange s.2.2.2.2.1 (List.length x.2.2.2.2.2.1)&&inRange s.2.2.2.2.1 (List.length x.2.2.1) else true)
   (.ite (bif u8I (List.getD x.2.2.2.2.2.1 (Int.toNat s.2.2.2.2.1) 0)==48 then u8I (List.getD x.2.2.2.2.2.1 (Int.toNat s.2.2.2.2.1) 0) != u8I (List.getD x.2.2.1 (Int.toNat s.2.2.2.2.1) 0) else u8I (List.getD x.2.2.2.2.2.1 (Int.toNat s.2.2.2.2.1) 0)==49&&u8I (List.getD x.2.2.2.2.2.1 (Int.toNat s.2.2.2.2.1) 0) != u8I (List.getD x.2.2.1 (Int.toNat s.2.2.2.2.1) 0))
   (.ret (.out 1 (false,s.2.1,s.2.2.1,s.2.2.2.1,s.2.2.2.2.1,(0,0,0,0,0,0,0,false,()),s.2.2.2.2.2.2.1,s.2.2.2.2.2.2.2)))
   (.ite (inRange s.2.2.2.2.1 (List.length x.2.2.2.2.2.1))
    (.ite (inRange s.2.2.2.2.1 (List.length x.2.2.2.2.2.1))
    (.ite (u8I (List.getD x.2.2.2.2.2.1 (Int.toNat s.2.2.2.2.1) 0)==100)
     (.ret (.on (s.1,bif u8I (List.getD x.2.2.2.2.2.1 (Int.toNat s.2.2.2.2.1) 0)==120 then w64 (IntKind.wrap IntKind.u8 (u8I (List.getD x.2.2.1 (Int.toNat s.2.2.2.2.1) 0)-48)) else s.2.1,bif u8I (List.getD x.2.2.2.2.2.1 (Int.toNat s.2.2.2.2.1) 0)==120 then s.2.2.1 else bif u8I (List.getD x.2.2.2.2.2.1 (Int.toNat s.2.2.2.2.1) 0)==121 then w64 (IntKind.wrap IntKind.u8 (u8I (List.getD x.2.2.1 (Int.toNat s.2.2.2.2.1) 0)-48)) else s.2.2.1,bif u8I (List.getD x.2.2.2.2.2.1 (Int.toNat s.2.2.2.2.1) 0)==120 then s.2.2.2.1 else bif u8I (List.getD x.2.2.2.2.2.1 (Int.toNat s.2.2.2.2.1) 0)==121 then s.2.2.2.1 else bif u8I (List.getD x.2.2.2.2.2.1 (Int.toNat s.2.2.2.2.1) 0)==89 then w64 (IntKind.wrap IntKind.u8 (u8I (List.getD x.2.2.1 (Int.toNat s.2.2.2.2.1) 0)-48)) else s.2.2.2.1,w64 (s.2.2.2.2.1+1),s.2.2.2.2.2.1,(s.2.2.2.2.2.2.1.1,w64 (w64 (2*s.2.2.2.2.2.2.1.2.1)+w64 (IntKind.wrap IntKind.u8 (u8I (List.getD x.2.2.1 (Int.toNat s.2.2.2.2.1) 0)-48))),s.2.2.2.2.2.2.1.2.2),s.2.2.2.2.2.2.2)))
     (.ite (u8I (List.getD x.2.2.2.2.2.1 (Int.toNat s.2.2.2.2.1) 0)==110)
     (.ret (.on (s.1,bif u8I (List.getD x.2.2.2.2.2.1 (Int.toNat s.2.2.2.2.1) 0)==120 then w64 (IntKind.wrap IntKind.u8 (u8I (List.getD x.2.2.1 (Int.toNat s.2.2.2.2.1) 0)-48)) else s.2.1,bif u8I (List.getD x.2.2.2.2.2.1 (Int.toNat s.2.2.2.2.1) 0)==120 then s.2.2.1 else bif u8I (List.getD x.2.2.2.2.2.1 (Int.toNat s.2.2.2.2.1) 0)==121 then w64 (IntKind.wrap IntKind.u8 (u8I (List.getD x.2.2.1 (Int.toNat s.2.2.2.2.1) 0)-48)) else s.2.2.1,bif u8I (List.getD x.2.2.2.2.2.1 (Int.toNat s.2.2.2.2.1) 0)==120 then s.2.2.2.1 else bif u8I (List.getD x.2.2.2.2.2.1 (Int.toNat s.2.2.2.2.1) 0)==121 then s.2.2.2.1 else bif u8I (List.getD x.2.2.2.2.2.1 (Int.toNat s.2.2.2.2.1) 0)==89 then w64 (IntKind.wrap IntKind.u8 (u8I (List.getD x.2.2.1 (Int.toNat s.2.2.2.2.1) 0)-48)) else s.2.2.2.1,w64 (s.2.2.2.2.1+1),s.2.2.2.2.2.1,(s.2.2.2.2.2.2.1.1,s.2.2.2.2.2.2.1.2.1,w64 (w64 (2*s.2.2.2.2.2.2.1.2.2.1)+w64 (IntKind.wrap IntKind.u8 (u8I (List.getD x.2.2.1 (Int.toNat s.2.2.2.2.1) 0)-48))),s.2.2.2.2.2.2.1.2.2.2),s.2.2.2.2.2.2.2)))
     (.ite (u8I (List.getD x.2.2.2.2.2.1 (Int.toNat s.2.2.2.2.1) 0)==109)
      (.ret (.on (s.1,bif u8I (List.getD x.2.2.2.2.2.1 (Int.toNat s.2.2.2.2.1) 0)==120 then w64 (IntKind.wrap IntKind.u8 (u8I (List.getD x.2.2.1 (Int.toNat s.2.2.2.2.1) 0)-48)) else s.2.1,bif u8I (List.getD x.2.2.2.2.2.1 (Int.toNat s.2.2.2.2.1) 0)==120 then s.2.2.1 else bif u8I (List.getD x.2.2.2.2.2.1 (Int.toNat s.2.2.2.2.1) 0)==121 then w64 (IntKind.wrap IntKind.u8 (u8I (List.getD x.2.2.1 (Int.toNat s.2.2.2.2.1) 0)-48)) else s.2.2.1,bif u8I (List.getD x.2.2.2.2.2.1 (Int.toNat s.2.2.2.2.1) 0)==120 then s.2.2.2.1 else bif u8I (List.getD x.2.2.2.2.2.1 (Int.toNat s.2.2.2.2.1) 0)==121 then s.2.2.2.1 else bif u8I (List.getD x.2.2.2.2.2.1 (Int.toNat s.2.2.2.2.1) 0)==89 then w64 (IntKind.wrap IntKind.u8 (u8I (List.getD x.2.2.1 (Int.toNat s.2.2.2.2.1) 0)-48)) else s.2.2.2.1,w64 (s.2.2.2.2.1+1),s.2.2.2.2.2.1,(s.2.2.2.2.2.2.1.1,s.2.2.2.2.2.2.1.2.1,s.2.2.2.2.2.2.1.2.2.1,w64 (w64 (2*s.2.2.2.2.2.2.1.2.2.2.1)+w64 (IntKind.wrap IntKind.u8 (u8I (List.getD x.2.2.1 (Int.toNat s.2.2.2.2.1) 0)-48))),s.2.2.2.2.2.2.1.2.2.2.2),s.2.2.2.2.2.2.2)))
      (.ite (u8I (List.getD x.2.2.2.2.2.1 (Int.toNat s.2.2.2.2.1) 0)==97)
      (.ret (.on (s.1,bif u8I (List.getD x.2.2.2.2.2.1 (Int.toNat s.2.2.2.2.1) 0)==120 then w64 (IntKind.wrap IntKind.u8 (u8I (List.getD x.2.2.1 (Int.toNat s.2.2.2.2.1) 0)-48)) else s.2.1,bif u8I (List.getD x.2.2.2.2.2.1 (Int.toNat s.2.2.2.2.1) 0)==120 then s.2.2.1 else bif u8I (List.getD x.2.2.2.2.2.1 (Int.toNat s.2.2.2.2.1) 0)==121 then w64 (IntKind.wrap IntKind.u8 (u8I (List.getD x.2.2.1 (Int.toNat s.2.2.2.2.1) 0)-48)) else s.2.2.1,bif u8I (List.getD x.2.2.2.2.2.1 (Int.toNat s.2.2.2.2.1) 0)==120 then s.2.2.2.1 else bif u8I (List.getD x.2.2.2.2.2.1 (Int.toNat s.2.2.2.2.1) 0)==121 then s.2.2.2.1 else bif u8I (List.getD x.2.2.2.2.2.1 (Int.toNat s.2.2.2.2.1) 0)==89 then w64 (IntKind.wrap IntKind.u8 (u8I (List.getD x.2.2.1 (Int.toNat s.2.2.2.2.1) 0)-48)) else s.2.2.2.1,w64 (s.2.2.2.2.1+1),s.2.2.2.2.2.1,(s.2.2.2.2.2.2.1.1,s.2.2.2.2.2.2.1.2.1,s.2.2.2.2.2.2.1.2.2.1,s.2.2.2.2.2.2.1.2.2.2.1,w64 (w64 (2*s.2.2.2.2.2.2.1.2.2.2.2.1)+w64 (IntKind.wrap IntKind.u8 (u8I (List.getD x.2.2.1 (Int.toNat s.2.2.2.2.1) 0)-48))),s.2.2.2.2.2.2.1.2.2.2.2.2),s.2.2.2.2.2.2.2)))
      (.ite (u8I (List.getD x.2.2.2.2.2.1 (Int.toNat s.2.2.2.2.1) 0)==99)
       (.ret (.on (s.1,bif u8I (List.getD x.2.2.2.2.2.1 (Int.toNat s.2.2.2.2.1) 0)==120 then w64 (IntKind.wrap IntKind.u8 (u8I (List.getD x.2.2.1 (Int.toNat s.2.2.2.2.1) 0)-48)) else s.2.1,bif u8I (List.getD x.2.2.2.2.2.1 (Int.toNat s.2.2.2.2.1) 0)==120 then s.2.2.1 else bif u8I (List.getD x.2.2.2.2.2.1 (Int.toNat s.2.2.2.2.1) 0)==121 then w64 (IntKind.wrap IntKind.u8 (u8I (List.getD x.2.2.1 (Int.toNat s.2.2.2.2.1) 0)-48)) else s.2.2.1,bif u8I (List.getD x.2.2.2.2.2.1 (Int.toNat s.2.2.2.2.1) 0)==120 then s.2.2.2.1 else bif u8I (List.getD x.2.2.2.2.2.1 (Int.toNat s.2.2.2.2.1) 0)==121 then s.2.2.2.1 else bif u8I (List.getD x.2.2.2.2.2.1 (Int.toNat s.2.2.2.2.1) 0)==89 then w64 (IntKind.wrap IntKind.u8 (u8I (List.getD x.2.2.1 (Int.toNat s.2.2.2.2.1) 0)-48)) else s.2.2.2.1,w64 (s.2.2.2.2.1+1),s.2.2.2.2.2.1,(s.2.2.2.2.2.2.1.1,s.2.2.2.2.2.2.1.2.1,s.2.2.2.2.2.2.1.2.2.1,s.2.2.2.2.2.2.1.2.2.2.1,s.2.2.2.2.2.2.1.2.2.2.2.1,s.2.2.2.2.2.2.1.2.2.2.2.2.1,w64 (w64 (2*s.2.2.2.2.2.2.1.2.2.2.2.2.2.1)+w64 (IntKind.wrap IntKind.u8 (u8I (List.getD x.2.2.1 (Int.toNat s.2.2.2.2.1) 0)-48))),s.2.2.2.2.2.2.1.2.2.2.2.2.2.2),s.2.2.2.2.2.2.2)))
       (.ite (u8I (List.getD x.2.2.2.2.2.1 (Int.toNat s.2.2.2.2.1) 0)==119)
       (.ret (.on (s.1,bif u8I (List.getD x.2.2.2.2.2.1 (Int.toNat s.2.2.2.2.1) 0)==120 then w64 (IntKind.wrap IntKind.u8 (u8I (List.getD x.2.2.1 (Int.toNat s.2.2.2.2.1) 0)-48)) else s.2.1,bif u8I (List.getD x.2.2.2.2.2.1 (Int.toNat s.2.2.2.2.1) 0)==120 then s.2.2.1 else bif u8I (List.getD x.2.2.2.2.2.1 (Int.toNat s.2.2.2.2.1) 0)==121 then w64 (IntKind.wrap IntKind.u8 (u8I (List.getD x.2.2.1 (Int.toNat s.2.2.2.2.1) 0)-48)) else s.2.2.1,bif u8I (List.getD x.2.2.2.2.2.1 (Int.toNat s.2.2.2.2.1) 0)==120 then s.2.2.2.1 else bif u8I (List.getD x.2.2.2.2.2.1 (Int.toNat s.2.2.2.2.1) 0)==121 then s.2.2.2.1 else bif u8I (List.getD x.2.2.2.2.2.1 (Int.toNat s.2.2.2.2.1) 0)==89 then w64 (IntKind.wrap IntKind.u8 (u8I (List.getD x.2.2.1 (Int.toNat s.2.2.2.2.1) 0)-48)) else s.2.2.2.1,w64 (s.2.2.2.2.1+1),s.2.2.2.2.2.1,s.2.2.2.2.2.2.1,w64 (w64 (2*s.2.2.2.2.2.2.2)+w64 (IntKind.wrap IntKind.u8 (u8I (List.getD x.2.2.1 (Int.toNat s.2.2.2.2.1) 0)-48))))))
       (.ite (bif u8I (List.getD x.2.2.2.2.2.1 (Int.toNat s.2.2.2.2.1) 0)==120 then u8I (List.getD x.2.2.2.2.2.1 (Int.toNat s.2.2.2.2.1) 0)==120 else bif u8I (List.getD x.2.2.2.2.2.1 (Int.toNat s.2.2.2.2.1) 0)==121 then u8I (List.getD x.2.2.2.2.2.1 (Int.toNat s.2.2.2.2.1) 0)==121 else bif u8I (List.getD x.2.2.2.2.2.1 (Int.toNat s.2.2.2.2.1) 0)==48 then u8I (List.getD x.2.2.2.2.2.1 (Int.toNat s.2.2.2.2.1) 0)==48 else u8I (List.getD x.2.2.2.2.2.1 (Int.toNat s.2.2.2.2.1) 0)==49)
        (.ret (.on (s.1,bif u8I (List.getD x.2.2.2.2.2.1 (Int.toNat s.2.2.2.2.1) 0)==120 then w64 (IntKind.wrap IntKind.u8 (u8I (List.getD x.2.2.1 (Int.toNat s.2.2.2.2.1) 0)-48)) else s.2.1,bif u8I (List.getD x.2.2.2.2.2.1 (Int.toNat s.2.2.2.2.1) 0)==120 then s.2.2.1 else bif u8I (List.getD x.2.2.2.2.2.1 (Int.toNat s.2.2.2.2.1) 0)==121 then w64 (IntKind.wrap IntKind.u8 (u8I (List.getD x.2.2.1 (Int.toNat s.2.2.2.2.1) 0)-48)) else s.2.2.1,bif u8I (List.getD x.2.2.2.2.2.1 (Int.toNat s.2.2.2.2.1) 0)==120 then s.2.2.2.1 else bif u8I (List.getD x.2.2.2.2.2.1 (Int.toNat s.2.2.2.2.1) 0)==121 then s.2.2.2.1 else bif u8I (List.getD x.2.2.2.2.2.1 (Int.toNat s.2.2.2.2.1) 0)==89 then w64 (IntKind.wrap IntKind.u8 (u8I (List.getD x.2.2.1 (Int.toNat s.2.2.2.2.1) 0)-48)) else s.2.2.2.1,w64 (s.2.2.2.2.1+1),s.2.2.2.2.2.1,s.2.2.2.2.2.2.1,s.2.2.2.2.2.2.2)))
        (.ite (qck (w64 (IntKind.wrap IntKind.u8 (u8I (List.getD x.2.2.2.2.2.1 (Int.toNat s.2.2.2.2.1) 0)-65))))
        (.ret (.on (s.1,bif u8I (List.getD x.2.2.2.2.2.1 (Int.toNat s.2.2.2.2.1) 0)==120 then w64 (IntKind.wrap IntKind.u8 (u8I (List.getD x.2.2.1 (Int.toNat s.2.2.2.2.1) 0)-48)) else s.2.1,bif u8I (List.getD x.2.2.2.2.2.1 (Int.toNat s.2.2.2.2.1) 0)==120 then s.2.2.1 else bif u8I (List.getD x.2.2.2.2.2.1 (Int.toNat s.2.2.2.2.1) 0)==121 then w64 (IntKind.wrap IntKind.u8 (u8I (List.getD x.2.2.1 (Int.toNat s.2.2.2.2.1) 0)-48)) else s.2.2.1,bif u8I (List.getD x.2.2.2.2.2.1 (Int.toNat s.2.2.2.2.1) 0)==120 then s.2.2.2.1 else bif u8I (List.getD x.2.2.2.2.2.1 (Int.toNat s.2.2.2.2.1) 0)==121 then s.2.2.2.1 else bif u8I (List.getD x.2.2.2.2.2.1 (Int.toNat s.2.2.2.2.1) 0)==89 then w64 (IntKind.wrap IntKind.u8 (u8I (List.getD x.2.2.1 (Int.toNat s.2.2.2.2.1) 0)-48)) else s.2.2.2.1,w64 (s.2.2.2.2.1+1),s.2.2.2.2.2.1,(s.2.2.2.2.2.2.1.1,s.2.2.2.2.2.2.1.2.1,s.2.2.2.2.2.2.1.2.2.1,s.2.2.2.2.2.2.1.2.2.2.1,s.2.2.2.2.2.2.1.2.2.2.2.1,w64 (s.2.2.2.2.2.2.1.2.2.2.2.2.1+w64 (w64 (IntKind.wrap IntKind.u8 (u8I (List.getD x.2.2.1 (Int.toNat s.2.2.2.2.1) 0)-48))*qZ (w64 (IntKind.wrap IntKind.u8 (u8I (List.getD x.2.2.2.2.2.1 (Int.toNat s.2.2.2.2.1) 0)-65))))),s.2.2.2.2.2.2.1.2.2.2.2.2.2),s.2.2.2.2.2.2.2)))
        .fail))))))))
    .fail)
    .fail))
   .fail)
  .fail)
  (.ret (.out 0 (s.1,s.2.1,s.2.2.1,s.2.2.2.1,s.2.2.2.2.1,s.2.2.2.2.2.1,s.2.2.2.2.2.2.1,s.2.2.2.2.2.2.2))))
abbrev qhr:List Ty:=[(.int .i64),.bool,.str]
abbrev qke:Sh:=Sh.tup (Sh.pair (Sh.ty qbd) (Sh.pair (Sh.ty Ty.bool) (Sh.ty Ty.unit)))
def qdE (x:qc qhr):PO (Sh.den qke) :=
 (.ite (qh (qb (x.1,x.2.1)) != qh x.2.2||qb (x.1,x.2.1)==[])
  (.ret (((0,0,0,0,0,0,0,false,()),false,())))
  (.opt (LoopN.res qcb (x.1,x.2.1,x.2.2,(),false,qb (x.1,x.2.1),(),(),0,0,0,0) ((0,0,0,0,0,0,0,false,()),(x.1,0,0,0,0,0,0,x.2.1,()),0)) fun p0 =>
  (.ite (way p0.1)
   (.ite (x.1==18)
   (.ite (qbz (p0.2.2.2.2.2.2.2.1.1,p0.2.2.2.2.2.2.2.1.2.1,p0.2.2.2.2.2.2.2.1.2.2.1,p0.2.2.2.2.2.2.2.1.2.2.2.1,w64 (w64 (p0.2.2.2.2.2.2.2.2+1)-p0.2.2.2.2.2.2.2.1.2.2.2.2.2.1),p0.2.2.2.2.2.2.2.1.2.2.2.2.2))
    (.ret (((p0.2.2.2.2.2.2.2.1.1,p0.2.2.2.2.2.2.2.1.2.1,p0.2.2.2.2.2.2.2.1.2.2.1,p0.2.2.2.2.2.2.2.1.2.2.2.1,w64 (w64 (p0.2.2.2.2.2.2.2.2+1)-p0.2.2.2.2.2.2.2.1.2.2.2.2.2.1),p0.2.2.2.2.2.2.2.1.2.2.2.2.2),qo (p0.2.2.2.2.2.2.2.1.1,p0.2.2.2.2.2.2.2.1.2.1,p0.2.2.2.2.2.2.2.1.2.2.1,p0.2.2.2.2.2.2.2.1.2.2.2.1,w64 (w64 (p0.2.2.2.2.2.2.2.2+1)-p0.2.2.2.2.2.2.2.1.2.2.2.2.2.1),p0.2.2.2.2.2.2.2.1.2.2.2.2.2)==0,())))
    .fail)
   (.ite (x.1==24&&x.2.1)
    (.ite (qck 23)
    (.ite (qck 22)
     (.ite (qb3 (w64 (w64 (p0.2.2.2.2.2.2.2.1.2.2.2.2.2.1+w64 (Int.tmod (w64 (w64 (p0.2.2.1+p0.2.2.2.2.1)+1)) 2*qZ 23))+w64 (Int.tmod (w64 (w64 (p0.2.2.2.1+p0.2.2.2.2.1)+1)) 2*qZ 22)),24))
     (.ite (qbz (p0.2.2.2.2.2.2.2.1.1,p0.2.2.2.2.2.2.2.1.2.1,p0.2.2.2.2.2.2.2.1.2.2.1,p0.2.2.2.2.2.2.2.1.2.2.2.1,p0.2.2.2.2.2.2.2.1.2.2.2.2.1,qL (w64 (w64 (p0.2.2.2.2.2.2.2.1.2.2.2.2.2.1+w64 (Int.tmod (w64 (w64 (p0.2.2.1+p0.2.2.2.2.1)+1)) 2*qZ 23))+w64 (Int.tmod (w64 (w64 (p0.2.2.2.1+p0.2.2.2.2.1)+1)) 2*qZ 22)),24),p0.2.2.2.2.2.2.2.1.2.2.2.2.2.2))
      (.ret (((p0.2.2.2.2.2.2.2.1.1,p0.2.2.2.2.2.2.2.1.2.1,p0.2.2.2.2.2.2.2.1.2.2.1,p0.2.2.2.2.2.2.2.1.2.2.2.1,p0.2.2.2.2.2.2.2.1.2.2.2.2.1,qL (w64 (w64 (p0.2.2.2.2.2.2.2.1.2.2.2.2.2.1+w64 (Int.tmod (w64 (w64 (p0.2.2.1+p0.2.2.2.2.1)+1)) 2*qZ 23))+w64 (Int.tmod (w64 (w64 (p0.2.2.2.1+p0.2.2.2.2.1)+1)) 2*qZ 22)),24),p0.2.2.2.2.2.2.2.1.2.2.2.2.2.2),qo (p0.2.2.2.2.2.2.2.1.1,p0.2.2.2.2.2.2.2.1.2.1,p0.2.2.2.2.2.2.2.1.2.2.1,p0.2.2.2.2.2.2.2.1.2.2.2.1,p0.2.2.2.2.2.2.2.1.2.2.2.2.1,qL (w64 (w64 (p0.2.2.2.2.2.2.2.1.2.2.2.2.2.1+w64 (Int.tmod (w64 (w64 (p0.2.2.1+p0.2.2.2.2.1)+1)) 2*qZ 23))+w64 (Int.tmod (w64 (w64 (p0.2.2.2.1+p0.2.2.2.2.1)+1)) 2*qZ 22)),24),p0.2.2.2.2.2.2.2.1.2.2.2.2.2.2)==0,())))
      .fail)
     .fail)
     .fail)
    .fail)
    (.ite (x.1==24)
    (.ite (qb3 (p0.2.2.2.2.2.2.2.1.2.2.2.2.2.1,11))
     (.ite (qbz (p0.2.2.2.2.2.2.2.1.1,p0.2.2.2.2.2.2.2.1.2.1,p0.2.2.2.2.2.2.2.1.2.2.1,p0.2.2.2.2.2.2.2.1.2.2.2.1,p0.2.2.2.2.2.2.2.1.2.2.2.2.1,qL (p0.2.2.2.2.2.2.2.1.2.2.2.2.2.1,11),p0.2.2.2.2.2.2.2.1.2.2.2.2.2.2))
     (.ret (((p0.2.2.2.2.2.2.2.1.1,p0.2.2.2.2.2.2.2.1.2.1,p0.2.2.2.2.2.2.2.1.2.2.1,p0.2.2.2.2.2.2.2.1.2.2.2.1,p0.2.2.2.2.2.2.2.1.2.2.2.2.1,qL (p0.2.2.2.2.2.2.2.1.2.2.2.2.2.1,11),p0.2.2.2.2.2.2.2.1.2.2.2.2.2.2),qo (p0.2.2.2.2.2.2.2.1.1,p0.2.2.2.2.2.2.2.1.2.1,p0.2.2.2.2.2.2.2.1.2.2.1,p0.2.2.2.2.2.2.2.1.2.2.2.1,p0.2.2.2.2.2.2.2.1.2.2.2.2.1,qL (p0.2.2.2.2.2.2.2.1.2.2.2.2.2.1,11),p0.2.2.2.2.2.2.2.1.2.2.2.2.2.2)==0,())))
     .fail)
     .fail)
    (.ite (x.1==25&&x.2.1)
     (.ite (qb3 (p0.2.2.2.2.2.2.2.1.2.2.2.2.2.1,20))
     (.ite (qbz (p0.2.2.2.2.2.2.2.1.1,p0.2.2.2.2.2.2.2.1.2.1,p0.2.2.2.2.2.2.2.1.2.2.1,p0.2.2.2.2.2.2.2.1.2.2.2.1,p0.2.2.2.2.2.2.2.1.2.2.2.2.1,qL (p0.2.2.2.2.2.2.2.1.2.2.2.2.2.1,20),p0.2.2.2.2.2.2.2.1.2.2.2.2.2.2))
      (.ret (((p0.2.2.2.2.2.2.2.1.1,p0.2.2.2.2.2.2.2.1.2.1,p0.2.2.2.2.2.2.2.1.2.2.1,p0.2.2.2.2.2.2.2.1.2.2.2.1,p0.2.2.2.2.2.2.2.1.2.2.2.2.1,qL (p0.2.2.2.2.2.2.2.1.2.2.2.2.2.1,20),p0.2.2.2.2.2.2.2.1.2.2.2.2.2.2),qo (p0.2.2.2.2.2.2.2.1.1,p0.2.2.2.2.2.2.2.1.2.1,p0.2.2.2.2.2.2.2.1.2.2.1,p0.2.2.2.2.2.2.2.1.2.2.2.1,p0.2.2.2.2.2.2.2.1.2.2.2.2.1,qL (p0.2.2.2.2.2.2.2.1.2.2.2.2.2.1,20),p0.2.2.2.2.2.2.2.1.2.2.2.2.2.2)==0,())))
      .fail)
     .fail)
     (.ite (x.1==25)
     (.ite (qb3 (p0.2.2.2.2.2.2.2.1.2.2.2.2.2.1,8))
      (.ite (qbz (p0.2.2.2.2.2.2.2.1.1,p0.2.2.2.2.2.2.2.1.2.1,p0.2.2.2.2.2.2.2.1.2.2.1,p0.2.2.2.2.2.2.2.1.2.2.2.1,p0.2.2.2.2.2.2.2.1.2.2.2.2.1,qL (p0.2.2.2.2.2.2.2.1.2.2.2.2.2.1,8),p0.2.2.2.2.2.2.2.1.2.2.2.2.2.2))
      (.ret (((p0.2.2.2.2.2.2.2.1.1,p0.2.2.2.2.2.2.2.1.2.1,p0.2.2.2.2.2.2.2.1.2.2.1,p0.2.2.2.2.2.2.2.1.2.2.2.1,p0.2.2.2.2.2.2.2.1.2.2.2.2.1,qL (p0.2.2.2.2.2.2.2.1.2.2.2.2.2.1,8),p0.2.2.2.2.2.2.2.1.2.2.2.2.2.2),qo (p0.2.2.2.2.2.2.2.1.1,p0.2.2.2.2.2.2.2.1.2.1,p0.2.2.2.2.2.2.2.1.2.2.1,p0.2.2.2.2.2.2.2.1.2.2.2.1,p0.2.2.2.2.2.2.2.1.2.2.2.2.1,qL (p0.2.2.2.2.2.2.2.1.2.2.2.2.2.1,8),p0.2.2.2.2.2.2.2.1.2.2.2.2.2.2)==0,())))
      .fail)
      .fail)
     (.ite (qbz p0.2.2.2.2.2.2.2.1)
      (.ret ((p0.2.2.2.2.2.2.2.1,qo p0.2.2.2.2.2.2.2.1==0,())))
      .fail))))))
   (.ret ((p0.2.2.2.2.2.2.1,p0.2.1,()))))))
def qdD (x:qc qhr):Bool:=(qdE x).val.isSome
def qx (x:qc qhr):Sh.den qke:=(qdE x).qQ default
theorem qvK (x:qc qhr) (h:qdD x=true):(qdE x).val=some (qx x):=PO.qb7 default h
def qbV:LoopN where
 M:=[2,3,4,5,6,7]
 T:=[8,9,10,11,31,32,33,34,35,36,37,38,39,40,41,42,43,44,45,46,47,48,49,50,51,52]
 D:=[5,6,7]
 ss:=[.box 0 0,.ty (.int .i64),.ty (.int .i64),.ty (.int .i64),.ty .str,.ty (.int .i64)]
 hs:=[.ty qbd]
 es:=[.exit 0,.ret]
 σ:=(Ty.den (.int .i64))×(Ty.den (.int .i64))×(Ty.den (.int .i64))×(Sh.den (.ty qbd))
 x0:=fun x y=>(x.2.1,x.2.2.1,x.2.2.2.2.2,y)
 put:=fun x _ s=>((x.1,s.1,s.2.1,x.2.2.2.1,x.2.2.2.2.1,s.2.2.1),s.2.2.2)
 fuel:=fun _ _=>30
 turn:=fun x _ s =>
 (.ite (decide (s.2.2.1≤25))
  (.ite (qdD (s.2.2.1,false,x.2.2.2.2.1))
  (.ite ((qx (s.2.2.1,false,x.2.2.2.2.1)).2.1)
   (.ret (.out 1 (x.2.2.2.1,0,s.2.2.1,(qx (s.2.2.1,false,x.2.2.2.2.1)).1)))
   (.ite (qdD (s.2.2.1,true,x.2.2.2.2.1))
   (.ite ((qx (s.2.2.1,true,x.2.2.2.2.1)).2.1)
    (.ret (.out 1 (x.2.2.2.1,0,s.2.2.1,(qx (s.2.2.1,true,x.2.2.2.2.1)).1)))
    (.ret (.on (s.1,s.2.1,w64 (s.2.2.1+1),s.2.2.2))))
   .fail))
  .fail)
  (.ret (.out 0 (s.1,s.2.1,s.2.2.1,s.2.2.2))))
abbrev qgc:List Ty:=[.str]
abbrev qiM:Sh:=Sh.tup (Sh.pair (Sh.ty qbd) (Sh.pair (Sh.ty (Ty.int IntKind.i64)) (Sh.pair (Sh.ty (Ty.int IntKind.i64)) (Sh.ty Ty.unit))))
def qeC (x:qc qgc):PO (Sh.den qiM) :=
 (.ite (qfo x)
  (.ite (qcO x==0||decide (qh x<qcO x))
  (.ret (((0,0,0,0,0,0,0,false,()),0,3,())))
  (.ite (qb2 (x,0))
   (.ite (bif qcO x==4 then qb2 (x,1)&&Nat.ble (List.length (qbt (x,0))+List.length (qbt (x,1))) 9223372036854775807 else true)
   (.opt (LoopN.res qbV ((),0,0,qcO x,bif qcO x==4 then qbt (x,0)++qbt (x,1) else qbt (x,0),1) (0,0,0,0,0,0,0,false,())) fun p0 =>
    (.ite (way p0.1)
    (.ret (((0,0,0,0,0,0,0,false,()),0,7,())))
    (.ret ((p0.2.2.2.2,p0.2.1,p0.2.2.1,())))))
   .fail)
   .fail))
  .fail)
def qez (x:qc qgc):Bool:=(qeC x).val.isSome
def qdP (x:qc qgc):Sh.den qiM:=(qeC x).qQ default
theorem quz (x:qc qgc) (h:qez x=true):(qeC x).val=some (qdP x):=PO.qb7 default h
end Go.Av
end
section
namespace Go.Av
open Go
theorem qMU:∀(l m:List Bool) (a b:Nat),l.length=m.length→hb l a=hb m b→a=b∧l=m
 |[],[],_,_,_,h=>⟨h,rfl⟩
 |x::l,y::m,a,b,hlen,h=>by
  unfold hb at h
  obtain⟨h1,h2⟩:=qMU l m _ _ (Nat.succ.inj hlen) h
  refine⟨?_,?_⟩
  ·cases x<;>cases y<;>simp at h1<;>omega
  ·rw[h2,show x=y by cases x<;>cases y<;>simp at h1⊢<;>omega]
theorem qN1 (m:Nat):∀{x y:Int},0≤x→x<(2 ^ m:Nat)→0≤y→y<(2 ^ m:Nat)→(∀k,k<m→bI x k=bI y k)→x=y:=by
 intro x y h1 h2 h3 h4 h
 obtain⟨a,rfl⟩:=Int.eq_ofNat_of_zero_le h1
 obtain⟨b,rfl⟩:=Int.eq_ofNat_of_zero_le h3
 have e:a=b:=by
  refine Nat.eq_of_testBit_eq fun j=>?_
  by_cases hj:j<m
  ·rw[qxb,qxb];exact h j hj
  ·have:2 ^ m≤2 ^ j:=qeU (by omega)
   rw[Nat.testBit_lt_two_pow (by omega),Nat.testBit_lt_two_pow (by omega)]
 rw[e]
def unlike:List UInt8→List UInt8→Bool
 |a::l,b::m=>(a==48&&b==49)||((a==49&&b==48)||unlike l m)
 |_,_=>false
def apart (a b:List UInt8):Bool:=unlike (a.take 16) (b.take 16)||(a.length==32&&(b.length==32&&unlike (a.drop 16) (b.drop 16)))
end Go.Av
end
section
namespace Go.Av
open Go
def H (l:List Bool):Int:=((hb l 0:Nat):Int)
theorem qp3 (l:List Bool):hb l 0<2 ^ l.length:=by
 have:=qLn l 0 0 (by omega)
 rwa [Nat.zero_add] at this
theorem qO (l:List Bool):0≤H l:=by unfold H;omega
theorem qbO {l:List Bool} {k:Nat} (h:l.length≤k):H l<(2 ^ k:Nat):=by
 have h1:=qp3 l
 have h2:2 ^ l.length≤2 ^ k:=qeU h
 unfold H;omega
theorem qrJ (l:List Bool) (j:Nat):(hb l 0).testBit j=(decide (j<l.length)&&l.getD (l.length-1-j) false):=by
 rw[qHh]
 by_cases h:j<l.length
 ·rw[if_pos h,decide_eq_true h,Bool.true_and]
 ·rw[if_neg h,decide_eq_false h,Bool.false_and,Nat.zero_testBit]
theorem qwj (l:List Bool) (a:Nat) (h:a≤l.length):hb l 0 / 2 ^ a=hb (l.take (l.length-a)) 0:=by
 refine Nat.eq_of_testBit_eq fun j=>?_
 rw[Nat.testBit_div_two_pow,qrJ,qrJ,List.length_take,Nat.min_eq_left (Nat.sub_le ..)]
 by_cases hj:j<l.length-a
 ·rw[decide_eq_true hj,decide_eq_true (show j+a<l.length by omega),Bool.true_and,Bool.true_and,List.getD_eq_getElem?_getD,List.getD_eq_getElem?_getD,List.getElem?_take,if_pos (by omega)]
  congr 2;omega
 ·rw[decide_eq_false hj,decide_eq_false (show ¬j+a<l.length by omega),Bool.false_and,Bool.false_and]
theorem qSt (l:List Bool) (m:Nat) (h:m≤l.length):hb l 0 % 2 ^ m=hb (l.drop (l.length-m)) 0:=by
 refine Nat.eq_of_testBit_eq fun j=>?_
 rw[Nat.testBit_mod_two_pow,qrJ,qrJ,List.length_drop]
 by_cases hj:j<m
 ·rw[decide_eq_true hj,decide_eq_true (show j<l.length by omega),decide_eq_true (show j<l.length-(l.length-m) by omega),Bool.true_and,Bool.true_and,Bool.true_and,List.getD_eq_getElem?_getD,List.getD_eq_getElem?_getD,List.getElem?_drop]
  congr 2;omega
 ·rw[decide_eq_false hj,decide_eq_false (show ¬j<l.length-(l.length-m) by omega),Bool.false_and,Bool.false_and]
def sl (l:List Bool) (a m:Nat):List Bool:=(l.take (l.length-a)).drop (l.length-a-m)
theorem qz5 (l:List Bool) (a m:Nat) (h:a+m≤l.length):(sl l a m).length=m:=by
 unfold sl;rw[List.length_drop,List.length_take];omega
theorem qNH (l:List Bool) (a m:Nat) (h:a+m≤l.length):hb l 0 / 2 ^ a % 2 ^ m=hb (sl l a m) 0:=by
 have hl:(l.take (l.length-a)).length=l.length-a:=by rw[List.length_take];omega
 rw[qwj l a (by omega),qSt _ m (by omega),hl]
 rfl
theorem qcW (l:List Bool) (a m:Nat) (h:a+m≤l.length):qa (H l,(a:Int),(m:Int))=H (sl l a m):=by
 show H l / (2 ^ (a:Int).toNat:Nat) % (2 ^ (m:Int).toNat:Nat)=H (sl l a m)
 rw[Int.toNat_natCast,Int.toNat_natCast]
 unfold H
 rw[←qNH l a m h]
 norm_cast
theorem qtD:∀(m n:Nat),hb (qV m n) 0=n % 2 ^ m:=by
 intro m n
 refine Nat.eq_of_testBit_eq fun j=>?_
 have key:∀(m:Nat) (i:Nat),i<m→(qV m n).getD i false=n.testBit (m-1-i):=by
  intro m
  induction m with
  |zero=>intro i h;omega
  |succ m ih =>
   intro i h
   cases i with
   |zero =>
    show(n / 2 ^ m % 2==1)=_
    rw[Nat.testBit_eq_decide_div_mod_eq,show m+1-1-0=m by omega,Bool.eq_iff_iff,beq_iff_eq,decide_eq_true_eq]
   |succ i =>
    show(qV m n).getD i false=_
    rw[ih i (by omega)]
    congr 1;omega
 rw[qrJ,Nat.testBit_mod_two_pow,qd0]
 by_cases hj:j<m
 ·rw[decide_eq_true hj,Bool.true_and,Bool.true_and,key m _ (by omega)]
  congr 1;omega
 ·rw[decide_eq_false hj,Bool.false_and,Bool.false_and]
theorem qQc (l:List Bool):qV l.length (hb l 0)=l :=
 (qMU _ _ 0 0 (qd0 ..) (by rw[qtD,Nat.mod_eq_of_lt (qp3 l)])).2
def eqC (l:List Bool) (c:Nat):Bool:=l==qV l.length c
theorem qhb (l:List Bool) (c:Nat) (hc:c<2 ^ l.length):(H l==(c:Int))=eqC l c:=by
 unfold eqC H
 rw[Bool.eq_iff_iff,beq_iff_eq,beq_iff_eq]
 constructor
 ·intro h
  have h:hb l 0=c:=by omega
  rw[←h,qQc]
 ·intro h
  rw[h,qtD,Nat.mod_eq_of_lt hc]
theorem qpu (l:List Bool) (k c:Nat) (hk:k≤l.length) (hk2:k<64) (hc:c<2 ^ (l.length-k)):(qba .i64 (H l) (k:Int)==(c:Int))=eqC (l.take (l.length-k)) c:=by
 have e:qba .i64 (H l) (k:Int)=H (l.take (l.length-k)):=by
  rw[qnX _ _ hk2]
  unfold H
  rw[←qwj l k hk]
  norm_cast
 rw[e,qhb _ _ (by rw[List.length_take,Nat.min_eq_left (Nat.sub_le ..)];exact hc)]
theorem qpZ (a b:List Bool):hb (a++b) 0=hb a 0*2 ^ b.length+hb b 0:=by
 have key:∀(b:List Bool) (n:Nat),hb b n=n*2 ^ b.length+hb b 0:=by
  intro b
  induction b with
  |nil=>intro n;simp[hb]
  |cons x b ih =>
   intro n
   show hb b (2*n+x.toNat)=_+hb b (2*0+x.toNat)
   rw[Nat.mul_zero,Nat.zero_add,ih (2*n+x.toNat),ih x.toNat,List.length_cons,Nat.pow_succ]
   generalize 2 ^ b.length=p
   rw[Nat.add_mul,Nat.mul_comm 2 n,Nat.mul_assoc,Nat.mul_comm 2 p]
   omega
 have h2:∀(a:List Bool) (n:Nat),hb (a++b) n=hb b (hb a n):=by
  intro a
  induction a with
  |nil=>intro n;rfl
  |cons x a ih=>intro n;exact ih _
 rw[h2,key]
theorem qQe (h k:Nat) (l:List Bool) (hk:k+l.length≤62) (hh:h*2 ^ (k+l.length)<4611686018427387904) :
  bor .i64 ((h*2 ^ (k+l.length):Nat):Int) (qC .i64 (H l) (k:Int))=(((h*2 ^ l.length+hb l 0)*2 ^ k:Nat):Int):=by
 have h1:=qp3 l
 have hp:2 ^ (k+l.length)≤2 ^ 62:=qeU hk
 have h2:hb l 0*2 ^ k<2 ^ (k+l.length):=by rw[Nat.pow_add,Nat.mul_comm (2 ^ k)];exact Nat.mul_lt_mul_of_pos_right h1 (Nat.two_pow_pos k)
 unfold H
 rw[qqR _ k (by omega) (by omega),qth (by omega) (by omega),Nat.mul_comm h,←Nat.two_pow_add_eq_or_of_lt h2,Nat.pow_add,Nat.add_mul,Nat.mul_comm (2 ^ k),Nat.mul_comm h,Nat.mul_assoc,Nat.mul_assoc,Nat.mul_comm h]
theorem qQn (h:Nat) (l:List Bool) (hk:l.length≤62) (hh:h*2 ^ l.length<4611686018427387904) :
  bor .i64 ((h*2 ^ l.length:Nat):Int) (H l)=((h*2 ^ l.length+hb l 0:Nat):Int):=by
 have h1:=qp3 l
 have hp:2 ^ l.length≤2 ^ 62:=qeU hk
 unfold H
 rw[qth (by omega) (by omega),Nat.mul_comm h,Nat.two_pow_add_eq_or_of_lt h1]
theorem qIR (l:List Bool) (k:Nat) (hk:l.length+k≤61):qC .i64 (H l) (k:Int)=((hb l 0*2 ^ k:Nat):Int):=by
 have h1:=qp3 l
 have h2:hb l 0*2 ^ k<2 ^ (l.length+k):=by rw[Nat.pow_add];exact Nat.mul_lt_mul_of_pos_right h1 (Nat.two_pow_pos k)
 have hp:2 ^ (l.length+k)≤2 ^ 61:=qeU hk
 exact qqR _ _ (by omega) (by omega)
theorem qHJ (a b:List Bool) (k:Nat) (hb':b.length=k) (hk:a.length+k≤61):bor .i64 (qC .i64 (H a) (k:Int)) (H b)=H (a++b):=by
 subst hb'
 have h1:=qp3 a
 have h2:hb a 0*2 ^ b.length<2 ^ (a.length+b.length):=by rw[Nat.pow_add];exact Nat.mul_lt_mul_of_pos_right h1 (Nat.two_pow_pos _)
 have hp:2 ^ (a.length+b.length)≤2 ^ 61:=qeU hk
 rw[qIR _ _ hk,qQn _ _ (by omega) (by omega)]
 unfold H
 rw[qpZ]
theorem quk (a b:List Bool) (k j:Nat) (hb':b.length+j=k) (hk:a.length+k≤61):bor .i64 (qC .i64 (H a) (k:Int)) (qC .i64 (H b) (j:Int))=qC .i64 (H (a++b)) (j:Int):=by
 subst hb'
 have h1:=qp3 a
 have h2:hb a 0*2 ^ (b.length+j)<2 ^ (a.length+(b.length+j)):=by rw[Nat.pow_add 2 a.length];exact Nat.mul_lt_mul_of_pos_right h1 (Nat.two_pow_pos _)
 have hp:2 ^ (a.length+(b.length+j))≤2 ^ 61:=qeU hk
 rw[qIR _ _ hk,Nat.add_comm b.length j,qQe _ _ _ (by omega) (by rw[Nat.add_comm j];omega),qIR _ _ (by rw[List.length_append];omega),qpZ]
theorem qRL (a b:List Bool) (h:a.length=b.length):hb (List.zipWith (·&&·) a b) 0=hb a 0 &&& hb b 0:=by
 refine Nat.eq_of_testBit_eq fun j=>?_
 rw[Nat.testBit_and,qrJ,qrJ,qrJ,List.length_zipWith,h,Nat.min_self]
 by_cases hj:j<b.length
 ·rw[decide_eq_true hj,Bool.true_and,Bool.true_and,Bool.true_and,List.getD_eq_getElem?_getD,List.getD_eq_getElem?_getD,List.getD_eq_getElem?_getD,List.getElem?_zipWith,
   List.getElem?_eq_getElem (show b.length-1-j<a.length by omega),List.getElem?_eq_getElem (show b.length-1-j<b.length by omega)]
  rfl
 ·rw[decide_eq_false hj,Bool.false_and,Bool.false_and,Bool.false_and]
theorem qnV (l:List Bool) (m:Nat) (hl:l.length=16) (hm:m<65536):qef .i64 (H l) (m:Int)=H (List.zipWith (·&&·) (qV 16 (65535-m)) l):=by
 have h1:=qp3 l
 rw[hl] at h1
 have h1:hb l 0<65536:=h1
 have e:(BitVec.ofInt 64 ((hb l 0:Nat):Int) &&& ~~~(BitVec.ofInt 64 (m:Int))).toNat=hb (List.zipWith (·&&·) (qV 16 (65535-m)) l) 0:=by
  rw[BitVec.toNat_and,BitVec.toNat_not,qn8 (by omega),qn8 (by omega),qRL _ _ (by rw[qd0,hl]),qtD]
  refine Nat.eq_of_testBit_eq fun j=>?_
  rw[Nat.testBit_and,Nat.testBit_and]
  by_cases hj:j<16
  ·rw[Bool.and_comm]
   congr 1
   rw[show 2 ^ 64-1-m=(65535-m)+2 ^ 16*281474976710655 by omega,show(65535-m) % 2 ^ 16=65535-m by omega,Nat.add_comm,Nat.testBit_two_pow_mul_add _ (by omega),if_pos hj]
  ·have:(hb l 0).testBit j=false:=by rw[qrJ,hl,decide_eq_false hj,Bool.false_and]
   rw[this,Bool.false_and,Bool.and_false]
 have e2:qef .i64 (H l) (m:Int)=w64 (((BitVec.ofInt 64 ((hb l 0:Nat):Int) &&& ~~~(BitVec.ofInt 64 (m:Int))).toNat:Nat):Int):=rfl
 rw[e2,e]
 have h3:=qp3 (List.zipWith (·&&·) (qV 16 (65535-m)) l)
 rw[List.length_zipWith,qd0,hl] at h3
 rw[qrb (Nat.lt_of_lt_of_le h3 (by decide))]
 rfl
theorem qm (l:List Bool) (k:Nat) (h:k<l.length):bI (H l) k=l.getD (l.length-1-k) false:=by
 unfold H
 rw[←qxb,qrJ,decide_eq_true h,Bool.true_and]
def bis (x:Int):Nat→List Bool
 |0=>[]
 |m+1=>bI x m::bis x m
theorem qtg (x:Int):∀m,(bis x m).length=m
 |0=>rfl
 |m+1=>congrArg (·+1) (qtg x m)
theorem qIz (x:Int):∀(m i:Nat),i<m→(bis x m).getD i false=bI x (m-1-i)
 |m+1,0,_=>by show bI x m=_;congr 1
 |m+1,i+1,h=>by
  show(bis x m).getD i false=_
  rw[qIz x m i (by omega)]
  congr 1;omega
theorem qPz (x:Int) (m:Nat):H (bis x m)=x % (2 ^ m:Nat):=by
 have hb:=qm9 x m
 have h1:H (bis x m)<(2 ^ m:Nat):=qbO (Nat.le_of_eq (qtg x m))
 refine qN1 m (qO _) h1 hb.1 hb.2 fun k hk=>?_
 rw[qm _ _ (by rw[qtg];exact hk),qtg,qIz _ _ _ (by omega),qtV _ hk]
 congr 1;omega
theorem qc9 {x:Int} {m:Nat} (h0:0≤x) (h:x<(2 ^ m:Nat)):H (bis x m)=x:=by
 rw[qPz,Int.emod_eq_of_lt h0 h]
def SG:List Bool→Int
 |[]=>0
 |b::r=>H r-b.toNat*(2 ^ r.length:Nat)
theorem qMJ (b:Bool) (r:List Bool):H (b::r)=b.toNat*(2 ^ r.length:Nat)+H r:=by
 have:=qpZ [b] r
 unfold H
 rw[show b::r=[b]++r from rfl,this,show hb [b] 0=b.toNat by cases b<;>rfl,Int.natCast_add,Int.natCast_mul]
theorem qLE (b:Bool) (r:List Bool):SG (b::r)=bif b then H (b::r)-(2 ^ (r.length+1):Nat) else H (b::r):=by
 unfold SG
 rw[qMJ,Nat.pow_succ]
 cases b
 ·simp
 ·simp only[Bool.toNat_true,cond_true];omega
theorem qNB (b:Bool) (r:List Bool):qb8 (H (b::r),((r.length+1:Nat):Int))=SG (b::r):=by
 rw[qLE]
 show(bif H (b::r) / (2 ^ (((r.length+1:Nat):Int)-1).toNat:Nat)==1 then H (b::r)-(2 ^ ((r.length+1:Nat):Int).toNat:Nat) else H (b::r))=_
 rw[show(((r.length+1:Nat):Int)-1).toNat=r.length by omega,Int.toNat_natCast]
 have e:(H (b::r) / (2 ^ r.length:Nat)==1)=b:=by
  have h:=qwj (b::r) r.length (by simp)
  have e2:(b::r).length-r.length=1:=by simp
  rw[e2] at h
  have e3:H (b::r) / (2 ^ r.length:Nat)=((hb [b] 0:Nat):Int):=by
   unfold H
   rw[show hb [b] 0=hb (b::r) 0 / 2 ^ r.length from h.symm]
   norm_cast
  rw[e3]
  cases b<;>rfl
 rw[e]
theorem qOC:∀l:List Bool,2*SG l=SG (l++[false])∨l=[]
 |[]=>.inr rfl
 |b::r=>.inl (by
  show 2*(H r-b.toNat*(2 ^ r.length:Nat))=H (r++[false])-b.toNat*(2 ^ (r++[false]).length:Nat)
  have h:H (r++[false])=2*H r:=by
   unfold H
   rw[qpZ]
   show((hb r 0*2+0:Nat):Int)=_
   omega
  rw[h,List.length_append,Nat.pow_add]
  generalize 2 ^ r.length=p
  cases b<;>simp<;>omega)
theorem qbA (b:Bool) (r:List Bool) (k:Nat) (h:k<r.length+1):bI (SG (b::r)) k=(b::r).getD (r.length-k) false:=by
 have e:SG (b::r) % (2 ^ (r.length+1):Nat)=H (b::r) % (2 ^ (r.length+1):Nat):=by
  rw[qLE]
  cases b
  ·rfl
  ·exact Int.sub_emod_right ..
 rw[←qtV (SG (b::r)) h,e,qtV _ h,qm _ _ (by simpa using h)]
 congr 1
theorem qAg (x:Int) (m:Nat) (h1:-(2 ^ m:Nat)≤x) (h2:x<(2 ^ m:Nat)):SG (bis x (m+1))=x:=by
 show H (bis x m)-(bI x m).toNat*(2 ^ (bis x m).length:Nat)=x
 rw[qPz,qtg]
 unfold bI
 have hp:=Nat.two_pow_pos m
 by_cases hx:x<0
 ·have hd:x / (2 ^ m:Nat)=-1:=by
   have e1:(x+(2 ^ m:Nat)) / (2 ^ m:Nat)=0:=Int.ediv_eq_zero_of_lt (by omega) (by omega)
   rw[Int.add_ediv_of_dvd_right (Int.dvd_refl _),Int.ediv_self (by omega)] at e1
   omega
  have hm:=Int.emod_add_mul_ediv x (2 ^ m:Nat)
  rw[hd] at hm ⊢
  simp only[show((-1:Int) % 2==1)=true from rfl,Bool.toNat_true]
  omega
 ·have hd:x / (2 ^ m:Nat)=0:=Int.ediv_eq_zero_of_lt (by omega) h2
  rw[hd,Int.emod_eq_of_lt (by omega) h2]
  simp
end Go.Av
end
section
namespace Go.Av
open Go
theorem q9 (l:List Bool) (a m:Nat):(sl l a m).length=min m (l.length-a):=by
 unfold sl;rw[List.length_drop,List.length_take];omega
theorem qt7 (l:List Bool) (m:Nat) (hm:0<m) (h:l.length=m):qb8 (H l,(m:Int))=SG l:=by
 match l with
 |[]=>simp at h;omega
 |b::r=>rw[←h];exact qNB b r
theorem qS2 (l:List Bool) (m:Nat) (h:l.length≤m):-((2 ^ m:Nat):Int)≤SG l∧SG l<(2 ^ m:Nat):=by
 match l with
 |[]=>have:=Nat.two_pow_pos m;exact⟨by show _≤(0:Int);omega,by show(0:Int)<_;omega⟩
 |b::r =>
  have h1:=qO r
  have h2:=qbO (l:=r) (Nat.le_refl _)
  have h3:2 ^ (r.length+1)≤2 ^ m:=qeU h
  rw[Nat.pow_succ] at h3
  unfold SG
  cases b
  ·simp only[Bool.toNat_false];constructor<;>omega
  ·simp only[Bool.toNat_true];constructor<;>omega
theorem qvT (l:List Bool) (m:Nat) (hm:0<m) (h2:m≤24) (h:l.length=m):w64 (2*SG l)=SG (l++[false]):=by
 have hb:=qS2 l 24 (by omega)
 rw[qt (by omega) (by omega)]
 rcases qOC l with e |e
 ·exact e
 ·subst e;simp at h;omega
theorem qub (l:List Bool) (m:Nat) (h1:1≤m) (h2:m≤24) (h:l.length=m):qcK (H l,(m:Int))=true:=by
 have hb:=qO l
 have hc:=qbO (l:=l) (k:=24) (by omega)
 show(decide ((1:Int)≤(m:Int))&&(decide ((m:Int)≤24)&&(decide (0≤H l)&&decide (H l<33554432))))=true
 rw[qK (by omega),qK (by omega),qK (by omega),qK (by omega)]
 rfl
def nx (j s:Bool):Bool:=!(j ^^ s)
theorem qSg:∀(a b:List Bool),a.length=1→b.length=1→qie IntKind.i64 (qie IntKind.i64 1 (H a)) (H b)=H (List.zipWith nx a b)
 |[false],[false],_,_=>rfl
 |[true],[false],_,_=>rfl
 |[false],[true],_,_=>rfl
 |[true],[true],_,_=>rfl
theorem qAH (z:Int) (h1:-1000000≤z) (h2:z≤1000000):w64 z=z:=qt (by omega) (by omega)
def qT (v:Int):Bool:=decide (v≤12)
abbrev D1:=qbd.den×Bool×Unit
def op1 (o:Option D1):Option (Option qbd.den):=o.map fun p=>bif p.2.1 then some p.1 else none
theorem qtS (c:Bool) {a b:Option D1} {a' b':Option qbd.den} (h1:op1 a=some a') (h2:op1 b=some b'):op1 (bif c then a else b)=some (bif c then a' else b'):=by cases c<;>assumption
theorem qP0 {o:Option D1} {d:Option qbd.den} (h:op1 o=some d):∃p:D1,o=some p∧(bif p.2.1 then some p.1 else none)=d:=by
 cases o with
 |none=>cases h
 |some p=>exact⟨p,rfl,Option.some.inj h⟩
def qcz (l:List Bool):Option qbd.den :=
 (bif (eqC l 48896) then
 (some (1,0,0,0,0,0,0,false,())) else
 (bif (eqC (l.take 8) 190) then
 (some (2,0,0,0,0,H (sl l 0 8),0,false,())) else
 (bif (eqC (l.take 10) 416) then
 (some (19,H (sl l 0 3),H (sl l 3 3),0,0,0,0,false,())) else
 (bif (eqC (l.take 10) 384) then
 (some (20,H (sl l 0 3),H (sl l 3 3),0,0,0,0,false,())) else
 (bif (eqC (l.take 10) 480) then
 (some (21,H (sl l 0 3),H (sl l 3 3),0,0,0,0,false,())) else
 (bif (eqC (l.take 10) 448) then
 (some (22,H (sl l 0 3),H (sl l 3 3),0,0,0,0,false,())) else
 (bif (eqC (l.take 10) 266) then
 (some (23,0,H (sl l 0 3),H (sl l 3 3),0,0,0,false,())) else
 (bif (eqC (l.take 5) 28) then
 (some (24,0,0,0,0,SG (sl l 0 11++[false]),0,false,())) else
 (bif (eqC (l.take 4) 13&&decide (H (sl l 8 4)≤13)) then
 (some (25,0,0,0,0,SG (sl l 0 8++[false]),H (sl l 8 4),false,())) else
 none)))))))))
theorem qNx (l:List Bool) (hl:l.length=16):op1 (qiT (H l)).val=some (qcz l):=by
 have g1:qn (H l,0,3)=true:=rfl
 have g2:qn (H l,3,3)=true:=rfl
 have g3:qn (H l,0,8)=true:=rfl
 have g4:qn (H l,0,11)=true:=rfl
 have g5:qn (H l,8,4)=true:=rfl
 have g6:qa (H l,0,8)=H (sl l 0 8):=qcW l 0 8 (by omega)
 have g7:qa (H l,0,3)=H (sl l 0 3):=qcW l 0 3 (by omega)
 have g8:qa (H l,3,3)=H (sl l 3 3):=qcW l 3 3 (by omega)
 have g9:qa (H l,0,11)=H (sl l 0 11):=qcW l 0 11 (by omega)
 have g10:qa (H l,8,4)=H (sl l 8 4):=qcW l 8 4 (by omega)
 have g11:(qba IntKind.i64 (H l) 8==190)=eqC (l.take 8) 190:=(by have:=qpu l 8 190 (by omega) (by omega) (by rw[hl];decide);rw[hl] at this;exact this)
 have g12:(qba IntKind.i64 (H l) 6==416)=eqC (l.take 10) 416:=(by have:=qpu l 6 416 (by omega) (by omega) (by rw[hl];decide);rw[hl] at this;exact this)
 have g13:(qba IntKind.i64 (H l) 6==384)=eqC (l.take 10) 384:=(by have:=qpu l 6 384 (by omega) (by omega) (by rw[hl];decide);rw[hl] at this;exact this)
 have g14:(qba IntKind.i64 (H l) 6==480)=eqC (l.take 10) 480:=(by have:=qpu l 6 480 (by omega) (by omega) (by rw[hl];decide);rw[hl] at this;exact this)
 have g15:(qba IntKind.i64 (H l) 6==448)=eqC (l.take 10) 448:=(by have:=qpu l 6 448 (by omega) (by omega) (by rw[hl];decide);rw[hl] at this;exact this)
 have g16:(qba IntKind.i64 (H l) 6==266)=eqC (l.take 10) 266:=(by have:=qpu l 6 266 (by omega) (by omega) (by rw[hl];decide);rw[hl] at this;exact this)
 have g17:(qba IntKind.i64 (H l) 11==28)=eqC (l.take 5) 28:=(by have:=qpu l 11 28 (by omega) (by omega) (by rw[hl];decide);rw[hl] at this;exact this)
 have g18:(qba IntKind.i64 (H l) 12==13)=eqC (l.take 4) 13:=(by have:=qpu l 12 13 (by omega) (by omega) (by rw[hl];decide);rw[hl] at this;exact this)
 have g19:(H l==48896)=eqC l 48896:=qhb l 48896 (by rw[hl];decide)
 have g20:qb8 (H (sl l 0 11),11)=SG (sl l 0 11):=qt7 (sl l 0 11) 11 (by omega) (by simp[q9,hl])
 have g21:qcK (H (sl l 0 11),11)=true:=qub _ 11 (by omega) (by omega) (by simp[q9,hl])
 have g22:w64 (2*SG (sl l 0 11))=SG (sl l 0 11++[false]):=qvT (sl l 0 11) 11 (by omega) (by omega) (by simp[q9,hl])
 have g23:qb8 (H (sl l 0 8),8)=SG (sl l 0 8):=qt7 (sl l 0 8) 8 (by omega) (by simp[q9,hl])
 have g24:qcK (H (sl l 0 8),8)=true:=qub _ 8 (by omega) (by omega) (by simp[q9,hl])
 have g25:w64 (2*SG (sl l 0 8))=SG (sl l 0 8++[false]):=qvT (sl l 0 8) 8 (by omega) (by omega) (by simp[q9,hl])
 simp only[qiT,PO.val,g1,g2,g3,g4,g5,g6,g7,g8,g9,g10,g11,g12,g13,g14,g15,g16,g17,g18,g19,g20,g21,g22,g23,g24,g25,bne,Bool.and_self,cond_true,cond_false,Bool.cond_self]
 unfold qcz
 repeat' (first|refine qtS _ ?_ ?_ |rfl)
def qdY (lx ly:List Bool):Option qbd.den :=
 (bif (eqC (ly.take 1) 1) then
 none else
 (bif (eqC lx 59983) then
 (bif ((qT (H (sl ly 8 4))&&(qT (H (sl ly 0 4))&&true))) then
 (bif (eqC (sl ly 4 2) 0) then
 (some ((5+H (sl ly 4 2)),H (sl ly 8 4),0,H (sl ly 0 4),0,H (sl ly 12 3++sl ly 6 2),0,false,())) else
 (bif (decide (H (sl ly 12 3++sl ly 6 2) > 0)) then some ((5+H (sl ly 4 2)),H (sl ly 8 4),0,H (sl ly 0 4),0,H (sl ly 12 3++sl ly 6 2),0,false,()) else none)) else
 none) else
 (bif (eqC lx 60015) then
 (bif ((qT (H (sl ly 8 4))&&(qT (H (sl ly 0 4))&&true))) then
 (bif (eqC (sl ly 4 2) 0) then
 (bif (eqC (sl ly 12 3++sl ly 6 2) 0) then some (9,H (sl ly 8 4),0,H (sl ly 0 4),0,0,0,false,()) else none) else
 none) else
 none) else
 (bif (eqC (List.zipWith (·&&·) (qV 16 65520) lx) 59904) then
 (bif ((qT (H (sl ly 8 4))&&(qT (H (sl lx 0 4))&&(qT (H (sl ly 0 4))&&true)))) then
 (bif (eqC (sl ly 4 2) 0) then
 (bif (eqC (sl ly 12 3++sl ly 6 2) 0) then some (10,H (sl ly 8 4),H (sl lx 0 4),H (sl ly 0 4),0,0,0,false,()) else none) else
 none) else
 none) else
 (bif (eqC (List.zipWith (·&&·) (qV 16 65520) lx) 59936) then
 (bif ((qT (H (sl ly 8 4))&&(qT (H (sl lx 0 4))&&(qT (H (sl ly 0 4))&&true)))) then
 (bif (eqC (sl ly 4 2) 0) then
 (bif (eqC (sl ly 12 3++sl ly 6 2) 0) then some (11,H (sl ly 8 4),H (sl lx 0 4),H (sl ly 0 4),0,0,0,false,()) else none) else
 none) else
 none) else
 (bif (eqC (List.zipWith (·&&·) (qV 16 65520) lx) 59968) then
 (bif ((qT (H (sl ly 8 4))&&(qT (H (sl lx 0 4))&&(qT (H (sl ly 0 4))&&true)))) then
 (bif (eqC (sl ly 4 2) 0) then
 (bif (eqC (sl ly 12 3++sl ly 6 2) 0) then some (12,H (sl ly 8 4),H (sl lx 0 4),H (sl ly 0 4),0,0,0,false,()) else none) else
 none) else
 none) else
 (bif (eqC (List.zipWith (·&&·) (qV 16 65520) lx) 60032) then
 (bif ((qT (H (sl ly 8 4))&&(qT (H (sl lx 0 4))&&(qT (H (sl ly 0 4))&&true)))) then
 (bif (eqC (sl ly 4 2) 0) then
 (bif (eqC (sl ly 12 3++sl ly 6 2) 0) then some (13,H (sl ly 8 4),H (sl lx 0 4),H (sl ly 0 4),0,0,0,false,()) else none) else
 none) else
 none) else
 (bif (eqC (List.zipWith (·&&·) (qV 16 65520) lx) 60160) then
 (bif ((qT (H (sl ly 8 4))&&(qT (H (sl lx 0 4))&&(qT (H (sl ly 0 4))&&true)))) then
 (bif (eqC (sl ly 4 2) 0) then
 (bif (eqC (sl ly 12 3++sl ly 6 2) 0) then some (14,H (sl ly 8 4),H (sl lx 0 4),H (sl ly 0 4),0,0,0,false,()) else none) else
 none) else
 none) else
 (bif (eqC (List.zipWith (·&&·) (qV 16 65520) lx) 60320) then
 (bif ((qT (H (sl ly 8 4))&&(qT (H (sl lx 0 4))&&(qT (H (sl ly 0 4))&&true)))) then
 (bif (eqC (sl ly 4 2) 0) then
 (bif (eqC (sl ly 12 3++sl ly 6 2) 0) then some (15,H (sl ly 8 4),H (sl lx 0 4),H (sl ly 0 4),0,0,0,false,()) else none) else
 none) else
 none) else
 none)))))))))
theorem qPF (lx ly:List Bool) (hlx:lx.length=16) (hly:ly.length=16):op1 (qjE (H lx,H ly)).val=some (qdY lx ly):=by
 have g1:qn (H ly,8,4)=true:=rfl
 have g2:qn (H lx,0,4)=true:=rfl
 have g3:qn (H ly,0,4)=true:=rfl
 have g4:qn (H ly,12,3)=true:=rfl
 have g5:qn (H ly,6,2)=true:=rfl
 have g6:qn (H ly,4,2)=true:=rfl
 have g7:∀a:Int,qbj [a]=true:=fun _=>rfl
 have g8:∀a b:Int,qbj [a,b]=true:=fun _ _=>rfl
 have g9:∀a b c:Int,qbj [a,b,c]=true:=fun _ _ _=>rfl
 have g10:∀a b c d:Int,qbj [a,b,c,d]=true:=fun _ _ _ _=>rfl
 have g11:qa (H ly,8,4)=H (sl ly 8 4):=qcW ly 8 4 (by omega)
 have g12:qa (H ly,0,4)=H (sl ly 0 4):=qcW ly 0 4 (by omega)
 have g13:qa (H ly,4,2)=H (sl ly 4 2):=qcW ly 4 2 (by omega)
 have g14:qa (H ly,12,3)=H (sl ly 12 3):=qcW ly 12 3 (by omega)
 have g15:qa (H ly,6,2)=H (sl ly 6 2):=qcW ly 6 2 (by omega)
 have g16:qa (H lx,0,4)=H (sl lx 0 4):=qcW lx 0 4 (by omega)
 have g17:(qba IntKind.i64 (H ly) 15==1)=eqC (ly.take 1) 1:=(by have:=qpu ly 15 1 (by omega) (by omega) (by rw[hly];decide);rw[hly] at this;exact this)
 have g18:(qef IntKind.i64 (H lx) 15==59904)=eqC (List.zipWith (·&&·) (qV 16 65520) lx) 59904:=(by rw[show qef IntKind.i64 (H lx) 15=H (List.zipWith (·&&·) (qV 16 65520) lx) from qnV lx 15 hlx (by omega)];exact qhb (List.zipWith (·&&·) (qV 16 65520) lx) 59904 (by rw[List.length_zipWith,qd0,hlx];decide))
 have g19:(qef IntKind.i64 (H lx) 15==59936)=eqC (List.zipWith (·&&·) (qV 16 65520) lx) 59936:=(by rw[show qef IntKind.i64 (H lx) 15=H (List.zipWith (·&&·) (qV 16 65520) lx) from qnV lx 15 hlx (by omega)];exact qhb (List.zipWith (·&&·) (qV 16 65520) lx) 59936 (by rw[List.length_zipWith,qd0,hlx];decide))
 have g20:(qef IntKind.i64 (H lx) 15==59968)=eqC (List.zipWith (·&&·) (qV 16 65520) lx) 59968:=(by rw[show qef IntKind.i64 (H lx) 15=H (List.zipWith (·&&·) (qV 16 65520) lx) from qnV lx 15 hlx (by omega)];exact qhb (List.zipWith (·&&·) (qV 16 65520) lx) 59968 (by rw[List.length_zipWith,qd0,hlx];decide))
 have g21:(qef IntKind.i64 (H lx) 15==60032)=eqC (List.zipWith (·&&·) (qV 16 65520) lx) 60032:=(by rw[show qef IntKind.i64 (H lx) 15=H (List.zipWith (·&&·) (qV 16 65520) lx) from qnV lx 15 hlx (by omega)];exact qhb (List.zipWith (·&&·) (qV 16 65520) lx) 60032 (by rw[List.length_zipWith,qd0,hlx];decide))
 have g22:(qef IntKind.i64 (H lx) 15==60160)=eqC (List.zipWith (·&&·) (qV 16 65520) lx) 60160:=(by rw[show qef IntKind.i64 (H lx) 15=H (List.zipWith (·&&·) (qV 16 65520) lx) from qnV lx 15 hlx (by omega)];exact qhb (List.zipWith (·&&·) (qV 16 65520) lx) 60160 (by rw[List.length_zipWith,qd0,hlx];decide))
 have g23:(qef IntKind.i64 (H lx) 15==60320)=eqC (List.zipWith (·&&·) (qV 16 65520) lx) 60320:=(by rw[show qef IntKind.i64 (H lx) 15=H (List.zipWith (·&&·) (qV 16 65520) lx) from qnV lx 15 hlx (by omega)];exact qhb (List.zipWith (·&&·) (qV 16 65520) lx) 60320 (by rw[List.length_zipWith,qd0,hlx];decide))
 have g24:(H lx==59983)=eqC lx 59983:=qhb lx 59983 (by rw[hlx];decide)
 have g25:(H lx==60015)=eqC lx 60015:=qhb lx 60015 (by rw[hlx];decide)
 have g26:bor IntKind.i64 (qC IntKind.i64 (H (sl ly 12 3)) 2) (H (sl ly 6 2))=H (sl ly 12 3++sl ly 6 2):=qHJ (sl ly 12 3) (sl ly 6 2) 2 (by simp[q9,hlx,hly]) (by simp[q9,hlx,hly])
 have g27:qbL [H (sl ly 8 4),H (sl ly 0 4)]=(qT (H (sl ly 8 4))&&(qT (H (sl ly 0 4))&&true)):=rfl
 have g28:qbL [H (sl ly 8 4),H (sl lx 0 4),H (sl ly 0 4)]=(qT (H (sl ly 8 4))&&(qT (H (sl lx 0 4))&&(qT (H (sl ly 0 4))&&true))):=rfl
 have g29:(H (sl ly 4 2)==0)=eqC (sl ly 4 2) 0:=qhb (sl ly 4 2) 0 (by rw[show(sl ly 4 2).length=2 by simp[q9,hlx,hly]];decide)
 have g30:(H (sl ly 12 3++sl ly 6 2)==0)=eqC (sl ly 12 3++sl ly 6 2) 0:=qhb (sl ly 12 3++sl ly 6 2) 0 (by rw[show(sl ly 12 3++sl ly 6 2).length=5 by simp[q9,hlx,hly]];decide)
 have g31:w64 (5+H (sl ly 4 2))=(5+H (sl ly 4 2)):=qAH _ (by have:=qO (sl ly 4 2);omega) (by have:=qbO (l:=sl ly 4 2) (k:=4) (by simp[q9,hlx,hly]);omega)
 simp only[qjE,PO.val,g1,g2,g3,g4,g5,g6,g7,g8,g9,g10,g11,g12,g13,g14,g15,g16,g17,g18,g19,g20,g21,g22,g23,g24,g25,g26,g27,g28,g29,g30,g31,bne,Bool.and_self,cond_true,cond_false,Bool.cond_self]
 unfold qdY
 repeat' (first|refine qtS _ ?_ ?_ |rfl)
def qd8 (lx ly:List Bool):Option qbd.den :=
 (bif (!eqC (sl ly 4 4) 0) then
 none else
 (bif (eqC (List.zipWith (·&&·) (qV 16 65520) lx) 64256) then
 (bif (eqC (sl ly 12 4) 15) then
 (bif ((qT (H (sl ly 8 4))&&(qT (H (sl lx 0 4))&&(qT (H (sl ly 0 4))&&true)))) then some (16,H (sl ly 8 4),H (sl lx 0 4),H (sl ly 0 4),0,0,0,false,()) else none) else
 none) else
 (bif (eqC (List.zipWith (·&&·) (qV 16 65520) lx) 64416) then
 (bif (H (sl ly 12 4) != H (sl ly 8 4)) then
 (bif ((qT (H (sl ly 12 4))&&(qT (H (sl ly 8 4))&&(qT (H (sl lx 0 4))&&(qT (H (sl ly 0 4))&&true))))) then some (17,H (sl ly 12 4),H (sl lx 0 4),H (sl ly 0 4),H (sl ly 8 4),0,0,false,()) else none) else
 none) else
 none)))
theorem qME (lx ly:List Bool) (hlx:lx.length=16) (hly:ly.length=16):op1 (qhH (H lx,H ly)).val=some (qd8 lx ly):=by
 have g1:qn (H lx,0,4)=true:=rfl
 have g2:qn (H ly,0,4)=true:=rfl
 have g3:qn (H ly,12,4)=true:=rfl
 have g4:qn (H ly,8,4)=true:=rfl
 have g5:qn (H ly,4,4)=true:=rfl
 have g6:∀a:Int,qbj [a]=true:=fun _=>rfl
 have g7:∀a b:Int,qbj [a,b]=true:=fun _ _=>rfl
 have g8:∀a b c:Int,qbj [a,b,c]=true:=fun _ _ _=>rfl
 have g9:∀a b c d:Int,qbj [a,b,c,d]=true:=fun _ _ _ _=>rfl
 have g10:qa (H ly,4,4)=H (sl ly 4 4):=qcW ly 4 4 (by omega)
 have g11:qa (H ly,12,4)=H (sl ly 12 4):=qcW ly 12 4 (by omega)
 have g12:qa (H ly,8,4)=H (sl ly 8 4):=qcW ly 8 4 (by omega)
 have g13:qa (H lx,0,4)=H (sl lx 0 4):=qcW lx 0 4 (by omega)
 have g14:qa (H ly,0,4)=H (sl ly 0 4):=qcW ly 0 4 (by omega)
 have g15:(qef IntKind.i64 (H lx) 15==64256)=eqC (List.zipWith (·&&·) (qV 16 65520) lx) 64256:=(by rw[show qef IntKind.i64 (H lx) 15=H (List.zipWith (·&&·) (qV 16 65520) lx) from qnV lx 15 hlx (by omega)];exact qhb (List.zipWith (·&&·) (qV 16 65520) lx) 64256 (by rw[List.length_zipWith,qd0,hlx];decide))
 have g16:(qef IntKind.i64 (H lx) 15==64416)=eqC (List.zipWith (·&&·) (qV 16 65520) lx) 64416:=(by rw[show qef IntKind.i64 (H lx) 15=H (List.zipWith (·&&·) (qV 16 65520) lx) from qnV lx 15 hlx (by omega)];exact qhb (List.zipWith (·&&·) (qV 16 65520) lx) 64416 (by rw[List.length_zipWith,qd0,hlx];decide))
 have g17:qbL [H (sl ly 8 4),H (sl lx 0 4),H (sl ly 0 4)]=(qT (H (sl ly 8 4))&&(qT (H (sl lx 0 4))&&(qT (H (sl ly 0 4))&&true))):=rfl
 have g18:qbL [H (sl ly 12 4),H (sl ly 8 4),H (sl lx 0 4),H (sl ly 0 4)]=(qT (H (sl ly 12 4))&&(qT (H (sl ly 8 4))&&(qT (H (sl lx 0 4))&&(qT (H (sl ly 0 4))&&true)))):=rfl
 have g19:(H (sl ly 4 4)==0)=eqC (sl ly 4 4) 0:=qhb (sl ly 4 4) 0 (by rw[show(sl ly 4 4).length=4 by simp[q9,hlx,hly]];decide)
 have g20:(H (sl ly 12 4)==15)=eqC (sl ly 12 4) 15:=qhb (sl ly 12 4) 15 (by rw[show(sl ly 12 4).length=4 by simp[q9,hlx,hly]];decide)
 simp only[qhH,PO.val,g1,g2,g3,g4,g5,g6,g7,g8,g9,g10,g11,g12,g13,g14,g15,g16,g17,g18,g19,g20,bne,Bool.and_self,cond_true,cond_false,Bool.cond_self]
 unfold qd8
 repeat' (first|refine qtS _ ?_ ?_ |rfl)
def qkG (lx ly:List Bool):Option qbd.den :=
 (bif (eqC (ly.take 1) 1) then
 none else
 (bif (eqC (List.zipWith (·&&·) (qV 16 65520) lx) 62304) then
 (bif (eqC (sl ly 5 1) 0) then
 (bif (decide ((H (sl ly 0 5)+1-H (sl ly 12 3++sl ly 6 2))≥1)) then
 (bif ((qT (H (sl ly 8 4))&&(qT (H (sl lx 0 4))&&true))) then some (18,H (sl ly 8 4),H (sl lx 0 4),0,(H (sl ly 0 5)+1-H (sl ly 12 3++sl ly 6 2)),H (sl ly 12 3++sl ly 6 2),0,false,()) else none) else
 none) else
 none) else
 (bif (eqC (List.zipWith (·&&·) (qV 16 64496) lx) 62016) then
 (bif ((qT (H (sl ly 8 4))&&true)) then some (3,H (sl ly 8 4),0,0,0,H (sl lx 0 4++sl lx 10 1++sl ly 12 3++sl ly 0 8),0,false,()) else none) else
 (bif (eqC (List.zipWith (·&&·) (qV 16 64496) lx) 62144) then
 (bif ((qT (H (sl ly 8 4))&&true)) then some (4,H (sl ly 8 4),0,0,0,H (sl lx 0 4++sl lx 10 1++sl ly 12 3++sl ly 0 8),0,false,()) else none) else
 none))))
theorem qQE (lx ly:List Bool) (hlx:lx.length=16) (hly:ly.length=16):op1 (qjF (H lx,H ly)).val=some (qkG lx ly):=by
 have g1:qn (H ly,8,4)=true:=rfl
 have g2:qn (H lx,0,4)=true:=rfl
 have g3:qn (H ly,12,3)=true:=rfl
 have g4:qn (H ly,6,2)=true:=rfl
 have g5:qn (H ly,0,5)=true:=rfl
 have g6:qn (H ly,5,1)=true:=rfl
 have g7:qn (H lx,10,1)=true:=rfl
 have g8:qn (H ly,0,8)=true:=rfl
 have g9:∀a:Int,qbj [a]=true:=fun _=>rfl
 have g10:∀a b:Int,qbj [a,b]=true:=fun _ _=>rfl
 have g11:∀a b c:Int,qbj [a,b,c]=true:=fun _ _ _=>rfl
 have g12:∀a b c d:Int,qbj [a,b,c,d]=true:=fun _ _ _ _=>rfl
 have g13:qa (H ly,5,1)=H (sl ly 5 1):=qcW ly 5 1 (by omega)
 have g14:qa (H ly,0,5)=H (sl ly 0 5):=qcW ly 0 5 (by omega)
 have g15:qa (H ly,12,3)=H (sl ly 12 3):=qcW ly 12 3 (by omega)
 have g16:qa (H ly,6,2)=H (sl ly 6 2):=qcW ly 6 2 (by omega)
 have g17:qa (H ly,8,4)=H (sl ly 8 4):=qcW ly 8 4 (by omega)
 have g18:qa (H lx,0,4)=H (sl lx 0 4):=qcW lx 0 4 (by omega)
 have g19:qa (H lx,10,1)=H (sl lx 10 1):=qcW lx 10 1 (by omega)
 have g20:qa (H ly,0,8)=H (sl ly 0 8):=qcW ly 0 8 (by omega)
 have g21:(qba IntKind.i64 (H ly) 15==1)=eqC (ly.take 1) 1:=(by have:=qpu ly 15 1 (by omega) (by omega) (by rw[hly];decide);rw[hly] at this;exact this)
 have g22:(qef IntKind.i64 (H lx) 15==62304)=eqC (List.zipWith (·&&·) (qV 16 65520) lx) 62304:=(by rw[show qef IntKind.i64 (H lx) 15=H (List.zipWith (·&&·) (qV 16 65520) lx) from qnV lx 15 hlx (by omega)];exact qhb (List.zipWith (·&&·) (qV 16 65520) lx) 62304 (by rw[List.length_zipWith,qd0,hlx];decide))
 have g23:(qef IntKind.i64 (H lx) 1039==62016)=eqC (List.zipWith (·&&·) (qV 16 64496) lx) 62016:=(by rw[show qef IntKind.i64 (H lx) 1039=H (List.zipWith (·&&·) (qV 16 64496) lx) from qnV lx 1039 hlx (by omega)];exact qhb (List.zipWith (·&&·) (qV 16 64496) lx) 62016 (by rw[List.length_zipWith,qd0,hlx];decide))
 have g24:(qef IntKind.i64 (H lx) 1039==62144)=eqC (List.zipWith (·&&·) (qV 16 64496) lx) 62144:=(by rw[show qef IntKind.i64 (H lx) 1039=H (List.zipWith (·&&·) (qV 16 64496) lx) from qnV lx 1039 hlx (by omega)];exact qhb (List.zipWith (·&&·) (qV 16 64496) lx) 62144 (by rw[List.length_zipWith,qd0,hlx];decide))
 have g25:bor IntKind.i64 (qC IntKind.i64 (H (sl ly 12 3)) 2) (H (sl ly 6 2))=H (sl ly 12 3++sl ly 6 2):=qHJ (sl ly 12 3) (sl ly 6 2) 2 (by simp[q9,hlx,hly]) (by simp[q9,hlx,hly])
 have g26:bor IntKind.i64 (qC IntKind.i64 (H (sl lx 0 4)) 12) (qC IntKind.i64 (H (sl lx 10 1)) 11)=qC IntKind.i64 (H (sl lx 0 4++sl lx 10 1)) 11:=quk (sl lx 0 4) (sl lx 10 1) 12 11 (by simp[q9,hlx,hly]) (by simp[q9,hlx,hly])
 have g27:bor IntKind.i64 (qC IntKind.i64 (H (sl lx 0 4++sl lx 10 1)) 11) (qC IntKind.i64 (H (sl ly 12 3)) 8)=qC IntKind.i64 (H (sl lx 0 4++sl lx 10 1++sl ly 12 3)) 8:=quk (sl lx 0 4++sl lx 10 1) (sl ly 12 3) 11 8 (by simp[q9,hlx,hly]) (by simp[q9,hlx,hly])
 have g28:bor IntKind.i64 (qC IntKind.i64 (H (sl lx 0 4++sl lx 10 1++sl ly 12 3)) 8) (H (sl ly 0 8))=H (sl lx 0 4++sl lx 10 1++sl ly 12 3++sl ly 0 8):=qHJ (sl lx 0 4++sl lx 10 1++sl ly 12 3) (sl ly 0 8) 8 (by simp[q9,hlx,hly]) (by simp[q9,hlx,hly])
 have g29:qbL [H (sl ly 8 4),H (sl lx 0 4)]=(qT (H (sl ly 8 4))&&(qT (H (sl lx 0 4))&&true)):=rfl
 have g30:qbL [H (sl ly 8 4)]=(qT (H (sl ly 8 4))&&true):=rfl
 have g31:(H (sl ly 5 1)==0)=eqC (sl ly 5 1) 0:=qhb (sl ly 5 1) 0 (by rw[show(sl ly 5 1).length=1 by simp[q9,hlx,hly]];decide)
 have g32:w64 (H (sl ly 0 5)+1)=H (sl ly 0 5)+1:=qAH _ (by have:=qO (sl ly 0 5);omega) (by have:=qbO (l:=sl ly 0 5) (k:=8) (by simp[q9,hlx,hly]);omega)
 have g33:w64 (H (sl ly 0 5)+1-H (sl ly 12 3++sl ly 6 2))=(H (sl ly 0 5)+1-H (sl ly 12 3++sl ly 6 2)):=qAH _ (by have:=qO (sl ly 0 5);have:=qbO (l:=sl ly 12 3++sl ly 6 2) (k:=8) (by simp[q9,hlx,hly]);omega) (by have:=qO (sl ly 12 3++sl ly 6 2);have:=qbO (l:=sl ly 0 5) (k:=8) (by simp[q9,hlx,hly]);omega)
 simp only[qjF,PO.val,g1,g2,g3,g4,g5,g6,g7,g8,g9,g10,g11,g12,g13,g14,g15,g16,g17,g18,g19,g20,g21,g22,g23,g24,g25,g26,g27,g28,g29,g30,g31,g32,g33,bne,Bool.and_self,cond_true,cond_false,Bool.cond_self]
 unfold qkG
 repeat' (first|refine qtS _ ?_ ?_ |rfl)
def qov (lx ly:List Bool):Option qbd.den :=
 (bif (!eqC (lx.take 5) 30||!eqC (ly.take 2) 2) then
 none else
 (bif (eqC (sl ly 12 1) 1) then
 (some (24,0,0,0,0,SG (sl lx 10 1++List.zipWith nx (sl ly 13 1) (sl lx 10 1)++List.zipWith nx (sl ly 11 1) (sl lx 10 1)++sl lx 0 10++sl ly 0 11++[false]),0,true,())) else
 (bif (decide (H (sl lx 6 4)≤13)) then some (25,0,0,0,0,SG (sl lx 10 1++sl ly 11 1++sl ly 13 1++sl lx 0 6++sl ly 0 11++[false]),H (sl lx 6 4),true,()) else none)))
theorem qOl (lx ly:List Bool) (hlx:lx.length=16) (hly:ly.length=16):op1 (qiU (H lx,H ly)).val=some (qov lx ly):=by
 have g1:qn (H lx,10,1)=true:=rfl
 have g2:qn (H ly,13,1)=true:=rfl
 have g3:qn (H ly,11,1)=true:=rfl
 have g4:qn (H ly,0,11)=true:=rfl
 have g5:qn (H ly,12,1)=true:=rfl
 have g6:qn (H lx,0,10)=true:=rfl
 have g7:qn (H lx,6,4)=true:=rfl
 have g8:qn (H lx,0,6)=true:=rfl
 have g9:qa (H ly,12,1)=H (sl ly 12 1):=qcW ly 12 1 (by omega)
 have g10:qa (H lx,10,1)=H (sl lx 10 1):=qcW lx 10 1 (by omega)
 have g11:qa (H ly,13,1)=H (sl ly 13 1):=qcW ly 13 1 (by omega)
 have g12:qa (H ly,11,1)=H (sl ly 11 1):=qcW ly 11 1 (by omega)
 have g13:qa (H lx,0,10)=H (sl lx 0 10):=qcW lx 0 10 (by omega)
 have g14:qa (H ly,0,11)=H (sl ly 0 11):=qcW ly 0 11 (by omega)
 have g15:qa (H lx,6,4)=H (sl lx 6 4):=qcW lx 6 4 (by omega)
 have g16:qa (H lx,0,6)=H (sl lx 0 6):=qcW lx 0 6 (by omega)
 have g17:(qba IntKind.i64 (H lx) 11==30)=eqC (lx.take 5) 30:=(by have:=qpu lx 11 30 (by omega) (by omega) (by rw[hlx];decide);rw[hlx] at this;exact this)
 have g18:(qba IntKind.i64 (H ly) 14==2)=eqC (ly.take 2) 2:=(by have:=qpu ly 14 2 (by omega) (by omega) (by rw[hly];decide);rw[hly] at this;exact this)
 have g19:qie IntKind.i64 (qie IntKind.i64 1 (H (sl ly 13 1))) (H (sl lx 10 1))=H (List.zipWith nx (sl ly 13 1) (sl lx 10 1)):=qSg _ _ (qz5 _ _ _ (by omega)) (qz5 _ _ _ (by omega))
 have g20:qie IntKind.i64 (qie IntKind.i64 1 (H (sl ly 11 1))) (H (sl lx 10 1))=H (List.zipWith nx (sl ly 11 1) (sl lx 10 1)):=qSg _ _ (qz5 _ _ _ (by omega)) (qz5 _ _ _ (by omega))
 have g21:bor IntKind.i64 (qC IntKind.i64 (H (sl lx 10 1)) 23) (qC IntKind.i64 (H (List.zipWith nx (sl ly 13 1) (sl lx 10 1))) 22)=qC IntKind.i64 (H (sl lx 10 1++List.zipWith nx (sl ly 13 1) (sl lx 10 1))) 22:=quk (sl lx 10 1) (List.zipWith nx (sl ly 13 1) (sl lx 10 1)) 23 22 (by simp[q9,hlx,hly]) (by simp[q9,hlx,hly])
 have g22:bor IntKind.i64 (qC IntKind.i64 (H (sl lx 10 1++List.zipWith nx (sl ly 13 1) (sl lx 10 1))) 22) (qC IntKind.i64 (H (List.zipWith nx (sl ly 11 1) (sl lx 10 1))) 21)=qC IntKind.i64 (H (sl lx 10 1++List.zipWith nx (sl ly 13 1) (sl lx 10 1)++List.zipWith nx (sl ly 11 1) (sl lx 10 1))) 21:=quk (sl lx 10 1++List.zipWith nx (sl ly 13 1) (sl lx 10 1)) (List.zipWith nx (sl ly 11 1) (sl lx 10 1)) 22 21 (by simp[q9,hlx,hly]) (by simp[q9,hlx,hly])
 have g23:bor IntKind.i64 (qC IntKind.i64 (H (sl lx 10 1++List.zipWith nx (sl ly 13 1) (sl lx 10 1)++List.zipWith nx (sl ly 11 1) (sl lx 10 1))) 21) (qC IntKind.i64 (H (sl lx 0 10)) 11)=qC IntKind.i64 (H (sl lx 10 1++List.zipWith nx (sl ly 13 1) (sl lx 10 1)++List.zipWith nx (sl ly 11 1) (sl lx 10 1)++sl lx 0 10)) 11:=quk (sl lx 10 1++List.zipWith nx (sl ly 13 1) (sl lx 10 1)++List.zipWith nx (sl ly 11 1) (sl lx 10 1)) (sl lx 0 10) 21 11 (by simp[q9,hlx,hly]) (by simp[q9,hlx,hly])
 have g24:bor IntKind.i64 (qC IntKind.i64 (H (sl lx 10 1++List.zipWith nx (sl ly 13 1) (sl lx 10 1)++List.zipWith nx (sl ly 11 1) (sl lx 10 1)++sl lx 0 10)) 11) (H (sl ly 0 11))=H (sl lx 10 1++List.zipWith nx (sl ly 13 1) (sl lx 10 1)++List.zipWith nx (sl ly 11 1) (sl lx 10 1)++sl lx 0 10++sl ly 0 11):=qHJ (sl lx 10 1++List.zipWith nx (sl ly 13 1) (sl lx 10 1)++List.zipWith nx (sl ly 11 1) (sl lx 10 1)++sl lx 0 10) (sl ly 0 11) 11 (by simp[q9,hlx,hly]) (by simp[q9,hlx,hly])
 have g25:bor IntKind.i64 (qC IntKind.i64 (H (sl lx 10 1)) 19) (qC IntKind.i64 (H (sl ly 11 1)) 18)=qC IntKind.i64 (H (sl lx 10 1++sl ly 11 1)) 18:=quk (sl lx 10 1) (sl ly 11 1) 19 18 (by simp[q9,hlx,hly]) (by simp[q9,hlx,hly])
 have g26:bor IntKind.i64 (qC IntKind.i64 (H (sl lx 10 1++sl ly 11 1)) 18) (qC IntKind.i64 (H (sl ly 13 1)) 17)=qC IntKind.i64 (H (sl lx 10 1++sl ly 11 1++sl ly 13 1)) 17:=quk (sl lx 10 1++sl ly 11 1) (sl ly 13 1) 18 17 (by simp[q9,hlx,hly]) (by simp[q9,hlx,hly])
 have g27:bor IntKind.i64 (qC IntKind.i64 (H (sl lx 10 1++sl ly 11 1++sl ly 13 1)) 17) (qC IntKind.i64 (H (sl lx 0 6)) 11)=qC IntKind.i64 (H (sl lx 10 1++sl ly 11 1++sl ly 13 1++sl lx 0 6)) 11:=quk (sl lx 10 1++sl ly 11 1++sl ly 13 1) (sl lx 0 6) 17 11 (by simp[q9,hlx,hly]) (by simp[q9,hlx,hly])
 have g28:bor IntKind.i64 (qC IntKind.i64 (H (sl lx 10 1++sl ly 11 1++sl ly 13 1++sl lx 0 6)) 11) (H (sl ly 0 11))=H (sl lx 10 1++sl ly 11 1++sl ly 13 1++sl lx 0 6++sl ly 0 11):=qHJ (sl lx 10 1++sl ly 11 1++sl ly 13 1++sl lx 0 6) (sl ly 0 11) 11 (by simp[q9,hlx,hly]) (by simp[q9,hlx,hly])
 have g29:(H (sl ly 12 1)==1)=eqC (sl ly 12 1) 1:=qhb (sl ly 12 1) 1 (by rw[show(sl ly 12 1).length=1 by simp[q9,hlx,hly]];decide)
 have g30:qb8 (H (sl lx 10 1++List.zipWith nx (sl ly 13 1) (sl lx 10 1)++List.zipWith nx (sl ly 11 1) (sl lx 10 1)++sl lx 0 10++sl ly 0 11),24)=SG (sl lx 10 1++List.zipWith nx (sl ly 13 1) (sl lx 10 1)++List.zipWith nx (sl ly 11 1) (sl lx 10 1)++sl lx 0 10++sl ly 0 11):=qt7 (sl lx 10 1++List.zipWith nx (sl ly 13 1) (sl lx 10 1)++List.zipWith nx (sl ly 11 1) (sl lx 10 1)++sl lx 0 10++sl ly 0 11) 24 (by omega) (by simp[q9,hlx,hly])
 have g31:qcK (H (sl lx 10 1++List.zipWith nx (sl ly 13 1) (sl lx 10 1)++List.zipWith nx (sl ly 11 1) (sl lx 10 1)++sl lx 0 10++sl ly 0 11),24)=true:=qub _ 24 (by omega) (by omega) (by simp[q9,hlx,hly])
 have g32:w64 (2*SG (sl lx 10 1++List.zipWith nx (sl ly 13 1) (sl lx 10 1)++List.zipWith nx (sl ly 11 1) (sl lx 10 1)++sl lx 0 10++sl ly 0 11))=SG (sl lx 10 1++List.zipWith nx (sl ly 13 1) (sl lx 10 1)++List.zipWith nx (sl ly 11 1) (sl lx 10 1)++sl lx 0 10++sl ly 0 11++[false]):=qvT (sl lx 10 1++List.zipWith nx (sl ly 13 1) (sl lx 10 1)++List.zipWith nx (sl ly 11 1) (sl lx 10 1)++sl lx 0 10++sl ly 0 11) 24 (by omega) (by omega) (by simp[q9,hlx,hly])
 have g33:qb8 (H (sl lx 10 1++sl ly 11 1++sl ly 13 1++sl lx 0 6++sl ly 0 11),20)=SG (sl lx 10 1++sl ly 11 1++sl ly 13 1++sl lx 0 6++sl ly 0 11):=qt7 (sl lx 10 1++sl ly 11 1++sl ly 13 1++sl lx 0 6++sl ly 0 11) 20 (by omega) (by simp[q9,hlx,hly])
 have g34:qcK (H (sl lx 10 1++sl ly 11 1++sl ly 13 1++sl lx 0 6++sl ly 0 11),20)=true:=qub _ 20 (by omega) (by omega) (by simp[q9,hlx,hly])
 have g35:w64 (2*SG (sl lx 10 1++sl ly 11 1++sl ly 13 1++sl lx 0 6++sl ly 0 11))=SG (sl lx 10 1++sl ly 11 1++sl ly 13 1++sl lx 0 6++sl ly 0 11++[false]):=qvT (sl lx 10 1++sl ly 11 1++sl ly 13 1++sl lx 0 6++sl ly 0 11) 20 (by omega) (by omega) (by simp[q9,hlx,hly])
 simp only[qiU,PO.val,g1,g2,g3,g4,g5,g6,g7,g8,g9,g10,g11,g12,g13,g14,g15,g16,g17,g18,g19,g20,g21,g22,g23,g24,g25,g26,g27,g28,g29,g30,g31,g32,g33,g34,g35,bne,Bool.and_self,cond_true,cond_false,Bool.cond_self]
 unfold qov
 repeat' (first|refine qtS _ ?_ ?_ |rfl)
end Go.Av
end
section
namespace Go.Av
open Go
def qcd (lx ly:List Bool):Option qbd.den:=(qdY lx ly).or ((qd8 lx ly).or ((qkG lx ly).or (qov lx ly)))
theorem qbB {x:Int} (h0:0≤x) (h:x≤12):qT (H (bis x 4))=true:=by
 unfold qT
 rw[qc9 h0 (by have:((2 ^ 4:Nat):Int)=16:=rfl;omega)]
 exact qK h
theorem qdV {x:Int} (h0:0≤x) (h:x≤12):H (bis x 4)=x:=qc9 h0 (by have:((2 ^ 4:Nat):Int)=16:=rfl;omega)
theorem qvM {x:Int} (h:x % 2=0):bI x 0=false:=by
 unfold bI
 rw[show x / (2 ^ 0:Nat)=x by simp,h]
 rfl
theorem qTB:qcz [true,false,true,true,true,true,true,true,false,false,false,false,false,false,false,false]=some (1,0,0,0,0,0,0,false,()):=by kernel_rfl
theorem qTC (imm:Int) (_0imm:0≤imm) (_1imm:imm≤255):qcz [true,false,true,true,true,true,true,false,bI imm 7,bI imm 6,bI imm 5,bI imm 4,bI imm 3,bI imm 2,bI imm 1,bI imm 0]=some (2,0,0,0,0,imm,0,false,()):=by
 have e:qcz [true,false,true,true,true,true,true,false,bI imm 7,bI imm 6,bI imm 5,bI imm 4,bI imm 3,bI imm 2,bI imm 1,bI imm 0]=some (2,0,0,0,0,H (bis imm 8),0,false,()):=by kernel_rfl
 rw[e,qc9 _0imm (by have:((2 ^ 8:Nat):Int)=256:=rfl;omega)]
theorem qTk (rd:Int) (_0rd:0≤rd) (_1rd:rd≤12) (imm:Int) (_0imm:0≤imm) (_1imm:imm≤65535):qcd [true,true,true,true,false,bI imm 11,true,false,false,true,false,false,bI imm 15,bI imm 14,bI imm 13,bI imm 12] [false,bI imm 10,bI imm 9,bI imm 8,bI rd 3,bI rd 2,bI rd 1,bI rd 0,bI imm 7,bI imm 6,bI imm 5,bI imm 4,bI imm 3,bI imm 2,bI imm 1,bI imm 0]=some (3,rd,0,0,0,imm,0,false,()):=by
 have nThree:qdY [true,true,true,true,false,bI imm 11,true,false,false,true,false,false,bI imm 15,bI imm 14,bI imm 13,bI imm 12] [false,bI imm 10,bI imm 9,bI imm 8,bI rd 3,bI rd 2,bI rd 1,bI rd 0,bI imm 7,bI imm 6,bI imm 5,bI imm 4,bI imm 3,bI imm 2,bI imm 1,bI imm 0]=none:=by kernel_rfl
 have nProduct:qd8 [true,true,true,true,false,bI imm 11,true,false,false,true,false,false,bI imm 15,bI imm 14,bI imm 13,bI imm 12] [false,bI imm 10,bI imm 9,bI imm 8,bI rd 3,bI rd 2,bI rd 1,bI rd 0,bI imm 7,bI imm 6,bI imm 5,bI imm 4,bI imm 3,bI imm 2,bI imm 1,bI imm 0]=none:=by
  have e:qd8 [true,true,true,true,false,bI imm 11,true,false,false,true,false,false,bI imm 15,bI imm 14,bI imm 13,bI imm 12] [false,bI imm 10,bI imm 9,bI imm 8,bI rd 3,bI rd 2,bI rd 1,bI rd 0,bI imm 7,bI imm 6,bI imm 5,bI imm 4,bI imm 3,bI imm 2,bI imm 1,bI imm 0]=(bif !eqC (sl [false,bI imm 10,bI imm 9,bI imm 8,bI rd 3,bI rd 2,bI rd 1,bI rd 0,bI imm 7,bI imm 6,bI imm 5,bI imm 4,bI imm 3,bI imm 2,bI imm 1,bI imm 0] 4 4) 0 then none else none):=by kernel_rfl
  rw[e];exact Bool.cond_self _ _
 have e0:∀L:Bool,qkG [true,true,true,true,false,L,true,false,false,true,false,false,bI imm 15,bI imm 14,bI imm 13,bI imm 12] [false,bI imm 10,bI imm 9,bI imm 8,bI rd 3,bI rd 2,bI rd 1,bI rd 0,bI imm 7,bI imm 6,bI imm 5,bI imm 4,bI imm 3,bI imm 2,bI imm 1,bI imm 0]=(bif (qT (H (bis rd 4))&&true) then some (3,H (bis rd 4),0,0,0,H [bI imm 15,bI imm 14,bI imm 13,bI imm 12,L,bI imm 10,bI imm 9,bI imm 8,bI imm 7,bI imm 6,bI imm 5,bI imm 4,bI imm 3,bI imm 2,bI imm 1,bI imm 0],0,false,()) else none):=by intro L;cases L<;>kernel_rfl
 have e:qkG [true,true,true,true,false,bI imm 11,true,false,false,true,false,false,bI imm 15,bI imm 14,bI imm 13,bI imm 12] [false,bI imm 10,bI imm 9,bI imm 8,bI rd 3,bI rd 2,bI rd 1,bI rd 0,bI imm 7,bI imm 6,bI imm 5,bI imm 4,bI imm 3,bI imm 2,bI imm 1,bI imm 0]=(bif (qT (H (bis rd 4))&&true) then some (3,H (bis rd 4),0,0,0,H (bis imm 16),0,false,()) else none):=e0 (bI imm 11)
 unfold qcd
 rw[nThree,nProduct,e,qbB _0rd _1rd,qdV _0rd _1rd,qc9 _0imm (by have:((2 ^ 16:Nat):Int)=65536:=rfl;omega)]
 rfl
theorem qTG (rd:Int) (_0rd:0≤rd) (_1rd:rd≤12) (imm:Int) (_0imm:0≤imm) (_1imm:imm≤65535):qcd [true,true,true,true,false,bI imm 11,true,false,true,true,false,false,bI imm 15,bI imm 14,bI imm 13,bI imm 12] [false,bI imm 10,bI imm 9,bI imm 8,bI rd 3,bI rd 2,bI rd 1,bI rd 0,bI imm 7,bI imm 6,bI imm 5,bI imm 4,bI imm 3,bI imm 2,bI imm 1,bI imm 0]=some (4,rd,0,0,0,imm,0,false,()):=by
 have nThree:qdY [true,true,true,true,false,bI imm 11,true,false,true,true,false,false,bI imm 15,bI imm 14,bI imm 13,bI imm 12] [false,bI imm 10,bI imm 9,bI imm 8,bI rd 3,bI rd 2,bI rd 1,bI rd 0,bI imm 7,bI imm 6,bI imm 5,bI imm 4,bI imm 3,bI imm 2,bI imm 1,bI imm 0]=none:=by kernel_rfl
 have nProduct:qd8 [true,true,true,true,false,bI imm 11,true,false,true,true,false,false,bI imm 15,bI imm 14,bI imm 13,bI imm 12] [false,bI imm 10,bI imm 9,bI imm 8,bI rd 3,bI rd 2,bI rd 1,bI rd 0,bI imm 7,bI imm 6,bI imm 5,bI imm 4,bI imm 3,bI imm 2,bI imm 1,bI imm 0]=none:=by
  have e:qd8 [true,true,true,true,false,bI imm 11,true,false,true,true,false,false,bI imm 15,bI imm 14,bI imm 13,bI imm 12] [false,bI imm 10,bI imm 9,bI imm 8,bI rd 3,bI rd 2,bI rd 1,bI rd 0,bI imm 7,bI imm 6,bI imm 5,bI imm 4,bI imm 3,bI imm 2,bI imm 1,bI imm 0]=(bif !eqC (sl [false,bI imm 10,bI imm 9,bI imm 8,bI rd 3,bI rd 2,bI rd 1,bI rd 0,bI imm 7,bI imm 6,bI imm 5,bI imm 4,bI imm 3,bI imm 2,bI imm 1,bI imm 0] 4 4) 0 then none else none):=by kernel_rfl
  rw[e];exact Bool.cond_self _ _
 have e0:∀L:Bool,qkG [true,true,true,true,false,L,true,false,true,true,false,false,bI imm 15,bI imm 14,bI imm 13,bI imm 12] [false,bI imm 10,bI imm 9,bI imm 8,bI rd 3,bI rd 2,bI rd 1,bI rd 0,bI imm 7,bI imm 6,bI imm 5,bI imm 4,bI imm 3,bI imm 2,bI imm 1,bI imm 0]=(bif (qT (H (bis rd 4))&&true) then some (4,H (bis rd 4),0,0,0,H [bI imm 15,bI imm 14,bI imm 13,bI imm 12,L,bI imm 10,bI imm 9,bI imm 8,bI imm 7,bI imm 6,bI imm 5,bI imm 4,bI imm 3,bI imm 2,bI imm 1,bI imm 0],0,false,()) else none):=by intro L;cases L<;>kernel_rfl
 have e:qkG [true,true,true,true,false,bI imm 11,true,false,true,true,false,false,bI imm 15,bI imm 14,bI imm 13,bI imm 12] [false,bI imm 10,bI imm 9,bI imm 8,bI rd 3,bI rd 2,bI rd 1,bI rd 0,bI imm 7,bI imm 6,bI imm 5,bI imm 4,bI imm 3,bI imm 2,bI imm 1,bI imm 0]=(bif (qT (H (bis rd 4))&&true) then some (4,H (bis rd 4),0,0,0,H (bis imm 16),0,false,()) else none):=e0 (bI imm 11)
 unfold qcd
 rw[nThree,nProduct,e,qbB _0rd _1rd,qdV _0rd _1rd,qc9 _0imm (by have:((2 ^ 16:Nat):Int)=65536:=rfl;omega)]
 rfl
theorem qTw (rd:Int) (_0rd:0≤rd) (_1rd:rd≤12) (rm:Int) (_0rm:0≤rm) (_1rm:rm≤12) (imm:Int) (_0imm:0≤imm) (_1imm:imm≤31):qcd [true,true,true,false,true,false,true,false,false,true,false,false,true,true,true,true] [false,bI imm 4,bI imm 3,bI imm 2,bI rd 3,bI rd 2,bI rd 1,bI rd 0,bI imm 1,bI imm 0,false,false,bI rm 3,bI rm 2,bI rm 1,bI rm 0]=some (5,rd,0,rm,0,imm,0,false,()):=by
 have e:qdY [true,true,true,false,true,false,true,false,false,true,false,false,true,true,true,true] [false,bI imm 4,bI imm 3,bI imm 2,bI rd 3,bI rd 2,bI rd 1,bI rd 0,bI imm 1,bI imm 0,false,false,bI rm 3,bI rm 2,bI rm 1,bI rm 0]=(bif (qT (H (bis rd 4))&&(qT (H (bis rm 4))&&true)) then some (5+H [false,false],H (bis rd 4),0,H (bis rm 4),0,H (bis imm 5),0,false,()) else none):=by kernel_rfl
 have p:((2 ^ 5:Nat):Int)=32:=rfl
 unfold qcd
 rw[e,qbB _0rd _1rd,qbB _0rm _1rm,qdV _0rd _1rd,qdV _0rm _1rm,qc9 (x:=imm) (by omega) (by omega)]
 rfl
theorem qTv (rd:Int) (_0rd:0≤rd) (_1rd:rd≤12) (rm:Int) (_0rm:0≤rm) (_1rm:rm≤12) (imm:Int) (_0imm:1≤imm) (_1imm:imm≤31):qcd [true,true,true,false,true,false,true,false,false,true,false,false,true,true,true,true] [false,bI imm 4,bI imm 3,bI imm 2,bI rd 3,bI rd 2,bI rd 1,bI rd 0,bI imm 1,bI imm 0,false,true,bI rm 3,bI rm 2,bI rm 1,bI rm 0]=some (6,rd,0,rm,0,imm,0,false,()):=by
 have e:qdY [true,true,true,false,true,false,true,false,false,true,false,false,true,true,true,true] [false,bI imm 4,bI imm 3,bI imm 2,bI rd 3,bI rd 2,bI rd 1,bI rd 0,bI imm 1,bI imm 0,false,true,bI rm 3,bI rm 2,bI rm 1,bI rm 0]=(bif (qT (H (bis rd 4))&&(qT (H (bis rm 4))&&true)) then(bif decide (H (bis imm 5) > 0) then some (5+H [false,true],H (bis rd 4),0,H (bis rm 4),0,H (bis imm 5),0,false,()) else none) else none):=by kernel_rfl
 have p:((2 ^ 5:Nat):Int)=32:=rfl
 unfold qcd
 rw[e,qbB _0rd _1rd,qbB _0rm _1rm,qdV _0rd _1rd,qdV _0rm _1rm,qc9 (x:=imm) (by omega) (by omega)]
 rw[qK (p:=imm > 0) (by omega)]
 rfl
theorem qTi (rd:Int) (_0rd:0≤rd) (_1rd:rd≤12) (rm:Int) (_0rm:0≤rm) (_1rm:rm≤12) (imm:Int) (_0imm:1≤imm) (_1imm:imm≤31):qcd [true,true,true,false,true,false,true,false,false,true,false,false,true,true,true,true] [false,bI imm 4,bI imm 3,bI imm 2,bI rd 3,bI rd 2,bI rd 1,bI rd 0,bI imm 1,bI imm 0,true,false,bI rm 3,bI rm 2,bI rm 1,bI rm 0]=some (7,rd,0,rm,0,imm,0,false,()):=by
 have e:qdY [true,true,true,false,true,false,true,false,false,true,false,false,true,true,true,true] [false,bI imm 4,bI imm 3,bI imm 2,bI rd 3,bI rd 2,bI rd 1,bI rd 0,bI imm 1,bI imm 0,true,false,bI rm 3,bI rm 2,bI rm 1,bI rm 0]=(bif (qT (H (bis rd 4))&&(qT (H (bis rm 4))&&true)) then(bif decide (H (bis imm 5) > 0) then some (5+H [true,false],H (bis rd 4),0,H (bis rm 4),0,H (bis imm 5),0,false,()) else none) else none):=by kernel_rfl
 have p:((2 ^ 5:Nat):Int)=32:=rfl
 unfold qcd
 rw[e,qbB _0rd _1rd,qbB _0rm _1rm,qdV _0rd _1rd,qdV _0rm _1rm,qc9 (x:=imm) (by omega) (by omega)]
 rw[qK (p:=imm > 0) (by omega)]
 rfl
theorem qTA (rd:Int) (_0rd:0≤rd) (_1rd:rd≤12) (rm:Int) (_0rm:0≤rm) (_1rm:rm≤12) (imm:Int) (_0imm:1≤imm) (_1imm:imm≤31):qcd [true,true,true,false,true,false,true,false,false,true,false,false,true,true,true,true] [false,bI imm 4,bI imm 3,bI imm 2,bI rd 3,bI rd 2,bI rd 1,bI rd 0,bI imm 1,bI imm 0,true,true,bI rm 3,bI rm 2,bI rm 1,bI rm 0]=some (8,rd,0,rm,0,imm,0,false,()):=by
 have e:qdY [true,true,true,false,true,false,true,false,false,true,false,false,true,true,true,true] [false,bI imm 4,bI imm 3,bI imm 2,bI rd 3,bI rd 2,bI rd 1,bI rd 0,bI imm 1,bI imm 0,true,true,bI rm 3,bI rm 2,bI rm 1,bI rm 0]=(bif (qT (H (bis rd 4))&&(qT (H (bis rm 4))&&true)) then(bif decide (H (bis imm 5) > 0) then some (5+H [true,true],H (bis rd 4),0,H (bis rm 4),0,H (bis imm 5),0,false,()) else none) else none):=by kernel_rfl
 have p:((2 ^ 5:Nat):Int)=32:=rfl
 unfold qcd
 rw[e,qbB _0rd _1rd,qbB _0rm _1rm,qdV _0rd _1rd,qdV _0rm _1rm,qc9 (x:=imm) (by omega) (by omega)]
 rw[qK (p:=imm > 0) (by omega)]
 rfl
theorem qTn (rd:Int) (_0rd:0≤rd) (_1rd:rd≤12) (rm:Int) (_0rm:0≤rm) (_1rm:rm≤12):qcd [true,true,true,false,true,false,true,false,false,true,true,false,true,true,true,true] [false,false,false,false,bI rd 3,bI rd 2,bI rd 1,bI rd 0,false,false,false,false,bI rm 3,bI rm 2,bI rm 1,bI rm 0]=some (9,rd,0,rm,0,0,0,false,()):=by
 have e:qdY [true,true,true,false,true,false,true,false,false,true,true,false,true,true,true,true] [false,false,false,false,bI rd 3,bI rd 2,bI rd 1,bI rd 0,false,false,false,false,bI rm 3,bI rm 2,bI rm 1,bI rm 0]=(bif (qT (H (bis rd 4))&&(qT (H (bis rm 4))&&true)) then some (9,H (bis rd 4),0,H (bis rm 4),0,0,0,false,()) else none):=by kernel_rfl
 unfold qcd
 rw[e,qbB _0rd _1rd,qbB _0rm _1rm,qdV _0rd _1rd,qdV _0rm _1rm]
 rfl
theorem qSJ (rd:Int) (_0rd:0≤rd) (_1rd:rd≤12) (rn:Int) (_0rn:0≤rn) (_1rn:rn≤12) (rm:Int) (_0rm:0≤rm) (_1rm:rm≤12):qcd [true,true,true,false,true,false,true,false,false,false,false,false,bI rn 3,bI rn 2,bI rn 1,bI rn 0] [false,false,false,false,bI rd 3,bI rd 2,bI rd 1,bI rd 0,false,false,false,false,bI rm 3,bI rm 2,bI rm 1,bI rm 0]=some (10,rd,rn,rm,0,0,0,false,()):=by
 have e:qdY [true,true,true,false,true,false,true,false,false,false,false,false,bI rn 3,bI rn 2,bI rn 1,bI rn 0] [false,false,false,false,bI rd 3,bI rd 2,bI rd 1,bI rd 0,false,false,false,false,bI rm 3,bI rm 2,bI rm 1,bI rm 0]=(bif (qT (H (bis rd 4))&&(qT (H (bis rn 4))&&(qT (H (bis rm 4))&&true))) then some (10,H (bis rd 4),H (bis rn 4),H (bis rm 4),0,0,0,false,()) else none):=by kernel_rfl
 unfold qcd
 rw[e,qbB _0rd _1rd,qbB _0rn _1rn,qbB _0rm _1rm,qdV _0rd _1rd,qdV _0rn _1rn,qdV _0rm _1rm]
 rfl
theorem qSz (rd:Int) (_0rd:0≤rd) (_1rd:rd≤12) (rn:Int) (_0rn:0≤rn) (_1rn:rn≤12) (rm:Int) (_0rm:0≤rm) (_1rm:rm≤12):qcd [true,true,true,false,true,false,true,false,false,false,true,false,bI rn 3,bI rn 2,bI rn 1,bI rn 0] [false,false,false,false,bI rd 3,bI rd 2,bI rd 1,bI rd 0,false,false,false,false,bI rm 3,bI rm 2,bI rm 1,bI rm 0]=some (11,rd,rn,rm,0,0,0,false,()):=by
 have e:qdY [true,true,true,false,true,false,true,false,false,false,true,false,bI rn 3,bI rn 2,bI rn 1,bI rn 0] [false,false,false,false,bI rd 3,bI rd 2,bI rd 1,bI rd 0,false,false,false,false,bI rm 3,bI rm 2,bI rm 1,bI rm 0]=(bif (qT (H (bis rd 4))&&(qT (H (bis rn 4))&&(qT (H (bis rm 4))&&true))) then some (11,H (bis rd 4),H (bis rn 4),H (bis rm 4),0,0,0,false,()) else none):=by kernel_rfl
 unfold qcd
 rw[e,qbB _0rd _1rd,qbB _0rn _1rn,qbB _0rm _1rm,qdV _0rd _1rd,qdV _0rn _1rn,qdV _0rm _1rm]
 rfl
theorem qSW (rd:Int) (_0rd:0≤rd) (_1rd:rd≤12) (rn:Int) (_0rn:0≤rn) (_1rn:rn≤12) (rm:Int) (_0rm:0≤rm) (_1rm:rm≤12):qcd [true,true,true,false,true,false,true,false,false,true,false,false,bI rn 3,bI rn 2,bI rn 1,bI rn 0] [false,false,false,false,bI rd 3,bI rd 2,bI rd 1,bI rd 0,false,false,false,false,bI rm 3,bI rm 2,bI rm 1,bI rm 0]=some (12,rd,rn,rm,0,0,0,false,()):=by
 have e:qdY [true,true,true,false,true,false,true,false,false,true,false,false,bI rn 3,bI rn 2,bI rn 1,bI rn 0] [false,false,false,false,bI rd 3,bI rd 2,bI rd 1,bI rd 0,false,false,false,false,bI rm 3,bI rm 2,bI rm 1,bI rm 0]=(bif eqC (bis rn 4) 15 then(bif (qT (H (bis rd 4))&&(qT (H (bis rm 4))&&true)) then some (5+H [false,false],H (bis rd 4),0,H (bis rm 4),0,H (sl [false,false,false,false,bI rd 3,bI rd 2,bI rd 1,bI rd 0,false,false,false,false,bI rm 3,bI rm 2,bI rm 1,bI rm 0] 12 3++sl [false,false,false,false,bI rd 3,bI rd 2,bI rd 1,bI rd 0,false,false,false,false,bI rm 3,bI rm 2,bI rm 1,bI rm 0] 6 2),0,false,()) else none) else bif (qT (H (bis rd 4))&&(qT (H (bis rn 4))&&(qT (H (bis rm 4))&&true))) then some (12,H (bis rd 4),H (bis rn 4),H (bis rm 4),0,0,0,false,()) else none):=by kernel_rfl
 have e2:eqC (bis rn 4) 15=false:=by rw[←qhb (bis rn 4) 15 (by rw[qtg];decide),qdV _0rn _1rn,beq_eq_false_iff_ne];omega
 unfold qcd
 rw[e,e2,qbB _0rd _1rd,qbB _0rn _1rn,qbB _0rm _1rm,qdV _0rd _1rd,qdV _0rn _1rn,qdV _0rm _1rm]
 rfl
theorem qSA (rd:Int) (_0rd:0≤rd) (_1rd:rd≤12) (rn:Int) (_0rn:0≤rn) (_1rn:rn≤12) (rm:Int) (_0rm:0≤rm) (_1rm:rm≤12):qcd [true,true,true,false,true,false,true,false,true,false,false,false,bI rn 3,bI rn 2,bI rn 1,bI rn 0] [false,false,false,false,bI rd 3,bI rd 2,bI rd 1,bI rd 0,false,false,false,false,bI rm 3,bI rm 2,bI rm 1,bI rm 0]=some (13,rd,rn,rm,0,0,0,false,()):=by
 have e:qdY [true,true,true,false,true,false,true,false,true,false,false,false,bI rn 3,bI rn 2,bI rn 1,bI rn 0] [false,false,false,false,bI rd 3,bI rd 2,bI rd 1,bI rd 0,false,false,false,false,bI rm 3,bI rm 2,bI rm 1,bI rm 0]=(bif (qT (H (bis rd 4))&&(qT (H (bis rn 4))&&(qT (H (bis rm 4))&&true))) then some (13,H (bis rd 4),H (bis rn 4),H (bis rm 4),0,0,0,false,()) else none):=by kernel_rfl
 unfold qcd
 rw[e,qbB _0rd _1rd,qbB _0rn _1rn,qbB _0rm _1rm,qdV _0rd _1rd,qdV _0rn _1rn,qdV _0rm _1rm]
 rfl
theorem qTb (rd:Int) (_0rd:0≤rd) (_1rd:rd≤12) (rn:Int) (_0rn:0≤rn) (_1rn:rn≤12) (rm:Int) (_0rm:0≤rm) (_1rm:rm≤12):qcd [true,true,true,false,true,false,true,true,false,false,false,false,bI rn 3,bI rn 2,bI rn 1,bI rn 0] [false,false,false,false,bI rd 3,bI rd 2,bI rd 1,bI rd 0,false,false,false,false,bI rm 3,bI rm 2,bI rm 1,bI rm 0]=some (14,rd,rn,rm,0,0,0,false,()):=by
 have e:qdY [true,true,true,false,true,false,true,true,false,false,false,false,bI rn 3,bI rn 2,bI rn 1,bI rn 0] [false,false,false,false,bI rd 3,bI rd 2,bI rd 1,bI rd 0,false,false,false,false,bI rm 3,bI rm 2,bI rm 1,bI rm 0]=(bif (qT (H (bis rd 4))&&(qT (H (bis rn 4))&&(qT (H (bis rm 4))&&true))) then some (14,H (bis rd 4),H (bis rn 4),H (bis rm 4),0,0,0,false,()) else none):=by kernel_rfl
 unfold qcd
 rw[e,qbB _0rd _1rd,qbB _0rn _1rn,qbB _0rm _1rm,qdV _0rd _1rd,qdV _0rn _1rn,qdV _0rm _1rm]
 rfl
theorem qS9 (rd:Int) (_0rd:0≤rd) (_1rd:rd≤12) (rn:Int) (_0rn:0≤rn) (_1rn:rn≤12) (rm:Int) (_0rm:0≤rm) (_1rm:rm≤12):qcd [true,true,true,false,true,false,true,true,true,false,true,false,bI rn 3,bI rn 2,bI rn 1,bI rn 0] [false,false,false,false,bI rd 3,bI rd 2,bI rd 1,bI rd 0,false,false,false,false,bI rm 3,bI rm 2,bI rm 1,bI rm 0]=some (15,rd,rn,rm,0,0,0,false,()):=by
 have e:qdY [true,true,true,false,true,false,true,true,true,false,true,false,bI rn 3,bI rn 2,bI rn 1,bI rn 0] [false,false,false,false,bI rd 3,bI rd 2,bI rd 1,bI rd 0,false,false,false,false,bI rm 3,bI rm 2,bI rm 1,bI rm 0]=(bif (qT (H (bis rd 4))&&(qT (H (bis rn 4))&&(qT (H (bis rm 4))&&true))) then some (15,H (bis rd 4),H (bis rn 4),H (bis rm 4),0,0,0,false,()) else none):=by kernel_rfl
 unfold qcd
 rw[e,qbB _0rd _1rd,qbB _0rn _1rn,qbB _0rm _1rm,qdV _0rd _1rd,qdV _0rn _1rn,qdV _0rm _1rm]
 rfl
theorem qSM (rd:Int) (_0rd:0≤rd) (_1rd:rd≤12) (rn:Int) (_0rn:0≤rn) (_1rn:rn≤12) (rm:Int) (_0rm:0≤rm) (_1rm:rm≤12):qcd [true,true,true,true,true,false,true,true,false,false,false,false,bI rn 3,bI rn 2,bI rn 1,bI rn 0] [true,true,true,true,bI rd 3,bI rd 2,bI rd 1,bI rd 0,false,false,false,false,bI rm 3,bI rm 2,bI rm 1,bI rm 0]=some (16,rd,rn,rm,0,0,0,false,()):=by
 have nThree:qdY [true,true,true,true,true,false,true,true,false,false,false,false,bI rn 3,bI rn 2,bI rn 1,bI rn 0] [true,true,true,true,bI rd 3,bI rd 2,bI rd 1,bI rd 0,false,false,false,false,bI rm 3,bI rm 2,bI rm 1,bI rm 0]=none:=by kernel_rfl
 have e:qd8 [true,true,true,true,true,false,true,true,false,false,false,false,bI rn 3,bI rn 2,bI rn 1,bI rn 0] [true,true,true,true,bI rd 3,bI rd 2,bI rd 1,bI rd 0,false,false,false,false,bI rm 3,bI rm 2,bI rm 1,bI rm 0]=(bif (qT (H (bis rd 4))&&(qT (H (bis rn 4))&&(qT (H (bis rm 4))&&true))) then some (16,H (bis rd 4),H (bis rn 4),H (bis rm 4),0,0,0,false,()) else none):=by kernel_rfl
 unfold qcd
 rw[nThree,e,qbB _0rd _1rd,qbB _0rn _1rn,qbB _0rm _1rm,qdV _0rd _1rd,qdV _0rn _1rn,qdV _0rm _1rm]
 rfl
theorem qSY (rd:Int) (_0rd:0≤rd) (_1rd:rd≤12) (ra:Int) (_0ra:0≤ra) (_1ra:ra≤12) (rn:Int) (_0rn:0≤rn) (_1rn:rn≤12) (rm:Int) (_0rm:0≤rm) (_1rm:rm≤12) (hne:ra≠rd):qcd [true,true,true,true,true,false,true,true,true,false,true,false,bI rn 3,bI rn 2,bI rn 1,bI rn 0] [bI rd 3,bI rd 2,bI rd 1,bI rd 0,bI ra 3,bI ra 2,bI ra 1,bI ra 0,false,false,false,false,bI rm 3,bI rm 2,bI rm 1,bI rm 0]=some (17,rd,rn,rm,ra,0,0,false,()):=by
 have nThree:qdY [true,true,true,true,true,false,true,true,true,false,true,false,bI rn 3,bI rn 2,bI rn 1,bI rn 0] [bI rd 3,bI rd 2,bI rd 1,bI rd 0,bI ra 3,bI ra 2,bI ra 1,bI ra 0,false,false,false,false,bI rm 3,bI rm 2,bI rm 1,bI rm 0]=none:=by
  have e:qdY [true,true,true,true,true,false,true,true,true,false,true,false,bI rn 3,bI rn 2,bI rn 1,bI rn 0] [bI rd 3,bI rd 2,bI rd 1,bI rd 0,bI ra 3,bI ra 2,bI ra 1,bI ra 0,false,false,false,false,bI rm 3,bI rm 2,bI rm 1,bI rm 0]=(bif eqC [bI rd 3] 1 then none else none):=by kernel_rfl
  rw[e];exact Bool.cond_self _ _
 have e:qd8 [true,true,true,true,true,false,true,true,true,false,true,false,bI rn 3,bI rn 2,bI rn 1,bI rn 0] [bI rd 3,bI rd 2,bI rd 1,bI rd 0,bI ra 3,bI ra 2,bI ra 1,bI ra 0,false,false,false,false,bI rm 3,bI rm 2,bI rm 1,bI rm 0]=(bif (H (bis rd 4) != H (bis ra 4)) then(bif (qT (H (bis rd 4))&&(qT (H (bis ra 4))&&(qT (H (bis rn 4))&&(qT (H (bis rm 4))&&true)))) then some (17,H (bis rd 4),H (bis rn 4),H (bis rm 4),H (bis ra 4),0,0,false,()) else none) else none):=by kernel_rfl
 unfold qcd
 rw[nThree,e,qbB _0rd _1rd,qbB _0ra _1ra,qbB _0rn _1rn,qbB _0rm _1rm,qdV _0rd _1rd,qdV _0ra _1ra,qdV _0rn _1rn,qdV _0rm _1rm,bne_iff_ne.2 (Ne.symm hne)]
 rfl
theorem qSC (rd:Int) (_0rd:0≤rd) (_1rd:rd≤12) (rn:Int) (_0rn:0≤rn) (_1rn:rn≤12) (imm:Int) (_0imm:0≤imm) (_1imm:imm≤31) (ra:Int) (_0ra:1≤ra) (_1ra:ra≤32-imm):qcd [true,true,true,true,false,false,true,true,false,true,true,false,bI rn 3,bI rn 2,bI rn 1,bI rn 0] [false,bI imm 4,bI imm 3,bI imm 2,bI rd 3,bI rd 2,bI rd 1,bI rd 0,bI imm 1,bI imm 0,false,bI (imm+ra-1) 4,bI (imm+ra-1) 3,bI (imm+ra-1) 2,bI (imm+ra-1) 1,bI (imm+ra-1) 0]=some (18,rd,rn,0,ra,imm,0,false,()):=by
 have nThree:qdY [true,true,true,true,false,false,true,true,false,true,true,false,bI rn 3,bI rn 2,bI rn 1,bI rn 0] [false,bI imm 4,bI imm 3,bI imm 2,bI rd 3,bI rd 2,bI rd 1,bI rd 0,bI imm 1,bI imm 0,false,bI (imm+ra-1) 4,bI (imm+ra-1) 3,bI (imm+ra-1) 2,bI (imm+ra-1) 1,bI (imm+ra-1) 0]=none:=by kernel_rfl
 have nProduct:qd8 [true,true,true,true,false,false,true,true,false,true,true,false,bI rn 3,bI rn 2,bI rn 1,bI rn 0] [false,bI imm 4,bI imm 3,bI imm 2,bI rd 3,bI rd 2,bI rd 1,bI rd 0,bI imm 1,bI imm 0,false,bI (imm+ra-1) 4,bI (imm+ra-1) 3,bI (imm+ra-1) 2,bI (imm+ra-1) 1,bI (imm+ra-1) 0]=none:=by
  have e:qd8 [true,true,true,true,false,false,true,true,false,true,true,false,bI rn 3,bI rn 2,bI rn 1,bI rn 0] [false,bI imm 4,bI imm 3,bI imm 2,bI rd 3,bI rd 2,bI rd 1,bI rd 0,bI imm 1,bI imm 0,false,bI (imm+ra-1) 4,bI (imm+ra-1) 3,bI (imm+ra-1) 2,bI (imm+ra-1) 1,bI (imm+ra-1) 0]=(bif !eqC (sl [false,bI imm 4,bI imm 3,bI imm 2,bI rd 3,bI rd 2,bI rd 1,bI rd 0,bI imm 1,bI imm 0,false,bI (imm+ra-1) 4,bI (imm+ra-1) 3,bI (imm+ra-1) 2,bI (imm+ra-1) 1,bI (imm+ra-1) 0] 4 4) 0 then none else none):=by kernel_rfl
  rw[e];exact Bool.cond_self _ _
 have e:qkG [true,true,true,true,false,false,true,true,false,true,true,false,bI rn 3,bI rn 2,bI rn 1,bI rn 0] [false,bI imm 4,bI imm 3,bI imm 2,bI rd 3,bI rd 2,bI rd 1,bI rd 0,bI imm 1,bI imm 0,false,bI (imm+ra-1) 4,bI (imm+ra-1) 3,bI (imm+ra-1) 2,bI (imm+ra-1) 1,bI (imm+ra-1) 0]=(bif decide (H (bis (imm+ra-1) 5)+1-H (bis imm 5)≥1) then(bif (qT (H (bis rd 4))&&(qT (H (bis rn 4))&&true)) then some (18,H (bis rd 4),H (bis rn 4),0,H (bis (imm+ra-1) 5)+1-H (bis imm 5),H (bis imm 5),0,false,()) else none) else none):=by kernel_rfl
 have p:((2 ^ 5:Nat):Int)=32:=rfl
 unfold qcd
 rw[nThree,nProduct,e,qbB _0rd _1rd,qbB _0rn _1rn,qdV _0rd _1rd,qdV _0rn _1rn,qc9 (x:=imm) (by omega) (by omega),qc9 (x:=imm+ra-1) (by omega) (by omega),show imm+ra-1+1-imm=ra by omega,qK (p:=ra≥1) (by omega)]
 rfl
theorem qSR (rd:Int) (_0rd:0≤rd) (_1rd:rd≤7) (rn:Int) (_0rn:0≤rn) (_1rn:rn≤7):qcz [false,true,true,false,true,false,false,false,false,false,bI rn 2,bI rn 1,bI rn 0,bI rd 2,bI rd 1,bI rd 0]=some (19,rd,rn,0,0,0,0,false,()):=by
 have e:qcz [false,true,true,false,true,false,false,false,false,false,bI rn 2,bI rn 1,bI rn 0,bI rd 2,bI rd 1,bI rd 0]=some (19,H (bis rd 3),H (bis rn 3),0,0,0,0,false,()):=by kernel_rfl
 have p:((2 ^ 3:Nat):Int)=8:=rfl
 rw[e,qc9 _0rd (by omega),qc9 _0rn (by omega)]
theorem qSQ (rd:Int) (_0rd:0≤rd) (_1rd:rd≤7) (rn:Int) (_0rn:0≤rn) (_1rn:rn≤7):qcz [false,true,true,false,false,false,false,false,false,false,bI rn 2,bI rn 1,bI rn 0,bI rd 2,bI rd 1,bI rd 0]=some (20,rd,rn,0,0,0,0,false,()):=by
 have e:qcz [false,true,true,false,false,false,false,false,false,false,bI rn 2,bI rn 1,bI rn 0,bI rd 2,bI rd 1,bI rd 0]=some (20,H (bis rd 3),H (bis rn 3),0,0,0,0,false,()):=by kernel_rfl
 have p:((2 ^ 3:Nat):Int)=8:=rfl
 rw[e,qc9 _0rd (by omega),qc9 _0rn (by omega)]
theorem qTf (rd:Int) (_0rd:0≤rd) (_1rd:rd≤7) (rn:Int) (_0rn:0≤rn) (_1rn:rn≤7):qcz [false,true,true,true,true,false,false,false,false,false,bI rn 2,bI rn 1,bI rn 0,bI rd 2,bI rd 1,bI rd 0]=some (21,rd,rn,0,0,0,0,false,()):=by
 have e:qcz [false,true,true,true,true,false,false,false,false,false,bI rn 2,bI rn 1,bI rn 0,bI rd 2,bI rd 1,bI rd 0]=some (21,H (bis rd 3),H (bis rn 3),0,0,0,0,false,()):=by kernel_rfl
 have p:((2 ^ 3:Nat):Int)=8:=rfl
 rw[e,qc9 _0rd (by omega),qc9 _0rn (by omega)]
theorem qS7 (rd:Int) (_0rd:0≤rd) (_1rd:rd≤7) (rn:Int) (_0rn:0≤rn) (_1rn:rn≤7):qcz [false,true,true,true,false,false,false,false,false,false,bI rn 2,bI rn 1,bI rn 0,bI rd 2,bI rd 1,bI rd 0]=some (22,rd,rn,0,0,0,0,false,()):=by
 have e:qcz [false,true,true,true,false,false,false,false,false,false,bI rn 2,bI rn 1,bI rn 0,bI rd 2,bI rd 1,bI rd 0]=some (22,H (bis rd 3),H (bis rn 3),0,0,0,0,false,()):=by kernel_rfl
 have p:((2 ^ 3:Nat):Int)=8:=rfl
 rw[e,qc9 _0rd (by omega),qc9 _0rn (by omega)]
theorem qSy (rn:Int) (_0rn:0≤rn) (_1rn:rn≤7) (rm:Int) (_0rm:0≤rm) (_1rm:rm≤7):qcz [false,true,false,false,false,false,true,false,true,false,bI rm 2,bI rm 1,bI rm 0,bI rn 2,bI rn 1,bI rn 0]=some (23,0,rn,rm,0,0,0,false,()):=by
 have e:qcz [false,true,false,false,false,false,true,false,true,false,bI rm 2,bI rm 1,bI rm 0,bI rn 2,bI rn 1,bI rn 0]=some (23,0,H (bis rn 3),H (bis rm 3),0,0,0,false,()):=by kernel_rfl
 have p:((2 ^ 3:Nat):Int)=8:=rfl
 rw[e,qc9 _0rn (by omega),qc9 _0rm (by omega)]
theorem qSE (imm:Int) (h:imm % 2=0) (h1:-2048≤imm) (h2:imm≤2046):qcz [true,true,true,false,false,bI imm 11,bI imm 10,bI imm 9,bI imm 8,bI imm 7,bI imm 6,bI imm 5,bI imm 4,bI imm 3,bI imm 2,bI imm 1]=some (24,0,0,0,0,imm,0,false,()):=by
 have e:qcz [true,true,true,false,false,bI imm 11,bI imm 10,bI imm 9,bI imm 8,bI imm 7,bI imm 6,bI imm 5,bI imm 4,bI imm 3,bI imm 2,bI imm 1]=some (24,0,0,0,0,SG [bI imm 11,bI imm 10,bI imm 9,bI imm 8,bI imm 7,bI imm 6,bI imm 5,bI imm 4,bI imm 3,bI imm 2,bI imm 1,false],0,false,()):=by kernel_rfl
 have p:((2 ^ 11:Nat):Int)=2048:=rfl
 have e2:SG [bI imm 11,bI imm 10,bI imm 9,bI imm 8,bI imm 7,bI imm 6,bI imm 5,bI imm 4,bI imm 3,bI imm 2,bI imm 1,false]=imm:=by rw[←qvM h];exact qAg imm 11 (by omega) (by omega)
 rw[e,e2]
theorem qRy (imm:Int) (h:imm % 2=0) (h1:-16777216≤imm) (h2:imm≤16777214):qcd [true,true,true,true,false,bI imm 24,bI imm 21,bI imm 20,bI imm 19,bI imm 18,bI imm 17,bI imm 16,bI imm 15,bI imm 14,bI imm 13,bI imm 12] [true,false,!(bI imm 23 ^^ bI imm 24),true,!(bI imm 22 ^^ bI imm 24),bI imm 11,bI imm 10,bI imm 9,bI imm 8,bI imm 7,bI imm 6,bI imm 5,bI imm 4,bI imm 3,bI imm 2,bI imm 1]=some (24,0,0,0,0,imm,0,true,()):=by
 have nThree:qdY [true,true,true,true,false,bI imm 24,bI imm 21,bI imm 20,bI imm 19,bI imm 18,bI imm 17,bI imm 16,bI imm 15,bI imm 14,bI imm 13,bI imm 12] [true,false,!(bI imm 23 ^^ bI imm 24),true,!(bI imm 22 ^^ bI imm 24),bI imm 11,bI imm 10,bI imm 9,bI imm 8,bI imm 7,bI imm 6,bI imm 5,bI imm 4,bI imm 3,bI imm 2,bI imm 1]=none:=by kernel_rfl
 have nProduct:qd8 [true,true,true,true,false,bI imm 24,bI imm 21,bI imm 20,bI imm 19,bI imm 18,bI imm 17,bI imm 16,bI imm 15,bI imm 14,bI imm 13,bI imm 12] [true,false,!(bI imm 23 ^^ bI imm 24),true,!(bI imm 22 ^^ bI imm 24),bI imm 11,bI imm 10,bI imm 9,bI imm 8,bI imm 7,bI imm 6,bI imm 5,bI imm 4,bI imm 3,bI imm 2,bI imm 1]=none:=by
  have e:qd8 [true,true,true,true,false,bI imm 24,bI imm 21,bI imm 20,bI imm 19,bI imm 18,bI imm 17,bI imm 16,bI imm 15,bI imm 14,bI imm 13,bI imm 12] [true,false,!(bI imm 23 ^^ bI imm 24),true,!(bI imm 22 ^^ bI imm 24),bI imm 11,bI imm 10,bI imm 9,bI imm 8,bI imm 7,bI imm 6,bI imm 5,bI imm 4,bI imm 3,bI imm 2,bI imm 1]=(bif !eqC (sl [true,false,!(bI imm 23 ^^ bI imm 24),true,!(bI imm 22 ^^ bI imm 24),bI imm 11,bI imm 10,bI imm 9,bI imm 8,bI imm 7,bI imm 6,bI imm 5,bI imm 4,bI imm 3,bI imm 2,bI imm 1] 4 4) 0 then none else none):=by kernel_rfl
  rw[e];exact Bool.cond_self _ _
 have nPlain:qkG [true,true,true,true,false,bI imm 24,bI imm 21,bI imm 20,bI imm 19,bI imm 18,bI imm 17,bI imm 16,bI imm 15,bI imm 14,bI imm 13,bI imm 12] [true,false,!(bI imm 23 ^^ bI imm 24),true,!(bI imm 22 ^^ bI imm 24),bI imm 11,bI imm 10,bI imm 9,bI imm 8,bI imm 7,bI imm 6,bI imm 5,bI imm 4,bI imm 3,bI imm 2,bI imm 1]=none:=by kernel_rfl
 have e:qov [true,true,true,true,false,bI imm 24,bI imm 21,bI imm 20,bI imm 19,bI imm 18,bI imm 17,bI imm 16,bI imm 15,bI imm 14,bI imm 13,bI imm 12] [true,false,!(bI imm 23 ^^ bI imm 24),true,!(bI imm 22 ^^ bI imm 24),bI imm 11,bI imm 10,bI imm 9,bI imm 8,bI imm 7,bI imm 6,bI imm 5,bI imm 4,bI imm 3,bI imm 2,bI imm 1]=some (24,0,0,0,0,SG [bI imm 24,!(!(bI imm 23 ^^ bI imm 24) ^^ bI imm 24),!(!(bI imm 22 ^^ bI imm 24) ^^ bI imm 24),bI imm 21,bI imm 20,bI imm 19,bI imm 18,bI imm 17,bI imm 16,bI imm 15,bI imm 14,bI imm 13,bI imm 12,bI imm 11,bI imm 10,bI imm 9,bI imm 8,bI imm 7,bI imm 6,bI imm 5,bI imm 4,bI imm 3,bI imm 2,bI imm 1,false],0,true,()):=by kernel_rfl
 have p:((2 ^ 24:Nat):Int)=16777216:=rfl
 have x1:∀a b:Bool,(!(!(a ^^ b) ^^ b))=a:=by decide
 have e2:SG [bI imm 24,bI imm 23,bI imm 22,bI imm 21,bI imm 20,bI imm 19,bI imm 18,bI imm 17,bI imm 16,bI imm 15,bI imm 14,bI imm 13,bI imm 12,bI imm 11,bI imm 10,bI imm 9,bI imm 8,bI imm 7,bI imm 6,bI imm 5,bI imm 4,bI imm 3,bI imm 2,bI imm 1,false]=imm:=by rw[←qvM h];exact qAg imm 24 (by omega) (by omega)
 unfold qcd
 rw[nThree,nProduct,nPlain,e,x1,x1,e2]
 rfl
theorem qTh (imm:Int) (h:imm % 2=0) (h1:-256≤imm) (h2:imm≤254) (cond:Int) (c0:0≤cond) (c1:cond≤13):qcz [true,true,false,true,bI cond 3,bI cond 2,bI cond 1,bI cond 0,bI imm 8,bI imm 7,bI imm 6,bI imm 5,bI imm 4,bI imm 3,bI imm 2,bI imm 1]=some (25,0,0,0,0,imm,cond,false,()):=by
 have e:qcz [true,true,false,true,bI cond 3,bI cond 2,bI cond 1,bI cond 0,bI imm 8,bI imm 7,bI imm 6,bI imm 5,bI imm 4,bI imm 3,bI imm 2,bI imm 1]=(bif decide (H (bis cond 4)≤13) then some (25,0,0,0,0,SG [bI imm 8,bI imm 7,bI imm 6,bI imm 5,bI imm 4,bI imm 3,bI imm 2,bI imm 1,false],H (bis cond 4),false,()) else none):=by kernel_rfl
 have p:((2 ^ 8:Nat):Int)=256:=rfl
 have q:((2 ^ 4:Nat):Int)=16:=rfl
 have e2:SG [bI imm 8,bI imm 7,bI imm 6,bI imm 5,bI imm 4,bI imm 3,bI imm 2,bI imm 1,false]=imm:=by rw[←qvM h];exact qAg imm 8 (by omega) (by omega)
 rw[e,e2,qc9 c0 (by omega),qK c1]
 rfl
theorem qQ3 (imm:Int) (h:imm % 2=0) (h1:-1048576≤imm) (h2:imm≤1048574) (cond:Int) (c0:0≤cond) (c1:cond≤13):qcd [true,true,true,true,false,bI imm 20,bI cond 3,bI cond 2,bI cond 1,bI cond 0,bI imm 17,bI imm 16,bI imm 15,bI imm 14,bI imm 13,bI imm 12] [true,false,bI imm 18,false,bI imm 19,bI imm 11,bI imm 10,bI imm 9,bI imm 8,bI imm 7,bI imm 6,bI imm 5,bI imm 4,bI imm 3,bI imm 2,bI imm 1]=some (25,0,0,0,0,imm,cond,true,()):=by
 have nThree:qdY [true,true,true,true,false,bI imm 20,bI cond 3,bI cond 2,bI cond 1,bI cond 0,bI imm 17,bI imm 16,bI imm 15,bI imm 14,bI imm 13,bI imm 12] [true,false,bI imm 18,false,bI imm 19,bI imm 11,bI imm 10,bI imm 9,bI imm 8,bI imm 7,bI imm 6,bI imm 5,bI imm 4,bI imm 3,bI imm 2,bI imm 1]=none:=by kernel_rfl
 have nProduct:qd8 [true,true,true,true,false,bI imm 20,bI cond 3,bI cond 2,bI cond 1,bI cond 0,bI imm 17,bI imm 16,bI imm 15,bI imm 14,bI imm 13,bI imm 12] [true,false,bI imm 18,false,bI imm 19,bI imm 11,bI imm 10,bI imm 9,bI imm 8,bI imm 7,bI imm 6,bI imm 5,bI imm 4,bI imm 3,bI imm 2,bI imm 1]=none:=by
  have e:qd8 [true,true,true,true,false,bI imm 20,bI cond 3,bI cond 2,bI cond 1,bI cond 0,bI imm 17,bI imm 16,bI imm 15,bI imm 14,bI imm 13,bI imm 12] [true,false,bI imm 18,false,bI imm 19,bI imm 11,bI imm 10,bI imm 9,bI imm 8,bI imm 7,bI imm 6,bI imm 5,bI imm 4,bI imm 3,bI imm 2,bI imm 1]=(bif !eqC (sl [true,false,bI imm 18,false,bI imm 19,bI imm 11,bI imm 10,bI imm 9,bI imm 8,bI imm 7,bI imm 6,bI imm 5,bI imm 4,bI imm 3,bI imm 2,bI imm 1] 4 4) 0 then none else none):=by kernel_rfl
  rw[e];exact Bool.cond_self _ _
 have nPlain:qkG [true,true,true,true,false,bI imm 20,bI cond 3,bI cond 2,bI cond 1,bI cond 0,bI imm 17,bI imm 16,bI imm 15,bI imm 14,bI imm 13,bI imm 12] [true,false,bI imm 18,false,bI imm 19,bI imm 11,bI imm 10,bI imm 9,bI imm 8,bI imm 7,bI imm 6,bI imm 5,bI imm 4,bI imm 3,bI imm 2,bI imm 1]=none:=by kernel_rfl
 have e:qov [true,true,true,true,false,bI imm 20,bI cond 3,bI cond 2,bI cond 1,bI cond 0,bI imm 17,bI imm 16,bI imm 15,bI imm 14,bI imm 13,bI imm 12] [true,false,bI imm 18,false,bI imm 19,bI imm 11,bI imm 10,bI imm 9,bI imm 8,bI imm 7,bI imm 6,bI imm 5,bI imm 4,bI imm 3,bI imm 2,bI imm 1]=(bif decide (H (bis cond 4)≤13) then some (25,0,0,0,0,SG [bI imm 20,bI imm 19,bI imm 18,bI imm 17,bI imm 16,bI imm 15,bI imm 14,bI imm 13,bI imm 12,bI imm 11,bI imm 10,bI imm 9,bI imm 8,bI imm 7,bI imm 6,bI imm 5,bI imm 4,bI imm 3,bI imm 2,bI imm 1,false],H (bis cond 4),true,()) else none):=by kernel_rfl
 have p:((2 ^ 20:Nat):Int)=1048576:=rfl
 have q:((2 ^ 4:Nat):Int)=16:=rfl
 have e2:SG [bI imm 20,bI imm 19,bI imm 18,bI imm 17,bI imm 16,bI imm 15,bI imm 14,bI imm 13,bI imm 12,bI imm 11,bI imm 10,bI imm 9,bI imm 8,bI imm 7,bI imm 6,bI imm 5,bI imm 4,bI imm 3,bI imm 2,bI imm 1,false]=imm:=by rw[←qvM h];exact qAg imm 20 (by omega) (by omega)
 unfold qcd
 rw[nThree,nProduct,nPlain,e,e2,qc9 c0 (by omega),qK c1]
 rfl
end Go.Av
end
section
namespace Go.Av
open Go
structure Rd where
 x:Bool
 y:Bool
 t:Bool
 d:List Bool
 n:List Bool
 m:List Bool
 a:List Bool
 c:List Bool
 w:List Bool
 imm:List (Nat×Bool)
def Rd.zero:Rd:=⟨false,false,false,[],[],[],[],[],[],[]⟩
def qyg (c:UInt8):Bool:=Nat.ble 65 c.toNat&&Nat.ble c.toNat 89
def Rd.step (s:Rd) (c:UInt8) (b:Bool):Rd where
 x:=bif c==120 then b else s.x
 y:=bif c==121 then b else s.y
 t:=bif c==89 then b else s.t
 d:=bif c==100 then s.d++[b] else s.d
 n:=bif c==110 then s.n++[b] else s.n
 m:=bif c==109 then s.m++[b] else s.m
 a:=bif c==97 then s.a++[b] else s.a
 c:=bif c==99 then s.c++[b] else s.c
 w:=bif c==119 then s.w++[b] else s.w
 imm:=bif qyg c then s.imm++[(c.toNat-65,b)] else s.imm
def bN (b:Bool):Int:=((b.toNat:Nat):Int)
def qbU:List (Nat×Bool)→Nat
 |[]=>0
 |p::l=>p.2.toNat*2 ^ p.1+qbU l
theorem qup:∀(l:List (Nat×Bool)) (k:Nat) (b:Bool),qbU (l++[(k,b)])=qbU l+b.toNat*2 ^ k
 |[],k,b=>by show b.toNat*2 ^ k+0=0+b.toNat*2 ^ k;rw[Nat.add_zero,Nat.zero_add]
 |p::l,k,b=>by
  show p.2.toNat*2 ^ p.1+qbU (l++[(k,b)])=p.2.toNat*2 ^ p.1+qbU l+b.toNat*2 ^ k
  rw[qup l k b,Nat.add_assoc]
def qxn (op:Int) (w:Bool) (s:Rd):qbd.den :=
 bif op==18 then(op,H s.d,H s.n,H s.m,w64 (w64 (H s.w+1)-((qbU s.imm:Nat):Int)),((qbU s.imm:Nat):Int),H s.c,w,())
 else bif op==24&&w then(op,H s.d,H s.n,H s.m,H s.a,qL (w64 (w64 (((qbU s.imm:Nat):Int)+w64 (Int.tmod (w64 (w64 (bN s.x+bN s.t)+1)) 2*qZ 23))+w64 (Int.tmod (w64 (w64 (bN s.y+bN s.t)+1)) 2*qZ 22)),24),H s.c,w,())
 else bif op==24 then(op,H s.d,H s.n,H s.m,H s.a,qL (((qbU s.imm:Nat):Int),11),H s.c,w,())
 else bif op==25&&w then(op,H s.d,H s.n,H s.m,H s.a,qL (((qbU s.imm:Nat):Int),20),H s.c,w,())
 else bif op==25 then(op,H s.d,H s.n,H s.m,H s.a,qL (((qbU s.imm:Nat):Int),8),H s.c,w,())
 else(op,H s.d,H s.n,H s.m,H s.a,((qbU s.imm:Nat):Int),H s.c,w,())
def qxM (p:List UInt8) (l:List Bool):Rd:=(p.zip l).foldl (fun s q=>s.step q.1 q.2) Rd.zero
def qF (op:Int) (w:Bool) (l:List Bool):qbd.den:=qxn op w (qxM (qb (op,w)) l)
theorem qx4 (b:Bool) (r:List Bool):qL (H (b::r),(r.length:Int))=SG (b::r):=by
 rw[qLE]
 have h1:=qO r
 have h2:=qbO (l:=r) (Nat.le_refl _)
 show(bif decide (H (b::r)≥(2 ^ Int.toNat (r.length:Int):Nat)) then H (b::r)-2*(2 ^ Int.toNat (r.length:Int):Nat) else H (b::r))=_
 rw[Int.toNat_natCast,Nat.pow_succ,qMJ]
 generalize 2 ^ r.length=q at *
 cases b
 ·rw[qW (by simp;omega)]
  rfl
 ·rw[qK (by simp;omega)]
  simp only[cond_true,Bool.toNat_true]
  omega
theorem qST (q:Nat) (hq:q<33554432) (x y t:Bool):w64 (w64 ((q:Int)+w64 (Int.tmod (w64 (w64 (bN x+bN t)+1)) 2*8388608))+w64 (Int.tmod (w64 (w64 (bN y+bN t)+1)) 2*4194304))=((q+(nx x t).toNat*8388608+(nx y t).toNat*4194304:Nat):Int):=by
 have t0:∀x t:Bool,w64 (Int.tmod (w64 (w64 (bN x+bN t)+1)) 2*8388608)=(((nx x t).toNat*8388608:Nat):Int):=by
  intro x t
  cases x<;>cases t<;>rfl
 have t1:∀x t:Bool,w64 (Int.tmod (w64 (w64 (bN x+bN t)+1)) 2*4194304)=(((nx x t).toNat*4194304:Nat):Int):=by
  intro x t
  cases x<;>cases t<;>rfl
 have h0:=Bool.toNat_le (nx x t)
 have h1:=Bool.toNat_le (nx y t)
 rw[t0,t1]
 generalize (nx x t).toNat=a at *
 generalize (nx y t).toNat=b at *
 rw[qt (n:=(q:Int)+((a*8388608:Nat):Int)) (by omega) (by omega),qt (by omega) (by omega)]
 omega
end Go.Av
end
section
namespace Go.Av
open Go
abbrev bw (n a b:Int):Bool:=decide (a≤n)&&decide (n≤b)
def okB (op rd rn rm ra imm cond:Int) (w:Bool):Bool :=
 bif op==24 then(rd==0&&(rn==0&&(rm==0&&(ra==0&&(cond==0&&(imm % 2==0&&bif w then bw imm (-16777216) 16777214 else bw imm (-2048) 2046))))))
 else bif op==25 then(rd==0&&(rn==0&&(rm==0&&(ra==0&&(bw cond 0 13&&(imm % 2==0&&bif w then bw imm (-1048576) 1048574 else bw imm (-256) 254))))))
 else(!w&&(cond==0&&(
  bif op==1 then(rd==0&&(rn==0&&(rm==0&&(ra==0&&imm==0))))
  else bif op==2 then(rd==0&&(rn==0&&(rm==0&&(ra==0&&bw imm 0 255))))
  else bif op==3||op==4 then(bw rd 0 12&&(rn==0&&(rm==0&&(ra==0&&bw imm 0 65535))))
  else bif op==5 then(bw rd 0 12&&(rn==0&&(bw rm 0 12&&(ra==0&&bw imm 0 31))))
  else bif op==6||(op==7||op==8) then(bw rd 0 12&&(rn==0&&(bw rm 0 12&&(ra==0&&bw imm 1 31))))
  else bif op==9 then(bw rd 0 12&&(rn==0&&(bw rm 0 12&&(ra==0&&imm==0))))
  else bif op==17 then(bw rd 0 12&&(bw rn 0 12&&(bw rm 0 12&&(bw ra 0 12&&(imm==0&&ra != rd)))))
  else bif op==18 then(bw rd 0 12&&(bw rn 0 12&&(rm==0&&(bw imm 0 31&&bw ra 1 (32-imm)))))
  else bif op==23 then(rd==0&&(bw rn 0 7&&(bw rm 0 7&&(ra==0&&imm==0))))
  else bif op==19||(op==20||(op==21||op==22)) then(bw rd 0 7&&(bw rn 0 7&&(rm==0&&(ra==0&&imm==0))))
  else bif bw op 10 16 then(bw rd 0 12&&(bw rn 0 12&&(bw rm 0 12&&(ra==0&&imm==0))))
  else false)))
theorem qRZ:IntKind.i64.wrap (-16777216)=-16777216:=rfl
theorem qRh:IntKind.i64.wrap 16777214=16777214:=rfl
theorem qRt:IntKind.i64.wrap (-2048)=-2048:=rfl
theorem qRX:IntKind.i64.wrap 2046=2046:=rfl
theorem qRA:IntKind.i64.wrap (-256)=-256:=rfl
theorem qRe:IntKind.i64.wrap 254=254:=rfl
set_option maxHeartbeats 2000000 in
theorem qxi (op rd rn rm ra imm cond:Int) (w:Bool):qk (op,rd,rn,rm,ra,imm,cond,w,())=0↔okB op rd rn rm ra imm cond w=true:=by
 have hw:=qt4 imm
 have hb:=qvu imm
 rcases qgO op with rfl |rfl |rfl |rfl |rfl |rfl |rfl |rfl |rfl |rfl |rfl |rfl |rfl |rfl |rfl |rfl |rfl |rfl |rfl |rfl |rfl |rfl |rfl |rfl |rfl |hop
 case inr.inr.inr.inr.inr.inr.inr.inr.inr.inr.inr.inr.inr.inr.inr.inr.inr.inr.inr.inr.inr.inr.inr.inr.inr =>
  have e:=fun k hk=>qpQ (n:=op) (k:=k) hop hk
  have e2:bw op 10 16=false:=by unfold bw;rw[Bool.and_eq_false_iff,decide_eq_false_iff_not,decide_eq_false_iff_not];omega
  simp[qk,qcB,qbq,qcM,PO.qQ,PO.val,e,okB,e2]
 all_goals cases w
 all_goals
  simp[okB,qk,qcB,qbq,qcM,qc5,qg5,qcI,qf3,PO.qQ,PO.val,qhC,qhB,qg7,qi0,qR1,qSm,qRZ,qRh,qRt,qRX,qRA,qRe,hb,w64]
  try simp only[qRc,qQ2,Bool.or_eq_false_iff,Bool.not_eq_false',decide_eq_true_eq,bne_eq_false_iff_eq,beq_iff_eq]
  try grind
end Go.Av
end
