/- Texts of the proof, one behind the other. -/
import Derived.Test.YtealbjacocgjcaaGreatGateFaultK26
import Derived.Test.YtealbjacocgjcaaGreatGateFaultK25
section
namespace Go.Av
open Go
def qjf (s:List UInt8) (k:Nat):Nat:=(s.getD (2*k) 0).toNat+256*(s.getD (2*k+1) 0).toNat
theorem qNo (s:List UInt8) (k:Nat):qjf s k<65536:=by
 unfold qjf
 have h1:=(s.getD (2*k) 0).toNat_lt
 have h2:=(s.getD (2*k+1) 0).toNat_lt
 omega
theorem qnX (b k:Nat) (hk:k≤62) (h:b*2 ^ k<4611686018427387904):qt .i64 (b:Int) (k:Int)=((b*2 ^ k:Nat):Int):=by
 rw[qlI _ _ (by omega),show(b:Int)*2 ^ k=((b*2 ^ k:Nat):Int) by simp,qu (by omega) (by omega)]
theorem qOW (a b k:Nat) (hk:k≤62) (ha:a<2 ^ k) (h:b*2 ^ k<4611686018427387904):bor .i64 (a:Int) (qt .i64 (b:Int) (k:Int))=((b*2 ^ k+a:Nat):Int):=by
 have hp:2 ^ k≤2 ^ 62:=qfO hk
 rw[qnX b k hk h,qkL (by omega) (by omega),Nat.or_comm,Nat.mul_comm b,Nat.two_pow_add_eq_or_of_lt ha]
abbrev qkb:List Ty:=[(.int .i64),(.int .i64),(.int .i64)]
abbrev qm1:Sh:=Sh.ty (Ty.int IntKind.i64)
def qmJ (x:qd qkb):PO (Sh.den qm1) :=
 (.ite (!decide (x.2.1<0)&&!decide (x.2.2<0))
  (.ret (qR IntKind.i64 (qw IntKind.i64 x.1 x.2.1) (w64 (qt IntKind.i64 1 x.2.2-1))))
  .fail)
def qo (x:qd qkb):Bool:=decide (0≤x.2.1)&&(decide (x.2.1≤16)&&(decide (0≤x.2.2)&&decide (x.2.2≤24)))
def qb (x:qd qkb):Sh.den qm1:=x.1 / (2 ^ x.2.1.toNat:Nat) % (2 ^ x.2.2.toNat:Nat)
theorem qNm (n at_ many:Int) (h1:0≤at_) (h2:at_≤16) (h3:0≤many) (h4:many≤24):qR IntKind.i64 (qw IntKind.i64 n at_) (w64 (qt IntKind.i64 1 many-1))=n / (2 ^ at_.toNat:Nat) % (2 ^ many.toNat:Nat):=by
 obtain⟨a,rfl⟩:=Int.eq_ofNat_of_zero_le h1
 obtain⟨m,rfl⟩:=Int.eq_ofNat_of_zero_le h3
 have hp:2 ^ m≤2 ^ 24:=qfO (by omega)
 have hp0:=Nat.two_pow_pos m
 have e:=qnX 1 m (by omega) (by omega)
 rw[qfL n a (by omega),show qt IntKind.i64 1 (m:Int)=_ from e,qu (by omega) (by omega),Nat.one_mul,qiR _ m (by omega),Int.toNat_natCast,Int.toNat_natCast]
theorem qQD (n a m:Int) (h1:0≤a) (h2:a≤16) (h3:0≤m) (h4:m≤24):(qmJ (n,a,m)).val=some (qb (n,a,m)):=by
 have e:=qNm n a m h1 h2 h3 h4
 unfold qmJ PO.val
 dsimp only
 rw[qC (p:=a<0) (by omega),qC (p:=m<0) (by omega)]
 exact congrArg some e
theorem qzS (x:qd qkb) (h:qo x=true):(qmJ x).val=some (qb x):=by
 simp only[qo,Bool.and_eq_true,decide_eq_true_eq] at h
 exact qQD x.1 x.2.1 x.2.2 h.1 h.2.1 h.2.2.1 h.2.2.2
abbrev qke:List Ty:=[.str,(.int .i64)]
abbrev qm4:Sh:=Sh.ty (Ty.int IntKind.i64)
def qmP (x:qd qke):PO (Sh.den qm4) :=
 (.ite (inRange (w64 (2*x.2)) (List.length x.1)&&inRange (w64 (w64 (2*x.2)+1)) (List.length x.1))
  (.ret (bor IntKind.i64 (w64 (u8I (List.getD x.1 (Int.toNat (w64 (2*x.2))) 0))) (qt IntKind.i64 (w64 (u8I (List.getD x.1 (Int.toNat (w64 (w64 (2*x.2)+1))) 0))) 8)))
  .fail)
def qcd (x:qd qke):Bool:=(x.2==0&&decide (2≤qi x.1))||(x.2==1&&decide (4≤qi x.1))
def qb4 (x:qd qke):Sh.den qm4:=(qjf x.1 x.2.toNat:Int)
theorem qCg (s:List UInt8) (k:Nat) (hk:k≤1) (h:2*k+2≤s.length):(qmP (s,(k:Int))).val=some (qjf s k:Int):=by
 have e1:w64 (2*(k:Int))=((2*k:Nat):Int):=by rw[qu (by omega) (by omega)];omega
 have e2:w64 (((2*k:Nat):Int)+1)=((2*k+1:Nat):Int):=by rw[qu (by omega) (by omega)];omega
 have l1:=(s.getD (2*k) 0).toNat_lt
 have l2:=(s.getD (2*k+1) 0).toNat_lt
 unfold qmP PO.val
 dsimp only
 rw[e1,e2,inR (show 2*k<s.length by omega),inR (show 2*k+1<s.length by omega),qj3,qj3]
 unfold qjf u8I
 generalize (s.getD (2*k) 0).toNat=a at *
 generalize (s.getD (2*k+1) 0).toNat=b at *
 rw[qpj (by omega),qpj (by omega)]
 have:=qOW a b 8 (by omega) (by omega) (by omega)
 dsimp only[Bool.and_self,cond_true,PO.val]
 rw[show bor IntKind.i64 (a:Int) (qt IntKind.i64 (b:Int) 8)=((b*2 ^ 8+a:Nat):Int) from this]
 exact congrArg some (congrArg Nat.cast (by omega:b*2 ^ 8+a=a+256*b))
theorem qzk (x:qd qke) (h:qcd x=true):(qmP x).val=some (qb4 x):=by
 obtain⟨s,n⟩:=x
 simp only[qcd,Bool.or_eq_true,Bool.and_eq_true,beq_iff_eq,decide_eq_true_eq] at h
 rcases h with⟨h,hl⟩ |⟨h,hl⟩
 ·subst h
  exact qCg s 0 (by omega) (by simp only[qi] at hl;omega)
 ·subst h
  exact qCg s 1 (by omega) (by simp only[qi] at hl;omega)
abbrev qiI:List Ty:=[(.int .i64),(.int .i64)]
abbrev qkR:Sh:=Sh.ty (Ty.int IntKind.i64)
def qiO (x:qd qiI):PO (Sh.den qkR) :=
 (.ite (!decide (w64 (x.2-1)<0))
  (.ite (qw IntKind.i64 x.1 (w64 (x.2-1))==1)
  (.ite (!decide (x.2<0))
   (.ret (w64 (x.1-qt IntKind.i64 1 x.2)))
   .fail)
  (.ret (x.1)))
  .fail)
def qcs (x:qd qiI):Bool:=decide (1≤x.2)&&(decide (x.2≤24)&&(decide (0≤x.1)&&decide (x.1<33554432)))
def qbS (x:qd qiI):Sh.den qkR:=bif x.1 / (2 ^ (x.2-1).toNat:Nat)==1 then x.1-(2 ^ x.2.toNat:Nat) else x.1
theorem qMm (n:Int) (k:Nat) (hk:k≤23) (h3:0≤n) (h4:n<33554432):(qiO (n,((k+1:Nat):Int))).val=some (qbS (n,((k+1:Nat):Int))):=by
 have hp:2 ^ (k+1)≤2 ^ 24:=qfO (by omega)
 have e1:w64 (((k+1:Nat):Int)-1)=(k:Int):=by rw[qu (by omega) (by omega)];omega
 have e2:=qfL n k (by omega)
 have e3:=qnX 1 (k+1) (by omega) (by omega)
 have e4:(((k+1:Nat):Int)-1).toNat=k:=by omega
 unfold qiO qbS PO.val
 dsimp only
 rw[e1,e2,e4,show qt IntKind.i64 1 ((k+1:Nat):Int)=_ from e3,qC (p:=(k:Int)<0) (by omega),qC (p:=((k+1:Nat):Int)<0) (by omega),Nat.one_mul,Int.toNat_natCast]
 rw[qu (n:=n-((2 ^ (k+1):Nat):Int)) (by omega) (by omega)]
 cases n / ((2 ^ k:Nat):Int)==1<;>rfl
theorem qIR (n m:Int) (h1:1≤m) (h2:m≤24) (h3:0≤n) (h4:n<33554432):(qiO (n,m)).val=some (qbS (n,m)):=by
 obtain⟨k,rfl⟩:∃k:Nat,m=((k+1:Nat):Int):=⟨(m-1).toNat,by omega⟩
 exact qMm n k (by omega) h3 h4
theorem qxb (x:qd qiI) (h:qcs x=true):(qiO x).val=some (qbS x):=by
 simp only[qcs,Bool.and_eq_true,decide_eq_true_eq] at h
 exact qIR x.1 x.2 h.1 h.2.1 h.2.2.1 h.2.2.2
def qdc:LoopN where
 M:=[2,5,6,7]
 T:=[4,8,9,10,11,12,13]
 D:=[5,6,7]
 ss:=[.ty .bool,.ty (.sl (.int .i64)),.ty (.int .i64),.ty (.int .i64)]
 hs:=[]
 es:=[.exit 0,.ret]
 σ:=(Ty.den .bool)×(Ty.den (.int .i64))
 x0:=fun x _=>(x.1,x.2.2.2)
 put:=fun x _ s=>((s.1,x.2.1,x.2.2.1,s.2),())
 fuel:=fun x _=>List.length x.2.1+1
 turn:=fun x _ s =>
 (.ite (decide (s.2<x.2.2.1))
  (.ite (inRange s.2 (List.length x.2.1))
  (.ite (decide (List.getD x.2.1 (Int.toNat s.2) (Ty.dflt (Ty.int IntKind.i64)) > 12))
   (.ret (.out 1 (false,s.2)))
   (.ret (.on (s.1,w64 (s.2+1)))))
  .fail)
  (.ret (.out 0 (s.1,s.2))))
theorem qDP (r:List Int) (hr:r.length<100) (ok:Bool):∀(k i:Nat),i+k=r.length→∀f,k<f →
  ∃o st,qeK (qdc.turn (false,r,((r.length:Nat):Int),0) ()) f (ok,(i:Int))=some (o,st)∧(PO.ite (way o) (.ret true) (.ret st.1)).val=some ((r.drop i).all fun x=>decide (x≤12))
 |0,i,h,f,hf=>by
  obtain⟨f,rfl⟩:∃g,f=g+1:=⟨f-1,by omega⟩
  refine⟨0,(ok,(i:Int)),qb6 ?_,by rw[List.drop_of_length_le (by omega)];rfl⟩
  dsimp only[qdc,PO.val]
  rw[qC (p:=(i:Int)<((r.length:Nat):Int)) (by omega)]
  rfl
 |k+1,i,h,f,hf=>by
  obtain⟨f,rfl⟩:∃g,f=g+1:=⟨f-1,by omega⟩
  have hi:i<r.length:=by omega
  have hw:w64 ((i:Int)+1)=((i+1:Nat):Int):=by rw[qu (by omega) (by omega)];omega
  rw[List.drop_eq_getElem_cons hi,List.all_cons]
  by_cases hb:r[i]≤12
  ·have e:(qdc.turn (false,r,((r.length:Nat):Int),0) () (ok,(i:Int))).val=some (.on (ok,((i+1:Nat):Int))):=by
    dsimp only[qdc,PO.val]
    rw[qK (p:=(i:Int)<((r.length:Nat):Int)) (by omega),inR hi,qj3,qet r _ hi,qC (p:=r[i] > 12) (by omega),hw]
    rfl
   obtain⟨o,st,g1,g2⟩:=qDP r hr ok k (i+1) (by omega) f (by omega)
   exact⟨o,st,(qeQ e).trans g1,by rw[qK hb,Bool.true_and];exact g2⟩
  ·have e:(qdc.turn (false,r,((r.length:Nat):Int),0) () (ok,(i:Int))).val=some (.out 1 (false,(i:Int))):=by
    dsimp only[qdc,PO.val]
    rw[qK (p:=(i:Int)<((r.length:Nat):Int)) (by omega),inR hi,qj3,qet r _ hi,qK (p:=r[i] > 12) (by omega)]
    rfl
   exact⟨1,_,qb6 e,by rw[qC hb];rfl⟩
abbrev qkt:List Ty:=[(.sl (.int .i64))]
abbrev qm2:Sh:=Sh.ty Ty.bool
def qqt (x:qd qkt):PO (Sh.den qm2) :=
 (.opt (LoopN.res qdc (false,x,qi x,0) ()) fun p0 =>
  (.ite (way p0.1)
  (.ret (true))
  (.ret (p0.2.1))))
def qY (x:qd qkt):Bool:=Nat.blt (List.length x) 100
def qby (x:qd qkt):Sh.den qm2:=List.all x fun r=>decide ((r:Int)≤12)
theorem qzg (x:qd qkt) (h:qY x=true):(qqt x).val=some (qby x):=by
 have hl:List.length x<100:=Nat.blt_eq▸h
 obtain⟨o,st,h1,h2⟩:=qDP x hl false (List.length x) 0 (by omega) (List.length x+1) (by omega)
 have h1':LoopN.res qdc (false,x,qi x,0) ()=some (o,st):=h1
 unfold qqt PO.val
 rw[h1']
 exact h2
abbrev qkx:List Ty:=[.str]
abbrev qmH:Sh:=Sh.ty (Ty.int IntKind.i64)
def qqj (x:qd qkx):PO (Sh.den qmH) :=
 (.ite (decide (qi x<2))
  (.ret (0))
  (.ite (qcd (x,0))
  (.ite (decide (qw IntKind.i64 (qb4 (x,0)) 11≥29))
   (.ret (4))
   (.ret (2)))
  .fail))
def qql (_:qd qkx):Bool:=true
def qct (x:qd qkx):Sh.den qmH:=bif decide (qi x<2) then 0 else bif Nat.ble 59392 (qjf x 0) then 4 else 2
theorem qzf (x:qd qkx) (_:qql x=true):(qqj x).val=some (qct x):=by
 unfold qqj qct PO.val
 cases hl:decide (qi x<2)
 ·have hl:=of_decide_eq_false hl
  have g:qcd (x,0)=true:=by
   simp only[qcd,Bool.or_eq_true,Bool.and_eq_true,beq_iff_eq,decide_eq_true_eq]
   exact .inl ⟨trivial,by omega⟩
  have e:qw IntKind.i64 (qb4 (x,0)) 11=((qjf x 0:Nat):Int) / (2 ^ 11:Nat):=qfL _ 11 (by omega)
  dsimp only[cond_false,PO.val]
  rw[g,e]
  dsimp only[cond_true,PO.val]
  cases hb:Nat.ble 59392 (qjf x 0)
  ·have hb:¬59392≤qjf x 0:=by rw[←Nat.ble_eq,hb];simp
   rw[qC (by omega)]
   rfl
  ·have hb:=Nat.le_of_ble_eq_true hb
   rw[qK (by omega)]
   rfl
 ·rfl
abbrev qis:List Ty:=[(.int .i64)]
abbrev qkZ:Sh:=Sh.tup (Sh.pair (Sh.ty qA) (Sh.pair (Sh.ty Ty.bool) (Sh.ty Ty.unit)))
def qgY (x:qd qis):PO (Sh.den qkZ) :=
 (.ite (qo (x,0,3)&&qo (x,3,3))
  (.ite (x==48896)
  (.ret (((1,0,0,0,0,0,0,false,()),true,())))
  (.ite (qw IntKind.i64 x 8==190)
   (.ite (qo (x,0,8))
   (.ret (((2,0,0,0,0,qb (x,0,8),0,false,()),true,())))
   .fail)
   (.ite (qw IntKind.i64 x 6==416)
   (.ret (((19,qb (x,0,3),qb (x,3,3),0,0,0,0,false,()),true,())))
   (.ite (qw IntKind.i64 x 6==384)
    (.ret (((20,qb (x,0,3),qb (x,3,3),0,0,0,0,false,()),true,())))
    (.ite (qw IntKind.i64 x 6==480)
    (.ret (((21,qb (x,0,3),qb (x,3,3),0,0,0,0,false,()),true,())))
    (.ite (qw IntKind.i64 x 6==448)
     (.ret (((22,qb (x,0,3),qb (x,3,3),0,0,0,0,false,()),true,())))
     (.ite (qw IntKind.i64 x 6==266)
     (.ret (((23,0,qb (x,0,3),qb (x,3,3),0,0,0,false,()),true,())))
     (.ite (qw IntKind.i64 x 11==28)
      (.ite (qo (x,0,11))
      (.ite (qcs (qb (x,0,11),11))
       (.ret (((24,0,0,0,0,w64 (2*qbS (qb (x,0,11),11)),0,false,()),true,())))
       .fail)
      .fail)
      (.ite (bif qw IntKind.i64 x 12==13 then qo (x,8,4) else true)
      (.ite (qw IntKind.i64 x 12==13&&decide (qb (x,8,4)≤13))
       (.ite (qo (x,8,4))
       (.ite (qo (x,0,8))
        (.ite (qcs (qb (x,0,8),8))
        (.ret (((25,0,0,0,0,w64 (2*qbS (qb (x,0,8),8)),qb (x,8,4),false,()),true,())))
        .fail)
        .fail)
       .fail)
       (.ret (((0,0,0,0,0,0,0,false,()),false,()))))
      .fail)))))))))
  .fail)
def qfP (x:qd qis):Bool:=(qgY x).val.isSome
def qcV (x:qd qis):Sh.den qkZ:=(qgY x).qH default
theorem qxr (x:qd qis) (h:qfP x=true):(qgY x).val=some (qcV x):=PO.qcg default h
abbrev qjw:List Ty:=[(.int .i64),(.int .i64)]
abbrev qmc:Sh:=Sh.tup (Sh.pair (Sh.ty qA) (Sh.pair (Sh.ty Ty.bool) (Sh.ty Ty.unit)))
def qhE (x:qd qjw):PO (Sh.den qmc) :=
 (.ite (qo (x.2,8,4))
  (.ite (qo (x.1,0,4))
  (.ite (qo (x.2,0,4))
   (.ite (qo (x.2,12,3)&&qo (x.2,6,2))
   (.ite (qo (x.2,4,2))
    (.ite (qw IntKind.i64 x.2 15==1)
    (.ret (((0,0,0,0,0,0,0,false,()),false,())))
    (.ite (x.1==59983)
     (.ite (qY [qb (x.2,8,4),qb (x.2,0,4)])
     (.ite (qby [qb (x.2,8,4),qb (x.2,0,4)])
      (.ite (qb (x.2,4,2)==0)
      (.ret (((w64 (5+qb (x.2,4,2)),qb (x.2,8,4),0,qb (x.2,0,4),0,bor IntKind.i64 (qt IntKind.i64 (qb (x.2,12,3)) 2) (qb (x.2,6,2)),0,false,()),true,())))
      (.ret (((w64 (5+qb (x.2,4,2)),qb (x.2,8,4),0,qb (x.2,0,4),0,bor IntKind.i64 (qt IntKind.i64 (qb (x.2,12,3)) 2) (qb (x.2,6,2)),0,false,()),decide (bor IntKind.i64 (qt IntKind.i64 (qb (x.2,12,3)) 2) (qb (x.2,6,2)) > 0),()))))
      (.ret (((w64 (5+qb (x.2,4,2)),qb (x.2,8,4),0,qb (x.2,0,4),0,bor IntKind.i64 (qt IntKind.i64 (qb (x.2,12,3)) 2) (qb (x.2,6,2)),0,false,()),false,()))))
     .fail)
     (.ite (x.1==60015)
     (.ite (qY [qb (x.2,8,4),qb (x.2,0,4)])
      (.ite (qby [qb (x.2,8,4),qb (x.2,0,4)])
      (.ite (qb (x.2,4,2)==0)
       (.ret (((9,qb (x.2,8,4),0,qb (x.2,0,4),0,0,0,false,()),bor IntKind.i64 (qt IntKind.i64 (qb (x.2,12,3)) 2) (qb (x.2,6,2))==0,())))
       (.ret (((9,qb (x.2,8,4),0,qb (x.2,0,4),0,0,0,false,()),false,()))))
      (.ret (((9,qb (x.2,8,4),0,qb (x.2,0,4),0,0,0,false,()),false,()))))
      .fail)
     (.ite (qdv IntKind.i64 x.1 15==59904)
      (.ite (qY [qb (x.2,8,4),qb (x.1,0,4),qb (x.2,0,4)])
      (.ite (qby [qb (x.2,8,4),qb (x.1,0,4),qb (x.2,0,4)])
       (.ite (qb (x.2,4,2)==0)
       (.ret (((10,qb (x.2,8,4),qb (x.1,0,4),qb (x.2,0,4),0,0,0,false,()),bor IntKind.i64 (qt IntKind.i64 (qb (x.2,12,3)) 2) (qb (x.2,6,2))==0,())))
       (.ret (((10,qb (x.2,8,4),qb (x.1,0,4),qb (x.2,0,4),0,0,0,false,()),false,()))))
       (.ret (((10,qb (x.2,8,4),qb (x.1,0,4),qb (x.2,0,4),0,0,0,false,()),false,()))))
      .fail)
      (.ite (qdv IntKind.i64 x.1 15==59936)
      (.ite (qY [qb (x.2,8,4),qb (x.1,0,4),qb (x.2,0,4)])
       (.ite (qby [qb (x.2,8,4),qb (x.1,0,4),qb (x.2,0,4)])
       (.ite (qb (x.2,4,2)==0)
        (.ret (((11,qb (x.2,8,4),qb (x.1,0,4),qb (x.2,0,4),0,0,0,false,()),bor IntKind.i64 (qt IntKind.i64 (qb (x.2,12,3)) 2) (qb (x.2,6,2))==0,())))
        (.ret (((11,qb (x.2,8,4),qb (x.1,0,4),qb (x.2,0,4),0,0,0,false,()),false,()))))
       (.ret (((11,qb (x.2,8,4),qb (x.1,0,4),qb (x.2,0,4),0,0,0,false,()),false,()))))
       .fail)
      (.ite (qdv IntKind.i64 x.1 15==59968)
       (.ite (qY [qb (x.2,8,4),qb (x.1,0,4),qb (x.2,0,4)])
       (.ite (qby [qb (x.2,8,4),qb (x.1,0,4),qb (x.2,0,4)])
        (.ite (qb (x.2,4,2)==0)
        (.ret (((12,qb (x.2,8,4),qb (x.1,0,4),qb (x.2,0,4),0,0,0,false,()),bor IntKind.i64 (qt IntKind.i64 (qb (x.2,12,3)) 2) (qb (x.2,6,2))==0,())))
        (.ret (((12,qb (x.2,8,4),qb (x.1,0,4),qb (x.2,0,4),0,0,0,false,()),false,()))))
        (.ret (((12,qb (x.2,8,4),qb (x.1,0,4),qb (x.2,0,4),0,0,0,false,()),false,()))))
       .fail)
       (.ite (qdv IntKind.i64 x.1 15==60032)
       (.ite (qY [qb (x.2,8,4),qb (x.1,0,4),qb (x.2,0,4)])
        (.ite (qby [qb (x.2,8,4),qb (x.1,0,4),qb (x.2,0,4)])
        (.ite (qb (x.2,4,2)==0)
         (.ret (((13,qb (x.2,8,4),qb (x.1,0,4),qb (x.2,0,4),0,0,0,false,()),bor IntKind.i64 (qt IntKind.i64 (qb (x.2,12,3)) 2) (qb (x.2,6,2))==0,())))
         (.ret (((13,qb (x.2,8,4),qb (x.1,0,4),qb (x.2,0,4),0,0,0,false,()),false,()))))
        (.ret (((13,qb (x.2,8,4),qb (x.1,0,4),qb (x.2,0,4),0,0,0,false,()),false,()))))
        .fail)
       (.ite (qdv IntKind.i64 x.1 15==60160)
        (.ite (qY [qb (x.2,8,4),qb (x.1,0,4),qb (x.2,0,4)])
        (.ite (qby [qb (x.2,8,4),qb (x.1,0,4),qb (x.2,0,4)])
         (.ite (qb (x.2,4,2)==0)
         (.ret (((14,qb (x.2,8,4),qb (x.1,0,4),qb (x.2,0,4),0,0,0,false,()),bor IntKind.i64 (qt IntKind.i64 (qb (x.2,12,3)) 2) (qb (x.2,6,2))==0,())))
         (.ret (((14,qb (x.2,8,4),qb (x.1,0,4),qb (x.2,0,4),0,0,0,false,()),false,()))))
         (.ret (((14,qb (x.2,8,4),qb (x.1,0,4),qb (x.2,0,4),0,0,0,false,()),false,()))))
        .fail)
        (.ite (qdv IntKind.i64 x.1 15==60320)
        (.ite (qY [qb (x.2,8,4),qb (x.1,0,4),qb (x.2,0,4)])
         (.ite (qby [qb (x.2,8,4),qb (x.1,0,4),qb (x.2,0,4)])
         (.ite (qb (x.2,4,2)==0)
          (.ret (((15,qb (x.2,8,4),qb (x.1,0,4),qb (x.2,0,4),0,0,0,false,()),bor IntKind.i64 (qt IntKind.i64 (qb (x.2,12,3)) 2) (qb (x.2,6,2))==0,())))
          (.ret (((15,qb (x.2,8,4),qb (x.1,0,4),qb (x.2,0,4),0,0,0,false,()),false,()))))
         (.ret (((15,qb (x.2,8,4),qb (x.1,0,4),qb (x.2,0,4),0,0,0,false,()),false,()))))
         .fail)
        (.ret (((0,0,0,0,0,0,0,false,()),false,()))))))))))))
    .fail)
   .fail)
   .fail)
  .fail)
  .fail)
def qgo (x:qd qjw):Bool:=(qhE x).val.isSome
def qc6 (x:qd qjw):Sh.den qmc:=(qhE x).qH default
theorem qyR (x:qd qjw) (h:qgo x=true):(qhE x).val=some (qc6 x):=PO.qcg default h
abbrev qhP:List Ty:=[(.int .i64),(.int .i64)]
abbrev qjM:Sh:=Sh.tup (Sh.pair (Sh.ty qA) (Sh.pair (Sh.ty Ty.bool) (Sh.ty Ty.unit)))
def qgr (x:qd qhP):PO (Sh.den qjM) :=
 (.ite (qo (x.1,0,4))
  (.ite (qo (x.2,0,4))
  (.ite (qo (x.2,12,4)&&qo (x.2,8,4))
   (.ite (qo (x.2,4,4))
   (.ite (qb (x.2,4,4) != 0)
    (.ret (((0,0,0,0,0,0,0,false,()),false,())))
    (.ite (qdv IntKind.i64 x.1 15==64256)
    (.ite (qb (x.2,12,4)==15)
     (.ite (qY [qb (x.2,8,4),qb (x.1,0,4),qb (x.2,0,4)])
     (.ret (((16,qb (x.2,8,4),qb (x.1,0,4),qb (x.2,0,4),0,0,0,false,()),qby [qb (x.2,8,4),qb (x.1,0,4),qb (x.2,0,4)],())))
     .fail)
     (.ret (((16,qb (x.2,8,4),qb (x.1,0,4),qb (x.2,0,4),0,0,0,false,()),false,()))))
    (.ite (qdv IntKind.i64 x.1 15==64416)
     (.ite (qb (x.2,12,4) != qb (x.2,8,4))
     (.ite (qY [qb (x.2,12,4),qb (x.2,8,4),qb (x.1,0,4),qb (x.2,0,4)])
      (.ret (((17,qb (x.2,12,4),qb (x.1,0,4),qb (x.2,0,4),qb (x.2,8,4),0,0,false,()),qby [qb (x.2,12,4),qb (x.2,8,4),qb (x.1,0,4),qb (x.2,0,4)],())))
      .fail)
     (.ret (((17,qb (x.2,12,4),qb (x.1,0,4),qb (x.2,0,4),qb (x.2,8,4),0,0,false,()),false,()))))
     (.ret (((0,0,0,0,0,0,0,false,()),false,()))))))
   .fail)
   .fail)
  .fail)
  .fail)
def qfm (x:qd qhP):Bool:=(qgr x).val.isSome
def qcK (x:qd qhP):Sh.den qjM:=(qgr x).qH default
theorem qwn (x:qd qhP) (h:qfm x=true):(qgr x).val=some (qcK x):=PO.qcg default h
abbrev qjx:List Ty:=[(.int .i64),(.int .i64)]
abbrev qlZ:Sh:=Sh.tup (Sh.pair (Sh.ty qA) (Sh.pair (Sh.ty Ty.bool) (Sh.ty Ty.unit)))
def qhG (x:qd qjx):PO (Sh.den qlZ) :=
 (.ite (qo (x.2,8,4))
  (.ite (qw IntKind.i64 x.2 15==1)
  (.ret (((0,0,0,0,0,0,0,false,()),false,())))
  (.ite (qdv IntKind.i64 x.1 15==62304)
   (.ite (qo (x.1,0,4))
   (.ite (qo (x.2,12,3))
    (.ite (qo (x.2,6,2))
    (.ite (qo (x.2,0,5))
     (.ite (qo (x.2,5,1))
     (.ite (qb (x.2,5,1)==0)
      (.ite (decide (w64 (w64 (qb (x.2,0,5)+1)-bor IntKind.i64 (qt IntKind.i64 (qb (x.2,12,3)) 2) (qb (x.2,6,2)))≥1))
      (.ite (qY [qb (x.2,8,4),qb (x.1,0,4)])
       (.ret (((18,qb (x.2,8,4),qb (x.1,0,4),0,w64 (w64 (qb (x.2,0,5)+1)-bor IntKind.i64 (qt IntKind.i64 (qb (x.2,12,3)) 2) (qb (x.2,6,2))),bor IntKind.i64 (qt IntKind.i64 (qb (x.2,12,3)) 2) (qb (x.2,6,2)),0,false,()),qby [qb (x.2,8,4),qb (x.1,0,4)],())))
       .fail)
      (.ret (((18,qb (x.2,8,4),qb (x.1,0,4),0,w64 (w64 (qb (x.2,0,5)+1)-bor IntKind.i64 (qt IntKind.i64 (qb (x.2,12,3)) 2) (qb (x.2,6,2))),bor IntKind.i64 (qt IntKind.i64 (qb (x.2,12,3)) 2) (qb (x.2,6,2)),0,false,()),false,()))))
      (.ret (((18,qb (x.2,8,4),qb (x.1,0,4),0,w64 (w64 (qb (x.2,0,5)+1)-bor IntKind.i64 (qt IntKind.i64 (qb (x.2,12,3)) 2) (qb (x.2,6,2))),bor IntKind.i64 (qt IntKind.i64 (qb (x.2,12,3)) 2) (qb (x.2,6,2)),0,false,()),false,()))))
     .fail)
     .fail)
    .fail)
    .fail)
   .fail)
   (.ite (qdv IntKind.i64 x.1 1039==62016)
   (.ite (qo (x.1,0,4))
    (.ite (qo (x.1,10,1))
    (.ite (qo (x.2,12,3))
     (.ite (qo (x.2,0,8))
     (.ite (qY [qb (x.2,8,4)])
      (.ret (((3,qb (x.2,8,4),0,0,0,bor IntKind.i64 (bor IntKind.i64 (bor IntKind.i64 (qt IntKind.i64 (qb (x.1,0,4)) 12) (qt IntKind.i64 (qb (x.1,10,1)) 11)) (qt IntKind.i64 (qb (x.2,12,3)) 8)) (qb (x.2,0,8)),0,false,()),qby [qb (x.2,8,4)],())))
      .fail)
     .fail)
     .fail)
    .fail)
    .fail)
   (.ite (qdv IntKind.i64 x.1 1039==62144)
    (.ite (qo (x.1,0,4))
    (.ite (qo (x.1,10,1))
     (.ite (qo (x.2,12,3))
     (.ite (qo (x.2,0,8))
      (.ite (qY [qb (x.2,8,4)])
      (.ret (((4,qb (x.2,8,4),0,0,0,bor IntKind.i64 (bor IntKind.i64 (bor IntKind.i64 (qt IntKind.i64 (qb (x.1,0,4)) 12) (qt IntKind.i64 (qb (x.1,10,1)) 11)) (qt IntKind.i64 (qb (x.2,12,3)) 8)) (qb (x.2,0,8)),0,false,()),qby [qb (x.2,8,4)],())))
      .fail)
      .fail)
     .fail)
     .fail)
    .fail)
    (.ret (((0,0,0,0,0,0,0,false,()),false,())))))))
  .fail)
def qgn (x:qd qjx):Bool:=(qhG x).val.isSome
def qc8 (x:qd qjx):Sh.den qlZ:=(qhG x).qH default
theorem qx0 (x:qd qjx) (h:qgn x=true):(qhG x).val=some (qc8 x):=PO.qcg default h
abbrev qiG:List Ty:=[(.int .i64),(.int .i64)]
abbrev qkX:Sh:=Sh.tup (Sh.pair (Sh.ty qA) (Sh.pair (Sh.ty Ty.bool) (Sh.ty Ty.unit)))
def qgT (x:qd qiG):PO (Sh.den qkX) :=
 (.ite (qo (x.1,10,1)&&(qo (x.2,13,1)&&qo (x.2,11,1)))
  (.ite (qo (x.2,0,11))
  (.ite (qw IntKind.i64 x.1 11 != 30||qw IntKind.i64 x.2 14 != 2)
   (.ret (((0,0,0,0,0,0,0,false,()),false,())))
   (.ite (qo (x.2,12,1))
   (.ite (qb (x.2,12,1)==1)
    (.ite (qo (x.1,0,10))
    (.ite (qcs (bor IntKind.i64 (bor IntKind.i64 (bor IntKind.i64 (bor IntKind.i64 (qt IntKind.i64 (qb (x.1,10,1)) 23) (qt IntKind.i64 (qda IntKind.i64 (qda IntKind.i64 1 (qb (x.2,13,1))) (qb (x.1,10,1))) 22)) (qt IntKind.i64 (qda IntKind.i64 (qda IntKind.i64 1 (qb (x.2,11,1))) (qb (x.1,10,1))) 21)) (qt IntKind.i64 (qb (x.1,0,10)) 11)) (qb (x.2,0,11)),24))
     (.ret (((24,0,0,0,0,w64 (2*qbS (bor IntKind.i64 (bor IntKind.i64 (bor IntKind.i64 (bor IntKind.i64 (qt IntKind.i64 (qb (x.1,10,1)) 23) (qt IntKind.i64 (qda IntKind.i64 (qda IntKind.i64 1 (qb (x.2,13,1))) (qb (x.1,10,1))) 22)) (qt IntKind.i64 (qda IntKind.i64 (qda IntKind.i64 1 (qb (x.2,11,1))) (qb (x.1,10,1))) 21)) (qt IntKind.i64 (qb (x.1,0,10)) 11)) (qb (x.2,0,11)),24)),0,true,()),true,())))
     .fail)
    .fail)
    (.ite (qo (x.1,6,4))
    (.ite (qo (x.1,0,6))
     (.ite (qcs (bor IntKind.i64 (bor IntKind.i64 (bor IntKind.i64 (bor IntKind.i64 (qt IntKind.i64 (qb (x.1,10,1)) 19) (qt IntKind.i64 (qb (x.2,11,1)) 18)) (qt IntKind.i64 (qb (x.2,13,1)) 17)) (qt IntKind.i64 (qb (x.1,0,6)) 11)) (qb (x.2,0,11)),20))
     (.ret (((25,0,0,0,0,w64 (2*qbS (bor IntKind.i64 (bor IntKind.i64 (bor IntKind.i64 (bor IntKind.i64 (qt IntKind.i64 (qb (x.1,10,1)) 19) (qt IntKind.i64 (qb (x.2,11,1)) 18)) (qt IntKind.i64 (qb (x.2,13,1)) 17)) (qt IntKind.i64 (qb (x.1,0,6)) 11)) (qb (x.2,0,11)),20)),qb (x.1,6,4),true,()),decide (qb (x.1,6,4)≤13),())))
     .fail)
     .fail)
    .fail))
   .fail))
  .fail)
  .fail)
def qfU (x:qd qiG):Bool:=(qgT x).val.isSome
def qcT (x:qd qiG):Sh.den qkX:=(qgT x).qH default
theorem qwY (x:qd qiG) (h:qfU x=true):(qgT x).val=some (qcT x):=PO.qcg default h
abbrev qkf:List Ty:=[(.int .i64),(.int .i64)]
abbrev qm3:Sh:=Sh.tup (Sh.pair (Sh.ty qA) (Sh.pair (Sh.ty Ty.bool) (Sh.ty Ty.unit)))
def qic (x:qd qkf):PO (Sh.den qm3) :=
 (.ite (qgo x) (.ite (qc6 x).2.1 (.ret ((qc6 x).1,true,())) (.ite (qfm x) (.ite (qcK x).2.1 (.ret ((qcK x).1,true,())) (.ite (qgn x) (.ite (qc8 x).2.1 (.ret ((qc8 x).1,true,())) (.ite (qfU x) (.ite (qcT x).2.1 (.ret ((qcT x).1,true,())) (.ret ((0,0,0,0,0,0,0,false,()),false,()))) .fail)) .fail)) .fail)) .fail)
def qh9 (x:qd qkf):Bool:=(qic x).val.isSome
def qg6 (x:qd qkf):Sh.den qm3:=(qic x).qH default
theorem qzA (x:qd qkf) (h:qh9 x=true):(qic x).val=some (qg6 x):=PO.qcg default h
abbrev qii:List Ty:=[.str]
abbrev qkW:Sh:=Sh.tup (Sh.pair (Sh.ty qA) (Sh.pair (Sh.ty (Ty.int IntKind.i64)) (Sh.pair (Sh.ty (Ty.int IntKind.i64)) (Sh.ty Ty.unit))))
def qgR (x:qd qii):PO (Sh.den qkW) :=
 (.ite (qct x==0||decide (qi x<qct x))
  (.ret (((0,0,0,0,0,0,0,false,()),0,3,())))
  (.ite (qct x==2)
  (.ite (qcd (x,0))
   (.ite (qfP (qb4 (x,0)))
   (.ite (!(qcV (qb4 (x,0))).2.1)
    (.ret (((0,0,0,0,0,0,0,false,()),0,7,())))
    (.ret (((qcV (qb4 (x,0))).1,qct x,0,()))))
   .fail)
   .fail)
  (.ite (qcd (x,0))
   (.ite (qcd (x,1))
   (.ite (qh9 (qb4 (x,0),qb4 (x,1)))
    (.ite (!(qg6 (qb4 (x,0),qb4 (x,1))).2.1)
    (.ret (((0,0,0,0,0,0,0,false,()),0,7,())))
    (.ret (((qg6 (qb4 (x,0),qb4 (x,1))).1,qct x,0,()))))
    .fail)
   .fail)
   .fail)))
def qgP (x:qd qii):Bool:=(qgR x).val.isSome
def qx (x:qd qii):Sh.den qkW:=(qgR x).qH default
theorem qxc (x:qd qii) (h:qgP x=true):(qgR x).val=some (qx x):=PO.qcg default h
def qbG:Nat→Nat→List Bool
 |0,_=>[]
 |m+1,n=>(n / 2 ^ m % 2==1)::qbG m n
theorem qdi:∀m n:Nat,(qbG m n).length=m
 |0,_=>rfl
 |m+1,n=>congrArg (·+1) (qdi m n)
def tx (l:List Bool):List UInt8:=l.map fun b=>bif b then 49 else 48
end Go.Av
end
section
namespace Go.Av
open Go
theorem qJk:∀(l m:List Bool) (a b:Nat),l.length=m.length→hb l a=hb m b→a=b∧l=m
 |[],[],_,_,_,h=>⟨h,rfl⟩
 |x::l,y::m,a,b,hlen,h=>by
  unfold hb at h
  obtain⟨h1,h2⟩:=qJk l m _ _ (Nat.succ.inj hlen) h
  refine⟨?_,?_⟩
  ·cases x<;>cases y<;>simp at h1<;>omega
  ·rw[h2,show x=y by cases x<;>cases y<;>simp at h1⊢<;>omega]
theorem qNi (m:Nat):∀{x y:Int},0≤x→x<(2 ^ m:Nat)→0≤y→y<(2 ^ m:Nat)→(∀k,k<m→bI x k=bI y k)→x=y:=by
 intro x y h1 h2 h3 h4 h
 obtain⟨a,rfl⟩:=Int.eq_ofNat_of_zero_le h1
 obtain⟨b,rfl⟩:=Int.eq_ofNat_of_zero_le h3
 have e:a=b:=by
  refine Nat.eq_of_testBit_eq fun j=>?_
  by_cases hj:j<m
  ·rw[qrW,qrW];exact h j hj
  ·have:2 ^ m≤2 ^ j:=qfO (by omega)
   rw[Nat.testBit_lt_two_pow (by omega),Nat.testBit_lt_two_pow (by omega)]
 rw[e]
def unlike:List UInt8→List UInt8→Bool
 |a::l,b::m=>(a==48&&b==49)||((a==49&&b==48)||unlike l m)
 |_,_=>false
def apart (a b:List UInt8):Bool:=unlike (a.take 16) (b.take 16)||(a.length==32&&(b.length==32&&unlike (a.drop 16) (b.drop 16)))
end Go.Av
end
section
namespace Go.Av
open Go
def H (l:List Bool):Int:=((hb l 0:Nat):Int)
theorem qmi (l:List Bool):hb l 0<2 ^ l.length:=by
 have:=qBa l 0 0 (by omega)
 rwa [Nat.zero_add] at this
theorem qnf (l:List Bool):0≤H l:=by unfold H;omega
theorem qwU {l:List Bool} {k:Nat} (h:l.length≤k):H l<(2 ^ k:Nat):=by
 have h1:=qmi l
 have h2:2 ^ l.length≤2 ^ k:=qfO h
 unfold H;omega
theorem qpE (l:List Bool) (j:Nat):(hb l 0).testBit j=(decide (j<l.length)&&l.getD (l.length-1-j) false):=by
 rw[qDn]
 by_cases h:j<l.length
 ·rw[if_pos h,decide_eq_true h,Bool.true_and]
 ·rw[if_neg h,decide_eq_false h,Bool.false_and,Nat.zero_testBit]
theorem qt2 (l:List Bool) (a:Nat) (h:a≤l.length):hb l 0 / 2 ^ a=hb (l.take (l.length-a)) 0:=by
 refine Nat.eq_of_testBit_eq fun j=>?_
 rw[Nat.testBit_div_two_pow,qpE,qpE,List.length_take,Nat.min_eq_left (Nat.sub_le ..)]
 by_cases hj:j<l.length-a
 ·rw[decide_eq_true hj,decide_eq_true (show j+a<l.length by omega),Bool.true_and,Bool.true_and,List.getD_eq_getElem?_getD,List.getD_eq_getElem?_getD,List.getElem?_take,if_pos (by omega)]
  congr 2;omega
 ·rw[decide_eq_false hj,decide_eq_false (show ¬j+a<l.length by omega),Bool.false_and,Bool.false_and]
theorem qQ8 (l:List Bool) (m:Nat) (h:m≤l.length):hb l 0 % 2 ^ m=hb (l.drop (l.length-m)) 0:=by
 refine Nat.eq_of_testBit_eq fun j=>?_
 rw[Nat.testBit_mod_two_pow,qpE,qpE,List.length_drop]
 by_cases hj:j<m
 ·rw[decide_eq_true hj,decide_eq_true (show j<l.length by omega),decide_eq_true (show j<l.length-(l.length-m) by omega),Bool.true_and,Bool.true_and,Bool.true_and,List.getD_eq_getElem?_getD,List.getD_eq_getElem?_getD,List.getElem?_drop]
  congr 2;omega
 ·rw[decide_eq_false hj,decide_eq_false (show ¬j<l.length-(l.length-m) by omega),Bool.false_and,Bool.false_and]
def sl (l:List Bool) (a m:Nat):List Bool:=(l.take (l.length-a)).drop (l.length-a-m)
theorem qye (l:List Bool) (a m:Nat) (h:a+m≤l.length):(sl l a m).length=m:=by
 unfold sl;rw[List.length_drop,List.length_take];omega
theorem qMq (l:List Bool) (a m:Nat) (h:a+m≤l.length):hb l 0 / 2 ^ a % 2 ^ m=hb (sl l a m) 0:=by
 have hl:(l.take (l.length-a)).length=l.length-a:=by rw[List.length_take];omega
 rw[qt2 l a (by omega),qQ8 _ m (by omega),hl]
 rfl
theorem qcB (l:List Bool) (a m:Nat) (h:a+m≤l.length):qb (H l,(a:Int),(m:Int))=H (sl l a m):=by
 show H l / (2 ^ (a:Int).toNat:Nat) % (2 ^ (m:Int).toNat:Nat)=H (sl l a m)
 rw[Int.toNat_natCast,Int.toNat_natCast]
 unfold H
 rw[←qMq l a m h]
 norm_cast
theorem qty:∀(m n:Nat),hb (qbG m n) 0=n % 2 ^ m:=by
 intro m n
 refine Nat.eq_of_testBit_eq fun j=>?_
 have key:∀(m:Nat) (i:Nat),i<m→(qbG m n).getD i false=n.testBit (m-1-i):=by
  intro m
  induction m with
  |zero=>intro i h;omega
  |succ m ih =>
   intro i h
   cases i with
   |zero =>
    show(n / 2 ^ m % 2==1)=_
    rw[Nat.testBit_eq_decide_div_mod_eq,show m+1-1-0=m by omega,Bool.eq_iff_iff,beq_iff_eq,decide_eq_true_eq]
   |succ i =>
    show(qbG m n).getD i false=_
    rw[ih i (by omega)]
    congr 1;omega
 rw[qpE,Nat.testBit_mod_two_pow,qdi]
 by_cases hj:j<m
 ·rw[decide_eq_true hj,Bool.true_and,Bool.true_and,key m _ (by omega)]
  congr 1;omega
 ·rw[decide_eq_false hj,Bool.false_and,Bool.false_and]
theorem qGk (l:List Bool):qbG l.length (hb l 0)=l :=
 (qJk _ _ 0 0 (qdi ..) (by rw[qty,Nat.mod_eq_of_lt (qmi l)])).2
def eqC (l:List Bool) (c:Nat):Bool:=l==qbG l.length c
theorem qf9 (l:List Bool) (c:Nat) (hc:c<2 ^ l.length):(H l==(c:Int))=eqC l c:=by
 unfold eqC H
 rw[Bool.eq_iff_iff,beq_iff_eq,beq_iff_eq]
 constructor
 ·intro h
  have h:hb l 0=c:=by omega
  rw[←h,qGk]
 ·intro h
  rw[h,qty,Nat.mod_eq_of_lt hc]
theorem qmX (l:List Bool) (k c:Nat) (hk:k≤l.length) (hk2:k<64) (hc:c<2 ^ (l.length-k)):(qw .i64 (H l) (k:Int)==(c:Int))=eqC (l.take (l.length-k)) c:=by
 have e:qw .i64 (H l) (k:Int)=H (l.take (l.length-k)):=by
  rw[qfL _ _ hk2]
  unfold H
  rw[←qt2 l k hk]
  norm_cast
 rw[e,qf9 _ _ (by rw[List.length_take,Nat.min_eq_left (Nat.sub_le ..)];exact hc)]
theorem qsp (a b:List Bool):hb (a++b) 0=hb a 0*2 ^ b.length+hb b 0:=by
 have key:∀(b:List Bool) (n:Nat),hb b n=n*2 ^ b.length+hb b 0:=by
  intro b
  induction b with
  |nil=>intro n;simp[hb]
  |cons x b ih =>
   intro n
   show hb b (2*n+x.toNat)=_+hb b (2*0+x.toNat)
   rw[Nat.mul_zero,Nat.zero_add,ih (2*n+x.toNat),ih x.toNat,List.length_cons,Nat.pow_succ]
   generalize 2 ^ b.length=p
   rw[Nat.add_mul,Nat.mul_comm 2 n,Nat.mul_assoc,Nat.mul_comm 2 p]
   omega
 have h2:∀(a:List Bool) (n:Nat),hb (a++b) n=hb b (hb a n):=by
  intro a
  induction a with
  |nil=>intro n;rfl
  |cons x a ih=>intro n;exact ih _
 rw[h2,key]
theorem qPF (h k:Nat) (l:List Bool) (hk:k+l.length≤62) (hh:h*2 ^ (k+l.length)<4611686018427387904) :
  bor .i64 ((h*2 ^ (k+l.length):Nat):Int) (qt .i64 (H l) (k:Int))=(((h*2 ^ l.length+hb l 0)*2 ^ k:Nat):Int):=by
 have h1:=qmi l
 have hp:2 ^ (k+l.length)≤2 ^ 62:=qfO hk
 have h2:hb l 0*2 ^ k<2 ^ (k+l.length):=by rw[Nat.pow_add,Nat.mul_comm (2 ^ k)];exact Nat.mul_lt_mul_of_pos_right h1 (Nat.two_pow_pos k)
 unfold H
 rw[qnX _ k (by omega) (by omega),qkL (by omega) (by omega),Nat.mul_comm h,←Nat.two_pow_add_eq_or_of_lt h2,Nat.pow_add,Nat.add_mul,Nat.mul_comm (2 ^ k),Nat.mul_comm h,Nat.mul_assoc,Nat.mul_assoc,Nat.mul_comm h]
theorem qPK (h:Nat) (l:List Bool) (hk:l.length≤62) (hh:h*2 ^ l.length<4611686018427387904) :
  bor .i64 ((h*2 ^ l.length:Nat):Int) (H l)=((h*2 ^ l.length+hb l 0:Nat):Int):=by
 have h1:=qmi l
 have hp:2 ^ l.length≤2 ^ 62:=qfO hk
 unfold H
 rw[qkL (by omega) (by omega),Nat.mul_comm h,Nat.two_pow_add_eq_or_of_lt h1]
theorem qDC (l:List Bool) (k:Nat) (hk:l.length+k≤61):qt .i64 (H l) (k:Int)=((hb l 0*2 ^ k:Nat):Int):=by
 have h1:=qmi l
 have h2:hb l 0*2 ^ k<2 ^ (l.length+k):=by rw[Nat.pow_add];exact Nat.mul_lt_mul_of_pos_right h1 (Nat.two_pow_pos k)
 have hp:2 ^ (l.length+k)≤2 ^ 61:=qfO hk
 exact qnX _ _ (by omega) (by omega)
theorem qB5 (a b:List Bool) (k:Nat) (hb':b.length=k) (hk:a.length+k≤61):bor .i64 (qt .i64 (H a) (k:Int)) (H b)=H (a++b):=by
 subst hb'
 have h1:=qmi a
 have h2:hb a 0*2 ^ b.length<2 ^ (a.length+b.length):=by rw[Nat.pow_add];exact Nat.mul_lt_mul_of_pos_right h1 (Nat.two_pow_pos _)
 have hp:2 ^ (a.length+b.length)≤2 ^ 61:=qfO hk
 rw[qDC _ _ hk,qPK _ _ (by omega) (by omega)]
 unfold H
 rw[qsp]
theorem qsk (a b:List Bool) (k j:Nat) (hb':b.length+j=k) (hk:a.length+k≤61):bor .i64 (qt .i64 (H a) (k:Int)) (qt .i64 (H b) (j:Int))=qt .i64 (H (a++b)) (j:Int):=by
 subst hb'
 have h1:=qmi a
 have h2:hb a 0*2 ^ (b.length+j)<2 ^ (a.length+(b.length+j)):=by rw[Nat.pow_add 2 a.length];exact Nat.mul_lt_mul_of_pos_right h1 (Nat.two_pow_pos _)
 have hp:2 ^ (a.length+(b.length+j))≤2 ^ 61:=qfO hk
 rw[qDC _ _ hk,Nat.add_comm b.length j,qPF _ _ _ (by omega) (by rw[Nat.add_comm j];omega),qDC _ _ (by rw[List.length_append];omega),qsp]
theorem qQu (a b:List Bool) (h:a.length=b.length):hb (List.zipWith (·&&·) a b) 0=hb a 0 &&& hb b 0:=by
 refine Nat.eq_of_testBit_eq fun j=>?_
 rw[Nat.testBit_and,qpE,qpE,qpE,List.length_zipWith,h,Nat.min_self]
 by_cases hj:j<b.length
 ·rw[decide_eq_true hj,Bool.true_and,Bool.true_and,Bool.true_and,List.getD_eq_getElem?_getD,List.getD_eq_getElem?_getD,List.getD_eq_getElem?_getD,List.getElem?_zipWith,
   List.getElem?_eq_getElem (show b.length-1-j<a.length by omega),List.getElem?_eq_getElem (show b.length-1-j<b.length by omega)]
  rfl
 ·rw[decide_eq_false hj,Bool.false_and,Bool.false_and,Bool.false_and]
theorem qlH (l:List Bool) (m:Nat) (hl:l.length=16) (hm:m<65536):qdv .i64 (H l) (m:Int)=H (List.zipWith (·&&·) (qbG 16 (65535-m)) l):=by
 have h1:=qmi l
 rw[hl] at h1
 have h1:hb l 0<65536:=h1
 have e:(BitVec.ofInt 64 ((hb l 0:Nat):Int) &&& ~~~(BitVec.ofInt 64 (m:Int))).toNat=hb (List.zipWith (·&&·) (qbG 16 (65535-m)) l) 0:=by
  rw[BitVec.toNat_and,BitVec.toNat_not,qlv (by omega),qlv (by omega),qQu _ _ (by rw[qdi,hl]),qty]
  refine Nat.eq_of_testBit_eq fun j=>?_
  rw[Nat.testBit_and,Nat.testBit_and]
  by_cases hj:j<16
  ·rw[Bool.and_comm]
   congr 1
   rw[show 2 ^ 64-1-m=(65535-m)+2 ^ 16*281474976710655 by omega,show(65535-m) % 2 ^ 16=65535-m by omega,Nat.add_comm,Nat.testBit_two_pow_mul_add _ (by omega),if_pos hj]
  ·have:(hb l 0).testBit j=false:=by rw[qpE,hl,decide_eq_false hj,Bool.false_and]
   rw[this,Bool.false_and,Bool.and_false]
 have e2:qdv .i64 (H l) (m:Int)=w64 (((BitVec.ofInt 64 ((hb l 0:Nat):Int) &&& ~~~(BitVec.ofInt 64 (m:Int))).toNat:Nat):Int):=rfl
 rw[e2,e]
 have h3:=qmi (List.zipWith (·&&·) (qbG 16 (65535-m)) l)
 rw[List.length_zipWith,qdi,hl] at h3
 rw[qpj (Nat.lt_of_lt_of_le h3 (by decide))]
 rfl
theorem qSI (l:List Bool) (k:Nat) (h:k<l.length):bI (H l) k=l.getD (l.length-1-k) false:=by
 unfold H
 rw[←qrW,qpE,decide_eq_true h,Bool.true_and]
def bis (x:Int):Nat→List Bool
 |0=>[]
 |m+1=>bI x m::bis x m
theorem qrg (x:Int):∀m,(bis x m).length=m
 |0=>rfl
 |m+1=>congrArg (·+1) (qrg x m)
theorem qCX (x:Int):∀(m i:Nat),i<m→(bis x m).getD i false=bI x (m-1-i)
 |m+1,0,_=>by show bI x m=_;congr 1
 |m+1,i+1,h=>by
  show(bis x m).getD i false=_
  rw[qCX x m i (by omega)]
  congr 1;omega
theorem qNO (x:Int) (m:Nat):H (bis x m)=x % (2 ^ m:Nat):=by
 have hb:=qkI x m
 have h1:H (bis x m)<(2 ^ m:Nat):=qwU (Nat.le_of_eq (qrg x m))
 refine qNi m (qnf _) h1 hb.1 hb.2 fun k hk=>?_
 rw[qSI _ _ (by rw[qrg];exact hk),qrg,qCX _ _ _ (by omega),qs8 _ hk]
 congr 1;omega
theorem qcH {x:Int} {m:Nat} (h0:0≤x) (h:x<(2 ^ m:Nat)):H (bis x m)=x:=by
 rw[qNO,Int.emod_eq_of_lt h0 h]
def SG:List Bool→Int
 |[]=>0
 |b::r=>H r-b.toNat*(2 ^ r.length:Nat)
theorem qQn (b:Bool) (r:List Bool):H (b::r)=b.toNat*(2 ^ r.length:Nat)+H r:=by
 have:=qsp [b] r
 unfold H
 rw[show b::r=[b]++r from rfl,this,show hb [b] 0=b.toNat by cases b<;>rfl,Int.natCast_add,Int.natCast_mul]
theorem qRX (b:Bool) (r:List Bool):SG (b::r)=bif b then H (b::r)-(2 ^ (r.length+1):Nat) else H (b::r):=by
 unfold SG
 rw[qQn,Nat.pow_succ]
 cases b
 ·simp
 ·simp only[Bool.toNat_true,cond_true];omega
theorem qM4 (b:Bool) (r:List Bool):qbS (H (b::r),((r.length+1:Nat):Int))=SG (b::r):=by
 rw[qRX]
 show(bif H (b::r) / (2 ^ (((r.length+1:Nat):Int)-1).toNat:Nat)==1 then H (b::r)-(2 ^ ((r.length+1:Nat):Int).toNat:Nat) else H (b::r))=_
 rw[show(((r.length+1:Nat):Int)-1).toNat=r.length by omega,Int.toNat_natCast]
 have e:(H (b::r) / (2 ^ r.length:Nat)==1)=b:=by
  have h:=qt2 (b::r) r.length (by simp)
  have e2:(b::r).length-r.length=1:=by simp
  rw[e2] at h
  have e3:H (b::r) / (2 ^ r.length:Nat)=((hb [b] 0:Nat):Int):=by
   unfold H
   rw[show hb [b] 0=hb (b::r) 0 / 2 ^ r.length from h.symm]
   norm_cast
  rw[e3]
  cases b<;>rfl
 rw[e]
theorem qLZ:∀l:List Bool,2*SG l=SG (l++[false])∨l=[]
 |[]=>.inr rfl
 |b::r=>.inl (by
  show 2*(H r-b.toNat*(2 ^ r.length:Nat))=H (r++[false])-b.toNat*(2 ^ (r++[false]).length:Nat)
  have h:H (r++[false])=2*H r:=by
   unfold H
   rw[qsp]
   show((hb r 0*2+0:Nat):Int)=_
   omega
  rw[h,List.length_append,Nat.pow_add]
  generalize 2 ^ r.length=p
  cases b<;>simp<;>omega)
theorem qx9 (x:Int) (m:Nat) (h1:-(2 ^ m:Nat)≤x) (h2:x<(2 ^ m:Nat)):SG (bis x (m+1))=x:=by
 show H (bis x m)-(bI x m).toNat*(2 ^ (bis x m).length:Nat)=x
 rw[qNO,qrg]
 unfold bI
 have hp:=Nat.two_pow_pos m
 by_cases hx:x<0
 ·have hd:x / (2 ^ m:Nat)=-1:=by
   have e1:(x+(2 ^ m:Nat)) / (2 ^ m:Nat)=0:=Int.ediv_eq_zero_of_lt (by omega) (by omega)
   rw[Int.add_ediv_of_dvd_right (Int.dvd_refl _),Int.ediv_self (by omega)] at e1
   omega
  have hm:=Int.emod_add_mul_ediv x (2 ^ m:Nat)
  rw[hd] at hm ⊢
  simp only[show((-1:Int) % 2==1)=true from rfl,Bool.toNat_true]
  omega
 ·have hd:x / (2 ^ m:Nat)=0:=Int.ediv_eq_zero_of_lt (by omega) h2
  rw[hd,Int.emod_eq_of_lt (by omega) h2]
  simp
end Go.Av
end
section
namespace Go.Av
open Go
theorem qP (l:List Bool) (a m:Nat):(sl l a m).length=min m (l.length-a):=by
 unfold sl;rw[List.length_drop,List.length_take];omega
theorem qr8 (l:List Bool) (m:Nat) (hm:0<m) (h:l.length=m):qbS (H l,(m:Int))=SG l:=by
 match l with
 |[]=>simp at h;omega
 |b::r=>rw[←h];exact qM4 b r
theorem qRs (l:List Bool) (m:Nat) (h:l.length≤m):-((2 ^ m:Nat):Int)≤SG l∧SG l<(2 ^ m:Nat):=by
 match l with
 |[]=>have:=Nat.two_pow_pos m;exact⟨by show _≤(0:Int);omega,by show(0:Int)<_;omega⟩
 |b::r =>
  have h1:=qnf r
  have h2:=qwU (l:=r) (Nat.le_refl _)
  have h3:2 ^ (r.length+1)≤2 ^ m:=qfO h
  rw[Nat.pow_succ] at h3
  unfold SG
  cases b
  ·simp only[Bool.toNat_false];constructor<;>omega
  ·simp only[Bool.toNat_true];constructor<;>omega
theorem qub (l:List Bool) (m:Nat) (hm:0<m) (h2:m≤24) (h:l.length=m):w64 (2*SG l)=SG (l++[false]):=by
 have hb:=qRs l 24 (by omega)
 rw[qu (by omega) (by omega)]
 rcases qLZ l with e |e
 ·exact e
 ·subst e;simp at h;omega
theorem qso (l:List Bool) (m:Nat) (h1:1≤m) (h2:m≤24) (h:l.length=m):qcs (H l,(m:Int))=true:=by
 have hb:=qnf l
 have hc:=qwU (l:=l) (k:=24) (by omega)
 show(decide ((1:Int)≤(m:Int))&&(decide ((m:Int)≤24)&&(decide (0≤H l)&&decide (H l<33554432))))=true
 rw[qK (by omega),qK (by omega),qK (by omega),qK (by omega)]
 rfl
def nx (j s:Bool):Bool:=!(j ^^ s)
theorem qP8:∀(a b:List Bool),a.length=1→b.length=1→qda IntKind.i64 (qda IntKind.i64 1 (H a)) (H b)=H (List.zipWith nx a b)
 |[false],[false],_,_=>rfl
 |[true],[false],_,_=>rfl
 |[false],[true],_,_=>rfl
 |[true],[true],_,_=>rfl
theorem qzI (z:Int) (h1:-1000000≤z) (h2:z≤1000000):w64 z=z:=qu (by omega) (by omega)
def qZ (v:Int):Bool:=decide (v≤12)
abbrev D1:=qA.den×Bool×Unit
def op1 (o:Option D1):Option (Option qA.den):=o.map fun p=>bif p.2.1 then some p.1 else none
theorem qrH (c:Bool) {a b:Option D1} {a' b':Option qA.den} (h1:op1 a=some a') (h2:op1 b=some b'):op1 (bif c then a else b)=some (bif c then a' else b'):=by cases c<;>assumption
theorem qOK {o:Option D1} {d:Option qA.den} (h:op1 o=some d):∃p:D1,o=some p∧(bif p.2.1 then some p.1 else none)=d:=by
 cases o with
 |none=>cases h
 |some p=>exact⟨p,rfl,Option.some.inj h⟩
def qc5 (l:List Bool):Option qA.den :=
 (bif (eqC l 48896) then
 (some (1,0,0,0,0,0,0,false,())) else
 (bif (eqC (l.take 8) 190) then
 (some (2,0,0,0,0,H (sl l 0 8),0,false,())) else
 (bif (eqC (l.take 10) 416) then
 (some (19,H (sl l 0 3),H (sl l 3 3),0,0,0,0,false,())) else
 (bif (eqC (l.take 10) 384) then
 (some (20,H (sl l 0 3),H (sl l 3 3),0,0,0,0,false,())) else
 (bif (eqC (l.take 10) 480) then
 (some (21,H (sl l 0 3),H (sl l 3 3),0,0,0,0,false,())) else
 (bif (eqC (l.take 10) 448) then
 (some (22,H (sl l 0 3),H (sl l 3 3),0,0,0,0,false,())) else
 (bif (eqC (l.take 10) 266) then
 (some (23,0,H (sl l 0 3),H (sl l 3 3),0,0,0,false,())) else
 (bif (eqC (l.take 5) 28) then
 (some (24,0,0,0,0,SG (sl l 0 11++[false]),0,false,())) else
 (bif (eqC (l.take 4) 13&&decide (H (sl l 8 4)≤13)) then
 (some (25,0,0,0,0,SG (sl l 0 8++[false]),H (sl l 8 4),false,())) else
 none)))))))))
theorem qMN (l:List Bool) (hl:l.length=16):op1 (qgY (H l)).val=some (qc5 l):=by
 have g1:qo (H l,0,3)=true:=rfl
 have g2:qo (H l,3,3)=true:=rfl
 have g3:qo (H l,0,8)=true:=rfl
 have g4:qo (H l,0,11)=true:=rfl
 have g5:qo (H l,8,4)=true:=rfl
 have g6:qb (H l,0,8)=H (sl l 0 8):=qcB l 0 8 (by omega)
 have g7:qb (H l,0,3)=H (sl l 0 3):=qcB l 0 3 (by omega)
 have g8:qb (H l,3,3)=H (sl l 3 3):=qcB l 3 3 (by omega)
 have g9:qb (H l,0,11)=H (sl l 0 11):=qcB l 0 11 (by omega)
 have g10:qb (H l,8,4)=H (sl l 8 4):=qcB l 8 4 (by omega)
 have g11:(qw IntKind.i64 (H l) 8==190)=eqC (l.take 8) 190:=(by have:=qmX l 8 190 (by omega) (by omega) (by rw[hl];decide);rw[hl] at this;exact this)
 have g12:(qw IntKind.i64 (H l) 6==416)=eqC (l.take 10) 416:=(by have:=qmX l 6 416 (by omega) (by omega) (by rw[hl];decide);rw[hl] at this;exact this)
 have g13:(qw IntKind.i64 (H l) 6==384)=eqC (l.take 10) 384:=(by have:=qmX l 6 384 (by omega) (by omega) (by rw[hl];decide);rw[hl] at this;exact this)
 have g14:(qw IntKind.i64 (H l) 6==480)=eqC (l.take 10) 480:=(by have:=qmX l 6 480 (by omega) (by omega) (by rw[hl];decide);rw[hl] at this;exact this)
 have g15:(qw IntKind.i64 (H l) 6==448)=eqC (l.take 10) 448:=(by have:=qmX l 6 448 (by omega) (by omega) (by rw[hl];decide);rw[hl] at this;exact this)
 have g16:(qw IntKind.i64 (H l) 6==266)=eqC (l.take 10) 266:=(by have:=qmX l 6 266 (by omega) (by omega) (by rw[hl];decide);rw[hl] at this;exact this)
 have g17:(qw IntKind.i64 (H l) 11==28)=eqC (l.take 5) 28:=(by have:=qmX l 11 28 (by omega) (by omega) (by rw[hl];decide);rw[hl] at this;exact this)
 have g18:(qw IntKind.i64 (H l) 12==13)=eqC (l.take 4) 13:=(by have:=qmX l 12 13 (by omega) (by omega) (by rw[hl];decide);rw[hl] at this;exact this)
 have g19:(H l==48896)=eqC l 48896:=qf9 l 48896 (by rw[hl];decide)
 have g20:qbS (H (sl l 0 11),11)=SG (sl l 0 11):=qr8 (sl l 0 11) 11 (by omega) (by simp[qP,hl])
 have g21:qcs (H (sl l 0 11),11)=true:=qso _ 11 (by omega) (by omega) (by simp[qP,hl])
 have g22:w64 (2*SG (sl l 0 11))=SG (sl l 0 11++[false]):=qub (sl l 0 11) 11 (by omega) (by omega) (by simp[qP,hl])
 have g23:qbS (H (sl l 0 8),8)=SG (sl l 0 8):=qr8 (sl l 0 8) 8 (by omega) (by simp[qP,hl])
 have g24:qcs (H (sl l 0 8),8)=true:=qso _ 8 (by omega) (by omega) (by simp[qP,hl])
 have g25:w64 (2*SG (sl l 0 8))=SG (sl l 0 8++[false]):=qub (sl l 0 8) 8 (by omega) (by omega) (by simp[qP,hl])
 simp only[qgY,PO.val,g1,g2,g3,g4,g5,g6,g7,g8,g9,g10,g11,g12,g13,g14,g15,g16,g17,g18,g19,g20,g21,g22,g23,g24,g25,Bool.and_self,cond_true,Bool.cond_self]
 unfold qc5
 repeat' (first|refine qrH _ ?_ ?_ |rfl)
def qdH (lx ly:List Bool):Option qA.den :=
 (bif (eqC (ly.take 1) 1) then
 none else
 (bif (eqC lx 59983) then
 (bif ((qZ (H (sl ly 8 4))&&(qZ (H (sl ly 0 4))&&true))) then
 (bif (eqC (sl ly 4 2) 0) then
 (some ((5+H (sl ly 4 2)),H (sl ly 8 4),0,H (sl ly 0 4),0,H (sl ly 12 3++sl ly 6 2),0,false,())) else
 (bif (decide (H (sl ly 12 3++sl ly 6 2) > 0)) then some ((5+H (sl ly 4 2)),H (sl ly 8 4),0,H (sl ly 0 4),0,H (sl ly 12 3++sl ly 6 2),0,false,()) else none)) else
 none) else
 (bif (eqC lx 60015) then
 (bif ((qZ (H (sl ly 8 4))&&(qZ (H (sl ly 0 4))&&true))) then
 (bif (eqC (sl ly 4 2) 0) then
 (bif (eqC (sl ly 12 3++sl ly 6 2) 0) then some (9,H (sl ly 8 4),0,H (sl ly 0 4),0,0,0,false,()) else none) else
 none) else
 none) else
 (bif (eqC (List.zipWith (·&&·) (qbG 16 65520) lx) 59904) then
 (bif ((qZ (H (sl ly 8 4))&&(qZ (H (sl lx 0 4))&&(qZ (H (sl ly 0 4))&&true)))) then
 (bif (eqC (sl ly 4 2) 0) then
 (bif (eqC (sl ly 12 3++sl ly 6 2) 0) then some (10,H (sl ly 8 4),H (sl lx 0 4),H (sl ly 0 4),0,0,0,false,()) else none) else
 none) else
 none) else
 (bif (eqC (List.zipWith (·&&·) (qbG 16 65520) lx) 59936) then
 (bif ((qZ (H (sl ly 8 4))&&(qZ (H (sl lx 0 4))&&(qZ (H (sl ly 0 4))&&true)))) then
 (bif (eqC (sl ly 4 2) 0) then
 (bif (eqC (sl ly 12 3++sl ly 6 2) 0) then some (11,H (sl ly 8 4),H (sl lx 0 4),H (sl ly 0 4),0,0,0,false,()) else none) else
 none) else
 none) else
 (bif (eqC (List.zipWith (·&&·) (qbG 16 65520) lx) 59968) then
 (bif ((qZ (H (sl ly 8 4))&&(qZ (H (sl lx 0 4))&&(qZ (H (sl ly 0 4))&&true)))) then
 (bif (eqC (sl ly 4 2) 0) then
 (bif (eqC (sl ly 12 3++sl ly 6 2) 0) then some (12,H (sl ly 8 4),H (sl lx 0 4),H (sl ly 0 4),0,0,0,false,()) else none) else
 none) else
 none) else
 (bif (eqC (List.zipWith (·&&·) (qbG 16 65520) lx) 60032) then
 (bif ((qZ (H (sl ly 8 4))&&(qZ (H (sl lx 0 4))&&(qZ (H (sl ly 0 4))&&true)))) then
 (bif (eqC (sl ly 4 2) 0) then
 (bif (eqC (sl ly 12 3++sl ly 6 2) 0) then some (13,H (sl ly 8 4),H (sl lx 0 4),H (sl ly 0 4),0,0,0,false,()) else none) else
 none) else
 none) else
 (bif (eqC (List.zipWith (·&&·) (qbG 16 65520) lx) 60160) then
 (bif ((qZ (H (sl ly 8 4))&&(qZ (H (sl lx 0 4))&&(qZ (H (sl ly 0 4))&&true)))) then
 (bif (eqC (sl ly 4 2) 0) then
 (bif (eqC (sl ly 12 3++sl ly 6 2) 0) then some (14,H (sl ly 8 4),H (sl lx 0 4),H (sl ly 0 4),0,0,0,false,()) else none) else
 none) else
 none) else
 (bif (eqC (List.zipWith (·&&·) (qbG 16 65520) lx) 60320) then
 (bif ((qZ (H (sl ly 8 4))&&(qZ (H (sl lx 0 4))&&(qZ (H (sl ly 0 4))&&true)))) then
 (bif (eqC (sl ly 4 2) 0) then
 (bif (eqC (sl ly 12 3++sl ly 6 2) 0) then some (15,H (sl ly 8 4),H (sl lx 0 4),H (sl ly 0 4),0,0,0,false,()) else none) else
 none) else
 none) else
 none)))))))))
theorem qOn (lx ly:List Bool) (hlx:lx.length=16) (hly:ly.length=16):op1 (qhE (H lx,H ly)).val=some (qdH lx ly):=by
 have g1:qo (H ly,8,4)=true:=rfl
 have g2:qo (H lx,0,4)=true:=rfl
 have g3:qo (H ly,0,4)=true:=rfl
 have g4:qo (H ly,12,3)=true:=rfl
 have g5:qo (H ly,6,2)=true:=rfl
 have g6:qo (H ly,4,2)=true:=rfl
 have g7:∀a:Int,qY [a]=true:=fun _=>rfl
 have g8:∀a b:Int,qY [a,b]=true:=fun _ _=>rfl
 have g9:∀a b c:Int,qY [a,b,c]=true:=fun _ _ _=>rfl
 have g10:∀a b c d:Int,qY [a,b,c,d]=true:=fun _ _ _ _=>rfl
 have g11:qb (H ly,8,4)=H (sl ly 8 4):=qcB ly 8 4 (by omega)
 have g12:qb (H ly,0,4)=H (sl ly 0 4):=qcB ly 0 4 (by omega)
 have g13:qb (H ly,4,2)=H (sl ly 4 2):=qcB ly 4 2 (by omega)
 have g14:qb (H ly,12,3)=H (sl ly 12 3):=qcB ly 12 3 (by omega)
 have g15:qb (H ly,6,2)=H (sl ly 6 2):=qcB ly 6 2 (by omega)
 have g16:qb (H lx,0,4)=H (sl lx 0 4):=qcB lx 0 4 (by omega)
 have g17:(qw IntKind.i64 (H ly) 15==1)=eqC (ly.take 1) 1:=(by have:=qmX ly 15 1 (by omega) (by omega) (by rw[hly];decide);rw[hly] at this;exact this)
 have g18:(qdv IntKind.i64 (H lx) 15==59904)=eqC (List.zipWith (·&&·) (qbG 16 65520) lx) 59904:=(by rw[show qdv IntKind.i64 (H lx) 15=H (List.zipWith (·&&·) (qbG 16 65520) lx) from qlH lx 15 hlx (by omega)];exact qf9 (List.zipWith (·&&·) (qbG 16 65520) lx) 59904 (by rw[List.length_zipWith,qdi,hlx];decide))
 have g19:(qdv IntKind.i64 (H lx) 15==59936)=eqC (List.zipWith (·&&·) (qbG 16 65520) lx) 59936:=(by rw[show qdv IntKind.i64 (H lx) 15=H (List.zipWith (·&&·) (qbG 16 65520) lx) from qlH lx 15 hlx (by omega)];exact qf9 (List.zipWith (·&&·) (qbG 16 65520) lx) 59936 (by rw[List.length_zipWith,qdi,hlx];decide))
 have g20:(qdv IntKind.i64 (H lx) 15==59968)=eqC (List.zipWith (·&&·) (qbG 16 65520) lx) 59968:=(by rw[show qdv IntKind.i64 (H lx) 15=H (List.zipWith (·&&·) (qbG 16 65520) lx) from qlH lx 15 hlx (by omega)];exact qf9 (List.zipWith (·&&·) (qbG 16 65520) lx) 59968 (by rw[List.length_zipWith,qdi,hlx];decide))
 have g21:(qdv IntKind.i64 (H lx) 15==60032)=eqC (List.zipWith (·&&·) (qbG 16 65520) lx) 60032:=(by rw[show qdv IntKind.i64 (H lx) 15=H (List.zipWith (·&&·) (qbG 16 65520) lx) from qlH lx 15 hlx (by omega)];exact qf9 (List.zipWith (·&&·) (qbG 16 65520) lx) 60032 (by rw[List.length_zipWith,qdi,hlx];decide))
 have g22:(qdv IntKind.i64 (H lx) 15==60160)=eqC (List.zipWith (·&&·) (qbG 16 65520) lx) 60160:=(by rw[show qdv IntKind.i64 (H lx) 15=H (List.zipWith (·&&·) (qbG 16 65520) lx) from qlH lx 15 hlx (by omega)];exact qf9 (List.zipWith (·&&·) (qbG 16 65520) lx) 60160 (by rw[List.length_zipWith,qdi,hlx];decide))
 have g23:(qdv IntKind.i64 (H lx) 15==60320)=eqC (List.zipWith (·&&·) (qbG 16 65520) lx) 60320:=(by rw[show qdv IntKind.i64 (H lx) 15=H (List.zipWith (·&&·) (qbG 16 65520) lx) from qlH lx 15 hlx (by omega)];exact qf9 (List.zipWith (·&&·) (qbG 16 65520) lx) 60320 (by rw[List.length_zipWith,qdi,hlx];decide))
 have g24:(H lx==59983)=eqC lx 59983:=qf9 lx 59983 (by rw[hlx];decide)
 have g25:(H lx==60015)=eqC lx 60015:=qf9 lx 60015 (by rw[hlx];decide)
 have g26:bor IntKind.i64 (qt IntKind.i64 (H (sl ly 12 3)) 2) (H (sl ly 6 2))=H (sl ly 12 3++sl ly 6 2):=qB5 (sl ly 12 3) (sl ly 6 2) 2 (by simp[qP,hly]) (by simp[qP,hly])
 have g27:qby [H (sl ly 8 4),H (sl ly 0 4)]=(qZ (H (sl ly 8 4))&&(qZ (H (sl ly 0 4))&&true)):=rfl
 have g28:qby [H (sl ly 8 4),H (sl lx 0 4),H (sl ly 0 4)]=(qZ (H (sl ly 8 4))&&(qZ (H (sl lx 0 4))&&(qZ (H (sl ly 0 4))&&true))):=rfl
 have g29:(H (sl ly 4 2)==0)=eqC (sl ly 4 2) 0:=qf9 (sl ly 4 2) 0 (by rw[show(sl ly 4 2).length=2 by simp[qP,hly]];decide)
 have g30:(H (sl ly 12 3++sl ly 6 2)==0)=eqC (sl ly 12 3++sl ly 6 2) 0:=qf9 (sl ly 12 3++sl ly 6 2) 0 (by rw[show(sl ly 12 3++sl ly 6 2).length=5 by simp[qP,hly]];decide)
 have g31:w64 (5+H (sl ly 4 2))=(5+H (sl ly 4 2)):=qzI _ (by have:=qnf (sl ly 4 2);omega) (by have:=qwU (l:=sl ly 4 2) (k:=4) (by simp[qP,hly]);omega)
 simp only[qhE,PO.val,g1,g2,g3,g4,g5,g6,g8,g9,g11,g12,g13,g14,g15,g16,g17,g18,g19,g20,g21,g22,g23,g24,g25,g26,g27,g28,g29,g30,g31,Bool.and_self,cond_true]
 unfold qdH
 repeat' (first|refine qrH _ ?_ ?_ |rfl)
def qd5 (lx ly:List Bool):Option qA.den :=
 (bif (!eqC (sl ly 4 4) 0) then
 none else
 (bif (eqC (List.zipWith (·&&·) (qbG 16 65520) lx) 64256) then
 (bif (eqC (sl ly 12 4) 15) then
 (bif ((qZ (H (sl ly 8 4))&&(qZ (H (sl lx 0 4))&&(qZ (H (sl ly 0 4))&&true)))) then some (16,H (sl ly 8 4),H (sl lx 0 4),H (sl ly 0 4),0,0,0,false,()) else none) else
 none) else
 (bif (eqC (List.zipWith (·&&·) (qbG 16 65520) lx) 64416) then
 (bif (H (sl ly 12 4) != H (sl ly 8 4)) then
 (bif ((qZ (H (sl ly 12 4))&&(qZ (H (sl ly 8 4))&&(qZ (H (sl lx 0 4))&&(qZ (H (sl ly 0 4))&&true))))) then some (17,H (sl ly 12 4),H (sl lx 0 4),H (sl ly 0 4),H (sl ly 8 4),0,0,false,()) else none) else
 none) else
 none)))
theorem qJ2 (lx ly:List Bool) (hlx:lx.length=16) (hly:ly.length=16):op1 (qgr (H lx,H ly)).val=some (qd5 lx ly):=by
 have g1:qo (H lx,0,4)=true:=rfl
 have g2:qo (H ly,0,4)=true:=rfl
 have g3:qo (H ly,12,4)=true:=rfl
 have g4:qo (H ly,8,4)=true:=rfl
 have g5:qo (H ly,4,4)=true:=rfl
 have g6:∀a:Int,qY [a]=true:=fun _=>rfl
 have g7:∀a b:Int,qY [a,b]=true:=fun _ _=>rfl
 have g8:∀a b c:Int,qY [a,b,c]=true:=fun _ _ _=>rfl
 have g9:∀a b c d:Int,qY [a,b,c,d]=true:=fun _ _ _ _=>rfl
 have g10:qb (H ly,4,4)=H (sl ly 4 4):=qcB ly 4 4 (by omega)
 have g11:qb (H ly,12,4)=H (sl ly 12 4):=qcB ly 12 4 (by omega)
 have g12:qb (H ly,8,4)=H (sl ly 8 4):=qcB ly 8 4 (by omega)
 have g13:qb (H lx,0,4)=H (sl lx 0 4):=qcB lx 0 4 (by omega)
 have g14:qb (H ly,0,4)=H (sl ly 0 4):=qcB ly 0 4 (by omega)
 have g15:(qdv IntKind.i64 (H lx) 15==64256)=eqC (List.zipWith (·&&·) (qbG 16 65520) lx) 64256:=(by rw[show qdv IntKind.i64 (H lx) 15=H (List.zipWith (·&&·) (qbG 16 65520) lx) from qlH lx 15 hlx (by omega)];exact qf9 (List.zipWith (·&&·) (qbG 16 65520) lx) 64256 (by rw[List.length_zipWith,qdi,hlx];decide))
 have g16:(qdv IntKind.i64 (H lx) 15==64416)=eqC (List.zipWith (·&&·) (qbG 16 65520) lx) 64416:=(by rw[show qdv IntKind.i64 (H lx) 15=H (List.zipWith (·&&·) (qbG 16 65520) lx) from qlH lx 15 hlx (by omega)];exact qf9 (List.zipWith (·&&·) (qbG 16 65520) lx) 64416 (by rw[List.length_zipWith,qdi,hlx];decide))
 have g17:qby [H (sl ly 8 4),H (sl lx 0 4),H (sl ly 0 4)]=(qZ (H (sl ly 8 4))&&(qZ (H (sl lx 0 4))&&(qZ (H (sl ly 0 4))&&true))):=rfl
 have g18:qby [H (sl ly 12 4),H (sl ly 8 4),H (sl lx 0 4),H (sl ly 0 4)]=(qZ (H (sl ly 12 4))&&(qZ (H (sl ly 8 4))&&(qZ (H (sl lx 0 4))&&(qZ (H (sl ly 0 4))&&true)))):=rfl
 have g19:(H (sl ly 4 4)==0)=eqC (sl ly 4 4) 0:=qf9 (sl ly 4 4) 0 (by rw[show(sl ly 4 4).length=4 by simp[qP,hly]];decide)
 have g20:(H (sl ly 12 4)==15)=eqC (sl ly 12 4) 15:=qf9 (sl ly 12 4) 15 (by rw[show(sl ly 12 4).length=4 by simp[qP,hly]];decide)
 simp only[qgr,PO.val,g1,g2,g3,g4,g5,g8,g9,g10,g11,g12,g13,g14,g15,g16,g17,g18,g19,g20,bne,Bool.and_self,cond_true]
 unfold qd5
 repeat' (first|refine qrH _ ?_ ?_ |rfl)
def qj9 (lx ly:List Bool):Option qA.den :=
 (bif (eqC (ly.take 1) 1) then
 none else
 (bif (eqC (List.zipWith (·&&·) (qbG 16 65520) lx) 62304) then
 (bif (eqC (sl ly 5 1) 0) then
 (bif (decide ((H (sl ly 0 5)+1-H (sl ly 12 3++sl ly 6 2))≥1)) then
 (bif ((qZ (H (sl ly 8 4))&&(qZ (H (sl lx 0 4))&&true))) then some (18,H (sl ly 8 4),H (sl lx 0 4),0,(H (sl ly 0 5)+1-H (sl ly 12 3++sl ly 6 2)),H (sl ly 12 3++sl ly 6 2),0,false,()) else none) else
 none) else
 none) else
 (bif (eqC (List.zipWith (·&&·) (qbG 16 64496) lx) 62016) then
 (bif ((qZ (H (sl ly 8 4))&&true)) then some (3,H (sl ly 8 4),0,0,0,H (sl lx 0 4++sl lx 10 1++sl ly 12 3++sl ly 0 8),0,false,()) else none) else
 (bif (eqC (List.zipWith (·&&·) (qbG 16 64496) lx) 62144) then
 (bif ((qZ (H (sl ly 8 4))&&true)) then some (4,H (sl ly 8 4),0,0,0,H (sl lx 0 4++sl lx 10 1++sl ly 12 3++sl ly 0 8),0,false,()) else none) else
 none))))
theorem qOj (lx ly:List Bool) (hlx:lx.length=16) (hly:ly.length=16):op1 (qhG (H lx,H ly)).val=some (qj9 lx ly):=by
 have g1:qo (H ly,8,4)=true:=rfl
 have g2:qo (H lx,0,4)=true:=rfl
 have g3:qo (H ly,12,3)=true:=rfl
 have g4:qo (H ly,6,2)=true:=rfl
 have g5:qo (H ly,0,5)=true:=rfl
 have g6:qo (H ly,5,1)=true:=rfl
 have g7:qo (H lx,10,1)=true:=rfl
 have g8:qo (H ly,0,8)=true:=rfl
 have g9:∀a:Int,qY [a]=true:=fun _=>rfl
 have g10:∀a b:Int,qY [a,b]=true:=fun _ _=>rfl
 have g11:∀a b c:Int,qY [a,b,c]=true:=fun _ _ _=>rfl
 have g12:∀a b c d:Int,qY [a,b,c,d]=true:=fun _ _ _ _=>rfl
 have g13:qb (H ly,5,1)=H (sl ly 5 1):=qcB ly 5 1 (by omega)
 have g14:qb (H ly,0,5)=H (sl ly 0 5):=qcB ly 0 5 (by omega)
 have g15:qb (H ly,12,3)=H (sl ly 12 3):=qcB ly 12 3 (by omega)
 have g16:qb (H ly,6,2)=H (sl ly 6 2):=qcB ly 6 2 (by omega)
 have g17:qb (H ly,8,4)=H (sl ly 8 4):=qcB ly 8 4 (by omega)
 have g18:qb (H lx,0,4)=H (sl lx 0 4):=qcB lx 0 4 (by omega)
 have g19:qb (H lx,10,1)=H (sl lx 10 1):=qcB lx 10 1 (by omega)
 have g20:qb (H ly,0,8)=H (sl ly 0 8):=qcB ly 0 8 (by omega)
 have g21:(qw IntKind.i64 (H ly) 15==1)=eqC (ly.take 1) 1:=(by have:=qmX ly 15 1 (by omega) (by omega) (by rw[hly];decide);rw[hly] at this;exact this)
 have g22:(qdv IntKind.i64 (H lx) 15==62304)=eqC (List.zipWith (·&&·) (qbG 16 65520) lx) 62304:=(by rw[show qdv IntKind.i64 (H lx) 15=H (List.zipWith (·&&·) (qbG 16 65520) lx) from qlH lx 15 hlx (by omega)];exact qf9 (List.zipWith (·&&·) (qbG 16 65520) lx) 62304 (by rw[List.length_zipWith,qdi,hlx];decide))
 have g23:(qdv IntKind.i64 (H lx) 1039==62016)=eqC (List.zipWith (·&&·) (qbG 16 64496) lx) 62016:=(by rw[show qdv IntKind.i64 (H lx) 1039=H (List.zipWith (·&&·) (qbG 16 64496) lx) from qlH lx 1039 hlx (by omega)];exact qf9 (List.zipWith (·&&·) (qbG 16 64496) lx) 62016 (by rw[List.length_zipWith,qdi,hlx];decide))
 have g24:(qdv IntKind.i64 (H lx) 1039==62144)=eqC (List.zipWith (·&&·) (qbG 16 64496) lx) 62144:=(by rw[show qdv IntKind.i64 (H lx) 1039=H (List.zipWith (·&&·) (qbG 16 64496) lx) from qlH lx 1039 hlx (by omega)];exact qf9 (List.zipWith (·&&·) (qbG 16 64496) lx) 62144 (by rw[List.length_zipWith,qdi,hlx];decide))
 have g25:bor IntKind.i64 (qt IntKind.i64 (H (sl ly 12 3)) 2) (H (sl ly 6 2))=H (sl ly 12 3++sl ly 6 2):=qB5 (sl ly 12 3) (sl ly 6 2) 2 (by simp[qP,hly]) (by simp[qP,hly])
 have g26:bor IntKind.i64 (qt IntKind.i64 (H (sl lx 0 4)) 12) (qt IntKind.i64 (H (sl lx 10 1)) 11)=qt IntKind.i64 (H (sl lx 0 4++sl lx 10 1)) 11:=qsk (sl lx 0 4) (sl lx 10 1) 12 11 (by simp[qP,hlx]) (by simp[qP,hlx])
 have g27:bor IntKind.i64 (qt IntKind.i64 (H (sl lx 0 4++sl lx 10 1)) 11) (qt IntKind.i64 (H (sl ly 12 3)) 8)=qt IntKind.i64 (H (sl lx 0 4++sl lx 10 1++sl ly 12 3)) 8:=qsk (sl lx 0 4++sl lx 10 1) (sl ly 12 3) 11 8 (by simp[qP,hly]) (by simp[qP,hlx])
 have g28:bor IntKind.i64 (qt IntKind.i64 (H (sl lx 0 4++sl lx 10 1++sl ly 12 3)) 8) (H (sl ly 0 8))=H (sl lx 0 4++sl lx 10 1++sl ly 12 3++sl ly 0 8):=qB5 (sl lx 0 4++sl lx 10 1++sl ly 12 3) (sl ly 0 8) 8 (by simp[qP,hly]) (by simp[qP,hlx,hly])
 have g29:qby [H (sl ly 8 4),H (sl lx 0 4)]=(qZ (H (sl ly 8 4))&&(qZ (H (sl lx 0 4))&&true)):=rfl
 have g30:qby [H (sl ly 8 4)]=(qZ (H (sl ly 8 4))&&true):=rfl
 have g31:(H (sl ly 5 1)==0)=eqC (sl ly 5 1) 0:=qf9 (sl ly 5 1) 0 (by rw[show(sl ly 5 1).length=1 by simp[qP,hly]];decide)
 have g32:w64 (H (sl ly 0 5)+1)=H (sl ly 0 5)+1:=qzI _ (by have:=qnf (sl ly 0 5);omega) (by have:=qwU (l:=sl ly 0 5) (k:=8) (by simp[qP,hly]);omega)
 have g33:w64 (H (sl ly 0 5)+1-H (sl ly 12 3++sl ly 6 2))=(H (sl ly 0 5)+1-H (sl ly 12 3++sl ly 6 2)):=qzI _ (by have:=qnf (sl ly 0 5);have:=qwU (l:=sl ly 12 3++sl ly 6 2) (k:=8) (by simp[qP,hly]);omega) (by have:=qnf (sl ly 12 3++sl ly 6 2);have:=qwU (l:=sl ly 0 5) (k:=8) (by simp[qP,hly]);omega)
 simp only[qhG,PO.val,g1,g2,g3,g4,g5,g6,g7,g8,g9,g10,g13,g14,g15,g16,g17,g18,g19,g20,g21,g22,g23,g24,g25,g26,g27,g28,g29,g30,g31,g32,g33,cond_true]
 unfold qj9
 repeat' (first|refine qrH _ ?_ ?_ |rfl)
def qpk (lx ly:List Bool):Option qA.den :=
 (bif (!eqC (lx.take 5) 30||!eqC (ly.take 2) 2) then
 none else
 (bif (eqC (sl ly 12 1) 1) then
 (some (24,0,0,0,0,SG (sl lx 10 1++List.zipWith nx (sl ly 13 1) (sl lx 10 1)++List.zipWith nx (sl ly 11 1) (sl lx 10 1)++sl lx 0 10++sl ly 0 11++[false]),0,true,())) else
 (bif (decide (H (sl lx 6 4)≤13)) then some (25,0,0,0,0,SG (sl lx 10 1++sl ly 11 1++sl ly 13 1++sl lx 0 6++sl ly 0 11++[false]),H (sl lx 6 4),true,()) else none)))
theorem qMY (lx ly:List Bool) (hlx:lx.length=16) (hly:ly.length=16):op1 (qgT (H lx,H ly)).val=some (qpk lx ly):=by
 have g1:qo (H lx,10,1)=true:=rfl
 have g2:qo (H ly,13,1)=true:=rfl
 have g3:qo (H ly,11,1)=true:=rfl
 have g4:qo (H ly,0,11)=true:=rfl
 have g5:qo (H ly,12,1)=true:=rfl
 have g6:qo (H lx,0,10)=true:=rfl
 have g7:qo (H lx,6,4)=true:=rfl
 have g8:qo (H lx,0,6)=true:=rfl
 have g9:qb (H ly,12,1)=H (sl ly 12 1):=qcB ly 12 1 (by omega)
 have g10:qb (H lx,10,1)=H (sl lx 10 1):=qcB lx 10 1 (by omega)
 have g11:qb (H ly,13,1)=H (sl ly 13 1):=qcB ly 13 1 (by omega)
 have g12:qb (H ly,11,1)=H (sl ly 11 1):=qcB ly 11 1 (by omega)
 have g13:qb (H lx,0,10)=H (sl lx 0 10):=qcB lx 0 10 (by omega)
 have g14:qb (H ly,0,11)=H (sl ly 0 11):=qcB ly 0 11 (by omega)
 have g15:qb (H lx,6,4)=H (sl lx 6 4):=qcB lx 6 4 (by omega)
 have g16:qb (H lx,0,6)=H (sl lx 0 6):=qcB lx 0 6 (by omega)
 have g17:(qw IntKind.i64 (H lx) 11==30)=eqC (lx.take 5) 30:=(by have:=qmX lx 11 30 (by omega) (by omega) (by rw[hlx];decide);rw[hlx] at this;exact this)
 have g18:(qw IntKind.i64 (H ly) 14==2)=eqC (ly.take 2) 2:=(by have:=qmX ly 14 2 (by omega) (by omega) (by rw[hly];decide);rw[hly] at this;exact this)
 have g19:qda IntKind.i64 (qda IntKind.i64 1 (H (sl ly 13 1))) (H (sl lx 10 1))=H (List.zipWith nx (sl ly 13 1) (sl lx 10 1)):=qP8 _ _ (qye _ _ _ (by omega)) (qye _ _ _ (by omega))
 have g20:qda IntKind.i64 (qda IntKind.i64 1 (H (sl ly 11 1))) (H (sl lx 10 1))=H (List.zipWith nx (sl ly 11 1) (sl lx 10 1)):=qP8 _ _ (qye _ _ _ (by omega)) (qye _ _ _ (by omega))
 have g21:bor IntKind.i64 (qt IntKind.i64 (H (sl lx 10 1)) 23) (qt IntKind.i64 (H (List.zipWith nx (sl ly 13 1) (sl lx 10 1))) 22)=qt IntKind.i64 (H (sl lx 10 1++List.zipWith nx (sl ly 13 1) (sl lx 10 1))) 22:=qsk (sl lx 10 1) (List.zipWith nx (sl ly 13 1) (sl lx 10 1)) 23 22 (by simp[qP,hlx,hly]) (by simp[qP,hlx])
 have g22:bor IntKind.i64 (qt IntKind.i64 (H (sl lx 10 1++List.zipWith nx (sl ly 13 1) (sl lx 10 1))) 22) (qt IntKind.i64 (H (List.zipWith nx (sl ly 11 1) (sl lx 10 1))) 21)=qt IntKind.i64 (H (sl lx 10 1++List.zipWith nx (sl ly 13 1) (sl lx 10 1)++List.zipWith nx (sl ly 11 1) (sl lx 10 1))) 21:=qsk (sl lx 10 1++List.zipWith nx (sl ly 13 1) (sl lx 10 1)) (List.zipWith nx (sl ly 11 1) (sl lx 10 1)) 22 21 (by simp[qP,hlx,hly]) (by simp[qP,hlx,hly])
 have g23:bor IntKind.i64 (qt IntKind.i64 (H (sl lx 10 1++List.zipWith nx (sl ly 13 1) (sl lx 10 1)++List.zipWith nx (sl ly 11 1) (sl lx 10 1))) 21) (qt IntKind.i64 (H (sl lx 0 10)) 11)=qt IntKind.i64 (H (sl lx 10 1++List.zipWith nx (sl ly 13 1) (sl lx 10 1)++List.zipWith nx (sl ly 11 1) (sl lx 10 1)++sl lx 0 10)) 11:=qsk (sl lx 10 1++List.zipWith nx (sl ly 13 1) (sl lx 10 1)++List.zipWith nx (sl ly 11 1) (sl lx 10 1)) (sl lx 0 10) 21 11 (by simp[qP,hlx]) (by simp[qP,hlx,hly])
 have g24:bor IntKind.i64 (qt IntKind.i64 (H (sl lx 10 1++List.zipWith nx (sl ly 13 1) (sl lx 10 1)++List.zipWith nx (sl ly 11 1) (sl lx 10 1)++sl lx 0 10)) 11) (H (sl ly 0 11))=H (sl lx 10 1++List.zipWith nx (sl ly 13 1) (sl lx 10 1)++List.zipWith nx (sl ly 11 1) (sl lx 10 1)++sl lx 0 10++sl ly 0 11):=qB5 (sl lx 10 1++List.zipWith nx (sl ly 13 1) (sl lx 10 1)++List.zipWith nx (sl ly 11 1) (sl lx 10 1)++sl lx 0 10) (sl ly 0 11) 11 (by simp[qP,hly]) (by simp[qP,hlx,hly])
 have g25:bor IntKind.i64 (qt IntKind.i64 (H (sl lx 10 1)) 19) (qt IntKind.i64 (H (sl ly 11 1)) 18)=qt IntKind.i64 (H (sl lx 10 1++sl ly 11 1)) 18:=qsk (sl lx 10 1) (sl ly 11 1) 19 18 (by simp[qP,hly]) (by simp[qP,hlx])
 have g26:bor IntKind.i64 (qt IntKind.i64 (H (sl lx 10 1++sl ly 11 1)) 18) (qt IntKind.i64 (H (sl ly 13 1)) 17)=qt IntKind.i64 (H (sl lx 10 1++sl ly 11 1++sl ly 13 1)) 17:=qsk (sl lx 10 1++sl ly 11 1) (sl ly 13 1) 18 17 (by simp[qP,hly]) (by simp[qP,hlx,hly])
 have g27:bor IntKind.i64 (qt IntKind.i64 (H (sl lx 10 1++sl ly 11 1++sl ly 13 1)) 17) (qt IntKind.i64 (H (sl lx 0 6)) 11)=qt IntKind.i64 (H (sl lx 10 1++sl ly 11 1++sl ly 13 1++sl lx 0 6)) 11:=qsk (sl lx 10 1++sl ly 11 1++sl ly 13 1) (sl lx 0 6) 17 11 (by simp[qP,hlx]) (by simp[qP,hlx,hly])
 have g28:bor IntKind.i64 (qt IntKind.i64 (H (sl lx 10 1++sl ly 11 1++sl ly 13 1++sl lx 0 6)) 11) (H (sl ly 0 11))=H (sl lx 10 1++sl ly 11 1++sl ly 13 1++sl lx 0 6++sl ly 0 11):=qB5 (sl lx 10 1++sl ly 11 1++sl ly 13 1++sl lx 0 6) (sl ly 0 11) 11 (by simp[qP,hly]) (by simp[qP,hlx,hly])
 have g29:(H (sl ly 12 1)==1)=eqC (sl ly 12 1) 1:=qf9 (sl ly 12 1) 1 (by rw[show(sl ly 12 1).length=1 by simp[qP,hly]];decide)
 have g30:qbS (H (sl lx 10 1++List.zipWith nx (sl ly 13 1) (sl lx 10 1)++List.zipWith nx (sl ly 11 1) (sl lx 10 1)++sl lx 0 10++sl ly 0 11),24)=SG (sl lx 10 1++List.zipWith nx (sl ly 13 1) (sl lx 10 1)++List.zipWith nx (sl ly 11 1) (sl lx 10 1)++sl lx 0 10++sl ly 0 11):=qr8 (sl lx 10 1++List.zipWith nx (sl ly 13 1) (sl lx 10 1)++List.zipWith nx (sl ly 11 1) (sl lx 10 1)++sl lx 0 10++sl ly 0 11) 24 (by omega) (by simp[qP,hlx,hly])
 have g31:qcs (H (sl lx 10 1++List.zipWith nx (sl ly 13 1) (sl lx 10 1)++List.zipWith nx (sl ly 11 1) (sl lx 10 1)++sl lx 0 10++sl ly 0 11),24)=true:=qso _ 24 (by omega) (by omega) (by simp[qP,hlx,hly])
 have g32:w64 (2*SG (sl lx 10 1++List.zipWith nx (sl ly 13 1) (sl lx 10 1)++List.zipWith nx (sl ly 11 1) (sl lx 10 1)++sl lx 0 10++sl ly 0 11))=SG (sl lx 10 1++List.zipWith nx (sl ly 13 1) (sl lx 10 1)++List.zipWith nx (sl ly 11 1) (sl lx 10 1)++sl lx 0 10++sl ly 0 11++[false]):=qub (sl lx 10 1++List.zipWith nx (sl ly 13 1) (sl lx 10 1)++List.zipWith nx (sl ly 11 1) (sl lx 10 1)++sl lx 0 10++sl ly 0 11) 24 (by omega) (by omega) (by simp[qP,hlx,hly])
 have g33:qbS (H (sl lx 10 1++sl ly 11 1++sl ly 13 1++sl lx 0 6++sl ly 0 11),20)=SG (sl lx 10 1++sl ly 11 1++sl ly 13 1++sl lx 0 6++sl ly 0 11):=qr8 (sl lx 10 1++sl ly 11 1++sl ly 13 1++sl lx 0 6++sl ly 0 11) 20 (by omega) (by simp[qP,hlx,hly])
 have g34:qcs (H (sl lx 10 1++sl ly 11 1++sl ly 13 1++sl lx 0 6++sl ly 0 11),20)=true:=qso _ 20 (by omega) (by omega) (by simp[qP,hlx,hly])
 have g35:w64 (2*SG (sl lx 10 1++sl ly 11 1++sl ly 13 1++sl lx 0 6++sl ly 0 11))=SG (sl lx 10 1++sl ly 11 1++sl ly 13 1++sl lx 0 6++sl ly 0 11++[false]):=qub (sl lx 10 1++sl ly 11 1++sl ly 13 1++sl lx 0 6++sl ly 0 11) 20 (by omega) (by omega) (by simp[qP,hlx,hly])
 simp only[qgT,PO.val,g1,g2,g3,g4,g5,g6,g7,g8,g9,g10,g11,g12,g13,g14,g15,g16,g17,g18,g19,g20,g21,g22,g23,g24,g25,g26,g27,g28,g29,g30,g31,g32,g33,g34,g35,bne,Bool.and_self,cond_true]
 unfold qpk
 repeat' (first|refine qrH _ ?_ ?_ |rfl)
end Go.Av
end
section
namespace Go.Av
open Go
def qcm (lx ly:List Bool):Option qA.den:=(qdH lx ly).or ((qd5 lx ly).or ((qj9 lx ly).or (qpk lx ly)))
theorem qbq {x:Int} (h0:0≤x) (h:x≤12):qZ (H (bis x 4))=true:=by
 unfold qZ
 rw[qcH h0 (by have:((2 ^ 4:Nat):Int)=16:=rfl;omega)]
 exact qK h
theorem qdg {x:Int} (h0:0≤x) (h:x≤12):H (bis x 4)=x:=qcH h0 (by have:((2 ^ 4:Nat):Int)=16:=rfl;omega)
theorem quh {x:Int} (h:x % 2=0):bI x 0=false:=by
 unfold bI
 rw[show x / (2 ^ 0:Nat)=x by simp,h]
 rfl
theorem qS3:qc5 [true,false,true,true,true,true,true,true,false,false,false,false,false,false,false,false]=some (1,0,0,0,0,0,0,false,()):=by kernel_rfl
theorem qSO (imm:Int) (_0imm:0≤imm) (_1imm:imm≤255):qc5 [true,false,true,true,true,true,true,false,bI imm 7,bI imm 6,bI imm 5,bI imm 4,bI imm 3,bI imm 2,bI imm 1,bI imm 0]=some (2,0,0,0,0,imm,0,false,()):=by
 have e:qc5 [true,false,true,true,true,true,true,false,bI imm 7,bI imm 6,bI imm 5,bI imm 4,bI imm 3,bI imm 2,bI imm 1,bI imm 0]=some (2,0,0,0,0,H (bis imm 8),0,false,()):=by kernel_rfl
 rw[e,qcH _0imm (by have:((2 ^ 8:Nat):Int)=256:=rfl;omega)]
theorem qSF (rd:Int) (_0rd:0≤rd) (_1rd:rd≤12) (imm:Int) (_0imm:0≤imm) (_1imm:imm≤65535):qcm [true,true,true,true,false,bI imm 11,true,false,false,true,false,false,bI imm 15,bI imm 14,bI imm 13,bI imm 12] [false,bI imm 10,bI imm 9,bI imm 8,bI rd 3,bI rd 2,bI rd 1,bI rd 0,bI imm 7,bI imm 6,bI imm 5,bI imm 4,bI imm 3,bI imm 2,bI imm 1,bI imm 0]=some (3,rd,0,0,0,imm,0,false,()):=by
 have nThree:qdH [true,true,true,true,false,bI imm 11,true,false,false,true,false,false,bI imm 15,bI imm 14,bI imm 13,bI imm 12] [false,bI imm 10,bI imm 9,bI imm 8,bI rd 3,bI rd 2,bI rd 1,bI rd 0,bI imm 7,bI imm 6,bI imm 5,bI imm 4,bI imm 3,bI imm 2,bI imm 1,bI imm 0]=none:=by kernel_rfl
 have nProduct:qd5 [true,true,true,true,false,bI imm 11,true,false,false,true,false,false,bI imm 15,bI imm 14,bI imm 13,bI imm 12] [false,bI imm 10,bI imm 9,bI imm 8,bI rd 3,bI rd 2,bI rd 1,bI rd 0,bI imm 7,bI imm 6,bI imm 5,bI imm 4,bI imm 3,bI imm 2,bI imm 1,bI imm 0]=none:=by
  have e:qd5 [true,true,true,true,false,bI imm 11,true,false,false,true,false,false,bI imm 15,bI imm 14,bI imm 13,bI imm 12] [false,bI imm 10,bI imm 9,bI imm 8,bI rd 3,bI rd 2,bI rd 1,bI rd 0,bI imm 7,bI imm 6,bI imm 5,bI imm 4,bI imm 3,bI imm 2,bI imm 1,bI imm 0]=(bif !eqC (sl [false,bI imm 10,bI imm 9,bI imm 8,bI rd 3,bI rd 2,bI rd 1,bI rd 0,bI imm 7,bI imm 6,bI imm 5,bI imm 4,bI imm 3,bI imm 2,bI imm 1,bI imm 0] 4 4) 0 then none else none):=by kernel_rfl
  rw[e];exact Bool.cond_self _ _
 have e0:∀L:Bool,qj9 [true,true,true,true,false,L,true,false,false,true,false,false,bI imm 15,bI imm 14,bI imm 13,bI imm 12] [false,bI imm 10,bI imm 9,bI imm 8,bI rd 3,bI rd 2,bI rd 1,bI rd 0,bI imm 7,bI imm 6,bI imm 5,bI imm 4,bI imm 3,bI imm 2,bI imm 1,bI imm 0]=(bif (qZ (H (bis rd 4))&&true) then some (3,H (bis rd 4),0,0,0,H [bI imm 15,bI imm 14,bI imm 13,bI imm 12,L,bI imm 10,bI imm 9,bI imm 8,bI imm 7,bI imm 6,bI imm 5,bI imm 4,bI imm 3,bI imm 2,bI imm 1,bI imm 0],0,false,()) else none):=by intro L;cases L<;>kernel_rfl
 have e:qj9 [true,true,true,true,false,bI imm 11,true,false,false,true,false,false,bI imm 15,bI imm 14,bI imm 13,bI imm 12] [false,bI imm 10,bI imm 9,bI imm 8,bI rd 3,bI rd 2,bI rd 1,bI rd 0,bI imm 7,bI imm 6,bI imm 5,bI imm 4,bI imm 3,bI imm 2,bI imm 1,bI imm 0]=(bif (qZ (H (bis rd 4))&&true) then some (3,H (bis rd 4),0,0,0,H (bis imm 16),0,false,()) else none):=e0 (bI imm 11)
 unfold qcm
 rw[nThree,nProduct,e,qbq _0rd _1rd,qdg _0rd _1rd,qcH _0imm (by have:((2 ^ 16:Nat):Int)=65536:=rfl;omega)]
 rfl
theorem qSq (rd:Int) (_0rd:0≤rd) (_1rd:rd≤12) (imm:Int) (_0imm:0≤imm) (_1imm:imm≤65535):qcm [true,true,true,true,false,bI imm 11,true,false,true,true,false,false,bI imm 15,bI imm 14,bI imm 13,bI imm 12] [false,bI imm 10,bI imm 9,bI imm 8,bI rd 3,bI rd 2,bI rd 1,bI rd 0,bI imm 7,bI imm 6,bI imm 5,bI imm 4,bI imm 3,bI imm 2,bI imm 1,bI imm 0]=some (4,rd,0,0,0,imm,0,false,()):=by
 have nThree:qdH [true,true,true,true,false,bI imm 11,true,false,true,true,false,false,bI imm 15,bI imm 14,bI imm 13,bI imm 12] [false,bI imm 10,bI imm 9,bI imm 8,bI rd 3,bI rd 2,bI rd 1,bI rd 0,bI imm 7,bI imm 6,bI imm 5,bI imm 4,bI imm 3,bI imm 2,bI imm 1,bI imm 0]=none:=by kernel_rfl
 have nProduct:qd5 [true,true,true,true,false,bI imm 11,true,false,true,true,false,false,bI imm 15,bI imm 14,bI imm 13,bI imm 12] [false,bI imm 10,bI imm 9,bI imm 8,bI rd 3,bI rd 2,bI rd 1,bI rd 0,bI imm 7,bI imm 6,bI imm 5,bI imm 4,bI imm 3,bI imm 2,bI imm 1,bI imm 0]=none:=by
  have e:qd5 [true,true,true,true,false,bI imm 11,true,false,true,true,false,false,bI imm 15,bI imm 14,bI imm 13,bI imm 12] [false,bI imm 10,bI imm 9,bI imm 8,bI rd 3,bI rd 2,bI rd 1,bI rd 0,bI imm 7,bI imm 6,bI imm 5,bI imm 4,bI imm 3,bI imm 2,bI imm 1,bI imm 0]=(bif !eqC (sl [false,bI imm 10,bI imm 9,bI imm 8,bI rd 3,bI rd 2,bI rd 1,bI rd 0,bI imm 7,bI imm 6,bI imm 5,bI imm 4,bI imm 3,bI imm 2,bI imm 1,bI imm 0] 4 4) 0 then none else none):=by kernel_rfl
  rw[e];exact Bool.cond_self _ _
 have e0:∀L:Bool,qj9 [true,true,true,true,false,L,true,false,true,true,false,false,bI imm 15,bI imm 14,bI imm 13,bI imm 12] [false,bI imm 10,bI imm 9,bI imm 8,bI rd 3,bI rd 2,bI rd 1,bI rd 0,bI imm 7,bI imm 6,bI imm 5,bI imm 4,bI imm 3,bI imm 2,bI imm 1,bI imm 0]=(bif (qZ (H (bis rd 4))&&true) then some (4,H (bis rd 4),0,0,0,H [bI imm 15,bI imm 14,bI imm 13,bI imm 12,L,bI imm 10,bI imm 9,bI imm 8,bI imm 7,bI imm 6,bI imm 5,bI imm 4,bI imm 3,bI imm 2,bI imm 1,bI imm 0],0,false,()) else none):=by intro L;cases L<;>kernel_rfl
 have e:qj9 [true,true,true,true,false,bI imm 11,true,false,true,true,false,false,bI imm 15,bI imm 14,bI imm 13,bI imm 12] [false,bI imm 10,bI imm 9,bI imm 8,bI rd 3,bI rd 2,bI rd 1,bI rd 0,bI imm 7,bI imm 6,bI imm 5,bI imm 4,bI imm 3,bI imm 2,bI imm 1,bI imm 0]=(bif (qZ (H (bis rd 4))&&true) then some (4,H (bis rd 4),0,0,0,H (bis imm 16),0,false,()) else none):=e0 (bI imm 11)
 unfold qcm
 rw[nThree,nProduct,e,qbq _0rd _1rd,qdg _0rd _1rd,qcH _0imm (by have:((2 ^ 16:Nat):Int)=65536:=rfl;omega)]
 rfl
theorem qSJ (rd:Int) (_0rd:0≤rd) (_1rd:rd≤12) (rm:Int) (_0rm:0≤rm) (_1rm:rm≤12) (imm:Int) (_0imm:0≤imm) (_1imm:imm≤31):qcm [true,true,true,false,true,false,true,false,false,true,false,false,true,true,true,true] [false,bI imm 4,bI imm 3,bI imm 2,bI rd 3,bI rd 2,bI rd 1,bI rd 0,bI imm 1,bI imm 0,false,false,bI rm 3,bI rm 2,bI rm 1,bI rm 0]=some (5,rd,0,rm,0,imm,0,false,()):=by
 have e:qdH [true,true,true,false,true,false,true,false,false,true,false,false,true,true,true,true] [false,bI imm 4,bI imm 3,bI imm 2,bI rd 3,bI rd 2,bI rd 1,bI rd 0,bI imm 1,bI imm 0,false,false,bI rm 3,bI rm 2,bI rm 1,bI rm 0]=(bif (qZ (H (bis rd 4))&&(qZ (H (bis rm 4))&&true)) then some (5+H [false,false],H (bis rd 4),0,H (bis rm 4),0,H (bis imm 5),0,false,()) else none):=by kernel_rfl
 have p:((2 ^ 5:Nat):Int)=32:=rfl
 unfold qcm
 rw[e,qbq _0rd _1rd,qbq _0rm _1rm,qdg _0rd _1rd,qdg _0rm _1rm,qcH (x:=imm) (by omega) (by omega)]
 rfl
theorem qS9 (rd:Int) (_0rd:0≤rd) (_1rd:rd≤12) (rm:Int) (_0rm:0≤rm) (_1rm:rm≤12) (imm:Int) (_0imm:1≤imm) (_1imm:imm≤31):qcm [true,true,true,false,true,false,true,false,false,true,false,false,true,true,true,true] [false,bI imm 4,bI imm 3,bI imm 2,bI rd 3,bI rd 2,bI rd 1,bI rd 0,bI imm 1,bI imm 0,false,true,bI rm 3,bI rm 2,bI rm 1,bI rm 0]=some (6,rd,0,rm,0,imm,0,false,()):=by
 have e:qdH [true,true,true,false,true,false,true,false,false,true,false,false,true,true,true,true] [false,bI imm 4,bI imm 3,bI imm 2,bI rd 3,bI rd 2,bI rd 1,bI rd 0,bI imm 1,bI imm 0,false,true,bI rm 3,bI rm 2,bI rm 1,bI rm 0]=(bif (qZ (H (bis rd 4))&&(qZ (H (bis rm 4))&&true)) then(bif decide (H (bis imm 5) > 0) then some (5+H [false,true],H (bis rd 4),0,H (bis rm 4),0,H (bis imm 5),0,false,()) else none) else none):=by kernel_rfl
 have p:((2 ^ 5:Nat):Int)=32:=rfl
 unfold qcm
 rw[e,qbq _0rd _1rd,qbq _0rm _1rm,qdg _0rd _1rd,qdg _0rm _1rm,qcH (x:=imm) (by omega) (by omega)]
 rw[qK (p:=imm > 0) (by omega)]
 rfl
theorem qSh (rd:Int) (_0rd:0≤rd) (_1rd:rd≤12) (rm:Int) (_0rm:0≤rm) (_1rm:rm≤12) (imm:Int) (_0imm:1≤imm) (_1imm:imm≤31):qcm [true,true,true,false,true,false,true,false,false,true,false,false,true,true,true,true] [false,bI imm 4,bI imm 3,bI imm 2,bI rd 3,bI rd 2,bI rd 1,bI rd 0,bI imm 1,bI imm 0,true,false,bI rm 3,bI rm 2,bI rm 1,bI rm 0]=some (7,rd,0,rm,0,imm,0,false,()):=by
 have e:qdH [true,true,true,false,true,false,true,false,false,true,false,false,true,true,true,true] [false,bI imm 4,bI imm 3,bI imm 2,bI rd 3,bI rd 2,bI rd 1,bI rd 0,bI imm 1,bI imm 0,true,false,bI rm 3,bI rm 2,bI rm 1,bI rm 0]=(bif (qZ (H (bis rd 4))&&(qZ (H (bis rm 4))&&true)) then(bif decide (H (bis imm 5) > 0) then some (5+H [true,false],H (bis rd 4),0,H (bis rm 4),0,H (bis imm 5),0,false,()) else none) else none):=by kernel_rfl
 have p:((2 ^ 5:Nat):Int)=32:=rfl
 unfold qcm
 rw[e,qbq _0rd _1rd,qbq _0rm _1rm,qdg _0rd _1rd,qdg _0rm _1rm,qcH (x:=imm) (by omega) (by omega)]
 rw[qK (p:=imm > 0) (by omega)]
 rfl
theorem qSU (rd:Int) (_0rd:0≤rd) (_1rd:rd≤12) (rm:Int) (_0rm:0≤rm) (_1rm:rm≤12) (imm:Int) (_0imm:1≤imm) (_1imm:imm≤31):qcm [true,true,true,false,true,false,true,false,false,true,false,false,true,true,true,true] [false,bI imm 4,bI imm 3,bI imm 2,bI rd 3,bI rd 2,bI rd 1,bI rd 0,bI imm 1,bI imm 0,true,true,bI rm 3,bI rm 2,bI rm 1,bI rm 0]=some (8,rd,0,rm,0,imm,0,false,()):=by
 have e:qdH [true,true,true,false,true,false,true,false,false,true,false,false,true,true,true,true] [false,bI imm 4,bI imm 3,bI imm 2,bI rd 3,bI rd 2,bI rd 1,bI rd 0,bI imm 1,bI imm 0,true,true,bI rm 3,bI rm 2,bI rm 1,bI rm 0]=(bif (qZ (H (bis rd 4))&&(qZ (H (bis rm 4))&&true)) then(bif decide (H (bis imm 5) > 0) then some (5+H [true,true],H (bis rd 4),0,H (bis rm 4),0,H (bis imm 5),0,false,()) else none) else none):=by kernel_rfl
 have p:((2 ^ 5:Nat):Int)=32:=rfl
 unfold qcm
 rw[e,qbq _0rd _1rd,qbq _0rm _1rm,qdg _0rd _1rd,qdg _0rm _1rm,qcH (x:=imm) (by omega) (by omega)]
 rw[qK (p:=imm > 0) (by omega)]
 rfl
theorem qSM (rd:Int) (_0rd:0≤rd) (_1rd:rd≤12) (rm:Int) (_0rm:0≤rm) (_1rm:rm≤12):qcm [true,true,true,false,true,false,true,false,false,true,true,false,true,true,true,true] [false,false,false,false,bI rd 3,bI rd 2,bI rd 1,bI rd 0,false,false,false,false,bI rm 3,bI rm 2,bI rm 1,bI rm 0]=some (9,rd,0,rm,0,0,0,false,()):=by
 have e:qdH [true,true,true,false,true,false,true,false,false,true,true,false,true,true,true,true] [false,false,false,false,bI rd 3,bI rd 2,bI rd 1,bI rd 0,false,false,false,false,bI rm 3,bI rm 2,bI rm 1,bI rm 0]=(bif (qZ (H (bis rd 4))&&(qZ (H (bis rm 4))&&true)) then some (9,H (bis rd 4),0,H (bis rm 4),0,0,0,false,()) else none):=by kernel_rfl
 unfold qcm
 rw[e,qbq _0rd _1rd,qbq _0rm _1rm,qdg _0rd _1rd,qdg _0rm _1rm]
 rfl
theorem qRK (rd:Int) (_0rd:0≤rd) (_1rd:rd≤12) (rn:Int) (_0rn:0≤rn) (_1rn:rn≤12) (rm:Int) (_0rm:0≤rm) (_1rm:rm≤12):qcm [true,true,true,false,true,false,true,false,false,false,false,false,bI rn 3,bI rn 2,bI rn 1,bI rn 0] [false,false,false,false,bI rd 3,bI rd 2,bI rd 1,bI rd 0,false,false,false,false,bI rm 3,bI rm 2,bI rm 1,bI rm 0]=some (10,rd,rn,rm,0,0,0,false,()):=by
 have e:qdH [true,true,true,false,true,false,true,false,false,false,false,false,bI rn 3,bI rn 2,bI rn 1,bI rn 0] [false,false,false,false,bI rd 3,bI rd 2,bI rd 1,bI rd 0,false,false,false,false,bI rm 3,bI rm 2,bI rm 1,bI rm 0]=(bif (qZ (H (bis rd 4))&&(qZ (H (bis rn 4))&&(qZ (H (bis rm 4))&&true))) then some (10,H (bis rd 4),H (bis rn 4),H (bis rm 4),0,0,0,false,()) else none):=by kernel_rfl
 unfold qcm
 rw[e,qbq _0rd _1rd,qbq _0rn _1rn,qbq _0rm _1rm,qdg _0rd _1rd,qdg _0rn _1rn,qdg _0rm _1rm]
 rfl
theorem qRu (rd:Int) (_0rd:0≤rd) (_1rd:rd≤12) (rn:Int) (_0rn:0≤rn) (_1rn:rn≤12) (rm:Int) (_0rm:0≤rm) (_1rm:rm≤12):qcm [true,true,true,false,true,false,true,false,false,false,true,false,bI rn 3,bI rn 2,bI rn 1,bI rn 0] [false,false,false,false,bI rd 3,bI rd 2,bI rd 1,bI rd 0,false,false,false,false,bI rm 3,bI rm 2,bI rm 1,bI rm 0]=some (11,rd,rn,rm,0,0,0,false,()):=by
 have e:qdH [true,true,true,false,true,false,true,false,false,false,true,false,bI rn 3,bI rn 2,bI rn 1,bI rn 0] [false,false,false,false,bI rd 3,bI rd 2,bI rd 1,bI rd 0,false,false,false,false,bI rm 3,bI rm 2,bI rm 1,bI rm 0]=(bif (qZ (H (bis rd 4))&&(qZ (H (bis rn 4))&&(qZ (H (bis rm 4))&&true))) then some (11,H (bis rd 4),H (bis rn 4),H (bis rm 4),0,0,0,false,()) else none):=by kernel_rfl
 unfold qcm
 rw[e,qbq _0rd _1rd,qbq _0rn _1rn,qbq _0rm _1rm,qdg _0rd _1rd,qdg _0rn _1rn,qdg _0rm _1rm]
 rfl
theorem qRy (rd:Int) (_0rd:0≤rd) (_1rd:rd≤12) (rn:Int) (_0rn:0≤rn) (_1rn:rn≤12) (rm:Int) (_0rm:0≤rm) (_1rm:rm≤12):qcm [true,true,true,false,true,false,true,false,false,true,false,false,bI rn 3,bI rn 2,bI rn 1,bI rn 0] [false,false,false,false,bI rd 3,bI rd 2,bI rd 1,bI rd 0,false,false,false,false,bI rm 3,bI rm 2,bI rm 1,bI rm 0]=some (12,rd,rn,rm,0,0,0,false,()):=by
 have e:qdH [true,true,true,false,true,false,true,false,false,true,false,false,bI rn 3,bI rn 2,bI rn 1,bI rn 0] [false,false,false,false,bI rd 3,bI rd 2,bI rd 1,bI rd 0,false,false,false,false,bI rm 3,bI rm 2,bI rm 1,bI rm 0]=(bif eqC (bis rn 4) 15 then(bif (qZ (H (bis rd 4))&&(qZ (H (bis rm 4))&&true)) then some (5+H [false,false],H (bis rd 4),0,H (bis rm 4),0,H (sl [false,false,false,false,bI rd 3,bI rd 2,bI rd 1,bI rd 0,false,false,false,false,bI rm 3,bI rm 2,bI rm 1,bI rm 0] 12 3++sl [false,false,false,false,bI rd 3,bI rd 2,bI rd 1,bI rd 0,false,false,false,false,bI rm 3,bI rm 2,bI rm 1,bI rm 0] 6 2),0,false,()) else none) else bif (qZ (H (bis rd 4))&&(qZ (H (bis rn 4))&&(qZ (H (bis rm 4))&&true))) then some (12,H (bis rd 4),H (bis rn 4),H (bis rm 4),0,0,0,false,()) else none):=by kernel_rfl
 have e2:eqC (bis rn 4) 15=false:=by rw[←qf9 (bis rn 4) 15 (by rw[qrg];decide),qdg _0rn _1rn,beq_eq_false_iff_ne];omega
 unfold qcm
 rw[e,e2,qbq _0rd _1rd,qbq _0rn _1rn,qbq _0rm _1rm,qdg _0rd _1rd,qdg _0rn _1rn,qdg _0rm _1rm]
 rfl
theorem qRG (rd:Int) (_0rd:0≤rd) (_1rd:rd≤12) (rn:Int) (_0rn:0≤rn) (_1rn:rn≤12) (rm:Int) (_0rm:0≤rm) (_1rm:rm≤12):qcm [true,true,true,false,true,false,true,false,true,false,false,false,bI rn 3,bI rn 2,bI rn 1,bI rn 0] [false,false,false,false,bI rd 3,bI rd 2,bI rd 1,bI rd 0,false,false,false,false,bI rm 3,bI rm 2,bI rm 1,bI rm 0]=some (13,rd,rn,rm,0,0,0,false,()):=by
 have e:qdH [true,true,true,false,true,false,true,false,true,false,false,false,bI rn 3,bI rn 2,bI rn 1,bI rn 0] [false,false,false,false,bI rd 3,bI rd 2,bI rd 1,bI rd 0,false,false,false,false,bI rm 3,bI rm 2,bI rm 1,bI rm 0]=(bif (qZ (H (bis rd 4))&&(qZ (H (bis rn 4))&&(qZ (H (bis rm 4))&&true))) then some (13,H (bis rd 4),H (bis rn 4),H (bis rm 4),0,0,0,false,()) else none):=by kernel_rfl
 unfold qcm
 rw[e,qbq _0rd _1rd,qbq _0rn _1rn,qbq _0rm _1rm,qdg _0rd _1rd,qdg _0rn _1rn,qdg _0rm _1rm]
 rfl
theorem qSe (rd:Int) (_0rd:0≤rd) (_1rd:rd≤12) (rn:Int) (_0rn:0≤rn) (_1rn:rn≤12) (rm:Int) (_0rm:0≤rm) (_1rm:rm≤12):qcm [true,true,true,false,true,false,true,true,false,false,false,false,bI rn 3,bI rn 2,bI rn 1,bI rn 0] [false,false,false,false,bI rd 3,bI rd 2,bI rd 1,bI rd 0,false,false,false,false,bI rm 3,bI rm 2,bI rm 1,bI rm 0]=some (14,rd,rn,rm,0,0,0,false,()):=by
 have e:qdH [true,true,true,false,true,false,true,true,false,false,false,false,bI rn 3,bI rn 2,bI rn 1,bI rn 0] [false,false,false,false,bI rd 3,bI rd 2,bI rd 1,bI rd 0,false,false,false,false,bI rm 3,bI rm 2,bI rm 1,bI rm 0]=(bif (qZ (H (bis rd 4))&&(qZ (H (bis rn 4))&&(qZ (H (bis rm 4))&&true))) then some (14,H (bis rd 4),H (bis rn 4),H (bis rm 4),0,0,0,false,()) else none):=by kernel_rfl
 unfold qcm
 rw[e,qbq _0rd _1rd,qbq _0rn _1rn,qbq _0rm _1rm,qdg _0rd _1rd,qdg _0rn _1rn,qdg _0rm _1rm]
 rfl
theorem qR5 (rd:Int) (_0rd:0≤rd) (_1rd:rd≤12) (rn:Int) (_0rn:0≤rn) (_1rn:rn≤12) (rm:Int) (_0rm:0≤rm) (_1rm:rm≤12):qcm [true,true,true,false,true,false,true,true,true,false,true,false,bI rn 3,bI rn 2,bI rn 1,bI rn 0] [false,false,false,false,bI rd 3,bI rd 2,bI rd 1,bI rd 0,false,false,false,false,bI rm 3,bI rm 2,bI rm 1,bI rm 0]=some (15,rd,rn,rm,0,0,0,false,()):=by
 have e:qdH [true,true,true,false,true,false,true,true,true,false,true,false,bI rn 3,bI rn 2,bI rn 1,bI rn 0] [false,false,false,false,bI rd 3,bI rd 2,bI rd 1,bI rd 0,false,false,false,false,bI rm 3,bI rm 2,bI rm 1,bI rm 0]=(bif (qZ (H (bis rd 4))&&(qZ (H (bis rn 4))&&(qZ (H (bis rm 4))&&true))) then some (15,H (bis rd 4),H (bis rn 4),H (bis rm 4),0,0,0,false,()) else none):=by kernel_rfl
 unfold qcm
 rw[e,qbq _0rd _1rd,qbq _0rn _1rn,qbq _0rm _1rm,qdg _0rd _1rd,qdg _0rn _1rn,qdg _0rm _1rm]
 rfl
theorem qSa (rd:Int) (_0rd:0≤rd) (_1rd:rd≤12) (rn:Int) (_0rn:0≤rn) (_1rn:rn≤12) (rm:Int) (_0rm:0≤rm) (_1rm:rm≤12):qcm [true,true,true,true,true,false,true,true,false,false,false,false,bI rn 3,bI rn 2,bI rn 1,bI rn 0] [true,true,true,true,bI rd 3,bI rd 2,bI rd 1,bI rd 0,false,false,false,false,bI rm 3,bI rm 2,bI rm 1,bI rm 0]=some (16,rd,rn,rm,0,0,0,false,()):=by
 have nThree:qdH [true,true,true,true,true,false,true,true,false,false,false,false,bI rn 3,bI rn 2,bI rn 1,bI rn 0] [true,true,true,true,bI rd 3,bI rd 2,bI rd 1,bI rd 0,false,false,false,false,bI rm 3,bI rm 2,bI rm 1,bI rm 0]=none:=by kernel_rfl
 have e:qd5 [true,true,true,true,true,false,true,true,false,false,false,false,bI rn 3,bI rn 2,bI rn 1,bI rn 0] [true,true,true,true,bI rd 3,bI rd 2,bI rd 1,bI rd 0,false,false,false,false,bI rm 3,bI rm 2,bI rm 1,bI rm 0]=(bif (qZ (H (bis rd 4))&&(qZ (H (bis rn 4))&&(qZ (H (bis rm 4))&&true))) then some (16,H (bis rd 4),H (bis rn 4),H (bis rm 4),0,0,0,false,()) else none):=by kernel_rfl
 unfold qcm
 rw[nThree,e,qbq _0rd _1rd,qbq _0rn _1rn,qbq _0rm _1rm,qdg _0rd _1rd,qdg _0rn _1rn,qdg _0rm _1rm]
 rfl
theorem qR7 (rd:Int) (_0rd:0≤rd) (_1rd:rd≤12) (ra:Int) (_0ra:0≤ra) (_1ra:ra≤12) (rn:Int) (_0rn:0≤rn) (_1rn:rn≤12) (rm:Int) (_0rm:0≤rm) (_1rm:rm≤12) (hne:ra≠rd):qcm [true,true,true,true,true,false,true,true,true,false,true,false,bI rn 3,bI rn 2,bI rn 1,bI rn 0] [bI rd 3,bI rd 2,bI rd 1,bI rd 0,bI ra 3,bI ra 2,bI ra 1,bI ra 0,false,false,false,false,bI rm 3,bI rm 2,bI rm 1,bI rm 0]=some (17,rd,rn,rm,ra,0,0,false,()):=by
 have nThree:qdH [true,true,true,true,true,false,true,true,true,false,true,false,bI rn 3,bI rn 2,bI rn 1,bI rn 0] [bI rd 3,bI rd 2,bI rd 1,bI rd 0,bI ra 3,bI ra 2,bI ra 1,bI ra 0,false,false,false,false,bI rm 3,bI rm 2,bI rm 1,bI rm 0]=none:=by
  have e:qdH [true,true,true,true,true,false,true,true,true,false,true,false,bI rn 3,bI rn 2,bI rn 1,bI rn 0] [bI rd 3,bI rd 2,bI rd 1,bI rd 0,bI ra 3,bI ra 2,bI ra 1,bI ra 0,false,false,false,false,bI rm 3,bI rm 2,bI rm 1,bI rm 0]=(bif eqC [bI rd 3] 1 then none else none):=by kernel_rfl
  rw[e];exact Bool.cond_self _ _
 have e:qd5 [true,true,true,true,true,false,true,true,true,false,true,false,bI rn 3,bI rn 2,bI rn 1,bI rn 0] [bI rd 3,bI rd 2,bI rd 1,bI rd 0,bI ra 3,bI ra 2,bI ra 1,bI ra 0,false,false,false,false,bI rm 3,bI rm 2,bI rm 1,bI rm 0]=(bif (H (bis rd 4) != H (bis ra 4)) then(bif (qZ (H (bis rd 4))&&(qZ (H (bis ra 4))&&(qZ (H (bis rn 4))&&(qZ (H (bis rm 4))&&true)))) then some (17,H (bis rd 4),H (bis rn 4),H (bis rm 4),H (bis ra 4),0,0,false,()) else none) else none):=by kernel_rfl
 unfold qcm
 rw[nThree,e,qbq _0rd _1rd,qbq _0ra _1ra,qbq _0rn _1rn,qbq _0rm _1rm,qdg _0rd _1rd,qdg _0ra _1ra,qdg _0rn _1rn,qdg _0rm _1rm,bne_iff_ne.2 (Ne.symm hne)]
 rfl
theorem qRT (rd:Int) (_0rd:0≤rd) (_1rd:rd≤12) (rn:Int) (_0rn:0≤rn) (_1rn:rn≤12) (imm:Int) (_0imm:0≤imm) (_1imm:imm≤31) (ra:Int) (_0ra:1≤ra) (_1ra:ra≤32-imm):qcm [true,true,true,true,false,false,true,true,false,true,true,false,bI rn 3,bI rn 2,bI rn 1,bI rn 0] [false,bI imm 4,bI imm 3,bI imm 2,bI rd 3,bI rd 2,bI rd 1,bI rd 0,bI imm 1,bI imm 0,false,bI (imm+ra-1) 4,bI (imm+ra-1) 3,bI (imm+ra-1) 2,bI (imm+ra-1) 1,bI (imm+ra-1) 0]=some (18,rd,rn,0,ra,imm,0,false,()):=by
 have nThree:qdH [true,true,true,true,false,false,true,true,false,true,true,false,bI rn 3,bI rn 2,bI rn 1,bI rn 0] [false,bI imm 4,bI imm 3,bI imm 2,bI rd 3,bI rd 2,bI rd 1,bI rd 0,bI imm 1,bI imm 0,false,bI (imm+ra-1) 4,bI (imm+ra-1) 3,bI (imm+ra-1) 2,bI (imm+ra-1) 1,bI (imm+ra-1) 0]=none:=by kernel_rfl
 have nProduct:qd5 [true,true,true,true,false,false,true,true,false,true,true,false,bI rn 3,bI rn 2,bI rn 1,bI rn 0] [false,bI imm 4,bI imm 3,bI imm 2,bI rd 3,bI rd 2,bI rd 1,bI rd 0,bI imm 1,bI imm 0,false,bI (imm+ra-1) 4,bI (imm+ra-1) 3,bI (imm+ra-1) 2,bI (imm+ra-1) 1,bI (imm+ra-1) 0]=none:=by
  have e:qd5 [true,true,true,true,false,false,true,true,false,true,true,false,bI rn 3,bI rn 2,bI rn 1,bI rn 0] [false,bI imm 4,bI imm 3,bI imm 2,bI rd 3,bI rd 2,bI rd 1,bI rd 0,bI imm 1,bI imm 0,false,bI (imm+ra-1) 4,bI (imm+ra-1) 3,bI (imm+ra-1) 2,bI (imm+ra-1) 1,bI (imm+ra-1) 0]=(bif !eqC (sl [false,bI imm 4,bI imm 3,bI imm 2,bI rd 3,bI rd 2,bI rd 1,bI rd 0,bI imm 1,bI imm 0,false,bI (imm+ra-1) 4,bI (imm+ra-1) 3,bI (imm+ra-1) 2,bI (imm+ra-1) 1,bI (imm+ra-1) 0] 4 4) 0 then none else none):=by kernel_rfl
  rw[e];exact Bool.cond_self _ _
 have e:qj9 [true,true,true,true,false,false,true,true,false,true,true,false,bI rn 3,bI rn 2,bI rn 1,bI rn 0] [false,bI imm 4,bI imm 3,bI imm 2,bI rd 3,bI rd 2,bI rd 1,bI rd 0,bI imm 1,bI imm 0,false,bI (imm+ra-1) 4,bI (imm+ra-1) 3,bI (imm+ra-1) 2,bI (imm+ra-1) 1,bI (imm+ra-1) 0]=(bif decide (H (bis (imm+ra-1) 5)+1-H (bis imm 5)≥1) then(bif (qZ (H (bis rd 4))&&(qZ (H (bis rn 4))&&true)) then some (18,H (bis rd 4),H (bis rn 4),0,H (bis (imm+ra-1) 5)+1-H (bis imm 5),H (bis imm 5),0,false,()) else none) else none):=by kernel_rfl
 have p:((2 ^ 5:Nat):Int)=32:=rfl
 unfold qcm
 rw[nThree,nProduct,e,qbq _0rd _1rd,qbq _0rn _1rn,qdg _0rd _1rd,qdg _0rn _1rn,qcH (x:=imm) (by omega) (by omega),qcH (x:=imm+ra-1) (by omega) (by omega),show imm+ra-1+1-imm=ra by omega,qK (p:=ra≥1) (by omega)]
 rfl
theorem qRD (rd:Int) (_0rd:0≤rd) (_1rd:rd≤7) (rn:Int) (_0rn:0≤rn) (_1rn:rn≤7):qc5 [false,true,true,false,true,false,false,false,false,false,bI rn 2,bI rn 1,bI rn 0,bI rd 2,bI rd 1,bI rd 0]=some (19,rd,rn,0,0,0,0,false,()):=by
 have e:qc5 [false,true,true,false,true,false,false,false,false,false,bI rn 2,bI rn 1,bI rn 0,bI rd 2,bI rd 1,bI rd 0]=some (19,H (bis rd 3),H (bis rn 3),0,0,0,0,false,()):=by kernel_rfl
 have p:((2 ^ 3:Nat):Int)=8:=rfl
 rw[e,qcH _0rd (by omega),qcH _0rn (by omega)]
theorem qRI (rd:Int) (_0rd:0≤rd) (_1rd:rd≤7) (rn:Int) (_0rn:0≤rn) (_1rn:rn≤7):qc5 [false,true,true,false,false,false,false,false,false,false,bI rn 2,bI rn 1,bI rn 0,bI rd 2,bI rd 1,bI rd 0]=some (20,rd,rn,0,0,0,0,false,()):=by
 have e:qc5 [false,true,true,false,false,false,false,false,false,false,bI rn 2,bI rn 1,bI rn 0,bI rd 2,bI rd 1,bI rd 0]=some (20,H (bis rd 3),H (bis rn 3),0,0,0,0,false,()):=by kernel_rfl
 have p:((2 ^ 3:Nat):Int)=8:=rfl
 rw[e,qcH _0rd (by omega),qcH _0rn (by omega)]
theorem qRE (rd:Int) (_0rd:0≤rd) (_1rd:rd≤7) (rn:Int) (_0rn:0≤rn) (_1rn:rn≤7):qc5 [false,true,true,true,true,false,false,false,false,false,bI rn 2,bI rn 1,bI rn 0,bI rd 2,bI rd 1,bI rd 0]=some (21,rd,rn,0,0,0,0,false,()):=by
 have e:qc5 [false,true,true,true,true,false,false,false,false,false,bI rn 2,bI rn 1,bI rn 0,bI rd 2,bI rd 1,bI rd 0]=some (21,H (bis rd 3),H (bis rn 3),0,0,0,0,false,()):=by kernel_rfl
 have p:((2 ^ 3:Nat):Int)=8:=rfl
 rw[e,qcH _0rd (by omega),qcH _0rn (by omega)]
theorem qRR (rd:Int) (_0rd:0≤rd) (_1rd:rd≤7) (rn:Int) (_0rn:0≤rn) (_1rn:rn≤7):qc5 [false,true,true,true,false,false,false,false,false,false,bI rn 2,bI rn 1,bI rn 0,bI rd 2,bI rd 1,bI rd 0]=some (22,rd,rn,0,0,0,0,false,()):=by
 have e:qc5 [false,true,true,true,false,false,false,false,false,false,bI rn 2,bI rn 1,bI rn 0,bI rd 2,bI rd 1,bI rd 0]=some (22,H (bis rd 3),H (bis rn 3),0,0,0,0,false,()):=by kernel_rfl
 have p:((2 ^ 3:Nat):Int)=8:=rfl
 rw[e,qcH _0rd (by omega),qcH _0rn (by omega)]
theorem qRS (rn:Int) (_0rn:0≤rn) (_1rn:rn≤7) (rm:Int) (_0rm:0≤rm) (_1rm:rm≤7):qc5 [false,true,false,false,false,false,true,false,true,false,bI rm 2,bI rm 1,bI rm 0,bI rn 2,bI rn 1,bI rn 0]=some (23,0,rn,rm,0,0,0,false,()):=by
 have e:qc5 [false,true,false,false,false,false,true,false,true,false,bI rm 2,bI rm 1,bI rm 0,bI rn 2,bI rn 1,bI rn 0]=some (23,0,H (bis rn 3),H (bis rm 3),0,0,0,false,()):=by kernel_rfl
 have p:((2 ^ 3:Nat):Int)=8:=rfl
 rw[e,qcH _0rn (by omega),qcH _0rm (by omega)]
theorem qRj (imm:Int) (h:imm % 2=0) (h1:-2048≤imm) (h2:imm≤2046):qc5 [true,true,true,false,false,bI imm 11,bI imm 10,bI imm 9,bI imm 8,bI imm 7,bI imm 6,bI imm 5,bI imm 4,bI imm 3,bI imm 2,bI imm 1]=some (24,0,0,0,0,imm,0,false,()):=by
 have e:qc5 [true,true,true,false,false,bI imm 11,bI imm 10,bI imm 9,bI imm 8,bI imm 7,bI imm 6,bI imm 5,bI imm 4,bI imm 3,bI imm 2,bI imm 1]=some (24,0,0,0,0,SG [bI imm 11,bI imm 10,bI imm 9,bI imm 8,bI imm 7,bI imm 6,bI imm 5,bI imm 4,bI imm 3,bI imm 2,bI imm 1,false],0,false,()):=by kernel_rfl
 have p:((2 ^ 11:Nat):Int)=2048:=rfl
 have e2:SG [bI imm 11,bI imm 10,bI imm 9,bI imm 8,bI imm 7,bI imm 6,bI imm 5,bI imm 4,bI imm 3,bI imm 2,bI imm 1,false]=imm:=by rw[←quh h];exact qx9 imm 11 (by omega) (by omega)
 rw[e,e2]
theorem qRb (imm:Int) (h:imm % 2=0) (h1:-16777216≤imm) (h2:imm≤16777214):qcm [true,true,true,true,false,bI imm 24,bI imm 21,bI imm 20,bI imm 19,bI imm 18,bI imm 17,bI imm 16,bI imm 15,bI imm 14,bI imm 13,bI imm 12] [true,false,!(bI imm 23 ^^ bI imm 24),true,!(bI imm 22 ^^ bI imm 24),bI imm 11,bI imm 10,bI imm 9,bI imm 8,bI imm 7,bI imm 6,bI imm 5,bI imm 4,bI imm 3,bI imm 2,bI imm 1]=some (24,0,0,0,0,imm,0,true,()):=by
 have nThree:qdH [true,true,true,true,false,bI imm 24,bI imm 21,bI imm 20,bI imm 19,bI imm 18,bI imm 17,bI imm 16,bI imm 15,bI imm 14,bI imm 13,bI imm 12] [true,false,!(bI imm 23 ^^ bI imm 24),true,!(bI imm 22 ^^ bI imm 24),bI imm 11,bI imm 10,bI imm 9,bI imm 8,bI imm 7,bI imm 6,bI imm 5,bI imm 4,bI imm 3,bI imm 2,bI imm 1]=none:=by kernel_rfl
 have nProduct:qd5 [true,true,true,true,false,bI imm 24,bI imm 21,bI imm 20,bI imm 19,bI imm 18,bI imm 17,bI imm 16,bI imm 15,bI imm 14,bI imm 13,bI imm 12] [true,false,!(bI imm 23 ^^ bI imm 24),true,!(bI imm 22 ^^ bI imm 24),bI imm 11,bI imm 10,bI imm 9,bI imm 8,bI imm 7,bI imm 6,bI imm 5,bI imm 4,bI imm 3,bI imm 2,bI imm 1]=none:=by
  have e:qd5 [true,true,true,true,false,bI imm 24,bI imm 21,bI imm 20,bI imm 19,bI imm 18,bI imm 17,bI imm 16,bI imm 15,bI imm 14,bI imm 13,bI imm 12] [true,false,!(bI imm 23 ^^ bI imm 24),true,!(bI imm 22 ^^ bI imm 24),bI imm 11,bI imm 10,bI imm 9,bI imm 8,bI imm 7,bI imm 6,bI imm 5,bI imm 4,bI imm 3,bI imm 2,bI imm 1]=(bif !eqC (sl [true,false,!(bI imm 23 ^^ bI imm 24),true,!(bI imm 22 ^^ bI imm 24),bI imm 11,bI imm 10,bI imm 9,bI imm 8,bI imm 7,bI imm 6,bI imm 5,bI imm 4,bI imm 3,bI imm 2,bI imm 1] 4 4) 0 then none else none):=by kernel_rfl
  rw[e];exact Bool.cond_self _ _
 have nPlain:qj9 [true,true,true,true,false,bI imm 24,bI imm 21,bI imm 20,bI imm 19,bI imm 18,bI imm 17,bI imm 16,bI imm 15,bI imm 14,bI imm 13,bI imm 12] [true,false,!(bI imm 23 ^^ bI imm 24),true,!(bI imm 22 ^^ bI imm 24),bI imm 11,bI imm 10,bI imm 9,bI imm 8,bI imm 7,bI imm 6,bI imm 5,bI imm 4,bI imm 3,bI imm 2,bI imm 1]=none:=by kernel_rfl
 have e:qpk [true,true,true,true,false,bI imm 24,bI imm 21,bI imm 20,bI imm 19,bI imm 18,bI imm 17,bI imm 16,bI imm 15,bI imm 14,bI imm 13,bI imm 12] [true,false,!(bI imm 23 ^^ bI imm 24),true,!(bI imm 22 ^^ bI imm 24),bI imm 11,bI imm 10,bI imm 9,bI imm 8,bI imm 7,bI imm 6,bI imm 5,bI imm 4,bI imm 3,bI imm 2,bI imm 1]=some (24,0,0,0,0,SG [bI imm 24,!(!(bI imm 23 ^^ bI imm 24) ^^ bI imm 24),!(!(bI imm 22 ^^ bI imm 24) ^^ bI imm 24),bI imm 21,bI imm 20,bI imm 19,bI imm 18,bI imm 17,bI imm 16,bI imm 15,bI imm 14,bI imm 13,bI imm 12,bI imm 11,bI imm 10,bI imm 9,bI imm 8,bI imm 7,bI imm 6,bI imm 5,bI imm 4,bI imm 3,bI imm 2,bI imm 1,false],0,true,()):=by kernel_rfl
 have p:((2 ^ 24:Nat):Int)=16777216:=rfl
 have x1:∀a b:Bool,(!(!(a ^^ b) ^^ b))=a:=by decide
 have e2:SG [bI imm 24,bI imm 23,bI imm 22,bI imm 21,bI imm 20,bI imm 19,bI imm 18,bI imm 17,bI imm 16,bI imm 15,bI imm 14,bI imm 13,bI imm 12,bI imm 11,bI imm 10,bI imm 9,bI imm 8,bI imm 7,bI imm 6,bI imm 5,bI imm 4,bI imm 3,bI imm 2,bI imm 1,false]=imm:=by rw[←quh h];exact qx9 imm 24 (by omega) (by omega)
 unfold qcm
 rw[nThree,nProduct,nPlain,e,x1,x1,e2]
 rfl
theorem qRn (imm:Int) (h:imm % 2=0) (h1:-256≤imm) (h2:imm≤254) (cond:Int) (c0:0≤cond) (c1:cond≤13):qc5 [true,true,false,true,bI cond 3,bI cond 2,bI cond 1,bI cond 0,bI imm 8,bI imm 7,bI imm 6,bI imm 5,bI imm 4,bI imm 3,bI imm 2,bI imm 1]=some (25,0,0,0,0,imm,cond,false,()):=by
 have e:qc5 [true,true,false,true,bI cond 3,bI cond 2,bI cond 1,bI cond 0,bI imm 8,bI imm 7,bI imm 6,bI imm 5,bI imm 4,bI imm 3,bI imm 2,bI imm 1]=(bif decide (H (bis cond 4)≤13) then some (25,0,0,0,0,SG [bI imm 8,bI imm 7,bI imm 6,bI imm 5,bI imm 4,bI imm 3,bI imm 2,bI imm 1,false],H (bis cond 4),false,()) else none):=by kernel_rfl
 have p:((2 ^ 8:Nat):Int)=256:=rfl
 have q:((2 ^ 4:Nat):Int)=16:=rfl
 have e2:SG [bI imm 8,bI imm 7,bI imm 6,bI imm 5,bI imm 4,bI imm 3,bI imm 2,bI imm 1,false]=imm:=by rw[←quh h];exact qx9 imm 8 (by omega) (by omega)
 rw[e,e2,qcH c0 (by omega),qK c1]
 rfl
theorem qRf (imm:Int) (h:imm % 2=0) (h1:-1048576≤imm) (h2:imm≤1048574) (cond:Int) (c0:0≤cond) (c1:cond≤13):qcm [true,true,true,true,false,bI imm 20,bI cond 3,bI cond 2,bI cond 1,bI cond 0,bI imm 17,bI imm 16,bI imm 15,bI imm 14,bI imm 13,bI imm 12] [true,false,bI imm 18,false,bI imm 19,bI imm 11,bI imm 10,bI imm 9,bI imm 8,bI imm 7,bI imm 6,bI imm 5,bI imm 4,bI imm 3,bI imm 2,bI imm 1]=some (25,0,0,0,0,imm,cond,true,()):=by
 have nThree:qdH [true,true,true,true,false,bI imm 20,bI cond 3,bI cond 2,bI cond 1,bI cond 0,bI imm 17,bI imm 16,bI imm 15,bI imm 14,bI imm 13,bI imm 12] [true,false,bI imm 18,false,bI imm 19,bI imm 11,bI imm 10,bI imm 9,bI imm 8,bI imm 7,bI imm 6,bI imm 5,bI imm 4,bI imm 3,bI imm 2,bI imm 1]=none:=by kernel_rfl
 have nProduct:qd5 [true,true,true,true,false,bI imm 20,bI cond 3,bI cond 2,bI cond 1,bI cond 0,bI imm 17,bI imm 16,bI imm 15,bI imm 14,bI imm 13,bI imm 12] [true,false,bI imm 18,false,bI imm 19,bI imm 11,bI imm 10,bI imm 9,bI imm 8,bI imm 7,bI imm 6,bI imm 5,bI imm 4,bI imm 3,bI imm 2,bI imm 1]=none:=by
  have e:qd5 [true,true,true,true,false,bI imm 20,bI cond 3,bI cond 2,bI cond 1,bI cond 0,bI imm 17,bI imm 16,bI imm 15,bI imm 14,bI imm 13,bI imm 12] [true,false,bI imm 18,false,bI imm 19,bI imm 11,bI imm 10,bI imm 9,bI imm 8,bI imm 7,bI imm 6,bI imm 5,bI imm 4,bI imm 3,bI imm 2,bI imm 1]=(bif !eqC (sl [true,false,bI imm 18,false,bI imm 19,bI imm 11,bI imm 10,bI imm 9,bI imm 8,bI imm 7,bI imm 6,bI imm 5,bI imm 4,bI imm 3,bI imm 2,bI imm 1] 4 4) 0 then none else none):=by kernel_rfl
  rw[e];exact Bool.cond_self _ _
 have nPlain:qj9 [true,true,true,true,false,bI imm 20,bI cond 3,bI cond 2,bI cond 1,bI cond 0,bI imm 17,bI imm 16,bI imm 15,bI imm 14,bI imm 13,bI imm 12] [true,false,bI imm 18,false,bI imm 19,bI imm 11,bI imm 10,bI imm 9,bI imm 8,bI imm 7,bI imm 6,bI imm 5,bI imm 4,bI imm 3,bI imm 2,bI imm 1]=none:=by kernel_rfl
 have e:qpk [true,true,true,true,false,bI imm 20,bI cond 3,bI cond 2,bI cond 1,bI cond 0,bI imm 17,bI imm 16,bI imm 15,bI imm 14,bI imm 13,bI imm 12] [true,false,bI imm 18,false,bI imm 19,bI imm 11,bI imm 10,bI imm 9,bI imm 8,bI imm 7,bI imm 6,bI imm 5,bI imm 4,bI imm 3,bI imm 2,bI imm 1]=(bif decide (H (bis cond 4)≤13) then some (25,0,0,0,0,SG [bI imm 20,bI imm 19,bI imm 18,bI imm 17,bI imm 16,bI imm 15,bI imm 14,bI imm 13,bI imm 12,bI imm 11,bI imm 10,bI imm 9,bI imm 8,bI imm 7,bI imm 6,bI imm 5,bI imm 4,bI imm 3,bI imm 2,bI imm 1,false],H (bis cond 4),true,()) else none):=by kernel_rfl
 have p:((2 ^ 20:Nat):Int)=1048576:=rfl
 have q:((2 ^ 4:Nat):Int)=16:=rfl
 have e2:SG [bI imm 20,bI imm 19,bI imm 18,bI imm 17,bI imm 16,bI imm 15,bI imm 14,bI imm 13,bI imm 12,bI imm 11,bI imm 10,bI imm 9,bI imm 8,bI imm 7,bI imm 6,bI imm 5,bI imm 4,bI imm 3,bI imm 2,bI imm 1,false]=imm:=by rw[←quh h];exact qx9 imm 20 (by omega) (by omega)
 unfold qcm
 rw[nThree,nProduct,nPlain,e,e2,qcH c0 (by omega),qK c1]
 rfl
end Go.Av
end
section
namespace Go.Av
open Go
structure Rd where
 x:Bool
 y:Bool
 t:Bool
 d:List Bool
 n:List Bool
 m:List Bool
 a:List Bool
 c:List Bool
 w:List Bool
 imm:List (Nat×Bool)
def Rd.zero:Rd:=⟨false,false,false,[],[],[],[],[],[],[]⟩
def qRP (c:UInt8):Bool:=Nat.ble 65 c.toNat&&Nat.ble c.toNat 89
def Rd.step (s:Rd) (c:UInt8) (b:Bool):Rd where
 x:=bif c==120 then b else s.x
 y:=bif c==121 then b else s.y
 t:=bif c==89 then b else s.t
 d:=bif c==100 then s.d++[b] else s.d
 n:=bif c==110 then s.n++[b] else s.n
 m:=bif c==109 then s.m++[b] else s.m
 a:=bif c==97 then s.a++[b] else s.a
 c:=bif c==99 then s.c++[b] else s.c
 w:=bif c==119 then s.w++[b] else s.w
 imm:=bif qRP c then s.imm++[(c.toNat-65,b)] else s.imm
end Go.Av
end
section
namespace Go.Av
open Go
abbrev bw (n a b:Int):Bool:=decide (a≤n)&&decide (n≤b)
def okB (op rd rn rm ra imm cond:Int) (w:Bool):Bool :=
 bif op==24 then(rd==0&&(rn==0&&(rm==0&&(ra==0&&(cond==0&&(imm % 2==0&&bif w then bw imm (-16777216) 16777214 else bw imm (-2048) 2046))))))
 else bif op==25 then(rd==0&&(rn==0&&(rm==0&&(ra==0&&(bw cond 0 13&&(imm % 2==0&&bif w then bw imm (-1048576) 1048574 else bw imm (-256) 254))))))
 else(!w&&(cond==0&&(
  bif op==1 then(rd==0&&(rn==0&&(rm==0&&(ra==0&&imm==0))))
  else bif op==2 then(rd==0&&(rn==0&&(rm==0&&(ra==0&&bw imm 0 255))))
  else bif op==3||op==4 then(bw rd 0 12&&(rn==0&&(rm==0&&(ra==0&&bw imm 0 65535))))
  else bif op==5 then(bw rd 0 12&&(rn==0&&(bw rm 0 12&&(ra==0&&bw imm 0 31))))
  else bif op==6||(op==7||op==8) then(bw rd 0 12&&(rn==0&&(bw rm 0 12&&(ra==0&&bw imm 1 31))))
  else bif op==9 then(bw rd 0 12&&(rn==0&&(bw rm 0 12&&(ra==0&&imm==0))))
  else bif op==17 then(bw rd 0 12&&(bw rn 0 12&&(bw rm 0 12&&(bw ra 0 12&&(imm==0&&ra != rd)))))
  else bif op==18 then(bw rd 0 12&&(bw rn 0 12&&(rm==0&&(bw imm 0 31&&bw ra 1 (32-imm)))))
  else bif op==23 then(rd==0&&(bw rn 0 7&&(bw rm 0 7&&(ra==0&&imm==0))))
  else bif op==19||(op==20||(op==21||op==22)) then(bw rd 0 7&&(bw rn 0 7&&(rm==0&&(ra==0&&imm==0))))
  else bif bw op 10 16 then(bw rd 0 12&&(bw rn 0 12&&(bw rm 0 12&&(ra==0&&imm==0))))
  else false)))
theorem qRc:IntKind.i64.wrap (-16777216)=-16777216:=rfl
theorem qQE:IntKind.i64.wrap 16777214=16777214:=rfl
theorem qP2:IntKind.i64.wrap (-2048)=-2048:=rfl
theorem qQp:IntKind.i64.wrap 2046=2046:=rfl
theorem qQ5:IntKind.i64.wrap (-256)=-256:=rfl
theorem qQl:IntKind.i64.wrap 254=254:=rfl
set_option maxHeartbeats 2000000 in
theorem qny (op rd rn rm ra imm cond:Int) (w:Bool):qf (op,rd,rn,rm,ra,imm,cond,w,())=0↔okB op rd rn rm ra imm cond w=true:=by
 have hw:=qp1 imm
 have hb:=qoW imm
 rcases qi2 op with rfl |rfl |rfl |rfl |rfl |rfl |rfl |rfl |rfl |rfl |rfl |rfl |rfl |rfl |rfl |rfl |rfl |rfl |rfl |rfl |rfl |rfl |rfl |rfl |rfl |hop
 case inr.inr.inr.inr.inr.inr.inr.inr.inr.inr.inr.inr.inr.inr.inr.inr.inr.inr.inr.inr.inr.inr.inr.inr.inr =>
  have e:=fun k hk=>qnv (n:=op) (k:=k) hop hk
  have e2:bw op 10 16=false:=by unfold bw;rw[Bool.and_eq_false_iff,decide_eq_false_iff_not,decide_eq_false_iff_not];omega
  simp[qf,qb5,qbc,qcc,PO.qH,PO.val,e,okB,e2]
 all_goals cases w
 all_goals
  simp[okB,qf,qb5,qbc,qcc,qcu,qfk,qb3,qdC,PO.qH,PO.val,qft,qfw,qbP,qf3,qJ6,qLx,qRc,qQE,qP2,qQp,qQ5,qQl,hb,w64]
  try simp only[qIJ,qMX,Bool.or_eq_false_iff,Bool.not_eq_false',decide_eq_true_eq,bne_eq_false_iff_eq,beq_iff_eq]
  try grind
end Go.Av
end
