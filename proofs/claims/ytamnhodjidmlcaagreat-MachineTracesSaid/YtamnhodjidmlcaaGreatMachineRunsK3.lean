/- Texts of the proof, one behind the other. -/
import Derived.Test.YtamnhodjidmlcaaGreatMachineRunsK2
import Derived.Test.YtamnhodjidmlcaaGreatMachineRunsK1
section
namespace Go.Av
open Go
def qfi (s:List UInt8) (k:Nat):Nat:=(s.getD (2*k) 0).toNat+256*(s.getD (2*k+1) 0).toNat
theorem qzf (s:List UInt8) (k:Nat):qfi s k<65536:=by
 unfold qfi
 have h1:=(s.getD (2*k) 0).toNat_lt
 have h2:=(s.getD (2*k+1) 0).toNat_lt
 omega
theorem qqU (b k:Nat) (hk:k≤62) (h:b*2 ^ k<4611686018427387904):qz .i64 (b:Int) (k:Int)=((b*2 ^ k:Nat):Int):=by
 rw[qrH _ _ (by omega),show(b:Int)*2 ^ k=((b*2 ^ k:Nat):Int) by simp,qt (by omega) (by omega)]
theorem qQc (a b k:Nat) (hk:k≤62) (ha:a<2 ^ k) (h:b*2 ^ k<4611686018427387904):bor .i64 (a:Int) (qz .i64 (b:Int) (k:Int))=((b*2 ^ k+a:Nat):Int):=by
 have hp:2 ^ k≤2 ^ 62:=qeM hk
 rw[qqU b k hk h,qtz (by omega) (by omega),Nat.or_comm,Nat.mul_comm b,Nat.two_pow_add_eq_or_of_lt ha]
abbrev qmH:List Ty:=[(.int .i64),(.int .i64),(.int .i64)]
abbrev qpO:Sh:=Sh.ty (Ty.int IntKind.i64)
def qpl (x:qc qmH):PO (Sh.den qpO) :=
 (.ite (!decide (x.2.1<0)&&!decide (x.2.2<0))
  (.ret (qbF IntKind.i64 (q8 IntKind.i64 x.1 x.2.1) (w64 (qz IntKind.i64 1 x.2.2-1))))
  .fail)
def qm (x:qc qmH):Bool:=decide (0≤x.2.1)&&(decide (x.2.1≤16)&&(decide (0≤x.2.2)&&decide (x.2.2≤24)))
def qa (x:qc qmH):Sh.den qpO:=x.1 / (2 ^ x.2.1.toNat:Nat) % (2 ^ x.2.2.toNat:Nat)
theorem qOR (n at_ many:Int) (h1:0≤at_) (h2:at_≤16) (h3:0≤many) (h4:many≤24):qbF IntKind.i64 (q8 IntKind.i64 n at_) (w64 (qz IntKind.i64 1 many-1))=n / (2 ^ at_.toNat:Nat) % (2 ^ many.toNat:Nat):=by
 obtain⟨a,rfl⟩:=Int.eq_ofNat_of_zero_le h1
 obtain⟨m,rfl⟩:=Int.eq_ofNat_of_zero_le h3
 have hp:2 ^ m≤2 ^ 24:=qeM (by omega)
 have hp0:=Nat.two_pow_pos m
 have e:=qqU 1 m (by omega) (by omega)
 rw[qog n a (by omega),show qz IntKind.i64 1 (m:Int)=_ from e,qt (by omega) (by omega),Nat.one_mul,qjL _ m (by omega),Int.toNat_natCast,Int.toNat_natCast]
theorem qRv (n a m:Int) (h1:0≤a) (h2:a≤16) (h3:0≤m) (h4:m≤24):(qpl (n,a,m)).val=some (qa (n,a,m)):=by
 have e:=qOR n a m h1 h2 h3 h4
 unfold qpl PO.val
 dsimp only
 rw[qS (p:=a<0) (by omega),qS (p:=m<0) (by omega)]
 exact congrArg some e
theorem qA6 (x:qc qmH) (h:qm x=true):(qpl x).val=some (qa x):=by
 simp only[qm,Bool.and_eq_true,decide_eq_true_eq] at h
 exact qRv x.1 x.2.1 x.2.2 h.1 h.2.1 h.2.2.1 h.2.2.2
abbrev qmJ:List Ty:=[.str,(.int .i64)]
abbrev qpw:Sh:=Sh.ty (Ty.int IntKind.i64)
def qpy (x:qc qmJ):PO (Sh.den qpw) :=
 (.ite (inRange (w64 (2*x.2)) (List.length x.1)&&inRange (w64 (w64 (2*x.2)+1)) (List.length x.1))
  (.ret (bor IntKind.i64 (w64 (u8I (List.getD x.1 (Int.toNat (w64 (2*x.2))) 0))) (qz IntKind.i64 (w64 (u8I (List.getD x.1 (Int.toNat (w64 (w64 (2*x.2)+1))) 0))) 8)))
  .fail)
def qcz (x:qc qmJ):Bool:=(x.2==0&&decide (2≤qg x.1))||(x.2==1&&decide (4≤qg x.1))
def qco (x:qc qmJ):Sh.den qpw:=(qfi x.1 x.2.toNat:Int)
theorem qF2 (s:List UInt8) (k:Nat) (hk:k≤1) (h:2*k+2≤s.length):(qpy (s,(k:Int))).val=some (qfi s k:Int):=by
 have e1:w64 (2*(k:Int))=((2*k:Nat):Int):=by rw[qt (by omega) (by omega)];omega
 have e2:w64 (((2*k:Nat):Int)+1)=((2*k+1:Nat):Int):=by rw[qt (by omega) (by omega)];omega
 have l1:=(s.getD (2*k) 0).toNat_lt
 have l2:=(s.getD (2*k+1) 0).toNat_lt
 unfold qpy PO.val
 dsimp only
 rw[e1,e2,inR (show 2*k<s.length by omega),inR (show 2*k+1<s.length by omega),qhD,qhD]
 unfold qfi u8I
 generalize (s.getD (2*k) 0).toNat=a at *
 generalize (s.getD (2*k+1) 0).toNat=b at *
 rw[qrs (by omega),qrs (by omega)]
 have:=qQc a b 8 (by omega) (by omega) (by omega)
 dsimp only[Bool.and_self,cond_true,PO.val]
 rw[show bor IntKind.i64 (a:Int) (qz IntKind.i64 (b:Int) 8)=((b*2 ^ 8+a:Nat):Int) from this]
 exact congrArg some (congrArg Nat.cast (by omega:b*2 ^ 8+a=a+256*b))
theorem qBb (x:qc qmJ) (h:qcz x=true):(qpy x).val=some (qco x):=by
 obtain⟨s,n⟩:=x
 simp only[qcz,Bool.or_eq_true,Bool.and_eq_true,beq_iff_eq,decide_eq_true_eq] at h
 rcases h with⟨h,hl⟩ |⟨h,hl⟩
 ·subst h
  exact qF2 s 0 (by omega) (by simp only[qg] at hl;omega)
 ·subst h
  exact qF2 s 1 (by omega) (by simp only[qg] at hl;omega)
abbrev qkI:List Ty:=[(.int .i64),(.int .i64)]
abbrev qnx:Sh:=Sh.ty (Ty.int IntKind.i64)
def qk4 (x:qc qkI):PO (Sh.den qnx) :=
 (.ite (!decide (w64 (x.2-1)<0))
  (.ite (q8 IntKind.i64 x.1 (w64 (x.2-1))==1)
  (.ite (!decide (x.2<0))
   (.ret (w64 (x.1-qz IntKind.i64 1 x.2)))
   .fail)
  (.ret (x.1)))
  .fail)
def qcJ (x:qc qkI):Bool:=decide (1≤x.2)&&(decide (x.2≤24)&&(decide (0≤x.1)&&decide (x.1<33554432)))
def qb9 (x:qc qkI):Sh.den qnx:=bif x.1 / (2 ^ (x.2-1).toNat:Nat)==1 then x.1-(2 ^ x.2.toNat:Nat) else x.1
theorem qN9 (n:Int) (k:Nat) (hk:k≤23) (h3:0≤n) (h4:n<33554432):(qk4 (n,((k+1:Nat):Int))).val=some (qb9 (n,((k+1:Nat):Int))):=by
 have hp:2 ^ (k+1)≤2 ^ 24:=qeM (by omega)
 have e1:w64 (((k+1:Nat):Int)-1)=(k:Int):=by rw[qt (by omega) (by omega)];omega
 have e2:=qog n k (by omega)
 have e3:=qqU 1 (k+1) (by omega) (by omega)
 have e4:(((k+1:Nat):Int)-1).toNat=k:=by omega
 unfold qk4 qb9 PO.val
 dsimp only
 rw[e1,e2,e4,show qz IntKind.i64 1 ((k+1:Nat):Int)=_ from e3,qS (p:=(k:Int)<0) (by omega),qS (p:=((k+1:Nat):Int)<0) (by omega),Nat.one_mul,Int.toNat_natCast]
 rw[qt (n:=n-((2 ^ (k+1):Nat):Int)) (by omega) (by omega)]
 cases n / ((2 ^ k:Nat):Int)==1<;>rfl
theorem qMW (n m:Int) (h1:1≤m) (h2:m≤24) (h3:0≤n) (h4:n<33554432):(qk4 (n,m)).val=some (qb9 (n,m)):=by
 obtain⟨k,rfl⟩:∃k:Nat,m=((k+1:Nat):Int):=⟨(m-1).toNat,by omega⟩
 exact qN9 n k (by omega) h3 h4
theorem qzc (x:qc qkI) (h:qcJ x=true):(qk4 x).val=some (qb9 x):=by
 simp only[qcJ,Bool.and_eq_true,decide_eq_true_eq] at h
 exact qMW x.1 x.2 h.1 h.2.1 h.2.2.1 h.2.2.2
def qdU:LoopN where
 M:=[2,5,6,7]
 T:=[4,8,9,10,11,12,13]
 D:=[5,6,7]
 ss:=[.ty .bool,.ty (.sl (.int .i64)),.ty (.int .i64),.ty (.int .i64)]
 hs:=[]
 es:=[.exit 0,.ret]
 σ:=(Ty.den .bool)×(Ty.den (.int .i64))
 x0:=fun x _=>(x.1,x.2.2.2)
 put:=fun x _ s=>((s.1,x.2.1,x.2.2.1,s.2),())
 fuel:=fun x _=>List.length x.2.1+1
 turn:=fun x _ s =>
 (.ite (decide (s.2<x.2.2.1))
  (.ite (inRange s.2 (List.length x.2.1))
  (.ite (decide (List.getD x.2.1 (Int.toNat s.2) (Ty.dflt (Ty.int IntKind.i64)) > 12))
   (.ret (.out 1 (false,s.2)))
   (.ret (.on (s.1,w64 (s.2+1)))))
  .fail)
  (.ret (.out 0 (s.1,s.2))))
theorem qFv (r:List Int) (hr:r.length<100) (ok:Bool):∀(k i:Nat),i+k=r.length→∀f,k<f →
  ∃o st,qcE (qdU.turn (false,r,((r.length:Nat):Int),0) ()) f (ok,(i:Int))=some (o,st)∧(PO.ite (way o) (.ret true) (.ret st.1)).val=some ((r.drop i).all fun x=>decide (x≤12))
 |0,i,h,f,hf=>by
  obtain⟨f,rfl⟩:∃g,f=g+1:=⟨f-1,by omega⟩
  refine⟨0,(ok,(i:Int)),qbk ?_,by rw[List.drop_of_length_le (by omega)];rfl⟩
  dsimp only[qdU,PO.val]
  rw[qS (p:=(i:Int)<((r.length:Nat):Int)) (by omega)]
  rfl
 |k+1,i,h,f,hf=>by
  obtain⟨f,rfl⟩:∃g,f=g+1:=⟨f-1,by omega⟩
  have hi:i<r.length:=by omega
  have hw:w64 ((i:Int)+1)=((i+1:Nat):Int):=by rw[qt (by omega) (by omega)];omega
  rw[List.drop_eq_getElem_cons hi,List.all_cons]
  by_cases hb:r[i]≤12
  ·have e:(qdU.turn (false,r,((r.length:Nat):Int),0) () (ok,(i:Int))).val=some (.on (ok,((i+1:Nat):Int))):=by
    dsimp only[qdU,PO.val]
    rw[qJ (p:=(i:Int)<((r.length:Nat):Int)) (by omega),inR hi,qhD,qgY r _ hi,qS (p:=r[i] > 12) (by omega),hw]
    rfl
   obtain⟨o,st,g1,g2⟩:=qFv r hr ok k (i+1) (by omega) f (by omega)
   exact⟨o,st,(qcr e).trans g1,by rw[qJ hb,Bool.true_and];exact g2⟩
  ·have e:(qdU.turn (false,r,((r.length:Nat):Int),0) () (ok,(i:Int))).val=some (.out 1 (false,(i:Int))):=by
    dsimp only[qdU,PO.val]
    rw[qJ (p:=(i:Int)<((r.length:Nat):Int)) (by omega),inR hi,qhD,qgY r _ hi,qJ (p:=r[i] > 12) (by omega)]
    rfl
   exact⟨1,_,qbk e,by rw[qS hb];rfl⟩
abbrev qm2:List Ty:=[(.sl (.int .i64))]
abbrev qpN:Sh:=Sh.ty Ty.bool
def qsS (x:qc qm2):PO (Sh.den qpN) :=
 (.opt (LoopN.res qdU (false,x,qg x,0) ()) fun p0 =>
  (.ite (way p0.1)
  (.ret (true))
  (.ret (p0.2.1))))
def qbj (x:qc qm2):Bool:=Nat.blt (List.length x) 100
def qbM (x:qc qm2):Sh.den qpN:=List.all x fun r=>decide ((r:Int)≤12)
theorem qBa (x:qc qm2) (h:qbj x=true):(qsS x).val=some (qbM x):=by
 have hl:List.length x<100:=Nat.blt_eq▸h
 obtain⟨o,st,h1,h2⟩:=qFv x hl false (List.length x) 0 (by omega) (List.length x+1) (by omega)
 have h1':LoopN.res qdU (false,x,qg x,0) ()=some (o,st):=h1
 unfold qsS PO.val
 rw[h1']
 exact h2
abbrev qmS:List Ty:=[.str]
abbrev qpq:Sh:=Sh.ty (Ty.int IntKind.i64)
def qsO (x:qc qmS):PO (Sh.den qpq) :=
 (.ite (decide (qg x<2))
  (.ret (0))
  (.ite (qcz (x,0))
  (.ite (decide (q8 IntKind.i64 (qco (x,0)) 11≥29))
   (.ret (4))
   (.ret (2)))
  .fail))
def qsE (_:qc qmS):Bool:=true
def qbw (x:qc qmS):Sh.den qpq:=bif decide (qg x<2) then 0 else bif Nat.ble 59392 (qfi x 0) then 4 else 2
theorem qAZ (x:qc qmS) (_:qsE x=true):(qsO x).val=some (qbw x):=by
 unfold qsO qbw PO.val
 cases hl:decide (qg x<2)
 ·have hl:=of_decide_eq_false hl
  have g:qcz (x,0)=true:=by
   simp only[qcz,Bool.or_eq_true,Bool.and_eq_true,beq_iff_eq,decide_eq_true_eq]
   exact .inl ⟨trivial,by omega⟩
  have e:q8 IntKind.i64 (qco (x,0)) 11=((qfi x 0:Nat):Int) / (2 ^ 11:Nat):=qog _ 11 (by omega)
  dsimp only[cond_false,PO.val]
  rw[g,e]
  dsimp only[cond_true,PO.val]
  cases hb:Nat.ble 59392 (qfi x 0)
  ·have hb:¬59392≤qfi x 0:=by rw[←Nat.ble_eq,hb];simp
   rw[qS (by omega)]
   rfl
  ·have hb:=Nat.le_of_ble_eq_true hb
   rw[qJ (by omega)]
   rfl
 ·rfl
abbrev qkQ:List Ty:=[(.int .i64)]
abbrev qny:Sh:=Sh.tup (Sh.pair (Sh.ty q9) (Sh.pair (Sh.ty Ty.bool) (Sh.ty Ty.unit)))
def qir (x:qc qkQ):PO (Sh.den qny) :=
 (.ite (qm (x,0,3)&&qm (x,3,3))
  (.ite (x==48896)
  (.ret (((1,0,0,0,0,0,0,false,()),true,())))
  (.ite (q8 IntKind.i64 x 8==190)
   (.ite (qm (x,0,8))
   (.ret (((2,0,0,0,0,qa (x,0,8),0,false,()),true,())))
   .fail)
   (.ite (q8 IntKind.i64 x 6==416)
   (.ret (((19,qa (x,0,3),qa (x,3,3),0,0,0,0,false,()),true,())))
   (.ite (q8 IntKind.i64 x 6==384)
    (.ret (((20,qa (x,0,3),qa (x,3,3),0,0,0,0,false,()),true,())))
    (.ite (q8 IntKind.i64 x 6==480)
    (.ret (((21,qa (x,0,3),qa (x,3,3),0,0,0,0,false,()),true,())))
    (.ite (q8 IntKind.i64 x 6==448)
     (.ret (((22,qa (x,0,3),qa (x,3,3),0,0,0,0,false,()),true,())))
     (.ite (q8 IntKind.i64 x 6==266)
     (.ret (((23,0,qa (x,0,3),qa (x,3,3),0,0,0,false,()),true,())))
     (.ite (q8 IntKind.i64 x 11==28)
      (.ite (qm (x,0,11))
      (.ite (qcJ (qa (x,0,11),11))
       (.ret (((24,0,0,0,0,w64 (2*qb9 (qa (x,0,11),11)),0,false,()),true,())))
       .fail)
      .fail)
      (.ite (bif q8 IntKind.i64 x 12==13 then qm (x,8,4) else true)
      (.ite (q8 IntKind.i64 x 12==13&&decide (qa (x,8,4)≤13))
       (.ite (qm (x,8,4))
       (.ite (qm (x,0,8))
        (.ite (qcJ (qa (x,0,8),8))
        (.ret (((25,0,0,0,0,w64 (2*qb9 (qa (x,0,8),8)),qa (x,8,4),false,()),true,())))
        .fail)
        .fail)
       .fail)
       (.ret (((0,0,0,0,0,0,0,false,()),false,()))))
      .fail)))))))))
  .fail)
def qgM (x:qc qkQ):Bool:=(qir x).val.isSome
def qdn (x:qc qkQ):Sh.den qny:=(qir x).qP default
theorem qzh (x:qc qkQ) (h:qgM x=true):(qir x).val=some (qdn x):=PO.qb4 default h
abbrev qlW:List Ty:=[(.int .i64),(.int .i64)]
abbrev qoy:Sh:=Sh.tup (Sh.pair (Sh.ty q9) (Sh.pair (Sh.ty Ty.bool) (Sh.ty Ty.unit)))
def qjD (x:qc qlW):PO (Sh.den qoy) :=
 (.ite (qm (x.2,8,4))
  (.ite (qm (x.1,0,4))
  (.ite (qm (x.2,0,4))
   (.ite (qm (x.2,12,3)&&qm (x.2,6,2))
   (.ite (qm (x.2,4,2))
    (.ite (q8 IntKind.i64 x.2 15==1)
    (.ret (((0,0,0,0,0,0,0,false,()),false,())))
    (.ite (x.1==59983)
     (.ite (qbj [qa (x.2,8,4),qa (x.2,0,4)])
     (.ite (qbM [qa (x.2,8,4),qa (x.2,0,4)])
      (.ite (qa (x.2,4,2)==0)
      (.ret (((w64 (5+qa (x.2,4,2)),qa (x.2,8,4),0,qa (x.2,0,4),0,bor IntKind.i64 (qz IntKind.i64 (qa (x.2,12,3)) 2) (qa (x.2,6,2)),0,false,()),true,())))
      (.ret (((w64 (5+qa (x.2,4,2)),qa (x.2,8,4),0,qa (x.2,0,4),0,bor IntKind.i64 (qz IntKind.i64 (qa (x.2,12,3)) 2) (qa (x.2,6,2)),0,false,()),decide (bor IntKind.i64 (qz IntKind.i64 (qa (x.2,12,3)) 2) (qa (x.2,6,2)) > 0),()))))
      (.ret (((w64 (5+qa (x.2,4,2)),qa (x.2,8,4),0,qa (x.2,0,4),0,bor IntKind.i64 (qz IntKind.i64 (qa (x.2,12,3)) 2) (qa (x.2,6,2)),0,false,()),false,()))))
     .fail)
     (.ite (x.1==60015)
     (.ite (qbj [qa (x.2,8,4),qa (x.2,0,4)])
      (.ite (qbM [qa (x.2,8,4),qa (x.2,0,4)])
      (.ite (qa (x.2,4,2)==0)
       (.ret (((9,qa (x.2,8,4),0,qa (x.2,0,4),0,0,0,false,()),bor IntKind.i64 (qz IntKind.i64 (qa (x.2,12,3)) 2) (qa (x.2,6,2))==0,())))
       (.ret (((9,qa (x.2,8,4),0,qa (x.2,0,4),0,0,0,false,()),false,()))))
      (.ret (((9,qa (x.2,8,4),0,qa (x.2,0,4),0,0,0,false,()),false,()))))
      .fail)
     (.ite (qeg IntKind.i64 x.1 15==59904)
      (.ite (qbj [qa (x.2,8,4),qa (x.1,0,4),qa (x.2,0,4)])
      (.ite (qbM [qa (x.2,8,4),qa (x.1,0,4),qa (x.2,0,4)])
       (.ite (qa (x.2,4,2)==0)
       (.ret (((10,qa (x.2,8,4),qa (x.1,0,4),qa (x.2,0,4),0,0,0,false,()),bor IntKind.i64 (qz IntKind.i64 (qa (x.2,12,3)) 2) (qa (x.2,6,2))==0,())))
       (.ret (((10,qa (x.2,8,4),qa (x.1,0,4),qa (x.2,0,4),0,0,0,false,()),false,()))))
       (.ret (((10,qa (x.2,8,4),qa (x.1,0,4),qa (x.2,0,4),0,0,0,false,()),false,()))))
      .fail)
      (.ite (qeg IntKind.i64 x.1 15==59936)
      (.ite (qbj [qa (x.2,8,4),qa (x.1,0,4),qa (x.2,0,4)])
       (.ite (qbM [qa (x.2,8,4),qa (x.1,0,4),qa (x.2,0,4)])
       (.ite (qa (x.2,4,2)==0)
        (.ret (((11,qa (x.2,8,4),qa (x.1,0,4),qa (x.2,0,4),0,0,0,false,()),bor IntKind.i64 (qz IntKind.i64 (qa (x.2,12,3)) 2) (qa (x.2,6,2))==0,())))
        (.ret (((11,qa (x.2,8,4),qa (x.1,0,4),qa (x.2,0,4),0,0,0,false,()),false,()))))
       (.ret (((11,qa (x.2,8,4),qa (x.1,0,4),qa (x.2,0,4),0,0,0,false,()),false,()))))
       .fail)
      (.ite (qeg IntKind.i64 x.1 15==59968)
       (.ite (qbj [qa (x.2,8,4),qa (x.1,0,4),qa (x.2,0,4)])
       (.ite (qbM [qa (x.2,8,4),qa (x.1,0,4),qa (x.2,0,4)])
        (.ite (qa (x.2,4,2)==0)
        (.ret (((12,qa (x.2,8,4),qa (x.1,0,4),qa (x.2,0,4),0,0,0,false,()),bor IntKind.i64 (qz IntKind.i64 (qa (x.2,12,3)) 2) (qa (x.2,6,2))==0,())))
        (.ret (((12,qa (x.2,8,4),qa (x.1,0,4),qa (x.2,0,4),0,0,0,false,()),false,()))))
        (.ret (((12,qa (x.2,8,4),qa (x.1,0,4),qa (x.2,0,4),0,0,0,false,()),false,()))))
       .fail)
       (.ite (qeg IntKind.i64 x.1 15==60032)
       (.ite (qbj [qa (x.2,8,4),qa (x.1,0,4),qa (x.2,0,4)])
        (.ite (qbM [qa (x.2,8,4),qa (x.1,0,4),qa (x.2,0,4)])
        (.ite (qa (x.2,4,2)==0)
         (.ret (((13,qa (x.2,8,4),qa (x.1,0,4),qa (x.2,0,4),0,0,0,false,()),bor IntKind.i64 (qz IntKind.i64 (qa (x.2,12,3)) 2) (qa (x.2,6,2))==0,())))
         (.ret (((13,qa (x.2,8,4),qa (x.1,0,4),qa (x.2,0,4),0,0,0,false,()),false,()))))
        (.ret (((13,qa (x.2,8,4),qa (x.1,0,4),qa (x.2,0,4),0,0,0,false,()),false,()))))
        .fail)
       (.ite (qeg IntKind.i64 x.1 15==60160)
        (.ite (qbj [qa (x.2,8,4),qa (x.1,0,4),qa (x.2,0,4)])
        (.ite (qbM [qa (x.2,8,4),qa (x.1,0,4),qa (x.2,0,4)])
         (.ite (qa (x.2,4,2)==0)
         (.ret (((14,qa (x.2,8,4),qa (x.1,0,4),qa (x.2,0,4),0,0,0,false,()),bor IntKind.i64 (qz IntKind.i64 (qa (x.2,12,3)) 2) (qa (x.2,6,2))==0,())))
         (.ret (((14,qa (x.2,8,4),qa (x.1,0,4),qa (x.2,0,4),0,0,0,false,()),false,()))))
         (.ret (((14,qa (x.2,8,4),qa (x.1,0,4),qa (x.2,0,4),0,0,0,false,()),false,()))))
        .fail)
        (.ite (qeg IntKind.i64 x.1 15==60320)
        (.ite (qbj [qa (x.2,8,4),qa (x.1,0,4),qa (x.2,0,4)])
         (.ite (qbM [qa (x.2,8,4),qa (x.1,0,4),qa (x.2,0,4)])
         (.ite (qa (x.2,4,2)==0)
          (.ret (((15,qa (x.2,8,4),qa (x.1,0,4),qa (x.2,0,4),0,0,0,false,()),bor IntKind.i64 (qz IntKind.i64 (qa (x.2,12,3)) 2) (qa (x.2,6,2))==0,())))
          (.ret (((15,qa (x.2,8,4),qa (x.1,0,4),qa (x.2,0,4),0,0,0,false,()),false,()))))
         (.ret (((15,qa (x.2,8,4),qa (x.1,0,4),qa (x.2,0,4),0,0,0,false,()),false,()))))
         .fail)
        (.ret (((0,0,0,0,0,0,0,false,()),false,()))))))))))))
    .fail)
   .fail)
   .fail)
  .fail)
  .fail)
def qhJ (x:qc qlW):Bool:=(qjD x).val.isSome
def qdR (x:qc qlW):Sh.den qoy:=(qjD x).qP default
theorem qAp (x:qc qlW) (h:qhJ x=true):(qjD x).val=some (qdR x):=PO.qb4 default h
abbrev qjO:List Ty:=[(.int .i64),(.int .i64)]
abbrev qmE:Sh:=Sh.tup (Sh.pair (Sh.ty q9) (Sh.pair (Sh.ty Ty.bool) (Sh.ty Ty.unit)))
def qhE (x:qc qjO):PO (Sh.den qmE) :=
 (.ite (qm (x.1,0,4))
  (.ite (qm (x.2,0,4))
  (.ite (qm (x.2,12,4)&&qm (x.2,8,4))
   (.ite (qm (x.2,4,4))
   (.ite (qa (x.2,4,4) != 0)
    (.ret (((0,0,0,0,0,0,0,false,()),false,())))
    (.ite (qeg IntKind.i64 x.1 15==64256)
    (.ite (qa (x.2,12,4)==15)
     (.ite (qbj [qa (x.2,8,4),qa (x.1,0,4),qa (x.2,0,4)])
     (.ret (((16,qa (x.2,8,4),qa (x.1,0,4),qa (x.2,0,4),0,0,0,false,()),qbM [qa (x.2,8,4),qa (x.1,0,4),qa (x.2,0,4)],())))
     .fail)
     (.ret (((16,qa (x.2,8,4),qa (x.1,0,4),qa (x.2,0,4),0,0,0,false,()),false,()))))
    (.ite (qeg IntKind.i64 x.1 15==64416)
     (.ite (qa (x.2,12,4) != qa (x.2,8,4))
     (.ite (qbj [qa (x.2,12,4),qa (x.2,8,4),qa (x.1,0,4),qa (x.2,0,4)])
      (.ret (((17,qa (x.2,12,4),qa (x.1,0,4),qa (x.2,0,4),qa (x.2,8,4),0,0,false,()),qbM [qa (x.2,12,4),qa (x.2,8,4),qa (x.1,0,4),qa (x.2,0,4)],())))
      .fail)
     (.ret (((17,qa (x.2,12,4),qa (x.1,0,4),qa (x.2,0,4),qa (x.2,8,4),0,0,false,()),false,()))))
     (.ret (((0,0,0,0,0,0,0,false,()),false,()))))))
   .fail)
   .fail)
  .fail)
  .fail)
def qfG (x:qc qjO):Bool:=(qhE x).val.isSome
def qc9 (x:qc qjO):Sh.den qmE:=(qhE x).qP default
theorem qyB (x:qc qjO) (h:qfG x=true):(qhE x).val=some (qc9 x):=PO.qb4 default h
abbrev ql1:List Ty:=[(.int .i64),(.int .i64)]
abbrev qoB:Sh:=Sh.tup (Sh.pair (Sh.ty q9) (Sh.pair (Sh.ty Ty.bool) (Sh.ty Ty.unit)))
def qjB (x:qc ql1):PO (Sh.den qoB) :=
 (.ite (qm (x.2,8,4))
  (.ite (q8 IntKind.i64 x.2 15==1)
  (.ret (((0,0,0,0,0,0,0,false,()),false,())))
  (.ite (qeg IntKind.i64 x.1 15==62304)
   (.ite (qm (x.1,0,4))
   (.ite (qm (x.2,12,3))
    (.ite (qm (x.2,6,2))
    (.ite (qm (x.2,0,5))
     (.ite (qm (x.2,5,1))
     (.ite (qa (x.2,5,1)==0)
      (.ite (decide (w64 (w64 (qa (x.2,0,5)+1)-bor IntKind.i64 (qz IntKind.i64 (qa (x.2,12,3)) 2) (qa (x.2,6,2)))≥1))
      (.ite (qbj [qa (x.2,8,4),qa (x.1,0,4)])
       (.ret (((18,qa (x.2,8,4),qa (x.1,0,4),0,w64 (w64 (qa (x.2,0,5)+1)-bor IntKind.i64 (qz IntKind.i64 (qa (x.2,12,3)) 2) (qa (x.2,6,2))),bor IntKind.i64 (qz IntKind.i64 (qa (x.2,12,3)) 2) (qa (x.2,6,2)),0,false,()),qbM [qa (x.2,8,4),qa (x.1,0,4)],())))
       .fail)
      (.ret (((18,qa (x.2,8,4),qa (x.1,0,4),0,w64 (w64 (qa (x.2,0,5)+1)-bor IntKind.i64 (qz IntKind.i64 (qa (x.2,12,3)) 2) (qa (x.2,6,2))),bor IntKind.i64 (qz IntKind.i64 (qa (x.2,12,3)) 2) (qa (x.2,6,2)),0,false,()),false,()))))
      (.ret (((18,qa (x.2,8,4),qa (x.1,0,4),0,w64 (w64 (qa (x.2,0,5)+1)-bor IntKind.i64 (qz IntKind.i64 (qa (x.2,12,3)) 2) (qa (x.2,6,2))),bor IntKind.i64 (qz IntKind.i64 (qa (x.2,12,3)) 2) (qa (x.2,6,2)),0,false,()),false,()))))
     .fail)
     .fail)
    .fail)
    .fail)
   .fail)
   (.ite (qeg IntKind.i64 x.1 1039==62016)
   (.ite (qm (x.1,0,4))
    (.ite (qm (x.1,10,1))
    (.ite (qm (x.2,12,3))
     (.ite (qm (x.2,0,8))
     (.ite (qbj [qa (x.2,8,4)])
      (.ret (((3,qa (x.2,8,4),0,0,0,bor IntKind.i64 (bor IntKind.i64 (bor IntKind.i64 (qz IntKind.i64 (qa (x.1,0,4)) 12) (qz IntKind.i64 (qa (x.1,10,1)) 11)) (qz IntKind.i64 (qa (x.2,12,3)) 8)) (qa (x.2,0,8)),0,false,()),qbM [qa (x.2,8,4)],())))
      .fail)
     .fail)
     .fail)
    .fail)
    .fail)
   (.ite (qeg IntKind.i64 x.1 1039==62144)
    (.ite (qm (x.1,0,4))
    (.ite (qm (x.1,10,1))
     (.ite (qm (x.2,12,3))
     (.ite (qm (x.2,0,8))
      (.ite (qbj [qa (x.2,8,4)])
      (.ret (((4,qa (x.2,8,4),0,0,0,bor IntKind.i64 (bor IntKind.i64 (bor IntKind.i64 (qz IntKind.i64 (qa (x.1,0,4)) 12) (qz IntKind.i64 (qa (x.1,10,1)) 11)) (qz IntKind.i64 (qa (x.2,12,3)) 8)) (qa (x.2,0,8)),0,false,()),qbM [qa (x.2,8,4)],())))
      .fail)
      .fail)
     .fail)
     .fail)
    .fail)
    (.ret (((0,0,0,0,0,0,0,false,()),false,())))))))
  .fail)
def qhG (x:qc ql1):Bool:=(qjB x).val.isSome
def qdP (x:qc ql1):Sh.den qoB:=(qjB x).qP default
theorem qAu (x:qc ql1) (h:qhG x=true):(qjB x).val=some (qdP x):=PO.qb4 default h
abbrev qk3:List Ty:=[(.int .i64),(.int .i64)]
abbrev qnq:Sh:=Sh.tup (Sh.pair (Sh.ty q9) (Sh.pair (Sh.ty Ty.bool) (Sh.ty Ty.unit)))
def qiG (x:qc qk3):PO (Sh.den qnq) :=
 (.ite (qm (x.1,10,1)&&(qm (x.2,13,1)&&qm (x.2,11,1)))
  (.ite (qm (x.2,0,11))
  (.ite (q8 IntKind.i64 x.1 11 != 30||q8 IntKind.i64 x.2 14 != 2)
   (.ret (((0,0,0,0,0,0,0,false,()),false,())))
   (.ite (qm (x.2,12,1))
   (.ite (qa (x.2,12,1)==1)
    (.ite (qm (x.1,0,10))
    (.ite (qcJ (bor IntKind.i64 (bor IntKind.i64 (bor IntKind.i64 (bor IntKind.i64 (qz IntKind.i64 (qa (x.1,10,1)) 23) (qz IntKind.i64 (qh3 IntKind.i64 (qh3 IntKind.i64 1 (qa (x.2,13,1))) (qa (x.1,10,1))) 22)) (qz IntKind.i64 (qh3 IntKind.i64 (qh3 IntKind.i64 1 (qa (x.2,11,1))) (qa (x.1,10,1))) 21)) (qz IntKind.i64 (qa (x.1,0,10)) 11)) (qa (x.2,0,11)),24))
     (.ret (((24,0,0,0,0,w64 (2*qb9 (bor IntKind.i64 (bor IntKind.i64 (bor IntKind.i64 (bor IntKind.i64 (qz IntKind.i64 (qa (x.1,10,1)) 23) (qz IntKind.i64 (qh3 IntKind.i64 (qh3 IntKind.i64 1 (qa (x.2,13,1))) (qa (x.1,10,1))) 22)) (qz IntKind.i64 (qh3 IntKind.i64 (qh3 IntKind.i64 1 (qa (x.2,11,1))) (qa (x.1,10,1))) 21)) (qz IntKind.i64 (qa (x.1,0,10)) 11)) (qa (x.2,0,11)),24)),0,true,()),true,())))
     .fail)
    .fail)
    (.ite (qm (x.1,6,4))
    (.ite (qm (x.1,0,6))
     (.ite (qcJ (bor IntKind.i64 (bor IntKind.i64 (bor IntKind.i64 (bor IntKind.i64 (qz IntKind.i64 (qa (x.1,10,1)) 19) (qz IntKind.i64 (qa (x.2,11,1)) 18)) (qz IntKind.i64 (qa (x.2,13,1)) 17)) (qz IntKind.i64 (qa (x.1,0,6)) 11)) (qa (x.2,0,11)),20))
     (.ret (((25,0,0,0,0,w64 (2*qb9 (bor IntKind.i64 (bor IntKind.i64 (bor IntKind.i64 (bor IntKind.i64 (qz IntKind.i64 (qa (x.1,10,1)) 19) (qz IntKind.i64 (qa (x.2,11,1)) 18)) (qz IntKind.i64 (qa (x.2,13,1)) 17)) (qz IntKind.i64 (qa (x.1,0,6)) 11)) (qa (x.2,0,11)),20)),qa (x.1,6,4),true,()),decide (qa (x.1,6,4)≤13),())))
     .fail)
     .fail)
    .fail))
   .fail))
  .fail)
  .fail)
def qgA (x:qc qk3):Bool:=(qiG x).val.isSome
def qdp (x:qc qk3):Sh.den qnq:=(qiG x).qP default
theorem qzl (x:qc qk3) (h:qgA x=true):(qiG x).val=some (qdp x):=PO.qb4 default h
abbrev qmU:List Ty:=[(.int .i64),(.int .i64)]
abbrev qpK:Sh:=Sh.tup (Sh.pair (Sh.ty q9) (Sh.pair (Sh.ty Ty.bool) (Sh.ty Ty.unit)))
def qkq (x:qc qmU):PO (Sh.den qpK) :=
 (.ite (qhJ x) (.ite (qdR x).2.1 (.ret ((qdR x).1,true,())) (.ite (qfG x) (.ite (qc9 x).2.1 (.ret ((qc9 x).1,true,())) (.ite (qhG x) (.ite (qdP x).2.1 (.ret ((qdP x).1,true,())) (.ite (qgA x) (.ite (qdp x).2.1 (.ret ((qdp x).1,true,())) (.ret ((0,0,0,0,0,0,0,false,()),false,()))) .fail)) .fail)) .fail)) .fail)
def qks (x:qc qmU):Bool:=(qkq x).val.isSome
def qiO (x:qc qmU):Sh.den qpK:=(qkq x).qP default
theorem qBd (x:qc qmU) (h:qks x=true):(qkq x).val=some (qiO x):=PO.qb4 default h
abbrev qkW:List Ty:=[.str]
abbrev qnt:Sh:=Sh.tup (Sh.pair (Sh.ty q9) (Sh.pair (Sh.ty (Ty.int IntKind.i64)) (Sh.pair (Sh.ty (Ty.int IntKind.i64)) (Sh.ty Ty.unit))))
def qiJ (x:qc qkW):PO (Sh.den qnt) :=
 (.ite (qbw x==0||decide (qg x<qbw x))
  (.ret (((0,0,0,0,0,0,0,false,()),0,3,())))
  (.ite (qbw x==2)
  (.ite (qcz (x,0))
   (.ite (qgM (qco (x,0)))
   (.ite (!(qdn (qco (x,0))).2.1)
    (.ret (((0,0,0,0,0,0,0,false,()),0,7,())))
    (.ret (((qdn (qco (x,0))).1,qbw x,0,()))))
   .fail)
   .fail)
  (.ite (qcz (x,0))
   (.ite (qcz (x,1))
   (.ite (qks (qco (x,0),qco (x,1)))
    (.ite (!(qiO (qco (x,0),qco (x,1))).2.1)
    (.ret (((0,0,0,0,0,0,0,false,()),0,7,())))
    (.ret (((qiO (qco (x,0),qco (x,1))).1,qbw x,0,()))))
    .fail)
   .fail)
   .fail)))
def qiu (x:qc qkW):Bool:=(qiJ x).val.isSome
def qE (x:qc qkW):Sh.den qnt:=(qiJ x).qP default
theorem qzi (x:qc qkW) (h:qiu x=true):(qiJ x).val=some (qE x):=PO.qb4 default h
def qR:Nat→Nat→List Bool
 |0,_=>[]
 |m+1,n=>(n / 2 ^ m % 2==1)::qR m n
theorem qdX:∀m n:Nat,(qR m n).length=m
 |0,_=>rfl
 |m+1,n=>congrArg (·+1) (qdX m n)
def tx (l:List Bool):List UInt8:=l.map fun b=>bif b then 49 else 48
theorem qvx (l:List Bool):(tx l).length=l.length:=List.length_map ..
theorem qOt (n:Nat):toByte (IntKind.wrap IntKind.u8 (w64 (48+Int.tmod (n:Int) 2)))=(bif n % 2==1 then 49 else 48):=by
 rw[qmh _ _ (by omega)]
 have h:(n:Int) % 2=((n % 2:Nat):Int):=by omega
 rw[h]
 rcases Nat.mod_two_eq_zero_or_one n with h |h<;>rw[h]<;>rfl
theorem qB6 (n:Nat) (h:n<4294967296):w64 (Int.tdiv (n:Int) 2)=((n / 2:Nat):Int):=by
 rw[qpS _ _ (by omega),qt (by omega) (by omega)]
 omega
abbrev qhs:List Ty:=[(.int .i64)]
abbrev qkd:Sh:=Sh.ty Ty.str
def qfm (x:qc qhs):PO (Sh.den qkd) :=
 (.ret ([toByte (IntKind.wrap IntKind.u8 (w64 (48+Int.tmod (w64 (Int.tdiv (w64 (Int.tdiv (w64 (Int.tdiv (w64 (Int.tdiv (w64 (Int.tdiv (w64 (Int.tdiv (w64 (Int.tdiv (w64 (Int.tdiv (w64 (Int.tdiv (w64 (Int.tdiv (w64 (Int.tdiv (w64 (Int.tdiv (w64 (Int.tdiv (w64 (Int.tdiv (w64 (Int.tdiv x 2)) 2)) 2)) 2)) 2)) 2)) 2)) 2)) 2)) 2)) 2)) 2)) 2)) 2)) 2)) 2))),toByte (IntKind.wrap IntKind.u8 (w64 (48+Int.tmod (w64 (Int.tdiv (w64 (Int.tdiv (w64 (Int.tdiv (w64 (Int.tdiv (w64 (Int.tdiv (w64 (Int.tdiv (w64 (Int.tdiv (w64 (Int.tdiv (w64 (Int.tdiv (w64 (Int.tdiv (w64 (Int.tdiv (w64 (Int.tdiv (w64 (Int.tdiv (w64 (Int.tdiv x 2)) 2)) 2)) 2)) 2)) 2)) 2)) 2)) 2)) 2)) 2)) 2)) 2)) 2)) 2))),toByte (IntKind.wrap IntKind.u8 (w64 (48+Int.tmod (w64 (Int.tdiv (w64 (Int.tdiv (w64 (Int.tdiv (w64 (Int.tdiv (w64 (Int.tdiv (w64 (Int.tdiv (w64 (Int.tdiv (w64 (Int.tdiv (w64 (Int.tdiv (w64 (Int.tdiv (w64 (Int.tdiv (w64 (Int.tdiv (w64 (Int.tdiv x 2)) 2)) 2)) 2)) 2)) 2)) 2)) 2)) 2)) 2)) 2)) 2)) 2)) 2))),toByte (IntKind.wrap IntKind.u8 (w64 (48+Int.tmod (w64 (Int.tdiv (w64 (Int.tdiv (w64 (Int.tdiv (w64 (Int.tdiv (w64 (Int.tdiv (w64 (Int.tdiv (w64 (Int.tdiv (w64 (Int.tdiv (w64 (Int.tdiv (w64 (Int.tdiv (w64 (Int.tdiv (w64 (Int.tdiv x 2)) 2)) 2)) 2)) 2)) 2)) 2)) 2)) 2)) 2)) 2)) 2)) 2))),toByte (IntKind.wrap IntKind.u8 (w64 (48+Int.tmod (w64 (Int.tdiv (w64 (Int.tdiv (w64 (Int.tdiv (w64 (Int.tdiv (w64 (Int.tdiv (w64 (Int.tdiv (w64 (Int.tdiv (w64 (Int.tdiv (w64 (Int.tdiv (w64 (Int.tdiv (w64 (Int.tdiv x 2)) 2)) 2)) 2)) 2)) 2)) 2)) 2)) 2)) 2)) 2)) 2))),toByte (IntKind.wrap IntKind.u8 (w64 (48+Int.tmod (w64 (Int.tdiv (w64 (Int.tdiv (w64 (Int.tdiv (w64 (Int.tdiv (w64 (Int.tdiv (w64 (Int.tdiv (w64 (Int.tdiv (w64 (Int.tdiv (w64 (Int.tdiv (w64 (Int.tdiv x 2)) 2)) 2)) 2)) 2)) 2)) 2)) 2)) 2)) 2)) 2))),toByte (IntKind.wrap IntKind.u8 (w64 (48+Int.tmod (w64 (Int.tdiv (w64 (Int.tdiv (w64 (Int.tdiv (w64 (Int.tdiv (w64 (Int.tdiv (w64 (Int.tdiv (w64 (Int.tdiv (w64 (Int.tdiv (w64 (Int.tdiv x 2)) 2)) 2)) 2)) 2)) 2)) 2)) 2)) 2)) 2))),toByte (IntKind.wrap IntKind.u8 (w64 (48+Int.tmod (w64 (Int.tdiv (w64 (Int.tdiv (w64 (Int.tdiv (w64 (Int.tdiv (w64 (Int.tdiv (w64 (Int.tdiv (w64 (Int.tdiv (w64 (Int.tdiv x 2)) 2)) 2)) 2)) 2)) 2)) 2)) 2)) 2))),toByte (IntKind.wrap IntKind.u8 (w64 (48+Int.tmod (w64 (Int.tdiv (w64 (Int.tdiv (w64 (Int.tdiv (w64 (Int.tdiv (w64 (Int.tdiv (w64 (Int.tdiv (w64 (Int.tdiv x 2)) 2)) 2)) 2)) 2)) 2)) 2)) 2))),toByte (IntKind.wrap IntKind.u8 (w64 (48+Int.tmod (w64 (Int.tdiv (w64 (Int.tdiv (w64 (Int.tdiv (w64 (Int.tdiv (w64 (Int.tdiv (w64 (Int.tdiv x 2)) 2)) 2)) 2)) 2)) 2)) 2))),toByte (IntKind.wrap IntKind.u8 (w64 (48+Int.tmod (w64 (Int.tdiv (w64 (Int.tdiv (w64 (Int.tdiv (w64 (Int.tdiv (w64 (Int.tdiv x 2)) 2)) 2)) 2)) 2)) 2))),toByte (IntKind.wrap IntKind.u8 (w64 (48+Int.tmod (w64 (Int.tdiv (w64 (Int.tdiv (w64 (Int.tdiv (w64 (Int.tdiv x 2)) 2)) 2)) 2)) 2))),toByte (IntKind.wrap IntKind.u8 (w64 (48+Int.tmod (w64 (Int.tdiv (w64 (Int.tdiv (w64 (Int.tdiv x 2)) 2)) 2)) 2))),toByte (IntKind.wrap IntKind.u8 (w64 (48+Int.tmod (w64 (Int.tdiv (w64 (Int.tdiv x 2)) 2)) 2))),toByte (IntKind.wrap IntKind.u8 (w64 (48+Int.tmod (w64 (Int.tdiv x 2)) 2))),toByte (IntKind.wrap IntKind.u8 (w64 (48+Int.tmod x 2)))]))
def qnn (_:qc qhs):Bool:=true
def qhn (x:qc qhs):Sh.den qkd:=(qfm x).qP default
theorem qSs (n:Nat) (h:n<65536):(qfm (n:Int)).val=some (tx (qR 16 n)):=by
 have e:∀k,k≤16→w64 (Int.tdiv ((n / 2 ^ k:Nat):Int) 2)=((n / 2 ^ (k+1):Nat):Int):=fun k _=>by
  rw[qB6 _ (Nat.lt_of_le_of_lt (Nat.div_le_self ..) (by omega)),Nat.div_div_eq_div_mul,Nat.pow_succ]
 have e0:w64 (Int.tdiv (n:Int) 2)=((n / 2 ^ 1:Nat):Int):=qB6 n (by omega)
 unfold qfm PO.val
 rw[e0,e 1 (by omega),e 2 (by omega),e 3 (by omega),e 4 (by omega),e 5 (by omega),e 6 (by omega),e 7 (by omega),e 8 (by omega),e 9 (by omega),e 10 (by omega),e 11 (by omega),e 12 (by omega),e 13 (by omega),e 14 (by omega)]
 simp only[qOt]
 simp only[qR,tx,List.map,Nat.pow_zero,Nat.div_one]
theorem qrg (x:qc qhs) (_:qnn x=true):(qfm x).val=some (qhn x):=PO.qb1 default (by simp[qfm,PO.sure])
theorem qRk (n:Nat) (h:n<65536):qhn (n:Int)=tx (qR 16 n):=by
 have:=qrg (n:Int) rfl
 rw[qSs n h] at this
 exact(Option.some.inj this).symm
def qdB:LoopN where
 M:=[0,3,4]
 T:=[5,6,7,8,9,10,11]
 D:=[0,4]
 ss:=[.ty (.int .i64),.ty (.int .i64),.ty (.int .i64)]
 hs:=[]
 es:=[.exit 0]
 σ:=(Ty.den (.int .i64))×(Ty.den (.int .i64))
 x0:=fun x _=>(x.2.1,x.2.2)
 put:=fun x _ s=>((x.1,s.1,s.2),())
 fuel:=fun x _=>Int.toNat x.1+1
 turn:=fun x _ s =>
 (.ite (decide (s.2<x.1))
  (.ret (.on (w64 (s.1*2),w64 (s.2+1))))
  (.ret (.out 0 (s.1,s.2))))
abbrev qgP:List Ty:=[(.int .i64)]
abbrev qjt:Sh:=Sh.ty (Ty.int IntKind.i64)
def qjp (x:qc qgP):PO (Sh.den qjt) :=
 (.opt (LoopN.res qdB (x,1,0) ()) fun p0 =>
  (.ret (p0.2.1)))
def qcj (x:qc qgP):Bool:=decide ((0:Int)≤x)&&decide ((x:Int)≤62)
def qV (x:qc qgP):Sh.den qjt:=((2 ^ Int.toNat x:Nat):Int)
theorem qEt (i n:Nat) (hi:i<n) (hn:n≤62):w64 (((2 ^ i:Nat):Int)*2)=((2 ^ (i+1):Nat):Int):=by
 have h2:2 ^ (i+1)≤2 ^ 62:=qeM (by omega)
 have h3:((2 ^ i:Nat):Int)*2=((2 ^ (i+1):Nat):Int):=by rw[Nat.pow_succ];simp
 rw[h3]
 generalize 2 ^ (i+1)=q at h2 ⊢
 rw[qt (by omega) (by omega)]
theorem qLz (n:Nat) (hn:n≤62):qcE (qdB.turn ((n:Int),1,0) ()) (n+1) (1,0)=some (0,((2 ^ n:Nat):Int),(n:Int)):=by
 refine qgC (σ:=Int×Int) (fun i=>(((2 ^ i:Nat):Int),(i:Int))) (0,((2 ^ n:Nat):Int),(n:Int)) (n:=n) (fun i hi=>?_) ?_ n 0 (by omega) _ (by omega)
 ·simp only[qdB,PO.val,qJ (show(i:Int)<(n:Int) by omega),cond_true]
  rw[qEt i n hi hn,qt (n:=(i:Int)+1) (by omega) (by omega)]
  rfl
 ·simp only[qdB,PO.val,qS (show ¬(n:Int)<(n:Int) by omega),cond_false]
theorem qOn (x:Int) (h1:0≤x) (h2:x≤62):(qjp x).val=some (qV x):=by
 obtain⟨n,rfl⟩:=Int.eq_ofNat_of_zero_le h1
 have h1:LoopN.res qdB ((n:Int),1,0) ()=some (0,((2 ^ n:Nat):Int),(n:Int)):=qLz n (by omega)
 unfold qjp PO.val
 rw[h1]
 rfl
theorem qvn (x:qc qgP) (h:qcj x=true):(qjp x).val=some (qV x):=by
 simp only[qcj,Bool.and_eq_true,decide_eq_true_eq] at h
 exact qOn x h.1 h.2
def qex:LoopN where
 M:=[0,1,5,6]
 T:=[7,8,9,10,11,12,13]
 D:=[1,6]
 ss:=[.ty (.int .i64),.ty (.int .i64),.ty (.int .i64),.ty (.int .i64)]
 hs:=[]
 es:=[.exit 0]
 σ:=(Ty.den (.int .i64))×(Ty.den (.int .i64))
 x0:=fun x _=>(x.2.2.1,x.2.2.2)
 put:=fun x _ s=>((x.1,x.2.1,s.1,s.2),())
 fuel:=fun x _=>Int.toNat x.2.1+1
 turn:=fun x _ s =>
 (.ite (decide (s.2<x.2.1))
  (.ret (.on (w64 (s.1*2),w64 (s.2+1))))
  (.ret (.out 0 (s.1,s.2))))
abbrev qho:List Ty:=[(.int .i64),(.int .i64)]
abbrev qjY:Sh:=Sh.ty (Ty.int IntKind.i64)
def qht (x:qc qho):PO (Sh.den qjY) :=
 (.opt (LoopN.res qex (x.1,x.2,1,0) ()) fun p0 =>
  (.ite (decide (x.1≥p0.2.1))
  (.ret (w64 (x.1-w64 (2*p0.2.1))))
  (.ret (x.1))))
def qb3 (x:qc qho):Bool:=decide ((0:Int)≤x.2)&&(decide ((x.2:Int)≤24)&&(decide ((-4294967296:Int)≤x.1)&&decide ((x.1:Int)<4294967296)))
def qH (x:qc qho):Sh.den qjY:=bif decide ((x.1:Int)≥(2 ^ Int.toNat x.2:Nat)) then(x.1-2*(2 ^ Int.toNat x.2:Nat):Int) else x.1
theorem qRl (z:Int) (n:Nat) (hn:n≤24) (h1:-4294967296≤z) (h2:z<4294967296):(qht (z,(n:Int))).val=some (qH (z,(n:Int))):=by
 have hr:LoopN.res qex (z,(n:Int),1,0) ()=some (0,((2 ^ n:Nat):Int),(n:Int)):=by
  refine qgC (σ:=Int×Int) (fun i=>(((2 ^ i:Nat):Int),(i:Int))) (0,((2 ^ n:Nat):Int),(n:Int)) (n:=n) (fun i hi=>?_) ?_ n 0 (by omega) _ (by show n<Int.toNat (n:Int)+1;omega)
  ·simp only[qex,PO.val,qJ (show(i:Int)<(n:Int) by omega),cond_true]
   rw[qEt i n hi (by omega),qt (n:=(i:Int)+1) (by omega) (by omega)]
   rfl
  ·simp only[qex,PO.val,qS (show ¬(n:Int)<(n:Int) by omega),cond_false]
 have hp:2 ^ n≤2 ^ 24:=qeM hn
 unfold qht qH PO.val
 rw[hr]
 dsimp only[way,PO.val]
 rw[Int.toNat_natCast]
 generalize 2 ^ n=q at hp ⊢
 rw[qt (n:=2*(q:Int)) (by omega) (by omega),qt (n:=z-2*(q:Int)) (by omega) (by omega)]
 cases decide (z≥(q:Int))<;>rfl
theorem qQo (z m:Int) (h1:0≤m) (h2:m≤24) (h3:-4294967296≤z) (h4:z<4294967296):(qht (z,m)).val=some (qH (z,m)):=by
 obtain⟨n,rfl⟩:=Int.eq_ofNat_of_zero_le h1
 exact qRl z n (by omega) h3 h4
theorem qwm (x:qc qho) (h:qb3 x=true):(qht x).val=some (qH x):=by
 simp only[qb3,Bool.and_eq_true,decide_eq_true_eq] at h
 exact qQo x.1 x.2 h.1 h.2.1 h.2.2.1 h.2.2.2
abbrev qhk:List Ty:=[.str,(.int .i64)]
abbrev qke:Sh:=Sh.ty Ty.str
def qj9 (x:qc qhk):PO (Sh.den qke) :=
 (.ite (inRange (w64 (2*x.2)) (List.length x.1)&&(inRange (w64 (w64 (2*x.2)+1)) (List.length x.1)&&true))
  (.ret (qhn (w64 (w64 (u8I (List.getD x.1 (Int.toNat (w64 (2*x.2))) 0))+w64 (256*w64 (u8I (List.getD x.1 (Int.toNat (w64 (w64 (2*x.2)+1))) 0)))))))
  .fail)
def qb2 (x:qc qhk):Bool:=(x.2==0&&decide (2≤qg x.1))||(x.2==1&&decide (4≤qg x.1))
def qbr (x:qc qhk):Sh.den qke:=tx (qR 16 (qfi x.1 x.2.toNat))
theorem qB7 (s:List UInt8) (k:Nat) (hk:k≤1) (h:2*k+2≤s.length):(qj9 (s,(k:Int))).val=some (tx (qR 16 (qfi s k))):=by
 have e1:w64 (2*(k:Int))=((2*k:Nat):Int):=by rw[qt (by omega) (by omega)];omega
 have e2:w64 (((2*k:Nat):Int)+1)=((2*k+1:Nat):Int):=by rw[qt (by omega) (by omega)];omega
 have l1:=(s.getD (2*k) 0).toNat_lt
 have l2:=(s.getD (2*k+1) 0).toNat_lt
 unfold qj9 PO.val
 dsimp only
 rw[e1,e2,inR (show 2*k<s.length by omega),inR (show 2*k+1<s.length by omega),qhD,qhD]
 have hh:=qzf s k
 have e:qfi s k=(s.getD (2*k) 0).toNat+256*(s.getD (2*k+1) 0).toNat:=rfl
 unfold u8I
 generalize (s.getD (2*k) 0).toNat=a at *
 generalize (s.getD (2*k+1) 0).toNat=b at *
 rw[qrs (by omega),qrs (by omega),qt (n:=256*(b:Int)) (by omega) (by omega),qt (n:=(a:Int)+256*(b:Int)) (by omega) (by omega),show(a:Int)+256*(b:Int)=((qfi s k:Nat):Int) by omega]
 exact congrArg some (qRk _ hh)
theorem qww (x:qc qhk) (h:qb2 x=true):(qj9 x).val=some (qbr x):=by
 obtain⟨s,n⟩:=x
 simp only[qb2,Bool.or_eq_true,Bool.and_eq_true,beq_iff_eq,decide_eq_true_eq] at h
 rcases h with⟨h,hl⟩ |⟨h,hl⟩
 ·subst h
  exact qB7 s 0 (by omega) (by simp only[qg] at hl;omega)
 ·subst h
  exact qB7 s 1 (by omega) (by simp only[qg] at hl;omega)
abbrev qhl:List Ty:=[.str]
abbrev qkf:Sh:=Sh.ty (Ty.int IntKind.i64)
def qft (x:qc qhl):PO (Sh.den qkf) :=
 (.ite (decide (qg x<2))
  (.ret (0))
  (.ite (qb2 (x,0)&&(decide (5≤qg (qbr (x,0)))&&true&&true))
  (.ite (List.drop (Int.toNat 0) (List.take (Int.toNat 5) (qbr (x,0)))==[49,49,49,48,49]||(List.drop (Int.toNat 0) (List.take (Int.toNat 5) (qbr (x,0)))==[49,49,49,49,48]||List.drop (Int.toNat 0) (List.take (Int.toNat 5) (qbr (x,0)))==[49,49,49,49,49]))
   (.ret (4))
   (.ret (2)))
  .fail))
def qfq (x:qc qhl):Bool:=(qft x).val.isSome
def qcM (x:qc qhl):Sh.den qkf:=(qft x).qP default
theorem qwk (x:qc qhl) (h:qfq x=true):(qft x).val=some (qcM x):=PO.qb4 default h
def qcd:LoopN where
 M:=[0,1,2,6,7,8,9,10,11,12,13,14]
 T:=[15,32,33,34,35,36,37,38,39,40,41,42,43,44,45,46,47,48,49,50,51,52,53,54,55,56,57,58,59,60,61,62,63,64,65,66,67,68,69,70,71,72,73,74,75,76,77,78,79,80]
 D:=[2,8,14]
 ss:=[.ty (.int .i64),.ty .bool,.ty .str,.box 0 0,.ty .bool,.ty .str,.box 1 0,.box 2 0,.ty (.int .i64),.ty (.int .i64),.ty (.int .i64),.ty (.int .i64)]
 hs:=[.ty q9,.ty q9,.ty (.int .i64)]
 es:=[.exit 0,.ret]
 σ:=(Ty.den .bool)×(Ty.den (.int .i64))×(Ty.den (.int .i64))×(Ty.den (.int .i64))×(Ty.den (.int .i64))×(Sh.den (.ty q9))×(Sh.den (.ty q9))×(Sh.den (.ty (.int .i64)))
 x0:=fun x y=>(x.2.2.2.2.1,x.2.2.2.2.2.2.2.2.1,x.2.2.2.2.2.2.2.2.2.1,x.2.2.2.2.2.2.2.2.2.2.1,x.2.2.2.2.2.2.2.2.2.2.2,y.1,y.2.1,y.2.2)
 put:=fun x _ s=>((x.1,x.2.1,x.2.2.1,x.2.2.2.1,s.1,x.2.2.2.2.2.1,x.2.2.2.2.2.2.1,x.2.2.2.2.2.2.2.1,s.2.1,s.2.2.1,s.2.2.2.1,s.2.2.2.2.1),(s.2.2.2.2.2.1,s.2.2.2.2.2.2.1,s.2.2.2.2.2.2.2))
 fuel:=fun _ _=>40
 turn:=fun x _ s =>
 (.ite (decide (s.2.2.2.2.1<qg x.2.2.2.2.2.1))
  (.ite (inRange s.2.2.2.2.1 (List.length x.2.2.1))
  (.ite (inRange s.2.2.2.2.1 (List.length x.2.2.2.2.2.1)&&bif u8I (List.getD x.2.2.2.2.2.1 (Int.toNat s.2.2.2.2.1) 0)==48 then inRange s.2.2.2.2.1 (List.length x.2.2.2.2.2.1)&&inRange s.2.2.2.2.1 (List.length x.2.2.1) else inRange s.2.2.2.2.1 (List.length x.2.2.2.2.2.1)&&bif u8I (List.getD x.2.2.2.2.2.1 (Int.toNat s.2.2.2.2.1) 0)==49 then inRange s.2.2.2.2.1 (List.length x.2.2.2.2.2.1)&&inRange s.2.2.2.2.1 (List.length x.2.2.1) else true)
   (.ite (bif u8I (List.getD x.2.2.2.2.2.1 (Int.toNat s.2.2.2.2.1) 0)==48 then u8I (List.getD x.2.2.2.2.2.1 (Int.toNat s.2.2.2.2.1) 0) != u8I (List.getD x.2.2.1 (Int.toNat s.2.2.2.2.1) 0) else u8I (List.getD x.2.2.2.2.2.1 (Int.toNat s.2.2.2.2.1) 0)==49&&u8I (List.getD x.2.2.2.2.2.1 (Int.toNat s.2.2.2.2.1) 0) != u8I (List.getD x.2.2.1 (Int.toNat s.2.2.2.2.1) 0))
   (.ret (.out 1 (false,s.2.1,s.2.2.1,s.2.2.2.1,s.2.2.2.2.1,(0,0,0,0,0,0,0,false,()),s.2.2.2.2.2.2.1,s.2.2.2.2.2.2.2)))
   (.ite (inRange s.2.2.2.2.1 (List.length x.2.2.2.2.2.1))
    (.ite (inRange s.2.2.2.2.1 (List.length x.2.2.2.2.2.1))
    (.ite (u8I (List.getD x.2.2.2.2.2.1 (Int.toNat s.2.2.2.2.1) 0)==100)
     (.ret (.on (s.1,bif u8I (List.getD x.2.2.2.2.2.1 (Int.toNat s.2.2.2.2.1) 0)==120 then w64 (IntKind.wrap IntKind.u8 (u8I (List.getD x.2.2.1 (Int.toNat s.2.2.2.2.1) 0)-48)) else s.2.1,bif u8I (List.getD x.2.2.2.2.2.1 (Int.toNat s.2.2.2.2.1) 0)==120 then s.2.2.1 else bif u8I (List.getD x.2.2.2.2.2.1 (Int.toNat s.2.2.2.2.1) 0)==121 then w64 (IntKind.wrap IntKind.u8 (u8I (List.getD x.2.2.1 (Int.toNat s.2.2.2.2.1) 0)-48)) else s.2.2.1,bif u8I (List.getD x.2.2.2.2.2.1 (Int.toNat s.2.2.2.2.1) 0)==120 then s.2.2.2.1 else bif u8I (List.getD x.2.2.2.2.2.1 (Int.toNat s.2.2.2.2.1) 0)==121 then s.2.2.2.1 else bif u8I (List.getD x.2.2.2.2.2.1 (Int.toNat s.2.2.2.2.1) 0)==89 then w64 (IntKind.wrap IntKind.u8 (u8I (List.getD x.2.2.1 (Int.toNat s.2.2.2.2.1) 0)-48)) else s.2.2.2.1,w64 (s.2.2.2.2.1+1),s.2.2.2.2.2.1,(s.2.2.2.2.2.2.1.1,w64 (w64 (2*s.2.2.2.2.2.2.1.2.1)+w64 (IntKind.wrap IntKind.u8 (u8I (List.getD x.2.2.1 (Int.toNat s.2.2.2.2.1) 0)-48))),s.2.2.2.2.2.2.1.2.2),s.2.2.2.2.2.2.2)))
     (.ite (u8I (List.getD x.2.2.2.2.2.1 (Int.toNat s.2.2.2.2.1) 0)==110)
     (.ret (.on (s.1,bif u8I (List.getD x.2.2.2.2.2.1 (Int.toNat s.2.2.2.2.1) 0)==120 then w64 (IntKind.wrap IntKind.u8 (u8I (List.getD x.2.2.1 (Int.toNat s.2.2.2.2.1) 0)-48)) else s.2.1,bif u8I (List.getD x.2.2.2.2.2.1 (Int.toNat s.2.2.2.2.1) 0)==120 then s.2.2.1 else bif u8I (List.getD x.2.2.2.2.2.1 (Int.toNat s.2.2.2.2.1) 0)==121 then w64 (IntKind.wrap IntKind.u8 (u8I (List.getD x.2.2.1 (Int.toNat s.2.2.2.2.1) 0)-48)) else s.2.2.1,bif u8I (List.getD x.2.2.2.2.2.1 (Int.toNat s.2.2.2.2.1) 0)==120 then s.2.2.2.1 else bif u8I (List.getD x.2.2.2.2.2.1 (Int.toNat s.2.2.2.2.1) 0)==121 then s.2.2.2.1 else bif u8I (List.getD x.2.2.2.2.2.1 (Int.toNat s.2.2.2.2.1) 0)==89 then w64 (IntKind.wrap IntKind.u8 (u8I (List.getD x.2.2.1 (Int.toNat s.2.2.2.2.1) 0)-48)) else s.2.2.2.1,w64 (s.2.2.2.2.1+1),s.2.2.2.2.2.1,(s.2.2.2.2.2.2.1.1,s.2.2.2.2.2.2.1.2.1,w64 (w64 (2*s.2.2.2.2.2.2.1.2.2.1)+w64 (IntKind.wrap IntKind.u8 (u8I (List.getD x.2.2.1 (Int.toNat s.2.2.2.2.1) 0)-48))),s.2.2.2.2.2.2.1.2.2.2),s.2.2.2.2.2.2.2)))
     (.ite (u8I (List.getD x.2.2.2.2.2.1 (Int.toNat s.2.2.2.2.1) 0)==109)
      (.ret (.on (s.1,bif u8I (List.getD x.2.2.2.2.2.1 (Int.toNat s.2.2.2.2.1) 0)==120 then w64 (IntKind.wrap IntKind.u8 (u8I (List.getD x.2.2.1 (Int.toNat s.2.2.2.2.1) 0)-48)) else s.2.1,bif u8I (List.getD x.2.2.2.2.2.1 (Int.toNat s.2.2.2.2.1) 0)==120 then s.2.2.1 else bif u8I (List.getD x.2.2.2.2.2.1 (Int.toNat s.2.2.2.2.1) 0)==121 then w64 (IntKind.wrap IntKind.u8 (u8I (List.getD x.2.2.1 (Int.toNat s.2.2.2.2.1) 0)-48)) else s.2.2.1,bif u8I (List.getD x.2.2.2.2.2.1 (Int.toNat s.2.2.2.2.1) 0)==120 then s.2.2.2.1 else bif u8I (List.getD x.2.2.2.2.2.1 (Int.toNat s.2.2.2.2.1) 0)==121 then s.2.2.2.1 else bif u8I (List.getD x.2.2.2.2.2.1 (Int.toNat s.2.2.2.2.1) 0)==89 then w64 (IntKind.wrap IntKind.u8 (u8I (List.getD x.2.2.1 (Int.toNat s.2.2.2.2.1) 0)-48)) else s.2.2.2.1,w64 (s.2.2.2.2.1+1),s.2.2.2.2.2.1,(s.2.2.2.2.2.2.1.1,s.2.2.2.2.2.2.1.2.1,s.2.2.2.2.2.2.1.2.2.1,w64 (w64 (2*s.2.2.2.2.2.2.1.2.2.2.1)+w64 (IntKind.wrap IntKind.u8 (u8I (List.getD x.2.2.1 (Int.toNat s.2.2.2.2.1) 0)-48))),s.2.2.2.2.2.2.1.2.2.2.2),s.2.2.2.2.2.2.2)))
      (.ite (u8I (List.getD x.2.2.2.2.2.1 (Int.toNat s.2.2.2.2.1) 0)==97)
      (.ret (.on (s.1,bif u8I (List.getD x.2.2.2.2.2.1 (Int.toNat s.2.2.2.2.1) 0)==120 then w64 (IntKind.wrap IntKind.u8 (u8I (List.getD x.2.2.1 (Int.toNat s.2.2.2.2.1) 0)-48)) else s.2.1,bif u8I (List.getD x.2.2.2.2.2.1 (Int.toNat s.2.2.2.2.1) 0)==120 then s.2.2.1 else bif u8I (List.getD x.2.2.2.2.2.1 (Int.toNat s.2.2.2.2.1) 0)==121 then w64 (IntKind.wrap IntKind.u8 (u8I (List.getD x.2.2.1 (Int.toNat s.2.2.2.2.1) 0)-48)) else s.2.2.1,bif u8I (List.getD x.2.2.2.2.2.1 (Int.toNat s.2.2.2.2.1) 0)==120 then s.2.2.2.1 else bif u8I (List.getD x.2.2.2.2.2.1 (Int.toNat s.2.2.2.2.1) 0)==121 then s.2.2.2.1 else bif u8I (List.getD x.2.2.2.2.2.1 (Int.toNat s.2.2.2.2.1) 0)==89 then w64 (IntKind.wrap IntKind.u8 (u8I (List.getD x.2.2.1 (Int.toNat s.2.2.2.2.1) 0)-48)) else s.2.2.2.1,w64 (s.2.2.2.2.1+1),s.2.2.2.2.2.1,(s.2.2.2.2.2.2.1.1,s.2.2.2.2.2.2.1.2.1,s.2.2.2.2.2.2.1.2.2.1,s.2.2.2.2.2.2.1.2.2.2.1,w64 (w64 (2*s.2.2.2.2.2.2.1.2.2.2.2.1)+w64 (IntKind.wrap IntKind.u8 (u8I (List.getD x.2.2.1 (Int.toNat s.2.2.2.2.1) 0)-48))),s.2.2.2.2.2.2.1.2.2.2.2.2),s.2.2.2.2.2.2.2)))
      (.ite (u8I (List.getD x.2.2.2.2.2.1 (Int.toNat s.2.2.2.2.1) 0)==99)
       (.ret (.on (s.1,bif u8I (List.getD x.2.2.2.2.2.1 (Int.toNat s.2.2.2.2.1) 0)==120 then w64 (IntKind.wrap IntKind.u8 (u8I (List.getD x.2.2.1 (Int.toNat s.2.2.2.2.1) 0)-48)) else s.2.1,bif u8I (List.getD x.2.2.2.2.2.1 (Int.toNat s.2.2.2.2.1) 0)==120 then s.2.2.1 else bif u8I (List.getD x.2.2.2.2.2.1 (Int.toNat s.2.2.2.2.1) 0)==121 then w64 (IntKind.wrap IntKind.u8 (u8I (List.getD x.2.2.1 (Int.toNat s.2.2.2.2.1) 0)-48)) else s.2.2.1,bif u8I (List.getD x.2.2.2.2.2.1 (Int.toNat s.2.2.2.2.1) 0)==120 then s.2.2.2.1 else bif u8I (List.getD x.2.2.2.2.2.1 (Int.toNat s.2.2.2.2.1) 0)==121 then s.2.2.2.1 else bif u8I (List.getD x.2.2.2.2.2.1 (Int.toNat s.2.2.2.2.1) 0)==89 then w64 (IntKind.wrap IntKind.u8 (u8I (List.getD x.2.2.1 (Int.toNat s.2.2.2.2.1) 0)-48)) else s.2.2.2.1,w64 (s.2.2.2.2.1+1),s.2.2.2.2.2.1,(s.2.2.2.2.2.2.1.1,s.2.2.2.2.2.2.1.2.1,s.2.2.2.2.2.2.1.2.2.1,s.2.2.2.2.2.2.1.2.2.2.1,s.2.2.2.2.2.2.1.2.2.2.2.1,s.2.2.2.2.2.2.1.2.2.2.2.2.1,w64 (w64 (2*s.2.2.2.2.2.2.1.2.2.2.2.2.2.1)+w64 (IntKind.wrap IntKind.u8 (u8I (List.getD x.2.2.1 (Int.toNat s.2.2.2.2.1) 0)-48))),s.2.2.2.2.2.2.1.2.2.2.2.2.2.2),s.2.2.2.2.2.2.2)))
       (.ite (u8I (List.getD x.2.2.2.2.2.1 (Int.toNat s.2.2.2.2.1) 0)==119)
       (.ret (.on (s.1,bif u8I (List.getD x.2.2.2.2.2.1 (Int.toNat s.2.2.2.2.1) 0)==120 then w64 (IntKind.wrap IntKind.u8 (u8I (List.getD x.2.2.1 (Int.toNat s.2.2.2.2.1) 0)-48)) else s.2.1,bif u8I (List.getD x.2.2.2.2.2.1 (Int.toNat s.2.2.2.2.1) 0)==120 then s.2.2.1 else bif u8I (List.getD x.2.2.2.2.2.1 (Int.toNat s.2.2.2.2.1) 0)==121 then w64 (IntKind.wrap IntKind.u8 (u8I (List.getD x.2.2.1 (Int.toNat s.2.2.2.2.1) 0)-48)) else s.2.2.1,bif u8I (List.getD x.2.2.2.2.2.1 (Int.toNat s.2.2.2.2.1) 0)==120 then s.2.2.2.1 else bif u8I (List.getD x.2.2.2.2.2.1 (Int.toNat s.2.2.2.2.1) 0)==121 then s.2.2.2.1 else bif u8I (List.getD x.2.2.2.2.2.1 (Int.toNat s.2.2.2.2.1) 0)==89 then w64 (IntKind.wrap IntKind.u8 (u8I (List.getD x.2.2.1 (Int.toNat s.2.2.2.2.1) 0)-48)) else s.2.2.2.1,w64 (s.2.2.2.2.1+1),s.2.2.2.2.2.1,s.2.2.2.2.2.2.1,w64 (w64 (2*s.2.2.2.2.2.2.2)+w64 (IntKind.wrap IntKind.u8 (u8I (List.getD x.2.2.1 (Int.toNat s.2.2.2.2.1) 0)-48))))))
       (.ite (bif u8I (List.getD x.2.2.2.2.2.1 (Int.toNat s.2.2.2.2.1) 0)==120 then u8I (List.getD x.2.2.2.2.2.1 (Int.toNat s.2.2.2.2.1) 0)==120 else bif u8I (List.getD x.2.2.2.2.2.1 (Int.toNat s.2.2.2.2.1) 0)==121 then u8I (List.getD x.2.2.2.2.2.1 (Int.toNat s.2.2.2.2.1) 0)==121 else bif u8I (List.getD x.2.2.2.2.2.1 (Int.toNat s.2.2.2.2.1) 0)==48 then u8I (List.getD x.2.2.2.2.2.1 (Int.toNat s.2.2.2.2.1) 0)==48 else u8I (List.getD x.2.2.2.2.2.1 (Int.toNat s.2.2.2.2.1) 0)==49)
        (.ret (.on (s.1,bif u8I (List.getD x.2.2.2.2.2.1 (Int.toNat s.2.2.2.2.1) 0)==120 then w64 (IntKind.wrap IntKind.u8 (u8I (List.getD x.2.2.1 (Int.toNat s.2.2.2.2.1) 0)-48)) else s.2.1,bif u8I (List.getD x.2.2.2.2.2.1 (Int.toNat s.2.2.2.2.1) 0)==120 then s.2.2.1 else bif u8I (List.getD x.2.2.2.2.2.1 (Int.toNat s.2.2.2.2.1) 0)==121 then w64 (IntKind.wrap IntKind.u8 (u8I (List.getD x.2.2.1 (Int.toNat s.2.2.2.2.1) 0)-48)) else s.2.2.1,bif u8I (List.getD x.2.2.2.2.2.1 (Int.toNat s.2.2.2.2.1) 0)==120 then s.2.2.2.1 else bif u8I (List.getD x.2.2.2.2.2.1 (Int.toNat s.2.2.2.2.1) 0)==121 then s.2.2.2.1 else bif u8I (List.getD x.2.2.2.2.2.1 (Int.toNat s.2.2.2.2.1) 0)==89 then w64 (IntKind.wrap IntKind.u8 (u8I (List.getD x.2.2.1 (Int.toNat s.2.2.2.2.1) 0)-48)) else s.2.2.2.1,w64 (s.2.2.2.2.1+1),s.2.2.2.2.2.1,s.2.2.2.2.2.2.1,s.2.2.2.2.2.2.2)))
        (.ite (qcj (w64 (IntKind.wrap IntKind.u8 (u8I (List.getD x.2.2.2.2.2.1 (Int.toNat s.2.2.2.2.1) 0)-65))))
        (.ret (.on (s.1,bif u8I (List.getD x.2.2.2.2.2.1 (Int.toNat s.2.2.2.2.1) 0)==120 then w64 (IntKind.wrap IntKind.u8 (u8I (List.getD x.2.2.1 (Int.toNat s.2.2.2.2.1) 0)-48)) else s.2.1,bif u8I (List.getD x.2.2.2.2.2.1 (Int.toNat s.2.2.2.2.1) 0)==120 then s.2.2.1 else bif u8I (List.getD x.2.2.2.2.2.1 (Int.toNat s.2.2.2.2.1) 0)==121 then w64 (IntKind.wrap IntKind.u8 (u8I (List.getD x.2.2.1 (Int.toNat s.2.2.2.2.1) 0)-48)) else s.2.2.1,bif u8I (List.getD x.2.2.2.2.2.1 (Int.toNat s.2.2.2.2.1) 0)==120 then s.2.2.2.1 else bif u8I (List.getD x.2.2.2.2.2.1 (Int.toNat s.2.2.2.2.1) 0)==121 then s.2.2.2.1 else bif u8I (List.getD x.2.2.2.2.2.1 (Int.toNat s.2.2.2.2.1) 0)==89 then w64 (IntKind.wrap IntKind.u8 (u8I (List.getD x.2.2.1 (Int.toNat s.2.2.2.2.1) 0)-48)) else s.2.2.2.1,w64 (s.2.2.2.2.1+1),s.2.2.2.2.2.1,(s.2.2.2.2.2.2.1.1,s.2.2.2.2.2.2.1.2.1,s.2.2.2.2.2.2.1.2.2.1,s.2.2.2.2.2.2.1.2.2.2.1,s.2.2.2.2.2.2.1.2.2.2.2.1,w64 (s.2.2.2.2.2.2.1.2.2.2.2.2.1+w64 (w64 (IntKind.wrap IntKind.u8 (u8I (List.getD x.2.2.1 (Int.toNat s.2.2.2.2.1) 0)-48))*qV (w64 (IntKind.wrap IntKind.u8 (u8I (List.getD x.2.2.2.2.2.1 (Int.toNat s.2.2.2.2.1) 0)-65))))),s.2.2.2.2.2.2.1.2.2.2.2.2.2),s.2.2.2.2.2.2.2)))
        .fail))))))))
    .fail)
    .fail))
   .fail)
  .fail)
  (.ret (.out 0 (s.1,s.2.1,s.2.2.1,s.2.2.2.1,s.2.2.2.2.1,s.2.2.2.2.2.1,s.2.2.2.2.2.2.1,s.2.2.2.2.2.2.2))))
abbrev qhm:List Ty:=[(.int .i64),.bool,.str]
abbrev qkc:Sh:=Sh.tup (Sh.pair (Sh.ty q9) (Sh.pair (Sh.ty Ty.bool) (Sh.ty Ty.unit)))
def qdG (x:qc qhm):PO (Sh.den qkc) :=
 (.ite (qg (qb (x.1,x.2.1)) != qg x.2.2||qb (x.1,x.2.1)==[])
  (.ret (((0,0,0,0,0,0,0,false,()),false,())))
  (.opt (LoopN.res qcd (x.1,x.2.1,x.2.2,(),false,qb (x.1,x.2.1),(),(),0,0,0,0) ((0,0,0,0,0,0,0,false,()),(x.1,0,0,0,0,0,0,x.2.1,()),0)) fun p0 =>
  (.ite (way p0.1)
   (.ite (x.1==18)
   (.ite (qbC (p0.2.2.2.2.2.2.2.1.1,p0.2.2.2.2.2.2.2.1.2.1,p0.2.2.2.2.2.2.2.1.2.2.1,p0.2.2.2.2.2.2.2.1.2.2.2.1,w64 (w64 (p0.2.2.2.2.2.2.2.2+1)-p0.2.2.2.2.2.2.2.1.2.2.2.2.2.1),p0.2.2.2.2.2.2.2.1.2.2.2.2.2))
    (.ret (((p0.2.2.2.2.2.2.2.1.1,p0.2.2.2.2.2.2.2.1.2.1,p0.2.2.2.2.2.2.2.1.2.2.1,p0.2.2.2.2.2.2.2.1.2.2.2.1,w64 (w64 (p0.2.2.2.2.2.2.2.2+1)-p0.2.2.2.2.2.2.2.1.2.2.2.2.2.1),p0.2.2.2.2.2.2.2.1.2.2.2.2.2),qn (p0.2.2.2.2.2.2.2.1.1,p0.2.2.2.2.2.2.2.1.2.1,p0.2.2.2.2.2.2.2.1.2.2.1,p0.2.2.2.2.2.2.2.1.2.2.2.1,w64 (w64 (p0.2.2.2.2.2.2.2.2+1)-p0.2.2.2.2.2.2.2.1.2.2.2.2.2.1),p0.2.2.2.2.2.2.2.1.2.2.2.2.2)==0,())))
    .fail)
   (.ite (x.1==24&&x.2.1)
    (.ite (qcj 23)
    (.ite (qcj 22)
     (.ite (qb3 (w64 (w64 (p0.2.2.2.2.2.2.2.1.2.2.2.2.2.1+w64 (Int.tmod (w64 (w64 (p0.2.2.1+p0.2.2.2.2.1)+1)) 2*qV 23))+w64 (Int.tmod (w64 (w64 (p0.2.2.2.1+p0.2.2.2.2.1)+1)) 2*qV 22)),24))
     (.ite (qbC (p0.2.2.2.2.2.2.2.1.1,p0.2.2.2.2.2.2.2.1.2.1,p0.2.2.2.2.2.2.2.1.2.2.1,p0.2.2.2.2.2.2.2.1.2.2.2.1,p0.2.2.2.2.2.2.2.1.2.2.2.2.1,qH (w64 (w64 (p0.2.2.2.2.2.2.2.1.2.2.2.2.2.1+w64 (Int.tmod (w64 (w64 (p0.2.2.1+p0.2.2.2.2.1)+1)) 2*qV 23))+w64 (Int.tmod (w64 (w64 (p0.2.2.2.1+p0.2.2.2.2.1)+1)) 2*qV 22)),24),p0.2.2.2.2.2.2.2.1.2.2.2.2.2.2))
      (.ret (((p0.2.2.2.2.2.2.2.1.1,p0.2.2.2.2.2.2.2.1.2.1,p0.2.2.2.2.2.2.2.1.2.2.1,p0.2.2.2.2.2.2.2.1.2.2.2.1,p0.2.2.2.2.2.2.2.1.2.2.2.2.1,qH (w64 (w64 (p0.2.2.2.2.2.2.2.1.2.2.2.2.2.1+w64 (Int.tmod (w64 (w64 (p0.2.2.1+p0.2.2.2.2.1)+1)) 2*qV 23))+w64 (Int.tmod (w64 (w64 (p0.2.2.2.1+p0.2.2.2.2.1)+1)) 2*qV 22)),24),p0.2.2.2.2.2.2.2.1.2.2.2.2.2.2),qn (p0.2.2.2.2.2.2.2.1.1,p0.2.2.2.2.2.2.2.1.2.1,p0.2.2.2.2.2.2.2.1.2.2.1,p0.2.2.2.2.2.2.2.1.2.2.2.1,p0.2.2.2.2.2.2.2.1.2.2.2.2.1,qH (w64 (w64 (p0.2.2.2.2.2.2.2.1.2.2.2.2.2.1+w64 (Int.tmod (w64 (w64 (p0.2.2.1+p0.2.2.2.2.1)+1)) 2*qV 23))+w64 (Int.tmod (w64 (w64 (p0.2.2.2.1+p0.2.2.2.2.1)+1)) 2*qV 22)),24),p0.2.2.2.2.2.2.2.1.2.2.2.2.2.2)==0,())))
      .fail)
     .fail)
     .fail)
    .fail)
    (.ite (x.1==24)
    (.ite (qb3 (p0.2.2.2.2.2.2.2.1.2.2.2.2.2.1,11))
     (.ite (qbC (p0.2.2.2.2.2.2.2.1.1,p0.2.2.2.2.2.2.2.1.2.1,p0.2.2.2.2.2.2.2.1.2.2.1,p0.2.2.2.2.2.2.2.1.2.2.2.1,p0.2.2.2.2.2.2.2.1.2.2.2.2.1,qH (p0.2.2.2.2.2.2.2.1.2.2.2.2.2.1,11),p0.2.2.2.2.2.2.2.1.2.2.2.2.2.2))
     (.ret (((p0.2.2.2.2.2.2.2.1.1,p0.2.2.2.2.2.2.2.1.2.1,p0.2.2.2.2.2.2.2.1.2.2.1,p0.2.2.2.2.2.2.2.1.2.2.2.1,p0.2.2.2.2.2.2.2.1.2.2.2.2.1,qH (p0.2.2.2.2.2.2.2.1.2.2.2.2.2.1,11),p0.2.2.2.2.2.2.2.1.2.2.2.2.2.2),qn (p0.2.2.2.2.2.2.2.1.1,p0.2.2.2.2.2.2.2.1.2.1,p0.2.2.2.2.2.2.2.1.2.2.1,p0.2.2.2.2.2.2.2.1.2.2.2.1,p0.2.2.2.2.2.2.2.1.2.2.2.2.1,qH (p0.2.2.2.2.2.2.2.1.2.2.2.2.2.1,11),p0.2.2.2.2.2.2.2.1.2.2.2.2.2.2)==0,())))
     .fail)
     .fail)
    (.ite (x.1==25&&x.2.1)
     (.ite (qb3 (p0.2.2.2.2.2.2.2.1.2.2.2.2.2.1,20))
     (.ite (qbC (p0.2.2.2.2.2.2.2.1.1,p0.2.2.2.2.2.2.2.1.2.1,p0.2.2.2.2.2.2.2.1.2.2.1,p0.2.2.2.2.2.2.2.1.2.2.2.1,p0.2.2.2.2.2.2.2.1.2.2.2.2.1,qH (p0.2.2.2.2.2.2.2.1.2.2.2.2.2.1,20),p0.2.2.2.2.2.2.2.1.2.2.2.2.2.2))
      (.ret (((p0.2.2.2.2.2.2.2.1.1,p0.2.2.2.2.2.2.2.1.2.1,p0.2.2.2.2.2.2.2.1.2.2.1,p0.2.2.2.2.2.2.2.1.2.2.2.1,p0.2.2.2.2.2.2.2.1.2.2.2.2.1,qH (p0.2.2.2.2.2.2.2.1.2.2.2.2.2.1,20),p0.2.2.2.2.2.2.2.1.2.2.2.2.2.2),qn (p0.2.2.2.2.2.2.2.1.1,p0.2.2.2.2.2.2.2.1.2.1,p0.2.2.2.2.2.2.2.1.2.2.1,p0.2.2.2.2.2.2.2.1.2.2.2.1,p0.2.2.2.2.2.2.2.1.2.2.2.2.1,qH (p0.2.2.2.2.2.2.2.1.2.2.2.2.2.1,20),p0.2.2.2.2.2.2.2.1.2.2.2.2.2.2)==0,())))
      .fail)
     .fail)
     (.ite (x.1==25)
     (.ite (qb3 (p0.2.2.2.2.2.2.2.1.2.2.2.2.2.1,8))
      (.ite (qbC (p0.2.2.2.2.2.2.2.1.1,p0.2.2.2.2.2.2.2.1.2.1,p0.2.2.2.2.2.2.2.1.2.2.1,p0.2.2.2.2.2.2.2.1.2.2.2.1,p0.2.2.2.2.2.2.2.1.2.2.2.2.1,qH (p0.2.2.2.2.2.2.2.1.2.2.2.2.2.1,8),p0.2.2.2.2.2.2.2.1.2.2.2.2.2.2))
      (.ret (((p0.2.2.2.2.2.2.2.1.1,p0.2.2.2.2.2.2.2.1.2.1,p0.2.2.2.2.2.2.2.1.2.2.1,p0.2.2.2.2.2.2.2.1.2.2.2.1,p0.2.2.2.2.2.2.2.1.2.2.2.2.1,qH (p0.2.2.2.2.2.2.2.1.2.2.2.2.2.1,8),p0.2.2.2.2.2.2.2.1.2.2.2.2.2.2),qn (p0.2.2.2.2.2.2.2.1.1,p0.2.2.2.2.2.2.2.1.2.1,p0.2.2.2.2.2.2.2.1.2.2.1,p0.2.2.2.2.2.2.2.1.2.2.2.1,p0.2.2.2.2.2.2.2.1.2.2.2.2.1,qH (p0.2.2.2.2.2.2.2.1.2.2.2.2.2.1,8),p0.2.2.2.2.2.2.2.1.2.2.2.2.2.2)==0,())))
      .fail)
      .fail)
     (.ite (qbC p0.2.2.2.2.2.2.2.1)
      (.ret ((p0.2.2.2.2.2.2.2.1,qn p0.2.2.2.2.2.2.2.1==0,())))
      .fail))))))
   (.ret ((p0.2.2.2.2.2.2.1,p0.2.1,()))))))
def qdF (x:qc qhm):Bool:=(qdG x).val.isSome
def qv (x:qc qhm):Sh.den qkc:=(qdG x).qP default
theorem qv5 (x:qc qhm) (h:qdF x=true):(qdG x).val=some (qv x):=PO.qb4 default h
def qbX:LoopN where
 M:=[2,3,4,5,6,7]
 T:=[8,9,10,11,31,32,33,34,35,36,37,38,39,40,41,42,43,44,45,46,47,48,49,50,51,52]
 D:=[5,6,7]
 ss:=[.box 0 0,.ty (.int .i64),.ty (.int .i64),.ty (.int .i64),.ty .str,.ty (.int .i64)]
 hs:=[.ty q9]
 es:=[.exit 0,.ret]
 σ:=(Ty.den (.int .i64))×(Ty.den (.int .i64))×(Ty.den (.int .i64))×(Sh.den (.ty q9))
 x0:=fun x y=>(x.2.1,x.2.2.1,x.2.2.2.2.2,y)
 put:=fun x _ s=>((x.1,s.1,s.2.1,x.2.2.2.1,x.2.2.2.2.1,s.2.2.1),s.2.2.2)
 fuel:=fun _ _=>30
 turn:=fun x _ s =>
 (.ite (decide (s.2.2.1≤25))
  (.ite (qdF (s.2.2.1,false,x.2.2.2.2.1))
  (.ite ((qv (s.2.2.1,false,x.2.2.2.2.1)).2.1)
   (.ret (.out 1 (x.2.2.2.1,0,s.2.2.1,(qv (s.2.2.1,false,x.2.2.2.2.1)).1)))
   (.ite (qdF (s.2.2.1,true,x.2.2.2.2.1))
   (.ite ((qv (s.2.2.1,true,x.2.2.2.2.1)).2.1)
    (.ret (.out 1 (x.2.2.2.1,0,s.2.2.1,(qv (s.2.2.1,true,x.2.2.2.2.1)).1)))
    (.ret (.on (s.1,s.2.1,w64 (s.2.2.1+1),s.2.2.2))))
   .fail))
  .fail)
  (.ret (.out 0 (s.1,s.2.1,s.2.2.1,s.2.2.2))))
abbrev qf8:List Ty:=[.str]
abbrev qiI:Sh:=Sh.tup (Sh.pair (Sh.ty q9) (Sh.pair (Sh.ty (Ty.int IntKind.i64)) (Sh.pair (Sh.ty (Ty.int IntKind.i64)) (Sh.ty Ty.unit))))
def qeD (x:qc qf8):PO (Sh.den qiI) :=
 (.ite (qfq x)
  (.ite (qcM x==0||decide (qg x<qcM x))
  (.ret (((0,0,0,0,0,0,0,false,()),0,3,())))
  (.ite (qb2 (x,0))
   (.ite (bif qcM x==4 then qb2 (x,1)&&Nat.ble (List.length (qbr (x,0))+List.length (qbr (x,1))) 9223372036854775807 else true)
   (.opt (LoopN.res qbX ((),0,0,qcM x,bif qcM x==4 then qbr (x,0)++qbr (x,1) else qbr (x,0),1) (0,0,0,0,0,0,0,false,())) fun p0 =>
    (.ite (way p0.1)
    (.ret (((0,0,0,0,0,0,0,false,()),0,7,())))
    (.ret ((p0.2.2.2.2,p0.2.1,p0.2.2.1,())))))
   .fail)
   .fail))
  .fail)
def qez (x:qc qf8):Bool:=(qeD x).val.isSome
def qdN (x:qc qf8):Sh.den qiI:=(qeD x).qP default
theorem quT (x:qc qf8) (h:qez x=true):(qeD x).val=some (qdN x):=PO.qb4 default h
end Go.Av
end
section
namespace Go.Av
open Go
theorem qMB:∀(l m:List Bool) (a b:Nat),l.length=m.length→hb l a=hb m b→a=b∧l=m
 |[],[],_,_,_,h=>⟨h,rfl⟩
 |x::l,y::m,a,b,hlen,h=>by
  unfold hb at h
  obtain⟨h1,h2⟩:=qMB l m _ _ (Nat.succ.inj hlen) h
  refine⟨?_,?_⟩
  ·cases x<;>cases y<;>simp at h1<;>omega
  ·rw[h2,show x=y by cases x<;>cases y<;>simp at h1⊢<;>omega]
theorem qPg (m:Nat):∀{x y:Int},0≤x→x<(2 ^ m:Nat)→0≤y→y<(2 ^ m:Nat)→(∀k,k<m→bI x k=bI y k)→x=y:=by
 intro x y h1 h2 h3 h4 h
 obtain⟨a,rfl⟩:=Int.eq_ofNat_of_zero_le h1
 obtain⟨b,rfl⟩:=Int.eq_ofNat_of_zero_le h3
 have e:a=b:=by
  refine Nat.eq_of_testBit_eq fun j=>?_
  by_cases hj:j<m
  ·rw[qxO,qxO];exact h j hj
  ·have:2 ^ m≤2 ^ j:=qeM (by omega)
   rw[Nat.testBit_lt_two_pow (by omega),Nat.testBit_lt_two_pow (by omega)]
 rw[e]
def unlike:List UInt8→List UInt8→Bool
 |a::l,b::m=>(a==48&&b==49)||((a==49&&b==48)||unlike l m)
 |_,_=>false
def apart (a b:List UInt8):Bool:=unlike (a.take 16) (b.take 16)||(a.length==32&&(b.length==32&&unlike (a.drop 16) (b.drop 16)))
end Go.Av
end
section
namespace Go.Av
open Go
def H (l:List Bool):Int:=((hb l 0:Nat):Int)
theorem qqn (l:List Bool):hb l 0<2 ^ l.length:=by
 have:=qLY l 0 0 (by omega)
 rwa [Nat.zero_add] at this
theorem qM (l:List Bool):0≤H l:=by unfold H;omega
theorem qbN {l:List Bool} {k:Nat} (h:l.length≤k):H l<(2 ^ k:Nat):=by
 have h1:=qqn l
 have h2:2 ^ l.length≤2 ^ k:=qeM h
 unfold H;omega
theorem qrQ (l:List Bool) (j:Nat):(hb l 0).testBit j=(decide (j<l.length)&&l.getD (l.length-1-j) false):=by
 rw[qEH]
 by_cases h:j<l.length
 ·rw[if_pos h,decide_eq_true h,Bool.true_and]
 ·rw[if_neg h,decide_eq_false h,Bool.false_and,Nat.zero_testBit]
theorem qv7 (l:List Bool) (a:Nat) (h:a≤l.length):hb l 0 / 2 ^ a=hb (l.take (l.length-a)) 0:=by
 refine Nat.eq_of_testBit_eq fun j=>?_
 rw[Nat.testBit_div_two_pow,qrQ,qrQ,List.length_take,Nat.min_eq_left (Nat.sub_le ..)]
 by_cases hj:j<l.length-a
 ·rw[decide_eq_true hj,decide_eq_true (show j+a<l.length by omega),Bool.true_and,Bool.true_and,List.getD_eq_getElem?_getD,List.getD_eq_getElem?_getD,List.getElem?_take,if_pos (by omega)]
  congr 2;omega
 ·rw[decide_eq_false hj,decide_eq_false (show ¬j+a<l.length by omega),Bool.false_and,Bool.false_and]
theorem qRM (l:List Bool) (m:Nat) (h:m≤l.length):hb l 0 % 2 ^ m=hb (l.drop (l.length-m)) 0:=by
 refine Nat.eq_of_testBit_eq fun j=>?_
 rw[Nat.testBit_mod_two_pow,qrQ,qrQ,List.length_drop]
 by_cases hj:j<m
 ·rw[decide_eq_true hj,decide_eq_true (show j<l.length by omega),decide_eq_true (show j<l.length-(l.length-m) by omega),Bool.true_and,Bool.true_and,Bool.true_and,List.getD_eq_getElem?_getD,List.getD_eq_getElem?_getD,List.getElem?_drop]
  congr 2;omega
 ·rw[decide_eq_false hj,decide_eq_false (show ¬j<l.length-(l.length-m) by omega),Bool.false_and,Bool.false_and]
def sl (l:List Bool) (a m:Nat):List Bool:=(l.take (l.length-a)).drop (l.length-a-m)
theorem qAc (l:List Bool) (a m:Nat) (h:a+m≤l.length):(sl l a m).length=m:=by
 unfold sl;rw[List.length_drop,List.length_take];omega
theorem qO5 (l:List Bool) (a m:Nat) (h:a+m≤l.length):hb l 0 / 2 ^ a % 2 ^ m=hb (sl l a m) 0:=by
 have hl:(l.take (l.length-a)).length=l.length-a:=by rw[List.length_take];omega
 rw[qv7 l a (by omega),qRM _ m (by omega),hl]
 rfl
theorem qcX (l:List Bool) (a m:Nat) (h:a+m≤l.length):qa (H l,(a:Int),(m:Int))=H (sl l a m):=by
 show H l / (2 ^ (a:Int).toNat:Nat) % (2 ^ (m:Int).toNat:Nat)=H (sl l a m)
 rw[Int.toNat_natCast,Int.toNat_natCast]
 unfold H
 rw[←qO5 l a m h]
 norm_cast
theorem qtP:∀(m n:Nat),hb (qR m n) 0=n % 2 ^ m:=by
 intro m n
 refine Nat.eq_of_testBit_eq fun j=>?_
 have key:∀(m:Nat) (i:Nat),i<m→(qR m n).getD i false=n.testBit (m-1-i):=by
  intro m
  induction m with
  |zero=>intro i h;omega
  |succ m ih =>
   intro i h
   cases i with
   |zero =>
    show(n / 2 ^ m % 2==1)=_
    rw[Nat.testBit_eq_decide_div_mod_eq,show m+1-1-0=m by omega,Bool.eq_iff_iff,beq_iff_eq,decide_eq_true_eq]
   |succ i =>
    show(qR m n).getD i false=_
    rw[ih i (by omega)]
    congr 1;omega
 rw[qrQ,Nat.testBit_mod_two_pow,qdX]
 by_cases hj:j<m
 ·rw[decide_eq_true hj,Bool.true_and,Bool.true_and,key m _ (by omega)]
  congr 1;omega
 ·rw[decide_eq_false hj,Bool.false_and,Bool.false_and]
theorem qRa (l:List Bool):qR l.length (hb l 0)=l :=
 (qMB _ _ 0 0 (qdX ..) (by rw[qtP,Nat.mod_eq_of_lt (qqn l)])).2
def eqC (l:List Bool) (c:Nat):Bool:=l==qR l.length c
theorem qha (l:List Bool) (c:Nat) (hc:c<2 ^ l.length):(H l==(c:Int))=eqC l c:=by
 unfold eqC H
 rw[Bool.eq_iff_iff,beq_iff_eq,beq_iff_eq]
 constructor
 ·intro h
  have h:hb l 0=c:=by omega
  rw[←h,qRa]
 ·intro h
  rw[h,qtP,Nat.mod_eq_of_lt hc]
theorem qpD (l:List Bool) (k c:Nat) (hk:k≤l.length) (hk2:k<64) (hc:c<2 ^ (l.length-k)):(q8 .i64 (H l) (k:Int)==(c:Int))=eqC (l.take (l.length-k)) c:=by
 have e:q8 .i64 (H l) (k:Int)=H (l.take (l.length-k)):=by
  rw[qog _ _ hk2]
  unfold H
  rw[←qv7 l k hk]
  norm_cast
 rw[e,qha _ _ (by rw[List.length_take,Nat.min_eq_left (Nat.sub_le ..)];exact hc)]
theorem qpY (a b:List Bool):hb (a++b) 0=hb a 0*2 ^ b.length+hb b 0:=by
 have key:∀(b:List Bool) (n:Nat),hb b n=n*2 ^ b.length+hb b 0:=by
  intro b
  induction b with
  |nil=>intro n;simp[hb]
  |cons x b ih =>
   intro n
   show hb b (2*n+x.toNat)=_+hb b (2*0+x.toNat)
   rw[Nat.mul_zero,Nat.zero_add,ih (2*n+x.toNat),ih x.toNat,List.length_cons,Nat.pow_succ]
   generalize 2 ^ b.length=p
   rw[Nat.add_mul,Nat.mul_comm 2 n,Nat.mul_assoc,Nat.mul_comm 2 p]
   omega
 have h2:∀(a:List Bool) (n:Nat),hb (a++b) n=hb b (hb a n):=by
  intro a
  induction a with
  |nil=>intro n;rfl
  |cons x a ih=>intro n;exact ih _
 rw[h2,key]
theorem qQH (h k:Nat) (l:List Bool) (hk:k+l.length≤62) (hh:h*2 ^ (k+l.length)<4611686018427387904) :
  bor .i64 ((h*2 ^ (k+l.length):Nat):Int) (qz .i64 (H l) (k:Int))=(((h*2 ^ l.length+hb l 0)*2 ^ k:Nat):Int):=by
 have h1:=qqn l
 have hp:2 ^ (k+l.length)≤2 ^ 62:=qeM hk
 have h2:hb l 0*2 ^ k<2 ^ (k+l.length):=by rw[Nat.pow_add,Nat.mul_comm (2 ^ k)];exact Nat.mul_lt_mul_of_pos_right h1 (Nat.two_pow_pos k)
 unfold H
 rw[qqU _ k (by omega) (by omega),qtz (by omega) (by omega),Nat.mul_comm h,←Nat.two_pow_add_eq_or_of_lt h2,Nat.pow_add,Nat.add_mul,Nat.mul_comm (2 ^ k),Nat.mul_comm h,Nat.mul_assoc,Nat.mul_assoc,Nat.mul_comm h]
theorem qP7 (h:Nat) (l:List Bool) (hk:l.length≤62) (hh:h*2 ^ l.length<4611686018427387904) :
  bor .i64 ((h*2 ^ l.length:Nat):Int) (H l)=((h*2 ^ l.length+hb l 0:Nat):Int):=by
 have h1:=qqn l
 have hp:2 ^ l.length≤2 ^ 62:=qeM hk
 unfold H
 rw[qtz (by omega) (by omega),Nat.mul_comm h,Nat.two_pow_add_eq_or_of_lt h1]
theorem qGE (l:List Bool) (k:Nat) (hk:l.length+k≤61):qz .i64 (H l) (k:Int)=((hb l 0*2 ^ k:Nat):Int):=by
 have h1:=qqn l
 have h2:hb l 0*2 ^ k<2 ^ (l.length+k):=by rw[Nat.pow_add];exact Nat.mul_lt_mul_of_pos_right h1 (Nat.two_pow_pos k)
 have hp:2 ^ (l.length+k)≤2 ^ 61:=qeM hk
 exact qqU _ _ (by omega) (by omega)
theorem qEl (a b:List Bool) (k:Nat) (hb':b.length=k) (hk:a.length+k≤61):bor .i64 (qz .i64 (H a) (k:Int)) (H b)=H (a++b):=by
 subst hb'
 have h1:=qqn a
 have h2:hb a 0*2 ^ b.length<2 ^ (a.length+b.length):=by rw[Nat.pow_add];exact Nat.mul_lt_mul_of_pos_right h1 (Nat.two_pow_pos _)
 have hp:2 ^ (a.length+b.length)≤2 ^ 61:=qeM hk
 rw[qGE _ _ hk,qP7 _ _ (by omega) (by omega)]
 unfold H
 rw[qpY]
theorem quv (a b:List Bool) (k j:Nat) (hb':b.length+j=k) (hk:a.length+k≤61):bor .i64 (qz .i64 (H a) (k:Int)) (qz .i64 (H b) (j:Int))=qz .i64 (H (a++b)) (j:Int):=by
 subst hb'
 have h1:=qqn a
 have h2:hb a 0*2 ^ (b.length+j)<2 ^ (a.length+(b.length+j)):=by rw[Nat.pow_add 2 a.length];exact Nat.mul_lt_mul_of_pos_right h1 (Nat.two_pow_pos _)
 have hp:2 ^ (a.length+(b.length+j))≤2 ^ 61:=qeM hk
 rw[qGE _ _ hk,Nat.add_comm b.length j,qQH _ _ _ (by omega) (by rw[Nat.add_comm j];omega),qGE _ _ (by rw[List.length_append];omega),qpY]
theorem qSH (a b:List Bool) (h:a.length=b.length):hb (List.zipWith (·&&·) a b) 0=hb a 0 &&& hb b 0:=by
 refine Nat.eq_of_testBit_eq fun j=>?_
 rw[Nat.testBit_and,qrQ,qrQ,qrQ,List.length_zipWith,h,Nat.min_self]
 by_cases hj:j<b.length
 ·rw[decide_eq_true hj,Bool.true_and,Bool.true_and,Bool.true_and,List.getD_eq_getElem?_getD,List.getD_eq_getElem?_getD,List.getD_eq_getElem?_getD,List.getElem?_zipWith,
   List.getElem?_eq_getElem (show b.length-1-j<a.length by omega),List.getElem?_eq_getElem (show b.length-1-j<b.length by omega)]
  rfl
 ·rw[decide_eq_false hj,Bool.false_and,Bool.false_and,Bool.false_and]
theorem qoe (l:List Bool) (m:Nat) (hl:l.length=16) (hm:m<65536):qeg .i64 (H l) (m:Int)=H (List.zipWith (·&&·) (qR 16 (65535-m)) l):=by
 have h1:=qqn l
 rw[hl] at h1
 have h1:hb l 0<65536:=h1
 have e:(BitVec.ofInt 64 ((hb l 0:Nat):Int) &&& ~~~(BitVec.ofInt 64 (m:Int))).toNat=hb (List.zipWith (·&&·) (qR 16 (65535-m)) l) 0:=by
  rw[BitVec.toNat_and,BitVec.toNat_not,qnZ (by omega),qnZ (by omega),qSH _ _ (by rw[qdX,hl]),qtP]
  refine Nat.eq_of_testBit_eq fun j=>?_
  rw[Nat.testBit_and,Nat.testBit_and]
  by_cases hj:j<16
  ·rw[Bool.and_comm]
   congr 1
   rw[show 2 ^ 64-1-m=(65535-m)+2 ^ 16*281474976710655 by omega,show(65535-m) % 2 ^ 16=65535-m by omega,Nat.add_comm,Nat.testBit_two_pow_mul_add _ (by omega),if_pos hj]
  ·have:(hb l 0).testBit j=false:=by rw[qrQ,hl,decide_eq_false hj,Bool.false_and]
   rw[this,Bool.false_and,Bool.and_false]
 have e2:qeg .i64 (H l) (m:Int)=w64 (((BitVec.ofInt 64 ((hb l 0:Nat):Int) &&& ~~~(BitVec.ofInt 64 (m:Int))).toNat:Nat):Int):=rfl
 rw[e2,e]
 have h3:=qqn (List.zipWith (·&&·) (qR 16 (65535-m)) l)
 rw[List.length_zipWith,qdX,hl] at h3
 rw[qrs (Nat.lt_of_lt_of_le h3 (by decide))]
 rfl
theorem ql (l:List Bool) (k:Nat) (h:k<l.length):bI (H l) k=l.getD (l.length-1-k) false:=by
 unfold H
 rw[←qxO,qrQ,decide_eq_true h,Bool.true_and]
def bis (x:Int):Nat→List Bool
 |0=>[]
 |m+1=>bI x m::bis x m
theorem qts (x:Int):∀m,(bis x m).length=m
 |0=>rfl
 |m+1=>congrArg (·+1) (qts x m)
theorem qFU (x:Int):∀(m i:Nat),i<m→(bis x m).getD i false=bI x (m-1-i)
 |m+1,0,_=>by show bI x m=_;congr 1
 |m+1,i+1,h=>by
  show(bis x m).getD i false=_
  rw[qFU x m i (by omega)]
  congr 1;omega
theorem qPF (x:Int) (m:Nat):H (bis x m)=x % (2 ^ m:Nat):=by
 have hb:=qm7 x m
 have h1:H (bis x m)<(2 ^ m:Nat):=qbN (Nat.le_of_eq (qts x m))
 refine qPg m (qM _) h1 hb.1 hb.2 fun k hk=>?_
 rw[ql _ _ (by rw[qts];exact hk),qts,qFU _ _ _ (by omega),qtU _ hk]
 congr 1;omega
theorem qc6 {x:Int} {m:Nat} (h0:0≤x) (h:x<(2 ^ m:Nat)):H (bis x m)=x:=by
 rw[qPF,Int.emod_eq_of_lt h0 h]
def SG:List Bool→Int
 |[]=>0
 |b::r=>H r-b.toNat*(2 ^ r.length:Nat)
theorem qNw (b:Bool) (r:List Bool):H (b::r)=b.toNat*(2 ^ r.length:Nat)+H r:=by
 have:=qpY [b] r
 unfold H
 rw[show b::r=[b]++r from rfl,this,show hb [b] 0=b.toNat by cases b<;>rfl,Int.natCast_add,Int.natCast_mul]
theorem qLl (b:Bool) (r:List Bool):SG (b::r)=bif b then H (b::r)-(2 ^ (r.length+1):Nat) else H (b::r):=by
 unfold SG
 rw[qNw,Nat.pow_succ]
 cases b
 ·simp
 ·simp only[Bool.toNat_true,cond_true];omega
theorem qOM (b:Bool) (r:List Bool):qb9 (H (b::r),((r.length+1:Nat):Int))=SG (b::r):=by
 rw[qLl]
 show(bif H (b::r) / (2 ^ (((r.length+1:Nat):Int)-1).toNat:Nat)==1 then H (b::r)-(2 ^ ((r.length+1:Nat):Int).toNat:Nat) else H (b::r))=_
 rw[show(((r.length+1:Nat):Int)-1).toNat=r.length by omega,Int.toNat_natCast]
 have e:(H (b::r) / (2 ^ r.length:Nat)==1)=b:=by
  have h:=qv7 (b::r) r.length (by simp)
  have e2:(b::r).length-r.length=1:=by simp
  rw[e2] at h
  have e3:H (b::r) / (2 ^ r.length:Nat)=((hb [b] 0:Nat):Int):=by
   unfold H
   rw[show hb [b] 0=hb (b::r) 0 / 2 ^ r.length from h.symm]
   norm_cast
  rw[e3]
  cases b<;>rfl
 rw[e]
theorem qOW:∀l:List Bool,2*SG l=SG (l++[false])∨l=[]
 |[]=>.inr rfl
 |b::r=>.inl (by
  show 2*(H r-b.toNat*(2 ^ r.length:Nat))=H (r++[false])-b.toNat*(2 ^ (r++[false]).length:Nat)
  have h:H (r++[false])=2*H r:=by
   unfold H
   rw[qpY]
   show((hb r 0*2+0:Nat):Int)=_
   omega
  rw[h,List.length_append,Nat.pow_add]
  generalize 2 ^ r.length=p
  cases b<;>simp<;>omega)
theorem qby (b:Bool) (r:List Bool) (k:Nat) (h:k<r.length+1):bI (SG (b::r)) k=(b::r).getD (r.length-k) false:=by
 have e:SG (b::r) % (2 ^ (r.length+1):Nat)=H (b::r) % (2 ^ (r.length+1):Nat):=by
  rw[qLl]
  cases b
  ·rfl
  ·exact Int.sub_emod_right ..
 rw[←qtU (SG (b::r)) h,e,qtU _ h,ql _ _ (by simpa using h)]
 congr 1
theorem qAG (x:Int) (m:Nat) (h1:-(2 ^ m:Nat)≤x) (h2:x<(2 ^ m:Nat)):SG (bis x (m+1))=x:=by
 show H (bis x m)-(bI x m).toNat*(2 ^ (bis x m).length:Nat)=x
 rw[qPF,qts]
 unfold bI
 have hp:=Nat.two_pow_pos m
 by_cases hx:x<0
 ·have hd:x / (2 ^ m:Nat)=-1:=by
   have e1:(x+(2 ^ m:Nat)) / (2 ^ m:Nat)=0:=Int.ediv_eq_zero_of_lt (by omega) (by omega)
   rw[Int.add_ediv_of_dvd_right (Int.dvd_refl _),Int.ediv_self (by omega)] at e1
   omega
  have hm:=Int.emod_add_mul_ediv x (2 ^ m:Nat)
  rw[hd] at hm ⊢
  simp only[show((-1:Int) % 2==1)=true from rfl,Bool.toNat_true]
  omega
 ·have hd:x / (2 ^ m:Nat)=0:=Int.ediv_eq_zero_of_lt (by omega) h2
  rw[hd,Int.emod_eq_of_lt (by omega) h2]
  simp
end Go.Av
end
section
namespace Go.Av
open Go
theorem q7 (l:List Bool) (a m:Nat):(sl l a m).length=min m (l.length-a):=by
 unfold sl;rw[List.length_drop,List.length_take];omega
theorem qus (l:List Bool) (m:Nat) (hm:0<m) (h:l.length=m):qb9 (H l,(m:Int))=SG l:=by
 match l with
 |[]=>simp at h;omega
 |b::r=>rw[←h];exact qOM b r
theorem qTe (l:List Bool) (m:Nat) (h:l.length≤m):-((2 ^ m:Nat):Int)≤SG l∧SG l<(2 ^ m:Nat):=by
 match l with
 |[]=>have:=Nat.two_pow_pos m;exact⟨by show _≤(0:Int);omega,by show(0:Int)<_;omega⟩
 |b::r =>
  have h1:=qM r
  have h2:=qbN (l:=r) (Nat.le_refl _)
  have h3:2 ^ (r.length+1)≤2 ^ m:=qeM h
  rw[Nat.pow_succ] at h3
  unfold SG
  cases b
  ·simp only[Bool.toNat_false];constructor<;>omega
  ·simp only[Bool.toNat_true];constructor<;>omega
theorem qvO (l:List Bool) (m:Nat) (hm:0<m) (h2:m≤24) (h:l.length=m):w64 (2*SG l)=SG (l++[false]):=by
 have hb:=qTe l 24 (by omega)
 rw[qt (by omega) (by omega)]
 rcases qOW l with e |e
 ·exact e
 ·subst e;simp at h;omega
theorem qul (l:List Bool) (m:Nat) (h1:1≤m) (h2:m≤24) (h:l.length=m):qcJ (H l,(m:Int))=true:=by
 have hb:=qM l
 have hc:=qbN (l:=l) (k:=24) (by omega)
 show(decide ((1:Int)≤(m:Int))&&(decide ((m:Int)≤24)&&(decide (0≤H l)&&decide (H l<33554432))))=true
 rw[qJ (by omega),qJ (by omega),qJ (by omega),qJ (by omega)]
 rfl
def nx (j s:Bool):Bool:=!(j ^^ s)
theorem qSj:∀(a b:List Bool),a.length=1→b.length=1→qh3 IntKind.i64 (qh3 IntKind.i64 1 (H a)) (H b)=H (List.zipWith nx a b)
 |[false],[false],_,_=>rfl
 |[true],[false],_,_=>rfl
 |[false],[true],_,_=>rfl
 |[true],[true],_,_=>rfl
theorem qA3 (z:Int) (h1:-1000000≤z) (h2:z≤1000000):w64 z=z:=qt (by omega) (by omega)
def qQ (v:Int):Bool:=decide (v≤12)
abbrev D1:=q9.den×Bool×Unit
def op1 (o:Option D1):Option (Option q9.den):=o.map fun p=>bif p.2.1 then some p.1 else none
theorem qtZ (c:Bool) {a b:Option D1} {a' b':Option q9.den} (h1:op1 a=some a') (h2:op1 b=some b'):op1 (bif c then a else b)=some (bif c then a' else b'):=by cases c<;>assumption
theorem qQ9 {o:Option D1} {d:Option q9.den} (h:op1 o=some d):∃p:D1,o=some p∧(bif p.2.1 then some p.1 else none)=d:=by
 cases o with
 |none=>cases h
 |some p=>exact⟨p,rfl,Option.some.inj h⟩
def qcx (l:List Bool):Option q9.den :=
 (bif (eqC l 48896) then
 (some (1,0,0,0,0,0,0,false,())) else
 (bif (eqC (l.take 8) 190) then
 (some (2,0,0,0,0,H (sl l 0 8),0,false,())) else
 (bif (eqC (l.take 10) 416) then
 (some (19,H (sl l 0 3),H (sl l 3 3),0,0,0,0,false,())) else
 (bif (eqC (l.take 10) 384) then
 (some (20,H (sl l 0 3),H (sl l 3 3),0,0,0,0,false,())) else
 (bif (eqC (l.take 10) 480) then
 (some (21,H (sl l 0 3),H (sl l 3 3),0,0,0,0,false,())) else
 (bif (eqC (l.take 10) 448) then
 (some (22,H (sl l 0 3),H (sl l 3 3),0,0,0,0,false,())) else
 (bif (eqC (l.take 10) 266) then
 (some (23,0,H (sl l 0 3),H (sl l 3 3),0,0,0,false,())) else
 (bif (eqC (l.take 5) 28) then
 (some (24,0,0,0,0,SG (sl l 0 11++[false]),0,false,())) else
 (bif (eqC (l.take 4) 13&&decide (H (sl l 8 4)≤13)) then
 (some (25,0,0,0,0,SG (sl l 0 8++[false]),H (sl l 8 4),false,())) else
 none)))))))))
theorem qOi (l:List Bool) (hl:l.length=16):op1 (qir (H l)).val=some (qcx l):=by
 have g1:qm (H l,0,3)=true:=rfl
 have g2:qm (H l,3,3)=true:=rfl
 have g3:qm (H l,0,8)=true:=rfl
 have g4:qm (H l,0,11)=true:=rfl
 have g5:qm (H l,8,4)=true:=rfl
 have g6:qa (H l,0,8)=H (sl l 0 8):=qcX l 0 8 (by omega)
 have g7:qa (H l,0,3)=H (sl l 0 3):=qcX l 0 3 (by omega)
 have g8:qa (H l,3,3)=H (sl l 3 3):=qcX l 3 3 (by omega)
 have g9:qa (H l,0,11)=H (sl l 0 11):=qcX l 0 11 (by omega)
 have g10:qa (H l,8,4)=H (sl l 8 4):=qcX l 8 4 (by omega)
 have g11:(q8 IntKind.i64 (H l) 8==190)=eqC (l.take 8) 190:=(by have:=qpD l 8 190 (by omega) (by omega) (by rw[hl];decide);rw[hl] at this;exact this)
 have g12:(q8 IntKind.i64 (H l) 6==416)=eqC (l.take 10) 416:=(by have:=qpD l 6 416 (by omega) (by omega) (by rw[hl];decide);rw[hl] at this;exact this)
 have g13:(q8 IntKind.i64 (H l) 6==384)=eqC (l.take 10) 384:=(by have:=qpD l 6 384 (by omega) (by omega) (by rw[hl];decide);rw[hl] at this;exact this)
 have g14:(q8 IntKind.i64 (H l) 6==480)=eqC (l.take 10) 480:=(by have:=qpD l 6 480 (by omega) (by omega) (by rw[hl];decide);rw[hl] at this;exact this)
 have g15:(q8 IntKind.i64 (H l) 6==448)=eqC (l.take 10) 448:=(by have:=qpD l 6 448 (by omega) (by omega) (by rw[hl];decide);rw[hl] at this;exact this)
 have g16:(q8 IntKind.i64 (H l) 6==266)=eqC (l.take 10) 266:=(by have:=qpD l 6 266 (by omega) (by omega) (by rw[hl];decide);rw[hl] at this;exact this)
 have g17:(q8 IntKind.i64 (H l) 11==28)=eqC (l.take 5) 28:=(by have:=qpD l 11 28 (by omega) (by omega) (by rw[hl];decide);rw[hl] at this;exact this)
 have g18:(q8 IntKind.i64 (H l) 12==13)=eqC (l.take 4) 13:=(by have:=qpD l 12 13 (by omega) (by omega) (by rw[hl];decide);rw[hl] at this;exact this)
 have g19:(H l==48896)=eqC l 48896:=qha l 48896 (by rw[hl];decide)
 have g20:qb9 (H (sl l 0 11),11)=SG (sl l 0 11):=qus (sl l 0 11) 11 (by omega) (by simp[q7,hl])
 have g21:qcJ (H (sl l 0 11),11)=true:=qul _ 11 (by omega) (by omega) (by simp[q7,hl])
 have g22:w64 (2*SG (sl l 0 11))=SG (sl l 0 11++[false]):=qvO (sl l 0 11) 11 (by omega) (by omega) (by simp[q7,hl])
 have g23:qb9 (H (sl l 0 8),8)=SG (sl l 0 8):=qus (sl l 0 8) 8 (by omega) (by simp[q7,hl])
 have g24:qcJ (H (sl l 0 8),8)=true:=qul _ 8 (by omega) (by omega) (by simp[q7,hl])
 have g25:w64 (2*SG (sl l 0 8))=SG (sl l 0 8++[false]):=qvO (sl l 0 8) 8 (by omega) (by omega) (by simp[q7,hl])
 simp only[qir,PO.val,g1,g2,g3,g4,g5,g6,g7,g8,g9,g10,g11,g12,g13,g14,g15,g16,g17,g18,g19,g20,g21,g22,g23,g24,g25,bne,Bool.and_self,cond_true,cond_false,Bool.cond_self]
 unfold qcx
 repeat' (first|refine qtZ _ ?_ ?_ |rfl)
def qdZ (lx ly:List Bool):Option q9.den :=
 (bif (eqC (ly.take 1) 1) then
 none else
 (bif (eqC lx 59983) then
 (bif ((qQ (H (sl ly 8 4))&&(qQ (H (sl ly 0 4))&&true))) then
 (bif (eqC (sl ly 4 2) 0) then
 (some ((5+H (sl ly 4 2)),H (sl ly 8 4),0,H (sl ly 0 4),0,H (sl ly 12 3++sl ly 6 2),0,false,())) else
 (bif (decide (H (sl ly 12 3++sl ly 6 2) > 0)) then some ((5+H (sl ly 4 2)),H (sl ly 8 4),0,H (sl ly 0 4),0,H (sl ly 12 3++sl ly 6 2),0,false,()) else none)) else
 none) else
 (bif (eqC lx 60015) then
 (bif ((qQ (H (sl ly 8 4))&&(qQ (H (sl ly 0 4))&&true))) then
 (bif (eqC (sl ly 4 2) 0) then
 (bif (eqC (sl ly 12 3++sl ly 6 2) 0) then some (9,H (sl ly 8 4),0,H (sl ly 0 4),0,0,0,false,()) else none) else
 none) else
 none) else
 (bif (eqC (List.zipWith (·&&·) (qR 16 65520) lx) 59904) then
 (bif ((qQ (H (sl ly 8 4))&&(qQ (H (sl lx 0 4))&&(qQ (H (sl ly 0 4))&&true)))) then
 (bif (eqC (sl ly 4 2) 0) then
 (bif (eqC (sl ly 12 3++sl ly 6 2) 0) then some (10,H (sl ly 8 4),H (sl lx 0 4),H (sl ly 0 4),0,0,0,false,()) else none) else
 none) else
 none) else
 (bif (eqC (List.zipWith (·&&·) (qR 16 65520) lx) 59936) then
 (bif ((qQ (H (sl ly 8 4))&&(qQ (H (sl lx 0 4))&&(qQ (H (sl ly 0 4))&&true)))) then
 (bif (eqC (sl ly 4 2) 0) then
 (bif (eqC (sl ly 12 3++sl ly 6 2) 0) then some (11,H (sl ly 8 4),H (sl lx 0 4),H (sl ly 0 4),0,0,0,false,()) else none) else
 none) else
 none) else
 (bif (eqC (List.zipWith (·&&·) (qR 16 65520) lx) 59968) then
 (bif ((qQ (H (sl ly 8 4))&&(qQ (H (sl lx 0 4))&&(qQ (H (sl ly 0 4))&&true)))) then
 (bif (eqC (sl ly 4 2) 0) then
 (bif (eqC (sl ly 12 3++sl ly 6 2) 0) then some (12,H (sl ly 8 4),H (sl lx 0 4),H (sl ly 0 4),0,0,0,false,()) else none) else
 none) else
 none) else
 (bif (eqC (List.zipWith (·&&·) (qR 16 65520) lx) 60032) then
 (bif ((qQ (H (sl ly 8 4))&&(qQ (H (sl lx 0 4))&&(qQ (H (sl ly 0 4))&&true)))) then
 (bif (eqC (sl ly 4 2) 0) then
 (bif (eqC (sl ly 12 3++sl ly 6 2) 0) then some (13,H (sl ly 8 4),H (sl lx 0 4),H (sl ly 0 4),0,0,0,false,()) else none) else
 none) else
 none) else
 (bif (eqC (List.zipWith (·&&·) (qR 16 65520) lx) 60160) then
 (bif ((qQ (H (sl ly 8 4))&&(qQ (H (sl lx 0 4))&&(qQ (H (sl ly 0 4))&&true)))) then
 (bif (eqC (sl ly 4 2) 0) then
 (bif (eqC (sl ly 12 3++sl ly 6 2) 0) then some (14,H (sl ly 8 4),H (sl lx 0 4),H (sl ly 0 4),0,0,0,false,()) else none) else
 none) else
 none) else
 (bif (eqC (List.zipWith (·&&·) (qR 16 65520) lx) 60320) then
 (bif ((qQ (H (sl ly 8 4))&&(qQ (H (sl lx 0 4))&&(qQ (H (sl ly 0 4))&&true)))) then
 (bif (eqC (sl ly 4 2) 0) then
 (bif (eqC (sl ly 12 3++sl ly 6 2) 0) then some (15,H (sl ly 8 4),H (sl lx 0 4),H (sl ly 0 4),0,0,0,false,()) else none) else
 none) else
 none) else
 none)))))))))
theorem qQz (lx ly:List Bool) (hlx:lx.length=16) (hly:ly.length=16):op1 (qjD (H lx,H ly)).val=some (qdZ lx ly):=by
 have g1:qm (H ly,8,4)=true:=rfl
 have g2:qm (H lx,0,4)=true:=rfl
 have g3:qm (H ly,0,4)=true:=rfl
 have g4:qm (H ly,12,3)=true:=rfl
 have g5:qm (H ly,6,2)=true:=rfl
 have g6:qm (H ly,4,2)=true:=rfl
 have g7:∀a:Int,qbj [a]=true:=fun _=>rfl
 have g8:∀a b:Int,qbj [a,b]=true:=fun _ _=>rfl
 have g9:∀a b c:Int,qbj [a,b,c]=true:=fun _ _ _=>rfl
 have g10:∀a b c d:Int,qbj [a,b,c,d]=true:=fun _ _ _ _=>rfl
 have g11:qa (H ly,8,4)=H (sl ly 8 4):=qcX ly 8 4 (by omega)
 have g12:qa (H ly,0,4)=H (sl ly 0 4):=qcX ly 0 4 (by omega)
 have g13:qa (H ly,4,2)=H (sl ly 4 2):=qcX ly 4 2 (by omega)
 have g14:qa (H ly,12,3)=H (sl ly 12 3):=qcX ly 12 3 (by omega)
 have g15:qa (H ly,6,2)=H (sl ly 6 2):=qcX ly 6 2 (by omega)
 have g16:qa (H lx,0,4)=H (sl lx 0 4):=qcX lx 0 4 (by omega)
 have g17:(q8 IntKind.i64 (H ly) 15==1)=eqC (ly.take 1) 1:=(by have:=qpD ly 15 1 (by omega) (by omega) (by rw[hly];decide);rw[hly] at this;exact this)
 have g18:(qeg IntKind.i64 (H lx) 15==59904)=eqC (List.zipWith (·&&·) (qR 16 65520) lx) 59904:=(by rw[show qeg IntKind.i64 (H lx) 15=H (List.zipWith (·&&·) (qR 16 65520) lx) from qoe lx 15 hlx (by omega)];exact qha (List.zipWith (·&&·) (qR 16 65520) lx) 59904 (by rw[List.length_zipWith,qdX,hlx];decide))
 have g19:(qeg IntKind.i64 (H lx) 15==59936)=eqC (List.zipWith (·&&·) (qR 16 65520) lx) 59936:=(by rw[show qeg IntKind.i64 (H lx) 15=H (List.zipWith (·&&·) (qR 16 65520) lx) from qoe lx 15 hlx (by omega)];exact qha (List.zipWith (·&&·) (qR 16 65520) lx) 59936 (by rw[List.length_zipWith,qdX,hlx];decide))
 have g20:(qeg IntKind.i64 (H lx) 15==59968)=eqC (List.zipWith (·&&·) (qR 16 65520) lx) 59968:=(by rw[show qeg IntKind.i64 (H lx) 15=H (List.zipWith (·&&·) (qR 16 65520) lx) from qoe lx 15 hlx (by omega)];exact qha (List.zipWith (·&&·) (qR 16 65520) lx) 59968 (by rw[List.length_zipWith,qdX,hlx];decide))
 have g21:(qeg IntKind.i64 (H lx) 15==60032)=eqC (List.zipWith (·&&·) (qR 16 65520) lx) 60032:=(by rw[show qeg IntKind.i64 (H lx) 15=H (List.zipWith (·&&·) (qR 16 65520) lx) from qoe lx 15 hlx (by omega)];exact qha (List.zipWith (·&&·) (qR 16 65520) lx) 60032 (by rw[List.length_zipWith,qdX,hlx];decide))
 have g22:(qeg IntKind.i64 (H lx) 15==60160)=eqC (List.zipWith (·&&·) (qR 16 65520) lx) 60160:=(by rw[show qeg IntKind.i64 (H lx) 15=H (List.zipWith (·&&·) (qR 16 65520) lx) from qoe lx 15 hlx (by omega)];exact qha (List.zipWith (·&&·) (qR 16 65520) lx) 60160 (by rw[List.length_zipWith,qdX,hlx];decide))
 have g23:(qeg IntKind.i64 (H lx) 15==60320)=eqC (List.zipWith (·&&·) (qR 16 65520) lx) 60320:=(by rw[show qeg IntKind.i64 (H lx) 15=H (List.zipWith (·&&·) (qR 16 65520) lx) from qoe lx 15 hlx (by omega)];exact qha (List.zipWith (·&&·) (qR 16 65520) lx) 60320 (by rw[List.length_zipWith,qdX,hlx];decide))
 have g24:(H lx==59983)=eqC lx 59983:=qha lx 59983 (by rw[hlx];decide)
 have g25:(H lx==60015)=eqC lx 60015:=qha lx 60015 (by rw[hlx];decide)
 have g26:bor IntKind.i64 (qz IntKind.i64 (H (sl ly 12 3)) 2) (H (sl ly 6 2))=H (sl ly 12 3++sl ly 6 2):=qEl (sl ly 12 3) (sl ly 6 2) 2 (by simp[q7,hlx,hly]) (by simp[q7,hlx,hly])
 have g27:qbM [H (sl ly 8 4),H (sl ly 0 4)]=(qQ (H (sl ly 8 4))&&(qQ (H (sl ly 0 4))&&true)):=rfl
 have g28:qbM [H (sl ly 8 4),H (sl lx 0 4),H (sl ly 0 4)]=(qQ (H (sl ly 8 4))&&(qQ (H (sl lx 0 4))&&(qQ (H (sl ly 0 4))&&true))):=rfl
 have g29:(H (sl ly 4 2)==0)=eqC (sl ly 4 2) 0:=qha (sl ly 4 2) 0 (by rw[show(sl ly 4 2).length=2 by simp[q7,hlx,hly]];decide)
 have g30:(H (sl ly 12 3++sl ly 6 2)==0)=eqC (sl ly 12 3++sl ly 6 2) 0:=qha (sl ly 12 3++sl ly 6 2) 0 (by rw[show(sl ly 12 3++sl ly 6 2).length=5 by simp[q7,hlx,hly]];decide)
 have g31:w64 (5+H (sl ly 4 2))=(5+H (sl ly 4 2)):=qA3 _ (by have:=qM (sl ly 4 2);omega) (by have:=qbN (l:=sl ly 4 2) (k:=4) (by simp[q7,hlx,hly]);omega)
 simp only[qjD,PO.val,g1,g2,g3,g4,g5,g6,g7,g8,g9,g10,g11,g12,g13,g14,g15,g16,g17,g18,g19,g20,g21,g22,g23,g24,g25,g26,g27,g28,g29,g30,g31,bne,Bool.and_self,cond_true,cond_false,Bool.cond_self]
 unfold qdZ
 repeat' (first|refine qtZ _ ?_ ?_ |rfl)
def qd6 (lx ly:List Bool):Option q9.den :=
 (bif (!eqC (sl ly 4 4) 0) then
 none else
 (bif (eqC (List.zipWith (·&&·) (qR 16 65520) lx) 64256) then
 (bif (eqC (sl ly 12 4) 15) then
 (bif ((qQ (H (sl ly 8 4))&&(qQ (H (sl lx 0 4))&&(qQ (H (sl ly 0 4))&&true)))) then some (16,H (sl ly 8 4),H (sl lx 0 4),H (sl ly 0 4),0,0,0,false,()) else none) else
 none) else
 (bif (eqC (List.zipWith (·&&·) (qR 16 65520) lx) 64416) then
 (bif (H (sl ly 12 4) != H (sl ly 8 4)) then
 (bif ((qQ (H (sl ly 12 4))&&(qQ (H (sl ly 8 4))&&(qQ (H (sl lx 0 4))&&(qQ (H (sl ly 0 4))&&true))))) then some (17,H (sl ly 12 4),H (sl lx 0 4),H (sl ly 0 4),H (sl ly 8 4),0,0,false,()) else none) else
 none) else
 none)))
theorem qNK (lx ly:List Bool) (hlx:lx.length=16) (hly:ly.length=16):op1 (qhE (H lx,H ly)).val=some (qd6 lx ly):=by
 have g1:qm (H lx,0,4)=true:=rfl
 have g2:qm (H ly,0,4)=true:=rfl
 have g3:qm (H ly,12,4)=true:=rfl
 have g4:qm (H ly,8,4)=true:=rfl
 have g5:qm (H ly,4,4)=true:=rfl
 have g6:∀a:Int,qbj [a]=true:=fun _=>rfl
 have g7:∀a b:Int,qbj [a,b]=true:=fun _ _=>rfl
 have g8:∀a b c:Int,qbj [a,b,c]=true:=fun _ _ _=>rfl
 have g9:∀a b c d:Int,qbj [a,b,c,d]=true:=fun _ _ _ _=>rfl
 have g10:qa (H ly,4,4)=H (sl ly 4 4):=qcX ly 4 4 (by omega)
 have g11:qa (H ly,12,4)=H (sl ly 12 4):=qcX ly 12 4 (by omega)
 have g12:qa (H ly,8,4)=H (sl ly 8 4):=qcX ly 8 4 (by omega)
 have g13:qa (H lx,0,4)=H (sl lx 0 4):=qcX lx 0 4 (by omega)
 have g14:qa (H ly,0,4)=H (sl ly 0 4):=qcX ly 0 4 (by omega)
 have g15:(qeg IntKind.i64 (H lx) 15==64256)=eqC (List.zipWith (·&&·) (qR 16 65520) lx) 64256:=(by rw[show qeg IntKind.i64 (H lx) 15=H (List.zipWith (·&&·) (qR 16 65520) lx) from qoe lx 15 hlx (by omega)];exact qha (List.zipWith (·&&·) (qR 16 65520) lx) 64256 (by rw[List.length_zipWith,qdX,hlx];decide))
 have g16:(qeg IntKind.i64 (H lx) 15==64416)=eqC (List.zipWith (·&&·) (qR 16 65520) lx) 64416:=(by rw[show qeg IntKind.i64 (H lx) 15=H (List.zipWith (·&&·) (qR 16 65520) lx) from qoe lx 15 hlx (by omega)];exact qha (List.zipWith (·&&·) (qR 16 65520) lx) 64416 (by rw[List.length_zipWith,qdX,hlx];decide))
 have g17:qbM [H (sl ly 8 4),H (sl lx 0 4),H (sl ly 0 4)]=(qQ (H (sl ly 8 4))&&(qQ (H (sl lx 0 4))&&(qQ (H (sl ly 0 4))&&true))):=rfl
 have g18:qbM [H (sl ly 12 4),H (sl ly 8 4),H (sl lx 0 4),H (sl ly 0 4)]=(qQ (H (sl ly 12 4))&&(qQ (H (sl ly 8 4))&&(qQ (H (sl lx 0 4))&&(qQ (H (sl ly 0 4))&&true)))):=rfl
 have g19:(H (sl ly 4 4)==0)=eqC (sl ly 4 4) 0:=qha (sl ly 4 4) 0 (by rw[show(sl ly 4 4).length=4 by simp[q7,hlx,hly]];decide)
 have g20:(H (sl ly 12 4)==15)=eqC (sl ly 12 4) 15:=qha (sl ly 12 4) 15 (by rw[show(sl ly 12 4).length=4 by simp[q7,hlx,hly]];decide)
 simp only[qhE,PO.val,g1,g2,g3,g4,g5,g6,g7,g8,g9,g10,g11,g12,g13,g14,g15,g16,g17,g18,g19,g20,bne,Bool.and_self,cond_true,cond_false,Bool.cond_self]
 unfold qd6
 repeat' (first|refine qtZ _ ?_ ?_ |rfl)
def qkK (lx ly:List Bool):Option q9.den :=
 (bif (eqC (ly.take 1) 1) then
 none else
 (bif (eqC (List.zipWith (·&&·) (qR 16 65520) lx) 62304) then
 (bif (eqC (sl ly 5 1) 0) then
 (bif (decide ((H (sl ly 0 5)+1-H (sl ly 12 3++sl ly 6 2))≥1)) then
 (bif ((qQ (H (sl ly 8 4))&&(qQ (H (sl lx 0 4))&&true))) then some (18,H (sl ly 8 4),H (sl lx 0 4),0,(H (sl ly 0 5)+1-H (sl ly 12 3++sl ly 6 2)),H (sl ly 12 3++sl ly 6 2),0,false,()) else none) else
 none) else
 none) else
 (bif (eqC (List.zipWith (·&&·) (qR 16 64496) lx) 62016) then
 (bif ((qQ (H (sl ly 8 4))&&true)) then some (3,H (sl ly 8 4),0,0,0,H (sl lx 0 4++sl lx 10 1++sl ly 12 3++sl ly 0 8),0,false,()) else none) else
 (bif (eqC (List.zipWith (·&&·) (qR 16 64496) lx) 62144) then
 (bif ((qQ (H (sl ly 8 4))&&true)) then some (4,H (sl ly 8 4),0,0,0,H (sl lx 0 4++sl lx 10 1++sl ly 12 3++sl ly 0 8),0,false,()) else none) else
 none))))
theorem qQj (lx ly:List Bool) (hlx:lx.length=16) (hly:ly.length=16):op1 (qjB (H lx,H ly)).val=some (qkK lx ly):=by
 have g1:qm (H ly,8,4)=true:=rfl
 have g2:qm (H lx,0,4)=true:=rfl
 have g3:qm (H ly,12,3)=true:=rfl
 have g4:qm (H ly,6,2)=true:=rfl
 have g5:qm (H ly,0,5)=true:=rfl
 have g6:qm (H ly,5,1)=true:=rfl
 have g7:qm (H lx,10,1)=true:=rfl
 have g8:qm (H ly,0,8)=true:=rfl
 have g9:∀a:Int,qbj [a]=true:=fun _=>rfl
 have g10:∀a b:Int,qbj [a,b]=true:=fun _ _=>rfl
 have g11:∀a b c:Int,qbj [a,b,c]=true:=fun _ _ _=>rfl
 have g12:∀a b c d:Int,qbj [a,b,c,d]=true:=fun _ _ _ _=>rfl
 have g13:qa (H ly,5,1)=H (sl ly 5 1):=qcX ly 5 1 (by omega)
 have g14:qa (H ly,0,5)=H (sl ly 0 5):=qcX ly 0 5 (by omega)
 have g15:qa (H ly,12,3)=H (sl ly 12 3):=qcX ly 12 3 (by omega)
 have g16:qa (H ly,6,2)=H (sl ly 6 2):=qcX ly 6 2 (by omega)
 have g17:qa (H ly,8,4)=H (sl ly 8 4):=qcX ly 8 4 (by omega)
 have g18:qa (H lx,0,4)=H (sl lx 0 4):=qcX lx 0 4 (by omega)
 have g19:qa (H lx,10,1)=H (sl lx 10 1):=qcX lx 10 1 (by omega)
 have g20:qa (H ly,0,8)=H (sl ly 0 8):=qcX ly 0 8 (by omega)
 have g21:(q8 IntKind.i64 (H ly) 15==1)=eqC (ly.take 1) 1:=(by have:=qpD ly 15 1 (by omega) (by omega) (by rw[hly];decide);rw[hly] at this;exact this)
 have g22:(qeg IntKind.i64 (H lx) 15==62304)=eqC (List.zipWith (·&&·) (qR 16 65520) lx) 62304:=(by rw[show qeg IntKind.i64 (H lx) 15=H (List.zipWith (·&&·) (qR 16 65520) lx) from qoe lx 15 hlx (by omega)];exact qha (List.zipWith (·&&·) (qR 16 65520) lx) 62304 (by rw[List.length_zipWith,qdX,hlx];decide))
 have g23:(qeg IntKind.i64 (H lx) 1039==62016)=eqC (List.zipWith (·&&·) (qR 16 64496) lx) 62016:=(by rw[show qeg IntKind.i64 (H lx) 1039=H (List.zipWith (·&&·) (qR 16 64496) lx) from qoe lx 1039 hlx (by omega)];exact qha (List.zipWith (·&&·) (qR 16 64496) lx) 62016 (by rw[List.length_zipWith,qdX,hlx];decide))
 have g24:(qeg IntKind.i64 (H lx) 1039==62144)=eqC (List.zipWith (·&&·) (qR 16 64496) lx) 62144:=(by rw[show qeg IntKind.i64 (H lx) 1039=H (List.zipWith (·&&·) (qR 16 64496) lx) from qoe lx 1039 hlx (by omega)];exact qha (List.zipWith (·&&·) (qR 16 64496) lx) 62144 (by rw[List.length_zipWith,qdX,hlx];decide))
 have g25:bor IntKind.i64 (qz IntKind.i64 (H (sl ly 12 3)) 2) (H (sl ly 6 2))=H (sl ly 12 3++sl ly 6 2):=qEl (sl ly 12 3) (sl ly 6 2) 2 (by simp[q7,hlx,hly]) (by simp[q7,hlx,hly])
 have g26:bor IntKind.i64 (qz IntKind.i64 (H (sl lx 0 4)) 12) (qz IntKind.i64 (H (sl lx 10 1)) 11)=qz IntKind.i64 (H (sl lx 0 4++sl lx 10 1)) 11:=quv (sl lx 0 4) (sl lx 10 1) 12 11 (by simp[q7,hlx,hly]) (by simp[q7,hlx,hly])
 have g27:bor IntKind.i64 (qz IntKind.i64 (H (sl lx 0 4++sl lx 10 1)) 11) (qz IntKind.i64 (H (sl ly 12 3)) 8)=qz IntKind.i64 (H (sl lx 0 4++sl lx 10 1++sl ly 12 3)) 8:=quv (sl lx 0 4++sl lx 10 1) (sl ly 12 3) 11 8 (by simp[q7,hlx,hly]) (by simp[q7,hlx,hly])
 have g28:bor IntKind.i64 (qz IntKind.i64 (H (sl lx 0 4++sl lx 10 1++sl ly 12 3)) 8) (H (sl ly 0 8))=H (sl lx 0 4++sl lx 10 1++sl ly 12 3++sl ly 0 8):=qEl (sl lx 0 4++sl lx 10 1++sl ly 12 3) (sl ly 0 8) 8 (by simp[q7,hlx,hly]) (by simp[q7,hlx,hly])
 have g29:qbM [H (sl ly 8 4),H (sl lx 0 4)]=(qQ (H (sl ly 8 4))&&(qQ (H (sl lx 0 4))&&true)):=rfl
 have g30:qbM [H (sl ly 8 4)]=(qQ (H (sl ly 8 4))&&true):=rfl
 have g31:(H (sl ly 5 1)==0)=eqC (sl ly 5 1) 0:=qha (sl ly 5 1) 0 (by rw[show(sl ly 5 1).length=1 by simp[q7,hlx,hly]];decide)
 have g32:w64 (H (sl ly 0 5)+1)=H (sl ly 0 5)+1:=qA3 _ (by have:=qM (sl ly 0 5);omega) (by have:=qbN (l:=sl ly 0 5) (k:=8) (by simp[q7,hlx,hly]);omega)
 have g33:w64 (H (sl ly 0 5)+1-H (sl ly 12 3++sl ly 6 2))=(H (sl ly 0 5)+1-H (sl ly 12 3++sl ly 6 2)):=qA3 _ (by have:=qM (sl ly 0 5);have:=qbN (l:=sl ly 12 3++sl ly 6 2) (k:=8) (by simp[q7,hlx,hly]);omega) (by have:=qM (sl ly 12 3++sl ly 6 2);have:=qbN (l:=sl ly 0 5) (k:=8) (by simp[q7,hlx,hly]);omega)
 simp only[qjB,PO.val,g1,g2,g3,g4,g5,g6,g7,g8,g9,g10,g11,g12,g13,g14,g15,g16,g17,g18,g19,g20,g21,g22,g23,g24,g25,g26,g27,g28,g29,g30,g31,g32,g33,bne,Bool.and_self,cond_true,cond_false,Bool.cond_self]
 unfold qkK
 repeat' (first|refine qtZ _ ?_ ?_ |rfl)
def qoC (lx ly:List Bool):Option q9.den :=
 (bif (!eqC (lx.take 5) 30||!eqC (ly.take 2) 2) then
 none else
 (bif (eqC (sl ly 12 1) 1) then
 (some (24,0,0,0,0,SG (sl lx 10 1++List.zipWith nx (sl ly 13 1) (sl lx 10 1)++List.zipWith nx (sl ly 11 1) (sl lx 10 1)++sl lx 0 10++sl ly 0 11++[false]),0,true,())) else
 (bif (decide (H (sl lx 6 4)≤13)) then some (25,0,0,0,0,SG (sl lx 10 1++sl ly 11 1++sl ly 13 1++sl lx 0 6++sl ly 0 11++[false]),H (sl lx 6 4),true,()) else none)))
theorem qOj (lx ly:List Bool) (hlx:lx.length=16) (hly:ly.length=16):op1 (qiG (H lx,H ly)).val=some (qoC lx ly):=by
 have g1:qm (H lx,10,1)=true:=rfl
 have g2:qm (H ly,13,1)=true:=rfl
 have g3:qm (H ly,11,1)=true:=rfl
 have g4:qm (H ly,0,11)=true:=rfl
 have g5:qm (H ly,12,1)=true:=rfl
 have g6:qm (H lx,0,10)=true:=rfl
 have g7:qm (H lx,6,4)=true:=rfl
 have g8:qm (H lx,0,6)=true:=rfl
 have g9:qa (H ly,12,1)=H (sl ly 12 1):=qcX ly 12 1 (by omega)
 have g10:qa (H lx,10,1)=H (sl lx 10 1):=qcX lx 10 1 (by omega)
 have g11:qa (H ly,13,1)=H (sl ly 13 1):=qcX ly 13 1 (by omega)
 have g12:qa (H ly,11,1)=H (sl ly 11 1):=qcX ly 11 1 (by omega)
 have g13:qa (H lx,0,10)=H (sl lx 0 10):=qcX lx 0 10 (by omega)
 have g14:qa (H ly,0,11)=H (sl ly 0 11):=qcX ly 0 11 (by omega)
 have g15:qa (H lx,6,4)=H (sl lx 6 4):=qcX lx 6 4 (by omega)
 have g16:qa (H lx,0,6)=H (sl lx 0 6):=qcX lx 0 6 (by omega)
 have g17:(q8 IntKind.i64 (H lx) 11==30)=eqC (lx.take 5) 30:=(by have:=qpD lx 11 30 (by omega) (by omega) (by rw[hlx];decide);rw[hlx] at this;exact this)
 have g18:(q8 IntKind.i64 (H ly) 14==2)=eqC (ly.take 2) 2:=(by have:=qpD ly 14 2 (by omega) (by omega) (by rw[hly];decide);rw[hly] at this;exact this)
 have g19:qh3 IntKind.i64 (qh3 IntKind.i64 1 (H (sl ly 13 1))) (H (sl lx 10 1))=H (List.zipWith nx (sl ly 13 1) (sl lx 10 1)):=qSj _ _ (qAc _ _ _ (by omega)) (qAc _ _ _ (by omega))
 have g20:qh3 IntKind.i64 (qh3 IntKind.i64 1 (H (sl ly 11 1))) (H (sl lx 10 1))=H (List.zipWith nx (sl ly 11 1) (sl lx 10 1)):=qSj _ _ (qAc _ _ _ (by omega)) (qAc _ _ _ (by omega))
 have g21:bor IntKind.i64 (qz IntKind.i64 (H (sl lx 10 1)) 23) (qz IntKind.i64 (H (List.zipWith nx (sl ly 13 1) (sl lx 10 1))) 22)=qz IntKind.i64 (H (sl lx 10 1++List.zipWith nx (sl ly 13 1) (sl lx 10 1))) 22:=quv (sl lx 10 1) (List.zipWith nx (sl ly 13 1) (sl lx 10 1)) 23 22 (by simp[q7,hlx,hly]) (by simp[q7,hlx,hly])
 have g22:bor IntKind.i64 (qz IntKind.i64 (H (sl lx 10 1++List.zipWith nx (sl ly 13 1) (sl lx 10 1))) 22) (qz IntKind.i64 (H (List.zipWith nx (sl ly 11 1) (sl lx 10 1))) 21)=qz IntKind.i64 (H (sl lx 10 1++List.zipWith nx (sl ly 13 1) (sl lx 10 1)++List.zipWith nx (sl ly 11 1) (sl lx 10 1))) 21:=quv (sl lx 10 1++List.zipWith nx (sl ly 13 1) (sl lx 10 1)) (List.zipWith nx (sl ly 11 1) (sl lx 10 1)) 22 21 (by simp[q7,hlx,hly]) (by simp[q7,hlx,hly])
 have g23:bor IntKind.i64 (qz IntKind.i64 (H (sl lx 10 1++List.zipWith nx (sl ly 13 1) (sl lx 10 1)++List.zipWith nx (sl ly 11 1) (sl lx 10 1))) 21) (qz IntKind.i64 (H (sl lx 0 10)) 11)=qz IntKind.i64 (H (sl lx 10 1++List.zipWith nx (sl ly 13 1) (sl lx 10 1)++List.zipWith nx (sl ly 11 1) (sl lx 10 1)++sl lx 0 10)) 11:=quv (sl lx 10 1++List.zipWith nx (sl ly 13 1) (sl lx 10 1)++List.zipWith nx (sl ly 11 1) (sl lx 10 1)) (sl lx 0 10) 21 11 (by simp[q7,hlx,hly]) (by simp[q7,hlx,hly])
 have g24:bor IntKind.i64 (qz IntKind.i64 (H (sl lx 10 1++List.zipWith nx (sl ly 13 1) (sl lx 10 1)++List.zipWith nx (sl ly 11 1) (sl lx 10 1)++sl lx 0 10)) 11) (H (sl ly 0 11))=H (sl lx 10 1++List.zipWith nx (sl ly 13 1) (sl lx 10 1)++List.zipWith nx (sl ly 11 1) (sl lx 10 1)++sl lx 0 10++sl ly 0 11):=qEl (sl lx 10 1++List.zipWith nx (sl ly 13 1) (sl lx 10 1)++List.zipWith nx (sl ly 11 1) (sl lx 10 1)++sl lx 0 10) (sl ly 0 11) 11 (by simp[q7,hlx,hly]) (by simp[q7,hlx,hly])
 have g25:bor IntKind.i64 (qz IntKind.i64 (H (sl lx 10 1)) 19) (qz IntKind.i64 (H (sl ly 11 1)) 18)=qz IntKind.i64 (H (sl lx 10 1++sl ly 11 1)) 18:=quv (sl lx 10 1) (sl ly 11 1) 19 18 (by simp[q7,hlx,hly]) (by simp[q7,hlx,hly])
 have g26:bor IntKind.i64 (qz IntKind.i64 (H (sl lx 10 1++sl ly 11 1)) 18) (qz IntKind.i64 (H (sl ly 13 1)) 17)=qz IntKind.i64 (H (sl lx 10 1++sl ly 11 1++sl ly 13 1)) 17:=quv (sl lx 10 1++sl ly 11 1) (sl ly 13 1) 18 17 (by simp[q7,hlx,hly]) (by simp[q7,hlx,hly])
 have g27:bor IntKind.i64 (qz IntKind.i64 (H (sl lx 10 1++sl ly 11 1++sl ly 13 1)) 17) (qz IntKind.i64 (H (sl lx 0 6)) 11)=qz IntKind.i64 (H (sl lx 10 1++sl ly 11 1++sl ly 13 1++sl lx 0 6)) 11:=quv (sl lx 10 1++sl ly 11 1++sl ly 13 1) (sl lx 0 6) 17 11 (by simp[q7,hlx,hly]) (by simp[q7,hlx,hly])
 have g28:bor IntKind.i64 (qz IntKind.i64 (H (sl lx 10 1++sl ly 11 1++sl ly 13 1++sl lx 0 6)) 11) (H (sl ly 0 11))=H (sl lx 10 1++sl ly 11 1++sl ly 13 1++sl lx 0 6++sl ly 0 11):=qEl (sl lx 10 1++sl ly 11 1++sl ly 13 1++sl lx 0 6) (sl ly 0 11) 11 (by simp[q7,hlx,hly]) (by simp[q7,hlx,hly])
 have g29:(H (sl ly 12 1)==1)=eqC (sl ly 12 1) 1:=qha (sl ly 12 1) 1 (by rw[show(sl ly 12 1).length=1 by simp[q7,hlx,hly]];decide)
 have g30:qb9 (H (sl lx 10 1++List.zipWith nx (sl ly 13 1) (sl lx 10 1)++List.zipWith nx (sl ly 11 1) (sl lx 10 1)++sl lx 0 10++sl ly 0 11),24)=SG (sl lx 10 1++List.zipWith nx (sl ly 13 1) (sl lx 10 1)++List.zipWith nx (sl ly 11 1) (sl lx 10 1)++sl lx 0 10++sl ly 0 11):=qus (sl lx 10 1++List.zipWith nx (sl ly 13 1) (sl lx 10 1)++List.zipWith nx (sl ly 11 1) (sl lx 10 1)++sl lx 0 10++sl ly 0 11) 24 (by omega) (by simp[q7,hlx,hly])
 have g31:qcJ (H (sl lx 10 1++List.zipWith nx (sl ly 13 1) (sl lx 10 1)++List.zipWith nx (sl ly 11 1) (sl lx 10 1)++sl lx 0 10++sl ly 0 11),24)=true:=qul _ 24 (by omega) (by omega) (by simp[q7,hlx,hly])
 have g32:w64 (2*SG (sl lx 10 1++List.zipWith nx (sl ly 13 1) (sl lx 10 1)++List.zipWith nx (sl ly 11 1) (sl lx 10 1)++sl lx 0 10++sl ly 0 11))=SG (sl lx 10 1++List.zipWith nx (sl ly 13 1) (sl lx 10 1)++List.zipWith nx (sl ly 11 1) (sl lx 10 1)++sl lx 0 10++sl ly 0 11++[false]):=qvO (sl lx 10 1++List.zipWith nx (sl ly 13 1) (sl lx 10 1)++List.zipWith nx (sl ly 11 1) (sl lx 10 1)++sl lx 0 10++sl ly 0 11) 24 (by omega) (by omega) (by simp[q7,hlx,hly])
 have g33:qb9 (H (sl lx 10 1++sl ly 11 1++sl ly 13 1++sl lx 0 6++sl ly 0 11),20)=SG (sl lx 10 1++sl ly 11 1++sl ly 13 1++sl lx 0 6++sl ly 0 11):=qus (sl lx 10 1++sl ly 11 1++sl ly 13 1++sl lx 0 6++sl ly 0 11) 20 (by omega) (by simp[q7,hlx,hly])
 have g34:qcJ (H (sl lx 10 1++sl ly 11 1++sl ly 13 1++sl lx 0 6++sl ly 0 11),20)=true:=qul _ 20 (by omega) (by omega) (by simp[q7,hlx,hly])
 have g35:w64 (2*SG (sl lx 10 1++sl ly 11 1++sl ly 13 1++sl lx 0 6++sl ly 0 11))=SG (sl lx 10 1++sl ly 11 1++sl ly 13 1++sl lx 0 6++sl ly 0 11++[false]):=qvO (sl lx 10 1++sl ly 11 1++sl ly 13 1++sl lx 0 6++sl ly 0 11) 20 (by omega) (by omega) (by simp[q7,hlx,hly])
 simp only[qiG,PO.val,g1,g2,g3,g4,g5,g6,g7,g8,g9,g10,g11,g12,g13,g14,g15,g16,g17,g18,g19,g20,g21,g22,g23,g24,g25,g26,g27,g28,g29,g30,g31,g32,g33,g34,g35,bne,Bool.and_self,cond_true,cond_false,Bool.cond_self]
 unfold qoC
 repeat' (first|refine qtZ _ ?_ ?_ |rfl)
end Go.Av
end
section
namespace Go.Av
open Go
def qcf (lx ly:List Bool):Option q9.den:=(qdZ lx ly).or ((qd6 lx ly).or ((qkK lx ly).or (qoC lx ly)))
theorem qbE {x:Int} (h0:0≤x) (h:x≤12):qQ (H (bis x 4))=true:=by
 unfold qQ
 rw[qc6 h0 (by have:((2 ^ 4:Nat):Int)=16:=rfl;omega)]
 exact qJ h
theorem qdV {x:Int} (h0:0≤x) (h:x≤12):H (bis x 4)=x:=qc6 h0 (by have:((2 ^ 4:Nat):Int)=16:=rfl;omega)
theorem qvV {x:Int} (h:x % 2=0):bI x 0=false:=by
 unfold bI
 rw[show x / (2 ^ 0:Nat)=x by simp,h]
 rfl
theorem qTS:qcx [true,false,true,true,true,true,true,true,false,false,false,false,false,false,false,false]=some (1,0,0,0,0,0,0,false,()):=by kernel_rfl
theorem qTR (imm:Int) (_0imm:0≤imm) (_1imm:imm≤255):qcx [true,false,true,true,true,true,true,false,bI imm 7,bI imm 6,bI imm 5,bI imm 4,bI imm 3,bI imm 2,bI imm 1,bI imm 0]=some (2,0,0,0,0,imm,0,false,()):=by
 have e:qcx [true,false,true,true,true,true,true,false,bI imm 7,bI imm 6,bI imm 5,bI imm 4,bI imm 3,bI imm 2,bI imm 1,bI imm 0]=some (2,0,0,0,0,H (bis imm 8),0,false,()):=by kernel_rfl
 rw[e,qc6 _0imm (by have:((2 ^ 8:Nat):Int)=256:=rfl;omega)]
theorem qTx (rd:Int) (_0rd:0≤rd) (_1rd:rd≤12) (imm:Int) (_0imm:0≤imm) (_1imm:imm≤65535):qcf [true,true,true,true,false,bI imm 11,true,false,false,true,false,false,bI imm 15,bI imm 14,bI imm 13,bI imm 12] [false,bI imm 10,bI imm 9,bI imm 8,bI rd 3,bI rd 2,bI rd 1,bI rd 0,bI imm 7,bI imm 6,bI imm 5,bI imm 4,bI imm 3,bI imm 2,bI imm 1,bI imm 0]=some (3,rd,0,0,0,imm,0,false,()):=by
 have nThree:qdZ [true,true,true,true,false,bI imm 11,true,false,false,true,false,false,bI imm 15,bI imm 14,bI imm 13,bI imm 12] [false,bI imm 10,bI imm 9,bI imm 8,bI rd 3,bI rd 2,bI rd 1,bI rd 0,bI imm 7,bI imm 6,bI imm 5,bI imm 4,bI imm 3,bI imm 2,bI imm 1,bI imm 0]=none:=by kernel_rfl
 have nProduct:qd6 [true,true,true,true,false,bI imm 11,true,false,false,true,false,false,bI imm 15,bI imm 14,bI imm 13,bI imm 12] [false,bI imm 10,bI imm 9,bI imm 8,bI rd 3,bI rd 2,bI rd 1,bI rd 0,bI imm 7,bI imm 6,bI imm 5,bI imm 4,bI imm 3,bI imm 2,bI imm 1,bI imm 0]=none:=by
  have e:qd6 [true,true,true,true,false,bI imm 11,true,false,false,true,false,false,bI imm 15,bI imm 14,bI imm 13,bI imm 12] [false,bI imm 10,bI imm 9,bI imm 8,bI rd 3,bI rd 2,bI rd 1,bI rd 0,bI imm 7,bI imm 6,bI imm 5,bI imm 4,bI imm 3,bI imm 2,bI imm 1,bI imm 0]=(bif !eqC (sl [false,bI imm 10,bI imm 9,bI imm 8,bI rd 3,bI rd 2,bI rd 1,bI rd 0,bI imm 7,bI imm 6,bI imm 5,bI imm 4,bI imm 3,bI imm 2,bI imm 1,bI imm 0] 4 4) 0 then none else none):=by kernel_rfl
  rw[e];exact Bool.cond_self _ _
 have e0:∀L:Bool,qkK [true,true,true,true,false,L,true,false,false,true,false,false,bI imm 15,bI imm 14,bI imm 13,bI imm 12] [false,bI imm 10,bI imm 9,bI imm 8,bI rd 3,bI rd 2,bI rd 1,bI rd 0,bI imm 7,bI imm 6,bI imm 5,bI imm 4,bI imm 3,bI imm 2,bI imm 1,bI imm 0]=(bif (qQ (H (bis rd 4))&&true) then some (3,H (bis rd 4),0,0,0,H [bI imm 15,bI imm 14,bI imm 13,bI imm 12,L,bI imm 10,bI imm 9,bI imm 8,bI imm 7,bI imm 6,bI imm 5,bI imm 4,bI imm 3,bI imm 2,bI imm 1,bI imm 0],0,false,()) else none):=by intro L;cases L<;>kernel_rfl
 have e:qkK [true,true,true,true,false,bI imm 11,true,false,false,true,false,false,bI imm 15,bI imm 14,bI imm 13,bI imm 12] [false,bI imm 10,bI imm 9,bI imm 8,bI rd 3,bI rd 2,bI rd 1,bI rd 0,bI imm 7,bI imm 6,bI imm 5,bI imm 4,bI imm 3,bI imm 2,bI imm 1,bI imm 0]=(bif (qQ (H (bis rd 4))&&true) then some (3,H (bis rd 4),0,0,0,H (bis imm 16),0,false,()) else none):=e0 (bI imm 11)
 unfold qcf
 rw[nThree,nProduct,e,qbE _0rd _1rd,qdV _0rd _1rd,qc6 _0imm (by have:((2 ^ 16:Nat):Int)=65536:=rfl;omega)]
 rfl
theorem qTz (rd:Int) (_0rd:0≤rd) (_1rd:rd≤12) (imm:Int) (_0imm:0≤imm) (_1imm:imm≤65535):qcf [true,true,true,true,false,bI imm 11,true,false,true,true,false,false,bI imm 15,bI imm 14,bI imm 13,bI imm 12] [false,bI imm 10,bI imm 9,bI imm 8,bI rd 3,bI rd 2,bI rd 1,bI rd 0,bI imm 7,bI imm 6,bI imm 5,bI imm 4,bI imm 3,bI imm 2,bI imm 1,bI imm 0]=some (4,rd,0,0,0,imm,0,false,()):=by
 have nThree:qdZ [true,true,true,true,false,bI imm 11,true,false,true,true,false,false,bI imm 15,bI imm 14,bI imm 13,bI imm 12] [false,bI imm 10,bI imm 9,bI imm 8,bI rd 3,bI rd 2,bI rd 1,bI rd 0,bI imm 7,bI imm 6,bI imm 5,bI imm 4,bI imm 3,bI imm 2,bI imm 1,bI imm 0]=none:=by kernel_rfl
 have nProduct:qd6 [true,true,true,true,false,bI imm 11,true,false,true,true,false,false,bI imm 15,bI imm 14,bI imm 13,bI imm 12] [false,bI imm 10,bI imm 9,bI imm 8,bI rd 3,bI rd 2,bI rd 1,bI rd 0,bI imm 7,bI imm 6,bI imm 5,bI imm 4,bI imm 3,bI imm 2,bI imm 1,bI imm 0]=none:=by
  have e:qd6 [true,true,true,true,false,bI imm 11,true,false,true,true,false,false,bI imm 15,bI imm 14,bI imm 13,bI imm 12] [false,bI imm 10,bI imm 9,bI imm 8,bI rd 3,bI rd 2,bI rd 1,bI rd 0,bI imm 7,bI imm 6,bI imm 5,bI imm 4,bI imm 3,bI imm 2,bI imm 1,bI imm 0]=(bif !eqC (sl [false,bI imm 10,bI imm 9,bI imm 8,bI rd 3,bI rd 2,bI rd 1,bI rd 0,bI imm 7,bI imm 6,bI imm 5,bI imm 4,bI imm 3,bI imm 2,bI imm 1,bI imm 0] 4 4) 0 then none else none):=by kernel_rfl
  rw[e];exact Bool.cond_self _ _
 have e0:∀L:Bool,qkK [true,true,true,true,false,L,true,false,true,true,false,false,bI imm 15,bI imm 14,bI imm 13,bI imm 12] [false,bI imm 10,bI imm 9,bI imm 8,bI rd 3,bI rd 2,bI rd 1,bI rd 0,bI imm 7,bI imm 6,bI imm 5,bI imm 4,bI imm 3,bI imm 2,bI imm 1,bI imm 0]=(bif (qQ (H (bis rd 4))&&true) then some (4,H (bis rd 4),0,0,0,H [bI imm 15,bI imm 14,bI imm 13,bI imm 12,L,bI imm 10,bI imm 9,bI imm 8,bI imm 7,bI imm 6,bI imm 5,bI imm 4,bI imm 3,bI imm 2,bI imm 1,bI imm 0],0,false,()) else none):=by intro L;cases L<;>kernel_rfl
 have e:qkK [true,true,true,true,false,bI imm 11,true,false,true,true,false,false,bI imm 15,bI imm 14,bI imm 13,bI imm 12] [false,bI imm 10,bI imm 9,bI imm 8,bI rd 3,bI rd 2,bI rd 1,bI rd 0,bI imm 7,bI imm 6,bI imm 5,bI imm 4,bI imm 3,bI imm 2,bI imm 1,bI imm 0]=(bif (qQ (H (bis rd 4))&&true) then some (4,H (bis rd 4),0,0,0,H (bis imm 16),0,false,()) else none):=e0 (bI imm 11)
 unfold qcf
 rw[nThree,nProduct,e,qbE _0rd _1rd,qdV _0rd _1rd,qc6 _0imm (by have:((2 ^ 16:Nat):Int)=65536:=rfl;omega)]
 rfl
theorem qTO (rd:Int) (_0rd:0≤rd) (_1rd:rd≤12) (rm:Int) (_0rm:0≤rm) (_1rm:rm≤12) (imm:Int) (_0imm:0≤imm) (_1imm:imm≤31):qcf [true,true,true,false,true,false,true,false,false,true,false,false,true,true,true,true] [false,bI imm 4,bI imm 3,bI imm 2,bI rd 3,bI rd 2,bI rd 1,bI rd 0,bI imm 1,bI imm 0,false,false,bI rm 3,bI rm 2,bI rm 1,bI rm 0]=some (5,rd,0,rm,0,imm,0,false,()):=by
 have e:qdZ [true,true,true,false,true,false,true,false,false,true,false,false,true,true,true,true] [false,bI imm 4,bI imm 3,bI imm 2,bI rd 3,bI rd 2,bI rd 1,bI rd 0,bI imm 1,bI imm 0,false,false,bI rm 3,bI rm 2,bI rm 1,bI rm 0]=(bif (qQ (H (bis rd 4))&&(qQ (H (bis rm 4))&&true)) then some (5+H [false,false],H (bis rd 4),0,H (bis rm 4),0,H (bis imm 5),0,false,()) else none):=by kernel_rfl
 have p:((2 ^ 5:Nat):Int)=32:=rfl
 unfold qcf
 rw[e,qbE _0rd _1rd,qbE _0rm _1rm,qdV _0rd _1rd,qdV _0rm _1rm,qc6 (x:=imm) (by omega) (by omega)]
 rfl
theorem qTG (rd:Int) (_0rd:0≤rd) (_1rd:rd≤12) (rm:Int) (_0rm:0≤rm) (_1rm:rm≤12) (imm:Int) (_0imm:1≤imm) (_1imm:imm≤31):qcf [true,true,true,false,true,false,true,false,false,true,false,false,true,true,true,true] [false,bI imm 4,bI imm 3,bI imm 2,bI rd 3,bI rd 2,bI rd 1,bI rd 0,bI imm 1,bI imm 0,false,true,bI rm 3,bI rm 2,bI rm 1,bI rm 0]=some (6,rd,0,rm,0,imm,0,false,()):=by
 have e:qdZ [true,true,true,false,true,false,true,false,false,true,false,false,true,true,true,true] [false,bI imm 4,bI imm 3,bI imm 2,bI rd 3,bI rd 2,bI rd 1,bI rd 0,bI imm 1,bI imm 0,false,true,bI rm 3,bI rm 2,bI rm 1,bI rm 0]=(bif (qQ (H (bis rd 4))&&(qQ (H (bis rm 4))&&true)) then(bif decide (H (bis imm 5) > 0) then some (5+H [false,true],H (bis rd 4),0,H (bis rm 4),0,H (bis imm 5),0,false,()) else none) else none):=by kernel_rfl
 have p:((2 ^ 5:Nat):Int)=32:=rfl
 unfold qcf
 rw[e,qbE _0rd _1rd,qbE _0rm _1rm,qdV _0rd _1rd,qdV _0rm _1rm,qc6 (x:=imm) (by omega) (by omega)]
 rw[qJ (p:=imm > 0) (by omega)]
 rfl
theorem qTQ (rd:Int) (_0rd:0≤rd) (_1rd:rd≤12) (rm:Int) (_0rm:0≤rm) (_1rm:rm≤12) (imm:Int) (_0imm:1≤imm) (_1imm:imm≤31):qcf [true,true,true,false,true,false,true,false,false,true,false,false,true,true,true,true] [false,bI imm 4,bI imm 3,bI imm 2,bI rd 3,bI rd 2,bI rd 1,bI rd 0,bI imm 1,bI imm 0,true,false,bI rm 3,bI rm 2,bI rm 1,bI rm 0]=some (7,rd,0,rm,0,imm,0,false,()):=by
 have e:qdZ [true,true,true,false,true,false,true,false,false,true,false,false,true,true,true,true] [false,bI imm 4,bI imm 3,bI imm 2,bI rd 3,bI rd 2,bI rd 1,bI rd 0,bI imm 1,bI imm 0,true,false,bI rm 3,bI rm 2,bI rm 1,bI rm 0]=(bif (qQ (H (bis rd 4))&&(qQ (H (bis rm 4))&&true)) then(bif decide (H (bis imm 5) > 0) then some (5+H [true,false],H (bis rd 4),0,H (bis rm 4),0,H (bis imm 5),0,false,()) else none) else none):=by kernel_rfl
 have p:((2 ^ 5:Nat):Int)=32:=rfl
 unfold qcf
 rw[e,qbE _0rd _1rd,qbE _0rm _1rm,qdV _0rd _1rd,qdV _0rm _1rm,qc6 (x:=imm) (by omega) (by omega)]
 rw[qJ (p:=imm > 0) (by omega)]
 rfl
theorem qTT (rd:Int) (_0rd:0≤rd) (_1rd:rd≤12) (rm:Int) (_0rm:0≤rm) (_1rm:rm≤12) (imm:Int) (_0imm:1≤imm) (_1imm:imm≤31):qcf [true,true,true,false,true,false,true,false,false,true,false,false,true,true,true,true] [false,bI imm 4,bI imm 3,bI imm 2,bI rd 3,bI rd 2,bI rd 1,bI rd 0,bI imm 1,bI imm 0,true,true,bI rm 3,bI rm 2,bI rm 1,bI rm 0]=some (8,rd,0,rm,0,imm,0,false,()):=by
 have e:qdZ [true,true,true,false,true,false,true,false,false,true,false,false,true,true,true,true] [false,bI imm 4,bI imm 3,bI imm 2,bI rd 3,bI rd 2,bI rd 1,bI rd 0,bI imm 1,bI imm 0,true,true,bI rm 3,bI rm 2,bI rm 1,bI rm 0]=(bif (qQ (H (bis rd 4))&&(qQ (H (bis rm 4))&&true)) then(bif decide (H (bis imm 5) > 0) then some (5+H [true,true],H (bis rd 4),0,H (bis rm 4),0,H (bis imm 5),0,false,()) else none) else none):=by kernel_rfl
 have p:((2 ^ 5:Nat):Int)=32:=rfl
 unfold qcf
 rw[e,qbE _0rd _1rd,qbE _0rm _1rm,qdV _0rd _1rd,qdV _0rm _1rm,qc6 (x:=imm) (by omega) (by omega)]
 rw[qJ (p:=imm > 0) (by omega)]
 rfl
theorem qTA (rd:Int) (_0rd:0≤rd) (_1rd:rd≤12) (rm:Int) (_0rm:0≤rm) (_1rm:rm≤12):qcf [true,true,true,false,true,false,true,false,false,true,true,false,true,true,true,true] [false,false,false,false,bI rd 3,bI rd 2,bI rd 1,bI rd 0,false,false,false,false,bI rm 3,bI rm 2,bI rm 1,bI rm 0]=some (9,rd,0,rm,0,0,0,false,()):=by
 have e:qdZ [true,true,true,false,true,false,true,false,false,true,true,false,true,true,true,true] [false,false,false,false,bI rd 3,bI rd 2,bI rd 1,bI rd 0,false,false,false,false,bI rm 3,bI rm 2,bI rm 1,bI rm 0]=(bif (qQ (H (bis rd 4))&&(qQ (H (bis rm 4))&&true)) then some (9,H (bis rd 4),0,H (bis rm 4),0,0,0,false,()) else none):=by kernel_rfl
 unfold qcf
 rw[e,qbE _0rd _1rd,qbE _0rm _1rm,qdV _0rd _1rd,qdV _0rm _1rm]
 rfl
theorem qS1 (rd:Int) (_0rd:0≤rd) (_1rd:rd≤12) (rn:Int) (_0rn:0≤rn) (_1rn:rn≤12) (rm:Int) (_0rm:0≤rm) (_1rm:rm≤12):qcf [true,true,true,false,true,false,true,false,false,false,false,false,bI rn 3,bI rn 2,bI rn 1,bI rn 0] [false,false,false,false,bI rd 3,bI rd 2,bI rd 1,bI rd 0,false,false,false,false,bI rm 3,bI rm 2,bI rm 1,bI rm 0]=some (10,rd,rn,rm,0,0,0,false,()):=by
 have e:qdZ [true,true,true,false,true,false,true,false,false,false,false,false,bI rn 3,bI rn 2,bI rn 1,bI rn 0] [false,false,false,false,bI rd 3,bI rd 2,bI rd 1,bI rd 0,false,false,false,false,bI rm 3,bI rm 2,bI rm 1,bI rm 0]=(bif (qQ (H (bis rd 4))&&(qQ (H (bis rn 4))&&(qQ (H (bis rm 4))&&true))) then some (10,H (bis rd 4),H (bis rn 4),H (bis rm 4),0,0,0,false,()) else none):=by kernel_rfl
 unfold qcf
 rw[e,qbE _0rd _1rd,qbE _0rn _1rn,qbE _0rm _1rm,qdV _0rd _1rd,qdV _0rn _1rn,qdV _0rm _1rm]
 rfl
theorem qSV (rd:Int) (_0rd:0≤rd) (_1rd:rd≤12) (rn:Int) (_0rn:0≤rn) (_1rn:rn≤12) (rm:Int) (_0rm:0≤rm) (_1rm:rm≤12):qcf [true,true,true,false,true,false,true,false,false,false,true,false,bI rn 3,bI rn 2,bI rn 1,bI rn 0] [false,false,false,false,bI rd 3,bI rd 2,bI rd 1,bI rd 0,false,false,false,false,bI rm 3,bI rm 2,bI rm 1,bI rm 0]=some (11,rd,rn,rm,0,0,0,false,()):=by
 have e:qdZ [true,true,true,false,true,false,true,false,false,false,true,false,bI rn 3,bI rn 2,bI rn 1,bI rn 0] [false,false,false,false,bI rd 3,bI rd 2,bI rd 1,bI rd 0,false,false,false,false,bI rm 3,bI rm 2,bI rm 1,bI rm 0]=(bif (qQ (H (bis rd 4))&&(qQ (H (bis rn 4))&&(qQ (H (bis rm 4))&&true))) then some (11,H (bis rd 4),H (bis rn 4),H (bis rm 4),0,0,0,false,()) else none):=by kernel_rfl
 unfold qcf
 rw[e,qbE _0rd _1rd,qbE _0rn _1rn,qbE _0rm _1rm,qdV _0rd _1rd,qdV _0rn _1rn,qdV _0rm _1rm]
 rfl
theorem qSZ (rd:Int) (_0rd:0≤rd) (_1rd:rd≤12) (rn:Int) (_0rn:0≤rn) (_1rn:rn≤12) (rm:Int) (_0rm:0≤rm) (_1rm:rm≤12):qcf [true,true,true,false,true,false,true,false,false,true,false,false,bI rn 3,bI rn 2,bI rn 1,bI rn 0] [false,false,false,false,bI rd 3,bI rd 2,bI rd 1,bI rd 0,false,false,false,false,bI rm 3,bI rm 2,bI rm 1,bI rm 0]=some (12,rd,rn,rm,0,0,0,false,()):=by
 have e:qdZ [true,true,true,false,true,false,true,false,false,true,false,false,bI rn 3,bI rn 2,bI rn 1,bI rn 0] [false,false,false,false,bI rd 3,bI rd 2,bI rd 1,bI rd 0,false,false,false,false,bI rm 3,bI rm 2,bI rm 1,bI rm 0]=(bif eqC (bis rn 4) 15 then(bif (qQ (H (bis rd 4))&&(qQ (H (bis rm 4))&&true)) then some (5+H [false,false],H (bis rd 4),0,H (bis rm 4),0,H (sl [false,false,false,false,bI rd 3,bI rd 2,bI rd 1,bI rd 0,false,false,false,false,bI rm 3,bI rm 2,bI rm 1,bI rm 0] 12 3++sl [false,false,false,false,bI rd 3,bI rd 2,bI rd 1,bI rd 0,false,false,false,false,bI rm 3,bI rm 2,bI rm 1,bI rm 0] 6 2),0,false,()) else none) else bif (qQ (H (bis rd 4))&&(qQ (H (bis rn 4))&&(qQ (H (bis rm 4))&&true))) then some (12,H (bis rd 4),H (bis rn 4),H (bis rm 4),0,0,0,false,()) else none):=by kernel_rfl
 have e2:eqC (bis rn 4) 15=false:=by rw[←qha (bis rn 4) 15 (by rw[qts];decide),qdV _0rn _1rn,beq_eq_false_iff_ne];omega
 unfold qcf
 rw[e,e2,qbE _0rd _1rd,qbE _0rn _1rn,qbE _0rm _1rm,qdV _0rd _1rd,qdV _0rn _1rn,qdV _0rm _1rm]
 rfl
theorem qSM (rd:Int) (_0rd:0≤rd) (_1rd:rd≤12) (rn:Int) (_0rn:0≤rn) (_1rn:rn≤12) (rm:Int) (_0rm:0≤rm) (_1rm:rm≤12):qcf [true,true,true,false,true,false,true,false,true,false,false,false,bI rn 3,bI rn 2,bI rn 1,bI rn 0] [false,false,false,false,bI rd 3,bI rd 2,bI rd 1,bI rd 0,false,false,false,false,bI rm 3,bI rm 2,bI rm 1,bI rm 0]=some (13,rd,rn,rm,0,0,0,false,()):=by
 have e:qdZ [true,true,true,false,true,false,true,false,true,false,false,false,bI rn 3,bI rn 2,bI rn 1,bI rn 0] [false,false,false,false,bI rd 3,bI rd 2,bI rd 1,bI rd 0,false,false,false,false,bI rm 3,bI rm 2,bI rm 1,bI rm 0]=(bif (qQ (H (bis rd 4))&&(qQ (H (bis rn 4))&&(qQ (H (bis rm 4))&&true))) then some (13,H (bis rd 4),H (bis rn 4),H (bis rm 4),0,0,0,false,()) else none):=by kernel_rfl
 unfold qcf
 rw[e,qbE _0rd _1rd,qbE _0rn _1rn,qbE _0rm _1rm,qdV _0rd _1rd,qdV _0rn _1rn,qdV _0rm _1rm]
 rfl
theorem qS7 (rd:Int) (_0rd:0≤rd) (_1rd:rd≤12) (rn:Int) (_0rn:0≤rn) (_1rn:rn≤12) (rm:Int) (_0rm:0≤rm) (_1rm:rm≤12):qcf [true,true,true,false,true,false,true,true,false,false,false,false,bI rn 3,bI rn 2,bI rn 1,bI rn 0] [false,false,false,false,bI rd 3,bI rd 2,bI rd 1,bI rd 0,false,false,false,false,bI rm 3,bI rm 2,bI rm 1,bI rm 0]=some (14,rd,rn,rm,0,0,0,false,()):=by
 have e:qdZ [true,true,true,false,true,false,true,true,false,false,false,false,bI rn 3,bI rn 2,bI rn 1,bI rn 0] [false,false,false,false,bI rd 3,bI rd 2,bI rd 1,bI rd 0,false,false,false,false,bI rm 3,bI rm 2,bI rm 1,bI rm 0]=(bif (qQ (H (bis rd 4))&&(qQ (H (bis rn 4))&&(qQ (H (bis rm 4))&&true))) then some (14,H (bis rd 4),H (bis rn 4),H (bis rm 4),0,0,0,false,()) else none):=by kernel_rfl
 unfold qcf
 rw[e,qbE _0rd _1rd,qbE _0rn _1rn,qbE _0rm _1rm,qdV _0rd _1rd,qdV _0rn _1rn,qdV _0rm _1rm]
 rfl
theorem qTf (rd:Int) (_0rd:0≤rd) (_1rd:rd≤12) (rn:Int) (_0rn:0≤rn) (_1rn:rn≤12) (rm:Int) (_0rm:0≤rm) (_1rm:rm≤12):qcf [true,true,true,false,true,false,true,true,true,false,true,false,bI rn 3,bI rn 2,bI rn 1,bI rn 0] [false,false,false,false,bI rd 3,bI rd 2,bI rd 1,bI rd 0,false,false,false,false,bI rm 3,bI rm 2,bI rm 1,bI rm 0]=some (15,rd,rn,rm,0,0,0,false,()):=by
 have e:qdZ [true,true,true,false,true,false,true,true,true,false,true,false,bI rn 3,bI rn 2,bI rn 1,bI rn 0] [false,false,false,false,bI rd 3,bI rd 2,bI rd 1,bI rd 0,false,false,false,false,bI rm 3,bI rm 2,bI rm 1,bI rm 0]=(bif (qQ (H (bis rd 4))&&(qQ (H (bis rn 4))&&(qQ (H (bis rm 4))&&true))) then some (15,H (bis rd 4),H (bis rn 4),H (bis rm 4),0,0,0,false,()) else none):=by kernel_rfl
 unfold qcf
 rw[e,qbE _0rd _1rd,qbE _0rn _1rn,qbE _0rm _1rm,qdV _0rd _1rd,qdV _0rn _1rn,qdV _0rm _1rm]
 rfl
theorem qS2 (rd:Int) (_0rd:0≤rd) (_1rd:rd≤12) (rn:Int) (_0rn:0≤rn) (_1rn:rn≤12) (rm:Int) (_0rm:0≤rm) (_1rm:rm≤12):qcf [true,true,true,true,true,false,true,true,false,false,false,false,bI rn 3,bI rn 2,bI rn 1,bI rn 0] [true,true,true,true,bI rd 3,bI rd 2,bI rd 1,bI rd 0,false,false,false,false,bI rm 3,bI rm 2,bI rm 1,bI rm 0]=some (16,rd,rn,rm,0,0,0,false,()):=by
 have nThree:qdZ [true,true,true,true,true,false,true,true,false,false,false,false,bI rn 3,bI rn 2,bI rn 1,bI rn 0] [true,true,true,true,bI rd 3,bI rd 2,bI rd 1,bI rd 0,false,false,false,false,bI rm 3,bI rm 2,bI rm 1,bI rm 0]=none:=by kernel_rfl
 have e:qd6 [true,true,true,true,true,false,true,true,false,false,false,false,bI rn 3,bI rn 2,bI rn 1,bI rn 0] [true,true,true,true,bI rd 3,bI rd 2,bI rd 1,bI rd 0,false,false,false,false,bI rm 3,bI rm 2,bI rm 1,bI rm 0]=(bif (qQ (H (bis rd 4))&&(qQ (H (bis rn 4))&&(qQ (H (bis rm 4))&&true))) then some (16,H (bis rd 4),H (bis rn 4),H (bis rm 4),0,0,0,false,()) else none):=by kernel_rfl
 unfold qcf
 rw[nThree,e,qbE _0rd _1rd,qbE _0rn _1rn,qbE _0rm _1rm,qdV _0rd _1rd,qdV _0rn _1rn,qdV _0rm _1rm]
 rfl
theorem qTs (rd:Int) (_0rd:0≤rd) (_1rd:rd≤12) (ra:Int) (_0ra:0≤ra) (_1ra:ra≤12) (rn:Int) (_0rn:0≤rn) (_1rn:rn≤12) (rm:Int) (_0rm:0≤rm) (_1rm:rm≤12) (hne:ra≠rd):qcf [true,true,true,true,true,false,true,true,true,false,true,false,bI rn 3,bI rn 2,bI rn 1,bI rn 0] [bI rd 3,bI rd 2,bI rd 1,bI rd 0,bI ra 3,bI ra 2,bI ra 1,bI ra 0,false,false,false,false,bI rm 3,bI rm 2,bI rm 1,bI rm 0]=some (17,rd,rn,rm,ra,0,0,false,()):=by
 have nThree:qdZ [true,true,true,true,true,false,true,true,true,false,true,false,bI rn 3,bI rn 2,bI rn 1,bI rn 0] [bI rd 3,bI rd 2,bI rd 1,bI rd 0,bI ra 3,bI ra 2,bI ra 1,bI ra 0,false,false,false,false,bI rm 3,bI rm 2,bI rm 1,bI rm 0]=none:=by
  have e:qdZ [true,true,true,true,true,false,true,true,true,false,true,false,bI rn 3,bI rn 2,bI rn 1,bI rn 0] [bI rd 3,bI rd 2,bI rd 1,bI rd 0,bI ra 3,bI ra 2,bI ra 1,bI ra 0,false,false,false,false,bI rm 3,bI rm 2,bI rm 1,bI rm 0]=(bif eqC [bI rd 3] 1 then none else none):=by kernel_rfl
  rw[e];exact Bool.cond_self _ _
 have e:qd6 [true,true,true,true,true,false,true,true,true,false,true,false,bI rn 3,bI rn 2,bI rn 1,bI rn 0] [bI rd 3,bI rd 2,bI rd 1,bI rd 0,bI ra 3,bI ra 2,bI ra 1,bI ra 0,false,false,false,false,bI rm 3,bI rm 2,bI rm 1,bI rm 0]=(bif (H (bis rd 4) != H (bis ra 4)) then(bif (qQ (H (bis rd 4))&&(qQ (H (bis ra 4))&&(qQ (H (bis rn 4))&&(qQ (H (bis rm 4))&&true)))) then some (17,H (bis rd 4),H (bis rn 4),H (bis rm 4),H (bis ra 4),0,0,false,()) else none) else none):=by kernel_rfl
 unfold qcf
 rw[nThree,e,qbE _0rd _1rd,qbE _0ra _1ra,qbE _0rn _1rn,qbE _0rm _1rm,qdV _0rd _1rd,qdV _0ra _1ra,qdV _0rn _1rn,qdV _0rm _1rm,bne_iff_ne.2 (Ne.symm hne)]
 rfl
theorem qTp (rd:Int) (_0rd:0≤rd) (_1rd:rd≤12) (rn:Int) (_0rn:0≤rn) (_1rn:rn≤12) (imm:Int) (_0imm:0≤imm) (_1imm:imm≤31) (ra:Int) (_0ra:1≤ra) (_1ra:ra≤32-imm):qcf [true,true,true,true,false,false,true,true,false,true,true,false,bI rn 3,bI rn 2,bI rn 1,bI rn 0] [false,bI imm 4,bI imm 3,bI imm 2,bI rd 3,bI rd 2,bI rd 1,bI rd 0,bI imm 1,bI imm 0,false,bI (imm+ra-1) 4,bI (imm+ra-1) 3,bI (imm+ra-1) 2,bI (imm+ra-1) 1,bI (imm+ra-1) 0]=some (18,rd,rn,0,ra,imm,0,false,()):=by
 have nThree:qdZ [true,true,true,true,false,false,true,true,false,true,true,false,bI rn 3,bI rn 2,bI rn 1,bI rn 0] [false,bI imm 4,bI imm 3,bI imm 2,bI rd 3,bI rd 2,bI rd 1,bI rd 0,bI imm 1,bI imm 0,false,bI (imm+ra-1) 4,bI (imm+ra-1) 3,bI (imm+ra-1) 2,bI (imm+ra-1) 1,bI (imm+ra-1) 0]=none:=by kernel_rfl
 have nProduct:qd6 [true,true,true,true,false,false,true,true,false,true,true,false,bI rn 3,bI rn 2,bI rn 1,bI rn 0] [false,bI imm 4,bI imm 3,bI imm 2,bI rd 3,bI rd 2,bI rd 1,bI rd 0,bI imm 1,bI imm 0,false,bI (imm+ra-1) 4,bI (imm+ra-1) 3,bI (imm+ra-1) 2,bI (imm+ra-1) 1,bI (imm+ra-1) 0]=none:=by
  have e:qd6 [true,true,true,true,false,false,true,true,false,true,true,false,bI rn 3,bI rn 2,bI rn 1,bI rn 0] [false,bI imm 4,bI imm 3,bI imm 2,bI rd 3,bI rd 2,bI rd 1,bI rd 0,bI imm 1,bI imm 0,false,bI (imm+ra-1) 4,bI (imm+ra-1) 3,bI (imm+ra-1) 2,bI (imm+ra-1) 1,bI (imm+ra-1) 0]=(bif !eqC (sl [false,bI imm 4,bI imm 3,bI imm 2,bI rd 3,bI rd 2,bI rd 1,bI rd 0,bI imm 1,bI imm 0,false,bI (imm+ra-1) 4,bI (imm+ra-1) 3,bI (imm+ra-1) 2,bI (imm+ra-1) 1,bI (imm+ra-1) 0] 4 4) 0 then none else none):=by kernel_rfl
  rw[e];exact Bool.cond_self _ _
 have e:qkK [true,true,true,true,false,false,true,true,false,true,true,false,bI rn 3,bI rn 2,bI rn 1,bI rn 0] [false,bI imm 4,bI imm 3,bI imm 2,bI rd 3,bI rd 2,bI rd 1,bI rd 0,bI imm 1,bI imm 0,false,bI (imm+ra-1) 4,bI (imm+ra-1) 3,bI (imm+ra-1) 2,bI (imm+ra-1) 1,bI (imm+ra-1) 0]=(bif decide (H (bis (imm+ra-1) 5)+1-H (bis imm 5)≥1) then(bif (qQ (H (bis rd 4))&&(qQ (H (bis rn 4))&&true)) then some (18,H (bis rd 4),H (bis rn 4),0,H (bis (imm+ra-1) 5)+1-H (bis imm 5),H (bis imm 5),0,false,()) else none) else none):=by kernel_rfl
 have p:((2 ^ 5:Nat):Int)=32:=rfl
 unfold qcf
 rw[nThree,nProduct,e,qbE _0rd _1rd,qbE _0rn _1rn,qdV _0rd _1rd,qdV _0rn _1rn,qc6 (x:=imm) (by omega) (by omega),qc6 (x:=imm+ra-1) (by omega) (by omega),show imm+ra-1+1-imm=ra by omega,qJ (p:=ra≥1) (by omega)]
 rfl
theorem qS3 (rd:Int) (_0rd:0≤rd) (_1rd:rd≤7) (rn:Int) (_0rn:0≤rn) (_1rn:rn≤7):qcx [false,true,true,false,true,false,false,false,false,false,bI rn 2,bI rn 1,bI rn 0,bI rd 2,bI rd 1,bI rd 0]=some (19,rd,rn,0,0,0,0,false,()):=by
 have e:qcx [false,true,true,false,true,false,false,false,false,false,bI rn 2,bI rn 1,bI rn 0,bI rd 2,bI rd 1,bI rd 0]=some (19,H (bis rd 3),H (bis rn 3),0,0,0,0,false,()):=by kernel_rfl
 have p:((2 ^ 3:Nat):Int)=8:=rfl
 rw[e,qc6 _0rd (by omega),qc6 _0rn (by omega)]
theorem qTm (rd:Int) (_0rd:0≤rd) (_1rd:rd≤7) (rn:Int) (_0rn:0≤rn) (_1rn:rn≤7):qcx [false,true,true,false,false,false,false,false,false,false,bI rn 2,bI rn 1,bI rn 0,bI rd 2,bI rd 1,bI rd 0]=some (20,rd,rn,0,0,0,0,false,()):=by
 have e:qcx [false,true,true,false,false,false,false,false,false,false,bI rn 2,bI rn 1,bI rn 0,bI rd 2,bI rd 1,bI rd 0]=some (20,H (bis rd 3),H (bis rn 3),0,0,0,0,false,()):=by kernel_rfl
 have p:((2 ^ 3:Nat):Int)=8:=rfl
 rw[e,qc6 _0rd (by omega),qc6 _0rn (by omega)]
theorem qTa (rd:Int) (_0rd:0≤rd) (_1rd:rd≤7) (rn:Int) (_0rn:0≤rn) (_1rn:rn≤7):qcx [false,true,true,true,true,false,false,false,false,false,bI rn 2,bI rn 1,bI rn 0,bI rd 2,bI rd 1,bI rd 0]=some (21,rd,rn,0,0,0,0,false,()):=by
 have e:qcx [false,true,true,true,true,false,false,false,false,false,bI rn 2,bI rn 1,bI rn 0,bI rd 2,bI rd 1,bI rd 0]=some (21,H (bis rd 3),H (bis rn 3),0,0,0,0,false,()):=by kernel_rfl
 have p:((2 ^ 3:Nat):Int)=8:=rfl
 rw[e,qc6 _0rd (by omega),qc6 _0rn (by omega)]
theorem qSW (rd:Int) (_0rd:0≤rd) (_1rd:rd≤7) (rn:Int) (_0rn:0≤rn) (_1rn:rn≤7):qcx [false,true,true,true,false,false,false,false,false,false,bI rn 2,bI rn 1,bI rn 0,bI rd 2,bI rd 1,bI rd 0]=some (22,rd,rn,0,0,0,0,false,()):=by
 have e:qcx [false,true,true,true,false,false,false,false,false,false,bI rn 2,bI rn 1,bI rn 0,bI rd 2,bI rd 1,bI rd 0]=some (22,H (bis rd 3),H (bis rn 3),0,0,0,0,false,()):=by kernel_rfl
 have p:((2 ^ 3:Nat):Int)=8:=rfl
 rw[e,qc6 _0rd (by omega),qc6 _0rn (by omega)]
theorem qS8 (rn:Int) (_0rn:0≤rn) (_1rn:rn≤7) (rm:Int) (_0rm:0≤rm) (_1rm:rm≤7):qcx [false,true,false,false,false,false,true,false,true,false,bI rm 2,bI rm 1,bI rm 0,bI rn 2,bI rn 1,bI rn 0]=some (23,0,rn,rm,0,0,0,false,()):=by
 have e:qcx [false,true,false,false,false,false,true,false,true,false,bI rm 2,bI rm 1,bI rm 0,bI rn 2,bI rn 1,bI rn 0]=some (23,0,H (bis rn 3),H (bis rm 3),0,0,0,false,()):=by kernel_rfl
 have p:((2 ^ 3:Nat):Int)=8:=rfl
 rw[e,qc6 _0rn (by omega),qc6 _0rm (by omega)]
theorem qTi (imm:Int) (h:imm % 2=0) (h1:-2048≤imm) (h2:imm≤2046):qcx [true,true,true,false,false,bI imm 11,bI imm 10,bI imm 9,bI imm 8,bI imm 7,bI imm 6,bI imm 5,bI imm 4,bI imm 3,bI imm 2,bI imm 1]=some (24,0,0,0,0,imm,0,false,()):=by
 have e:qcx [true,true,true,false,false,bI imm 11,bI imm 10,bI imm 9,bI imm 8,bI imm 7,bI imm 6,bI imm 5,bI imm 4,bI imm 3,bI imm 2,bI imm 1]=some (24,0,0,0,0,SG [bI imm 11,bI imm 10,bI imm 9,bI imm 8,bI imm 7,bI imm 6,bI imm 5,bI imm 4,bI imm 3,bI imm 2,bI imm 1,false],0,false,()):=by kernel_rfl
 have p:((2 ^ 11:Nat):Int)=2048:=rfl
 have e2:SG [bI imm 11,bI imm 10,bI imm 9,bI imm 8,bI imm 7,bI imm 6,bI imm 5,bI imm 4,bI imm 3,bI imm 2,bI imm 1,false]=imm:=by rw[←qvV h];exact qAG imm 11 (by omega) (by omega)
 rw[e,e2]
theorem qR1 (imm:Int) (h:imm % 2=0) (h1:-16777216≤imm) (h2:imm≤16777214):qcf [true,true,true,true,false,bI imm 24,bI imm 21,bI imm 20,bI imm 19,bI imm 18,bI imm 17,bI imm 16,bI imm 15,bI imm 14,bI imm 13,bI imm 12] [true,false,!(bI imm 23 ^^ bI imm 24),true,!(bI imm 22 ^^ bI imm 24),bI imm 11,bI imm 10,bI imm 9,bI imm 8,bI imm 7,bI imm 6,bI imm 5,bI imm 4,bI imm 3,bI imm 2,bI imm 1]=some (24,0,0,0,0,imm,0,true,()):=by
 have nThree:qdZ [true,true,true,true,false,bI imm 24,bI imm 21,bI imm 20,bI imm 19,bI imm 18,bI imm 17,bI imm 16,bI imm 15,bI imm 14,bI imm 13,bI imm 12] [true,false,!(bI imm 23 ^^ bI imm 24),true,!(bI imm 22 ^^ bI imm 24),bI imm 11,bI imm 10,bI imm 9,bI imm 8,bI imm 7,bI imm 6,bI imm 5,bI imm 4,bI imm 3,bI imm 2,bI imm 1]=none:=by kernel_rfl
 have nProduct:qd6 [true,true,true,true,false,bI imm 24,bI imm 21,bI imm 20,bI imm 19,bI imm 18,bI imm 17,bI imm 16,bI imm 15,bI imm 14,bI imm 13,bI imm 12] [true,false,!(bI imm 23 ^^ bI imm 24),true,!(bI imm 22 ^^ bI imm 24),bI imm 11,bI imm 10,bI imm 9,bI imm 8,bI imm 7,bI imm 6,bI imm 5,bI imm 4,bI imm 3,bI imm 2,bI imm 1]=none:=by
  have e:qd6 [true,true,true,true,false,bI imm 24,bI imm 21,bI imm 20,bI imm 19,bI imm 18,bI imm 17,bI imm 16,bI imm 15,bI imm 14,bI imm 13,bI imm 12] [true,false,!(bI imm 23 ^^ bI imm 24),true,!(bI imm 22 ^^ bI imm 24),bI imm 11,bI imm 10,bI imm 9,bI imm 8,bI imm 7,bI imm 6,bI imm 5,bI imm 4,bI imm 3,bI imm 2,bI imm 1]=(bif !eqC (sl [true,false,!(bI imm 23 ^^ bI imm 24),true,!(bI imm 22 ^^ bI imm 24),bI imm 11,bI imm 10,bI imm 9,bI imm 8,bI imm 7,bI imm 6,bI imm 5,bI imm 4,bI imm 3,bI imm 2,bI imm 1] 4 4) 0 then none else none):=by kernel_rfl
  rw[e];exact Bool.cond_self _ _
 have nPlain:qkK [true,true,true,true,false,bI imm 24,bI imm 21,bI imm 20,bI imm 19,bI imm 18,bI imm 17,bI imm 16,bI imm 15,bI imm 14,bI imm 13,bI imm 12] [true,false,!(bI imm 23 ^^ bI imm 24),true,!(bI imm 22 ^^ bI imm 24),bI imm 11,bI imm 10,bI imm 9,bI imm 8,bI imm 7,bI imm 6,bI imm 5,bI imm 4,bI imm 3,bI imm 2,bI imm 1]=none:=by kernel_rfl
 have e:qoC [true,true,true,true,false,bI imm 24,bI imm 21,bI imm 20,bI imm 19,bI imm 18,bI imm 17,bI imm 16,bI imm 15,bI imm 14,bI imm 13,bI imm 12] [true,false,!(bI imm 23 ^^ bI imm 24),true,!(bI imm 22 ^^ bI imm 24),bI imm 11,bI imm 10,bI imm 9,bI imm 8,bI imm 7,bI imm 6,bI imm 5,bI imm 4,bI imm 3,bI imm 2,bI imm 1]=some (24,0,0,0,0,SG [bI imm 24,!(!(bI imm 23 ^^ bI imm 24) ^^ bI imm 24),!(!(bI imm 22 ^^ bI imm 24) ^^ bI imm 24),bI imm 21,bI imm 20,bI imm 19,bI imm 18,bI imm 17,bI imm 16,bI imm 15,bI imm 14,bI imm 13,bI imm 12,bI imm 11,bI imm 10,bI imm 9,bI imm 8,bI imm 7,bI imm 6,bI imm 5,bI imm 4,bI imm 3,bI imm 2,bI imm 1,false],0,true,()):=by kernel_rfl
 have p:((2 ^ 24:Nat):Int)=16777216:=rfl
 have x1:∀a b:Bool,(!(!(a ^^ b) ^^ b))=a:=by decide
 have e2:SG [bI imm 24,bI imm 23,bI imm 22,bI imm 21,bI imm 20,bI imm 19,bI imm 18,bI imm 17,bI imm 16,bI imm 15,bI imm 14,bI imm 13,bI imm 12,bI imm 11,bI imm 10,bI imm 9,bI imm 8,bI imm 7,bI imm 6,bI imm 5,bI imm 4,bI imm 3,bI imm 2,bI imm 1,false]=imm:=by rw[←qvV h];exact qAG imm 24 (by omega) (by omega)
 unfold qcf
 rw[nThree,nProduct,nPlain,e,x1,x1,e2]
 rfl
theorem qS4 (imm:Int) (h:imm % 2=0) (h1:-256≤imm) (h2:imm≤254) (cond:Int) (c0:0≤cond) (c1:cond≤13):qcx [true,true,false,true,bI cond 3,bI cond 2,bI cond 1,bI cond 0,bI imm 8,bI imm 7,bI imm 6,bI imm 5,bI imm 4,bI imm 3,bI imm 2,bI imm 1]=some (25,0,0,0,0,imm,cond,false,()):=by
 have e:qcx [true,true,false,true,bI cond 3,bI cond 2,bI cond 1,bI cond 0,bI imm 8,bI imm 7,bI imm 6,bI imm 5,bI imm 4,bI imm 3,bI imm 2,bI imm 1]=(bif decide (H (bis cond 4)≤13) then some (25,0,0,0,0,SG [bI imm 8,bI imm 7,bI imm 6,bI imm 5,bI imm 4,bI imm 3,bI imm 2,bI imm 1,false],H (bis cond 4),false,()) else none):=by kernel_rfl
 have p:((2 ^ 8:Nat):Int)=256:=rfl
 have q:((2 ^ 4:Nat):Int)=16:=rfl
 have e2:SG [bI imm 8,bI imm 7,bI imm 6,bI imm 5,bI imm 4,bI imm 3,bI imm 2,bI imm 1,false]=imm:=by rw[←qvV h];exact qAG imm 8 (by omega) (by omega)
 rw[e,e2,qc6 c0 (by omega),qJ c1]
 rfl
theorem qRF (imm:Int) (h:imm % 2=0) (h1:-1048576≤imm) (h2:imm≤1048574) (cond:Int) (c0:0≤cond) (c1:cond≤13):qcf [true,true,true,true,false,bI imm 20,bI cond 3,bI cond 2,bI cond 1,bI cond 0,bI imm 17,bI imm 16,bI imm 15,bI imm 14,bI imm 13,bI imm 12] [true,false,bI imm 18,false,bI imm 19,bI imm 11,bI imm 10,bI imm 9,bI imm 8,bI imm 7,bI imm 6,bI imm 5,bI imm 4,bI imm 3,bI imm 2,bI imm 1]=some (25,0,0,0,0,imm,cond,true,()):=by
 have nThree:qdZ [true,true,true,true,false,bI imm 20,bI cond 3,bI cond 2,bI cond 1,bI cond 0,bI imm 17,bI imm 16,bI imm 15,bI imm 14,bI imm 13,bI imm 12] [true,false,bI imm 18,false,bI imm 19,bI imm 11,bI imm 10,bI imm 9,bI imm 8,bI imm 7,bI imm 6,bI imm 5,bI imm 4,bI imm 3,bI imm 2,bI imm 1]=none:=by kernel_rfl
 have nProduct:qd6 [true,true,true,true,false,bI imm 20,bI cond 3,bI cond 2,bI cond 1,bI cond 0,bI imm 17,bI imm 16,bI imm 15,bI imm 14,bI imm 13,bI imm 12] [true,false,bI imm 18,false,bI imm 19,bI imm 11,bI imm 10,bI imm 9,bI imm 8,bI imm 7,bI imm 6,bI imm 5,bI imm 4,bI imm 3,bI imm 2,bI imm 1]=none:=by
  have e:qd6 [true,true,true,true,false,bI imm 20,bI cond 3,bI cond 2,bI cond 1,bI cond 0,bI imm 17,bI imm 16,bI imm 15,bI imm 14,bI imm 13,bI imm 12] [true,false,bI imm 18,false,bI imm 19,bI imm 11,bI imm 10,bI imm 9,bI imm 8,bI imm 7,bI imm 6,bI imm 5,bI imm 4,bI imm 3,bI imm 2,bI imm 1]=(bif !eqC (sl [true,false,bI imm 18,false,bI imm 19,bI imm 11,bI imm 10,bI imm 9,bI imm 8,bI imm 7,bI imm 6,bI imm 5,bI imm 4,bI imm 3,bI imm 2,bI imm 1] 4 4) 0 then none else none):=by kernel_rfl
  rw[e];exact Bool.cond_self _ _
 have nPlain:qkK [true,true,true,true,false,bI imm 20,bI cond 3,bI cond 2,bI cond 1,bI cond 0,bI imm 17,bI imm 16,bI imm 15,bI imm 14,bI imm 13,bI imm 12] [true,false,bI imm 18,false,bI imm 19,bI imm 11,bI imm 10,bI imm 9,bI imm 8,bI imm 7,bI imm 6,bI imm 5,bI imm 4,bI imm 3,bI imm 2,bI imm 1]=none:=by kernel_rfl
 have e:qoC [true,true,true,true,false,bI imm 20,bI cond 3,bI cond 2,bI cond 1,bI cond 0,bI imm 17,bI imm 16,bI imm 15,bI imm 14,bI imm 13,bI imm 12] [true,false,bI imm 18,false,bI imm 19,bI imm 11,bI imm 10,bI imm 9,bI imm 8,bI imm 7,bI imm 6,bI imm 5,bI imm 4,bI imm 3,bI imm 2,bI imm 1]=(bif decide (H (bis cond 4)≤13) then some (25,0,0,0,0,SG [bI imm 20,bI imm 19,bI imm 18,bI imm 17,bI imm 16,bI imm 15,bI imm 14,bI imm 13,bI imm 12,bI imm 11,bI imm 10,bI imm 9,bI imm 8,bI imm 7,bI imm 6,bI imm 5,bI imm 4,bI imm 3,bI imm 2,bI imm 1,false],H (bis cond 4),true,()) else none):=by kernel_rfl
 have p:((2 ^ 20:Nat):Int)=1048576:=rfl
 have q:((2 ^ 4:Nat):Int)=16:=rfl
 have e2:SG [bI imm 20,bI imm 19,bI imm 18,bI imm 17,bI imm 16,bI imm 15,bI imm 14,bI imm 13,bI imm 12,bI imm 11,bI imm 10,bI imm 9,bI imm 8,bI imm 7,bI imm 6,bI imm 5,bI imm 4,bI imm 3,bI imm 2,bI imm 1,false]=imm:=by rw[←qvV h];exact qAG imm 20 (by omega) (by omega)
 unfold qcf
 rw[nThree,nProduct,nPlain,e,e2,qc6 c0 (by omega),qJ c1]
 rfl
end Go.Av
end
section
namespace Go.Av
open Go
structure Rd where
 x:Bool
 y:Bool
 t:Bool
 d:List Bool
 n:List Bool
 m:List Bool
 a:List Bool
 c:List Bool
 w:List Bool
 imm:List (Nat×Bool)
def Rd.zero:Rd:=⟨false,false,false,[],[],[],[],[],[],[]⟩
def qyc (c:UInt8):Bool:=Nat.ble 65 c.toNat&&Nat.ble c.toNat 89
def Rd.step (s:Rd) (c:UInt8) (b:Bool):Rd where
 x:=bif c==120 then b else s.x
 y:=bif c==121 then b else s.y
 t:=bif c==89 then b else s.t
 d:=bif c==100 then s.d++[b] else s.d
 n:=bif c==110 then s.n++[b] else s.n
 m:=bif c==109 then s.m++[b] else s.m
 a:=bif c==97 then s.a++[b] else s.a
 c:=bif c==99 then s.c++[b] else s.c
 w:=bif c==119 then s.w++[b] else s.w
 imm:=bif qyc c then s.imm++[(c.toNat-65,b)] else s.imm
def bN (b:Bool):Int:=((b.toNat:Nat):Int)
def qbV:List (Nat×Bool)→Nat
 |[]=>0
 |p::l=>p.2.toNat*2 ^ p.1+qbV l
theorem quG:∀(l:List (Nat×Bool)) (k:Nat) (b:Bool),qbV (l++[(k,b)])=qbV l+b.toNat*2 ^ k
 |[],k,b=>by show b.toNat*2 ^ k+0=0+b.toNat*2 ^ k;rw[Nat.add_zero,Nat.zero_add]
 |p::l,k,b=>by
  show p.2.toNat*2 ^ p.1+qbV (l++[(k,b)])=p.2.toNat*2 ^ p.1+qbV l+b.toNat*2 ^ k
  rw[quG l k b,Nat.add_assoc]
def qxE (op:Int) (w:Bool) (s:Rd):q9.den :=
 bif op==18 then(op,H s.d,H s.n,H s.m,w64 (w64 (H s.w+1)-((qbV s.imm:Nat):Int)),((qbV s.imm:Nat):Int),H s.c,w,())
 else bif op==24&&w then(op,H s.d,H s.n,H s.m,H s.a,qH (w64 (w64 (((qbV s.imm:Nat):Int)+w64 (Int.tmod (w64 (w64 (bN s.x+bN s.t)+1)) 2*qV 23))+w64 (Int.tmod (w64 (w64 (bN s.y+bN s.t)+1)) 2*qV 22)),24),H s.c,w,())
 else bif op==24 then(op,H s.d,H s.n,H s.m,H s.a,qH (((qbV s.imm:Nat):Int),11),H s.c,w,())
 else bif op==25&&w then(op,H s.d,H s.n,H s.m,H s.a,qH (((qbV s.imm:Nat):Int),20),H s.c,w,())
 else bif op==25 then(op,H s.d,H s.n,H s.m,H s.a,qH (((qbV s.imm:Nat):Int),8),H s.c,w,())
 else(op,H s.d,H s.n,H s.m,H s.a,((qbV s.imm:Nat):Int),H s.c,w,())
def qyf (p:List UInt8) (l:List Bool):Rd:=(p.zip l).foldl (fun s q=>s.step q.1 q.2) Rd.zero
def qD (op:Int) (w:Bool) (l:List Bool):q9.den:=qxE op w (qyf (qb (op,w)) l)
theorem qyr (b:Bool) (r:List Bool):qH (H (b::r),(r.length:Int))=SG (b::r):=by
 rw[qLl]
 have h1:=qM r
 have h2:=qbN (l:=r) (Nat.le_refl _)
 show(bif decide (H (b::r)≥(2 ^ Int.toNat (r.length:Int):Nat)) then H (b::r)-2*(2 ^ Int.toNat (r.length:Int):Nat) else H (b::r))=_
 rw[Int.toNat_natCast,Nat.pow_succ,qNw]
 generalize 2 ^ r.length=q at *
 cases b
 ·rw[qS (by simp;omega)]
  rfl
 ·rw[qJ (by simp;omega)]
  simp only[cond_true,Bool.toNat_true]
  omega
theorem qTn (q:Nat) (hq:q<33554432) (x y t:Bool):w64 (w64 ((q:Int)+w64 (Int.tmod (w64 (w64 (bN x+bN t)+1)) 2*8388608))+w64 (Int.tmod (w64 (w64 (bN y+bN t)+1)) 2*4194304))=((q+(nx x t).toNat*8388608+(nx y t).toNat*4194304:Nat):Int):=by
 have t0:∀x t:Bool,w64 (Int.tmod (w64 (w64 (bN x+bN t)+1)) 2*8388608)=(((nx x t).toNat*8388608:Nat):Int):=by
  intro x t
  cases x<;>cases t<;>rfl
 have t1:∀x t:Bool,w64 (Int.tmod (w64 (w64 (bN x+bN t)+1)) 2*4194304)=(((nx x t).toNat*4194304:Nat):Int):=by
  intro x t
  cases x<;>cases t<;>rfl
 have h0:=Bool.toNat_le (nx x t)
 have h1:=Bool.toNat_le (nx y t)
 rw[t0,t1]
 generalize (nx x t).toNat=a at *
 generalize (nx y t).toNat=b at *
 rw[qt (n:=(q:Int)+((a*8388608:Nat):Int)) (by omega) (by omega),qt (by omega) (by omega)]
 omega
end Go.Av
end
section
namespace Go.Av
open Go
abbrev bw (n a b:Int):Bool:=decide (a≤n)&&decide (n≤b)
def okB (op rd rn rm ra imm cond:Int) (w:Bool):Bool :=
 bif op==24 then(rd==0&&(rn==0&&(rm==0&&(ra==0&&(cond==0&&(imm % 2==0&&bif w then bw imm (-16777216) 16777214 else bw imm (-2048) 2046))))))
 else bif op==25 then(rd==0&&(rn==0&&(rm==0&&(ra==0&&(bw cond 0 13&&(imm % 2==0&&bif w then bw imm (-1048576) 1048574 else bw imm (-256) 254))))))
 else(!w&&(cond==0&&(
  bif op==1 then(rd==0&&(rn==0&&(rm==0&&(ra==0&&imm==0))))
  else bif op==2 then(rd==0&&(rn==0&&(rm==0&&(ra==0&&bw imm 0 255))))
  else bif op==3||op==4 then(bw rd 0 12&&(rn==0&&(rm==0&&(ra==0&&bw imm 0 65535))))
  else bif op==5 then(bw rd 0 12&&(rn==0&&(bw rm 0 12&&(ra==0&&bw imm 0 31))))
  else bif op==6||(op==7||op==8) then(bw rd 0 12&&(rn==0&&(bw rm 0 12&&(ra==0&&bw imm 1 31))))
  else bif op==9 then(bw rd 0 12&&(rn==0&&(bw rm 0 12&&(ra==0&&imm==0))))
  else bif op==17 then(bw rd 0 12&&(bw rn 0 12&&(bw rm 0 12&&(bw ra 0 12&&(imm==0&&ra != rd)))))
  else bif op==18 then(bw rd 0 12&&(bw rn 0 12&&(rm==0&&(bw imm 0 31&&bw ra 1 (32-imm)))))
  else bif op==23 then(rd==0&&(bw rn 0 7&&(bw rm 0 7&&(ra==0&&imm==0))))
  else bif op==19||(op==20||(op==21||op==22)) then(bw rd 0 7&&(bw rn 0 7&&(rm==0&&(ra==0&&imm==0))))
  else bif bw op 10 16 then(bw rd 0 12&&(bw rn 0 12&&(bw rm 0 12&&(ra==0&&imm==0))))
  else false)))
theorem qSG:IntKind.i64.wrap (-16777216)=-16777216:=rfl
theorem qR6:IntKind.i64.wrap 16777214=16777214:=rfl
theorem qSe:IntKind.i64.wrap (-2048)=-2048:=rfl
theorem qSz:IntKind.i64.wrap 2046=2046:=rfl
theorem qSk:IntKind.i64.wrap (-256)=-256:=rfl
theorem qRC:IntKind.i64.wrap 254=254:=rfl
set_option maxHeartbeats 2000000 in
theorem qxi (op rd rn rm ra imm cond:Int) (w:Bool):qj (op,rd,rn,rm,ra,imm,cond,w,())=0↔okB op rd rn rm ra imm cond w=true:=by
 have hw:=qux imm
 have hb:=qwu imm
 rcases qgi op with rfl |rfl |rfl |rfl |rfl |rfl |rfl |rfl |rfl |rfl |rfl |rfl |rfl |rfl |rfl |rfl |rfl |rfl |rfl |rfl |rfl |rfl |rfl |rfl |rfl |hop
 case inr.inr.inr.inr.inr.inr.inr.inr.inr.inr.inr.inr.inr.inr.inr.inr.inr.inr.inr.inr.inr.inr.inr.inr.inr =>
  have e:=fun k hk=>qp5 (n:=op) (k:=k) hop hk
  have e2:bw op 10 16=false:=by unfold bw;rw[Bool.and_eq_false_iff,decide_eq_false_iff_not,decide_eq_false_iff_not];omega
  simp[qj,qcA,qbo,qcL,PO.qP,PO.val,e,okB,e2]
 all_goals cases w
 all_goals
  simp[okB,qj,qcA,qbo,qcL,qc2,qg5,qcI,qfN,PO.qP,PO.val,qhA,qhH,qg2,qiU,qRu,qSo,qSG,qR6,qSe,qSz,qSk,qRC,hb,w64]
  try simp only[qRE,qRz,Bool.or_eq_false_iff,Bool.not_eq_false',decide_eq_true_eq,bne_eq_false_iff_eq,beq_iff_eq]
  try grind
end Go.Av
end
