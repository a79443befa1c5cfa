/- Texts of the proof, one behind the other. -/
import Derived.Test.YtealbjacocgjcaaGreatRailGK26
import Derived.Test.YtealbjacocgjcaaGreatRailGK25
section
namespace Go.Av
open Go
def halfN (s:List UInt8) (k:Nat):Nat:=(s.getD (2*k) 0).toNat+256*(s.getD (2*k+1) 0).toNat
theorem halfN_lt (s:List UInt8) (k:Nat):halfN s k<65536:=by
 unfold halfN
 have h1:=(s.getD (2*k) 0).toNat_lt
 have h2:=(s.getD (2*k+1) 0).toNat_lt
 omega
theorem ishl_small (b k:Nat) (hk:k≤62) (h:b*2 ^ k<4611686018427387904):ishl .i64 (b:Int) (k:Int)=((b*2 ^ k:Nat):Int):=by
 rw[ishl_nat _ _ (by omega),show(b:Int)*2 ^ k=((b*2 ^ k:Nat):Int) by simp,w64_id (by omega) (by omega)]
theorem bor_shl (a b k:Nat) (hk:k≤62) (ha:a<2 ^ k) (h:b*2 ^ k<4611686018427387904):bor .i64 (a:Int) (ishl .i64 (b:Int) (k:Int))=((b*2 ^ k+a:Nat):Int):=by
 have hp:2 ^ k≤2 ^ 62:=pow_lt hk
 rw[ishl_small b k hk h,bor_nat (by omega) (by omega),Nat.or_comm,Nat.mul_comm b,Nat.two_pow_add_eq_or_of_lt ha]
abbrev qfT:List Ty:=[(.int .i64),(.int .i64),(.int .i64)]
abbrev qhw:Sh:=Sh.ty (Ty.int IntKind.i64)
def qhA (x:dens qfT):PO (Sh.den qhw) :=
 (.ite (!decide (x.2.1<0)&&!decide (x.2.2<0))
  (.ret (band IntKind.i64 (ishr IntKind.i64 x.1 x.2.1) (w64 (ishl IntKind.i64 1 x.2.2-1))))
  .fail)
def qi (x:dens qfT):Bool:=decide (0≤x.2.1)&&(decide (x.2.1≤16)&&(decide (0≤x.2.2)&&decide (x.2.2≤24)))
def qb (x:dens qfT):Sh.den qhw:=x.1 / (2 ^ x.2.1.toNat:Nat) % (2 ^ x.2.2.toNat:Nat)
theorem some_val (n at_ many:Int) (h1:0≤at_) (h2:at_≤16) (h3:0≤many) (h4:many≤24):band IntKind.i64 (ishr IntKind.i64 n at_) (w64 (ishl IntKind.i64 1 many-1))=n / (2 ^ at_.toNat:Nat) % (2 ^ many.toNat:Nat):=by
 obtain⟨a,rfl⟩:=Int.eq_ofNat_of_zero_le h1
 obtain⟨m,rfl⟩:=Int.eq_ofNat_of_zero_le h3
 have hp:2 ^ m≤2 ^ 24:=pow_lt (by omega)
 have hp0:=Nat.two_pow_pos m
 have e:=ishl_small 1 m (by omega) (by omega)
 rw[ishr_i64 n a (by omega),show ishl IntKind.i64 1 (m:Int)=_ from e,w64_id (by omega) (by omega),Nat.one_mul,band_low _ m (by omega),Int.toNat_natCast,Int.toNat_natCast]
theorem some_T (n a m:Int) (h1:0≤a) (h2:a≤16) (h3:0≤m) (h4:m≤24):(qhA (n,a,m)).val=some (qb (n,a,m)):=by
 have e:=some_val n a m h1 h2 h3 h4
 unfold qhA PO.val
 dsimp only
 rw[dec_false (p:=a<0) (by omega),dec_false (p:=m<0) (by omega)]
 exact congrArg some e
theorem qmL (x:dens qfT) (h:qi x=true):(qhA x).val=some (qb x):=by
 simp only[qi,Bool.and_eq_true,decide_eq_true_eq] at h
 exact some_T x.1 x.2.1 x.2.2 h.1 h.2.1 h.2.2.1 h.2.2.2
abbrev qfU:List Ty:=[.str,(.int .i64)]
abbrev qhI:Sh:=Sh.ty (Ty.int IntKind.i64)
def qhR (x:dens qfU):PO (Sh.den qhI) :=
 (.ite (inRange (w64 (2*x.2)) (List.length x.1)&&inRange (w64 (w64 (2*x.2)+1)) (List.length x.1))
  (.ret (bor IntKind.i64 (w64 (u8I (List.getD x.1 (Int.toNat (w64 (2*x.2))) 0))) (ishl IntKind.i64 (w64 (u8I (List.getD x.1 (Int.toNat (w64 (w64 (2*x.2)+1))) 0))) 8)))
  .fail)
def q9 (x:dens qfU):Bool:=(x.2==0&&decide (2≤lenI x.1))||(x.2==1&&decide (4≤lenI x.1))
def qW (x:dens qfU):Sh.den qhI:=(halfN x.1 x.2.toNat:Int)
theorem half_val (s:List UInt8) (k:Nat) (hk:k≤1) (h:2*k+2≤s.length):(qhR (s,(k:Int))).val=some (halfN s k:Int):=by
 have e1:w64 (2*(k:Int))=((2*k:Nat):Int):=by rw[w64_id (by omega) (by omega)];omega
 have e2:w64 (((2*k:Nat):Int)+1)=((2*k+1:Nat):Int):=by rw[w64_id (by omega) (by omega)];omega
 have l1:=(s.getD (2*k) 0).toNat_lt
 have l2:=(s.getD (2*k+1) 0).toNat_lt
 unfold qhR PO.val
 dsimp only
 rw[e1,e2,inR (show 2*k<s.length by omega),inR (show 2*k+1<s.length by omega),getD_nat,getD_nat]
 unfold halfN u8I
 generalize (s.getD (2*k) 0).toNat=a at *
 generalize (s.getD (2*k+1) 0).toNat=b at *
 rw[w64_nat (by omega),w64_nat (by omega)]
 have:=bor_shl a b 8 (by omega) (by omega) (by omega)
 dsimp only[Bool.and_self,cond_true,PO.val]
 rw[show bor IntKind.i64 (a:Int) (ishl IntKind.i64 (b:Int) 8)=((b*2 ^ 8+a:Nat):Int) from this]
 exact congrArg some (congrArg Nat.cast (by omega:b*2 ^ 8+a=a+256*b))
theorem qmF (x:dens qfU) (h:q9 x=true):(qhR x).val=some (qW x):=by
 obtain⟨s,n⟩:=x
 simp only[q9,Bool.or_eq_true,Bool.and_eq_true,beq_iff_eq,decide_eq_true_eq] at h
 rcases h with⟨h,hl⟩ |⟨h,hl⟩
 ·subst h
  exact half_val s 0 (by omega) (by simp only[lenI] at hl;omega)
 ·subst h
  exact half_val s 1 (by omega) (by simp only[lenI] at hl;omega)
abbrev qeA:List Ty:=[(.int .i64),(.int .i64)]
abbrev qgh:Sh:=Sh.ty (Ty.int IntKind.i64)
def qeK (x:dens qeA):PO (Sh.den qgh) :=
 (.ite (!decide (w64 (x.2-1)<0))
  (.ite (ishr IntKind.i64 x.1 (w64 (x.2-1))==1)
  (.ite (!decide (x.2<0))
   (.ret (w64 (x.1-ishl IntKind.i64 1 x.2)))
   .fail)
  (.ret (x.1)))
  .fail)
def qbc (x:dens qeA):Bool:=decide (1≤x.2)&&(decide (x.2≤24)&&(decide (0≤x.1)&&decide (x.1<33554432)))
def qR (x:dens qeA):Sh.den qgh:=bif x.1 / (2 ^ (x.2-1).toNat:Nat)==1 then x.1-(2 ^ x.2.toNat:Nat) else x.1
theorem signed_T (n:Int) (k:Nat) (hk:k≤23) (h3:0≤n) (h4:n<33554432):(qeK (n,((k+1:Nat):Int))).val=some (qR (n,((k+1:Nat):Int))):=by
 have hp:2 ^ (k+1)≤2 ^ 24:=pow_lt (by omega)
 have e1:w64 (((k+1:Nat):Int)-1)=(k:Int):=by rw[w64_id (by omega) (by omega)];omega
 have e2:=ishr_i64 n k (by omega)
 have e3:=ishl_small 1 (k+1) (by omega) (by omega)
 have e4:(((k+1:Nat):Int)-1).toNat=k:=by omega
 unfold qeK qR PO.val
 dsimp only
 rw[e1,e2,e4,show ishl IntKind.i64 1 ((k+1:Nat):Int)=_ from e3,dec_false (p:=(k:Int)<0) (by omega),dec_false (p:=((k+1:Nat):Int)<0) (by omega),Nat.one_mul,Int.toNat_natCast]
 rw[w64_id (n:=n-((2 ^ (k+1):Nat):Int)) (by omega) (by omega)]
 cases n / ((2 ^ k:Nat):Int)==1<;>rfl
theorem signed_ok (n m:Int) (h1:1≤m) (h2:m≤24) (h3:0≤n) (h4:n<33554432):(qeK (n,m)).val=some (qR (n,m)):=by
 obtain⟨k,rfl⟩:∃k:Nat,m=((k+1:Nat):Int):=⟨(m-1).toNat,by omega⟩
 exact signed_T n k (by omega) h3 h4
theorem qlU (x:dens qeA) (h:qbc x=true):(qeK x).val=some (qR x):=by
 simp only[qbc,Bool.and_eq_true,decide_eq_true_eq] at h
 exact signed_ok x.1 x.2 h.1 h.2.1 h.2.2.1 h.2.2.2
def qbx:LoopN where
 M:=[2,5,6,7]
 T:=[4,8,9,10,11,12,13]
 D:=[5,6,7]
 ss:=[.ty .bool,.ty (.sl (.int .i64)),.ty (.int .i64),.ty (.int .i64)]
 hs:=[]
 es:=[.exit 0,.ret]
 σ:=(Ty.den .bool)×(Ty.den (.int .i64))
 x0:=fun x _=>(x.1,x.2.2.2)
 put:=fun x _ s=>((s.1,x.2.1,x.2.2.1,s.2),())
 fuel:=fun x _=>List.length x.2.1+1
 turn:=fun x _ s =>
 (.ite (decide (s.2<x.2.2.1))
  (.ite (inRange s.2 (List.length x.2.1))
  (.ite (decide (List.getD x.2.1 (Int.toNat s.2) (Ty.dflt (Ty.int IntKind.i64)) > 12))
   (.ret (.out 1 (false,s.2)))
   (.ret (.on (s.1,w64 (s.2+1)))))
  .fail)
  (.ret (.out 0 (s.1,s.2))))
theorem regs_run (r:List Int) (hr:r.length<100) (ok:Bool):∀(k i:Nat),i+k=r.length→∀f,k<f →
  ∃o st,runL (qbx.turn (false,r,((r.length:Nat):Int),0) ()) f (ok,(i:Int))=some (o,st)∧(PO.ite (way o) (.ret true) (.ret st.1)).val=some ((r.drop i).all fun x=>decide (x≤12))
 |0,i,h,f,hf=>by
  obtain⟨f,rfl⟩:∃g,f=g+1:=⟨f-1,by omega⟩
  refine⟨0,(ok,(i:Int)),runL_out ?_,by rw[List.drop_of_length_le (by omega)];rfl⟩
  dsimp only[qbx,PO.val]
  rw[dec_false (p:=(i:Int)<((r.length:Nat):Int)) (by omega)]
  rfl
 |k+1,i,h,f,hf=>by
  obtain⟨f,rfl⟩:∃g,f=g+1:=⟨f-1,by omega⟩
  have hi:i<r.length:=by omega
  have hw:w64 ((i:Int)+1)=((i+1:Nat):Int):=by rw[w64_id (by omega) (by omega)];omega
  rw[List.drop_eq_getElem_cons hi,List.all_cons]
  by_cases hb:r[i]≤12
  ·have e:(qbx.turn (false,r,((r.length:Nat):Int),0) () (ok,(i:Int))).val=some (.on (ok,((i+1:Nat):Int))):=by
    dsimp only[qbx,PO.val]
    rw[dec_true (p:=(i:Int)<((r.length:Nat):Int)) (by omega),inR hi,getD_nat,getD_in r _ hi,dec_false (p:=r[i] > 12) (by omega),hw]
    rfl
   obtain⟨o,st,g1,g2⟩:=regs_run r hr ok k (i+1) (by omega) f (by omega)
   exact⟨o,st,(runL_on e).trans g1,by rw[dec_true hb,Bool.true_and];exact g2⟩
  ·have e:(qbx.turn (false,r,((r.length:Nat):Int),0) () (ok,(i:Int))).val=some (.out 1 (false,(i:Int))):=by
    dsimp only[qbx,PO.val]
    rw[dec_true (p:=(i:Int)<((r.length:Nat):Int)) (by omega),inR hi,getD_nat,getD_in r _ hi,dec_true (p:=r[i] > 12) (by omega)]
    rfl
   exact⟨1,_,runL_out e,by rw[dec_false hb];rfl⟩
abbrev qf6:List Ty:=[(.sl (.int .i64))]
abbrev qhr:Sh:=Sh.ty Ty.bool
def qjN (x:dens qf6):PO (Sh.den qhr) :=
 (.opt (LoopN.res qbx (false,x,lenI x,0) ()) fun p0 =>
  (.ite (way p0.1)
  (.ret (true))
  (.ret (p0.2.1))))
def qD (x:dens qf6):Bool:=Nat.blt (List.length x) 100
def qK (x:dens qf6):Sh.den qhr:=List.all x fun r=>decide ((r:Int)≤12)
theorem qmE (x:dens qf6) (h:qD x=true):(qjN x).val=some (qK x):=by
 have hl:List.length x<100:=Nat.blt_eq▸h
 obtain⟨o,st,h1,h2⟩:=regs_run x hl false (List.length x) 0 (by omega) (List.length x+1) (by omega)
 have h1':LoopN.res qbx (false,x,lenI x,0) ()=some (o,st):=h1
 unfold qjN PO.val
 rw[h1']
 exact h2
abbrev qfN:List Ty:=[.str]
abbrev qhQ:Sh:=Sh.ty (Ty.int IntKind.i64)
def qjJ (x:dens qfN):PO (Sh.den qhQ) :=
 (.ite (decide (lenI x<2))
  (.ret (0))
  (.ite (q9 (x,0))
  (.ite (decide (ishr IntKind.i64 (qW (x,0)) 11≥29))
   (.ret (4))
   (.ret (2)))
  .fail))
def qjH (_:dens qfN):Bool:=true
def qbe (x:dens qfN):Sh.den qhQ:=bif decide (lenI x<2) then 0 else bif Nat.ble 59392 (halfN x 0) then 4 else 2
theorem qmt (x:dens qfN) (_:qjH x=true):(qjJ x).val=some (qbe x):=by
 unfold qjJ qbe PO.val
 cases hl:decide (lenI x<2)
 ·have hl:=of_decide_eq_false hl
  have g:q9 (x,0)=true:=by
   simp only[q9,Bool.or_eq_true,Bool.and_eq_true,beq_iff_eq,decide_eq_true_eq]
   exact .inl ⟨trivial,by omega⟩
  have e:ishr IntKind.i64 (qW (x,0)) 11=((halfN x 0:Nat):Int) / (2 ^ 11:Nat):=ishr_i64 _ 11 (by omega)
  dsimp only[cond_false,PO.val]
  rw[g,e]
  dsimp only[cond_true,PO.val]
  cases hb:Nat.ble 59392 (halfN x 0)
  ·have hb:¬59392≤halfN x 0:=by rw[←Nat.ble_eq,hb];simp
   rw[dec_false (by omega)]
   rfl
  ·have hb:=Nat.le_of_ble_eq_true hb
   rw[dec_true (by omega)]
   rfl
 ·rfl
abbrev qeL:List Ty:=[(.int .i64)]
abbrev qgk:Sh:=Sh.tup (Sh.pair (Sh.ty tIns) (Sh.pair (Sh.ty Ty.bool) (Sh.ty Ty.unit)))
def qdC (x:dens qeL):PO (Sh.den qgk) :=
 (.ite (qi (x,0,3)&&qi (x,3,3))
  (.ite (x==48896)
  (.ret (((1,0,0,0,0,0,0,false,()),true,())))
  (.ite (ishr IntKind.i64 x 8==190)
   (.ite (qi (x,0,8))
   (.ret (((2,0,0,0,0,qb (x,0,8),0,false,()),true,())))
   .fail)
   (.ite (ishr IntKind.i64 x 6==416)
   (.ret (((19,qb (x,0,3),qb (x,3,3),0,0,0,0,false,()),true,())))
   (.ite (ishr IntKind.i64 x 6==384)
    (.ret (((20,qb (x,0,3),qb (x,3,3),0,0,0,0,false,()),true,())))
    (.ite (ishr IntKind.i64 x 6==480)
    (.ret (((21,qb (x,0,3),qb (x,3,3),0,0,0,0,false,()),true,())))
    (.ite (ishr IntKind.i64 x 6==448)
     (.ret (((22,qb (x,0,3),qb (x,3,3),0,0,0,0,false,()),true,())))
     (.ite (ishr IntKind.i64 x 6==266)
     (.ret (((23,0,qb (x,0,3),qb (x,3,3),0,0,0,false,()),true,())))
     (.ite (ishr IntKind.i64 x 11==28)
      (.ite (qi (x,0,11))
      (.ite (qbc (qb (x,0,11),11))
       (.ret (((24,0,0,0,0,w64 (2*qR (qb (x,0,11),11)),0,false,()),true,())))
       .fail)
      .fail)
      (.ite (bif ishr IntKind.i64 x 12==13 then qi (x,8,4) else true)
      (.ite (ishr IntKind.i64 x 12==13&&decide (qb (x,8,4)≤13))
       (.ite (qi (x,8,4))
       (.ite (qi (x,0,8))
        (.ite (qbc (qb (x,0,8),8))
        (.ret (((25,0,0,0,0,w64 (2*qR (qb (x,0,8),8)),qb (x,8,4),false,()),true,())))
        .fail)
        .fail)
       .fail)
       (.ret (((0,0,0,0,0,0,0,false,()),false,()))))
      .fail)))))))))
  .fail)
def qcU (x:dens qeL):Bool:=(qdC x).val.isSome
def qbp (x:dens qeL):Sh.den qgk:=(qdC x).getO default
theorem qlS (x:dens qeL) (h:qcU x=true):(qdC x).val=some (qbp x):=PO.getO_ok default h
abbrev qfo:List Ty:=[(.int .i64),(.int .i64)]
abbrev qgY:Sh:=Sh.tup (Sh.pair (Sh.ty tIns) (Sh.pair (Sh.ty Ty.bool) (Sh.ty Ty.unit)))
def qd8 (x:dens qfo):PO (Sh.den qgY) :=
 (.ite (qi (x.2,8,4))
  (.ite (qi (x.1,0,4))
  (.ite (qi (x.2,0,4))
   (.ite (qi (x.2,12,3)&&qi (x.2,6,2))
   (.ite (qi (x.2,4,2))
    (.ite (ishr IntKind.i64 x.2 15==1)
    (.ret (((0,0,0,0,0,0,0,false,()),false,())))
    (.ite (x.1==59983)
     (.ite (qD [qb (x.2,8,4),qb (x.2,0,4)])
     (.ite (qK [qb (x.2,8,4),qb (x.2,0,4)])
      (.ite (qb (x.2,4,2)==0)
      (.ret (((w64 (5+qb (x.2,4,2)),qb (x.2,8,4),0,qb (x.2,0,4),0,bor IntKind.i64 (ishl IntKind.i64 (qb (x.2,12,3)) 2) (qb (x.2,6,2)),0,false,()),true,())))
      (.ret (((w64 (5+qb (x.2,4,2)),qb (x.2,8,4),0,qb (x.2,0,4),0,bor IntKind.i64 (ishl IntKind.i64 (qb (x.2,12,3)) 2) (qb (x.2,6,2)),0,false,()),decide (bor IntKind.i64 (ishl IntKind.i64 (qb (x.2,12,3)) 2) (qb (x.2,6,2)) > 0),()))))
      (.ret (((w64 (5+qb (x.2,4,2)),qb (x.2,8,4),0,qb (x.2,0,4),0,bor IntKind.i64 (ishl IntKind.i64 (qb (x.2,12,3)) 2) (qb (x.2,6,2)),0,false,()),false,()))))
     .fail)
     (.ite (x.1==60015)
     (.ite (qD [qb (x.2,8,4),qb (x.2,0,4)])
      (.ite (qK [qb (x.2,8,4),qb (x.2,0,4)])
      (.ite (qb (x.2,4,2)==0)
       (.ret (((9,qb (x.2,8,4),0,qb (x.2,0,4),0,0,0,false,()),bor IntKind.i64 (ishl IntKind.i64 (qb (x.2,12,3)) 2) (qb (x.2,6,2))==0,())))
       (.ret (((9,qb (x.2,8,4),0,qb (x.2,0,4),0,0,0,false,()),false,()))))
      (.ret (((9,qb (x.2,8,4),0,qb (x.2,0,4),0,0,0,false,()),false,()))))
      .fail)
     (.ite (bnot IntKind.i64 x.1 15==59904)
      (.ite (qD [qb (x.2,8,4),qb (x.1,0,4),qb (x.2,0,4)])
      (.ite (qK [qb (x.2,8,4),qb (x.1,0,4),qb (x.2,0,4)])
       (.ite (qb (x.2,4,2)==0)
       (.ret (((10,qb (x.2,8,4),qb (x.1,0,4),qb (x.2,0,4),0,0,0,false,()),bor IntKind.i64 (ishl IntKind.i64 (qb (x.2,12,3)) 2) (qb (x.2,6,2))==0,())))
       (.ret (((10,qb (x.2,8,4),qb (x.1,0,4),qb (x.2,0,4),0,0,0,false,()),false,()))))
       (.ret (((10,qb (x.2,8,4),qb (x.1,0,4),qb (x.2,0,4),0,0,0,false,()),false,()))))
      .fail)
      (.ite (bnot IntKind.i64 x.1 15==59936)
      (.ite (qD [qb (x.2,8,4),qb (x.1,0,4),qb (x.2,0,4)])
       (.ite (qK [qb (x.2,8,4),qb (x.1,0,4),qb (x.2,0,4)])
       (.ite (qb (x.2,4,2)==0)
        (.ret (((11,qb (x.2,8,4),qb (x.1,0,4),qb (x.2,0,4),0,0,0,false,()),bor IntKind.i64 (ishl IntKind.i64 (qb (x.2,12,3)) 2) (qb (x.2,6,2))==0,())))
        (.ret (((11,qb (x.2,8,4),qb (x.1,0,4),qb (x.2,0,4),0,0,0,false,()),false,()))))
       (.ret (((11,qb (x.2,8,4),qb (x.1,0,4),qb (x.2,0,4),0,0,0,false,()),false,()))))
       .fail)
      (.ite (bnot IntKind.i64 x.1 15==59968)
       (.ite (qD [qb (x.2,8,4),qb (x.1,0,4),qb (x.2,0,4)])
       (.ite (qK [qb (x.2,8,4),qb (x.1,0,4),qb (x.2,0,4)])
        (.ite (qb (x.2,4,2)==0)
        (.ret (((12,qb (x.2,8,4),qb (x.1,0,4),qb (x.2,0,4),0,0,0,false,()),bor IntKind.i64 (ishl IntKind.i64 (qb (x.2,12,3)) 2) (qb (x.2,6,2))==0,())))
        (.ret (((12,qb (x.2,8,4),qb (x.1,0,4),qb (x.2,0,4),0,0,0,false,()),false,()))))
        (.ret (((12,qb (x.2,8,4),qb (x.1,0,4),qb (x.2,0,4),0,0,0,false,()),false,()))))
       .fail)
       (.ite (bnot IntKind.i64 x.1 15==60032)
       (.ite (qD [qb (x.2,8,4),qb (x.1,0,4),qb (x.2,0,4)])
        (.ite (qK [qb (x.2,8,4),qb (x.1,0,4),qb (x.2,0,4)])
        (.ite (qb (x.2,4,2)==0)
         (.ret (((13,qb (x.2,8,4),qb (x.1,0,4),qb (x.2,0,4),0,0,0,false,()),bor IntKind.i64 (ishl IntKind.i64 (qb (x.2,12,3)) 2) (qb (x.2,6,2))==0,())))
         (.ret (((13,qb (x.2,8,4),qb (x.1,0,4),qb (x.2,0,4),0,0,0,false,()),false,()))))
        (.ret (((13,qb (x.2,8,4),qb (x.1,0,4),qb (x.2,0,4),0,0,0,false,()),false,()))))
        .fail)
       (.ite (bnot IntKind.i64 x.1 15==60160)
        (.ite (qD [qb (x.2,8,4),qb (x.1,0,4),qb (x.2,0,4)])
        (.ite (qK [qb (x.2,8,4),qb (x.1,0,4),qb (x.2,0,4)])
         (.ite (qb (x.2,4,2)==0)
         (.ret (((14,qb (x.2,8,4),qb (x.1,0,4),qb (x.2,0,4),0,0,0,false,()),bor IntKind.i64 (ishl IntKind.i64 (qb (x.2,12,3)) 2) (qb (x.2,6,2))==0,())))
         (.ret (((14,qb (x.2,8,4),qb (x.1,0,4),qb (x.2,0,4),0,0,0,false,()),false,()))))
         (.ret (((14,qb (x.2,8,4),qb (x.1,0,4),qb (x.2,0,4),0,0,0,false,()),false,()))))
        .fail)
        (.ite (bnot IntKind.i64 x.1 15==60320)
        (.ite (qD [qb (x.2,8,4),qb (x.1,0,4),qb (x.2,0,4)])
         (.ite (qK [qb (x.2,8,4),qb (x.1,0,4),qb (x.2,0,4)])
         (.ite (qb (x.2,4,2)==0)
          (.ret (((15,qb (x.2,8,4),qb (x.1,0,4),qb (x.2,0,4),0,0,0,false,()),bor IntKind.i64 (ishl IntKind.i64 (qb (x.2,12,3)) 2) (qb (x.2,6,2))==0,())))
          (.ret (((15,qb (x.2,8,4),qb (x.1,0,4),qb (x.2,0,4),0,0,0,false,()),false,()))))
         (.ret (((15,qb (x.2,8,4),qb (x.1,0,4),qb (x.2,0,4),0,0,0,false,()),false,()))))
         .fail)
        (.ret (((0,0,0,0,0,0,0,false,()),false,()))))))))))))
    .fail)
   .fail)
   .fail)
  .fail)
  .fail)
def qde (x:dens qfo):Bool:=(qd8 x).val.isSome
def qbu (x:dens qfo):Sh.den qgY:=(qd8 x).getO default
theorem ql1 (x:dens qfo) (h:qde x=true):(qd8 x).val=some (qbu x):=PO.getO_ok default h
abbrev qek:List Ty:=[(.int .i64),(.int .i64)]
abbrev qfz:Sh:=Sh.tup (Sh.pair (Sh.ty tIns) (Sh.pair (Sh.ty Ty.bool) (Sh.ty Ty.unit)))
def qdf (x:dens qek):PO (Sh.den qfz) :=
 (.ite (qi (x.1,0,4))
  (.ite (qi (x.2,0,4))
  (.ite (qi (x.2,12,4)&&qi (x.2,8,4))
   (.ite (qi (x.2,4,4))
   (.ite (qb (x.2,4,4) != 0)
    (.ret (((0,0,0,0,0,0,0,false,()),false,())))
    (.ite (bnot IntKind.i64 x.1 15==64256)
    (.ite (qb (x.2,12,4)==15)
     (.ite (qD [qb (x.2,8,4),qb (x.1,0,4),qb (x.2,0,4)])
     (.ret (((16,qb (x.2,8,4),qb (x.1,0,4),qb (x.2,0,4),0,0,0,false,()),qK [qb (x.2,8,4),qb (x.1,0,4),qb (x.2,0,4)],())))
     .fail)
     (.ret (((16,qb (x.2,8,4),qb (x.1,0,4),qb (x.2,0,4),0,0,0,false,()),false,()))))
    (.ite (bnot IntKind.i64 x.1 15==64416)
     (.ite (qb (x.2,12,4) != qb (x.2,8,4))
     (.ite (qD [qb (x.2,12,4),qb (x.2,8,4),qb (x.1,0,4),qb (x.2,0,4)])
      (.ret (((17,qb (x.2,12,4),qb (x.1,0,4),qb (x.2,0,4),qb (x.2,8,4),0,0,false,()),qK [qb (x.2,12,4),qb (x.2,8,4),qb (x.1,0,4),qb (x.2,0,4)],())))
      .fail)
     (.ret (((17,qb (x.2,12,4),qb (x.1,0,4),qb (x.2,0,4),qb (x.2,8,4),0,0,false,()),false,()))))
     (.ret (((0,0,0,0,0,0,0,false,()),false,()))))))
   .fail)
   .fail)
  .fail)
  .fail)
def qcJ (x:dens qek):Bool:=(qdf x).val.isSome
def qbk (x:dens qek):Sh.den qfz:=(qdf x).getO default
theorem qlF (x:dens qek) (h:qcJ x=true):(qdf x).val=some (qbk x):=PO.getO_ok default h
abbrev qfl:List Ty:=[(.int .i64),(.int .i64)]
abbrev qg9:Sh:=Sh.tup (Sh.pair (Sh.ty tIns) (Sh.pair (Sh.ty Ty.bool) (Sh.ty Ty.unit)))
def qd9 (x:dens qfl):PO (Sh.den qg9) :=
 (.ite (qi (x.2,8,4))
  (.ite (ishr IntKind.i64 x.2 15==1)
  (.ret (((0,0,0,0,0,0,0,false,()),false,())))
  (.ite (bnot IntKind.i64 x.1 15==62304)
   (.ite (qi (x.1,0,4))
   (.ite (qi (x.2,12,3))
    (.ite (qi (x.2,6,2))
    (.ite (qi (x.2,0,5))
     (.ite (qi (x.2,5,1))
     (.ite (qb (x.2,5,1)==0)
      (.ite (decide (w64 (w64 (qb (x.2,0,5)+1)-bor IntKind.i64 (ishl IntKind.i64 (qb (x.2,12,3)) 2) (qb (x.2,6,2)))≥1))
      (.ite (qD [qb (x.2,8,4),qb (x.1,0,4)])
       (.ret (((18,qb (x.2,8,4),qb (x.1,0,4),0,w64 (w64 (qb (x.2,0,5)+1)-bor IntKind.i64 (ishl IntKind.i64 (qb (x.2,12,3)) 2) (qb (x.2,6,2))),bor IntKind.i64 (ishl IntKind.i64 (qb (x.2,12,3)) 2) (qb (x.2,6,2)),0,false,()),qK [qb (x.2,8,4),qb (x.1,0,4)],())))
       .fail)
      (.ret (((18,qb (x.2,8,4),qb (x.1,0,4),0,w64 (w64 (qb (x.2,0,5)+1)-bor IntKind.i64 (ishl IntKind.i64 (qb (x.2,12,3)) 2) (qb (x.2,6,2))),bor IntKind.i64 (ishl IntKind.i64 (qb (x.2,12,3)) 2) (qb (x.2,6,2)),0,false,()),false,()))))
      (.ret (((18,qb (x.2,8,4),qb (x.1,0,4),0,w64 (w64 (qb (x.2,0,5)+1)-bor IntKind.i64 (ishl IntKind.i64 (qb (x.2,12,3)) 2) (qb (x.2,6,2))),bor IntKind.i64 (ishl IntKind.i64 (qb (x.2,12,3)) 2) (qb (x.2,6,2)),0,false,()),false,()))))
     .fail)
     .fail)
    .fail)
    .fail)
   .fail)
   (.ite (bnot IntKind.i64 x.1 1039==62016)
   (.ite (qi (x.1,0,4))
    (.ite (qi (x.1,10,1))
    (.ite (qi (x.2,12,3))
     (.ite (qi (x.2,0,8))
     (.ite (qD [qb (x.2,8,4)])
      (.ret (((3,qb (x.2,8,4),0,0,0,bor IntKind.i64 (bor IntKind.i64 (bor IntKind.i64 (ishl IntKind.i64 (qb (x.1,0,4)) 12) (ishl IntKind.i64 (qb (x.1,10,1)) 11)) (ishl IntKind.i64 (qb (x.2,12,3)) 8)) (qb (x.2,0,8)),0,false,()),qK [qb (x.2,8,4)],())))
      .fail)
     .fail)
     .fail)
    .fail)
    .fail)
   (.ite (bnot IntKind.i64 x.1 1039==62144)
    (.ite (qi (x.1,0,4))
    (.ite (qi (x.1,10,1))
     (.ite (qi (x.2,12,3))
     (.ite (qi (x.2,0,8))
      (.ite (qD [qb (x.2,8,4)])
      (.ret (((4,qb (x.2,8,4),0,0,0,bor IntKind.i64 (bor IntKind.i64 (bor IntKind.i64 (ishl IntKind.i64 (qb (x.1,0,4)) 12) (ishl IntKind.i64 (qb (x.1,10,1)) 11)) (ishl IntKind.i64 (qb (x.2,12,3)) 8)) (qb (x.2,0,8)),0,false,()),qK [qb (x.2,8,4)],())))
      .fail)
      .fail)
     .fail)
     .fail)
    .fail)
    (.ret (((0,0,0,0,0,0,0,false,()),false,())))))))
  .fail)
def qdg (x:dens qfl):Bool:=(qd9 x).val.isSome
def qbt (x:dens qfl):Sh.den qg9:=(qd9 x).getO default
theorem ql2 (x:dens qfl) (h:qdg x=true):(qd9 x).val=some (qbt x):=PO.getO_ok default h
abbrev qeH:List Ty:=[(.int .i64),(.int .i64)]
abbrev qgl:Sh:=Sh.tup (Sh.pair (Sh.ty tIns) (Sh.pair (Sh.ty Ty.bool) (Sh.ty Ty.unit)))
def qdz (x:dens qeH):PO (Sh.den qgl) :=
 (.ite (qi (x.1,10,1)&&(qi (x.2,13,1)&&qi (x.2,11,1)))
  (.ite (qi (x.2,0,11))
  (.ite (ishr IntKind.i64 x.1 11 != 30||ishr IntKind.i64 x.2 14 != 2)
   (.ret (((0,0,0,0,0,0,0,false,()),false,())))
   (.ite (qi (x.2,12,1))
   (.ite (qb (x.2,12,1)==1)
    (.ite (qi (x.1,0,10))
    (.ite (qbc (bor IntKind.i64 (bor IntKind.i64 (bor IntKind.i64 (bor IntKind.i64 (ishl IntKind.i64 (qb (x.1,10,1)) 23) (ishl IntKind.i64 (bxor IntKind.i64 (bxor IntKind.i64 1 (qb (x.2,13,1))) (qb (x.1,10,1))) 22)) (ishl IntKind.i64 (bxor IntKind.i64 (bxor IntKind.i64 1 (qb (x.2,11,1))) (qb (x.1,10,1))) 21)) (ishl IntKind.i64 (qb (x.1,0,10)) 11)) (qb (x.2,0,11)),24))
     (.ret (((24,0,0,0,0,w64 (2*qR (bor IntKind.i64 (bor IntKind.i64 (bor IntKind.i64 (bor IntKind.i64 (ishl IntKind.i64 (qb (x.1,10,1)) 23) (ishl IntKind.i64 (bxor IntKind.i64 (bxor IntKind.i64 1 (qb (x.2,13,1))) (qb (x.1,10,1))) 22)) (ishl IntKind.i64 (bxor IntKind.i64 (bxor IntKind.i64 1 (qb (x.2,11,1))) (qb (x.1,10,1))) 21)) (ishl IntKind.i64 (qb (x.1,0,10)) 11)) (qb (x.2,0,11)),24)),0,true,()),true,())))
     .fail)
    .fail)
    (.ite (qi (x.1,6,4))
    (.ite (qi (x.1,0,6))
     (.ite (qbc (bor IntKind.i64 (bor IntKind.i64 (bor IntKind.i64 (bor IntKind.i64 (ishl IntKind.i64 (qb (x.1,10,1)) 19) (ishl IntKind.i64 (qb (x.2,11,1)) 18)) (ishl IntKind.i64 (qb (x.2,13,1)) 17)) (ishl IntKind.i64 (qb (x.1,0,6)) 11)) (qb (x.2,0,11)),20))
     (.ret (((25,0,0,0,0,w64 (2*qR (bor IntKind.i64 (bor IntKind.i64 (bor IntKind.i64 (bor IntKind.i64 (ishl IntKind.i64 (qb (x.1,10,1)) 19) (ishl IntKind.i64 (qb (x.2,11,1)) 18)) (ishl IntKind.i64 (qb (x.2,13,1)) 17)) (ishl IntKind.i64 (qb (x.1,0,6)) 11)) (qb (x.2,0,11)),20)),qb (x.1,6,4),true,()),decide (qb (x.1,6,4)≤13),())))
     .fail)
     .fail)
    .fail))
   .fail))
  .fail)
  .fail)
def qc1 (x:dens qeH):Bool:=(qdz x).val.isSome
def qbo (x:dens qeH):Sh.den qgl:=(qdz x).getO default
theorem ql0 (x:dens qeH) (h:qc1 x=true):(qdz x).val=some (qbo x):=PO.getO_ok default h
abbrev qf7:List Ty:=[(.int .i64),(.int .i64)]
abbrev qhH:Sh:=Sh.tup (Sh.pair (Sh.ty tIns) (Sh.pair (Sh.ty Ty.bool) (Sh.ty Ty.unit)))
def qez (x:dens qf7):PO (Sh.den qhH) :=
 (.ite (qde x) (.ite (qbu x).2.1 (.ret ((qbu x).1,true,())) (.ite (qcJ x) (.ite (qbk x).2.1 (.ret ((qbk x).1,true,())) (.ite (qdg x) (.ite (qbt x).2.1 (.ret ((qbt x).1,true,())) (.ite (qc1 x) (.ite (qbo x).2.1 (.ret ((qbo x).1,true,())) (.ret ((0,0,0,0,0,0,0,false,()),false,()))) .fail)) .fail)) .fail)) .fail)
def qew (x:dens qf7):Bool:=(qez x).val.isSome
def qdI (x:dens qf7):Sh.den qhH:=(qez x).getO default
theorem qmr (x:dens qf7) (h:qew x=true):(qez x).val=some (qdI x):=PO.getO_ok default h
abbrev qeS:List Ty:=[.str]
abbrev qgg:Sh:=Sh.tup (Sh.pair (Sh.ty tIns) (Sh.pair (Sh.ty (Ty.int IntKind.i64)) (Sh.pair (Sh.ty (Ty.int IntKind.i64)) (Sh.ty Ty.unit))))
def qdy (x:dens qeS):PO (Sh.den qgg) :=
 (.ite (qbe x==0||decide (lenI x<qbe x))
  (.ret (((0,0,0,0,0,0,0,false,()),0,3,())))
  (.ite (qbe x==2)
  (.ite (q9 (x,0))
   (.ite (qcU (qW (x,0)))
   (.ite (!(qbp (qW (x,0))).2.1)
    (.ret (((0,0,0,0,0,0,0,false,()),0,7,())))
    (.ret (((qbp (qW (x,0))).1,qbe x,0,()))))
   .fail)
   .fail)
  (.ite (q9 (x,0))
   (.ite (q9 (x,1))
   (.ite (qew (qW (x,0),qW (x,1)))
    (.ite (!(qdI (qW (x,0),qW (x,1))).2.1)
    (.ret (((0,0,0,0,0,0,0,false,()),0,7,())))
    (.ret (((qdI (qW (x,0),qW (x,1))).1,qbe x,0,()))))
    .fail)
   .fail)
   .fail)))
def qdB (x:dens qeS):Bool:=(qdy x).val.isSome
def ql (x:dens qeS):Sh.den qgg:=(qdy x).getO default
theorem qlT (x:dens qeS) (h:qdB x=true):(qdy x).val=some (ql x):=PO.getO_ok default h
def bitsN:Nat→Nat→List Bool
 |0,_=>[]
 |m+1,n=>(n / 2 ^ m % 2==1)::bitsN m n
theorem bitsN_len:∀m n:Nat,(bitsN m n).length=m
 |0,_=>rfl
 |m+1,n=>congrArg (·+1) (bitsN_len m n)
def tx (l:List Bool):List UInt8:=l.map fun b=>bif b then 49 else 48
end Go.Av
end
section
namespace Go.Av
open Go
theorem hb_inj:∀(l m:List Bool) (a b:Nat),l.length=m.length→hb l a=hb m b→a=b∧l=m
 |[],[],_,_,_,h=>⟨h,rfl⟩
 |x::l,y::m,a,b,hlen,h=>by
  unfold hb at h
  obtain⟨h1,h2⟩:=hb_inj l m _ _ (Nat.succ.inj hlen) h
  refine⟨?_,?_⟩
  ·cases x<;>cases y<;>simp at h1<;>omega
  ·rw[h2,show x=y by cases x<;>cases y<;>simp at h1⊢<;>omega]
theorem bits_inj (m:Nat):∀{x y:Int},0≤x→x<(2 ^ m:Nat)→0≤y→y<(2 ^ m:Nat)→(∀k,k<m→bI x k=bI y k)→x=y:=by
 intro x y h1 h2 h3 h4 h
 obtain⟨a,rfl⟩:=Int.eq_ofNat_of_zero_le h1
 obtain⟨b,rfl⟩:=Int.eq_ofNat_of_zero_le h3
 have e:a=b:=by
  refine Nat.eq_of_testBit_eq fun j=>?_
  by_cases hj:j<m
  ·rw[bI_nat,bI_nat];exact h j hj
  ·have:2 ^ m≤2 ^ j:=pow_lt (by omega)
   rw[Nat.testBit_lt_two_pow (by omega),Nat.testBit_lt_two_pow (by omega)]
 rw[e]
def unlike:List UInt8→List UInt8→Bool
 |a::l,b::m=>(a==48&&b==49)||((a==49&&b==48)||unlike l m)
 |_,_=>false
def apart (a b:List UInt8):Bool:=unlike (a.take 16) (b.take 16)||(a.length==32&&(b.length==32&&unlike (a.drop 16) (b.drop 16)))
end Go.Av
end
section
namespace Go.Av
open Go
def H (l:List Bool):Int:=((hb l 0:Nat):Int)
theorem hb_lt0 (l:List Bool):hb l 0<2 ^ l.length:=by
 have:=hb_lt l 0 0 (by omega)
 rwa [Nat.zero_add] at this
theorem H_nonneg (l:List Bool):0≤H l:=by unfold H;omega
theorem H_lt {l:List Bool} {k:Nat} (h:l.length≤k):H l<(2 ^ k:Nat):=by
 have h1:=hb_lt0 l
 have h2:2 ^ l.length≤2 ^ k:=pow_lt h
 unfold H;omega
theorem hb_tb (l:List Bool) (j:Nat):(hb l 0).testBit j=(decide (j<l.length)&&l.getD (l.length-1-j) false):=by
 rw[hb_bit]
 by_cases h:j<l.length
 ·rw[if_pos h,decide_eq_true h,Bool.true_and]
 ·rw[if_neg h,decide_eq_false h,Bool.false_and,Nat.zero_testBit]
theorem hb_shift (l:List Bool) (a:Nat) (h:a≤l.length):hb l 0 / 2 ^ a=hb (l.take (l.length-a)) 0:=by
 refine Nat.eq_of_testBit_eq fun j=>?_
 rw[Nat.testBit_div_two_pow,hb_tb,hb_tb,List.length_take,Nat.min_eq_left (Nat.sub_le ..)]
 by_cases hj:j<l.length-a
 ·rw[decide_eq_true hj,decide_eq_true (show j+a<l.length by omega),Bool.true_and,Bool.true_and,List.getD_eq_getElem?_getD,List.getD_eq_getElem?_getD,List.getElem?_take,if_pos (by omega)]
  congr 2;omega
 ·rw[decide_eq_false hj,decide_eq_false (show ¬j+a<l.length by omega),Bool.false_and,Bool.false_and]
theorem hb_low (l:List Bool) (m:Nat) (h:m≤l.length):hb l 0 % 2 ^ m=hb (l.drop (l.length-m)) 0:=by
 refine Nat.eq_of_testBit_eq fun j=>?_
 rw[Nat.testBit_mod_two_pow,hb_tb,hb_tb,List.length_drop]
 by_cases hj:j<m
 ·rw[decide_eq_true hj,decide_eq_true (show j<l.length by omega),decide_eq_true (show j<l.length-(l.length-m) by omega),Bool.true_and,Bool.true_and,Bool.true_and,List.getD_eq_getElem?_getD,List.getD_eq_getElem?_getD,List.getElem?_drop]
  congr 2;omega
 ·rw[decide_eq_false hj,decide_eq_false (show ¬j<l.length-(l.length-m) by omega),Bool.false_and,Bool.false_and]
def sl (l:List Bool) (a m:Nat):List Bool:=(l.take (l.length-a)).drop (l.length-a-m)
theorem sl_len (l:List Bool) (a m:Nat) (h:a+m≤l.length):(sl l a m).length=m:=by
 unfold sl;rw[List.length_drop,List.length_take];omega
theorem hb_field (l:List Bool) (a m:Nat) (h:a+m≤l.length):hb l 0 / 2 ^ a % 2 ^ m=hb (sl l a m) 0:=by
 have hl:(l.take (l.length-a)).length=l.length-a:=by rw[List.length_take];omega
 rw[hb_shift l a (by omega),hb_low _ m (by omega),hl]
 rfl
theorem some_H (l:List Bool) (a m:Nat) (h:a+m≤l.length):qb (H l,(a:Int),(m:Int))=H (sl l a m):=by
 show H l / (2 ^ (a:Int).toNat:Nat) % (2 ^ (m:Int).toNat:Nat)=H (sl l a m)
 rw[Int.toNat_natCast,Int.toNat_natCast]
 unfold H
 rw[←hb_field l a m h]
 norm_cast
theorem bitsN_hb:∀(m n:Nat),hb (bitsN m n) 0=n % 2 ^ m:=by
 intro m n
 refine Nat.eq_of_testBit_eq fun j=>?_
 have key:∀(m:Nat) (i:Nat),i<m→(bitsN m n).getD i false=n.testBit (m-1-i):=by
  intro m
  induction m with
  |zero=>intro i h;omega
  |succ m ih =>
   intro i h
   cases i with
   |zero =>
    show(n / 2 ^ m % 2==1)=_
    rw[Nat.testBit_eq_decide_div_mod_eq,show m+1-1-0=m by omega,Bool.eq_iff_iff,beq_iff_eq,decide_eq_true_eq]
   |succ i =>
    show(bitsN m n).getD i false=_
    rw[ih i (by omega)]
    congr 1;omega
 rw[hb_tb,Nat.testBit_mod_two_pow,bitsN_len]
 by_cases hj:j<m
 ·rw[decide_eq_true hj,Bool.true_and,Bool.true_and,key m _ (by omega)]
  congr 1;omega
 ·rw[decide_eq_false hj,Bool.false_and,Bool.false_and]
theorem bits_hb (l:List Bool):bitsN l.length (hb l 0)=l :=
 (hb_inj _ _ 0 0 (bitsN_len ..) (by rw[bitsN_hb,Nat.mod_eq_of_lt (hb_lt0 l)])).2
def eqC (l:List Bool) (c:Nat):Bool:=l==bitsN l.length c
theorem eqC_H (l:List Bool) (c:Nat) (hc:c<2 ^ l.length):(H l==(c:Int))=eqC l c:=by
 unfold eqC H
 rw[Bool.eq_iff_iff,beq_iff_eq,beq_iff_eq]
 constructor
 ·intro h
  have h:hb l 0=c:=by omega
  rw[←h,bits_hb]
 ·intro h
  rw[h,bitsN_hb,Nat.mod_eq_of_lt hc]
theorem shr_H (l:List Bool) (k c:Nat) (hk:k≤l.length) (hk2:k<64) (hc:c<2 ^ (l.length-k)):(ishr .i64 (H l) (k:Int)==(c:Int))=eqC (l.take (l.length-k)) c:=by
 have e:ishr .i64 (H l) (k:Int)=H (l.take (l.length-k)):=by
  rw[ishr_i64 _ _ hk2]
  unfold H
  rw[←hb_shift l k hk]
  norm_cast
 rw[e,eqC_H _ _ (by rw[List.length_take,Nat.min_eq_left (Nat.sub_le ..)];exact hc)]
theorem hb_append (a b:List Bool):hb (a++b) 0=hb a 0*2 ^ b.length+hb b 0:=by
 have key:∀(b:List Bool) (n:Nat),hb b n=n*2 ^ b.length+hb b 0:=by
  intro b
  induction b with
  |nil=>intro n;simp[hb]
  |cons x b ih =>
   intro n
   show hb b (2*n+x.toNat)=_+hb b (2*0+x.toNat)
   rw[Nat.mul_zero,Nat.zero_add,ih (2*n+x.toNat),ih x.toNat,List.length_cons,Nat.pow_succ]
   generalize 2 ^ b.length=p
   rw[Nat.add_mul,Nat.mul_comm 2 n,Nat.mul_assoc,Nat.mul_comm 2 p]
   omega
 have h2:∀(a:List Bool) (n:Nat),hb (a++b) n=hb b (hb a n):=by
  intro a
  induction a with
  |nil=>intro n;rfl
  |cons x a ih=>intro n;exact ih _
 rw[h2,key]
theorem bor_cat (h k:Nat) (l:List Bool) (hk:k+l.length≤62) (hh:h*2 ^ (k+l.length)<4611686018427387904) :
  bor .i64 ((h*2 ^ (k+l.length):Nat):Int) (ishl .i64 (H l) (k:Int))=(((h*2 ^ l.length+hb l 0)*2 ^ k:Nat):Int):=by
 have h1:=hb_lt0 l
 have hp:2 ^ (k+l.length)≤2 ^ 62:=pow_lt hk
 have h2:hb l 0*2 ^ k<2 ^ (k+l.length):=by rw[Nat.pow_add,Nat.mul_comm (2 ^ k)];exact Nat.mul_lt_mul_of_pos_right h1 (Nat.two_pow_pos k)
 unfold H
 rw[ishl_small _ k (by omega) (by omega),bor_nat (by omega) (by omega),Nat.mul_comm h,←Nat.two_pow_add_eq_or_of_lt h2,Nat.pow_add,Nat.add_mul,Nat.mul_comm (2 ^ k),Nat.mul_comm h,Nat.mul_assoc,Nat.mul_assoc,Nat.mul_comm h]
theorem bor_end (h:Nat) (l:List Bool) (hk:l.length≤62) (hh:h*2 ^ l.length<4611686018427387904) :
  bor .i64 ((h*2 ^ l.length:Nat):Int) (H l)=((h*2 ^ l.length+hb l 0:Nat):Int):=by
 have h1:=hb_lt0 l
 have hp:2 ^ l.length≤2 ^ 62:=pow_lt hk
 unfold H
 rw[bor_nat (by omega) (by omega),Nat.mul_comm h,Nat.two_pow_add_eq_or_of_lt h1]
theorem ishl_H (l:List Bool) (k:Nat) (hk:l.length+k≤61):ishl .i64 (H l) (k:Int)=((hb l 0*2 ^ k:Nat):Int):=by
 have h1:=hb_lt0 l
 have h2:hb l 0*2 ^ k<2 ^ (l.length+k):=by rw[Nat.pow_add];exact Nat.mul_lt_mul_of_pos_right h1 (Nat.two_pow_pos k)
 have hp:2 ^ (l.length+k)≤2 ^ 61:=pow_lt hk
 exact ishl_small _ _ (by omega) (by omega)
theorem bor2 (a b:List Bool) (k:Nat) (hb':b.length=k) (hk:a.length+k≤61):bor .i64 (ishl .i64 (H a) (k:Int)) (H b)=H (a++b):=by
 subst hb'
 have h1:=hb_lt0 a
 have h2:hb a 0*2 ^ b.length<2 ^ (a.length+b.length):=by rw[Nat.pow_add];exact Nat.mul_lt_mul_of_pos_right h1 (Nat.two_pow_pos _)
 have hp:2 ^ (a.length+b.length)≤2 ^ 61:=pow_lt hk
 rw[ishl_H _ _ hk,bor_end _ _ (by omega) (by omega)]
 unfold H
 rw[hb_append]
theorem bor2' (a b:List Bool) (k j:Nat) (hb':b.length+j=k) (hk:a.length+k≤61):bor .i64 (ishl .i64 (H a) (k:Int)) (ishl .i64 (H b) (j:Int))=ishl .i64 (H (a++b)) (j:Int):=by
 subst hb'
 have h1:=hb_lt0 a
 have h2:hb a 0*2 ^ (b.length+j)<2 ^ (a.length+(b.length+j)):=by rw[Nat.pow_add 2 a.length];exact Nat.mul_lt_mul_of_pos_right h1 (Nat.two_pow_pos _)
 have hp:2 ^ (a.length+(b.length+j))≤2 ^ 61:=pow_lt hk
 rw[ishl_H _ _ hk,Nat.add_comm b.length j,bor_cat _ _ _ (by omega) (by rw[Nat.add_comm j];omega),ishl_H _ _ (by rw[List.length_append];omega),hb_append]
theorem hb_and (a b:List Bool) (h:a.length=b.length):hb (List.zipWith (·&&·) a b) 0=hb a 0 &&& hb b 0:=by
 refine Nat.eq_of_testBit_eq fun j=>?_
 rw[Nat.testBit_and,hb_tb,hb_tb,hb_tb,List.length_zipWith,h,Nat.min_self]
 by_cases hj:j<b.length
 ·rw[decide_eq_true hj,Bool.true_and,Bool.true_and,Bool.true_and,List.getD_eq_getElem?_getD,List.getD_eq_getElem?_getD,List.getD_eq_getElem?_getD,List.getElem?_zipWith,
   List.getElem?_eq_getElem (show b.length-1-j<a.length by omega),List.getElem?_eq_getElem (show b.length-1-j<b.length by omega)]
  rfl
 ·rw[decide_eq_false hj,Bool.false_and,Bool.false_and,Bool.false_and]
theorem bnot_H (l:List Bool) (m:Nat) (hl:l.length=16) (hm:m<65536):bnot .i64 (H l) (m:Int)=H (List.zipWith (·&&·) (bitsN 16 (65535-m)) l):=by
 have h1:=hb_lt0 l
 rw[hl] at h1
 have h1:hb l 0<65536:=h1
 have e:(BitVec.ofInt 64 ((hb l 0:Nat):Int) &&& ~~~(BitVec.ofInt 64 (m:Int))).toNat=hb (List.zipWith (·&&·) (bitsN 16 (65535-m)) l) 0:=by
  rw[BitVec.toNat_and,BitVec.toNat_not,ofInt_nat (by omega),ofInt_nat (by omega),hb_and _ _ (by rw[bitsN_len,hl]),bitsN_hb]
  refine Nat.eq_of_testBit_eq fun j=>?_
  rw[Nat.testBit_and,Nat.testBit_and]
  by_cases hj:j<16
  ·rw[Bool.and_comm]
   congr 1
   rw[show 2 ^ 64-1-m=(65535-m)+2 ^ 16*281474976710655 by omega,show(65535-m) % 2 ^ 16=65535-m by omega,Nat.add_comm,Nat.testBit_two_pow_mul_add _ (by omega),if_pos hj]
  ·have:(hb l 0).testBit j=false:=by rw[hb_tb,hl,decide_eq_false hj,Bool.false_and]
   rw[this,Bool.false_and,Bool.and_false]
 have e2:bnot .i64 (H l) (m:Int)=w64 (((BitVec.ofInt 64 ((hb l 0:Nat):Int) &&& ~~~(BitVec.ofInt 64 (m:Int))).toNat:Nat):Int):=rfl
 rw[e2,e]
 have h3:=hb_lt0 (List.zipWith (·&&·) (bitsN 16 (65535-m)) l)
 rw[List.length_zipWith,bitsN_len,hl] at h3
 rw[w64_nat (Nat.lt_of_lt_of_le h3 (by decide))]
 rfl
theorem bI_H (l:List Bool) (k:Nat) (h:k<l.length):bI (H l) k=l.getD (l.length-1-k) false:=by
 unfold H
 rw[←bI_nat,hb_tb,decide_eq_true h,Bool.true_and]
def bis (x:Int):Nat→List Bool
 |0=>[]
 |m+1=>bI x m::bis x m
theorem bis_len (x:Int):∀m,(bis x m).length=m
 |0=>rfl
 |m+1=>congrArg (·+1) (bis_len x m)
theorem bis_getD (x:Int):∀(m i:Nat),i<m→(bis x m).getD i false=bI x (m-1-i)
 |m+1,0,_=>by show bI x m=_;congr 1
 |m+1,i+1,h=>by
  show(bis x m).getD i false=_
  rw[bis_getD x m i (by omega)]
  congr 1;omega
theorem H_bis (x:Int) (m:Nat):H (bis x m)=x % (2 ^ m:Nat):=by
 have hb:=mod_pow_nat x m
 have h1:H (bis x m)<(2 ^ m:Nat):=H_lt (Nat.le_of_eq (bis_len x m))
 refine bits_inj m (H_nonneg _) h1 hb.1 hb.2 fun k hk=>?_
 rw[bI_H _ _ (by rw[bis_len];exact hk),bis_len,bis_getD _ _ _ (by omega),bI_mod _ hk]
 congr 1;omega
theorem H_bis_id {x:Int} {m:Nat} (h0:0≤x) (h:x<(2 ^ m:Nat)):H (bis x m)=x:=by
 rw[H_bis,Int.emod_eq_of_lt h0 h]
def SG:List Bool→Int
 |[]=>0
 |b::r=>H r-b.toNat*(2 ^ r.length:Nat)
theorem H_cons (b:Bool) (r:List Bool):H (b::r)=b.toNat*(2 ^ r.length:Nat)+H r:=by
 have:=hb_append [b] r
 unfold H
 rw[show b::r=[b]++r from rfl,this,show hb [b] 0=b.toNat by cases b<;>rfl,Int.natCast_add,Int.natCast_mul]
theorem SG_eq (b:Bool) (r:List Bool):SG (b::r)=bif b then H (b::r)-(2 ^ (r.length+1):Nat) else H (b::r):=by
 unfold SG
 rw[H_cons,Nat.pow_succ]
 cases b
 ·simp
 ·simp only[Bool.toNat_true,cond_true];omega
theorem signed_H (b:Bool) (r:List Bool):qR (H (b::r),((r.length+1:Nat):Int))=SG (b::r):=by
 rw[SG_eq]
 show(bif H (b::r) / (2 ^ (((r.length+1:Nat):Int)-1).toNat:Nat)==1 then H (b::r)-(2 ^ ((r.length+1:Nat):Int).toNat:Nat) else H (b::r))=_
 rw[show(((r.length+1:Nat):Int)-1).toNat=r.length by omega,Int.toNat_natCast]
 have e:(H (b::r) / (2 ^ r.length:Nat)==1)=b:=by
  have h:=hb_shift (b::r) r.length (by simp)
  have e2:(b::r).length-r.length=1:=by simp
  rw[e2] at h
  have e3:H (b::r) / (2 ^ r.length:Nat)=((hb [b] 0:Nat):Int):=by
   unfold H
   rw[show hb [b] 0=hb (b::r) 0 / 2 ^ r.length from h.symm]
   norm_cast
  rw[e3]
  cases b<;>rfl
 rw[e]
theorem SG_twice:∀l:List Bool,2*SG l=SG (l++[false])∨l=[]
 |[]=>.inr rfl
 |b::r=>.inl (by
  show 2*(H r-b.toNat*(2 ^ r.length:Nat))=H (r++[false])-b.toNat*(2 ^ (r++[false]).length:Nat)
  have h:H (r++[false])=2*H r:=by
   unfold H
   rw[hb_append]
   show((hb r 0*2+0:Nat):Int)=_
   omega
  rw[h,List.length_append,Nat.pow_add]
  generalize 2 ^ r.length=p
  cases b<;>simp<;>omega)
theorem SG_bis (x:Int) (m:Nat) (h1:-(2 ^ m:Nat)≤x) (h2:x<(2 ^ m:Nat)):SG (bis x (m+1))=x:=by
 show H (bis x m)-(bI x m).toNat*(2 ^ (bis x m).length:Nat)=x
 rw[H_bis,bis_len]
 unfold bI
 have hp:=Nat.two_pow_pos m
 by_cases hx:x<0
 ·have hd:x / (2 ^ m:Nat)=-1:=by
   have e1:(x+(2 ^ m:Nat)) / (2 ^ m:Nat)=0:=Int.ediv_eq_zero_of_lt (by omega) (by omega)
   rw[Int.add_ediv_of_dvd_right (Int.dvd_refl _),Int.ediv_self (by omega)] at e1
   omega
  have hm:=Int.emod_add_mul_ediv x (2 ^ m:Nat)
  rw[hd] at hm ⊢
  simp only[show((-1:Int) % 2==1)=true from rfl,Bool.toNat_true]
  omega
 ·have hd:x / (2 ^ m:Nat)=0:=Int.ediv_eq_zero_of_lt (by omega) h2
  rw[hd,Int.emod_eq_of_lt (by omega) h2]
  simp
end Go.Av
end
section
namespace Go.Av
open Go
theorem sl_length (l:List Bool) (a m:Nat):(sl l a m).length=min m (l.length-a):=by
 unfold sl;rw[List.length_drop,List.length_take];omega
theorem signed_H_ (l:List Bool) (m:Nat) (hm:0<m) (h:l.length=m):qR (H l,(m:Int))=SG l:=by
 match l with
 |[]=>simp at h;omega
 |b::r=>rw[←h];exact signed_H b r
theorem SG_lt (l:List Bool) (m:Nat) (h:l.length≤m):-((2 ^ m:Nat):Int)≤SG l∧SG l<(2 ^ m:Nat):=by
 match l with
 |[]=>have:=Nat.two_pow_pos m;exact⟨by show _≤(0:Int);omega,by show(0:Int)<_;omega⟩
 |b::r =>
  have h1:=H_nonneg r
  have h2:=H_lt (l:=r) (Nat.le_refl _)
  have h3:2 ^ (r.length+1)≤2 ^ m:=pow_lt h
  rw[Nat.pow_succ] at h3
  unfold SG
  cases b
  ·simp only[Bool.toNat_false];constructor<;>omega
  ·simp only[Bool.toNat_true];constructor<;>omega
theorem twice_SG (l:List Bool) (m:Nat) (hm:0<m) (h2:m≤24) (h:l.length=m):w64 (2*SG l)=SG (l++[false]):=by
 have hb:=SG_lt l 24 (by omega)
 rw[w64_id (by omega) (by omega)]
 rcases SG_twice l with e |e
 ·exact e
 ·subst e;simp at h;omega
theorem gsigned_H (l:List Bool) (m:Nat) (h1:1≤m) (h2:m≤24) (h:l.length=m):qbc (H l,(m:Int))=true:=by
 have hb:=H_nonneg l
 have hc:=H_lt (l:=l) (k:=24) (by omega)
 show(decide ((1:Int)≤(m:Int))&&(decide ((m:Int)≤24)&&(decide (0≤H l)&&decide (H l<33554432))))=true
 rw[dec_true (by omega),dec_true (by omega),dec_true (by omega),dec_true (by omega)]
 rfl
def nx (j s:Bool):Bool:=!(j ^^ s)
theorem bx_H:∀(a b:List Bool),a.length=1→b.length=1→bxor IntKind.i64 (bxor IntKind.i64 1 (H a)) (H b)=H (List.zipWith nx a b)
 |[false],[false],_,_=>rfl
 |[true],[false],_,_=>rfl
 |[false],[true],_,_=>rfl
 |[true],[true],_,_=>rfl
theorem w_small (z:Int) (h1:-1000000≤z) (h2:z≤1000000):w64 z=z:=w64_id (by omega) (by omega)
def le12 (v:Int):Bool:=decide (v≤12)
abbrev D1:=tIns.den×Bool×Unit
def op1 (o:Option D1):Option (Option tIns.den):=o.map fun p=>bif p.2.1 then some p.1 else none
theorem op1_step (c:Bool) {a b:Option D1} {a' b':Option tIns.den} (h1:op1 a=some a') (h2:op1 b=some b'):op1 (bif c then a else b)=some (bif c then a' else b'):=by cases c<;>assumption
theorem op1_get {o:Option D1} {d:Option tIns.den} (h:op1 o=some d):∃p:D1,o=some p∧(bif p.2.1 then some p.1 else none)=d:=by
 cases o with
 |none=>cases h
 |some p=>exact⟨p,rfl,Option.some.inj h⟩
def dNarrow (l:List Bool):Option tIns.den :=
 (bif (eqC l 48896) then
 (some (1,0,0,0,0,0,0,false,())) else
 (bif (eqC (l.take 8) 190) then
 (some (2,0,0,0,0,H (sl l 0 8),0,false,())) else
 (bif (eqC (l.take 10) 416) then
 (some (19,H (sl l 0 3),H (sl l 3 3),0,0,0,0,false,())) else
 (bif (eqC (l.take 10) 384) then
 (some (20,H (sl l 0 3),H (sl l 3 3),0,0,0,0,false,())) else
 (bif (eqC (l.take 10) 480) then
 (some (21,H (sl l 0 3),H (sl l 3 3),0,0,0,0,false,())) else
 (bif (eqC (l.take 10) 448) then
 (some (22,H (sl l 0 3),H (sl l 3 3),0,0,0,0,false,())) else
 (bif (eqC (l.take 10) 266) then
 (some (23,0,H (sl l 0 3),H (sl l 3 3),0,0,0,false,())) else
 (bif (eqC (l.take 5) 28) then
 (some (24,0,0,0,0,SG (sl l 0 11++[false]),0,false,())) else
 (bif (eqC (l.take 4) 13&&decide (H (sl l 8 4)≤13)) then
 (some (25,0,0,0,0,SG (sl l 0 8++[false]),H (sl l 8 4),false,())) else
 none)))))))))
theorem narrow_T (l:List Bool) (hl:l.length=16):op1 (qdC (H l)).val=some (dNarrow l):=by
 have g1:qi (H l,0,3)=true:=rfl
 have g2:qi (H l,3,3)=true:=rfl
 have g3:qi (H l,0,8)=true:=rfl
 have g4:qi (H l,0,11)=true:=rfl
 have g5:qi (H l,8,4)=true:=rfl
 have g6:qb (H l,0,8)=H (sl l 0 8):=some_H l 0 8 (by omega)
 have g7:qb (H l,0,3)=H (sl l 0 3):=some_H l 0 3 (by omega)
 have g8:qb (H l,3,3)=H (sl l 3 3):=some_H l 3 3 (by omega)
 have g9:qb (H l,0,11)=H (sl l 0 11):=some_H l 0 11 (by omega)
 have g10:qb (H l,8,4)=H (sl l 8 4):=some_H l 8 4 (by omega)
 have g11:(ishr IntKind.i64 (H l) 8==190)=eqC (l.take 8) 190:=(by have:=shr_H l 8 190 (by omega) (by omega) (by rw[hl];decide);rw[hl] at this;exact this)
 have g12:(ishr IntKind.i64 (H l) 6==416)=eqC (l.take 10) 416:=(by have:=shr_H l 6 416 (by omega) (by omega) (by rw[hl];decide);rw[hl] at this;exact this)
 have g13:(ishr IntKind.i64 (H l) 6==384)=eqC (l.take 10) 384:=(by have:=shr_H l 6 384 (by omega) (by omega) (by rw[hl];decide);rw[hl] at this;exact this)
 have g14:(ishr IntKind.i64 (H l) 6==480)=eqC (l.take 10) 480:=(by have:=shr_H l 6 480 (by omega) (by omega) (by rw[hl];decide);rw[hl] at this;exact this)
 have g15:(ishr IntKind.i64 (H l) 6==448)=eqC (l.take 10) 448:=(by have:=shr_H l 6 448 (by omega) (by omega) (by rw[hl];decide);rw[hl] at this;exact this)
 have g16:(ishr IntKind.i64 (H l) 6==266)=eqC (l.take 10) 266:=(by have:=shr_H l 6 266 (by omega) (by omega) (by rw[hl];decide);rw[hl] at this;exact this)
 have g17:(ishr IntKind.i64 (H l) 11==28)=eqC (l.take 5) 28:=(by have:=shr_H l 11 28 (by omega) (by omega) (by rw[hl];decide);rw[hl] at this;exact this)
 have g18:(ishr IntKind.i64 (H l) 12==13)=eqC (l.take 4) 13:=(by have:=shr_H l 12 13 (by omega) (by omega) (by rw[hl];decide);rw[hl] at this;exact this)
 have g19:(H l==48896)=eqC l 48896:=eqC_H l 48896 (by rw[hl];decide)
 have g20:qR (H (sl l 0 11),11)=SG (sl l 0 11):=signed_H_ (sl l 0 11) 11 (by omega) (by simp[sl_length,hl])
 have g21:qbc (H (sl l 0 11),11)=true:=gsigned_H _ 11 (by omega) (by omega) (by simp[sl_length,hl])
 have g22:w64 (2*SG (sl l 0 11))=SG (sl l 0 11++[false]):=twice_SG (sl l 0 11) 11 (by omega) (by omega) (by simp[sl_length,hl])
 have g23:qR (H (sl l 0 8),8)=SG (sl l 0 8):=signed_H_ (sl l 0 8) 8 (by omega) (by simp[sl_length,hl])
 have g24:qbc (H (sl l 0 8),8)=true:=gsigned_H _ 8 (by omega) (by omega) (by simp[sl_length,hl])
 have g25:w64 (2*SG (sl l 0 8))=SG (sl l 0 8++[false]):=twice_SG (sl l 0 8) 8 (by omega) (by omega) (by simp[sl_length,hl])
 simp only[qdC,PO.val,g1,g2,g3,g4,g5,g6,g7,g8,g9,g10,g11,g12,g13,g14,g15,g16,g17,g18,g19,g20,g21,g22,g23,g24,g25,Bool.and_self,cond_true,Bool.cond_self]
 unfold dNarrow
 repeat' (first|refine op1_step _ ?_ ?_ |rfl)
def dThree (lx ly:List Bool):Option tIns.den :=
 (bif (eqC (ly.take 1) 1) then
 none else
 (bif (eqC lx 59983) then
 (bif ((le12 (H (sl ly 8 4))&&(le12 (H (sl ly 0 4))&&true))) then
 (bif (eqC (sl ly 4 2) 0) then
 (some ((5+H (sl ly 4 2)),H (sl ly 8 4),0,H (sl ly 0 4),0,H (sl ly 12 3++sl ly 6 2),0,false,())) else
 (bif (decide (H (sl ly 12 3++sl ly 6 2) > 0)) then some ((5+H (sl ly 4 2)),H (sl ly 8 4),0,H (sl ly 0 4),0,H (sl ly 12 3++sl ly 6 2),0,false,()) else none)) else
 none) else
 (bif (eqC lx 60015) then
 (bif ((le12 (H (sl ly 8 4))&&(le12 (H (sl ly 0 4))&&true))) then
 (bif (eqC (sl ly 4 2) 0) then
 (bif (eqC (sl ly 12 3++sl ly 6 2) 0) then some (9,H (sl ly 8 4),0,H (sl ly 0 4),0,0,0,false,()) else none) else
 none) else
 none) else
 (bif (eqC (List.zipWith (·&&·) (bitsN 16 65520) lx) 59904) then
 (bif ((le12 (H (sl ly 8 4))&&(le12 (H (sl lx 0 4))&&(le12 (H (sl ly 0 4))&&true)))) then
 (bif (eqC (sl ly 4 2) 0) then
 (bif (eqC (sl ly 12 3++sl ly 6 2) 0) then some (10,H (sl ly 8 4),H (sl lx 0 4),H (sl ly 0 4),0,0,0,false,()) else none) else
 none) else
 none) else
 (bif (eqC (List.zipWith (·&&·) (bitsN 16 65520) lx) 59936) then
 (bif ((le12 (H (sl ly 8 4))&&(le12 (H (sl lx 0 4))&&(le12 (H (sl ly 0 4))&&true)))) then
 (bif (eqC (sl ly 4 2) 0) then
 (bif (eqC (sl ly 12 3++sl ly 6 2) 0) then some (11,H (sl ly 8 4),H (sl lx 0 4),H (sl ly 0 4),0,0,0,false,()) else none) else
 none) else
 none) else
 (bif (eqC (List.zipWith (·&&·) (bitsN 16 65520) lx) 59968) then
 (bif ((le12 (H (sl ly 8 4))&&(le12 (H (sl lx 0 4))&&(le12 (H (sl ly 0 4))&&true)))) then
 (bif (eqC (sl ly 4 2) 0) then
 (bif (eqC (sl ly 12 3++sl ly 6 2) 0) then some (12,H (sl ly 8 4),H (sl lx 0 4),H (sl ly 0 4),0,0,0,false,()) else none) else
 none) else
 none) else
 (bif (eqC (List.zipWith (·&&·) (bitsN 16 65520) lx) 60032) then
 (bif ((le12 (H (sl ly 8 4))&&(le12 (H (sl lx 0 4))&&(le12 (H (sl ly 0 4))&&true)))) then
 (bif (eqC (sl ly 4 2) 0) then
 (bif (eqC (sl ly 12 3++sl ly 6 2) 0) then some (13,H (sl ly 8 4),H (sl lx 0 4),H (sl ly 0 4),0,0,0,false,()) else none) else
 none) else
 none) else
 (bif (eqC (List.zipWith (·&&·) (bitsN 16 65520) lx) 60160) then
 (bif ((le12 (H (sl ly 8 4))&&(le12 (H (sl lx 0 4))&&(le12 (H (sl ly 0 4))&&true)))) then
 (bif (eqC (sl ly 4 2) 0) then
 (bif (eqC (sl ly 12 3++sl ly 6 2) 0) then some (14,H (sl ly 8 4),H (sl lx 0 4),H (sl ly 0 4),0,0,0,false,()) else none) else
 none) else
 none) else
 (bif (eqC (List.zipWith (·&&·) (bitsN 16 65520) lx) 60320) then
 (bif ((le12 (H (sl ly 8 4))&&(le12 (H (sl lx 0 4))&&(le12 (H (sl ly 0 4))&&true)))) then
 (bif (eqC (sl ly 4 2) 0) then
 (bif (eqC (sl ly 12 3++sl ly 6 2) 0) then some (15,H (sl ly 8 4),H (sl lx 0 4),H (sl ly 0 4),0,0,0,false,()) else none) else
 none) else
 none) else
 none)))))))))
theorem three_T (lx ly:List Bool) (hlx:lx.length=16) (hly:ly.length=16):op1 (qd8 (H lx,H ly)).val=some (dThree lx ly):=by
 have g1:qi (H ly,8,4)=true:=rfl
 have g2:qi (H lx,0,4)=true:=rfl
 have g3:qi (H ly,0,4)=true:=rfl
 have g4:qi (H ly,12,3)=true:=rfl
 have g5:qi (H ly,6,2)=true:=rfl
 have g6:qi (H ly,4,2)=true:=rfl
 have g7:∀a:Int,qD [a]=true:=fun _=>rfl
 have g8:∀a b:Int,qD [a,b]=true:=fun _ _=>rfl
 have g9:∀a b c:Int,qD [a,b,c]=true:=fun _ _ _=>rfl
 have g10:∀a b c d:Int,qD [a,b,c,d]=true:=fun _ _ _ _=>rfl
 have g11:qb (H ly,8,4)=H (sl ly 8 4):=some_H ly 8 4 (by omega)
 have g12:qb (H ly,0,4)=H (sl ly 0 4):=some_H ly 0 4 (by omega)
 have g13:qb (H ly,4,2)=H (sl ly 4 2):=some_H ly 4 2 (by omega)
 have g14:qb (H ly,12,3)=H (sl ly 12 3):=some_H ly 12 3 (by omega)
 have g15:qb (H ly,6,2)=H (sl ly 6 2):=some_H ly 6 2 (by omega)
 have g16:qb (H lx,0,4)=H (sl lx 0 4):=some_H lx 0 4 (by omega)
 have g17:(ishr IntKind.i64 (H ly) 15==1)=eqC (ly.take 1) 1:=(by have:=shr_H ly 15 1 (by omega) (by omega) (by rw[hly];decide);rw[hly] at this;exact this)
 have g18:(bnot IntKind.i64 (H lx) 15==59904)=eqC (List.zipWith (·&&·) (bitsN 16 65520) lx) 59904:=(by rw[show bnot IntKind.i64 (H lx) 15=H (List.zipWith (·&&·) (bitsN 16 65520) lx) from bnot_H lx 15 hlx (by omega)];exact eqC_H (List.zipWith (·&&·) (bitsN 16 65520) lx) 59904 (by rw[List.length_zipWith,bitsN_len,hlx];decide))
 have g19:(bnot IntKind.i64 (H lx) 15==59936)=eqC (List.zipWith (·&&·) (bitsN 16 65520) lx) 59936:=(by rw[show bnot IntKind.i64 (H lx) 15=H (List.zipWith (·&&·) (bitsN 16 65520) lx) from bnot_H lx 15 hlx (by omega)];exact eqC_H (List.zipWith (·&&·) (bitsN 16 65520) lx) 59936 (by rw[List.length_zipWith,bitsN_len,hlx];decide))
 have g20:(bnot IntKind.i64 (H lx) 15==59968)=eqC (List.zipWith (·&&·) (bitsN 16 65520) lx) 59968:=(by rw[show bnot IntKind.i64 (H lx) 15=H (List.zipWith (·&&·) (bitsN 16 65520) lx) from bnot_H lx 15 hlx (by omega)];exact eqC_H (List.zipWith (·&&·) (bitsN 16 65520) lx) 59968 (by rw[List.length_zipWith,bitsN_len,hlx];decide))
 have g21:(bnot IntKind.i64 (H lx) 15==60032)=eqC (List.zipWith (·&&·) (bitsN 16 65520) lx) 60032:=(by rw[show bnot IntKind.i64 (H lx) 15=H (List.zipWith (·&&·) (bitsN 16 65520) lx) from bnot_H lx 15 hlx (by omega)];exact eqC_H (List.zipWith (·&&·) (bitsN 16 65520) lx) 60032 (by rw[List.length_zipWith,bitsN_len,hlx];decide))
 have g22:(bnot IntKind.i64 (H lx) 15==60160)=eqC (List.zipWith (·&&·) (bitsN 16 65520) lx) 60160:=(by rw[show bnot IntKind.i64 (H lx) 15=H (List.zipWith (·&&·) (bitsN 16 65520) lx) from bnot_H lx 15 hlx (by omega)];exact eqC_H (List.zipWith (·&&·) (bitsN 16 65520) lx) 60160 (by rw[List.length_zipWith,bitsN_len,hlx];decide))
 have g23:(bnot IntKind.i64 (H lx) 15==60320)=eqC (List.zipWith (·&&·) (bitsN 16 65520) lx) 60320:=(by rw[show bnot IntKind.i64 (H lx) 15=H (List.zipWith (·&&·) (bitsN 16 65520) lx) from bnot_H lx 15 hlx (by omega)];exact eqC_H (List.zipWith (·&&·) (bitsN 16 65520) lx) 60320 (by rw[List.length_zipWith,bitsN_len,hlx];decide))
 have g24:(H lx==59983)=eqC lx 59983:=eqC_H lx 59983 (by rw[hlx];decide)
 have g25:(H lx==60015)=eqC lx 60015:=eqC_H lx 60015 (by rw[hlx];decide)
 have g26:bor IntKind.i64 (ishl IntKind.i64 (H (sl ly 12 3)) 2) (H (sl ly 6 2))=H (sl ly 12 3++sl ly 6 2):=bor2 (sl ly 12 3) (sl ly 6 2) 2 (by simp[sl_length,hly]) (by simp[sl_length,hly])
 have g27:qK [H (sl ly 8 4),H (sl ly 0 4)]=(le12 (H (sl ly 8 4))&&(le12 (H (sl ly 0 4))&&true)):=rfl
 have g28:qK [H (sl ly 8 4),H (sl lx 0 4),H (sl ly 0 4)]=(le12 (H (sl ly 8 4))&&(le12 (H (sl lx 0 4))&&(le12 (H (sl ly 0 4))&&true))):=rfl
 have g29:(H (sl ly 4 2)==0)=eqC (sl ly 4 2) 0:=eqC_H (sl ly 4 2) 0 (by rw[show(sl ly 4 2).length=2 by simp[sl_length,hly]];decide)
 have g30:(H (sl ly 12 3++sl ly 6 2)==0)=eqC (sl ly 12 3++sl ly 6 2) 0:=eqC_H (sl ly 12 3++sl ly 6 2) 0 (by rw[show(sl ly 12 3++sl ly 6 2).length=5 by simp[sl_length,hly]];decide)
 have g31:w64 (5+H (sl ly 4 2))=(5+H (sl ly 4 2)):=w_small _ (by have:=H_nonneg (sl ly 4 2);omega) (by have:=H_lt (l:=sl ly 4 2) (k:=4) (by simp[sl_length,hly]);omega)
 simp only[qd8,PO.val,g1,g2,g3,g4,g5,g6,g8,g9,g11,g12,g13,g14,g15,g16,g17,g18,g19,g20,g21,g22,g23,g24,g25,g26,g27,g28,g29,g30,g31,Bool.and_self,cond_true]
 unfold dThree
 repeat' (first|refine op1_step _ ?_ ?_ |rfl)
def dProduct (lx ly:List Bool):Option tIns.den :=
 (bif (!eqC (sl ly 4 4) 0) then
 none else
 (bif (eqC (List.zipWith (·&&·) (bitsN 16 65520) lx) 64256) then
 (bif (eqC (sl ly 12 4) 15) then
 (bif ((le12 (H (sl ly 8 4))&&(le12 (H (sl lx 0 4))&&(le12 (H (sl ly 0 4))&&true)))) then some (16,H (sl ly 8 4),H (sl lx 0 4),H (sl ly 0 4),0,0,0,false,()) else none) else
 none) else
 (bif (eqC (List.zipWith (·&&·) (bitsN 16 65520) lx) 64416) then
 (bif (H (sl ly 12 4) != H (sl ly 8 4)) then
 (bif ((le12 (H (sl ly 12 4))&&(le12 (H (sl ly 8 4))&&(le12 (H (sl lx 0 4))&&(le12 (H (sl ly 0 4))&&true))))) then some (17,H (sl ly 12 4),H (sl lx 0 4),H (sl ly 0 4),H (sl ly 8 4),0,0,false,()) else none) else
 none) else
 none)))
theorem product_T (lx ly:List Bool) (hlx:lx.length=16) (hly:ly.length=16):op1 (qdf (H lx,H ly)).val=some (dProduct lx ly):=by
 have g1:qi (H lx,0,4)=true:=rfl
 have g2:qi (H ly,0,4)=true:=rfl
 have g3:qi (H ly,12,4)=true:=rfl
 have g4:qi (H ly,8,4)=true:=rfl
 have g5:qi (H ly,4,4)=true:=rfl
 have g6:∀a:Int,qD [a]=true:=fun _=>rfl
 have g7:∀a b:Int,qD [a,b]=true:=fun _ _=>rfl
 have g8:∀a b c:Int,qD [a,b,c]=true:=fun _ _ _=>rfl
 have g9:∀a b c d:Int,qD [a,b,c,d]=true:=fun _ _ _ _=>rfl
 have g10:qb (H ly,4,4)=H (sl ly 4 4):=some_H ly 4 4 (by omega)
 have g11:qb (H ly,12,4)=H (sl ly 12 4):=some_H ly 12 4 (by omega)
 have g12:qb (H ly,8,4)=H (sl ly 8 4):=some_H ly 8 4 (by omega)
 have g13:qb (H lx,0,4)=H (sl lx 0 4):=some_H lx 0 4 (by omega)
 have g14:qb (H ly,0,4)=H (sl ly 0 4):=some_H ly 0 4 (by omega)
 have g15:(bnot IntKind.i64 (H lx) 15==64256)=eqC (List.zipWith (·&&·) (bitsN 16 65520) lx) 64256:=(by rw[show bnot IntKind.i64 (H lx) 15=H (List.zipWith (·&&·) (bitsN 16 65520) lx) from bnot_H lx 15 hlx (by omega)];exact eqC_H (List.zipWith (·&&·) (bitsN 16 65520) lx) 64256 (by rw[List.length_zipWith,bitsN_len,hlx];decide))
 have g16:(bnot IntKind.i64 (H lx) 15==64416)=eqC (List.zipWith (·&&·) (bitsN 16 65520) lx) 64416:=(by rw[show bnot IntKind.i64 (H lx) 15=H (List.zipWith (·&&·) (bitsN 16 65520) lx) from bnot_H lx 15 hlx (by omega)];exact eqC_H (List.zipWith (·&&·) (bitsN 16 65520) lx) 64416 (by rw[List.length_zipWith,bitsN_len,hlx];decide))
 have g17:qK [H (sl ly 8 4),H (sl lx 0 4),H (sl ly 0 4)]=(le12 (H (sl ly 8 4))&&(le12 (H (sl lx 0 4))&&(le12 (H (sl ly 0 4))&&true))):=rfl
 have g18:qK [H (sl ly 12 4),H (sl ly 8 4),H (sl lx 0 4),H (sl ly 0 4)]=(le12 (H (sl ly 12 4))&&(le12 (H (sl ly 8 4))&&(le12 (H (sl lx 0 4))&&(le12 (H (sl ly 0 4))&&true)))):=rfl
 have g19:(H (sl ly 4 4)==0)=eqC (sl ly 4 4) 0:=eqC_H (sl ly 4 4) 0 (by rw[show(sl ly 4 4).length=4 by simp[sl_length,hly]];decide)
 have g20:(H (sl ly 12 4)==15)=eqC (sl ly 12 4) 15:=eqC_H (sl ly 12 4) 15 (by rw[show(sl ly 12 4).length=4 by simp[sl_length,hly]];decide)
 simp only[qdf,PO.val,g1,g2,g3,g4,g5,g8,g9,g10,g11,g12,g13,g14,g15,g16,g17,g18,g19,g20,bne,Bool.and_self,cond_true]
 unfold dProduct
 repeat' (first|refine op1_step _ ?_ ?_ |rfl)
def dPlain (lx ly:List Bool):Option tIns.den :=
 (bif (eqC (ly.take 1) 1) then
 none else
 (bif (eqC (List.zipWith (·&&·) (bitsN 16 65520) lx) 62304) then
 (bif (eqC (sl ly 5 1) 0) then
 (bif (decide ((H (sl ly 0 5)+1-H (sl ly 12 3++sl ly 6 2))≥1)) then
 (bif ((le12 (H (sl ly 8 4))&&(le12 (H (sl lx 0 4))&&true))) then some (18,H (sl ly 8 4),H (sl lx 0 4),0,(H (sl ly 0 5)+1-H (sl ly 12 3++sl ly 6 2)),H (sl ly 12 3++sl ly 6 2),0,false,()) else none) else
 none) else
 none) else
 (bif (eqC (List.zipWith (·&&·) (bitsN 16 64496) lx) 62016) then
 (bif ((le12 (H (sl ly 8 4))&&true)) then some (3,H (sl ly 8 4),0,0,0,H (sl lx 0 4++sl lx 10 1++sl ly 12 3++sl ly 0 8),0,false,()) else none) else
 (bif (eqC (List.zipWith (·&&·) (bitsN 16 64496) lx) 62144) then
 (bif ((le12 (H (sl ly 8 4))&&true)) then some (4,H (sl ly 8 4),0,0,0,H (sl lx 0 4++sl lx 10 1++sl ly 12 3++sl ly 0 8),0,false,()) else none) else
 none))))
theorem plain_T (lx ly:List Bool) (hlx:lx.length=16) (hly:ly.length=16):op1 (qd9 (H lx,H ly)).val=some (dPlain lx ly):=by
 have g1:qi (H ly,8,4)=true:=rfl
 have g2:qi (H lx,0,4)=true:=rfl
 have g3:qi (H ly,12,3)=true:=rfl
 have g4:qi (H ly,6,2)=true:=rfl
 have g5:qi (H ly,0,5)=true:=rfl
 have g6:qi (H ly,5,1)=true:=rfl
 have g7:qi (H lx,10,1)=true:=rfl
 have g8:qi (H ly,0,8)=true:=rfl
 have g9:∀a:Int,qD [a]=true:=fun _=>rfl
 have g10:∀a b:Int,qD [a,b]=true:=fun _ _=>rfl
 have g11:∀a b c:Int,qD [a,b,c]=true:=fun _ _ _=>rfl
 have g12:∀a b c d:Int,qD [a,b,c,d]=true:=fun _ _ _ _=>rfl
 have g13:qb (H ly,5,1)=H (sl ly 5 1):=some_H ly 5 1 (by omega)
 have g14:qb (H ly,0,5)=H (sl ly 0 5):=some_H ly 0 5 (by omega)
 have g15:qb (H ly,12,3)=H (sl ly 12 3):=some_H ly 12 3 (by omega)
 have g16:qb (H ly,6,2)=H (sl ly 6 2):=some_H ly 6 2 (by omega)
 have g17:qb (H ly,8,4)=H (sl ly 8 4):=some_H ly 8 4 (by omega)
 have g18:qb (H lx,0,4)=H (sl lx 0 4):=some_H lx 0 4 (by omega)
 have g19:qb (H lx,10,1)=H (sl lx 10 1):=some_H lx 10 1 (by omega)
 have g20:qb (H ly,0,8)=H (sl ly 0 8):=some_H ly 0 8 (by omega)
 have g21:(ishr IntKind.i64 (H ly) 15==1)=eqC (ly.take 1) 1:=(by have:=shr_H ly 15 1 (by omega) (by omega) (by rw[hly];decide);rw[hly] at this;exact this)
 have g22:(bnot IntKind.i64 (H lx) 15==62304)=eqC (List.zipWith (·&&·) (bitsN 16 65520) lx) 62304:=(by rw[show bnot IntKind.i64 (H lx) 15=H (List.zipWith (·&&·) (bitsN 16 65520) lx) from bnot_H lx 15 hlx (by omega)];exact eqC_H (List.zipWith (·&&·) (bitsN 16 65520) lx) 62304 (by rw[List.length_zipWith,bitsN_len,hlx];decide))
 have g23:(bnot IntKind.i64 (H lx) 1039==62016)=eqC (List.zipWith (·&&·) (bitsN 16 64496) lx) 62016:=(by rw[show bnot IntKind.i64 (H lx) 1039=H (List.zipWith (·&&·) (bitsN 16 64496) lx) from bnot_H lx 1039 hlx (by omega)];exact eqC_H (List.zipWith (·&&·) (bitsN 16 64496) lx) 62016 (by rw[List.length_zipWith,bitsN_len,hlx];decide))
 have g24:(bnot IntKind.i64 (H lx) 1039==62144)=eqC (List.zipWith (·&&·) (bitsN 16 64496) lx) 62144:=(by rw[show bnot IntKind.i64 (H lx) 1039=H (List.zipWith (·&&·) (bitsN 16 64496) lx) from bnot_H lx 1039 hlx (by omega)];exact eqC_H (List.zipWith (·&&·) (bitsN 16 64496) lx) 62144 (by rw[List.length_zipWith,bitsN_len,hlx];decide))
 have g25:bor IntKind.i64 (ishl IntKind.i64 (H (sl ly 12 3)) 2) (H (sl ly 6 2))=H (sl ly 12 3++sl ly 6 2):=bor2 (sl ly 12 3) (sl ly 6 2) 2 (by simp[sl_length,hly]) (by simp[sl_length,hly])
 have g26:bor IntKind.i64 (ishl IntKind.i64 (H (sl lx 0 4)) 12) (ishl IntKind.i64 (H (sl lx 10 1)) 11)=ishl IntKind.i64 (H (sl lx 0 4++sl lx 10 1)) 11:=bor2' (sl lx 0 4) (sl lx 10 1) 12 11 (by simp[sl_length,hlx]) (by simp[sl_length,hlx])
 have g27:bor IntKind.i64 (ishl IntKind.i64 (H (sl lx 0 4++sl lx 10 1)) 11) (ishl IntKind.i64 (H (sl ly 12 3)) 8)=ishl IntKind.i64 (H (sl lx 0 4++sl lx 10 1++sl ly 12 3)) 8:=bor2' (sl lx 0 4++sl lx 10 1) (sl ly 12 3) 11 8 (by simp[sl_length,hly]) (by simp[sl_length,hlx])
 have g28:bor IntKind.i64 (ishl IntKind.i64 (H (sl lx 0 4++sl lx 10 1++sl ly 12 3)) 8) (H (sl ly 0 8))=H (sl lx 0 4++sl lx 10 1++sl ly 12 3++sl ly 0 8):=bor2 (sl lx 0 4++sl lx 10 1++sl ly 12 3) (sl ly 0 8) 8 (by simp[sl_length,hly]) (by simp[sl_length,hlx,hly])
 have g29:qK [H (sl ly 8 4),H (sl lx 0 4)]=(le12 (H (sl ly 8 4))&&(le12 (H (sl lx 0 4))&&true)):=rfl
 have g30:qK [H (sl ly 8 4)]=(le12 (H (sl ly 8 4))&&true):=rfl
 have g31:(H (sl ly 5 1)==0)=eqC (sl ly 5 1) 0:=eqC_H (sl ly 5 1) 0 (by rw[show(sl ly 5 1).length=1 by simp[sl_length,hly]];decide)
 have g32:w64 (H (sl ly 0 5)+1)=H (sl ly 0 5)+1:=w_small _ (by have:=H_nonneg (sl ly 0 5);omega) (by have:=H_lt (l:=sl ly 0 5) (k:=8) (by simp[sl_length,hly]);omega)
 have g33:w64 (H (sl ly 0 5)+1-H (sl ly 12 3++sl ly 6 2))=(H (sl ly 0 5)+1-H (sl ly 12 3++sl ly 6 2)):=w_small _ (by have:=H_nonneg (sl ly 0 5);have:=H_lt (l:=sl ly 12 3++sl ly 6 2) (k:=8) (by simp[sl_length,hly]);omega) (by have:=H_nonneg (sl ly 12 3++sl ly 6 2);have:=H_lt (l:=sl ly 0 5) (k:=8) (by simp[sl_length,hly]);omega)
 simp only[qd9,PO.val,g1,g2,g3,g4,g5,g6,g7,g8,g9,g10,g13,g14,g15,g16,g17,g18,g19,g20,g21,g22,g23,g24,g25,g26,g27,g28,g29,g30,g31,g32,g33,cond_true]
 unfold dPlain
 repeat' (first|refine op1_step _ ?_ ?_ |rfl)
def dBranch (lx ly:List Bool):Option tIns.den :=
 (bif (!eqC (lx.take 5) 30||!eqC (ly.take 2) 2) then
 none else
 (bif (eqC (sl ly 12 1) 1) then
 (some (24,0,0,0,0,SG (sl lx 10 1++List.zipWith nx (sl ly 13 1) (sl lx 10 1)++List.zipWith nx (sl ly 11 1) (sl lx 10 1)++sl lx 0 10++sl ly 0 11++[false]),0,true,())) else
 (bif (decide (H (sl lx 6 4)≤13)) then some (25,0,0,0,0,SG (sl lx 10 1++sl ly 11 1++sl ly 13 1++sl lx 0 6++sl ly 0 11++[false]),H (sl lx 6 4),true,()) else none)))
theorem branch_T (lx ly:List Bool) (hlx:lx.length=16) (hly:ly.length=16):op1 (qdz (H lx,H ly)).val=some (dBranch lx ly):=by
 have g1:qi (H lx,10,1)=true:=rfl
 have g2:qi (H ly,13,1)=true:=rfl
 have g3:qi (H ly,11,1)=true:=rfl
 have g4:qi (H ly,0,11)=true:=rfl
 have g5:qi (H ly,12,1)=true:=rfl
 have g6:qi (H lx,0,10)=true:=rfl
 have g7:qi (H lx,6,4)=true:=rfl
 have g8:qi (H lx,0,6)=true:=rfl
 have g9:qb (H ly,12,1)=H (sl ly 12 1):=some_H ly 12 1 (by omega)
 have g10:qb (H lx,10,1)=H (sl lx 10 1):=some_H lx 10 1 (by omega)
 have g11:qb (H ly,13,1)=H (sl ly 13 1):=some_H ly 13 1 (by omega)
 have g12:qb (H ly,11,1)=H (sl ly 11 1):=some_H ly 11 1 (by omega)
 have g13:qb (H lx,0,10)=H (sl lx 0 10):=some_H lx 0 10 (by omega)
 have g14:qb (H ly,0,11)=H (sl ly 0 11):=some_H ly 0 11 (by omega)
 have g15:qb (H lx,6,4)=H (sl lx 6 4):=some_H lx 6 4 (by omega)
 have g16:qb (H lx,0,6)=H (sl lx 0 6):=some_H lx 0 6 (by omega)
 have g17:(ishr IntKind.i64 (H lx) 11==30)=eqC (lx.take 5) 30:=(by have:=shr_H lx 11 30 (by omega) (by omega) (by rw[hlx];decide);rw[hlx] at this;exact this)
 have g18:(ishr IntKind.i64 (H ly) 14==2)=eqC (ly.take 2) 2:=(by have:=shr_H ly 14 2 (by omega) (by omega) (by rw[hly];decide);rw[hly] at this;exact this)
 have g19:bxor IntKind.i64 (bxor IntKind.i64 1 (H (sl ly 13 1))) (H (sl lx 10 1))=H (List.zipWith nx (sl ly 13 1) (sl lx 10 1)):=bx_H _ _ (sl_len _ _ _ (by omega)) (sl_len _ _ _ (by omega))
 have g20:bxor IntKind.i64 (bxor IntKind.i64 1 (H (sl ly 11 1))) (H (sl lx 10 1))=H (List.zipWith nx (sl ly 11 1) (sl lx 10 1)):=bx_H _ _ (sl_len _ _ _ (by omega)) (sl_len _ _ _ (by omega))
 have g21:bor IntKind.i64 (ishl IntKind.i64 (H (sl lx 10 1)) 23) (ishl IntKind.i64 (H (List.zipWith nx (sl ly 13 1) (sl lx 10 1))) 22)=ishl IntKind.i64 (H (sl lx 10 1++List.zipWith nx (sl ly 13 1) (sl lx 10 1))) 22:=bor2' (sl lx 10 1) (List.zipWith nx (sl ly 13 1) (sl lx 10 1)) 23 22 (by simp[sl_length,hlx,hly]) (by simp[sl_length,hlx])
 have g22:bor IntKind.i64 (ishl IntKind.i64 (H (sl lx 10 1++List.zipWith nx (sl ly 13 1) (sl lx 10 1))) 22) (ishl IntKind.i64 (H (List.zipWith nx (sl ly 11 1) (sl lx 10 1))) 21)=ishl IntKind.i64 (H (sl lx 10 1++List.zipWith nx (sl ly 13 1) (sl lx 10 1)++List.zipWith nx (sl ly 11 1) (sl lx 10 1))) 21:=bor2' (sl lx 10 1++List.zipWith nx (sl ly 13 1) (sl lx 10 1)) (List.zipWith nx (sl ly 11 1) (sl lx 10 1)) 22 21 (by simp[sl_length,hlx,hly]) (by simp[sl_length,hlx,hly])
 have g23:bor IntKind.i64 (ishl IntKind.i64 (H (sl lx 10 1++List.zipWith nx (sl ly 13 1) (sl lx 10 1)++List.zipWith nx (sl ly 11 1) (sl lx 10 1))) 21) (ishl IntKind.i64 (H (sl lx 0 10)) 11)=ishl IntKind.i64 (H (sl lx 10 1++List.zipWith nx (sl ly 13 1) (sl lx 10 1)++List.zipWith nx (sl ly 11 1) (sl lx 10 1)++sl lx 0 10)) 11:=bor2' (sl lx 10 1++List.zipWith nx (sl ly 13 1) (sl lx 10 1)++List.zipWith nx (sl ly 11 1) (sl lx 10 1)) (sl lx 0 10) 21 11 (by simp[sl_length,hlx]) (by simp[sl_length,hlx,hly])
 have g24:bor IntKind.i64 (ishl IntKind.i64 (H (sl lx 10 1++List.zipWith nx (sl ly 13 1) (sl lx 10 1)++List.zipWith nx (sl ly 11 1) (sl lx 10 1)++sl lx 0 10)) 11) (H (sl ly 0 11))=H (sl lx 10 1++List.zipWith nx (sl ly 13 1) (sl lx 10 1)++List.zipWith nx (sl ly 11 1) (sl lx 10 1)++sl lx 0 10++sl ly 0 11):=bor2 (sl lx 10 1++List.zipWith nx (sl ly 13 1) (sl lx 10 1)++List.zipWith nx (sl ly 11 1) (sl lx 10 1)++sl lx 0 10) (sl ly 0 11) 11 (by simp[sl_length,hly]) (by simp[sl_length,hlx,hly])
 have g25:bor IntKind.i64 (ishl IntKind.i64 (H (sl lx 10 1)) 19) (ishl IntKind.i64 (H (sl ly 11 1)) 18)=ishl IntKind.i64 (H (sl lx 10 1++sl ly 11 1)) 18:=bor2' (sl lx 10 1) (sl ly 11 1) 19 18 (by simp[sl_length,hly]) (by simp[sl_length,hlx])
 have g26:bor IntKind.i64 (ishl IntKind.i64 (H (sl lx 10 1++sl ly 11 1)) 18) (ishl IntKind.i64 (H (sl ly 13 1)) 17)=ishl IntKind.i64 (H (sl lx 10 1++sl ly 11 1++sl ly 13 1)) 17:=bor2' (sl lx 10 1++sl ly 11 1) (sl ly 13 1) 18 17 (by simp[sl_length,hly]) (by simp[sl_length,hlx,hly])
 have g27:bor IntKind.i64 (ishl IntKind.i64 (H (sl lx 10 1++sl ly 11 1++sl ly 13 1)) 17) (ishl IntKind.i64 (H (sl lx 0 6)) 11)=ishl IntKind.i64 (H (sl lx 10 1++sl ly 11 1++sl ly 13 1++sl lx 0 6)) 11:=bor2' (sl lx 10 1++sl ly 11 1++sl ly 13 1) (sl lx 0 6) 17 11 (by simp[sl_length,hlx]) (by simp[sl_length,hlx,hly])
 have g28:bor IntKind.i64 (ishl IntKind.i64 (H (sl lx 10 1++sl ly 11 1++sl ly 13 1++sl lx 0 6)) 11) (H (sl ly 0 11))=H (sl lx 10 1++sl ly 11 1++sl ly 13 1++sl lx 0 6++sl ly 0 11):=bor2 (sl lx 10 1++sl ly 11 1++sl ly 13 1++sl lx 0 6) (sl ly 0 11) 11 (by simp[sl_length,hly]) (by simp[sl_length,hlx,hly])
 have g29:(H (sl ly 12 1)==1)=eqC (sl ly 12 1) 1:=eqC_H (sl ly 12 1) 1 (by rw[show(sl ly 12 1).length=1 by simp[sl_length,hly]];decide)
 have g30:qR (H (sl lx 10 1++List.zipWith nx (sl ly 13 1) (sl lx 10 1)++List.zipWith nx (sl ly 11 1) (sl lx 10 1)++sl lx 0 10++sl ly 0 11),24)=SG (sl lx 10 1++List.zipWith nx (sl ly 13 1) (sl lx 10 1)++List.zipWith nx (sl ly 11 1) (sl lx 10 1)++sl lx 0 10++sl ly 0 11):=signed_H_ (sl lx 10 1++List.zipWith nx (sl ly 13 1) (sl lx 10 1)++List.zipWith nx (sl ly 11 1) (sl lx 10 1)++sl lx 0 10++sl ly 0 11) 24 (by omega) (by simp[sl_length,hlx,hly])
 have g31:qbc (H (sl lx 10 1++List.zipWith nx (sl ly 13 1) (sl lx 10 1)++List.zipWith nx (sl ly 11 1) (sl lx 10 1)++sl lx 0 10++sl ly 0 11),24)=true:=gsigned_H _ 24 (by omega) (by omega) (by simp[sl_length,hlx,hly])
 have g32:w64 (2*SG (sl lx 10 1++List.zipWith nx (sl ly 13 1) (sl lx 10 1)++List.zipWith nx (sl ly 11 1) (sl lx 10 1)++sl lx 0 10++sl ly 0 11))=SG (sl lx 10 1++List.zipWith nx (sl ly 13 1) (sl lx 10 1)++List.zipWith nx (sl ly 11 1) (sl lx 10 1)++sl lx 0 10++sl ly 0 11++[false]):=twice_SG (sl lx 10 1++List.zipWith nx (sl ly 13 1) (sl lx 10 1)++List.zipWith nx (sl ly 11 1) (sl lx 10 1)++sl lx 0 10++sl ly 0 11) 24 (by omega) (by omega) (by simp[sl_length,hlx,hly])
 have g33:qR (H (sl lx 10 1++sl ly 11 1++sl ly 13 1++sl lx 0 6++sl ly 0 11),20)=SG (sl lx 10 1++sl ly 11 1++sl ly 13 1++sl lx 0 6++sl ly 0 11):=signed_H_ (sl lx 10 1++sl ly 11 1++sl ly 13 1++sl lx 0 6++sl ly 0 11) 20 (by omega) (by simp[sl_length,hlx,hly])
 have g34:qbc (H (sl lx 10 1++sl ly 11 1++sl ly 13 1++sl lx 0 6++sl ly 0 11),20)=true:=gsigned_H _ 20 (by omega) (by omega) (by simp[sl_length,hlx,hly])
 have g35:w64 (2*SG (sl lx 10 1++sl ly 11 1++sl ly 13 1++sl lx 0 6++sl ly 0 11))=SG (sl lx 10 1++sl ly 11 1++sl ly 13 1++sl lx 0 6++sl ly 0 11++[false]):=twice_SG (sl lx 10 1++sl ly 11 1++sl ly 13 1++sl lx 0 6++sl ly 0 11) 20 (by omega) (by omega) (by simp[sl_length,hlx,hly])
 simp only[qdz,PO.val,g1,g2,g3,g4,g5,g6,g7,g8,g9,g10,g11,g12,g13,g14,g15,g16,g17,g18,g19,g20,g21,g22,g23,g24,g25,g26,g27,g28,g29,g30,g31,g32,g33,g34,g35,bne,Bool.and_self,cond_true]
 unfold dBranch
 repeat' (first|refine op1_step _ ?_ ?_ |rfl)
end Go.Av
end
section
namespace Go.Av
open Go
def dLong (lx ly:List Bool):Option tIns.den:=(dThree lx ly).or ((dProduct lx ly).or ((dPlain lx ly).or (dBranch lx ly)))
theorem le12_bis {x:Int} (h0:0≤x) (h:x≤12):le12 (H (bis x 4))=true:=by
 unfold le12
 rw[H_bis_id h0 (by have:((2 ^ 4:Nat):Int)=16:=rfl;omega)]
 exact dec_true h
theorem bis4 {x:Int} (h0:0≤x) (h:x≤12):H (bis x 4)=x:=H_bis_id h0 (by have:((2 ^ 4:Nat):Int)=16:=rfl;omega)
theorem even_bit {x:Int} (h:x % 2=0):bI x 0=false:=by
 unfold bI
 rw[show x / (2 ^ 0:Nat)=x by simp,h]
 rfl
theorem bk_1:dNarrow [true,false,true,true,true,true,true,true,false,false,false,false,false,false,false,false]=some (1,0,0,0,0,0,0,false,()):=by kernel_rfl
theorem bk_2 (imm:Int) (_0imm:0≤imm) (_1imm:imm≤255):dNarrow [true,false,true,true,true,true,true,false,bI imm 7,bI imm 6,bI imm 5,bI imm 4,bI imm 3,bI imm 2,bI imm 1,bI imm 0]=some (2,0,0,0,0,imm,0,false,()):=by
 have e:dNarrow [true,false,true,true,true,true,true,false,bI imm 7,bI imm 6,bI imm 5,bI imm 4,bI imm 3,bI imm 2,bI imm 1,bI imm 0]=some (2,0,0,0,0,H (bis imm 8),0,false,()):=by kernel_rfl
 rw[e,H_bis_id _0imm (by have:((2 ^ 8:Nat):Int)=256:=rfl;omega)]
theorem bk_3 (rd:Int) (_0rd:0≤rd) (_1rd:rd≤12) (imm:Int) (_0imm:0≤imm) (_1imm:imm≤65535):dLong [true,true,true,true,false,bI imm 11,true,false,false,true,false,false,bI imm 15,bI imm 14,bI imm 13,bI imm 12] [false,bI imm 10,bI imm 9,bI imm 8,bI rd 3,bI rd 2,bI rd 1,bI rd 0,bI imm 7,bI imm 6,bI imm 5,bI imm 4,bI imm 3,bI imm 2,bI imm 1,bI imm 0]=some (3,rd,0,0,0,imm,0,false,()):=by
 have nThree:dThree [true,true,true,true,false,bI imm 11,true,false,false,true,false,false,bI imm 15,bI imm 14,bI imm 13,bI imm 12] [false,bI imm 10,bI imm 9,bI imm 8,bI rd 3,bI rd 2,bI rd 1,bI rd 0,bI imm 7,bI imm 6,bI imm 5,bI imm 4,bI imm 3,bI imm 2,bI imm 1,bI imm 0]=none:=by kernel_rfl
 have nProduct:dProduct [true,true,true,true,false,bI imm 11,true,false,false,true,false,false,bI imm 15,bI imm 14,bI imm 13,bI imm 12] [false,bI imm 10,bI imm 9,bI imm 8,bI rd 3,bI rd 2,bI rd 1,bI rd 0,bI imm 7,bI imm 6,bI imm 5,bI imm 4,bI imm 3,bI imm 2,bI imm 1,bI imm 0]=none:=by
  have e:dProduct [true,true,true,true,false,bI imm 11,true,false,false,true,false,false,bI imm 15,bI imm 14,bI imm 13,bI imm 12] [false,bI imm 10,bI imm 9,bI imm 8,bI rd 3,bI rd 2,bI rd 1,bI rd 0,bI imm 7,bI imm 6,bI imm 5,bI imm 4,bI imm 3,bI imm 2,bI imm 1,bI imm 0]=(bif !eqC (sl [false,bI imm 10,bI imm 9,bI imm 8,bI rd 3,bI rd 2,bI rd 1,bI rd 0,bI imm 7,bI imm 6,bI imm 5,bI imm 4,bI imm 3,bI imm 2,bI imm 1,bI imm 0] 4 4) 0 then none else none):=by kernel_rfl
  rw[e];exact Bool.cond_self _ _
 have e0:∀L:Bool,dPlain [true,true,true,true,false,L,true,false,false,true,false,false,bI imm 15,bI imm 14,bI imm 13,bI imm 12] [false,bI imm 10,bI imm 9,bI imm 8,bI rd 3,bI rd 2,bI rd 1,bI rd 0,bI imm 7,bI imm 6,bI imm 5,bI imm 4,bI imm 3,bI imm 2,bI imm 1,bI imm 0]=(bif (le12 (H (bis rd 4))&&true) then some (3,H (bis rd 4),0,0,0,H [bI imm 15,bI imm 14,bI imm 13,bI imm 12,L,bI imm 10,bI imm 9,bI imm 8,bI imm 7,bI imm 6,bI imm 5,bI imm 4,bI imm 3,bI imm 2,bI imm 1,bI imm 0],0,false,()) else none):=by intro L;cases L<;>kernel_rfl
 have e:dPlain [true,true,true,true,false,bI imm 11,true,false,false,true,false,false,bI imm 15,bI imm 14,bI imm 13,bI imm 12] [false,bI imm 10,bI imm 9,bI imm 8,bI rd 3,bI rd 2,bI rd 1,bI rd 0,bI imm 7,bI imm 6,bI imm 5,bI imm 4,bI imm 3,bI imm 2,bI imm 1,bI imm 0]=(bif (le12 (H (bis rd 4))&&true) then some (3,H (bis rd 4),0,0,0,H (bis imm 16),0,false,()) else none):=e0 (bI imm 11)
 unfold dLong
 rw[nThree,nProduct,e,le12_bis _0rd _1rd,bis4 _0rd _1rd,H_bis_id _0imm (by have:((2 ^ 16:Nat):Int)=65536:=rfl;omega)]
 rfl
theorem bk_4 (rd:Int) (_0rd:0≤rd) (_1rd:rd≤12) (imm:Int) (_0imm:0≤imm) (_1imm:imm≤65535):dLong [true,true,true,true,false,bI imm 11,true,false,true,true,false,false,bI imm 15,bI imm 14,bI imm 13,bI imm 12] [false,bI imm 10,bI imm 9,bI imm 8,bI rd 3,bI rd 2,bI rd 1,bI rd 0,bI imm 7,bI imm 6,bI imm 5,bI imm 4,bI imm 3,bI imm 2,bI imm 1,bI imm 0]=some (4,rd,0,0,0,imm,0,false,()):=by
 have nThree:dThree [true,true,true,true,false,bI imm 11,true,false,true,true,false,false,bI imm 15,bI imm 14,bI imm 13,bI imm 12] [false,bI imm 10,bI imm 9,bI imm 8,bI rd 3,bI rd 2,bI rd 1,bI rd 0,bI imm 7,bI imm 6,bI imm 5,bI imm 4,bI imm 3,bI imm 2,bI imm 1,bI imm 0]=none:=by kernel_rfl
 have nProduct:dProduct [true,true,true,true,false,bI imm 11,true,false,true,true,false,false,bI imm 15,bI imm 14,bI imm 13,bI imm 12] [false,bI imm 10,bI imm 9,bI imm 8,bI rd 3,bI rd 2,bI rd 1,bI rd 0,bI imm 7,bI imm 6,bI imm 5,bI imm 4,bI imm 3,bI imm 2,bI imm 1,bI imm 0]=none:=by
  have e:dProduct [true,true,true,true,false,bI imm 11,true,false,true,true,false,false,bI imm 15,bI imm 14,bI imm 13,bI imm 12] [false,bI imm 10,bI imm 9,bI imm 8,bI rd 3,bI rd 2,bI rd 1,bI rd 0,bI imm 7,bI imm 6,bI imm 5,bI imm 4,bI imm 3,bI imm 2,bI imm 1,bI imm 0]=(bif !eqC (sl [false,bI imm 10,bI imm 9,bI imm 8,bI rd 3,bI rd 2,bI rd 1,bI rd 0,bI imm 7,bI imm 6,bI imm 5,bI imm 4,bI imm 3,bI imm 2,bI imm 1,bI imm 0] 4 4) 0 then none else none):=by kernel_rfl
  rw[e];exact Bool.cond_self _ _
 have e0:∀L:Bool,dPlain [true,true,true,true,false,L,true,false,true,true,false,false,bI imm 15,bI imm 14,bI imm 13,bI imm 12] [false,bI imm 10,bI imm 9,bI imm 8,bI rd 3,bI rd 2,bI rd 1,bI rd 0,bI imm 7,bI imm 6,bI imm 5,bI imm 4,bI imm 3,bI imm 2,bI imm 1,bI imm 0]=(bif (le12 (H (bis rd 4))&&true) then some (4,H (bis rd 4),0,0,0,H [bI imm 15,bI imm 14,bI imm 13,bI imm 12,L,bI imm 10,bI imm 9,bI imm 8,bI imm 7,bI imm 6,bI imm 5,bI imm 4,bI imm 3,bI imm 2,bI imm 1,bI imm 0],0,false,()) else none):=by intro L;cases L<;>kernel_rfl
 have e:dPlain [true,true,true,true,false,bI imm 11,true,false,true,true,false,false,bI imm 15,bI imm 14,bI imm 13,bI imm 12] [false,bI imm 10,bI imm 9,bI imm 8,bI rd 3,bI rd 2,bI rd 1,bI rd 0,bI imm 7,bI imm 6,bI imm 5,bI imm 4,bI imm 3,bI imm 2,bI imm 1,bI imm 0]=(bif (le12 (H (bis rd 4))&&true) then some (4,H (bis rd 4),0,0,0,H (bis imm 16),0,false,()) else none):=e0 (bI imm 11)
 unfold dLong
 rw[nThree,nProduct,e,le12_bis _0rd _1rd,bis4 _0rd _1rd,H_bis_id _0imm (by have:((2 ^ 16:Nat):Int)=65536:=rfl;omega)]
 rfl
theorem bk_5 (rd:Int) (_0rd:0≤rd) (_1rd:rd≤12) (rm:Int) (_0rm:0≤rm) (_1rm:rm≤12) (imm:Int) (_0imm:0≤imm) (_1imm:imm≤31):dLong [true,true,true,false,true,false,true,false,false,true,false,false,true,true,true,true] [false,bI imm 4,bI imm 3,bI imm 2,bI rd 3,bI rd 2,bI rd 1,bI rd 0,bI imm 1,bI imm 0,false,false,bI rm 3,bI rm 2,bI rm 1,bI rm 0]=some (5,rd,0,rm,0,imm,0,false,()):=by
 have e:dThree [true,true,true,false,true,false,true,false,false,true,false,false,true,true,true,true] [false,bI imm 4,bI imm 3,bI imm 2,bI rd 3,bI rd 2,bI rd 1,bI rd 0,bI imm 1,bI imm 0,false,false,bI rm 3,bI rm 2,bI rm 1,bI rm 0]=(bif (le12 (H (bis rd 4))&&(le12 (H (bis rm 4))&&true)) then some (5+H [false,false],H (bis rd 4),0,H (bis rm 4),0,H (bis imm 5),0,false,()) else none):=by kernel_rfl
 have p:((2 ^ 5:Nat):Int)=32:=rfl
 unfold dLong
 rw[e,le12_bis _0rd _1rd,le12_bis _0rm _1rm,bis4 _0rd _1rd,bis4 _0rm _1rm,H_bis_id (x:=imm) (by omega) (by omega)]
 rfl
theorem bk_6 (rd:Int) (_0rd:0≤rd) (_1rd:rd≤12) (rm:Int) (_0rm:0≤rm) (_1rm:rm≤12) (imm:Int) (_0imm:1≤imm) (_1imm:imm≤31):dLong [true,true,true,false,true,false,true,false,false,true,false,false,true,true,true,true] [false,bI imm 4,bI imm 3,bI imm 2,bI rd 3,bI rd 2,bI rd 1,bI rd 0,bI imm 1,bI imm 0,false,true,bI rm 3,bI rm 2,bI rm 1,bI rm 0]=some (6,rd,0,rm,0,imm,0,false,()):=by
 have e:dThree [true,true,true,false,true,false,true,false,false,true,false,false,true,true,true,true] [false,bI imm 4,bI imm 3,bI imm 2,bI rd 3,bI rd 2,bI rd 1,bI rd 0,bI imm 1,bI imm 0,false,true,bI rm 3,bI rm 2,bI rm 1,bI rm 0]=(bif (le12 (H (bis rd 4))&&(le12 (H (bis rm 4))&&true)) then(bif decide (H (bis imm 5) > 0) then some (5+H [false,true],H (bis rd 4),0,H (bis rm 4),0,H (bis imm 5),0,false,()) else none) else none):=by kernel_rfl
 have p:((2 ^ 5:Nat):Int)=32:=rfl
 unfold dLong
 rw[e,le12_bis _0rd _1rd,le12_bis _0rm _1rm,bis4 _0rd _1rd,bis4 _0rm _1rm,H_bis_id (x:=imm) (by omega) (by omega)]
 rw[dec_true (p:=imm > 0) (by omega)]
 rfl
theorem bk_7 (rd:Int) (_0rd:0≤rd) (_1rd:rd≤12) (rm:Int) (_0rm:0≤rm) (_1rm:rm≤12) (imm:Int) (_0imm:1≤imm) (_1imm:imm≤31):dLong [true,true,true,false,true,false,true,false,false,true,false,false,true,true,true,true] [false,bI imm 4,bI imm 3,bI imm 2,bI rd 3,bI rd 2,bI rd 1,bI rd 0,bI imm 1,bI imm 0,true,false,bI rm 3,bI rm 2,bI rm 1,bI rm 0]=some (7,rd,0,rm,0,imm,0,false,()):=by
 have e:dThree [true,true,true,false,true,false,true,false,false,true,false,false,true,true,true,true] [false,bI imm 4,bI imm 3,bI imm 2,bI rd 3,bI rd 2,bI rd 1,bI rd 0,bI imm 1,bI imm 0,true,false,bI rm 3,bI rm 2,bI rm 1,bI rm 0]=(bif (le12 (H (bis rd 4))&&(le12 (H (bis rm 4))&&true)) then(bif decide (H (bis imm 5) > 0) then some (5+H [true,false],H (bis rd 4),0,H (bis rm 4),0,H (bis imm 5),0,false,()) else none) else none):=by kernel_rfl
 have p:((2 ^ 5:Nat):Int)=32:=rfl
 unfold dLong
 rw[e,le12_bis _0rd _1rd,le12_bis _0rm _1rm,bis4 _0rd _1rd,bis4 _0rm _1rm,H_bis_id (x:=imm) (by omega) (by omega)]
 rw[dec_true (p:=imm > 0) (by omega)]
 rfl
theorem bk_8 (rd:Int) (_0rd:0≤rd) (_1rd:rd≤12) (rm:Int) (_0rm:0≤rm) (_1rm:rm≤12) (imm:Int) (_0imm:1≤imm) (_1imm:imm≤31):dLong [true,true,true,false,true,false,true,false,false,true,false,false,true,true,true,true] [false,bI imm 4,bI imm 3,bI imm 2,bI rd 3,bI rd 2,bI rd 1,bI rd 0,bI imm 1,bI imm 0,true,true,bI rm 3,bI rm 2,bI rm 1,bI rm 0]=some (8,rd,0,rm,0,imm,0,false,()):=by
 have e:dThree [true,true,true,false,true,false,true,false,false,true,false,false,true,true,true,true] [false,bI imm 4,bI imm 3,bI imm 2,bI rd 3,bI rd 2,bI rd 1,bI rd 0,bI imm 1,bI imm 0,true,true,bI rm 3,bI rm 2,bI rm 1,bI rm 0]=(bif (le12 (H (bis rd 4))&&(le12 (H (bis rm 4))&&true)) then(bif decide (H (bis imm 5) > 0) then some (5+H [true,true],H (bis rd 4),0,H (bis rm 4),0,H (bis imm 5),0,false,()) else none) else none):=by kernel_rfl
 have p:((2 ^ 5:Nat):Int)=32:=rfl
 unfold dLong
 rw[e,le12_bis _0rd _1rd,le12_bis _0rm _1rm,bis4 _0rd _1rd,bis4 _0rm _1rm,H_bis_id (x:=imm) (by omega) (by omega)]
 rw[dec_true (p:=imm > 0) (by omega)]
 rfl
theorem bk_9 (rd:Int) (_0rd:0≤rd) (_1rd:rd≤12) (rm:Int) (_0rm:0≤rm) (_1rm:rm≤12):dLong [true,true,true,false,true,false,true,false,false,true,true,false,true,true,true,true] [false,false,false,false,bI rd 3,bI rd 2,bI rd 1,bI rd 0,false,false,false,false,bI rm 3,bI rm 2,bI rm 1,bI rm 0]=some (9,rd,0,rm,0,0,0,false,()):=by
 have e:dThree [true,true,true,false,true,false,true,false,false,true,true,false,true,true,true,true] [false,false,false,false,bI rd 3,bI rd 2,bI rd 1,bI rd 0,false,false,false,false,bI rm 3,bI rm 2,bI rm 1,bI rm 0]=(bif (le12 (H (bis rd 4))&&(le12 (H (bis rm 4))&&true)) then some (9,H (bis rd 4),0,H (bis rm 4),0,0,0,false,()) else none):=by kernel_rfl
 unfold dLong
 rw[e,le12_bis _0rd _1rd,le12_bis _0rm _1rm,bis4 _0rd _1rd,bis4 _0rm _1rm]
 rfl
theorem bk_10 (rd:Int) (_0rd:0≤rd) (_1rd:rd≤12) (rn:Int) (_0rn:0≤rn) (_1rn:rn≤12) (rm:Int) (_0rm:0≤rm) (_1rm:rm≤12):dLong [true,true,true,false,true,false,true,false,false,false,false,false,bI rn 3,bI rn 2,bI rn 1,bI rn 0] [false,false,false,false,bI rd 3,bI rd 2,bI rd 1,bI rd 0,false,false,false,false,bI rm 3,bI rm 2,bI rm 1,bI rm 0]=some (10,rd,rn,rm,0,0,0,false,()):=by
 have e:dThree [true,true,true,false,true,false,true,false,false,false,false,false,bI rn 3,bI rn 2,bI rn 1,bI rn 0] [false,false,false,false,bI rd 3,bI rd 2,bI rd 1,bI rd 0,false,false,false,false,bI rm 3,bI rm 2,bI rm 1,bI rm 0]=(bif (le12 (H (bis rd 4))&&(le12 (H (bis rn 4))&&(le12 (H (bis rm 4))&&true))) then some (10,H (bis rd 4),H (bis rn 4),H (bis rm 4),0,0,0,false,()) else none):=by kernel_rfl
 unfold dLong
 rw[e,le12_bis _0rd _1rd,le12_bis _0rn _1rn,le12_bis _0rm _1rm,bis4 _0rd _1rd,bis4 _0rn _1rn,bis4 _0rm _1rm]
 rfl
theorem bk_11 (rd:Int) (_0rd:0≤rd) (_1rd:rd≤12) (rn:Int) (_0rn:0≤rn) (_1rn:rn≤12) (rm:Int) (_0rm:0≤rm) (_1rm:rm≤12):dLong [true,true,true,false,true,false,true,false,false,false,true,false,bI rn 3,bI rn 2,bI rn 1,bI rn 0] [false,false,false,false,bI rd 3,bI rd 2,bI rd 1,bI rd 0,false,false,false,false,bI rm 3,bI rm 2,bI rm 1,bI rm 0]=some (11,rd,rn,rm,0,0,0,false,()):=by
 have e:dThree [true,true,true,false,true,false,true,false,false,false,true,false,bI rn 3,bI rn 2,bI rn 1,bI rn 0] [false,false,false,false,bI rd 3,bI rd 2,bI rd 1,bI rd 0,false,false,false,false,bI rm 3,bI rm 2,bI rm 1,bI rm 0]=(bif (le12 (H (bis rd 4))&&(le12 (H (bis rn 4))&&(le12 (H (bis rm 4))&&true))) then some (11,H (bis rd 4),H (bis rn 4),H (bis rm 4),0,0,0,false,()) else none):=by kernel_rfl
 unfold dLong
 rw[e,le12_bis _0rd _1rd,le12_bis _0rn _1rn,le12_bis _0rm _1rm,bis4 _0rd _1rd,bis4 _0rn _1rn,bis4 _0rm _1rm]
 rfl
theorem bk_12 (rd:Int) (_0rd:0≤rd) (_1rd:rd≤12) (rn:Int) (_0rn:0≤rn) (_1rn:rn≤12) (rm:Int) (_0rm:0≤rm) (_1rm:rm≤12):dLong [true,true,true,false,true,false,true,false,false,true,false,false,bI rn 3,bI rn 2,bI rn 1,bI rn 0] [false,false,false,false,bI rd 3,bI rd 2,bI rd 1,bI rd 0,false,false,false,false,bI rm 3,bI rm 2,bI rm 1,bI rm 0]=some (12,rd,rn,rm,0,0,0,false,()):=by
 have e:dThree [true,true,true,false,true,false,true,false,false,true,false,false,bI rn 3,bI rn 2,bI rn 1,bI rn 0] [false,false,false,false,bI rd 3,bI rd 2,bI rd 1,bI rd 0,false,false,false,false,bI rm 3,bI rm 2,bI rm 1,bI rm 0]=(bif eqC (bis rn 4) 15 then(bif (le12 (H (bis rd 4))&&(le12 (H (bis rm 4))&&true)) then some (5+H [false,false],H (bis rd 4),0,H (bis rm 4),0,H (sl [false,false,false,false,bI rd 3,bI rd 2,bI rd 1,bI rd 0,false,false,false,false,bI rm 3,bI rm 2,bI rm 1,bI rm 0] 12 3++sl [false,false,false,false,bI rd 3,bI rd 2,bI rd 1,bI rd 0,false,false,false,false,bI rm 3,bI rm 2,bI rm 1,bI rm 0] 6 2),0,false,()) else none) else bif (le12 (H (bis rd 4))&&(le12 (H (bis rn 4))&&(le12 (H (bis rm 4))&&true))) then some (12,H (bis rd 4),H (bis rn 4),H (bis rm 4),0,0,0,false,()) else none):=by kernel_rfl
 have e2:eqC (bis rn 4) 15=false:=by rw[←eqC_H (bis rn 4) 15 (by rw[bis_len];decide),bis4 _0rn _1rn,beq_eq_false_iff_ne];omega
 unfold dLong
 rw[e,e2,le12_bis _0rd _1rd,le12_bis _0rn _1rn,le12_bis _0rm _1rm,bis4 _0rd _1rd,bis4 _0rn _1rn,bis4 _0rm _1rm]
 rfl
theorem bk_13 (rd:Int) (_0rd:0≤rd) (_1rd:rd≤12) (rn:Int) (_0rn:0≤rn) (_1rn:rn≤12) (rm:Int) (_0rm:0≤rm) (_1rm:rm≤12):dLong [true,true,true,false,true,false,true,false,true,false,false,false,bI rn 3,bI rn 2,bI rn 1,bI rn 0] [false,false,false,false,bI rd 3,bI rd 2,bI rd 1,bI rd 0,false,false,false,false,bI rm 3,bI rm 2,bI rm 1,bI rm 0]=some (13,rd,rn,rm,0,0,0,false,()):=by
 have e:dThree [true,true,true,false,true,false,true,false,true,false,false,false,bI rn 3,bI rn 2,bI rn 1,bI rn 0] [false,false,false,false,bI rd 3,bI rd 2,bI rd 1,bI rd 0,false,false,false,false,bI rm 3,bI rm 2,bI rm 1,bI rm 0]=(bif (le12 (H (bis rd 4))&&(le12 (H (bis rn 4))&&(le12 (H (bis rm 4))&&true))) then some (13,H (bis rd 4),H (bis rn 4),H (bis rm 4),0,0,0,false,()) else none):=by kernel_rfl
 unfold dLong
 rw[e,le12_bis _0rd _1rd,le12_bis _0rn _1rn,le12_bis _0rm _1rm,bis4 _0rd _1rd,bis4 _0rn _1rn,bis4 _0rm _1rm]
 rfl
theorem bk_14 (rd:Int) (_0rd:0≤rd) (_1rd:rd≤12) (rn:Int) (_0rn:0≤rn) (_1rn:rn≤12) (rm:Int) (_0rm:0≤rm) (_1rm:rm≤12):dLong [true,true,true,false,true,false,true,true,false,false,false,false,bI rn 3,bI rn 2,bI rn 1,bI rn 0] [false,false,false,false,bI rd 3,bI rd 2,bI rd 1,bI rd 0,false,false,false,false,bI rm 3,bI rm 2,bI rm 1,bI rm 0]=some (14,rd,rn,rm,0,0,0,false,()):=by
 have e:dThree [true,true,true,false,true,false,true,true,false,false,false,false,bI rn 3,bI rn 2,bI rn 1,bI rn 0] [false,false,false,false,bI rd 3,bI rd 2,bI rd 1,bI rd 0,false,false,false,false,bI rm 3,bI rm 2,bI rm 1,bI rm 0]=(bif (le12 (H (bis rd 4))&&(le12 (H (bis rn 4))&&(le12 (H (bis rm 4))&&true))) then some (14,H (bis rd 4),H (bis rn 4),H (bis rm 4),0,0,0,false,()) else none):=by kernel_rfl
 unfold dLong
 rw[e,le12_bis _0rd _1rd,le12_bis _0rn _1rn,le12_bis _0rm _1rm,bis4 _0rd _1rd,bis4 _0rn _1rn,bis4 _0rm _1rm]
 rfl
theorem bk_15 (rd:Int) (_0rd:0≤rd) (_1rd:rd≤12) (rn:Int) (_0rn:0≤rn) (_1rn:rn≤12) (rm:Int) (_0rm:0≤rm) (_1rm:rm≤12):dLong [true,true,true,false,true,false,true,true,true,false,true,false,bI rn 3,bI rn 2,bI rn 1,bI rn 0] [false,false,false,false,bI rd 3,bI rd 2,bI rd 1,bI rd 0,false,false,false,false,bI rm 3,bI rm 2,bI rm 1,bI rm 0]=some (15,rd,rn,rm,0,0,0,false,()):=by
 have e:dThree [true,true,true,false,true,false,true,true,true,false,true,false,bI rn 3,bI rn 2,bI rn 1,bI rn 0] [false,false,false,false,bI rd 3,bI rd 2,bI rd 1,bI rd 0,false,false,false,false,bI rm 3,bI rm 2,bI rm 1,bI rm 0]=(bif (le12 (H (bis rd 4))&&(le12 (H (bis rn 4))&&(le12 (H (bis rm 4))&&true))) then some (15,H (bis rd 4),H (bis rn 4),H (bis rm 4),0,0,0,false,()) else none):=by kernel_rfl
 unfold dLong
 rw[e,le12_bis _0rd _1rd,le12_bis _0rn _1rn,le12_bis _0rm _1rm,bis4 _0rd _1rd,bis4 _0rn _1rn,bis4 _0rm _1rm]
 rfl
theorem bk_16 (rd:Int) (_0rd:0≤rd) (_1rd:rd≤12) (rn:Int) (_0rn:0≤rn) (_1rn:rn≤12) (rm:Int) (_0rm:0≤rm) (_1rm:rm≤12):dLong [true,true,true,true,true,false,true,true,false,false,false,false,bI rn 3,bI rn 2,bI rn 1,bI rn 0] [true,true,true,true,bI rd 3,bI rd 2,bI rd 1,bI rd 0,false,false,false,false,bI rm 3,bI rm 2,bI rm 1,bI rm 0]=some (16,rd,rn,rm,0,0,0,false,()):=by
 have nThree:dThree [true,true,true,true,true,false,true,true,false,false,false,false,bI rn 3,bI rn 2,bI rn 1,bI rn 0] [true,true,true,true,bI rd 3,bI rd 2,bI rd 1,bI rd 0,false,false,false,false,bI rm 3,bI rm 2,bI rm 1,bI rm 0]=none:=by kernel_rfl
 have e:dProduct [true,true,true,true,true,false,true,true,false,false,false,false,bI rn 3,bI rn 2,bI rn 1,bI rn 0] [true,true,true,true,bI rd 3,bI rd 2,bI rd 1,bI rd 0,false,false,false,false,bI rm 3,bI rm 2,bI rm 1,bI rm 0]=(bif (le12 (H (bis rd 4))&&(le12 (H (bis rn 4))&&(le12 (H (bis rm 4))&&true))) then some (16,H (bis rd 4),H (bis rn 4),H (bis rm 4),0,0,0,false,()) else none):=by kernel_rfl
 unfold dLong
 rw[nThree,e,le12_bis _0rd _1rd,le12_bis _0rn _1rn,le12_bis _0rm _1rm,bis4 _0rd _1rd,bis4 _0rn _1rn,bis4 _0rm _1rm]
 rfl
theorem bk_17 (rd:Int) (_0rd:0≤rd) (_1rd:rd≤12) (ra:Int) (_0ra:0≤ra) (_1ra:ra≤12) (rn:Int) (_0rn:0≤rn) (_1rn:rn≤12) (rm:Int) (_0rm:0≤rm) (_1rm:rm≤12) (hne:ra≠rd):dLong [true,true,true,true,true,false,true,true,true,false,true,false,bI rn 3,bI rn 2,bI rn 1,bI rn 0] [bI rd 3,bI rd 2,bI rd 1,bI rd 0,bI ra 3,bI ra 2,bI ra 1,bI ra 0,false,false,false,false,bI rm 3,bI rm 2,bI rm 1,bI rm 0]=some (17,rd,rn,rm,ra,0,0,false,()):=by
 have nThree:dThree [true,true,true,true,true,false,true,true,true,false,true,false,bI rn 3,bI rn 2,bI rn 1,bI rn 0] [bI rd 3,bI rd 2,bI rd 1,bI rd 0,bI ra 3,bI ra 2,bI ra 1,bI ra 0,false,false,false,false,bI rm 3,bI rm 2,bI rm 1,bI rm 0]=none:=by
  have e:dThree [true,true,true,true,true,false,true,true,true,false,true,false,bI rn 3,bI rn 2,bI rn 1,bI rn 0] [bI rd 3,bI rd 2,bI rd 1,bI rd 0,bI ra 3,bI ra 2,bI ra 1,bI ra 0,false,false,false,false,bI rm 3,bI rm 2,bI rm 1,bI rm 0]=(bif eqC [bI rd 3] 1 then none else none):=by kernel_rfl
  rw[e];exact Bool.cond_self _ _
 have e:dProduct [true,true,true,true,true,false,true,true,true,false,true,false,bI rn 3,bI rn 2,bI rn 1,bI rn 0] [bI rd 3,bI rd 2,bI rd 1,bI rd 0,bI ra 3,bI ra 2,bI ra 1,bI ra 0,false,false,false,false,bI rm 3,bI rm 2,bI rm 1,bI rm 0]=(bif (H (bis rd 4) != H (bis ra 4)) then(bif (le12 (H (bis rd 4))&&(le12 (H (bis ra 4))&&(le12 (H (bis rn 4))&&(le12 (H (bis rm 4))&&true)))) then some (17,H (bis rd 4),H (bis rn 4),H (bis rm 4),H (bis ra 4),0,0,false,()) else none) else none):=by kernel_rfl
 unfold dLong
 rw[nThree,e,le12_bis _0rd _1rd,le12_bis _0ra _1ra,le12_bis _0rn _1rn,le12_bis _0rm _1rm,bis4 _0rd _1rd,bis4 _0ra _1ra,bis4 _0rn _1rn,bis4 _0rm _1rm,bne_iff_ne.2 (Ne.symm hne)]
 rfl
theorem bk_18 (rd:Int) (_0rd:0≤rd) (_1rd:rd≤12) (rn:Int) (_0rn:0≤rn) (_1rn:rn≤12) (imm:Int) (_0imm:0≤imm) (_1imm:imm≤31) (ra:Int) (_0ra:1≤ra) (_1ra:ra≤32-imm):dLong [true,true,true,true,false,false,true,true,false,true,true,false,bI rn 3,bI rn 2,bI rn 1,bI rn 0] [false,bI imm 4,bI imm 3,bI imm 2,bI rd 3,bI rd 2,bI rd 1,bI rd 0,bI imm 1,bI imm 0,false,bI (imm+ra-1) 4,bI (imm+ra-1) 3,bI (imm+ra-1) 2,bI (imm+ra-1) 1,bI (imm+ra-1) 0]=some (18,rd,rn,0,ra,imm,0,false,()):=by
 have nThree:dThree [true,true,true,true,false,false,true,true,false,true,true,false,bI rn 3,bI rn 2,bI rn 1,bI rn 0] [false,bI imm 4,bI imm 3,bI imm 2,bI rd 3,bI rd 2,bI rd 1,bI rd 0,bI imm 1,bI imm 0,false,bI (imm+ra-1) 4,bI (imm+ra-1) 3,bI (imm+ra-1) 2,bI (imm+ra-1) 1,bI (imm+ra-1) 0]=none:=by kernel_rfl
 have nProduct:dProduct [true,true,true,true,false,false,true,true,false,true,true,false,bI rn 3,bI rn 2,bI rn 1,bI rn 0] [false,bI imm 4,bI imm 3,bI imm 2,bI rd 3,bI rd 2,bI rd 1,bI rd 0,bI imm 1,bI imm 0,false,bI (imm+ra-1) 4,bI (imm+ra-1) 3,bI (imm+ra-1) 2,bI (imm+ra-1) 1,bI (imm+ra-1) 0]=none:=by
  have e:dProduct [true,true,true,true,false,false,true,true,false,true,true,false,bI rn 3,bI rn 2,bI rn 1,bI rn 0] [false,bI imm 4,bI imm 3,bI imm 2,bI rd 3,bI rd 2,bI rd 1,bI rd 0,bI imm 1,bI imm 0,false,bI (imm+ra-1) 4,bI (imm+ra-1) 3,bI (imm+ra-1) 2,bI (imm+ra-1) 1,bI (imm+ra-1) 0]=(bif !eqC (sl [false,bI imm 4,bI imm 3,bI imm 2,bI rd 3,bI rd 2,bI rd 1,bI rd 0,bI imm 1,bI imm 0,false,bI (imm+ra-1) 4,bI (imm+ra-1) 3,bI (imm+ra-1) 2,bI (imm+ra-1) 1,bI (imm+ra-1) 0] 4 4) 0 then none else none):=by kernel_rfl
  rw[e];exact Bool.cond_self _ _
 have e:dPlain [true,true,true,true,false,false,true,true,false,true,true,false,bI rn 3,bI rn 2,bI rn 1,bI rn 0] [false,bI imm 4,bI imm 3,bI imm 2,bI rd 3,bI rd 2,bI rd 1,bI rd 0,bI imm 1,bI imm 0,false,bI (imm+ra-1) 4,bI (imm+ra-1) 3,bI (imm+ra-1) 2,bI (imm+ra-1) 1,bI (imm+ra-1) 0]=(bif decide (H (bis (imm+ra-1) 5)+1-H (bis imm 5)≥1) then(bif (le12 (H (bis rd 4))&&(le12 (H (bis rn 4))&&true)) then some (18,H (bis rd 4),H (bis rn 4),0,H (bis (imm+ra-1) 5)+1-H (bis imm 5),H (bis imm 5),0,false,()) else none) else none):=by kernel_rfl
 have p:((2 ^ 5:Nat):Int)=32:=rfl
 unfold dLong
 rw[nThree,nProduct,e,le12_bis _0rd _1rd,le12_bis _0rn _1rn,bis4 _0rd _1rd,bis4 _0rn _1rn,H_bis_id (x:=imm) (by omega) (by omega),H_bis_id (x:=imm+ra-1) (by omega) (by omega),show imm+ra-1+1-imm=ra by omega,dec_true (p:=ra≥1) (by omega)]
 rfl
theorem bk_19 (rd:Int) (_0rd:0≤rd) (_1rd:rd≤7) (rn:Int) (_0rn:0≤rn) (_1rn:rn≤7):dNarrow [false,true,true,false,true,false,false,false,false,false,bI rn 2,bI rn 1,bI rn 0,bI rd 2,bI rd 1,bI rd 0]=some (19,rd,rn,0,0,0,0,false,()):=by
 have e:dNarrow [false,true,true,false,true,false,false,false,false,false,bI rn 2,bI rn 1,bI rn 0,bI rd 2,bI rd 1,bI rd 0]=some (19,H (bis rd 3),H (bis rn 3),0,0,0,0,false,()):=by kernel_rfl
 have p:((2 ^ 3:Nat):Int)=8:=rfl
 rw[e,H_bis_id _0rd (by omega),H_bis_id _0rn (by omega)]
theorem bk_20 (rd:Int) (_0rd:0≤rd) (_1rd:rd≤7) (rn:Int) (_0rn:0≤rn) (_1rn:rn≤7):dNarrow [false,true,true,false,false,false,false,false,false,false,bI rn 2,bI rn 1,bI rn 0,bI rd 2,bI rd 1,bI rd 0]=some (20,rd,rn,0,0,0,0,false,()):=by
 have e:dNarrow [false,true,true,false,false,false,false,false,false,false,bI rn 2,bI rn 1,bI rn 0,bI rd 2,bI rd 1,bI rd 0]=some (20,H (bis rd 3),H (bis rn 3),0,0,0,0,false,()):=by kernel_rfl
 have p:((2 ^ 3:Nat):Int)=8:=rfl
 rw[e,H_bis_id _0rd (by omega),H_bis_id _0rn (by omega)]
theorem bk_21 (rd:Int) (_0rd:0≤rd) (_1rd:rd≤7) (rn:Int) (_0rn:0≤rn) (_1rn:rn≤7):dNarrow [false,true,true,true,true,false,false,false,false,false,bI rn 2,bI rn 1,bI rn 0,bI rd 2,bI rd 1,bI rd 0]=some (21,rd,rn,0,0,0,0,false,()):=by
 have e:dNarrow [false,true,true,true,true,false,false,false,false,false,bI rn 2,bI rn 1,bI rn 0,bI rd 2,bI rd 1,bI rd 0]=some (21,H (bis rd 3),H (bis rn 3),0,0,0,0,false,()):=by kernel_rfl
 have p:((2 ^ 3:Nat):Int)=8:=rfl
 rw[e,H_bis_id _0rd (by omega),H_bis_id _0rn (by omega)]
theorem bk_22 (rd:Int) (_0rd:0≤rd) (_1rd:rd≤7) (rn:Int) (_0rn:0≤rn) (_1rn:rn≤7):dNarrow [false,true,true,true,false,false,false,false,false,false,bI rn 2,bI rn 1,bI rn 0,bI rd 2,bI rd 1,bI rd 0]=some (22,rd,rn,0,0,0,0,false,()):=by
 have e:dNarrow [false,true,true,true,false,false,false,false,false,false,bI rn 2,bI rn 1,bI rn 0,bI rd 2,bI rd 1,bI rd 0]=some (22,H (bis rd 3),H (bis rn 3),0,0,0,0,false,()):=by kernel_rfl
 have p:((2 ^ 3:Nat):Int)=8:=rfl
 rw[e,H_bis_id _0rd (by omega),H_bis_id _0rn (by omega)]
theorem bk_23 (rn:Int) (_0rn:0≤rn) (_1rn:rn≤7) (rm:Int) (_0rm:0≤rm) (_1rm:rm≤7):dNarrow [false,true,false,false,false,false,true,false,true,false,bI rm 2,bI rm 1,bI rm 0,bI rn 2,bI rn 1,bI rn 0]=some (23,0,rn,rm,0,0,0,false,()):=by
 have e:dNarrow [false,true,false,false,false,false,true,false,true,false,bI rm 2,bI rm 1,bI rm 0,bI rn 2,bI rn 1,bI rn 0]=some (23,0,H (bis rn 3),H (bis rm 3),0,0,0,false,()):=by kernel_rfl
 have p:((2 ^ 3:Nat):Int)=8:=rfl
 rw[e,H_bis_id _0rn (by omega),H_bis_id _0rm (by omega)]
theorem bk_24 (imm:Int) (h:imm % 2=0) (h1:-2048≤imm) (h2:imm≤2046):dNarrow [true,true,true,false,false,bI imm 11,bI imm 10,bI imm 9,bI imm 8,bI imm 7,bI imm 6,bI imm 5,bI imm 4,bI imm 3,bI imm 2,bI imm 1]=some (24,0,0,0,0,imm,0,false,()):=by
 have e:dNarrow [true,true,true,false,false,bI imm 11,bI imm 10,bI imm 9,bI imm 8,bI imm 7,bI imm 6,bI imm 5,bI imm 4,bI imm 3,bI imm 2,bI imm 1]=some (24,0,0,0,0,SG [bI imm 11,bI imm 10,bI imm 9,bI imm 8,bI imm 7,bI imm 6,bI imm 5,bI imm 4,bI imm 3,bI imm 2,bI imm 1,false],0,false,()):=by kernel_rfl
 have p:((2 ^ 11:Nat):Int)=2048:=rfl
 have e2:SG [bI imm 11,bI imm 10,bI imm 9,bI imm 8,bI imm 7,bI imm 6,bI imm 5,bI imm 4,bI imm 3,bI imm 2,bI imm 1,false]=imm:=by rw[←even_bit h];exact SG_bis imm 11 (by omega) (by omega)
 rw[e,e2]
theorem bk_24w (imm:Int) (h:imm % 2=0) (h1:-16777216≤imm) (h2:imm≤16777214):dLong [true,true,true,true,false,bI imm 24,bI imm 21,bI imm 20,bI imm 19,bI imm 18,bI imm 17,bI imm 16,bI imm 15,bI imm 14,bI imm 13,bI imm 12] [true,false,!(bI imm 23 ^^ bI imm 24),true,!(bI imm 22 ^^ bI imm 24),bI imm 11,bI imm 10,bI imm 9,bI imm 8,bI imm 7,bI imm 6,bI imm 5,bI imm 4,bI imm 3,bI imm 2,bI imm 1]=some (24,0,0,0,0,imm,0,true,()):=by
 have nThree:dThree [true,true,true,true,false,bI imm 24,bI imm 21,bI imm 20,bI imm 19,bI imm 18,bI imm 17,bI imm 16,bI imm 15,bI imm 14,bI imm 13,bI imm 12] [true,false,!(bI imm 23 ^^ bI imm 24),true,!(bI imm 22 ^^ bI imm 24),bI imm 11,bI imm 10,bI imm 9,bI imm 8,bI imm 7,bI imm 6,bI imm 5,bI imm 4,bI imm 3,bI imm 2,bI imm 1]=none:=by kernel_rfl
 have nProduct:dProduct [true,true,true,true,false,bI imm 24,bI imm 21,bI imm 20,bI imm 19,bI imm 18,bI imm 17,bI imm 16,bI imm 15,bI imm 14,bI imm 13,bI imm 12] [true,false,!(bI imm 23 ^^ bI imm 24),true,!(bI imm 22 ^^ bI imm 24),bI imm 11,bI imm 10,bI imm 9,bI imm 8,bI imm 7,bI imm 6,bI imm 5,bI imm 4,bI imm 3,bI imm 2,bI imm 1]=none:=by
  have e:dProduct [true,true,true,true,false,bI imm 24,bI imm 21,bI imm 20,bI imm 19,bI imm 18,bI imm 17,bI imm 16,bI imm 15,bI imm 14,bI imm 13,bI imm 12] [true,false,!(bI imm 23 ^^ bI imm 24),true,!(bI imm 22 ^^ bI imm 24),bI imm 11,bI imm 10,bI imm 9,bI imm 8,bI imm 7,bI imm 6,bI imm 5,bI imm 4,bI imm 3,bI imm 2,bI imm 1]=(bif !eqC (sl [true,false,!(bI imm 23 ^^ bI imm 24),true,!(bI imm 22 ^^ bI imm 24),bI imm 11,bI imm 10,bI imm 9,bI imm 8,bI imm 7,bI imm 6,bI imm 5,bI imm 4,bI imm 3,bI imm 2,bI imm 1] 4 4) 0 then none else none):=by kernel_rfl
  rw[e];exact Bool.cond_self _ _
 have nPlain:dPlain [true,true,true,true,false,bI imm 24,bI imm 21,bI imm 20,bI imm 19,bI imm 18,bI imm 17,bI imm 16,bI imm 15,bI imm 14,bI imm 13,bI imm 12] [true,false,!(bI imm 23 ^^ bI imm 24),true,!(bI imm 22 ^^ bI imm 24),bI imm 11,bI imm 10,bI imm 9,bI imm 8,bI imm 7,bI imm 6,bI imm 5,bI imm 4,bI imm 3,bI imm 2,bI imm 1]=none:=by kernel_rfl
 have e:dBranch [true,true,true,true,false,bI imm 24,bI imm 21,bI imm 20,bI imm 19,bI imm 18,bI imm 17,bI imm 16,bI imm 15,bI imm 14,bI imm 13,bI imm 12] [true,false,!(bI imm 23 ^^ bI imm 24),true,!(bI imm 22 ^^ bI imm 24),bI imm 11,bI imm 10,bI imm 9,bI imm 8,bI imm 7,bI imm 6,bI imm 5,bI imm 4,bI imm 3,bI imm 2,bI imm 1]=some (24,0,0,0,0,SG [bI imm 24,!(!(bI imm 23 ^^ bI imm 24) ^^ bI imm 24),!(!(bI imm 22 ^^ bI imm 24) ^^ bI imm 24),bI imm 21,bI imm 20,bI imm 19,bI imm 18,bI imm 17,bI imm 16,bI imm 15,bI imm 14,bI imm 13,bI imm 12,bI imm 11,bI imm 10,bI imm 9,bI imm 8,bI imm 7,bI imm 6,bI imm 5,bI imm 4,bI imm 3,bI imm 2,bI imm 1,false],0,true,()):=by kernel_rfl
 have p:((2 ^ 24:Nat):Int)=16777216:=rfl
 have x1:∀a b:Bool,(!(!(a ^^ b) ^^ b))=a:=by decide
 have e2:SG [bI imm 24,bI imm 23,bI imm 22,bI imm 21,bI imm 20,bI imm 19,bI imm 18,bI imm 17,bI imm 16,bI imm 15,bI imm 14,bI imm 13,bI imm 12,bI imm 11,bI imm 10,bI imm 9,bI imm 8,bI imm 7,bI imm 6,bI imm 5,bI imm 4,bI imm 3,bI imm 2,bI imm 1,false]=imm:=by rw[←even_bit h];exact SG_bis imm 24 (by omega) (by omega)
 unfold dLong
 rw[nThree,nProduct,nPlain,e,x1,x1,e2]
 rfl
theorem bk_25 (imm:Int) (h:imm % 2=0) (h1:-256≤imm) (h2:imm≤254) (cond:Int) (c0:0≤cond) (c1:cond≤13):dNarrow [true,true,false,true,bI cond 3,bI cond 2,bI cond 1,bI cond 0,bI imm 8,bI imm 7,bI imm 6,bI imm 5,bI imm 4,bI imm 3,bI imm 2,bI imm 1]=some (25,0,0,0,0,imm,cond,false,()):=by
 have e:dNarrow [true,true,false,true,bI cond 3,bI cond 2,bI cond 1,bI cond 0,bI imm 8,bI imm 7,bI imm 6,bI imm 5,bI imm 4,bI imm 3,bI imm 2,bI imm 1]=(bif decide (H (bis cond 4)≤13) then some (25,0,0,0,0,SG [bI imm 8,bI imm 7,bI imm 6,bI imm 5,bI imm 4,bI imm 3,bI imm 2,bI imm 1,false],H (bis cond 4),false,()) else none):=by kernel_rfl
 have p:((2 ^ 8:Nat):Int)=256:=rfl
 have q:((2 ^ 4:Nat):Int)=16:=rfl
 have e2:SG [bI imm 8,bI imm 7,bI imm 6,bI imm 5,bI imm 4,bI imm 3,bI imm 2,bI imm 1,false]=imm:=by rw[←even_bit h];exact SG_bis imm 8 (by omega) (by omega)
 rw[e,e2,H_bis_id c0 (by omega),dec_true c1]
 rfl
theorem bk_25w (imm:Int) (h:imm % 2=0) (h1:-1048576≤imm) (h2:imm≤1048574) (cond:Int) (c0:0≤cond) (c1:cond≤13):dLong [true,true,true,true,false,bI imm 20,bI cond 3,bI cond 2,bI cond 1,bI cond 0,bI imm 17,bI imm 16,bI imm 15,bI imm 14,bI imm 13,bI imm 12] [true,false,bI imm 18,false,bI imm 19,bI imm 11,bI imm 10,bI imm 9,bI imm 8,bI imm 7,bI imm 6,bI imm 5,bI imm 4,bI imm 3,bI imm 2,bI imm 1]=some (25,0,0,0,0,imm,cond,true,()):=by
 have nThree:dThree [true,true,true,true,false,bI imm 20,bI cond 3,bI cond 2,bI cond 1,bI cond 0,bI imm 17,bI imm 16,bI imm 15,bI imm 14,bI imm 13,bI imm 12] [true,false,bI imm 18,false,bI imm 19,bI imm 11,bI imm 10,bI imm 9,bI imm 8,bI imm 7,bI imm 6,bI imm 5,bI imm 4,bI imm 3,bI imm 2,bI imm 1]=none:=by kernel_rfl
 have nProduct:dProduct [true,true,true,true,false,bI imm 20,bI cond 3,bI cond 2,bI cond 1,bI cond 0,bI imm 17,bI imm 16,bI imm 15,bI imm 14,bI imm 13,bI imm 12] [true,false,bI imm 18,false,bI imm 19,bI imm 11,bI imm 10,bI imm 9,bI imm 8,bI imm 7,bI imm 6,bI imm 5,bI imm 4,bI imm 3,bI imm 2,bI imm 1]=none:=by
  have e:dProduct [true,true,true,true,false,bI imm 20,bI cond 3,bI cond 2,bI cond 1,bI cond 0,bI imm 17,bI imm 16,bI imm 15,bI imm 14,bI imm 13,bI imm 12] [true,false,bI imm 18,false,bI imm 19,bI imm 11,bI imm 10,bI imm 9,bI imm 8,bI imm 7,bI imm 6,bI imm 5,bI imm 4,bI imm 3,bI imm 2,bI imm 1]=(bif !eqC (sl [true,false,bI imm 18,false,bI imm 19,bI imm 11,bI imm 10,bI imm 9,bI imm 8,bI imm 7,bI imm 6,bI imm 5,bI imm 4,bI imm 3,bI imm 2,bI imm 1] 4 4) 0 then none else none):=by kernel_rfl
  rw[e];exact Bool.cond_self _ _
 have nPlain:dPlain [true,true,true,true,false,bI imm 20,bI cond 3,bI cond 2,bI cond 1,bI cond 0,bI imm 17,bI imm 16,bI imm 15,bI imm 14,bI imm 13,bI imm 12] [true,false,bI imm 18,false,bI imm 19,bI imm 11,bI imm 10,bI imm 9,bI imm 8,bI imm 7,bI imm 6,bI imm 5,bI imm 4,bI imm 3,bI imm 2,bI imm 1]=none:=by kernel_rfl
 have e:dBranch [true,true,true,true,false,bI imm 20,bI cond 3,bI cond 2,bI cond 1,bI cond 0,bI imm 17,bI imm 16,bI imm 15,bI imm 14,bI imm 13,bI imm 12] [true,false,bI imm 18,false,bI imm 19,bI imm 11,bI imm 10,bI imm 9,bI imm 8,bI imm 7,bI imm 6,bI imm 5,bI imm 4,bI imm 3,bI imm 2,bI imm 1]=(bif decide (H (bis cond 4)≤13) then some (25,0,0,0,0,SG [bI imm 20,bI imm 19,bI imm 18,bI imm 17,bI imm 16,bI imm 15,bI imm 14,bI imm 13,bI imm 12,bI imm 11,bI imm 10,bI imm 9,bI imm 8,bI imm 7,bI imm 6,bI imm 5,bI imm 4,bI imm 3,bI imm 2,bI imm 1,false],H (bis cond 4),true,()) else none):=by kernel_rfl
 have p:((2 ^ 20:Nat):Int)=1048576:=rfl
 have q:((2 ^ 4:Nat):Int)=16:=rfl
 have e2:SG [bI imm 20,bI imm 19,bI imm 18,bI imm 17,bI imm 16,bI imm 15,bI imm 14,bI imm 13,bI imm 12,bI imm 11,bI imm 10,bI imm 9,bI imm 8,bI imm 7,bI imm 6,bI imm 5,bI imm 4,bI imm 3,bI imm 2,bI imm 1,false]=imm:=by rw[←even_bit h];exact SG_bis imm 20 (by omega) (by omega)
 unfold dLong
 rw[nThree,nProduct,nPlain,e,e2,H_bis_id c0 (by omega),dec_true c1]
 rfl
end Go.Av
end
section
namespace Go.Av
open Go
structure Rd where
 x:Bool
 y:Bool
 t:Bool
 d:List Bool
 n:List Bool
 m:List Bool
 a:List Bool
 c:List Bool
 w:List Bool
 imm:List (Nat×Bool)
def Rd.zero:Rd:=⟨false,false,false,[],[],[],[],[],[],[]⟩
def isBig (c:UInt8):Bool:=Nat.ble 65 c.toNat&&Nat.ble c.toNat 89
def Rd.step (s:Rd) (c:UInt8) (b:Bool):Rd where
 x:=bif c==120 then b else s.x
 y:=bif c==121 then b else s.y
 t:=bif c==89 then b else s.t
 d:=bif c==100 then s.d++[b] else s.d
 n:=bif c==110 then s.n++[b] else s.n
 m:=bif c==109 then s.m++[b] else s.m
 a:=bif c==97 then s.a++[b] else s.a
 c:=bif c==99 then s.c++[b] else s.c
 w:=bif c==119 then s.w++[b] else s.w
 imm:=bif isBig c then s.imm++[(c.toNat-65,b)] else s.imm
end Go.Av
end
section
namespace Go.Av
open Go
abbrev bw (n a b:Int):Bool:=decide (a≤n)&&decide (n≤b)
def okB (op rd rn rm ra imm cond:Int) (w:Bool):Bool :=
 bif op==24 then(rd==0&&(rn==0&&(rm==0&&(ra==0&&(cond==0&&(imm % 2==0&&bif w then bw imm (-16777216) 16777214 else bw imm (-2048) 2046))))))
 else bif op==25 then(rd==0&&(rn==0&&(rm==0&&(ra==0&&(bw cond 0 13&&(imm % 2==0&&bif w then bw imm (-1048576) 1048574 else bw imm (-256) 254))))))
 else(!w&&(cond==0&&(
  bif op==1 then(rd==0&&(rn==0&&(rm==0&&(ra==0&&imm==0))))
  else bif op==2 then(rd==0&&(rn==0&&(rm==0&&(ra==0&&bw imm 0 255))))
  else bif op==3||op==4 then(bw rd 0 12&&(rn==0&&(rm==0&&(ra==0&&bw imm 0 65535))))
  else bif op==5 then(bw rd 0 12&&(rn==0&&(bw rm 0 12&&(ra==0&&bw imm 0 31))))
  else bif op==6||(op==7||op==8) then(bw rd 0 12&&(rn==0&&(bw rm 0 12&&(ra==0&&bw imm 1 31))))
  else bif op==9 then(bw rd 0 12&&(rn==0&&(bw rm 0 12&&(ra==0&&imm==0))))
  else bif op==17 then(bw rd 0 12&&(bw rn 0 12&&(bw rm 0 12&&(bw ra 0 12&&(imm==0&&ra != rd)))))
  else bif op==18 then(bw rd 0 12&&(bw rn 0 12&&(rm==0&&(bw imm 0 31&&bw ra 1 (32-imm)))))
  else bif op==23 then(rd==0&&(bw rn 0 7&&(bw rm 0 7&&(ra==0&&imm==0))))
  else bif op==19||(op==20||(op==21||op==22)) then(bw rd 0 7&&(bw rn 0 7&&(rm==0&&(ra==0&&imm==0))))
  else bif bw op 10 16 then(bw rd 0 12&&(bw rn 0 12&&(bw rm 0 12&&(ra==0&&imm==0))))
  else false)))
theorem wrap_c:IntKind.i64.wrap (-16777216)=-16777216:=rfl
theorem wrap_d:IntKind.i64.wrap 16777214=16777214:=rfl
theorem wrap_e:IntKind.i64.wrap (-2048)=-2048:=rfl
theorem wrap_f:IntKind.i64.wrap 2046=2046:=rfl
theorem wrap_g:IntKind.i64.wrap (-256)=-256:=rfl
theorem wrap_h:IntKind.i64.wrap 254=254:=rfl
set_option maxHeartbeats 2000000 in
theorem check_iff (op rd rn rm ra imm cond:Int) (w:Bool):qd (op,rd,rn,rm,ra,imm,cond,w,())=0↔okB op rd rn rm ra imm cond w=true:=by
 have hw:=left_same imm
 have hb:=band_one imm
 rcases op_cases op with rfl |rfl |rfl |rfl |rfl |rfl |rfl |rfl |rfl |rfl |rfl |rfl |rfl |rfl |rfl |rfl |rfl |rfl |rfl |rfl |rfl |rfl |rfl |rfl |rfl |hop
 case inr.inr.inr.inr.inr.inr.inr.inr.inr.inr.inr.inr.inr.inr.inr.inr.inr.inr.inr.inr.inr.inr.inr.inr.inr =>
  have e:=fun k hk=>op_none (n:=op) (k:=k) hop hk
  have e2:bw op 10 16=false:=by unfold bw;rw[Bool.and_eq_false_iff,decide_eq_false_iff_not,decide_eq_false_iff_not];omega
  simp[qd,qX,qE,q8,PO.getO,PO.val,e,okB,e2]
 all_goals cases w
 all_goals
  simp[okB,qd,qX,qE,q8,qbf,qcG,qV,qbD,PO.getO,PO.val,qcO,qcP,qQ,qc8,wrap_a,wrap_b,wrap_c,wrap_d,wrap_e,wrap_f,wrap_g,wrap_h,hb,w64]
  try simp only[bad2,bad6,Bool.or_eq_false_iff,Bool.not_eq_false',decide_eq_true_eq,bne_eq_false_iff_eq,beq_iff_eq]
  try grind
end Go.Av
end
