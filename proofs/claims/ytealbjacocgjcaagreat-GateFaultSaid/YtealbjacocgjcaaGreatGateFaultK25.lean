/- Texts of the proof, one behind the other. -/
import Derived.Test.YtealbjacocgjcaaGreatGateFaultK24
section
namespace Go.Av
open Go
abbrev tI:Ty:=.int .i64
theorem qK {p:Prop} [Decidable p] (h:p):decide p=true:=decide_eq_true h
theorem qC {p:Prop} [Decidable p] (h:¬p):decide p=false:=decide_eq_false h
theorem qu {n:Int} (h1:-9223372036854775808≤n) (h2:n<9223372036854775808):w64 n=n:=wrap_i64 n h1 (by omega)
theorem inR {i n:Nat} (h:i<n):inRange (i:Int) n=true:=by
 simp[inRange]
 omega
theorem qdJ {σ:Type} {turn:σ→PO (TL σ)} (st:Nat→σ) (r:Nat×σ) {n:Nat} (hon:∀i,i<n→(turn (st i)).val=some (.on (st (i+1)))) (hout:(turn (st n)).val=some (.out r.1 r.2)) :
  ∀(k i:Nat),i+k=n→∀f,k<f→qeK turn f (st i)=some r
 |0,i,h,f,hf=>by
  obtain⟨f,rfl⟩:∃g,f=g+1:=⟨f-1,by omega⟩
  have:i=n:=by omega
  subst this
  rw[qb6 hout]
 |k+1,i,h,f,hf=>by
  obtain⟨f,rfl⟩:∃g,f=g+1:=⟨f-1,by omega⟩
  have hv:=hon i (by omega)
  rw[qeQ hv]
  exact qdJ st r hon hout k (i+1) (by omega) f (by omega)
theorem qj3 {α:Type} (l:List α) (i:Nat) (d:α):l.getD (Int.toNat (i:Int)) d=l.getD i d:=by simp
theorem qet {α:Type} (l:List α) (d:α) {i:Nat} (hi:i<l.length):l.getD i d=l[i]:=by
 rw[List.getD_eq_getElem?_getD,List.getElem?_eq_getElem hi];rfl
theorem qLH (n:Int):w64 n=if 9223372036854775808≤n % 18446744073709551616 then n % 18446744073709551616-18446744073709551616 else n % 18446744073709551616:=by
 have h:w64 n=if(true&&decide (n % 18446744073709551616≥9223372036854775808))=true then n % 18446744073709551616-18446744073709551616 else n % 18446744073709551616:=rfl
 rw[h]
 simp only[Bool.true_and,decide_eq_true_eq,ge_iff_le]
theorem qQd (n:Int):IntKind.i32.wrap n=if 2147483648≤n % 4294967296 then n % 4294967296-4294967296 else n % 4294967296:=by
 have h:IntKind.i32.wrap n=if(true&&decide (n % 4294967296≥2147483648))=true then n % 4294967296-4294967296 else n % 4294967296:=rfl
 rw[h]
 simp only[Bool.true_and,decide_eq_true_eq,ge_iff_le]
theorem qe {α:Type} {b:Bool} {p q:PO α} (h:b=true):(PO.ite b p q).val=p.val:=by subst h;rfl
theorem qB {α:Type} {b:Bool} {p q:PO α} (h:b=false):(PO.ite b p q).val=q.val:=by subst h;rfl
theorem qcP {α β:Type} {o:Option β} {r:β} {k:β→PO α} (h:o=some r):(PO.opt o k).val=(k r).val:=by subst h;rfl
end Go.Av
end
section
namespace Go.Av
open Go
abbrev qjC:List Ty:=[(.int .i64),(.int .i64),(.int .i64)]
abbrev ql2:Sh:=Sh.ty Ty.bool
def qdC (x:qd qjC):PO (Sh.den ql2) :=
 (.ret (decide (x.1≥x.2.1)&&decide (x.1≤x.2.2)))
def qo3 (_:qd qjC):Bool:=true
def qb3 (x:qd qjC):Sh.den ql2:=(qdC x).qH default
theorem qx5 (x:qd qjC) (_:qo3 x=true):(qdC x).val=some (qb3 x):=PO.qco default (by simp[qdC,PO.sure])
abbrev qkv:List Ty:=[(.int .i64),(.int .i64)]
abbrev qm0:Sh:=Sh.ty Ty.bool
def qfk (x:qd qkv):PO (Sh.den qm0) :=
 (.ite (x.2==-1)
  (.ret (x.1==0))
  (.ret (qb3 (x.1,0,x.2))))
def qqg (_:qd qkv):Bool:=true
def qcu (x:qd qkv):Sh.den qm0:=(qfk x).qH default
theorem qzv (x:qd qkv) (_:qqg x=true):(qfk x).val=some (qcu x):=PO.qco default (by simp[qfk,PO.sure])
abbrev qjA:List Ty:=[(.int .i64)]
abbrev qlR:Sh:=Sh.tup (Sh.pair (Sh.ty tOp) (Sh.pair (Sh.ty Ty.bool) (Sh.ty Ty.unit)))
def qcc (x:qd qjA):PO (Sh.den qlR) :=
 (.ite (x==1)
  (.ret (((-1,-1,-1,-1,0,0,()),true,())))
  (.ite (x==2)
  (.ret (((-1,-1,-1,-1,0,255,()),true,())))
  (.ite (bif x==3 then x==3 else x==4)
   (.ret (((12,-1,-1,-1,0,65535,()),true,())))
   (.ite (x==5)
   (.ret (((12,-1,12,-1,0,31,()),true,())))
   (.ite (bif x==6 then x==6 else bif x==7 then x==7 else x==8)
    (.ret (((12,-1,12,-1,1,31,()),true,())))
    (.ite (x==9)
    (.ret (((12,-1,12,-1,0,0,()),true,())))
    (.ite (bif x==10 then x==10 else bif x==11 then x==11 else bif x==12 then x==12 else bif x==13 then x==13 else bif x==14 then x==14 else bif x==15 then x==15 else x==16)
     (.ret (((12,12,12,-1,0,0,()),true,())))
     (.ite (x==17)
     (.ret (((12,12,12,12,0,0,()),true,())))
     (.ite (x==18)
      (.ret (((12,12,-1,32,0,31,()),true,())))
      (.ite (bif x==19 then x==19 else bif x==20 then x==20 else bif x==21 then x==21 else x==22)
      (.ret (((7,7,-1,-1,0,0,()),true,())))
      (.ite (x==23)
       (.ret (((-1,7,7,-1,0,0,()),true,())))
       (.ret (((0,0,0,0,0,0,()),false,()))))))))))))))
def qo5 (_:qd qjA):Bool:=true
def qbc (x:qd qjA):Sh.den qlR:=(qcc x).qH default
theorem qys (x:qd qjA) (_:qo5 x=true):(qcc x).val=some (qbc x):=PO.qco default (by simp[qcc,PO.sure])
abbrev qkc:List Ty:=[(.int .i64),.bool]
abbrev qmE:Sh:=Sh.tup (Sh.pair (Sh.ty (Ty.int IntKind.i64)) (Sh.pair (Sh.ty (Ty.int IntKind.i64)) (Sh.ty Ty.unit)))
def qf3 (x:qd qkc):PO (Sh.den qmE) :=
 (.ite (x.1==24)
  (.ret ((w64 (0-bif x.2 then 16777216 else 2048),w64 ((bif x.2 then 16777216 else 2048)-2),())))
  (.ite (x.1==25)
  (.ret ((w64 (0-bif x.2 then 1048576 else 256),w64 ((bif x.2 then 1048576 else 256)-2),())))
  (.ret ((0,0,())))))
def qqw (_:qd qkc):Bool:=true
def qbP (x:qd qkc):Sh.den qmE:=(qf3 x).qH default
theorem qzV (x:qd qkc) (_:qqw x=true):(qf3 x).val=some (qbP x):=PO.qco default (by simp[qf3,PO.sure])
abbrev qjh:List Ty:=[qA]
abbrev qlT:Sh:=Sh.ty (Ty.int IntKind.i64)
def qfw (x:qd qjh):PO (Sh.den qlT) :=
 (.ite (x.2.1 != 0||(x.2.2.1 != 0||(x.2.2.2.1 != 0||(x.2.2.2.2.1 != 0||bif x.1==24 then x.2.2.2.2.2.2.1 != 0||true else true))))
  (.ite (x.2.1 != 0||(x.2.2.1 != 0||(x.2.2.2.1 != 0||(x.2.2.2.2.1 != 0||bif x.1==24 then x.2.2.2.2.2.2.1 != 0||!qb3 (x.2.2.2.2.2.2.1,0,13) else !qb3 (x.2.2.2.2.2.2.1,0,13)))))
  (.ret (2))
  (.ite (qR IntKind.i64 x.2.2.2.2.2.1 1 != 0||true)
   (.ite (qR IntKind.i64 x.2.2.2.2.2.1 1 != 0||!qb3 (x.2.2.2.2.2.1,(qbP (x.1,x.2.2.2.2.2.2.2.1)).1,(qbP (x.1,x.2.2.2.2.2.2.2.1)).2.1))
   (.ret (6))
   (.ret (0)))
   .fail))
  .fail)
def qoZ (_:qd qjh):Bool:=true
def qft (x:qd qjh):Sh.den qlT:=(qfw x).qH default
theorem qyh (x:qd qjh) (_:qoZ x=true):(qfw x).val=some (qft x):=PO.qrm default (by simp[qfw,PO.qw5])
abbrev qko:List Ty:=[qA]
abbrev qmN:Sh:=Sh.ty (Ty.int IntKind.i64)
def qb5 (x:qd qko):PO (Sh.den qmN) :=
 (.ite (x.1==24||x.1==25)
  (.ret (qft x))
  (.ite (!(qbc x.1).2.1||(x.2.2.2.2.2.2.2.1||(x.2.2.2.2.2.2.1 != 0||true)))
  (.ite (!(qbc x.1).2.1||(x.2.2.2.2.2.2.2.1||(x.2.2.2.2.2.2.1 != 0||!qb3 (x.2.2.2.2.2.1,(qbc x.1).1.2.2.2.2.1,(qbc x.1).1.2.2.2.2.2.1))))
   (.ret (2))
   (.ite (!qcu (x.2.1,(qbc x.1).1.1)||(!qcu (x.2.2.1,(qbc x.1).1.2.1)||(!qcu (x.2.2.2.1,(qbc x.1).1.2.2.1)||true)))
   (.ite (!qcu (x.2.1,(qbc x.1).1.1)||(!qcu (x.2.2.1,(qbc x.1).1.2.1)||(!qcu (x.2.2.2.1,(qbc x.1).1.2.2.1)||!qcu (x.2.2.2.2.1,(qbc x.1).1.2.2.2.1))))
    (.ret (2))
    (.ite (bif x.1==17 then x.2.2.2.2.1==x.2.1||(x.1==18||true) else x.1==18||true)
    (.ite (bif x.1==17 then x.2.2.2.2.1==x.2.1||x.1==18&&!qb3 (x.2.2.2.2.1,1,w64 (32-x.2.2.2.2.2.1)) else x.1==18&&!qb3 (x.2.2.2.2.1,1,w64 (32-x.2.2.2.2.2.1)))
     (.ret (2))
     (.ret (0)))
    .fail))
   .fail))
  .fail))
def qqA (_:qd qko):Bool:=true
def qf (x:qd qko):Sh.den qmN:=(qb5 x).qH default
theorem qzj (x:qd qko) (_:qqA x=true):(qb5 x).val=some (qf x):=PO.qrm default (by simp[qb5,PO.qw5])
end Go.Av
end
section
namespace Go.Av
open Go
abbrev qoQ:List Ty:=[(.int .i64)]
abbrev qoP:Sh:=Sh.ty Ty.str
def qkM (x:qd qoQ):PO (Sh.den qoP) :=
 (.ite (x==13)
  (.ret ([49,49,49,48,49,48,49,48,49,48,48,48,110,110,110,110,48,48,48,48,100,100,100,100,48,48,48,48,109,109,109,109]))
  (.ite (x==14)
  (.ret ([49,49,49,48,49,48,49,49,48,48,48,48,110,110,110,110,48,48,48,48,100,100,100,100,48,48,48,48,109,109,109,109]))
  (.ite (x==15)
   (.ret ([49,49,49,48,49,48,49,49,49,48,49,48,110,110,110,110,48,48,48,48,100,100,100,100,48,48,48,48,109,109,109,109]))
   (.ite (x==16)
   (.ret ([49,49,49,49,49,48,49,49,48,48,48,48,110,110,110,110,49,49,49,49,100,100,100,100,48,48,48,48,109,109,109,109]))
   (.ite (x==17)
    (.ret ([49,49,49,49,49,48,49,49,49,48,49,48,110,110,110,110,100,100,100,100,97,97,97,97,48,48,48,48,109,109,109,109]))
    (.ite (x==18)
    (.ret ([49,49,49,49,48,48,49,49,48,49,49,48,110,110,110,110,48,69,68,67,100,100,100,100,66,65,48,119,119,119,119,119]))
    (.ite (x==19)
     (.ret ([48,49,49,48,49,48,48,48,48,48,110,110,110,100,100,100]))
     (.ite (x==20)
     (.ret ([48,49,49,48,48,48,48,48,48,48,110,110,110,100,100,100]))
     (.ite (x==21)
      (.ret ([48,49,49,49,49,48,48,48,48,48,110,110,110,100,100,100]))
      (.ite (x==22)
      (.ret ([48,49,49,49,48,48,48,48,48,48,110,110,110,100,100,100]))
      (.ite (x==23)
       (.ret ([48,49,48,48,48,48,49,48,49,48,109,109,109,110,110,110]))
       (.ite (x==24)
       (.ret ([49,49,49,48,48,76,75,74,73,72,71,70,69,68,67,66]))
       (.ite (x==25)
        (.ret ([49,49,48,49,99,99,99,99,73,72,71,70,69,68,67,66]))
        (.ret ([])))))))))))))))
def qkO (x:qd qoQ):Sh.den qoP:=(qkM x).qH default
abbrev qoR:List Ty:=[(.int .i64),.bool]
abbrev qoO:Sh:=Sh.ty Ty.str
def qkP (x:qd qoR):PO (Sh.den qoO) :=
 (.ite (x.2)
  (.ite (x.1==24)
  (.ret ([49,49,49,49,48,89,86,85,84,83,82,81,80,79,78,77,49,48,120,49,121,76,75,74,73,72,71,70,69,68,67,66]))
  (.ite (x.1==25)
   (.ret ([49,49,49,49,48,85,99,99,99,99,82,81,80,79,78,77,49,48,83,48,84,76,75,74,73,72,71,70,69,68,67,66]))
   (.ret ([]))))
  (.ite (x.1==1)
  (.ret ([49,48,49,49,49,49,49,49,48,48,48,48,48,48,48,48]))
  (.ite (x.1==2)
   (.ret ([49,48,49,49,49,49,49,48,72,71,70,69,68,67,66,65]))
   (.ite (x.1==3)
   (.ret ([49,49,49,49,48,76,49,48,48,49,48,48,80,79,78,77,48,75,74,73,100,100,100,100,72,71,70,69,68,67,66,65]))
   (.ite (x.1==4)
    (.ret ([49,49,49,49,48,76,49,48,49,49,48,48,80,79,78,77,48,75,74,73,100,100,100,100,72,71,70,69,68,67,66,65]))
    (.ite (x.1==5)
    (.ret ([49,49,49,48,49,48,49,48,48,49,48,48,49,49,49,49,48,69,68,67,100,100,100,100,66,65,48,48,109,109,109,109]))
    (.ite (x.1==6)
     (.ret ([49,49,49,48,49,48,49,48,48,49,48,48,49,49,49,49,48,69,68,67,100,100,100,100,66,65,48,49,109,109,109,109]))
     (.ite (x.1==7)
     (.ret ([49,49,49,48,49,48,49,48,48,49,48,48,49,49,49,49,48,69,68,67,100,100,100,100,66,65,49,48,109,109,109,109]))
     (.ite (x.1==8)
      (.ret ([49,49,49,48,49,48,49,48,48,49,48,48,49,49,49,49,48,69,68,67,100,100,100,100,66,65,49,49,109,109,109,109]))
      (.ite (x.1==9)
      (.ret ([49,49,49,48,49,48,49,48,48,49,49,48,49,49,49,49,48,48,48,48,100,100,100,100,48,48,48,48,109,109,109,109]))
      (.ite (x.1==10)
       (.ret ([49,49,49,48,49,48,49,48,48,48,48,48,110,110,110,110,48,48,48,48,100,100,100,100,48,48,48,48,109,109,109,109]))
       (.ite (x.1==11)
       (.ret ([49,49,49,48,49,48,49,48,48,48,49,48,110,110,110,110,48,48,48,48,100,100,100,100,48,48,48,48,109,109,109,109]))
       (.ite (x.1==12)
        (.ret ([49,49,49,48,49,48,49,48,48,49,48,48,110,110,110,110,48,48,48,48,100,100,100,100,48,48,48,48,109,109,109,109]))
        (.ret (qkO x.1)))))))))))))))
def qm (x:qd qoR):Sh.den qoO:=(qkP x).qH default
abbrev qpW:List Ty:=[.str,(.int .u8)]
abbrev qvz:Sh:=Sh.ty Ty.bool
def qpR (x:qd qpW):Bool:=decide (List.length x.1<4611686018427387904)
def qqd (x:qd qpW):Sh.den qvz:=List.any x.1 fun b=>u8I b==x.2
abbrev qlj:List Ty:=[.str,(.int .u8),(.int .i64)]
abbrev qp4:Sh:=Sh.ty Ty.bool
def qio (x:qd qlj):PO (Sh.den qp4) :=
 (.ite (qpR (x.1,x.2.1))
  (.ite (!qqd (x.1,x.2.1))
  (.ret (x.2.2==0))
  (.ret (decide (x.2.2≥0)&&decide (x.2.2≤bif qi x.1==16 then 7 else 12))))
  .fail)
def qfr (x:qd qlj):Bool:=(qio x).val.isSome
def qcU (x:qd qlj):Sh.den qp4:=(qio x).qH default
abbrev qoa:List Ty:=[(.int .i64),.bool]
abbrev qok:Sh:=Sh.tup (Sh.pair (Sh.ty (Ty.int IntKind.i64)) (Sh.pair (Sh.ty (Ty.int IntKind.i64)) (Sh.ty Ty.unit)))
def qoC (x:qd qoa):PO (Sh.den qok) :=
 (.ret ((w64 (0-bif x.1==24&&!x.2 then 2048 else bif x.1==24 then 16777216 else bif x.1==25&&!x.2 then 256 else bif x.1==25 then 1048576 else 0),imax 0 (w64 ((bif x.1==24&&!x.2 then 2048 else bif x.1==24 then 16777216 else bif x.1==25&&!x.2 then 256 else bif x.1==25 then 1048576 else 0)-2)),())))
def qfK (x:qd qoa):Sh.den qok:=(qoC x).qH default
abbrev qnq:List Ty:=[qA]
abbrev qnC:Sh:=Sh.ty Ty.bool
def qnp (x:qd qnq):PO (Sh.den qnC) :=
 (.ite (x.1==2)
  (.ret (decide (x.2.2.2.2.2.1≥0)&&decide (x.2.2.2.2.2.1≤255)))
  (.ite (bif x.1==3 then x.1==3 else x.1==4)
  (.ret (decide (x.2.2.2.2.2.1≥0)&&decide (x.2.2.2.2.2.1≤65535)))
  (.ite (bif x.1==5 then x.1==5 else x.1==18)
   (.ret (decide (x.2.2.2.2.2.1≥0)&&decide (x.2.2.2.2.2.1≤31)))
   (.ite (bif x.1==6 then x.1==6 else bif x.1==7 then x.1==7 else x.1==8)
   (.ret (decide (x.2.2.2.2.2.1≥1)&&decide (x.2.2.2.2.2.1≤31)))
   (.ite (bif x.1==24 then x.1==24 else x.1==25)
    (.ret (true))
    (.ret (decide (x.2.2.2.2.2.1≥0)&&decide (x.2.2.2.2.2.1≤0))))))))
def qjl (x:qd qnq):Sh.den qnC:=(qnp x).qH default
abbrev qjQ:List Ty:=[qA]
abbrev qov:Sh:=Sh.ty (Ty.int IntKind.i64)
def qhc (x:qd qjQ):PO (Sh.den qov) :=
 (.ite (qm (x.1,x.2.2.2.2.2.2.2.1)==[]||(!qjl x||qfr (qm (x.1,x.2.2.2.2.2.2.2.1),100,x.2.1)&&(!qcU (qm (x.1,x.2.2.2.2.2.2.2.1),100,x.2.1)||qfr (qm (x.1,x.2.2.2.2.2.2.2.1),110,x.2.2.1)&&(!qcU (qm (x.1,x.2.2.2.2.2.2.2.1),110,x.2.2.1)||qfr (qm (x.1,x.2.2.2.2.2.2.2.1),109,x.2.2.2.1)&&(!qcU (qm (x.1,x.2.2.2.2.2.2.2.1),109,x.2.2.2.1)||qfr (qm (x.1,x.2.2.2.2.2.2.2.1),97,bif x.1==18 then 0 else x.2.2.2.2.1))))))
  (.ite (qm (x.1,x.2.2.2.2.2.2.2.1)==[]||(!qjl x||(!qcU (qm (x.1,x.2.2.2.2.2.2.2.1),100,x.2.1)||(!qcU (qm (x.1,x.2.2.2.2.2.2.2.1),110,x.2.2.1)||(!qcU (qm (x.1,x.2.2.2.2.2.2.2.1),109,x.2.2.2.1)||!qcU (qm (x.1,x.2.2.2.2.2.2.2.1),97,bif x.1==18 then 0 else x.2.2.2.2.1))))))
  (.ret (2))
  (.ite (bif x.1==18 then decide (x.2.2.2.2.1<1)||(decide (x.2.2.2.2.1 > w64 (32-x.2.2.2.2.2.1))||x.1==17&&x.2.2.2.2.1==x.2.1) else x.1==17&&x.2.2.2.2.1==x.2.1)
   (.ret (2))
   (.ite (bif x.1==25 then decide (x.2.2.2.2.2.2.1<0)||(decide (x.2.2.2.2.2.2.1 > 13)||x.1 != 25&&x.2.2.2.2.2.2.1 != 0) else x.1 != 25&&x.2.2.2.2.2.2.1 != 0)
   (.ret (2))
   (.ite (bif x.1==24 then Int.tmod x.2.2.2.2.2.1 2 != 0||(decide (x.2.2.2.2.2.1<(qfK (x.1,x.2.2.2.2.2.2.2.1)).1)||decide (x.2.2.2.2.2.1 > (qfK (x.1,x.2.2.2.2.2.2.2.1)).2.1)) else x.1==25&&(Int.tmod x.2.2.2.2.2.1 2 != 0||(decide (x.2.2.2.2.2.1<(qfK (x.1,x.2.2.2.2.2.2.2.1)).1)||decide (x.2.2.2.2.2.1 > (qfK (x.1,x.2.2.2.2.2.2.2.1)).2.1))))
    (.ret (6))
    (.ret (0))))))
  .fail)
def qjX (x:qd qjQ):Bool:=(qhc x).val.isSome
def qht (x:qd qjQ):Sh.den qov:=(qhc x).qH default
end Go.Av
end
section
namespace Go.Av
open Go
theorem qi2 (n:Int):n=1∨n=2∨n=3∨n=4∨n=5∨n=6∨n=7∨n=8∨n=9∨n=10∨n=11∨n=12∨n=13∨n=14∨n=15∨n=16∨n=17∨n=18∨n=19∨n=20∨n=21∨n=22∨n=23∨n=24∨n=25∨(n<1∨25<n):=by omega
theorem qnv {n k:Int} (h:n<1∨25<n) (hk:1≤k∧k≤25):(n==k)=false:=by
 rw[beq_eq_false_iff_ne]
 omega
theorem qz2 {n:Int} (h:n<1∨25<n) (w:Bool):qm (n,w)=[]:=by
 have e:=fun k hk=>qnv (n:=n) (k:=k) h hk
 cases w<;>simp[qm,qkP,qkO,qkM,PO.qH,PO.val,e]
theorem qMs (n:Int) (w:Bool):(qm (n,w)).length≤32:=by
 rcases qi2 n with rfl |rfl |rfl |rfl |rfl |rfl |rfl |rfl |rfl |rfl |rfl |rfl |rfl |rfl |rfl |rfl |rfl |rfl |rfl |rfl |rfl |rfl |rfl |rfl |rfl |h
 case inr.inr.inr.inr.inr.inr.inr.inr.inr.inr.inr.inr.inr.inr.inr.inr.inr.inr.inr.inr.inr.inr.inr.inr.inr=>rw[qz2 h];simp
 all_goals (cases w<;>decide)
theorem qP0 (n:Int) (w:Bool) (c:Int):qpR (qm (n,w),c)=true:=by
 have:=qMs n w
 exact qK (show List.length (qm (n,w))<_ by omega)
theorem qGD (n:Int) (w:Bool) (c r:Int):(qio (qm (n,w),c,r)).val=some (bif List.any (qm (n,w)) (fun b=>u8I b==c) then decide (r≥0)&&decide (r≤bif (qi (qm (n,w))==16) then 7 else 12) else r==0):=by
 simp only[qio,PO.val,qqd]
 rw[qP0]
 cases List.any (qm (n,w)) (fun b=>u8I b==c)<;>rfl
theorem qpT (n:Int) (w:Bool) (c r:Int):qfr (qm (n,w),c,r)=true:=by
 rw[qfr,qGD];rfl
theorem qxD (n:Int) (w:Bool) (c r:Int):qcU (qm (n,w),c,r)=(bif List.any (qm (n,w)) (fun b=>u8I b==c) then decide (r≥0)&&decide (r≤bif (qi (qm (n,w))==16) then 7 else 12) else r==0):=by
 rw[qcU,PO.qH,qGD];rfl
theorem qJI {α:Type} (b:Bool) (x y:Option α) (hx:x.isSome=true) (hy:y.isSome=true):(bif b then x else y).isSome=true:=by
 cases b<;>assumption
theorem qBB (x:qA.den):qjX x=true:=by
 obtain⟨op,rd,rn,rm,ra,imm,cond,w,u⟩:=x
 unfold qjX qhc
 simp only[PO.val]
 rw[qpT,qpT,qpT,qpT]
 simp only[Bool.or_true,Bool.and_true,cond_true]
 repeat' (first|rfl |apply qJI)
theorem qDD (n:Int):(qR .i64 n 1 != 0)=(Int.tmod n 2 != 0):=by
 have h:qR .i64 n 1=n % 2:=qiR n 1 (by omega)
 rw[h,Bool.eq_iff_iff]
 simp only[bne_iff_ne,ne_eq]
 exact not_congr ((Int.dvd_iff_emod_eq_zero (a:=2) (b:=n)).symm.trans Int.dvd_iff_tmod_eq_zero)
theorem qp1 (imm:Int) (h1:0≤imm) (h2:imm≤31):w64 (32-imm)=32-imm:=qu (by omega) (by omega)
set_option maxHeartbeats 4000000 in
theorem qym (x:qA.den):qf x=qht x:=by
 obtain⟨op,rd,rn,rm,ra,imm,cond,w,u⟩:=x
 have hw:=qp1 imm
 have w1:w64 (-2048)=-2048:=rfl
 have w2:w64 2046=2046:=rfl
 have w3:w64 (-16777216)=-16777216:=rfl
 have w4:w64 16777214=16777214:=rfl
 have w5:w64 (-256)=-256:=rfl
 have w6:w64 254=254:=rfl
 have w7:w64 (-1048576)=-1048576:=rfl
 have w8:w64 1048574=1048574:=rfl
 have m1:imax 0 2046=2046:=rfl
 have m2:imax 0 16777214=16777214:=rfl
 have m3:imax 0 254=254:=rfl
 have m4:imax 0 1048574=1048574:=rfl
 unfold qht qhc
 dsimp only[PO.qH,PO.val]
 rw[qpT,qpT,qpT,qpT,qxD,qxD,qxD,qxD]
 rcases qi2 op with rfl |rfl |rfl |rfl |rfl |rfl |rfl |rfl |rfl |rfl |rfl |rfl |rfl |rfl |rfl |rfl |rfl |rfl |rfl |rfl |rfl |rfl |rfl |rfl |rfl |hop
 case inr.inr.inr.inr.inr.inr.inr.inr.inr.inr.inr.inr.inr.inr.inr.inr.inr.inr.inr.inr.inr.inr.inr.inr.inr =>
  rw[qz2 hop]
  have e:=fun k hk=>qnv (n:=op) (k:=k) hop hk
  simp[qf,qb5,qbc,qcc,PO.qH,PO.val,e]
 all_goals
  cases w <;>
  simp[qm,qkP,qkO,qkM,qf,qb5,qbc,qcc,qcu,qfk,qb3,qdC,PO.qH,PO.val,qjl,qnp,u8I,qi,qft,qfw,qbP,qf3,qfK,qoC,qDD,w1,w2,w3,w4,w5,w6,w7,w8,m1,m2,m3,m4]<;>grind
end Go.Av
end
section
namespace Go.Av
open Go
def wn (n:Int):Nat:=(n % 4294967296).toNat
theorem qhO (n:Int):(wn n:Int)=n % 4294967296:=by unfold wn;omega
theorem qga (n:Int):wn n<4294967296:=by unfold wn;omega
theorem qc1 {k:Nat} (h:k<4294967296):wn (k:Int)=k:=by unfold wn;omega
theorem qvW (n:Int):wn (wn n:Int)=wn n:=qc1 (qga n)
theorem qGL (n:Int):qR .i64 n 4294967295=n % 4294967296:=qiR n 32 (by omega)
theorem qPv (n:Int):qR .i64 n 31=n % 32:=qiR n 5 (by omega)
theorem qoW (n:Int):qR .i64 n 1=n % 2:=qiR n 1 (by omega)
theorem qrh (n:Int):w64 n % 4294967296=n % 4294967296:=by
 rw[qLH];split<;>omega
theorem qtf (n:Nat):wn (w64 (n:Int))=n % 4294967296:=by unfold wn;rw[qrh];omega
theorem qiv (n:Int):(BitVec.ofInt 64 n).toNat % 4294967296=wn n:=by
 have:=qpO 64 n
 unfold wn
 omega
abbrev qmn:List Ty:=[(.int .i64)]
abbrev qpu:Sh:=Sh.ty (Ty.int IntKind.i64)
def qwF (x:qd qmn):PO (Sh.den qpu) :=
 (.ret (qR IntKind.i64 x 4294967295))
def qsL (_:qd qmn):Bool:=true
def qL (x:qd qmn):Sh.den qpu:=(wn x:Int)
theorem qB2 (x:qd qmn) (_:qsL x=true):(qwF x).val=some (qL x):=by
 show some _=some _
 rw[qGL,qL,qhO]
def kk (n:Int):Nat:=(n % 32).toNat
theorem qQF (n:Int):(kk n:Int)=n % 32:=by unfold kk;omega
theorem qv7 (n:Int):kk n<32:=by unfold kk;omega
abbrev qmz:List Ty:=[(.int .i64)]
abbrev qps:Sh:=Sh.ty (Ty.int IntKind.i64)
def qwy (x:qd qmz):PO (Sh.den qps) :=
 (.ret (qR IntKind.i64 x 31))
def qsJ (_:qd qmz):Bool:=true
def qcO (x:qd qmz):Sh.den qps:=(kk x:Int)
theorem qBy (x:qd qmz) (_:qsJ x=true):(qwy x).val=some (qcO x):=by
 show some _=some _
 rw[qPv,qcO,qQF]
abbrev qoy:List Ty:=[(.int .i64),(.int .i64)]
abbrev qqT:Sh:=Sh.ty (Ty.int IntKind.i64)
def qx8 (x:qd qoy):PO (Sh.den qqT) :=
 (.ret (qL (w64 (x.1+x.2))))
def qtF (_:qd qoy):Bool:=true
def qgx (x:qd qoy):Sh.den qqT:=(wn (x.1+x.2):Int)
theorem qFT (x:qd qoy) (_:qtF x=true):(qx8 x).val=some (qgx x):=by
 show some _=some _
 rw[qL,qgx,qhO,qhO,qrh]
abbrev qn5:List Ty:=[(.int .i64),(.int .i64)]
abbrev qqF:Sh:=Sh.ty (Ty.int IntKind.i64)
def qxG (x:qd qn5):PO (Sh.den qqF) :=
 (.ret (qL (w64 (x.1-x.2))))
def qt5 (_:qd qn5):Bool:=true
def qhh (x:qd qn5):Sh.den qqF:=(wn (x.1-x.2):Int)
theorem qEQ (x:qd qn5) (_:qt5 x=true):(qxG x).val=some (qhh x):=by
 show some _=some _
 rw[qL,qhh,qhO,qhO,qrh]
abbrev qjp:List Ty:=[(.int .i64),(.int .i64)]
abbrev qlW:Sh:=Sh.ty (Ty.int IntKind.u64)
def qtk (x:qd qjp):PO (Sh.den qlW) :=
 (.ret (IntKind.wrap IntKind.u64 (IntKind.wrap IntKind.u64 (qL x.1)*IntKind.wrap IntKind.u64 (qL x.2))))
def qo6 (_:qd qjp):Bool:=true
def qfn (x:qd qjp):Sh.den qlW:=((wn x.1*wn x.2:Nat):Int)
theorem qyF (x:qd qjp) (_:qo6 x=true):(qtk x).val=some (qfn x):=by
 show some _=some _
 have h1:=qga x.1
 have h2:=qga x.2
 have h3:wn x.1*wn x.2≤4294967295*4294967295:=Nat.mul_le_mul (by omega) (by omega)
 rw[qfn]
 simp only[qL,qC2]
 rw[Int.emod_eq_of_lt (a:=(wn x.1:Int)) (by omega) (by omega),Int.emod_eq_of_lt (a:=(wn x.2:Int)) (by omega) (by omega)]
 have e:(wn x.1:Int)*(wn x.2:Int)=((wn x.1*wn x.2:Nat):Int):=by simp
 rw[e,Int.emod_eq_of_lt (by omega) (by omega)]
theorem qNX {a b:Int} (h:a % 4294967296=b % 4294967296):wn a=wn b:=by unfold wn;rw[h]
theorem mul_lt (a b:Int):wn a*wn b≤18446744065119617025:=by
 have h1:=qga a
 have h2:=qga b
 exact Nat.mul_le_mul (show wn a≤4294967295 by omega) (show wn b≤4294967295 by omega)
theorem qlv {m:Nat} (h:m<18446744073709551616):(BitVec.ofInt 64 (m:Int)).toNat=m:=by
 have:=qpO 64 m
 omega
theorem qM6 {m:Nat} (h:m<18446744073709551616):qR .u64 (m:Int) 4294967295=((m % 4294967296:Nat):Int):=by
 show IntKind.u64.wrap (BitVec.ofInt 64 (m:Int) &&& BitVec.ofInt 64 4294967295).toNat=_
 rw[BitVec.toNat_and,qlv h,show(BitVec.ofInt 64 4294967295).toNat=2 ^ 32-1 from by decide,Nat.and_two_pow_sub_one_eq_mod,qC2]
 omega
theorem qLz (a b:Int):wn (qR .i64 a b)=wn a &&& wn b:=by
 show wn (w64 (BitVec.ofInt 64 a &&& BitVec.ofInt 64 b).toNat)=_
 rw[qtf,BitVec.toNat_and,show(4294967296:Nat)=2 ^ 32 from rfl,Nat.and_mod_two_pow,←qiv a,←qiv b]
theorem qRF (a b:Int):wn (bor .i64 a b)=wn a |||wn b:=by
 show wn (w64 (BitVec.ofInt 64 a |||BitVec.ofInt 64 b).toNat)=_
 rw[qtf,BitVec.toNat_or,show(4294967296:Nat)=2 ^ 32 from rfl,Nat.or_mod_two_pow,←qiv a,←qiv b]
theorem qI5 (a b:Int):wn (qda .i64 a b)=wn a ^^^ wn b:=by
 show wn (w64 (BitVec.ofInt 64 a ^^^ BitVec.ofInt 64 b).toNat)=_
 rw[qtf,BitVec.toNat_xor,show(4294967296:Nat)=2 ^ 32 from rfl,Nat.xor_mod_two_pow,←qiv a,←qiv b]
theorem qPQ (a:Int):wn (qgF .i64 a)=4294967295-wn a:=by
 have e:qgF .i64 a=w64 (BitVec.ofInt 64 (-1) ^^^ BitVec.ofInt 64 a).toNat:=by
  unfold qgF
  rw[if_pos (by rfl)]
  rfl
 rw[e,show BitVec.ofInt 64 (-1)=BitVec.allOnes 64 from by decide,BitVec.allOnes_xor,qtf,BitVec.toNat_not,←qiv a]
 have:=(BitVec.ofInt 64 a).isLt
 omega
theorem qOH (a b:Int):wn (qdv .i64 a b)=wn a &&& (4294967295-wn b):=by
 show wn (w64 (BitVec.ofInt 64 a &&& ~~~(BitVec.ofInt 64 b)).toNat)=_
 rw[qtf,BitVec.toNat_and,show(4294967296:Nat)=2 ^ 32 from rfl,Nat.and_mod_two_pow,BitVec.toNat_not,←qiv a,←qiv b]
 have:=(BitVec.ofInt 64 b).isLt
 congr 1
 omega
theorem qlI (a:Int) (k:Nat) (hk:k≤64):qt .i64 a (k:Int)=w64 (a*2 ^ k):=by
 unfold qt
 have:min (k:Int).toNat IntKind.i64.bits=k:=by simp[IntKind.bits];omega
 rw[this]
theorem qfO {k n:Nat} (h:k≤n):2 ^ k≤2 ^ n:=Nat.pow_le_pow_right (by omega) h
theorem qxy (a:Nat) (k:Nat) (hk:k≤64):wn (qt .i64 (a:Int) (k:Int))=a*2 ^ k % 4294967296:=by
 rw[qlI _ _ hk,show(a:Int)*2 ^ k=((a*2 ^ k:Nat):Int) by simp,qtf]
abbrev qoE:List Ty:=[(.int .i64),(.int .i64)]
abbrev qq6:Sh:=Sh.ty (Ty.int IntKind.i64)
def qy3 (x:qd qoE):PO (Sh.den qq6) :=
 (.ret (w64 (qR IntKind.u64 (qfn (x.1,x.2)) 4294967295)))
def qui (_:qd qoE):Bool:=true
def qiz (x:qd qoE):Sh.den qq6:=((wn x.1*wn x.2 % 4294967296:Nat):Int)
theorem qEr (x:qd qoE) (_:qui x=true):(qy3 x).val=some (qiz x):=by
 show some _=some _
 have h:=mul_lt x.1 x.2
 simp only[qfn,qiz]
 rw[qM6 (by omega),qu (by omega) (by omega)]
abbrev qmh:List Ty:=[(.int .i64),(.int .i64)]
abbrev qpL:Sh:=Sh.ty (Ty.int IntKind.i64)
def qwq (x:qd qmh):PO (Sh.den qpL) :=
 (.ret (w64 (qw IntKind.u64 (qfn (x.1,x.2)) 32)))
def qsB (_:qd qmh):Bool:=true
def qkB (x:qd qmh):Sh.den qpL:=((wn x.1*wn x.2 / 4294967296:Nat):Int)
theorem qB4 (x:qd qmh) (_:qsB x=true):(qwq x).val=some (qkB x):=by
 show some _=some _
 have h:=mul_lt x.1 x.2
 simp only[qfn,qkB]
 have e:qw .u64 ((wn x.1*wn x.2:Nat):Int) 32=((wn x.1*wn x.2 / 4294967296:Nat):Int):=by
  unfold qw
  rw[show min (32:Int).toNat IntKind.u64.bits=32 from rfl,Int.fdiv_eq_ediv_of_nonneg _ (by omega)]
  omega
 rw[e,qu (by omega) (by omega)]
abbrev qnN:List Ty:=[(.int .i64)]
abbrev qqG:Sh:=Sh.ty (Ty.int IntKind.i64)
def qyg (x:qd qnN):PO (Sh.den qqG) :=
 (.ret (qL (qgF IntKind.i64 x)))
def qtE (_:qd qnN):Bool:=true
def qdr (x:qd qnN):Sh.den qqG:=((4294967295-wn x:Nat):Int)
theorem qDV (x:qd qnN) (_:qtE x=true):(qyg x).val=some (qdr x):=by
 show some _=some _
 rw[qL,qdr,qPQ]
abbrev qnU:List Ty:=[(.int .i64),(.int .i64)]
abbrev qqH:Sh:=Sh.ty (Ty.int IntKind.i64)
def qx7 (x:qd qnU):PO (Sh.den qqH) :=
 (.ret (qL (qR IntKind.i64 x.1 x.2)))
def qtX (_:qd qnU):Bool:=true
def qiC (x:qd qnU):Sh.den qqH:=((wn x.1 &&& wn x.2:Nat):Int)
theorem qFS (x:qd qnU) (_:qtX x=true):(qx7 x).val=some (qiC x):=by
 show some _=some _
 rw[qL,qiC,qLz]
abbrev qp6:List Ty:=[(.int .i64),(.int .i64)]
abbrev qsb:Sh:=Sh.ty (Ty.int IntKind.i64)
def qz1 (x:qd qp6):PO (Sh.den qsb) :=
 (.ret (qL (bor IntKind.i64 x.1 x.2)))
def quO (_:qd qp6):Bool:=true
def qiK (x:qd qp6):Sh.den qsb:=((wn x.1 |||wn x.2:Nat):Int)
theorem qHK (x:qd qp6) (_:quO x=true):(qz1 x).val=some (qiK x):=by
 show some _=some _
 rw[qL,qiK,qRF]
abbrev qn0:List Ty:=[(.int .i64),(.int .i64)]
abbrev qqQ:Sh:=Sh.ty (Ty.int IntKind.i64)
def qx3 (x:qd qn0):PO (Sh.den qqQ) :=
 (.ret (qL (qda IntKind.i64 x.1 x.2)))
def qtZ (_:qd qn0):Bool:=true
def qgw (x:qd qn0):Sh.den qqQ:=((wn x.1 ^^^ wn x.2:Nat):Int)
theorem qEl (x:qd qn0) (_:qtZ x=true):(qx3 x).val=some (qgw x):=by
 show some _=some _
 rw[qL,qgw,qI5]
abbrev qop:List Ty:=[(.int .i64),(.int .i64)]
abbrev qqU:Sh:=Sh.ty (Ty.int IntKind.i64)
def qxY (x:qd qop):PO (Sh.den qqU) :=
 (.ite (!decide (qcO x.2<0)&&true)
  (.ret (qL (qt IntKind.i64 (qL x.1) (qcO x.2))))
  .fail)
def qt7 (_:qd qop):Bool:=true
def qlO (x:qd qop):Sh.den qqU:=((wn x.1*2 ^ kk x.2 % 4294967296:Nat):Int)
theorem qE4 (x:qd qop) (_:qt7 x=true):(qxY x).val=some (qlO x):=by
 obtain⟨a,n⟩:=x
 have hk:=qv7 n
 have hd:decide ((kk n:Int)<0)=false:=qC (by omega)
 show(bif !decide ((kk n:Int)<0)&&true then some ((wn (qt .i64 (wn a:Int) (kk n:Int)):Nat):Int) else none)=some ((wn a*2 ^ kk n % 4294967296:Nat):Int)
 rw[hd,qxy _ _ (by omega)]
 rfl
abbrev qnO:List Ty:=[(.int .i64),(.int .i64)]
abbrev qqX:Sh:=Sh.ty (Ty.int IntKind.i64)
def qyz (x:qd qnO):PO (Sh.den qqX) :=
 (.ite (!decide (qcO x.2<0))
  (.ret (qw IntKind.i64 (qL x.1) (qcO x.2)))
  .fail)
def qnR (_:qd qnO):Bool:=true
def qik (x:qd qnO):Sh.den qqX:=((wn x.1 / 2 ^ kk x.2:Nat):Int)
theorem qEM (x:qd qnO) (_:qnR x=true):(qyz x).val=some (qik x):=by
 obtain⟨a,n⟩:=x
 have hk:=qv7 n
 have hd:decide ((kk n:Int)<0)=false:=qC (by omega)
 show(bif !decide ((kk n:Int)<0) then some (qw .i64 (wn a:Int) (kk n:Int)) else none)=some ((wn a / 2 ^ kk n:Nat):Int)
 rw[hd,qfL _ _ (by omega)]
 simp
abbrev qoq:List Ty:=[(.int .i64),(.int .i64)]
abbrev qqR:Sh:=Sh.ty (Ty.int IntKind.i64)
def qxx (x:qd qoq):PO (Sh.den qqR) :=
 (.ite (!decide (qcO x.2<0)&&true)
  (.ret (qL (qw IntKind.i64 (w64 (IntKind.wrap IntKind.i32 (IntKind.wrap IntKind.u32 (qL x.1)))) (qcO x.2))))
  .fail)
def sw (m:Nat):Int:=if 2147483648≤m then(m:Int)-4294967296 else m
def qtt (_:qd qoq):Bool:=true
def qnL (x:qd qoq):Sh.den qqR:=(wn (sw (wn x.1) / (2 ^ kk x.2:Nat)):Int)
theorem qEm (x:qd qoq) (_:qtt x=true):(qxx x).val=some (qnL x):=by
 obtain⟨a,n⟩:=x
 have hk:=qv7 n
 have hl:=qga a
 have e:w64 (IntKind.i32.wrap (IntKind.u32.wrap (wn a:Int)))=sw (wn a):=by
  rw[qML,qQd,Int.emod_emod_of_dvd _ (by decide),Int.emod_eq_of_lt (by omega) (by omega)]
  unfold sw
  split
  ·rw[if_pos (by omega),qu (by omega) (by omega)]
  ·rw[if_neg (by omega),qu (by omega) (by omega)]
 have hd:decide ((kk n:Int)<0)=false:=qC (by omega)
 show(bif !decide ((kk n:Int)<0)&&true then some ((wn (qw .i64 (w64 (IntKind.i32.wrap (IntKind.u32.wrap (wn a:Int)))) (kk n:Int)):Nat):Int) else none)=some ((wn (sw (wn a) / (2 ^ kk n:Nat)):Nat):Int)
 rw[hd,e,qfL _ _ (by omega)]
 rfl
abbrev qnY:List Ty:=[(.int .i64),(.int .i64)]
abbrev qq7:Sh:=Sh.ty (Ty.int IntKind.i64)
def qyC (x:qd qnY):PO (Sh.den qq7) :=
 (.ite (qnR (x.1,x.2)&&(!decide (w64 (32-qcO x.2)<0)&&true))
  (.ret (qiK (qik (x.1,x.2),qL (qt IntKind.i64 (qL x.1) (w64 (32-qcO x.2))))))
  .fail)
def qtG (_:qd qnY):Bool:=true
def qnP (x:qd qnY):Sh.den qq7:=((wn x.1 / 2 ^ kk x.2+wn x.1 % 2 ^ kk x.2*2 ^ (32-kk x.2):Nat):Int)
theorem qPw (m k:Nat) (hm:m<4294967296) (hk:k<32):m / 2 ^ k |||m*2 ^ (32-k) % 4294967296=m / 2 ^ k+m % 2 ^ k*2 ^ (32-k):=by
 have h0:2 ^ 32=2 ^ k*2 ^ (32-k):=by rw[←Nat.pow_add];congr 1;omega
 have h1:m*2 ^ (32-k) % 4294967296=m % 2 ^ k*2 ^ (32-k):=by
  rw[show(4294967296:Nat)=2 ^ 32 from rfl,h0,Nat.mul_mod_mul_right]
 have h2:m / 2 ^ k<2 ^ (32-k):=by
  rw[Nat.div_lt_iff_lt_mul (Nat.two_pow_pos k),Nat.mul_comm,←h0]
  omega
 rw[h1,Nat.or_comm,Nat.mul_comm (m % 2 ^ k),←Nat.two_pow_add_eq_or_of_lt h2,Nat.add_comm]
theorem qFJ (x:qd qnY) (_:qtG x=true):(qyC x).val=some (qnP x):=by
 obtain⟨a,n⟩:=x
 have hk:=qv7 n
 have hl:=qga a
 have e1:w64 (32-(kk n:Int))=((32-kk n:Nat):Int):=by
  rw[qu (by omega) (by omega)];omega
 have hd:decide (w64 (32-(kk n:Int))<0)=false:=qC (by rw[e1];omega)
 have h1:wn a / 2 ^ kk n<4294967296:=Nat.lt_of_le_of_lt (Nat.div_le_self _ _) hl
 show(bif true&&(!decide (w64 (32-(kk n:Int))<0)&&true) then some ((wn ((wn a / 2 ^ kk n:Nat):Int) |||wn ((wn (qt .i64 (wn a:Int) (w64 (32-(kk n:Int)))):Nat):Int):Nat):Int) else none)=some ((wn a / 2 ^ kk n+wn a % 2 ^ kk n*2 ^ (32-kk n):Nat):Int)
 rw[hd,e1,qxy _ _ (by omega),qc1 h1,qc1 (Nat.mod_lt _ (by omega)),qPw _ _ hl hk]
 rfl
abbrev qkg:List Ty:=[(.int .i64),(.int .i64),(.int .i64)]
abbrev qmW:Sh:=Sh.ty (Ty.int IntKind.i64)
def quw (x:qd qkg):PO (Sh.den qmW) :=
 (.ret (qiK (qR IntKind.i64 x.2.1 x.1,qdv IntKind.i64 x.2.2 x.1)))
def qqs (_:qd qkg):Bool:=true
def qkm (x:qd qkg):Sh.den qmW:=(((wn x.2.1 &&& wn x.1) |||(wn x.2.2 &&& (4294967295-wn x.1)):Nat):Int)
theorem qzF (x:qd qkg) (_:qqs x=true):(quw x).val=some (qkm x):=by
 show some _=some _
 rw[qiK,qkm,qLz,qOH]
abbrev qoJ:List Ty:=[(.int .i64),(.int .i64)]
abbrev qrb:Sh:=Sh.ty (Ty.int IntKind.i64)
def qy1 (x:qd qoJ):PO (Sh.den qrb) :=
 (.ite (qnR (x.1,x.2))
  (.ret (qR IntKind.i64 (qik (x.1,x.2)) 1))
  .fail)
def quf (_:qd qoJ):Bool:=true
def qlV (x:qd qoJ):Sh.den qrb:=((wn x.1 / 2 ^ kk x.2 % 2:Nat):Int)
theorem qEh (x:qd qoJ) (_:quf x=true):(qy1 x).val=some (qlV x):=by
 show some _=some _
 simp only[qik,qlV]
 rw[qoW]
 simp
end Go.Av
end
section
namespace Go.Av
open Go
abbrev qI:Ty:=.pair (.int .i64) (.pair (.int .i64) (.pair (.int .i64) (.pair (.int .i64) .unit)))
theorem qpj {k:Nat} (h:k<9223372036854775808):w64 (k:Int)=k:=qu (by omega) (by omega)
def qdd (n from_ many at_:Int):Nat:=(n / (2 ^ from_.toNat:Nat) % (2 ^ many.toNat:Nat)).toNat*2 ^ at_.toNat
def qrv (p:qI.den):Bool:=(decide (0≤p.2.1)&&decide (p.2.1<64))&&((decide (0≤p.2.2.1)&&decide (p.2.2.1≤32))&&(decide (0≤p.2.2.2.1)&&decide (p.2.2.2.1≤16)))
def qhm (p:qI.den):Nat:=qdd p.1 p.2.1 p.2.2.1 p.2.2.2.1
theorem qkL {a b:Nat} (ha:a<9223372036854775808) (hb:b<9223372036854775808):bor .i64 (a:Int) (b:Int)=((a |||b:Nat):Int):=by
 show w64 (BitVec.ofInt 64 (a:Int) |||BitVec.ofInt 64 (b:Int)).toNat=_
 rw[BitVec.toNat_or,qlv (by omega),qlv (by omega)]
 have:a |||b<2 ^ 63:=Nat.or_lt_two_pow ha hb
 exact qu (by omega) (by omega)
theorem qkI (n:Int) (k:Nat):0≤n % (2 ^ k:Nat)∧n % (2 ^ k:Nat)<(2 ^ k:Nat):=by
 have:=Nat.two_pow_pos k
 exact⟨Int.emod_nonneg _ (by omega),Int.emod_lt_of_pos _ (by omega)⟩
theorem qGV (n f:Int) {m a:Nat} (hm:m≤32) (ha:a≤16):qdd n f (m:Int) (a:Int)<281474976710656:=by
 unfold qdd
 rw[Int.toNat_natCast,Int.toNat_natCast]
 have h:=qkI (n / (2 ^ f.toNat:Nat)) m
 have h1:(n / (2 ^ f.toNat:Nat) % (2 ^ m:Nat)).toNat<2 ^ m:=by omega
 have h2:2 ^ m≤2 ^ 32:=qfO hm
 have h3:2 ^ a≤2 ^ 16:=qfO ha
 have h4:=Nat.mul_lt_mul_of_lt_of_le (Nat.lt_of_lt_of_le h1 h2) h3 (by omega)
 exact h4
theorem qOc (n:Int) {f m a:Nat} (hf:f<64) (hm:m≤32) (ha:a≤16):qt .i64 (qR .i64 (qw .i64 n (f:Int)) (w64 (qt .i64 1 (m:Int)-1))) (a:Int)=(qdd n (f:Int) (m:Int) (a:Int):Int):=by
 have hl:=qGV n (f:Int) hm ha
 have h1:2 ^ m≤2 ^ 32:=qfO hm
 have h2:qt .i64 1 (m:Int)=((2 ^ m:Nat):Int):=by
  rw[qlI _ _ (by omega),Int.one_mul,show(2:Int) ^ m=((2 ^ m:Nat):Int) by simp]
  exact qpj (by omega)
 have hp:=Nat.two_pow_pos m
 have h3:w64 (((2 ^ m:Nat):Int)-1)=((2 ^ m:Nat):Int)-1:=by
  generalize 2 ^ m=q at *
  exact qu (by omega) (by omega)
 rw[h2,h3,qfL _ _ hf,qiR _ _ (by omega),qlI _ _ (by omega)]
 unfold qdd at hl ⊢
 rw[Int.toNat_natCast,Int.toNat_natCast,Int.toNat_natCast] at *
 have h:=qkI (n / (2 ^ f:Nat)) m
 obtain⟨q,hq⟩:∃q:Nat,n / (2 ^ f:Nat) % (2 ^ m:Nat)=(q:Int):=⟨(n / (2 ^ f:Nat) % (2 ^ m:Nat)).toNat,by omega⟩
 rw[hq] at hl ⊢
 rw[Int.toNat_natCast] at hl ⊢
 rw[show(q:Int)*2 ^ a=((q*2 ^ a:Nat):Int) by simp]
 exact qu (by omega) (by omega)
theorem qeJ (p:qI.den) (h:qrv p=true):qt .i64 (qR .i64 (qw .i64 p.1 p.2.1) (w64 (qt .i64 1 p.2.2.1-1))) p.2.2.2.1=(qhm p:Int)∧qhm p<281474976710656∧decide (p.2.1<0)=false∧decide (p.2.2.1<0)=false∧decide (p.2.2.2.1<0)=false:=by
 obtain⟨n,f,m,a,u⟩:=p
 simp only[qrv,Bool.and_eq_true,decide_eq_true_eq] at h
 obtain⟨⟨h1,h2⟩,⟨h3,h4⟩,h5,h6⟩:=h
 dsimp only[Ty.den] at *
 obtain⟨f,rfl⟩:=Int.eq_ofNat_of_zero_le h1
 obtain⟨m,rfl⟩:=Int.eq_ofNat_of_zero_le h3
 obtain⟨a,rfl⟩:=Int.eq_ofNat_of_zero_le h5
 exact⟨qOc n (by omega) (by omega) (by omega),qGV n _ (by omega) (by omega),qC (by omega),qC (by omega),qC (by omega)⟩
theorem qgm {b:Nat} (p:qI.den) (h:qrv p=true) (hb:b<281474976710656):bor .i64 (b:Int) (qt .i64 (qR .i64 (qw .i64 p.1 p.2.1) (w64 (qt .i64 1 p.2.2.1-1))) p.2.2.2.1)=((b |||qhm p:Nat):Int)∧b |||qhm p<281474976710656:=by
 obtain⟨h1,h2,_⟩:=qeJ p h
 exact⟨by rw[h1,qkL (by omega) (by omega)],Nat.or_lt_two_pow (n:=48) hb h2⟩
abbrev qmo:List Ty:=[(.int .i64),(.sl qI)]
abbrev qpM:Sh:=Sh.ty (Ty.int IntKind.i64)
def qhC (x:qd qmo):PO (Sh.den qpM) :=
 (.ite (decide (0<qi x.2))
  (.ite (inRange 0 (List.length x.2))
  (.ite (!decide ((List.getD x.2 (Int.toNat 0) (Ty.dflt qI)).2.1<0)&&(!decide ((List.getD x.2 (Int.toNat 0) (Ty.dflt qI)).2.2.1<0)&&!decide ((List.getD x.2 (Int.toNat 0) (Ty.dflt qI)).2.2.2.1<0)))
   (.ite (decide (1<qi x.2))
   (.ite (inRange 1 (List.length x.2))
    (.ite (!decide ((List.getD x.2 (Int.toNat 1) (Ty.dflt qI)).2.1<0)&&(!decide ((List.getD x.2 (Int.toNat 1) (Ty.dflt qI)).2.2.1<0)&&!decide ((List.getD x.2 (Int.toNat 1) (Ty.dflt qI)).2.2.2.1<0)))
    (.ite (decide (2<qi x.2))
     (.ite (inRange 2 (List.length x.2))
     (.ite (!decide ((List.getD x.2 (Int.toNat 2) (Ty.dflt qI)).2.1<0)&&(!decide ((List.getD x.2 (Int.toNat 2) (Ty.dflt qI)).2.2.1<0)&&!decide ((List.getD x.2 (Int.toNat 2) (Ty.dflt qI)).2.2.2.1<0)))
      (.ite (decide (3<qi x.2))
      (.ite (inRange 3 (List.length x.2))
       (.ite (!decide ((List.getD x.2 (Int.toNat 3) (Ty.dflt qI)).2.1<0)&&(!decide ((List.getD x.2 (Int.toNat 3) (Ty.dflt qI)).2.2.1<0)&&!decide ((List.getD x.2 (Int.toNat 3) (Ty.dflt qI)).2.2.2.1<0)))
       (.ite (decide (4<qi x.2))
        (.ite (inRange 4 (List.length x.2))
        (.ite (!decide ((List.getD x.2 (Int.toNat 4) (Ty.dflt qI)).2.1<0)&&(!decide ((List.getD x.2 (Int.toNat 4) (Ty.dflt qI)).2.2.1<0)&&!decide ((List.getD x.2 (Int.toNat 4) (Ty.dflt qI)).2.2.2.1<0)))
         (.ite (decide (5<qi x.2))
         (.ite (inRange 5 (List.length x.2))
          (.ite (!decide ((List.getD x.2 (Int.toNat 5) (Ty.dflt qI)).2.1<0)&&(!decide ((List.getD x.2 (Int.toNat 5) (Ty.dflt qI)).2.2.1<0)&&!decide ((List.getD x.2 (Int.toNat 5) (Ty.dflt qI)).2.2.2.1<0)))
          .fail
          .fail)
          .fail)
         (.ret (bor IntKind.i64 (bor IntKind.i64 (bor IntKind.i64 (bor IntKind.i64 (bor IntKind.i64 x.1 (qt IntKind.i64 (qR IntKind.i64 (qw IntKind.i64 (List.getD x.2 (Int.toNat 0) (Ty.dflt qI)).1 (List.getD x.2 (Int.toNat 0) (Ty.dflt qI)).2.1) (w64 (qt IntKind.i64 1 (List.getD x.2 (Int.toNat 0) (Ty.dflt qI)).2.2.1-1))) (List.getD x.2 (Int.toNat 0) (Ty.dflt qI)).2.2.2.1)) (qt IntKind.i64 (qR IntKind.i64 (qw IntKind.i64 (List.getD x.2 (Int.toNat 1) (Ty.dflt qI)).1 (List.getD x.2 (Int.toNat 1) (Ty.dflt qI)).2.1) (w64 (qt IntKind.i64 1 (List.getD x.2 (Int.toNat 1) (Ty.dflt qI)).2.2.1-1))) (List.getD x.2 (Int.toNat 1) (Ty.dflt qI)).2.2.2.1)) (qt IntKind.i64 (qR IntKind.i64 (qw IntKind.i64 (List.getD x.2 (Int.toNat 2) (Ty.dflt qI)).1 (List.getD x.2 (Int.toNat 2) (Ty.dflt qI)).2.1) (w64 (qt IntKind.i64 1 (List.getD x.2 (Int.toNat 2) (Ty.dflt qI)).2.2.1-1))) (List.getD x.2 (Int.toNat 2) (Ty.dflt qI)).2.2.2.1)) (qt IntKind.i64 (qR IntKind.i64 (qw IntKind.i64 (List.getD x.2 (Int.toNat 3) (Ty.dflt qI)).1 (List.getD x.2 (Int.toNat 3) (Ty.dflt qI)).2.1) (w64 (qt IntKind.i64 1 (List.getD x.2 (Int.toNat 3) (Ty.dflt qI)).2.2.1-1))) (List.getD x.2 (Int.toNat 3) (Ty.dflt qI)).2.2.2.1)) (qt IntKind.i64 (qR IntKind.i64 (qw IntKind.i64 (List.getD x.2 (Int.toNat 4) (Ty.dflt qI)).1 (List.getD x.2 (Int.toNat 4) (Ty.dflt qI)).2.1) (w64 (qt IntKind.i64 1 (List.getD x.2 (Int.toNat 4) (Ty.dflt qI)).2.2.1-1))) (List.getD x.2 (Int.toNat 4) (Ty.dflt qI)).2.2.2.1))))
         .fail)
        .fail)
        (.ret (bor IntKind.i64 (bor IntKind.i64 (bor IntKind.i64 (bor IntKind.i64 x.1 (qt IntKind.i64 (qR IntKind.i64 (qw IntKind.i64 (List.getD x.2 (Int.toNat 0) (Ty.dflt qI)).1 (List.getD x.2 (Int.toNat 0) (Ty.dflt qI)).2.1) (w64 (qt IntKind.i64 1 (List.getD x.2 (Int.toNat 0) (Ty.dflt qI)).2.2.1-1))) (List.getD x.2 (Int.toNat 0) (Ty.dflt qI)).2.2.2.1)) (qt IntKind.i64 (qR IntKind.i64 (qw IntKind.i64 (List.getD x.2 (Int.toNat 1) (Ty.dflt qI)).1 (List.getD x.2 (Int.toNat 1) (Ty.dflt qI)).2.1) (w64 (qt IntKind.i64 1 (List.getD x.2 (Int.toNat 1) (Ty.dflt qI)).2.2.1-1))) (List.getD x.2 (Int.toNat 1) (Ty.dflt qI)).2.2.2.1)) (qt IntKind.i64 (qR IntKind.i64 (qw IntKind.i64 (List.getD x.2 (Int.toNat 2) (Ty.dflt qI)).1 (List.getD x.2 (Int.toNat 2) (Ty.dflt qI)).2.1) (w64 (qt IntKind.i64 1 (List.getD x.2 (Int.toNat 2) (Ty.dflt qI)).2.2.1-1))) (List.getD x.2 (Int.toNat 2) (Ty.dflt qI)).2.2.2.1)) (qt IntKind.i64 (qR IntKind.i64 (qw IntKind.i64 (List.getD x.2 (Int.toNat 3) (Ty.dflt qI)).1 (List.getD x.2 (Int.toNat 3) (Ty.dflt qI)).2.1) (w64 (qt IntKind.i64 1 (List.getD x.2 (Int.toNat 3) (Ty.dflt qI)).2.2.1-1))) (List.getD x.2 (Int.toNat 3) (Ty.dflt qI)).2.2.2.1))))
       .fail)
       .fail)
      (.ret (bor IntKind.i64 (bor IntKind.i64 (bor IntKind.i64 x.1 (qt IntKind.i64 (qR IntKind.i64 (qw IntKind.i64 (List.getD x.2 (Int.toNat 0) (Ty.dflt qI)).1 (List.getD x.2 (Int.toNat 0) (Ty.dflt qI)).2.1) (w64 (qt IntKind.i64 1 (List.getD x.2 (Int.toNat 0) (Ty.dflt qI)).2.2.1-1))) (List.getD x.2 (Int.toNat 0) (Ty.dflt qI)).2.2.2.1)) (qt IntKind.i64 (qR IntKind.i64 (qw IntKind.i64 (List.getD x.2 (Int.toNat 1) (Ty.dflt qI)).1 (List.getD x.2 (Int.toNat 1) (Ty.dflt qI)).2.1) (w64 (qt IntKind.i64 1 (List.getD x.2 (Int.toNat 1) (Ty.dflt qI)).2.2.1-1))) (List.getD x.2 (Int.toNat 1) (Ty.dflt qI)).2.2.2.1)) (qt IntKind.i64 (qR IntKind.i64 (qw IntKind.i64 (List.getD x.2 (Int.toNat 2) (Ty.dflt qI)).1 (List.getD x.2 (Int.toNat 2) (Ty.dflt qI)).2.1) (w64 (qt IntKind.i64 1 (List.getD x.2 (Int.toNat 2) (Ty.dflt qI)).2.2.1-1))) (List.getD x.2 (Int.toNat 2) (Ty.dflt qI)).2.2.2.1))))
      .fail)
     .fail)
     (.ret (bor IntKind.i64 (bor IntKind.i64 x.1 (qt IntKind.i64 (qR IntKind.i64 (qw IntKind.i64 (List.getD x.2 (Int.toNat 0) (Ty.dflt qI)).1 (List.getD x.2 (Int.toNat 0) (Ty.dflt qI)).2.1) (w64 (qt IntKind.i64 1 (List.getD x.2 (Int.toNat 0) (Ty.dflt qI)).2.2.1-1))) (List.getD x.2 (Int.toNat 0) (Ty.dflt qI)).2.2.2.1)) (qt IntKind.i64 (qR IntKind.i64 (qw IntKind.i64 (List.getD x.2 (Int.toNat 1) (Ty.dflt qI)).1 (List.getD x.2 (Int.toNat 1) (Ty.dflt qI)).2.1) (w64 (qt IntKind.i64 1 (List.getD x.2 (Int.toNat 1) (Ty.dflt qI)).2.2.1-1))) (List.getD x.2 (Int.toNat 1) (Ty.dflt qI)).2.2.2.1))))
    .fail)
    .fail)
   (.ret (bor IntKind.i64 x.1 (qt IntKind.i64 (qR IntKind.i64 (qw IntKind.i64 (List.getD x.2 (Int.toNat 0) (Ty.dflt qI)).1 (List.getD x.2 (Int.toNat 0) (Ty.dflt qI)).2.1) (w64 (qt IntKind.i64 1 (List.getD x.2 (Int.toNat 0) (Ty.dflt qI)).2.2.1-1))) (List.getD x.2 (Int.toNat 0) (Ty.dflt qI)).2.2.2.1))))
   .fail)
  .fail)
  (.ret (x.1)))
def qT (x:qd qmo):Bool:=(decide ((0:Int)≤x.1)&&decide ((x.1:Int)<281474976710656))&&(decide (List.length x.2≤5)&&List.all x.2 qrv)
def qg (x:qd qmo):Sh.den qpM:=((List.foldl (fun b p=>b |||qhm p) (Int.toNat x.1) x.2:Nat):Int)
theorem qC6 (x:qd qmo) (h:qT x=true):(qhC x).val=some (qg x):=by
 obtain⟨n,l⟩:=x
 simp only[qT,Bool.and_eq_true,decide_eq_true_eq] at h
 obtain⟨⟨h1,h2⟩,h3,h4⟩:=h
 dsimp only[Ty.den] at *
 obtain⟨b,rfl⟩:=Int.eq_ofNat_of_zero_le h1
 unfold qg
 match l,h3,h4 with
 |[],_,_=>simp[qhC,PO.val,qi]
 |[p],_,h4 =>
  simp only[List.all_cons,List.all_nil,Bool.and_true] at h4
  obtain⟨e1,l1⟩:=qgm p h4 (show b<281474976710656 by omega)
  obtain⟨_,_,p1,p2,p3⟩:=qeJ p h4
  simp[qhC,PO.val,qi,inRange,p1,p2,p3,e1]
 |[p,q],_,h4 =>
  simp only[List.all_cons,List.all_nil,Bool.and_true,Bool.and_eq_true] at h4
  obtain⟨hp,hq⟩:=h4
  obtain⟨e1,l1⟩:=qgm p hp (show b<281474976710656 by omega)
  obtain⟨_,_,p1,p2,p3⟩:=qeJ p hp
  obtain⟨e2,l2⟩:=qgm q hq l1
  obtain⟨_,_,q1,q2,q3⟩:=qeJ q hq
  simp[qhC,PO.val,qi,inRange,p1,p2,p3,e1,q1,q2,q3,e2]
 |[p,q,r],_,h4 =>
  simp only[List.all_cons,List.all_nil,Bool.and_true,Bool.and_eq_true] at h4
  obtain⟨hp,hq,hr⟩:=h4
  obtain⟨e1,l1⟩:=qgm p hp (show b<281474976710656 by omega)
  obtain⟨_,_,p1,p2,p3⟩:=qeJ p hp
  obtain⟨e2,l2⟩:=qgm q hq l1
  obtain⟨_,_,q1,q2,q3⟩:=qeJ q hq
  obtain⟨e3,l3⟩:=qgm r hr l2
  obtain⟨_,_,r1,r2,r3⟩:=qeJ r hr
  simp[qhC,PO.val,qi,inRange,p1,p2,p3,e1,q1,q2,q3,e2,r1,r2,r3,e3]
 |[p,q,r,s],_,h4 =>
  simp only[List.all_cons,List.all_nil,Bool.and_true,Bool.and_eq_true] at h4
  obtain⟨hp,hq,hr,hs⟩:=h4
  obtain⟨e1,l1⟩:=qgm p hp (show b<281474976710656 by omega)
  obtain⟨_,_,p1,p2,p3⟩:=qeJ p hp
  obtain⟨e2,l2⟩:=qgm q hq l1
  obtain⟨_,_,q1,q2,q3⟩:=qeJ q hq
  obtain⟨e3,l3⟩:=qgm r hr l2
  obtain⟨_,_,r1,r2,r3⟩:=qeJ r hr
  obtain⟨e4,l4⟩:=qgm s hs l3
  obtain⟨_,_,s1,s2,s3⟩:=qeJ s hs
  simp[qhC,PO.val,qi,inRange,p1,p2,p3,e1,q1,q2,q3,e2,r1,r2,r3,e3,s1,s2,s3,e4]
 |[p,q,r,s,t],_,h4 =>
  simp only[List.all_cons,List.all_nil,Bool.and_true,Bool.and_eq_true] at h4
  obtain⟨hp,hq,hr,hs,ht⟩:=h4
  obtain⟨e1,l1⟩:=qgm p hp (show b<281474976710656 by omega)
  obtain⟨_,_,p1,p2,p3⟩:=qeJ p hp
  obtain⟨e2,l2⟩:=qgm q hq l1
  obtain⟨_,_,q1,q2,q3⟩:=qeJ q hq
  obtain⟨e3,l3⟩:=qgm r hr l2
  obtain⟨_,_,r1,r2,r3⟩:=qeJ r hr
  obtain⟨e4,l4⟩:=qgm s hs l3
  obtain⟨_,_,s1,s2,s3⟩:=qeJ s hs
  obtain⟨e5,l5⟩:=qgm t ht l4
  obtain⟨_,_,t1,t2,t3⟩:=qeJ t ht
  simp[qhC,PO.val,qi,inRange,p1,p2,p3,e1,q1,q2,q3,e2,r1,r2,r3,e3,s1,s2,s3,e4,t1,t2,t3,e5]
 |_::_::_::_::_::_::_,h3,_=>simp at h3
abbrev qih:List Ty:=[(.int .i64),qA,(.int .i64)]
abbrev qkT:Sh:=Sh.ty qgZ
def qv (x:qd qih):PO (Sh.den qkT) :=
 (.ite (qT (0,[(x.2.1.2.2.2.2.2.1,2,3,12,()),(x.2.1.2.1,0,4,8,()),(x.2.1.2.2.2.2.2.1,0,2,6,()),(x.2.2,0,2,4,()),(x.2.1.2.2.2.1,0,4,0,())]))
  (.ite (qT (x.1,[(x.2.1.2.2.1,0,4,0,())]))
  (.ret ((qg (x.1,[(x.2.1.2.2.1,0,4,0,())]),qg (0,[(x.2.1.2.2.2.2.2.1,2,3,12,()),(x.2.1.2.1,0,4,8,()),(x.2.1.2.2.2.2.2.1,0,2,6,()),(x.2.2,0,2,4,()),(x.2.1.2.2.2.1,0,4,0,())]),true,())))
  .fail)
  .fail)
def qcG (x:qd qih):Bool:=(qv x).val.isSome
def qca (x:qd qih):Sh.den qkT:=(qv x).qH default
theorem qxd (x:qd qih) (h:qcG x=true):(qv x).val=some (qca x):=PO.qcg default h
abbrev qlG:List Ty:=[(.int .i64),qA]
abbrev qoM:Sh:=Sh.ty qgZ
def qd9 (x:qd qlG):PO (Sh.den qoM) :=
 (.ite (qT (x.1,[(x.2.2.2.2.2.2.1,11,1,10,()),(x.2.2.2.2.2.2.1,12,4,0,())]))
  (.ite (qT (0,[(x.2.2.2.2.2.2.1,8,3,12,()),(x.2.2.1,0,4,8,()),(x.2.2.2.2.2.2.1,0,8,0,())]))
  (.ret ((qg (x.1,[(x.2.2.2.2.2.2.1,11,1,10,()),(x.2.2.2.2.2.2.1,12,4,0,())]),qg (0,[(x.2.2.2.2.2.2.1,8,3,12,()),(x.2.2.1,0,4,8,()),(x.2.2.2.2.2.2.1,0,8,0,())]),true,())))
  .fail)
  .fail)
def qla (x:qd qlG):Bool:=(qd9 x).val.isSome
def qlm (x:qd qlG):Sh.den qoM:=(qd9 x).qH default
theorem qA3 (x:qd qlG) (h:qla x=true):(qd9 x).val=some (qlm x):=PO.qcg default h
abbrev qkr:List Ty:=[(.int .i64),(.int .i64),(.int .i64)]
abbrev qm7:Sh:=Sh.ty qgZ
def qbJ (x:qd qkr):PO (Sh.den qm7) :=
 (.ite (qT (x.1,[(x.2.1,0,3,0,()),(x.2.2,0,3,3,())]))
  (.ret ((qg (x.1,[(x.2.1,0,3,0,()),(x.2.2,0,3,3,())]),0,false,())))
  .fail)
def qf0 (x:qd qkr):Bool:=(qbJ x).val.isSome
def qfY (x:qd qkr):Sh.den qm7:=(qbJ x).qH default
theorem qzh (x:qd qkr) (h:qf0 x=true):(qbJ x).val=some (qfY x):=PO.qcg default h
abbrev qln:List Ty:=[qA]
abbrev qnK:Sh:=Sh.ty qgZ
def qdt (x:qd qln):PO (Sh.den qnK) :=
 (.ite (qT (0,[(x.2.2.2.2.2.1,1,11,0,())]))
  (.ite (x.1==25)
  (.ite (qT (61440,[(qR IntKind.i64 (qw IntKind.i64 x.2.2.2.2.2.1 24) 1,0,1,10,()),(x.2.2.2.2.2.2.1,0,4,6,()),(x.2.2.2.2.2.1,12,6,0,())]))
   (.ite (qT (bor IntKind.i64 (qg (0,[(x.2.2.2.2.2.1,1,11,0,())])) 32768,[(x.2.2.2.2.2.1,18,1,13,()),(x.2.2.2.2.2.1,19,1,11,())]))
   (.ret ((qg (61440,[(qR IntKind.i64 (qw IntKind.i64 x.2.2.2.2.2.1 24) 1,0,1,10,()),(x.2.2.2.2.2.2.1,0,4,6,()),(x.2.2.2.2.2.1,12,6,0,())]),qg (bor IntKind.i64 (qg (0,[(x.2.2.2.2.2.1,1,11,0,())])) 32768,[(x.2.2.2.2.2.1,18,1,13,()),(x.2.2.2.2.2.1,19,1,11,())]),true,())))
   .fail)
   .fail)
  (.ite (qT (61440,[(qR IntKind.i64 (qw IntKind.i64 x.2.2.2.2.2.1 24) 1,0,1,10,()),(x.2.2.2.2.2.1,12,10,0,())]))
   (.ite (qT (bor IntKind.i64 (qg (0,[(x.2.2.2.2.2.1,1,11,0,())])) 36864,[(qda IntKind.i64 (qgF IntKind.i64 (qw IntKind.i64 x.2.2.2.2.2.1 23)) (qR IntKind.i64 (qw IntKind.i64 x.2.2.2.2.2.1 24) 1),0,1,13,()),(qda IntKind.i64 (qgF IntKind.i64 (qw IntKind.i64 x.2.2.2.2.2.1 22)) (qR IntKind.i64 (qw IntKind.i64 x.2.2.2.2.2.1 24) 1),0,1,11,())]))
   (.ret ((qg (61440,[(qR IntKind.i64 (qw IntKind.i64 x.2.2.2.2.2.1 24) 1,0,1,10,()),(x.2.2.2.2.2.1,12,10,0,())]),qg (bor IntKind.i64 (qg (0,[(x.2.2.2.2.2.1,1,11,0,())])) 36864,[(qda IntKind.i64 (qgF IntKind.i64 (qw IntKind.i64 x.2.2.2.2.2.1 23)) (qR IntKind.i64 (qw IntKind.i64 x.2.2.2.2.2.1 24) 1),0,1,13,()),(qda IntKind.i64 (qgF IntKind.i64 (qw IntKind.i64 x.2.2.2.2.2.1 22)) (qR IntKind.i64 (qw IntKind.i64 x.2.2.2.2.2.1 24) 1),0,1,11,())]),true,())))
   .fail)
   .fail))
  .fail)
def qod (x:qd qln):Bool:=(qdt x).val.isSome
def qof (x:qd qln):Sh.den qnK:=(qdt x).qH default
theorem qAS (x:qd qln) (h:qod x=true):(qdt x).val=some (qof x):=PO.qcg default h
abbrev qjz:List Ty:=[qA]
abbrev ql3:Sh:=Sh.ty qgZ
def qJ (x:qd qjz):PO (Sh.den ql3) :=
 (.ite (x.1==16)
  (.ite (qcG (64256,x,0))
  (.ret (((qca (64256,x,0)).1,bor IntKind.i64 (qca (64256,x,0)).2.1 61440,(qca (64256,x,0)).2.2)))
  .fail)
  (.ite (x.1==17)
  (.ret ((bor IntKind.i64 64416 x.2.2.1,bor IntKind.i64 (bor IntKind.i64 (qt IntKind.i64 x.2.1 12) (qt IntKind.i64 x.2.2.2.2.1 8)) x.2.2.2.1,true,())))
  (.ite (x.1==18)
   (.ite (qT (w64 (w64 (x.2.2.2.2.2.1+x.2.2.2.2.1)-1),[(x.2.2.2.2.2.1,2,3,12,()),(x.2.1,0,4,8,()),(x.2.2.2.2.2.1,0,2,6,())]))
   (.ret ((bor IntKind.i64 62304 x.2.2.1,qg (w64 (w64 (x.2.2.2.2.2.1+x.2.2.2.2.1)-1),[(x.2.2.2.2.2.1,2,3,12,()),(x.2.1,0,4,8,()),(x.2.2.2.2.2.1,0,2,6,())]),true,())))
   .fail)
   (.ite (x.1==19)
   (.ite (qf0 (26624,x.2.1,x.2.2.1))
    (.ret (qfY (26624,x.2.1,x.2.2.1)))
    .fail)
   (.ite (x.1==20)
    (.ite (qf0 (24576,x.2.1,x.2.2.1))
    (.ret (qfY (24576,x.2.1,x.2.2.1)))
    .fail)
    (.ite (x.1==21)
    (.ite (qf0 (30720,x.2.1,x.2.2.1))
     (.ret (qfY (30720,x.2.1,x.2.2.1)))
     .fail)
    (.ite (x.1==22)
     (.ite (qf0 (28672,x.2.1,x.2.2.1))
     (.ret (qfY (28672,x.2.1,x.2.2.1)))
     .fail)
     (.ite (x.1==23)
     (.ite (qf0 (17024,x.2.2.1,x.2.2.2.1))
      (.ret (qfY (17024,x.2.2.1,x.2.2.2.1)))
      .fail)
     (.ite (x.2.2.2.2.2.2.2.1)
      (.ite (qod x)
      (.ret (qof x))
      .fail)
      (.ite (x.1==24)
      (.ite (qT (57344,[(x.2.2.2.2.2.1,1,11,0,())]))
       (.ret ((qg (57344,[(x.2.2.2.2.2.1,1,11,0,())]),0,false,())))
       .fail)
      (.ite (qT (53248,[(x.2.2.2.2.2.2.1,0,4,8,()),(x.2.2.2.2.2.1,1,8,0,())]))
       (.ret ((qg (53248,[(x.2.2.2.2.2.2.1,0,4,8,()),(x.2.2.2.2.2.1,1,8,0,())]),0,false,())))
       .fail)))))))))))
def qlN (x:qd qjz):Bool:=(qJ x).val.isSome
def ql7 (x:qd qjz):Sh.den ql3:=(qJ x).qH default
theorem qyx (x:qd qjz) (h:qlN x=true):(qJ x).val=some (ql7 x):=PO.qcg default h
abbrev qlC:List Ty:=[qA]
abbrev qoN:Sh:=Sh.ty qgZ
def qG (x:qd qlC):PO (Sh.den qoN) :=
 (.ite (x.1==1)
  (.ret ((48896,0,false,())))
  (.ite (x.1==2)
  (.ret ((bor IntKind.i64 48640 x.2.2.2.2.2.1,0,false,())))
  (.ite (x.1==3)
   (.ite (qla (62016,x))
   (.ret (qlm (62016,x)))
   .fail)
   (.ite (x.1==4)
   (.ite (qla (62144,x))
    (.ret (qlm (62144,x)))
    .fail)
   (.ite (bif x.1==5 then x.1==5 else bif x.1==6 then x.1==6 else bif x.1==7 then x.1==7 else x.1==8)
    (.ite (qcG (59983,x,w64 (x.1-5)))
    (.ret (qca (59983,x,w64 (x.1-5))))
    .fail)
    (.ite (x.1==9)
    (.ite (qcG (60015,x,0))
     (.ret (qca (60015,x,0)))
     .fail)
    (.ite (x.1==10)
     (.ite (qcG (59904,x,0))
     (.ret (qca (59904,x,0)))
     .fail)
     (.ite (x.1==11)
     (.ite (qcG (59936,x,0))
      (.ret (qca (59936,x,0)))
      .fail)
     (.ite (x.1==12)
      (.ite (qcG (59968,x,0))
      (.ret (qca (59968,x,0)))
      .fail)
      (.ite (x.1==13)
      (.ite (qcG (60032,x,0))
       (.ret (qca (60032,x,0)))
       .fail)
      (.ite (x.1==14)
       (.ite (qcG (60160,x,0))
       (.ret (qca (60160,x,0)))
       .fail)
       (.ite (x.1==15)
       (.ite (qcG (60320,x,0))
        (.ret (qca (60320,x,0)))
        .fail)
       (.ite (qlN x)
        (.ret (ql7 x))
        .fail)))))))))))))
def qfb (x:qd qlC):Bool:=(qG x).val.isSome
def qb0 (x:qd qlC):Sh.den qoN:=(qG x).qH default
theorem qAN (x:qd qlC) (h:qfb x=true):(qG x).val=some (qb0 x):=PO.qcg default h
end Go.Av
end
section
namespace Go.Av
open Go
def qbR (op:Int) (w:Bool):Bool:=w||(decide (3≤op)&&decide (op≤18))
theorem qk4 (b:Nat) (l:List qI.den) (hb:b<281474976710656) (hl:(decide (List.length l≤5)&&List.all l qrv)=true):qT ((b:Int),l)=true:=by
 have h1:decide ((0:Int)≤(b:Int))=true:=qK (by omega)
 have h2:decide ((b:Int)<281474976710656)=true:=qK (by omega)
 show((decide ((0:Int)≤(b:Int))&&decide ((b:Int)<281474976710656))&&(decide (List.length l≤5)&&List.all l qrv))=true
 rw[h1,h2,hl]
 rfl
theorem qzy (l:List qI.den) (hl:(decide (List.length l≤5)&&List.all l qrv)=true):qT (0,l)=true:=qk4 0 l (by omega) hl
section
variable (first:Nat) (op rd rn rm ra imm cond:Int) (w:Bool) (kind:Int)
theorem qek (h:first<281474976710656):(qv ((first:Int),(op,rd,rn,rm,ra,imm,cond,w,()),kind)).val =
  some (qg ((first:Int),[(rn,0,4,0,())]),qg (0,[(imm,2,3,12,()),(rd,0,4,8,()),(imm,0,2,6,()),(kind,0,2,4,()),(rm,0,4,0,())]),true,()):=by
 have h1:qT ((first:Int),[(rn,0,4,0,())])=true:=qk4 first _ h rfl
 have h2:qT (0,[(imm,2,3,12,()),(rd,0,4,8,()),(imm,0,2,6,()),(kind,0,2,4,()),(rm,0,4,0,())])=true:=qzy _ rfl
 show(bif qT (0,[(imm,2,3,12,()),(rd,0,4,8,()),(imm,0,2,6,()),(kind,0,2,4,()),(rm,0,4,0,())]) then(bif qT ((first:Int),[(rn,0,4,0,())]) then _ else _) else _)=_
 rw[h1,h2]
 rfl
theorem qC1 (h:first<281474976710656):(qd9 ((first:Int),(op,rd,rn,rm,ra,imm,cond,w,()))).val =
  some (qg ((first:Int),[(imm,11,1,10,()),(imm,12,4,0,())]),qg (0,[(imm,8,3,12,()),(rd,0,4,8,()),(imm,0,8,0,())]),true,()):=by
 have h1:qT ((first:Int),[(imm,11,1,10,()),(imm,12,4,0,())])=true:=qk4 first _ h rfl
 have h2:qT (0,[(imm,8,3,12,()),(rd,0,4,8,()),(imm,0,8,0,())])=true:=qzy _ rfl
 show(bif qT ((first:Int),[(imm,11,1,10,()),(imm,12,4,0,())]) then(bif qT (0,[(imm,8,3,12,()),(rd,0,4,8,()),(imm,0,8,0,())]) then _ else _) else _)=_
 rw[h1,h2]
 rfl
theorem qp0 (a b:Int) (h:first<281474976710656):(qbJ ((first:Int),a,b)).val=some (qg ((first:Int),[(a,0,3,0,()),(b,0,3,3,())]),0,false,()):=by
 have h1:qT ((first:Int),[(a,0,3,0,()),(b,0,3,3,())])=true:=qk4 first _ h rfl
 show(bif qT ((first:Int),[(a,0,3,0,()),(b,0,3,3,())]) then _ else _)=_
 rw[h1]
 rfl
def qo1:Nat:=qdd imm 1 11 0
theorem qOY:qo1 imm<2048:=by
 unfold qo1 qdd
 have h:=qkI (imm / (2 ^ (1:Int).toNat:Nat)) 11
 have e:(11:Int).toNat=11:=rfl
 have e0:(0:Int).toNat=0:=rfl
 rw[e,e0]
 omega
theorem qHn:qg (0,[(imm,1,11,0,())])=(qo1 imm:Int):=by
 show((0 |||qdd imm 1 11 0:Nat):Int)=_
 rw[Nat.zero_or]
 rfl
def qn2:qgZ.den :=
 bif op==25 then(qg (61440,[(qR .i64 (qw .i64 imm 24) 1,0,1,10,()),(cond,0,4,6,()),(imm,12,6,0,())]),qg (((qo1 imm |||32768:Nat):Int),[(imm,18,1,13,()),(imm,19,1,11,())]),true,())
 else(qg (61440,[(qR .i64 (qw .i64 imm 24) 1,0,1,10,()),(imm,12,10,0,())]),qg (((qo1 imm |||36864:Nat):Int),[(qda .i64 (qgF .i64 (qw .i64 imm 23)) (qR .i64 (qw .i64 imm 24) 1),0,1,13,()),(qda .i64 (qgF .i64 (qw .i64 imm 22)) (qR .i64 (qw .i64 imm 24) 1),0,1,11,())]),true,())
theorem qC3:(qdt (op,rd,rn,rm,ra,imm,cond,w,())).val=some (qn2 op imm cond):=by
 have hl:=qOY imm
 have o1:qo1 imm |||32768<2 ^ 48:=Nat.or_lt_two_pow (by omega) (by omega)
 have o2:qo1 imm |||36864<2 ^ 48:=Nat.or_lt_two_pow (by omega) (by omega)
 have e1:bor .i64 (qg (0,[(imm,1,11,0,())])) 32768=((qo1 imm |||32768:Nat):Int):=by
  rw[qHn];exact qkL (b:=32768) (by omega) (by omega)
 have e2:bor .i64 (qg (0,[(imm,1,11,0,())])) 36864=((qo1 imm |||36864:Nat):Int):=by
  rw[qHn];exact qkL (b:=36864) (by omega) (by omega)
 have g0:qT (0,[(imm,1,11,0,())])=true:=qzy _ rfl
 have g1:qT (61440,[(qR .i64 (qw .i64 imm 24) 1,0,1,10,()),(cond,0,4,6,()),(imm,12,6,0,())])=true:=qk4 61440 _ (by omega) rfl
 have g2:qT (61440,[(qR .i64 (qw .i64 imm 24) 1,0,1,10,()),(imm,12,10,0,())])=true:=qk4 61440 _ (by omega) rfl
 have g3:=qk4 (qo1 imm |||32768) [(imm,18,1,13,()),(imm,19,1,11,())] o1 rfl
 have g4:=qk4 (qo1 imm |||36864) [(qda .i64 (qgF .i64 (qw .i64 imm 23)) (qR .i64 (qw .i64 imm 24) 1),0,1,13,()),(qda .i64 (qgF .i64 (qw .i64 imm 22)) (qR .i64 (qw .i64 imm 24) 1),0,1,11,())] o2 rfl
 simp only[qdt,PO.val]
 rw[e1,e2,g0,g1,g2,g3,g4]
 unfold qn2
 cases op==25
 ·rfl
 ·rfl
end
def qbU (op rd rn rm ra imm cond:Int) (w:Bool):qgZ.den :=
 bif op==1 then(48896,0,false,())
 else bif op==2 then(bor .i64 48640 imm,0,false,())
 else bif op==3 then(qg (62016,[(imm,11,1,10,()),(imm,12,4,0,())]),qg (0,[(imm,8,3,12,()),(rd,0,4,8,()),(imm,0,8,0,())]),true,())
 else bif op==4 then(qg (62144,[(imm,11,1,10,()),(imm,12,4,0,())]),qg (0,[(imm,8,3,12,()),(rd,0,4,8,()),(imm,0,8,0,())]),true,())
 else bif decide (op≤16)&&decide (5≤op) then
  (qg (bif decide (op≤8) then 59983 else bif op==9 then 60015 else bif op==10 then 59904 else bif op==11 then 59936 else bif op==12 then 59968 else bif op==13 then 60032 else bif op==14 then 60160 else bif op==15 then 60320 else 64256,[(rn,0,4,0,())]),
   (bif op==16 then bor .i64 (qg (0,[(imm,2,3,12,()),(rd,0,4,8,()),(imm,0,2,6,()),(0,0,2,4,()),(rm,0,4,0,())])) 61440
   else qg (0,[(imm,2,3,12,()),(rd,0,4,8,()),(imm,0,2,6,()),(bif decide (op≤8) then op-5 else 0,0,2,4,()),(rm,0,4,0,())])),true,())
 else bif op==17 then(bor .i64 64416 rn,bor .i64 (bor .i64 (qt .i64 rd 12) (qt .i64 ra 8)) rm,true,())
 else bif op==18 then(bor .i64 62304 rn,qg (imm+ra-1,[(imm,2,3,12,()),(rd,0,4,8,()),(imm,0,2,6,())]),true,())
 else bif op==23 then(qg (17024,[(rn,0,3,0,()),(rm,0,3,3,())]),0,false,())
 else bif decide (op≤22) then(qg (bif op==19 then 26624 else bif op==20 then 24576 else bif op==21 then 30720 else 28672,[(rd,0,3,0,()),(rn,0,3,3,())]),0,false,())
 else bif w then qn2 op imm cond
 else bif op==24 then(qg (57344,[(imm,1,11,0,())]),0,false,())
 else(qg (53248,[(cond,0,4,8,()),(imm,1,8,0,())]),0,false,())
theorem qKQ {rd rn rm ra imm cond:Int} {w:Bool} (h:qf (18,rd,rn,rm,ra,imm,cond,w,())=0):0≤imm∧imm≤31∧1≤ra∧ra≤32-imm:=by
 have hw:=qp1 imm
 simp[qf,qb5,qbc,qcc,qcu,qfk,qb3,qdC,PO.qH,PO.val] at h
 grind
theorem qP3 (rd rn rm ra imm cond:Int) (w:Bool) (_:qf (1,rd,rn,rm,ra,imm,cond,w,())=0):(qG (1,rd,rn,rm,ra,imm,cond,w,())).val=some (qbU 1 rd rn rm ra imm cond w):=by
 rfl
theorem qQh (rd rn rm ra imm cond:Int) (w:Bool) (_:qf (2,rd,rn,rm,ra,imm,cond,w,())=0):(qG (2,rd,rn,rm,ra,imm,cond,w,())).val=some (qbU 2 rd rn rm ra imm cond w):=by
 rfl
theorem qPL (rd rn rm ra imm cond:Int) (w:Bool) (_:qf (3,rd,rn,rm,ra,imm,cond,w,())=0):(qG (3,rd,rn,rm,ra,imm,cond,w,())).val=some (qbU 3 rd rn rm ra imm cond w):=by
 have e:(qd9 (62016,3,rd,rn,rm,ra,imm,cond,w,())).val=_:=qC1 62016 3 rd rn rm ra imm cond w (by omega)
 refine Eq.trans (b:=(bif (PO.val (qd9 (62016,3,rd,rn,rm,ra,imm,cond,w,()))).isSome then some ((PO.val (qd9 (62016,3,rd,rn,rm,ra,imm,cond,w,()))).getD default) else none)) rfl ?_
 rw[e]
 rfl
theorem qQS (rd rn rm ra imm cond:Int) (w:Bool) (_:qf (4,rd,rn,rm,ra,imm,cond,w,())=0):(qG (4,rd,rn,rm,ra,imm,cond,w,())).val=some (qbU 4 rd rn rm ra imm cond w):=by
 have e:(qd9 (62144,4,rd,rn,rm,ra,imm,cond,w,())).val=_:=qC1 62144 4 rd rn rm ra imm cond w (by omega)
 refine Eq.trans (b:=(bif (PO.val (qd9 (62144,4,rd,rn,rm,ra,imm,cond,w,()))).isSome then some ((PO.val (qd9 (62144,4,rd,rn,rm,ra,imm,cond,w,()))).getD default) else none)) rfl ?_
 rw[e]
 rfl
theorem qPN (rd rn rm ra imm cond:Int) (w:Bool) (_:qf (5,rd,rn,rm,ra,imm,cond,w,())=0):(qG (5,rd,rn,rm,ra,imm,cond,w,())).val=some (qbU 5 rd rn rm ra imm cond w):=by
 have e:(qv (59983,(5,rd,rn,rm,ra,imm,cond,w,()),(w64 (5-5)))).val=_:=qek 59983 5 rd rn rm ra imm cond w (w64 (5-5)) (by omega)
 refine Eq.trans (b:=(bif (PO.val (qv (59983,(5,rd,rn,rm,ra,imm,cond,w,()),(w64 (5-5))))).isSome then some ((PO.val (qv (59983,(5,rd,rn,rm,ra,imm,cond,w,()),(w64 (5-5))))).getD default) else none)) rfl ?_
 rw[e]
 rfl
theorem qPZ (rd rn rm ra imm cond:Int) (w:Bool) (_:qf (6,rd,rn,rm,ra,imm,cond,w,())=0):(qG (6,rd,rn,rm,ra,imm,cond,w,())).val=some (qbU 6 rd rn rm ra imm cond w):=by
 have e:(qv (59983,(6,rd,rn,rm,ra,imm,cond,w,()),(w64 (6-5)))).val=_:=qek 59983 6 rd rn rm ra imm cond w (w64 (6-5)) (by omega)
 refine Eq.trans (b:=(bif (PO.val (qv (59983,(6,rd,rn,rm,ra,imm,cond,w,()),(w64 (6-5))))).isSome then some ((PO.val (qv (59983,(6,rd,rn,rm,ra,imm,cond,w,()),(w64 (6-5))))).getD default) else none)) rfl ?_
 rw[e]
 rfl
theorem qP4 (rd rn rm ra imm cond:Int) (w:Bool) (_:qf (7,rd,rn,rm,ra,imm,cond,w,())=0):(qG (7,rd,rn,rm,ra,imm,cond,w,())).val=some (qbU 7 rd rn rm ra imm cond w):=by
 have e:(qv (59983,(7,rd,rn,rm,ra,imm,cond,w,()),(w64 (7-5)))).val=_:=qek 59983 7 rd rn rm ra imm cond w (w64 (7-5)) (by omega)
 refine Eq.trans (b:=(bif (PO.val (qv (59983,(7,rd,rn,rm,ra,imm,cond,w,()),(w64 (7-5))))).isSome then some ((PO.val (qv (59983,(7,rd,rn,rm,ra,imm,cond,w,()),(w64 (7-5))))).getD default) else none)) rfl ?_
 rw[e]
 rfl
theorem qQe (rd rn rm ra imm cond:Int) (w:Bool) (_:qf (8,rd,rn,rm,ra,imm,cond,w,())=0):(qG (8,rd,rn,rm,ra,imm,cond,w,())).val=some (qbU 8 rd rn rm ra imm cond w):=by
 have e:(qv (59983,(8,rd,rn,rm,ra,imm,cond,w,()),(w64 (8-5)))).val=_:=qek 59983 8 rd rn rm ra imm cond w (w64 (8-5)) (by omega)
 refine Eq.trans (b:=(bif (PO.val (qv (59983,(8,rd,rn,rm,ra,imm,cond,w,()),(w64 (8-5))))).isSome then some ((PO.val (qv (59983,(8,rd,rn,rm,ra,imm,cond,w,()),(w64 (8-5))))).getD default) else none)) rfl ?_
 rw[e]
 rfl
theorem qQ3 (rd rn rm ra imm cond:Int) (w:Bool) (_:qf (9,rd,rn,rm,ra,imm,cond,w,())=0):(qG (9,rd,rn,rm,ra,imm,cond,w,())).val=some (qbU 9 rd rn rm ra imm cond w):=by
 have e:(qv (60015,(9,rd,rn,rm,ra,imm,cond,w,()),0)).val=_:=qek 60015 9 rd rn rm ra imm cond w 0 (by omega)
 refine Eq.trans (b:=(bif (PO.val (qv (60015,(9,rd,rn,rm,ra,imm,cond,w,()),0))).isSome then some ((PO.val (qv (60015,(9,rd,rn,rm,ra,imm,cond,w,()),0))).getD default) else none)) rfl ?_
 rw[e]
 rfl
theorem qPr (rd rn rm ra imm cond:Int) (w:Bool) (_:qf (10,rd,rn,rm,ra,imm,cond,w,())=0):(qG (10,rd,rn,rm,ra,imm,cond,w,())).val=some (qbU 10 rd rn rm ra imm cond w):=by
 have e:(qv (59904,(10,rd,rn,rm,ra,imm,cond,w,()),0)).val=_:=qek 59904 10 rd rn rm ra imm cond w 0 (by omega)
 refine Eq.trans (b:=(bif (PO.val (qv (59904,(10,rd,rn,rm,ra,imm,cond,w,()),0))).isSome then some ((PO.val (qv (59904,(10,rd,rn,rm,ra,imm,cond,w,()),0))).getD default) else none)) rfl ?_
 rw[e]
 rfl
theorem qO2 (rd rn rm ra imm cond:Int) (w:Bool) (_:qf (11,rd,rn,rm,ra,imm,cond,w,())=0):(qG (11,rd,rn,rm,ra,imm,cond,w,())).val=some (qbU 11 rd rn rm ra imm cond w):=by
 have e:(qv (59936,(11,rd,rn,rm,ra,imm,cond,w,()),0)).val=_:=qek 59936 11 rd rn rm ra imm cond w 0 (by omega)
 refine Eq.trans (b:=(bif (PO.val (qv (59936,(11,rd,rn,rm,ra,imm,cond,w,()),0))).isSome then some ((PO.val (qv (59936,(11,rd,rn,rm,ra,imm,cond,w,()),0))).getD default) else none)) rfl ?_
 rw[e]
 rfl
theorem qOP (rd rn rm ra imm cond:Int) (w:Bool) (_:qf (12,rd,rn,rm,ra,imm,cond,w,())=0):(qG (12,rd,rn,rm,ra,imm,cond,w,())).val=some (qbU 12 rd rn rm ra imm cond w):=by
 have e:(qv (59968,(12,rd,rn,rm,ra,imm,cond,w,()),0)).val=_:=qek 59968 12 rd rn rm ra imm cond w 0 (by omega)
 refine Eq.trans (b:=(bif (PO.val (qv (59968,(12,rd,rn,rm,ra,imm,cond,w,()),0))).isSome then some ((PO.val (qv (59968,(12,rd,rn,rm,ra,imm,cond,w,()),0))).getD default) else none)) rfl ?_
 rw[e]
 rfl
theorem qPo (rd rn rm ra imm cond:Int) (w:Bool) (_:qf (13,rd,rn,rm,ra,imm,cond,w,())=0):(qG (13,rd,rn,rm,ra,imm,cond,w,())).val=some (qbU 13 rd rn rm ra imm cond w):=by
 have e:(qv (60032,(13,rd,rn,rm,ra,imm,cond,w,()),0)).val=_:=qek 60032 13 rd rn rm ra imm cond w 0 (by omega)
 refine Eq.trans (b:=(bif (PO.val (qv (60032,(13,rd,rn,rm,ra,imm,cond,w,()),0))).isSome then some ((PO.val (qv (60032,(13,rd,rn,rm,ra,imm,cond,w,()),0))).getD default) else none)) rfl ?_
 rw[e]
 rfl
theorem qPJ (rd rn rm ra imm cond:Int) (w:Bool) (_:qf (14,rd,rn,rm,ra,imm,cond,w,())=0):(qG (14,rd,rn,rm,ra,imm,cond,w,())).val=some (qbU 14 rd rn rm ra imm cond w):=by
 have e:(qv (60160,(14,rd,rn,rm,ra,imm,cond,w,()),0)).val=_:=qek 60160 14 rd rn rm ra imm cond w 0 (by omega)
 refine Eq.trans (b:=(bif (PO.val (qv (60160,(14,rd,rn,rm,ra,imm,cond,w,()),0))).isSome then some ((PO.val (qv (60160,(14,rd,rn,rm,ra,imm,cond,w,()),0))).getD default) else none)) rfl ?_
 rw[e]
 rfl
theorem qOG (rd rn rm ra imm cond:Int) (w:Bool) (_:qf (15,rd,rn,rm,ra,imm,cond,w,())=0):(qG (15,rd,rn,rm,ra,imm,cond,w,())).val=some (qbU 15 rd rn rm ra imm cond w):=by
 have e:(qv (60320,(15,rd,rn,rm,ra,imm,cond,w,()),0)).val=_:=qek 60320 15 rd rn rm ra imm cond w 0 (by omega)
 refine Eq.trans (b:=(bif (PO.val (qv (60320,(15,rd,rn,rm,ra,imm,cond,w,()),0))).isSome then some ((PO.val (qv (60320,(15,rd,rn,rm,ra,imm,cond,w,()),0))).getD default) else none)) rfl ?_
 rw[e]
 rfl
theorem qOi (rd rn rm ra imm cond:Int) (w:Bool) (_:qf (16,rd,rn,rm,ra,imm,cond,w,())=0):(qG (16,rd,rn,rm,ra,imm,cond,w,())).val=some (qbU 16 rd rn rm ra imm cond w):=by
 have b:(qG (16,rd,rn,rm,ra,imm,cond,w,())).val=(bif (PO.val (qJ (16,rd,rn,rm,ra,imm,cond,w,()))).isSome then some ((PO.val (qJ (16,rd,rn,rm,ra,imm,cond,w,()))).getD default) else none):=rfl
 have e:(qv (64256,(16,rd,rn,rm,ra,imm,cond,w,()),0)).val=_:=qek 64256 16 rd rn rm ra imm cond w 0 (by omega)
 have o:(qJ (16,rd,rn,rm,ra,imm,cond,w,())).val=some (qg (64256,[(rn,0,4,0,())]),bor .i64 (qg (0,[(imm,2,3,12,()),(rd,0,4,8,()),(imm,0,2,6,()),(0,0,2,4,()),(rm,0,4,0,())])) 61440,true,()):=by
  refine Eq.trans (b:=(bif (PO.val (qv (64256,(16,rd,rn,rm,ra,imm,cond,w,()),0))).isSome then some (((PO.val (qv (64256,(16,rd,rn,rm,ra,imm,cond,w,()),0))).getD default).1,bor .i64 ((PO.val (qv (64256,(16,rd,rn,rm,ra,imm,cond,w,()),0))).getD default).2.1 61440,((PO.val (qv (64256,(16,rd,rn,rm,ra,imm,cond,w,()),0))).getD default).2.2) else none)) rfl ?_
  rw[e]
  rfl
 have c:qbU 16 rd rn rm ra imm cond w=(qg (64256,[(rn,0,4,0,())]),bor .i64 (qg (0,[(imm,2,3,12,()),(rd,0,4,8,()),(imm,0,2,6,()),(0,0,2,4,()),(rm,0,4,0,())])) 61440,true,()):=rfl
 rw[b,o,c]
 rfl
theorem qOp (rd rn rm ra imm cond:Int) (w:Bool) (_:qf (17,rd,rn,rm,ra,imm,cond,w,())=0):(qG (17,rd,rn,rm,ra,imm,cond,w,())).val=some (qbU 17 rd rn rm ra imm cond w):=by
 have b:(qG (17,rd,rn,rm,ra,imm,cond,w,())).val=(bif (PO.val (qJ (17,rd,rn,rm,ra,imm,cond,w,()))).isSome then some ((PO.val (qJ (17,rd,rn,rm,ra,imm,cond,w,()))).getD default) else none):=rfl
 have o:(qJ (17,rd,rn,rm,ra,imm,cond,w,())).val=some (bor .i64 64416 rn,bor .i64 (bor .i64 (qt .i64 rd 12) (qt .i64 ra 8)) rm,true,()):=rfl
 have c:qbU 17 rd rn rm ra imm cond w=(bor .i64 64416 rn,bor .i64 (bor .i64 (qt .i64 rd 12) (qt .i64 ra 8)) rm,true,()):=rfl
 rw[b,o,c]
 rfl
theorem qOh (rd rn rm ra imm cond:Int) (w:Bool) (h:qf (18,rd,rn,rm,ra,imm,cond,w,())=0):(qG (18,rd,rn,rm,ra,imm,cond,w,())).val=some (qbU 18 rd rn rm ra imm cond w):=by
 have b:(qG (18,rd,rn,rm,ra,imm,cond,w,())).val=(bif (PO.val (qJ (18,rd,rn,rm,ra,imm,cond,w,()))).isSome then some ((PO.val (qJ (18,rd,rn,rm,ra,imm,cond,w,()))).getD default) else none):=rfl
 obtain⟨c1,c2,c3,c4⟩:=qKQ h
 have hs:w64 (w64 (imm+ra)-1)=imm+ra-1:=by rw[qu (n:=imm+ra) (by omega) (by omega),qu (by omega) (by omega)]
 obtain⟨n,hn⟩:=Int.eq_ofNat_of_zero_le (show 0≤imm+ra-1 by omega)
 have g:=qk4 n [(imm,2,3,12,()),(rd,0,4,8,()),(imm,0,2,6,())] (by omega) rfl
 have o:(qJ (18,rd,rn,rm,ra,imm,cond,w,())).val=some (bor .i64 62304 rn,qg (imm+ra-1,[(imm,2,3,12,()),(rd,0,4,8,()),(imm,0,2,6,())]),true,()):=by
  refine Eq.trans (b:=(bif qT (w64 (w64 (imm+ra)-1),[(imm,2,3,12,()),(rd,0,4,8,()),(imm,0,2,6,())]) then some (bor .i64 62304 rn,qg (w64 (w64 (imm+ra)-1),[(imm,2,3,12,()),(rd,0,4,8,()),(imm,0,2,6,())]),true,()) else none)) rfl ?_
  rw[hs,hn,g]
  rfl
 have c:qbU 18 rd rn rm ra imm cond w=(bor .i64 62304 rn,qg (imm+ra-1,[(imm,2,3,12,()),(rd,0,4,8,()),(imm,0,2,6,())]),true,()):=rfl
 rw[b,o,c]
 rfl
theorem qOg (rd rn rm ra imm cond:Int) (w:Bool) (_:qf (19,rd,rn,rm,ra,imm,cond,w,())=0):(qG (19,rd,rn,rm,ra,imm,cond,w,())).val=some (qbU 19 rd rn rm ra imm cond w):=by
 have b:(qG (19,rd,rn,rm,ra,imm,cond,w,())).val=(bif (PO.val (qJ (19,rd,rn,rm,ra,imm,cond,w,()))).isSome then some ((PO.val (qJ (19,rd,rn,rm,ra,imm,cond,w,()))).getD default) else none):=rfl
 have e:(qbJ (26624,rd,rn)).val=some (qg (26624,[(rd,0,3,0,()),(rn,0,3,3,())]),0,false,()):=qp0 26624 rd rn (by omega)
 have o:(qJ (19,rd,rn,rm,ra,imm,cond,w,())).val=some (qg (26624,[(rd,0,3,0,()),(rn,0,3,3,())]),0,false,()):=by
  refine Eq.trans (b:=(bif (PO.val (qbJ (26624,rd,rn))).isSome then some ((PO.val (qbJ (26624,rd,rn))).getD default) else none)) rfl ?_
  rw[e]
  rfl
 have c:qbU 19 rd rn rm ra imm cond w=(qg (26624,[(rd,0,3,0,()),(rn,0,3,3,())]),0,false,()):=rfl
 rw[b,o,c]
 rfl
theorem qPn (rd rn rm ra imm cond:Int) (w:Bool) (_:qf (20,rd,rn,rm,ra,imm,cond,w,())=0):(qG (20,rd,rn,rm,ra,imm,cond,w,())).val=some (qbU 20 rd rn rm ra imm cond w):=by
 have b:(qG (20,rd,rn,rm,ra,imm,cond,w,())).val=(bif (PO.val (qJ (20,rd,rn,rm,ra,imm,cond,w,()))).isSome then some ((PO.val (qJ (20,rd,rn,rm,ra,imm,cond,w,()))).getD default) else none):=rfl
 have e:(qbJ (24576,rd,rn)).val=some (qg (24576,[(rd,0,3,0,()),(rn,0,3,3,())]),0,false,()):=qp0 24576 rd rn (by omega)
 have o:(qJ (20,rd,rn,rm,ra,imm,cond,w,())).val=some (qg (24576,[(rd,0,3,0,()),(rn,0,3,3,())]),0,false,()):=by
  refine Eq.trans (b:=(bif (PO.val (qbJ (24576,rd,rn))).isSome then some ((PO.val (qbJ (24576,rd,rn))).getD default) else none)) rfl ?_
  rw[e]
  rfl
 have c:qbU 20 rd rn rm ra imm cond w=(qg (24576,[(rd,0,3,0,()),(rn,0,3,3,())]),0,false,()):=rfl
 rw[b,o,c]
 rfl
theorem qPb (rd rn rm ra imm cond:Int) (w:Bool) (_:qf (21,rd,rn,rm,ra,imm,cond,w,())=0):(qG (21,rd,rn,rm,ra,imm,cond,w,())).val=some (qbU 21 rd rn rm ra imm cond w):=by
 have b:(qG (21,rd,rn,rm,ra,imm,cond,w,())).val=(bif (PO.val (qJ (21,rd,rn,rm,ra,imm,cond,w,()))).isSome then some ((PO.val (qJ (21,rd,rn,rm,ra,imm,cond,w,()))).getD default) else none):=rfl
 have e:(qbJ (30720,rd,rn)).val=some (qg (30720,[(rd,0,3,0,()),(rn,0,3,3,())]),0,false,()):=qp0 30720 rd rn (by omega)
 have o:(qJ (21,rd,rn,rm,ra,imm,cond,w,())).val=some (qg (30720,[(rd,0,3,0,()),(rn,0,3,3,())]),0,false,()):=by
  refine Eq.trans (b:=(bif (PO.val (qbJ (30720,rd,rn))).isSome then some ((PO.val (qbJ (30720,rd,rn))).getD default) else none)) rfl ?_
  rw[e]
  rfl
 have c:qbU 21 rd rn rm ra imm cond w=(qg (30720,[(rd,0,3,0,()),(rn,0,3,3,())]),0,false,()):=rfl
 rw[b,o,c]
 rfl
theorem qPf (rd rn rm ra imm cond:Int) (w:Bool) (_:qf (22,rd,rn,rm,ra,imm,cond,w,())=0):(qG (22,rd,rn,rm,ra,imm,cond,w,())).val=some (qbU 22 rd rn rm ra imm cond w):=by
 have b:(qG (22,rd,rn,rm,ra,imm,cond,w,())).val=(bif (PO.val (qJ (22,rd,rn,rm,ra,imm,cond,w,()))).isSome then some ((PO.val (qJ (22,rd,rn,rm,ra,imm,cond,w,()))).getD default) else none):=rfl
 have e:(qbJ (28672,rd,rn)).val=some (qg (28672,[(rd,0,3,0,()),(rn,0,3,3,())]),0,false,()):=qp0 28672 rd rn (by omega)
 have o:(qJ (22,rd,rn,rm,ra,imm,cond,w,())).val=some (qg (28672,[(rd,0,3,0,()),(rn,0,3,3,())]),0,false,()):=by
  refine Eq.trans (b:=(bif (PO.val (qbJ (28672,rd,rn))).isSome then some ((PO.val (qbJ (28672,rd,rn))).getD default) else none)) rfl ?_
  rw[e]
  rfl
 have c:qbU 22 rd rn rm ra imm cond w=(qg (28672,[(rd,0,3,0,()),(rn,0,3,3,())]),0,false,()):=rfl
 rw[b,o,c]
 rfl
theorem qO3 (rd rn rm ra imm cond:Int) (w:Bool) (_:qf (23,rd,rn,rm,ra,imm,cond,w,())=0):(qG (23,rd,rn,rm,ra,imm,cond,w,())).val=some (qbU 23 rd rn rm ra imm cond w):=by
 have b:(qG (23,rd,rn,rm,ra,imm,cond,w,())).val=(bif (PO.val (qJ (23,rd,rn,rm,ra,imm,cond,w,()))).isSome then some ((PO.val (qJ (23,rd,rn,rm,ra,imm,cond,w,()))).getD default) else none):=rfl
 have e:(qbJ (17024,rn,rm)).val=some (qg (17024,[(rn,0,3,0,()),(rm,0,3,3,())]),0,false,()):=qp0 17024 rn rm (by omega)
 have o:(qJ (23,rd,rn,rm,ra,imm,cond,w,())).val=some (qg (17024,[(rn,0,3,0,()),(rm,0,3,3,())]),0,false,()):=by
  refine Eq.trans (b:=(bif (PO.val (qbJ (17024,rn,rm))).isSome then some ((PO.val (qbJ (17024,rn,rm))).getD default) else none)) rfl ?_
  rw[e]
  rfl
 have c:qbU 23 rd rn rm ra imm cond w=(qg (17024,[(rn,0,3,0,()),(rm,0,3,3,())]),0,false,()):=rfl
 rw[b,o,c]
 rfl
theorem qOD (rd rn rm ra imm cond:Int) (w:Bool) (_:qf (24,rd,rn,rm,ra,imm,cond,w,())=0):(qG (24,rd,rn,rm,ra,imm,cond,w,())).val=some (qbU 24 rd rn rm ra imm cond w):=by
 have b:(qG (24,rd,rn,rm,ra,imm,cond,w,())).val=(bif (PO.val (qJ (24,rd,rn,rm,ra,imm,cond,w,()))).isSome then some ((PO.val (qJ (24,rd,rn,rm,ra,imm,cond,w,()))).getD default) else none):=rfl
 have e:(qdt (24,rd,rn,rm,ra,imm,cond,w,())).val=some (qn2 24 imm cond):=qC3 24 rd rn rm ra imm cond w
 have g:qT (57344,[(imm,1,11,0,())])=true:=qk4 57344 [(imm,1,11,0,())] (by omega) rfl
 have o:(qJ (24,rd,rn,rm,ra,imm,cond,w,())).val=some (bif w then qn2 24 imm cond else(qg (57344,[(imm,1,11,0,())]),0,false,())):=by
  refine Eq.trans (b:=(bif w then(bif (PO.val (qdt (24,rd,rn,rm,ra,imm,cond,w,()))).isSome then some ((PO.val (qdt (24,rd,rn,rm,ra,imm,cond,w,()))).getD default) else none) else(bif qT (57344,[(imm,1,11,0,())]) then some (qg (57344,[(imm,1,11,0,())]),0,false,()) else none))) rfl ?_
  rw[e,g]
  cases w<;>rfl
 have c:qbU 24 rd rn rm ra imm cond w=(bif w then qn2 24 imm cond else(qg (57344,[(imm,1,11,0,())]),0,false,())):=rfl
 rw[b,o,c]
 rfl
theorem qOq (rd rn rm ra imm cond:Int) (w:Bool) (_:qf (25,rd,rn,rm,ra,imm,cond,w,())=0):(qG (25,rd,rn,rm,ra,imm,cond,w,())).val=some (qbU 25 rd rn rm ra imm cond w):=by
 have b:(qG (25,rd,rn,rm,ra,imm,cond,w,())).val=(bif (PO.val (qJ (25,rd,rn,rm,ra,imm,cond,w,()))).isSome then some ((PO.val (qJ (25,rd,rn,rm,ra,imm,cond,w,()))).getD default) else none):=rfl
 have e:(qdt (25,rd,rn,rm,ra,imm,cond,w,())).val=some (qn2 25 imm cond):=qC3 25 rd rn rm ra imm cond w
 have g:qT (53248,[(cond,0,4,8,()),(imm,1,8,0,())])=true:=qk4 53248 [(cond,0,4,8,()),(imm,1,8,0,())] (by omega) rfl
 have o:(qJ (25,rd,rn,rm,ra,imm,cond,w,())).val=some (bif w then qn2 25 imm cond else(qg (53248,[(cond,0,4,8,()),(imm,1,8,0,())]),0,false,())):=by
  refine Eq.trans (b:=(bif w then(bif (PO.val (qdt (25,rd,rn,rm,ra,imm,cond,w,()))).isSome then some ((PO.val (qdt (25,rd,rn,rm,ra,imm,cond,w,()))).getD default) else none) else(bif qT (53248,[(cond,0,4,8,()),(imm,1,8,0,())]) then some (qg (53248,[(cond,0,4,8,()),(imm,1,8,0,())]),0,false,()) else none))) rfl ?_
  rw[e,g]
  cases w<;>rfl
 have c:qbU 25 rd rn rm ra imm cond w=(bif w then qn2 25 imm cond else(qg (53248,[(cond,0,4,8,()),(imm,1,8,0,())]),0,false,())):=rfl
 rw[b,o,c]
 rfl
theorem qwS (op rd rn rm ra imm cond:Int) (w:Bool) (h:qf (op,rd,rn,rm,ra,imm,cond,w,())=0):(qG (op,rd,rn,rm,ra,imm,cond,w,())).val=some (qbU op rd rn rm ra imm cond w):=by
 rcases qi2 op with rfl |rfl |rfl |rfl |rfl |rfl |rfl |rfl |rfl |rfl |rfl |rfl |rfl |rfl |rfl |rfl |rfl |rfl |rfl |rfl |rfl |rfl |rfl |rfl |rfl |hop
 case inr.inr.inr.inr.inr.inr.inr.inr.inr.inr.inr.inr.inr.inr.inr.inr.inr.inr.inr.inr.inr.inr.inr.inr.inr =>
  exfalso
  have e:=fun k hk=>qnv (n:=op) (k:=k) hop hk
  simp[qf,qb5,qbc,qcc,PO.qH,PO.val,e] at h
 ·exact qP3 rd rn rm ra imm cond w h
 ·exact qQh rd rn rm ra imm cond w h
 ·exact qPL rd rn rm ra imm cond w h
 ·exact qQS rd rn rm ra imm cond w h
 ·exact qPN rd rn rm ra imm cond w h
 ·exact qPZ rd rn rm ra imm cond w h
 ·exact qP4 rd rn rm ra imm cond w h
 ·exact qQe rd rn rm ra imm cond w h
 ·exact qQ3 rd rn rm ra imm cond w h
 ·exact qPr rd rn rm ra imm cond w h
 ·exact qO2 rd rn rm ra imm cond w h
 ·exact qOP rd rn rm ra imm cond w h
 ·exact qPo rd rn rm ra imm cond w h
 ·exact qPJ rd rn rm ra imm cond w h
 ·exact qOG rd rn rm ra imm cond w h
 ·exact qOi rd rn rm ra imm cond w h
 ·exact qOp rd rn rm ra imm cond w h
 ·exact qOh rd rn rm ra imm cond w h
 ·exact qOg rd rn rm ra imm cond w h
 ·exact qPn rd rn rm ra imm cond w h
 ·exact qPb rd rn rm ra imm cond w h
 ·exact qPf rd rn rm ra imm cond w h
 ·exact qO3 rd rn rm ra imm cond w h
 ·exact qOD rd rn rm ra imm cond w h
 ·exact qOq rd rn rm ra imm cond w h
theorem qu9 (op rd rn rm ra imm cond:Int) (w:Bool) (h:qf (op,rd,rn,rm,ra,imm,cond,w,())=0):(qbU op rd rn rm ra imm cond w).2.2.1=qbR op w:=by
 have hwide:∀op:Int,(qn2 op imm cond).2.2.1=true:=fun op=>by unfold qn2;cases op==25<;>rfl
 rcases qi2 op with rfl |rfl |rfl |rfl |rfl |rfl |rfl |rfl |rfl |rfl |rfl |rfl |rfl |rfl |rfl |rfl |rfl |rfl |rfl |rfl |rfl |rfl |rfl |rfl |rfl |hop
 case inr.inr.inr.inr.inr.inr.inr.inr.inr.inr.inr.inr.inr.inr.inr.inr.inr.inr.inr.inr.inr.inr.inr.inr.inr =>
  exfalso
  have e:=fun k hk=>qnv (n:=op) (k:=k) hop hk
  simp[qf,qb5,qbc,qcc,PO.qH,PO.val,e] at h
 all_goals
  have hw:w=false∨w=true:=by cases w<;>simp
  rcases hw with rfl |rfl
  ·rfl
  ·first
   |(exfalso;simp[qf,qb5,PO.qH,PO.val] at h;done)
   |rfl
   |exact hwide _
end Go.Av
end
section
namespace Go.Av
open Go
abbrev qk7:List Ty:=[qA]
abbrev qot:Sh:=Sh.ty (Ty.int IntKind.i64)
def qrU (x:qd qk7):PO (Sh.den qot) :=
 (.ite (qf x != 0)
  (.ret (0))
  (.ite (qfb x)
  (.ite ((qb0 x).2.2.1)
   (.ret (4))
   (.ret (2)))
  .fail))
def qrS (_:qd qk7):Bool:=true
def qci (x:qd qk7):Sh.den qot:=bif qf x != 0 then 0 else bif qbR x.1 x.2.2.2.2.2.2.2.1 then 4 else 2
theorem qNj (x:qA.den):(qrU x).val=some (bif qf x != 0 then 0 else bif qbR x.1 x.2.2.2.2.2.2.2.1 then 4 else 2):=by
 obtain⟨op,rd,rn,rm,ra,imm,cond,w,u⟩:=x
 show(bif qf (op,rd,rn,rm,ra,imm,cond,w,()) != 0 then some 0 else(bif (qG (op,rd,rn,rm,ra,imm,cond,w,())).val.isSome then(bif ((qG (op,rd,rn,rm,ra,imm,cond,w,())).val.getD default).2.2.1 then some 4 else some 2) else none))=some (bif qf (op,rd,rn,rm,ra,imm,cond,w,()) != 0 then 0 else bif qbR op w then 4 else 2)
 cases hc:(qf (op,rd,rn,rm,ra,imm,cond,w,()) != (0:Int))
 ·have h:qf (op,rd,rn,rm,ra,imm,cond,w,())=0:=by simpa using hc
  rw[qwS op rd rn rm ra imm cond w h]
  show(bif (qbU op rd rn rm ra imm cond w).2.2.1 then some 4 else some 2)=some (bif qbR op w then 4 else 2)
  rw[qu9 op rd rn rm ra imm cond w h]
  cases qbR op w<;>rfl
 ·rfl
theorem qAZ (x:qd qk7) (_:qrS x=true):(qrU x).val=some (qci x):=qNj x
end Go.Av
end
section
namespace Go.Av
open Go
end Go.Av
end
section
namespace Go.Av
open Go
def bt (m j:Nat):Nat:=m / 2 ^ j % 2
theorem qID (m j:Nat):bt m j=(m.testBit j).toNat:=(Nat.toNat_testBit m j).symm
theorem qRv (m j:Nat):bt m j≤1:=by unfold bt;omega
end Go.Av
end
section
namespace Go.Av
open Go
end Go.Av
end
section
namespace Go.Av
open Go
def qcv (l:List Int):List Int:=l.map fun n=>(wn n:Int)
theorem qqb (l:List Int):(qcv l).length=l.length:=by simp[qcv]
def qoL (l:List Int) (k:Nat):List Int:=(qcv l).take k++l.drop k
theorem qE6 (l:List Int) {k:Nat} (h:k<l.length):(qoL l k).set k (wn l[k]:Int)=qoL l (k+1):=by
 unfold qoL
 have h1:((qcv l).take k).length=k:=by rw[List.length_take,qqb];omega
 rw[List.set_append_right _ _ (by omega),h1,Nat.sub_self,List.drop_eq_getElem_cons h,List.set_cons_zero,List.take_succ_eq_append_getElem (by rw[qqb];omega),List.append_assoc]
 simp[qcv]
theorem qHN (l:List Int) {k:Nat} (h:l.length≤k):qoL l k=qcv l:=by
 unfold qoL
 rw[List.take_of_length_le (by rw[qqb];omega),List.drop_of_length_le h,List.append_nil]
theorem qEs (l:List Int):qoL l 0=l:=by simp[qoL]
abbrev qmy:List Ty:=[qE,(.int .i64)]
abbrev qpz:Sh:=Sh.ty Ty.bool
def qpy (x:qd qmy):PO (Sh.den qpz) :=
 (.ite (decide (x.2<0)||decide (x.2 > 13))
  (.ret (false))
  (.ret ((bif qw IntKind.i64 x.2 1==0 then x.1.2.2.2.1 else bif qw IntKind.i64 x.2 1==1 then x.1.2.2.2.2.1 else bif qw IntKind.i64 x.2 1==2 then x.1.2.2.1 else bif qw IntKind.i64 x.2 1==3 then x.1.2.2.2.2.2.1 else bif qw IntKind.i64 x.2 1==4 then x.1.2.2.2.2.1&&!x.1.2.2.2.1 else bif qw IntKind.i64 x.2 1==5 then x.1.2.2.1==x.1.2.2.2.2.2.1 else qw IntKind.i64 x.2 1==6&&(!x.1.2.2.2.1&&x.1.2.2.1==x.1.2.2.2.2.2.1))==(qR IntKind.i64 x.2 1==0))))
def qsy (_:qd qmy):Bool:=true
def qhA (x:qd qmy):Sh.den qpz:=(qpy x).qH default
theorem qBr (x:qd qmy) (_:qsy x=true):(qpy x).val=some (qhA x):=PO.qco default (by simp[qpy,PO.sure])
abbrev qnI:List Ty:=[qE,qA]
abbrev qqP:Sh:=Sh.ty Ty.bool
def ql0 (x:qd qnI):PO (Sh.den qqP) :=
 (.ite (x.2.1==24||(x.2.1==25||true))
  (.ret (x.2.1==24||x.2.1==25&&qhA (x.1,x.2.2.2.2.2.2.2.1)))
  .fail)
def qtB (_:qd qnI):Bool:=true
def qeu (x:qd qnI):Sh.den qqP:=(ql0 x).qH default
theorem qDW (x:qd qnI) (_:qtB x=true):(ql0 x).val=some (qeu x):=PO.qrm default (by simp[ql0,PO.qw5])
def qh8:LoopN where
 M:=[1,2,6,7]
 T:=[3,4,8,9,10,11,12,13,14,15,16]
 D:=[6,7]
 ss:=[.box 0 0,.box 1 0,.ty (.arr 15 (.int .i64)),.ty (.int .i64)]
 hs:=[.ty qE,.ty qE]
 es:=[.exit 0]
 σ:=(Ty.den (.int .i64))×(Sh.den (.ty qE))×(Sh.den (.ty qE))
 x0:=fun x y=>(x.2.2.2,y.1,y.2)
 put:=fun x _ s=>((x.1,x.2.1,x.2.2.1,s.1),(s.2.1,s.2.2))
 fuel:=fun _ _=>20
 turn:=fun x _ s =>
 (.ite (decide (s.1<15))
  (.ite (inRange s.1 15)
  (.ite (inRange s.1 15)
   (.ret (.on (w64 (s.1+1),(List.set s.2.1.1 (Int.toNat s.1) (qL (List.getD x.2.2.1 (Int.toNat s.1) (Ty.dflt (Ty.int IntKind.i64)))),s.2.1.2),s.2.2)))
   .fail)
  .fail)
  (.ret (.out 0 (s.1,s.2.1,s.2.2))))
abbrev qmq:List Ty:=[qE]
abbrev qpA:Sh:=Sh.ty qE
def qsE (x:qd qmq):PO (Sh.den qpA) :=
 (.opt (LoopN.res qh8 ((),(),x.1,0) (x,[0,0,0,0,0,0,0,0,0,0,0,0,0,0,0],0,false,false,false,false,())) fun p0 =>
  (.ret ((p0.2.2.1.1,qL p0.2.2.1.2.1,p0.2.2.1.2.2))))
theorem qJA (r:List Int) (t u:qE.den) (hr:r.length=15) (ht:t.1=r):qeK (qh8.turn ((),(),r,0) (t,u)) 20 (0,t,u)=some (0,15,(qcv r,t.2),u):=by
 have key:=qdJ (σ:=Int×qE.den×qE.den) (turn:=qh8.turn ((),(),r,0) (t,u)) (fun i=>((i:Int),(qoL r i,t.2),u)) (0,15,(qcv r,t.2),u) (n:=15) (fun i hi=>?_) ?_ 15 0 (by omega) 20 (by omega)
 ·simp only[qEs] at key
  rw[←ht] at key ⊢
  exact key
 ·have h1:decide ((i:Int)<15)=true:=qK (by omega)
  have hi':i<r.length:=by omega
  show(bif decide ((i:Int)<15) then(bif inRange (i:Int) 15 then(bif inRange (i:Int) 15 then some (TL.on (w64 ((i:Int)+1),((qoL r i).set (Int.toNat (i:Int)) (wn (r.getD (Int.toNat (i:Int)) 0):Int),t.2),u)) else none) else none) else _)=_
  rw[h1,inR hi,Int.toNat_natCast,qet r _ hi',qE6 r hi',qu (by omega) (by omega)]
  rfl
 ·show(bif decide (((15:Nat):Int)<15) then _ else _)=_
  rw[qC (by omega),qHN r (by omega)]
  rfl
def qhB (x:qd qmq):Bool:=decide (List.length x.1=15)
def qb7 (x:qd qmq):Sh.den qpA:=(qcv x.1,(wn x.2.1:Int),x.2.2)
theorem qCn (x:qd qmq) (h:qhB x=true):(qsE x).val=some (qb7 x):=by
 have h15:List.length x.1=15:=of_decide_eq_true h
 unfold qsE PO.val
 have:LoopN.res qh8 ((),(),x.1,0) (x,[0,0,0,0,0,0,0,0,0,0,0,0,0,0,0],0,false,false,false,false,())=some (0,(15:Int),(qcv x.1,x.2),([0,0,0,0,0,0,0,0,0,0,0,0,0,0,0],0,false,false,false,false,())):=qJA x.1 x _ h15 rfl
 rw[this]
 rfl
end Go.Av
end
section
namespace Go.Av
open Go
def qmg (m f a k:Nat):Nat:=2 ^ a*(2 ^ k*(m / 2 ^ (a+k))+f % 2 ^ k)+m % 2 ^ a
theorem qLY (m f a k j:Nat):(qmg m f a k).testBit j=if j<a then m.testBit j else if j<a+k then f.testBit (j-a) else m.testBit j:=by
 unfold qmg
 rw[Nat.testBit_two_pow_mul_add _ (Nat.mod_lt _ (Nat.two_pow_pos a))]
 split
 ·rename_i h
  rw[Nat.testBit_mod_two_pow,decide_eq_true h,Bool.true_and]
 ·rename_i h
  rw[Nat.testBit_two_pow_mul_add _ (Nat.mod_lt _ (Nat.two_pow_pos k))]
  split
  ·rename_i h2
   rw[if_pos (by omega),Nat.testBit_mod_two_pow,decide_eq_true h2,Bool.true_and]
  ·rename_i h2
   rw[if_neg (by omega),Nat.testBit_div_two_pow]
   congr 1
   omega
theorem qxe (a k j:Nat):((2 ^ k-1)*2 ^ a).testBit j=(decide (a≤j)&&decide (j<a+k)):=by
 rw[Nat.testBit_mul_two_pow,Nat.testBit_two_pow_sub_one]
 by_cases h:a≤j
 ·rw[show decide (j-a<k)=decide (j<a+k) from decide_eq_decide.2 (by omega)]
 ·rw[qC h];rfl
theorem qHa {a k:Nat} (h:a+k≤32):(2 ^ k-1)*2 ^ a<4294967296:=by
 refine Nat.lt_pow_two_of_testBit (n:=32) _ fun j hj=>?_
 rw[qxe,qC (show ¬j<a+k by omega),Bool.and_false]
theorem qHy {m f a k:Nat} (hm:m<4294967296) (h:a+k≤32):(f*2 ^ a % 4294967296 &&& (2 ^ k-1)*2 ^ a) |||(m &&& (4294967295-(2 ^ k-1)*2 ^ a))=qmg m f a k:=by
 refine Nat.eq_of_testBit_eq fun j=>?_
 rw[qLY,Nat.testBit_or,Nat.testBit_and,Nat.testBit_and,qxe,show 4294967295-(2 ^ k-1)*2 ^ a=2 ^ 32-((2 ^ k-1)*2 ^ a+1) by omega,Nat.testBit_two_pow_sub_succ (qHa h),qxe,show(4294967296:Nat)=2 ^ 32 from rfl,Nat.testBit_mod_two_pow,Nat.testBit_mul_two_pow]
 by_cases h32:j<32
 ·by_cases ha:j<a
  ·simp[ha,h32,show ¬a≤j by omega]
  ·by_cases hk:j<a+k
   ·simp[ha,h32,hk,show a≤j by omega]
   ·simp[ha,h32,hk,show a≤j by omega]
 ·have hz:m.testBit j=false:=Nat.testBit_lt_two_pow (Nat.lt_of_lt_of_le hm (Nat.pow_le_pow_right (n:=2) (by omega) (show 32≤j by omega)))
  have ha:¬j<a:=by omega
  have hk:¬j<a+k:=by omega
  simp[h32,hz,ha,hk]
abbrev qll:List Ty:=[(.int .i64),(.int .i64),(.int .i64),(.int .i64)]
abbrev qoI:Sh:=Sh.ty (Ty.int IntKind.i64)
def qrA (x:qd qll):PO (Sh.den qoI) :=
 (.ite (!decide (x.2.2.2<0)&&(!decide (x.2.2.1<0)&&true))
  (.ret (qkm (qL (qt IntKind.i64 (w64 (qt IntKind.i64 1 x.2.2.2-1)) x.2.2.1),qlO (x.2.1,x.2.2.1),x.1)))
  .fail)
def qfQ (x:qd qll):Bool:=decide ((0:Int)≤x.2.2.1)&&(decide ((0:Int)≤x.2.2.2)&&(decide ((x.2.2.1:Int)+x.2.2.2≤32)&&decide ((x.2.2.1:Int)<32)))
def qhJ (x:qd qll):Sh.den qoI:=(qmg (wn x.1) (wn x.2.1) (Int.toNat x.2.2.1) (Int.toNat x.2.2.2):Int)
theorem qH5 (m f:Int) (a k:Nat) (h:a+k≤32) (ha:a<32):(qrA (m,f,(a:Int),(k:Int))).val=some ((qmg (wn m) (wn f) a k:Nat):Int):=by
 have h1:decide ((k:Int)<0)=false:=qC (by omega)
 have h2:decide ((a:Int)<0)=false:=qC (by omega)
 have hp:2 ^ k≤2 ^ 32:=qfO (by omega)
 have hk1:qt .i64 1 (k:Int)=((2 ^ k:Nat):Int):=by
  rw[qlI _ _ (by omega),Int.one_mul,show(2:Int) ^ k=((2 ^ k:Nat):Int) by simp]
  exact qpj (by omega)
 have hpos:=Nat.two_pow_pos k
 have hm1:w64 (((2 ^ k:Nat):Int)-1)=((2 ^ k-1:Nat):Int):=by
  generalize 2 ^ k=q at *
  rw[qu (by omega) (by omega)]
  omega
 have hml:=qHa h
 have hkk:kk (a:Int)=a:=by unfold kk;omega
 show(bif !decide ((k:Int)<0)&&(!decide ((a:Int)<0)&&true) then some (((wn ((wn f*2 ^ kk (a:Int) % 4294967296:Nat):Int) &&& wn ((wn (qt .i64 (w64 (qt .i64 1 (k:Int)-1)) (a:Int)):Nat):Int)) |||(wn m &&& (4294967295-wn ((wn (qt .i64 (w64 (qt .i64 1 (k:Int)-1)) (a:Int)):Nat):Int))):Nat):Int) else none)=_
 rw[h1,h2,hk1,hm1,qxy _ _ (by omega),hkk,Nat.mod_eq_of_lt hml,qc1 (Nat.mod_lt _ (by omega)),qc1 hml,qHy (qga m) h]
 rfl
theorem qAR (x:qd qll) (h:qfQ x=true):(qrA x).val=some (qhJ x):=by
 obtain⟨m,f,a,k⟩:=x
 simp only[qfQ,Bool.and_eq_true,decide_eq_true_eq] at h
 obtain⟨h1,h2,h3,h4⟩:=h
 obtain⟨a,rfl⟩:=Int.eq_ofNat_of_zero_le h1
 obtain⟨k,rfl⟩:=Int.eq_ofNat_of_zero_le h2
 have h3':(a:Int)+(k:Int)≤32:=h3
 have h4':(a:Int)<32:=h4
 exact qH5 m f a k (by omega) (by omega)
abbrev qkj:List Ty:=[(.int .i64),(.int .i64),(.int .i64)]
abbrev qmF:Sh:=Sh.ty (Ty.int IntKind.i64)
def qky (x:qd qkj):PO (Sh.den qmF) :=
 (.ite (x.1==5)
  (.ret (qlO (x.2.1,x.2.2)))
  (.ite (x.1==6)
  (.ret (qik (x.2.1,x.2.2)))
  (.ite (x.1==7)
   (.ret (qnL (x.2.1,x.2.2)))
   (.ret (qnP (x.2.1,x.2.2))))))
def qqy (_:qd qkj):Bool:=true
def qki (x:qd qkj):Sh.den qmF:=(qky x).qH default
theorem qze (x:qd qkj) (_:qqy x=true):(qky x).val=some (qki x):=PO.qco default (by simp[qky,PO.sure])
abbrev qpV:List Ty:=[(.int .i64),(.int .i64),(.int .i64)]
abbrev qsj:Sh:=Sh.ty (Ty.int IntKind.i64)
def qpU (x:qd qpV):PO (Sh.den qsj) :=
 (.ite (x.1==10)
  (.ret (qiC (x.2.1,x.2.2)))
  (.ite (x.1==11)
  (.ret (qiC (x.2.1,qdr x.2.2)))
  (.ite (x.1==12)
   (.ret (qiK (x.2.1,x.2.2)))
   (.ite (x.1==13)
   (.ret (qgw (x.2.1,x.2.2)))
   (.ite (x.1==14)
    (.ret (qgx (x.2.1,x.2.2)))
    (.ite (x.1==15)
    (.ret (qhh (x.2.1,x.2.2)))
    (.ret (qiz (x.2.1,x.2.2)))))))))
def qvr (_:qd qpV):Bool:=true
def qp2 (x:qd qpV):Sh.den qsj:=(qpU x).qH default
theorem qIp (x:qd qpV) (_:qvr x=true):(qpU x).val=some (qp2 x):=PO.qco default (by simp[qpU,PO.sure])
abbrev qks:List Ty:=[qE,(.int .i64),(.int .i64)]
abbrev qm6:Sh:=Sh.ty qE
def qmD (x:qd qks):PO (Sh.den qm6) :=
 (.ret ((x.1.1,x.1.2.1,qlV (qhh (x.2.1,x.2.2),31)==1,qhh (x.2.1,x.2.2)==0,decide (x.2.1≥x.2.2),qlV (qiC (qgw (x.2.1,x.2.2),qgw (x.2.1,qhh (x.2.1,x.2.2))),31)==1,x.1.2.2.2.2.2.2)))
def qqf (_:qd qks):Bool:=true
def qf4 (x:qd qks):Sh.den qm6:=(qmD x).qH default
theorem qzq (x:qd qks) (_:qqf x=true):(qmD x).val=some (qf4 x):=PO.qco default (by simp[qmD,PO.sure])
end Go.Av
end
section
namespace Go.Av
open Go
theorem qIJ (A:Bool) (x:Option Int):(bif A then some 2 else x).getD 0=0↔A=false∧x.getD 0=0:=by cases A<;>simp
theorem qMX (A:Bool) (x:Option Int):(bif A then some 6 else x).getD 0=0↔A=false∧x.getD 0=0:=by cases A<;>simp
set_option maxHeartbeats 1000000 in
theorem qlJ {op rd rn rm ra imm cond:Int} {w:Bool} (h:qf (op,rd,rn,rm,ra,imm,cond,w,())=0) :
  (1≤op∧op≤25)∧(0≤rd∧rd≤12)∧(0≤rn∧rn≤12)∧(0≤rm∧rm≤12)∧(op=17→0≤ra∧ra≤12∧ra≠rd)∧(op≠24→op≠25→0≤imm∧imm≤65535∧w=false∧cond=0)∧(5≤op→op≤23→imm≤31)∧(op=18→1≤ra∧ra≤32-imm)∧(6≤op→op≤8→1≤imm):=by
 have hw:=qp1 imm
 rcases qi2 op with rfl |rfl |rfl |rfl |rfl |rfl |rfl |rfl |rfl |rfl |rfl |rfl |rfl |rfl |rfl |rfl |rfl |rfl |rfl |rfl |rfl |rfl |rfl |rfl |rfl |hop
 case inr.inr.inr.inr.inr.inr.inr.inr.inr.inr.inr.inr.inr.inr.inr.inr.inr.inr.inr.inr.inr.inr.inr.inr.inr =>
  exfalso
  have e:=fun k hk=>qnv (n:=op) (k:=k) hop hk
  simp[qf,qb5,qbc,qcc,PO.qH,PO.val,e] at h
 all_goals
  simp[qf,qb5,qbc,qcc,qcu,qfk,qb3,qdC,PO.qH,PO.val,qft,qfw,qbP,qf3] at h ⊢
  simp only[qIJ,qMX,Bool.or_eq_false_iff,Bool.not_eq_false',decide_eq_true_eq,bne_eq_false_iff_eq,beq_iff_eq] at h
  grind
theorem qJ6:IntKind.i64.wrap (-1048576)=-1048576:=rfl
theorem qLx:IntKind.i64.wrap 1048574=1048574:=rfl
set_option maxHeartbeats 1000000 in
theorem qIz {op rd rn rm ra imm cond:Int} {w:Bool} (h:qf (op,rd,rn,rm,ra,imm,cond,w,())=0) :
  (op=2→imm≤255)∧(9≤op→op≤17→imm=0):=by
 have hw:=qp1 imm
 rcases qi2 op with rfl |rfl |rfl |rfl |rfl |rfl |rfl |rfl |rfl |rfl |rfl |rfl |rfl |rfl |rfl |rfl |rfl |rfl |rfl |rfl |rfl |rfl |rfl |rfl |rfl |hop
 case inr.inr.inr.inr.inr.inr.inr.inr.inr.inr.inr.inr.inr.inr.inr.inr.inr.inr.inr.inr.inr.inr.inr.inr.inr =>
  exfalso
  have e:=fun k hk=>qnv (n:=op) (k:=k) hop hk
  simp[qf,qb5,qbc,qcc,PO.qH,PO.val,e] at h
 case inr.inr.inr.inr.inr.inr.inr.inr.inr.inr.inr.inr.inr.inr.inr.inr.inr.inr.inr.inr.inr.inr.inr.inl=>omega
 case inr.inr.inr.inr.inr.inr.inr.inr.inr.inr.inr.inr.inr.inr.inr.inr.inr.inr.inr.inr.inr.inr.inr.inr.inl=>omega
 all_goals
  simp[qf,qb5,qbc,qcc,qcu,qfk,qb3,qdC,PO.qH,PO.val] at h ⊢
  try simp only[qIJ,Bool.or_eq_false_iff,Bool.not_eq_false',decide_eq_true_eq,bne_eq_false_iff_eq,beq_iff_eq] at h
  try grind
theorem qL5 {rd rn rm ra imm cond:Int} (h:qf (25,rd,rn,rm,ra,imm,cond,true,())=0):-1048576≤imm∧imm<1048576:=by
 simp[qf,qb5,qb3,qdC,PO.qH,PO.val,qft,qfw,qbP,qf3,qJ6,qLx] at h
 simp only[qIJ,qMX,Bool.or_eq_false_iff,Bool.not_eq_false',decide_eq_true_eq,bne_eq_false_iff_eq] at h
 grind
end Go.Av
end
section
namespace Go.Av
open Go
theorem qtA:Ty.dflt (.int .i64)=(0:Int):=rfl
theorem qwb {n:Int} (h:0≤n∧n≤12):inRange n 15=true:=by
 unfold inRange
 rw[qK h.1,qK (show n<((15:Nat):Int) by omega)]
 rfl
def vOf (op imm ra d n m ld:Int):Int :=
 bif op==3 then imm
 else bif op==4 then(qmg (wn d) (wn imm) 16 16:Nat)
 else bif op==5 then(wn m*2 ^ kk imm % 4294967296:Nat)
 else bif op==6 then(wn m / 2 ^ kk imm:Nat)
 else bif op==7 then(wn (sw (wn m) / (2 ^ kk imm:Nat)):Nat)
 else bif op==8 then(wn m / 2 ^ kk imm+wn m % 2 ^ kk imm*2 ^ (32-kk imm):Nat)
 else bif op==9 then(4294967295-wn m:Nat)
 else bif op==10 then(wn n &&& wn m:Nat)
 else bif op==11 then(wn n &&& wn ((4294967295-wn m:Nat):Int):Nat)
 else bif op==12 then(wn n |||wn m:Nat)
 else bif op==13 then(wn n ^^^ wn m:Nat)
 else bif op==14 then(wn (n+m):Nat)
 else bif op==15 then(wn (n-m):Nat)
 else bif op==16||op==17 then(wn n*wn m % 4294967296:Nat)
 else bif op==18 then(qmg (wn d) (wn n) imm.toNat ra.toNat:Nat)
 else bif op==19 then(wn ld:Nat)
 else bif op==21 then(wn ld % 256:Nat)
 else d
def qnn (op:Int):Bool:=decide (3≤op)&&decide (op≤19)||op==21
def rg (l:List Int) (k:Int):Int:=l.getD (Int.toNat k) 0
def qka (r:List Int) (op rd rn rm ra imm ld:Int):List Int :=
 bif op==17 then(r.set rd.toNat (wn (rg r rn)*wn (rg r rm) % 4294967296:Nat)).set ra.toNat (wn (rg r rn)*wn (rg r rm) / 4294967296:Nat)
 else bif qnn op then r.set rd.toNat (vOf op imm ra (rg r rd) (rg r rn) (rg r rm) ld)
 else r
def qfg (s:qE.den) (op rd rn rm ra imm ld:Int):qE.den :=
 bif op==23 then qf4 (s,rg s.1 rn,rg s.1 rm) else(qka s.1 op rd rn rm ra imm ld,s.2)
theorem qPE (n:Int):(wn (qR .i64 n 255):Int)=((wn n % 256:Nat):Int):=by
 have h:qR .i64 n 255=n % 256:=qiR n 8 (by omega)
 rw[h]
 unfold wn
 omega
abbrev qml:List Ty:=[qE,qA,(.int .i64)]
abbrev qpN:Sh:=Sh.ty qE
def qkD (x:qd qml):PO (Sh.den qpN) :=
 (.ite (inRange x.2.1.2.2.1 15&&inRange x.2.1.2.2.2.1 15)
  (.ite (x.2.1.1==3)
  (.ite (inRange x.2.1.2.1 15)
   (.ret ((List.set x.1.1 (Int.toNat x.2.1.2.1) x.2.1.2.2.2.2.2.1,x.1.2)))
   .fail)
  (.ite (x.2.1.1==4)
   (.ite (inRange x.2.1.2.1 15)
   (.ite (qfQ (List.getD x.1.1 (Int.toNat x.2.1.2.1) (Ty.dflt (Ty.int IntKind.i64)),x.2.1.2.2.2.2.2.1,16,16))
    (.ite (inRange x.2.1.2.1 15)
    (.ret ((List.set x.1.1 (Int.toNat x.2.1.2.1) (qhJ (List.getD x.1.1 (Int.toNat x.2.1.2.1) (Ty.dflt (Ty.int IntKind.i64)),x.2.1.2.2.2.2.2.1,16,16)),x.1.2)))
    .fail)
    .fail)
   .fail)
   (.ite (bif x.2.1.1==5 then x.2.1.1==5 else bif x.2.1.1==6 then x.2.1.1==6 else bif x.2.1.1==7 then x.2.1.1==7 else x.2.1.1==8)
   (.ite (inRange x.2.1.2.1 15)
    (.ret ((List.set x.1.1 (Int.toNat x.2.1.2.1) (qki (x.2.1.1,List.getD x.1.1 (Int.toNat x.2.1.2.2.2.1) (Ty.dflt (Ty.int IntKind.i64)),x.2.1.2.2.2.2.2.1)),x.1.2)))
    .fail)
   (.ite (x.2.1.1==9)
    (.ite (inRange x.2.1.2.1 15)
    (.ret ((List.set x.1.1 (Int.toNat x.2.1.2.1) (qdr (List.getD x.1.1 (Int.toNat x.2.1.2.2.2.1) (Ty.dflt (Ty.int IntKind.i64)))),x.1.2)))
    .fail)
    (.ite (bif x.2.1.1==10 then x.2.1.1==10 else bif x.2.1.1==11 then x.2.1.1==11 else bif x.2.1.1==12 then x.2.1.1==12 else bif x.2.1.1==13 then x.2.1.1==13 else bif x.2.1.1==14 then x.2.1.1==14 else bif x.2.1.1==15 then x.2.1.1==15 else x.2.1.1==16)
    (.ite (inRange x.2.1.2.1 15)
     (.ret ((List.set x.1.1 (Int.toNat x.2.1.2.1) (qp2 (x.2.1.1,List.getD x.1.1 (Int.toNat x.2.1.2.2.1) (Ty.dflt (Ty.int IntKind.i64)),List.getD x.1.1 (Int.toNat x.2.1.2.2.2.1) (Ty.dflt (Ty.int IntKind.i64)))),x.1.2)))
     .fail)
    (.ite (x.2.1.1==17)
     (.ite (inRange x.2.1.2.1 15)
     (.ite (inRange x.2.1.2.2.2.2.1 15)
      (.ret ((List.set (List.set x.1.1 (Int.toNat x.2.1.2.1) (qiz (List.getD x.1.1 (Int.toNat x.2.1.2.2.1) (Ty.dflt (Ty.int IntKind.i64)),List.getD x.1.1 (Int.toNat x.2.1.2.2.2.1) (Ty.dflt (Ty.int IntKind.i64))))) (Int.toNat x.2.1.2.2.2.2.1) (qkB (List.getD x.1.1 (Int.toNat x.2.1.2.2.1) (Ty.dflt (Ty.int IntKind.i64)),List.getD x.1.1 (Int.toNat x.2.1.2.2.2.1) (Ty.dflt (Ty.int IntKind.i64)))),x.1.2)))
      .fail)
     .fail)
     (.ite (x.2.1.1==18)
     (.ite (inRange x.2.1.2.1 15)
      (.ite (qfQ (List.getD x.1.1 (Int.toNat x.2.1.2.1) (Ty.dflt (Ty.int IntKind.i64)),List.getD x.1.1 (Int.toNat x.2.1.2.2.1) (Ty.dflt (Ty.int IntKind.i64)),x.2.1.2.2.2.2.2.1,x.2.1.2.2.2.2.1))
      (.ite (inRange x.2.1.2.1 15)
       (.ret ((List.set x.1.1 (Int.toNat x.2.1.2.1) (qhJ (List.getD x.1.1 (Int.toNat x.2.1.2.1) (Ty.dflt (Ty.int IntKind.i64)),List.getD x.1.1 (Int.toNat x.2.1.2.2.1) (Ty.dflt (Ty.int IntKind.i64)),x.2.1.2.2.2.2.2.1,x.2.1.2.2.2.2.1)),x.1.2)))
       .fail)
      .fail)
      .fail)
     (.ite (x.2.1.1==21)
      (.ite (inRange x.2.1.2.1 15)
      (.ret ((List.set x.1.1 (Int.toNat x.2.1.2.1) (qL (qR IntKind.i64 x.2.2 255)),x.1.2)))
      .fail)
      (.ite (x.2.1.1==19)
      (.ite (inRange x.2.1.2.1 15)
       (.ret ((List.set x.1.1 (Int.toNat x.2.1.2.1) (qL x.2.2),x.1.2)))
       .fail)
      (.ite (x.2.1.1==23)
       (.ret (qf4 (x.1,List.getD x.1.1 (Int.toNat x.2.1.2.2.1) (Ty.dflt (Ty.int IntKind.i64)),List.getD x.1.1 (Int.toNat x.2.1.2.2.2.1) (Ty.dflt (Ty.int IntKind.i64)))))
       (.ret (x.1))))))))))))
  .fail)
set_option maxHeartbeats 1000000 in
theorem qJm (s:qE.den) (op rd rn rm ra imm cond ld:Int) (w:Bool) (h:qf (op,rd,rn,rm,ra,imm,cond,w,())=0):(qkD (s,(op,rd,rn,rm,ra,imm,cond,w,()),ld)).val=some (qfg s op rd rn rm ra imm ld):=by
 obtain⟨hop,hrd,hrn,hrm,h17,himm,h31,h18,_⟩:=qlJ h
 have i1:=qwb hrd
 have i2:=qwb hrn
 have i3:=qwb hrm
 have hb:=qPE ld
 rcases qi2 op with rfl |rfl |rfl |rfl |rfl |rfl |rfl |rfl |rfl |rfl |rfl |rfl |rfl |rfl |rfl |rfl |rfl |rfl |rfl |rfl |rfl |rfl |rfl |rfl |rfl |hx
 case inr.inr.inr.inr.inr.inr.inr.inr.inr.inr.inr.inr.inr.inr.inr.inr.inr.inr.inr.inr.inr.inr.inr.inr.inr=>omega
 case inr.inr.inr.inr.inr.inr.inr.inr.inr.inr.inr.inr.inr.inr.inr.inr.inl =>
  have i4:=qwb ⟨(h17 rfl).1,(h17 rfl).2.1⟩
  simp[qkD,PO.val,i1,i2,i3,i4,qfg,qka,rg,qiz,qkB,qtA]
 case inr.inr.inr.inr.inr.inr.inr.inr.inr.inr.inr.inr.inr.inr.inr.inr.inr.inl =>
  obtain⟨a1,a2,_⟩:=himm (by omega) (by omega)
  obtain⟨a3,a4⟩:=h18 rfl
  have a5:=h31 (by omega) (by omega)
  have g:∀m f:Int,qfQ (m,f,imm,ra)=true:=fun m f=>by
   simp only[qfQ,Bool.and_eq_true,decide_eq_true_eq]
   exact⟨a1,by show(0:Int)≤ra;omega,by show imm+ra≤32;omega,by show imm<32;omega⟩
  simp[qkD,PO.val,i1,i2,i3,g,qfg,qka,qnn,vOf,rg,qhJ,qtA]
 all_goals
  first
  |(have g:∀m:Int,qfQ (m,imm,16,16)=true:=fun _=>rfl
    simp[qkD,PO.val,i1,i2,i3,g,qfg,qka,qnn,vOf,rg,qhJ,qki,qky,qp2,qpU,PO.qH,qlO,qik,qnL,qnP,qdr,qiC,qiK,qgw,qgx,qhh,qiz,qL,hb,qtA];done)
def qmm (x:qd qml):Bool:=qf x.2.1==0
def qkA (x:qd qml):Sh.den qpN:=qfg x.1 x.2.1.1 x.2.1.2.1 x.2.1.2.2.1 x.2.1.2.2.2.1 x.2.1.2.2.2.2.1 x.2.1.2.2.2.2.2.1 x.2.2
theorem qCG (x:qd qml) (h:qmm x=true):(qkD x).val=some (qkA x):=by
 obtain⟨s,⟨op,rd,rn,rm,ra,imm,cond,w,u⟩,ld⟩:=x
 exact qJm s op rd rn rm ra imm cond ld w (by simpa [qmm] using h)
abbrev qli:List Ty:=[qE,qA]
abbrev qoh:Sh:=Sh.tup (Sh.pair (Sh.ty qF8) (Sh.pair (Sh.ty Ty.bool) (Sh.ty Ty.unit)))
def qlK (x:qd qli):PO (Sh.den qoh) :=
 (.ite (qf x.2 != 0)
  (.ret (((0,0,0,false,()),false,())))
  (.ite (qhB x.1)
  (.ite (inRange x.2.2.2.1 15)
   (.ite (x.2.1==19)
   (.ret (((List.getD (qb7 x.1).1 (Int.toNat x.2.2.2.1) (Ty.dflt (Ty.int IntKind.i64)),4,0,false,()),true,())))
   (.ite (x.2.1==21)
    (.ret (((List.getD (qb7 x.1).1 (Int.toNat x.2.2.2.1) (Ty.dflt (Ty.int IntKind.i64)),1,0,false,()),true,())))
    (.ite (x.2.1==20)
    (.ite (inRange x.2.2.1 15)
     (.ret (((List.getD (qb7 x.1).1 (Int.toNat x.2.2.2.1) (Ty.dflt (Ty.int IntKind.i64)),4,List.getD (qb7 x.1).1 (Int.toNat x.2.2.1) (Ty.dflt (Ty.int IntKind.i64)),true,()),true,())))
     .fail)
    (.ite (x.2.1==22)
     (.ite (inRange x.2.2.1 15)
     (.ret (((List.getD (qb7 x.1).1 (Int.toNat x.2.2.2.1) (Ty.dflt (Ty.int IntKind.i64)),1,qR IntKind.i64 (List.getD (qb7 x.1).1 (Int.toNat x.2.2.1) (Ty.dflt (Ty.int IntKind.i64))) 255,true,()),true,())))
     .fail)
     (.ret (((0,0,0,false,()),false,())))))))
   .fail)
  .fail))
theorem qz8 (l:List Int) (k:Nat):(qcv l).getD k 0=(wn (l.getD k 0):Int):=by
 unfold qcv
 rw[List.getD_eq_getElem?_getD,List.getD_eq_getElem?_getD,List.getElem?_map]
 cases l[k]?<;>rfl
def qgN (bad:Bool) (op a d:Int):(qF8.den×Bool×Unit) :=
 bif bad then((0,0,0,false,()),false,())
 else bif op==19 then((wn a,4,0,false,()),true,())
 else bif op==20 then((wn a,4,wn d,true,()),true,())
 else bif op==21 then((wn a,1,0,false,()),true,())
 else bif op==22 then((wn a,1,(wn d % 256:Nat),true,()),true,())
 else((0,0,0,false,()),false,())
theorem qKR (m:Nat):qR .i64 (m:Int) 255=((m % 256:Nat):Int):=by
 have h:qR .i64 (m:Int) 255=(m:Int) % 256:=qiR m 8 (by omega)
 rw[h]
 omega
def qe1 (x:qd qli):Bool:=decide (List.length x.1.1=15)
def qc (x:qd qli):Sh.den qoh:=qgN (qf x.2 != 0) x.2.1 (rg x.1.1 x.2.2.2.1) (rg x.1.1 x.2.2.1)
theorem qHJ (s:qE.den) (op rd rn rm ra imm cond:Int) (w:Bool) (hs:List.length s.1=15):(qlK (s,(op,rd,rn,rm,ra,imm,cond,w,()))).val=some (qgN (qf (op,rd,rn,rm,ra,imm,cond,w,()) != 0) op (rg s.1 rn) (rg s.1 rd)):=by
 cases hc:(qf (op,rd,rn,rm,ra,imm,cond,w,()) != (0:Int))
 ·have h:qf (op,rd,rn,rm,ra,imm,cond,w,())=0:=by simpa using hc
  obtain⟨hop,hrd,hrn,_⟩:=qlJ h
  have i1:=qwb hrd
  have i2:=qwb hrn
  have g:qhB s=true:=qK hs
  have e1:∀k:Int,List.getD (qb7 s).1 (Int.toNat k) 0=(wn (rg s.1 k):Int):=fun k=>qz8 s.1 _
  simp only[qlK,PO.val,hc,i1,i2,g,qtA]
  rw[e1,e1,qKR]
  unfold qgN
  by_cases h19:op=19
  ·subst h19;rfl
  ·by_cases h20:op=20
   ·subst h20;rfl
   ·by_cases h21:op=21
    ·subst h21;rfl
    ·by_cases h22:op=22
     ·subst h22;rfl
     ·have b19:(op==19)=false:=beq_eq_false_iff_ne.2 h19
      have b20:(op==20)=false:=beq_eq_false_iff_ne.2 h20
      have b21:(op==21)=false:=beq_eq_false_iff_ne.2 h21
      have b22:(op==22)=false:=beq_eq_false_iff_ne.2 h22
      simp[b19,b20,b21,b22]
 ·simp[qlK,PO.val,hc,qgN]
theorem qAT (x:qd qli) (h:qe1 x=true):(qlK x).val=some (qc x):=by
 obtain⟨s,op,rd,rn,rm,ra,imm,cond,w,u⟩:=x
 exact qHJ s op rd rn rm ra imm cond w (of_decide_eq_true h)
end Go.Av
end
