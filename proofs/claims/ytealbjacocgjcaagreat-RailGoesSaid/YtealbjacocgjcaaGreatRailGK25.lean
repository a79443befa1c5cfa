/- Texts of the proof, one behind the other. -/
import Derived.Test.YtealbjacocgjcaaGreatRailGK24
section
namespace Go.Av
open Go
abbrev tI:Ty:=.int .i64
theorem dec_true {p:Prop} [Decidable p] (h:p):decide p=true:=decide_eq_true h
theorem dec_false {p:Prop} [Decidable p] (h:¬p):decide p=false:=decide_eq_false h
theorem w64_id {n:Int} (h1:-9223372036854775808≤n) (h2:n<9223372036854775808):w64 n=n:=wrap_i64 n h1 (by omega)
theorem inR {i n:Nat} (h:i<n):inRange (i:Int) n=true:=by
 simp[inRange]
 omega
theorem runL_count {σ:Type} {turn:σ→PO (TL σ)} (st:Nat→σ) (r:Nat×σ) {n:Nat} (hon:∀i,i<n→(turn (st i)).val=some (.on (st (i+1)))) (hout:(turn (st n)).val=some (.out r.1 r.2)) :
  ∀(k i:Nat),i+k=n→∀f,k<f→runL turn f (st i)=some r
 |0,i,h,f,hf=>by
  obtain⟨f,rfl⟩:∃g,f=g+1:=⟨f-1,by omega⟩
  have:i=n:=by omega
  subst this
  rw[runL_out hout]
 |k+1,i,h,f,hf=>by
  obtain⟨f,rfl⟩:∃g,f=g+1:=⟨f-1,by omega⟩
  have hv:=hon i (by omega)
  rw[runL_on hv]
  exact runL_count st r hon hout k (i+1) (by omega) f (by omega)
theorem getD_nat {α:Type} (l:List α) (i:Nat) (d:α):l.getD (Int.toNat (i:Int)) d=l.getD i d:=by simp
theorem getD_in {α:Type} (l:List α) (d:α) {i:Nat} (hi:i<l.length):l.getD i d=l[i]:=by
 rw[List.getD_eq_getElem?_getD,List.getElem?_eq_getElem hi];rfl
theorem w64_eq (n:Int):w64 n=if 9223372036854775808≤n % 18446744073709551616 then n % 18446744073709551616-18446744073709551616 else n % 18446744073709551616:=by
 have h:w64 n=if(true&&decide (n % 18446744073709551616≥9223372036854775808))=true then n % 18446744073709551616-18446744073709551616 else n % 18446744073709551616:=rfl
 rw[h]
 simp only[Bool.true_and,decide_eq_true_eq,ge_iff_le]
theorem i32_eq (n:Int):IntKind.i32.wrap n=if 2147483648≤n % 4294967296 then n % 4294967296-4294967296 else n % 4294967296:=by
 have h:IntKind.i32.wrap n=if(true&&decide (n % 4294967296≥2147483648))=true then n % 4294967296-4294967296 else n % 4294967296:=rfl
 rw[h]
 simp only[Bool.true_and,decide_eq_true_eq,ge_iff_le]
theorem val_yes {α:Type} {b:Bool} {p q:PO α} (h:b=true):(PO.ite b p q).val=p.val:=by subst h;rfl
theorem val_no {α:Type} {b:Bool} {p q:PO α} (h:b=false):(PO.ite b p q).val=q.val:=by subst h;rfl
theorem val_opt {α β:Type} {o:Option β} {r:β} {k:β→PO α} (h:o=some r):(PO.opt o k).val=(k r).val:=by subst h;rfl
end Go.Av
end
section
namespace Go.Av
open Go
abbrev qfi:List Ty:=[(.int .i64),(.int .i64),(.int .i64)]
abbrev qgQ:Sh:=Sh.ty Ty.bool
def qbD (x:dens qfi):PO (Sh.den qgQ) :=
 (.ret (decide (x.1≥x.2.1)&&decide (x.1≤x.2.2)))
def qjc (_:dens qfi):Bool:=true
def qV (x:dens qfi):Sh.den qgQ:=(qbD x).getO default
theorem qmq (x:dens qfi) (_:qjc x=true):(qbD x).val=some (qV x):=PO.sure_ok default (by simp[qbD,PO.sure])
abbrev qfM:List Ty:=[(.int .i64),(.int .i64)]
abbrev qhF:Sh:=Sh.ty Ty.bool
def qcG (x:dens qfM):PO (Sh.den qhF) :=
 (.ite (x.2==-1)
  (.ret (x.1==0))
  (.ret (qV (x.1,0,x.2))))
def qjF (_:dens qfM):Bool:=true
def qbf (x:dens qfM):Sh.den qhF:=(qcG x).getO default
theorem qmA (x:dens qfM) (_:qjF x=true):(qcG x).val=some (qbf x):=PO.sure_ok default (by simp[qcG,PO.sure])
abbrev qft:List Ty:=[(.int .i64)]
abbrev qgU:Sh:=Sh.tup (Sh.pair (Sh.ty tOp) (Sh.pair (Sh.ty Ty.bool) (Sh.ty Ty.unit)))
def q8 (x:dens qft):PO (Sh.den qgU) :=
 (.ite (x==1)
  (.ret (((-1,-1,-1,-1,0,0,()),true,())))
  (.ite (x==2)
  (.ret (((-1,-1,-1,-1,0,255,()),true,())))
  (.ite (bif x==3 then x==3 else x==4)
   (.ret (((12,-1,-1,-1,0,65535,()),true,())))
   (.ite (x==5)
   (.ret (((12,-1,12,-1,0,31,()),true,())))
   (.ite (bif x==6 then x==6 else bif x==7 then x==7 else x==8)
    (.ret (((12,-1,12,-1,1,31,()),true,())))
    (.ite (x==9)
    (.ret (((12,-1,12,-1,0,0,()),true,())))
    (.ite (bif x==10 then x==10 else bif x==11 then x==11 else bif x==12 then x==12 else bif x==13 then x==13 else bif x==14 then x==14 else bif x==15 then x==15 else x==16)
     (.ret (((12,12,12,-1,0,0,()),true,())))
     (.ite (x==17)
     (.ret (((12,12,12,12,0,0,()),true,())))
     (.ite (x==18)
      (.ret (((12,12,-1,32,0,31,()),true,())))
      (.ite (bif x==19 then x==19 else bif x==20 then x==20 else bif x==21 then x==21 else x==22)
      (.ret (((7,7,-1,-1,0,0,()),true,())))
      (.ite (x==23)
       (.ret (((-1,7,7,-1,0,0,()),true,())))
       (.ret (((0,0,0,0,0,0,()),false,()))))))))))))))
def qjb (_:dens qft):Bool:=true
def qE (x:dens qft):Sh.den qgU:=(q8 x).getO default
theorem ql4 (x:dens qft) (_:qjb x=true):(q8 x).val=some (qE x):=PO.sure_ok default (by simp[q8,PO.sure])
abbrev qf8:List Ty:=[(.int .i64),.bool]
abbrev qhO:Sh:=Sh.tup (Sh.pair (Sh.ty (Ty.int IntKind.i64)) (Sh.pair (Sh.ty (Ty.int IntKind.i64)) (Sh.ty Ty.unit)))
def qc8 (x:dens qf8):PO (Sh.den qhO) :=
 (.ite (x.1==24)
  (.ret ((w64 (0-bif x.2 then 16777216 else 2048),w64 ((bif x.2 then 16777216 else 2048)-2),())))
  (.ite (x.1==25)
  (.ret ((w64 (0-bif x.2 then 1048576 else 256),w64 ((bif x.2 then 1048576 else 256)-2),())))
  (.ret ((0,0,())))))
def qjK (_:dens qf8):Bool:=true
def qQ (x:dens qf8):Sh.den qhO:=(qc8 x).getO default
theorem qmu (x:dens qf8) (_:qjK x=true):(qc8 x).val=some (qQ x):=PO.sure_ok default (by simp[qc8,PO.sure])
abbrev qfu:List Ty:=[tIns]
abbrev qgR:Sh:=Sh.ty (Ty.int IntKind.i64)
def qcP (x:dens qfu):PO (Sh.den qgR) :=
 (.ite (x.2.1 != 0||(x.2.2.1 != 0||(x.2.2.2.1 != 0||(x.2.2.2.2.1 != 0||bif x.1==24 then x.2.2.2.2.2.2.1 != 0||true else true))))
  (.ite (x.2.1 != 0||(x.2.2.1 != 0||(x.2.2.2.1 != 0||(x.2.2.2.2.1 != 0||bif x.1==24 then x.2.2.2.2.2.2.1 != 0||!qV (x.2.2.2.2.2.2.1,0,13) else !qV (x.2.2.2.2.2.2.1,0,13)))))
  (.ret (2))
  (.ite (band IntKind.i64 x.2.2.2.2.2.1 1 != 0||true)
   (.ite (band IntKind.i64 x.2.2.2.2.2.1 1 != 0||!qV (x.2.2.2.2.2.1,(qQ (x.1,x.2.2.2.2.2.2.2.1)).1,(qQ (x.1,x.2.2.2.2.2.2.2.1)).2.1))
   (.ret (6))
   (.ret (0)))
   .fail))
  .fail)
def qi4 (_:dens qfu):Bool:=true
def qcO (x:dens qfu):Sh.den qgR:=(qcP x).getO default
theorem qmp (x:dens qfu) (_:qi4 x=true):(qcP x).val=some (qcO x):=PO.tots_ok default (by simp[qcP,PO.tots])
abbrev qf4:List Ty:=[tIns]
abbrev qhG:Sh:=Sh.ty (Ty.int IntKind.i64)
def qX (x:dens qf4):PO (Sh.den qhG) :=
 (.ite (x.1==24||x.1==25)
  (.ret (qcO x))
  (.ite (!(qE x.1).2.1||(x.2.2.2.2.2.2.2.1||(x.2.2.2.2.2.2.1 != 0||true)))
  (.ite (!(qE x.1).2.1||(x.2.2.2.2.2.2.2.1||(x.2.2.2.2.2.2.1 != 0||!qV (x.2.2.2.2.2.1,(qE x.1).1.2.2.2.2.1,(qE x.1).1.2.2.2.2.2.1))))
   (.ret (2))
   (.ite (!qbf (x.2.1,(qE x.1).1.1)||(!qbf (x.2.2.1,(qE x.1).1.2.1)||(!qbf (x.2.2.2.1,(qE x.1).1.2.2.1)||true)))
   (.ite (!qbf (x.2.1,(qE x.1).1.1)||(!qbf (x.2.2.1,(qE x.1).1.2.1)||(!qbf (x.2.2.2.1,(qE x.1).1.2.2.1)||!qbf (x.2.2.2.2.1,(qE x.1).1.2.2.2.1))))
    (.ret (2))
    (.ite (bif x.1==17 then x.2.2.2.2.1==x.2.1||(x.1==18||true) else x.1==18||true)
    (.ite (bif x.1==17 then x.2.2.2.2.1==x.2.1||x.1==18&&!qV (x.2.2.2.2.1,1,w64 (32-x.2.2.2.2.2.1)) else x.1==18&&!qV (x.2.2.2.2.1,1,w64 (32-x.2.2.2.2.2.1)))
     (.ret (2))
     (.ret (0)))
    .fail))
   .fail))
  .fail))
def qjE (_:dens qf4):Bool:=true
def qd (x:dens qf4):Sh.den qhG:=(qX x).getO default
theorem qmJ (x:dens qf4) (_:qjE x=true):(qX x).val=some (qd x):=PO.tots_ok default (by simp[qX,PO.tots])
end Go.Av
end
section
namespace Go.Av
open Go
abbrev qiZ:List Ty:=[(.int .i64)]
abbrev qi2:Sh:=Sh.ty Ty.str
def qgd (x:dens qiZ):PO (Sh.den qi2) :=
 (.ite (x==13)
  (.ret ([49,49,49,48,49,48,49,48,49,48,48,48,110,110,110,110,48,48,48,48,100,100,100,100,48,48,48,48,109,109,109,109]))
  (.ite (x==14)
  (.ret ([49,49,49,48,49,48,49,49,48,48,48,48,110,110,110,110,48,48,48,48,100,100,100,100,48,48,48,48,109,109,109,109]))
  (.ite (x==15)
   (.ret ([49,49,49,48,49,48,49,49,49,48,49,48,110,110,110,110,48,48,48,48,100,100,100,100,48,48,48,48,109,109,109,109]))
   (.ite (x==16)
   (.ret ([49,49,49,49,49,48,49,49,48,48,48,48,110,110,110,110,49,49,49,49,100,100,100,100,48,48,48,48,109,109,109,109]))
   (.ite (x==17)
    (.ret ([49,49,49,49,49,48,49,49,49,48,49,48,110,110,110,110,100,100,100,100,97,97,97,97,48,48,48,48,109,109,109,109]))
    (.ite (x==18)
    (.ret ([49,49,49,49,48,48,49,49,48,49,49,48,110,110,110,110,48,69,68,67,100,100,100,100,66,65,48,119,119,119,119,119]))
    (.ite (x==19)
     (.ret ([48,49,49,48,49,48,48,48,48,48,110,110,110,100,100,100]))
     (.ite (x==20)
     (.ret ([48,49,49,48,48,48,48,48,48,48,110,110,110,100,100,100]))
     (.ite (x==21)
      (.ret ([48,49,49,49,49,48,48,48,48,48,110,110,110,100,100,100]))
      (.ite (x==22)
      (.ret ([48,49,49,49,48,48,48,48,48,48,110,110,110,100,100,100]))
      (.ite (x==23)
       (.ret ([48,49,48,48,48,48,49,48,49,48,109,109,109,110,110,110]))
       (.ite (x==24)
       (.ret ([49,49,49,48,48,76,75,74,73,72,71,70,69,68,67,66]))
       (.ite (x==25)
        (.ret ([49,49,48,49,99,99,99,99,73,72,71,70,69,68,67,66]))
        (.ret ([])))))))))))))))
def qge (x:dens qiZ):Sh.den qi2:=(qgd x).getO default
abbrev qi0:List Ty:=[(.int .i64),.bool]
abbrev qi1:Sh:=Sh.ty Ty.str
def qgc (x:dens qi0):PO (Sh.den qi1) :=
 (.ite (x.2)
  (.ite (x.1==24)
  (.ret ([49,49,49,49,48,89,86,85,84,83,82,81,80,79,78,77,49,48,120,49,121,76,75,74,73,72,71,70,69,68,67,66]))
  (.ite (x.1==25)
   (.ret ([49,49,49,49,48,85,99,99,99,99,82,81,80,79,78,77,49,48,83,48,84,76,75,74,73,72,71,70,69,68,67,66]))
   (.ret ([]))))
  (.ite (x.1==1)
  (.ret ([49,48,49,49,49,49,49,49,48,48,48,48,48,48,48,48]))
  (.ite (x.1==2)
   (.ret ([49,48,49,49,49,49,49,48,72,71,70,69,68,67,66,65]))
   (.ite (x.1==3)
   (.ret ([49,49,49,49,48,76,49,48,48,49,48,48,80,79,78,77,48,75,74,73,100,100,100,100,72,71,70,69,68,67,66,65]))
   (.ite (x.1==4)
    (.ret ([49,49,49,49,48,76,49,48,49,49,48,48,80,79,78,77,48,75,74,73,100,100,100,100,72,71,70,69,68,67,66,65]))
    (.ite (x.1==5)
    (.ret ([49,49,49,48,49,48,49,48,48,49,48,48,49,49,49,49,48,69,68,67,100,100,100,100,66,65,48,48,109,109,109,109]))
    (.ite (x.1==6)
     (.ret ([49,49,49,48,49,48,49,48,48,49,48,48,49,49,49,49,48,69,68,67,100,100,100,100,66,65,48,49,109,109,109,109]))
     (.ite (x.1==7)
     (.ret ([49,49,49,48,49,48,49,48,48,49,48,48,49,49,49,49,48,69,68,67,100,100,100,100,66,65,49,48,109,109,109,109]))
     (.ite (x.1==8)
      (.ret ([49,49,49,48,49,48,49,48,48,49,48,48,49,49,49,49,48,69,68,67,100,100,100,100,66,65,49,49,109,109,109,109]))
      (.ite (x.1==9)
      (.ret ([49,49,49,48,49,48,49,48,48,49,49,48,49,49,49,49,48,48,48,48,100,100,100,100,48,48,48,48,109,109,109,109]))
      (.ite (x.1==10)
       (.ret ([49,49,49,48,49,48,49,48,48,48,48,48,110,110,110,110,48,48,48,48,100,100,100,100,48,48,48,48,109,109,109,109]))
       (.ite (x.1==11)
       (.ret ([49,49,49,48,49,48,49,48,48,48,49,48,110,110,110,110,48,48,48,48,100,100,100,100,48,48,48,48,109,109,109,109]))
       (.ite (x.1==12)
        (.ret ([49,49,49,48,49,48,49,48,48,49,48,48,110,110,110,110,48,48,48,48,100,100,100,100,48,48,48,48,109,109,109,109]))
        (.ret (qge x.1)))))))))))))))
def qh (x:dens qi0):Sh.den qi1:=(qgc x).getO default
abbrev qjB:List Ty:=[.str,(.int .u8)]
abbrev qlA:Sh:=Sh.ty Ty.bool
def qjw (x:dens qjB):Bool:=decide (List.length x.1<4611686018427387904)
def qjr (x:dens qjB):Sh.den qlA:=List.any x.1 fun b=>u8I b==x.2
abbrev qgC:List Ty:=[.str,(.int .u8),(.int .i64)]
abbrev qjt:Sh:=Sh.ty Ty.bool
def qeD (x:dens qgC):PO (Sh.den qjt) :=
 (.ite (qjw (x.1,x.2.1))
  (.ite (!qjr (x.1,x.2.1))
  (.ret (x.2.2==0))
  (.ret (decide (x.2.2≥0)&&decide (x.2.2≤bif lenI x.1==16 then 7 else 12))))
  .fail)
def qcR (x:dens qgC):Bool:=(qeD x).val.isSome
def qbr (x:dens qgC):Sh.den qjt:=(qeD x).getO default
abbrev qiM:List Ty:=[(.int .i64),.bool]
abbrev qiu:Sh:=Sh.tup (Sh.pair (Sh.ty (Ty.int IntKind.i64)) (Sh.pair (Sh.ty (Ty.int IntKind.i64)) (Sh.ty Ty.unit)))
def qiq (x:dens qiM):PO (Sh.den qiu) :=
 (.ret ((w64 (0-bif x.1==24&&!x.2 then 2048 else bif x.1==24 then 16777216 else bif x.1==25&&!x.2 then 256 else bif x.1==25 then 1048576 else 0),imax 0 (w64 ((bif x.1==24&&!x.2 then 2048 else bif x.1==24 then 16777216 else bif x.1==25&&!x.2 then 256 else bif x.1==25 then 1048576 else 0)-2)),())))
def qc3 (x:dens qiM):Sh.den qiu:=(qiq x).getO default
abbrev qh1:List Ty:=[tIns]
abbrev qh0:Sh:=Sh.ty Ty.bool
def qhY (x:dens qh1):PO (Sh.den qh0) :=
 (.ite (x.1==2)
  (.ret (decide (x.2.2.2.2.2.1≥0)&&decide (x.2.2.2.2.2.1≤255)))
  (.ite (bif x.1==3 then x.1==3 else x.1==4)
  (.ret (decide (x.2.2.2.2.2.1≥0)&&decide (x.2.2.2.2.2.1≤65535)))
  (.ite (bif x.1==5 then x.1==5 else x.1==18)
   (.ret (decide (x.2.2.2.2.2.1≥0)&&decide (x.2.2.2.2.2.1≤31)))
   (.ite (bif x.1==6 then x.1==6 else bif x.1==7 then x.1==7 else x.1==8)
   (.ret (decide (x.2.2.2.2.2.1≥1)&&decide (x.2.2.2.2.2.1≤31)))
   (.ite (bif x.1==24 then x.1==24 else x.1==25)
    (.ret (true))
    (.ret (decide (x.2.2.2.2.2.1≥0)&&decide (x.2.2.2.2.2.1≤0))))))))
def qfd (x:dens qh1):Sh.den qh0:=(qhY x).getO default
abbrev qfA:List Ty:=[tIns]
abbrev qid:Sh:=Sh.ty (Ty.int IntKind.i64)
def qdY (x:dens qfA):PO (Sh.den qid) :=
 (.ite (qh (x.1,x.2.2.2.2.2.2.2.1)==[]||(!qfd x||qcR (qh (x.1,x.2.2.2.2.2.2.2.1),100,x.2.1)&&(!qbr (qh (x.1,x.2.2.2.2.2.2.2.1),100,x.2.1)||qcR (qh (x.1,x.2.2.2.2.2.2.2.1),110,x.2.2.1)&&(!qbr (qh (x.1,x.2.2.2.2.2.2.2.1),110,x.2.2.1)||qcR (qh (x.1,x.2.2.2.2.2.2.2.1),109,x.2.2.2.1)&&(!qbr (qh (x.1,x.2.2.2.2.2.2.2.1),109,x.2.2.2.1)||qcR (qh (x.1,x.2.2.2.2.2.2.2.1),97,bif x.1==18 then 0 else x.2.2.2.2.1))))))
  (.ite (qh (x.1,x.2.2.2.2.2.2.2.1)==[]||(!qfd x||(!qbr (qh (x.1,x.2.2.2.2.2.2.2.1),100,x.2.1)||(!qbr (qh (x.1,x.2.2.2.2.2.2.2.1),110,x.2.2.1)||(!qbr (qh (x.1,x.2.2.2.2.2.2.2.1),109,x.2.2.2.1)||!qbr (qh (x.1,x.2.2.2.2.2.2.2.1),97,bif x.1==18 then 0 else x.2.2.2.2.1))))))
  (.ret (2))
  (.ite (bif x.1==18 then decide (x.2.2.2.2.1<1)||(decide (x.2.2.2.2.1 > w64 (32-x.2.2.2.2.2.1))||x.1==17&&x.2.2.2.2.1==x.2.1) else x.1==17&&x.2.2.2.2.1==x.2.1)
   (.ret (2))
   (.ite (bif x.1==25 then decide (x.2.2.2.2.2.2.1<0)||(decide (x.2.2.2.2.2.2.1 > 13)||x.1 != 25&&x.2.2.2.2.2.2.1 != 0) else x.1 != 25&&x.2.2.2.2.2.2.1 != 0)
   (.ret (2))
   (.ite (bif x.1==24 then Int.tmod x.2.2.2.2.2.1 2 != 0||(decide (x.2.2.2.2.2.1<(qc3 (x.1,x.2.2.2.2.2.2.2.1)).1)||decide (x.2.2.2.2.2.1 > (qc3 (x.1,x.2.2.2.2.2.2.2.1)).2.1)) else x.1==25&&(Int.tmod x.2.2.2.2.2.1 2 != 0||(decide (x.2.2.2.2.2.1<(qc3 (x.1,x.2.2.2.2.2.2.2.1)).1)||decide (x.2.2.2.2.2.1 > (qc3 (x.1,x.2.2.2.2.2.2.2.1)).2.1))))
    (.ret (6))
    (.ret (0))))))
  .fail)
def qfJ (x:dens qfA):Bool:=(qdY x).val.isSome
def qdT (x:dens qfA):Sh.den qid:=(qdY x).getO default
end Go.Av
end
section
namespace Go.Av
open Go
theorem op_cases (n:Int):n=1∨n=2∨n=3∨n=4∨n=5∨n=6∨n=7∨n=8∨n=9∨n=10∨n=11∨n=12∨n=13∨n=14∨n=15∨n=16∨n=17∨n=18∨n=19∨n=20∨n=21∨n=22∨n=23∨n=24∨n=25∨(n<1∨25<n):=by omega
theorem op_none {n k:Int} (h:n<1∨25<n) (hk:1≤k∧k≤25):(n==k)=false:=by
 rw[beq_eq_false_iff_ne]
 omega
theorem bits_none {n:Int} (h:n<1∨25<n) (w:Bool):qh (n,w)=[]:=by
 have e:=fun k hk=>op_none (n:=n) (k:=k) h hk
 cases w<;>simp[qh,qgc,qge,qgd,PO.getO,PO.val,e]
theorem bits_len (n:Int) (w:Bool):(qh (n,w)).length≤32:=by
 rcases op_cases n with rfl |rfl |rfl |rfl |rfl |rfl |rfl |rfl |rfl |rfl |rfl |rfl |rfl |rfl |rfl |rfl |rfl |rfl |rfl |rfl |rfl |rfl |rfl |rfl |rfl |h
 case inr.inr.inr.inr.inr.inr.inr.inr.inr.inr.inr.inr.inr.inr.inr.inr.inr.inr.inr.inr.inr.inr.inr.inr.inr=>rw[bits_none h];simp
 all_goals (cases w<;>decide)
theorem has_ok (n:Int) (w:Bool) (c:Int):qjw (qh (n,w),c)=true:=by
 have:=bits_len n w
 exact dec_true (show List.length (qh (n,w))<_ by omega)
theorem reg_val (n:Int) (w:Bool) (c r:Int):(qeD (qh (n,w),c,r)).val=some (bif List.any (qh (n,w)) (fun b=>u8I b==c) then decide (r≥0)&&decide (r≤bif (lenI (qh (n,w))==16) then 7 else 12) else r==0):=by
 simp only[qeD,PO.val,qjr]
 rw[has_ok]
 cases List.any (qh (n,w)) (fun b=>u8I b==c)<;>rfl
theorem reg_ok (n:Int) (w:Bool) (c r:Int):qcR (qh (n,w),c,r)=true:=by
 rw[qcR,reg_val];rfl
theorem reg_eq (n:Int) (w:Bool) (c r:Int):qbr (qh (n,w),c,r)=(bif List.any (qh (n,w)) (fun b=>u8I b==c) then decide (r≥0)&&decide (r≤bif (lenI (qh (n,w))==16) then 7 else 12) else r==0):=by
 rw[qbr,PO.getO,reg_val];rfl
theorem some_cond {α:Type} (b:Bool) (x y:Option α) (hx:x.isSome=true) (hy:y.isSome=true):(bif b then x else y).isSome=true:=by
 cases b<;>assumption
theorem check_ok (x:tIns.den):qfJ x=true:=by
 obtain⟨op,rd,rn,rm,ra,imm,cond,w,u⟩:=x
 unfold qfJ qdY
 simp only[PO.val]
 rw[reg_ok,reg_ok,reg_ok,reg_ok]
 simp only[Bool.or_true,Bool.and_true,cond_true]
 repeat' (first|rfl |apply some_cond)
theorem even_i64 (n:Int):(band .i64 n 1 != 0)=(Int.tmod n 2 != 0):=by
 have h:band .i64 n 1=n % 2:=band_low n 1 (by omega)
 rw[h,Bool.eq_iff_iff]
 simp only[bne_iff_ne,ne_eq]
 exact not_congr ((Int.dvd_iff_emod_eq_zero (a:=2) (b:=n)).symm.trans Int.dvd_iff_tmod_eq_zero)
theorem left_same (imm:Int) (h1:0≤imm) (h2:imm≤31):w64 (32-imm)=32-imm:=w64_id (by omega) (by omega)
set_option maxHeartbeats 4000000 in
theorem check_same (x:tIns.den):qd x=qdT x:=by
 obtain⟨op,rd,rn,rm,ra,imm,cond,w,u⟩:=x
 have hw:=left_same imm
 have w1:w64 (-2048)=-2048:=rfl
 have w2:w64 2046=2046:=rfl
 have w3:w64 (-16777216)=-16777216:=rfl
 have w4:w64 16777214=16777214:=rfl
 have w5:w64 (-256)=-256:=rfl
 have w6:w64 254=254:=rfl
 have w7:w64 (-1048576)=-1048576:=rfl
 have w8:w64 1048574=1048574:=rfl
 have m1:imax 0 2046=2046:=rfl
 have m2:imax 0 16777214=16777214:=rfl
 have m3:imax 0 254=254:=rfl
 have m4:imax 0 1048574=1048574:=rfl
 unfold qdT qdY
 dsimp only[PO.getO,PO.val]
 rw[reg_ok,reg_ok,reg_ok,reg_ok,reg_eq,reg_eq,reg_eq,reg_eq]
 rcases op_cases op with rfl |rfl |rfl |rfl |rfl |rfl |rfl |rfl |rfl |rfl |rfl |rfl |rfl |rfl |rfl |rfl |rfl |rfl |rfl |rfl |rfl |rfl |rfl |rfl |rfl |hop
 case inr.inr.inr.inr.inr.inr.inr.inr.inr.inr.inr.inr.inr.inr.inr.inr.inr.inr.inr.inr.inr.inr.inr.inr.inr =>
  rw[bits_none hop]
  have e:=fun k hk=>op_none (n:=op) (k:=k) hop hk
  simp[qd,qX,qE,q8,PO.getO,PO.val,e]
 all_goals
  cases w <;>
  simp[qh,qgc,qge,qgd,qd,qX,qE,q8,qbf,qcG,qV,qbD,PO.getO,PO.val,qfd,qhY,u8I,lenI,qcO,qcP,qQ,qc8,qc3,qiq,even_i64,w1,w2,w3,w4,w5,w6,w7,w8,m1,m2,m3,m4]<;>grind
end Go.Av
end
section
namespace Go.Av
open Go
def wn (n:Int):Nat:=(n % 4294967296).toNat
theorem wn_int (n:Int):(wn n:Int)=n % 4294967296:=by unfold wn;omega
theorem wn_lt (n:Int):wn n<4294967296:=by unfold wn;omega
theorem wn_nat {k:Nat} (h:k<4294967296):wn (k:Int)=k:=by unfold wn;omega
theorem wn_wn (n:Int):wn (wn n:Int)=wn n:=wn_nat (wn_lt n)
theorem band_32 (n:Int):band .i64 n 4294967295=n % 4294967296:=band_low n 32 (by omega)
theorem band_31 (n:Int):band .i64 n 31=n % 32:=band_low n 5 (by omega)
theorem band_one (n:Int):band .i64 n 1=n % 2:=band_low n 1 (by omega)
theorem w64_mod (n:Int):w64 n % 4294967296=n % 4294967296:=by
 rw[w64_eq];split<;>omega
theorem wn_w64 (n:Nat):wn (w64 (n:Int))=n % 4294967296:=by unfold wn;rw[w64_mod];omega
theorem ofInt_mod (n:Int):(BitVec.ofInt 64 n).toNat % 4294967296=wn n:=by
 have:=ofInt_toNat 64 n
 unfold wn
 omega
abbrev qhm:List Ty:=[(.int .i64)]
abbrev qjh:Sh:=Sh.ty (Ty.int IntKind.i64)
def qlH (x:dens qhm):PO (Sh.den qjh) :=
 (.ret (band IntKind.i64 x 4294967295))
def qkX (_:dens qhm):Bool:=true
def qx (x:dens qhm):Sh.den qjh:=(wn x:Int)
theorem qm5 (x:dens qhm) (_:qkX x=true):(qlH x).val=some (qx x):=by
 show some _=some _
 rw[band_32,qx,wn_int]
def kk (n:Int):Nat:=(n % 32).toNat
theorem kk_int (n:Int):(kk n:Int)=n % 32:=by unfold kk;omega
theorem kk_lt (n:Int):kk n<32:=by unfold kk;omega
abbrev qhk:List Ty:=[(.int .i64)]
abbrev qjl:Sh:=Sh.ty (Ty.int IntKind.i64)
def qlP (x:dens qhk):PO (Sh.den qjl) :=
 (.ret (band IntKind.i64 x 31))
def qkI (_:dens qhk):Bool:=true
def qbm (x:dens qhk):Sh.den qjl:=(kk x:Int)
theorem qng (x:dens qhk) (_:qkI x=true):(qlP x).val=some (qbm x):=by
 show some _=some _
 rw[band_31,qbm,kk_int]
abbrev qiG:List Ty:=[(.int .i64),(.int .i64)]
abbrev qjW:Sh:=Sh.ty (Ty.int IntKind.i64)
def qme (x:dens qiG):PO (Sh.den qjW) :=
 (.ret (qx (w64 (x.1+x.2))))
def qlj (_:dens qiG):Bool:=true
def qdj (x:dens qiG):Sh.den qjW:=(wn (x.1+x.2):Int)
theorem qnh (x:dens qiG) (_:qlj x=true):(qme x).val=some (qdj x):=by
 show some _=some _
 rw[qx,qdj,wn_int,wn_int,w64_mod]
abbrev qiT:List Ty:=[(.int .i64),(.int .i64)]
abbrev qkf:Sh:=Sh.ty (Ty.int IntKind.i64)
def ql3 (x:dens qiT):PO (Sh.den qkf) :=
 (.ret (qx (w64 (x.1-x.2))))
def qlq (_:dens qiT):Bool:=true
def qdR (x:dens qiT):Sh.den qkf:=(wn (x.1-x.2):Int)
theorem qnu (x:dens qiT) (_:qlq x=true):(ql3 x).val=some (qdR x):=by
 show some _=some _
 rw[qx,qdR,wn_int,wn_int,w64_mod]
abbrev qfn:List Ty:=[(.int .i64),(.int .i64)]
abbrev qgX:Sh:=Sh.ty (Ty.int IntKind.u64)
def qkY (x:dens qfn):PO (Sh.den qgX) :=
 (.ret (IntKind.wrap IntKind.u64 (IntKind.wrap IntKind.u64 (qx x.1)*IntKind.wrap IntKind.u64 (qx x.2))))
def qje (_:dens qfn):Bool:=true
def qcL (x:dens qfn):Sh.den qgX:=((wn x.1*wn x.2:Nat):Int)
theorem qmj (x:dens qfn) (_:qje x=true):(qkY x).val=some (qcL x):=by
 show some _=some _
 have h1:=wn_lt x.1
 have h2:=wn_lt x.2
 have h3:wn x.1*wn x.2≤4294967295*4294967295:=Nat.mul_le_mul (by omega) (by omega)
 rw[qcL]
 simp only[qx,u64_wrap]
 rw[Int.emod_eq_of_lt (a:=(wn x.1:Int)) (by omega) (by omega),Int.emod_eq_of_lt (a:=(wn x.2:Int)) (by omega) (by omega)]
 have e:(wn x.1:Int)*(wn x.2:Int)=((wn x.1*wn x.2:Nat):Int):=by simp
 rw[e,Int.emod_eq_of_lt (by omega) (by omega)]
theorem wn_eq {a b:Int} (h:a % 4294967296=b % 4294967296):wn a=wn b:=by unfold wn;rw[h]
theorem mul_lt (a b:Int):wn a*wn b≤18446744065119617025:=by
 have h1:=wn_lt a
 have h2:=wn_lt b
 exact Nat.mul_le_mul (show wn a≤4294967295 by omega) (show wn b≤4294967295 by omega)
theorem ofInt_nat {m:Nat} (h:m<18446744073709551616):(BitVec.ofInt 64 (m:Int)).toNat=m:=by
 have:=ofInt_toNat 64 m
 omega
theorem band_u64 {m:Nat} (h:m<18446744073709551616):band .u64 (m:Int) 4294967295=((m % 4294967296:Nat):Int):=by
 show IntKind.u64.wrap (BitVec.ofInt 64 (m:Int) &&& BitVec.ofInt 64 4294967295).toNat=_
 rw[BitVec.toNat_and,ofInt_nat h,show(BitVec.ofInt 64 4294967295).toNat=2 ^ 32-1 from by decide,Nat.and_two_pow_sub_one_eq_mod,u64_wrap]
 omega
theorem and_wn (a b:Int):wn (band .i64 a b)=wn a &&& wn b:=by
 show wn (w64 (BitVec.ofInt 64 a &&& BitVec.ofInt 64 b).toNat)=_
 rw[wn_w64,BitVec.toNat_and,show(4294967296:Nat)=2 ^ 32 from rfl,Nat.and_mod_two_pow,←ofInt_mod a,←ofInt_mod b]
theorem or_wn (a b:Int):wn (bor .i64 a b)=wn a |||wn b:=by
 show wn (w64 (BitVec.ofInt 64 a |||BitVec.ofInt 64 b).toNat)=_
 rw[wn_w64,BitVec.toNat_or,show(4294967296:Nat)=2 ^ 32 from rfl,Nat.or_mod_two_pow,←ofInt_mod a,←ofInt_mod b]
theorem xor_wn (a b:Int):wn (bxor .i64 a b)=wn a ^^^ wn b:=by
 show wn (w64 (BitVec.ofInt 64 a ^^^ BitVec.ofInt 64 b).toNat)=_
 rw[wn_w64,BitVec.toNat_xor,show(4294967296:Nat)=2 ^ 32 from rfl,Nat.xor_mod_two_pow,←ofInt_mod a,←ofInt_mod b]
theorem not_wn (a:Int):wn (icompl .i64 a)=4294967295-wn a:=by
 have e:icompl .i64 a=w64 (BitVec.ofInt 64 (-1) ^^^ BitVec.ofInt 64 a).toNat:=by
  unfold icompl
  rw[if_pos (by rfl)]
  rfl
 rw[e,show BitVec.ofInt 64 (-1)=BitVec.allOnes 64 from by decide,BitVec.allOnes_xor,wn_w64,BitVec.toNat_not,←ofInt_mod a]
 have:=(BitVec.ofInt 64 a).isLt
 omega
theorem bnot_wn (a b:Int):wn (bnot .i64 a b)=wn a &&& (4294967295-wn b):=by
 show wn (w64 (BitVec.ofInt 64 a &&& ~~~(BitVec.ofInt 64 b)).toNat)=_
 rw[wn_w64,BitVec.toNat_and,show(4294967296:Nat)=2 ^ 32 from rfl,Nat.and_mod_two_pow,BitVec.toNat_not,←ofInt_mod a,←ofInt_mod b]
 have:=(BitVec.ofInt 64 b).isLt
 congr 1
 omega
theorem ishl_nat (a:Int) (k:Nat) (hk:k≤64):ishl .i64 a (k:Int)=w64 (a*2 ^ k):=by
 unfold ishl
 have:min (k:Int).toNat IntKind.i64.bits=k:=by simp[IntKind.bits];omega
 rw[this]
theorem pow_lt {k n:Nat} (h:k≤n):2 ^ k≤2 ^ n:=Nat.pow_le_pow_right (by omega) h
theorem shl_wn (a:Nat) (k:Nat) (hk:k≤64):wn (ishl .i64 (a:Int) (k:Int))=a*2 ^ k % 4294967296:=by
 rw[ishl_nat _ _ hk,show(a:Int)*2 ^ k=((a*2 ^ k:Nat):Int) by simp,wn_w64]
abbrev qh8:List Ty:=[(.int .i64),(.int .i64)]
abbrev qj8:Sh:=Sh.ty (Ty.int IntKind.i64)
def qmk (x:dens qh8):PO (Sh.den qj8) :=
 (.ret (w64 (band IntKind.u64 (qcL (x.1,x.2)) 4294967295)))
def qlr (_:dens qh8):Bool:=true
def qeJ (x:dens qh8):Sh.den qj8:=((wn x.1*wn x.2 % 4294967296:Nat):Int)
theorem qnz (x:dens qh8) (_:qlr x=true):(qmk x).val=some (qeJ x):=by
 show some _=some _
 have h:=mul_lt x.1 x.2
 simp only[qcL,qeJ]
 rw[band_u64 (by omega),w64_id (by omega) (by omega)]
abbrev qhj:List Ty:=[(.int .i64),(.int .i64)]
abbrev qjo:Sh:=Sh.ty (Ty.int IntKind.i64)
def qlJ (x:dens qhj):PO (Sh.den qjo) :=
 (.ret (w64 (ishr IntKind.u64 (qcL (x.1,x.2)) 32)))
def qkH (_:dens qhj):Bool:=true
def qga (x:dens qhj):Sh.den qjo:=((wn x.1*wn x.2 / 4294967296:Nat):Int)
theorem qm7 (x:dens qhj) (_:qkH x=true):(qlJ x).val=some (qga x):=by
 show some _=some _
 have h:=mul_lt x.1 x.2
 simp only[qcL,qga]
 have e:ishr .u64 ((wn x.1*wn x.2:Nat):Int) 32=((wn x.1*wn x.2 / 4294967296:Nat):Int):=by
  unfold ishr
  rw[show min (32:Int).toNat IntKind.u64.bits=32 from rfl,Int.fdiv_eq_ediv_of_nonneg _ (by omega)]
  omega
 rw[e,w64_id (by omega) (by omega)]
abbrev qiz:List Ty:=[(.int .i64)]
abbrev qj3:Sh:=Sh.ty (Ty.int IntKind.i64)
def ql7 (x:dens qiz):PO (Sh.den qj3) :=
 (.ret (qx (icompl IntKind.i64 x)))
def qls (_:dens qiz):Bool:=true
def qby (x:dens qiz):Sh.den qj3:=((4294967295-wn x:Nat):Int)
theorem qno (x:dens qiz) (_:qls x=true):(ql7 x).val=some (qby x):=by
 show some _=some _
 rw[qx,qby,not_wn]
abbrev qh4:List Ty:=[(.int .i64),(.int .i64)]
abbrev qkc:Sh:=Sh.ty (Ty.int IntKind.i64)
def qmd (x:dens qh4):PO (Sh.den qkc) :=
 (.ret (qx (band IntKind.i64 x.1 x.2)))
def qld (_:dens qh4):Bool:=true
def qeR (x:dens qh4):Sh.den qkc:=((wn x.1 &&& wn x.2:Nat):Int)
theorem qnr (x:dens qh4) (_:qld x=true):(qmd x).val=some (qeR x):=by
 show some _=some _
 rw[qx,qeR,and_wn]
abbrev qjv:List Ty:=[(.int .i64),(.int .i64)]
abbrev qkA:Sh:=Sh.ty (Ty.int IntKind.i64)
def qmM (x:dens qjv):PO (Sh.den qkA) :=
 (.ret (qx (bor IntKind.i64 x.1 x.2)))
def qlv (_:dens qjv):Bool:=true
def qeI (x:dens qjv):Sh.den qkA:=((wn x.1 |||wn x.2:Nat):Int)
theorem qnE (x:dens qjv) (_:qlv x=true):(qmM x).val=some (qeI x):=by
 show some _=some _
 rw[qx,qeI,or_wn]
abbrev qiH:List Ty:=[(.int .i64),(.int .i64)]
abbrev qkd:Sh:=Sh.ty (Ty.int IntKind.i64)
def ql5 (x:dens qiH):PO (Sh.den qkd) :=
 (.ret (qx (bxor IntKind.i64 x.1 x.2)))
def qlg (_:dens qiH):Bool:=true
def qdo (x:dens qiH):Sh.den qkd:=((wn x.1 ^^^ wn x.2:Nat):Int)
theorem qnl (x:dens qiH) (_:qlg x=true):(ql5 x).val=some (qdo x):=by
 show some _=some _
 rw[qx,qdo,xor_wn]
abbrev qix:List Ty:=[(.int .i64),(.int .i64)]
abbrev qj4:Sh:=Sh.ty (Ty.int IntKind.i64)
def qma (x:dens qix):PO (Sh.den qj4) :=
 (.ite (!decide (qbm x.2<0)&&true)
  (.ret (qx (ishl IntKind.i64 (qx x.1) (qbm x.2))))
  .fail)
def qli (_:dens qix):Bool:=true
def qg5 (x:dens qix):Sh.den qj4:=((wn x.1*2 ^ kk x.2 % 4294967296:Nat):Int)
theorem qnx (x:dens qix) (_:qli x=true):(qma x).val=some (qg5 x):=by
 obtain⟨a,n⟩:=x
 have hk:=kk_lt n
 have hd:decide ((kk n:Int)<0)=false:=dec_false (by omega)
 show(bif !decide ((kk n:Int)<0)&&true then some ((wn (ishl .i64 (wn a:Int) (kk n:Int)):Nat):Int) else none)=some ((wn a*2 ^ kk n % 4294967296:Nat):Int)
 rw[hd,shl_wn _ _ (by omega)]
 rfl
abbrev qis:List Ty:=[(.int .i64),(.int .i64)]
abbrev qj2:Sh:=Sh.ty (Ty.int IntKind.i64)
def qml (x:dens qis):PO (Sh.den qj2) :=
 (.ite (!decide (qbm x.2<0))
  (.ret (ishr IntKind.i64 (qx x.1) (qbm x.2)))
  .fail)
def qh5 (_:dens qis):Bool:=true
def qeG (x:dens qis):Sh.den qj2:=((wn x.1 / 2 ^ kk x.2:Nat):Int)
theorem qnw (x:dens qis) (_:qh5 x=true):(qml x).val=some (qeG x):=by
 obtain⟨a,n⟩:=x
 have hk:=kk_lt n
 have hd:decide ((kk n:Int)<0)=false:=dec_false (by omega)
 show(bif !decide ((kk n:Int)<0) then some (ishr .i64 (wn a:Int) (kk n:Int)) else none)=some ((wn a / 2 ^ kk n:Nat):Int)
 rw[hd,ishr_i64 _ _ (by omega)]
 simp
abbrev qiR:List Ty:=[(.int .i64),(.int .i64)]
abbrev qj0:Sh:=Sh.ty (Ty.int IntKind.i64)
def qmb (x:dens qiR):PO (Sh.den qj0) :=
 (.ite (!decide (qbm x.2<0)&&true)
  (.ret (qx (ishr IntKind.i64 (w64 (IntKind.wrap IntKind.i32 (IntKind.wrap IntKind.u32 (qx x.1)))) (qbm x.2))))
  .fail)
def sw (m:Nat):Int:=if 2147483648≤m then(m:Int)-4294967296 else m
def qlc (_:dens qiR):Bool:=true
def qir (x:dens qiR):Sh.den qj0:=(wn (sw (wn x.1) / (2 ^ kk x.2:Nat)):Int)
theorem qny (x:dens qiR) (_:qlc x=true):(qmb x).val=some (qir x):=by
 obtain⟨a,n⟩:=x
 have hk:=kk_lt n
 have hl:=wn_lt a
 have e:w64 (IntKind.i32.wrap (IntKind.u32.wrap (wn a:Int)))=sw (wn a):=by
  rw[u32_wrap,i32_eq,Int.emod_emod_of_dvd _ (by decide),Int.emod_eq_of_lt (by omega) (by omega)]
  unfold sw
  split
  ·rw[if_pos (by omega),w64_id (by omega) (by omega)]
  ·rw[if_neg (by omega),w64_id (by omega) (by omega)]
 have hd:decide ((kk n:Int)<0)=false:=dec_false (by omega)
 show(bif !decide ((kk n:Int)<0)&&true then some ((wn (ishr .i64 (w64 (IntKind.i32.wrap (IntKind.u32.wrap (wn a:Int)))) (kk n:Int)):Nat):Int) else none)=some ((wn (sw (wn a) / (2 ^ kk n:Nat)):Nat):Int)
 rw[hd,e,ishr_i64 _ _ (by omega)]
 rfl
abbrev qif:List Ty:=[(.int .i64),(.int .i64)]
abbrev qjY:Sh:=Sh.ty (Ty.int IntKind.i64)
def qmm (x:dens qif):PO (Sh.den qjY) :=
 (.ite (qh5 (x.1,x.2)&&(!decide (w64 (32-qbm x.2)<0)&&true))
  (.ret (qeI (qeG (x.1,x.2),qx (ishl IntKind.i64 (qx x.1) (w64 (32-qbm x.2))))))
  .fail)
def qla (_:dens qif):Bool:=true
def qit (x:dens qif):Sh.den qjY:=((wn x.1 / 2 ^ kk x.2+wn x.1 % 2 ^ kk x.2*2 ^ (32-kk x.2):Nat):Int)
theorem ror_nat (m k:Nat) (hm:m<4294967296) (hk:k<32):m / 2 ^ k |||m*2 ^ (32-k) % 4294967296=m / 2 ^ k+m % 2 ^ k*2 ^ (32-k):=by
 have h0:2 ^ 32=2 ^ k*2 ^ (32-k):=by rw[←Nat.pow_add];congr 1;omega
 have h1:m*2 ^ (32-k) % 4294967296=m % 2 ^ k*2 ^ (32-k):=by
  rw[show(4294967296:Nat)=2 ^ 32 from rfl,h0,Nat.mul_mod_mul_right]
 have h2:m / 2 ^ k<2 ^ (32-k):=by
  rw[Nat.div_lt_iff_lt_mul (Nat.two_pow_pos k),Nat.mul_comm,←h0]
  omega
 rw[h1,Nat.or_comm,Nat.mul_comm (m % 2 ^ k),←Nat.two_pow_add_eq_or_of_lt h2,Nat.add_comm]
theorem qns (x:dens qif) (_:qla x=true):(qmm x).val=some (qit x):=by
 obtain⟨a,n⟩:=x
 have hk:=kk_lt n
 have hl:=wn_lt a
 have e1:w64 (32-(kk n:Int))=((32-kk n:Nat):Int):=by
  rw[w64_id (by omega) (by omega)];omega
 have hd:decide (w64 (32-(kk n:Int))<0)=false:=dec_false (by rw[e1];omega)
 have h1:wn a / 2 ^ kk n<4294967296:=Nat.lt_of_le_of_lt (Nat.div_le_self _ _) hl
 show(bif true&&(!decide (w64 (32-(kk n:Int))<0)&&true) then some ((wn ((wn a / 2 ^ kk n:Nat):Int) |||wn ((wn (ishl .i64 (wn a:Int) (w64 (32-(kk n:Int)))):Nat):Int):Nat):Int) else none)=some ((wn a / 2 ^ kk n+wn a % 2 ^ kk n*2 ^ (32-kk n):Nat):Int)
 rw[hd,e1,shl_wn _ _ (by omega),wn_nat h1,wn_nat (Nat.mod_lt _ (by omega)),ror_nat _ _ hl hk]
 rfl
abbrev qfW:List Ty:=[(.int .i64),(.int .i64),(.int .i64)]
abbrev qhv:Sh:=Sh.ty (Ty.int IntKind.i64)
def qlt (x:dens qfW):PO (Sh.den qhv) :=
 (.ret (qeI (band IntKind.i64 x.2.1 x.1,bnot IntKind.i64 x.2.2 x.1)))
def qjS (_:dens qfW):Bool:=true
def qf0 (x:dens qfW):Sh.den qhv:=(((wn x.2.1 &&& wn x.1) |||(wn x.2.2 &&& (4294967295-wn x.1)):Nat):Int)
theorem qmG (x:dens qfW) (_:qjS x=true):(qlt x).val=some (qf0 x):=by
 show some _=some _
 rw[qeI,qf0,and_wn,bnot_wn]
abbrev qiW:List Ty:=[(.int .i64),(.int .i64)]
abbrev qj9:Sh:=Sh.ty (Ty.int IntKind.i64)
def qmn (x:dens qiW):PO (Sh.den qj9) :=
 (.ite (qh5 (x.1,x.2))
  (.ret (band IntKind.i64 (qeG (x.1,x.2)) 1))
  .fail)
def qk9 (_:dens qiW):Bool:=true
def qg3 (x:dens qiW):Sh.den qj9:=((wn x.1 / 2 ^ kk x.2 % 2:Nat):Int)
theorem qni (x:dens qiW) (_:qk9 x=true):(qmn x).val=some (qg3 x):=by
 show some _=some _
 simp only[qeG,qg3]
 rw[band_one]
 simp
end Go.Av
end
section
namespace Go.Av
open Go
abbrev tpart:Ty:=.pair (.int .i64) (.pair (.int .i64) (.pair (.int .i64) (.pair (.int .i64) .unit)))
theorem w64_nat {k:Nat} (h:k<9223372036854775808):w64 (k:Int)=k:=w64_id (by omega) (by omega)
def fldN (n from_ many at_:Int):Nat:=(n / (2 ^ from_.toNat:Nat) % (2 ^ many.toNat:Nat)).toNat*2 ^ at_.toNat
def partOk (p:tpart.den):Bool:=(decide (0≤p.2.1)&&decide (p.2.1<64))&&((decide (0≤p.2.2.1)&&decide (p.2.2.1≤32))&&(decide (0≤p.2.2.2.1)&&decide (p.2.2.2.1≤16)))
def partN (p:tpart.den):Nat:=fldN p.1 p.2.1 p.2.2.1 p.2.2.2.1
theorem bor_nat {a b:Nat} (ha:a<9223372036854775808) (hb:b<9223372036854775808):bor .i64 (a:Int) (b:Int)=((a |||b:Nat):Int):=by
 show w64 (BitVec.ofInt 64 (a:Int) |||BitVec.ofInt 64 (b:Int)).toNat=_
 rw[BitVec.toNat_or,ofInt_nat (by omega),ofInt_nat (by omega)]
 have:a |||b<2 ^ 63:=Nat.or_lt_two_pow ha hb
 exact w64_id (by omega) (by omega)
theorem mod_pow_nat (n:Int) (k:Nat):0≤n % (2 ^ k:Nat)∧n % (2 ^ k:Nat)<(2 ^ k:Nat):=by
 have:=Nat.two_pow_pos k
 exact⟨Int.emod_nonneg _ (by omega),Int.emod_lt_of_pos _ (by omega)⟩
theorem fldN_lt (n f:Int) {m a:Nat} (hm:m≤32) (ha:a≤16):fldN n f (m:Int) (a:Int)<281474976710656:=by
 unfold fldN
 rw[Int.toNat_natCast,Int.toNat_natCast]
 have h:=mod_pow_nat (n / (2 ^ f.toNat:Nat)) m
 have h1:(n / (2 ^ f.toNat:Nat) % (2 ^ m:Nat)).toNat<2 ^ m:=by omega
 have h2:2 ^ m≤2 ^ 32:=pow_lt hm
 have h3:2 ^ a≤2 ^ 16:=pow_lt ha
 have h4:=Nat.mul_lt_mul_of_lt_of_le (Nat.lt_of_lt_of_le h1 h2) h3 (by omega)
 exact h4
theorem fld_val (n:Int) {f m a:Nat} (hf:f<64) (hm:m≤32) (ha:a≤16):ishl .i64 (band .i64 (ishr .i64 n (f:Int)) (w64 (ishl .i64 1 (m:Int)-1))) (a:Int)=(fldN n (f:Int) (m:Int) (a:Int):Int):=by
 have hl:=fldN_lt n (f:Int) hm ha
 have h1:2 ^ m≤2 ^ 32:=pow_lt hm
 have h2:ishl .i64 1 (m:Int)=((2 ^ m:Nat):Int):=by
  rw[ishl_nat _ _ (by omega),Int.one_mul,show(2:Int) ^ m=((2 ^ m:Nat):Int) by simp]
  exact w64_nat (by omega)
 have hp:=Nat.two_pow_pos m
 have h3:w64 (((2 ^ m:Nat):Int)-1)=((2 ^ m:Nat):Int)-1:=by
  generalize 2 ^ m=q at *
  exact w64_id (by omega) (by omega)
 rw[h2,h3,ishr_i64 _ _ hf,band_low _ _ (by omega),ishl_nat _ _ (by omega)]
 unfold fldN at hl ⊢
 rw[Int.toNat_natCast,Int.toNat_natCast,Int.toNat_natCast] at *
 have h:=mod_pow_nat (n / (2 ^ f:Nat)) m
 obtain⟨q,hq⟩:∃q:Nat,n / (2 ^ f:Nat) % (2 ^ m:Nat)=(q:Int):=⟨(n / (2 ^ f:Nat) % (2 ^ m:Nat)).toNat,by omega⟩
 rw[hq] at hl ⊢
 rw[Int.toNat_natCast] at hl ⊢
 rw[show(q:Int)*2 ^ a=((q*2 ^ a:Nat):Int) by simp]
 exact w64_id (by omega) (by omega)
theorem part_val (p:tpart.den) (h:partOk p=true):ishl .i64 (band .i64 (ishr .i64 p.1 p.2.1) (w64 (ishl .i64 1 p.2.2.1-1))) p.2.2.2.1=(partN p:Int)∧partN p<281474976710656∧decide (p.2.1<0)=false∧decide (p.2.2.1<0)=false∧decide (p.2.2.2.1<0)=false:=by
 obtain⟨n,f,m,a,u⟩:=p
 simp only[partOk,Bool.and_eq_true,decide_eq_true_eq] at h
 obtain⟨⟨h1,h2⟩,⟨h3,h4⟩,h5,h6⟩:=h
 dsimp only[Ty.den] at *
 obtain⟨f,rfl⟩:=Int.eq_ofNat_of_zero_le h1
 obtain⟨m,rfl⟩:=Int.eq_ofNat_of_zero_le h3
 obtain⟨a,rfl⟩:=Int.eq_ofNat_of_zero_le h5
 exact⟨fld_val n (by omega) (by omega) (by omega),fldN_lt n _ (by omega) (by omega),dec_false (by omega),dec_false (by omega),dec_false (by omega)⟩
theorem or_part {b:Nat} (p:tpart.den) (h:partOk p=true) (hb:b<281474976710656):bor .i64 (b:Int) (ishl .i64 (band .i64 (ishr .i64 p.1 p.2.1) (w64 (ishl .i64 1 p.2.2.1-1))) p.2.2.2.1)=((b |||partN p:Nat):Int)∧b |||partN p<281474976710656:=by
 obtain⟨h1,h2,_⟩:=part_val p h
 exact⟨by rw[h1,bor_nat (by omega) (by omega)],Nat.or_lt_two_pow (n:=48) hb h2⟩
abbrev qhl:List Ty:=[(.int .i64),(.sl tpart)]
abbrev qjn:Sh:=Sh.ty (Ty.int IntKind.i64)
def qdZ (x:dens qhl):PO (Sh.den qjn) :=
 (.ite (decide (0<lenI x.2))
  (.ite (inRange 0 (List.length x.2))
  (.ite (!decide ((List.getD x.2 (Int.toNat 0) (Ty.dflt tpart)).2.1<0)&&(!decide ((List.getD x.2 (Int.toNat 0) (Ty.dflt tpart)).2.2.1<0)&&!decide ((List.getD x.2 (Int.toNat 0) (Ty.dflt tpart)).2.2.2.1<0)))
   (.ite (decide (1<lenI x.2))
   (.ite (inRange 1 (List.length x.2))
    (.ite (!decide ((List.getD x.2 (Int.toNat 1) (Ty.dflt tpart)).2.1<0)&&(!decide ((List.getD x.2 (Int.toNat 1) (Ty.dflt tpart)).2.2.1<0)&&!decide ((List.getD x.2 (Int.toNat 1) (Ty.dflt tpart)).2.2.2.1<0)))
    (.ite (decide (2<lenI x.2))
     (.ite (inRange 2 (List.length x.2))
     (.ite (!decide ((List.getD x.2 (Int.toNat 2) (Ty.dflt tpart)).2.1<0)&&(!decide ((List.getD x.2 (Int.toNat 2) (Ty.dflt tpart)).2.2.1<0)&&!decide ((List.getD x.2 (Int.toNat 2) (Ty.dflt tpart)).2.2.2.1<0)))
      (.ite (decide (3<lenI x.2))
      (.ite (inRange 3 (List.length x.2))
       (.ite (!decide ((List.getD x.2 (Int.toNat 3) (Ty.dflt tpart)).2.1<0)&&(!decide ((List.getD x.2 (Int.toNat 3) (Ty.dflt tpart)).2.2.1<0)&&!decide ((List.getD x.2 (Int.toNat 3) (Ty.dflt tpart)).2.2.2.1<0)))
       (.ite (decide (4<lenI x.2))
        (.ite (inRange 4 (List.length x.2))
        (.ite (!decide ((List.getD x.2 (Int.toNat 4) (Ty.dflt tpart)).2.1<0)&&(!decide ((List.getD x.2 (Int.toNat 4) (Ty.dflt tpart)).2.2.1<0)&&!decide ((List.getD x.2 (Int.toNat 4) (Ty.dflt tpart)).2.2.2.1<0)))
         (.ite (decide (5<lenI x.2))
         (.ite (inRange 5 (List.length x.2))
          (.ite (!decide ((List.getD x.2 (Int.toNat 5) (Ty.dflt tpart)).2.1<0)&&(!decide ((List.getD x.2 (Int.toNat 5) (Ty.dflt tpart)).2.2.1<0)&&!decide ((List.getD x.2 (Int.toNat 5) (Ty.dflt tpart)).2.2.2.1<0)))
          .fail
          .fail)
          .fail)
         (.ret (bor IntKind.i64 (bor IntKind.i64 (bor IntKind.i64 (bor IntKind.i64 (bor IntKind.i64 x.1 (ishl IntKind.i64 (band IntKind.i64 (ishr IntKind.i64 (List.getD x.2 (Int.toNat 0) (Ty.dflt tpart)).1 (List.getD x.2 (Int.toNat 0) (Ty.dflt tpart)).2.1) (w64 (ishl IntKind.i64 1 (List.getD x.2 (Int.toNat 0) (Ty.dflt tpart)).2.2.1-1))) (List.getD x.2 (Int.toNat 0) (Ty.dflt tpart)).2.2.2.1)) (ishl IntKind.i64 (band IntKind.i64 (ishr IntKind.i64 (List.getD x.2 (Int.toNat 1) (Ty.dflt tpart)).1 (List.getD x.2 (Int.toNat 1) (Ty.dflt tpart)).2.1) (w64 (ishl IntKind.i64 1 (List.getD x.2 (Int.toNat 1) (Ty.dflt tpart)).2.2.1-1))) (List.getD x.2 (Int.toNat 1) (Ty.dflt tpart)).2.2.2.1)) (ishl IntKind.i64 (band IntKind.i64 (ishr IntKind.i64 (List.getD x.2 (Int.toNat 2) (Ty.dflt tpart)).1 (List.getD x.2 (Int.toNat 2) (Ty.dflt tpart)).2.1) (w64 (ishl IntKind.i64 1 (List.getD x.2 (Int.toNat 2) (Ty.dflt tpart)).2.2.1-1))) (List.getD x.2 (Int.toNat 2) (Ty.dflt tpart)).2.2.2.1)) (ishl IntKind.i64 (band IntKind.i64 (ishr IntKind.i64 (List.getD x.2 (Int.toNat 3) (Ty.dflt tpart)).1 (List.getD x.2 (Int.toNat 3) (Ty.dflt tpart)).2.1) (w64 (ishl IntKind.i64 1 (List.getD x.2 (Int.toNat 3) (Ty.dflt tpart)).2.2.1-1))) (List.getD x.2 (Int.toNat 3) (Ty.dflt tpart)).2.2.2.1)) (ishl IntKind.i64 (band IntKind.i64 (ishr IntKind.i64 (List.getD x.2 (Int.toNat 4) (Ty.dflt tpart)).1 (List.getD x.2 (Int.toNat 4) (Ty.dflt tpart)).2.1) (w64 (ishl IntKind.i64 1 (List.getD x.2 (Int.toNat 4) (Ty.dflt tpart)).2.2.1-1))) (List.getD x.2 (Int.toNat 4) (Ty.dflt tpart)).2.2.2.1))))
         .fail)
        .fail)
        (.ret (bor IntKind.i64 (bor IntKind.i64 (bor IntKind.i64 (bor IntKind.i64 x.1 (ishl IntKind.i64 (band IntKind.i64 (ishr IntKind.i64 (List.getD x.2 (Int.toNat 0) (Ty.dflt tpart)).1 (List.getD x.2 (Int.toNat 0) (Ty.dflt tpart)).2.1) (w64 (ishl IntKind.i64 1 (List.getD x.2 (Int.toNat 0) (Ty.dflt tpart)).2.2.1-1))) (List.getD x.2 (Int.toNat 0) (Ty.dflt tpart)).2.2.2.1)) (ishl IntKind.i64 (band IntKind.i64 (ishr IntKind.i64 (List.getD x.2 (Int.toNat 1) (Ty.dflt tpart)).1 (List.getD x.2 (Int.toNat 1) (Ty.dflt tpart)).2.1) (w64 (ishl IntKind.i64 1 (List.getD x.2 (Int.toNat 1) (Ty.dflt tpart)).2.2.1-1))) (List.getD x.2 (Int.toNat 1) (Ty.dflt tpart)).2.2.2.1)) (ishl IntKind.i64 (band IntKind.i64 (ishr IntKind.i64 (List.getD x.2 (Int.toNat 2) (Ty.dflt tpart)).1 (List.getD x.2 (Int.toNat 2) (Ty.dflt tpart)).2.1) (w64 (ishl IntKind.i64 1 (List.getD x.2 (Int.toNat 2) (Ty.dflt tpart)).2.2.1-1))) (List.getD x.2 (Int.toNat 2) (Ty.dflt tpart)).2.2.2.1)) (ishl IntKind.i64 (band IntKind.i64 (ishr IntKind.i64 (List.getD x.2 (Int.toNat 3) (Ty.dflt tpart)).1 (List.getD x.2 (Int.toNat 3) (Ty.dflt tpart)).2.1) (w64 (ishl IntKind.i64 1 (List.getD x.2 (Int.toNat 3) (Ty.dflt tpart)).2.2.1-1))) (List.getD x.2 (Int.toNat 3) (Ty.dflt tpart)).2.2.2.1))))
       .fail)
       .fail)
      (.ret (bor IntKind.i64 (bor IntKind.i64 (bor IntKind.i64 x.1 (ishl IntKind.i64 (band IntKind.i64 (ishr IntKind.i64 (List.getD x.2 (Int.toNat 0) (Ty.dflt tpart)).1 (List.getD x.2 (Int.toNat 0) (Ty.dflt tpart)).2.1) (w64 (ishl IntKind.i64 1 (List.getD x.2 (Int.toNat 0) (Ty.dflt tpart)).2.2.1-1))) (List.getD x.2 (Int.toNat 0) (Ty.dflt tpart)).2.2.2.1)) (ishl IntKind.i64 (band IntKind.i64 (ishr IntKind.i64 (List.getD x.2 (Int.toNat 1) (Ty.dflt tpart)).1 (List.getD x.2 (Int.toNat 1) (Ty.dflt tpart)).2.1) (w64 (ishl IntKind.i64 1 (List.getD x.2 (Int.toNat 1) (Ty.dflt tpart)).2.2.1-1))) (List.getD x.2 (Int.toNat 1) (Ty.dflt tpart)).2.2.2.1)) (ishl IntKind.i64 (band IntKind.i64 (ishr IntKind.i64 (List.getD x.2 (Int.toNat 2) (Ty.dflt tpart)).1 (List.getD x.2 (Int.toNat 2) (Ty.dflt tpart)).2.1) (w64 (ishl IntKind.i64 1 (List.getD x.2 (Int.toNat 2) (Ty.dflt tpart)).2.2.1-1))) (List.getD x.2 (Int.toNat 2) (Ty.dflt tpart)).2.2.2.1))))
      .fail)
     .fail)
     (.ret (bor IntKind.i64 (bor IntKind.i64 x.1 (ishl IntKind.i64 (band IntKind.i64 (ishr IntKind.i64 (List.getD x.2 (Int.toNat 0) (Ty.dflt tpart)).1 (List.getD x.2 (Int.toNat 0) (Ty.dflt tpart)).2.1) (w64 (ishl IntKind.i64 1 (List.getD x.2 (Int.toNat 0) (Ty.dflt tpart)).2.2.1-1))) (List.getD x.2 (Int.toNat 0) (Ty.dflt tpart)).2.2.2.1)) (ishl IntKind.i64 (band IntKind.i64 (ishr IntKind.i64 (List.getD x.2 (Int.toNat 1) (Ty.dflt tpart)).1 (List.getD x.2 (Int.toNat 1) (Ty.dflt tpart)).2.1) (w64 (ishl IntKind.i64 1 (List.getD x.2 (Int.toNat 1) (Ty.dflt tpart)).2.2.1-1))) (List.getD x.2 (Int.toNat 1) (Ty.dflt tpart)).2.2.2.1))))
    .fail)
    .fail)
   (.ret (bor IntKind.i64 x.1 (ishl IntKind.i64 (band IntKind.i64 (ishr IntKind.i64 (List.getD x.2 (Int.toNat 0) (Ty.dflt tpart)).1 (List.getD x.2 (Int.toNat 0) (Ty.dflt tpart)).2.1) (w64 (ishl IntKind.i64 1 (List.getD x.2 (Int.toNat 0) (Ty.dflt tpart)).2.2.1-1))) (List.getD x.2 (Int.toNat 0) (Ty.dflt tpart)).2.2.2.1))))
   .fail)
  .fail)
  (.ret (x.1)))
def qz (x:dens qhl):Bool:=(decide ((0:Int)≤x.1)&&decide ((x.1:Int)<281474976710656))&&(decide (List.length x.2≤5)&&List.all x.2 partOk)
def qe (x:dens qhl):Sh.den qjn:=((List.foldl (fun b p=>b |||partN p) (Int.toNat x.1) x.2:Nat):Int)
theorem qne (x:dens qhl) (h:qz x=true):(qdZ x).val=some (qe x):=by
 obtain⟨n,l⟩:=x
 simp only[qz,Bool.and_eq_true,decide_eq_true_eq] at h
 obtain⟨⟨h1,h2⟩,h3,h4⟩:=h
 dsimp only[Ty.den] at *
 obtain⟨b,rfl⟩:=Int.eq_ofNat_of_zero_le h1
 unfold qe
 match l,h3,h4 with
 |[],_,_=>simp[qdZ,PO.val,lenI]
 |[p],_,h4 =>
  simp only[List.all_cons,List.all_nil,Bool.and_true] at h4
  obtain⟨e1,l1⟩:=or_part p h4 (show b<281474976710656 by omega)
  obtain⟨_,_,p1,p2,p3⟩:=part_val p h4
  simp[qdZ,PO.val,lenI,inRange,p1,p2,p3,e1]
 |[p,q],_,h4 =>
  simp only[List.all_cons,List.all_nil,Bool.and_true,Bool.and_eq_true] at h4
  obtain⟨hp,hq⟩:=h4
  obtain⟨e1,l1⟩:=or_part p hp (show b<281474976710656 by omega)
  obtain⟨_,_,p1,p2,p3⟩:=part_val p hp
  obtain⟨e2,l2⟩:=or_part q hq l1
  obtain⟨_,_,q1,q2,q3⟩:=part_val q hq
  simp[qdZ,PO.val,lenI,inRange,p1,p2,p3,e1,q1,q2,q3,e2]
 |[p,q,r],_,h4 =>
  simp only[List.all_cons,List.all_nil,Bool.and_true,Bool.and_eq_true] at h4
  obtain⟨hp,hq,hr⟩:=h4
  obtain⟨e1,l1⟩:=or_part p hp (show b<281474976710656 by omega)
  obtain⟨_,_,p1,p2,p3⟩:=part_val p hp
  obtain⟨e2,l2⟩:=or_part q hq l1
  obtain⟨_,_,q1,q2,q3⟩:=part_val q hq
  obtain⟨e3,l3⟩:=or_part r hr l2
  obtain⟨_,_,r1,r2,r3⟩:=part_val r hr
  simp[qdZ,PO.val,lenI,inRange,p1,p2,p3,e1,q1,q2,q3,e2,r1,r2,r3,e3]
 |[p,q,r,s],_,h4 =>
  simp only[List.all_cons,List.all_nil,Bool.and_true,Bool.and_eq_true] at h4
  obtain⟨hp,hq,hr,hs⟩:=h4
  obtain⟨e1,l1⟩:=or_part p hp (show b<281474976710656 by omega)
  obtain⟨_,_,p1,p2,p3⟩:=part_val p hp
  obtain⟨e2,l2⟩:=or_part q hq l1
  obtain⟨_,_,q1,q2,q3⟩:=part_val q hq
  obtain⟨e3,l3⟩:=or_part r hr l2
  obtain⟨_,_,r1,r2,r3⟩:=part_val r hr
  obtain⟨e4,l4⟩:=or_part s hs l3
  obtain⟨_,_,s1,s2,s3⟩:=part_val s hs
  simp[qdZ,PO.val,lenI,inRange,p1,p2,p3,e1,q1,q2,q3,e2,r1,r2,r3,e3,s1,s2,s3,e4]
 |[p,q,r,s,t],_,h4 =>
  simp only[List.all_cons,List.all_nil,Bool.and_true,Bool.and_eq_true] at h4
  obtain⟨hp,hq,hr,hs,ht⟩:=h4
  obtain⟨e1,l1⟩:=or_part p hp (show b<281474976710656 by omega)
  obtain⟨_,_,p1,p2,p3⟩:=part_val p hp
  obtain⟨e2,l2⟩:=or_part q hq l1
  obtain⟨_,_,q1,q2,q3⟩:=part_val q hq
  obtain⟨e3,l3⟩:=or_part r hr l2
  obtain⟨_,_,r1,r2,r3⟩:=part_val r hr
  obtain⟨e4,l4⟩:=or_part s hs l3
  obtain⟨_,_,s1,s2,s3⟩:=part_val s hs
  obtain⟨e5,l5⟩:=or_part t ht l4
  obtain⟨_,_,t1,t2,t3⟩:=part_val t ht
  simp[qdZ,PO.val,lenI,inRange,p1,p2,p3,e1,q1,q2,q3,e2,r1,r2,r3,e3,s1,s2,s3,e4,t1,t2,t3,e5]
 |_::_::_::_::_::_::_,h3,_=>simp at h3
abbrev qeN:List Ty:=[(.int .i64),tIns,(.int .i64)]
abbrev qgf:Sh:=Sh.ty tSpot
def qk (x:dens qeN):PO (Sh.den qgf) :=
 (.ite (qz (0,[(x.2.1.2.2.2.2.2.1,2,3,12,()),(x.2.1.2.1,0,4,8,()),(x.2.1.2.2.2.2.2.1,0,2,6,()),(x.2.2,0,2,4,()),(x.2.1.2.2.2.1,0,4,0,())]))
  (.ite (qz (x.1,[(x.2.1.2.2.1,0,4,0,())]))
  (.ret ((qe (x.1,[(x.2.1.2.2.1,0,4,0,())]),qe (0,[(x.2.1.2.2.2.2.2.1,2,3,12,()),(x.2.1.2.1,0,4,8,()),(x.2.1.2.2.2.2.2.1,0,2,6,()),(x.2.2,0,2,4,()),(x.2.1.2.2.2.1,0,4,0,())]),true,())))
  .fail)
  .fail)
def qbi (x:dens qeN):Bool:=(qk x).val.isSome
def q7 (x:dens qeN):Sh.den qgf:=(qk x).getO default
theorem qlV (x:dens qeN) (h:qbi x=true):(qk x).val=some (q7 x):=PO.getO_ok default h
abbrev qgq:List Ty:=[(.int .i64),tIns]
abbrev qh7:Sh:=Sh.ty tSpot
def qb3 (x:dens qgq):PO (Sh.den qh7) :=
 (.ite (qz (x.1,[(x.2.2.2.2.2.2.1,11,1,10,()),(x.2.2.2.2.2.2.1,12,4,0,())]))
  (.ite (qz (0,[(x.2.2.2.2.2.2.1,8,3,12,()),(x.2.2.1,0,4,8,()),(x.2.2.2.2.2.2.1,0,8,0,())]))
  (.ret ((qe (x.1,[(x.2.2.2.2.2.2.1,11,1,10,()),(x.2.2.2.2.2.2.1,12,4,0,())]),qe (0,[(x.2.2.2.2.2.2.1,8,3,12,()),(x.2.2.1,0,4,8,()),(x.2.2.2.2.2.2.1,0,8,0,())]),true,())))
  .fail)
  .fail)
def qgr (x:dens qgq):Bool:=(qb3 x).val.isSome
def qgD (x:dens qgq):Sh.den qh7:=(qb3 x).getO default
theorem qm2 (x:dens qgq) (h:qgr x=true):(qb3 x).val=some (qgD x):=PO.getO_ok default h
abbrev qf1:List Ty:=[(.int .i64),(.int .i64),(.int .i64)]
abbrev qhB:Sh:=Sh.ty tSpot
def qL (x:dens qf1):PO (Sh.den qhB) :=
 (.ite (qz (x.1,[(x.2.1,0,3,0,()),(x.2.2,0,3,3,())]))
  (.ret ((qe (x.1,[(x.2.1,0,3,0,()),(x.2.2,0,3,3,())]),0,false,())))
  .fail)
def qc7 (x:dens qf1):Bool:=(qL x).val.isSome
def qc6 (x:dens qf1):Sh.den qhB:=(qL x).getO default
theorem qmH (x:dens qf1) (h:qc7 x=true):(qL x).val=some (qc6 x):=PO.getO_ok default h
abbrev qgL:List Ty:=[tIns]
abbrev qii:Sh:=Sh.ty tSpot
def qbC (x:dens qgL):PO (Sh.den qii) :=
 (.ite (qz (0,[(x.2.2.2.2.2.1,1,11,0,())]))
  (.ite (x.1==25)
  (.ite (qz (61440,[(band IntKind.i64 (ishr IntKind.i64 x.2.2.2.2.2.1 24) 1,0,1,10,()),(x.2.2.2.2.2.2.1,0,4,6,()),(x.2.2.2.2.2.1,12,6,0,())]))
   (.ite (qz (bor IntKind.i64 (qe (0,[(x.2.2.2.2.2.1,1,11,0,())])) 32768,[(x.2.2.2.2.2.1,18,1,13,()),(x.2.2.2.2.2.1,19,1,11,())]))
   (.ret ((qe (61440,[(band IntKind.i64 (ishr IntKind.i64 x.2.2.2.2.2.1 24) 1,0,1,10,()),(x.2.2.2.2.2.2.1,0,4,6,()),(x.2.2.2.2.2.1,12,6,0,())]),qe (bor IntKind.i64 (qe (0,[(x.2.2.2.2.2.1,1,11,0,())])) 32768,[(x.2.2.2.2.2.1,18,1,13,()),(x.2.2.2.2.2.1,19,1,11,())]),true,())))
   .fail)
   .fail)
  (.ite (qz (61440,[(band IntKind.i64 (ishr IntKind.i64 x.2.2.2.2.2.1 24) 1,0,1,10,()),(x.2.2.2.2.2.1,12,10,0,())]))
   (.ite (qz (bor IntKind.i64 (qe (0,[(x.2.2.2.2.2.1,1,11,0,())])) 36864,[(bxor IntKind.i64 (icompl IntKind.i64 (ishr IntKind.i64 x.2.2.2.2.2.1 23)) (band IntKind.i64 (ishr IntKind.i64 x.2.2.2.2.2.1 24) 1),0,1,13,()),(bxor IntKind.i64 (icompl IntKind.i64 (ishr IntKind.i64 x.2.2.2.2.2.1 22)) (band IntKind.i64 (ishr IntKind.i64 x.2.2.2.2.2.1 24) 1),0,1,11,())]))
   (.ret ((qe (61440,[(band IntKind.i64 (ishr IntKind.i64 x.2.2.2.2.2.1 24) 1,0,1,10,()),(x.2.2.2.2.2.1,12,10,0,())]),qe (bor IntKind.i64 (qe (0,[(x.2.2.2.2.2.1,1,11,0,())])) 36864,[(bxor IntKind.i64 (icompl IntKind.i64 (ishr IntKind.i64 x.2.2.2.2.2.1 23)) (band IntKind.i64 (ishr IntKind.i64 x.2.2.2.2.2.1 24) 1),0,1,13,()),(bxor IntKind.i64 (icompl IntKind.i64 (ishr IntKind.i64 x.2.2.2.2.2.1 22)) (band IntKind.i64 (ishr IntKind.i64 x.2.2.2.2.2.1 24) 1),0,1,11,())]),true,())))
   .fail)
   .fail))
  .fail)
def qic (x:dens qgL):Bool:=(qbC x).val.isSome
def qim (x:dens qgL):Sh.den qii:=(qbC x).getO default
theorem qmW (x:dens qgL) (h:qic x=true):(qbC x).val=some (qim x):=PO.getO_ok default h
abbrev qfs:List Ty:=[tIns]
abbrev qgV:Sh:=Sh.ty tSpot
def qt (x:dens qfs):PO (Sh.den qgV) :=
 (.ite (x.1==16)
  (.ite (qbi (64256,x,0))
  (.ret (((q7 (64256,x,0)).1,bor IntKind.i64 (q7 (64256,x,0)).2.1 61440,(q7 (64256,x,0)).2.2)))
  .fail)
  (.ite (x.1==17)
  (.ret ((bor IntKind.i64 64416 x.2.2.1,bor IntKind.i64 (bor IntKind.i64 (ishl IntKind.i64 x.2.1 12) (ishl IntKind.i64 x.2.2.2.2.1 8)) x.2.2.2.1,true,())))
  (.ite (x.1==18)
   (.ite (qz (w64 (w64 (x.2.2.2.2.2.1+x.2.2.2.2.1)-1),[(x.2.2.2.2.2.1,2,3,12,()),(x.2.1,0,4,8,()),(x.2.2.2.2.2.1,0,2,6,())]))
   (.ret ((bor IntKind.i64 62304 x.2.2.1,qe (w64 (w64 (x.2.2.2.2.2.1+x.2.2.2.2.1)-1),[(x.2.2.2.2.2.1,2,3,12,()),(x.2.1,0,4,8,()),(x.2.2.2.2.2.1,0,2,6,())]),true,())))
   .fail)
   (.ite (x.1==19)
   (.ite (qc7 (26624,x.2.1,x.2.2.1))
    (.ret (qc6 (26624,x.2.1,x.2.2.1)))
    .fail)
   (.ite (x.1==20)
    (.ite (qc7 (24576,x.2.1,x.2.2.1))
    (.ret (qc6 (24576,x.2.1,x.2.2.1)))
    .fail)
    (.ite (x.1==21)
    (.ite (qc7 (30720,x.2.1,x.2.2.1))
     (.ret (qc6 (30720,x.2.1,x.2.2.1)))
     .fail)
    (.ite (x.1==22)
     (.ite (qc7 (28672,x.2.1,x.2.2.1))
     (.ret (qc6 (28672,x.2.1,x.2.2.1)))
     .fail)
     (.ite (x.1==23)
     (.ite (qc7 (17024,x.2.2.1,x.2.2.2.1))
      (.ret (qc6 (17024,x.2.2.1,x.2.2.2.1)))
      .fail)
     (.ite (x.2.2.2.2.2.2.2.1)
      (.ite (qic x)
      (.ret (qim x))
      .fail)
      (.ite (x.1==24)
      (.ite (qz (57344,[(x.2.2.2.2.2.1,1,11,0,())]))
       (.ret ((qe (57344,[(x.2.2.2.2.2.1,1,11,0,())]),0,false,())))
       .fail)
      (.ite (qz (53248,[(x.2.2.2.2.2.2.1,0,4,8,()),(x.2.2.2.2.2.1,1,8,0,())]))
       (.ret ((qe (53248,[(x.2.2.2.2.2.2.1,0,4,8,()),(x.2.2.2.2.2.1,1,8,0,())]),0,false,())))
       .fail)))))))))))
def qg0 (x:dens qfs):Bool:=(qt x).val.isSome
def qg4 (x:dens qfs):Sh.den qgV:=(qt x).getO default
theorem qmo (x:dens qfs) (h:qg0 x=true):(qt x).val=some (qg4 x):=PO.getO_ok default h
abbrev qgI:List Ty:=[tIns]
abbrev qih:Sh:=Sh.ty tSpot
def qr (x:dens qgI):PO (Sh.den qih) :=
 (.ite (x.1==1)
  (.ret ((48896,0,false,())))
  (.ite (x.1==2)
  (.ret ((bor IntKind.i64 48640 x.2.2.2.2.2.1,0,false,())))
  (.ite (x.1==3)
   (.ite (qgr (62016,x))
   (.ret (qgD (62016,x)))
   .fail)
   (.ite (x.1==4)
   (.ite (qgr (62144,x))
    (.ret (qgD (62144,x)))
    .fail)
   (.ite (bif x.1==5 then x.1==5 else bif x.1==6 then x.1==6 else bif x.1==7 then x.1==7 else x.1==8)
    (.ite (qbi (59983,x,w64 (x.1-5)))
    (.ret (q7 (59983,x,w64 (x.1-5))))
    .fail)
    (.ite (x.1==9)
    (.ite (qbi (60015,x,0))
     (.ret (q7 (60015,x,0)))
     .fail)
    (.ite (x.1==10)
     (.ite (qbi (59904,x,0))
     (.ret (q7 (59904,x,0)))
     .fail)
     (.ite (x.1==11)
     (.ite (qbi (59936,x,0))
      (.ret (q7 (59936,x,0)))
      .fail)
     (.ite (x.1==12)
      (.ite (qbi (59968,x,0))
      (.ret (q7 (59968,x,0)))
      .fail)
      (.ite (x.1==13)
      (.ite (qbi (60032,x,0))
       (.ret (q7 (60032,x,0)))
       .fail)
      (.ite (x.1==14)
       (.ite (qbi (60160,x,0))
       (.ret (q7 (60160,x,0)))
       .fail)
       (.ite (x.1==15)
       (.ite (qbi (60320,x,0))
        (.ret (q7 (60320,x,0)))
        .fail)
       (.ite (qg0 x)
        (.ret (qg4 x))
        .fail)))))))))))))
def qcu (x:dens qgI):Bool:=(qr x).val.isSome
def qT (x:dens qgI):Sh.den qih:=(qr x).getO default
theorem qmX (x:dens qgI) (h:qcu x=true):(qr x).val=some (qT x):=PO.getO_ok default h
end Go.Av
end
section
namespace Go.Av
open Go
def isLong (op:Int) (w:Bool):Bool:=w||(decide (3≤op)&&decide (op≤18))
theorem put_ok (b:Nat) (l:List tpart.den) (hb:b<281474976710656) (hl:(decide (List.length l≤5)&&List.all l partOk)=true):qz ((b:Int),l)=true:=by
 have h1:decide ((0:Int)≤(b:Int))=true:=dec_true (by omega)
 have h2:decide ((b:Int)<281474976710656)=true:=dec_true (by omega)
 show((decide ((0:Int)≤(b:Int))&&decide ((b:Int)<281474976710656))&&(decide (List.length l≤5)&&List.all l partOk))=true
 rw[h1,h2,hl]
 rfl
theorem put_ok0 (l:List tpart.den) (hl:(decide (List.length l≤5)&&List.all l partOk)=true):qz (0,l)=true:=put_ok 0 l (by omega) hl
section
variable (first:Nat) (op rd rn rm ra imm cond:Int) (w:Bool) (kind:Int)
theorem shifted_val (h:first<281474976710656):(qk ((first:Int),(op,rd,rn,rm,ra,imm,cond,w,()),kind)).val =
  some (qe ((first:Int),[(rn,0,4,0,())]),qe (0,[(imm,2,3,12,()),(rd,0,4,8,()),(imm,0,2,6,()),(kind,0,2,4,()),(rm,0,4,0,())]),true,()):=by
 have h1:qz ((first:Int),[(rn,0,4,0,())])=true:=put_ok first _ h rfl
 have h2:qz (0,[(imm,2,3,12,()),(rd,0,4,8,()),(imm,0,2,6,()),(kind,0,2,4,()),(rm,0,4,0,())])=true:=put_ok0 _ rfl
 show(bif qz (0,[(imm,2,3,12,()),(rd,0,4,8,()),(imm,0,2,6,()),(kind,0,2,4,()),(rm,0,4,0,())]) then(bif qz ((first:Int),[(rn,0,4,0,())]) then _ else _) else _)=_
 rw[h1,h2]
 rfl
theorem move_val (h:first<281474976710656):(qb3 ((first:Int),(op,rd,rn,rm,ra,imm,cond,w,()))).val =
  some (qe ((first:Int),[(imm,11,1,10,()),(imm,12,4,0,())]),qe (0,[(imm,8,3,12,()),(rd,0,4,8,()),(imm,0,8,0,())]),true,()):=by
 have h1:qz ((first:Int),[(imm,11,1,10,()),(imm,12,4,0,())])=true:=put_ok first _ h rfl
 have h2:qz (0,[(imm,8,3,12,()),(rd,0,4,8,()),(imm,0,8,0,())])=true:=put_ok0 _ rfl
 show(bif qz ((first:Int),[(imm,11,1,10,()),(imm,12,4,0,())]) then(bif qz (0,[(imm,8,3,12,()),(rd,0,4,8,()),(imm,0,8,0,())]) then _ else _) else _)=_
 rw[h1,h2]
 rfl
theorem short_val (a b:Int) (h:first<281474976710656):(qL ((first:Int),a,b)).val=some (qe ((first:Int),[(a,0,3,0,()),(b,0,3,3,())]),0,false,()):=by
 have h1:qz ((first:Int),[(a,0,3,0,()),(b,0,3,3,())])=true:=put_ok first _ h rfl
 show(bif qz ((first:Int),[(a,0,3,0,()),(b,0,3,3,())]) then _ else _)=_
 rw[h1]
 rfl
def lowN:Nat:=fldN imm 1 11 0
theorem lowN_lt:lowN imm<2048:=by
 unfold lowN fldN
 have h:=mod_pow_nat (imm / (2 ^ (1:Int).toNat:Nat)) 11
 have e:(11:Int).toNat=11:=rfl
 have e0:(0:Int).toNat=0:=rfl
 rw[e,e0]
 omega
theorem put_low:qe (0,[(imm,1,11,0,())])=(lowN imm:Int):=by
 show((0 |||fldN imm 1 11 0:Nat):Int)=_
 rw[Nat.zero_or]
 rfl
def wideV:tSpot.den :=
 bif op==25 then(qe (61440,[(band .i64 (ishr .i64 imm 24) 1,0,1,10,()),(cond,0,4,6,()),(imm,12,6,0,())]),qe (((lowN imm |||32768:Nat):Int),[(imm,18,1,13,()),(imm,19,1,11,())]),true,())
 else(qe (61440,[(band .i64 (ishr .i64 imm 24) 1,0,1,10,()),(imm,12,10,0,())]),qe (((lowN imm |||36864:Nat):Int),[(bxor .i64 (icompl .i64 (ishr .i64 imm 23)) (band .i64 (ishr .i64 imm 24) 1),0,1,13,()),(bxor .i64 (icompl .i64 (ishr .i64 imm 22)) (band .i64 (ishr .i64 imm 24) 1),0,1,11,())]),true,())
theorem wide_val:(qbC (op,rd,rn,rm,ra,imm,cond,w,())).val=some (wideV op imm cond):=by
 have hl:=lowN_lt imm
 have o1:lowN imm |||32768<2 ^ 48:=Nat.or_lt_two_pow (by omega) (by omega)
 have o2:lowN imm |||36864<2 ^ 48:=Nat.or_lt_two_pow (by omega) (by omega)
 have e1:bor .i64 (qe (0,[(imm,1,11,0,())])) 32768=((lowN imm |||32768:Nat):Int):=by
  rw[put_low];exact bor_nat (b:=32768) (by omega) (by omega)
 have e2:bor .i64 (qe (0,[(imm,1,11,0,())])) 36864=((lowN imm |||36864:Nat):Int):=by
  rw[put_low];exact bor_nat (b:=36864) (by omega) (by omega)
 have g0:qz (0,[(imm,1,11,0,())])=true:=put_ok0 _ rfl
 have g1:qz (61440,[(band .i64 (ishr .i64 imm 24) 1,0,1,10,()),(cond,0,4,6,()),(imm,12,6,0,())])=true:=put_ok 61440 _ (by omega) rfl
 have g2:qz (61440,[(band .i64 (ishr .i64 imm 24) 1,0,1,10,()),(imm,12,10,0,())])=true:=put_ok 61440 _ (by omega) rfl
 have g3:=put_ok (lowN imm |||32768) [(imm,18,1,13,()),(imm,19,1,11,())] o1 rfl
 have g4:=put_ok (lowN imm |||36864) [(bxor .i64 (icompl .i64 (ishr .i64 imm 23)) (band .i64 (ishr .i64 imm 24) 1),0,1,13,()),(bxor .i64 (icompl .i64 (ishr .i64 imm 22)) (band .i64 (ishr .i64 imm 24) 1),0,1,11,())] o2 rfl
 simp only[qbC,PO.val]
 rw[e1,e2,g0,g1,g2,g3,g4]
 unfold wideV
 cases op==25
 ·rfl
 ·rfl
end
def codeV (op rd rn rm ra imm cond:Int) (w:Bool):tSpot.den :=
 bif op==1 then(48896,0,false,())
 else bif op==2 then(bor .i64 48640 imm,0,false,())
 else bif op==3 then(qe (62016,[(imm,11,1,10,()),(imm,12,4,0,())]),qe (0,[(imm,8,3,12,()),(rd,0,4,8,()),(imm,0,8,0,())]),true,())
 else bif op==4 then(qe (62144,[(imm,11,1,10,()),(imm,12,4,0,())]),qe (0,[(imm,8,3,12,()),(rd,0,4,8,()),(imm,0,8,0,())]),true,())
 else bif decide (op≤16)&&decide (5≤op) then
  (qe (bif decide (op≤8) then 59983 else bif op==9 then 60015 else bif op==10 then 59904 else bif op==11 then 59936 else bif op==12 then 59968 else bif op==13 then 60032 else bif op==14 then 60160 else bif op==15 then 60320 else 64256,[(rn,0,4,0,())]),
   (bif op==16 then bor .i64 (qe (0,[(imm,2,3,12,()),(rd,0,4,8,()),(imm,0,2,6,()),(0,0,2,4,()),(rm,0,4,0,())])) 61440
   else qe (0,[(imm,2,3,12,()),(rd,0,4,8,()),(imm,0,2,6,()),(bif decide (op≤8) then op-5 else 0,0,2,4,()),(rm,0,4,0,())])),true,())
 else bif op==17 then(bor .i64 64416 rn,bor .i64 (bor .i64 (ishl .i64 rd 12) (ishl .i64 ra 8)) rm,true,())
 else bif op==18 then(bor .i64 62304 rn,qe (imm+ra-1,[(imm,2,3,12,()),(rd,0,4,8,()),(imm,0,2,6,())]),true,())
 else bif op==23 then(qe (17024,[(rn,0,3,0,()),(rm,0,3,3,())]),0,false,())
 else bif decide (op≤22) then(qe (bif op==19 then 26624 else bif op==20 then 24576 else bif op==21 then 30720 else 28672,[(rd,0,3,0,()),(rn,0,3,3,())]),0,false,())
 else bif w then wideV op imm cond
 else bif op==24 then(qe (57344,[(imm,1,11,0,())]),0,false,())
 else(qe (53248,[(cond,0,4,8,()),(imm,1,8,0,())]),0,false,())
theorem check_bfi {rd rn rm ra imm cond:Int} {w:Bool} (h:qd (18,rd,rn,rm,ra,imm,cond,w,())=0):0≤imm∧imm≤31∧1≤ra∧ra≤32-imm:=by
 have hw:=left_same imm
 simp[qd,qX,qE,q8,qbf,qcG,qV,qbD,PO.getO,PO.val] at h
 grind
theorem bits_1 (rd rn rm ra imm cond:Int) (w:Bool) (_:qd (1,rd,rn,rm,ra,imm,cond,w,())=0):(qr (1,rd,rn,rm,ra,imm,cond,w,())).val=some (codeV 1 rd rn rm ra imm cond w):=by
 rfl
theorem bits_2 (rd rn rm ra imm cond:Int) (w:Bool) (_:qd (2,rd,rn,rm,ra,imm,cond,w,())=0):(qr (2,rd,rn,rm,ra,imm,cond,w,())).val=some (codeV 2 rd rn rm ra imm cond w):=by
 rfl
theorem bits_3 (rd rn rm ra imm cond:Int) (w:Bool) (_:qd (3,rd,rn,rm,ra,imm,cond,w,())=0):(qr (3,rd,rn,rm,ra,imm,cond,w,())).val=some (codeV 3 rd rn rm ra imm cond w):=by
 have e:(qb3 (62016,3,rd,rn,rm,ra,imm,cond,w,())).val=_:=move_val 62016 3 rd rn rm ra imm cond w (by omega)
 refine Eq.trans (b:=(bif (PO.val (qb3 (62016,3,rd,rn,rm,ra,imm,cond,w,()))).isSome then some ((PO.val (qb3 (62016,3,rd,rn,rm,ra,imm,cond,w,()))).getD default) else none)) rfl ?_
 rw[e]
 rfl
theorem bits_4 (rd rn rm ra imm cond:Int) (w:Bool) (_:qd (4,rd,rn,rm,ra,imm,cond,w,())=0):(qr (4,rd,rn,rm,ra,imm,cond,w,())).val=some (codeV 4 rd rn rm ra imm cond w):=by
 have e:(qb3 (62144,4,rd,rn,rm,ra,imm,cond,w,())).val=_:=move_val 62144 4 rd rn rm ra imm cond w (by omega)
 refine Eq.trans (b:=(bif (PO.val (qb3 (62144,4,rd,rn,rm,ra,imm,cond,w,()))).isSome then some ((PO.val (qb3 (62144,4,rd,rn,rm,ra,imm,cond,w,()))).getD default) else none)) rfl ?_
 rw[e]
 rfl
theorem bits_5 (rd rn rm ra imm cond:Int) (w:Bool) (_:qd (5,rd,rn,rm,ra,imm,cond,w,())=0):(qr (5,rd,rn,rm,ra,imm,cond,w,())).val=some (codeV 5 rd rn rm ra imm cond w):=by
 have e:(qk (59983,(5,rd,rn,rm,ra,imm,cond,w,()),(w64 (5-5)))).val=_:=shifted_val 59983 5 rd rn rm ra imm cond w (w64 (5-5)) (by omega)
 refine Eq.trans (b:=(bif (PO.val (qk (59983,(5,rd,rn,rm,ra,imm,cond,w,()),(w64 (5-5))))).isSome then some ((PO.val (qk (59983,(5,rd,rn,rm,ra,imm,cond,w,()),(w64 (5-5))))).getD default) else none)) rfl ?_
 rw[e]
 rfl
theorem bits_6 (rd rn rm ra imm cond:Int) (w:Bool) (_:qd (6,rd,rn,rm,ra,imm,cond,w,())=0):(qr (6,rd,rn,rm,ra,imm,cond,w,())).val=some (codeV 6 rd rn rm ra imm cond w):=by
 have e:(qk (59983,(6,rd,rn,rm,ra,imm,cond,w,()),(w64 (6-5)))).val=_:=shifted_val 59983 6 rd rn rm ra imm cond w (w64 (6-5)) (by omega)
 refine Eq.trans (b:=(bif (PO.val (qk (59983,(6,rd,rn,rm,ra,imm,cond,w,()),(w64 (6-5))))).isSome then some ((PO.val (qk (59983,(6,rd,rn,rm,ra,imm,cond,w,()),(w64 (6-5))))).getD default) else none)) rfl ?_
 rw[e]
 rfl
theorem bits_7 (rd rn rm ra imm cond:Int) (w:Bool) (_:qd (7,rd,rn,rm,ra,imm,cond,w,())=0):(qr (7,rd,rn,rm,ra,imm,cond,w,())).val=some (codeV 7 rd rn rm ra imm cond w):=by
 have e:(qk (59983,(7,rd,rn,rm,ra,imm,cond,w,()),(w64 (7-5)))).val=_:=shifted_val 59983 7 rd rn rm ra imm cond w (w64 (7-5)) (by omega)
 refine Eq.trans (b:=(bif (PO.val (qk (59983,(7,rd,rn,rm,ra,imm,cond,w,()),(w64 (7-5))))).isSome then some ((PO.val (qk (59983,(7,rd,rn,rm,ra,imm,cond,w,()),(w64 (7-5))))).getD default) else none)) rfl ?_
 rw[e]
 rfl
theorem bits_8 (rd rn rm ra imm cond:Int) (w:Bool) (_:qd (8,rd,rn,rm,ra,imm,cond,w,())=0):(qr (8,rd,rn,rm,ra,imm,cond,w,())).val=some (codeV 8 rd rn rm ra imm cond w):=by
 have e:(qk (59983,(8,rd,rn,rm,ra,imm,cond,w,()),(w64 (8-5)))).val=_:=shifted_val 59983 8 rd rn rm ra imm cond w (w64 (8-5)) (by omega)
 refine Eq.trans (b:=(bif (PO.val (qk (59983,(8,rd,rn,rm,ra,imm,cond,w,()),(w64 (8-5))))).isSome then some ((PO.val (qk (59983,(8,rd,rn,rm,ra,imm,cond,w,()),(w64 (8-5))))).getD default) else none)) rfl ?_
 rw[e]
 rfl
theorem bits_9 (rd rn rm ra imm cond:Int) (w:Bool) (_:qd (9,rd,rn,rm,ra,imm,cond,w,())=0):(qr (9,rd,rn,rm,ra,imm,cond,w,())).val=some (codeV 9 rd rn rm ra imm cond w):=by
 have e:(qk (60015,(9,rd,rn,rm,ra,imm,cond,w,()),0)).val=_:=shifted_val 60015 9 rd rn rm ra imm cond w 0 (by omega)
 refine Eq.trans (b:=(bif (PO.val (qk (60015,(9,rd,rn,rm,ra,imm,cond,w,()),0))).isSome then some ((PO.val (qk (60015,(9,rd,rn,rm,ra,imm,cond,w,()),0))).getD default) else none)) rfl ?_
 rw[e]
 rfl
theorem bits_10 (rd rn rm ra imm cond:Int) (w:Bool) (_:qd (10,rd,rn,rm,ra,imm,cond,w,())=0):(qr (10,rd,rn,rm,ra,imm,cond,w,())).val=some (codeV 10 rd rn rm ra imm cond w):=by
 have e:(qk (59904,(10,rd,rn,rm,ra,imm,cond,w,()),0)).val=_:=shifted_val 59904 10 rd rn rm ra imm cond w 0 (by omega)
 refine Eq.trans (b:=(bif (PO.val (qk (59904,(10,rd,rn,rm,ra,imm,cond,w,()),0))).isSome then some ((PO.val (qk (59904,(10,rd,rn,rm,ra,imm,cond,w,()),0))).getD default) else none)) rfl ?_
 rw[e]
 rfl
theorem bits_11 (rd rn rm ra imm cond:Int) (w:Bool) (_:qd (11,rd,rn,rm,ra,imm,cond,w,())=0):(qr (11,rd,rn,rm,ra,imm,cond,w,())).val=some (codeV 11 rd rn rm ra imm cond w):=by
 have e:(qk (59936,(11,rd,rn,rm,ra,imm,cond,w,()),0)).val=_:=shifted_val 59936 11 rd rn rm ra imm cond w 0 (by omega)
 refine Eq.trans (b:=(bif (PO.val (qk (59936,(11,rd,rn,rm,ra,imm,cond,w,()),0))).isSome then some ((PO.val (qk (59936,(11,rd,rn,rm,ra,imm,cond,w,()),0))).getD default) else none)) rfl ?_
 rw[e]
 rfl
theorem bits_12 (rd rn rm ra imm cond:Int) (w:Bool) (_:qd (12,rd,rn,rm,ra,imm,cond,w,())=0):(qr (12,rd,rn,rm,ra,imm,cond,w,())).val=some (codeV 12 rd rn rm ra imm cond w):=by
 have e:(qk (59968,(12,rd,rn,rm,ra,imm,cond,w,()),0)).val=_:=shifted_val 59968 12 rd rn rm ra imm cond w 0 (by omega)
 refine Eq.trans (b:=(bif (PO.val (qk (59968,(12,rd,rn,rm,ra,imm,cond,w,()),0))).isSome then some ((PO.val (qk (59968,(12,rd,rn,rm,ra,imm,cond,w,()),0))).getD default) else none)) rfl ?_
 rw[e]
 rfl
theorem bits_13 (rd rn rm ra imm cond:Int) (w:Bool) (_:qd (13,rd,rn,rm,ra,imm,cond,w,())=0):(qr (13,rd,rn,rm,ra,imm,cond,w,())).val=some (codeV 13 rd rn rm ra imm cond w):=by
 have e:(qk (60032,(13,rd,rn,rm,ra,imm,cond,w,()),0)).val=_:=shifted_val 60032 13 rd rn rm ra imm cond w 0 (by omega)
 refine Eq.trans (b:=(bif (PO.val (qk (60032,(13,rd,rn,rm,ra,imm,cond,w,()),0))).isSome then some ((PO.val (qk (60032,(13,rd,rn,rm,ra,imm,cond,w,()),0))).getD default) else none)) rfl ?_
 rw[e]
 rfl
theorem bits_14 (rd rn rm ra imm cond:Int) (w:Bool) (_:qd (14,rd,rn,rm,ra,imm,cond,w,())=0):(qr (14,rd,rn,rm,ra,imm,cond,w,())).val=some (codeV 14 rd rn rm ra imm cond w):=by
 have e:(qk (60160,(14,rd,rn,rm,ra,imm,cond,w,()),0)).val=_:=shifted_val 60160 14 rd rn rm ra imm cond w 0 (by omega)
 refine Eq.trans (b:=(bif (PO.val (qk (60160,(14,rd,rn,rm,ra,imm,cond,w,()),0))).isSome then some ((PO.val (qk (60160,(14,rd,rn,rm,ra,imm,cond,w,()),0))).getD default) else none)) rfl ?_
 rw[e]
 rfl
theorem bits_15 (rd rn rm ra imm cond:Int) (w:Bool) (_:qd (15,rd,rn,rm,ra,imm,cond,w,())=0):(qr (15,rd,rn,rm,ra,imm,cond,w,())).val=some (codeV 15 rd rn rm ra imm cond w):=by
 have e:(qk (60320,(15,rd,rn,rm,ra,imm,cond,w,()),0)).val=_:=shifted_val 60320 15 rd rn rm ra imm cond w 0 (by omega)
 refine Eq.trans (b:=(bif (PO.val (qk (60320,(15,rd,rn,rm,ra,imm,cond,w,()),0))).isSome then some ((PO.val (qk (60320,(15,rd,rn,rm,ra,imm,cond,w,()),0))).getD default) else none)) rfl ?_
 rw[e]
 rfl
theorem bits_16 (rd rn rm ra imm cond:Int) (w:Bool) (_:qd (16,rd,rn,rm,ra,imm,cond,w,())=0):(qr (16,rd,rn,rm,ra,imm,cond,w,())).val=some (codeV 16 rd rn rm ra imm cond w):=by
 have b:(qr (16,rd,rn,rm,ra,imm,cond,w,())).val=(bif (PO.val (qt (16,rd,rn,rm,ra,imm,cond,w,()))).isSome then some ((PO.val (qt (16,rd,rn,rm,ra,imm,cond,w,()))).getD default) else none):=rfl
 have e:(qk (64256,(16,rd,rn,rm,ra,imm,cond,w,()),0)).val=_:=shifted_val 64256 16 rd rn rm ra imm cond w 0 (by omega)
 have o:(qt (16,rd,rn,rm,ra,imm,cond,w,())).val=some (qe (64256,[(rn,0,4,0,())]),bor .i64 (qe (0,[(imm,2,3,12,()),(rd,0,4,8,()),(imm,0,2,6,()),(0,0,2,4,()),(rm,0,4,0,())])) 61440,true,()):=by
  refine Eq.trans (b:=(bif (PO.val (qk (64256,(16,rd,rn,rm,ra,imm,cond,w,()),0))).isSome then some (((PO.val (qk (64256,(16,rd,rn,rm,ra,imm,cond,w,()),0))).getD default).1,bor .i64 ((PO.val (qk (64256,(16,rd,rn,rm,ra,imm,cond,w,()),0))).getD default).2.1 61440,((PO.val (qk (64256,(16,rd,rn,rm,ra,imm,cond,w,()),0))).getD default).2.2) else none)) rfl ?_
  rw[e]
  rfl
 have c:codeV 16 rd rn rm ra imm cond w=(qe (64256,[(rn,0,4,0,())]),bor .i64 (qe (0,[(imm,2,3,12,()),(rd,0,4,8,()),(imm,0,2,6,()),(0,0,2,4,()),(rm,0,4,0,())])) 61440,true,()):=rfl
 rw[b,o,c]
 rfl
theorem bits_17 (rd rn rm ra imm cond:Int) (w:Bool) (_:qd (17,rd,rn,rm,ra,imm,cond,w,())=0):(qr (17,rd,rn,rm,ra,imm,cond,w,())).val=some (codeV 17 rd rn rm ra imm cond w):=by
 have b:(qr (17,rd,rn,rm,ra,imm,cond,w,())).val=(bif (PO.val (qt (17,rd,rn,rm,ra,imm,cond,w,()))).isSome then some ((PO.val (qt (17,rd,rn,rm,ra,imm,cond,w,()))).getD default) else none):=rfl
 have o:(qt (17,rd,rn,rm,ra,imm,cond,w,())).val=some (bor .i64 64416 rn,bor .i64 (bor .i64 (ishl .i64 rd 12) (ishl .i64 ra 8)) rm,true,()):=rfl
 have c:codeV 17 rd rn rm ra imm cond w=(bor .i64 64416 rn,bor .i64 (bor .i64 (ishl .i64 rd 12) (ishl .i64 ra 8)) rm,true,()):=rfl
 rw[b,o,c]
 rfl
theorem bits_18 (rd rn rm ra imm cond:Int) (w:Bool) (h:qd (18,rd,rn,rm,ra,imm,cond,w,())=0):(qr (18,rd,rn,rm,ra,imm,cond,w,())).val=some (codeV 18 rd rn rm ra imm cond w):=by
 have b:(qr (18,rd,rn,rm,ra,imm,cond,w,())).val=(bif (PO.val (qt (18,rd,rn,rm,ra,imm,cond,w,()))).isSome then some ((PO.val (qt (18,rd,rn,rm,ra,imm,cond,w,()))).getD default) else none):=rfl
 obtain⟨c1,c2,c3,c4⟩:=check_bfi h
 have hs:w64 (w64 (imm+ra)-1)=imm+ra-1:=by rw[w64_id (n:=imm+ra) (by omega) (by omega),w64_id (by omega) (by omega)]
 obtain⟨n,hn⟩:=Int.eq_ofNat_of_zero_le (show 0≤imm+ra-1 by omega)
 have g:=put_ok n [(imm,2,3,12,()),(rd,0,4,8,()),(imm,0,2,6,())] (by omega) rfl
 have o:(qt (18,rd,rn,rm,ra,imm,cond,w,())).val=some (bor .i64 62304 rn,qe (imm+ra-1,[(imm,2,3,12,()),(rd,0,4,8,()),(imm,0,2,6,())]),true,()):=by
  refine Eq.trans (b:=(bif qz (w64 (w64 (imm+ra)-1),[(imm,2,3,12,()),(rd,0,4,8,()),(imm,0,2,6,())]) then some (bor .i64 62304 rn,qe (w64 (w64 (imm+ra)-1),[(imm,2,3,12,()),(rd,0,4,8,()),(imm,0,2,6,())]),true,()) else none)) rfl ?_
  rw[hs,hn,g]
  rfl
 have c:codeV 18 rd rn rm ra imm cond w=(bor .i64 62304 rn,qe (imm+ra-1,[(imm,2,3,12,()),(rd,0,4,8,()),(imm,0,2,6,())]),true,()):=rfl
 rw[b,o,c]
 rfl
theorem bits_19 (rd rn rm ra imm cond:Int) (w:Bool) (_:qd (19,rd,rn,rm,ra,imm,cond,w,())=0):(qr (19,rd,rn,rm,ra,imm,cond,w,())).val=some (codeV 19 rd rn rm ra imm cond w):=by
 have b:(qr (19,rd,rn,rm,ra,imm,cond,w,())).val=(bif (PO.val (qt (19,rd,rn,rm,ra,imm,cond,w,()))).isSome then some ((PO.val (qt (19,rd,rn,rm,ra,imm,cond,w,()))).getD default) else none):=rfl
 have e:(qL (26624,rd,rn)).val=some (qe (26624,[(rd,0,3,0,()),(rn,0,3,3,())]),0,false,()):=short_val 26624 rd rn (by omega)
 have o:(qt (19,rd,rn,rm,ra,imm,cond,w,())).val=some (qe (26624,[(rd,0,3,0,()),(rn,0,3,3,())]),0,false,()):=by
  refine Eq.trans (b:=(bif (PO.val (qL (26624,rd,rn))).isSome then some ((PO.val (qL (26624,rd,rn))).getD default) else none)) rfl ?_
  rw[e]
  rfl
 have c:codeV 19 rd rn rm ra imm cond w=(qe (26624,[(rd,0,3,0,()),(rn,0,3,3,())]),0,false,()):=rfl
 rw[b,o,c]
 rfl
theorem bits_20 (rd rn rm ra imm cond:Int) (w:Bool) (_:qd (20,rd,rn,rm,ra,imm,cond,w,())=0):(qr (20,rd,rn,rm,ra,imm,cond,w,())).val=some (codeV 20 rd rn rm ra imm cond w):=by
 have b:(qr (20,rd,rn,rm,ra,imm,cond,w,())).val=(bif (PO.val (qt (20,rd,rn,rm,ra,imm,cond,w,()))).isSome then some ((PO.val (qt (20,rd,rn,rm,ra,imm,cond,w,()))).getD default) else none):=rfl
 have e:(qL (24576,rd,rn)).val=some (qe (24576,[(rd,0,3,0,()),(rn,0,3,3,())]),0,false,()):=short_val 24576 rd rn (by omega)
 have o:(qt (20,rd,rn,rm,ra,imm,cond,w,())).val=some (qe (24576,[(rd,0,3,0,()),(rn,0,3,3,())]),0,false,()):=by
  refine Eq.trans (b:=(bif (PO.val (qL (24576,rd,rn))).isSome then some ((PO.val (qL (24576,rd,rn))).getD default) else none)) rfl ?_
  rw[e]
  rfl
 have c:codeV 20 rd rn rm ra imm cond w=(qe (24576,[(rd,0,3,0,()),(rn,0,3,3,())]),0,false,()):=rfl
 rw[b,o,c]
 rfl
theorem bits_21 (rd rn rm ra imm cond:Int) (w:Bool) (_:qd (21,rd,rn,rm,ra,imm,cond,w,())=0):(qr (21,rd,rn,rm,ra,imm,cond,w,())).val=some (codeV 21 rd rn rm ra imm cond w):=by
 have b:(qr (21,rd,rn,rm,ra,imm,cond,w,())).val=(bif (PO.val (qt (21,rd,rn,rm,ra,imm,cond,w,()))).isSome then some ((PO.val (qt (21,rd,rn,rm,ra,imm,cond,w,()))).getD default) else none):=rfl
 have e:(qL (30720,rd,rn)).val=some (qe (30720,[(rd,0,3,0,()),(rn,0,3,3,())]),0,false,()):=short_val 30720 rd rn (by omega)
 have o:(qt (21,rd,rn,rm,ra,imm,cond,w,())).val=some (qe (30720,[(rd,0,3,0,()),(rn,0,3,3,())]),0,false,()):=by
  refine Eq.trans (b:=(bif (PO.val (qL (30720,rd,rn))).isSome then some ((PO.val (qL (30720,rd,rn))).getD default) else none)) rfl ?_
  rw[e]
  rfl
 have c:codeV 21 rd rn rm ra imm cond w=(qe (30720,[(rd,0,3,0,()),(rn,0,3,3,())]),0,false,()):=rfl
 rw[b,o,c]
 rfl
theorem bits_22 (rd rn rm ra imm cond:Int) (w:Bool) (_:qd (22,rd,rn,rm,ra,imm,cond,w,())=0):(qr (22,rd,rn,rm,ra,imm,cond,w,())).val=some (codeV 22 rd rn rm ra imm cond w):=by
 have b:(qr (22,rd,rn,rm,ra,imm,cond,w,())).val=(bif (PO.val (qt (22,rd,rn,rm,ra,imm,cond,w,()))).isSome then some ((PO.val (qt (22,rd,rn,rm,ra,imm,cond,w,()))).getD default) else none):=rfl
 have e:(qL (28672,rd,rn)).val=some (qe (28672,[(rd,0,3,0,()),(rn,0,3,3,())]),0,false,()):=short_val 28672 rd rn (by omega)
 have o:(qt (22,rd,rn,rm,ra,imm,cond,w,())).val=some (qe (28672,[(rd,0,3,0,()),(rn,0,3,3,())]),0,false,()):=by
  refine Eq.trans (b:=(bif (PO.val (qL (28672,rd,rn))).isSome then some ((PO.val (qL (28672,rd,rn))).getD default) else none)) rfl ?_
  rw[e]
  rfl
 have c:codeV 22 rd rn rm ra imm cond w=(qe (28672,[(rd,0,3,0,()),(rn,0,3,3,())]),0,false,()):=rfl
 rw[b,o,c]
 rfl
theorem bits_23 (rd rn rm ra imm cond:Int) (w:Bool) (_:qd (23,rd,rn,rm,ra,imm,cond,w,())=0):(qr (23,rd,rn,rm,ra,imm,cond,w,())).val=some (codeV 23 rd rn rm ra imm cond w):=by
 have b:(qr (23,rd,rn,rm,ra,imm,cond,w,())).val=(bif (PO.val (qt (23,rd,rn,rm,ra,imm,cond,w,()))).isSome then some ((PO.val (qt (23,rd,rn,rm,ra,imm,cond,w,()))).getD default) else none):=rfl
 have e:(qL (17024,rn,rm)).val=some (qe (17024,[(rn,0,3,0,()),(rm,0,3,3,())]),0,false,()):=short_val 17024 rn rm (by omega)
 have o:(qt (23,rd,rn,rm,ra,imm,cond,w,())).val=some (qe (17024,[(rn,0,3,0,()),(rm,0,3,3,())]),0,false,()):=by
  refine Eq.trans (b:=(bif (PO.val (qL (17024,rn,rm))).isSome then some ((PO.val (qL (17024,rn,rm))).getD default) else none)) rfl ?_
  rw[e]
  rfl
 have c:codeV 23 rd rn rm ra imm cond w=(qe (17024,[(rn,0,3,0,()),(rm,0,3,3,())]),0,false,()):=rfl
 rw[b,o,c]
 rfl
theorem bits_24 (rd rn rm ra imm cond:Int) (w:Bool) (_:qd (24,rd,rn,rm,ra,imm,cond,w,())=0):(qr (24,rd,rn,rm,ra,imm,cond,w,())).val=some (codeV 24 rd rn rm ra imm cond w):=by
 have b:(qr (24,rd,rn,rm,ra,imm,cond,w,())).val=(bif (PO.val (qt (24,rd,rn,rm,ra,imm,cond,w,()))).isSome then some ((PO.val (qt (24,rd,rn,rm,ra,imm,cond,w,()))).getD default) else none):=rfl
 have e:(qbC (24,rd,rn,rm,ra,imm,cond,w,())).val=some (wideV 24 imm cond):=wide_val 24 rd rn rm ra imm cond w
 have g:qz (57344,[(imm,1,11,0,())])=true:=put_ok 57344 [(imm,1,11,0,())] (by omega) rfl
 have o:(qt (24,rd,rn,rm,ra,imm,cond,w,())).val=some (bif w then wideV 24 imm cond else(qe (57344,[(imm,1,11,0,())]),0,false,())):=by
  refine Eq.trans (b:=(bif w then(bif (PO.val (qbC (24,rd,rn,rm,ra,imm,cond,w,()))).isSome then some ((PO.val (qbC (24,rd,rn,rm,ra,imm,cond,w,()))).getD default) else none) else(bif qz (57344,[(imm,1,11,0,())]) then some (qe (57344,[(imm,1,11,0,())]),0,false,()) else none))) rfl ?_
  rw[e,g]
  cases w<;>rfl
 have c:codeV 24 rd rn rm ra imm cond w=(bif w then wideV 24 imm cond else(qe (57344,[(imm,1,11,0,())]),0,false,())):=rfl
 rw[b,o,c]
 rfl
theorem bits_25 (rd rn rm ra imm cond:Int) (w:Bool) (_:qd (25,rd,rn,rm,ra,imm,cond,w,())=0):(qr (25,rd,rn,rm,ra,imm,cond,w,())).val=some (codeV 25 rd rn rm ra imm cond w):=by
 have b:(qr (25,rd,rn,rm,ra,imm,cond,w,())).val=(bif (PO.val (qt (25,rd,rn,rm,ra,imm,cond,w,()))).isSome then some ((PO.val (qt (25,rd,rn,rm,ra,imm,cond,w,()))).getD default) else none):=rfl
 have e:(qbC (25,rd,rn,rm,ra,imm,cond,w,())).val=some (wideV 25 imm cond):=wide_val 25 rd rn rm ra imm cond w
 have g:qz (53248,[(cond,0,4,8,()),(imm,1,8,0,())])=true:=put_ok 53248 [(cond,0,4,8,()),(imm,1,8,0,())] (by omega) rfl
 have o:(qt (25,rd,rn,rm,ra,imm,cond,w,())).val=some (bif w then wideV 25 imm cond else(qe (53248,[(cond,0,4,8,()),(imm,1,8,0,())]),0,false,())):=by
  refine Eq.trans (b:=(bif w then(bif (PO.val (qbC (25,rd,rn,rm,ra,imm,cond,w,()))).isSome then some ((PO.val (qbC (25,rd,rn,rm,ra,imm,cond,w,()))).getD default) else none) else(bif qz (53248,[(cond,0,4,8,()),(imm,1,8,0,())]) then some (qe (53248,[(cond,0,4,8,()),(imm,1,8,0,())]),0,false,()) else none))) rfl ?_
  rw[e,g]
  cases w<;>rfl
 have c:codeV 25 rd rn rm ra imm cond w=(bif w then wideV 25 imm cond else(qe (53248,[(cond,0,4,8,()),(imm,1,8,0,())]),0,false,())):=rfl
 rw[b,o,c]
 rfl
theorem bits_val (op rd rn rm ra imm cond:Int) (w:Bool) (h:qd (op,rd,rn,rm,ra,imm,cond,w,())=0):(qr (op,rd,rn,rm,ra,imm,cond,w,())).val=some (codeV op rd rn rm ra imm cond w):=by
 rcases op_cases op with rfl |rfl |rfl |rfl |rfl |rfl |rfl |rfl |rfl |rfl |rfl |rfl |rfl |rfl |rfl |rfl |rfl |rfl |rfl |rfl |rfl |rfl |rfl |rfl |rfl |hop
 case inr.inr.inr.inr.inr.inr.inr.inr.inr.inr.inr.inr.inr.inr.inr.inr.inr.inr.inr.inr.inr.inr.inr.inr.inr =>
  exfalso
  have e:=fun k hk=>op_none (n:=op) (k:=k) hop hk
  simp[qd,qX,qE,q8,PO.getO,PO.val,e] at h
 ·exact bits_1 rd rn rm ra imm cond w h
 ·exact bits_2 rd rn rm ra imm cond w h
 ·exact bits_3 rd rn rm ra imm cond w h
 ·exact bits_4 rd rn rm ra imm cond w h
 ·exact bits_5 rd rn rm ra imm cond w h
 ·exact bits_6 rd rn rm ra imm cond w h
 ·exact bits_7 rd rn rm ra imm cond w h
 ·exact bits_8 rd rn rm ra imm cond w h
 ·exact bits_9 rd rn rm ra imm cond w h
 ·exact bits_10 rd rn rm ra imm cond w h
 ·exact bits_11 rd rn rm ra imm cond w h
 ·exact bits_12 rd rn rm ra imm cond w h
 ·exact bits_13 rd rn rm ra imm cond w h
 ·exact bits_14 rd rn rm ra imm cond w h
 ·exact bits_15 rd rn rm ra imm cond w h
 ·exact bits_16 rd rn rm ra imm cond w h
 ·exact bits_17 rd rn rm ra imm cond w h
 ·exact bits_18 rd rn rm ra imm cond w h
 ·exact bits_19 rd rn rm ra imm cond w h
 ·exact bits_20 rd rn rm ra imm cond w h
 ·exact bits_21 rd rn rm ra imm cond w h
 ·exact bits_22 rd rn rm ra imm cond w h
 ·exact bits_23 rd rn rm ra imm cond w h
 ·exact bits_24 rd rn rm ra imm cond w h
 ·exact bits_25 rd rn rm ra imm cond w h
theorem code_long (op rd rn rm ra imm cond:Int) (w:Bool) (h:qd (op,rd,rn,rm,ra,imm,cond,w,())=0):(codeV op rd rn rm ra imm cond w).2.2.1=isLong op w:=by
 have hwide:∀op:Int,(wideV op imm cond).2.2.1=true:=fun op=>by unfold wideV;cases op==25<;>rfl
 rcases op_cases op with rfl |rfl |rfl |rfl |rfl |rfl |rfl |rfl |rfl |rfl |rfl |rfl |rfl |rfl |rfl |rfl |rfl |rfl |rfl |rfl |rfl |rfl |rfl |rfl |rfl |hop
 case inr.inr.inr.inr.inr.inr.inr.inr.inr.inr.inr.inr.inr.inr.inr.inr.inr.inr.inr.inr.inr.inr.inr.inr.inr =>
  exfalso
  have e:=fun k hk=>op_none (n:=op) (k:=k) hop hk
  simp[qd,qX,qE,q8,PO.getO,PO.val,e] at h
 all_goals
  have hw:w=false∨w=true:=by cases w<;>simp
  rcases hw with rfl |rfl
  ·rfl
  ·first
   |(exfalso;simp[qd,qX,PO.getO,PO.val] at h;done)
   |rfl
   |exact hwide _
end Go.Av
end
section
namespace Go.Av
open Go
abbrev qgp:List Ty:=[tIns]
abbrev qij:Sh:=Sh.ty (Ty.int IntKind.i64)
def qkv (x:dens qgp):PO (Sh.den qij) :=
 (.ite (qd x != 0)
  (.ret (0))
  (.ite (qcu x)
  (.ite ((qT x).2.2.1)
   (.ret (4))
   (.ret (2)))
  .fail))
def qki (_:dens qgp):Bool:=true
def qba (x:dens qgp):Sh.den qij:=bif qd x != 0 then 0 else bif isLong x.1 x.2.2.2.2.2.2.2.1 then 4 else 2
theorem size_val (x:tIns.den):(qkv x).val=some (bif qd x != 0 then 0 else bif isLong x.1 x.2.2.2.2.2.2.2.1 then 4 else 2):=by
 obtain⟨op,rd,rn,rm,ra,imm,cond,w,u⟩:=x
 show(bif qd (op,rd,rn,rm,ra,imm,cond,w,()) != 0 then some 0 else(bif (qr (op,rd,rn,rm,ra,imm,cond,w,())).val.isSome then(bif ((qr (op,rd,rn,rm,ra,imm,cond,w,())).val.getD default).2.2.1 then some 4 else some 2) else none))=some (bif qd (op,rd,rn,rm,ra,imm,cond,w,()) != 0 then 0 else bif isLong op w then 4 else 2)
 cases hc:(qd (op,rd,rn,rm,ra,imm,cond,w,()) != (0:Int))
 ·have h:qd (op,rd,rn,rm,ra,imm,cond,w,())=0:=by simpa using hc
  rw[bits_val op rd rn rm ra imm cond w h]
  show(bif (codeV op rd rn rm ra imm cond w).2.2.1 then some 4 else some 2)=some (bif isLong op w then 4 else 2)
  rw[code_long op rd rn rm ra imm cond w h]
  cases isLong op w<;>rfl
 ·rfl
theorem qmS (x:dens qgp) (_:qki x=true):(qkv x).val=some (qba x):=size_val x
end Go.Av
end
section
namespace Go.Av
open Go
end Go.Av
end
section
namespace Go.Av
open Go
def bt (m j:Nat):Nat:=m / 2 ^ j % 2
theorem bt_eq (m j:Nat):bt m j=(m.testBit j).toNat:=(Nat.toNat_testBit m j).symm
theorem bt_le (m j:Nat):bt m j≤1:=by unfold bt;omega
end Go.Av
end
section
namespace Go.Av
open Go
end Go.Av
end
section
namespace Go.Av
open Go
def wordR (l:List Int):List Int:=l.map fun n=>(wn n:Int)
theorem wordR_len (l:List Int):(wordR l).length=l.length:=by simp[wordR]
def wordSt (l:List Int) (k:Nat):List Int:=(wordR l).take k++l.drop k
theorem wordSt_step (l:List Int) {k:Nat} (h:k<l.length):(wordSt l k).set k (wn l[k]:Int)=wordSt l (k+1):=by
 unfold wordSt
 have h1:((wordR l).take k).length=k:=by rw[List.length_take,wordR_len];omega
 rw[List.set_append_right _ _ (by omega),h1,Nat.sub_self,List.drop_eq_getElem_cons h,List.set_cons_zero,List.take_succ_eq_append_getElem (by rw[wordR_len];omega),List.append_assoc]
 simp[wordR]
theorem wordSt_end (l:List Int) {k:Nat} (h:l.length≤k):wordSt l k=wordR l:=by
 unfold wordSt
 rw[List.take_of_length_le (by rw[wordR_len];omega),List.drop_of_length_le h,List.append_nil]
theorem wordSt_zero (l:List Int):wordSt l 0=l:=by simp[wordSt]
abbrev qhp:List Ty:=[tState,(.int .i64)]
abbrev qjf:Sh:=Sh.ty Ty.bool
def qjg (x:dens qhp):PO (Sh.den qjf) :=
 (.ite (decide (x.2<0)||decide (x.2 > 13))
  (.ret (false))
  (.ret ((bif ishr IntKind.i64 x.2 1==0 then x.1.2.2.2.1 else bif ishr IntKind.i64 x.2 1==1 then x.1.2.2.2.2.1 else bif ishr IntKind.i64 x.2 1==2 then x.1.2.2.1 else bif ishr IntKind.i64 x.2 1==3 then x.1.2.2.2.2.2.1 else bif ishr IntKind.i64 x.2 1==4 then x.1.2.2.2.2.1&&!x.1.2.2.2.1 else bif ishr IntKind.i64 x.2 1==5 then x.1.2.2.1==x.1.2.2.2.2.2.1 else ishr IntKind.i64 x.2 1==6&&(!x.1.2.2.2.1&&x.1.2.2.1==x.1.2.2.2.2.2.1))==(band IntKind.i64 x.2 1==0))))
def qkE (_:dens qhp):Bool:=true
def qd2 (x:dens qhp):Sh.den qjf:=(qjg x).getO default
theorem qna (x:dens qhp) (_:qkE x=true):(qjg x).val=some (qd2 x):=PO.sure_ok default (by simp[qjg,PO.sure])
abbrev qip:List Ty:=[tState,tIns]
abbrev qke:Sh:=Sh.ty Ty.bool
def qgS (x:dens qip):PO (Sh.den qke) :=
 (.ite (x.2.1==24||(x.2.1==25||true))
  (.ret (x.2.1==24||x.2.1==25&&qd2 (x.1,x.2.2.2.2.2.2.2.1)))
  .fail)
def qlb (_:dens qip):Bool:=true
def qb9 (x:dens qip):Sh.den qke:=(qgS x).getO default
theorem qnm (x:dens qip) (_:qlb x=true):(qgS x).val=some (qb9 x):=PO.tots_ok default (by simp[qgS,PO.tots])
def qey:LoopN where
 M:=[1,2,6,7]
 T:=[3,4,8,9,10,11,12,13,14,15,16]
 D:=[6,7]
 ss:=[.box 0 0,.box 1 0,.ty (.arr 15 (.int .i64)),.ty (.int .i64)]
 hs:=[.ty tState,.ty tState]
 es:=[.exit 0]
 σ:=(Ty.den (.int .i64))×(Sh.den (.ty tState))×(Sh.den (.ty tState))
 x0:=fun x y=>(x.2.2.2,y.1,y.2)
 put:=fun x _ s=>((x.1,x.2.1,x.2.2.1,s.1),(s.2.1,s.2.2))
 fuel:=fun _ _=>20
 turn:=fun x _ s =>
 (.ite (decide (s.1<15))
  (.ite (inRange s.1 15)
  (.ite (inRange s.1 15)
   (.ret (.on (w64 (s.1+1),(List.set s.2.1.1 (Int.toNat s.1) (qx (List.getD x.2.2.1 (Int.toNat s.1) (Ty.dflt (Ty.int IntKind.i64)))),s.2.1.2),s.2.2)))
   .fail)
  .fail)
  (.ret (.out 0 (s.1,s.2.1,s.2.2))))
abbrev qhg:List Ty:=[tState]
abbrev qjk:Sh:=Sh.ty tState
def qkS (x:dens qhg):PO (Sh.den qjk) :=
 (.opt (LoopN.res qey ((),(),x.1,0) (x,[0,0,0,0,0,0,0,0,0,0,0,0,0,0,0],0,false,false,false,false,())) fun p0 =>
  (.ret ((p0.2.2.1.1,qx p0.2.2.1.2.1,p0.2.2.1.2.2))))
theorem words_run (r:List Int) (t u:tState.den) (hr:r.length=15) (ht:t.1=r):runL (qey.turn ((),(),r,0) (t,u)) 20 (0,t,u)=some (0,15,(wordR r,t.2),u):=by
 have key:=runL_count (σ:=Int×tState.den×tState.den) (turn:=qey.turn ((),(),r,0) (t,u)) (fun i=>((i:Int),(wordSt r i,t.2),u)) (0,15,(wordR r,t.2),u) (n:=15) (fun i hi=>?_) ?_ 15 0 (by omega) 20 (by omega)
 ·simp only[wordSt_zero] at key
  rw[←ht] at key ⊢
  exact key
 ·have h1:decide ((i:Int)<15)=true:=dec_true (by omega)
  have hi':i<r.length:=by omega
  show(bif decide ((i:Int)<15) then(bif inRange (i:Int) 15 then(bif inRange (i:Int) 15 then some (TL.on (w64 ((i:Int)+1),((wordSt r i).set (Int.toNat (i:Int)) (wn (r.getD (Int.toNat (i:Int)) 0):Int),t.2),u)) else none) else none) else _)=_
  rw[h1,inR hi,Int.toNat_natCast,getD_in r _ hi',wordSt_step r hi',w64_id (by omega) (by omega)]
  rfl
 ·show(bif decide (((15:Nat):Int)<15) then _ else _)=_
  rw[dec_false (by omega),wordSt_end r (by omega)]
  rfl
def qd4 (x:dens qhg):Bool:=decide (List.length x.1=15)
def qY (x:dens qhg):Sh.den qjk:=(wordR x.1,(wn x.2.1:Int),x.2.2)
theorem qm6 (x:dens qhg) (h:qd4 x=true):(qkS x).val=some (qY x):=by
 have h15:List.length x.1=15:=of_decide_eq_true h
 unfold qkS PO.val
 have:LoopN.res qey ((),(),x.1,0) (x,[0,0,0,0,0,0,0,0,0,0,0,0,0,0,0],0,false,false,false,false,())=some (0,(15:Int),(wordR x.1,x.2),([0,0,0,0,0,0,0,0,0,0,0,0,0,0,0],0,false,false,false,false,())):=words_run x.1 x _ h15 rfl
 rw[this]
 rfl
end Go.Av
end
section
namespace Go.Av
open Go
def insN (m f a k:Nat):Nat:=2 ^ a*(2 ^ k*(m / 2 ^ (a+k))+f % 2 ^ k)+m % 2 ^ a
theorem insN_bit (m f a k j:Nat):(insN m f a k).testBit j=if j<a then m.testBit j else if j<a+k then f.testBit (j-a) else m.testBit j:=by
 unfold insN
 rw[Nat.testBit_two_pow_mul_add _ (Nat.mod_lt _ (Nat.two_pow_pos a))]
 split
 ·rename_i h
  rw[Nat.testBit_mod_two_pow,decide_eq_true h,Bool.true_and]
 ·rename_i h
  rw[Nat.testBit_two_pow_mul_add _ (Nat.mod_lt _ (Nat.two_pow_pos k))]
  split
  ·rename_i h2
   rw[if_pos (by omega),Nat.testBit_mod_two_pow,decide_eq_true h2,Bool.true_and]
  ·rename_i h2
   rw[if_neg (by omega),Nat.testBit_div_two_pow]
   congr 1
   omega
theorem mask_bit (a k j:Nat):((2 ^ k-1)*2 ^ a).testBit j=(decide (a≤j)&&decide (j<a+k)):=by
 rw[Nat.testBit_mul_two_pow,Nat.testBit_two_pow_sub_one]
 by_cases h:a≤j
 ·rw[show decide (j-a<k)=decide (j<a+k) from decide_eq_decide.2 (by omega)]
 ·rw[dec_false h];rfl
theorem mask_lt {a k:Nat} (h:a+k≤32):(2 ^ k-1)*2 ^ a<4294967296:=by
 refine Nat.lt_pow_two_of_testBit (n:=32) _ fun j hj=>?_
 rw[mask_bit,dec_false (show ¬j<a+k by omega),Bool.and_false]
theorem select_ins {m f a k:Nat} (hm:m<4294967296) (h:a+k≤32):(f*2 ^ a % 4294967296 &&& (2 ^ k-1)*2 ^ a) |||(m &&& (4294967295-(2 ^ k-1)*2 ^ a))=insN m f a k:=by
 refine Nat.eq_of_testBit_eq fun j=>?_
 rw[insN_bit,Nat.testBit_or,Nat.testBit_and,Nat.testBit_and,mask_bit,show 4294967295-(2 ^ k-1)*2 ^ a=2 ^ 32-((2 ^ k-1)*2 ^ a+1) by omega,Nat.testBit_two_pow_sub_succ (mask_lt h),mask_bit,show(4294967296:Nat)=2 ^ 32 from rfl,Nat.testBit_mod_two_pow,Nat.testBit_mul_two_pow]
 by_cases h32:j<32
 ·by_cases ha:j<a
  ·simp[ha,h32,show ¬a≤j by omega]
  ·by_cases hk:j<a+k
   ·simp[ha,h32,hk,show a≤j by omega]
   ·simp[ha,h32,hk,show a≤j by omega]
 ·have hz:m.testBit j=false:=Nat.testBit_lt_two_pow (Nat.lt_of_lt_of_le hm (Nat.pow_le_pow_right (n:=2) (by omega) (show 32≤j by omega)))
  have ha:¬j<a:=by omega
  have hk:¬j<a+k:=by omega
  simp[h32,hz,ha,hk]
abbrev qgy:List Ty:=[(.int .i64),(.int .i64),(.int .i64),(.int .i64)]
abbrev qh3:Sh:=Sh.ty (Ty.int IntKind.i64)
def qks (x:dens qgy):PO (Sh.den qh3) :=
 (.ite (!decide (x.2.2.2<0)&&(!decide (x.2.2.1<0)&&true))
  (.ret (qf0 (qx (ishl IntKind.i64 (w64 (ishl IntKind.i64 1 x.2.2.2-1)) x.2.2.1),qg5 (x.2.1,x.2.2.1),x.1)))
  .fail)
def qcV (x:dens qgy):Bool:=decide ((0:Int)≤x.2.2.1)&&(decide ((0:Int)≤x.2.2.2)&&(decide ((x.2.2.1:Int)+x.2.2.2≤32)&&decide ((x.2.2.1:Int)<32)))
def qea (x:dens qgy):Sh.den qh3:=(insN (wn x.1) (wn x.2.1) (Int.toNat x.2.2.1) (Int.toNat x.2.2.2):Int)
theorem insert_val (m f:Int) (a k:Nat) (h:a+k≤32) (ha:a<32):(qks (m,f,(a:Int),(k:Int))).val=some ((insN (wn m) (wn f) a k:Nat):Int):=by
 have h1:decide ((k:Int)<0)=false:=dec_false (by omega)
 have h2:decide ((a:Int)<0)=false:=dec_false (by omega)
 have hp:2 ^ k≤2 ^ 32:=pow_lt (by omega)
 have hk1:ishl .i64 1 (k:Int)=((2 ^ k:Nat):Int):=by
  rw[ishl_nat _ _ (by omega),Int.one_mul,show(2:Int) ^ k=((2 ^ k:Nat):Int) by simp]
  exact w64_nat (by omega)
 have hpos:=Nat.two_pow_pos k
 have hm1:w64 (((2 ^ k:Nat):Int)-1)=((2 ^ k-1:Nat):Int):=by
  generalize 2 ^ k=q at *
  rw[w64_id (by omega) (by omega)]
  omega
 have hml:=mask_lt h
 have hkk:kk (a:Int)=a:=by unfold kk;omega
 show(bif !decide ((k:Int)<0)&&(!decide ((a:Int)<0)&&true) then some (((wn ((wn f*2 ^ kk (a:Int) % 4294967296:Nat):Int) &&& wn ((wn (ishl .i64 (w64 (ishl .i64 1 (k:Int)-1)) (a:Int)):Nat):Int)) |||(wn m &&& (4294967295-wn ((wn (ishl .i64 (w64 (ishl .i64 1 (k:Int)-1)) (a:Int)):Nat):Int))):Nat):Int) else none)=_
 rw[h1,h2,hk1,hm1,shl_wn _ _ (by omega),hkk,Nat.mod_eq_of_lt hml,wn_nat (Nat.mod_lt _ (by omega)),wn_nat hml,select_ins (wn_lt m) h]
 rfl
theorem qmV (x:dens qgy) (h:qcV x=true):(qks x).val=some (qea x):=by
 obtain⟨m,f,a,k⟩:=x
 simp only[qcV,Bool.and_eq_true,decide_eq_true_eq] at h
 obtain⟨h1,h2,h3,h4⟩:=h
 obtain⟨a,rfl⟩:=Int.eq_ofNat_of_zero_le h1
 obtain⟨k,rfl⟩:=Int.eq_ofNat_of_zero_le h2
 have h3':(a:Int)+(k:Int)≤32:=h3
 have h4':(a:Int)<32:=h4
 exact insert_val m f a k (by omega) (by omega)
abbrev qfV:List Ty:=[(.int .i64),(.int .i64),(.int .i64)]
abbrev qhy:Sh:=Sh.ty (Ty.int IntKind.i64)
def qfY (x:dens qfV):PO (Sh.den qhy) :=
 (.ite (x.1==5)
  (.ret (qg5 (x.2.1,x.2.2)))
  (.ite (x.1==6)
  (.ret (qeG (x.2.1,x.2.2)))
  (.ite (x.1==7)
   (.ret (qir (x.2.1,x.2.2)))
   (.ret (qit (x.2.1,x.2.2))))))
def qjT (_:dens qfV):Bool:=true
def qfR (x:dens qfV):Sh.den qhy:=(qfY x).getO default
theorem qmB (x:dens qfV) (_:qjT x=true):(qfY x).val=some (qfR x):=PO.sure_ok default (by simp[qfY,PO.sure])
abbrev qjA:List Ty:=[(.int .i64),(.int .i64),(.int .i64)]
abbrev qkD:Sh:=Sh.ty (Ty.int IntKind.i64)
def qjy (x:dens qjA):PO (Sh.den qkD) :=
 (.ite (x.1==10)
  (.ret (qeR (x.2.1,x.2.2)))
  (.ite (x.1==11)
  (.ret (qeR (x.2.1,qby x.2.2)))
  (.ite (x.1==12)
   (.ret (qeI (x.2.1,x.2.2)))
   (.ite (x.1==13)
   (.ret (qdo (x.2.1,x.2.2)))
   (.ite (x.1==14)
    (.ret (qdj (x.2.1,x.2.2)))
    (.ite (x.1==15)
    (.ret (qdR (x.2.1,x.2.2)))
    (.ret (qeJ (x.2.1,x.2.2)))))))))
def qlD (_:dens qjA):Bool:=true
def qjx (x:dens qjA):Sh.den qkD:=(qjy x).getO default
theorem qnC (x:dens qjA) (_:qlD x=true):(qjy x).val=some (qjx x):=PO.sure_ok default (by simp[qjy,PO.sure])
abbrev qfP:List Ty:=[tState,(.int .i64),(.int .i64)]
abbrev qhP:Sh:=Sh.ty tState
def qhN (x:dens qfP):PO (Sh.den qhP) :=
 (.ret ((x.1.1,x.1.2.1,qg3 (qdR (x.2.1,x.2.2),31)==1,qdR (x.2.1,x.2.2)==0,decide (x.2.1≥x.2.2),qg3 (qeR (qdo (x.2.1,x.2.2),qdo (x.2.1,qdR (x.2.1,x.2.2))),31)==1,x.1.2.2.2.2.2.2)))
def qjP (_:dens qfP):Bool:=true
def qc9 (x:dens qfP):Sh.den qhP:=(qhN x).getO default
theorem qmw (x:dens qfP) (_:qjP x=true):(qhN x).val=some (qc9 x):=PO.sure_ok default (by simp[qhN,PO.sure])
end Go.Av
end
section
namespace Go.Av
open Go
theorem bad2 (A:Bool) (x:Option Int):(bif A then some 2 else x).getD 0=0↔A=false∧x.getD 0=0:=by cases A<;>simp
theorem bad6 (A:Bool) (x:Option Int):(bif A then some 6 else x).getD 0=0↔A=false∧x.getD 0=0:=by cases A<;>simp
set_option maxHeartbeats 1000000 in
theorem check_bounds {op rd rn rm ra imm cond:Int} {w:Bool} (h:qd (op,rd,rn,rm,ra,imm,cond,w,())=0) :
  (1≤op∧op≤25)∧(0≤rd∧rd≤12)∧(0≤rn∧rn≤12)∧(0≤rm∧rm≤12)∧(op=17→0≤ra∧ra≤12∧ra≠rd)∧(op≠24→op≠25→0≤imm∧imm≤65535∧w=false∧cond=0)∧(5≤op→op≤23→imm≤31)∧(op=18→1≤ra∧ra≤32-imm)∧(6≤op→op≤8→1≤imm):=by
 have hw:=left_same imm
 rcases op_cases op with rfl |rfl |rfl |rfl |rfl |rfl |rfl |rfl |rfl |rfl |rfl |rfl |rfl |rfl |rfl |rfl |rfl |rfl |rfl |rfl |rfl |rfl |rfl |rfl |rfl |hop
 case inr.inr.inr.inr.inr.inr.inr.inr.inr.inr.inr.inr.inr.inr.inr.inr.inr.inr.inr.inr.inr.inr.inr.inr.inr =>
  exfalso
  have e:=fun k hk=>op_none (n:=op) (k:=k) hop hk
  simp[qd,qX,qE,q8,PO.getO,PO.val,e] at h
 all_goals
  simp[qd,qX,qE,q8,qbf,qcG,qV,qbD,PO.getO,PO.val,qcO,qcP,qQ,qc8] at h ⊢
  simp only[bad2,bad6,Bool.or_eq_false_iff,Bool.not_eq_false',decide_eq_true_eq,bne_eq_false_iff_eq,beq_iff_eq] at h
  grind
theorem wrap_a:IntKind.i64.wrap (-1048576)=-1048576:=rfl
theorem wrap_b:IntKind.i64.wrap 1048574=1048574:=rfl
set_option maxHeartbeats 1000000 in
theorem check_more {op rd rn rm ra imm cond:Int} {w:Bool} (h:qd (op,rd,rn,rm,ra,imm,cond,w,())=0) :
  (op=2→imm≤255)∧(9≤op→op≤17→imm=0):=by
 have hw:=left_same imm
 rcases op_cases op with rfl |rfl |rfl |rfl |rfl |rfl |rfl |rfl |rfl |rfl |rfl |rfl |rfl |rfl |rfl |rfl |rfl |rfl |rfl |rfl |rfl |rfl |rfl |rfl |rfl |hop
 case inr.inr.inr.inr.inr.inr.inr.inr.inr.inr.inr.inr.inr.inr.inr.inr.inr.inr.inr.inr.inr.inr.inr.inr.inr =>
  exfalso
  have e:=fun k hk=>op_none (n:=op) (k:=k) hop hk
  simp[qd,qX,qE,q8,PO.getO,PO.val,e] at h
 case inr.inr.inr.inr.inr.inr.inr.inr.inr.inr.inr.inr.inr.inr.inr.inr.inr.inr.inr.inr.inr.inr.inr.inl=>omega
 case inr.inr.inr.inr.inr.inr.inr.inr.inr.inr.inr.inr.inr.inr.inr.inr.inr.inr.inr.inr.inr.inr.inr.inr.inl=>omega
 all_goals
  simp[qd,qX,qE,q8,qbf,qcG,qV,qbD,PO.getO,PO.val] at h ⊢
  try simp only[bad2,Bool.or_eq_false_iff,Bool.not_eq_false',decide_eq_true_eq,bne_eq_false_iff_eq,beq_iff_eq] at h
  try grind
theorem check_25 {rd rn rm ra imm cond:Int} (h:qd (25,rd,rn,rm,ra,imm,cond,true,())=0):-1048576≤imm∧imm<1048576:=by
 simp[qd,qX,qV,qbD,PO.getO,PO.val,qcO,qcP,qQ,qc8,wrap_a,wrap_b] at h
 simp only[bad2,bad6,Bool.or_eq_false_iff,Bool.not_eq_false',decide_eq_true_eq,bne_eq_false_iff_eq] at h
 grind
end Go.Av
end
section
namespace Go.Av
open Go
theorem dflt_i64:Ty.dflt (.int .i64)=(0:Int):=rfl
theorem inR15 {n:Int} (h:0≤n∧n≤12):inRange n 15=true:=by
 unfold inRange
 rw[dec_true h.1,dec_true (show n<((15:Nat):Int) by omega)]
 rfl
def vOf (op imm ra d n m ld:Int):Int :=
 bif op==3 then imm
 else bif op==4 then(insN (wn d) (wn imm) 16 16:Nat)
 else bif op==5 then(wn m*2 ^ kk imm % 4294967296:Nat)
 else bif op==6 then(wn m / 2 ^ kk imm:Nat)
 else bif op==7 then(wn (sw (wn m) / (2 ^ kk imm:Nat)):Nat)
 else bif op==8 then(wn m / 2 ^ kk imm+wn m % 2 ^ kk imm*2 ^ (32-kk imm):Nat)
 else bif op==9 then(4294967295-wn m:Nat)
 else bif op==10 then(wn n &&& wn m:Nat)
 else bif op==11 then(wn n &&& wn ((4294967295-wn m:Nat):Int):Nat)
 else bif op==12 then(wn n |||wn m:Nat)
 else bif op==13 then(wn n ^^^ wn m:Nat)
 else bif op==14 then(wn (n+m):Nat)
 else bif op==15 then(wn (n-m):Nat)
 else bif op==16||op==17 then(wn n*wn m % 4294967296:Nat)
 else bif op==18 then(insN (wn d) (wn n) imm.toNat ra.toNat:Nat)
 else bif op==19 then(wn ld:Nat)
 else bif op==21 then(wn ld % 256:Nat)
 else d
def makesRd (op:Int):Bool:=decide (3≤op)&&decide (op≤19)||op==21
def rg (l:List Int) (k:Int):Int:=l.getD (Int.toNat k) 0
def regsOf (r:List Int) (op rd rn rm ra imm ld:Int):List Int :=
 bif op==17 then(r.set rd.toNat (wn (rg r rn)*wn (rg r rm) % 4294967296:Nat)).set ra.toNat (wn (rg r rn)*wn (rg r rm) / 4294967296:Nat)
 else bif makesRd op then r.set rd.toNat (vOf op imm ra (rg r rd) (rg r rn) (rg r rm) ld)
 else r
def makesS (s:tState.den) (op rd rn rm ra imm ld:Int):tState.den :=
 bif op==23 then qc9 (s,rg s.1 rn,rg s.1 rm) else(regsOf s.1 op rd rn rm ra imm ld,s.2)
theorem wn_byte (n:Int):(wn (band .i64 n 255):Int)=((wn n % 256:Nat):Int):=by
 have h:band .i64 n 255=n % 256:=band_low n 8 (by omega)
 rw[h]
 unfold wn
 omega
abbrev qhh:List Ty:=[tState,tIns,(.int .i64)]
abbrev qjp:Sh:=Sh.ty tState
def qf9 (x:dens qhh):PO (Sh.den qjp) :=
 (.ite (inRange x.2.1.2.2.1 15&&inRange x.2.1.2.2.2.1 15)
  (.ite (x.2.1.1==3)
  (.ite (inRange x.2.1.2.1 15)
   (.ret ((List.set x.1.1 (Int.toNat x.2.1.2.1) x.2.1.2.2.2.2.2.1,x.1.2)))
   .fail)
  (.ite (x.2.1.1==4)
   (.ite (inRange x.2.1.2.1 15)
   (.ite (qcV (List.getD x.1.1 (Int.toNat x.2.1.2.1) (Ty.dflt (Ty.int IntKind.i64)),x.2.1.2.2.2.2.2.1,16,16))
    (.ite (inRange x.2.1.2.1 15)
    (.ret ((List.set x.1.1 (Int.toNat x.2.1.2.1) (qea (List.getD x.1.1 (Int.toNat x.2.1.2.1) (Ty.dflt (Ty.int IntKind.i64)),x.2.1.2.2.2.2.2.1,16,16)),x.1.2)))
    .fail)
    .fail)
   .fail)
   (.ite (bif x.2.1.1==5 then x.2.1.1==5 else bif x.2.1.1==6 then x.2.1.1==6 else bif x.2.1.1==7 then x.2.1.1==7 else x.2.1.1==8)
   (.ite (inRange x.2.1.2.1 15)
    (.ret ((List.set x.1.1 (Int.toNat x.2.1.2.1) (qfR (x.2.1.1,List.getD x.1.1 (Int.toNat x.2.1.2.2.2.1) (Ty.dflt (Ty.int IntKind.i64)),x.2.1.2.2.2.2.2.1)),x.1.2)))
    .fail)
   (.ite (x.2.1.1==9)
    (.ite (inRange x.2.1.2.1 15)
    (.ret ((List.set x.1.1 (Int.toNat x.2.1.2.1) (qby (List.getD x.1.1 (Int.toNat x.2.1.2.2.2.1) (Ty.dflt (Ty.int IntKind.i64)))),x.1.2)))
    .fail)
    (.ite (bif x.2.1.1==10 then x.2.1.1==10 else bif x.2.1.1==11 then x.2.1.1==11 else bif x.2.1.1==12 then x.2.1.1==12 else bif x.2.1.1==13 then x.2.1.1==13 else bif x.2.1.1==14 then x.2.1.1==14 else bif x.2.1.1==15 then x.2.1.1==15 else x.2.1.1==16)
    (.ite (inRange x.2.1.2.1 15)
     (.ret ((List.set x.1.1 (Int.toNat x.2.1.2.1) (qjx (x.2.1.1,List.getD x.1.1 (Int.toNat x.2.1.2.2.1) (Ty.dflt (Ty.int IntKind.i64)),List.getD x.1.1 (Int.toNat x.2.1.2.2.2.1) (Ty.dflt (Ty.int IntKind.i64)))),x.1.2)))
     .fail)
    (.ite (x.2.1.1==17)
     (.ite (inRange x.2.1.2.1 15)
     (.ite (inRange x.2.1.2.2.2.2.1 15)
      (.ret ((List.set (List.set x.1.1 (Int.toNat x.2.1.2.1) (qeJ (List.getD x.1.1 (Int.toNat x.2.1.2.2.1) (Ty.dflt (Ty.int IntKind.i64)),List.getD x.1.1 (Int.toNat x.2.1.2.2.2.1) (Ty.dflt (Ty.int IntKind.i64))))) (Int.toNat x.2.1.2.2.2.2.1) (qga (List.getD x.1.1 (Int.toNat x.2.1.2.2.1) (Ty.dflt (Ty.int IntKind.i64)),List.getD x.1.1 (Int.toNat x.2.1.2.2.2.1) (Ty.dflt (Ty.int IntKind.i64)))),x.1.2)))
      .fail)
     .fail)
     (.ite (x.2.1.1==18)
     (.ite (inRange x.2.1.2.1 15)
      (.ite (qcV (List.getD x.1.1 (Int.toNat x.2.1.2.1) (Ty.dflt (Ty.int IntKind.i64)),List.getD x.1.1 (Int.toNat x.2.1.2.2.1) (Ty.dflt (Ty.int IntKind.i64)),x.2.1.2.2.2.2.2.1,x.2.1.2.2.2.2.1))
      (.ite (inRange x.2.1.2.1 15)
       (.ret ((List.set x.1.1 (Int.toNat x.2.1.2.1) (qea (List.getD x.1.1 (Int.toNat x.2.1.2.1) (Ty.dflt (Ty.int IntKind.i64)),List.getD x.1.1 (Int.toNat x.2.1.2.2.1) (Ty.dflt (Ty.int IntKind.i64)),x.2.1.2.2.2.2.2.1,x.2.1.2.2.2.2.1)),x.1.2)))
       .fail)
      .fail)
      .fail)
     (.ite (x.2.1.1==21)
      (.ite (inRange x.2.1.2.1 15)
      (.ret ((List.set x.1.1 (Int.toNat x.2.1.2.1) (qx (band IntKind.i64 x.2.2 255)),x.1.2)))
      .fail)
      (.ite (x.2.1.1==19)
      (.ite (inRange x.2.1.2.1 15)
       (.ret ((List.set x.1.1 (Int.toNat x.2.1.2.1) (qx x.2.2),x.1.2)))
       .fail)
      (.ite (x.2.1.1==23)
       (.ret (qc9 (x.1,List.getD x.1.1 (Int.toNat x.2.1.2.2.1) (Ty.dflt (Ty.int IntKind.i64)),List.getD x.1.1 (Int.toNat x.2.1.2.2.2.1) (Ty.dflt (Ty.int IntKind.i64)))))
       (.ret (x.1))))))))))))
  .fail)
set_option maxHeartbeats 1000000 in
theorem makes_val (s:tState.den) (op rd rn rm ra imm cond ld:Int) (w:Bool) (h:qd (op,rd,rn,rm,ra,imm,cond,w,())=0):(qf9 (s,(op,rd,rn,rm,ra,imm,cond,w,()),ld)).val=some (makesS s op rd rn rm ra imm ld):=by
 obtain⟨hop,hrd,hrn,hrm,h17,himm,h31,h18,_⟩:=check_bounds h
 have i1:=inR15 hrd
 have i2:=inR15 hrn
 have i3:=inR15 hrm
 have hb:=wn_byte ld
 rcases op_cases op with rfl |rfl |rfl |rfl |rfl |rfl |rfl |rfl |rfl |rfl |rfl |rfl |rfl |rfl |rfl |rfl |rfl |rfl |rfl |rfl |rfl |rfl |rfl |rfl |rfl |hx
 case inr.inr.inr.inr.inr.inr.inr.inr.inr.inr.inr.inr.inr.inr.inr.inr.inr.inr.inr.inr.inr.inr.inr.inr.inr=>omega
 case inr.inr.inr.inr.inr.inr.inr.inr.inr.inr.inr.inr.inr.inr.inr.inr.inl =>
  have i4:=inR15 ⟨(h17 rfl).1,(h17 rfl).2.1⟩
  simp[qf9,PO.val,i1,i2,i3,i4,makesS,regsOf,rg,qeJ,qga,dflt_i64]
 case inr.inr.inr.inr.inr.inr.inr.inr.inr.inr.inr.inr.inr.inr.inr.inr.inr.inl =>
  obtain⟨a1,a2,_⟩:=himm (by omega) (by omega)
  obtain⟨a3,a4⟩:=h18 rfl
  have a5:=h31 (by omega) (by omega)
  have g:∀m f:Int,qcV (m,f,imm,ra)=true:=fun m f=>by
   simp only[qcV,Bool.and_eq_true,decide_eq_true_eq]
   exact⟨a1,by show(0:Int)≤ra;omega,by show imm+ra≤32;omega,by show imm<32;omega⟩
  simp[qf9,PO.val,i1,i2,i3,g,makesS,regsOf,makesRd,vOf,rg,qea,dflt_i64]
 all_goals
  first
  |(have g:∀m:Int,qcV (m,imm,16,16)=true:=fun _=>rfl
    simp[qf9,PO.val,i1,i2,i3,g,makesS,regsOf,makesRd,vOf,rg,qea,qfR,qfY,qjx,qjy,PO.getO,qg5,qeG,qir,qit,qby,qeR,qeI,qdo,qdj,qdR,qeJ,qx,hb,dflt_i64];done)
def qhe (x:dens qhh):Bool:=qd x.2.1==0
def qgb (x:dens qhh):Sh.den qjp:=makesS x.1 x.2.1.1 x.2.1.2.1 x.2.1.2.2.1 x.2.1.2.2.2.1 x.2.1.2.2.2.2.1 x.2.1.2.2.2.2.2.1 x.2.2
theorem qnb (x:dens qhh) (h:qhe x=true):(qf9 x).val=some (qgb x):=by
 obtain⟨s,⟨op,rd,rn,rm,ra,imm,cond,w,u⟩,ld⟩:=x
 exact makes_val s op rd rn rm ra imm cond ld w (by simpa [qhe] using h)
abbrev qgv:List Ty:=[tState,tIns]
abbrev qiJ:Sh:=Sh.tup (Sh.pair (Sh.ty tAccess) (Sh.pair (Sh.ty Ty.bool) (Sh.ty Ty.unit)))
def qgB (x:dens qgv):PO (Sh.den qiJ) :=
 (.ite (qd x.2 != 0)
  (.ret (((0,0,0,false,()),false,())))
  (.ite (qd4 x.1)
  (.ite (inRange x.2.2.2.1 15)
   (.ite (x.2.1==19)
   (.ret (((List.getD (qY x.1).1 (Int.toNat x.2.2.2.1) (Ty.dflt (Ty.int IntKind.i64)),4,0,false,()),true,())))
   (.ite (x.2.1==21)
    (.ret (((List.getD (qY x.1).1 (Int.toNat x.2.2.2.1) (Ty.dflt (Ty.int IntKind.i64)),1,0,false,()),true,())))
    (.ite (x.2.1==20)
    (.ite (inRange x.2.2.1 15)
     (.ret (((List.getD (qY x.1).1 (Int.toNat x.2.2.2.1) (Ty.dflt (Ty.int IntKind.i64)),4,List.getD (qY x.1).1 (Int.toNat x.2.2.1) (Ty.dflt (Ty.int IntKind.i64)),true,()),true,())))
     .fail)
    (.ite (x.2.1==22)
     (.ite (inRange x.2.2.1 15)
     (.ret (((List.getD (qY x.1).1 (Int.toNat x.2.2.2.1) (Ty.dflt (Ty.int IntKind.i64)),1,band IntKind.i64 (List.getD (qY x.1).1 (Int.toNat x.2.2.1) (Ty.dflt (Ty.int IntKind.i64))) 255,true,()),true,())))
     .fail)
     (.ret (((0,0,0,false,()),false,())))))))
   .fail)
  .fail))
theorem wordR_get (l:List Int) (k:Nat):(wordR l).getD k 0=(wn (l.getD k 0):Int):=by
 unfold wordR
 rw[List.getD_eq_getElem?_getD,List.getD_eq_getElem?_getD,List.getElem?_map]
 cases l[k]?<;>rfl
def accessV (bad:Bool) (op a d:Int):(tAccess.den×Bool×Unit) :=
 bif bad then((0,0,0,false,()),false,())
 else bif op==19 then((wn a,4,0,false,()),true,())
 else bif op==20 then((wn a,4,wn d,true,()),true,())
 else bif op==21 then((wn a,1,0,false,()),true,())
 else bif op==22 then((wn a,1,(wn d % 256:Nat),true,()),true,())
 else((0,0,0,false,()),false,())
theorem band_byte (m:Nat):band .i64 (m:Int) 255=((m % 256:Nat):Int):=by
 have h:band .i64 (m:Int) 255=(m:Int) % 256:=band_low m 8 (by omega)
 rw[h]
 omega
def qcw (x:dens qgv):Bool:=decide (List.length x.1.1=15)
def qc (x:dens qgv):Sh.den qiJ:=accessV (qd x.2 != 0) x.2.1 (rg x.1.1 x.2.2.2.1) (rg x.1.1 x.2.2.1)
theorem access_val (s:tState.den) (op rd rn rm ra imm cond:Int) (w:Bool) (hs:List.length s.1=15):(qgB (s,(op,rd,rn,rm,ra,imm,cond,w,()))).val=some (accessV (qd (op,rd,rn,rm,ra,imm,cond,w,()) != 0) op (rg s.1 rn) (rg s.1 rd)):=by
 cases hc:(qd (op,rd,rn,rm,ra,imm,cond,w,()) != (0:Int))
 ·have h:qd (op,rd,rn,rm,ra,imm,cond,w,())=0:=by simpa using hc
  obtain⟨hop,hrd,hrn,_⟩:=check_bounds h
  have i1:=inR15 hrd
  have i2:=inR15 hrn
  have g:qd4 s=true:=dec_true hs
  have e1:∀k:Int,List.getD (qY s).1 (Int.toNat k) 0=(wn (rg s.1 k):Int):=fun k=>wordR_get s.1 _
  simp only[qgB,PO.val,hc,i1,i2,g,dflt_i64]
  rw[e1,e1,band_byte]
  unfold accessV
  by_cases h19:op=19
  ·subst h19;rfl
  ·by_cases h20:op=20
   ·subst h20;rfl
   ·by_cases h21:op=21
    ·subst h21;rfl
    ·by_cases h22:op=22
     ·subst h22;rfl
     ·have b19:(op==19)=false:=beq_eq_false_iff_ne.2 h19
      have b20:(op==20)=false:=beq_eq_false_iff_ne.2 h20
      have b21:(op==21)=false:=beq_eq_false_iff_ne.2 h21
      have b22:(op==22)=false:=beq_eq_false_iff_ne.2 h22
      simp[b19,b20,b21,b22]
 ·simp[qgB,PO.val,hc,accessV]
theorem qmO (x:dens qgv) (h:qcw x=true):(qgB x).val=some (qc x):=by
 obtain⟨s,op,rd,rn,rm,ra,imm,cond,w,u⟩:=x
 exact access_val s op rd rn rm ra imm cond w (of_decide_eq_true h)
end Go.Av
end
