/- Texts of the proof, one behind the other. -/
import Derived.Test.YtealbjacocgjcaaGreatGateSkipsK24
section
namespace Go.Av
open Go
abbrev tI:Ty:=.int .i64
theorem dec_true {p:Prop} [Decidable p] (h:p):decide p=true:=decide_eq_true h
theorem dec_false {p:Prop} [Decidable p] (h:¬p):decide p=false:=decide_eq_false h
theorem w64_id {n:Int} (h1:-9223372036854775808≤n) (h2:n<9223372036854775808):w64 n=n:=wrap_i64 n h1 (by omega)
theorem inR {i n:Nat} (h:i<n):inRange (i:Int) n=true:=by
 simp[inRange]
 omega
theorem runL_count {σ:Type} {turn:σ→PO (TL σ)} (st:Nat→σ) (r:Nat×σ) {n:Nat} (hon:∀i,i<n→(turn (st i)).val=some (.on (st (i+1)))) (hout:(turn (st n)).val=some (.out r.1 r.2)) :
  ∀(k i:Nat),i+k=n→∀f,k<f→runL turn f (st i)=some r
 |0,i,h,f,hf=>by
  obtain⟨f,rfl⟩:∃g,f=g+1:=⟨f-1,by omega⟩
  have:i=n:=by omega
  subst this
  rw[runL_out hout]
 |k+1,i,h,f,hf=>by
  obtain⟨f,rfl⟩:∃g,f=g+1:=⟨f-1,by omega⟩
  have hv:=hon i (by omega)
  rw[runL_on hv]
  exact runL_count st r hon hout k (i+1) (by omega) f (by omega)
theorem getD_nat {α:Type} (l:List α) (i:Nat) (d:α):l.getD (Int.toNat (i:Int)) d=l.getD i d:=by simp
theorem getD_in {α:Type} (l:List α) (d:α) {i:Nat} (hi:i<l.length):l.getD i d=l[i]:=by
 rw[List.getD_eq_getElem?_getD,List.getElem?_eq_getElem hi];rfl
theorem w64_eq (n:Int):w64 n=if 9223372036854775808≤n % 18446744073709551616 then n % 18446744073709551616-18446744073709551616 else n % 18446744073709551616:=by
 have h:w64 n=if(true&&decide (n % 18446744073709551616≥9223372036854775808))=true then n % 18446744073709551616-18446744073709551616 else n % 18446744073709551616:=rfl
 rw[h]
 simp only[Bool.true_and,decide_eq_true_eq,ge_iff_le]
theorem i32_eq (n:Int):IntKind.i32.wrap n=if 2147483648≤n % 4294967296 then n % 4294967296-4294967296 else n % 4294967296:=by
 have h:IntKind.i32.wrap n=if(true&&decide (n % 4294967296≥2147483648))=true then n % 4294967296-4294967296 else n % 4294967296:=rfl
 rw[h]
 simp only[Bool.true_and,decide_eq_true_eq,ge_iff_le]
theorem val_yes {α:Type} {b:Bool} {p q:PO α} (h:b=true):(PO.ite b p q).val=p.val:=by subst h;rfl
theorem val_no {α:Type} {b:Bool} {p q:PO α} (h:b=false):(PO.ite b p q).val=q.val:=by subst h;rfl
theorem val_opt {α β:Type} {o:Option β} {r:β} {k:β→PO α} (h:o=some r):(PO.opt o k).val=(k r).val:=by subst h;rfl
end Go.Av
end
section
namespace Go.Av
open Go
abbrev qfr:List Ty:=[(.int .i64),(.int .i64),(.int .i64)]
abbrev qgW:Sh:=Sh.ty Ty.bool
def qbB (x:dens qfr):PO (Sh.den qgW) :=
 (.ret (decide (x.1≥x.2.1)&&decide (x.1≤x.2.2)))
def qi5 (_:dens qfr):Bool:=true
def qU (x:dens qfr):Sh.den qgW:=(qbB x).getO default
theorem qlT (x:dens qfr) (_:qi5 x=true):(qbB x).val=some (qU x):=PO.sure_ok default (by simp[qbB,PO.sure])
abbrev qgd:List Ty:=[(.int .i64),(.int .i64)]
abbrev qhM:Sh:=Sh.ty Ty.bool
def qcL (x:dens qgd):PO (Sh.den qhM) :=
 (.ite (x.2==-1)
  (.ret (x.1==0))
  (.ret (qU (x.1,0,x.2))))
def qjL (_:dens qgd):Bool:=true
def qbf (x:dens qgd):Sh.den qhM:=(qcL x).getO default
theorem ql9 (x:dens qgd) (_:qjL x=true):(qcL x).val=some (qbf x):=PO.sure_ok default (by simp[qcL,PO.sure])
abbrev qfn:List Ty:=[(.int .i64)]
abbrev qgZ:Sh:=Sh.tup (Sh.pair (Sh.ty tOp) (Sh.pair (Sh.ty Ty.bool) (Sh.ty Ty.unit)))
def q7 (x:dens qfn):PO (Sh.den qgZ) :=
 (.ite (x==1)
  (.ret (((-1,-1,-1,-1,0,0,()),true,())))
  (.ite (x==2)
  (.ret (((-1,-1,-1,-1,0,255,()),true,())))
  (.ite (bif x==3 then x==3 else x==4)
   (.ret (((12,-1,-1,-1,0,65535,()),true,())))
   (.ite (x==5)
   (.ret (((12,-1,12,-1,0,31,()),true,())))
   (.ite (bif x==6 then x==6 else bif x==7 then x==7 else x==8)
    (.ret (((12,-1,12,-1,1,31,()),true,())))
    (.ite (x==9)
    (.ret (((12,-1,12,-1,0,0,()),true,())))
    (.ite (bif x==10 then x==10 else bif x==11 then x==11 else bif x==12 then x==12 else bif x==13 then x==13 else bif x==14 then x==14 else bif x==15 then x==15 else x==16)
     (.ret (((12,12,12,-1,0,0,()),true,())))
     (.ite (x==17)
     (.ret (((12,12,12,12,0,0,()),true,())))
     (.ite (x==18)
      (.ret (((12,12,-1,32,0,31,()),true,())))
      (.ite (bif x==19 then x==19 else bif x==20 then x==20 else bif x==21 then x==21 else x==22)
      (.ret (((7,7,-1,-1,0,0,()),true,())))
      (.ite (x==23)
       (.ret (((-1,7,7,-1,0,0,()),true,())))
       (.ret (((0,0,0,0,0,0,()),false,()))))))))))))))
def qi8 (_:dens qfn):Bool:=true
def qz (x:dens qfn):Sh.den qgZ:=(q7 x).getO default
theorem qlN (x:dens qfn) (_:qi8 x=true):(q7 x).val=some (qz x):=PO.sure_ok default (by simp[q7,PO.sure])
abbrev qfU:List Ty:=[(.int .i64),.bool]
abbrev qhS:Sh:=Sh.tup (Sh.pair (Sh.ty (Ty.int IntKind.i64)) (Sh.pair (Sh.ty (Ty.int IntKind.i64)) (Sh.ty Ty.unit)))
def qdd (x:dens qfU):PO (Sh.den qhS) :=
 (.ite (x.1==24)
  (.ret ((w64 (0-bif x.2 then 16777216 else 2048),w64 ((bif x.2 then 16777216 else 2048)-2),())))
  (.ite (x.1==25)
  (.ret ((w64 (0-bif x.2 then 1048576 else 256),w64 ((bif x.2 then 1048576 else 256)-2),())))
  (.ret ((0,0,())))))
def qjD (_:dens qfU):Bool:=true
def qP (x:dens qfU):Sh.den qhS:=(qdd x).getO default
theorem qmf (x:dens qfU) (_:qjD x=true):(qdd x).val=some (qP x):=PO.sure_ok default (by simp[qdd,PO.sure])
abbrev qfx:List Ty:=[tIns]
abbrev qg2:Sh:=Sh.ty (Ty.int IntKind.i64)
def qcU (x:dens qfx):PO (Sh.den qg2) :=
 (.ite (x.2.1 != 0||(x.2.2.1 != 0||(x.2.2.2.1 != 0||(x.2.2.2.2.1 != 0||bif x.1==24 then x.2.2.2.2.2.2.1 != 0||true else true))))
  (.ite (x.2.1 != 0||(x.2.2.1 != 0||(x.2.2.2.1 != 0||(x.2.2.2.2.1 != 0||bif x.1==24 then x.2.2.2.2.2.2.1 != 0||!qU (x.2.2.2.2.2.2.1,0,13) else !qU (x.2.2.2.2.2.2.1,0,13)))))
  (.ret (2))
  (.ite (band IntKind.i64 x.2.2.2.2.2.1 1 != 0||true)
   (.ite (band IntKind.i64 x.2.2.2.2.2.1 1 != 0||!qU (x.2.2.2.2.2.1,(qP (x.1,x.2.2.2.2.2.2.2.1)).1,(qP (x.1,x.2.2.2.2.2.2.2.1)).2.1))
   (.ret (6))
   (.ret (0)))
   .fail))
  .fail)
def qi6 (_:dens qfx):Bool:=true
def qcV (x:dens qfx):Sh.den qg2:=(qcU x).getO default
theorem qlO (x:dens qfx) (_:qi6 x=true):(qcU x).val=some (qcV x):=PO.tots_ok default (by simp[qcU,PO.tots])
abbrev qgb:List Ty:=[tIns]
abbrev qhu:Sh:=Sh.ty (Ty.int IntKind.i64)
def qV (x:dens qgb):PO (Sh.den qhu) :=
 (.ite (x.1==24||x.1==25)
  (.ret (qcV x))
  (.ite (!(qz x.1).2.1||(x.2.2.2.2.2.2.2.1||(x.2.2.2.2.2.2.1 != 0||true)))
  (.ite (!(qz x.1).2.1||(x.2.2.2.2.2.2.2.1||(x.2.2.2.2.2.2.1 != 0||!qU (x.2.2.2.2.2.1,(qz x.1).1.2.2.2.2.1,(qz x.1).1.2.2.2.2.2.1))))
   (.ret (2))
   (.ite (!qbf (x.2.1,(qz x.1).1.1)||(!qbf (x.2.2.1,(qz x.1).1.2.1)||(!qbf (x.2.2.2.1,(qz x.1).1.2.2.1)||true)))
   (.ite (!qbf (x.2.1,(qz x.1).1.1)||(!qbf (x.2.2.1,(qz x.1).1.2.1)||(!qbf (x.2.2.2.1,(qz x.1).1.2.2.1)||!qbf (x.2.2.2.2.1,(qz x.1).1.2.2.2.1))))
    (.ret (2))
    (.ite (bif x.1==17 then x.2.2.2.2.1==x.2.1||(x.1==18||true) else x.1==18||true)
    (.ite (bif x.1==17 then x.2.2.2.2.1==x.2.1||x.1==18&&!qU (x.2.2.2.2.1,1,w64 (32-x.2.2.2.2.2.1)) else x.1==18&&!qU (x.2.2.2.2.1,1,w64 (32-x.2.2.2.2.2.1)))
     (.ret (2))
     (.ret (0)))
    .fail))
   .fail))
  .fail))
def qjG (_:dens qgb):Bool:=true
def qd (x:dens qgb):Sh.den qhu:=(qV x).getO default
theorem ql4 (x:dens qgb) (_:qjG x=true):(qV x).val=some (qd x):=PO.tots_ok default (by simp[qV,PO.tots])
end Go.Av
end
section
namespace Go.Av
open Go
abbrev qiX:List Ty:=[(.int .i64)]
abbrev qiY:Sh:=Sh.ty Ty.str
def qgh (x:dens qiX):PO (Sh.den qiY) :=
 (.ite (x==13)
  (.ret ([49,49,49,48,49,48,49,48,49,48,48,48,110,110,110,110,48,48,48,48,100,100,100,100,48,48,48,48,109,109,109,109]))
  (.ite (x==14)
  (.ret ([49,49,49,48,49,48,49,49,48,48,48,48,110,110,110,110,48,48,48,48,100,100,100,100,48,48,48,48,109,109,109,109]))
  (.ite (x==15)
   (.ret ([49,49,49,48,49,48,49,49,49,48,49,48,110,110,110,110,48,48,48,48,100,100,100,100,48,48,48,48,109,109,109,109]))
   (.ite (x==16)
   (.ret ([49,49,49,49,49,48,49,49,48,48,48,48,110,110,110,110,49,49,49,49,100,100,100,100,48,48,48,48,109,109,109,109]))
   (.ite (x==17)
    (.ret ([49,49,49,49,49,48,49,49,49,48,49,48,110,110,110,110,100,100,100,100,97,97,97,97,48,48,48,48,109,109,109,109]))
    (.ite (x==18)
    (.ret ([49,49,49,49,48,48,49,49,48,49,49,48,110,110,110,110,48,69,68,67,100,100,100,100,66,65,48,119,119,119,119,119]))
    (.ite (x==19)
     (.ret ([48,49,49,48,49,48,48,48,48,48,110,110,110,100,100,100]))
     (.ite (x==20)
     (.ret ([48,49,49,48,48,48,48,48,48,48,110,110,110,100,100,100]))
     (.ite (x==21)
      (.ret ([48,49,49,49,49,48,48,48,48,48,110,110,110,100,100,100]))
      (.ite (x==22)
      (.ret ([48,49,49,49,48,48,48,48,48,48,110,110,110,100,100,100]))
      (.ite (x==23)
       (.ret ([48,49,48,48,48,48,49,48,49,48,109,109,109,110,110,110]))
       (.ite (x==24)
       (.ret ([49,49,49,48,48,76,75,74,73,72,71,70,69,68,67,66]))
       (.ite (x==25)
        (.ret ([49,49,48,49,99,99,99,99,73,72,71,70,69,68,67,66]))
        (.ret ([])))))))))))))))
def qgi (x:dens qiX):Sh.den qiY:=(qgh x).getO default
abbrev qiW:List Ty:=[(.int .i64),.bool]
abbrev qiV:Sh:=Sh.ty Ty.str
def qgj (x:dens qiW):PO (Sh.den qiV) :=
 (.ite (x.2)
  (.ite (x.1==24)
  (.ret ([49,49,49,49,48,89,86,85,84,83,82,81,80,79,78,77,49,48,120,49,121,76,75,74,73,72,71,70,69,68,67,66]))
  (.ite (x.1==25)
   (.ret ([49,49,49,49,48,85,99,99,99,99,82,81,80,79,78,77,49,48,83,48,84,76,75,74,73,72,71,70,69,68,67,66]))
   (.ret ([]))))
  (.ite (x.1==1)
  (.ret ([49,48,49,49,49,49,49,49,48,48,48,48,48,48,48,48]))
  (.ite (x.1==2)
   (.ret ([49,48,49,49,49,49,49,48,72,71,70,69,68,67,66,65]))
   (.ite (x.1==3)
   (.ret ([49,49,49,49,48,76,49,48,48,49,48,48,80,79,78,77,48,75,74,73,100,100,100,100,72,71,70,69,68,67,66,65]))
   (.ite (x.1==4)
    (.ret ([49,49,49,49,48,76,49,48,49,49,48,48,80,79,78,77,48,75,74,73,100,100,100,100,72,71,70,69,68,67,66,65]))
    (.ite (x.1==5)
    (.ret ([49,49,49,48,49,48,49,48,48,49,48,48,49,49,49,49,48,69,68,67,100,100,100,100,66,65,48,48,109,109,109,109]))
    (.ite (x.1==6)
     (.ret ([49,49,49,48,49,48,49,48,48,49,48,48,49,49,49,49,48,69,68,67,100,100,100,100,66,65,48,49,109,109,109,109]))
     (.ite (x.1==7)
     (.ret ([49,49,49,48,49,48,49,48,48,49,48,48,49,49,49,49,48,69,68,67,100,100,100,100,66,65,49,48,109,109,109,109]))
     (.ite (x.1==8)
      (.ret ([49,49,49,48,49,48,49,48,48,49,48,48,49,49,49,49,48,69,68,67,100,100,100,100,66,65,49,49,109,109,109,109]))
      (.ite (x.1==9)
      (.ret ([49,49,49,48,49,48,49,48,48,49,49,48,49,49,49,49,48,48,48,48,100,100,100,100,48,48,48,48,109,109,109,109]))
      (.ite (x.1==10)
       (.ret ([49,49,49,48,49,48,49,48,48,48,48,48,110,110,110,110,48,48,48,48,100,100,100,100,48,48,48,48,109,109,109,109]))
       (.ite (x.1==11)
       (.ret ([49,49,49,48,49,48,49,48,48,48,49,48,110,110,110,110,48,48,48,48,100,100,100,100,48,48,48,48,109,109,109,109]))
       (.ite (x.1==12)
        (.ret ([49,49,49,48,49,48,49,48,48,49,48,48,110,110,110,110,48,48,48,48,100,100,100,100,48,48,48,48,109,109,109,109]))
        (.ret (qgi x.1)))))))))))))))
def qg (x:dens qiW):Sh.den qiV:=(qgj x).getO default
abbrev qjt:List Ty:=[.str,(.int .u8)]
abbrev qlb:Sh:=Sh.ty Ty.bool
def qjo (x:dens qjt):Bool:=decide (List.length x.1<4611686018427387904)
def qjl (x:dens qjt):Sh.den qlb:=List.any x.1 fun b=>u8I b==x.2
abbrev qgz:List Ty:=[.str,(.int .u8),(.int .i64)]
abbrev qjn:Sh:=Sh.ty Ty.bool
def qe0 (x:dens qgz):PO (Sh.den qjn) :=
 (.ite (qjo (x.1,x.2.1))
  (.ite (!qjl (x.1,x.2.1))
  (.ret (x.2.2==0))
  (.ret (decide (x.2.2≥0)&&decide (x.2.2≤bif lenI x.1==16 then 7 else 12))))
  .fail)
def qcT (x:dens qgz):Bool:=(qe0 x).val.isSome
def qbq (x:dens qgz):Sh.den qjn:=(qe0 x).getO default
abbrev qis:List Ty:=[(.int .i64),.bool]
abbrev qie:Sh:=Sh.tup (Sh.pair (Sh.ty (Ty.int IntKind.i64)) (Sh.pair (Sh.ty (Ty.int IntKind.i64)) (Sh.ty Ty.unit)))
def qin (x:dens qis):PO (Sh.den qie) :=
 (.ret ((w64 (0-bif x.1==24&&!x.2 then 2048 else bif x.1==24 then 16777216 else bif x.1==25&&!x.2 then 256 else bif x.1==25 then 1048576 else 0),imax 0 (w64 ((bif x.1==24&&!x.2 then 2048 else bif x.1==24 then 16777216 else bif x.1==25&&!x.2 then 256 else bif x.1==25 then 1048576 else 0)-2)),())))
def qc2 (x:dens qis):Sh.den qie:=(qin x).getO default
abbrev qhZ:List Ty:=[tIns]
abbrev qh1:Sh:=Sh.ty Ty.bool
def qhX (x:dens qhZ):PO (Sh.den qh1) :=
 (.ite (x.1==2)
  (.ret (decide (x.2.2.2.2.2.1≥0)&&decide (x.2.2.2.2.2.1≤255)))
  (.ite (bif x.1==3 then x.1==3 else x.1==4)
  (.ret (decide (x.2.2.2.2.2.1≥0)&&decide (x.2.2.2.2.2.1≤65535)))
  (.ite (bif x.1==5 then x.1==5 else x.1==18)
   (.ret (decide (x.2.2.2.2.2.1≥0)&&decide (x.2.2.2.2.2.1≤31)))
   (.ite (bif x.1==6 then x.1==6 else bif x.1==7 then x.1==7 else x.1==8)
   (.ret (decide (x.2.2.2.2.2.1≥1)&&decide (x.2.2.2.2.2.1≤31)))
   (.ite (bif x.1==24 then x.1==24 else x.1==25)
    (.ret (true))
    (.ret (decide (x.2.2.2.2.2.1≥0)&&decide (x.2.2.2.2.2.1≤0))))))))
def qfo (x:dens qhZ):Sh.den qh1:=(qhX x).getO default
abbrev qfC:List Ty:=[tIns]
abbrev qig:Sh:=Sh.ty (Ty.int IntKind.i64)
def qd1 (x:dens qfC):PO (Sh.den qig) :=
 (.ite (qg (x.1,x.2.2.2.2.2.2.2.1)==[]||(!qfo x||qcT (qg (x.1,x.2.2.2.2.2.2.2.1),100,x.2.1)&&(!qbq (qg (x.1,x.2.2.2.2.2.2.2.1),100,x.2.1)||qcT (qg (x.1,x.2.2.2.2.2.2.2.1),110,x.2.2.1)&&(!qbq (qg (x.1,x.2.2.2.2.2.2.2.1),110,x.2.2.1)||qcT (qg (x.1,x.2.2.2.2.2.2.2.1),109,x.2.2.2.1)&&(!qbq (qg (x.1,x.2.2.2.2.2.2.2.1),109,x.2.2.2.1)||qcT (qg (x.1,x.2.2.2.2.2.2.2.1),97,bif x.1==18 then 0 else x.2.2.2.2.1))))))
  (.ite (qg (x.1,x.2.2.2.2.2.2.2.1)==[]||(!qfo x||(!qbq (qg (x.1,x.2.2.2.2.2.2.2.1),100,x.2.1)||(!qbq (qg (x.1,x.2.2.2.2.2.2.2.1),110,x.2.2.1)||(!qbq (qg (x.1,x.2.2.2.2.2.2.2.1),109,x.2.2.2.1)||!qbq (qg (x.1,x.2.2.2.2.2.2.2.1),97,bif x.1==18 then 0 else x.2.2.2.2.1))))))
  (.ret (2))
  (.ite (bif x.1==18 then decide (x.2.2.2.2.1<1)||(decide (x.2.2.2.2.1 > w64 (32-x.2.2.2.2.2.1))||x.1==17&&x.2.2.2.2.1==x.2.1) else x.1==17&&x.2.2.2.2.1==x.2.1)
   (.ret (2))
   (.ite (bif x.1==25 then decide (x.2.2.2.2.2.2.1<0)||(decide (x.2.2.2.2.2.2.1 > 13)||x.1 != 25&&x.2.2.2.2.2.2.1 != 0) else x.1 != 25&&x.2.2.2.2.2.2.1 != 0)
   (.ret (2))
   (.ite (bif x.1==24 then Int.tmod x.2.2.2.2.2.1 2 != 0||(decide (x.2.2.2.2.2.1<(qc2 (x.1,x.2.2.2.2.2.2.2.1)).1)||decide (x.2.2.2.2.2.1 > (qc2 (x.1,x.2.2.2.2.2.2.2.1)).2.1)) else x.1==25&&(Int.tmod x.2.2.2.2.2.1 2 != 0||(decide (x.2.2.2.2.2.1<(qc2 (x.1,x.2.2.2.2.2.2.2.1)).1)||decide (x.2.2.2.2.2.1 > (qc2 (x.1,x.2.2.2.2.2.2.2.1)).2.1))))
    (.ret (6))
    (.ret (0))))))
  .fail)
def qfH (x:dens qfC):Bool:=(qd1 x).val.isSome
def qd3 (x:dens qfC):Sh.den qig:=(qd1 x).getO default
end Go.Av
end
section
namespace Go.Av
open Go
theorem op_cases (n:Int):n=1∨n=2∨n=3∨n=4∨n=5∨n=6∨n=7∨n=8∨n=9∨n=10∨n=11∨n=12∨n=13∨n=14∨n=15∨n=16∨n=17∨n=18∨n=19∨n=20∨n=21∨n=22∨n=23∨n=24∨n=25∨(n<1∨25<n):=by omega
theorem op_none {n k:Int} (h:n<1∨25<n) (hk:1≤k∧k≤25):(n==k)=false:=by
 rw[beq_eq_false_iff_ne]
 omega
theorem bits_none {n:Int} (h:n<1∨25<n) (w:Bool):qg (n,w)=[]:=by
 have e:=fun k hk=>op_none (n:=n) (k:=k) h hk
 cases w<;>simp[qg,qgj,qgi,qgh,PO.getO,PO.val,e]
theorem bits_len (n:Int) (w:Bool):(qg (n,w)).length≤32:=by
 rcases op_cases n with rfl |rfl |rfl |rfl |rfl |rfl |rfl |rfl |rfl |rfl |rfl |rfl |rfl |rfl |rfl |rfl |rfl |rfl |rfl |rfl |rfl |rfl |rfl |rfl |rfl |h
 case inr.inr.inr.inr.inr.inr.inr.inr.inr.inr.inr.inr.inr.inr.inr.inr.inr.inr.inr.inr.inr.inr.inr.inr.inr=>rw[bits_none h];simp
 all_goals (cases w<;>decide)
theorem has_ok (n:Int) (w:Bool) (c:Int):qjo (qg (n,w),c)=true:=by
 have:=bits_len n w
 exact dec_true (show List.length (qg (n,w))<_ by omega)
theorem reg_val (n:Int) (w:Bool) (c r:Int):(qe0 (qg (n,w),c,r)).val=some (bif List.any (qg (n,w)) (fun b=>u8I b==c) then decide (r≥0)&&decide (r≤bif (lenI (qg (n,w))==16) then 7 else 12) else r==0):=by
 simp only[qe0,PO.val,qjl]
 rw[has_ok]
 cases List.any (qg (n,w)) (fun b=>u8I b==c)<;>rfl
theorem reg_ok (n:Int) (w:Bool) (c r:Int):qcT (qg (n,w),c,r)=true:=by
 rw[qcT,reg_val];rfl
theorem reg_eq (n:Int) (w:Bool) (c r:Int):qbq (qg (n,w),c,r)=(bif List.any (qg (n,w)) (fun b=>u8I b==c) then decide (r≥0)&&decide (r≤bif (lenI (qg (n,w))==16) then 7 else 12) else r==0):=by
 rw[qbq,PO.getO,reg_val];rfl
theorem some_cond {α:Type} (b:Bool) (x y:Option α) (hx:x.isSome=true) (hy:y.isSome=true):(bif b then x else y).isSome=true:=by
 cases b<;>assumption
theorem check_ok (x:tIns.den):qfH x=true:=by
 obtain⟨op,rd,rn,rm,ra,imm,cond,w,u⟩:=x
 unfold qfH qd1
 simp only[PO.val]
 rw[reg_ok,reg_ok,reg_ok,reg_ok]
 simp only[Bool.or_true,Bool.and_true,cond_true]
 repeat' (first|rfl |apply some_cond)
theorem even_i64 (n:Int):(band .i64 n 1 != 0)=(Int.tmod n 2 != 0):=by
 have h:band .i64 n 1=n % 2:=band_low n 1 (by omega)
 rw[h,Bool.eq_iff_iff]
 simp only[bne_iff_ne,ne_eq]
 exact not_congr ((Int.dvd_iff_emod_eq_zero (a:=2) (b:=n)).symm.trans Int.dvd_iff_tmod_eq_zero)
theorem left_same (imm:Int) (h1:0≤imm) (h2:imm≤31):w64 (32-imm)=32-imm:=w64_id (by omega) (by omega)
set_option maxHeartbeats 4000000 in
theorem check_same (x:tIns.den):qd x=qd3 x:=by
 obtain⟨op,rd,rn,rm,ra,imm,cond,w,u⟩:=x
 have hw:=left_same imm
 have w1:w64 (-2048)=-2048:=rfl
 have w2:w64 2046=2046:=rfl
 have w3:w64 (-16777216)=-16777216:=rfl
 have w4:w64 16777214=16777214:=rfl
 have w5:w64 (-256)=-256:=rfl
 have w6:w64 254=254:=rfl
 have w7:w64 (-1048576)=-1048576:=rfl
 have w8:w64 1048574=1048574:=rfl
 have m1:imax 0 2046=2046:=rfl
 have m2:imax 0 16777214=16777214:=rfl
 have m3:imax 0 254=254:=rfl
 have m4:imax 0 1048574=1048574:=rfl
 unfold qd3 qd1
 dsimp only[PO.getO,PO.val]
 rw[reg_ok,reg_ok,reg_ok,reg_ok,reg_eq,reg_eq,reg_eq,reg_eq]
 rcases op_cases op with rfl |rfl |rfl |rfl |rfl |rfl |rfl |rfl |rfl |rfl |rfl |rfl |rfl |rfl |rfl |rfl |rfl |rfl |rfl |rfl |rfl |rfl |rfl |rfl |rfl |hop
 case inr.inr.inr.inr.inr.inr.inr.inr.inr.inr.inr.inr.inr.inr.inr.inr.inr.inr.inr.inr.inr.inr.inr.inr.inr =>
  rw[bits_none hop]
  have e:=fun k hk=>op_none (n:=op) (k:=k) hop hk
  simp[qd,qV,qz,q7,PO.getO,PO.val,e]
 all_goals
  cases w <;>
  simp[qg,qgj,qgi,qgh,qd,qV,qz,q7,qbf,qcL,qU,qbB,PO.getO,PO.val,qfo,qhX,u8I,lenI,qcV,qcU,qP,qdd,qc2,qin,even_i64,w1,w2,w3,w4,w5,w6,w7,w8,m1,m2,m3,m4]<;>grind
end Go.Av
end
section
namespace Go.Av
open Go
def wn (n:Int):Nat:=(n % 4294967296).toNat
theorem wn_int (n:Int):(wn n:Int)=n % 4294967296:=by unfold wn;omega
theorem wn_lt (n:Int):wn n<4294967296:=by unfold wn;omega
theorem wn_nat {k:Nat} (h:k<4294967296):wn (k:Int)=k:=by unfold wn;omega
theorem wn_wn (n:Int):wn (wn n:Int)=wn n:=wn_nat (wn_lt n)
theorem band_32 (n:Int):band .i64 n 4294967295=n % 4294967296:=band_low n 32 (by omega)
theorem band_31 (n:Int):band .i64 n 31=n % 32:=band_low n 5 (by omega)
theorem band_one (n:Int):band .i64 n 1=n % 2:=band_low n 1 (by omega)
theorem w64_mod (n:Int):w64 n % 4294967296=n % 4294967296:=by
 rw[w64_eq];split<;>omega
theorem wn_w64 (n:Nat):wn (w64 (n:Int))=n % 4294967296:=by unfold wn;rw[w64_mod];omega
theorem ofInt_mod (n:Int):(BitVec.ofInt 64 n).toNat % 4294967296=wn n:=by
 have:=ofInt_toNat 64 n
 unfold wn
 omega
abbrev qhp:List Ty:=[(.int .i64)]
abbrev qjd:Sh:=Sh.ty (Ty.int IntKind.i64)
def qlk (x:dens qhp):PO (Sh.den qjd) :=
 (.ret (band IntKind.i64 x 4294967295))
def qkD (_:dens qhp):Bool:=true
def qp (x:dens qhp):Sh.den qjd:=(wn x:Int)
theorem qmA (x:dens qhp) (_:qkD x=true):(qlk x).val=some (qp x):=by
 show some _=some _
 rw[band_32,qp,wn_int]
def kk (n:Int):Nat:=(n % 32).toNat
theorem kk_int (n:Int):(kk n:Int)=n % 32:=by unfold kk;omega
theorem kk_lt (n:Int):kk n<32:=by unfold kk;omega
abbrev qhh:List Ty:=[(.int .i64)]
abbrev qja:Sh:=Sh.ty (Ty.int IntKind.i64)
def qll (x:dens qhh):PO (Sh.den qja) :=
 (.ret (band IntKind.i64 x 31))
def qks (_:dens qhh):Bool:=true
def qbn (x:dens qhh):Sh.den qja:=(kk x:Int)
theorem qmB (x:dens qhh) (_:qks x=true):(qll x).val=some (qbn x):=by
 show some _=some _
 rw[band_31,qbn,kk_int]
abbrev qib:List Ty:=[(.int .i64),(.int .i64)]
abbrev qjS:Sh:=Sh.ty (Ty.int IntKind.i64)
def qlP (x:dens qib):PO (Sh.den qjS) :=
 (.ret (qp (w64 (x.1+x.2))))
def qk2 (_:dens qib):Bool:=true
def qdv (x:dens qib):Sh.den qjS:=(wn (x.1+x.2):Int)
theorem qmQ (x:dens qib) (_:qk2 x=true):(qlP x).val=some (qdv x):=by
 show some _=some _
 rw[qp,qdv,wn_int,wn_int,w64_mod]
abbrev qia:List Ty:=[(.int .i64),(.int .i64)]
abbrev qj2:Sh:=Sh.ty (Ty.int IntKind.i64)
def qlC (x:dens qia):PO (Sh.den qj2) :=
 (.ret (qp (w64 (x.1-x.2))))
def qk4 (_:dens qia):Bool:=true
def qdY (x:dens qia):Sh.den qj2:=(wn (x.1-x.2):Int)
theorem qmS (x:dens qia) (_:qk4 x=true):(qlC x).val=some (qdY x):=by
 show some _=some _
 rw[qp,qdY,wn_int,wn_int,w64_mod]
abbrev qfv:List Ty:=[(.int .i64),(.int .i64)]
abbrev qg7:Sh:=Sh.ty (Ty.int IntKind.u64)
def qkJ (x:dens qfv):PO (Sh.den qg7) :=
 (.ret (IntKind.wrap IntKind.u64 (IntKind.wrap IntKind.u64 (qp x.1)*IntKind.wrap IntKind.u64 (qp x.2))))
def qi9 (_:dens qfv):Bool:=true
def qcN (x:dens qfv):Sh.den qg7:=((wn x.1*wn x.2:Nat):Int)
theorem qlU (x:dens qfv) (_:qi9 x=true):(qkJ x).val=some (qcN x):=by
 show some _=some _
 have h1:=wn_lt x.1
 have h2:=wn_lt x.2
 have h3:wn x.1*wn x.2≤4294967295*4294967295:=Nat.mul_le_mul (by omega) (by omega)
 rw[qcN]
 simp only[qp,u64_wrap]
 rw[Int.emod_eq_of_lt (a:=(wn x.1:Int)) (by omega) (by omega),Int.emod_eq_of_lt (a:=(wn x.2:Int)) (by omega) (by omega)]
 have e:(wn x.1:Int)*(wn x.2:Int)=((wn x.1*wn x.2:Nat):Int):=by simp
 rw[e,Int.emod_eq_of_lt (by omega) (by omega)]
theorem wn_eq {a b:Int} (h:a % 4294967296=b % 4294967296):wn a=wn b:=by unfold wn;rw[h]
theorem mul_lt (a b:Int):wn a*wn b≤18446744065119617025:=by
 have h1:=wn_lt a
 have h2:=wn_lt b
 exact Nat.mul_le_mul (show wn a≤4294967295 by omega) (show wn b≤4294967295 by omega)
theorem ofInt_nat {m:Nat} (h:m<18446744073709551616):(BitVec.ofInt 64 (m:Int)).toNat=m:=by
 have:=ofInt_toNat 64 m
 omega
theorem band_u64 {m:Nat} (h:m<18446744073709551616):band .u64 (m:Int) 4294967295=((m % 4294967296:Nat):Int):=by
 show IntKind.u64.wrap (BitVec.ofInt 64 (m:Int) &&& BitVec.ofInt 64 4294967295).toNat=_
 rw[BitVec.toNat_and,ofInt_nat h,show(BitVec.ofInt 64 4294967295).toNat=2 ^ 32-1 from by decide,Nat.and_two_pow_sub_one_eq_mod,u64_wrap]
 omega
theorem and_wn (a b:Int):wn (band .i64 a b)=wn a &&& wn b:=by
 show wn (w64 (BitVec.ofInt 64 a &&& BitVec.ofInt 64 b).toNat)=_
 rw[wn_w64,BitVec.toNat_and,show(4294967296:Nat)=2 ^ 32 from rfl,Nat.and_mod_two_pow,←ofInt_mod a,←ofInt_mod b]
theorem or_wn (a b:Int):wn (bor .i64 a b)=wn a |||wn b:=by
 show wn (w64 (BitVec.ofInt 64 a |||BitVec.ofInt 64 b).toNat)=_
 rw[wn_w64,BitVec.toNat_or,show(4294967296:Nat)=2 ^ 32 from rfl,Nat.or_mod_two_pow,←ofInt_mod a,←ofInt_mod b]
theorem xor_wn (a b:Int):wn (bxor .i64 a b)=wn a ^^^ wn b:=by
 show wn (w64 (BitVec.ofInt 64 a ^^^ BitVec.ofInt 64 b).toNat)=_
 rw[wn_w64,BitVec.toNat_xor,show(4294967296:Nat)=2 ^ 32 from rfl,Nat.xor_mod_two_pow,←ofInt_mod a,←ofInt_mod b]
theorem not_wn (a:Int):wn (icompl .i64 a)=4294967295-wn a:=by
 have e:icompl .i64 a=w64 (BitVec.ofInt 64 (-1) ^^^ BitVec.ofInt 64 a).toNat:=by
  unfold icompl
  rw[if_pos (by rfl)]
  rfl
 rw[e,show BitVec.ofInt 64 (-1)=BitVec.allOnes 64 from by decide,BitVec.allOnes_xor,wn_w64,BitVec.toNat_not,←ofInt_mod a]
 have:=(BitVec.ofInt 64 a).isLt
 omega
theorem bnot_wn (a b:Int):wn (bnot .i64 a b)=wn a &&& (4294967295-wn b):=by
 show wn (w64 (BitVec.ofInt 64 a &&& ~~~(BitVec.ofInt 64 b)).toNat)=_
 rw[wn_w64,BitVec.toNat_and,show(4294967296:Nat)=2 ^ 32 from rfl,Nat.and_mod_two_pow,BitVec.toNat_not,←ofInt_mod a,←ofInt_mod b]
 have:=(BitVec.ofInt 64 b).isLt
 congr 1
 omega
theorem ishl_nat (a:Int) (k:Nat) (hk:k≤64):ishl .i64 a (k:Int)=w64 (a*2 ^ k):=by
 unfold ishl
 have:min (k:Int).toNat IntKind.i64.bits=k:=by simp[IntKind.bits];omega
 rw[this]
theorem pow_lt {k n:Nat} (h:k≤n):2 ^ k≤2 ^ n:=Nat.pow_le_pow_right (by omega) h
theorem shl_wn (a:Nat) (k:Nat) (hk:k≤64):wn (ishl .i64 (a:Int) (k:Int))=a*2 ^ k % 4294967296:=by
 rw[ishl_nat _ _ hk,show(a:Int)*2 ^ k=((a*2 ^ k:Nat):Int) by simp,wn_w64]
abbrev qiO:List Ty:=[(.int .i64),(.int .i64)]
abbrev qjT:Sh:=Sh.ty (Ty.int IntKind.i64)
def qlA (x:dens qiO):PO (Sh.den qjT) :=
 (.ret (w64 (band IntKind.u64 (qcN (x.1,x.2)) 4294967295)))
def qkZ (_:dens qiO):Bool:=true
def qeP (x:dens qiO):Sh.den qjT:=((wn x.1*wn x.2 % 4294967296:Nat):Int)
theorem qmK (x:dens qiO) (_:qkZ x=true):(qlA x).val=some (qeP x):=by
 show some _=some _
 have h:=mul_lt x.1 x.2
 simp only[qcN,qeP]
 rw[band_u64 (by omega),w64_id (by omega) (by omega)]
abbrev qhs:List Ty:=[(.int .i64),(.int .i64)]
abbrev qjb:Sh:=Sh.ty (Ty.int IntKind.i64)
def qlm (x:dens qhs):PO (Sh.den qjb) :=
 (.ret (w64 (ishr IntKind.u64 (qcN (x.1,x.2)) 32)))
def qkr (_:dens qhs):Bool:=true
def qge (x:dens qhs):Sh.den qjb:=((wn x.1*wn x.2 / 4294967296:Nat):Int)
theorem qmD (x:dens qhs) (_:qkr x=true):(qlm x).val=some (qge x):=by
 show some _=some _
 have h:=mul_lt x.1 x.2
 simp only[qcN,qge]
 have e:ishr .u64 ((wn x.1*wn x.2:Nat):Int) 32=((wn x.1*wn x.2 / 4294967296:Nat):Int):=by
  unfold ishr
  rw[show min (32:Int).toNat IntKind.u64.bits=32 from rfl,Int.fdiv_eq_ediv_of_nonneg _ (by omega)]
  omega
 rw[e,w64_id (by omega) (by omega)]
abbrev qiz:List Ty:=[(.int .i64)]
abbrev qjR:Sh:=Sh.ty (Ty.int IntKind.i64)
def qlK (x:dens qiz):PO (Sh.den qjR) :=
 (.ret (qp (icompl IntKind.i64 x)))
def qk1 (_:dens qiz):Bool:=true
def qbx (x:dens qiz):Sh.den qjR:=((4294967295-wn x:Nat):Int)
theorem qmH (x:dens qiz) (_:qk1 x=true):(qlK x).val=some (qbx x):=by
 show some _=some _
 rw[qp,qbx,not_wn]
abbrev qih:List Ty:=[(.int .i64),(.int .i64)]
abbrev qj0:Sh:=Sh.ty (Ty.int IntKind.i64)
def qlD (x:dens qih):PO (Sh.den qj0) :=
 (.ret (qp (band IntKind.i64 x.1 x.2)))
def qkX (_:dens qih):Bool:=true
def qeK (x:dens qih):Sh.den qj0:=((wn x.1 &&& wn x.2:Nat):Int)
theorem qmO (x:dens qih) (_:qkX x=true):(qlD x).val=some (qeK x):=by
 show some _=some _
 rw[qp,qeK,and_wn]
abbrev qjv:List Ty:=[(.int .i64),(.int .i64)]
abbrev qkp:Sh:=Sh.ty (Ty.int IntKind.i64)
def qmg (x:dens qjv):PO (Sh.den qkp) :=
 (.ret (qp (bor IntKind.i64 x.1 x.2)))
def qld (_:dens qjv):Bool:=true
def qeN (x:dens qjv):Sh.den qkp:=((wn x.1 |||wn x.2:Nat):Int)
theorem qmX (x:dens qjv) (_:qld x=true):(qmg x).val=some (qeN x):=by
 show some _=some _
 rw[qp,qeN,or_wn]
abbrev qiL:List Ty:=[(.int .i64),(.int .i64)]
abbrev qjU:Sh:=Sh.ty (Ty.int IntKind.i64)
def qlS (x:dens qiL):PO (Sh.den qjU) :=
 (.ret (qp (bxor IntKind.i64 x.1 x.2)))
def qkW (_:dens qiL):Bool:=true
def qdu (x:dens qiL):Sh.den qjU:=((wn x.1 ^^^ wn x.2:Nat):Int)
theorem qmU (x:dens qiL) (_:qkW x=true):(qlS x).val=some (qdu x):=by
 show some _=some _
 rw[qp,qdu,xor_wn]
abbrev qiP:List Ty:=[(.int .i64),(.int .i64)]
abbrev qjP:Sh:=Sh.ty (Ty.int IntKind.i64)
def qlH (x:dens qiP):PO (Sh.den qjP) :=
 (.ite (!decide (qbn x.2<0)&&true)
  (.ret (qp (ishl IntKind.i64 (qp x.1) (qbn x.2))))
  .fail)
def qkV (_:dens qiP):Bool:=true
def qg0 (x:dens qiP):Sh.den qjP:=((wn x.1*2 ^ kk x.2 % 4294967296:Nat):Int)
theorem qmL (x:dens qiP) (_:qkV x=true):(qlH x).val=some (qg0 x):=by
 obtain⟨a,n⟩:=x
 have hk:=kk_lt n
 have hd:decide ((kk n:Int)<0)=false:=dec_false (by omega)
 show(bif !decide ((kk n:Int)<0)&&true then some ((wn (ishl .i64 (wn a:Int) (kk n:Int)):Nat):Int) else none)=some ((wn a*2 ^ kk n % 4294967296:Nat):Int)
 rw[hd,shl_wn _ _ (by omega)]
 rfl
abbrev qiQ:List Ty:=[(.int .i64),(.int .i64)]
abbrev qj1:Sh:=Sh.ty (Ty.int IntKind.i64)
def qlW (x:dens qiQ):PO (Sh.den qj1) :=
 (.ite (!decide (qbn x.2<0))
  (.ret (ishr IntKind.i64 (qp x.1) (qbn x.2)))
  .fail)
def qiw (_:dens qiQ):Bool:=true
def qeG (x:dens qiQ):Sh.den qj1:=((wn x.1 / 2 ^ kk x.2:Nat):Int)
theorem qmM (x:dens qiQ) (_:qiw x=true):(qlW x).val=some (qeG x):=by
 obtain⟨a,n⟩:=x
 have hk:=kk_lt n
 have hd:decide ((kk n:Int)<0)=false:=dec_false (by omega)
 show(bif !decide ((kk n:Int)<0) then some (ishr .i64 (wn a:Int) (kk n:Int)) else none)=some ((wn a / 2 ^ kk n:Nat):Int)
 rw[hd,ishr_i64 _ _ (by omega)]
 simp
abbrev qh8:List Ty:=[(.int .i64),(.int .i64)]
abbrev qjO:Sh:=Sh.ty (Ty.int IntKind.i64)
def qlF (x:dens qh8):PO (Sh.den qjO) :=
 (.ite (!decide (qbn x.2<0)&&true)
  (.ret (qp (ishr IntKind.i64 (w64 (IntKind.wrap IntKind.i32 (IntKind.wrap IntKind.u32 (qp x.1)))) (qbn x.2))))
  .fail)
def sw (m:Nat):Int:=if 2147483648≤m then(m:Int)-4294967296 else m
def qkS (_:dens qh8):Bool:=true
def qip (x:dens qh8):Sh.den qjO:=(wn (sw (wn x.1) / (2 ^ kk x.2:Nat)):Int)
theorem qmT (x:dens qh8) (_:qkS x=true):(qlF x).val=some (qip x):=by
 obtain⟨a,n⟩:=x
 have hk:=kk_lt n
 have hl:=wn_lt a
 have e:w64 (IntKind.i32.wrap (IntKind.u32.wrap (wn a:Int)))=sw (wn a):=by
  rw[u32_wrap,i32_eq,Int.emod_emod_of_dvd _ (by decide),Int.emod_eq_of_lt (by omega) (by omega)]
  unfold sw
  split
  ·rw[if_pos (by omega),w64_id (by omega) (by omega)]
  ·rw[if_neg (by omega),w64_id (by omega) (by omega)]
 have hd:decide ((kk n:Int)<0)=false:=dec_false (by omega)
 show(bif !decide ((kk n:Int)<0)&&true then some ((wn (ishr .i64 (w64 (IntKind.i32.wrap (IntKind.u32.wrap (wn a:Int)))) (kk n:Int)):Nat):Int) else none)=some ((wn (sw (wn a) / (2 ^ kk n:Nat)):Nat):Int)
 rw[hd,e,ishr_i64 _ _ (by omega)]
 rfl
abbrev qiS:List Ty:=[(.int .i64),(.int .i64)]
abbrev qj3:Sh:=Sh.ty (Ty.int IntKind.i64)
def qlG (x:dens qiS):PO (Sh.den qj3) :=
 (.ite (qiw (x.1,x.2)&&(!decide (w64 (32-qbn x.2)<0)&&true))
  (.ret (qeN (qeG (x.1,x.2),qp (ishl IntKind.i64 (qp x.1) (w64 (32-qbn x.2))))))
  .fail)
def qkY (_:dens qiS):Bool:=true
def qiC (x:dens qiS):Sh.den qj3:=((wn x.1 / 2 ^ kk x.2+wn x.1 % 2 ^ kk x.2*2 ^ (32-kk x.2):Nat):Int)
theorem ror_nat (m k:Nat) (hm:m<4294967296) (hk:k<32):m / 2 ^ k |||m*2 ^ (32-k) % 4294967296=m / 2 ^ k+m % 2 ^ k*2 ^ (32-k):=by
 have h0:2 ^ 32=2 ^ k*2 ^ (32-k):=by rw[←Nat.pow_add];congr 1;omega
 have h1:m*2 ^ (32-k) % 4294967296=m % 2 ^ k*2 ^ (32-k):=by
  rw[show(4294967296:Nat)=2 ^ 32 from rfl,h0,Nat.mul_mod_mul_right]
 have h2:m / 2 ^ k<2 ^ (32-k):=by
  rw[Nat.div_lt_iff_lt_mul (Nat.two_pow_pos k),Nat.mul_comm,←h0]
  omega
 rw[h1,Nat.or_comm,Nat.mul_comm (m % 2 ^ k),←Nat.two_pow_add_eq_or_of_lt h2,Nat.add_comm]
theorem qmG (x:dens qiS) (_:qkY x=true):(qlG x).val=some (qiC x):=by
 obtain⟨a,n⟩:=x
 have hk:=kk_lt n
 have hl:=wn_lt a
 have e1:w64 (32-(kk n:Int))=((32-kk n:Nat):Int):=by
  rw[w64_id (by omega) (by omega)];omega
 have hd:decide (w64 (32-(kk n:Int))<0)=false:=dec_false (by rw[e1];omega)
 have h1:wn a / 2 ^ kk n<4294967296:=Nat.lt_of_le_of_lt (Nat.div_le_self _ _) hl
 show(bif true&&(!decide (w64 (32-(kk n:Int))<0)&&true) then some ((wn ((wn a / 2 ^ kk n:Nat):Int) |||wn ((wn (ishl .i64 (wn a:Int) (w64 (32-(kk n:Int)))):Nat):Int):Nat):Int) else none)=some ((wn a / 2 ^ kk n+wn a % 2 ^ kk n*2 ^ (32-kk n):Nat):Int)
 rw[hd,e1,shl_wn _ _ (by omega),wn_nat h1,wn_nat (Nat.mod_lt _ (by omega)),ror_nat _ _ hl hk]
 rfl
abbrev qf9:List Ty:=[(.int .i64),(.int .i64),(.int .i64)]
abbrev qhC:Sh:=Sh.ty (Ty.int IntKind.i64)
def qk5 (x:dens qf9):PO (Sh.den qhC) :=
 (.ret (qeN (band IntKind.i64 x.2.1 x.1,bnot IntKind.i64 x.2.2 x.1)))
def qjI (_:dens qf9):Bool:=true
def qf8 (x:dens qf9):Sh.den qhC:=(((wn x.2.1 &&& wn x.1) |||(wn x.2.2 &&& (4294967295-wn x.1)):Nat):Int)
theorem qmb (x:dens qf9) (_:qjI x=true):(qk5 x).val=some (qf8 x):=by
 show some _=some _
 rw[qeN,qf8,and_wn,bnot_wn]
abbrev qiN:List Ty:=[(.int .i64),(.int .i64)]
abbrev qjQ:Sh:=Sh.ty (Ty.int IntKind.i64)
def qlV (x:dens qiN):PO (Sh.den qjQ) :=
 (.ite (qiw (x.1,x.2))
  (.ret (band IntKind.i64 (qeG (x.1,x.2)) 1))
  .fail)
def qk3 (_:dens qiN):Bool:=true
def qgV (x:dens qiN):Sh.den qjQ:=((wn x.1 / 2 ^ kk x.2 % 2:Nat):Int)
theorem qmP (x:dens qiN) (_:qk3 x=true):(qlV x).val=some (qgV x):=by
 show some _=some _
 simp only[qeG,qgV]
 rw[band_one]
 simp
end Go.Av
end
section
namespace Go.Av
open Go
abbrev tpart:Ty:=.pair (.int .i64) (.pair (.int .i64) (.pair (.int .i64) (.pair (.int .i64) .unit)))
theorem w64_nat {k:Nat} (h:k<9223372036854775808):w64 (k:Int)=k:=w64_id (by omega) (by omega)
def fldN (n from_ many at_:Int):Nat:=(n / (2 ^ from_.toNat:Nat) % (2 ^ many.toNat:Nat)).toNat*2 ^ at_.toNat
def partOk (p:tpart.den):Bool:=(decide (0≤p.2.1)&&decide (p.2.1<64))&&((decide (0≤p.2.2.1)&&decide (p.2.2.1≤32))&&(decide (0≤p.2.2.2.1)&&decide (p.2.2.2.1≤16)))
def partN (p:tpart.den):Nat:=fldN p.1 p.2.1 p.2.2.1 p.2.2.2.1
theorem bor_nat {a b:Nat} (ha:a<9223372036854775808) (hb:b<9223372036854775808):bor .i64 (a:Int) (b:Int)=((a |||b:Nat):Int):=by
 show w64 (BitVec.ofInt 64 (a:Int) |||BitVec.ofInt 64 (b:Int)).toNat=_
 rw[BitVec.toNat_or,ofInt_nat (by omega),ofInt_nat (by omega)]
 have:a |||b<2 ^ 63:=Nat.or_lt_two_pow ha hb
 exact w64_id (by omega) (by omega)
theorem mod_pow_nat (n:Int) (k:Nat):0≤n % (2 ^ k:Nat)∧n % (2 ^ k:Nat)<(2 ^ k:Nat):=by
 have:=Nat.two_pow_pos k
 exact⟨Int.emod_nonneg _ (by omega),Int.emod_lt_of_pos _ (by omega)⟩
theorem fldN_lt (n f:Int) {m a:Nat} (hm:m≤32) (ha:a≤16):fldN n f (m:Int) (a:Int)<281474976710656:=by
 unfold fldN
 rw[Int.toNat_natCast,Int.toNat_natCast]
 have h:=mod_pow_nat (n / (2 ^ f.toNat:Nat)) m
 have h1:(n / (2 ^ f.toNat:Nat) % (2 ^ m:Nat)).toNat<2 ^ m:=by omega
 have h2:2 ^ m≤2 ^ 32:=pow_lt hm
 have h3:2 ^ a≤2 ^ 16:=pow_lt ha
 have h4:=Nat.mul_lt_mul_of_lt_of_le (Nat.lt_of_lt_of_le h1 h2) h3 (by omega)
 exact h4
theorem fld_val (n:Int) {f m a:Nat} (hf:f<64) (hm:m≤32) (ha:a≤16):ishl .i64 (band .i64 (ishr .i64 n (f:Int)) (w64 (ishl .i64 1 (m:Int)-1))) (a:Int)=(fldN n (f:Int) (m:Int) (a:Int):Int):=by
 have hl:=fldN_lt n (f:Int) hm ha
 have h1:2 ^ m≤2 ^ 32:=pow_lt hm
 have h2:ishl .i64 1 (m:Int)=((2 ^ m:Nat):Int):=by
  rw[ishl_nat _ _ (by omega),Int.one_mul,show(2:Int) ^ m=((2 ^ m:Nat):Int) by simp]
  exact w64_nat (by omega)
 have hp:=Nat.two_pow_pos m
 have h3:w64 (((2 ^ m:Nat):Int)-1)=((2 ^ m:Nat):Int)-1:=by
  generalize 2 ^ m=q at *
  exact w64_id (by omega) (by omega)
 rw[h2,h3,ishr_i64 _ _ hf,band_low _ _ (by omega),ishl_nat _ _ (by omega)]
 unfold fldN at hl ⊢
 rw[Int.toNat_natCast,Int.toNat_natCast,Int.toNat_natCast] at *
 have h:=mod_pow_nat (n / (2 ^ f:Nat)) m
 obtain⟨q,hq⟩:∃q:Nat,n / (2 ^ f:Nat) % (2 ^ m:Nat)=(q:Int):=⟨(n / (2 ^ f:Nat) % (2 ^ m:Nat)).toNat,by omega⟩
 rw[hq] at hl ⊢
 rw[Int.toNat_natCast] at hl ⊢
 rw[show(q:Int)*2 ^ a=((q*2 ^ a:Nat):Int) by simp]
 exact w64_id (by omega) (by omega)
theorem part_val (p:tpart.den) (h:partOk p=true):ishl .i64 (band .i64 (ishr .i64 p.1 p.2.1) (w64 (ishl .i64 1 p.2.2.1-1))) p.2.2.2.1=(partN p:Int)∧partN p<281474976710656∧decide (p.2.1<0)=false∧decide (p.2.2.1<0)=false∧decide (p.2.2.2.1<0)=false:=by
 obtain⟨n,f,m,a,u⟩:=p
 simp only[partOk,Bool.and_eq_true,decide_eq_true_eq] at h
 obtain⟨⟨h1,h2⟩,⟨h3,h4⟩,h5,h6⟩:=h
 dsimp only[Ty.den] at *
 obtain⟨f,rfl⟩:=Int.eq_ofNat_of_zero_le h1
 obtain⟨m,rfl⟩:=Int.eq_ofNat_of_zero_le h3
 obtain⟨a,rfl⟩:=Int.eq_ofNat_of_zero_le h5
 exact⟨fld_val n (by omega) (by omega) (by omega),fldN_lt n _ (by omega) (by omega),dec_false (by omega),dec_false (by omega),dec_false (by omega)⟩
theorem or_part {b:Nat} (p:tpart.den) (h:partOk p=true) (hb:b<281474976710656):bor .i64 (b:Int) (ishl .i64 (band .i64 (ishr .i64 p.1 p.2.1) (w64 (ishl .i64 1 p.2.2.1-1))) p.2.2.2.1)=((b |||partN p:Nat):Int)∧b |||partN p<281474976710656:=by
 obtain⟨h1,h2,_⟩:=part_val p h
 exact⟨by rw[h1,bor_nat (by omega) (by omega)],Nat.or_lt_two_pow (n:=48) hb h2⟩
abbrev qhf:List Ty:=[(.int .i64),(.sl tpart)]
abbrev qjf:Sh:=Sh.ty (Ty.int IntKind.i64)
def qd6 (x:dens qhf):PO (Sh.den qjf) :=
 (.ite (decide (0<lenI x.2))
  (.ite (inRange 0 (List.length x.2))
  (.ite (!decide ((List.getD x.2 (Int.toNat 0) (Ty.dflt tpart)).2.1<0)&&(!decide ((List.getD x.2 (Int.toNat 0) (Ty.dflt tpart)).2.2.1<0)&&!decide ((List.getD x.2 (Int.toNat 0) (Ty.dflt tpart)).2.2.2.1<0)))
   (.ite (decide (1<lenI x.2))
   (.ite (inRange 1 (List.length x.2))
    (.ite (!decide ((List.getD x.2 (Int.toNat 1) (Ty.dflt tpart)).2.1<0)&&(!decide ((List.getD x.2 (Int.toNat 1) (Ty.dflt tpart)).2.2.1<0)&&!decide ((List.getD x.2 (Int.toNat 1) (Ty.dflt tpart)).2.2.2.1<0)))
    (.ite (decide (2<lenI x.2))
     (.ite (inRange 2 (List.length x.2))
     (.ite (!decide ((List.getD x.2 (Int.toNat 2) (Ty.dflt tpart)).2.1<0)&&(!decide ((List.getD x.2 (Int.toNat 2) (Ty.dflt tpart)).2.2.1<0)&&!decide ((List.getD x.2 (Int.toNat 2) (Ty.dflt tpart)).2.2.2.1<0)))
      (.ite (decide (3<lenI x.2))
      (.ite (inRange 3 (List.length x.2))
       (.ite (!decide ((List.getD x.2 (Int.toNat 3) (Ty.dflt tpart)).2.1<0)&&(!decide ((List.getD x.2 (Int.toNat 3) (Ty.dflt tpart)).2.2.1<0)&&!decide ((List.getD x.2 (Int.toNat 3) (Ty.dflt tpart)).2.2.2.1<0)))
       (.ite (decide (4<lenI x.2))
        (.ite (inRange 4 (List.length x.2))
        (.ite (!decide ((List.getD x.2 (Int.toNat 4) (Ty.dflt tpart)).2.1<0)&&(!decide ((List.getD x.2 (Int.toNat 4) (Ty.dflt tpart)).2.2.1<0)&&!decide ((List.getD x.2 (Int.toNat 4) (Ty.dflt tpart)).2.2.2.1<0)))
         (.ite (decide (5<lenI x.2))
         (.ite (inRange 5 (List.length x.2))
          (.ite (!decide ((List.getD x.2 (Int.toNat 5) (Ty.dflt tpart)).2.1<0)&&(!decide ((List.getD x.2 (Int.toNat 5) (Ty.dflt tpart)).2.2.1<0)&&!decide ((List.getD x.2 (Int.toNat 5) (Ty.dflt tpart)).2.2.2.1<0)))
          .fail
          .fail)
          .fail)
         (.ret (bor IntKind.i64 (bor IntKind.i64 (bor IntKind.i64 (bor IntKind.i64 (bor IntKind.i64 x.1 (ishl IntKind.i64 (band IntKind.i64 (ishr IntKind.i64 (List.getD x.2 (Int.toNat 0) (Ty.dflt tpart)).1 (List.getD x.2 (Int.toNat 0) (Ty.dflt tpart)).2.1) (w64 (ishl IntKind.i64 1 (List.getD x.2 (Int.toNat 0) (Ty.dflt tpart)).2.2.1-1))) (List.getD x.2 (Int.toNat 0) (Ty.dflt tpart)).2.2.2.1)) (ishl IntKind.i64 (band IntKind.i64 (ishr IntKind.i64 (List.getD x.2 (Int.toNat 1) (Ty.dflt tpart)).1 (List.getD x.2 (Int.toNat 1) (Ty.dflt tpart)).2.1) (w64 (ishl IntKind.i64 1 (List.getD x.2 (Int.toNat 1) (Ty.dflt tpart)).2.2.1-1))) (List.getD x.2 (Int.toNat 1) (Ty.dflt tpart)).2.2.2.1)) (ishl IntKind.i64 (band IntKind.i64 (ishr IntKind.i64 (List.getD x.2 (Int.toNat 2) (Ty.dflt tpart)).1 (List.getD x.2 (Int.toNat 2) (Ty.dflt tpart)).2.1) (w64 (ishl IntKind.i64 1 (List.getD x.2 (Int.toNat 2) (Ty.dflt tpart)).2.2.1-1))) (List.getD x.2 (Int.toNat 2) (Ty.dflt tpart)).2.2.2.1)) (ishl IntKind.i64 (band IntKind.i64 (ishr IntKind.i64 (List.getD x.2 (Int.toNat 3) (Ty.dflt tpart)).1 (List.getD x.2 (Int.toNat 3) (Ty.dflt tpart)).2.1) (w64 (ishl IntKind.i64 1 (List.getD x.2 (Int.toNat 3) (Ty.dflt tpart)).2.2.1-1))) (List.getD x.2 (Int.toNat 3) (Ty.dflt tpart)).2.2.2.1)) (ishl IntKind.i64 (band IntKind.i64 (ishr IntKind.i64 (List.getD x.2 (Int.toNat 4) (Ty.dflt tpart)).1 (List.getD x.2 (Int.toNat 4) (Ty.dflt tpart)).2.1) (w64 (ishl IntKind.i64 1 (List.getD x.2 (Int.toNat 4) (Ty.dflt tpart)).2.2.1-1))) (List.getD x.2 (Int.toNat 4) (Ty.dflt tpart)).2.2.2.1))))
         .fail)
        .fail)
        (.ret (bor IntKind.i64 (bor IntKind.i64 (bor IntKind.i64 (bor IntKind.i64 x.1 (ishl IntKind.i64 (band IntKind.i64 (ishr IntKind.i64 (List.getD x.2 (Int.toNat 0) (Ty.dflt tpart)).1 (List.getD x.2 (Int.toNat 0) (Ty.dflt tpart)).2.1) (w64 (ishl IntKind.i64 1 (List.getD x.2 (Int.toNat 0) (Ty.dflt tpart)).2.2.1-1))) (List.getD x.2 (Int.toNat 0) (Ty.dflt tpart)).2.2.2.1)) (ishl IntKind.i64 (band IntKind.i64 (ishr IntKind.i64 (List.getD x.2 (Int.toNat 1) (Ty.dflt tpart)).1 (List.getD x.2 (Int.toNat 1) (Ty.dflt tpart)).2.1) (w64 (ishl IntKind.i64 1 (List.getD x.2 (Int.toNat 1) (Ty.dflt tpart)).2.2.1-1))) (List.getD x.2 (Int.toNat 1) (Ty.dflt tpart)).2.2.2.1)) (ishl IntKind.i64 (band IntKind.i64 (ishr IntKind.i64 (List.getD x.2 (Int.toNat 2) (Ty.dflt tpart)).1 (List.getD x.2 (Int.toNat 2) (Ty.dflt tpart)).2.1) (w64 (ishl IntKind.i64 1 (List.getD x.2 (Int.toNat 2) (Ty.dflt tpart)).2.2.1-1))) (List.getD x.2 (Int.toNat 2) (Ty.dflt tpart)).2.2.2.1)) (ishl IntKind.i64 (band IntKind.i64 (ishr IntKind.i64 (List.getD x.2 (Int.toNat 3) (Ty.dflt tpart)).1 (List.getD x.2 (Int.toNat 3) (Ty.dflt tpart)).2.1) (w64 (ishl IntKind.i64 1 (List.getD x.2 (Int.toNat 3) (Ty.dflt tpart)).2.2.1-1))) (List.getD x.2 (Int.toNat 3) (Ty.dflt tpart)).2.2.2.1))))
       .fail)
       .fail)
      (.ret (bor IntKind.i64 (bor IntKind.i64 (bor IntKind.i64 x.1 (ishl IntKind.i64 (band IntKind.i64 (ishr IntKind.i64 (List.getD x.2 (Int.toNat 0) (Ty.dflt tpart)).1 (List.getD x.2 (Int.toNat 0) (Ty.dflt tpart)).2.1) (w64 (ishl IntKind.i64 1 (List.getD x.2 (Int.toNat 0) (Ty.dflt tpart)).2.2.1-1))) (List.getD x.2 (Int.toNat 0) (Ty.dflt tpart)).2.2.2.1)) (ishl IntKind.i64 (band IntKind.i64 (ishr IntKind.i64 (List.getD x.2 (Int.toNat 1) (Ty.dflt tpart)).1 (List.getD x.2 (Int.toNat 1) (Ty.dflt tpart)).2.1) (w64 (ishl IntKind.i64 1 (List.getD x.2 (Int.toNat 1) (Ty.dflt tpart)).2.2.1-1))) (List.getD x.2 (Int.toNat 1) (Ty.dflt tpart)).2.2.2.1)) (ishl IntKind.i64 (band IntKind.i64 (ishr IntKind.i64 (List.getD x.2 (Int.toNat 2) (Ty.dflt tpart)).1 (List.getD x.2 (Int.toNat 2) (Ty.dflt tpart)).2.1) (w64 (ishl IntKind.i64 1 (List.getD x.2 (Int.toNat 2) (Ty.dflt tpart)).2.2.1-1))) (List.getD x.2 (Int.toNat 2) (Ty.dflt tpart)).2.2.2.1))))
      .fail)
     .fail)
     (.ret (bor IntKind.i64 (bor IntKind.i64 x.1 (ishl IntKind.i64 (band IntKind.i64 (ishr IntKind.i64 (List.getD x.2 (Int.toNat 0) (Ty.dflt tpart)).1 (List.getD x.2 (Int.toNat 0) (Ty.dflt tpart)).2.1) (w64 (ishl IntKind.i64 1 (List.getD x.2 (Int.toNat 0) (Ty.dflt tpart)).2.2.1-1))) (List.getD x.2 (Int.toNat 0) (Ty.dflt tpart)).2.2.2.1)) (ishl IntKind.i64 (band IntKind.i64 (ishr IntKind.i64 (List.getD x.2 (Int.toNat 1) (Ty.dflt tpart)).1 (List.getD x.2 (Int.toNat 1) (Ty.dflt tpart)).2.1) (w64 (ishl IntKind.i64 1 (List.getD x.2 (Int.toNat 1) (Ty.dflt tpart)).2.2.1-1))) (List.getD x.2 (Int.toNat 1) (Ty.dflt tpart)).2.2.2.1))))
    .fail)
    .fail)
   (.ret (bor IntKind.i64 x.1 (ishl IntKind.i64 (band IntKind.i64 (ishr IntKind.i64 (List.getD x.2 (Int.toNat 0) (Ty.dflt tpart)).1 (List.getD x.2 (Int.toNat 0) (Ty.dflt tpart)).2.1) (w64 (ishl IntKind.i64 1 (List.getD x.2 (Int.toNat 0) (Ty.dflt tpart)).2.2.1-1))) (List.getD x.2 (Int.toNat 0) (Ty.dflt tpart)).2.2.2.1))))
   .fail)
  .fail)
  (.ret (x.1)))
def qu (x:dens qhf):Bool:=(decide ((0:Int)≤x.1)&&decide ((x.1:Int)<281474976710656))&&(decide (List.length x.2≤5)&&List.all x.2 partOk)
def qe (x:dens qhf):Sh.den qjf:=((List.foldl (fun b p=>b |||partN p) (Int.toNat x.1) x.2:Nat):Int)
theorem qmw (x:dens qhf) (h:qu x=true):(qd6 x).val=some (qe x):=by
 obtain⟨n,l⟩:=x
 simp only[qu,Bool.and_eq_true,decide_eq_true_eq] at h
 obtain⟨⟨h1,h2⟩,h3,h4⟩:=h
 dsimp only[Ty.den] at *
 obtain⟨b,rfl⟩:=Int.eq_ofNat_of_zero_le h1
 unfold qe
 match l,h3,h4 with
 |[],_,_=>simp[qd6,PO.val,lenI]
 |[p],_,h4 =>
  simp only[List.all_cons,List.all_nil,Bool.and_true] at h4
  obtain⟨e1,l1⟩:=or_part p h4 (show b<281474976710656 by omega)
  obtain⟨_,_,p1,p2,p3⟩:=part_val p h4
  simp[qd6,PO.val,lenI,inRange,p1,p2,p3,e1]
 |[p,q],_,h4 =>
  simp only[List.all_cons,List.all_nil,Bool.and_true,Bool.and_eq_true] at h4
  obtain⟨hp,hq⟩:=h4
  obtain⟨e1,l1⟩:=or_part p hp (show b<281474976710656 by omega)
  obtain⟨_,_,p1,p2,p3⟩:=part_val p hp
  obtain⟨e2,l2⟩:=or_part q hq l1
  obtain⟨_,_,q1,q2,q3⟩:=part_val q hq
  simp[qd6,PO.val,lenI,inRange,p1,p2,p3,e1,q1,q2,q3,e2]
 |[p,q,r],_,h4 =>
  simp only[List.all_cons,List.all_nil,Bool.and_true,Bool.and_eq_true] at h4
  obtain⟨hp,hq,hr⟩:=h4
  obtain⟨e1,l1⟩:=or_part p hp (show b<281474976710656 by omega)
  obtain⟨_,_,p1,p2,p3⟩:=part_val p hp
  obtain⟨e2,l2⟩:=or_part q hq l1
  obtain⟨_,_,q1,q2,q3⟩:=part_val q hq
  obtain⟨e3,l3⟩:=or_part r hr l2
  obtain⟨_,_,r1,r2,r3⟩:=part_val r hr
  simp[qd6,PO.val,lenI,inRange,p1,p2,p3,e1,q1,q2,q3,e2,r1,r2,r3,e3]
 |[p,q,r,s],_,h4 =>
  simp only[List.all_cons,List.all_nil,Bool.and_true,Bool.and_eq_true] at h4
  obtain⟨hp,hq,hr,hs⟩:=h4
  obtain⟨e1,l1⟩:=or_part p hp (show b<281474976710656 by omega)
  obtain⟨_,_,p1,p2,p3⟩:=part_val p hp
  obtain⟨e2,l2⟩:=or_part q hq l1
  obtain⟨_,_,q1,q2,q3⟩:=part_val q hq
  obtain⟨e3,l3⟩:=or_part r hr l2
  obtain⟨_,_,r1,r2,r3⟩:=part_val r hr
  obtain⟨e4,l4⟩:=or_part s hs l3
  obtain⟨_,_,s1,s2,s3⟩:=part_val s hs
  simp[qd6,PO.val,lenI,inRange,p1,p2,p3,e1,q1,q2,q3,e2,r1,r2,r3,e3,s1,s2,s3,e4]
 |[p,q,r,s,t],_,h4 =>
  simp only[List.all_cons,List.all_nil,Bool.and_true,Bool.and_eq_true] at h4
  obtain⟨hp,hq,hr,hs,ht⟩:=h4
  obtain⟨e1,l1⟩:=or_part p hp (show b<281474976710656 by omega)
  obtain⟨_,_,p1,p2,p3⟩:=part_val p hp
  obtain⟨e2,l2⟩:=or_part q hq l1
  obtain⟨_,_,q1,q2,q3⟩:=part_val q hq
  obtain⟨e3,l3⟩:=or_part r hr l2
  obtain⟨_,_,r1,r2,r3⟩:=part_val r hr
  obtain⟨e4,l4⟩:=or_part s hs l3
  obtain⟨_,_,s1,s2,s3⟩:=part_val s hs
  obtain⟨e5,l5⟩:=or_part t ht l4
  obtain⟨_,_,t1,t2,t3⟩:=part_val t ht
  simp[qd6,PO.val,lenI,inRange,p1,p2,p3,e1,q1,q2,q3,e2,r1,r2,r3,e3,s1,s2,s3,e4,t1,t2,t3,e5]
 |_::_::_::_::_::_::_,h3,_=>simp at h3
abbrev qeM:List Ty:=[(.int .i64),tIns,(.int .i64)]
abbrev qgm:Sh:=Sh.ty tSpot
def qj (x:dens qeM):PO (Sh.den qgm) :=
 (.ite (qu (0,[(x.2.1.2.2.2.2.2.1,2,3,12,()),(x.2.1.2.1,0,4,8,()),(x.2.1.2.2.2.2.2.1,0,2,6,()),(x.2.2,0,2,4,()),(x.2.1.2.2.2.1,0,4,0,())]))
  (.ite (qu (x.1,[(x.2.1.2.2.1,0,4,0,())]))
  (.ret ((qe (x.1,[(x.2.1.2.2.1,0,4,0,())]),qe (0,[(x.2.1.2.2.2.2.2.1,2,3,12,()),(x.2.1.2.1,0,4,8,()),(x.2.1.2.2.2.2.2.1,0,2,6,()),(x.2.2,0,2,4,()),(x.2.1.2.2.2.1,0,4,0,())]),true,())))
  .fail)
  .fail)
def qbj (x:dens qeM):Bool:=(qj x).val.isSome
def qZ (x:dens qeM):Sh.den qgm:=(qj x).getO default
theorem qlx (x:dens qeM) (h:qbj x=true):(qj x).val=some (qZ x):=PO.getO_ok default h
abbrev qgM:List Ty:=[(.int .i64),tIns]
abbrev qii:Sh:=Sh.ty tSpot
def qbV (x:dens qgM):PO (Sh.den qii) :=
 (.ite (qu (x.1,[(x.2.2.2.2.2.2.1,11,1,10,()),(x.2.2.2.2.2.2.1,12,4,0,())]))
  (.ite (qu (0,[(x.2.2.2.2.2.2.1,8,3,12,()),(x.2.2.1,0,4,8,()),(x.2.2.2.2.2.2.1,0,8,0,())]))
  (.ret ((qe (x.1,[(x.2.2.2.2.2.2.1,11,1,10,()),(x.2.2.2.2.2.2.1,12,4,0,())]),qe (0,[(x.2.2.2.2.2.2.1,8,3,12,()),(x.2.2.1,0,4,8,()),(x.2.2.2.2.2.2.1,0,8,0,())]),true,())))
  .fail)
  .fail)
def qgv (x:dens qgM):Bool:=(qbV x).val.isSome
def qgQ (x:dens qgM):Sh.den qii:=(qbV x).getO default
theorem qmo (x:dens qgM) (h:qgv x=true):(qbV x).val=some (qgQ x):=PO.getO_ok default h
abbrev qfW:List Ty:=[(.int .i64),(.int .i64),(.int .i64)]
abbrev qhv:Sh:=Sh.ty tSpot
def qL (x:dens qfW):PO (Sh.den qhv) :=
 (.ite (qu (x.1,[(x.2.1,0,3,0,()),(x.2.2,0,3,3,())]))
  (.ret ((qe (x.1,[(x.2.1,0,3,0,()),(x.2.2,0,3,3,())]),0,false,())))
  .fail)
def qdf (x:dens qfW):Bool:=(qL x).val.isSome
def qdc (x:dens qfW):Sh.den qhv:=(qL x).getO default
theorem qlY (x:dens qfW) (h:qdf x=true):(qL x).val=some (qdc x):=PO.getO_ok default h
abbrev qgJ:List Ty:=[tIns]
abbrev qiu:Sh:=Sh.ty tSpot
def qbz (x:dens qgJ):PO (Sh.den qiu) :=
 (.ite (qu (0,[(x.2.2.2.2.2.1,1,11,0,())]))
  (.ite (x.1==25)
  (.ite (qu (61440,[(band IntKind.i64 (ishr IntKind.i64 x.2.2.2.2.2.1 24) 1,0,1,10,()),(x.2.2.2.2.2.2.1,0,4,6,()),(x.2.2.2.2.2.1,12,6,0,())]))
   (.ite (qu (bor IntKind.i64 (qe (0,[(x.2.2.2.2.2.1,1,11,0,())])) 32768,[(x.2.2.2.2.2.1,18,1,13,()),(x.2.2.2.2.2.1,19,1,11,())]))
   (.ret ((qe (61440,[(band IntKind.i64 (ishr IntKind.i64 x.2.2.2.2.2.1 24) 1,0,1,10,()),(x.2.2.2.2.2.2.1,0,4,6,()),(x.2.2.2.2.2.1,12,6,0,())]),qe (bor IntKind.i64 (qe (0,[(x.2.2.2.2.2.1,1,11,0,())])) 32768,[(x.2.2.2.2.2.1,18,1,13,()),(x.2.2.2.2.2.1,19,1,11,())]),true,())))
   .fail)
   .fail)
  (.ite (qu (61440,[(band IntKind.i64 (ishr IntKind.i64 x.2.2.2.2.2.1 24) 1,0,1,10,()),(x.2.2.2.2.2.1,12,10,0,())]))
   (.ite (qu (bor IntKind.i64 (qe (0,[(x.2.2.2.2.2.1,1,11,0,())])) 36864,[(bxor IntKind.i64 (icompl IntKind.i64 (ishr IntKind.i64 x.2.2.2.2.2.1 23)) (band IntKind.i64 (ishr IntKind.i64 x.2.2.2.2.2.1 24) 1),0,1,13,()),(bxor IntKind.i64 (icompl IntKind.i64 (ishr IntKind.i64 x.2.2.2.2.2.1 22)) (band IntKind.i64 (ishr IntKind.i64 x.2.2.2.2.2.1 24) 1),0,1,11,())]))
   (.ret ((qe (61440,[(band IntKind.i64 (ishr IntKind.i64 x.2.2.2.2.2.1 24) 1,0,1,10,()),(x.2.2.2.2.2.1,12,10,0,())]),qe (bor IntKind.i64 (qe (0,[(x.2.2.2.2.2.1,1,11,0,())])) 36864,[(bxor IntKind.i64 (icompl IntKind.i64 (ishr IntKind.i64 x.2.2.2.2.2.1 23)) (band IntKind.i64 (ishr IntKind.i64 x.2.2.2.2.2.1 24) 1),0,1,13,()),(bxor IntKind.i64 (icompl IntKind.i64 (ishr IntKind.i64 x.2.2.2.2.2.1 22)) (band IntKind.i64 (ishr IntKind.i64 x.2.2.2.2.2.1 24) 1),0,1,11,())]),true,())))
   .fail)
   .fail))
  .fail)
def qio (x:dens qgJ):Bool:=(qbz x).val.isSome
def qiq (x:dens qgJ):Sh.den qiu:=(qbz x).getO default
theorem qmm (x:dens qgJ) (h:qio x=true):(qbz x).val=some (qiq x):=PO.getO_ok default h
abbrev qfk:List Ty:=[tIns]
abbrev qhb:Sh:=Sh.ty tSpot
def qo (x:dens qfk):PO (Sh.den qhb) :=
 (.ite (x.1==16)
  (.ite (qbj (64256,x,0))
  (.ret (((qZ (64256,x,0)).1,bor IntKind.i64 (qZ (64256,x,0)).2.1 61440,(qZ (64256,x,0)).2.2)))
  .fail)
  (.ite (x.1==17)
  (.ret ((bor IntKind.i64 64416 x.2.2.1,bor IntKind.i64 (bor IntKind.i64 (ishl IntKind.i64 x.2.1 12) (ishl IntKind.i64 x.2.2.2.2.1 8)) x.2.2.2.1,true,())))
  (.ite (x.1==18)
   (.ite (qu (w64 (w64 (x.2.2.2.2.2.1+x.2.2.2.2.1)-1),[(x.2.2.2.2.2.1,2,3,12,()),(x.2.1,0,4,8,()),(x.2.2.2.2.2.1,0,2,6,())]))
   (.ret ((bor IntKind.i64 62304 x.2.2.1,qe (w64 (w64 (x.2.2.2.2.2.1+x.2.2.2.2.1)-1),[(x.2.2.2.2.2.1,2,3,12,()),(x.2.1,0,4,8,()),(x.2.2.2.2.2.1,0,2,6,())]),true,())))
   .fail)
   (.ite (x.1==19)
   (.ite (qdf (26624,x.2.1,x.2.2.1))
    (.ret (qdc (26624,x.2.1,x.2.2.1)))
    .fail)
   (.ite (x.1==20)
    (.ite (qdf (24576,x.2.1,x.2.2.1))
    (.ret (qdc (24576,x.2.1,x.2.2.1)))
    .fail)
    (.ite (x.1==21)
    (.ite (qdf (30720,x.2.1,x.2.2.1))
     (.ret (qdc (30720,x.2.1,x.2.2.1)))
     .fail)
    (.ite (x.1==22)
     (.ite (qdf (28672,x.2.1,x.2.2.1))
     (.ret (qdc (28672,x.2.1,x.2.2.1)))
     .fail)
     (.ite (x.1==23)
     (.ite (qdf (17024,x.2.2.1,x.2.2.2.1))
      (.ret (qdc (17024,x.2.2.1,x.2.2.2.1)))
      .fail)
     (.ite (x.2.2.2.2.2.2.2.1)
      (.ite (qio x)
      (.ret (qiq x))
      .fail)
      (.ite (x.1==24)
      (.ite (qu (57344,[(x.2.2.2.2.2.1,1,11,0,())]))
       (.ret ((qe (57344,[(x.2.2.2.2.2.1,1,11,0,())]),0,false,())))
       .fail)
      (.ite (qu (53248,[(x.2.2.2.2.2.2.1,0,4,8,()),(x.2.2.2.2.2.1,1,8,0,())]))
       (.ret ((qe (53248,[(x.2.2.2.2.2.2.1,0,4,8,()),(x.2.2.2.2.2.1,1,8,0,())]),0,false,())))
       .fail)))))))))))
def qg1 (x:dens qfk):Bool:=(qo x).val.isSome
def qgX (x:dens qfk):Sh.den qhb:=(qo x).getO default
theorem qlI (x:dens qfk) (h:qg1 x=true):(qo x).val=some (qgX x):=PO.getO_ok default h
abbrev qgI:List Ty:=[tIns]
abbrev qh9:Sh:=Sh.ty tSpot
def qn (x:dens qgI):PO (Sh.den qh9) :=
 (.ite (x.1==1)
  (.ret ((48896,0,false,())))
  (.ite (x.1==2)
  (.ret ((bor IntKind.i64 48640 x.2.2.2.2.2.1,0,false,())))
  (.ite (x.1==3)
   (.ite (qgv (62016,x))
   (.ret (qgQ (62016,x)))
   .fail)
   (.ite (x.1==4)
   (.ite (qgv (62144,x))
    (.ret (qgQ (62144,x)))
    .fail)
   (.ite (bif x.1==5 then x.1==5 else bif x.1==6 then x.1==6 else bif x.1==7 then x.1==7 else x.1==8)
    (.ite (qbj (59983,x,w64 (x.1-5)))
    (.ret (qZ (59983,x,w64 (x.1-5))))
    .fail)
    (.ite (x.1==9)
    (.ite (qbj (60015,x,0))
     (.ret (qZ (60015,x,0)))
     .fail)
    (.ite (x.1==10)
     (.ite (qbj (59904,x,0))
     (.ret (qZ (59904,x,0)))
     .fail)
     (.ite (x.1==11)
     (.ite (qbj (59936,x,0))
      (.ret (qZ (59936,x,0)))
      .fail)
     (.ite (x.1==12)
      (.ite (qbj (59968,x,0))
      (.ret (qZ (59968,x,0)))
      .fail)
      (.ite (x.1==13)
      (.ite (qbj (60032,x,0))
       (.ret (qZ (60032,x,0)))
       .fail)
      (.ite (x.1==14)
       (.ite (qbj (60160,x,0))
       (.ret (qZ (60160,x,0)))
       .fail)
       (.ite (x.1==15)
       (.ite (qbj (60320,x,0))
        (.ret (qZ (60320,x,0)))
        .fail)
       (.ite (qg1 x)
        (.ret (qgX x))
        .fail)))))))))))))
def qcv (x:dens qgI):Bool:=(qn x).val.isSome
def qS (x:dens qgI):Sh.den qh9:=(qn x).getO default
theorem qmn (x:dens qgI) (h:qcv x=true):(qn x).val=some (qS x):=PO.getO_ok default h
end Go.Av
end
section
namespace Go.Av
open Go
def isLong (op:Int) (w:Bool):Bool:=w||(decide (3≤op)&&decide (op≤18))
theorem put_ok (b:Nat) (l:List tpart.den) (hb:b<281474976710656) (hl:(decide (List.length l≤5)&&List.all l partOk)=true):qu ((b:Int),l)=true:=by
 have h1:decide ((0:Int)≤(b:Int))=true:=dec_true (by omega)
 have h2:decide ((b:Int)<281474976710656)=true:=dec_true (by omega)
 show((decide ((0:Int)≤(b:Int))&&decide ((b:Int)<281474976710656))&&(decide (List.length l≤5)&&List.all l partOk))=true
 rw[h1,h2,hl]
 rfl
theorem put_ok0 (l:List tpart.den) (hl:(decide (List.length l≤5)&&List.all l partOk)=true):qu (0,l)=true:=put_ok 0 l (by omega) hl
section
variable (first:Nat) (op rd rn rm ra imm cond:Int) (w:Bool) (kind:Int)
theorem shifted_val (h:first<281474976710656):(qj ((first:Int),(op,rd,rn,rm,ra,imm,cond,w,()),kind)).val =
  some (qe ((first:Int),[(rn,0,4,0,())]),qe (0,[(imm,2,3,12,()),(rd,0,4,8,()),(imm,0,2,6,()),(kind,0,2,4,()),(rm,0,4,0,())]),true,()):=by
 have h1:qu ((first:Int),[(rn,0,4,0,())])=true:=put_ok first _ h rfl
 have h2:qu (0,[(imm,2,3,12,()),(rd,0,4,8,()),(imm,0,2,6,()),(kind,0,2,4,()),(rm,0,4,0,())])=true:=put_ok0 _ rfl
 show(bif qu (0,[(imm,2,3,12,()),(rd,0,4,8,()),(imm,0,2,6,()),(kind,0,2,4,()),(rm,0,4,0,())]) then(bif qu ((first:Int),[(rn,0,4,0,())]) then _ else _) else _)=_
 rw[h1,h2]
 rfl
theorem move_val (h:first<281474976710656):(qbV ((first:Int),(op,rd,rn,rm,ra,imm,cond,w,()))).val =
  some (qe ((first:Int),[(imm,11,1,10,()),(imm,12,4,0,())]),qe (0,[(imm,8,3,12,()),(rd,0,4,8,()),(imm,0,8,0,())]),true,()):=by
 have h1:qu ((first:Int),[(imm,11,1,10,()),(imm,12,4,0,())])=true:=put_ok first _ h rfl
 have h2:qu (0,[(imm,8,3,12,()),(rd,0,4,8,()),(imm,0,8,0,())])=true:=put_ok0 _ rfl
 show(bif qu ((first:Int),[(imm,11,1,10,()),(imm,12,4,0,())]) then(bif qu (0,[(imm,8,3,12,()),(rd,0,4,8,()),(imm,0,8,0,())]) then _ else _) else _)=_
 rw[h1,h2]
 rfl
theorem short_val (a b:Int) (h:first<281474976710656):(qL ((first:Int),a,b)).val=some (qe ((first:Int),[(a,0,3,0,()),(b,0,3,3,())]),0,false,()):=by
 have h1:qu ((first:Int),[(a,0,3,0,()),(b,0,3,3,())])=true:=put_ok first _ h rfl
 show(bif qu ((first:Int),[(a,0,3,0,()),(b,0,3,3,())]) then _ else _)=_
 rw[h1]
 rfl
def lowN:Nat:=fldN imm 1 11 0
theorem lowN_lt:lowN imm<2048:=by
 unfold lowN fldN
 have h:=mod_pow_nat (imm / (2 ^ (1:Int).toNat:Nat)) 11
 have e:(11:Int).toNat=11:=rfl
 have e0:(0:Int).toNat=0:=rfl
 rw[e,e0]
 omega
theorem put_low:qe (0,[(imm,1,11,0,())])=(lowN imm:Int):=by
 show((0 |||fldN imm 1 11 0:Nat):Int)=_
 rw[Nat.zero_or]
 rfl
def wideV:tSpot.den :=
 bif op==25 then(qe (61440,[(band .i64 (ishr .i64 imm 24) 1,0,1,10,()),(cond,0,4,6,()),(imm,12,6,0,())]),qe (((lowN imm |||32768:Nat):Int),[(imm,18,1,13,()),(imm,19,1,11,())]),true,())
 else(qe (61440,[(band .i64 (ishr .i64 imm 24) 1,0,1,10,()),(imm,12,10,0,())]),qe (((lowN imm |||36864:Nat):Int),[(bxor .i64 (icompl .i64 (ishr .i64 imm 23)) (band .i64 (ishr .i64 imm 24) 1),0,1,13,()),(bxor .i64 (icompl .i64 (ishr .i64 imm 22)) (band .i64 (ishr .i64 imm 24) 1),0,1,11,())]),true,())
theorem wide_val:(qbz (op,rd,rn,rm,ra,imm,cond,w,())).val=some (wideV op imm cond):=by
 have hl:=lowN_lt imm
 have o1:lowN imm |||32768<2 ^ 48:=Nat.or_lt_two_pow (by omega) (by omega)
 have o2:lowN imm |||36864<2 ^ 48:=Nat.or_lt_two_pow (by omega) (by omega)
 have e1:bor .i64 (qe (0,[(imm,1,11,0,())])) 32768=((lowN imm |||32768:Nat):Int):=by
  rw[put_low];exact bor_nat (b:=32768) (by omega) (by omega)
 have e2:bor .i64 (qe (0,[(imm,1,11,0,())])) 36864=((lowN imm |||36864:Nat):Int):=by
  rw[put_low];exact bor_nat (b:=36864) (by omega) (by omega)
 have g0:qu (0,[(imm,1,11,0,())])=true:=put_ok0 _ rfl
 have g1:qu (61440,[(band .i64 (ishr .i64 imm 24) 1,0,1,10,()),(cond,0,4,6,()),(imm,12,6,0,())])=true:=put_ok 61440 _ (by omega) rfl
 have g2:qu (61440,[(band .i64 (ishr .i64 imm 24) 1,0,1,10,()),(imm,12,10,0,())])=true:=put_ok 61440 _ (by omega) rfl
 have g3:=put_ok (lowN imm |||32768) [(imm,18,1,13,()),(imm,19,1,11,())] o1 rfl
 have g4:=put_ok (lowN imm |||36864) [(bxor .i64 (icompl .i64 (ishr .i64 imm 23)) (band .i64 (ishr .i64 imm 24) 1),0,1,13,()),(bxor .i64 (icompl .i64 (ishr .i64 imm 22)) (band .i64 (ishr .i64 imm 24) 1),0,1,11,())] o2 rfl
 simp only[qbz,PO.val]
 rw[e1,e2,g0,g1,g2,g3,g4]
 unfold wideV
 cases op==25
 ·rfl
 ·rfl
end
def codeV (op rd rn rm ra imm cond:Int) (w:Bool):tSpot.den :=
 bif op==1 then(48896,0,false,())
 else bif op==2 then(bor .i64 48640 imm,0,false,())
 else bif op==3 then(qe (62016,[(imm,11,1,10,()),(imm,12,4,0,())]),qe (0,[(imm,8,3,12,()),(rd,0,4,8,()),(imm,0,8,0,())]),true,())
 else bif op==4 then(qe (62144,[(imm,11,1,10,()),(imm,12,4,0,())]),qe (0,[(imm,8,3,12,()),(rd,0,4,8,()),(imm,0,8,0,())]),true,())
 else bif decide (op≤16)&&decide (5≤op) then
  (qe (bif decide (op≤8) then 59983 else bif op==9 then 60015 else bif op==10 then 59904 else bif op==11 then 59936 else bif op==12 then 59968 else bif op==13 then 60032 else bif op==14 then 60160 else bif op==15 then 60320 else 64256,[(rn,0,4,0,())]),
   (bif op==16 then bor .i64 (qe (0,[(imm,2,3,12,()),(rd,0,4,8,()),(imm,0,2,6,()),(0,0,2,4,()),(rm,0,4,0,())])) 61440
   else qe (0,[(imm,2,3,12,()),(rd,0,4,8,()),(imm,0,2,6,()),(bif decide (op≤8) then op-5 else 0,0,2,4,()),(rm,0,4,0,())])),true,())
 else bif op==17 then(bor .i64 64416 rn,bor .i64 (bor .i64 (ishl .i64 rd 12) (ishl .i64 ra 8)) rm,true,())
 else bif op==18 then(bor .i64 62304 rn,qe (imm+ra-1,[(imm,2,3,12,()),(rd,0,4,8,()),(imm,0,2,6,())]),true,())
 else bif op==23 then(qe (17024,[(rn,0,3,0,()),(rm,0,3,3,())]),0,false,())
 else bif decide (op≤22) then(qe (bif op==19 then 26624 else bif op==20 then 24576 else bif op==21 then 30720 else 28672,[(rd,0,3,0,()),(rn,0,3,3,())]),0,false,())
 else bif w then wideV op imm cond
 else bif op==24 then(qe (57344,[(imm,1,11,0,())]),0,false,())
 else(qe (53248,[(cond,0,4,8,()),(imm,1,8,0,())]),0,false,())
theorem check_bfi {rd rn rm ra imm cond:Int} {w:Bool} (h:qd (18,rd,rn,rm,ra,imm,cond,w,())=0):0≤imm∧imm≤31∧1≤ra∧ra≤32-imm:=by
 have hw:=left_same imm
 simp[qd,qV,qz,q7,qbf,qcL,qU,qbB,PO.getO,PO.val] at h
 grind
theorem bits_1 (rd rn rm ra imm cond:Int) (w:Bool) (_:qd (1,rd,rn,rm,ra,imm,cond,w,())=0):(qn (1,rd,rn,rm,ra,imm,cond,w,())).val=some (codeV 1 rd rn rm ra imm cond w):=by
 rfl
theorem bits_2 (rd rn rm ra imm cond:Int) (w:Bool) (_:qd (2,rd,rn,rm,ra,imm,cond,w,())=0):(qn (2,rd,rn,rm,ra,imm,cond,w,())).val=some (codeV 2 rd rn rm ra imm cond w):=by
 rfl
theorem bits_3 (rd rn rm ra imm cond:Int) (w:Bool) (_:qd (3,rd,rn,rm,ra,imm,cond,w,())=0):(qn (3,rd,rn,rm,ra,imm,cond,w,())).val=some (codeV 3 rd rn rm ra imm cond w):=by
 have e:(qbV (62016,3,rd,rn,rm,ra,imm,cond,w,())).val=_:=move_val 62016 3 rd rn rm ra imm cond w (by omega)
 refine Eq.trans (b:=(bif (PO.val (qbV (62016,3,rd,rn,rm,ra,imm,cond,w,()))).isSome then some ((PO.val (qbV (62016,3,rd,rn,rm,ra,imm,cond,w,()))).getD default) else none)) rfl ?_
 rw[e]
 rfl
theorem bits_4 (rd rn rm ra imm cond:Int) (w:Bool) (_:qd (4,rd,rn,rm,ra,imm,cond,w,())=0):(qn (4,rd,rn,rm,ra,imm,cond,w,())).val=some (codeV 4 rd rn rm ra imm cond w):=by
 have e:(qbV (62144,4,rd,rn,rm,ra,imm,cond,w,())).val=_:=move_val 62144 4 rd rn rm ra imm cond w (by omega)
 refine Eq.trans (b:=(bif (PO.val (qbV (62144,4,rd,rn,rm,ra,imm,cond,w,()))).isSome then some ((PO.val (qbV (62144,4,rd,rn,rm,ra,imm,cond,w,()))).getD default) else none)) rfl ?_
 rw[e]
 rfl
theorem bits_5 (rd rn rm ra imm cond:Int) (w:Bool) (_:qd (5,rd,rn,rm,ra,imm,cond,w,())=0):(qn (5,rd,rn,rm,ra,imm,cond,w,())).val=some (codeV 5 rd rn rm ra imm cond w):=by
 have e:(qj (59983,(5,rd,rn,rm,ra,imm,cond,w,()),(w64 (5-5)))).val=_:=shifted_val 59983 5 rd rn rm ra imm cond w (w64 (5-5)) (by omega)
 refine Eq.trans (b:=(bif (PO.val (qj (59983,(5,rd,rn,rm,ra,imm,cond,w,()),(w64 (5-5))))).isSome then some ((PO.val (qj (59983,(5,rd,rn,rm,ra,imm,cond,w,()),(w64 (5-5))))).getD default) else none)) rfl ?_
 rw[e]
 rfl
theorem bits_6 (rd rn rm ra imm cond:Int) (w:Bool) (_:qd (6,rd,rn,rm,ra,imm,cond,w,())=0):(qn (6,rd,rn,rm,ra,imm,cond,w,())).val=some (codeV 6 rd rn rm ra imm cond w):=by
 have e:(qj (59983,(6,rd,rn,rm,ra,imm,cond,w,()),(w64 (6-5)))).val=_:=shifted_val 59983 6 rd rn rm ra imm cond w (w64 (6-5)) (by omega)
 refine Eq.trans (b:=(bif (PO.val (qj (59983,(6,rd,rn,rm,ra,imm,cond,w,()),(w64 (6-5))))).isSome then some ((PO.val (qj (59983,(6,rd,rn,rm,ra,imm,cond,w,()),(w64 (6-5))))).getD default) else none)) rfl ?_
 rw[e]
 rfl
theorem bits_7 (rd rn rm ra imm cond:Int) (w:Bool) (_:qd (7,rd,rn,rm,ra,imm,cond,w,())=0):(qn (7,rd,rn,rm,ra,imm,cond,w,())).val=some (codeV 7 rd rn rm ra imm cond w):=by
 have e:(qj (59983,(7,rd,rn,rm,ra,imm,cond,w,()),(w64 (7-5)))).val=_:=shifted_val 59983 7 rd rn rm ra imm cond w (w64 (7-5)) (by omega)
 refine Eq.trans (b:=(bif (PO.val (qj (59983,(7,rd,rn,rm,ra,imm,cond,w,()),(w64 (7-5))))).isSome then some ((PO.val (qj (59983,(7,rd,rn,rm,ra,imm,cond,w,()),(w64 (7-5))))).getD default) else none)) rfl ?_
 rw[e]
 rfl
theorem bits_8 (rd rn rm ra imm cond:Int) (w:Bool) (_:qd (8,rd,rn,rm,ra,imm,cond,w,())=0):(qn (8,rd,rn,rm,ra,imm,cond,w,())).val=some (codeV 8 rd rn rm ra imm cond w):=by
 have e:(qj (59983,(8,rd,rn,rm,ra,imm,cond,w,()),(w64 (8-5)))).val=_:=shifted_val 59983 8 rd rn rm ra imm cond w (w64 (8-5)) (by omega)
 refine Eq.trans (b:=(bif (PO.val (qj (59983,(8,rd,rn,rm,ra,imm,cond,w,()),(w64 (8-5))))).isSome then some ((PO.val (qj (59983,(8,rd,rn,rm,ra,imm,cond,w,()),(w64 (8-5))))).getD default) else none)) rfl ?_
 rw[e]
 rfl
theorem bits_9 (rd rn rm ra imm cond:Int) (w:Bool) (_:qd (9,rd,rn,rm,ra,imm,cond,w,())=0):(qn (9,rd,rn,rm,ra,imm,cond,w,())).val=some (codeV 9 rd rn rm ra imm cond w):=by
 have e:(qj (60015,(9,rd,rn,rm,ra,imm,cond,w,()),0)).val=_:=shifted_val 60015 9 rd rn rm ra imm cond w 0 (by omega)
 refine Eq.trans (b:=(bif (PO.val (qj (60015,(9,rd,rn,rm,ra,imm,cond,w,()),0))).isSome then some ((PO.val (qj (60015,(9,rd,rn,rm,ra,imm,cond,w,()),0))).getD default) else none)) rfl ?_
 rw[e]
 rfl
theorem bits_10 (rd rn rm ra imm cond:Int) (w:Bool) (_:qd (10,rd,rn,rm,ra,imm,cond,w,())=0):(qn (10,rd,rn,rm,ra,imm,cond,w,())).val=some (codeV 10 rd rn rm ra imm cond w):=by
 have e:(qj (59904,(10,rd,rn,rm,ra,imm,cond,w,()),0)).val=_:=shifted_val 59904 10 rd rn rm ra imm cond w 0 (by omega)
 refine Eq.trans (b:=(bif (PO.val (qj (59904,(10,rd,rn,rm,ra,imm,cond,w,()),0))).isSome then some ((PO.val (qj (59904,(10,rd,rn,rm,ra,imm,cond,w,()),0))).getD default) else none)) rfl ?_
 rw[e]
 rfl
theorem bits_11 (rd rn rm ra imm cond:Int) (w:Bool) (_:qd (11,rd,rn,rm,ra,imm,cond,w,())=0):(qn (11,rd,rn,rm,ra,imm,cond,w,())).val=some (codeV 11 rd rn rm ra imm cond w):=by
 have e:(qj (59936,(11,rd,rn,rm,ra,imm,cond,w,()),0)).val=_:=shifted_val 59936 11 rd rn rm ra imm cond w 0 (by omega)
 refine Eq.trans (b:=(bif (PO.val (qj (59936,(11,rd,rn,rm,ra,imm,cond,w,()),0))).isSome then some ((PO.val (qj (59936,(11,rd,rn,rm,ra,imm,cond,w,()),0))).getD default) else none)) rfl ?_
 rw[e]
 rfl
theorem bits_12 (rd rn rm ra imm cond:Int) (w:Bool) (_:qd (12,rd,rn,rm,ra,imm,cond,w,())=0):(qn (12,rd,rn,rm,ra,imm,cond,w,())).val=some (codeV 12 rd rn rm ra imm cond w):=by
 have e:(qj (59968,(12,rd,rn,rm,ra,imm,cond,w,()),0)).val=_:=shifted_val 59968 12 rd rn rm ra imm cond w 0 (by omega)
 refine Eq.trans (b:=(bif (PO.val (qj (59968,(12,rd,rn,rm,ra,imm,cond,w,()),0))).isSome then some ((PO.val (qj (59968,(12,rd,rn,rm,ra,imm,cond,w,()),0))).getD default) else none)) rfl ?_
 rw[e]
 rfl
theorem bits_13 (rd rn rm ra imm cond:Int) (w:Bool) (_:qd (13,rd,rn,rm,ra,imm,cond,w,())=0):(qn (13,rd,rn,rm,ra,imm,cond,w,())).val=some (codeV 13 rd rn rm ra imm cond w):=by
 have e:(qj (60032,(13,rd,rn,rm,ra,imm,cond,w,()),0)).val=_:=shifted_val 60032 13 rd rn rm ra imm cond w 0 (by omega)
 refine Eq.trans (b:=(bif (PO.val (qj (60032,(13,rd,rn,rm,ra,imm,cond,w,()),0))).isSome then some ((PO.val (qj (60032,(13,rd,rn,rm,ra,imm,cond,w,()),0))).getD default) else none)) rfl ?_
 rw[e]
 rfl
theorem bits_14 (rd rn rm ra imm cond:Int) (w:Bool) (_:qd (14,rd,rn,rm,ra,imm,cond,w,())=0):(qn (14,rd,rn,rm,ra,imm,cond,w,())).val=some (codeV 14 rd rn rm ra imm cond w):=by
 have e:(qj (60160,(14,rd,rn,rm,ra,imm,cond,w,()),0)).val=_:=shifted_val 60160 14 rd rn rm ra imm cond w 0 (by omega)
 refine Eq.trans (b:=(bif (PO.val (qj (60160,(14,rd,rn,rm,ra,imm,cond,w,()),0))).isSome then some ((PO.val (qj (60160,(14,rd,rn,rm,ra,imm,cond,w,()),0))).getD default) else none)) rfl ?_
 rw[e]
 rfl
theorem bits_15 (rd rn rm ra imm cond:Int) (w:Bool) (_:qd (15,rd,rn,rm,ra,imm,cond,w,())=0):(qn (15,rd,rn,rm,ra,imm,cond,w,())).val=some (codeV 15 rd rn rm ra imm cond w):=by
 have e:(qj (60320,(15,rd,rn,rm,ra,imm,cond,w,()),0)).val=_:=shifted_val 60320 15 rd rn rm ra imm cond w 0 (by omega)
 refine Eq.trans (b:=(bif (PO.val (qj (60320,(15,rd,rn,rm,ra,imm,cond,w,()),0))).isSome then some ((PO.val (qj (60320,(15,rd,rn,rm,ra,imm,cond,w,()),0))).getD default) else none)) rfl ?_
 rw[e]
 rfl
theorem bits_16 (rd rn rm ra imm cond:Int) (w:Bool) (_:qd (16,rd,rn,rm,ra,imm,cond,w,())=0):(qn (16,rd,rn,rm,ra,imm,cond,w,())).val=some (codeV 16 rd rn rm ra imm cond w):=by
 have b:(qn (16,rd,rn,rm,ra,imm,cond,w,())).val=(bif (PO.val (qo (16,rd,rn,rm,ra,imm,cond,w,()))).isSome then some ((PO.val (qo (16,rd,rn,rm,ra,imm,cond,w,()))).getD default) else none):=rfl
 have e:(qj (64256,(16,rd,rn,rm,ra,imm,cond,w,()),0)).val=_:=shifted_val 64256 16 rd rn rm ra imm cond w 0 (by omega)
 have o:(qo (16,rd,rn,rm,ra,imm,cond,w,())).val=some (qe (64256,[(rn,0,4,0,())]),bor .i64 (qe (0,[(imm,2,3,12,()),(rd,0,4,8,()),(imm,0,2,6,()),(0,0,2,4,()),(rm,0,4,0,())])) 61440,true,()):=by
  refine Eq.trans (b:=(bif (PO.val (qj (64256,(16,rd,rn,rm,ra,imm,cond,w,()),0))).isSome then some (((PO.val (qj (64256,(16,rd,rn,rm,ra,imm,cond,w,()),0))).getD default).1,bor .i64 ((PO.val (qj (64256,(16,rd,rn,rm,ra,imm,cond,w,()),0))).getD default).2.1 61440,((PO.val (qj (64256,(16,rd,rn,rm,ra,imm,cond,w,()),0))).getD default).2.2) else none)) rfl ?_
  rw[e]
  rfl
 have c:codeV 16 rd rn rm ra imm cond w=(qe (64256,[(rn,0,4,0,())]),bor .i64 (qe (0,[(imm,2,3,12,()),(rd,0,4,8,()),(imm,0,2,6,()),(0,0,2,4,()),(rm,0,4,0,())])) 61440,true,()):=rfl
 rw[b,o,c]
 rfl
theorem bits_17 (rd rn rm ra imm cond:Int) (w:Bool) (_:qd (17,rd,rn,rm,ra,imm,cond,w,())=0):(qn (17,rd,rn,rm,ra,imm,cond,w,())).val=some (codeV 17 rd rn rm ra imm cond w):=by
 have b:(qn (17,rd,rn,rm,ra,imm,cond,w,())).val=(bif (PO.val (qo (17,rd,rn,rm,ra,imm,cond,w,()))).isSome then some ((PO.val (qo (17,rd,rn,rm,ra,imm,cond,w,()))).getD default) else none):=rfl
 have o:(qo (17,rd,rn,rm,ra,imm,cond,w,())).val=some (bor .i64 64416 rn,bor .i64 (bor .i64 (ishl .i64 rd 12) (ishl .i64 ra 8)) rm,true,()):=rfl
 have c:codeV 17 rd rn rm ra imm cond w=(bor .i64 64416 rn,bor .i64 (bor .i64 (ishl .i64 rd 12) (ishl .i64 ra 8)) rm,true,()):=rfl
 rw[b,o,c]
 rfl
theorem bits_18 (rd rn rm ra imm cond:Int) (w:Bool) (h:qd (18,rd,rn,rm,ra,imm,cond,w,())=0):(qn (18,rd,rn,rm,ra,imm,cond,w,())).val=some (codeV 18 rd rn rm ra imm cond w):=by
 have b:(qn (18,rd,rn,rm,ra,imm,cond,w,())).val=(bif (PO.val (qo (18,rd,rn,rm,ra,imm,cond,w,()))).isSome then some ((PO.val (qo (18,rd,rn,rm,ra,imm,cond,w,()))).getD default) else none):=rfl
 obtain⟨c1,c2,c3,c4⟩:=check_bfi h
 have hs:w64 (w64 (imm+ra)-1)=imm+ra-1:=by rw[w64_id (n:=imm+ra) (by omega) (by omega),w64_id (by omega) (by omega)]
 obtain⟨n,hn⟩:=Int.eq_ofNat_of_zero_le (show 0≤imm+ra-1 by omega)
 have g:=put_ok n [(imm,2,3,12,()),(rd,0,4,8,()),(imm,0,2,6,())] (by omega) rfl
 have o:(qo (18,rd,rn,rm,ra,imm,cond,w,())).val=some (bor .i64 62304 rn,qe (imm+ra-1,[(imm,2,3,12,()),(rd,0,4,8,()),(imm,0,2,6,())]),true,()):=by
  refine Eq.trans (b:=(bif qu (w64 (w64 (imm+ra)-1),[(imm,2,3,12,()),(rd,0,4,8,()),(imm,0,2,6,())]) then some (bor .i64 62304 rn,qe (w64 (w64 (imm+ra)-1),[(imm,2,3,12,()),(rd,0,4,8,()),(imm,0,2,6,())]),true,()) else none)) rfl ?_
  rw[hs,hn,g]
  rfl
 have c:codeV 18 rd rn rm ra imm cond w=(bor .i64 62304 rn,qe (imm+ra-1,[(imm,2,3,12,()),(rd,0,4,8,()),(imm,0,2,6,())]),true,()):=rfl
 rw[b,o,c]
 rfl
theorem bits_19 (rd rn rm ra imm cond:Int) (w:Bool) (_:qd (19,rd,rn,rm,ra,imm,cond,w,())=0):(qn (19,rd,rn,rm,ra,imm,cond,w,())).val=some (codeV 19 rd rn rm ra imm cond w):=by
 have b:(qn (19,rd,rn,rm,ra,imm,cond,w,())).val=(bif (PO.val (qo (19,rd,rn,rm,ra,imm,cond,w,()))).isSome then some ((PO.val (qo (19,rd,rn,rm,ra,imm,cond,w,()))).getD default) else none):=rfl
 have e:(qL (26624,rd,rn)).val=some (qe (26624,[(rd,0,3,0,()),(rn,0,3,3,())]),0,false,()):=short_val 26624 rd rn (by omega)
 have o:(qo (19,rd,rn,rm,ra,imm,cond,w,())).val=some (qe (26624,[(rd,0,3,0,()),(rn,0,3,3,())]),0,false,()):=by
  refine Eq.trans (b:=(bif (PO.val (qL (26624,rd,rn))).isSome then some ((PO.val (qL (26624,rd,rn))).getD default) else none)) rfl ?_
  rw[e]
  rfl
 have c:codeV 19 rd rn rm ra imm cond w=(qe (26624,[(rd,0,3,0,()),(rn,0,3,3,())]),0,false,()):=rfl
 rw[b,o,c]
 rfl
theorem bits_20 (rd rn rm ra imm cond:Int) (w:Bool) (_:qd (20,rd,rn,rm,ra,imm,cond,w,())=0):(qn (20,rd,rn,rm,ra,imm,cond,w,())).val=some (codeV 20 rd rn rm ra imm cond w):=by
 have b:(qn (20,rd,rn,rm,ra,imm,cond,w,())).val=(bif (PO.val (qo (20,rd,rn,rm,ra,imm,cond,w,()))).isSome then some ((PO.val (qo (20,rd,rn,rm,ra,imm,cond,w,()))).getD default) else none):=rfl
 have e:(qL (24576,rd,rn)).val=some (qe (24576,[(rd,0,3,0,()),(rn,0,3,3,())]),0,false,()):=short_val 24576 rd rn (by omega)
 have o:(qo (20,rd,rn,rm,ra,imm,cond,w,())).val=some (qe (24576,[(rd,0,3,0,()),(rn,0,3,3,())]),0,false,()):=by
  refine Eq.trans (b:=(bif (PO.val (qL (24576,rd,rn))).isSome then some ((PO.val (qL (24576,rd,rn))).getD default) else none)) rfl ?_
  rw[e]
  rfl
 have c:codeV 20 rd rn rm ra imm cond w=(qe (24576,[(rd,0,3,0,()),(rn,0,3,3,())]),0,false,()):=rfl
 rw[b,o,c]
 rfl
theorem bits_21 (rd rn rm ra imm cond:Int) (w:Bool) (_:qd (21,rd,rn,rm,ra,imm,cond,w,())=0):(qn (21,rd,rn,rm,ra,imm,cond,w,())).val=some (codeV 21 rd rn rm ra imm cond w):=by
 have b:(qn (21,rd,rn,rm,ra,imm,cond,w,())).val=(bif (PO.val (qo (21,rd,rn,rm,ra,imm,cond,w,()))).isSome then some ((PO.val (qo (21,rd,rn,rm,ra,imm,cond,w,()))).getD default) else none):=rfl
 have e:(qL (30720,rd,rn)).val=some (qe (30720,[(rd,0,3,0,()),(rn,0,3,3,())]),0,false,()):=short_val 30720 rd rn (by omega)
 have o:(qo (21,rd,rn,rm,ra,imm,cond,w,())).val=some (qe (30720,[(rd,0,3,0,()),(rn,0,3,3,())]),0,false,()):=by
  refine Eq.trans (b:=(bif (PO.val (qL (30720,rd,rn))).isSome then some ((PO.val (qL (30720,rd,rn))).getD default) else none)) rfl ?_
  rw[e]
  rfl
 have c:codeV 21 rd rn rm ra imm cond w=(qe (30720,[(rd,0,3,0,()),(rn,0,3,3,())]),0,false,()):=rfl
 rw[b,o,c]
 rfl
theorem bits_22 (rd rn rm ra imm cond:Int) (w:Bool) (_:qd (22,rd,rn,rm,ra,imm,cond,w,())=0):(qn (22,rd,rn,rm,ra,imm,cond,w,())).val=some (codeV 22 rd rn rm ra imm cond w):=by
 have b:(qn (22,rd,rn,rm,ra,imm,cond,w,())).val=(bif (PO.val (qo (22,rd,rn,rm,ra,imm,cond,w,()))).isSome then some ((PO.val (qo (22,rd,rn,rm,ra,imm,cond,w,()))).getD default) else none):=rfl
 have e:(qL (28672,rd,rn)).val=some (qe (28672,[(rd,0,3,0,()),(rn,0,3,3,())]),0,false,()):=short_val 28672 rd rn (by omega)
 have o:(qo (22,rd,rn,rm,ra,imm,cond,w,())).val=some (qe (28672,[(rd,0,3,0,()),(rn,0,3,3,())]),0,false,()):=by
  refine Eq.trans (b:=(bif (PO.val (qL (28672,rd,rn))).isSome then some ((PO.val (qL (28672,rd,rn))).getD default) else none)) rfl ?_
  rw[e]
  rfl
 have c:codeV 22 rd rn rm ra imm cond w=(qe (28672,[(rd,0,3,0,()),(rn,0,3,3,())]),0,false,()):=rfl
 rw[b,o,c]
 rfl
theorem bits_23 (rd rn rm ra imm cond:Int) (w:Bool) (_:qd (23,rd,rn,rm,ra,imm,cond,w,())=0):(qn (23,rd,rn,rm,ra,imm,cond,w,())).val=some (codeV 23 rd rn rm ra imm cond w):=by
 have b:(qn (23,rd,rn,rm,ra,imm,cond,w,())).val=(bif (PO.val (qo (23,rd,rn,rm,ra,imm,cond,w,()))).isSome then some ((PO.val (qo (23,rd,rn,rm,ra,imm,cond,w,()))).getD default) else none):=rfl
 have e:(qL (17024,rn,rm)).val=some (qe (17024,[(rn,0,3,0,()),(rm,0,3,3,())]),0,false,()):=short_val 17024 rn rm (by omega)
 have o:(qo (23,rd,rn,rm,ra,imm,cond,w,())).val=some (qe (17024,[(rn,0,3,0,()),(rm,0,3,3,())]),0,false,()):=by
  refine Eq.trans (b:=(bif (PO.val (qL (17024,rn,rm))).isSome then some ((PO.val (qL (17024,rn,rm))).getD default) else none)) rfl ?_
  rw[e]
  rfl
 have c:codeV 23 rd rn rm ra imm cond w=(qe (17024,[(rn,0,3,0,()),(rm,0,3,3,())]),0,false,()):=rfl
 rw[b,o,c]
 rfl
theorem bits_24 (rd rn rm ra imm cond:Int) (w:Bool) (_:qd (24,rd,rn,rm,ra,imm,cond,w,())=0):(qn (24,rd,rn,rm,ra,imm,cond,w,())).val=some (codeV 24 rd rn rm ra imm cond w):=by
 have b:(qn (24,rd,rn,rm,ra,imm,cond,w,())).val=(bif (PO.val (qo (24,rd,rn,rm,ra,imm,cond,w,()))).isSome then some ((PO.val (qo (24,rd,rn,rm,ra,imm,cond,w,()))).getD default) else none):=rfl
 have e:(qbz (24,rd,rn,rm,ra,imm,cond,w,())).val=some (wideV 24 imm cond):=wide_val 24 rd rn rm ra imm cond w
 have g:qu (57344,[(imm,1,11,0,())])=true:=put_ok 57344 [(imm,1,11,0,())] (by omega) rfl
 have o:(qo (24,rd,rn,rm,ra,imm,cond,w,())).val=some (bif w then wideV 24 imm cond else(qe (57344,[(imm,1,11,0,())]),0,false,())):=by
  refine Eq.trans (b:=(bif w then(bif (PO.val (qbz (24,rd,rn,rm,ra,imm,cond,w,()))).isSome then some ((PO.val (qbz (24,rd,rn,rm,ra,imm,cond,w,()))).getD default) else none) else(bif qu (57344,[(imm,1,11,0,())]) then some (qe (57344,[(imm,1,11,0,())]),0,false,()) else none))) rfl ?_
  rw[e,g]
  cases w<;>rfl
 have c:codeV 24 rd rn rm ra imm cond w=(bif w then wideV 24 imm cond else(qe (57344,[(imm,1,11,0,())]),0,false,())):=rfl
 rw[b,o,c]
 rfl
theorem bits_25 (rd rn rm ra imm cond:Int) (w:Bool) (_:qd (25,rd,rn,rm,ra,imm,cond,w,())=0):(qn (25,rd,rn,rm,ra,imm,cond,w,())).val=some (codeV 25 rd rn rm ra imm cond w):=by
 have b:(qn (25,rd,rn,rm,ra,imm,cond,w,())).val=(bif (PO.val (qo (25,rd,rn,rm,ra,imm,cond,w,()))).isSome then some ((PO.val (qo (25,rd,rn,rm,ra,imm,cond,w,()))).getD default) else none):=rfl
 have e:(qbz (25,rd,rn,rm,ra,imm,cond,w,())).val=some (wideV 25 imm cond):=wide_val 25 rd rn rm ra imm cond w
 have g:qu (53248,[(cond,0,4,8,()),(imm,1,8,0,())])=true:=put_ok 53248 [(cond,0,4,8,()),(imm,1,8,0,())] (by omega) rfl
 have o:(qo (25,rd,rn,rm,ra,imm,cond,w,())).val=some (bif w then wideV 25 imm cond else(qe (53248,[(cond,0,4,8,()),(imm,1,8,0,())]),0,false,())):=by
  refine Eq.trans (b:=(bif w then(bif (PO.val (qbz (25,rd,rn,rm,ra,imm,cond,w,()))).isSome then some ((PO.val (qbz (25,rd,rn,rm,ra,imm,cond,w,()))).getD default) else none) else(bif qu (53248,[(cond,0,4,8,()),(imm,1,8,0,())]) then some (qe (53248,[(cond,0,4,8,()),(imm,1,8,0,())]),0,false,()) else none))) rfl ?_
  rw[e,g]
  cases w<;>rfl
 have c:codeV 25 rd rn rm ra imm cond w=(bif w then wideV 25 imm cond else(qe (53248,[(cond,0,4,8,()),(imm,1,8,0,())]),0,false,())):=rfl
 rw[b,o,c]
 rfl
theorem bits_val (op rd rn rm ra imm cond:Int) (w:Bool) (h:qd (op,rd,rn,rm,ra,imm,cond,w,())=0):(qn (op,rd,rn,rm,ra,imm,cond,w,())).val=some (codeV op rd rn rm ra imm cond w):=by
 rcases op_cases op with rfl |rfl |rfl |rfl |rfl |rfl |rfl |rfl |rfl |rfl |rfl |rfl |rfl |rfl |rfl |rfl |rfl |rfl |rfl |rfl |rfl |rfl |rfl |rfl |rfl |hop
 case inr.inr.inr.inr.inr.inr.inr.inr.inr.inr.inr.inr.inr.inr.inr.inr.inr.inr.inr.inr.inr.inr.inr.inr.inr =>
  exfalso
  have e:=fun k hk=>op_none (n:=op) (k:=k) hop hk
  simp[qd,qV,qz,q7,PO.getO,PO.val,e] at h
 ·exact bits_1 rd rn rm ra imm cond w h
 ·exact bits_2 rd rn rm ra imm cond w h
 ·exact bits_3 rd rn rm ra imm cond w h
 ·exact bits_4 rd rn rm ra imm cond w h
 ·exact bits_5 rd rn rm ra imm cond w h
 ·exact bits_6 rd rn rm ra imm cond w h
 ·exact bits_7 rd rn rm ra imm cond w h
 ·exact bits_8 rd rn rm ra imm cond w h
 ·exact bits_9 rd rn rm ra imm cond w h
 ·exact bits_10 rd rn rm ra imm cond w h
 ·exact bits_11 rd rn rm ra imm cond w h
 ·exact bits_12 rd rn rm ra imm cond w h
 ·exact bits_13 rd rn rm ra imm cond w h
 ·exact bits_14 rd rn rm ra imm cond w h
 ·exact bits_15 rd rn rm ra imm cond w h
 ·exact bits_16 rd rn rm ra imm cond w h
 ·exact bits_17 rd rn rm ra imm cond w h
 ·exact bits_18 rd rn rm ra imm cond w h
 ·exact bits_19 rd rn rm ra imm cond w h
 ·exact bits_20 rd rn rm ra imm cond w h
 ·exact bits_21 rd rn rm ra imm cond w h
 ·exact bits_22 rd rn rm ra imm cond w h
 ·exact bits_23 rd rn rm ra imm cond w h
 ·exact bits_24 rd rn rm ra imm cond w h
 ·exact bits_25 rd rn rm ra imm cond w h
theorem code_long (op rd rn rm ra imm cond:Int) (w:Bool) (h:qd (op,rd,rn,rm,ra,imm,cond,w,())=0):(codeV op rd rn rm ra imm cond w).2.2.1=isLong op w:=by
 have hwide:∀op:Int,(wideV op imm cond).2.2.1=true:=fun op=>by unfold wideV;cases op==25<;>rfl
 rcases op_cases op with rfl |rfl |rfl |rfl |rfl |rfl |rfl |rfl |rfl |rfl |rfl |rfl |rfl |rfl |rfl |rfl |rfl |rfl |rfl |rfl |rfl |rfl |rfl |rfl |rfl |hop
 case inr.inr.inr.inr.inr.inr.inr.inr.inr.inr.inr.inr.inr.inr.inr.inr.inr.inr.inr.inr.inr.inr.inr.inr.inr =>
  exfalso
  have e:=fun k hk=>op_none (n:=op) (k:=k) hop hk
  simp[qd,qV,qz,q7,PO.getO,PO.val,e] at h
 all_goals
  have hw:w=false∨w=true:=by cases w<;>simp
  rcases hw with rfl |rfl
  ·rfl
  ·first
   |(exfalso;simp[qd,qV,PO.getO,PO.val] at h;done)
   |rfl
   |exact hwide _
end Go.Av
end
section
namespace Go.Av
open Go
abbrev qgD:List Ty:=[tIns]
abbrev qiB:Sh:=Sh.ty (Ty.int IntKind.i64)
def qj4 (x:dens qgD):PO (Sh.den qiB) :=
 (.ite (qd x != 0)
  (.ret (0))
  (.ite (qcv x)
  (.ite ((qS x).2.2.1)
   (.ret (4))
   (.ret (2)))
  .fail))
def qkf (_:dens qgD):Bool:=true
def qba (x:dens qgD):Sh.den qiB:=bif qd x != 0 then 0 else bif isLong x.1 x.2.2.2.2.2.2.2.1 then 4 else 2
theorem size_val (x:tIns.den):(qj4 x).val=some (bif qd x != 0 then 0 else bif isLong x.1 x.2.2.2.2.2.2.2.1 then 4 else 2):=by
 obtain⟨op,rd,rn,rm,ra,imm,cond,w,u⟩:=x
 show(bif qd (op,rd,rn,rm,ra,imm,cond,w,()) != 0 then some 0 else(bif (qn (op,rd,rn,rm,ra,imm,cond,w,())).val.isSome then(bif ((qn (op,rd,rn,rm,ra,imm,cond,w,())).val.getD default).2.2.1 then some 4 else some 2) else none))=some (bif qd (op,rd,rn,rm,ra,imm,cond,w,()) != 0 then 0 else bif isLong op w then 4 else 2)
 cases hc:(qd (op,rd,rn,rm,ra,imm,cond,w,()) != (0:Int))
 ·have h:qd (op,rd,rn,rm,ra,imm,cond,w,())=0:=by simpa using hc
  rw[bits_val op rd rn rm ra imm cond w h]
  show(bif (codeV op rd rn rm ra imm cond w).2.2.1 then some 4 else some 2)=some (bif isLong op w then 4 else 2)
  rw[code_long op rd rn rm ra imm cond w h]
  cases isLong op w<;>rfl
 ·rfl
theorem qmr (x:dens qgD) (_:qkf x=true):(qj4 x).val=some (qba x):=size_val x
end Go.Av
end
section
namespace Go.Av
open Go
end Go.Av
end
section
namespace Go.Av
open Go
def bt (m j:Nat):Nat:=m / 2 ^ j % 2
theorem bt_eq (m j:Nat):bt m j=(m.testBit j).toNat:=(Nat.toNat_testBit m j).symm
theorem bt_le (m j:Nat):bt m j≤1:=by unfold bt;omega
end Go.Av
end
section
namespace Go.Av
open Go
end Go.Av
end
section
namespace Go.Av
open Go
def wordR (l:List Int):List Int:=l.map fun n=>(wn n:Int)
theorem wordR_len (l:List Int):(wordR l).length=l.length:=by simp[wordR]
def wordSt (l:List Int) (k:Nat):List Int:=(wordR l).take k++l.drop k
theorem wordSt_step (l:List Int) {k:Nat} (h:k<l.length):(wordSt l k).set k (wn l[k]:Int)=wordSt l (k+1):=by
 unfold wordSt
 have h1:((wordR l).take k).length=k:=by rw[List.length_take,wordR_len];omega
 rw[List.set_append_right _ _ (by omega),h1,Nat.sub_self,List.drop_eq_getElem_cons h,List.set_cons_zero,List.take_succ_eq_append_getElem (by rw[wordR_len];omega),List.append_assoc]
 simp[wordR]
theorem wordSt_end (l:List Int) {k:Nat} (h:l.length≤k):wordSt l k=wordR l:=by
 unfold wordSt
 rw[List.take_of_length_le (by rw[wordR_len];omega),List.drop_of_length_le h,List.append_nil]
theorem wordSt_zero (l:List Int):wordSt l 0=l:=by simp[wordSt]
abbrev qhq:List Ty:=[tState,(.int .i64)]
abbrev qjg:Sh:=Sh.ty Ty.bool
def qjc (x:dens qhq):PO (Sh.den qjg) :=
 (.ite (decide (x.2<0)||decide (x.2 > 13))
  (.ret (false))
  (.ret ((bif ishr IntKind.i64 x.2 1==0 then x.1.2.2.2.1 else bif ishr IntKind.i64 x.2 1==1 then x.1.2.2.2.2.1 else bif ishr IntKind.i64 x.2 1==2 then x.1.2.2.1 else bif ishr IntKind.i64 x.2 1==3 then x.1.2.2.2.2.2.1 else bif ishr IntKind.i64 x.2 1==4 then x.1.2.2.2.2.1&&!x.1.2.2.2.1 else bif ishr IntKind.i64 x.2 1==5 then x.1.2.2.1==x.1.2.2.2.2.2.1 else ishr IntKind.i64 x.2 1==6&&(!x.1.2.2.2.1&&x.1.2.2.1==x.1.2.2.2.2.2.1))==(band IntKind.i64 x.2 1==0))))
def qkz (_:dens qhq):Bool:=true
def qd5 (x:dens qhq):Sh.den qjg:=(qjc x).getO default
theorem qmE (x:dens qhq) (_:qkz x=true):(qjc x).val=some (qd5 x):=PO.sure_ok default (by simp[qjc,PO.sure])
abbrev qiI:List Ty:=[tState,tIns]
abbrev qjZ:Sh:=Sh.ty Ty.bool
def qg6 (x:dens qiI):PO (Sh.den qjZ) :=
 (.ite (x.2.1==24||(x.2.1==25||true))
  (.ret (x.2.1==24||x.2.1==25&&qd5 (x.1,x.2.2.2.2.2.2.2.1)))
  .fail)
def qkU (_:dens qiI):Bool:=true
def qcc (x:dens qiI):Sh.den qjZ:=(qg6 x).getO default
theorem qmR (x:dens qiI) (_:qkU x=true):(qg6 x).val=some (qcc x):=PO.tots_ok default (by simp[qg6,PO.tots])
def qeC:LoopN where
 M:=[1,2,6,7]
 T:=[3,4,8,9,10,11,12,13,14,15,16]
 D:=[6,7]
 ss:=[.box 0 0,.box 1 0,.ty (.arr 15 (.int .i64)),.ty (.int .i64)]
 hs:=[.ty tState,.ty tState]
 es:=[.exit 0]
 σ:=(Ty.den (.int .i64))×(Sh.den (.ty tState))×(Sh.den (.ty tState))
 x0:=fun x y=>(x.2.2.2,y.1,y.2)
 put:=fun x _ s=>((x.1,x.2.1,x.2.2.1,s.1),(s.2.1,s.2.2))
 fuel:=fun _ _=>20
 turn:=fun x _ s =>
 (.ite (decide (s.1<15))
  (.ite (inRange s.1 15)
  (.ite (inRange s.1 15)
   (.ret (.on (w64 (s.1+1),(List.set s.2.1.1 (Int.toNat s.1) (qp (List.getD x.2.2.1 (Int.toNat s.1) (Ty.dflt (Ty.int IntKind.i64)))),s.2.1.2),s.2.2)))
   .fail)
  .fail)
  (.ret (.out 0 (s.1,s.2.1,s.2.2))))
abbrev qhl:List Ty:=[tState]
abbrev qjh:Sh:=Sh.ty tState
def qkv (x:dens qhl):PO (Sh.den qjh) :=
 (.opt (LoopN.res qeC ((),(),x.1,0) (x,[0,0,0,0,0,0,0,0,0,0,0,0,0,0,0],0,false,false,false,false,())) fun p0 =>
  (.ret ((p0.2.2.1.1,qp p0.2.2.1.2.1,p0.2.2.1.2.2))))
theorem words_run (r:List Int) (t u:tState.den) (hr:r.length=15) (ht:t.1=r):runL (qeC.turn ((),(),r,0) (t,u)) 20 (0,t,u)=some (0,15,(wordR r,t.2),u):=by
 have key:=runL_count (σ:=Int×tState.den×tState.den) (turn:=qeC.turn ((),(),r,0) (t,u)) (fun i=>((i:Int),(wordSt r i,t.2),u)) (0,15,(wordR r,t.2),u) (n:=15) (fun i hi=>?_) ?_ 15 0 (by omega) 20 (by omega)
 ·simp only[wordSt_zero] at key
  rw[←ht] at key ⊢
  exact key
 ·have h1:decide ((i:Int)<15)=true:=dec_true (by omega)
  have hi':i<r.length:=by omega
  show(bif decide ((i:Int)<15) then(bif inRange (i:Int) 15 then(bif inRange (i:Int) 15 then some (TL.on (w64 ((i:Int)+1),((wordSt r i).set (Int.toNat (i:Int)) (wn (r.getD (Int.toNat (i:Int)) 0):Int),t.2),u)) else none) else none) else _)=_
  rw[h1,inR hi,Int.toNat_natCast,getD_in r _ hi',wordSt_step r hi',w64_id (by omega) (by omega)]
  rfl
 ·show(bif decide (((15:Nat):Int)<15) then _ else _)=_
  rw[dec_false (by omega),wordSt_end r (by omega)]
  rfl
def qd4 (x:dens qhl):Bool:=decide (List.length x.1=15)
def qX (x:dens qhl):Sh.den qjh:=(wordR x.1,(wn x.2.1:Int),x.2.2)
theorem qmC (x:dens qhl) (h:qd4 x=true):(qkv x).val=some (qX x):=by
 have h15:List.length x.1=15:=of_decide_eq_true h
 unfold qkv PO.val
 have:LoopN.res qeC ((),(),x.1,0) (x,[0,0,0,0,0,0,0,0,0,0,0,0,0,0,0],0,false,false,false,false,())=some (0,(15:Int),(wordR x.1,x.2),([0,0,0,0,0,0,0,0,0,0,0,0,0,0,0],0,false,false,false,false,())):=words_run x.1 x _ h15 rfl
 rw[this]
 rfl
end Go.Av
end
section
namespace Go.Av
open Go
def insN (m f a k:Nat):Nat:=2 ^ a*(2 ^ k*(m / 2 ^ (a+k))+f % 2 ^ k)+m % 2 ^ a
theorem insN_bit (m f a k j:Nat):(insN m f a k).testBit j=if j<a then m.testBit j else if j<a+k then f.testBit (j-a) else m.testBit j:=by
 unfold insN
 rw[Nat.testBit_two_pow_mul_add _ (Nat.mod_lt _ (Nat.two_pow_pos a))]
 split
 ·rename_i h
  rw[Nat.testBit_mod_two_pow,decide_eq_true h,Bool.true_and]
 ·rename_i h
  rw[Nat.testBit_two_pow_mul_add _ (Nat.mod_lt _ (Nat.two_pow_pos k))]
  split
  ·rename_i h2
   rw[if_pos (by omega),Nat.testBit_mod_two_pow,decide_eq_true h2,Bool.true_and]
  ·rename_i h2
   rw[if_neg (by omega),Nat.testBit_div_two_pow]
   congr 1
   omega
theorem mask_bit (a k j:Nat):((2 ^ k-1)*2 ^ a).testBit j=(decide (a≤j)&&decide (j<a+k)):=by
 rw[Nat.testBit_mul_two_pow,Nat.testBit_two_pow_sub_one]
 by_cases h:a≤j
 ·rw[show decide (j-a<k)=decide (j<a+k) from decide_eq_decide.2 (by omega)]
 ·rw[dec_false h];rfl
theorem mask_lt {a k:Nat} (h:a+k≤32):(2 ^ k-1)*2 ^ a<4294967296:=by
 refine Nat.lt_pow_two_of_testBit (n:=32) _ fun j hj=>?_
 rw[mask_bit,dec_false (show ¬j<a+k by omega),Bool.and_false]
theorem select_ins {m f a k:Nat} (hm:m<4294967296) (h:a+k≤32):(f*2 ^ a % 4294967296 &&& (2 ^ k-1)*2 ^ a) |||(m &&& (4294967295-(2 ^ k-1)*2 ^ a))=insN m f a k:=by
 refine Nat.eq_of_testBit_eq fun j=>?_
 rw[insN_bit,Nat.testBit_or,Nat.testBit_and,Nat.testBit_and,mask_bit,show 4294967295-(2 ^ k-1)*2 ^ a=2 ^ 32-((2 ^ k-1)*2 ^ a+1) by omega,Nat.testBit_two_pow_sub_succ (mask_lt h),mask_bit,show(4294967296:Nat)=2 ^ 32 from rfl,Nat.testBit_mod_two_pow,Nat.testBit_mul_two_pow]
 by_cases h32:j<32
 ·by_cases ha:j<a
  ·simp[ha,h32,show ¬a≤j by omega]
  ·by_cases hk:j<a+k
   ·simp[ha,h32,hk,show a≤j by omega]
   ·simp[ha,h32,hk,show a≤j by omega]
 ·have hz:m.testBit j=false:=Nat.testBit_lt_two_pow (Nat.lt_of_lt_of_le hm (Nat.pow_le_pow_right (n:=2) (by omega) (show 32≤j by omega)))
  have ha:¬j<a:=by omega
  have hk:¬j<a+k:=by omega
  simp[h32,hz,ha,hk]
abbrev qgC:List Ty:=[(.int .i64),(.int .i64),(.int .i64),(.int .i64)]
abbrev qiT:Sh:=Sh.ty (Ty.int IntKind.i64)
def qj8 (x:dens qgC):PO (Sh.den qiT) :=
 (.ite (!decide (x.2.2.2<0)&&(!decide (x.2.2.1<0)&&true))
  (.ret (qf8 (qp (ishl IntKind.i64 (w64 (ishl IntKind.i64 1 x.2.2.2-1)) x.2.2.1),qg0 (x.2.1,x.2.2.1),x.1)))
  .fail)
def qc3 (x:dens qgC):Bool:=decide ((0:Int)≤x.2.2.1)&&(decide ((0:Int)≤x.2.2.2)&&(decide ((x.2.2.1:Int)+x.2.2.2≤32)&&decide ((x.2.2.1:Int)<32)))
def qef (x:dens qgC):Sh.den qiT:=(insN (wn x.1) (wn x.2.1) (Int.toNat x.2.2.1) (Int.toNat x.2.2.2):Int)
theorem insert_val (m f:Int) (a k:Nat) (h:a+k≤32) (ha:a<32):(qj8 (m,f,(a:Int),(k:Int))).val=some ((insN (wn m) (wn f) a k:Nat):Int):=by
 have h1:decide ((k:Int)<0)=false:=dec_false (by omega)
 have h2:decide ((a:Int)<0)=false:=dec_false (by omega)
 have hp:2 ^ k≤2 ^ 32:=pow_lt (by omega)
 have hk1:ishl .i64 1 (k:Int)=((2 ^ k:Nat):Int):=by
  rw[ishl_nat _ _ (by omega),Int.one_mul,show(2:Int) ^ k=((2 ^ k:Nat):Int) by simp]
  exact w64_nat (by omega)
 have hpos:=Nat.two_pow_pos k
 have hm1:w64 (((2 ^ k:Nat):Int)-1)=((2 ^ k-1:Nat):Int):=by
  generalize 2 ^ k=q at *
  rw[w64_id (by omega) (by omega)]
  omega
 have hml:=mask_lt h
 have hkk:kk (a:Int)=a:=by unfold kk;omega
 show(bif !decide ((k:Int)<0)&&(!decide ((a:Int)<0)&&true) then some (((wn ((wn f*2 ^ kk (a:Int) % 4294967296:Nat):Int) &&& wn ((wn (ishl .i64 (w64 (ishl .i64 1 (k:Int)-1)) (a:Int)):Nat):Int)) |||(wn m &&& (4294967295-wn ((wn (ishl .i64 (w64 (ishl .i64 1 (k:Int)-1)) (a:Int)):Nat):Int))):Nat):Int) else none)=_
 rw[h1,h2,hk1,hm1,shl_wn _ _ (by omega),hkk,Nat.mod_eq_of_lt hml,wn_nat (Nat.mod_lt _ (by omega)),wn_nat hml,select_ins (wn_lt m) h]
 rfl
theorem qml (x:dens qgC) (h:qc3 x=true):(qj8 x).val=some (qef x):=by
 obtain⟨m,f,a,k⟩:=x
 simp only[qc3,Bool.and_eq_true,decide_eq_true_eq] at h
 obtain⟨h1,h2,h3,h4⟩:=h
 obtain⟨a,rfl⟩:=Int.eq_ofNat_of_zero_le h1
 obtain⟨k,rfl⟩:=Int.eq_ofNat_of_zero_le h2
 have h3':(a:Int)+(k:Int)≤32:=h3
 have h4':(a:Int)<32:=h4
 exact insert_val m f a k (by omega) (by omega)
abbrev qf1:List Ty:=[(.int .i64),(.int .i64),(.int .i64)]
abbrev qhN:Sh:=Sh.ty (Ty.int IntKind.i64)
def qgc (x:dens qf1):PO (Sh.den qhN) :=
 (.ite (x.1==5)
  (.ret (qg0 (x.2.1,x.2.2)))
  (.ite (x.1==6)
  (.ret (qeG (x.2.1,x.2.2)))
  (.ite (x.1==7)
   (.ret (qip (x.2.1,x.2.2)))
   (.ret (qiC (x.2.1,x.2.2))))))
def qjE (_:dens qf1):Bool:=true
def qfV (x:dens qf1):Sh.den qhN:=(qgc x).getO default
theorem qlZ (x:dens qf1) (_:qjE x=true):(qgc x).val=some (qfV x):=PO.sure_ok default (by simp[qgc,PO.sure])
abbrev qjm:List Ty:=[(.int .i64),(.int .i64),(.int .i64)]
abbrev qkq:Sh:=Sh.ty (Ty.int IntKind.i64)
def qjr (x:dens qjm):PO (Sh.den qkq) :=
 (.ite (x.1==10)
  (.ret (qeK (x.2.1,x.2.2)))
  (.ite (x.1==11)
  (.ret (qeK (x.2.1,qbx x.2.2)))
  (.ite (x.1==12)
   (.ret (qeN (x.2.1,x.2.2)))
   (.ite (x.1==13)
   (.ret (qdu (x.2.1,x.2.2)))
   (.ite (x.1==14)
    (.ret (qdv (x.2.1,x.2.2)))
    (.ite (x.1==15)
    (.ret (qdY (x.2.1,x.2.2)))
    (.ret (qeP (x.2.1,x.2.2)))))))))
def qlc (_:dens qjm):Bool:=true
def qjp (x:dens qjm):Sh.den qkq:=(qjr x).getO default
theorem qmY (x:dens qjm) (_:qlc x=true):(qjr x).val=some (qjp x):=PO.sure_ok default (by simp[qjr,PO.sure])
abbrev qf2:List Ty:=[tState,(.int .i64),(.int .i64)]
abbrev qhO:Sh:=Sh.ty tState
def qhF (x:dens qf2):PO (Sh.den qhO) :=
 (.ret ((x.1.1,x.1.2.1,qgV (qdY (x.2.1,x.2.2),31)==1,qdY (x.2.1,x.2.2)==0,decide (x.2.1≥x.2.2),qgV (qeK (qdu (x.2.1,x.2.2),qdu (x.2.1,qdY (x.2.1,x.2.2))),31)==1,x.1.2.2.2.2.2.2)))
def qjz (_:dens qf2):Bool:=true
def qde (x:dens qf2):Sh.den qhO:=(qhF x).getO default
theorem qlX (x:dens qf2) (_:qjz x=true):(qhF x).val=some (qde x):=PO.sure_ok default (by simp[qhF,PO.sure])
end Go.Av
end
section
namespace Go.Av
open Go
theorem bad2 (A:Bool) (x:Option Int):(bif A then some 2 else x).getD 0=0↔A=false∧x.getD 0=0:=by cases A<;>simp
theorem bad6 (A:Bool) (x:Option Int):(bif A then some 6 else x).getD 0=0↔A=false∧x.getD 0=0:=by cases A<;>simp
set_option maxHeartbeats 1000000 in
theorem check_bounds {op rd rn rm ra imm cond:Int} {w:Bool} (h:qd (op,rd,rn,rm,ra,imm,cond,w,())=0) :
  (1≤op∧op≤25)∧(0≤rd∧rd≤12)∧(0≤rn∧rn≤12)∧(0≤rm∧rm≤12)∧(op=17→0≤ra∧ra≤12∧ra≠rd)∧(op≠24→op≠25→0≤imm∧imm≤65535∧w=false∧cond=0)∧(5≤op→op≤23→imm≤31)∧(op=18→1≤ra∧ra≤32-imm)∧(6≤op→op≤8→1≤imm):=by
 have hw:=left_same imm
 rcases op_cases op with rfl |rfl |rfl |rfl |rfl |rfl |rfl |rfl |rfl |rfl |rfl |rfl |rfl |rfl |rfl |rfl |rfl |rfl |rfl |rfl |rfl |rfl |rfl |rfl |rfl |hop
 case inr.inr.inr.inr.inr.inr.inr.inr.inr.inr.inr.inr.inr.inr.inr.inr.inr.inr.inr.inr.inr.inr.inr.inr.inr =>
  exfalso
  have e:=fun k hk=>op_none (n:=op) (k:=k) hop hk
  simp[qd,qV,qz,q7,PO.getO,PO.val,e] at h
 all_goals
  simp[qd,qV,qz,q7,qbf,qcL,qU,qbB,PO.getO,PO.val,qcV,qcU,qP,qdd] at h ⊢
  simp only[bad2,bad6,Bool.or_eq_false_iff,Bool.not_eq_false',decide_eq_true_eq,bne_eq_false_iff_eq,beq_iff_eq] at h
  grind
theorem wrap_a:IntKind.i64.wrap (-1048576)=-1048576:=rfl
theorem wrap_b:IntKind.i64.wrap 1048574=1048574:=rfl
set_option maxHeartbeats 1000000 in
theorem check_more {op rd rn rm ra imm cond:Int} {w:Bool} (h:qd (op,rd,rn,rm,ra,imm,cond,w,())=0) :
  (op=2→imm≤255)∧(9≤op→op≤17→imm=0):=by
 have hw:=left_same imm
 rcases op_cases op with rfl |rfl |rfl |rfl |rfl |rfl |rfl |rfl |rfl |rfl |rfl |rfl |rfl |rfl |rfl |rfl |rfl |rfl |rfl |rfl |rfl |rfl |rfl |rfl |rfl |hop
 case inr.inr.inr.inr.inr.inr.inr.inr.inr.inr.inr.inr.inr.inr.inr.inr.inr.inr.inr.inr.inr.inr.inr.inr.inr =>
  exfalso
  have e:=fun k hk=>op_none (n:=op) (k:=k) hop hk
  simp[qd,qV,qz,q7,PO.getO,PO.val,e] at h
 case inr.inr.inr.inr.inr.inr.inr.inr.inr.inr.inr.inr.inr.inr.inr.inr.inr.inr.inr.inr.inr.inr.inr.inl=>omega
 case inr.inr.inr.inr.inr.inr.inr.inr.inr.inr.inr.inr.inr.inr.inr.inr.inr.inr.inr.inr.inr.inr.inr.inr.inl=>omega
 all_goals
  simp[qd,qV,qz,q7,qbf,qcL,qU,qbB,PO.getO,PO.val] at h ⊢
  try simp only[bad2,Bool.or_eq_false_iff,Bool.not_eq_false',decide_eq_true_eq,bne_eq_false_iff_eq,beq_iff_eq] at h
  try grind
theorem check_25 {rd rn rm ra imm cond:Int} (h:qd (25,rd,rn,rm,ra,imm,cond,true,())=0):-1048576≤imm∧imm<1048576:=by
 simp[qd,qV,qU,qbB,PO.getO,PO.val,qcV,qcU,qP,qdd,wrap_a,wrap_b] at h
 simp only[bad2,bad6,Bool.or_eq_false_iff,Bool.not_eq_false',decide_eq_true_eq,bne_eq_false_iff_eq] at h
 grind
end Go.Av
end
section
namespace Go.Av
open Go
theorem dflt_i64:Ty.dflt (.int .i64)=(0:Int):=rfl
theorem inR15 {n:Int} (h:0≤n∧n≤12):inRange n 15=true:=by
 unfold inRange
 rw[dec_true h.1,dec_true (show n<((15:Nat):Int) by omega)]
 rfl
def vOf (op imm ra d n m ld:Int):Int :=
 bif op==3 then imm
 else bif op==4 then(insN (wn d) (wn imm) 16 16:Nat)
 else bif op==5 then(wn m*2 ^ kk imm % 4294967296:Nat)
 else bif op==6 then(wn m / 2 ^ kk imm:Nat)
 else bif op==7 then(wn (sw (wn m) / (2 ^ kk imm:Nat)):Nat)
 else bif op==8 then(wn m / 2 ^ kk imm+wn m % 2 ^ kk imm*2 ^ (32-kk imm):Nat)
 else bif op==9 then(4294967295-wn m:Nat)
 else bif op==10 then(wn n &&& wn m:Nat)
 else bif op==11 then(wn n &&& wn ((4294967295-wn m:Nat):Int):Nat)
 else bif op==12 then(wn n |||wn m:Nat)
 else bif op==13 then(wn n ^^^ wn m:Nat)
 else bif op==14 then(wn (n+m):Nat)
 else bif op==15 then(wn (n-m):Nat)
 else bif op==16||op==17 then(wn n*wn m % 4294967296:Nat)
 else bif op==18 then(insN (wn d) (wn n) imm.toNat ra.toNat:Nat)
 else bif op==19 then(wn ld:Nat)
 else bif op==21 then(wn ld % 256:Nat)
 else d
def makesRd (op:Int):Bool:=decide (3≤op)&&decide (op≤19)||op==21
def rg (l:List Int) (k:Int):Int:=l.getD (Int.toNat k) 0
def regsOf (r:List Int) (op rd rn rm ra imm ld:Int):List Int :=
 bif op==17 then(r.set rd.toNat (wn (rg r rn)*wn (rg r rm) % 4294967296:Nat)).set ra.toNat (wn (rg r rn)*wn (rg r rm) / 4294967296:Nat)
 else bif makesRd op then r.set rd.toNat (vOf op imm ra (rg r rd) (rg r rn) (rg r rm) ld)
 else r
def makesS (s:tState.den) (op rd rn rm ra imm ld:Int):tState.den :=
 bif op==23 then qde (s,rg s.1 rn,rg s.1 rm) else(regsOf s.1 op rd rn rm ra imm ld,s.2)
theorem wn_byte (n:Int):(wn (band .i64 n 255):Int)=((wn n % 256:Nat):Int):=by
 have h:band .i64 n 255=n % 256:=band_low n 8 (by omega)
 rw[h]
 unfold wn
 omega
abbrev qhm:List Ty:=[tState,tIns,(.int .i64)]
abbrev qjj:Sh:=Sh.ty tState
def qgf (x:dens qhm):PO (Sh.den qjj) :=
 (.ite (inRange x.2.1.2.2.1 15&&inRange x.2.1.2.2.2.1 15)
  (.ite (x.2.1.1==3)
  (.ite (inRange x.2.1.2.1 15)
   (.ret ((List.set x.1.1 (Int.toNat x.2.1.2.1) x.2.1.2.2.2.2.2.1,x.1.2)))
   .fail)
  (.ite (x.2.1.1==4)
   (.ite (inRange x.2.1.2.1 15)
   (.ite (qc3 (List.getD x.1.1 (Int.toNat x.2.1.2.1) (Ty.dflt (Ty.int IntKind.i64)),x.2.1.2.2.2.2.2.1,16,16))
    (.ite (inRange x.2.1.2.1 15)
    (.ret ((List.set x.1.1 (Int.toNat x.2.1.2.1) (qef (List.getD x.1.1 (Int.toNat x.2.1.2.1) (Ty.dflt (Ty.int IntKind.i64)),x.2.1.2.2.2.2.2.1,16,16)),x.1.2)))
    .fail)
    .fail)
   .fail)
   (.ite (bif x.2.1.1==5 then x.2.1.1==5 else bif x.2.1.1==6 then x.2.1.1==6 else bif x.2.1.1==7 then x.2.1.1==7 else x.2.1.1==8)
   (.ite (inRange x.2.1.2.1 15)
    (.ret ((List.set x.1.1 (Int.toNat x.2.1.2.1) (qfV (x.2.1.1,List.getD x.1.1 (Int.toNat x.2.1.2.2.2.1) (Ty.dflt (Ty.int IntKind.i64)),x.2.1.2.2.2.2.2.1)),x.1.2)))
    .fail)
   (.ite (x.2.1.1==9)
    (.ite (inRange x.2.1.2.1 15)
    (.ret ((List.set x.1.1 (Int.toNat x.2.1.2.1) (qbx (List.getD x.1.1 (Int.toNat x.2.1.2.2.2.1) (Ty.dflt (Ty.int IntKind.i64)))),x.1.2)))
    .fail)
    (.ite (bif x.2.1.1==10 then x.2.1.1==10 else bif x.2.1.1==11 then x.2.1.1==11 else bif x.2.1.1==12 then x.2.1.1==12 else bif x.2.1.1==13 then x.2.1.1==13 else bif x.2.1.1==14 then x.2.1.1==14 else bif x.2.1.1==15 then x.2.1.1==15 else x.2.1.1==16)
    (.ite (inRange x.2.1.2.1 15)
     (.ret ((List.set x.1.1 (Int.toNat x.2.1.2.1) (qjp (x.2.1.1,List.getD x.1.1 (Int.toNat x.2.1.2.2.1) (Ty.dflt (Ty.int IntKind.i64)),List.getD x.1.1 (Int.toNat x.2.1.2.2.2.1) (Ty.dflt (Ty.int IntKind.i64)))),x.1.2)))
     .fail)
    (.ite (x.2.1.1==17)
     (.ite (inRange x.2.1.2.1 15)
     (.ite (inRange x.2.1.2.2.2.2.1 15)
      (.ret ((List.set (List.set x.1.1 (Int.toNat x.2.1.2.1) (qeP (List.getD x.1.1 (Int.toNat x.2.1.2.2.1) (Ty.dflt (Ty.int IntKind.i64)),List.getD x.1.1 (Int.toNat x.2.1.2.2.2.1) (Ty.dflt (Ty.int IntKind.i64))))) (Int.toNat x.2.1.2.2.2.2.1) (qge (List.getD x.1.1 (Int.toNat x.2.1.2.2.1) (Ty.dflt (Ty.int IntKind.i64)),List.getD x.1.1 (Int.toNat x.2.1.2.2.2.1) (Ty.dflt (Ty.int IntKind.i64)))),x.1.2)))
      .fail)
     .fail)
     (.ite (x.2.1.1==18)
     (.ite (inRange x.2.1.2.1 15)
      (.ite (qc3 (List.getD x.1.1 (Int.toNat x.2.1.2.1) (Ty.dflt (Ty.int IntKind.i64)),List.getD x.1.1 (Int.toNat x.2.1.2.2.1) (Ty.dflt (Ty.int IntKind.i64)),x.2.1.2.2.2.2.2.1,x.2.1.2.2.2.2.1))
      (.ite (inRange x.2.1.2.1 15)
       (.ret ((List.set x.1.1 (Int.toNat x.2.1.2.1) (qef (List.getD x.1.1 (Int.toNat x.2.1.2.1) (Ty.dflt (Ty.int IntKind.i64)),List.getD x.1.1 (Int.toNat x.2.1.2.2.1) (Ty.dflt (Ty.int IntKind.i64)),x.2.1.2.2.2.2.2.1,x.2.1.2.2.2.2.1)),x.1.2)))
       .fail)
      .fail)
      .fail)
     (.ite (x.2.1.1==21)
      (.ite (inRange x.2.1.2.1 15)
      (.ret ((List.set x.1.1 (Int.toNat x.2.1.2.1) (qp (band IntKind.i64 x.2.2 255)),x.1.2)))
      .fail)
      (.ite (x.2.1.1==19)
      (.ite (inRange x.2.1.2.1 15)
       (.ret ((List.set x.1.1 (Int.toNat x.2.1.2.1) (qp x.2.2),x.1.2)))
       .fail)
      (.ite (x.2.1.1==23)
       (.ret (qde (x.1,List.getD x.1.1 (Int.toNat x.2.1.2.2.1) (Ty.dflt (Ty.int IntKind.i64)),List.getD x.1.1 (Int.toNat x.2.1.2.2.2.1) (Ty.dflt (Ty.int IntKind.i64)))))
       (.ret (x.1))))))))))))
  .fail)
set_option maxHeartbeats 1000000 in
theorem makes_val (s:tState.den) (op rd rn rm ra imm cond ld:Int) (w:Bool) (h:qd (op,rd,rn,rm,ra,imm,cond,w,())=0):(qgf (s,(op,rd,rn,rm,ra,imm,cond,w,()),ld)).val=some (makesS s op rd rn rm ra imm ld):=by
 obtain⟨hop,hrd,hrn,hrm,h17,himm,h31,h18,_⟩:=check_bounds h
 have i1:=inR15 hrd
 have i2:=inR15 hrn
 have i3:=inR15 hrm
 have hb:=wn_byte ld
 rcases op_cases op with rfl |rfl |rfl |rfl |rfl |rfl |rfl |rfl |rfl |rfl |rfl |rfl |rfl |rfl |rfl |rfl |rfl |rfl |rfl |rfl |rfl |rfl |rfl |rfl |rfl |hx
 case inr.inr.inr.inr.inr.inr.inr.inr.inr.inr.inr.inr.inr.inr.inr.inr.inr.inr.inr.inr.inr.inr.inr.inr.inr=>omega
 case inr.inr.inr.inr.inr.inr.inr.inr.inr.inr.inr.inr.inr.inr.inr.inr.inl =>
  have i4:=inR15 ⟨(h17 rfl).1,(h17 rfl).2.1⟩
  simp[qgf,PO.val,i1,i2,i3,i4,makesS,regsOf,rg,qeP,qge,dflt_i64]
 case inr.inr.inr.inr.inr.inr.inr.inr.inr.inr.inr.inr.inr.inr.inr.inr.inr.inl =>
  obtain⟨a1,a2,_⟩:=himm (by omega) (by omega)
  obtain⟨a3,a4⟩:=h18 rfl
  have a5:=h31 (by omega) (by omega)
  have g:∀m f:Int,qc3 (m,f,imm,ra)=true:=fun m f=>by
   simp only[qc3,Bool.and_eq_true,decide_eq_true_eq]
   exact⟨a1,by show(0:Int)≤ra;omega,by show imm+ra≤32;omega,by show imm<32;omega⟩
  simp[qgf,PO.val,i1,i2,i3,g,makesS,regsOf,makesRd,vOf,rg,qef,dflt_i64]
 all_goals
  first
  |(have g:∀m:Int,qc3 (m,imm,16,16)=true:=fun _=>rfl
    simp[qgf,PO.val,i1,i2,i3,g,makesS,regsOf,makesRd,vOf,rg,qef,qfV,qgc,qjp,qjr,PO.getO,qg0,qeG,qip,qiC,qbx,qeK,qeN,qdu,qdv,qdY,qeP,qp,hb,dflt_i64];done)
def qhj (x:dens qhm):Bool:=qd x.2.1==0
def qgg (x:dens qhm):Sh.den qjj:=makesS x.1 x.2.1.1 x.2.1.2.1 x.2.1.2.2.1 x.2.1.2.2.2.1 x.2.1.2.2.2.2.1 x.2.1.2.2.2.2.2.1 x.2.2
theorem qmy (x:dens qhm) (h:qhj x=true):(qgf x).val=some (qgg x):=by
 obtain⟨s,⟨op,rd,rn,rm,ra,imm,cond,w,u⟩,ld⟩:=x
 exact makes_val s op rd rn rm ra imm cond ld w (by simpa [qhj] using h)
abbrev qgw:List Ty:=[tState,tIns]
abbrev qit:Sh:=Sh.tup (Sh.pair (Sh.ty tAccess) (Sh.pair (Sh.ty Ty.bool) (Sh.ty Ty.unit)))
def qgS (x:dens qgw):PO (Sh.den qit) :=
 (.ite (qd x.2 != 0)
  (.ret (((0,0,0,false,()),false,())))
  (.ite (qd4 x.1)
  (.ite (inRange x.2.2.2.1 15)
   (.ite (x.2.1==19)
   (.ret (((List.getD (qX x.1).1 (Int.toNat x.2.2.2.1) (Ty.dflt (Ty.int IntKind.i64)),4,0,false,()),true,())))
   (.ite (x.2.1==21)
    (.ret (((List.getD (qX x.1).1 (Int.toNat x.2.2.2.1) (Ty.dflt (Ty.int IntKind.i64)),1,0,false,()),true,())))
    (.ite (x.2.1==20)
    (.ite (inRange x.2.2.1 15)
     (.ret (((List.getD (qX x.1).1 (Int.toNat x.2.2.2.1) (Ty.dflt (Ty.int IntKind.i64)),4,List.getD (qX x.1).1 (Int.toNat x.2.2.1) (Ty.dflt (Ty.int IntKind.i64)),true,()),true,())))
     .fail)
    (.ite (x.2.1==22)
     (.ite (inRange x.2.2.1 15)
     (.ret (((List.getD (qX x.1).1 (Int.toNat x.2.2.2.1) (Ty.dflt (Ty.int IntKind.i64)),1,band IntKind.i64 (List.getD (qX x.1).1 (Int.toNat x.2.2.1) (Ty.dflt (Ty.int IntKind.i64))) 255,true,()),true,())))
     .fail)
     (.ret (((0,0,0,false,()),false,())))))))
   .fail)
  .fail))
theorem wordR_get (l:List Int) (k:Nat):(wordR l).getD k 0=(wn (l.getD k 0):Int):=by
 unfold wordR
 rw[List.getD_eq_getElem?_getD,List.getD_eq_getElem?_getD,List.getElem?_map]
 cases l[k]?<;>rfl
def accessV (bad:Bool) (op a d:Int):(tAccess.den×Bool×Unit) :=
 bif bad then((0,0,0,false,()),false,())
 else bif op==19 then((wn a,4,0,false,()),true,())
 else bif op==20 then((wn a,4,wn d,true,()),true,())
 else bif op==21 then((wn a,1,0,false,()),true,())
 else bif op==22 then((wn a,1,(wn d % 256:Nat),true,()),true,())
 else((0,0,0,false,()),false,())
theorem band_byte (m:Nat):band .i64 (m:Int) 255=((m % 256:Nat):Int):=by
 have h:band .i64 (m:Int) 255=(m:Int) % 256:=band_low m 8 (by omega)
 rw[h]
 omega
def qct (x:dens qgw):Bool:=decide (List.length x.1.1=15)
def qc (x:dens qgw):Sh.den qit:=accessV (qd x.2 != 0) x.2.1 (rg x.1.1 x.2.2.2.1) (rg x.1.1 x.2.2.1)
theorem access_val (s:tState.den) (op rd rn rm ra imm cond:Int) (w:Bool) (hs:List.length s.1=15):(qgS (s,(op,rd,rn,rm,ra,imm,cond,w,()))).val=some (accessV (qd (op,rd,rn,rm,ra,imm,cond,w,()) != 0) op (rg s.1 rn) (rg s.1 rd)):=by
 cases hc:(qd (op,rd,rn,rm,ra,imm,cond,w,()) != (0:Int))
 ·have h:qd (op,rd,rn,rm,ra,imm,cond,w,())=0:=by simpa using hc
  obtain⟨hop,hrd,hrn,_⟩:=check_bounds h
  have i1:=inR15 hrd
  have i2:=inR15 hrn
  have g:qd4 s=true:=dec_true hs
  have e1:∀k:Int,List.getD (qX s).1 (Int.toNat k) 0=(wn (rg s.1 k):Int):=fun k=>wordR_get s.1 _
  simp only[qgS,PO.val,hc,i1,i2,g,dflt_i64]
  rw[e1,e1,band_byte]
  unfold accessV
  by_cases h19:op=19
  ·subst h19;rfl
  ·by_cases h20:op=20
   ·subst h20;rfl
   ·by_cases h21:op=21
    ·subst h21;rfl
    ·by_cases h22:op=22
     ·subst h22;rfl
     ·have b19:(op==19)=false:=beq_eq_false_iff_ne.2 h19
      have b20:(op==20)=false:=beq_eq_false_iff_ne.2 h20
      have b21:(op==21)=false:=beq_eq_false_iff_ne.2 h21
      have b22:(op==22)=false:=beq_eq_false_iff_ne.2 h22
      simp[b19,b20,b21,b22]
 ·simp[qgS,PO.val,hc,accessV]
theorem qmq (x:dens qgw) (h:qct x=true):(qgS x).val=some (qc x):=by
 obtain⟨s,op,rd,rn,rm,ra,imm,cond,w,u⟩:=x
 exact access_val s op rd rn rm ra imm cond w (of_decide_eq_true h)
end Go.Av
end
