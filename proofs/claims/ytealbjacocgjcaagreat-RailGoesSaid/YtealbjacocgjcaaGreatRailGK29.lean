/- Texts of the proof, one behind the other. -/
import Derived.Test.YtealbjacocgjcaaGreatRailGK26
import Derived.Test.YtealbjacocgjcaaGreatRailGK28
import Derived.Test.YtealbjacocgjcaaGreatRailGK21
section
namespace Go.Av
open Go
abbrev tHead:Ty:=.pair (.int .i64) (.pair (.int .i64) (.pair tSizes (.pair (.int .i64) .unit)))
abbrev tFetched:Ty:=.pair tIns (.pair (.int .i64) (.pair .bool (.pair .bool .unit)))
abbrev shMachB (m c:Nat):Sh:=.pair (.ty tHead) (.pair (.ty .str) (.pair (.box m 0) (.pair (.ty tState) (.pair (.ty .bool) (.pair (.win c tFetched) (.ty .unit))))))
abbrev shMach:Sh:=shMachB 1 2
abbrev hsMach:List Sh:=[shMach,shMemB 3,.rowc tFetched,.rowc (.int .u8)]
abbrev MS:Type:=shDens hsMach
abbrev MS.mem (y:MS):MemT:=(y.2.1,y.2.2.2)
abbrev qhd:List Ty:=[(.int .i64),(.int .i64)]
abbrev qjj:Sh:=Sh.ty (Ty.int IntKind.i64)
def qlG (x:dens qhd):PO (Sh.den qjj) :=
 (.ite (!decide (qbm x.2<0)&&true)
  (.ret (qdo (x.1,ishl IntKind.i64 1 (qbm x.2))))
  .fail)
def qji (_:dens qhd):Bool:=true
def qeZ (x:dens qhd):Sh.den qjj:=qdo (x.1,ishl IntKind.i64 1 (qbm x.2))
theorem qm4 (x:dens qhd) (_:qji x=true):(qlG x).val=some (qeZ x):=by
 refine(val_yes ?_).trans rfl
 have:¬qbm x.2<0:=by
  show ¬((kk x.2:Nat):Int)<0
  omega
 simp[this]
abbrev qeO:List Ty:=[tFault]
abbrev qgn:Sh:=Sh.ty (Ty.int IntKind.i64)
def qeC (x:dens qeO):PO (Sh.den qgn) :=
 (.ite (!bif bif x.1==0 then x.1==0 else x.1==1 then decide (x.2.1≥0) else bif x.1==2 then decide (x.2.1≥0)&&(decide (x.2.2.1≥0)&&(decide (x.2.2.1≤14)&&(decide (x.2.2.2.1≥0)&&decide (x.2.2.2.1<32)))) else x.1==3&&(decide (x.2.1≥0)&&(decide (x.2.2.2.1≥0)&&decide (x.2.2.2.1<4))))
  (.ret (2))
  (.ret (0)))
def qia (_:dens qeO):Bool:=true
def qp (x:dens qeO):Sh.den qgn:=(qeC x).getO default
theorem qlX (x:dens qeO) (_:qia x=true):(qeC x).val=some (qp x):=PO.sure_ok default (by simp[qeC,PO.sure])
def qbj (s:tState.den) (f:tFault.den):tState.den :=
 bif f.1==2 then(List.set s.1 (Int.toNat f.2.2.1) (qeZ (List.getD s.1 (Int.toNat f.2.2.1) (Ty.dflt (.int .i64)),f.2.2.2.1)),s.2)
 else bif f.1==3 then
  (bif f.2.2.2.1==0 then(s.1,s.2.1,!s.2.2.1,s.2.2.2)
   else bif f.2.2.2.1==1 then(s.1,s.2.1,s.2.2.1,!s.2.2.2.1,s.2.2.2.2)
   else bif f.2.2.2.1==2 then(s.1,s.2.1,s.2.2.1,s.2.2.2.1,!s.2.2.2.2.1,s.2.2.2.2.2)
   else bif f.2.2.2.1==3 then(s.1,s.2.1,s.2.2.1,s.2.2.2.1,s.2.2.2.2.1,!s.2.2.2.2.2.1,s.2.2.2.2.2.2)
   else s)
 else s
abbrev qcr:List Sh:=[.box 0 0,.ty tFault]
abbrev qcA:List Sh:=[shMach,shMemB 3,.rowc tFetched,.rowc (.int .u8)]
abbrev qdF:Sh:=Sh.tup (Sh.ty Ty.unit)
abbrev qe3:List Sh:=[Sh.pair (Sh.ty (Ty.pair (Ty.int IntKind.i64) (Ty.pair (Ty.int IntKind.i64) (Ty.pair tSizes (Ty.pair (Ty.int IntKind.i64) Ty.unit))))) (Sh.pair (Sh.ty Ty.str) (Sh.pair (Sh.box 1 0) (Sh.pair (Sh.ty tState) (Sh.pair (Sh.ty Ty.bool) (Sh.pair (Sh.win 2 (Ty.pair tIns (Ty.pair (Ty.int IntKind.i64) (Ty.pair Ty.bool (Ty.pair Ty.bool Ty.unit))))) (Sh.ty Ty.unit)))))),Sh.pair (Sh.ty (Ty.sl tSpot)) (Sh.pair (Sh.wsl none 3 (Ty.int IntKind.u8)) (Sh.ty Ty.unit)),Sh.rowc (Ty.pair tIns (Ty.pair (Ty.int IntKind.i64) (Ty.pair Ty.bool (Ty.pair Ty.bool Ty.unit)))),Sh.rowc (Ty.int IntKind.u8)]
def qfh (x:shDens qcr) (y:shDens qcA):PO (Sh.den qdF×shDens qe3) :=
 (.ite (x.2.1==2)
  (.ite (inRange x.2.2.2.1 15)
  (.ite (qji (List.getD y.1.2.2.2.1.1 (Int.toNat x.2.2.2.1) (Ty.dflt (Ty.int IntKind.i64)),x.2.2.2.2.1))
   (.ite (inRange x.2.2.2.1 15)
   (.ret ((),((y.1.1,y.1.2.1,(),(List.set y.1.2.2.2.1.1 (Int.toNat x.2.2.2.1) (qeZ (List.getD y.1.2.2.2.1.1 (Int.toNat x.2.2.2.1) (Ty.dflt (Ty.int IntKind.i64)),x.2.2.2.2.1)),y.1.2.2.2.1.2),y.1.2.2.2.2),y.2.1,y.2.2.1,y.2.2.2)))
   .fail)
   .fail)
  .fail)
  (.ite (x.2.1==3)
  (.ite (x.2.2.2.2.1==0)
   (.ret ((),((y.1.1,y.1.2.1,(),(y.1.2.2.2.1.1,y.1.2.2.2.1.2.1,!y.1.2.2.2.1.2.2.1,y.1.2.2.2.1.2.2.2),y.1.2.2.2.2),y.2.1,y.2.2.1,y.2.2.2)))
   (.ite (x.2.2.2.2.1==1)
   (.ret ((),((y.1.1,y.1.2.1,(),(y.1.2.2.2.1.1,y.1.2.2.2.1.2.1,y.1.2.2.2.1.2.2.1,!y.1.2.2.2.1.2.2.2.1,y.1.2.2.2.1.2.2.2.2),y.1.2.2.2.2),y.2.1,y.2.2.1,y.2.2.2)))
   (.ite (x.2.2.2.2.1==2)
    (.ret ((),((y.1.1,y.1.2.1,(),(y.1.2.2.2.1.1,y.1.2.2.2.1.2.1,y.1.2.2.2.1.2.2.1,y.1.2.2.2.1.2.2.2.1,!y.1.2.2.2.1.2.2.2.2.1,y.1.2.2.2.1.2.2.2.2.2),y.1.2.2.2.2),y.2.1,y.2.2.1,y.2.2.2)))
    (.ite (x.2.2.2.2.1==3)
    (.ret ((),((y.1.1,y.1.2.1,(),(y.1.2.2.2.1.1,y.1.2.2.2.1.2.1,y.1.2.2.2.1.2.2.1,y.1.2.2.2.1.2.2.2.1,y.1.2.2.2.1.2.2.2.2.1,!y.1.2.2.2.1.2.2.2.2.2.1,y.1.2.2.2.1.2.2.2.2.2.2),y.1.2.2.2.2),y.2.1,y.2.2.1,y.2.2.2)))
    (.ret ((),((y.1.1,y.1.2.1,(),y.1.2.2.2),y.2.1,y.2.2.1,y.2.2.2)))))))
  (.ret ((),((y.1.1,y.1.2.1,(),y.1.2.2.2),y.2.1,y.2.2.1,y.2.2.2)))))
def qbJ (x:shDens qcr) (_:shDens qcA):Bool:=!(x.2.1==(2:Int))||inRange x.2.2.2.1 15
abbrev qdD (x:shDens qcr) (y:shDens qcA):Sh.den qdF×shDens qe3:=((),((y.1.1,y.1.2.1,(),qbj y.1.2.2.2.1 x.2,y.1.2.2.2.2),y.2.1,y.2.2.1,y.2.2.2))
theorem qkO (x:shDens qcr) (y:shDens qcA) (h:qbJ x y=true):(qfh x y).val=some (qdD x y):=by
 obtain⟨_,k,p,r,b,_⟩:=x
 unfold qbJ at h
 simp only[qfh,qdD,qbj,PO.val]
 simp only at h
 cases h2:(k==(2:Int))
 ·cases h3:(k==(3:Int))
  ·rfl
  ·cases h4:(b==(0:Int))<;>cases h5:(b==(1:Int))<;>cases h6:(b==(2:Int))<;>cases h7:(b==(3:Int))<;>simp only[cond_true,cond_false]
 ·rw[h2] at h
  simp only[Bool.not_true,Bool.false_or] at h
  rw[h]
  rfl
def qbA:LoopN where
 M:=[0,2,3,4]
 T:=[5,6,7,8,14,15,16,17,18,19,20,21,22,23,24,25,26,27,28,29,30,31,32,33,34,35,36,37,38,39,40,41,42,43,44,45,46,47,48,49,50,51,52,53,54,55,56,57,58,59,60,61,62,63,64,65,66,67,68,69,70,71]
 D:=[0,4]
 ss:=[.box 0 0,.box 1 0,.ty (.int .i64),.ty (.int .i64)]
 hs:=[(shMachB 2 3),(.ty tIns),(shMemB 4),.rowc tFetched,.rowc (.int .u8)]
 es:=[.ret,.panic [⟨.iface 148 (.agg #[.int .i64 0]),false,false⟩]]
 σ:=(Ty.den (.int .i64))×(Sh.den ((shMachB 2 3)))×(Sh.den ((.ty tIns)))×(Sh.den ((shMemB 4)))×(Sh.den (.rowc tFetched))×(Sh.den (.rowc (.int .u8)))
 x0:=fun x y=>(x.2.2.1,y.1,y.2.1,y.2.2.1,y.2.2.2.1,y.2.2.2.2)
 put:=fun x _ s=>((x.1,x.2.1,s.1,x.2.2.2),(s.2.1,s.2.2.1,s.2.2.2.1,s.2.2.2.2.1,s.2.2.2.2.2))
 fuel:=fun _ _=>1
 turn:=fun x _ s =>
 (.ite (band IntKind.i64 x.2.2.2 1 != 0||decide (x.2.2.2≥lenI s.2.1.2.1))
  (.ret (.out 1 (s.1,s.2.1,s.2.2.1,s.2.2.2.1,s.2.2.2.2.1,s.2.2.2.2.2)))
  (.ite (inRange (w64 (Int.tdiv x.2.2.2 2)) s.2.1.2.2.2.2.2.1.2)
  (.ite (!(List.getD s.2.2.2.2.1 (nplus s.2.1.2.2.2.2.2.1.1 (w64 (Int.tdiv x.2.2.2 2))) (Ty.dflt tFetched)).2.2.1)
   (.ite (decide (lenI s.2.1.2.1≤lenI s.2.1.2.1)&&decide (0≤x.2.2.2)&&decide (x.2.2.2≤lenI s.2.1.2.1))
   (.ite (qdB (List.drop (Int.toNat x.2.2.2) (List.take (Int.toNat (lenI s.2.1.2.1)) s.2.1.2.1)))
    (.ite ((List.getD (List.set s.2.2.2.2.1 (nplus s.2.1.2.2.2.2.2.1.1 (w64 (Int.tdiv x.2.2.2 2))) ((ql (List.drop (Int.toNat x.2.2.2) (List.take (Int.toNat (lenI s.2.1.2.1)) s.2.1.2.1))).1,(ql (List.drop (Int.toNat x.2.2.2) (List.take (Int.toNat (lenI s.2.1.2.1)) s.2.1.2.1))).2.1,true,(ql (List.drop (Int.toNat x.2.2.2) (List.take (Int.toNat (lenI s.2.1.2.1)) s.2.1.2.1))).2.2.1 != 0,())) (nplus s.2.1.2.2.2.2.2.1.1 (w64 (Int.tdiv x.2.2.2 2))) (Ty.dflt tFetched)).2.2.2.1)
    (.ret (.out 1 (s.1,s.2.1,s.2.2.1,s.2.2.2.1,List.set s.2.2.2.2.1 (nplus s.2.1.2.2.2.2.2.1.1 (w64 (Int.tdiv x.2.2.2 2))) ((ql (List.drop (Int.toNat x.2.2.2) (List.take (Int.toNat (lenI s.2.1.2.1)) s.2.1.2.1))).1,(ql (List.drop (Int.toNat x.2.2.2) (List.take (Int.toNat (lenI s.2.1.2.1)) s.2.1.2.1))).2.1,true,(ql (List.drop (Int.toNat x.2.2.2) (List.take (Int.toNat (lenI s.2.1.2.1)) s.2.1.2.1))).2.2.1 != 0,()),s.2.2.2.2.2)))
    (.ret (.out 0 ((List.getD (List.set s.2.2.2.2.1 (nplus s.2.1.2.2.2.2.2.1.1 (w64 (Int.tdiv x.2.2.2 2))) ((ql (List.drop (Int.toNat x.2.2.2) (List.take (Int.toNat (lenI s.2.1.2.1)) s.2.1.2.1))).1,(ql (List.drop (Int.toNat x.2.2.2) (List.take (Int.toNat (lenI s.2.1.2.1)) s.2.1.2.1))).2.1,true,(ql (List.drop (Int.toNat x.2.2.2) (List.take (Int.toNat (lenI s.2.1.2.1)) s.2.1.2.1))).2.2.1 != 0,())) (nplus s.2.1.2.2.2.2.2.1.1 (w64 (Int.tdiv x.2.2.2 2))) (Ty.dflt tFetched)).2.1,s.2.1,(List.getD (List.set s.2.2.2.2.1 (nplus s.2.1.2.2.2.2.2.1.1 (w64 (Int.tdiv x.2.2.2 2))) ((ql (List.drop (Int.toNat x.2.2.2) (List.take (Int.toNat (lenI s.2.1.2.1)) s.2.1.2.1))).1,(ql (List.drop (Int.toNat x.2.2.2) (List.take (Int.toNat (lenI s.2.1.2.1)) s.2.1.2.1))).2.1,true,(ql (List.drop (Int.toNat x.2.2.2) (List.take (Int.toNat (lenI s.2.1.2.1)) s.2.1.2.1))).2.2.1 != 0,())) (nplus s.2.1.2.2.2.2.2.1.1 (w64 (Int.tdiv x.2.2.2 2))) (Ty.dflt tFetched)).1,s.2.2.2.1,List.set s.2.2.2.2.1 (nplus s.2.1.2.2.2.2.2.1.1 (w64 (Int.tdiv x.2.2.2 2))) ((ql (List.drop (Int.toNat x.2.2.2) (List.take (Int.toNat (lenI s.2.1.2.1)) s.2.1.2.1))).1,(ql (List.drop (Int.toNat x.2.2.2) (List.take (Int.toNat (lenI s.2.1.2.1)) s.2.1.2.1))).2.1,true,(ql (List.drop (Int.toNat x.2.2.2) (List.take (Int.toNat (lenI s.2.1.2.1)) s.2.1.2.1))).2.2.1 != 0,()),s.2.2.2.2.2))))
    .fail)
   .fail)
   (.ite ((List.getD s.2.2.2.2.1 (nplus s.2.1.2.2.2.2.2.1.1 (w64 (Int.tdiv x.2.2.2 2))) (Ty.dflt tFetched)).2.2.2.1)
   (.ret (.out 1 (s.1,s.2.1,s.2.2.1,s.2.2.2.1,s.2.2.2.2.1,s.2.2.2.2.2)))
   (.ret (.out 0 ((List.getD s.2.2.2.2.1 (nplus s.2.1.2.2.2.2.2.1.1 (w64 (Int.tdiv x.2.2.2 2))) (Ty.dflt tFetched)).2.1,s.2.1,(List.getD s.2.2.2.2.1 (nplus s.2.1.2.2.2.2.2.1.1 (w64 (Int.tdiv x.2.2.2 2))) (Ty.dflt tFetched)).1,s.2.2.2.1,s.2.2.2.2.1,s.2.2.2.2.2)))))
  .fail))
abbrev qcc:List Sh:=[.box 0 0]
abbrev qcd:List Sh:=[shMach,shMemB 3,.rowc tFetched,.rowc (.int .u8)]
abbrev qdk:Sh:=Sh.ty Ty.bool
abbrev qev:List Sh:=[Sh.pair (Sh.ty (Ty.pair (Ty.int IntKind.i64) (Ty.pair (Ty.int IntKind.i64) (Ty.pair tSizes (Ty.pair (Ty.int IntKind.i64) Ty.unit))))) (Sh.pair (Sh.ty Ty.str) (Sh.pair (Sh.box 1 0) (Sh.pair (Sh.ty tState) (Sh.pair (Sh.ty Ty.bool) (Sh.pair (Sh.win 2 (Ty.pair tIns (Ty.pair (Ty.int IntKind.i64) (Ty.pair Ty.bool (Ty.pair Ty.bool Ty.unit))))) (Sh.ty Ty.unit)))))),Sh.pair (Sh.ty (Ty.sl tSpot)) (Sh.pair (Sh.wsl none 3 (Ty.int IntKind.u8)) (Sh.ty Ty.unit)),Sh.rowc (Ty.pair tIns (Ty.pair (Ty.int IntKind.i64) (Ty.pair Ty.bool (Ty.pair Ty.bool Ty.unit)))),Sh.rowc (Ty.int IntKind.u8)]
def qhn (_:shDens qcc) (y:shDens qcd):PO (Sh.den qdk×shDens qev) :=
 (.ret (y.1.2.2.2.2.1,((y.1.1,y.1.2.1,(),y.1.2.2.2),y.2.1,y.2.2.1,y.2.2.2)))
def qe4 (_:shDens qcc) (_:shDens qcd):Bool:=true
abbrev qe7 (_:shDens qcc) (y:shDens qcd):Sh.den qdk×shDens qev:=(y.1.2.2.2.2.1,y)
theorem qkw (x:shDens qcc) (y:shDens qcd) (_:qe4 x y=true):(qhn x y).val=some (qe7 x y):=rfl
abbrev qbY:List Sh:=[.box 0 0]
abbrev qbZ:List Sh:=[shMach,shMemB 3,.rowc tFetched,.rowc (.int .u8)]
abbrev qda:Sh:=Sh.ty tState
abbrev qef:List Sh:=[Sh.pair (Sh.ty (Ty.pair (Ty.int IntKind.i64) (Ty.pair (Ty.int IntKind.i64) (Ty.pair tSizes (Ty.pair (Ty.int IntKind.i64) Ty.unit))))) (Sh.pair (Sh.ty Ty.str) (Sh.pair (Sh.box 1 0) (Sh.pair (Sh.ty tState) (Sh.pair (Sh.ty Ty.bool) (Sh.pair (Sh.win 2 (Ty.pair tIns (Ty.pair (Ty.int IntKind.i64) (Ty.pair Ty.bool (Ty.pair Ty.bool Ty.unit))))) (Sh.ty Ty.unit)))))),Sh.pair (Sh.ty (Ty.sl tSpot)) (Sh.pair (Sh.wsl none 3 (Ty.int IntKind.u8)) (Sh.ty Ty.unit)),Sh.rowc (Ty.pair tIns (Ty.pair (Ty.int IntKind.i64) (Ty.pair Ty.bool (Ty.pair Ty.bool Ty.unit)))),Sh.rowc (Ty.int IntKind.u8)]
def qhb (_:shDens qbY) (y:shDens qbZ):PO (Sh.den qda×shDens qef) :=
 (.ret (y.1.2.2.2.1,((y.1.1,y.1.2.1,(),y.1.2.2.2),y.2.1,y.2.2.1,y.2.2.2)))
def qes (_:shDens qbY) (_:shDens qbZ):Bool:=true
abbrev qeo (_:shDens qbY) (y:shDens qbZ):Sh.den qda×shDens qef:=(y.1.2.2.2.1,y)
theorem qkl (x:shDens qbY) (y:shDens qbZ) (_:qes x y=true):(qhb x y).val=some (qeo x y):=rfl
def qlp (k:Int) (y:MemT):List UInt8×Int×Unit:=regionM y k
def qlw (a:Int) (y:MemT):Int:=(loadM y a 4).1
abbrev qbG:List Sh:=[.box 0 0,.ty (.int .i64)]
abbrev qbH:List Sh:=[shMach,shMemB 3,.rowc tFetched,.rowc (.int .u8)]
abbrev qc5:Sh:=Sh.ty (Ty.int IntKind.i64)
abbrev qdQ:List Sh:=[Sh.pair (Sh.ty (Ty.pair (Ty.int IntKind.i64) (Ty.pair (Ty.int IntKind.i64) (Ty.pair tSizes (Ty.pair (Ty.int IntKind.i64) Ty.unit))))) (Sh.pair (Sh.ty Ty.str) (Sh.pair (Sh.box 1 0) (Sh.pair (Sh.ty tState) (Sh.pair (Sh.ty Ty.bool) (Sh.pair (Sh.win 2 (Ty.pair tIns (Ty.pair (Ty.int IntKind.i64) (Ty.pair Ty.bool (Ty.pair Ty.bool Ty.unit))))) (Sh.ty Ty.unit)))))),Sh.pair (Sh.ty (Ty.sl tSpot)) (Sh.pair (Sh.wsl none 3 (Ty.int IntKind.u8)) (Sh.ty Ty.unit)),Sh.rowc (Ty.pair tIns (Ty.pair (Ty.int IntKind.i64) (Ty.pair Ty.bool (Ty.pair Ty.bool Ty.unit)))),Sh.rowc (Ty.int IntKind.u8)]
def qgO (x:shDens qbG) (y:shDens qbH):PO (Sh.den qc5×shDens qdQ) :=
 (.ite (qbq ((),x.2,4) (y.2.1,y.2.2.2))
  (.ret ((qm ((),x.2,4) (y.2.1,y.2.2.2)).1.1,((y.1.1,y.1.2.1,(),y.1.2.2.2),(qm ((),x.2,4) (y.2.1,y.2.2.2)).2.1,y.2.2.1,(qm ((),x.2,4) (y.2.1,y.2.2.2)).2.2)))
  .fail)
def qbU (x:shDens qbG) (y:shDens qbH):Bool:=decide (MemWf (y.2.1,y.2.2.2)∧(show Int from x.2)<9223372036854775808)
abbrev qej (x:shDens qbG) (y:shDens qbH):Sh.den qc5×shDens qdQ:=(qlw x.2 (y.2.1,y.2.2.2),y)
theorem qj1 (x:shDens qbG) (y:shDens qbH) (h:qbU x y=true):(qgO x y).val=some (qej x y):=(val_yes h).trans rfl
abbrev qbW:List Sh:=[.box 0 0,.ty (.int .i64)]
abbrev qbT:List Sh:=[shMach,shMemB 3,.rowc tFetched,.rowc (.int .u8)]
abbrev qdd:Sh:=Sh.ty Ty.str
abbrev qeh:List Sh:=[Sh.pair (Sh.ty (Ty.pair (Ty.int IntKind.i64) (Ty.pair (Ty.int IntKind.i64) (Ty.pair tSizes (Ty.pair (Ty.int IntKind.i64) Ty.unit))))) (Sh.pair (Sh.ty Ty.str) (Sh.pair (Sh.box 1 0) (Sh.pair (Sh.ty tState) (Sh.pair (Sh.ty Ty.bool) (Sh.pair (Sh.win 2 (Ty.pair tIns (Ty.pair (Ty.int IntKind.i64) (Ty.pair Ty.bool (Ty.pair Ty.bool Ty.unit))))) (Sh.ty Ty.unit)))))),Sh.pair (Sh.ty (Ty.sl tSpot)) (Sh.pair (Sh.wsl none 3 (Ty.int IntKind.u8)) (Sh.ty Ty.unit)),Sh.rowc (Ty.pair tIns (Ty.pair (Ty.int IntKind.i64) (Ty.pair Ty.bool (Ty.pair Ty.bool Ty.unit)))),Sh.rowc (Ty.int IntKind.u8)]
def qha (x:shDens qbW) (y:shDens qbT):PO (Sh.den qdd×shDens qeh) :=
 (.ret ((qbE ((),x.2) (y.2.1,y.2.2.2)).1.1,((y.1.1,y.1.2.1,(),y.1.2.2.2),(qbE ((),x.2) (y.2.1,y.2.2.2)).2.1,y.2.2.1,(qbE ((),x.2) (y.2.1,y.2.2.2)).2.2)))
def qep (_:shDens qbW) (_:shDens qbT):Bool:=true
abbrev qen (x:shDens qbW) (y:shDens qbT):Sh.den qdd×shDens qeh:=((qlp x.2 (y.2.1,y.2.2.2)).1,y)
theorem qkg (x:shDens qbW) (y:shDens qbT) (_:qep x y=true):(qha x y).val=some (qen x y):=rfl
def fetchX (fl:List UInt8) (pc:Int):Option (tIns.den×Int) :=
 bif band .i64 pc 1 != 0||decide (pc≥lenI fl) then none
 else bif (dDec (fl.drop pc.toNat)).2.2.1 != 0 then none
 else some ((dDec (fl.drop pc.toNat)).1,(dDec (fl.drop pc.toNat)).2.1)
def entX (fl:List UInt8) (k:Nat):tFetched.den:=((dDec (fl.drop (2*k))).1,(dDec (fl.drop (2*k))).2.1,true,(dDec (fl.drop (2*k))).2.2.1 != 0,())
abbrev dfF:tFetched.den:=Ty.dflt tFetched
def cacheX (fl:List UInt8) (pc:Int) (c:List tFetched.den):List tFetched.den :=
 bif band .i64 pc 1 != 0||decide (pc≥lenI fl) then c
 else bif (List.getD c (pc / 2).toNat dfF).2.2.1 then c
 else List.set c (pc / 2).toNat (entX fl (pc / 2).toNat)
instance decIns4:DecidableEq (Int×Int×Int×Bool×Unit):=inferInstance
instance decIns:DecidableEq tIns.den:=inferInstanceAs (DecidableEq (Int×Int×Int×Int×(Int×Int×Int×Bool×Unit)))
instance decFet:DecidableEq tFetched.den:=inferInstanceAs (DecidableEq (tIns.den×(Int×Bool×Bool×Unit)))
def cacheOk (fl:List UInt8) (c:List tFetched.den):Prop:=c.length=fl.length / 2+1∧∀k,k<c.length→(List.getD c k dfF).2.2.1=true→List.getD c k dfF=entX fl k
instance (fl:List UInt8) (c:List tFetched.den):Decidable (cacheOk fl c):=by
 unfold cacheOk
 infer_instance
structure MachWf (y:MS):Prop where
 mem:MemWf y.mem
 regs:List.length y.1.2.2.2.1.1=15
 pc:0≤(show Int from y.1.2.2.2.1.2.1)∧(show Int from y.1.2.2.2.1.2.1)<4294967296
 hand:0≤(show Int from y.1.1.2.1)∧(show Int from y.1.1.2.1)<4294967296
 len:List.length y.1.2.1≤262144
 win:y.1.2.2.2.2.2.1=(0,List.length y.1.2.1 / 2+1)
 cache:cacheOk y.1.2.1 y.2.2.1
instance (y:MS):Decidable (MachWf y) :=
 if h:MemWf y.mem∧List.length y.1.2.2.2.1.1=15∧(0≤(show Int from y.1.2.2.2.1.2.1)∧(show Int from y.1.2.2.2.1.2.1)<4294967296)∧(0≤(show Int from y.1.1.2.1)∧(show Int from y.1.1.2.1)<4294967296)∧List.length y.1.2.1≤262144∧(y.1.2.2.2.2.2.1:Nat×Nat)=(0,List.length y.1.2.1 / 2+1)∧cacheOk y.1.2.1 y.2.2.1
 then isTrue ⟨h.1,h.2.1,h.2.2.1,h.2.2.2.1,h.2.2.2.2.1,h.2.2.2.2.2.1,h.2.2.2.2.2.2⟩ else isFalse fun h'=>h ⟨h'.mem,h'.regs,h'.pc,h'.hand,h'.len,h'.win,h'.cache⟩
theorem fetch_res (fl:List UInt8) (c:List tFetched.den) (hd:tHead.den) (st:tState.den) (dn:Bool) (i0:tIns.den) (t:Int) (M:(shMemB 3).den) (B:List Int)
  (hp:0≤(show Int from st.2.1)∧(show Int from st.2.1)<4294967296) (hc:cacheOk fl c) :
  LoopN.res qbA ((),(),t,st.2.1) ((hd,fl,(),st,dn,(0,fl.length / 2+1),()),i0,M,c,B)=some (match fetchX fl st.2.1 with
   |none=>(1,t,(hd,fl,(),st,dn,(0,fl.length / 2+1),()),i0,M,cacheX fl st.2.1 c,B)
   |some p=>(0,p.2,(hd,fl,(),st,dn,(0,fl.length / 2+1),()),p.1,M,cacheX fl st.2.1 c,B)):=by
 obtain⟨hc1,hc2⟩:=hc
 obtain⟨rg,pc,fgs⟩:=st
 simp only at hp ⊢
 have hp:0≤pc∧pc<4294967296:=hp
 have hb:band .i64 pc 1=pc % 2:=band_one pc
 unfold LoopN.res
 show runL _ 1 _=_
 unfold fetchX cacheX
 cases ho:(band .i64 pc 1 != 0||decide (pc≥lenI fl)) with
 |true=>exact(runL_out ((val_yes ho).trans rfl)).trans (by rfl)
 |false =>
  simp only[cond_false]
  simp only[Bool.or_eq_false_iff,bne_eq_false_iff_eq,decide_eq_false_iff_not] at ho
  obtain⟨ho1,ho2⟩:=ho
  have hlt:pc<(fl.length:Int):=by simpa [lenI] using ho2
  rw[hb] at ho1
  obtain⟨m,rfl⟩:=Int.eq_ofNat_of_zero_le hp.1
  have hm:m % 2=0:=by omega
  obtain⟨k,rfl⟩:∃k,m=2*k:=⟨m / 2,by omega⟩
  have hlt':((2*k:Nat):Int)<((fl.length:Nat):Int):=hlt
  have hk:k<c.length:=by omega
  have e1:Int.tdiv ((2*k:Nat):Int) 2=(k:Int):=by
   rw[Int.tdiv_eq_ediv_of_nonneg (by omega)]
   omega
  have e2:w64 ((k:Nat):Int)=(k:Int):=w64_id (by omega) (by omega)
  have e3:(((2*k:Nat):Int) / 2).toNat=k:=by omega
  have e4:List.take (Int.toNat (lenI fl)) fl=fl:=by simp[lenI]
  have e5:Int.toNat ((2*k:Nat):Int)=2*k:=by omega
  have e6:nplus 0 (k:Int)=k:=by simp[nplus]
  have hno:(band .i64 ((2*k:Nat):Int) 1 != 0||decide (((2*k:Nat):Int)≥lenI fl))=false:=by
   rw[hb]
   simp only[Bool.or_eq_false_iff,bne_eq_false_iff_eq,decide_eq_false_iff_not]
   exact⟨ho1,by simpa [lenI] using hlt⟩
  have hin:inRange (w64 (Int.tdiv ((2*k:Nat):Int) 2)) (fl.length / 2+1)=true:=by
   rw[e1,e2]
   exact inR (by omega)
  rw[e3,e5]
  cases hk1:(List.getD c k dfF).2.2.1 with
  |true =>
   have he:=hc2 k hk hk1
   simp only[cond_true]
   cases he2:((dDec (fl.drop (2*k))).2.2.1 != 0) with
   |true =>
    refine(runL_out ((val_no hno).trans ((val_yes hin).trans ((val_no ?_).trans ((val_yes ?_).trans rfl))))).trans (by rfl)
    ·show(!(List.getD c (nplus 0 (w64 (Int.tdiv ((2*k:Nat):Int) 2))) dfF).2.2.1)=false
     rw[e1,e2,e6,hk1];rfl
    ·show(List.getD c (nplus 0 (w64 (Int.tdiv ((2*k:Nat):Int) 2))) dfF).2.2.2.1=true
     rw[e1,e2,e6,he];exact he2
   |false =>
    refine(runL_out ((val_no hno).trans ((val_yes hin).trans ((val_no ?_).trans ((val_no ?_).trans rfl))))).trans ?_
    ·show(!(List.getD c (nplus 0 (w64 (Int.tdiv ((2*k:Nat):Int) 2))) dfF).2.2.1)=false
     rw[e1,e2,e6,hk1];rfl
    ·show(List.getD c (nplus 0 (w64 (Int.tdiv ((2*k:Nat):Int) 2))) dfF).2.2.2.1=false
     rw[e1,e2,e6,he];exact he2
    ·show some (0,(List.getD c (nplus 0 (w64 (Int.tdiv ((2*k:Nat):Int) 2))) dfF).2.1,_,(List.getD c (nplus 0 (w64 (Int.tdiv ((2*k:Nat):Int) 2))) dfF).1,_)=_
     rw[e1,e2,e6,he]
     rfl
  |false =>
   simp only[cond_false]
   have hle:(decide (lenI fl≤lenI fl)&&decide (0≤((2*k:Nat):Int))&&decide (((2*k:Nat):Int)≤lenI fl))=true:=by
    simp only[Bool.and_eq_true,decide_eq_true_eq]
    exact⟨⟨Int.le_refl _,by omega⟩,by simp only[lenI];omega⟩
   have hset:List.getD (List.set c k (entX fl k)) k dfF=entX fl k:=by
    simp[List.getD_eq_getElem?_getD,hk]
   have hent:∀s:List UInt8,s=fl.drop (2*k)→((ql s).1,(ql s).2.1,true,(ql s).2.2.1 != 0,())=entX fl k:=fun s hs=>by subst hs;rw[decode_V];rfl
   have hs:List.drop (Int.toNat ((2*k:Nat):Int)) (List.take (Int.toNat (lenI fl)) fl)=fl.drop (2*k):=by rw[e4,e5]
   cases he2:((dDec (fl.drop (2*k))).2.2.1 != 0) with
   |true =>
    refine(runL_out ((val_no hno).trans ((val_yes hin).trans ((val_yes ?_).trans ((val_yes hle).trans ((val_yes (decode_G _)).trans ((val_yes ?_).trans rfl))))))).trans ?_
    ·show(!(List.getD c (nplus 0 (w64 (Int.tdiv ((2*k:Nat):Int) 2))) dfF).2.2.1)=true
     rw[e1,e2,e6,hk1];rfl
    ·show(List.getD (List.set c (nplus 0 (w64 (Int.tdiv ((2*k:Nat):Int) 2))) ((ql (List.drop (Int.toNat ((2*k:Nat):Int)) (List.take (Int.toNat (lenI fl)) fl))).1,(ql (List.drop (Int.toNat ((2*k:Nat):Int)) (List.take (Int.toNat (lenI fl)) fl))).2.1,true,(ql (List.drop (Int.toNat ((2*k:Nat):Int)) (List.take (Int.toNat (lenI fl)) fl))).2.2.1 != 0,())) (nplus 0 (w64 (Int.tdiv ((2*k:Nat):Int) 2))) dfF).2.2.2.1=true
     rw[e1,e2,e6,hent _ hs,hset]
     exact he2
    ·show some (1,t,(hd,fl,(),(rg,((2*k:Nat):Int),fgs),dn,(0,fl.length / 2+1),()),i0,M,List.set c (nplus 0 (w64 (Int.tdiv ((2*k:Nat):Int) 2))) ((ql (List.drop (Int.toNat ((2*k:Nat):Int)) (List.take (Int.toNat (lenI fl)) fl))).1,(ql (List.drop (Int.toNat ((2*k:Nat):Int)) (List.take (Int.toNat (lenI fl)) fl))).2.1,true,(ql (List.drop (Int.toNat ((2*k:Nat):Int)) (List.take (Int.toNat (lenI fl)) fl))).2.2.1 != 0,()),B)=_
     rw[e1,e2,e6,hent _ hs]
     rfl
   |false =>
    refine(runL_out ((val_no hno).trans ((val_yes hin).trans ((val_yes ?_).trans ((val_yes hle).trans ((val_yes (decode_G _)).trans ((val_no ?_).trans rfl))))))).trans ?_
    ·show(!(List.getD c (nplus 0 (w64 (Int.tdiv ((2*k:Nat):Int) 2))) dfF).2.2.1)=true
     rw[e1,e2,e6,hk1];rfl
    ·show(List.getD (List.set c (nplus 0 (w64 (Int.tdiv ((2*k:Nat):Int) 2))) ((ql (List.drop (Int.toNat ((2*k:Nat):Int)) (List.take (Int.toNat (lenI fl)) fl))).1,(ql (List.drop (Int.toNat ((2*k:Nat):Int)) (List.take (Int.toNat (lenI fl)) fl))).2.1,true,(ql (List.drop (Int.toNat ((2*k:Nat):Int)) (List.take (Int.toNat (lenI fl)) fl))).2.2.1 != 0,())) (nplus 0 (w64 (Int.tdiv ((2*k:Nat):Int) 2))) dfF).2.2.2.1=false
     rw[e1,e2,e6,hent _ hs,hset]
     exact he2
    ·show some (0,(List.getD (List.set c (nplus 0 (w64 (Int.tdiv ((2*k:Nat):Int) 2))) ((ql (List.drop (Int.toNat ((2*k:Nat):Int)) (List.take (Int.toNat (lenI fl)) fl))).1,(ql (List.drop (Int.toNat ((2*k:Nat):Int)) (List.take (Int.toNat (lenI fl)) fl))).2.1,true,(ql (List.drop (Int.toNat ((2*k:Nat):Int)) (List.take (Int.toNat (lenI fl)) fl))).2.2.1 != 0,())) (nplus 0 (w64 (Int.tdiv ((2*k:Nat):Int) 2))) dfF).2.1,(hd,fl,(),(rg,((2*k:Nat):Int),fgs),dn,(0,fl.length / 2+1),()),(List.getD (List.set c (nplus 0 (w64 (Int.tdiv ((2*k:Nat):Int) 2))) ((ql (List.drop (Int.toNat ((2*k:Nat):Int)) (List.take (Int.toNat (lenI fl)) fl))).1,(ql (List.drop (Int.toNat ((2*k:Nat):Int)) (List.take (Int.toNat (lenI fl)) fl))).2.1,true,(ql (List.drop (Int.toNat ((2*k:Nat):Int)) (List.take (Int.toNat (lenI fl)) fl))).2.2.1 != 0,())) (nplus 0 (w64 (Int.tdiv ((2*k:Nat):Int) 2))) dfF).1,M,List.set c (nplus 0 (w64 (Int.tdiv ((2*k:Nat):Int) 2))) ((ql (List.drop (Int.toNat ((2*k:Nat):Int)) (List.take (Int.toNat (lenI fl)) fl))).1,(ql (List.drop (Int.toNat ((2*k:Nat):Int)) (List.take (Int.toNat (lenI fl)) fl))).2.1,true,(ql (List.drop (Int.toNat ((2*k:Nat):Int)) (List.take (Int.toNat (lenI fl)) fl))).2.2.1 != 0,()),B)=_
     rw[e1,e2,e6,hent _ hs,hset]
     rfl
abbrev StepR:Type:=tEvent.den×tState.den×Bool×MemT
def finX (st:tState.den) (i:tIns.den) (mem:MemT) (ld addr:Int):StepR:=((0,st.2.1,addr,qbl (st,i),()),(qG (st,i,ld)).1,!(qG (st,i,ld)).2.1,mem)
def trapX (hd:tHead.den) (st:tState.den) (mem:MemT) (addr:Int):StepR:=((2,st.2.1,addr,12,()),(st.1,hd.2.1,st.2.2),false,mem)
def actX (hd:tHead.den) (st:tState.den) (i:tIns.den) (mem:MemT):StepR :=
 bif (qc (st,i)).2.1 then
  (bif (qc (st,i)).1.2.2.2.1 then
   (bif (storeM mem (qc (st,i)).1.1 (qc (st,i)).1.2.1 (qc (st,i)).1.2.2.1).1 != 0 then trapX hd st (storeM mem (qc (st,i)).1.1 (qc (st,i)).1.2.1 (qc (st,i)).1.2.2.1).2 (qc (st,i)).1.1
    else finX st i (storeM mem (qc (st,i)).1.1 (qc (st,i)).1.2.1 (qc (st,i)).1.2.2.1).2 0 (qc (st,i)).1.1)
   else bif (loadM mem (qc (st,i)).1.1 (qc (st,i)).1.2.1).2.1 != 0 then trapX hd st mem (qc (st,i)).1.1
    else finX st i mem (loadM mem (qc (st,i)).1.1 (qc (st,i)).1.2.1).1 (qc (st,i)).1.1)
 else finX st i mem 0 0
def turnX (hd:tHead.den) (fl:List UInt8) (st:tState.den) (mem:MemT) (skip:Bool):StepR :=
 match fetchX fl st.2.1 with
 |none=>trapX hd st mem 0
 |some p=>bif skip then((1,st.2.1,0,1,()),(st.1,qdj (st.2.1,p.2),st.2.2),false,mem) else actX hd st p.1 mem
def faultX (f:tFault.den):tFault.den:=bif qp f != 0 then(0,0,0,0,()) else f
def stepMX (hd:tHead.den) (fl:List UInt8) (st:tState.den) (mem:MemT) (f:tFault.den):StepR:=turnX hd fl (qbj st (faultX f)) mem ((faultX f).1==(1:Int))
theorem hitS_len (s:tState.den) (f:tFault.den) (h:List.length s.1=15):List.length (qbj s f).1=15:=by
 unfold qbj
 cases f.1==(2:Int)
 ·cases f.1==(3:Int)
  ·exact h
  ·cases f.2.2.2.1==(0:Int)<;>cases f.2.2.2.1==(1:Int)<;>cases f.2.2.2.1==(2:Int)<;>cases f.2.2.2.1==(3:Int)<;>exact h
 ·simp only[cond_true,List.length_set]
  exact h
theorem hitS_pc (s:tState.den) (f:tFault.den):(qbj s f).2.1=s.2.1:=by
 unfold qbj
 cases f.1==(2:Int)
 ·cases f.1==(3:Int)
  ·rfl
  ·cases f.2.2.2.1==(0:Int)<;>cases f.2.2.2.1==(1:Int)<;>cases f.2.2.2.1==(2:Int)<;>cases f.2.2.2.1==(3:Int)<;>rfl
 ·rfl
abbrev packX (hd:tHead.den) (fl:List UInt8) (win:Nat×Nat) (c:List tFetched.den) (r:StepR):(tEvent.den×Bool×Unit)×MS:=((r.1,true,()),((hd,fl,(),r.2.1,r.2.2.1,win,()),r.2.2.2.1,c,r.2.2.2.2))
def actT (hd:tHead.den) (fl:List UInt8) (dn:Bool) (win:Nat×Nat) (st:tState.den) (i:tIns.den) (M:(shMemB 3).den) (c:List tFetched.den) (B:List Int):PO ((tEvent.den×Bool×Unit)×MS) :=
 .ite (qcw (st,i))
  (.ite (qc (st,i)).2.1
   (.ite (qc (st,i)).1.2.2.2.1
    (.ite (qbv ((),(qc (st,i)).1.1,(qc (st,i)).1.2.1,(qc (st,i)).1.2.2.1) (M,B))
     (.ite ((qB ((),(qc (st,i)).1.1,(qc (st,i)).1.2.1,(qc (st,i)).1.2.2.1) (M,B)).1 != 0)
      (.ret (((2,st.2.1,(qc (st,i)).1.1,12,()),true,()),((hd,fl,(),(st.1,hd.2.1,st.2.2),dn,win,()),(qB ((),(qc (st,i)).1.1,(qc (st,i)).1.2.1,(qc (st,i)).1.2.2.1) (M,B)).2.1,c,(qB ((),(qc (st,i)).1.1,(qc (st,i)).1.2.1,(qc (st,i)).1.2.2.1) (M,B)).2.2)))
      (.ite (qbw (st,i)) (.ite (qcb (st,i,0))
       (.ret (((0,st.2.1,(qc (st,i)).1.1,qbl (st,i),()),true,()),((hd,fl,(),(qG (st,i,0)).1,!(qG (st,i,0)).2.1,win,()),(qB ((),(qc (st,i)).1.1,(qc (st,i)).1.2.1,(qc (st,i)).1.2.2.1) (M,B)).2.1,c,(qB ((),(qc (st,i)).1.1,(qc (st,i)).1.2.1,(qc (st,i)).1.2.2.1) (M,B)).2.2))) .fail) .fail))
     .fail)
    (.ite (qbq ((),(qc (st,i)).1.1,(qc (st,i)).1.2.1) (M,B))
     (.ite ((qm ((),(qc (st,i)).1.1,(qc (st,i)).1.2.1) (M,B)).1.2.1 != 0)
      (.ret (((2,st.2.1,(qc (st,i)).1.1,12,()),true,()),((hd,fl,(),(st.1,hd.2.1,st.2.2),dn,win,()),(qm ((),(qc (st,i)).1.1,(qc (st,i)).1.2.1) (M,B)).2.1,c,(qm ((),(qc (st,i)).1.1,(qc (st,i)).1.2.1) (M,B)).2.2)))
      (.ite (qbw (st,i)) (.ite (qcb (st,i,(qm ((),(qc (st,i)).1.1,(qc (st,i)).1.2.1) (M,B)).1.1))
       (.ret (((0,st.2.1,(qc (st,i)).1.1,qbl (st,i),()),true,()),((hd,fl,(),(qG (st,i,(qm ((),(qc (st,i)).1.1,(qc (st,i)).1.2.1) (M,B)).1.1)).1,!(qG (st,i,(qm ((),(qc (st,i)).1.1,(qc (st,i)).1.2.1) (M,B)).1.1)).2.1,win,()),(qm ((),(qc (st,i)).1.1,(qc (st,i)).1.2.1) (M,B)).2.1,c,(qm ((),(qc (st,i)).1.1,(qc (st,i)).1.2.1) (M,B)).2.2))) .fail) .fail))
     .fail))
   (.ite (qbw (st,i)) (.ite (qcb (st,i,0))
    (.ret (((0,st.2.1,0,qbl (st,i),()),true,()),((hd,fl,(),(qG (st,i,0)).1,!(qG (st,i,0)).2.1,win,()),M,c,B))) .fail) .fail))
  .fail
theorem act_ok (hd:tHead.den) (fl:List UInt8) (win:Nat×Nat) (st:tState.den) (i:tIns.den) (M:(shMemB 3).den) (c:List tFetched.den) (B:List Int) (hr:List.length st.1=15) (hm:MemWf (M,B)) :
  (actT hd fl false win st i M c B).val=some (packX hd fl win c (actX hd st i (M,B))):=by
 have g1:qcw (st,i)=true:=decide_eq_true hr
 have g2:qbw (st,i)=true:=decide_eq_true hr
 have g3:∀ld,qcb (st,i,ld)=true:=fun ld=>decide_eq_true hr
 have ha:=access_addr st i
 have g4:∀n v,qbv ((),(qc (st,i)).1.1,n,v) (M,B)=true:=fun n v=>decide_eq_true ⟨hm,ha⟩
 have g5:∀n,qbq ((),(qc (st,i)).1.1,n) (M,B)=true:=fun n=>decide_eq_true ⟨hm,ha⟩
 unfold actT actX
 refine(val_yes g1).trans ?_
 cases h1:(qc (st,i)).2.1
 ·exact(val_no rfl).trans ((val_yes g2).trans ((val_yes (g3 _)).trans rfl))
 ·refine(val_yes rfl).trans ?_
  simp only[cond_true]
  cases h2:(qc (st,i)).1.2.2.2.1
  ·refine(val_no rfl).trans ((val_yes (g5 _)).trans ?_)
   simp only[cond_false]
   cases h3:((loadM (M,B) (qc (st,i)).1.1 (qc (st,i)).1.2.1).2.1 != (0:Int))
   ·exact(val_no h3).trans ((val_yes g2).trans ((val_yes (g3 _)).trans rfl))
   ·exact(val_yes h3).trans rfl
  ·refine(val_yes rfl).trans ((val_yes (g4 _ _)).trans ?_)
   simp only[cond_true]
   cases h3:((storeM (M,B) (qc (st,i)).1.1 (qc (st,i)).1.2.1 (qc (st,i)).1.2.2.1).1 != (0:Int))
   ·exact(val_no h3).trans ((val_yes g2).trans ((val_yes (g3 _)).trans rfl))
   ·exact(val_yes h3).trans rfl
abbrev qcf:List Sh:=[.box 0 0,.ty tFault]
abbrev qcl:List Sh:=[shMach,shMemB 3,.rowc tFetched,.rowc (.int .u8)]
abbrev qdn:Sh:=Sh.tup (Sh.pair (Sh.ty tFault) (Sh.pair (Sh.ty Ty.bool) (Sh.ty Ty.unit)))
abbrev qeu:List Sh:=[Sh.pair (Sh.ty (Ty.pair (Ty.int IntKind.i64) (Ty.pair (Ty.int IntKind.i64) (Ty.pair tSizes (Ty.pair (Ty.int IntKind.i64) Ty.unit))))) (Sh.pair (Sh.ty Ty.str) (Sh.pair (Sh.box 1 0) (Sh.pair (Sh.ty tState) (Sh.pair (Sh.ty Ty.bool) (Sh.pair (Sh.win 2 (Ty.pair tIns (Ty.pair (Ty.int IntKind.i64) (Ty.pair Ty.bool (Ty.pair Ty.bool Ty.unit))))) (Sh.ty Ty.unit)))))),Sh.pair (Sh.ty (Ty.sl tSpot)) (Sh.pair (Sh.wsl none 3 (Ty.int IntKind.u8)) (Sh.ty Ty.unit)),Sh.rowc (Ty.pair tIns (Ty.pair (Ty.int IntKind.i64) (Ty.pair Ty.bool (Ty.pair Ty.bool Ty.unit)))),Sh.rowc (Ty.int IntKind.u8)]
def qe2 (x:shDens qcf) (y:shDens qcl):PO (Sh.den qdn×shDens qeu) :=
 (.ite (y.1.2.2.2.2.1)
  (.ret (((0,0,0,0,()),false,()),((y.1.1,y.1.2.1,(),y.1.2.2.2),y.2.1,y.2.2.1,y.2.2.2)))
  (.ite (qp x.2 != 0)
  (.ite (qbJ ((),0,0,0,0,()) ((y.1.1,y.1.2.1,(),y.1.2.2.2),y.2))
   (.opt (LoopN.res qbA ((),(),0,(qbj y.1.2.2.2.1 (0,0,0,0,())).2.1) ((y.1.1,y.1.2.1,(),qbj y.1.2.2.2.1 (0,0,0,0,()),y.1.2.2.2.2),(0,0,0,0,0,0,0,false,()),y.2)) fun p0 =>
   (.ite (way p0.1)
    (.ite (qcw (p0.2.2.1.2.2.2.1,p0.2.2.2.1))
    (.ite ((qc (p0.2.2.1.2.2.2.1,p0.2.2.2.1)).2.1)
     (.ite ((qc (p0.2.2.1.2.2.2.1,p0.2.2.2.1)).1.2.2.2.1)
     (.ite (qbv ((),(qc (p0.2.2.1.2.2.2.1,p0.2.2.2.1)).1.1,(qc (p0.2.2.1.2.2.2.1,p0.2.2.2.1)).1.2.1,(qc (p0.2.2.1.2.2.2.1,p0.2.2.2.1)).1.2.2.1) (p0.2.2.2.2.1,p0.2.2.2.2.2.2))
      (.ite ((qB ((),(qc (p0.2.2.1.2.2.2.1,p0.2.2.2.1)).1.1,(qc (p0.2.2.1.2.2.2.1,p0.2.2.2.1)).1.2.1,(qc (p0.2.2.1.2.2.2.1,p0.2.2.2.1)).1.2.2.1) (p0.2.2.2.2.1,p0.2.2.2.2.2.2)).1 != 0)
      (.ret (((2,p0.2.2.1.2.2.2.1.2.1,(qc (p0.2.2.1.2.2.2.1,p0.2.2.2.1)).1.1,12,()),true,()),((p0.2.2.1.1,p0.2.2.1.2.1,(),(p0.2.2.1.2.2.2.1.1,p0.2.2.1.1.2.1,p0.2.2.1.2.2.2.1.2.2),p0.2.2.1.2.2.2.2),(qB ((),(qc (p0.2.2.1.2.2.2.1,p0.2.2.2.1)).1.1,(qc (p0.2.2.1.2.2.2.1,p0.2.2.2.1)).1.2.1,(qc (p0.2.2.1.2.2.2.1,p0.2.2.2.1)).1.2.2.1) (p0.2.2.2.2.1,p0.2.2.2.2.2.2)).2.1,p0.2.2.2.2.2.1,(qB ((),(qc (p0.2.2.1.2.2.2.1,p0.2.2.2.1)).1.1,(qc (p0.2.2.1.2.2.2.1,p0.2.2.2.1)).1.2.1,(qc (p0.2.2.1.2.2.2.1,p0.2.2.2.1)).1.2.2.1) (p0.2.2.2.2.1,p0.2.2.2.2.2.2)).2.2)))
      (.ite (qbw (p0.2.2.1.2.2.2.1,p0.2.2.2.1))
       (.ite (qcb (p0.2.2.1.2.2.2.1,p0.2.2.2.1,0))
       (.ret (((0,(qbj y.1.2.2.2.1 (0,0,0,0,())).2.1,(qc (p0.2.2.1.2.2.2.1,p0.2.2.2.1)).1.1,qbl (p0.2.2.1.2.2.2.1,p0.2.2.2.1),()),true,()),((p0.2.2.1.1,p0.2.2.1.2.1,(),(qG (p0.2.2.1.2.2.2.1,p0.2.2.2.1,0)).1,!(qG (p0.2.2.1.2.2.2.1,p0.2.2.2.1,0)).2.1,p0.2.2.1.2.2.2.2.2),(qB ((),(qc (p0.2.2.1.2.2.2.1,p0.2.2.2.1)).1.1,(qc (p0.2.2.1.2.2.2.1,p0.2.2.2.1)).1.2.1,(qc (p0.2.2.1.2.2.2.1,p0.2.2.2.1)).1.2.2.1) (p0.2.2.2.2.1,p0.2.2.2.2.2.2)).2.1,p0.2.2.2.2.2.1,(qB ((),(qc (p0.2.2.1.2.2.2.1,p0.2.2.2.1)).1.1,(qc (p0.2.2.1.2.2.2.1,p0.2.2.2.1)).1.2.1,(qc (p0.2.2.1.2.2.2.1,p0.2.2.2.1)).1.2.2.1) (p0.2.2.2.2.1,p0.2.2.2.2.2.2)).2.2)))
       .fail)
       .fail))
      .fail)
     (.ite (qbq ((),(qc (p0.2.2.1.2.2.2.1,p0.2.2.2.1)).1.1,(qc (p0.2.2.1.2.2.2.1,p0.2.2.2.1)).1.2.1) (p0.2.2.2.2.1,p0.2.2.2.2.2.2))
      (.ite ((qm ((),(qc (p0.2.2.1.2.2.2.1,p0.2.2.2.1)).1.1,(qc (p0.2.2.1.2.2.2.1,p0.2.2.2.1)).1.2.1) (p0.2.2.2.2.1,p0.2.2.2.2.2.2)).1.2.1 != 0)
      (.ret (((2,p0.2.2.1.2.2.2.1.2.1,(qc (p0.2.2.1.2.2.2.1,p0.2.2.2.1)).1.1,12,()),true,()),((p0.2.2.1.1,p0.2.2.1.2.1,(),(p0.2.2.1.2.2.2.1.1,p0.2.2.1.1.2.1,p0.2.2.1.2.2.2.1.2.2),p0.2.2.1.2.2.2.2),(qm ((),(qc (p0.2.2.1.2.2.2.1,p0.2.2.2.1)).1.1,(qc (p0.2.2.1.2.2.2.1,p0.2.2.2.1)).1.2.1) (p0.2.2.2.2.1,p0.2.2.2.2.2.2)).2.1,p0.2.2.2.2.2.1,(qm ((),(qc (p0.2.2.1.2.2.2.1,p0.2.2.2.1)).1.1,(qc (p0.2.2.1.2.2.2.1,p0.2.2.2.1)).1.2.1) (p0.2.2.2.2.1,p0.2.2.2.2.2.2)).2.2)))
      (.ite (qbw (p0.2.2.1.2.2.2.1,p0.2.2.2.1))
       (.ite (qcb (p0.2.2.1.2.2.2.1,p0.2.2.2.1,(qm ((),(qc (p0.2.2.1.2.2.2.1,p0.2.2.2.1)).1.1,(qc (p0.2.2.1.2.2.2.1,p0.2.2.2.1)).1.2.1) (p0.2.2.2.2.1,p0.2.2.2.2.2.2)).1.1))
       (.ret (((0,(qbj y.1.2.2.2.1 (0,0,0,0,())).2.1,(qc (p0.2.2.1.2.2.2.1,p0.2.2.2.1)).1.1,qbl (p0.2.2.1.2.2.2.1,p0.2.2.2.1),()),true,()),((p0.2.2.1.1,p0.2.2.1.2.1,(),(qG (p0.2.2.1.2.2.2.1,p0.2.2.2.1,(qm ((),(qc (p0.2.2.1.2.2.2.1,p0.2.2.2.1)).1.1,(qc (p0.2.2.1.2.2.2.1,p0.2.2.2.1)).1.2.1) (p0.2.2.2.2.1,p0.2.2.2.2.2.2)).1.1)).1,!(qG (p0.2.2.1.2.2.2.1,p0.2.2.2.1,(qm ((),(qc (p0.2.2.1.2.2.2.1,p0.2.2.2.1)).1.1,(qc (p0.2.2.1.2.2.2.1,p0.2.2.2.1)).1.2.1) (p0.2.2.2.2.1,p0.2.2.2.2.2.2)).1.1)).2.1,p0.2.2.1.2.2.2.2.2),(qm ((),(qc (p0.2.2.1.2.2.2.1,p0.2.2.2.1)).1.1,(qc (p0.2.2.1.2.2.2.1,p0.2.2.2.1)).1.2.1) (p0.2.2.2.2.1,p0.2.2.2.2.2.2)).2.1,p0.2.2.2.2.2.1,(qm ((),(qc (p0.2.2.1.2.2.2.1,p0.2.2.2.1)).1.1,(qc (p0.2.2.1.2.2.2.1,p0.2.2.2.1)).1.2.1) (p0.2.2.2.2.1,p0.2.2.2.2.2.2)).2.2)))
       .fail)
       .fail))
      .fail))
     (.ite (qbw (p0.2.2.1.2.2.2.1,p0.2.2.2.1))
     (.ite (qcb (p0.2.2.1.2.2.2.1,p0.2.2.2.1,0))
      (.ret (((0,(qbj y.1.2.2.2.1 (0,0,0,0,())).2.1,0,qbl (p0.2.2.1.2.2.2.1,p0.2.2.2.1),()),true,()),((p0.2.2.1.1,p0.2.2.1.2.1,(),(qG (p0.2.2.1.2.2.2.1,p0.2.2.2.1,0)).1,!(qG (p0.2.2.1.2.2.2.1,p0.2.2.2.1,0)).2.1,p0.2.2.1.2.2.2.2.2),p0.2.2.2.2.1,p0.2.2.2.2.2.1,p0.2.2.2.2.2.2)))
      .fail)
     .fail))
    .fail)
    (.ret (((2,p0.2.2.1.2.2.2.1.2.1,0,12,()),true,()),((p0.2.2.1.1,p0.2.2.1.2.1,(),(p0.2.2.1.2.2.2.1.1,p0.2.2.1.1.2.1,p0.2.2.1.2.2.2.1.2.2),p0.2.2.1.2.2.2.2),p0.2.2.2.2.1,p0.2.2.2.2.2.1,p0.2.2.2.2.2.2)))))
   .fail)
  (.ite (qbJ ((),x.2) ((y.1.1,y.1.2.1,(),y.1.2.2.2),y.2))
   (.opt (LoopN.res qbA ((),(),0,(qbj y.1.2.2.2.1 x.2).2.1) ((y.1.1,y.1.2.1,(),qbj y.1.2.2.2.1 x.2,y.1.2.2.2.2),(0,0,0,0,0,0,0,false,()),y.2)) fun p0 =>
   (.ite (way p0.1)
    (.ite (x.2.1==1)
    (.ret (((1,(qbj y.1.2.2.2.1 x.2).2.1,0,1,()),true,()),((p0.2.2.1.1,p0.2.2.1.2.1,(),(p0.2.2.1.2.2.2.1.1,qdj (p0.2.2.1.2.2.2.1.2.1,p0.2.1),p0.2.2.1.2.2.2.1.2.2),p0.2.2.1.2.2.2.2),p0.2.2.2.2.1,p0.2.2.2.2.2.1,p0.2.2.2.2.2.2)))
    (.ite (qcw (p0.2.2.1.2.2.2.1,p0.2.2.2.1))
     (.ite ((qc (p0.2.2.1.2.2.2.1,p0.2.2.2.1)).2.1)
     (.ite ((qc (p0.2.2.1.2.2.2.1,p0.2.2.2.1)).1.2.2.2.1)
      (.ite (qbv ((),(qc (p0.2.2.1.2.2.2.1,p0.2.2.2.1)).1.1,(qc (p0.2.2.1.2.2.2.1,p0.2.2.2.1)).1.2.1,(qc (p0.2.2.1.2.2.2.1,p0.2.2.2.1)).1.2.2.1) (p0.2.2.2.2.1,p0.2.2.2.2.2.2))
      (.ite ((qB ((),(qc (p0.2.2.1.2.2.2.1,p0.2.2.2.1)).1.1,(qc (p0.2.2.1.2.2.2.1,p0.2.2.2.1)).1.2.1,(qc (p0.2.2.1.2.2.2.1,p0.2.2.2.1)).1.2.2.1) (p0.2.2.2.2.1,p0.2.2.2.2.2.2)).1 != 0)
       (.ret (((2,p0.2.2.1.2.2.2.1.2.1,(qc (p0.2.2.1.2.2.2.1,p0.2.2.2.1)).1.1,12,()),true,()),((p0.2.2.1.1,p0.2.2.1.2.1,(),(p0.2.2.1.2.2.2.1.1,p0.2.2.1.1.2.1,p0.2.2.1.2.2.2.1.2.2),p0.2.2.1.2.2.2.2),(qB ((),(qc (p0.2.2.1.2.2.2.1,p0.2.2.2.1)).1.1,(qc (p0.2.2.1.2.2.2.1,p0.2.2.2.1)).1.2.1,(qc (p0.2.2.1.2.2.2.1,p0.2.2.2.1)).1.2.2.1) (p0.2.2.2.2.1,p0.2.2.2.2.2.2)).2.1,p0.2.2.2.2.2.1,(qB ((),(qc (p0.2.2.1.2.2.2.1,p0.2.2.2.1)).1.1,(qc (p0.2.2.1.2.2.2.1,p0.2.2.2.1)).1.2.1,(qc (p0.2.2.1.2.2.2.1,p0.2.2.2.1)).1.2.2.1) (p0.2.2.2.2.1,p0.2.2.2.2.2.2)).2.2)))
       (.ite (qbw (p0.2.2.1.2.2.2.1,p0.2.2.2.1))
       (.ite (qcb (p0.2.2.1.2.2.2.1,p0.2.2.2.1,0))
        (.ret (((0,(qbj y.1.2.2.2.1 x.2).2.1,(qc (p0.2.2.1.2.2.2.1,p0.2.2.2.1)).1.1,qbl (p0.2.2.1.2.2.2.1,p0.2.2.2.1),()),true,()),((p0.2.2.1.1,p0.2.2.1.2.1,(),(qG (p0.2.2.1.2.2.2.1,p0.2.2.2.1,0)).1,!(qG (p0.2.2.1.2.2.2.1,p0.2.2.2.1,0)).2.1,p0.2.2.1.2.2.2.2.2),(qB ((),(qc (p0.2.2.1.2.2.2.1,p0.2.2.2.1)).1.1,(qc (p0.2.2.1.2.2.2.1,p0.2.2.2.1)).1.2.1,(qc (p0.2.2.1.2.2.2.1,p0.2.2.2.1)).1.2.2.1) (p0.2.2.2.2.1,p0.2.2.2.2.2.2)).2.1,p0.2.2.2.2.2.1,(qB ((),(qc (p0.2.2.1.2.2.2.1,p0.2.2.2.1)).1.1,(qc (p0.2.2.1.2.2.2.1,p0.2.2.2.1)).1.2.1,(qc (p0.2.2.1.2.2.2.1,p0.2.2.2.1)).1.2.2.1) (p0.2.2.2.2.1,p0.2.2.2.2.2.2)).2.2)))
        .fail)
       .fail))
      .fail)
      (.ite (qbq ((),(qc (p0.2.2.1.2.2.2.1,p0.2.2.2.1)).1.1,(qc (p0.2.2.1.2.2.2.1,p0.2.2.2.1)).1.2.1) (p0.2.2.2.2.1,p0.2.2.2.2.2.2))
      (.ite ((qm ((),(qc (p0.2.2.1.2.2.2.1,p0.2.2.2.1)).1.1,(qc (p0.2.2.1.2.2.2.1,p0.2.2.2.1)).1.2.1) (p0.2.2.2.2.1,p0.2.2.2.2.2.2)).1.2.1 != 0)
       (.ret (((2,p0.2.2.1.2.2.2.1.2.1,(qc (p0.2.2.1.2.2.2.1,p0.2.2.2.1)).1.1,12,()),true,()),((p0.2.2.1.1,p0.2.2.1.2.1,(),(p0.2.2.1.2.2.2.1.1,p0.2.2.1.1.2.1,p0.2.2.1.2.2.2.1.2.2),p0.2.2.1.2.2.2.2),(qm ((),(qc (p0.2.2.1.2.2.2.1,p0.2.2.2.1)).1.1,(qc (p0.2.2.1.2.2.2.1,p0.2.2.2.1)).1.2.1) (p0.2.2.2.2.1,p0.2.2.2.2.2.2)).2.1,p0.2.2.2.2.2.1,(qm ((),(qc (p0.2.2.1.2.2.2.1,p0.2.2.2.1)).1.1,(qc (p0.2.2.1.2.2.2.1,p0.2.2.2.1)).1.2.1) (p0.2.2.2.2.1,p0.2.2.2.2.2.2)).2.2)))
       (.ite (qbw (p0.2.2.1.2.2.2.1,p0.2.2.2.1))
       (.ite (qcb (p0.2.2.1.2.2.2.1,p0.2.2.2.1,(qm ((),(qc (p0.2.2.1.2.2.2.1,p0.2.2.2.1)).1.1,(qc (p0.2.2.1.2.2.2.1,p0.2.2.2.1)).1.2.1) (p0.2.2.2.2.1,p0.2.2.2.2.2.2)).1.1))
        (.ret (((0,(qbj y.1.2.2.2.1 x.2).2.1,(qc (p0.2.2.1.2.2.2.1,p0.2.2.2.1)).1.1,qbl (p0.2.2.1.2.2.2.1,p0.2.2.2.1),()),true,()),((p0.2.2.1.1,p0.2.2.1.2.1,(),(qG (p0.2.2.1.2.2.2.1,p0.2.2.2.1,(qm ((),(qc (p0.2.2.1.2.2.2.1,p0.2.2.2.1)).1.1,(qc (p0.2.2.1.2.2.2.1,p0.2.2.2.1)).1.2.1) (p0.2.2.2.2.1,p0.2.2.2.2.2.2)).1.1)).1,!(qG (p0.2.2.1.2.2.2.1,p0.2.2.2.1,(qm ((),(qc (p0.2.2.1.2.2.2.1,p0.2.2.2.1)).1.1,(qc (p0.2.2.1.2.2.2.1,p0.2.2.2.1)).1.2.1) (p0.2.2.2.2.1,p0.2.2.2.2.2.2)).1.1)).2.1,p0.2.2.1.2.2.2.2.2),(qm ((),(qc (p0.2.2.1.2.2.2.1,p0.2.2.2.1)).1.1,(qc (p0.2.2.1.2.2.2.1,p0.2.2.2.1)).1.2.1) (p0.2.2.2.2.1,p0.2.2.2.2.2.2)).2.1,p0.2.2.2.2.2.1,(qm ((),(qc (p0.2.2.1.2.2.2.1,p0.2.2.2.1)).1.1,(qc (p0.2.2.1.2.2.2.1,p0.2.2.2.1)).1.2.1) (p0.2.2.2.2.1,p0.2.2.2.2.2.2)).2.2)))
        .fail)
       .fail))
      .fail))
     (.ite (qbw (p0.2.2.1.2.2.2.1,p0.2.2.2.1))
      (.ite (qcb (p0.2.2.1.2.2.2.1,p0.2.2.2.1,0))
      (.ret (((0,(qbj y.1.2.2.2.1 x.2).2.1,0,qbl (p0.2.2.1.2.2.2.1,p0.2.2.2.1),()),true,()),((p0.2.2.1.1,p0.2.2.1.2.1,(),(qG (p0.2.2.1.2.2.2.1,p0.2.2.2.1,0)).1,!(qG (p0.2.2.1.2.2.2.1,p0.2.2.2.1,0)).2.1,p0.2.2.1.2.2.2.2.2),p0.2.2.2.2.1,p0.2.2.2.2.2.1,p0.2.2.2.2.2.2)))
      .fail)
      .fail))
     .fail))
    (.ret (((2,p0.2.2.1.2.2.2.1.2.1,0,12,()),true,()),((p0.2.2.1.1,p0.2.2.1.2.1,(),(p0.2.2.1.2.2.2.1.1,p0.2.2.1.1.2.1,p0.2.2.1.2.2.2.1.2.2),p0.2.2.1.2.2.2.2),p0.2.2.2.2.1,p0.2.2.2.2.2.1,p0.2.2.2.2.2.2)))))
   .fail)))
def qN (_:shDens qcf) (y:shDens qcl):Bool:=decide (MachWf y)
def qg (x:shDens qcf) (y:shDens qcl):Sh.den qdn×shDens qeu :=
 bif y.1.2.2.2.2.1 then(((0,0,0,0,()),false,()),y)
 else packX y.1.1 y.1.2.1 y.1.2.2.2.2.2.1 (cacheX y.1.2.1 y.1.2.2.2.1.2.1 y.2.2.1) (stepMX y.1.1 y.1.2.1 y.1.2.2.2.1 (y.2.1,y.2.2.2) x.2)
theorem check_reg (k p r b:Int) (h:qp (k,p,r,b,())=0):(!(k==(2:Int))||inRange r 15)=true:=by
 cases h2:(k==(2:Int))
 ·rfl
 ·simp only[beq_iff_eq] at h2
  subst h2
  have hx:(decide (p≥0)&&(decide (r≥0)&&(decide (r≤14)&&(decide (b≥0)&&decide (b<32)))))=true:=by
   cases hx:(decide (p≥0)&&(decide (r≥0)&&(decide (r≤14)&&(decide (b≥0)&&decide (b<32)))))
   ·exfalso
    have:qp (2,p,r,b,())=2:=by
     unfold qp PO.getO
     rw[show(qeC (2,p,r,b,())).val=some 2 from val_yes (by
      show(!(decide (p≥0)&&(decide (r≥0)&&(decide (r≤14)&&(decide (b≥0)&&decide (b<32))))))=true
      rw[hx];rfl)]
     rfl
    rw[this] at h
    cases h
   ·rfl
  simp only[Bool.and_eq_true,decide_eq_true_eq] at hx
  have h1:inRange r 15=true:=by
   simp only[inRange,Bool.and_eq_true,decide_eq_true_eq]
   omega
  rw[h1]
  rfl
set_option maxRecDepth 10000 in
theorem qky (x:shDens qcf) (y:shDens qcl) (h:qN x y=true):(qe2 x y).val=some (qg x y):=by
 have hw:MachWf y:=of_decide_eq_true h
 obtain⟨_,k,p,r,b,_⟩:=x
 obtain⟨⟨hd,fl,u,st,dn,win,u'⟩,M,c,B⟩:=y
 obtain⟨hmem,hregs,hpc,hhand,hlen,hwin,hcache⟩:=hw
 simp only at hmem hregs hpc hhand hlen hwin hcache
 subst hwin
 unfold qe2 qg
 cases dn
 case true=>exact(val_yes rfl).trans rfl
 case false =>
 refine(val_no rfl).trans ?_
 have hp:∀f,0≤(show Int from(qbj st f).2.1)∧(show Int from(qbj st f).2.1)<4294967296:=fun f=>by rw[hitS_pc];exact hpc
 have go:=fun f=>fetch_res fl c hd (qbj st f) false (0,0,0,0,0,0,0,false,()) 0 M B (hp f) hcache
 have act:=fun f i=>act_ok hd fl (0,fl.length / 2+1) (qbj st f) i M (cacheX fl (qbj st f).2.1 c) B (hitS_len st f hregs) hmem
 have e0:∀f,cacheX fl st.2.1 c=cacheX fl (qbj st f).2.1 c:=fun f=>by rw[hitS_pc]
 show _=some (packX hd fl (0,fl.length / 2+1) (cacheX fl st.2.1 c) (stepMX hd fl st (M,B) (k,p,r,b,())))
 unfold stepMX faultX
 cases hck:(qp (k,p,r,b,()) != (0:Int))
 ·refine(val_no rfl).trans ((val_yes (check_reg k p r b (by simpa using hck))).trans ((val_opt (go _)).trans ?_))
  simp only[cond_false]
  rw[e0 (k,p,r,b,())]
  unfold turnX
  have ha:=act (k,p,r,b,())
  cases fetchX fl (qbj st (k,p,r,b,())).2.1 with
  |none=>exact(val_no rfl).trans rfl
  |some q =>
   refine(val_yes rfl).trans ?_
   simp only
   cases hs:(k==(1:Int))
   ·exact(val_no rfl).trans (ha q.1)
   ·exact(val_yes rfl).trans rfl
 ·refine(val_yes rfl).trans ((val_yes rfl).trans ((val_opt (go _)).trans ?_))
  simp only[cond_true]
  rw[e0 (0,0,0,0,())]
  unfold turnX
  have ha:=act (0,0,0,0,())
  cases fetchX fl (qbj st (0,0,0,0,())).2.1 with
  |none=>exact(val_no rfl).trans rfl
  |some q=>exact(val_yes rfl).trans (ha q.1)
end Go.Av
end
section
namespace Go.Av
open Go
theorem entX_at {fl:List UInt8} {c:List tFetched.den} (h:cacheOk fl c) (pc:Int):cacheOk fl (cacheX fl pc c):=by
 unfold cacheX
 cases (band .i64 pc 1 != 0||decide (pc≥lenI fl))
 ·cases (List.getD c (pc / 2).toNat dfF).2.2.1
  ·refine⟨by simp only[cond_false,List.length_set];exact h.1,fun k hk hn=>?_⟩
   simp only[cond_false,List.length_set] at hk hn ⊢
   rw[List.getD_eq_getElem?_getD,List.getElem?_set] at hn ⊢
   split at hn
   ·rename_i e
    subst e
    rw[if_pos rfl]
    split
    ·rfl
    ·omega
   ·rename_i e
    rw[if_neg e]
    have:=h.2 k hk
    rw[List.getD_eq_getElem?_getD] at this
    exact this hn
  ·exact h
 ·exact h
theorem wn_word (n:Int):0≤((wn n:Nat):Int)∧((wn n:Nat):Int)<4294967296:=⟨by omega,by have:=wn_lt n;omega⟩
theorem step_pcw (st:tState.den) (i:tIns.den) (ld:Int):∃m:Int,(show Int from(qG (st,i,ld)).1.2.1)=((wn m:Nat):Int):=by
 obtain⟨op,rd,rn,rm,ra,imm,cond,w,u⟩:=i
 show ∃m:Int,(show Int from(stepV _ st op rd rn rm ra imm cond w ld).1.2.1)=((wn m:Nat):Int)
 unfold stepV
 cases (qd (op,rd,rn,rm,ra,imm,cond,w,u) != 0||op==2)
 ·exact⟨_,rfl⟩
 ·exact⟨_,rfl⟩
theorem step_pc (st:tState.den) (i:tIns.den) (ld:Int):0≤(show Int from(qG (st,i,ld)).1.2.1)∧(show Int from(qG (st,i,ld)).1.2.1)<4294967296:=by
 obtain⟨m,hm⟩:=step_pcw st i ld
 rw[hm]
 exact wn_word m
theorem actX_wf (hd:tHead.den) (st:tState.den) (i:tIns.den) (mem:MemT) (hm:MemWf mem) (hr:List.length st.1=15) (hh:0≤(show Int from hd.2.1)∧(show Int from hd.2.1)<4294967296) :
  List.length (actX hd st i mem).2.1.1=15∧(0≤(show Int from(actX hd st i mem).2.1.2.1)∧(show Int from(actX hd st i mem).2.1.2.1)<4294967296)∧MemWf (actX hd st i mem).2.2.2∧(actX hd st i mem).2.2.2.1=mem.1∧0≤(show Int from(actX hd st i mem).1.2.2.2.1)∧(show Int from(actX hd st i mem).1.2.2.2.1)≤12:=by
 have hcy:0≤(show Int from qbl (st,i))∧(show Int from qbl (st,i))≤12:=by
  obtain⟨op,rd,rn,rm,ra,imm,cond,w,u⟩:=i
  show 0≤cyclesV _ st op cond∧cyclesV _ st op cond≤12
  unfold cyclesV
  cases (qd (op,rd,rn,rm,ra,imm,cond,w,u) != 0)
  ·cases (op==19||(op==20||(op==21||op==22)))
   ·cases (op==17)
    ·cases goesV st op cond<;>simp
    ·simp
   ·simp
  ·simp
 have fin:∀m ld ad,MemWf m→m.1=mem.1→List.length (finX st i m ld ad).2.1.1=15∧(0≤(show Int from(finX st i m ld ad).2.1.2.1)∧(show Int from(finX st i m ld ad).2.1.2.1)<4294967296)∧MemWf (finX st i m ld ad).2.2.2∧(finX st i m ld ad).2.2.2.1=mem.1∧0≤(show Int from(finX st i m ld ad).1.2.2.2.1)∧(show Int from(finX st i m ld ad).1.2.2.2.1)≤12 :=
  fun m ld ad h1 h2=>⟨step_len st i ld hr,step_pc st i ld,h1,h2,hcy.1,hcy.2⟩
 have trap:∀m ad,MemWf m→m.1=mem.1→List.length (trapX hd st m ad).2.1.1=15∧(0≤(show Int from(trapX hd st m ad).2.1.2.1)∧(show Int from(trapX hd st m ad).2.1.2.1)<4294967296)∧MemWf (trapX hd st m ad).2.2.2∧(trapX hd st m ad).2.2.2.1=mem.1∧0≤(show Int from(trapX hd st m ad).1.2.2.2.1)∧(show Int from(trapX hd st m ad).1.2.2.2.1)≤12 :=
  fun m ad h1 h2=>⟨hr,hh,h1,h2,by show(0:Int)≤12;decide,by show(12:Int)≤12;decide⟩
 unfold actX
 cases (qc (st,i)).2.1
 ·exact fin _ _ _ hm rfl
 ·cases (qc (st,i)).1.2.2.2.1
  ·cases ((loadM mem (qc (st,i)).1.1 (qc (st,i)).1.2.1).2.1 != (0:Int))
   ·exact fin _ _ _ hm rfl
   ·exact trap _ _ hm rfl
  ·have hs:=store_wf hm (qc (st,i)).1.1 (qc (st,i)).1.2.1 (qc (st,i)).1.2.2.1
   cases ((storeM mem (qc (st,i)).1.1 (qc (st,i)).1.2.1 (qc (st,i)).1.2.2.1).1 != (0:Int))
   ·exact fin _ _ _ hs.1 hs.2
   ·exact trap _ _ hs.1 hs.2
theorem stepMX_wf (hd:tHead.den) (fl:List UInt8) (st:tState.den) (mem:MemT) (f:tFault.den) (hm:MemWf mem) (hr:List.length st.1=15) (hh:0≤(show Int from hd.2.1)∧(show Int from hd.2.1)<4294967296) :
  List.length (stepMX hd fl st mem f).2.1.1=15∧(0≤(show Int from(stepMX hd fl st mem f).2.1.2.1)∧(show Int from(stepMX hd fl st mem f).2.1.2.1)<4294967296)∧MemWf (stepMX hd fl st mem f).2.2.2∧(stepMX hd fl st mem f).2.2.2.1=mem.1∧0≤(show Int from(stepMX hd fl st mem f).1.2.2.2.1)∧(show Int from(stepMX hd fl st mem f).1.2.2.2.1)≤12:=by
 unfold stepMX turnX
 have hl:=hitS_len st (faultX f) hr
 cases fetchX fl (qbj st (faultX f)).2.1 with
 |none=>exact⟨hl,hh,hm,rfl,by show(0:Int)≤12;decide,by show(12:Int)≤12;decide⟩
 |some p =>
  simp only
  cases ((faultX f).1==(1:Int))
  ·exact actX_wf hd _ p.1 mem hm hl hh
  ·exact⟨hl,wn_word _,hm,rfl,by show(0:Int)≤1;decide,by show(1:Int)≤12;decide⟩
theorem step_MachWf {y:MS} (h:MachWf y) (f:tFault.den):MachWf (packX y.1.1 y.1.2.1 y.1.2.2.2.2.2.1 (cacheX y.1.2.1 y.1.2.2.2.1.2.1 y.2.2.1) (stepMX y.1.1 y.1.2.1 y.1.2.2.2.1 (y.2.1,y.2.2.2) f)).2:=by
 obtain⟨h1,h2,h3,h4,_⟩:=stepMX_wf y.1.1 y.1.2.1 y.1.2.2.2.1 (y.2.1,y.2.2.2) f h.mem h.regs h.hand
 exact⟨h3,h1,h2,h.hand,h.len,h.win,entX_at h.cache _⟩
abbrev RunS:Type:=tState.den×Bool×MemT
abbrev noFault:tFault.den:=(0,0,0,0,())
def nowX (f:tFault.den) (k:Int):tFault.den:=bif f.2.1==k then f else noFault
def goX (hd:tHead.den) (fl:List UInt8) (f:tFault.den):Nat→Int→RunS→List tEvent.den×Int×RunS
 |0,_,s=>([],0,s)
 |n+1,k,s=>bif s.2.1 then([],0,s) else
   ((stepMX hd fl s.1 s.2.2 (nowX f k)).1::(goX hd fl f n (k+1) (stepMX hd fl s.1 s.2.2 (nowX f k)).2).1,
    (bif s.1.2.1==hd.2.1 then 1 else 0)+(goX hd fl f n (k+1) (stepMX hd fl s.1 s.2.2 (nowX f k)).2).2.1,
    (goX hd fl f n (k+1) (stepMX hd fl s.1 s.2.2 (nowX f k)).2).2.2)
def cgoX (hd:tHead.den) (fl:List UInt8) (f:tFault.den):Nat→Int→RunS→List tFetched.den→List tFetched.den
 |0,_,_,c=>c
 |n+1,k,s,c=>bif s.2.1 then c else cgoX hd fl f n (k+1) (stepMX hd fl s.1 s.2.2 (nowX f k)).2 (cacheX fl s.1.2.1 c)
def cycX:List tEvent.den→Int
 |[]=>0
 |v::l=>v.2.2.2.1+cycX l
def runSof (y:MS):RunS:=(y.1.2.2.2.1,y.1.2.2.2.2.1,(y.2.1,y.2.2.2))
abbrev withRun (y:MS) (s:RunS) (c:List tFetched.den):MS:=((y.1.1,y.1.2.1,(),s.1,s.2.1,y.1.2.2.2.2.2.1,()),s.2.2.1,c,s.2.2.2)
def qgH:LoopN where
 M:=[0,2,3,5,8,9]
 T:=[10,11,12,13,14,15,16,17,18,19,20,21,22,23,24,25,26,27,28,29,30,31,32,33,34,35,36,37,38,39,40,41,42,43,44,45,46,47,48,49,50,51,52,53,54,55,56,57,58,59,60,61,62,63,64]
 D:=[2,3,5]
 ss:=[.box 0 0,.ty (.int .i64),.fn 49 (.ty .unit),.box 1 0,.box 2 0,.box 3 0]
 hs:=[(shMachB 4 5),(.ty tFault),(.ty tResult),(.ty tResult),(shMemB 6),.rowc tFetched,.rowc (.int .u8)]
 es:=[.exit 0]
 σ:=(Sh.den ((shMachB 4 5)))×(Sh.den ((.ty tFault)))×(Sh.den ((.ty tResult)))×(Sh.den ((.ty tResult)))×(Sh.den ((shMemB 6)))×(Sh.den (.rowc tFetched))×(Sh.den (.rowc (.int .u8)))
 x0:=fun _ y=>(y.1,y.2.1,y.2.2.1,y.2.2.2.1,y.2.2.2.2.1,y.2.2.2.2.2.1,y.2.2.2.2.2.2)
 put:=fun x _ s=>((x.1,x.2.1,x.2.2.1,x.2.2.2.1,x.2.2.2.2.1,x.2.2.2.2.2),(s.1,s.2.1,s.2.2.1,s.2.2.2.1,s.2.2.2.2.1,s.2.2.2.2.2.1,s.2.2.2.2.2.2))
 fuel:=fun x _=>Int.toNat x.2.1+1
 turn:=fun x _ s =>
 (.ite (!s.1.2.2.2.2.1&&decide (s.2.2.2.1.2.1<x.2.1))
  (.ite (s.1.2.2.2.1.2.1==s.1.1.2.1)
  (.ite (s.2.1.2.1==s.2.2.2.1.2.1)
   (.ite (qN ((),s.2.1) ((s.1.1,s.1.2.1,(),s.1.2.2.2),s.2.2.2.2))
   (.ret (.on (((qg ((),s.2.1) ((s.1.1,s.1.2.1,(),s.1.2.2.2),s.2.2.2.2)).2.1.1,(qg ((),s.2.1) ((s.1.1,s.1.2.1,(),s.1.2.2.2),s.2.2.2.2)).2.1.2.1,(),(qg ((),s.2.1) ((s.1.1,s.1.2.1,(),s.1.2.2.2),s.2.2.2.2)).2.1.2.2.2),s.2.1,s.2.2.1,(s.2.2.2.1.1,w64 (s.2.2.2.1.2.1+1),w64 (s.2.2.2.1.2.2.1+(qg ((),s.2.1) ((s.1.1,s.1.2.1,(),s.1.2.2.2),s.2.2.2.2)).1.1.2.2.2.1),w64 (s.2.2.2.1.2.2.2.1+1),s.2.2.2.1.2.2.2.2),(qg ((),s.2.1) ((s.1.1,s.1.2.1,(),s.1.2.2.2),s.2.2.2.2)).2.2.1,(qg ((),s.2.1) ((s.1.1,s.1.2.1,(),s.1.2.2.2),s.2.2.2.2)).2.2.2.1,(qg ((),s.2.1) ((s.1.1,s.1.2.1,(),s.1.2.2.2),s.2.2.2.2)).2.2.2.2)))
   .fail)
   (.ite (qN ((),0,0,0,0,()) ((s.1.1,s.1.2.1,(),s.1.2.2.2),s.2.2.2.2))
   (.ret (.on (((qg ((),0,0,0,0,()) ((s.1.1,s.1.2.1,(),s.1.2.2.2),s.2.2.2.2)).2.1.1,(qg ((),0,0,0,0,()) ((s.1.1,s.1.2.1,(),s.1.2.2.2),s.2.2.2.2)).2.1.2.1,(),(qg ((),0,0,0,0,()) ((s.1.1,s.1.2.1,(),s.1.2.2.2),s.2.2.2.2)).2.1.2.2.2),s.2.1,s.2.2.1,(s.2.2.2.1.1,w64 (s.2.2.2.1.2.1+1),w64 (s.2.2.2.1.2.2.1+(qg ((),0,0,0,0,()) ((s.1.1,s.1.2.1,(),s.1.2.2.2),s.2.2.2.2)).1.1.2.2.2.1),w64 (s.2.2.2.1.2.2.2.1+1),s.2.2.2.1.2.2.2.2),(qg ((),0,0,0,0,()) ((s.1.1,s.1.2.1,(),s.1.2.2.2),s.2.2.2.2)).2.2.1,(qg ((),0,0,0,0,()) ((s.1.1,s.1.2.1,(),s.1.2.2.2),s.2.2.2.2)).2.2.2.1,(qg ((),0,0,0,0,()) ((s.1.1,s.1.2.1,(),s.1.2.2.2),s.2.2.2.2)).2.2.2.2)))
   .fail))
  (.ite (s.2.1.2.1==s.2.2.2.1.2.1)
   (.ite (qN ((),s.2.1) ((s.1.1,s.1.2.1,(),s.1.2.2.2),s.2.2.2.2))
   (.ret (.on (((qg ((),s.2.1) ((s.1.1,s.1.2.1,(),s.1.2.2.2),s.2.2.2.2)).2.1.1,(qg ((),s.2.1) ((s.1.1,s.1.2.1,(),s.1.2.2.2),s.2.2.2.2)).2.1.2.1,(),(qg ((),s.2.1) ((s.1.1,s.1.2.1,(),s.1.2.2.2),s.2.2.2.2)).2.1.2.2.2),s.2.1,s.2.2.1,(s.2.2.2.1.1,w64 (s.2.2.2.1.2.1+1),w64 (s.2.2.2.1.2.2.1+(qg ((),s.2.1) ((s.1.1,s.1.2.1,(),s.1.2.2.2),s.2.2.2.2)).1.1.2.2.2.1),s.2.2.2.1.2.2.2),(qg ((),s.2.1) ((s.1.1,s.1.2.1,(),s.1.2.2.2),s.2.2.2.2)).2.2.1,(qg ((),s.2.1) ((s.1.1,s.1.2.1,(),s.1.2.2.2),s.2.2.2.2)).2.2.2.1,(qg ((),s.2.1) ((s.1.1,s.1.2.1,(),s.1.2.2.2),s.2.2.2.2)).2.2.2.2)))
   .fail)
   (.ite (qN ((),0,0,0,0,()) ((s.1.1,s.1.2.1,(),s.1.2.2.2),s.2.2.2.2))
   (.ret (.on (((qg ((),0,0,0,0,()) ((s.1.1,s.1.2.1,(),s.1.2.2.2),s.2.2.2.2)).2.1.1,(qg ((),0,0,0,0,()) ((s.1.1,s.1.2.1,(),s.1.2.2.2),s.2.2.2.2)).2.1.2.1,(),(qg ((),0,0,0,0,()) ((s.1.1,s.1.2.1,(),s.1.2.2.2),s.2.2.2.2)).2.1.2.2.2),s.2.1,s.2.2.1,(s.2.2.2.1.1,w64 (s.2.2.2.1.2.1+1),w64 (s.2.2.2.1.2.2.1+(qg ((),0,0,0,0,()) ((s.1.1,s.1.2.1,(),s.1.2.2.2),s.2.2.2.2)).1.1.2.2.2.1),s.2.2.2.1.2.2.2),(qg ((),0,0,0,0,()) ((s.1.1,s.1.2.1,(),s.1.2.2.2),s.2.2.2.2)).2.2.1,(qg ((),0,0,0,0,()) ((s.1.1,s.1.2.1,(),s.1.2.2.2),s.2.2.2.2)).2.2.2.1,(qg ((),0,0,0,0,()) ((s.1.1,s.1.2.1,(),s.1.2.2.2),s.2.2.2.2)).2.2.2.2)))
   .fail)))
  (.ret (.out 0 (s.1,s.2.1,s.2.2.1,s.2.2.2.1,s.2.2.2.2.1,s.2.2.2.2.2.1,s.2.2.2.2.2.2))))
theorem end_eq {α β γ δ ε:Type} {A:α} {f:β} {r0:ε} {hal:Bool} {rst:γ} {B:δ} {X1 Y1 X2 Y2 X3 Y3:Int} (h1:X1=Y1) (h2:X2=Y2) (h3:X3=Y3):some ((0:Nat),A,f,r0,(hal,X1,X2,X3,rst),B)=some ((0:Nat),A,f,r0,(hal,Y1,Y2,Y3,rst),B):=by
 subst h1 h2 h3
 rfl
theorem stepsR_from (f:tFault.den) (budget:Int) (hbud:budget≤67108864) (r0:tResult.den) (rst:Int×Int×List UInt8×List UInt8×List UInt8×Unit) (hal:Bool) (x:shDens qgH.ss) (hx:x.2.1=budget) (y0:shDens qgH.hs) :
  ∀(n k:Nat) (cyc hnd:Int) (y:MS),(k:Int)+n=budget→MachWf y→0≤cyc→cyc≤12*k→0≤hnd→hnd≤k →
   runL (qgH.turn x y0) (n+1) (y.1,f,r0,(hal,(k:Int),cyc,hnd,rst),y.2.1,y.2.2.1,y.2.2.2) =
    some (0,((withRun y (goX y.1.1 y.1.2.1 f n k (runSof y)).2.2 (cgoX y.1.1 y.1.2.1 f n k (runSof y) y.2.2.1)).1,f,r0,
     (hal,(k:Int)+((goX y.1.1 y.1.2.1 f n k (runSof y)).1.length:Int),cyc+cycX (goX y.1.1 y.1.2.1 f n k (runSof y)).1,hnd+(goX y.1.1 y.1.2.1 f n k (runSof y)).2.1,rst),
     (withRun y (goX y.1.1 y.1.2.1 f n k (runSof y)).2.2 (cgoX y.1.1 y.1.2.1 f n k (runSof y) y.2.2.1)).2)):=by
 intro n
 induction n with
 |zero =>
  intro k cyc hnd y hk hw _ _ _ _
  refine(runL_out ((val_no ?_).trans rfl)).trans ?_
  ·show(!y.1.2.2.2.2.1&&decide ((k:Int)<x.2.1))=false
   rw[hx,dec_false (show ¬(k:Int)<budget by omega),Bool.and_false]
  ·simp[goX,cgoX,cycX,runSof]
   rfl
 |succ n ih =>
  intro k cyc hnd y hk hw hc0 hc1 hh0 hh1
  cases hd:y.1.2.2.2.2.1 with
  |true =>
   refine(runL_out ((val_no ?_).trans rfl)).trans ?_
   ·show(!y.1.2.2.2.2.1&&decide ((k:Int)<x.2.1))=false
    rw[hd];rfl
   ·have hg:goX y.1.1 y.1.2.1 f (n+1) k (runSof y)=([],0,runSof y):=by
     unfold goX
     rw[show(runSof y).2.1=true from hd]
     rfl
    have hcg:cgoX y.1.1 y.1.2.1 f (n+1) k (runSof y) y.2.2.1=y.2.2.1:=by
     unfold cgoX
     rw[show(runSof y).2.1=true from hd]
     rfl
    rw[hg,hcg]
    simp[cycX,runSof]
    rfl
  |false =>
   have hlt:(!y.1.2.2.2.2.1&&decide ((k:Int)<x.2.1))=true:=by
    rw[hx,hd,dec_true (show(k:Int)<budget by omega)];rfl
   have hG:∀g,qN ((),g) ((y.1.1,y.1.2.1,(),y.1.2.2.2),y.2)=true:=fun g=>decide_eq_true hw
   have hV:∀g,qg ((),g) ((y.1.1,y.1.2.1,(),y.1.2.2.2),y.2)=packX y.1.1 y.1.2.1 y.1.2.2.2.2.2.1 (cacheX y.1.2.1 y.1.2.2.2.1.2.1 y.2.2.1) (stepMX y.1.1 y.1.2.1 y.1.2.2.2.1 (y.2.1,y.2.2.2) g):=fun g=>by
    unfold qg
    rw[show(((y.1.1,y.1.2.1,(),y.1.2.2.2),y.2):MS).1.2.2.2.2.1=false from hd]
    rfl
   obtain⟨s1,s2,s3,s4,s5,s6⟩:=stepMX_wf y.1.1 y.1.2.1 y.1.2.2.2.1 (y.2.1,y.2.2.2) (nowX f k) hw.mem hw.regs hw.hand
   have hw':=step_MachWf hw (nowX f k)
   have hgo:goX y.1.1 y.1.2.1 f (n+1) k (runSof y)=((stepMX y.1.1 y.1.2.1 y.1.2.2.2.1 (y.2.1,y.2.2.2) (nowX f k)).1::(goX y.1.1 y.1.2.1 f n (k+1) (stepMX y.1.1 y.1.2.1 y.1.2.2.2.1 (y.2.1,y.2.2.2) (nowX f k)).2).1,
     (bif y.1.2.2.2.1.2.1==y.1.1.2.1 then 1 else 0)+(goX y.1.1 y.1.2.1 f n (k+1) (stepMX y.1.1 y.1.2.1 y.1.2.2.2.1 (y.2.1,y.2.2.2) (nowX f k)).2).2.1,
     (goX y.1.1 y.1.2.1 f n (k+1) (stepMX y.1.1 y.1.2.1 y.1.2.2.2.1 (y.2.1,y.2.2.2) (nowX f k)).2).2.2):=by
    rw[goX]
    rw[show(runSof y).2.1=false from hd]
    rfl
   have hcg:cgoX y.1.1 y.1.2.1 f (n+1) k (runSof y) y.2.2.1=cgoX y.1.1 y.1.2.1 f n (k+1) (stepMX y.1.1 y.1.2.1 y.1.2.2.2.1 (y.2.1,y.2.2.2) (nowX f k)).2 (cacheX y.1.2.1 y.1.2.2.2.1.2.1 y.2.2.1):=by
    rw[cgoX]
    rw[show(runSof y).2.1=false from hd]
    rfl
   rw[hgo,hcg]
   have w1:w64 ((k:Int)+1)=((k+1:Nat):Int):=by rw[w64_id (by omega) (by omega)];omega
   generalize hE:stepMX y.1.1 y.1.2.1 y.1.2.2.2.1 (y.2.1,y.2.2.2) (nowX f k)=E at *
   have b0:(0:Int)≤E.1.2.2.2.1:=s5
   have b1:(12:Int)≥E.1.2.2.2.1:=s6
   have b2:(k:Int)≤67108864:=by omega
   have b3:cyc≤805306368:=by omega
   have w2:w64 (cyc+E.1.2.2.2.1)=cyc+E.1.2.2.2.1:=w64_id (by omega) (by omega)
   have w3:w64 (hnd+1)=hnd+1:=w64_id (by omega) (by omega)
   obtain⟨G1,hG1⟩:∃G1,G1=goX y.1.1 y.1.2.1 f n ((k:Int)+1) E.2:=⟨_,rfl⟩
   obtain⟨C1,hC1⟩:∃C1,C1=cgoX y.1.1 y.1.2.1 f n ((k:Int)+1) E.2 (cacheX y.1.2.1 y.1.2.2.2.1.2.1 y.2.2.1):=⟨_,rfl⟩
   rw[←hG1,←hC1]
   have fin:∀(b:Int),(b=0∨b=1)→runL (qgH.turn x y0) (n+1) ((packX y.1.1 y.1.2.1 y.1.2.2.2.2.2.1 (cacheX y.1.2.1 y.1.2.2.2.1.2.1 y.2.2.1) E).2.1,f,r0,(hal,((k+1:Nat):Int),cyc+E.1.2.2.2.1,hnd+b,rst),(packX y.1.1 y.1.2.1 y.1.2.2.2.2.2.1 (cacheX y.1.2.1 y.1.2.2.2.1.2.1 y.2.2.1) E).2.2)=some (0,(withRun y G1.2.2 C1).1,f,r0,(hal,((k+1:Nat):Int)+((G1.1.length:Nat):Int),cyc+E.1.2.2.2.1+cycX G1.1,hnd+b+G1.2.1,rst),(withRun y G1.2.2 C1).2):=fun b hb=>by
    have:=ih (k+1) (cyc+E.1.2.2.2.1) (hnd+b) (packX y.1.1 y.1.2.1 y.1.2.2.2.2.2.1 (cacheX y.1.2.1 y.1.2.2.2.1.2.1 y.2.2.1) E).2 (by omega) hw' (by omega) (by omega) (by omega) (by omega)
    rw[hG1,hC1]
    exact this
   have hnow:nowX f k=(bif f.2.1==(k:Int) then f else noFault):=rfl
   cases hb1:(y.1.2.2.2.1.2.1==y.1.1.2.1) with
   |true =>
    cases hb2:(f.2.1==(k:Int)) with
    |true =>
     rw[hb2] at hnow
     simp only[cond_true] at hnow
     rw[hnow] at hE
     refine(runL_on (s':=((packX y.1.1 y.1.2.1 y.1.2.2.2.2.2.1 (cacheX y.1.2.1 y.1.2.2.2.1.2.1 y.2.2.1) E).2.1,f,r0,(hal,((k+1:Nat):Int),cyc+E.1.2.2.2.1,hnd+1,rst),(packX y.1.1 y.1.2.1 y.1.2.2.2.2.2.1 (cacheX y.1.2.1 y.1.2.2.2.1.2.1 y.2.2.1) E).2.2)) ((val_yes hlt).trans ((val_yes hb1).trans ((val_yes hb2).trans ((val_yes (hG _)).trans (by rw[hV,hE,w1,w2,w3];rfl)))))).trans ?_
     refine(fin 1 (.inr rfl)).trans ?_
     exact end_eq (by simp only[List.length_cons];omega) (Int.add_assoc _ _ _) (Int.add_assoc _ _ _)
    |false =>
     rw[hb2] at hnow
     simp only[cond_false] at hnow
     rw[hnow] at hE
     refine(runL_on (s':=((packX y.1.1 y.1.2.1 y.1.2.2.2.2.2.1 (cacheX y.1.2.1 y.1.2.2.2.1.2.1 y.2.2.1) E).2.1,f,r0,(hal,((k+1:Nat):Int),cyc+E.1.2.2.2.1,hnd+1,rst),(packX y.1.1 y.1.2.1 y.1.2.2.2.2.2.1 (cacheX y.1.2.1 y.1.2.2.2.1.2.1 y.2.2.1) E).2.2)) ((val_yes hlt).trans ((val_yes hb1).trans ((val_no hb2).trans ((val_yes (hG _)).trans (by rw[hV,hE,w1,w2,w3];rfl)))))).trans ?_
     refine(fin 1 (.inr rfl)).trans ?_
     exact end_eq (by simp only[List.length_cons];omega) (Int.add_assoc _ _ _) (Int.add_assoc _ _ _)
   |false =>
    cases hb2:(f.2.1==(k:Int)) with
    |true =>
     rw[hb2] at hnow
     simp only[cond_true] at hnow
     rw[hnow] at hE
     refine(runL_on (s':=((packX y.1.1 y.1.2.1 y.1.2.2.2.2.2.1 (cacheX y.1.2.1 y.1.2.2.2.1.2.1 y.2.2.1) E).2.1,f,r0,(hal,((k+1:Nat):Int),cyc+E.1.2.2.2.1,hnd+0,rst),(packX y.1.1 y.1.2.1 y.1.2.2.2.2.2.1 (cacheX y.1.2.1 y.1.2.2.2.1.2.1 y.2.2.1) E).2.2)) ((val_yes hlt).trans ((val_no hb1).trans ((val_yes hb2).trans ((val_yes (hG _)).trans (by rw[hV,hE,w1,w2];simp only[Int.add_zero];rfl)))))).trans ?_
     refine(fin 0 (.inl rfl)).trans ?_
     exact end_eq (by simp only[List.length_cons];omega) (Int.add_assoc _ _ _) (Int.add_assoc _ _ _)
    |false =>
     rw[hb2] at hnow
     simp only[cond_false] at hnow
     rw[hnow] at hE
     refine(runL_on (s':=((packX y.1.1 y.1.2.1 y.1.2.2.2.2.2.1 (cacheX y.1.2.1 y.1.2.2.2.1.2.1 y.2.2.1) E).2.1,f,r0,(hal,((k+1:Nat):Int),cyc+E.1.2.2.2.1,hnd+0,rst),(packX y.1.1 y.1.2.1 y.1.2.2.2.2.2.1 (cacheX y.1.2.1 y.1.2.2.2.1.2.1 y.2.2.1) E).2.2)) ((val_yes hlt).trans ((val_no hb1).trans ((val_no hb2).trans ((val_yes (hG _)).trans (by rw[hV,hE,w1,w2];simp only[Int.add_zero];rfl)))))).trans ?_
     refine(fin 0 (.inl rfl)).trans ?_
     exact end_eq (by simp only[List.length_cons];omega) (Int.add_assoc _ _ _) (Int.add_assoc _ _ _)
abbrev qbX:List Sh:=[.box 0 0,.ty tFault,.ty (.int .i64),.fn 49 (.ty .unit)]
abbrev qbV:List Sh:=[shMach,shMemB 3,.rowc tFetched,.rowc (.int .u8)]
abbrev qdc:Sh:=Sh.ty tResult
abbrev qed:List Sh:=[Sh.pair (Sh.ty (Ty.pair (Ty.int IntKind.i64) (Ty.pair (Ty.int IntKind.i64) (Ty.pair tSizes (Ty.pair (Ty.int IntKind.i64) Ty.unit))))) (Sh.pair (Sh.ty Ty.str) (Sh.pair (Sh.box 1 0) (Sh.pair (Sh.ty tState) (Sh.pair (Sh.ty Ty.bool) (Sh.pair (Sh.win 2 (Ty.pair tIns (Ty.pair (Ty.int IntKind.i64) (Ty.pair Ty.bool (Ty.pair Ty.bool Ty.unit))))) (Sh.ty Ty.unit)))))),Sh.pair (Sh.ty (Ty.sl tSpot)) (Sh.pair (Sh.wsl none 3 (Ty.int IntKind.u8)) (Sh.ty Ty.unit)),Sh.rowc (Ty.pair tIns (Ty.pair (Ty.int IntKind.i64) (Ty.pair Ty.bool (Ty.pair Ty.bool Ty.unit)))),Sh.rowc (Ty.int IntKind.u8)]
def qeq (x:shDens qbX) (y:shDens qbV):PO (Sh.den qdc×shDens qed) :=
 (.opt (LoopN.res qgH ((),x.2.2.1,x.2.2.2,(),(),()) ((y.1.1,y.1.2.1,(),y.1.2.2.2),x.2.1,(false,0,0,0,0,0,[],[],[],()),(false,0,0,0,0,0,[],[],[],()),y.2)) fun p0 =>
  (.ret ((p0.2.1.2.2.2.2.1,p0.2.2.2.2.1.2),((p0.2.1.1,p0.2.1.2.1,(),p0.2.1.2.2.2),p0.2.2.2.2.2.1,p0.2.2.2.2.2.2.1,p0.2.2.2.2.2.2.2))))
def qdb (x:shDens qbX) (y:shDens qbV):Bool:=decide (MachWf y∧(show Int from x.2.2.1)≤67108864)
def qdl (x:tFault.den×Int) (y:MS):tResult.den:=((goX y.1.1 y.1.2.1 x.1 x.2.toNat 0 (runSof y)).2.2.2.1,((goX y.1.1 y.1.2.1 x.1 x.2.toNat 0 (runSof y)).1.length:Int),cycX (goX y.1.1 y.1.2.1 x.1 x.2.toNat 0 (runSof y)).1,(goX y.1.1 y.1.2.1 x.1 x.2.toNat 0 (runSof y)).2.1,0,0,[],[],[],())
def qF (x:tFault.den×Int) (y:MS):MS:=withRun y (goX y.1.1 y.1.2.1 x.1 x.2.toNat 0 (runSof y)).2.2 (cgoX y.1.1 y.1.2.1 x.1 x.2.toNat 0 (runSof y) y.2.2.1)
abbrev qer (x:shDens qbX) (y:shDens qbV):Sh.den qdc×shDens qed:=(qdl (x.2.1,x.2.2.1) y,qF (x.2.1,x.2.2.1) y)
theorem qkj (x:shDens qbX) (y:shDens qbV) (h:qdb x y=true):(qeq x y).val=some (qer x y):=by
 obtain⟨hw,hb⟩:=of_decide_eq_true h
 obtain⟨u,f,budget,u'⟩:=x
 have hb:budget≤67108864:=hb
 unfold qeq
 have key:LoopN.res qgH ((),budget,u',(),(),()) ((y.1.1,y.1.2.1,(),y.1.2.2.2),f,(false,0,0,0,0,0,[],[],[],()),(false,0,0,0,0,0,[],[],[],()),y.2) =
   some (0,(qF (f,budget) y).1,f,(false,0,0,0,0,0,[],[],[],()),(false,((goX y.1.1 y.1.2.1 f budget.toNat 0 (runSof y)).1.length:Int),cycX (goX y.1.1 y.1.2.1 f budget.toNat 0 (runSof y)).1,(goX y.1.1 y.1.2.1 f budget.toNat 0 (runSof y)).2.1,0,0,[],[],[],()),(qF (f,budget) y).2):=by
  rcases Int.lt_or_le budget 0 with h0 |h0
  ·unfold LoopN.res
   have e:budget.toNat=0:=by omega
   show runL _ (budget.toNat+1) _=_
   unfold qF
   rw[e]
   refine(runL_out ((val_no ?_).trans rfl)).trans rfl
   show(!y.1.2.2.2.2.1&&decide ((0:Int)<budget))=false
   rw[dec_false (show ¬(0:Int)<budget by omega),Bool.and_false]
  ·have:=stepsR_from f budget hb (false,0,0,0,0,0,[],[],[],()) (0,0,[],[],[],()) false ((),budget,u',(),(),()) rfl ((y.1.1,y.1.2.1,(),y.1.2.2.2),f,(false,0,0,0,0,0,[],[],[],()),(false,0,0,0,0,0,[],[],[],()),y.2) budget.toNat 0 0 0 y (by omega) hw (by omega) (by omega) (by omega) (by omega)
   unfold LoopN.res
   refine Eq.trans ?_ (this.trans (end_eq (Int.zero_add _) (Int.zero_add _) (Int.zero_add _)))
   rfl
 exact(val_opt key).trans rfl
end Go.Av
end
section
namespace Go.Av
open Go
abbrev qju:List Ty:=[.str]
abbrev qkC:Sh:=Sh.tup (Sh.pair (Sh.ty (Ty.int IntKind.i64)) (Sh.pair (Sh.ty Ty.bool) (Sh.ty Ty.unit)))
def qgx (x:dens qju):PO (Sh.den qkC) :=
 (.ite (lenI x != 4)
  (.ret ((0,false,())))
  (.ite (inRange 0 (List.length x)&&true)
  (.ite (inRange 1 (List.length x)&&true)
   (.ite (inRange 2 (List.length x)&&true)
   (.ite (inRange 3 (List.length x)&&true)
    (.ret ((bor IntKind.i64 (bor IntKind.i64 (bor IntKind.i64 (bor IntKind.i64 0 (ishl IntKind.i64 (w64 (u8I (List.getD x (Int.toNat 0) 0))) 0)) (ishl IntKind.i64 (w64 (u8I (List.getD x (Int.toNat 1) 0))) 8)) (ishl IntKind.i64 (w64 (u8I (List.getD x (Int.toNat 2) 0))) 16)) (ishl IntKind.i64 (w64 (u8I (List.getD x (Int.toNat 3) 0))) 24),true,())))
    .fail)
   .fail)
   .fail)
  .fail))
def qgw (x:dens qju):Bool:=(qgx x).val.isSome
def qhZ (x:dens qju):Sh.den qkC:=(qgx x).getO default
theorem qnB (x:dens qju) (h:qgw x=true):(qgx x).val=some (qhZ x):=PO.getO_ok default h
abbrev qfL:List Ty:=[(.int .i64),(.int .i64)]
abbrev qhJ:Sh:=Sh.ty Ty.bool
def qhx (x:dens qfL):PO (Sh.den qhJ) :=
 (.ret (decide (x.1≥64)&&(decide (x.1<x.2)&&band IntKind.i64 x.1 1==0)))
def qjQ (_:dens qfL):Bool:=true
def qb4 (x:dens qfL):Sh.den qhJ:=(qhx x).getO default
theorem qmK (x:dens qfL) (_:qjQ x=true):(qhx x).val=some (qb4 x):=PO.sure_ok default (by simp[qhx,PO.sure])
abbrev qil:List Ty:=[.str,(.int .i64)]
abbrev qjX:Sh:=Sh.ty (Ty.int IntKind.i64)
def qfC (x:dens qil):PO (Sh.den qjX) :=
 (.ite (decide (0≤w64 (w64 (4*x.2)+4))&&decide (w64 (w64 (4*x.2)+4)≤lenI x.1)&&decide (0≤w64 (4*x.2))&&decide (w64 (4*x.2)≤w64 (w64 (4*x.2)+4))&&qgw (List.drop (Int.toNat (w64 (4*x.2))) (List.take (Int.toNat (w64 (w64 (4*x.2)+4))) x.1)))
  (.ret ((qhZ (List.drop (Int.toNat (w64 (4*x.2))) (List.take (Int.toNat (w64 (w64 (4*x.2)+4))) x.1))).1))
  .fail)
def qca (x:dens qil):Bool:=(qfC x).val.isSome
def qC (x:dens qil):Sh.den qjX:=(qfC x).getO default
theorem qnn (x:dens qil) (h:qca x=true):(qfC x).val=some (qC x):=PO.getO_ok default h
abbrev qfS:List Ty:=[tHead,(.int .i64)]
abbrev qhE:Sh:=Sh.ty (Ty.int IntKind.i64)
def qex (x:dens qfS):PO (Sh.den qhE) :=
 (.ite (qJ (x.1.2.2.1,x.2) != 0)
  (.ret (qJ (x.1.2.2.1,x.2)))
  (.ite (decide (x.1.2.2.2.1<0)||(decide (x.1.2.2.2.1≥3)||(!qb4 (x.1.1,x.2)||true)))
  (.ite (decide (x.1.2.2.2.1<0)||(decide (x.1.2.2.2.1≥3)||(!qb4 (x.1.1,x.2)||!qb4 (x.1.2.1,x.2))))
   (.ret (2))
   (.ret (0)))
  .fail))
def qjR (_:dens qfS):Bool:=true
def qO (x:dens qfS):Sh.den qhE:=(qex x).getO default
theorem qmI (x:dens qfS) (_:qjR x=true):(qex x).val=some (qO x):=PO.tots_ok default (by simp[qex,PO.tots])
abbrev qf2:List Ty:=[tHead]
abbrev qhz:Sh:=Sh.ty (Ty.arr 16 (Ty.int IntKind.i64))
def qhs (x:dens qf2):PO (Sh.den qhz) :=
 (.ret (List.set (List.set (List.set (List.set (List.set (List.set (List.set (List.set (List.set (List.set (List.set (List.set (List.set (List.set (List.set (List.set (List.set (List.set (List.set (List.set (List.set (List.set [0,0,0,0,0,0,0,0,0,0,0,0,0,0,0,0] (Int.toNat 0) (bor IntKind.i64 x.2.1 1)) (Int.toNat 1) (bor IntKind.i64 x.2.1 1)) (Int.toNat 2) (bor IntKind.i64 x.2.1 1)) (Int.toNat 3) (bor IntKind.i64 x.2.1 1)) (Int.toNat 4) (bor IntKind.i64 x.2.1 1)) (Int.toNat 5) (bor IntKind.i64 x.2.1 1)) (Int.toNat 6) (bor IntKind.i64 x.2.1 1)) (Int.toNat 7) (bor IntKind.i64 x.2.1 1)) (Int.toNat 8) (bor IntKind.i64 x.2.1 1)) (Int.toNat 9) (bor IntKind.i64 x.2.1 1)) (Int.toNat 10) (bor IntKind.i64 x.2.1 1)) (Int.toNat 11) (bor IntKind.i64 x.2.1 1)) (Int.toNat 12) (bor IntKind.i64 x.2.1 1)) (Int.toNat 13) (bor IntKind.i64 x.2.1 1)) (Int.toNat 14) (bor IntKind.i64 x.2.1 1)) (Int.toNat 15) (bor IntKind.i64 x.2.1 1)) 0 537133056) 1 (bor IntKind.i64 x.1 1)) 7 x.2.2.1.1) 8 x.2.2.1.2.1) 9 x.2.2.1.2.2.1) 10 x.2.2.2.1))
def qjL (_:dens qf2):Bool:=true
def qy (x:dens qf2):Sh.den qhz:=(qhs x).getO default
theorem qmy (x:dens qf2) (_:qjL x=true):(qhs x).val=some (qy x):=PO.sure_ok default (by simp[qhs,PO.sure])
def qeF:LoopN where
 M:=[0,2,3,4,34,35]
 T:=[5,6,36,37,38,39,40,41,42,43,44,45]
 D:=[0,34,35]
 ss:=[.ty .str,.box 0 0,.ty (.int .i64),.box 1 0,.ty (.arr 16 (.int .i64)),.ty (.int .i64)]
 hs:=[(.ty tHead),(.ty tHead)]
 es:=[.exit 0,.ret]
 σ:=(Ty.den (.int .i64))×(Ty.den (.int .i64))×(Sh.den ((.ty tHead)))×(Sh.den ((.ty tHead)))
 x0:=fun x y=>(x.2.2.1,x.2.2.2.2.2,y.1,y.2)
 put:=fun x _ s=>((x.1,x.2.1,s.1,x.2.2.2.1,x.2.2.2.2.1,s.2.1),(s.2.2.1,s.2.2.2))
 fuel:=fun _ _=>17
 turn:=fun x _ s =>
 (.ite (decide (s.2.1<16))
  (.ite (inRange s.2.1 16)
  (.ite (qca (x.1,s.2.1))
   (.ite (qC (x.1,s.2.1) != List.getD x.2.2.2.2.1 (Int.toNat s.2.1) (Ty.dflt (Ty.int IntKind.i64)))
   (.ret (.out 1 (4,s.2.1,(0,0,(0,0,0,()),0,()),s.2.2.2)))
   (.ret (.on (s.1,w64 (s.2.1+1),s.2.2.1,s.2.2.2))))
   .fail)
  .fail)
  (.ret (.out 0 (s.1,s.2.1,s.2.2.1,s.2.2.2))))
theorem of_total (s:List UInt8):qgw s=true:=by
 unfold qgw qgx
 cases h:(lenI s != 4)
 ·have hl:List.length s=4:=by
   simp only[lenI,bne_eq_false_iff_eq] at h
   omega
  rw[val_no rfl,val_yes (by rw[show(0:Int)=((0:Nat):Int) from rfl,inR (by omega)];rfl),val_yes (by rw[show(1:Int)=((1:Nat):Int) from rfl,inR (by omega)];rfl),val_yes (by rw[show(2:Int)=((2:Nat):Int) from rfl,inR (by omega)];rfl),val_yes (by rw[show(3:Int)=((3:Nat):Int) from rfl,inR (by omega)];rfl)]
  rfl
 ·rw[val_yes rfl]
  rfl
theorem at_total (s:List UInt8) (k:Nat) (hk:k<16) (hs:64≤s.length):qca (s,(k:Int))=true:=by
 unfold qca qfC
 have e1:w64 (4*(k:Int))=4*(k:Int):=w64_id (by omega) (by omega)
 have e2:w64 (4*(k:Int)+4)=4*(k:Int)+4:=w64_id (by omega) (by omega)
 rw[val_yes (by
  dsimp only
  rw[e1,e2,of_total]
  simp only[lenI,Bool.and_eq_true,decide_eq_true_eq,Bool.and_true]
  exact⟨⟨⟨by omega,by omega⟩,by omega⟩,by omega⟩)]
 rfl
def headX (s:List UInt8):tHead.den:=(w64 (qC (s,1)-1),w64 (qC (s,3)-1),(qC (s,7),qC (s,8),qC (s,9),()),qC (s,10),())
abbrev noHead:tHead.den:=(0,0,(0,0,0,()),0,())
def wordIs (s:List UInt8) (fr:List Int) (i:Nat):Bool:=!(qC (s,(i:Int)) != List.getD fr (Int.toNat (i:Int)) (Ty.dflt (Ty.int IntKind.i64)))
def parseX (s:List UInt8):tHead.den×Int×Unit :=
 bif decide (lenI s<64) then(noHead,3,())
 else bif qO (headX s,lenI s) != 0 then(noHead,4,())
 else bif (List.range' 0 16).all (wordIs s (qy (headX s))) then(headX s,0,()) else(noHead,4,())
theorem parse7 (s:List UInt8) (fr:List Int) (h z:tHead.den) (hs:64≤s.length):∀(n i:Nat),i+n=16→∃j:Int,
  runL (qeF.turn (s,(),0,(),fr,0) (z,h)) (n+1) (0,(i:Int),z,h)=some (bif (List.range' i n).all (wordIs s fr) then(0,(0,16,z,h)) else(1,(4,j,noHead,h)))
 |0,i,hi=>⟨0,(runL_out ((val_no (dec_false (show ¬(i:Int)<16 by omega))).trans rfl)).trans (by
   have:i=16:=by omega
   subst this
   rfl)⟩
 |n+1,i,hi=>by
  have hlt:decide ((i:Int)<16)=true:=dec_true (by omega)
  have hin:inRange (i:Int) 16=true:=inR (by omega)
  have hg:=at_total s i (by omega) hs
  cases hw:wordIs s fr i with
  |true =>
   obtain⟨j,hj⟩:=parse7 s fr h z hs n (i+1) (by omega)
   refine⟨j,(runL_on (s':=(0,((i+1:Nat):Int),z,h)) ((val_yes hlt).trans ((val_yes hin).trans ((val_yes hg).trans ((val_no ?_).trans ?_))))).trans (hj.trans ?_)⟩
   ·unfold wordIs at hw
    exact Bool.not_eq_true' _ |>.mp hw
   ·show some (TL.on (0,w64 ((i:Int)+1),z,h))=_
    rw[w64_id (by omega) (by omega)]
    rfl
   ·rw[List.range'_succ,List.all_cons,hw,Bool.true_and]
  |false =>
   refine⟨i,(runL_out ((val_yes hlt).trans ((val_yes hin).trans ((val_yes hg).trans ((val_yes ?_).trans rfl))))).trans ?_⟩
   ·unfold wordIs at hw
    exact Bool.not_eq_false' _ |>.mp hw
   ·rw[List.range'_succ,List.all_cons,hw,Bool.false_and]
    rfl
abbrev qf3:List Ty:=[.str]
abbrev qht:Sh:=Sh.tup (Sh.pair (Sh.ty (Ty.pair (Ty.int IntKind.i64) (Ty.pair (Ty.int IntKind.i64) (Ty.pair tSizes (Ty.pair (Ty.int IntKind.i64) Ty.unit))))) (Sh.pair (Sh.ty (Ty.int IntKind.i64)) (Sh.ty Ty.unit)))
def qhK (x:dens qf3):PO (Sh.den qht) :=
 (.ite (decide (lenI x<64))
  (.ret (((0,0,(0,0,0,()),0,()),3,())))
  (.ite (qca (x,1))
  (.ite (qca (x,3))
   (.ite (qca (x,10))
   (.ite (qca (x,7))
    (.ite (qca (x,8))
    (.ite (qca (x,9))
     (.ite (qO ((w64 (qC (x,1)-1),w64 (qC (x,3)-1),(qC (x,7),qC (x,8),qC (x,9),()),qC (x,10),()),lenI x) != 0)
     (.ret (((0,0,(0,0,0,()),0,()),4,())))
     (.opt (LoopN.res qeF (x,(),0,(),qy (w64 (qC (x,1)-1),w64 (qC (x,3)-1),(qC (x,7),qC (x,8),qC (x,9),()),qC (x,10),()),0) ((0,0,(0,0,0,()),0,()),w64 (qC (x,1)-1),w64 (qC (x,3)-1),(qC (x,7),qC (x,8),qC (x,9),()),qC (x,10),())) fun p0 =>
      (.ite (way p0.1)
      (.ret ((p0.2.2.2.2,0,())))
      (.ret ((p0.2.2.2.1,p0.2.1,()))))))
     .fail)
    .fail)
    .fail)
   .fail)
   .fail)
  .fail))
def qhC (_:dens qf3):Bool:=true
def qv (x:dens qf3):Sh.den qht:=parseX x
theorem parse_val (s:List UInt8):(qhK s).val=some (parseX s):=by
 unfold qhK parseX
 cases h1:decide (lenI s<64)
 ·have hs:64≤s.length:=by
   simp only[lenI,decide_eq_false_iff_not] at h1
   omega
  have a:=fun k hk=>at_total s k hk hs
  refine(val_no rfl).trans ((val_yes (a 1 (by omega))).trans ((val_yes (a 3 (by omega))).trans ((val_yes (a 10 (by omega))).trans ((val_yes (a 7 (by omega))).trans ((val_yes (a 8 (by omega))).trans ((val_yes (a 9 (by omega))).trans ?_))))))
  show(PO.ite (qO (headX s,lenI s) != 0) _ _).val=_
  cases h2:(qO (headX s,lenI s) != (0:Int))
  ·obtain⟨j,hj⟩:=parse7 s (qy (headX s)) (headX s) noHead hs 16 0 (by omega)
   refine(val_no rfl).trans ?_
   have hres:LoopN.res qeF (s,(),0,(),qy (headX s),0) (noHead,headX s)=_:=hj
   refine(val_opt hres).trans ?_
   cases (List.range' 0 16).all (wordIs s (qy (headX s)))
   ·exact(val_no rfl).trans rfl
   ·exact(val_yes rfl).trans rfl
  ·exact(val_yes rfl).trans rfl
 ·exact(val_yes rfl).trans rfl
theorem qms (x:dens qf3) (_:qhC x=true):(qhK x).val=some (qv x):=parse_val x
end Go.Av
end
section
namespace Go.Av
open Go
def qdL:LoopN where
 M:=[3,6,8,9,10]
 T:=[12,37,38,39,40,41,42,43,44,45,46,47,48,49,50,51,52,53,54,55,56]
 D:=[3,6,10]
 ss:=[.ty (.int .i64),.box 0 0,.box 1 0,.ty (.int .i64),.box 2 0]
 hs:=[(.ty tFault),(.ty tResult),(shMachB 3 4),(shMemB 5),.rowc tFetched,.rowc (.int .u8)]
 es:=[.ret]
 σ:=(Ty.den (.int .i64))×(Sh.den ((.ty tFault)))×(Sh.den ((.ty tResult)))×(Sh.den ((shMachB 3 4)))×(Sh.den ((shMemB 5)))×(Sh.den (.rowc tFetched))×(Sh.den (.rowc (.int .u8)))
 x0:=fun x y=>(x.2.2.2.1,y.1,y.2.1,y.2.2.1,y.2.2.2.1,y.2.2.2.2.1,y.2.2.2.2.2)
 put:=fun x _ s=>((x.1,x.2.1,x.2.2.1,s.1,x.2.2.2.2),(s.2.1,s.2.2.1,s.2.2.2.1,s.2.2.2.2.1,s.2.2.2.2.2.1,s.2.2.2.2.2.2))
 fuel:=fun _ _=>1
 turn:=fun x _ s =>
 (.ite (qdb ((),s.2.1,x.1,()) ((s.2.2.2.1.1,s.2.2.2.1.2.1,(),s.2.2.2.1.2.2.2),s.2.2.2.2))
  (.ite (qbU ((),537919488) (((qF (s.2.1,x.1) ((s.2.2.2.1.1,s.2.2.2.1.2.1,(),s.2.2.2.1.2.2.2),s.2.2.2.2)).1.1,(qF (s.2.1,x.1) ((s.2.2.2.1.1,s.2.2.2.1.2.1,(),s.2.2.2.1.2.2.2),s.2.2.2.2)).1.2.1,(),(qF (s.2.1,x.1) ((s.2.2.2.1.1,s.2.2.2.1.2.1,(),s.2.2.2.1.2.2.2),s.2.2.2.2)).1.2.2.2),(qF (s.2.1,x.1) ((s.2.2.2.1.1,s.2.2.2.1.2.1,(),s.2.2.2.1.2.2.2),s.2.2.2.2)).2))
  (.ite (qbU ((),538968064) (((qF (s.2.1,x.1) ((s.2.2.2.1.1,s.2.2.2.1.2.1,(),s.2.2.2.1.2.2.2),s.2.2.2.2)).1.1,(qF (s.2.1,x.1) ((s.2.2.2.1.1,s.2.2.2.1.2.1,(),s.2.2.2.1.2.2.2),s.2.2.2.2)).1.2.1,(),(qF (s.2.1,x.1) ((s.2.2.2.1.1,s.2.2.2.1.2.1,(),s.2.2.2.1.2.2.2),s.2.2.2.2)).1.2.2.2),(qF (s.2.1,x.1) ((s.2.2.2.1.1,s.2.2.2.1.2.1,(),s.2.2.2.1.2.2.2),s.2.2.2.2)).2))
   (.ret (.out 0 (0,s.2.1,((qdl (s.2.1,x.1) ((s.2.2.2.1.1,s.2.2.2.1.2.1,(),s.2.2.2.1.2.2.2),s.2.2.2.2)).1,(qdl (s.2.1,x.1) ((s.2.2.2.1.1,s.2.2.2.1.2.1,(),s.2.2.2.1.2.2.2),s.2.2.2.2)).2.1,(qdl (s.2.1,x.1) ((s.2.2.2.1.1,s.2.2.2.1.2.1,(),s.2.2.2.1.2.2.2),s.2.2.2.2)).2.2.1,(qdl (s.2.1,x.1) ((s.2.2.2.1.1,s.2.2.2.1.2.1,(),s.2.2.2.1.2.2.2),s.2.2.2.2)).2.2.2.1,qlw 537919488 ((qF (s.2.1,x.1) ((s.2.2.2.1.1,s.2.2.2.1.2.1,(),s.2.2.2.1.2.2.2),s.2.2.2.2)).2.1,(qF (s.2.1,x.1) ((s.2.2.2.1.1,s.2.2.2.1.2.1,(),s.2.2.2.1.2.2.2),s.2.2.2.2)).2.2.2),qlw 538968064 ((qF (s.2.1,x.1) ((s.2.2.2.1.1,s.2.2.2.1.2.1,(),s.2.2.2.1.2.2.2),s.2.2.2.2)).2.1,(qF (s.2.1,x.1) ((s.2.2.2.1.1,s.2.2.2.1.2.1,(),s.2.2.2.1.2.2.2),s.2.2.2.2)).2.2.2),(qlp 2 ((qF (s.2.1,x.1) ((s.2.2.2.1.1,s.2.2.2.1.2.1,(),s.2.2.2.1.2.2.2),s.2.2.2.2)).2.1,(qF (s.2.1,x.1) ((s.2.2.2.1.1,s.2.2.2.1.2.1,(),s.2.2.2.1.2.2.2),s.2.2.2.2)).2.2.2)).1,(qlp 3 ((qF (s.2.1,x.1) ((s.2.2.2.1.1,s.2.2.2.1.2.1,(),s.2.2.2.1.2.2.2),s.2.2.2.2)).2.1,(qF (s.2.1,x.1) ((s.2.2.2.1.1,s.2.2.2.1.2.1,(),s.2.2.2.1.2.2.2),s.2.2.2.2)).2.2.2)).1,(qlp 4 ((qF (s.2.1,x.1) ((s.2.2.2.1.1,s.2.2.2.1.2.1,(),s.2.2.2.1.2.2.2),s.2.2.2.2)).2.1,(qF (s.2.1,x.1) ((s.2.2.2.1.1,s.2.2.2.1.2.1,(),s.2.2.2.1.2.2.2),s.2.2.2.2)).2.2.2)).1,(qdl (s.2.1,x.1) ((s.2.2.2.1.1,s.2.2.2.1.2.1,(),s.2.2.2.1.2.2.2),s.2.2.2.2)).2.2.2.2.2.2.2.2.2),((qF (s.2.1,x.1) ((s.2.2.2.1.1,s.2.2.2.1.2.1,(),s.2.2.2.1.2.2.2),s.2.2.2.2)).1.1,(qF (s.2.1,x.1) ((s.2.2.2.1.1,s.2.2.2.1.2.1,(),s.2.2.2.1.2.2.2),s.2.2.2.2)).1.2.1,(),(qF (s.2.1,x.1) ((s.2.2.2.1.1,s.2.2.2.1.2.1,(),s.2.2.2.1.2.2.2),s.2.2.2.2)).1.2.2.2),(qF (s.2.1,x.1) ((s.2.2.2.1.1,s.2.2.2.1.2.1,(),s.2.2.2.1.2.2.2),s.2.2.2.2)).2.1,(qF (s.2.1,x.1) ((s.2.2.2.1.1,s.2.2.2.1.2.1,(),s.2.2.2.1.2.2.2),s.2.2.2.2)).2.2.1,(qF (s.2.1,x.1) ((s.2.2.2.1.1,s.2.2.2.1.2.1,(),s.2.2.2.1.2.2.2),s.2.2.2.2)).2.2.2)))
   .fail)
  .fail)
  .fail)
theorem check_facts (h:tHead.den) (n:Int) (e:qO (h,n)=0):qJ (h.2.2.1,n)=0∧(64≤(show Int from h.1)∧(show Int from h.1)<n)∧64≤(show Int from h.2.1)∧(show Int from h.2.1)<n:=by
 obtain⟨rs,hn,sz,md,u⟩:=h
 unfold qO PO.getO qex at e
 cases h1:(qJ (sz,n) != (0:Int)) with
 |true =>
  rw[val_yes h1] at e
  have e':qJ (sz,n)=0:=e
  rw[e'] at h1
  cases h1
 |false =>
  rw[val_no h1] at e
  have hc:qJ (sz,n)=0:=by simpa using h1
  refine⟨hc,?_⟩
  rw[val_yes (by simp)] at e
  cases h2:(decide (md<0)||(decide (md≥3)||(!qb4 (rs,n)||!qb4 (hn,n)))) with
  |true =>
   rw[val_yes h2] at e
   cases e
  |false =>
   simp only[Bool.or_eq_false_iff,Bool.not_eq_false'] at h2
   have pl:∀a:Int,qb4 (a,n)=true→64≤a∧a<n:=fun a ha=>by
    have ha:(decide (a≥64)&&(decide (a<n)&&band IntKind.i64 a 1==0))=true:=ha
    simp only[Bool.and_eq_true,decide_eq_true_eq] at ha
    exact⟨ha.1,ha.2.1⟩
   exact⟨pl rs h2.2.2.1,pl hn h2.2.2.2⟩
theorem mcheck_facts (i o r n:Int) (e:qJ ((i,o,r,()),n)=0):(0≤i∧i≤65536)∧(0≤o∧o≤65536)∧(4≤r∧r≤65536)∧n≤262144:=by
 unfold qJ PO.getO qd7 at e
 cases h1:(decide (i<0)||Int.tmod i 4 != 0) with
 |true=>rw[val_yes h1] at e;cases e
 |false =>
 rw[val_no h1] at e
 cases h2:(decide (o<0)||Int.tmod o 4 != 0) with
 |true=>rw[val_yes h2] at e;cases e
 |false =>
 rw[val_no h2] at e
 cases h3:(decide (r<0)||Int.tmod r 4 != 0) with
 |true=>rw[val_yes h3] at e;cases e
 |false =>
 rw[val_no h3] at e
 cases h4:(decide (n<0)||decide (r<4)) with
 |true=>rw[val_yes h4] at e;cases e
 |false =>
 rw[val_no h4] at e
 cases h5:(decide (n > 262144)||decide (i > 65536)||decide (o > 65536)||decide (r > 65536)) with
 |true=>rw[val_yes h5] at e;cases e
 |false =>
  simp only[Bool.or_eq_false_iff,decide_eq_false_iff_not] at h1 h2 h3 h4 h5
  omega
def regsX (sz:tSizes.den) (n:Int):List (Int×Int×Bool×Unit):=[(0,n,false,()),(536936448,sz.1,true,()),(537001984,sz.2.1,true,()),(537133056,sz.2.2.1,true,()),(537395200,sz.2.2.1,true,()),(537919488,4,true,()),(538968064,4,true,())]
theorem regs_val (sz:tSizes.den) (n:Int) (e:qJ (sz,n)=0):qw (sz,n)=(regsX sz n,0,()):=by
 unfold qw PO.getO qec
 rw[val_no (by rw[e];rfl)]
 rfl
theorem regsX_ok (i o r n:Int) (e:qJ ((i,o,r,()),n)=0) (hn:0≤n):RegsOk (regsX (i,o,r,()) n)∧(regsX (i,o,r,()) n).length=7∧sumL (regsX (i,o,r,()) n)<1000000:=by
 obtain⟨h1,h2,h3,h4⟩:=mcheck_facts i o r n e
 refine⟨⟨by simp[regsX],fun x hx=>?_⟩,by simp[regsX],?_⟩
 ·simp only[regsX,List.mem_cons,List.not_mem_nil,or_false] at hx
  unfold RegOk
  rcases hx with rfl |rfl |rfl |rfl |rfl |rfl |rfl<;>simp only<;>omega
 ·simp only[regsX,sumL]
  omega
abbrev noRes:tResult.den:=(false,0,0,0,0,0,[],[],[],())
def startX (hd:tHead.den) (img inp:List UInt8):MS :=
 ((hd,img,(),(List.set (List.set [0,0,0,0,0,0,0,0,0,0,0,0,0,0,0] 13 537133056) 14 (qby 0),hd.1,false,false,false,false,()),false,(0,img.length / 2+1),()),(newM (regsX hd.2.2.1 (lenI img)) img inp).1,List.replicate (img.length / 2+1) dfF,(newM (regsX hd.2.2.1 (lenI img)) img inp).2)
def resX (y:MS) (f:tFault.den) (budget:Int):tResult.den :=
 ((qdl (f,budget) y).1,(qdl (f,budget) y).2.1,(qdl (f,budget) y).2.2.1,(qdl (f,budget) y).2.2.2.1,qlw 537919488 (qF (f,budget) y).mem,qlw 538968064 (qF (f,budget) y).mem,(qlp 2 (qF (f,budget) y).mem).1,(qlp 3 (qF (f,budget) y).mem).1,(qlp 4 (qF (f,budget) y).mem).1,())
def runX (img inp:List UInt8) (f:tFault.den) (budget:Int):tResult.den×Int×Unit :=
 bif (parseX img).2.1 != 0 then(noRes,(parseX img).2.1,())
 else bif lenI inp != (parseX img).1.2.2.1.1 then(noRes,2,())
 else bif (qp f != 0||(decide (budget<0)||decide (budget > 67108864))) then(noRes,2,())
 else(resX (startX (parseX img).1 img inp) f budget,0,())
theorem goX_wf (hd:tHead.den) (fl:List UInt8) (f:tFault.den) (hh:0≤(show Int from hd.2.1)∧(show Int from hd.2.1)<4294967296):∀(n:Nat) (k:Int) (s:RunS),MemWf s.2.2→List.length s.1.1=15 →
  MemWf (goX hd fl f n k s).2.2.2.2∧List.length (goX hd fl f n k s).2.2.1.1=15∧(goX hd fl f n k s).2.2.2.2.1=s.2.2.1
 |0,k,s,hm,hr=>⟨hm,hr,rfl⟩
 |n+1,k,s,hm,hr=>by
  rw[goX]
  cases s.2.1
  ·obtain⟨h1,h2,h3,h4,_⟩:=stepMX_wf hd fl s.1 s.2.2 (nowX f k) hm hr hh
   obtain⟨g1,g2,g3⟩:=goX_wf hd fl f hh n (k+1) (stepMX hd fl s.1 s.2.2 (nowX f k)).2 h3 h1
   exact⟨g1,g2,g3.trans h4⟩
  ·exact⟨hm,hr,rfl⟩
theorem end_mem {y:MS} (hy:MachWf y) (f:tFault.den) (budget:Int):MemWf (qF (f,budget) y).mem :=
 (goX_wf y.1.1 y.1.2.1 f hy.hand budget.toNat 0 (runSof y) hy.mem hy.regs).1
theorem c12_res (y:MS) (hy:MachWf y) (f:tFault.den) (budget:Int) (hb:budget≤67108864):∃z,LoopN.res qdL (budget,(),(),0,()) (f,noRes,y.1,y.2.1,y.2.2.1,y.2.2.2)=some (0,0,f,resX y f budget,z):=by
 have hm:=end_mem hy f budget
 exact⟨qF (f,budget) y,runL_out ((val_yes (decide_eq_true ⟨hy,hb⟩)).trans ((val_yes (decide_eq_true ⟨hm,by decide⟩)).trans ((val_yes (decide_eq_true ⟨hm,by decide⟩)).trans rfl)))⟩
theorem parse_facts (img:List UInt8) (h:((parseX img).2.1 != (0:Int))=false):∃rs hn i o r md,(parseX img).1=(rs,hn,(i,o,r,()),md,())∧qJ ((i,o,r,()),lenI img)=0∧(64≤rs∧rs<lenI img)∧(64≤hn∧hn<lenI img)∧lenI img≤262144∧64≤img.length:=by
 unfold parseX at h ⊢
 cases h1:decide (lenI img<64) with
 |true=>rw[h1] at h;cases h
 |false =>
 rw[h1] at h
 simp only[cond_false] at h ⊢
 cases h2:(qO (headX img,lenI img) != (0:Int)) with
 |true=>rw[h2] at h;cases h
 |false =>
 rw[h2] at h
 simp only[cond_false] at h ⊢
 cases h3:(List.range' 0 16).all (wordIs img (qy (headX img))) with
 |false=>rw[h3] at h;cases h
 |true =>
 obtain⟨f1,f2,f3⟩:=check_facts (headX img) (lenI img) (by simpa using h2)
 simp only[cond_true]
 generalize headX img=hd at *
 obtain⟨rs,hn,⟨i,o,r,u1⟩,md,u2⟩:=hd
 refine⟨rs,hn,i,o,r,md,rfl,f1,f2,f3,(mcheck_facts i o r _ f1).2.2.2,?_⟩
 simp only[lenI,decide_eq_false_iff_not] at h1
 omega
theorem startX_wf (rs hn i o r md:Int) (img inp:List UInt8) (h1:qJ ((i,o,r,()),lenI img)=0) (h2:64≤rs∧rs<lenI img) (h3:64≤hn∧hn<lenI img) (h4:lenI img≤262144):MachWf (startX (rs,hn,(i,o,r,()),md,()) img inp):=by
 obtain⟨g1,g2,g3⟩:=regsX_ok i o r (lenI img) h1 (by simp only[lenI];omega)
 exact{
  mem:=newM_wf _ img inp g1 (by show 2≤(regsX (i,o,r,()) (lenI img)).length;omega)
  regs:=rfl
  pc:=⟨by show(0:Int)≤rs;omega,by show rs<(4294967296:Int);omega⟩
  hand:=⟨by show(0:Int)≤hn;omega,by show hn<(4294967296:Int);omega⟩
  len:=by show img.length≤262144;simp only[lenI] at h4;omega
  win:=rfl
  cache:=⟨List.length_replicate,fun k hk hn=>by
   have e:List.getD (List.replicate (img.length / 2+1) dfF) k dfF=dfF:=by
    rw[List.getD_eq_getElem?_getD,List.getElem?_replicate]
    split<;>rfl
   rw[show(startX (rs,_,(i,o,r,()),md,()) img inp).2.2.1=List.replicate (img.length / 2+1) dfF from rfl,e] at hn
   cases hn⟩}
abbrev qfO:List Ty:=[.str,.str,tFault,(.int .i64)]
abbrev qhL:Sh:=Sh.tup (Sh.pair (Sh.ty tResult) (Sh.pair (Sh.ty (Ty.int IntKind.i64)) (Sh.ty Ty.unit)))
def qjD (x:dens qfO):PO (Sh.den qhL) :=
 (.ite (qhC x.1)
  (.ite ((qv x.1).2.1 != 0)
  (.ite ((qv x.1).2.1 != 0)
   (.ret (((false,0,0,0,0,0,[],[],[],()),(qv x.1).2.1,())))
   (.ite (qp x.2.2.1 != 0||(decide (x.2.2.2<0)||decide (x.2.2.2 > 67108864)))
   (.ret (((false,0,0,0,0,0,[],[],[],()),2,())))
   .fail))
  (.ite ((qw ((qv x.1).1.2.2.1,lenI x.1)).2.1 != 0)
   (.ite ((qw ((qv x.1).1.2.2.1,lenI x.1)).2.1 != 0)
   (.ite ((qw ((qv x.1).1.2.2.1,lenI x.1)).2.1 != 0)
    (.ret (((false,0,0,0,0,0,[],[],[],()),(qw ((qv x.1).1.2.2.1,lenI x.1)).2.1,())))
    (.ite (qp x.2.2.1 != 0||(decide (x.2.2.2<0)||decide (x.2.2.2 > 67108864)))
    (.ret (((false,0,0,0,0,0,[],[],[],()),2,())))
    .fail))
   (.ite (roomOk (w64 (w64 (Int.tdiv (lenI x.1) 2)+1)) 80)
    (.ite (qp x.2.2.1 != 0||(decide (x.2.2.2<0)||decide (x.2.2.2 > 67108864)))
    (.ret (((false,0,0,0,0,0,[],[],[],()),2,())))
    .fail)
    .fail))
   (.ite (lenI x.2.1 != (qv x.1).1.2.2.1.1)
   (.ret (((false,0,0,0,0,0,[],[],[],()),2,())))
   (.opt (LoopN.res qd6 (x.1,x.2.1,(qw ((qv x.1).1.2.2.1,lenI x.1)).1,0,(qw ((qv x.1).1.2.2.1,lenI x.1)).1,lenI (qw ((qv x.1).1.2.2.1,lenI x.1)).1,0) ()) fun p0 =>
    (.ite (roomOk p0.2.1 1)
    (.opt (LoopN.res qdw (x.1,x.2.1,(),(0,nspan 0 p0.2.1),(qw ((qv x.1).1.2.2.1,lenI x.1)).1,lenI (qw ((qv x.1).1.2.2.1,lenI x.1)).1,0) (((qw ((qv x.1).1.2.2.1,lenI x.1)).1,[],()),zeros p0.2.1 0)) fun p1 =>
     (.ite (inRange 0 (List.length p1.2.2.2.1.2.1))
     (.ite (inRange 1 (List.length p1.2.2.2.1.2.1))
      (.ite (roomOk (w64 (w64 (Int.tdiv (lenI x.1) 2)+1)) 80)
      (.ite (qp x.2.2.1 != 0||(decide (x.2.2.2<0)||decide (x.2.2.2 > 67108864)))
       (.ret (((false,0,0,0,0,0,[],[],[],()),2,())))
       (.opt (LoopN.res qdL (x.2.2.2,(),(),0,()) (x.2.2.1,(false,0,0,0,0,0,[],[],[],()),((qv x.1).1,x.1,(),(List.set (List.set [0,0,0,0,0,0,0,0,0,0,0,0,0,0,0] 13 537133056) 14 (qby 0),(qv x.1).1.1,false,false,false,false,()),false,(0,nspan 0 (w64 (w64 (Int.tdiv (lenI x.1) 2)+1))),()),p1.2.2.2.1,zeros (w64 (w64 (Int.tdiv (lenI x.1) 2)+1)) ((0,0,0,0,0,0,0,false,()),0,false,false,()),mend (mend p1.2.2.2.2 (wAt p1.2.2.2.1.2.1 0).1 (strInts x.1) (wAt p1.2.2.2.1.2.1 0).2) (wAt p1.2.2.2.1.2.1 1).1 (strInts x.2.1) (wAt p1.2.2.2.1.2.1 1).2)) fun p2 =>
       (.ret ((p2.2.2.2.1,p2.2.1,())))))
      .fail)
      .fail)
     .fail))
    .fail)))))
  .fail)
def qjU (_:dens qfO):Bool:=true
def qjV (x:dens qfO):Sh.den qhL:=runX x.1 x.2.1 x.2.2.1 x.2.2.2
theorem qmz (x:dens qfO) (_:qjU x=true):(qjD x).val=some (qjV x):=by
 obtain⟨img,inp,f,budget⟩:=x
 unfold qjD
 refine(val_yes rfl).trans ?_
 show _=some (runX img inp f budget)
 unfold runX
 show(PO.ite ((parseX img).2.1 != (0:Int)) _ _).val=_
 cases h1:((parseX img).2.1 != (0:Int)) with
 |true=>exact(val_yes rfl).trans ((val_yes h1).trans rfl)
 |false =>
  refine(val_no rfl).trans ?_
  obtain⟨rs,hn,i,o,r,md,e,f1,f2,f3,f4,f5⟩:=parse_facts img h1
  have hreg:qw ((qv img).1.2.2.1,lenI img)=(regsX (i,o,r,()) (lenI img),0,()):=by
   show qw ((parseX img).1.2.2.1,lenI img)=_
   rw[e]
   exact regs_val _ _ f1
  obtain⟨g1,g2,g3⟩:=regsX_ok i o r (lenI img) f1 (by simp only[lenI];omega)
  have g4:∀q∈regsX (i,o,r,()) (lenI img),0≤q.2.1:=fun q hq=>(g1.2 q hq).2.1
  have hwf:=startX_wf rs hn i o r md img inp f1 f2 f3 f4
  simp only[hreg]
  refine(val_no rfl).trans ?_
  show(PO.ite (lenI inp != (parseX img).1.2.2.1.1) _ _).val=_
  simp only[cond_false]
  cases h2:(lenI inp != (parseX img).1.2.2.1.1) with
  |true=>exact(val_yes rfl).trans rfl
  |false =>
   refine(val_no rfl).trans ((val_opt (r:=_) (res_8 img inp (regsX (i,o,r,()) (lenI img)) (by omega) g4 (by omega))).trans ?_)
   refine(val_yes ?_).trans ?_
   ·show roomOk ((sumL (regsX (i,o,r,()) (lenI img)):Nat):Int) 1=true
    simp only[roomOk,Bool.and_eq_true,decide_eq_true_eq]
    omega
   have hsp:nspan 0 ((sumL (regsX (i,o,r,()) (lenI img)):Nat):Int)=sumL (regsX (i,o,r,()) (lenI img)):=by simp[nspan]
   have e15:=res_15 img inp (regsX (i,o,r,()) (lenI img)) (zeros ((sumL (regsX (i,o,r,()) (lenI img)):Nat):Int) 0) (by omega) g4
   refine(val_opt (r:=_) (by dsimp only;rw[hsp];exact e15)).trans ?_
   have hw:(winsOf 0 (regsX (i,o,r,()) (lenI img))).length=7:=by rw[winsOf_length,g2]
   have hlen:w64 (w64 (Int.tdiv (lenI img) 2)+1)=((img.length / 2+1:Nat):Int):=by
    simp only[lenI] at f4 ⊢
    rw[Int.tdiv_eq_ediv_of_nonneg (by omega),w64_id (n:=((img.length:Nat):Int) / 2) (by omega) (by omega),w64_id (by omega) (by omega)]
    omega
   refine(val_yes ?_).trans ((val_yes ?_).trans ((val_yes ?_).trans ?_))
   ·show inRange 0 (winsOf 0 (regsX (i,o,r,()) (lenI img))).length=true
    rw[hw]
    rfl
   ·show inRange 1 (winsOf 0 (regsX (i,o,r,()) (lenI img))).length=true
    rw[hw]
    rfl
   ·rw[hlen]
    simp only[lenI] at f4
    simp only[roomOk,Bool.and_eq_true,decide_eq_true_eq]
    omega
   ·simp only[cond_false]
    cases h3:(qp f != 0||(decide (budget<0)||decide (budget > 67108864))) with
    |true=>exact(val_yes rfl).trans rfl
    |false =>
     have hb:(show Int from budget)≤67108864:=by
      simp only[Bool.or_eq_false_iff,decide_eq_false_iff_not] at h3
      exact Int.not_lt.1 h3.2.2
     obtain⟨z,hz⟩:=c12_res _ hwf f budget hb
     refine(val_no rfl).trans ?_
     rw[hlen]
     have hst:startX (parseX img).1 img inp=startX (rs,hn,(i,o,r,()),md,()) img inp:=by rw[e]
     rw[hst]
     refine(val_opt (r:=(0,0,f,resX (startX (rs,hn,(i,o,r,()),md,()) img inp) f budget,z)) ?_).trans rfl
     refine Eq.trans ?_ hz
     show LoopN.res qdL (budget,(),(),0,()) (f,noRes,((parseX img).1,img,(),(_,(parseX img).1.1,_),false,(0,nspan 0 ((img.length / 2+1:Nat):Int)),()),_,zeros ((img.length / 2+1:Nat):Int) dfF,_)=_
     rw[e]
     have hns:nspan 0 ((img.length / 2+1:Nat):Int)=img.length / 2+1:=by simp only[nspan];omega
     have hz2:zeros ((img.length / 2+1:Nat):Int) dfF=List.replicate (img.length / 2+1) dfF:=by unfold zeros;rw[Int.toNat_natCast]
     rw[hns,hz2]
     rfl
end Go.Av
end
section
namespace Go.Av
open Go
abbrev shAsm (m w:Nat):Sh:=.pair (.ty (.sl tItem)) (.pair (.ty (.int .i64)) (.pair (.mp m) (.pair (.win w .bool) (.ty .unit))))
abbrev qgE:List Ty:=[(.sl .bool),(.int .i64)]
abbrev qiV:Sh:=Sh.ty Ty.bool
def qgN (x:dens qgE):PO (Sh.den qiV) :=
 (.ite (bif decide (x.2<lenI x.1) then inRange x.2 (List.length x.1) else true)
  (.ret (decide (x.2<lenI x.1)&&List.getD x.1 (Int.toNat x.2) (Ty.dflt Ty.bool)))
  .fail)
def qei (x:dens qgE):Bool:=(qgN x).val.isSome
def qeg (x:dens qgE):Sh.den qiV:=(qgN x).getO default
theorem qm1 (x:dens qgE) (h:qei x=true):(qgN x).val=some (qeg x):=PO.getO_ok default h
abbrev qgP:List Ty:=[tIns]
abbrev qh9:Sh:=Sh.ty Ty.bool
def qfc (x:dens qgP):PO (Sh.den qh9) :=
 (.ite (x.1==24)
  (.ret (x.2.2.2.2.2.2.1==0))
  (.ite (x.1==25)
  (.ret (decide (x.2.2.2.2.2.2.1≥0)&&decide (x.2.2.2.2.2.2.1≤13)))
  (.ret (false))))
def qko (_:dens qgP):Bool:=true
def qdq (x:dens qgP):Sh.den qh9:=(qfc x).getO default
theorem qmN (x:dens qgP) (_:qko x=true):(qfc x).val=some (qdq x):=PO.sure_ok default (by simp[qfc,PO.sure])
abbrev qiO:List Ty:=[tItem]
abbrev qj5:Sh:=Sh.ty Ty.bool
def qgZ (x:dens qiO):PO (Sh.den qj5) :=
 (.ite (bif x.1==0 then x.1==0 else x.1==1)
  (.ret (true))
  (.ite (x.1==2)
  (.ret (qdq x.2.2.1))
  (.ret (false))))
def qlk (_:dens qiO):Bool:=true
def qcI (x:dens qiO):Sh.den qj5:=(qgZ x).getO default
theorem qnk (x:dens qiO) (_:qlk x=true):(qgZ x).val=some (qcI x):=PO.sure_ok default (by simp[qgZ,PO.sure])
def qhf:LoopN where
 M:=[1,2,7,14,15,16]
 T:=[8,9,17,18,19,20,21,22,23,24,25,26,27,28,29,30,31,32,33,34,35,36,37,38,39,40,41,42,43,44,45,46,47,48,49,50,51]
 D:=[2,14,15,16]
 ss:=[.ty (.int .i64),.ty (.sl .bool),.osl 0 (.int .i64),.ty (.sl tItem),.ty (.int .i64),.ty (.int .i64)]
 hs:=[]
 es:=[.exit 0]
 σ:=(Ty.den (.int .i64))×(List (Ty.den (.int .i64)))×(Ty.den (.int .i64))
 x0:=fun x _=>(x.1,x.2.2.1,x.2.2.2.2.2)
 put:=fun x _ s=>((s.1,x.2.1,s.2.1,x.2.2.2.1,x.2.2.2.2.1,s.2.2),())
 fuel:=fun x _=>List.length x.2.2.2.1+1
 turn:=fun x _ s =>
 (.ite (decide (s.2.2<x.2.2.2.2.1))
  (.ite (inRange s.2.2 (List.length x.2.2.2.1))
  (.ite (Nat.ble ((List.length s.2.1+List.length [s.1])*8) 140737488355328)
   (.ite ((List.getD x.2.2.2.1 (Int.toNat s.2.2) (Ty.dflt tItem)).1==0||bif (List.getD x.2.2.2.1 (Int.toNat s.2.2) (Ty.dflt tItem)).1==2 then qei (x.2.1,s.2.2) else true)
   (.ret (.on (bif (List.getD x.2.2.2.1 (Int.toNat s.2.2) (Ty.dflt tItem)).1==0 then w64 (s.1+qba (List.getD x.2.2.2.1 (Int.toNat s.2.2) (Ty.dflt tItem)).2.2.1) else bif (List.getD x.2.2.2.1 (Int.toNat s.2.2) (Ty.dflt tItem)).1==2&&qeg (x.2.1,s.2.2) then w64 (s.1+4) else bif (List.getD x.2.2.2.1 (Int.toNat s.2.2) (Ty.dflt tItem)).1==2 then w64 (s.1+2) else s.1,s.2.1++[s.1],w64 (s.2.2+1))))
   .fail)
   .fail)
  .fail)
  (.ret (.out 0 (s.1,s.2.1,s.2.2))))
abbrev qjq:List Ty:=[(.sl tItem),(.int .i64),(.sl .bool)]
abbrev qkB:Sh:=Sh.osl 32 (Ty.int IntKind.i64)
def qjs (x:dens qjq):PO (Sh.den qkB) :=
 (.ite (roomOk (w64 (lenI x.1+1)) 8)
  (.opt (LoopN.res qhf (x.2.1,x.2.2,[],x.1,lenI x.1,0) ()) fun p0 =>
  (.ite (Nat.ble ((List.length p0.2.2.1+List.length [p0.2.1])*8) 140737488355328)
   (.ret (p0.2.2.1++[p0.2.1]))
   .fail))
  .fail)
def qfv (x:dens qjq):Bool:=(qjs x).val.isSome
def qeP (x:dens qjq):Sh.den qkB:=(qjs x).getO default
theorem qnA (x:dens qjq) (h:qfv x=true):(qjs x).val=some (qeP x):=PO.getO_ok default h
def qce:LoopN where
 M:=[0,3,12,13]
 T:=[4,14,15,16,17,18,19]
 D:=[12,13]
 ss:=[.box 0 0,.win 1 .bool,.ty (.int .i64),.ty (.int .i64)]
 hs:=[shAsm 2 3,.rowc .bool,.mapc,.rowc .bool]
 es:=[.exit 0]
 σ:=(Ty.den (.int .i64))×(Sh.den (shAsm 2 3))×(Sh.den (.rowc .bool))×(Sh.den (.mapc))×(Sh.den (.rowc .bool))
 x0:=fun x y=>(x.2.2.2,y.1,y.2.1,y.2.2.1,y.2.2.2)
 put:=fun x _ s=>((x.1,x.2.1,x.2.2.1,s.1),(s.2.1,s.2.2.1,s.2.2.2.1,s.2.2.2.2))
 fuel:=fun _ y=>List.length y.2.1+1
 turn:=fun x _ s =>
 (.ite (decide (s.1<x.2.2.1))
  (.ite (inRange s.1 x.2.1.2)
  (.ret (.on (w64 (s.1+1),s.2.1,List.set s.2.2.1 (nplus x.2.1.1 s.1) true,s.2.2.2.1,s.2.2.2.2)))
  .fail)
  (.ret (.out 0 (s.1,s.2.1,s.2.2.1,s.2.2.2.1,s.2.2.2.2))))
def qci:LoopN where
 M:=[0,2,11,12,13]
 T:=[4,14,15,16,17,18,19,20]
 D:=[11,12,13]
 ss:=[.box 0 0,.ty (.int .i64),.ty (.sl tItem),.ty (.int .i64),.ty (.int .i64)]
 hs:=[shAsm 1 2,.mapc,.rowc .bool]
 es:=[.exit 0,.ret]
 σ:=(Ty.den (.int .i64))×(Ty.den (.int .i64))×(Sh.den (shAsm 1 2))×(Sh.den (.mapc))×(Sh.den (.rowc .bool))
 x0:=fun x y=>(x.2.1,x.2.2.2.2,y.1,y.2.1,y.2.2)
 put:=fun x _ s=>((x.1,s.1,x.2.2.1,x.2.2.2.1,s.2.1),(s.2.2.1,s.2.2.2.1,s.2.2.2.2))
 fuel:=fun _ y=>List.length y.1.1+1
 turn:=fun x _ s =>
 (.ite (decide (s.2.1<x.2.2.2.1))
  (.ite (inRange s.2.1 (List.length x.2.2.1))
  (.ite (!qcI (List.getD x.2.2.1 (Int.toNat s.2.1) (Ty.dflt tItem)))
   (.ret (.out 1 (2,s.2.1,s.2.2.1,s.2.2.2.1,s.2.2.2.2)))
   (.ret (.on (s.1,w64 (s.2.1+1),s.2.2.1,s.2.2.2.1,s.2.2.2.2))))
  .fail)
  (.ret (.out 0 (s.1,s.2.1,s.2.2.1,s.2.2.2.1,s.2.2.2.2))))
def qck:LoopN where
 M:=[2,24,25,26]
 T:=[6,7,27,28,29,30,31,32,33,34,35,36,37,38,39]
 D:=[24,25,26]
 ss:=[.ty (.int .i64),.ty (.sl tItem),.ty (.int .i64),.ty (.int .i64)]
 hs:=[]
 es:=[.exit 2,.ret]
 σ:=(Ty.den (.int .i64))×(Ty.den (.int .i64))
 x0:=fun x _=>(x.1,x.2.2.2)
 put:=fun x _ s=>((s.1,x.2.1,x.2.2.1,s.2),())
 fuel:=fun x _=>List.length x.2.1+1
 turn:=fun x _ s =>
 (.ite (decide (s.2<x.2.2.1))
  (.ite (inRange s.2 (List.length x.2.1))
  (.ite ((List.getD x.2.1 (Int.toNat s.2) (Ty.dflt tItem)).1 != 0)
   (.ret (.on (s.1,w64 (s.2+1))))
   (.ite (qd (List.getD x.2.1 (Int.toNat s.2) (Ty.dflt tItem)).2.2.1 != 0)
   (.ret (.out 1 (qd (List.getD x.2.1 (Int.toNat s.2) (Ty.dflt tItem)).2.2.1,s.2)))
   (.ret (.on (s.1,w64 (s.2+1))))))
  .fail)
  (.ret (.out 0 (s.1,s.2))))
def qcg:LoopN where
 M:=[0,2,14,15,16]
 T:=[3,4,5,6,17,18,19,20,21,22,23,24,25,26,27,28,29,30,31,32,33,34,35,36,37,38,39,40,41,42]
 D:=[14,15,16]
 ss:=[.box 0 0,.ty (.int .i64),.ty (.sl tItem),.ty (.int .i64),.ty (.int .i64)]
 hs:=[shAsm 1 2,.mapc,.rowc .bool]
 es:=[.exit 0,.ret]
 σ:=(Ty.den (.int .i64))×(Ty.den (.int .i64))×(Sh.den (shAsm 1 2))×(Sh.den (.mapc))×(Sh.den (.rowc .bool))
 x0:=fun x y=>(x.2.1,x.2.2.2.2,y.1,y.2.1,y.2.2)
 put:=fun x _ s=>((x.1,s.1,x.2.2.1,x.2.2.2.1,s.2.1),(s.2.2.1,s.2.2.2.1,s.2.2.2.2))
 fuel:=fun _ y=>List.length y.1.1+1
 turn:=fun x _ s =>
 (.ite (decide (s.2.1<x.2.2.2.1))
  (.ite (inRange s.2.1 (List.length x.2.2.1))
  (.ite ((List.getD x.2.2.1 (Int.toNat s.2.1) (Ty.dflt tItem)).1 != 1)
   (.ret (.on (s.1,w64 (s.2.1+1),s.2.2.1,s.2.2.2.1,s.2.2.2.2)))
   (.ite (mhas s.2.2.2.1 (List.getD x.2.2.1 (Int.toNat s.2.1) (Ty.dflt tItem)).2.1)
   (.ret (.out 1 (13,s.2.1,s.2.2.1,s.2.2.2.1,s.2.2.2.2)))
   (.ret (.on (s.1,w64 (s.2.1+1),s.2.2.1,mput s.2.2.2.1 (List.getD x.2.2.1 (Int.toNat s.2.1) (Ty.dflt tItem)).2.1 s.2.1,s.2.2.2.2)))))
  .fail)
  (.ret (.out 0 (s.1,s.2.1,s.2.2.1,s.2.2.2.1,s.2.2.2.2))))
def qb2:LoopN where
 M:=[0,2,46,47,48]
 T:=[8,9,10,49,50,51,52,53,54,55,56,57,58,59,60,61,62,63,64,65,66,67,68,69]
 D:=[0,46,47,48]
 ss:=[.box 0 0,.ty (.int .i64),.ty (.sl tItem),.ty (.int .i64),.ty (.int .i64)]
 hs:=[shAsm 1 2,.mapc,.rowc .bool]
 es:=[.exit 2,.ret]
 σ:=(Ty.den (.int .i64))×(Ty.den (.int .i64))×(Sh.den (shAsm 1 2))×(Sh.den (.mapc))×(Sh.den (.rowc .bool))
 x0:=fun x y=>(x.2.1,x.2.2.2.2,y.1,y.2.1,y.2.2)
 put:=fun x _ s=>((x.1,s.1,x.2.2.1,x.2.2.2.1,s.2.1),(s.2.2.1,s.2.2.2.1,s.2.2.2.2))
 fuel:=fun _ y=>List.length y.1.1+1
 turn:=fun x _ s =>
 (.ite (decide (s.2.1<x.2.2.2.1))
  (.ite (inRange s.2.1 (List.length x.2.2.1))
  (.ite ((List.getD x.2.2.1 (Int.toNat s.2.1) (Ty.dflt tItem)).1==2&&!mhas s.2.2.2.1 (List.getD x.2.2.1 (Int.toNat s.2.1) (Ty.dflt tItem)).2.1)
   (.ret (.out 1 (12,s.2.1,s.2.2.1,s.2.2.2.1,s.2.2.2.2)))
   (.ret (.on (s.1,w64 (s.2.1+1),s.2.2.1,s.2.2.2.1,s.2.2.2.2))))
  .fail)
  (.ret (.out 0 (s.1,s.2.1,s.2.2.1,s.2.2.2.1,s.2.2.2.2))))
end Go.Av
end
section
namespace Go.Av
open Go
end Go.Av
end
section
namespace Go.Av
open Go
abbrev OffT:Type:=List tItem.den×List (Int×Int)×List Int×Int
def qcp (x:OffT):Bool:=inRange x.2.2.2 x.1.length&&(inRange (mval x.2.1 (x.1.getD x.2.2.2.toNat (Ty.dflt tItem)).2.1) x.2.2.1.length&&inRange x.2.2.2 x.2.2.1.length)
def qI (x:OffT):Int:=w64 (w64 (x.2.2.1.getD (mval x.2.1 (x.1.getD x.2.2.2.toNat (Ty.dflt tItem)).2.1).toNat 0-x.2.2.1.getD x.2.2.2.toNat 0)-4)
def snap_asm_assembler_offset:Plain:=fun l=>match l with
 |[⟨.tup (.tup (.ty .unit)),_⟩,⟨.ty (.sl e),it⟩,⟨.mapc,en⟩,⟨.ty (.sl (.int .i64)),at_⟩,⟨.ty (.int .i64),i⟩]=>(match Ty.dec e tItem with
  |isTrue h=>some (qcp ((h▸it:List tItem.den),en,at_,i),⟨.ty (.int .i64),qI ((h▸it:List tItem.den),en,at_,i)⟩)
  |isFalse _=>none)
 |_=>none
end Go.Av
end
section
namespace Go.Av
open Go
def shBld:Sh:=.tyc 127 (.pair (.nbox 0) (.pair (.tsl 5 0) (.ty .unit)))
abbrev shBldL (b r:Nat):Sh:=.tyc 127 (.pair (.nbox b) (.pair (.tsl 5 r) (.ty .unit)))
def shBldR:Sh:=.tyc 127 (.pair (.nbox 0) (.pair .top (.ty .unit)))
def qcH (x:List UInt8) (y:List UInt8):Bool:=Nat.ble (List.length x+List.length y) 140737488355328
def qd0 (x:List UInt8) (y:List UInt8):List UInt8:=x++y
def body_WriteString:Body:=bodyT [.box 0 0,.ty .str] [shBld] .top [shBld] (fun x y=>qcH y.2.1 x.2) (fun x y=>((),y.1,qd0 y.2.1 x.2,()))
def body_String:Body:=bodyT [.box 0 0] [shBld] (.ty .str) [shBldR] (fun _ _=>true) (fun _ y=>(y.2.1,y.1,(),()))
end Go.Av
end
section
namespace Go.Av
open Go
abbrev qcC:List Sh:=[.box 0 0]
abbrev qcE:List Sh:=[shAsm 1 2,.mapc,.rowc .bool]
abbrev qdx:Sh:=Sh.ty (Ty.int IntKind.i64)
abbrev qeX:List Sh:=[Sh.pair (Sh.ty (Ty.sl tItem)) (Sh.pair (Sh.ty (Ty.int IntKind.i64)) (Sh.pair (Sh.mp 1) (Sh.pair (Sh.win 2 Ty.bool) (Sh.ty Ty.unit)))),Sh.mapc,Sh.rowc Ty.bool]
def qcS (_:shDens qcC) (y:shDens qcE):PO (Sh.den qdx×shDens qeX) :=
 (.opt (LoopN.res qci ((),0,y.1.1,lenI y.1.1,0) ((y.1.1,y.1.2.1,(),y.1.2.2.2),y.2)) fun p0 =>
  (.ite (way p0.1)
  (.opt (LoopN.res qck (p0.2.1,p0.2.2.2.1.1,lenI p0.2.2.2.1.1,0) ()) fun p1 =>
   (.ite (way p1.1)
   (.ret (0,((p0.2.2.2.1.1,p0.2.2.2.1.2.1,(),p0.2.2.2.1.2.2.2),p0.2.2.2.2.1,p0.2.2.2.2.2)))
   (.ret (p1.2.1,((p0.2.2.2.1.1,p0.2.2.2.1.2.1,(),p0.2.2.2.1.2.2.2),p0.2.2.2.2.1,p0.2.2.2.2.2)))))
  (.ret (p0.2.1,((p0.2.2.2.1.1,p0.2.2.2.1.2.1,(),p0.2.2.2.1.2.2.2),p0.2.2.2.2.1,p0.2.2.2.2.2)))))
def qbK (x:shDens qcC) (y:shDens qcE):Bool:=(qcS x y).val.isSome
def qa (x:shDens qcC) (y:shDens qcE):Sh.den qdx×shDens qeX:=(qcS x y).getO default
theorem qkK (x:shDens qcC) (y:shDens qcE) (h:qbK x y=true):(qcS x y).val=some (qa x y):=PO.getO_ok default h
abbrev qcz:List Sh:=[.box 0 0]
abbrev qcn:List Sh:=[shAsm 1 2,.mapc,.rowc .bool]
abbrev qdA:Sh:=Sh.ty (Ty.int IntKind.i64)
abbrev qe0:List Sh:=[Sh.pair (Sh.ty (Ty.sl tItem)) (Sh.pair (Sh.ty (Ty.int IntKind.i64)) (Sh.pair (Sh.mp 1) (Sh.pair (Sh.win 2 Ty.bool) (Sh.ty Ty.unit)))),Sh.mapc,Sh.rowc Ty.bool]
def qcK (_:shDens qcz) (y:shDens qcn):PO (Sh.den qdA×shDens qe0) :=
 (.opt (LoopN.res qcg ((),0,y.1.1,lenI y.1.1,0) ((y.1.1,y.1.2.1,(),y.1.2.2.2),y.2)) fun p0 =>
  (.ite (way p0.1)
  (.opt (LoopN.res qb2 ((),p0.2.1,p0.2.2.2.1.1,lenI p0.2.2.2.1.1,0) ((p0.2.2.2.1.1,p0.2.2.2.1.2.1,(),p0.2.2.2.1.2.2.2),p0.2.2.2.2)) fun p1 =>
   (.ite (way p1.1)
   (.ret (0,((p1.2.2.2.1.1,p1.2.2.2.1.2.1,(),p1.2.2.2.1.2.2.2),p1.2.2.2.2.1,p1.2.2.2.2.2)))
   (.ret (p1.2.1,((p1.2.2.2.1.1,p1.2.2.2.1.2.1,(),p1.2.2.2.1.2.2.2),p1.2.2.2.2.1,p1.2.2.2.2.2)))))
  (.ret (p0.2.1,((p0.2.2.2.1.1,p0.2.2.2.1.2.1,(),p0.2.2.2.1.2.2.2),p0.2.2.2.2.1,p0.2.2.2.2.2)))))
def qbO (x:shDens qcz) (y:shDens qcn):Bool:=(qcK x y).val.isSome
def qf (x:shDens qcz) (y:shDens qcn):Sh.den qdA×shDens qe0:=(qcK x y).getO default
theorem qkV (x:shDens qcz) (y:shDens qcn) (h:qbO x y=true):(qcK x y).val=some (qf x y):=PO.getO_ok default h
abbrev qco:List Sh:=[.box 0 0]
abbrev qcq:List Sh:=[shAsm 1 2,.mapc,.rowc .bool]
abbrev qdv:Sh:=Sh.ty Ty.bool
abbrev qeY:List Sh:=[Sh.pair (Sh.ty (Ty.sl tItem)) (Sh.pair (Sh.ty (Ty.int IntKind.i64)) (Sh.pair (Sh.mp 1) (Sh.pair (Sh.win 2 Ty.bool) (Sh.ty Ty.unit)))),Sh.mapc,Sh.rowc Ty.bool]
def qbI (_:shDens qco) (y:shDens qcq):PO (Sh.den qdv×shDens qeY) :=
 (.ite (roomOk (lenI y.1.1) 1)
  (.opt (LoopN.res qce ((),(0,nspan 0 (lenI y.1.1)),Int.ofNat (nspan 0 (lenI y.1.1)),0) ((y.1.1,y.1.2.1,(),y.1.2.2.2),zeros (lenI y.1.1) false,y.2)) fun p0 =>
  (.ite (qfv (p0.2.2.1.1,0,shown p0.2.2.2.1 (0,nspan 0 (lenI y.1.1)))&&inRange (lenI p0.2.2.1.1) (List.length (qeP (p0.2.2.1.1,0,shown p0.2.2.2.1 (0,nspan 0 (lenI y.1.1))))))
   (.ret (decide (List.getD (qeP (p0.2.2.1.1,0,shown p0.2.2.2.1 (0,nspan 0 (lenI y.1.1)))) (Int.toNat (lenI p0.2.2.1.1)) (Ty.dflt (Ty.int IntKind.i64)) > 262144),((p0.2.2.1.1,p0.2.2.1.2.1,(),p0.2.2.1.2.2.2),p0.2.2.2.2.1,p0.2.2.2.2.2)))
   .fail))
  .fail)
def qbQ (x:shDens qco) (y:shDens qcq):Bool:=(qbI x y).val.isSome
def qH (x:shDens qco) (y:shDens qcq):Sh.den qdv×shDens qeY:=(qbI x y).getO default
theorem qkF (x:shDens qco) (y:shDens qcq) (h:qbQ x y=true):(qbI x y).val=some (qH x y):=PO.getO_ok default h
abbrev qcD:List Sh:=[.box 0 0]
abbrev qcB:List Sh:=[shAsm 1 2,.mapc,.rowc .bool]
abbrev qds:Sh:=Sh.ty (Ty.int IntKind.i64)
abbrev qe5:List Sh:=[Sh.pair (Sh.ty (Ty.sl tItem)) (Sh.pair (Sh.ty (Ty.int IntKind.i64)) (Sh.pair (Sh.mp 1) (Sh.pair (Sh.win 2 Ty.bool) (Sh.ty Ty.unit)))),Sh.mapc,Sh.rowc Ty.bool]
def qbN (_:shDens qcD) (y:shDens qcB):PO (Sh.den qds×shDens qe5) :=
 (.ite (decide (y.1.2.1<0)||(decide (y.1.2.1 > 262144)||band IntKind.i64 y.1.2.1 1 != 0))
  (.ret (2,((y.1.1,y.1.2.1,(),y.1.2.2.2),y.2.1,y.2.2)))
  (.ite (qbK () ((y.1.1,y.1.2.1,(),y.1.2.2.2),y.2))
  (.ite ((qa () ((y.1.1,y.1.2.1,(),y.1.2.2.2),y.2)).1 != 0)
   (.ret ((qa () ((y.1.1,y.1.2.1,(),y.1.2.2.2),y.2)).1,(((qa () ((y.1.1,y.1.2.1,(),y.1.2.2.2),y.2)).2.1.1,(qa () ((y.1.1,y.1.2.1,(),y.1.2.2.2),y.2)).2.1.2.1,(),(qa () ((y.1.1,y.1.2.1,(),y.1.2.2.2),y.2)).2.1.2.2.2),(qa () ((y.1.1,y.1.2.1,(),y.1.2.2.2),y.2)).2.2.1,(qa () ((y.1.1,y.1.2.1,(),y.1.2.2.2),y.2)).2.2.2)))
   (.ite (qbO () (((qa () ((y.1.1,y.1.2.1,(),y.1.2.2.2),y.2)).2.1.1,(qa () ((y.1.1,y.1.2.1,(),y.1.2.2.2),y.2)).2.1.2.1,(),(qa () ((y.1.1,y.1.2.1,(),y.1.2.2.2),y.2)).2.1.2.2.2),(qa () ((y.1.1,y.1.2.1,(),y.1.2.2.2),y.2)).2.2))
   (.ite ((qf () (((qa () ((y.1.1,y.1.2.1,(),y.1.2.2.2),y.2)).2.1.1,(qa () ((y.1.1,y.1.2.1,(),y.1.2.2.2),y.2)).2.1.2.1,(),(qa () ((y.1.1,y.1.2.1,(),y.1.2.2.2),y.2)).2.1.2.2.2),(qa () ((y.1.1,y.1.2.1,(),y.1.2.2.2),y.2)).2.2)).1 != 0)
    (.ret ((qf () (((qa () ((y.1.1,y.1.2.1,(),y.1.2.2.2),y.2)).2.1.1,(qa () ((y.1.1,y.1.2.1,(),y.1.2.2.2),y.2)).2.1.2.1,(),(qa () ((y.1.1,y.1.2.1,(),y.1.2.2.2),y.2)).2.1.2.2.2),(qa () ((y.1.1,y.1.2.1,(),y.1.2.2.2),y.2)).2.2)).1,(((qf () (((qa () ((y.1.1,y.1.2.1,(),y.1.2.2.2),y.2)).2.1.1,(qa () ((y.1.1,y.1.2.1,(),y.1.2.2.2),y.2)).2.1.2.1,(),(qa () ((y.1.1,y.1.2.1,(),y.1.2.2.2),y.2)).2.1.2.2.2),(qa () ((y.1.1,y.1.2.1,(),y.1.2.2.2),y.2)).2.2)).2.1.1,(qf () (((qa () ((y.1.1,y.1.2.1,(),y.1.2.2.2),y.2)).2.1.1,(qa () ((y.1.1,y.1.2.1,(),y.1.2.2.2),y.2)).2.1.2.1,(),(qa () ((y.1.1,y.1.2.1,(),y.1.2.2.2),y.2)).2.1.2.2.2),(qa () ((y.1.1,y.1.2.1,(),y.1.2.2.2),y.2)).2.2)).2.1.2.1,(),(qf () (((qa () ((y.1.1,y.1.2.1,(),y.1.2.2.2),y.2)).2.1.1,(qa () ((y.1.1,y.1.2.1,(),y.1.2.2.2),y.2)).2.1.2.1,(),(qa () ((y.1.1,y.1.2.1,(),y.1.2.2.2),y.2)).2.1.2.2.2),(qa () ((y.1.1,y.1.2.1,(),y.1.2.2.2),y.2)).2.2)).2.1.2.2.2),(qf () (((qa () ((y.1.1,y.1.2.1,(),y.1.2.2.2),y.2)).2.1.1,(qa () ((y.1.1,y.1.2.1,(),y.1.2.2.2),y.2)).2.1.2.1,(),(qa () ((y.1.1,y.1.2.1,(),y.1.2.2.2),y.2)).2.1.2.2.2),(qa () ((y.1.1,y.1.2.1,(),y.1.2.2.2),y.2)).2.2)).2.2.1,(qf () (((qa () ((y.1.1,y.1.2.1,(),y.1.2.2.2),y.2)).2.1.1,(qa () ((y.1.1,y.1.2.1,(),y.1.2.2.2),y.2)).2.1.2.1,(),(qa () ((y.1.1,y.1.2.1,(),y.1.2.2.2),y.2)).2.1.2.2.2),(qa () ((y.1.1,y.1.2.1,(),y.1.2.2.2),y.2)).2.2)).2.2.2)))
    (.ite (qbQ () (((qf () (((qa () ((y.1.1,y.1.2.1,(),y.1.2.2.2),y.2)).2.1.1,(qa () ((y.1.1,y.1.2.1,(),y.1.2.2.2),y.2)).2.1.2.1,(),(qa () ((y.1.1,y.1.2.1,(),y.1.2.2.2),y.2)).2.1.2.2.2),(qa () ((y.1.1,y.1.2.1,(),y.1.2.2.2),y.2)).2.2)).2.1.1,(qf () (((qa () ((y.1.1,y.1.2.1,(),y.1.2.2.2),y.2)).2.1.1,(qa () ((y.1.1,y.1.2.1,(),y.1.2.2.2),y.2)).2.1.2.1,(),(qa () ((y.1.1,y.1.2.1,(),y.1.2.2.2),y.2)).2.1.2.2.2),(qa () ((y.1.1,y.1.2.1,(),y.1.2.2.2),y.2)).2.2)).2.1.2.1,(),(qf () (((qa () ((y.1.1,y.1.2.1,(),y.1.2.2.2),y.2)).2.1.1,(qa () ((y.1.1,y.1.2.1,(),y.1.2.2.2),y.2)).2.1.2.1,(),(qa () ((y.1.1,y.1.2.1,(),y.1.2.2.2),y.2)).2.1.2.2.2),(qa () ((y.1.1,y.1.2.1,(),y.1.2.2.2),y.2)).2.2)).2.1.2.2.2),(qf () (((qa () ((y.1.1,y.1.2.1,(),y.1.2.2.2),y.2)).2.1.1,(qa () ((y.1.1,y.1.2.1,(),y.1.2.2.2),y.2)).2.1.2.1,(),(qa () ((y.1.1,y.1.2.1,(),y.1.2.2.2),y.2)).2.1.2.2.2),(qa () ((y.1.1,y.1.2.1,(),y.1.2.2.2),y.2)).2.2)).2.2))
    (.ite ((qH () (((qf () (((qa () ((y.1.1,y.1.2.1,(),y.1.2.2.2),y.2)).2.1.1,(qa () ((y.1.1,y.1.2.1,(),y.1.2.2.2),y.2)).2.1.2.1,(),(qa () ((y.1.1,y.1.2.1,(),y.1.2.2.2),y.2)).2.1.2.2.2),(qa () ((y.1.1,y.1.2.1,(),y.1.2.2.2),y.2)).2.2)).2.1.1,(qf () (((qa () ((y.1.1,y.1.2.1,(),y.1.2.2.2),y.2)).2.1.1,(qa () ((y.1.1,y.1.2.1,(),y.1.2.2.2),y.2)).2.1.2.1,(),(qa () ((y.1.1,y.1.2.1,(),y.1.2.2.2),y.2)).2.1.2.2.2),(qa () ((y.1.1,y.1.2.1,(),y.1.2.2.2),y.2)).2.2)).2.1.2.1,(),(qf () (((qa () ((y.1.1,y.1.2.1,(),y.1.2.2.2),y.2)).2.1.1,(qa () ((y.1.1,y.1.2.1,(),y.1.2.2.2),y.2)).2.1.2.1,(),(qa () ((y.1.1,y.1.2.1,(),y.1.2.2.2),y.2)).2.1.2.2.2),(qa () ((y.1.1,y.1.2.1,(),y.1.2.2.2),y.2)).2.2)).2.1.2.2.2),(qf () (((qa () ((y.1.1,y.1.2.1,(),y.1.2.2.2),y.2)).2.1.1,(qa () ((y.1.1,y.1.2.1,(),y.1.2.2.2),y.2)).2.1.2.1,(),(qa () ((y.1.1,y.1.2.1,(),y.1.2.2.2),y.2)).2.1.2.2.2),(qa () ((y.1.1,y.1.2.1,(),y.1.2.2.2),y.2)).2.2)).2.2)).1)
     (.ret (5,(((qH () (((qf () (((qa () ((y.1.1,y.1.2.1,(),y.1.2.2.2),y.2)).2.1.1,(qa () ((y.1.1,y.1.2.1,(),y.1.2.2.2),y.2)).2.1.2.1,(),(qa () ((y.1.1,y.1.2.1,(),y.1.2.2.2),y.2)).2.1.2.2.2),(qa () ((y.1.1,y.1.2.1,(),y.1.2.2.2),y.2)).2.2)).2.1.1,(qf () (((qa () ((y.1.1,y.1.2.1,(),y.1.2.2.2),y.2)).2.1.1,(qa () ((y.1.1,y.1.2.1,(),y.1.2.2.2),y.2)).2.1.2.1,(),(qa () ((y.1.1,y.1.2.1,(),y.1.2.2.2),y.2)).2.1.2.2.2),(qa () ((y.1.1,y.1.2.1,(),y.1.2.2.2),y.2)).2.2)).2.1.2.1,(),(qf () (((qa () ((y.1.1,y.1.2.1,(),y.1.2.2.2),y.2)).2.1.1,(qa () ((y.1.1,y.1.2.1,(),y.1.2.2.2),y.2)).2.1.2.1,(),(qa () ((y.1.1,y.1.2.1,(),y.1.2.2.2),y.2)).2.1.2.2.2),(qa () ((y.1.1,y.1.2.1,(),y.1.2.2.2),y.2)).2.2)).2.1.2.2.2),(qf () (((qa () ((y.1.1,y.1.2.1,(),y.1.2.2.2),y.2)).2.1.1,(qa () ((y.1.1,y.1.2.1,(),y.1.2.2.2),y.2)).2.1.2.1,(),(qa () ((y.1.1,y.1.2.1,(),y.1.2.2.2),y.2)).2.1.2.2.2),(qa () ((y.1.1,y.1.2.1,(),y.1.2.2.2),y.2)).2.2)).2.2)).2.1.1,(qH () (((qf () (((qa () ((y.1.1,y.1.2.1,(),y.1.2.2.2),y.2)).2.1.1,(qa () ((y.1.1,y.1.2.1,(),y.1.2.2.2),y.2)).2.1.2.1,(),(qa () ((y.1.1,y.1.2.1,(),y.1.2.2.2),y.2)).2.1.2.2.2),(qa () ((y.1.1,y.1.2.1,(),y.1.2.2.2),y.2)).2.2)).2.1.1,(qf () (((qa () ((y.1.1,y.1.2.1,(),y.1.2.2.2),y.2)).2.1.1,(qa () ((y.1.1,y.1.2.1,(),y.1.2.2.2),y.2)).2.1.2.1,(),(qa () ((y.1.1,y.1.2.1,(),y.1.2.2.2),y.2)).2.1.2.2.2),(qa () ((y.1.1,y.1.2.1,(),y.1.2.2.2),y.2)).2.2)).2.1.2.1,(),(qf () (((qa () ((y.1.1,y.1.2.1,(),y.1.2.2.2),y.2)).2.1.1,(qa () ((y.1.1,y.1.2.1,(),y.1.2.2.2),y.2)).2.1.2.1,(),(qa () ((y.1.1,y.1.2.1,(),y.1.2.2.2),y.2)).2.1.2.2.2),(qa () ((y.1.1,y.1.2.1,(),y.1.2.2.2),y.2)).2.2)).2.1.2.2.2),(qf () (((qa () ((y.1.1,y.1.2.1,(),y.1.2.2.2),y.2)).2.1.1,(qa () ((y.1.1,y.1.2.1,(),y.1.2.2.2),y.2)).2.1.2.1,(),(qa () ((y.1.1,y.1.2.1,(),y.1.2.2.2),y.2)).2.1.2.2.2),(qa () ((y.1.1,y.1.2.1,(),y.1.2.2.2),y.2)).2.2)).2.2)).2.1.2.1,(),(qH () (((qf () (((qa () ((y.1.1,y.1.2.1,(),y.1.2.2.2),y.2)).2.1.1,(qa () ((y.1.1,y.1.2.1,(),y.1.2.2.2),y.2)).2.1.2.1,(),(qa () ((y.1.1,y.1.2.1,(),y.1.2.2.2),y.2)).2.1.2.2.2),(qa () ((y.1.1,y.1.2.1,(),y.1.2.2.2),y.2)).2.2)).2.1.1,(qf () (((qa () ((y.1.1,y.1.2.1,(),y.1.2.2.2),y.2)).2.1.1,(qa () ((y.1.1,y.1.2.1,(),y.1.2.2.2),y.2)).2.1.2.1,(),(qa () ((y.1.1,y.1.2.1,(),y.1.2.2.2),y.2)).2.1.2.2.2),(qa () ((y.1.1,y.1.2.1,(),y.1.2.2.2),y.2)).2.2)).2.1.2.1,(),(qf () (((qa () ((y.1.1,y.1.2.1,(),y.1.2.2.2),y.2)).2.1.1,(qa () ((y.1.1,y.1.2.1,(),y.1.2.2.2),y.2)).2.1.2.1,(),(qa () ((y.1.1,y.1.2.1,(),y.1.2.2.2),y.2)).2.1.2.2.2),(qa () ((y.1.1,y.1.2.1,(),y.1.2.2.2),y.2)).2.2)).2.1.2.2.2),(qf () (((qa () ((y.1.1,y.1.2.1,(),y.1.2.2.2),y.2)).2.1.1,(qa () ((y.1.1,y.1.2.1,(),y.1.2.2.2),y.2)).2.1.2.1,(),(qa () ((y.1.1,y.1.2.1,(),y.1.2.2.2),y.2)).2.1.2.2.2),(qa () ((y.1.1,y.1.2.1,(),y.1.2.2.2),y.2)).2.2)).2.2)).2.1.2.2.2),(qH () (((qf () (((qa () ((y.1.1,y.1.2.1,(),y.1.2.2.2),y.2)).2.1.1,(qa () ((y.1.1,y.1.2.1,(),y.1.2.2.2),y.2)).2.1.2.1,(),(qa () ((y.1.1,y.1.2.1,(),y.1.2.2.2),y.2)).2.1.2.2.2),(qa () ((y.1.1,y.1.2.1,(),y.1.2.2.2),y.2)).2.2)).2.1.1,(qf () (((qa () ((y.1.1,y.1.2.1,(),y.1.2.2.2),y.2)).2.1.1,(qa () ((y.1.1,y.1.2.1,(),y.1.2.2.2),y.2)).2.1.2.1,(),(qa () ((y.1.1,y.1.2.1,(),y.1.2.2.2),y.2)).2.1.2.2.2),(qa () ((y.1.1,y.1.2.1,(),y.1.2.2.2),y.2)).2.2)).2.1.2.1,(),(qf () (((qa () ((y.1.1,y.1.2.1,(),y.1.2.2.2),y.2)).2.1.1,(qa () ((y.1.1,y.1.2.1,(),y.1.2.2.2),y.2)).2.1.2.1,(),(qa () ((y.1.1,y.1.2.1,(),y.1.2.2.2),y.2)).2.1.2.2.2),(qa () ((y.1.1,y.1.2.1,(),y.1.2.2.2),y.2)).2.2)).2.1.2.2.2),(qf () (((qa () ((y.1.1,y.1.2.1,(),y.1.2.2.2),y.2)).2.1.1,(qa () ((y.1.1,y.1.2.1,(),y.1.2.2.2),y.2)).2.1.2.1,(),(qa () ((y.1.1,y.1.2.1,(),y.1.2.2.2),y.2)).2.1.2.2.2),(qa () ((y.1.1,y.1.2.1,(),y.1.2.2.2),y.2)).2.2)).2.2)).2.2.1,(qH () (((qf () (((qa () ((y.1.1,y.1.2.1,(),y.1.2.2.2),y.2)).2.1.1,(qa () ((y.1.1,y.1.2.1,(),y.1.2.2.2),y.2)).2.1.2.1,(),(qa () ((y.1.1,y.1.2.1,(),y.1.2.2.2),y.2)).2.1.2.2.2),(qa () ((y.1.1,y.1.2.1,(),y.1.2.2.2),y.2)).2.2)).2.1.1,(qf () (((qa () ((y.1.1,y.1.2.1,(),y.1.2.2.2),y.2)).2.1.1,(qa () ((y.1.1,y.1.2.1,(),y.1.2.2.2),y.2)).2.1.2.1,(),(qa () ((y.1.1,y.1.2.1,(),y.1.2.2.2),y.2)).2.1.2.2.2),(qa () ((y.1.1,y.1.2.1,(),y.1.2.2.2),y.2)).2.2)).2.1.2.1,(),(qf () (((qa () ((y.1.1,y.1.2.1,(),y.1.2.2.2),y.2)).2.1.1,(qa () ((y.1.1,y.1.2.1,(),y.1.2.2.2),y.2)).2.1.2.1,(),(qa () ((y.1.1,y.1.2.1,(),y.1.2.2.2),y.2)).2.1.2.2.2),(qa () ((y.1.1,y.1.2.1,(),y.1.2.2.2),y.2)).2.2)).2.1.2.2.2),(qf () (((qa () ((y.1.1,y.1.2.1,(),y.1.2.2.2),y.2)).2.1.1,(qa () ((y.1.1,y.1.2.1,(),y.1.2.2.2),y.2)).2.1.2.1,(),(qa () ((y.1.1,y.1.2.1,(),y.1.2.2.2),y.2)).2.1.2.2.2),(qa () ((y.1.1,y.1.2.1,(),y.1.2.2.2),y.2)).2.2)).2.2)).2.2.2)))
     (.ret (0,(((qH () (((qf () (((qa () ((y.1.1,y.1.2.1,(),y.1.2.2.2),y.2)).2.1.1,(qa () ((y.1.1,y.1.2.1,(),y.1.2.2.2),y.2)).2.1.2.1,(),(qa () ((y.1.1,y.1.2.1,(),y.1.2.2.2),y.2)).2.1.2.2.2),(qa () ((y.1.1,y.1.2.1,(),y.1.2.2.2),y.2)).2.2)).2.1.1,(qf () (((qa () ((y.1.1,y.1.2.1,(),y.1.2.2.2),y.2)).2.1.1,(qa () ((y.1.1,y.1.2.1,(),y.1.2.2.2),y.2)).2.1.2.1,(),(qa () ((y.1.1,y.1.2.1,(),y.1.2.2.2),y.2)).2.1.2.2.2),(qa () ((y.1.1,y.1.2.1,(),y.1.2.2.2),y.2)).2.2)).2.1.2.1,(),(qf () (((qa () ((y.1.1,y.1.2.1,(),y.1.2.2.2),y.2)).2.1.1,(qa () ((y.1.1,y.1.2.1,(),y.1.2.2.2),y.2)).2.1.2.1,(),(qa () ((y.1.1,y.1.2.1,(),y.1.2.2.2),y.2)).2.1.2.2.2),(qa () ((y.1.1,y.1.2.1,(),y.1.2.2.2),y.2)).2.2)).2.1.2.2.2),(qf () (((qa () ((y.1.1,y.1.2.1,(),y.1.2.2.2),y.2)).2.1.1,(qa () ((y.1.1,y.1.2.1,(),y.1.2.2.2),y.2)).2.1.2.1,(),(qa () ((y.1.1,y.1.2.1,(),y.1.2.2.2),y.2)).2.1.2.2.2),(qa () ((y.1.1,y.1.2.1,(),y.1.2.2.2),y.2)).2.2)).2.2)).2.1.1,(qH () (((qf () (((qa () ((y.1.1,y.1.2.1,(),y.1.2.2.2),y.2)).2.1.1,(qa () ((y.1.1,y.1.2.1,(),y.1.2.2.2),y.2)).2.1.2.1,(),(qa () ((y.1.1,y.1.2.1,(),y.1.2.2.2),y.2)).2.1.2.2.2),(qa () ((y.1.1,y.1.2.1,(),y.1.2.2.2),y.2)).2.2)).2.1.1,(qf () (((qa () ((y.1.1,y.1.2.1,(),y.1.2.2.2),y.2)).2.1.1,(qa () ((y.1.1,y.1.2.1,(),y.1.2.2.2),y.2)).2.1.2.1,(),(qa () ((y.1.1,y.1.2.1,(),y.1.2.2.2),y.2)).2.1.2.2.2),(qa () ((y.1.1,y.1.2.1,(),y.1.2.2.2),y.2)).2.2)).2.1.2.1,(),(qf () (((qa () ((y.1.1,y.1.2.1,(),y.1.2.2.2),y.2)).2.1.1,(qa () ((y.1.1,y.1.2.1,(),y.1.2.2.2),y.2)).2.1.2.1,(),(qa () ((y.1.1,y.1.2.1,(),y.1.2.2.2),y.2)).2.1.2.2.2),(qa () ((y.1.1,y.1.2.1,(),y.1.2.2.2),y.2)).2.2)).2.1.2.2.2),(qf () (((qa () ((y.1.1,y.1.2.1,(),y.1.2.2.2),y.2)).2.1.1,(qa () ((y.1.1,y.1.2.1,(),y.1.2.2.2),y.2)).2.1.2.1,(),(qa () ((y.1.1,y.1.2.1,(),y.1.2.2.2),y.2)).2.1.2.2.2),(qa () ((y.1.1,y.1.2.1,(),y.1.2.2.2),y.2)).2.2)).2.2)).2.1.2.1,(),(qH () (((qf () (((qa () ((y.1.1,y.1.2.1,(),y.1.2.2.2),y.2)).2.1.1,(qa () ((y.1.1,y.1.2.1,(),y.1.2.2.2),y.2)).2.1.2.1,(),(qa () ((y.1.1,y.1.2.1,(),y.1.2.2.2),y.2)).2.1.2.2.2),(qa () ((y.1.1,y.1.2.1,(),y.1.2.2.2),y.2)).2.2)).2.1.1,(qf () (((qa () ((y.1.1,y.1.2.1,(),y.1.2.2.2),y.2)).2.1.1,(qa () ((y.1.1,y.1.2.1,(),y.1.2.2.2),y.2)).2.1.2.1,(),(qa () ((y.1.1,y.1.2.1,(),y.1.2.2.2),y.2)).2.1.2.2.2),(qa () ((y.1.1,y.1.2.1,(),y.1.2.2.2),y.2)).2.2)).2.1.2.1,(),(qf () (((qa () ((y.1.1,y.1.2.1,(),y.1.2.2.2),y.2)).2.1.1,(qa () ((y.1.1,y.1.2.1,(),y.1.2.2.2),y.2)).2.1.2.1,(),(qa () ((y.1.1,y.1.2.1,(),y.1.2.2.2),y.2)).2.1.2.2.2),(qa () ((y.1.1,y.1.2.1,(),y.1.2.2.2),y.2)).2.2)).2.1.2.2.2),(qf () (((qa () ((y.1.1,y.1.2.1,(),y.1.2.2.2),y.2)).2.1.1,(qa () ((y.1.1,y.1.2.1,(),y.1.2.2.2),y.2)).2.1.2.1,(),(qa () ((y.1.1,y.1.2.1,(),y.1.2.2.2),y.2)).2.1.2.2.2),(qa () ((y.1.1,y.1.2.1,(),y.1.2.2.2),y.2)).2.2)).2.2)).2.1.2.2.2),(qH () (((qf () (((qa () ((y.1.1,y.1.2.1,(),y.1.2.2.2),y.2)).2.1.1,(qa () ((y.1.1,y.1.2.1,(),y.1.2.2.2),y.2)).2.1.2.1,(),(qa () ((y.1.1,y.1.2.1,(),y.1.2.2.2),y.2)).2.1.2.2.2),(qa () ((y.1.1,y.1.2.1,(),y.1.2.2.2),y.2)).2.2)).2.1.1,(qf () (((qa () ((y.1.1,y.1.2.1,(),y.1.2.2.2),y.2)).2.1.1,(qa () ((y.1.1,y.1.2.1,(),y.1.2.2.2),y.2)).2.1.2.1,(),(qa () ((y.1.1,y.1.2.1,(),y.1.2.2.2),y.2)).2.1.2.2.2),(qa () ((y.1.1,y.1.2.1,(),y.1.2.2.2),y.2)).2.2)).2.1.2.1,(),(qf () (((qa () ((y.1.1,y.1.2.1,(),y.1.2.2.2),y.2)).2.1.1,(qa () ((y.1.1,y.1.2.1,(),y.1.2.2.2),y.2)).2.1.2.1,(),(qa () ((y.1.1,y.1.2.1,(),y.1.2.2.2),y.2)).2.1.2.2.2),(qa () ((y.1.1,y.1.2.1,(),y.1.2.2.2),y.2)).2.2)).2.1.2.2.2),(qf () (((qa () ((y.1.1,y.1.2.1,(),y.1.2.2.2),y.2)).2.1.1,(qa () ((y.1.1,y.1.2.1,(),y.1.2.2.2),y.2)).2.1.2.1,(),(qa () ((y.1.1,y.1.2.1,(),y.1.2.2.2),y.2)).2.1.2.2.2),(qa () ((y.1.1,y.1.2.1,(),y.1.2.2.2),y.2)).2.2)).2.2)).2.2.1,(qH () (((qf () (((qa () ((y.1.1,y.1.2.1,(),y.1.2.2.2),y.2)).2.1.1,(qa () ((y.1.1,y.1.2.1,(),y.1.2.2.2),y.2)).2.1.2.1,(),(qa () ((y.1.1,y.1.2.1,(),y.1.2.2.2),y.2)).2.1.2.2.2),(qa () ((y.1.1,y.1.2.1,(),y.1.2.2.2),y.2)).2.2)).2.1.1,(qf () (((qa () ((y.1.1,y.1.2.1,(),y.1.2.2.2),y.2)).2.1.1,(qa () ((y.1.1,y.1.2.1,(),y.1.2.2.2),y.2)).2.1.2.1,(),(qa () ((y.1.1,y.1.2.1,(),y.1.2.2.2),y.2)).2.1.2.2.2),(qa () ((y.1.1,y.1.2.1,(),y.1.2.2.2),y.2)).2.2)).2.1.2.1,(),(qf () (((qa () ((y.1.1,y.1.2.1,(),y.1.2.2.2),y.2)).2.1.1,(qa () ((y.1.1,y.1.2.1,(),y.1.2.2.2),y.2)).2.1.2.1,(),(qa () ((y.1.1,y.1.2.1,(),y.1.2.2.2),y.2)).2.1.2.2.2),(qa () ((y.1.1,y.1.2.1,(),y.1.2.2.2),y.2)).2.2)).2.1.2.2.2),(qf () (((qa () ((y.1.1,y.1.2.1,(),y.1.2.2.2),y.2)).2.1.1,(qa () ((y.1.1,y.1.2.1,(),y.1.2.2.2),y.2)).2.1.2.1,(),(qa () ((y.1.1,y.1.2.1,(),y.1.2.2.2),y.2)).2.1.2.2.2),(qa () ((y.1.1,y.1.2.1,(),y.1.2.2.2),y.2)).2.2)).2.2)).2.2.2))))
    .fail))
   .fail))
  .fail))
def qbR (x:shDens qcD) (y:shDens qcB):Bool:=(qbN x y).val.isSome
def qbM (x:shDens qcD) (y:shDens qcB):Sh.den qds×shDens qe5:=(qbN x y).getO default
theorem qkL (x:shDens qcD) (y:shDens qcB) (h:qbR x y=true):(qbN x y).val=some (qbM x y):=PO.getO_ok default h
def qcj:LoopN where
 M:=[0,3,4,26,27,28]
 T:=[5,6,7,8,9,29,30,31,32,33,34,35,36,37,38,39,40,41,42,43,44,45,46,47,48,49,50,51,52,53,54,55,56,57,58,59,60,61,62,63,64,65,66,67,68,69,70]
 D:=[0,3,26,27,28]
 ss:=[.box 0 0,.ty (.sl (.int .i64)),.ty .bool,.ty (.sl tItem),.ty (.int .i64),.ty (.int .i64)]
 hs:=[shAsm 1 2,.mapc,.rowc .bool]
 es:=[.exit 0]
 σ:=(Ty.den .bool)×(Ty.den (.int .i64))×(Sh.den (shAsm 1 2))×(Sh.den (.mapc))×(Sh.den (.rowc .bool))
 x0:=fun x y=>(x.2.2.1,x.2.2.2.2.2,y.1,y.2.1,y.2.2)
 put:=fun x _ s=>((x.1,x.2.1,s.1,x.2.2.2.1,x.2.2.2.2.1,s.2.1),(s.2.2.1,s.2.2.2.1,s.2.2.2.2))
 fuel:=fun _ y=>List.length y.1.1+1
 turn:=fun x _ s =>
 (.ite (decide (s.2.1<x.2.2.2.2.1))
  (.ite (inRange s.2.1 (List.length x.2.2.2.1))
  (.ite ((List.getD x.2.2.2.1 (Int.toNat s.2.1) (Ty.dflt tItem)).1 != 2||inRange s.2.1 s.2.2.1.2.2.2.1.2)
   (.ite ((List.getD x.2.2.2.1 (Int.toNat s.2.1) (Ty.dflt tItem)).1 != 2||List.getD s.2.2.2.2 (nplus s.2.2.1.2.2.2.1.1 s.2.1) (Ty.dflt Ty.bool))
   (.ret (.on (s.1,w64 (s.2.1+1),s.2.2.1,s.2.2.2.1,s.2.2.2.2)))
   (.ite (qcp (s.2.2.1.1,s.2.2.2.1,x.2.1,s.2.1))
    (.ite (decide (qI (s.2.2.1.1,s.2.2.2.1,x.2.1,s.2.1)<(qQ ((List.getD x.2.2.2.1 (Int.toNat s.2.1) (Ty.dflt tItem)).2.2.1.1,false)).1)||decide (qI (s.2.2.1.1,s.2.2.2.1,x.2.1,s.2.1) > (qQ ((List.getD x.2.2.2.1 (Int.toNat s.2.1) (Ty.dflt tItem)).2.2.1.1,false)).2.1))
    (.ite (inRange s.2.1 s.2.2.1.2.2.2.1.2)
     (.ret (.on (true,w64 (s.2.1+1),s.2.2.1,s.2.2.2.1,List.set s.2.2.2.2 (nplus s.2.2.1.2.2.2.1.1 s.2.1) true)))
     .fail)
    (.ret (.on (s.1,w64 (s.2.1+1),s.2.2.1,s.2.2.2.1,s.2.2.2.2))))
    .fail))
   .fail)
  .fail)
  (.ret (.out 0 (s.1,s.2.1,s.2.2.1,s.2.2.2.1,s.2.2.2.2))))
abbrev qcy:List Sh:=[.box 0 0]
abbrev qcv:List Sh:=[shAsm 1 2,.mapc,.rowc .bool]
abbrev qdE:Sh:=Sh.ty Ty.bool
abbrev qe1:List Sh:=[Sh.pair (Sh.ty (Ty.sl tItem)) (Sh.pair (Sh.ty (Ty.int IntKind.i64)) (Sh.pair (Sh.mp 1) (Sh.pair (Sh.win 2 Ty.bool) (Sh.ty Ty.unit)))),Sh.mapc,Sh.rowc Ty.bool]
def qbP (_:shDens qcy) (y:shDens qcv):PO (Sh.den qdE×shDens qe1) :=
 (.ite (qfv (y.1.1,y.1.2.1,shown y.2.2 y.1.2.2.2.1))
  (.opt (LoopN.res qcj ((),qeP (y.1.1,y.1.2.1,shown y.2.2 y.1.2.2.2.1),false,y.1.1,lenI y.1.1,0) ((y.1.1,y.1.2.1,(),y.1.2.2.2),y.2)) fun p0 =>
  (.ret (p0.2.1,((p0.2.2.2.1.1,p0.2.2.2.1.2.1,(),p0.2.2.2.1.2.2.2),p0.2.2.2.2.1,p0.2.2.2.2.2))))
  .fail)
def qbS (x:shDens qcy) (y:shDens qcv):Bool:=(qbP x y).val.isSome
def qA (x:shDens qcy) (y:shDens qcv):Sh.den qdE×shDens qe1:=(qbP x y).getO default
theorem qkM (x:shDens qcy) (y:shDens qcv) (h:qbS x y=true):(qbP x y).val=some (qA x y):=PO.getO_ok default h
def qel:LoopN where
 M:=[0,1,7]
 T:=[29,30,31]
 D:=[]
 ss:=[.ty (.sl tItem),.ty (.int .i64),.box 0 0]
 hs:=[shAsm 1 2,.mapc,.rowc .bool]
 es:=[.exit 0]
 σ:=(Sh.den (shAsm 1 2))×(Sh.den (.mapc))×(Sh.den (.rowc .bool))
 x0:=fun _ y=>(y.1,y.2.1,y.2.2)
 put:=fun x _ s=>((x.1,x.2.1,x.2.2),(s.1,s.2.1,s.2.2))
 fuel:=fun _ y=>List.length y.1.1+2
 turn:=fun _ _ s =>
 (.ite (qbS () ((s.1.1,s.1.2.1,(),s.1.2.2.2),s.2))
  (.ite (!(qA () ((s.1.1,s.1.2.1,(),s.1.2.2.2),s.2)).1)
  (.ret (.out 0 (((qA () ((s.1.1,s.1.2.1,(),s.1.2.2.2),s.2)).2.1.1,(qA () ((s.1.1,s.1.2.1,(),s.1.2.2.2),s.2)).2.1.2.1,(),(qA () ((s.1.1,s.1.2.1,(),s.1.2.2.2),s.2)).2.1.2.2.2),(qA () ((s.1.1,s.1.2.1,(),s.1.2.2.2),s.2)).2.2.1,(qA () ((s.1.1,s.1.2.1,(),s.1.2.2.2),s.2)).2.2.2)))
  (.ret (.on (((qA () ((s.1.1,s.1.2.1,(),s.1.2.2.2),s.2)).2.1.1,(qA () ((s.1.1,s.1.2.1,(),s.1.2.2.2),s.2)).2.1.2.1,(),(qA () ((s.1.1,s.1.2.1,(),s.1.2.2.2),s.2)).2.1.2.2.2),(qA () ((s.1.1,s.1.2.1,(),s.1.2.2.2),s.2)).2.2.1,(qA () ((s.1.1,s.1.2.1,(),s.1.2.2.2),s.2)).2.2.2))))
  .fail)
def qdK:LoopN where
 M:=[7,9,10,11,39,40,41]
 T:=[12,13,14,15,42,43,44,45,46,47,48,49,50,51,52,53,54,55,56,57,58,59,60,61,62,63,64,65,66,67,68,69,70,71,72,73,74,75,76,77,78,79,80,81,82,83,84,85,86,87,88,89]
 D:=[7,9,39,40,41]
 ss:=[.box 0 0,.osl 0 (.int .i64),.box 1 0,.osl 1 tPlace,.ty (.sl tItem),.ty (.int .i64),.ty (.int .i64)]
 hs:=[shAsm 2 3,shBldL 1 2,.mapc,.rowc .bool]
 es:=[.exit 2]
 σ:=(Sh.den (.osl 1 tPlace))×(Ty.den (.int .i64))×(Sh.den (shAsm 2 3))×(Sh.den (shBldL 1 2))×(Sh.den (.mapc))×(Sh.den (.rowc .bool))
 x0:=fun x y=>(x.2.2.2.1,x.2.2.2.2.2.2,y.1,y.2.1,y.2.2.1,y.2.2.2)
 put:=fun x _ s=>((x.1,x.2.1,x.2.2.1,s.1,x.2.2.2.2.1,x.2.2.2.2.2.1,s.2.1),(s.2.2.1,s.2.2.2.1,s.2.2.2.2.1,s.2.2.2.2.2))
 fuel:=fun x _=>List.length x.2.2.2.2.1+1
 turn:=fun x _ s =>
 (.ite (decide (s.2.1<x.2.2.2.2.2.1))
  (.ite (inRange s.2.1 (List.length x.2.2.2.2.1))
  (.ite ((List.getD x.2.2.2.2.1 (Int.toNat s.2.1) (Ty.dflt tItem)).1==1)
   (.ite (inRange s.2.1 (List.length x.2.1))
   (.ite (Nat.ble ((List.length s.1+List.length [((List.getD x.2.2.2.2.1 (Int.toNat s.2.1) (Ty.dflt tItem)).2.1,List.getD x.2.1 (Int.toNat s.2.1) (Ty.dflt (Ty.int IntKind.i64)),())])*16) 140737488355328)
    (.ret (.on (s.1++[((List.getD x.2.2.2.2.1 (Int.toNat s.2.1) (Ty.dflt tItem)).2.1,List.getD x.2.1 (Int.toNat s.2.1) (Ty.dflt (Ty.int IntKind.i64)),())],w64 (s.2.1+1),(s.2.2.1.1,s.2.2.1.2.1,(),s.2.2.1.2.2.2),((),s.2.2.2.1.2),s.2.2.2.2.1,s.2.2.2.2.2)))
    .fail)
   .fail)
   (.ite ((List.getD x.2.2.2.2.1 (Int.toNat s.2.1) (Ty.dflt tItem)).1==2)
   (.ite (qcp (s.2.2.1.1,s.2.2.2.2.1,x.2.1,s.2.1))
    (.ite (inRange s.2.1 s.2.2.1.2.2.2.1.2)
    (.ite (qdi ((List.getD x.2.2.2.2.1 (Int.toNat s.2.1) (Ty.dflt tItem)).2.2.1.1,0,0,0,0,qI (s.2.2.1.1,s.2.2.2.2.1,x.2.1,s.2.1),(List.getD x.2.2.2.2.1 (Int.toNat s.2.1) (Ty.dflt tItem)).2.2.1.2.2.2.2.2.2.1,List.getD s.2.2.2.2.2 (nplus s.2.2.1.2.2.2.1.1 s.2.1) (Ty.dflt Ty.bool),()))
     (.ite (qcH s.2.2.2.1.2.1 (qbd ((List.getD x.2.2.2.2.1 (Int.toNat s.2.1) (Ty.dflt tItem)).2.2.1.1,0,0,0,0,qI (s.2.2.1.1,s.2.2.2.2.1,x.2.1,s.2.1),(List.getD x.2.2.2.2.1 (Int.toNat s.2.1) (Ty.dflt tItem)).2.2.1.2.2.2.2.2.2.1,List.getD s.2.2.2.2.2 (nplus s.2.2.1.2.2.2.1.1 s.2.1) (Ty.dflt Ty.bool),())).1)
     (.ret (.on (s.1,w64 (s.2.1+1),(s.2.2.1.1,s.2.2.1.2.1,(),s.2.2.1.2.2.2),((),qd0 s.2.2.2.1.2.1 (qbd ((List.getD x.2.2.2.2.1 (Int.toNat s.2.1) (Ty.dflt tItem)).2.2.1.1,0,0,0,0,qI (s.2.2.1.1,s.2.2.2.2.1,x.2.1,s.2.1),(List.getD x.2.2.2.2.1 (Int.toNat s.2.1) (Ty.dflt tItem)).2.2.1.2.2.2.2.2.2.1,List.getD s.2.2.2.2.2 (nplus s.2.2.1.2.2.2.1.1 s.2.1) (Ty.dflt Ty.bool),())).1,()),s.2.2.2.2.1,s.2.2.2.2.2)))
     .fail)
     .fail)
    .fail)
    .fail)
   (.ite (qdi (List.getD x.2.2.2.2.1 (Int.toNat s.2.1) (Ty.dflt tItem)).2.2.1)
    (.ite (qcH s.2.2.2.1.2.1 (qbd (List.getD x.2.2.2.2.1 (Int.toNat s.2.1) (Ty.dflt tItem)).2.2.1).1)
    (.ret (.on (s.1,w64 (s.2.1+1),(s.2.2.1.1,s.2.2.1.2.1,(),s.2.2.1.2.2.2),((),qd0 s.2.2.2.1.2.1 (qbd (List.getD x.2.2.2.2.1 (Int.toNat s.2.1) (Ty.dflt tItem)).2.2.1).1,()),s.2.2.2.2.1,s.2.2.2.2.2)))
    .fail)
    .fail)))
  .fail)
  (.ret (.out 0 (s.1,s.2.1,s.2.2.1,s.2.2.2.1,s.2.2.2.2.1,s.2.2.2.2.2))))
abbrev qfb:List Ty:=[(.sl tItem),(.int .i64)]
abbrev qg6:Sh:=Sh.tup (Sh.pair (Sh.ty Ty.str) (Sh.pair (Sh.osl 32 tPlace) (Sh.pair (Sh.ty (Ty.int IntKind.i64)) (Sh.ty Ty.unit))))
def qhV (x:dens [(.sl tItem),(.int .i64)]):=qbR () ((x.1,x.2,(),(0,nspan 0 (lenI x.1)),()),[],zeros (lenI x.1) false)
def qb0 (x:dens [(.sl tItem),(.int .i64)]):=qbM () ((x.1,x.2,(),(0,nspan 0 (lenI x.1)),()),[],zeros (lenI x.1) false)
def qhT (x:dens [(.sl tItem),(.int .i64)]):=LoopN.res qel (x.1,x.2,()) (((qb0 x).2.1.1,(qb0 x).2.1.2.1,(),(qb0 x).2.1.2.2.2),(qb0 x).2.2)
def qcM (x:dens qfb):PO (Sh.den qg6) :=
 (.ite (roomOk (lenI x.1) 1)
  (.ite (qhV x)
  (.ite ((qb0 x).1 != 0)
   (.ret (([],[],(qb0 x).1,())))
   (.opt (qhT x) fun p0 =>
   (.ite (qfv (x.1,x.2,shown p0.2.2.2 p0.2.1.2.2.2.1))
    (.opt (LoopN.res qdK ((),qeP (x.1,x.2,shown p0.2.2.2 p0.2.1.2.2.2.1),(),[],x.1,lenI x.1,0) ((p0.2.1.1,p0.2.1.2.1,(),p0.2.1.2.2.2),((),[],()),p0.2.2)) fun p1 =>
    (.ret ((p1.2.2.2.2.1.2.1,p1.2.1,0,()))))
    .fail)))
  .fail)
  .fail)
def qb7 (x:dens qfb):Bool:=(qcM x).val.isSome
def qj (x:dens qfb):Sh.den qg6:=(qcM x).getO default
theorem ql9 (x:dens qfb) (h:qb7 x=true):(qcM x).val=some (qj x):=PO.getO_ok default h
end Go.Av
end
section
namespace Go.Av
open Go
end Go.Av
end
