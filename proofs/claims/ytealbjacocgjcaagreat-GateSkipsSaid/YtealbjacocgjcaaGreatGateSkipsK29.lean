/- Texts of the proof, one behind the other. -/
import Derived.Test.YtealbjacocgjcaaGreatGateSkipsK26
import Derived.Test.YtealbjacocgjcaaGreatGateSkipsK28
import Derived.Test.YtealbjacocgjcaaGreatGateSkipsK21
section
namespace Go.Av
open Go
abbrev tHead:Ty:=.pair (.int .i64) (.pair (.int .i64) (.pair tSizes (.pair (.int .i64) .unit)))
abbrev tFetched:Ty:=.pair tIns (.pair (.int .i64) (.pair .bool (.pair .bool .unit)))
abbrev shMachB (m c:Nat):Sh:=.pair (.ty tHead) (.pair (.ty .str) (.pair (.box m 0) (.pair (.ty tState) (.pair (.ty .bool) (.pair (.win c tFetched) (.ty .unit))))))
abbrev shMach:Sh:=shMachB 1 2
abbrev hsMach:List Sh:=[shMach,shMemB 3,.rowc tFetched,.rowc (.int .u8)]
abbrev MS:Type:=shDens hsMach
abbrev MS.mem (y:MS):MemT:=(y.2.1,y.2.2.2)
abbrev qhn:List Ty:=[(.int .i64),(.int .i64)]
abbrev qje:Sh:=Sh.ty (Ty.int IntKind.i64)
def qlj (x:dens qhn):PO (Sh.den qje) :=
 (.ite (!decide (qbn x.2<0)&&true)
  (.ret (qdu (x.1,ishl IntKind.i64 1 (qbn x.2))))
  .fail)
def qji (_:dens qhn):Bool:=true
def qe9 (x:dens qhn):Sh.den qje:=qdu (x.1,ishl IntKind.i64 1 (qbn x.2))
theorem qmz (x:dens qhn) (_:qji x=true):(qlj x).val=some (qe9 x):=by
 refine(val_yes ?_).trans rfl
 have:¬qbn x.2<0:=by
  show ¬((kk x.2:Nat):Int)<0
  omega
 simp[this]
abbrev qeS:List Ty:=[tFault]
abbrev qgs:Sh:=Sh.ty (Ty.int IntKind.i64)
def qc8 (x:dens qeS):PO (Sh.den qgs) :=
 (.ite (!bif bif x.1==0 then x.1==0 else x.1==1 then decide (x.2.1≥0) else bif x.1==2 then decide (x.2.1≥0)&&(decide (x.2.2.1≥0)&&(decide (x.2.2.1≤14)&&(decide (x.2.2.2.1≥0)&&decide (x.2.2.2.1<32)))) else x.1==3&&(decide (x.2.1≥0)&&(decide (x.2.2.2.1≥0)&&decide (x.2.2.2.1<4))))
  (.ret (2))
  (.ret (0)))
def qh4 (_:dens qeS):Bool:=true
def qr (x:dens qeS):Sh.den qgs:=(qc8 x).getO default
theorem qlp (x:dens qeS) (_:qh4 x=true):(qc8 x).val=some (qr x):=PO.sure_ok default (by simp[qc8,PO.sure])
def qbk (s:tState.den) (f:tFault.den):tState.den :=
 bif f.1==2 then(List.set s.1 (Int.toNat f.2.2.1) (qe9 (List.getD s.1 (Int.toNat f.2.2.1) (Ty.dflt (.int .i64)),f.2.2.2.1)),s.2)
 else bif f.1==3 then
  (bif f.2.2.2.1==0 then(s.1,s.2.1,!s.2.2.1,s.2.2.2)
   else bif f.2.2.2.1==1 then(s.1,s.2.1,s.2.2.1,!s.2.2.2.1,s.2.2.2.2)
   else bif f.2.2.2.1==2 then(s.1,s.2.1,s.2.2.1,s.2.2.2.1,!s.2.2.2.2.1,s.2.2.2.2.2)
   else bif f.2.2.2.1==3 then(s.1,s.2.1,s.2.2.1,s.2.2.2.1,s.2.2.2.2.1,!s.2.2.2.2.2.1,s.2.2.2.2.2.2)
   else s)
 else s
abbrev qcE:List Sh:=[.box 0 0,.ty tFault]
abbrev qcC:List Sh:=[shMach,shMemB 3,.rowc tFetched,.rowc (.int .u8)]
abbrev qdN:Sh:=Sh.tup (Sh.ty Ty.unit)
abbrev qe3:List Sh:=[Sh.pair (Sh.ty (Ty.pair (Ty.int IntKind.i64) (Ty.pair (Ty.int IntKind.i64) (Ty.pair tSizes (Ty.pair (Ty.int IntKind.i64) Ty.unit))))) (Sh.pair (Sh.ty Ty.str) (Sh.pair (Sh.box 1 0) (Sh.pair (Sh.ty tState) (Sh.pair (Sh.ty Ty.bool) (Sh.pair (Sh.win 2 (Ty.pair tIns (Ty.pair (Ty.int IntKind.i64) (Ty.pair Ty.bool (Ty.pair Ty.bool Ty.unit))))) (Sh.ty Ty.unit)))))),Sh.pair (Sh.ty (Ty.sl tSpot)) (Sh.pair (Sh.wsl none 3 (Ty.int IntKind.u8)) (Sh.ty Ty.unit)),Sh.rowc (Ty.pair tIns (Ty.pair (Ty.int IntKind.i64) (Ty.pair Ty.bool (Ty.pair Ty.bool Ty.unit)))),Sh.rowc (Ty.int IntKind.u8)]
def qfe (x:shDens qcE) (y:shDens qcC):PO (Sh.den qdN×shDens qe3) :=
 (.ite (x.2.1==2)
  (.ite (inRange x.2.2.2.1 15)
  (.ite (qji (List.getD y.1.2.2.2.1.1 (Int.toNat x.2.2.2.1) (Ty.dflt (Ty.int IntKind.i64)),x.2.2.2.2.1))
   (.ite (inRange x.2.2.2.1 15)
   (.ret ((),((y.1.1,y.1.2.1,(),(List.set y.1.2.2.2.1.1 (Int.toNat x.2.2.2.1) (qe9 (List.getD y.1.2.2.2.1.1 (Int.toNat x.2.2.2.1) (Ty.dflt (Ty.int IntKind.i64)),x.2.2.2.2.1)),y.1.2.2.2.1.2),y.1.2.2.2.2),y.2.1,y.2.2.1,y.2.2.2)))
   .fail)
   .fail)
  .fail)
  (.ite (x.2.1==3)
  (.ite (x.2.2.2.2.1==0)
   (.ret ((),((y.1.1,y.1.2.1,(),(y.1.2.2.2.1.1,y.1.2.2.2.1.2.1,!y.1.2.2.2.1.2.2.1,y.1.2.2.2.1.2.2.2),y.1.2.2.2.2),y.2.1,y.2.2.1,y.2.2.2)))
   (.ite (x.2.2.2.2.1==1)
   (.ret ((),((y.1.1,y.1.2.1,(),(y.1.2.2.2.1.1,y.1.2.2.2.1.2.1,y.1.2.2.2.1.2.2.1,!y.1.2.2.2.1.2.2.2.1,y.1.2.2.2.1.2.2.2.2),y.1.2.2.2.2),y.2.1,y.2.2.1,y.2.2.2)))
   (.ite (x.2.2.2.2.1==2)
    (.ret ((),((y.1.1,y.1.2.1,(),(y.1.2.2.2.1.1,y.1.2.2.2.1.2.1,y.1.2.2.2.1.2.2.1,y.1.2.2.2.1.2.2.2.1,!y.1.2.2.2.1.2.2.2.2.1,y.1.2.2.2.1.2.2.2.2.2),y.1.2.2.2.2),y.2.1,y.2.2.1,y.2.2.2)))
    (.ite (x.2.2.2.2.1==3)
    (.ret ((),((y.1.1,y.1.2.1,(),(y.1.2.2.2.1.1,y.1.2.2.2.1.2.1,y.1.2.2.2.1.2.2.1,y.1.2.2.2.1.2.2.2.1,y.1.2.2.2.1.2.2.2.2.1,!y.1.2.2.2.1.2.2.2.2.2.1,y.1.2.2.2.1.2.2.2.2.2.2),y.1.2.2.2.2),y.2.1,y.2.2.1,y.2.2.2)))
    (.ret ((),((y.1.1,y.1.2.1,(),y.1.2.2.2),y.2.1,y.2.2.1,y.2.2.2)))))))
  (.ret ((),((y.1.1,y.1.2.1,(),y.1.2.2.2),y.2.1,y.2.2.1,y.2.2.2)))))
def qbR (x:shDens qcE) (_:shDens qcC):Bool:=!(x.2.1==(2:Int))||inRange x.2.2.2.1 15
abbrev qdJ (x:shDens qcE) (y:shDens qcC):Sh.den qdN×shDens qe3:=((),((y.1.1,y.1.2.1,(),qbk y.1.2.2.2.1 x.2,y.1.2.2.2.2),y.2.1,y.2.2.1,y.2.2.2))
theorem qkC (x:shDens qcE) (y:shDens qcC) (h:qbR x y=true):(qfe x y).val=some (qdJ x y):=by
 obtain⟨_,k,p,r,b,_⟩:=x
 unfold qbR at h
 simp only[qfe,qdJ,qbk,PO.val]
 simp only at h
 cases h2:(k==(2:Int))
 ·cases h3:(k==(3:Int))
  ·rfl
  ·cases h4:(b==(0:Int))<;>cases h5:(b==(1:Int))<;>cases h6:(b==(2:Int))<;>cases h7:(b==(3:Int))<;>simp only[cond_true,cond_false]
 ·rw[h2] at h
  simp only[Bool.not_true,Bool.false_or] at h
  rw[h]
  rfl
def qbA:LoopN where
 M:=[0,2,3,4]
 T:=[5,6,7,8,14,15,16,17,18,19,20,21,22,23,24,25,26,27,28,29,30,31,32,33,34,35,36,37,38,39,40,41,42,43,44,45,46,47,48,49,50,51,52,53,54,55,56,57,58,59,60,61,62,63,64,65,66,67,68,69,70,71]
 D:=[0,4]
 ss:=[.box 0 0,.box 1 0,.ty (.int .i64),.ty (.int .i64)]
 hs:=[(shMachB 2 3),(.ty tIns),(shMemB 4),.rowc tFetched,.rowc (.int .u8)]
 es:=[.ret,.panic [⟨.iface 148 (.agg #[.int .i64 0]),false,false⟩]]
 σ:=(Ty.den (.int .i64))×(Sh.den ((shMachB 2 3)))×(Sh.den ((.ty tIns)))×(Sh.den ((shMemB 4)))×(Sh.den (.rowc tFetched))×(Sh.den (.rowc (.int .u8)))
 x0:=fun x y=>(x.2.2.1,y.1,y.2.1,y.2.2.1,y.2.2.2.1,y.2.2.2.2)
 put:=fun x _ s=>((x.1,x.2.1,s.1,x.2.2.2),(s.2.1,s.2.2.1,s.2.2.2.1,s.2.2.2.2.1,s.2.2.2.2.2))
 fuel:=fun _ _=>1
 turn:=fun x _ s =>
 (.ite (band IntKind.i64 x.2.2.2 1 != 0||decide (x.2.2.2≥lenI s.2.1.2.1))
  (.ret (.out 1 (s.1,s.2.1,s.2.2.1,s.2.2.2.1,s.2.2.2.2.1,s.2.2.2.2.2)))
  (.ite (inRange (w64 (Int.tdiv x.2.2.2 2)) s.2.1.2.2.2.2.2.1.2)
  (.ite (!(List.getD s.2.2.2.2.1 (nplus s.2.1.2.2.2.2.2.1.1 (w64 (Int.tdiv x.2.2.2 2))) (Ty.dflt tFetched)).2.2.1)
   (.ite (decide (lenI s.2.1.2.1≤lenI s.2.1.2.1)&&decide (0≤x.2.2.2)&&decide (x.2.2.2≤lenI s.2.1.2.1))
   (.ite (qdB (List.drop (Int.toNat x.2.2.2) (List.take (Int.toNat (lenI s.2.1.2.1)) s.2.1.2.1)))
    (.ite ((List.getD (List.set s.2.2.2.2.1 (nplus s.2.1.2.2.2.2.2.1.1 (w64 (Int.tdiv x.2.2.2 2))) ((qk (List.drop (Int.toNat x.2.2.2) (List.take (Int.toNat (lenI s.2.1.2.1)) s.2.1.2.1))).1,(qk (List.drop (Int.toNat x.2.2.2) (List.take (Int.toNat (lenI s.2.1.2.1)) s.2.1.2.1))).2.1,true,(qk (List.drop (Int.toNat x.2.2.2) (List.take (Int.toNat (lenI s.2.1.2.1)) s.2.1.2.1))).2.2.1 != 0,())) (nplus s.2.1.2.2.2.2.2.1.1 (w64 (Int.tdiv x.2.2.2 2))) (Ty.dflt tFetched)).2.2.2.1)
    (.ret (.out 1 (s.1,s.2.1,s.2.2.1,s.2.2.2.1,List.set s.2.2.2.2.1 (nplus s.2.1.2.2.2.2.2.1.1 (w64 (Int.tdiv x.2.2.2 2))) ((qk (List.drop (Int.toNat x.2.2.2) (List.take (Int.toNat (lenI s.2.1.2.1)) s.2.1.2.1))).1,(qk (List.drop (Int.toNat x.2.2.2) (List.take (Int.toNat (lenI s.2.1.2.1)) s.2.1.2.1))).2.1,true,(qk (List.drop (Int.toNat x.2.2.2) (List.take (Int.toNat (lenI s.2.1.2.1)) s.2.1.2.1))).2.2.1 != 0,()),s.2.2.2.2.2)))
    (.ret (.out 0 ((List.getD (List.set s.2.2.2.2.1 (nplus s.2.1.2.2.2.2.2.1.1 (w64 (Int.tdiv x.2.2.2 2))) ((qk (List.drop (Int.toNat x.2.2.2) (List.take (Int.toNat (lenI s.2.1.2.1)) s.2.1.2.1))).1,(qk (List.drop (Int.toNat x.2.2.2) (List.take (Int.toNat (lenI s.2.1.2.1)) s.2.1.2.1))).2.1,true,(qk (List.drop (Int.toNat x.2.2.2) (List.take (Int.toNat (lenI s.2.1.2.1)) s.2.1.2.1))).2.2.1 != 0,())) (nplus s.2.1.2.2.2.2.2.1.1 (w64 (Int.tdiv x.2.2.2 2))) (Ty.dflt tFetched)).2.1,s.2.1,(List.getD (List.set s.2.2.2.2.1 (nplus s.2.1.2.2.2.2.2.1.1 (w64 (Int.tdiv x.2.2.2 2))) ((qk (List.drop (Int.toNat x.2.2.2) (List.take (Int.toNat (lenI s.2.1.2.1)) s.2.1.2.1))).1,(qk (List.drop (Int.toNat x.2.2.2) (List.take (Int.toNat (lenI s.2.1.2.1)) s.2.1.2.1))).2.1,true,(qk (List.drop (Int.toNat x.2.2.2) (List.take (Int.toNat (lenI s.2.1.2.1)) s.2.1.2.1))).2.2.1 != 0,())) (nplus s.2.1.2.2.2.2.2.1.1 (w64 (Int.tdiv x.2.2.2 2))) (Ty.dflt tFetched)).1,s.2.2.2.1,List.set s.2.2.2.2.1 (nplus s.2.1.2.2.2.2.2.1.1 (w64 (Int.tdiv x.2.2.2 2))) ((qk (List.drop (Int.toNat x.2.2.2) (List.take (Int.toNat (lenI s.2.1.2.1)) s.2.1.2.1))).1,(qk (List.drop (Int.toNat x.2.2.2) (List.take (Int.toNat (lenI s.2.1.2.1)) s.2.1.2.1))).2.1,true,(qk (List.drop (Int.toNat x.2.2.2) (List.take (Int.toNat (lenI s.2.1.2.1)) s.2.1.2.1))).2.2.1 != 0,()),s.2.2.2.2.2))))
    .fail)
   .fail)
   (.ite ((List.getD s.2.2.2.2.1 (nplus s.2.1.2.2.2.2.2.1.1 (w64 (Int.tdiv x.2.2.2 2))) (Ty.dflt tFetched)).2.2.2.1)
   (.ret (.out 1 (s.1,s.2.1,s.2.2.1,s.2.2.2.1,s.2.2.2.2.1,s.2.2.2.2.2)))
   (.ret (.out 0 ((List.getD s.2.2.2.2.1 (nplus s.2.1.2.2.2.2.2.1.1 (w64 (Int.tdiv x.2.2.2 2))) (Ty.dflt tFetched)).2.1,s.2.1,(List.getD s.2.2.2.2.1 (nplus s.2.1.2.2.2.2.2.1.1 (w64 (Int.tdiv x.2.2.2 2))) (Ty.dflt tFetched)).1,s.2.2.2.1,s.2.2.2.2.1,s.2.2.2.2.2)))))
  .fail))
abbrev qcm:List Sh:=[.box 0 0]
abbrev qce:List Sh:=[shMach,shMemB 3,.rowc tFetched,.rowc (.int .u8)]
abbrev qdt:Sh:=Sh.ty Ty.bool
abbrev qet:List Sh:=[Sh.pair (Sh.ty (Ty.pair (Ty.int IntKind.i64) (Ty.pair (Ty.int IntKind.i64) (Ty.pair tSizes (Ty.pair (Ty.int IntKind.i64) Ty.unit))))) (Sh.pair (Sh.ty Ty.str) (Sh.pair (Sh.box 1 0) (Sh.pair (Sh.ty tState) (Sh.pair (Sh.ty Ty.bool) (Sh.pair (Sh.win 2 (Ty.pair tIns (Ty.pair (Ty.int IntKind.i64) (Ty.pair Ty.bool (Ty.pair Ty.bool Ty.unit))))) (Sh.ty Ty.unit)))))),Sh.pair (Sh.ty (Ty.sl tSpot)) (Sh.pair (Sh.wsl none 3 (Ty.int IntKind.u8)) (Sh.ty Ty.unit)),Sh.rowc (Ty.pair tIns (Ty.pair (Ty.int IntKind.i64) (Ty.pair Ty.bool (Ty.pair Ty.bool Ty.unit)))),Sh.rowc (Ty.int IntKind.u8)]
def qhk (_:shDens qcm) (y:shDens qce):PO (Sh.den qdt×shDens qet) :=
 (.ret (y.1.2.2.2.2.1,((y.1.1,y.1.2.1,(),y.1.2.2.2),y.2.1,y.2.2.1,y.2.2.2)))
def qe7 (_:shDens qcm) (_:shDens qce):Bool:=true
abbrev qfc (_:shDens qcm) (y:shDens qce):Sh.den qdt×shDens qet:=(y.1.2.2.2.2.1,y)
theorem qkj (x:shDens qcm) (y:shDens qce) (_:qe7 x y=true):(qhk x y).val=some (qfc x y):=rfl
abbrev qbT:List Sh:=[.box 0 0]
abbrev qbX:List Sh:=[shMach,shMemB 3,.rowc tFetched,.rowc (.int .u8)]
abbrev qdk:Sh:=Sh.ty tState
abbrev qei:List Sh:=[Sh.pair (Sh.ty (Ty.pair (Ty.int IntKind.i64) (Ty.pair (Ty.int IntKind.i64) (Ty.pair tSizes (Ty.pair (Ty.int IntKind.i64) Ty.unit))))) (Sh.pair (Sh.ty Ty.str) (Sh.pair (Sh.box 1 0) (Sh.pair (Sh.ty tState) (Sh.pair (Sh.ty Ty.bool) (Sh.pair (Sh.win 2 (Ty.pair tIns (Ty.pair (Ty.int IntKind.i64) (Ty.pair Ty.bool (Ty.pair Ty.bool Ty.unit))))) (Sh.ty Ty.unit)))))),Sh.pair (Sh.ty (Ty.sl tSpot)) (Sh.pair (Sh.wsl none 3 (Ty.int IntKind.u8)) (Sh.ty Ty.unit)),Sh.rowc (Ty.pair tIns (Ty.pair (Ty.int IntKind.i64) (Ty.pair Ty.bool (Ty.pair Ty.bool Ty.unit)))),Sh.rowc (Ty.int IntKind.u8)]
def qhe (_:shDens qbT) (y:shDens qbX):PO (Sh.den qdk×shDens qei) :=
 (.ret (y.1.2.2.2.1,((y.1.1,y.1.2.1,(),y.1.2.2.2),y.2.1,y.2.2.1,y.2.2.2)))
def qey (_:shDens qbT) (_:shDens qbX):Bool:=true
abbrev qew (_:shDens qbT) (y:shDens qbX):Sh.den qdk×shDens qei:=(y.1.2.2.2.1,y)
theorem qkg (x:shDens qbT) (y:shDens qbX) (_:qey x y=true):(qhe x y).val=some (qew x y):=rfl
def qfD (k:Int) (y:MemT):List UInt8×Int×Unit:=regionM y k
def qik (a:Int) (y:MemT):Int:=(loadM y a 4).1
abbrev qbG:List Sh:=[.box 0 0,.ty (.int .i64)]
abbrev qbH:List Sh:=[shMach,shMemB 3,.rowc tFetched,.rowc (.int .u8)]
abbrev qc7:Sh:=Sh.ty (Ty.int IntKind.i64)
abbrev qdT:List Sh:=[Sh.pair (Sh.ty (Ty.pair (Ty.int IntKind.i64) (Ty.pair (Ty.int IntKind.i64) (Ty.pair tSizes (Ty.pair (Ty.int IntKind.i64) Ty.unit))))) (Sh.pair (Sh.ty Ty.str) (Sh.pair (Sh.box 1 0) (Sh.pair (Sh.ty tState) (Sh.pair (Sh.ty Ty.bool) (Sh.pair (Sh.win 2 (Ty.pair tIns (Ty.pair (Ty.int IntKind.i64) (Ty.pair Ty.bool (Ty.pair Ty.bool Ty.unit))))) (Sh.ty Ty.unit)))))),Sh.pair (Sh.ty (Ty.sl tSpot)) (Sh.pair (Sh.wsl none 3 (Ty.int IntKind.u8)) (Sh.ty Ty.unit)),Sh.rowc (Ty.pair tIns (Ty.pair (Ty.int IntKind.i64) (Ty.pair Ty.bool (Ty.pair Ty.bool Ty.unit)))),Sh.rowc (Ty.int IntKind.u8)]
def qgE (x:shDens qbG) (y:shDens qbH):PO (Sh.den qc7×shDens qdT) :=
 (.ite (qbo ((),x.2,4) (y.2.1,y.2.2.2))
  (.ret ((ql ((),x.2,4) (y.2.1,y.2.2.2)).1.1,((y.1.1,y.1.2.1,(),y.1.2.2.2),(ql ((),x.2,4) (y.2.1,y.2.2.2)).2.1,y.2.2.1,(ql ((),x.2,4) (y.2.1,y.2.2.2)).2.2)))
  .fail)
def qb0 (x:shDens qbG) (y:shDens qbH):Bool:=decide (MemWf (y.2.1,y.2.2.2)∧(show Int from x.2)<9223372036854775808)
abbrev qep (x:shDens qbG) (y:shDens qbH):Sh.den qc7×shDens qdT:=(qik x.2 (y.2.1,y.2.2.2),y)
theorem qjV (x:shDens qbG) (y:shDens qbH) (h:qb0 x y=true):(qgE x y).val=some (qep x y):=(val_yes h).trans rfl
abbrev qb1:List Sh:=[.box 0 0,.ty (.int .i64)]
abbrev qbY:List Sh:=[shMach,shMemB 3,.rowc tFetched,.rowc (.int .u8)]
abbrev qdi:Sh:=Sh.ty Ty.str
abbrev qem:List Sh:=[Sh.pair (Sh.ty (Ty.pair (Ty.int IntKind.i64) (Ty.pair (Ty.int IntKind.i64) (Ty.pair tSizes (Ty.pair (Ty.int IntKind.i64) Ty.unit))))) (Sh.pair (Sh.ty Ty.str) (Sh.pair (Sh.box 1 0) (Sh.pair (Sh.ty tState) (Sh.pair (Sh.ty Ty.bool) (Sh.pair (Sh.win 2 (Ty.pair tIns (Ty.pair (Ty.int IntKind.i64) (Ty.pair Ty.bool (Ty.pair Ty.bool Ty.unit))))) (Sh.ty Ty.unit)))))),Sh.pair (Sh.ty (Ty.sl tSpot)) (Sh.pair (Sh.wsl none 3 (Ty.int IntKind.u8)) (Sh.ty Ty.unit)),Sh.rowc (Ty.pair tIns (Ty.pair (Ty.int IntKind.i64) (Ty.pair Ty.bool (Ty.pair Ty.bool Ty.unit)))),Sh.rowc (Ty.int IntKind.u8)]
def qhd (x:shDens qb1) (y:shDens qbY):PO (Sh.den qdi×shDens qem) :=
 (.ret ((qbE ((),x.2) (y.2.1,y.2.2.2)).1.1,((y.1.1,y.1.2.1,(),y.1.2.2.2),(qbE ((),x.2) (y.2.1,y.2.2.2)).2.1,y.2.2.1,(qbE ((),x.2) (y.2.1,y.2.2.2)).2.2)))
def qev (_:shDens qb1) (_:shDens qbY):Bool:=true
abbrev qeA (x:shDens qb1) (y:shDens qbY):Sh.den qdi×shDens qem:=((qfD x.2 (y.2.1,y.2.2.2)).1,y)
theorem qkb (x:shDens qb1) (y:shDens qbY) (_:qev x y=true):(qhd x y).val=some (qeA x y):=rfl
def fetchX (fl:List UInt8) (pc:Int):Option (tIns.den×Int) :=
 bif band .i64 pc 1 != 0||decide (pc≥lenI fl) then none
 else bif (dDec (fl.drop pc.toNat)).2.2.1 != 0 then none
 else some ((dDec (fl.drop pc.toNat)).1,(dDec (fl.drop pc.toNat)).2.1)
def entX (fl:List UInt8) (k:Nat):tFetched.den:=((dDec (fl.drop (2*k))).1,(dDec (fl.drop (2*k))).2.1,true,(dDec (fl.drop (2*k))).2.2.1 != 0,())
abbrev dfF:tFetched.den:=Ty.dflt tFetched
def cacheX (fl:List UInt8) (pc:Int) (c:List tFetched.den):List tFetched.den :=
 bif band .i64 pc 1 != 0||decide (pc≥lenI fl) then c
 else bif (List.getD c (pc / 2).toNat dfF).2.2.1 then c
 else List.set c (pc / 2).toNat (entX fl (pc / 2).toNat)
instance decIns4:DecidableEq (Int×Int×Int×Bool×Unit):=inferInstance
instance decIns:DecidableEq tIns.den:=inferInstanceAs (DecidableEq (Int×Int×Int×Int×(Int×Int×Int×Bool×Unit)))
instance decFet:DecidableEq tFetched.den:=inferInstanceAs (DecidableEq (tIns.den×(Int×Bool×Bool×Unit)))
def cacheOk (fl:List UInt8) (c:List tFetched.den):Prop:=c.length=fl.length / 2+1∧∀k,k<c.length→(List.getD c k dfF).2.2.1=true→List.getD c k dfF=entX fl k
instance (fl:List UInt8) (c:List tFetched.den):Decidable (cacheOk fl c):=by
 unfold cacheOk
 infer_instance
structure MachWf (y:MS):Prop where
 mem:MemWf y.mem
 regs:List.length y.1.2.2.2.1.1=15
 pc:0≤(show Int from y.1.2.2.2.1.2.1)∧(show Int from y.1.2.2.2.1.2.1)<4294967296
 hand:0≤(show Int from y.1.1.2.1)∧(show Int from y.1.1.2.1)<4294967296
 len:List.length y.1.2.1≤262144
 win:y.1.2.2.2.2.2.1=(0,List.length y.1.2.1 / 2+1)
 cache:cacheOk y.1.2.1 y.2.2.1
instance (y:MS):Decidable (MachWf y) :=
 if h:MemWf y.mem∧List.length y.1.2.2.2.1.1=15∧(0≤(show Int from y.1.2.2.2.1.2.1)∧(show Int from y.1.2.2.2.1.2.1)<4294967296)∧(0≤(show Int from y.1.1.2.1)∧(show Int from y.1.1.2.1)<4294967296)∧List.length y.1.2.1≤262144∧(y.1.2.2.2.2.2.1:Nat×Nat)=(0,List.length y.1.2.1 / 2+1)∧cacheOk y.1.2.1 y.2.2.1
 then isTrue ⟨h.1,h.2.1,h.2.2.1,h.2.2.2.1,h.2.2.2.2.1,h.2.2.2.2.2.1,h.2.2.2.2.2.2⟩ else isFalse fun h'=>h ⟨h'.mem,h'.regs,h'.pc,h'.hand,h'.len,h'.win,h'.cache⟩
theorem fetch_res (fl:List UInt8) (c:List tFetched.den) (hd:tHead.den) (st:tState.den) (dn:Bool) (i0:tIns.den) (t:Int) (M:(shMemB 3).den) (B:List Int)
  (hp:0≤(show Int from st.2.1)∧(show Int from st.2.1)<4294967296) (hc:cacheOk fl c) :
  LoopN.res qbA ((),(),t,st.2.1) ((hd,fl,(),st,dn,(0,fl.length / 2+1),()),i0,M,c,B)=some (match fetchX fl st.2.1 with
   |none=>(1,t,(hd,fl,(),st,dn,(0,fl.length / 2+1),()),i0,M,cacheX fl st.2.1 c,B)
   |some p=>(0,p.2,(hd,fl,(),st,dn,(0,fl.length / 2+1),()),p.1,M,cacheX fl st.2.1 c,B)):=by
 obtain⟨hc1,hc2⟩:=hc
 obtain⟨rg,pc,fgs⟩:=st
 simp only at hp ⊢
 have hp:0≤pc∧pc<4294967296:=hp
 have hb:band .i64 pc 1=pc % 2:=band_one pc
 unfold LoopN.res
 show runL _ 1 _=_
 unfold fetchX cacheX
 cases ho:(band .i64 pc 1 != 0||decide (pc≥lenI fl)) with
 |true=>exact(runL_out ((val_yes ho).trans rfl)).trans (by rfl)
 |false =>
  simp only[cond_false]
  simp only[Bool.or_eq_false_iff,bne_eq_false_iff_eq,decide_eq_false_iff_not] at ho
  obtain⟨ho1,ho2⟩:=ho
  have hlt:pc<(fl.length:Int):=by simpa [lenI] using ho2
  rw[hb] at ho1
  obtain⟨m,rfl⟩:=Int.eq_ofNat_of_zero_le hp.1
  have hm:m % 2=0:=by omega
  obtain⟨k,rfl⟩:∃k,m=2*k:=⟨m / 2,by omega⟩
  have hlt':((2*k:Nat):Int)<((fl.length:Nat):Int):=hlt
  have hk:k<c.length:=by omega
  have e1:Int.tdiv ((2*k:Nat):Int) 2=(k:Int):=by
   rw[Int.tdiv_eq_ediv_of_nonneg (by omega)]
   omega
  have e2:w64 ((k:Nat):Int)=(k:Int):=w64_id (by omega) (by omega)
  have e3:(((2*k:Nat):Int) / 2).toNat=k:=by omega
  have e4:List.take (Int.toNat (lenI fl)) fl=fl:=by simp[lenI]
  have e5:Int.toNat ((2*k:Nat):Int)=2*k:=by omega
  have e6:nplus 0 (k:Int)=k:=by simp[nplus]
  have hno:(band .i64 ((2*k:Nat):Int) 1 != 0||decide (((2*k:Nat):Int)≥lenI fl))=false:=by
   rw[hb]
   simp only[Bool.or_eq_false_iff,bne_eq_false_iff_eq,decide_eq_false_iff_not]
   exact⟨ho1,by simpa [lenI] using hlt⟩
  have hin:inRange (w64 (Int.tdiv ((2*k:Nat):Int) 2)) (fl.length / 2+1)=true:=by
   rw[e1,e2]
   exact inR (by omega)
  rw[e3,e5]
  cases hk1:(List.getD c k dfF).2.2.1 with
  |true =>
   have he:=hc2 k hk hk1
   simp only[cond_true]
   cases he2:((dDec (fl.drop (2*k))).2.2.1 != 0) with
   |true =>
    refine(runL_out ((val_no hno).trans ((val_yes hin).trans ((val_no ?_).trans ((val_yes ?_).trans rfl))))).trans (by rfl)
    ·show(!(List.getD c (nplus 0 (w64 (Int.tdiv ((2*k:Nat):Int) 2))) dfF).2.2.1)=false
     rw[e1,e2,e6,hk1];rfl
    ·show(List.getD c (nplus 0 (w64 (Int.tdiv ((2*k:Nat):Int) 2))) dfF).2.2.2.1=true
     rw[e1,e2,e6,he];exact he2
   |false =>
    refine(runL_out ((val_no hno).trans ((val_yes hin).trans ((val_no ?_).trans ((val_no ?_).trans rfl))))).trans ?_
    ·show(!(List.getD c (nplus 0 (w64 (Int.tdiv ((2*k:Nat):Int) 2))) dfF).2.2.1)=false
     rw[e1,e2,e6,hk1];rfl
    ·show(List.getD c (nplus 0 (w64 (Int.tdiv ((2*k:Nat):Int) 2))) dfF).2.2.2.1=false
     rw[e1,e2,e6,he];exact he2
    ·show some (0,(List.getD c (nplus 0 (w64 (Int.tdiv ((2*k:Nat):Int) 2))) dfF).2.1,_,(List.getD c (nplus 0 (w64 (Int.tdiv ((2*k:Nat):Int) 2))) dfF).1,_)=_
     rw[e1,e2,e6,he]
     rfl
  |false =>
   simp only[cond_false]
   have hle:(decide (lenI fl≤lenI fl)&&decide (0≤((2*k:Nat):Int))&&decide (((2*k:Nat):Int)≤lenI fl))=true:=by
    simp only[Bool.and_eq_true,decide_eq_true_eq]
    exact⟨⟨Int.le_refl _,by omega⟩,by simp only[lenI];omega⟩
   have hset:List.getD (List.set c k (entX fl k)) k dfF=entX fl k:=by
    simp[List.getD_eq_getElem?_getD,hk]
   have hent:∀s:List UInt8,s=fl.drop (2*k)→((qk s).1,(qk s).2.1,true,(qk s).2.2.1 != 0,())=entX fl k:=fun s hs=>by subst hs;rw[decode_V];rfl
   have hs:List.drop (Int.toNat ((2*k:Nat):Int)) (List.take (Int.toNat (lenI fl)) fl)=fl.drop (2*k):=by rw[e4,e5]
   cases he2:((dDec (fl.drop (2*k))).2.2.1 != 0) with
   |true =>
    refine(runL_out ((val_no hno).trans ((val_yes hin).trans ((val_yes ?_).trans ((val_yes hle).trans ((val_yes (decode_G _)).trans ((val_yes ?_).trans rfl))))))).trans ?_
    ·show(!(List.getD c (nplus 0 (w64 (Int.tdiv ((2*k:Nat):Int) 2))) dfF).2.2.1)=true
     rw[e1,e2,e6,hk1];rfl
    ·show(List.getD (List.set c (nplus 0 (w64 (Int.tdiv ((2*k:Nat):Int) 2))) ((qk (List.drop (Int.toNat ((2*k:Nat):Int)) (List.take (Int.toNat (lenI fl)) fl))).1,(qk (List.drop (Int.toNat ((2*k:Nat):Int)) (List.take (Int.toNat (lenI fl)) fl))).2.1,true,(qk (List.drop (Int.toNat ((2*k:Nat):Int)) (List.take (Int.toNat (lenI fl)) fl))).2.2.1 != 0,())) (nplus 0 (w64 (Int.tdiv ((2*k:Nat):Int) 2))) dfF).2.2.2.1=true
     rw[e1,e2,e6,hent _ hs,hset]
     exact he2
    ·show some (1,t,(hd,fl,(),(rg,((2*k:Nat):Int),fgs),dn,(0,fl.length / 2+1),()),i0,M,List.set c (nplus 0 (w64 (Int.tdiv ((2*k:Nat):Int) 2))) ((qk (List.drop (Int.toNat ((2*k:Nat):Int)) (List.take (Int.toNat (lenI fl)) fl))).1,(qk (List.drop (Int.toNat ((2*k:Nat):Int)) (List.take (Int.toNat (lenI fl)) fl))).2.1,true,(qk (List.drop (Int.toNat ((2*k:Nat):Int)) (List.take (Int.toNat (lenI fl)) fl))).2.2.1 != 0,()),B)=_
     rw[e1,e2,e6,hent _ hs]
     rfl
   |false =>
    refine(runL_out ((val_no hno).trans ((val_yes hin).trans ((val_yes ?_).trans ((val_yes hle).trans ((val_yes (decode_G _)).trans ((val_no ?_).trans rfl))))))).trans ?_
    ·show(!(List.getD c (nplus 0 (w64 (Int.tdiv ((2*k:Nat):Int) 2))) dfF).2.2.1)=true
     rw[e1,e2,e6,hk1];rfl
    ·show(List.getD (List.set c (nplus 0 (w64 (Int.tdiv ((2*k:Nat):Int) 2))) ((qk (List.drop (Int.toNat ((2*k:Nat):Int)) (List.take (Int.toNat (lenI fl)) fl))).1,(qk (List.drop (Int.toNat ((2*k:Nat):Int)) (List.take (Int.toNat (lenI fl)) fl))).2.1,true,(qk (List.drop (Int.toNat ((2*k:Nat):Int)) (List.take (Int.toNat (lenI fl)) fl))).2.2.1 != 0,())) (nplus 0 (w64 (Int.tdiv ((2*k:Nat):Int) 2))) dfF).2.2.2.1=false
     rw[e1,e2,e6,hent _ hs,hset]
     exact he2
    ·show some (0,(List.getD (List.set c (nplus 0 (w64 (Int.tdiv ((2*k:Nat):Int) 2))) ((qk (List.drop (Int.toNat ((2*k:Nat):Int)) (List.take (Int.toNat (lenI fl)) fl))).1,(qk (List.drop (Int.toNat ((2*k:Nat):Int)) (List.take (Int.toNat (lenI fl)) fl))).2.1,true,(qk (List.drop (Int.toNat ((2*k:Nat):Int)) (List.take (Int.toNat (lenI fl)) fl))).2.2.1 != 0,())) (nplus 0 (w64 (Int.tdiv ((2*k:Nat):Int) 2))) dfF).2.1,(hd,fl,(),(rg,((2*k:Nat):Int),fgs),dn,(0,fl.length / 2+1),()),(List.getD (List.set c (nplus 0 (w64 (Int.tdiv ((2*k:Nat):Int) 2))) ((qk (List.drop (Int.toNat ((2*k:Nat):Int)) (List.take (Int.toNat (lenI fl)) fl))).1,(qk (List.drop (Int.toNat ((2*k:Nat):Int)) (List.take (Int.toNat (lenI fl)) fl))).2.1,true,(qk (List.drop (Int.toNat ((2*k:Nat):Int)) (List.take (Int.toNat (lenI fl)) fl))).2.2.1 != 0,())) (nplus 0 (w64 (Int.tdiv ((2*k:Nat):Int) 2))) dfF).1,M,List.set c (nplus 0 (w64 (Int.tdiv ((2*k:Nat):Int) 2))) ((qk (List.drop (Int.toNat ((2*k:Nat):Int)) (List.take (Int.toNat (lenI fl)) fl))).1,(qk (List.drop (Int.toNat ((2*k:Nat):Int)) (List.take (Int.toNat (lenI fl)) fl))).2.1,true,(qk (List.drop (Int.toNat ((2*k:Nat):Int)) (List.take (Int.toNat (lenI fl)) fl))).2.2.1 != 0,()),B)=_
     rw[e1,e2,e6,hent _ hs,hset]
     rfl
abbrev StepR:Type:=tEvent.den×tState.den×Bool×MemT
def finX (st:tState.den) (i:tIns.den) (mem:MemT) (ld addr:Int):StepR:=((0,st.2.1,addr,qbl (st,i),()),(qA (st,i,ld)).1,!(qA (st,i,ld)).2.1,mem)
def trapX (hd:tHead.den) (st:tState.den) (mem:MemT) (addr:Int):StepR:=((2,st.2.1,addr,12,()),(st.1,hd.2.1,st.2.2),false,mem)
def actX (hd:tHead.den) (st:tState.den) (i:tIns.den) (mem:MemT):StepR :=
 bif (qc (st,i)).2.1 then
  (bif (qc (st,i)).1.2.2.2.1 then
   (bif (storeM mem (qc (st,i)).1.1 (qc (st,i)).1.2.1 (qc (st,i)).1.2.2.1).1 != 0 then trapX hd st (storeM mem (qc (st,i)).1.1 (qc (st,i)).1.2.1 (qc (st,i)).1.2.2.1).2 (qc (st,i)).1.1
    else finX st i (storeM mem (qc (st,i)).1.1 (qc (st,i)).1.2.1 (qc (st,i)).1.2.2.1).2 0 (qc (st,i)).1.1)
   else bif (loadM mem (qc (st,i)).1.1 (qc (st,i)).1.2.1).2.1 != 0 then trapX hd st mem (qc (st,i)).1.1
    else finX st i mem (loadM mem (qc (st,i)).1.1 (qc (st,i)).1.2.1).1 (qc (st,i)).1.1)
 else finX st i mem 0 0
def turnX (hd:tHead.den) (fl:List UInt8) (st:tState.den) (mem:MemT) (skip:Bool):StepR :=
 match fetchX fl st.2.1 with
 |none=>trapX hd st mem 0
 |some p=>bif skip then((1,st.2.1,0,1,()),(st.1,qdv (st.2.1,p.2),st.2.2),false,mem) else actX hd st p.1 mem
def faultX (f:tFault.den):tFault.den:=bif qr f != 0 then(0,0,0,0,()) else f
def stepMX (hd:tHead.den) (fl:List UInt8) (st:tState.den) (mem:MemT) (f:tFault.den):StepR:=turnX hd fl (qbk st (faultX f)) mem ((faultX f).1==(1:Int))
theorem hitS_len (s:tState.den) (f:tFault.den) (h:List.length s.1=15):List.length (qbk s f).1=15:=by
 unfold qbk
 cases f.1==(2:Int)
 ·cases f.1==(3:Int)
  ·exact h
  ·cases f.2.2.2.1==(0:Int)<;>cases f.2.2.2.1==(1:Int)<;>cases f.2.2.2.1==(2:Int)<;>cases f.2.2.2.1==(3:Int)<;>exact h
 ·simp only[cond_true,List.length_set]
  exact h
theorem hitS_pc (s:tState.den) (f:tFault.den):(qbk s f).2.1=s.2.1:=by
 unfold qbk
 cases f.1==(2:Int)
 ·cases f.1==(3:Int)
  ·rfl
  ·cases f.2.2.2.1==(0:Int)<;>cases f.2.2.2.1==(1:Int)<;>cases f.2.2.2.1==(2:Int)<;>cases f.2.2.2.1==(3:Int)<;>rfl
 ·rfl
abbrev packX (hd:tHead.den) (fl:List UInt8) (win:Nat×Nat) (c:List tFetched.den) (r:StepR):(tEvent.den×Bool×Unit)×MS:=((r.1,true,()),((hd,fl,(),r.2.1,r.2.2.1,win,()),r.2.2.2.1,c,r.2.2.2.2))
def actT (hd:tHead.den) (fl:List UInt8) (dn:Bool) (win:Nat×Nat) (st:tState.den) (i:tIns.den) (M:(shMemB 3).den) (c:List tFetched.den) (B:List Int):PO ((tEvent.den×Bool×Unit)×MS) :=
 .ite (qct (st,i))
  (.ite (qc (st,i)).2.1
   (.ite (qc (st,i)).1.2.2.2.1
    (.ite (qbs ((),(qc (st,i)).1.1,(qc (st,i)).1.2.1,(qc (st,i)).1.2.2.1) (M,B))
     (.ite ((qv ((),(qc (st,i)).1.1,(qc (st,i)).1.2.1,(qc (st,i)).1.2.2.1) (M,B)).1 != 0)
      (.ret (((2,st.2.1,(qc (st,i)).1.1,12,()),true,()),((hd,fl,(),(st.1,hd.2.1,st.2.2),dn,win,()),(qv ((),(qc (st,i)).1.1,(qc (st,i)).1.2.1,(qc (st,i)).1.2.2.1) (M,B)).2.1,c,(qv ((),(qc (st,i)).1.1,(qc (st,i)).1.2.1,(qc (st,i)).1.2.2.1) (M,B)).2.2)))
      (.ite (qbu (st,i)) (.ite (qcd (st,i,0))
       (.ret (((0,st.2.1,(qc (st,i)).1.1,qbl (st,i),()),true,()),((hd,fl,(),(qA (st,i,0)).1,!(qA (st,i,0)).2.1,win,()),(qv ((),(qc (st,i)).1.1,(qc (st,i)).1.2.1,(qc (st,i)).1.2.2.1) (M,B)).2.1,c,(qv ((),(qc (st,i)).1.1,(qc (st,i)).1.2.1,(qc (st,i)).1.2.2.1) (M,B)).2.2))) .fail) .fail))
     .fail)
    (.ite (qbo ((),(qc (st,i)).1.1,(qc (st,i)).1.2.1) (M,B))
     (.ite ((ql ((),(qc (st,i)).1.1,(qc (st,i)).1.2.1) (M,B)).1.2.1 != 0)
      (.ret (((2,st.2.1,(qc (st,i)).1.1,12,()),true,()),((hd,fl,(),(st.1,hd.2.1,st.2.2),dn,win,()),(ql ((),(qc (st,i)).1.1,(qc (st,i)).1.2.1) (M,B)).2.1,c,(ql ((),(qc (st,i)).1.1,(qc (st,i)).1.2.1) (M,B)).2.2)))
      (.ite (qbu (st,i)) (.ite (qcd (st,i,(ql ((),(qc (st,i)).1.1,(qc (st,i)).1.2.1) (M,B)).1.1))
       (.ret (((0,st.2.1,(qc (st,i)).1.1,qbl (st,i),()),true,()),((hd,fl,(),(qA (st,i,(ql ((),(qc (st,i)).1.1,(qc (st,i)).1.2.1) (M,B)).1.1)).1,!(qA (st,i,(ql ((),(qc (st,i)).1.1,(qc (st,i)).1.2.1) (M,B)).1.1)).2.1,win,()),(ql ((),(qc (st,i)).1.1,(qc (st,i)).1.2.1) (M,B)).2.1,c,(ql ((),(qc (st,i)).1.1,(qc (st,i)).1.2.1) (M,B)).2.2))) .fail) .fail))
     .fail))
   (.ite (qbu (st,i)) (.ite (qcd (st,i,0))
    (.ret (((0,st.2.1,0,qbl (st,i),()),true,()),((hd,fl,(),(qA (st,i,0)).1,!(qA (st,i,0)).2.1,win,()),M,c,B))) .fail) .fail))
  .fail
theorem act_ok (hd:tHead.den) (fl:List UInt8) (win:Nat×Nat) (st:tState.den) (i:tIns.den) (M:(shMemB 3).den) (c:List tFetched.den) (B:List Int) (hr:List.length st.1=15) (hm:MemWf (M,B)) :
  (actT hd fl false win st i M c B).val=some (packX hd fl win c (actX hd st i (M,B))):=by
 have g1:qct (st,i)=true:=decide_eq_true hr
 have g2:qbu (st,i)=true:=decide_eq_true hr
 have g3:∀ld,qcd (st,i,ld)=true:=fun ld=>decide_eq_true hr
 have ha:=access_addr st i
 have g4:∀n v,qbs ((),(qc (st,i)).1.1,n,v) (M,B)=true:=fun n v=>decide_eq_true ⟨hm,ha⟩
 have g5:∀n,qbo ((),(qc (st,i)).1.1,n) (M,B)=true:=fun n=>decide_eq_true ⟨hm,ha⟩
 unfold actT actX
 refine(val_yes g1).trans ?_
 cases h1:(qc (st,i)).2.1
 ·exact(val_no rfl).trans ((val_yes g2).trans ((val_yes (g3 _)).trans rfl))
 ·refine(val_yes rfl).trans ?_
  simp only[cond_true]
  cases h2:(qc (st,i)).1.2.2.2.1
  ·refine(val_no rfl).trans ((val_yes (g5 _)).trans ?_)
   simp only[cond_false]
   cases h3:((loadM (M,B) (qc (st,i)).1.1 (qc (st,i)).1.2.1).2.1 != (0:Int))
   ·exact(val_no h3).trans ((val_yes g2).trans ((val_yes (g3 _)).trans rfl))
   ·exact(val_yes h3).trans rfl
  ·refine(val_yes rfl).trans ((val_yes (g4 _ _)).trans ?_)
   simp only[cond_true]
   cases h3:((storeM (M,B) (qc (st,i)).1.1 (qc (st,i)).1.2.1 (qc (st,i)).1.2.2.1).1 != (0:Int))
   ·exact(val_no h3).trans ((val_yes g2).trans ((val_yes (g3 _)).trans rfl))
   ·exact(val_yes h3).trans rfl
abbrev qcg:List Sh:=[.box 0 0,.ty tFault]
abbrev qco:List Sh:=[shMach,shMemB 3,.rowc tFetched,.rowc (.int .u8)]
abbrev qdr:Sh:=Sh.tup (Sh.pair (Sh.ty tFault) (Sh.pair (Sh.ty Ty.bool) (Sh.ty Ty.unit)))
abbrev qez:List Sh:=[Sh.pair (Sh.ty (Ty.pair (Ty.int IntKind.i64) (Ty.pair (Ty.int IntKind.i64) (Ty.pair tSizes (Ty.pair (Ty.int IntKind.i64) Ty.unit))))) (Sh.pair (Sh.ty Ty.str) (Sh.pair (Sh.box 1 0) (Sh.pair (Sh.ty tState) (Sh.pair (Sh.ty Ty.bool) (Sh.pair (Sh.win 2 (Ty.pair tIns (Ty.pair (Ty.int IntKind.i64) (Ty.pair Ty.bool (Ty.pair Ty.bool Ty.unit))))) (Sh.ty Ty.unit)))))),Sh.pair (Sh.ty (Ty.sl tSpot)) (Sh.pair (Sh.wsl none 3 (Ty.int IntKind.u8)) (Sh.ty Ty.unit)),Sh.rowc (Ty.pair tIns (Ty.pair (Ty.int IntKind.i64) (Ty.pair Ty.bool (Ty.pair Ty.bool Ty.unit)))),Sh.rowc (Ty.int IntKind.u8)]
def qe5 (x:shDens qcg) (y:shDens qco):PO (Sh.den qdr×shDens qez) :=
 (.ite (y.1.2.2.2.2.1)
  (.ret (((0,0,0,0,()),false,()),((y.1.1,y.1.2.1,(),y.1.2.2.2),y.2.1,y.2.2.1,y.2.2.2)))
  (.ite (qr x.2 != 0)
  (.ite (qbR ((),0,0,0,0,()) ((y.1.1,y.1.2.1,(),y.1.2.2.2),y.2))
   (.opt (LoopN.res qbA ((),(),0,(qbk y.1.2.2.2.1 (0,0,0,0,())).2.1) ((y.1.1,y.1.2.1,(),qbk y.1.2.2.2.1 (0,0,0,0,()),y.1.2.2.2.2),(0,0,0,0,0,0,0,false,()),y.2)) fun p0 =>
   (.ite (way p0.1)
    (.ite (qct (p0.2.2.1.2.2.2.1,p0.2.2.2.1))
    (.ite ((qc (p0.2.2.1.2.2.2.1,p0.2.2.2.1)).2.1)
     (.ite ((qc (p0.2.2.1.2.2.2.1,p0.2.2.2.1)).1.2.2.2.1)
     (.ite (qbs ((),(qc (p0.2.2.1.2.2.2.1,p0.2.2.2.1)).1.1,(qc (p0.2.2.1.2.2.2.1,p0.2.2.2.1)).1.2.1,(qc (p0.2.2.1.2.2.2.1,p0.2.2.2.1)).1.2.2.1) (p0.2.2.2.2.1,p0.2.2.2.2.2.2))
      (.ite ((qv ((),(qc (p0.2.2.1.2.2.2.1,p0.2.2.2.1)).1.1,(qc (p0.2.2.1.2.2.2.1,p0.2.2.2.1)).1.2.1,(qc (p0.2.2.1.2.2.2.1,p0.2.2.2.1)).1.2.2.1) (p0.2.2.2.2.1,p0.2.2.2.2.2.2)).1 != 0)
      (.ret (((2,p0.2.2.1.2.2.2.1.2.1,(qc (p0.2.2.1.2.2.2.1,p0.2.2.2.1)).1.1,12,()),true,()),((p0.2.2.1.1,p0.2.2.1.2.1,(),(p0.2.2.1.2.2.2.1.1,p0.2.2.1.1.2.1,p0.2.2.1.2.2.2.1.2.2),p0.2.2.1.2.2.2.2),(qv ((),(qc (p0.2.2.1.2.2.2.1,p0.2.2.2.1)).1.1,(qc (p0.2.2.1.2.2.2.1,p0.2.2.2.1)).1.2.1,(qc (p0.2.2.1.2.2.2.1,p0.2.2.2.1)).1.2.2.1) (p0.2.2.2.2.1,p0.2.2.2.2.2.2)).2.1,p0.2.2.2.2.2.1,(qv ((),(qc (p0.2.2.1.2.2.2.1,p0.2.2.2.1)).1.1,(qc (p0.2.2.1.2.2.2.1,p0.2.2.2.1)).1.2.1,(qc (p0.2.2.1.2.2.2.1,p0.2.2.2.1)).1.2.2.1) (p0.2.2.2.2.1,p0.2.2.2.2.2.2)).2.2)))
      (.ite (qbu (p0.2.2.1.2.2.2.1,p0.2.2.2.1))
       (.ite (qcd (p0.2.2.1.2.2.2.1,p0.2.2.2.1,0))
       (.ret (((0,(qbk y.1.2.2.2.1 (0,0,0,0,())).2.1,(qc (p0.2.2.1.2.2.2.1,p0.2.2.2.1)).1.1,qbl (p0.2.2.1.2.2.2.1,p0.2.2.2.1),()),true,()),((p0.2.2.1.1,p0.2.2.1.2.1,(),(qA (p0.2.2.1.2.2.2.1,p0.2.2.2.1,0)).1,!(qA (p0.2.2.1.2.2.2.1,p0.2.2.2.1,0)).2.1,p0.2.2.1.2.2.2.2.2),(qv ((),(qc (p0.2.2.1.2.2.2.1,p0.2.2.2.1)).1.1,(qc (p0.2.2.1.2.2.2.1,p0.2.2.2.1)).1.2.1,(qc (p0.2.2.1.2.2.2.1,p0.2.2.2.1)).1.2.2.1) (p0.2.2.2.2.1,p0.2.2.2.2.2.2)).2.1,p0.2.2.2.2.2.1,(qv ((),(qc (p0.2.2.1.2.2.2.1,p0.2.2.2.1)).1.1,(qc (p0.2.2.1.2.2.2.1,p0.2.2.2.1)).1.2.1,(qc (p0.2.2.1.2.2.2.1,p0.2.2.2.1)).1.2.2.1) (p0.2.2.2.2.1,p0.2.2.2.2.2.2)).2.2)))
       .fail)
       .fail))
      .fail)
     (.ite (qbo ((),(qc (p0.2.2.1.2.2.2.1,p0.2.2.2.1)).1.1,(qc (p0.2.2.1.2.2.2.1,p0.2.2.2.1)).1.2.1) (p0.2.2.2.2.1,p0.2.2.2.2.2.2))
      (.ite ((ql ((),(qc (p0.2.2.1.2.2.2.1,p0.2.2.2.1)).1.1,(qc (p0.2.2.1.2.2.2.1,p0.2.2.2.1)).1.2.1) (p0.2.2.2.2.1,p0.2.2.2.2.2.2)).1.2.1 != 0)
      (.ret (((2,p0.2.2.1.2.2.2.1.2.1,(qc (p0.2.2.1.2.2.2.1,p0.2.2.2.1)).1.1,12,()),true,()),((p0.2.2.1.1,p0.2.2.1.2.1,(),(p0.2.2.1.2.2.2.1.1,p0.2.2.1.1.2.1,p0.2.2.1.2.2.2.1.2.2),p0.2.2.1.2.2.2.2),(ql ((),(qc (p0.2.2.1.2.2.2.1,p0.2.2.2.1)).1.1,(qc (p0.2.2.1.2.2.2.1,p0.2.2.2.1)).1.2.1) (p0.2.2.2.2.1,p0.2.2.2.2.2.2)).2.1,p0.2.2.2.2.2.1,(ql ((),(qc (p0.2.2.1.2.2.2.1,p0.2.2.2.1)).1.1,(qc (p0.2.2.1.2.2.2.1,p0.2.2.2.1)).1.2.1) (p0.2.2.2.2.1,p0.2.2.2.2.2.2)).2.2)))
      (.ite (qbu (p0.2.2.1.2.2.2.1,p0.2.2.2.1))
       (.ite (qcd (p0.2.2.1.2.2.2.1,p0.2.2.2.1,(ql ((),(qc (p0.2.2.1.2.2.2.1,p0.2.2.2.1)).1.1,(qc (p0.2.2.1.2.2.2.1,p0.2.2.2.1)).1.2.1) (p0.2.2.2.2.1,p0.2.2.2.2.2.2)).1.1))
       (.ret (((0,(qbk y.1.2.2.2.1 (0,0,0,0,())).2.1,(qc (p0.2.2.1.2.2.2.1,p0.2.2.2.1)).1.1,qbl (p0.2.2.1.2.2.2.1,p0.2.2.2.1),()),true,()),((p0.2.2.1.1,p0.2.2.1.2.1,(),(qA (p0.2.2.1.2.2.2.1,p0.2.2.2.1,(ql ((),(qc (p0.2.2.1.2.2.2.1,p0.2.2.2.1)).1.1,(qc (p0.2.2.1.2.2.2.1,p0.2.2.2.1)).1.2.1) (p0.2.2.2.2.1,p0.2.2.2.2.2.2)).1.1)).1,!(qA (p0.2.2.1.2.2.2.1,p0.2.2.2.1,(ql ((),(qc (p0.2.2.1.2.2.2.1,p0.2.2.2.1)).1.1,(qc (p0.2.2.1.2.2.2.1,p0.2.2.2.1)).1.2.1) (p0.2.2.2.2.1,p0.2.2.2.2.2.2)).1.1)).2.1,p0.2.2.1.2.2.2.2.2),(ql ((),(qc (p0.2.2.1.2.2.2.1,p0.2.2.2.1)).1.1,(qc (p0.2.2.1.2.2.2.1,p0.2.2.2.1)).1.2.1) (p0.2.2.2.2.1,p0.2.2.2.2.2.2)).2.1,p0.2.2.2.2.2.1,(ql ((),(qc (p0.2.2.1.2.2.2.1,p0.2.2.2.1)).1.1,(qc (p0.2.2.1.2.2.2.1,p0.2.2.2.1)).1.2.1) (p0.2.2.2.2.1,p0.2.2.2.2.2.2)).2.2)))
       .fail)
       .fail))
      .fail))
     (.ite (qbu (p0.2.2.1.2.2.2.1,p0.2.2.2.1))
     (.ite (qcd (p0.2.2.1.2.2.2.1,p0.2.2.2.1,0))
      (.ret (((0,(qbk y.1.2.2.2.1 (0,0,0,0,())).2.1,0,qbl (p0.2.2.1.2.2.2.1,p0.2.2.2.1),()),true,()),((p0.2.2.1.1,p0.2.2.1.2.1,(),(qA (p0.2.2.1.2.2.2.1,p0.2.2.2.1,0)).1,!(qA (p0.2.2.1.2.2.2.1,p0.2.2.2.1,0)).2.1,p0.2.2.1.2.2.2.2.2),p0.2.2.2.2.1,p0.2.2.2.2.2.1,p0.2.2.2.2.2.2)))
      .fail)
     .fail))
    .fail)
    (.ret (((2,p0.2.2.1.2.2.2.1.2.1,0,12,()),true,()),((p0.2.2.1.1,p0.2.2.1.2.1,(),(p0.2.2.1.2.2.2.1.1,p0.2.2.1.1.2.1,p0.2.2.1.2.2.2.1.2.2),p0.2.2.1.2.2.2.2),p0.2.2.2.2.1,p0.2.2.2.2.2.1,p0.2.2.2.2.2.2)))))
   .fail)
  (.ite (qbR ((),x.2) ((y.1.1,y.1.2.1,(),y.1.2.2.2),y.2))
   (.opt (LoopN.res qbA ((),(),0,(qbk y.1.2.2.2.1 x.2).2.1) ((y.1.1,y.1.2.1,(),qbk y.1.2.2.2.1 x.2,y.1.2.2.2.2),(0,0,0,0,0,0,0,false,()),y.2)) fun p0 =>
   (.ite (way p0.1)
    (.ite (x.2.1==1)
    (.ret (((1,(qbk y.1.2.2.2.1 x.2).2.1,0,1,()),true,()),((p0.2.2.1.1,p0.2.2.1.2.1,(),(p0.2.2.1.2.2.2.1.1,qdv (p0.2.2.1.2.2.2.1.2.1,p0.2.1),p0.2.2.1.2.2.2.1.2.2),p0.2.2.1.2.2.2.2),p0.2.2.2.2.1,p0.2.2.2.2.2.1,p0.2.2.2.2.2.2)))
    (.ite (qct (p0.2.2.1.2.2.2.1,p0.2.2.2.1))
     (.ite ((qc (p0.2.2.1.2.2.2.1,p0.2.2.2.1)).2.1)
     (.ite ((qc (p0.2.2.1.2.2.2.1,p0.2.2.2.1)).1.2.2.2.1)
      (.ite (qbs ((),(qc (p0.2.2.1.2.2.2.1,p0.2.2.2.1)).1.1,(qc (p0.2.2.1.2.2.2.1,p0.2.2.2.1)).1.2.1,(qc (p0.2.2.1.2.2.2.1,p0.2.2.2.1)).1.2.2.1) (p0.2.2.2.2.1,p0.2.2.2.2.2.2))
      (.ite ((qv ((),(qc (p0.2.2.1.2.2.2.1,p0.2.2.2.1)).1.1,(qc (p0.2.2.1.2.2.2.1,p0.2.2.2.1)).1.2.1,(qc (p0.2.2.1.2.2.2.1,p0.2.2.2.1)).1.2.2.1) (p0.2.2.2.2.1,p0.2.2.2.2.2.2)).1 != 0)
       (.ret (((2,p0.2.2.1.2.2.2.1.2.1,(qc (p0.2.2.1.2.2.2.1,p0.2.2.2.1)).1.1,12,()),true,()),((p0.2.2.1.1,p0.2.2.1.2.1,(),(p0.2.2.1.2.2.2.1.1,p0.2.2.1.1.2.1,p0.2.2.1.2.2.2.1.2.2),p0.2.2.1.2.2.2.2),(qv ((),(qc (p0.2.2.1.2.2.2.1,p0.2.2.2.1)).1.1,(qc (p0.2.2.1.2.2.2.1,p0.2.2.2.1)).1.2.1,(qc (p0.2.2.1.2.2.2.1,p0.2.2.2.1)).1.2.2.1) (p0.2.2.2.2.1,p0.2.2.2.2.2.2)).2.1,p0.2.2.2.2.2.1,(qv ((),(qc (p0.2.2.1.2.2.2.1,p0.2.2.2.1)).1.1,(qc (p0.2.2.1.2.2.2.1,p0.2.2.2.1)).1.2.1,(qc (p0.2.2.1.2.2.2.1,p0.2.2.2.1)).1.2.2.1) (p0.2.2.2.2.1,p0.2.2.2.2.2.2)).2.2)))
       (.ite (qbu (p0.2.2.1.2.2.2.1,p0.2.2.2.1))
       (.ite (qcd (p0.2.2.1.2.2.2.1,p0.2.2.2.1,0))
        (.ret (((0,(qbk y.1.2.2.2.1 x.2).2.1,(qc (p0.2.2.1.2.2.2.1,p0.2.2.2.1)).1.1,qbl (p0.2.2.1.2.2.2.1,p0.2.2.2.1),()),true,()),((p0.2.2.1.1,p0.2.2.1.2.1,(),(qA (p0.2.2.1.2.2.2.1,p0.2.2.2.1,0)).1,!(qA (p0.2.2.1.2.2.2.1,p0.2.2.2.1,0)).2.1,p0.2.2.1.2.2.2.2.2),(qv ((),(qc (p0.2.2.1.2.2.2.1,p0.2.2.2.1)).1.1,(qc (p0.2.2.1.2.2.2.1,p0.2.2.2.1)).1.2.1,(qc (p0.2.2.1.2.2.2.1,p0.2.2.2.1)).1.2.2.1) (p0.2.2.2.2.1,p0.2.2.2.2.2.2)).2.1,p0.2.2.2.2.2.1,(qv ((),(qc (p0.2.2.1.2.2.2.1,p0.2.2.2.1)).1.1,(qc (p0.2.2.1.2.2.2.1,p0.2.2.2.1)).1.2.1,(qc (p0.2.2.1.2.2.2.1,p0.2.2.2.1)).1.2.2.1) (p0.2.2.2.2.1,p0.2.2.2.2.2.2)).2.2)))
        .fail)
       .fail))
      .fail)
      (.ite (qbo ((),(qc (p0.2.2.1.2.2.2.1,p0.2.2.2.1)).1.1,(qc (p0.2.2.1.2.2.2.1,p0.2.2.2.1)).1.2.1) (p0.2.2.2.2.1,p0.2.2.2.2.2.2))
      (.ite ((ql ((),(qc (p0.2.2.1.2.2.2.1,p0.2.2.2.1)).1.1,(qc (p0.2.2.1.2.2.2.1,p0.2.2.2.1)).1.2.1) (p0.2.2.2.2.1,p0.2.2.2.2.2.2)).1.2.1 != 0)
       (.ret (((2,p0.2.2.1.2.2.2.1.2.1,(qc (p0.2.2.1.2.2.2.1,p0.2.2.2.1)).1.1,12,()),true,()),((p0.2.2.1.1,p0.2.2.1.2.1,(),(p0.2.2.1.2.2.2.1.1,p0.2.2.1.1.2.1,p0.2.2.1.2.2.2.1.2.2),p0.2.2.1.2.2.2.2),(ql ((),(qc (p0.2.2.1.2.2.2.1,p0.2.2.2.1)).1.1,(qc (p0.2.2.1.2.2.2.1,p0.2.2.2.1)).1.2.1) (p0.2.2.2.2.1,p0.2.2.2.2.2.2)).2.1,p0.2.2.2.2.2.1,(ql ((),(qc (p0.2.2.1.2.2.2.1,p0.2.2.2.1)).1.1,(qc (p0.2.2.1.2.2.2.1,p0.2.2.2.1)).1.2.1) (p0.2.2.2.2.1,p0.2.2.2.2.2.2)).2.2)))
       (.ite (qbu (p0.2.2.1.2.2.2.1,p0.2.2.2.1))
       (.ite (qcd (p0.2.2.1.2.2.2.1,p0.2.2.2.1,(ql ((),(qc (p0.2.2.1.2.2.2.1,p0.2.2.2.1)).1.1,(qc (p0.2.2.1.2.2.2.1,p0.2.2.2.1)).1.2.1) (p0.2.2.2.2.1,p0.2.2.2.2.2.2)).1.1))
        (.ret (((0,(qbk y.1.2.2.2.1 x.2).2.1,(qc (p0.2.2.1.2.2.2.1,p0.2.2.2.1)).1.1,qbl (p0.2.2.1.2.2.2.1,p0.2.2.2.1),()),true,()),((p0.2.2.1.1,p0.2.2.1.2.1,(),(qA (p0.2.2.1.2.2.2.1,p0.2.2.2.1,(ql ((),(qc (p0.2.2.1.2.2.2.1,p0.2.2.2.1)).1.1,(qc (p0.2.2.1.2.2.2.1,p0.2.2.2.1)).1.2.1) (p0.2.2.2.2.1,p0.2.2.2.2.2.2)).1.1)).1,!(qA (p0.2.2.1.2.2.2.1,p0.2.2.2.1,(ql ((),(qc (p0.2.2.1.2.2.2.1,p0.2.2.2.1)).1.1,(qc (p0.2.2.1.2.2.2.1,p0.2.2.2.1)).1.2.1) (p0.2.2.2.2.1,p0.2.2.2.2.2.2)).1.1)).2.1,p0.2.2.1.2.2.2.2.2),(ql ((),(qc (p0.2.2.1.2.2.2.1,p0.2.2.2.1)).1.1,(qc (p0.2.2.1.2.2.2.1,p0.2.2.2.1)).1.2.1) (p0.2.2.2.2.1,p0.2.2.2.2.2.2)).2.1,p0.2.2.2.2.2.1,(ql ((),(qc (p0.2.2.1.2.2.2.1,p0.2.2.2.1)).1.1,(qc (p0.2.2.1.2.2.2.1,p0.2.2.2.1)).1.2.1) (p0.2.2.2.2.1,p0.2.2.2.2.2.2)).2.2)))
        .fail)
       .fail))
      .fail))
     (.ite (qbu (p0.2.2.1.2.2.2.1,p0.2.2.2.1))
      (.ite (qcd (p0.2.2.1.2.2.2.1,p0.2.2.2.1,0))
      (.ret (((0,(qbk y.1.2.2.2.1 x.2).2.1,0,qbl (p0.2.2.1.2.2.2.1,p0.2.2.2.1),()),true,()),((p0.2.2.1.1,p0.2.2.1.2.1,(),(qA (p0.2.2.1.2.2.2.1,p0.2.2.2.1,0)).1,!(qA (p0.2.2.1.2.2.2.1,p0.2.2.2.1,0)).2.1,p0.2.2.1.2.2.2.2.2),p0.2.2.2.2.1,p0.2.2.2.2.2.1,p0.2.2.2.2.2.2)))
      .fail)
      .fail))
     .fail))
    (.ret (((2,p0.2.2.1.2.2.2.1.2.1,0,12,()),true,()),((p0.2.2.1.1,p0.2.2.1.2.1,(),(p0.2.2.1.2.2.2.1.1,p0.2.2.1.1.2.1,p0.2.2.1.2.2.2.1.2.2),p0.2.2.1.2.2.2.2),p0.2.2.2.2.1,p0.2.2.2.2.2.1,p0.2.2.2.2.2.2)))))
   .fail)))
def qbh (_:shDens qcg) (y:shDens qco):Bool:=decide (MachWf y)
def qi (x:shDens qcg) (y:shDens qco):Sh.den qdr×shDens qez :=
 bif y.1.2.2.2.2.1 then(((0,0,0,0,()),false,()),y)
 else packX y.1.1 y.1.2.1 y.1.2.2.2.2.2.1 (cacheX y.1.2.1 y.1.2.2.2.1.2.1 y.2.2.1) (stepMX y.1.1 y.1.2.1 y.1.2.2.2.1 (y.2.1,y.2.2.2) x.2)
theorem check_reg (k p r b:Int) (h:qr (k,p,r,b,())=0):(!(k==(2:Int))||inRange r 15)=true:=by
 cases h2:(k==(2:Int))
 ·rfl
 ·simp only[beq_iff_eq] at h2
  subst h2
  have hx:(decide (p≥0)&&(decide (r≥0)&&(decide (r≤14)&&(decide (b≥0)&&decide (b<32)))))=true:=by
   cases hx:(decide (p≥0)&&(decide (r≥0)&&(decide (r≤14)&&(decide (b≥0)&&decide (b<32)))))
   ·exfalso
    have:qr (2,p,r,b,())=2:=by
     unfold qr PO.getO
     rw[show(qc8 (2,p,r,b,())).val=some 2 from val_yes (by
      show(!(decide (p≥0)&&(decide (r≥0)&&(decide (r≤14)&&(decide (b≥0)&&decide (b<32))))))=true
      rw[hx];rfl)]
     rfl
    rw[this] at h
    cases h
   ·rfl
  simp only[Bool.and_eq_true,decide_eq_true_eq] at hx
  have h1:inRange r 15=true:=by
   simp only[inRange,Bool.and_eq_true,decide_eq_true_eq]
   omega
  rw[h1]
  rfl
set_option maxRecDepth 10000 in
theorem qkk (x:shDens qcg) (y:shDens qco) (h:qbh x y=true):(qe5 x y).val=some (qi x y):=by
 have hw:MachWf y:=of_decide_eq_true h
 obtain⟨_,k,p,r,b,_⟩:=x
 obtain⟨⟨hd,fl,u,st,dn,win,u'⟩,M,c,B⟩:=y
 obtain⟨hmem,hregs,hpc,hhand,hlen,hwin,hcache⟩:=hw
 simp only at hmem hregs hpc hhand hlen hwin hcache
 subst hwin
 unfold qe5 qi
 cases dn
 case true=>exact(val_yes rfl).trans rfl
 case false =>
 refine(val_no rfl).trans ?_
 have hp:∀f,0≤(show Int from(qbk st f).2.1)∧(show Int from(qbk st f).2.1)<4294967296:=fun f=>by rw[hitS_pc];exact hpc
 have go:=fun f=>fetch_res fl c hd (qbk st f) false (0,0,0,0,0,0,0,false,()) 0 M B (hp f) hcache
 have act:=fun f i=>act_ok hd fl (0,fl.length / 2+1) (qbk st f) i M (cacheX fl (qbk st f).2.1 c) B (hitS_len st f hregs) hmem
 have e0:∀f,cacheX fl st.2.1 c=cacheX fl (qbk st f).2.1 c:=fun f=>by rw[hitS_pc]
 show _=some (packX hd fl (0,fl.length / 2+1) (cacheX fl st.2.1 c) (stepMX hd fl st (M,B) (k,p,r,b,())))
 unfold stepMX faultX
 cases hck:(qr (k,p,r,b,()) != (0:Int))
 ·refine(val_no rfl).trans ((val_yes (check_reg k p r b (by simpa using hck))).trans ((val_opt (go _)).trans ?_))
  simp only[cond_false]
  rw[e0 (k,p,r,b,())]
  unfold turnX
  have ha:=act (k,p,r,b,())
  cases fetchX fl (qbk st (k,p,r,b,())).2.1 with
  |none=>exact(val_no rfl).trans rfl
  |some q =>
   refine(val_yes rfl).trans ?_
   simp only
   cases hs:(k==(1:Int))
   ·exact(val_no rfl).trans (ha q.1)
   ·exact(val_yes rfl).trans rfl
 ·refine(val_yes rfl).trans ((val_yes rfl).trans ((val_opt (go _)).trans ?_))
  simp only[cond_true]
  rw[e0 (0,0,0,0,())]
  unfold turnX
  have ha:=act (0,0,0,0,())
  cases fetchX fl (qbk st (0,0,0,0,())).2.1 with
  |none=>exact(val_no rfl).trans rfl
  |some q=>exact(val_yes rfl).trans (ha q.1)
end Go.Av
end
section
namespace Go.Av
open Go
theorem entX_at {fl:List UInt8} {c:List tFetched.den} (h:cacheOk fl c) (pc:Int):cacheOk fl (cacheX fl pc c):=by
 unfold cacheX
 cases (band .i64 pc 1 != 0||decide (pc≥lenI fl))
 ·cases (List.getD c (pc / 2).toNat dfF).2.2.1
  ·refine⟨by simp only[cond_false,List.length_set];exact h.1,fun k hk hn=>?_⟩
   simp only[cond_false,List.length_set] at hk hn ⊢
   rw[List.getD_eq_getElem?_getD,List.getElem?_set] at hn ⊢
   split at hn
   ·rename_i e
    subst e
    rw[if_pos rfl]
    split
    ·rfl
    ·omega
   ·rename_i e
    rw[if_neg e]
    have:=h.2 k hk
    rw[List.getD_eq_getElem?_getD] at this
    exact this hn
  ·exact h
 ·exact h
theorem wn_word (n:Int):0≤((wn n:Nat):Int)∧((wn n:Nat):Int)<4294967296:=⟨by omega,by have:=wn_lt n;omega⟩
theorem step_pcw (st:tState.den) (i:tIns.den) (ld:Int):∃m:Int,(show Int from(qA (st,i,ld)).1.2.1)=((wn m:Nat):Int):=by
 obtain⟨op,rd,rn,rm,ra,imm,cond,w,u⟩:=i
 show ∃m:Int,(show Int from(stepV _ st op rd rn rm ra imm cond w ld).1.2.1)=((wn m:Nat):Int)
 unfold stepV
 cases (qd (op,rd,rn,rm,ra,imm,cond,w,u) != 0||op==2)
 ·exact⟨_,rfl⟩
 ·exact⟨_,rfl⟩
theorem step_pc (st:tState.den) (i:tIns.den) (ld:Int):0≤(show Int from(qA (st,i,ld)).1.2.1)∧(show Int from(qA (st,i,ld)).1.2.1)<4294967296:=by
 obtain⟨m,hm⟩:=step_pcw st i ld
 rw[hm]
 exact wn_word m
theorem actX_wf (hd:tHead.den) (st:tState.den) (i:tIns.den) (mem:MemT) (hm:MemWf mem) (hr:List.length st.1=15) (hh:0≤(show Int from hd.2.1)∧(show Int from hd.2.1)<4294967296) :
  List.length (actX hd st i mem).2.1.1=15∧(0≤(show Int from(actX hd st i mem).2.1.2.1)∧(show Int from(actX hd st i mem).2.1.2.1)<4294967296)∧MemWf (actX hd st i mem).2.2.2∧(actX hd st i mem).2.2.2.1=mem.1∧0≤(show Int from(actX hd st i mem).1.2.2.2.1)∧(show Int from(actX hd st i mem).1.2.2.2.1)≤12:=by
 have hcy:0≤(show Int from qbl (st,i))∧(show Int from qbl (st,i))≤12:=by
  obtain⟨op,rd,rn,rm,ra,imm,cond,w,u⟩:=i
  show 0≤cyclesV _ st op cond∧cyclesV _ st op cond≤12
  unfold cyclesV
  cases (qd (op,rd,rn,rm,ra,imm,cond,w,u) != 0)
  ·cases (op==19||(op==20||(op==21||op==22)))
   ·cases (op==17)
    ·cases goesV st op cond<;>simp
    ·simp
   ·simp
  ·simp
 have fin:∀m ld ad,MemWf m→m.1=mem.1→List.length (finX st i m ld ad).2.1.1=15∧(0≤(show Int from(finX st i m ld ad).2.1.2.1)∧(show Int from(finX st i m ld ad).2.1.2.1)<4294967296)∧MemWf (finX st i m ld ad).2.2.2∧(finX st i m ld ad).2.2.2.1=mem.1∧0≤(show Int from(finX st i m ld ad).1.2.2.2.1)∧(show Int from(finX st i m ld ad).1.2.2.2.1)≤12 :=
  fun m ld ad h1 h2=>⟨step_len st i ld hr,step_pc st i ld,h1,h2,hcy.1,hcy.2⟩
 have trap:∀m ad,MemWf m→m.1=mem.1→List.length (trapX hd st m ad).2.1.1=15∧(0≤(show Int from(trapX hd st m ad).2.1.2.1)∧(show Int from(trapX hd st m ad).2.1.2.1)<4294967296)∧MemWf (trapX hd st m ad).2.2.2∧(trapX hd st m ad).2.2.2.1=mem.1∧0≤(show Int from(trapX hd st m ad).1.2.2.2.1)∧(show Int from(trapX hd st m ad).1.2.2.2.1)≤12 :=
  fun m ad h1 h2=>⟨hr,hh,h1,h2,by show(0:Int)≤12;decide,by show(12:Int)≤12;decide⟩
 unfold actX
 cases (qc (st,i)).2.1
 ·exact fin _ _ _ hm rfl
 ·cases (qc (st,i)).1.2.2.2.1
  ·cases ((loadM mem (qc (st,i)).1.1 (qc (st,i)).1.2.1).2.1 != (0:Int))
   ·exact fin _ _ _ hm rfl
   ·exact trap _ _ hm rfl
  ·have hs:=store_wf hm (qc (st,i)).1.1 (qc (st,i)).1.2.1 (qc (st,i)).1.2.2.1
   cases ((storeM mem (qc (st,i)).1.1 (qc (st,i)).1.2.1 (qc (st,i)).1.2.2.1).1 != (0:Int))
   ·exact fin _ _ _ hs.1 hs.2
   ·exact trap _ _ hs.1 hs.2
theorem stepMX_wf (hd:tHead.den) (fl:List UInt8) (st:tState.den) (mem:MemT) (f:tFault.den) (hm:MemWf mem) (hr:List.length st.1=15) (hh:0≤(show Int from hd.2.1)∧(show Int from hd.2.1)<4294967296) :
  List.length (stepMX hd fl st mem f).2.1.1=15∧(0≤(show Int from(stepMX hd fl st mem f).2.1.2.1)∧(show Int from(stepMX hd fl st mem f).2.1.2.1)<4294967296)∧MemWf (stepMX hd fl st mem f).2.2.2∧(stepMX hd fl st mem f).2.2.2.1=mem.1∧0≤(show Int from(stepMX hd fl st mem f).1.2.2.2.1)∧(show Int from(stepMX hd fl st mem f).1.2.2.2.1)≤12:=by
 unfold stepMX turnX
 have hl:=hitS_len st (faultX f) hr
 cases fetchX fl (qbk st (faultX f)).2.1 with
 |none=>exact⟨hl,hh,hm,rfl,by show(0:Int)≤12;decide,by show(12:Int)≤12;decide⟩
 |some p =>
  simp only
  cases ((faultX f).1==(1:Int))
  ·exact actX_wf hd _ p.1 mem hm hl hh
  ·exact⟨hl,wn_word _,hm,rfl,by show(0:Int)≤1;decide,by show(1:Int)≤12;decide⟩
theorem step_MachWf {y:MS} (h:MachWf y) (f:tFault.den):MachWf (packX y.1.1 y.1.2.1 y.1.2.2.2.2.2.1 (cacheX y.1.2.1 y.1.2.2.2.1.2.1 y.2.2.1) (stepMX y.1.1 y.1.2.1 y.1.2.2.2.1 (y.2.1,y.2.2.2) f)).2:=by
 obtain⟨h1,h2,h3,h4,_⟩:=stepMX_wf y.1.1 y.1.2.1 y.1.2.2.2.1 (y.2.1,y.2.2.2) f h.mem h.regs h.hand
 exact⟨h3,h1,h2,h.hand,h.len,h.win,entX_at h.cache _⟩
abbrev RunS:Type:=tState.den×Bool×MemT
abbrev noFault:tFault.den:=(0,0,0,0,())
def nowX (f:tFault.den) (k:Int):tFault.den:=bif f.2.1==k then f else noFault
def goX (hd:tHead.den) (fl:List UInt8) (f:tFault.den):Nat→Int→RunS→List tEvent.den×Int×RunS
 |0,_,s=>([],0,s)
 |n+1,k,s=>bif s.2.1 then([],0,s) else
   ((stepMX hd fl s.1 s.2.2 (nowX f k)).1::(goX hd fl f n (k+1) (stepMX hd fl s.1 s.2.2 (nowX f k)).2).1,
    (bif s.1.2.1==hd.2.1 then 1 else 0)+(goX hd fl f n (k+1) (stepMX hd fl s.1 s.2.2 (nowX f k)).2).2.1,
    (goX hd fl f n (k+1) (stepMX hd fl s.1 s.2.2 (nowX f k)).2).2.2)
def cgoX (hd:tHead.den) (fl:List UInt8) (f:tFault.den):Nat→Int→RunS→List tFetched.den→List tFetched.den
 |0,_,_,c=>c
 |n+1,k,s,c=>bif s.2.1 then c else cgoX hd fl f n (k+1) (stepMX hd fl s.1 s.2.2 (nowX f k)).2 (cacheX fl s.1.2.1 c)
def cycX:List tEvent.den→Int
 |[]=>0
 |v::l=>v.2.2.2.1+cycX l
def runSof (y:MS):RunS:=(y.1.2.2.2.1,y.1.2.2.2.2.1,(y.2.1,y.2.2.2))
abbrev withRun (y:MS) (s:RunS) (c:List tFetched.den):MS:=((y.1.1,y.1.2.1,(),s.1,s.2.1,y.1.2.2.2.2.2.1,()),s.2.2.1,c,s.2.2.2)
def qgx:LoopN where
 M:=[0,2,3,5,8,9]
 T:=[10,11,12,13,14,15,16,17,18,19,20,21,22,23,24,25,26,27,28,29,30,31,32,33,34,35,36,37,38,39,40,41,42,43,44,45,46,47,48,49,50,51,52,53,54,55,56,57,58,59,60,61,62,63,64]
 D:=[2,3,5]
 ss:=[.box 0 0,.ty (.int .i64),.fn 49 (.ty .unit),.box 1 0,.box 2 0,.box 3 0]
 hs:=[(shMachB 4 5),(.ty tFault),(.ty tResult),(.ty tResult),(shMemB 6),.rowc tFetched,.rowc (.int .u8)]
 es:=[.exit 0]
 σ:=(Sh.den ((shMachB 4 5)))×(Sh.den ((.ty tFault)))×(Sh.den ((.ty tResult)))×(Sh.den ((.ty tResult)))×(Sh.den ((shMemB 6)))×(Sh.den (.rowc tFetched))×(Sh.den (.rowc (.int .u8)))
 x0:=fun _ y=>(y.1,y.2.1,y.2.2.1,y.2.2.2.1,y.2.2.2.2.1,y.2.2.2.2.2.1,y.2.2.2.2.2.2)
 put:=fun x _ s=>((x.1,x.2.1,x.2.2.1,x.2.2.2.1,x.2.2.2.2.1,x.2.2.2.2.2),(s.1,s.2.1,s.2.2.1,s.2.2.2.1,s.2.2.2.2.1,s.2.2.2.2.2.1,s.2.2.2.2.2.2))
 fuel:=fun x _=>Int.toNat x.2.1+1
 turn:=fun x _ s =>
 (.ite (!s.1.2.2.2.2.1&&decide (s.2.2.2.1.2.1<x.2.1))
  (.ite (s.1.2.2.2.1.2.1==s.1.1.2.1)
  (.ite (s.2.1.2.1==s.2.2.2.1.2.1)
   (.ite (qbh ((),s.2.1) ((s.1.1,s.1.2.1,(),s.1.2.2.2),s.2.2.2.2))
   (.ret (.on (((qi ((),s.2.1) ((s.1.1,s.1.2.1,(),s.1.2.2.2),s.2.2.2.2)).2.1.1,(qi ((),s.2.1) ((s.1.1,s.1.2.1,(),s.1.2.2.2),s.2.2.2.2)).2.1.2.1,(),(qi ((),s.2.1) ((s.1.1,s.1.2.1,(),s.1.2.2.2),s.2.2.2.2)).2.1.2.2.2),s.2.1,s.2.2.1,(s.2.2.2.1.1,w64 (s.2.2.2.1.2.1+1),w64 (s.2.2.2.1.2.2.1+(qi ((),s.2.1) ((s.1.1,s.1.2.1,(),s.1.2.2.2),s.2.2.2.2)).1.1.2.2.2.1),w64 (s.2.2.2.1.2.2.2.1+1),s.2.2.2.1.2.2.2.2),(qi ((),s.2.1) ((s.1.1,s.1.2.1,(),s.1.2.2.2),s.2.2.2.2)).2.2.1,(qi ((),s.2.1) ((s.1.1,s.1.2.1,(),s.1.2.2.2),s.2.2.2.2)).2.2.2.1,(qi ((),s.2.1) ((s.1.1,s.1.2.1,(),s.1.2.2.2),s.2.2.2.2)).2.2.2.2)))
   .fail)
   (.ite (qbh ((),0,0,0,0,()) ((s.1.1,s.1.2.1,(),s.1.2.2.2),s.2.2.2.2))
   (.ret (.on (((qi ((),0,0,0,0,()) ((s.1.1,s.1.2.1,(),s.1.2.2.2),s.2.2.2.2)).2.1.1,(qi ((),0,0,0,0,()) ((s.1.1,s.1.2.1,(),s.1.2.2.2),s.2.2.2.2)).2.1.2.1,(),(qi ((),0,0,0,0,()) ((s.1.1,s.1.2.1,(),s.1.2.2.2),s.2.2.2.2)).2.1.2.2.2),s.2.1,s.2.2.1,(s.2.2.2.1.1,w64 (s.2.2.2.1.2.1+1),w64 (s.2.2.2.1.2.2.1+(qi ((),0,0,0,0,()) ((s.1.1,s.1.2.1,(),s.1.2.2.2),s.2.2.2.2)).1.1.2.2.2.1),w64 (s.2.2.2.1.2.2.2.1+1),s.2.2.2.1.2.2.2.2),(qi ((),0,0,0,0,()) ((s.1.1,s.1.2.1,(),s.1.2.2.2),s.2.2.2.2)).2.2.1,(qi ((),0,0,0,0,()) ((s.1.1,s.1.2.1,(),s.1.2.2.2),s.2.2.2.2)).2.2.2.1,(qi ((),0,0,0,0,()) ((s.1.1,s.1.2.1,(),s.1.2.2.2),s.2.2.2.2)).2.2.2.2)))
   .fail))
  (.ite (s.2.1.2.1==s.2.2.2.1.2.1)
   (.ite (qbh ((),s.2.1) ((s.1.1,s.1.2.1,(),s.1.2.2.2),s.2.2.2.2))
   (.ret (.on (((qi ((),s.2.1) ((s.1.1,s.1.2.1,(),s.1.2.2.2),s.2.2.2.2)).2.1.1,(qi ((),s.2.1) ((s.1.1,s.1.2.1,(),s.1.2.2.2),s.2.2.2.2)).2.1.2.1,(),(qi ((),s.2.1) ((s.1.1,s.1.2.1,(),s.1.2.2.2),s.2.2.2.2)).2.1.2.2.2),s.2.1,s.2.2.1,(s.2.2.2.1.1,w64 (s.2.2.2.1.2.1+1),w64 (s.2.2.2.1.2.2.1+(qi ((),s.2.1) ((s.1.1,s.1.2.1,(),s.1.2.2.2),s.2.2.2.2)).1.1.2.2.2.1),s.2.2.2.1.2.2.2),(qi ((),s.2.1) ((s.1.1,s.1.2.1,(),s.1.2.2.2),s.2.2.2.2)).2.2.1,(qi ((),s.2.1) ((s.1.1,s.1.2.1,(),s.1.2.2.2),s.2.2.2.2)).2.2.2.1,(qi ((),s.2.1) ((s.1.1,s.1.2.1,(),s.1.2.2.2),s.2.2.2.2)).2.2.2.2)))
   .fail)
   (.ite (qbh ((),0,0,0,0,()) ((s.1.1,s.1.2.1,(),s.1.2.2.2),s.2.2.2.2))
   (.ret (.on (((qi ((),0,0,0,0,()) ((s.1.1,s.1.2.1,(),s.1.2.2.2),s.2.2.2.2)).2.1.1,(qi ((),0,0,0,0,()) ((s.1.1,s.1.2.1,(),s.1.2.2.2),s.2.2.2.2)).2.1.2.1,(),(qi ((),0,0,0,0,()) ((s.1.1,s.1.2.1,(),s.1.2.2.2),s.2.2.2.2)).2.1.2.2.2),s.2.1,s.2.2.1,(s.2.2.2.1.1,w64 (s.2.2.2.1.2.1+1),w64 (s.2.2.2.1.2.2.1+(qi ((),0,0,0,0,()) ((s.1.1,s.1.2.1,(),s.1.2.2.2),s.2.2.2.2)).1.1.2.2.2.1),s.2.2.2.1.2.2.2),(qi ((),0,0,0,0,()) ((s.1.1,s.1.2.1,(),s.1.2.2.2),s.2.2.2.2)).2.2.1,(qi ((),0,0,0,0,()) ((s.1.1,s.1.2.1,(),s.1.2.2.2),s.2.2.2.2)).2.2.2.1,(qi ((),0,0,0,0,()) ((s.1.1,s.1.2.1,(),s.1.2.2.2),s.2.2.2.2)).2.2.2.2)))
   .fail)))
  (.ret (.out 0 (s.1,s.2.1,s.2.2.1,s.2.2.2.1,s.2.2.2.2.1,s.2.2.2.2.2.1,s.2.2.2.2.2.2))))
theorem end_eq {α β γ δ ε:Type} {A:α} {f:β} {r0:ε} {hal:Bool} {rst:γ} {B:δ} {X1 Y1 X2 Y2 X3 Y3:Int} (h1:X1=Y1) (h2:X2=Y2) (h3:X3=Y3):some ((0:Nat),A,f,r0,(hal,X1,X2,X3,rst),B)=some ((0:Nat),A,f,r0,(hal,Y1,Y2,Y3,rst),B):=by
 subst h1 h2 h3
 rfl
theorem stepsR_from (f:tFault.den) (budget:Int) (hbud:budget≤67108864) (r0:tResult.den) (rst:Int×Int×List UInt8×List UInt8×List UInt8×Unit) (hal:Bool) (x:shDens qgx.ss) (hx:x.2.1=budget) (y0:shDens qgx.hs) :
  ∀(n k:Nat) (cyc hnd:Int) (y:MS),(k:Int)+n=budget→MachWf y→0≤cyc→cyc≤12*k→0≤hnd→hnd≤k →
   runL (qgx.turn x y0) (n+1) (y.1,f,r0,(hal,(k:Int),cyc,hnd,rst),y.2.1,y.2.2.1,y.2.2.2) =
    some (0,((withRun y (goX y.1.1 y.1.2.1 f n k (runSof y)).2.2 (cgoX y.1.1 y.1.2.1 f n k (runSof y) y.2.2.1)).1,f,r0,
     (hal,(k:Int)+((goX y.1.1 y.1.2.1 f n k (runSof y)).1.length:Int),cyc+cycX (goX y.1.1 y.1.2.1 f n k (runSof y)).1,hnd+(goX y.1.1 y.1.2.1 f n k (runSof y)).2.1,rst),
     (withRun y (goX y.1.1 y.1.2.1 f n k (runSof y)).2.2 (cgoX y.1.1 y.1.2.1 f n k (runSof y) y.2.2.1)).2)):=by
 intro n
 induction n with
 |zero =>
  intro k cyc hnd y hk hw _ _ _ _
  refine(runL_out ((val_no ?_).trans rfl)).trans ?_
  ·show(!y.1.2.2.2.2.1&&decide ((k:Int)<x.2.1))=false
   rw[hx,dec_false (show ¬(k:Int)<budget by omega),Bool.and_false]
  ·simp[goX,cgoX,cycX,runSof]
   rfl
 |succ n ih =>
  intro k cyc hnd y hk hw hc0 hc1 hh0 hh1
  cases hd:y.1.2.2.2.2.1 with
  |true =>
   refine(runL_out ((val_no ?_).trans rfl)).trans ?_
   ·show(!y.1.2.2.2.2.1&&decide ((k:Int)<x.2.1))=false
    rw[hd];rfl
   ·have hg:goX y.1.1 y.1.2.1 f (n+1) k (runSof y)=([],0,runSof y):=by
     unfold goX
     rw[show(runSof y).2.1=true from hd]
     rfl
    have hcg:cgoX y.1.1 y.1.2.1 f (n+1) k (runSof y) y.2.2.1=y.2.2.1:=by
     unfold cgoX
     rw[show(runSof y).2.1=true from hd]
     rfl
    rw[hg,hcg]
    simp[cycX,runSof]
    rfl
  |false =>
   have hlt:(!y.1.2.2.2.2.1&&decide ((k:Int)<x.2.1))=true:=by
    rw[hx,hd,dec_true (show(k:Int)<budget by omega)];rfl
   have hG:∀g,qbh ((),g) ((y.1.1,y.1.2.1,(),y.1.2.2.2),y.2)=true:=fun g=>decide_eq_true hw
   have hV:∀g,qi ((),g) ((y.1.1,y.1.2.1,(),y.1.2.2.2),y.2)=packX y.1.1 y.1.2.1 y.1.2.2.2.2.2.1 (cacheX y.1.2.1 y.1.2.2.2.1.2.1 y.2.2.1) (stepMX y.1.1 y.1.2.1 y.1.2.2.2.1 (y.2.1,y.2.2.2) g):=fun g=>by
    unfold qi
    rw[show(((y.1.1,y.1.2.1,(),y.1.2.2.2),y.2):MS).1.2.2.2.2.1=false from hd]
    rfl
   obtain⟨s1,s2,s3,s4,s5,s6⟩:=stepMX_wf y.1.1 y.1.2.1 y.1.2.2.2.1 (y.2.1,y.2.2.2) (nowX f k) hw.mem hw.regs hw.hand
   have hw':=step_MachWf hw (nowX f k)
   have hgo:goX y.1.1 y.1.2.1 f (n+1) k (runSof y)=((stepMX y.1.1 y.1.2.1 y.1.2.2.2.1 (y.2.1,y.2.2.2) (nowX f k)).1::(goX y.1.1 y.1.2.1 f n (k+1) (stepMX y.1.1 y.1.2.1 y.1.2.2.2.1 (y.2.1,y.2.2.2) (nowX f k)).2).1,
     (bif y.1.2.2.2.1.2.1==y.1.1.2.1 then 1 else 0)+(goX y.1.1 y.1.2.1 f n (k+1) (stepMX y.1.1 y.1.2.1 y.1.2.2.2.1 (y.2.1,y.2.2.2) (nowX f k)).2).2.1,
     (goX y.1.1 y.1.2.1 f n (k+1) (stepMX y.1.1 y.1.2.1 y.1.2.2.2.1 (y.2.1,y.2.2.2) (nowX f k)).2).2.2):=by
    rw[goX]
    rw[show(runSof y).2.1=false from hd]
    rfl
   have hcg:cgoX y.1.1 y.1.2.1 f (n+1) k (runSof y) y.2.2.1=cgoX y.1.1 y.1.2.1 f n (k+1) (stepMX y.1.1 y.1.2.1 y.1.2.2.2.1 (y.2.1,y.2.2.2) (nowX f k)).2 (cacheX y.1.2.1 y.1.2.2.2.1.2.1 y.2.2.1):=by
    rw[cgoX]
    rw[show(runSof y).2.1=false from hd]
    rfl
   rw[hgo,hcg]
   have w1:w64 ((k:Int)+1)=((k+1:Nat):Int):=by rw[w64_id (by omega) (by omega)];omega
   generalize hE:stepMX y.1.1 y.1.2.1 y.1.2.2.2.1 (y.2.1,y.2.2.2) (nowX f k)=E at *
   have b0:(0:Int)≤E.1.2.2.2.1:=s5
   have b1:(12:Int)≥E.1.2.2.2.1:=s6
   have b2:(k:Int)≤67108864:=by omega
   have b3:cyc≤805306368:=by omega
   have w2:w64 (cyc+E.1.2.2.2.1)=cyc+E.1.2.2.2.1:=w64_id (by omega) (by omega)
   have w3:w64 (hnd+1)=hnd+1:=w64_id (by omega) (by omega)
   obtain⟨G1,hG1⟩:∃G1,G1=goX y.1.1 y.1.2.1 f n ((k:Int)+1) E.2:=⟨_,rfl⟩
   obtain⟨C1,hC1⟩:∃C1,C1=cgoX y.1.1 y.1.2.1 f n ((k:Int)+1) E.2 (cacheX y.1.2.1 y.1.2.2.2.1.2.1 y.2.2.1):=⟨_,rfl⟩
   rw[←hG1,←hC1]
   have fin:∀(b:Int),(b=0∨b=1)→runL (qgx.turn x y0) (n+1) ((packX y.1.1 y.1.2.1 y.1.2.2.2.2.2.1 (cacheX y.1.2.1 y.1.2.2.2.1.2.1 y.2.2.1) E).2.1,f,r0,(hal,((k+1:Nat):Int),cyc+E.1.2.2.2.1,hnd+b,rst),(packX y.1.1 y.1.2.1 y.1.2.2.2.2.2.1 (cacheX y.1.2.1 y.1.2.2.2.1.2.1 y.2.2.1) E).2.2)=some (0,(withRun y G1.2.2 C1).1,f,r0,(hal,((k+1:Nat):Int)+((G1.1.length:Nat):Int),cyc+E.1.2.2.2.1+cycX G1.1,hnd+b+G1.2.1,rst),(withRun y G1.2.2 C1).2):=fun b hb=>by
    have:=ih (k+1) (cyc+E.1.2.2.2.1) (hnd+b) (packX y.1.1 y.1.2.1 y.1.2.2.2.2.2.1 (cacheX y.1.2.1 y.1.2.2.2.1.2.1 y.2.2.1) E).2 (by omega) hw' (by omega) (by omega) (by omega) (by omega)
    rw[hG1,hC1]
    exact this
   have hnow:nowX f k=(bif f.2.1==(k:Int) then f else noFault):=rfl
   cases hb1:(y.1.2.2.2.1.2.1==y.1.1.2.1) with
   |true =>
    cases hb2:(f.2.1==(k:Int)) with
    |true =>
     rw[hb2] at hnow
     simp only[cond_true] at hnow
     rw[hnow] at hE
     refine(runL_on (s':=((packX y.1.1 y.1.2.1 y.1.2.2.2.2.2.1 (cacheX y.1.2.1 y.1.2.2.2.1.2.1 y.2.2.1) E).2.1,f,r0,(hal,((k+1:Nat):Int),cyc+E.1.2.2.2.1,hnd+1,rst),(packX y.1.1 y.1.2.1 y.1.2.2.2.2.2.1 (cacheX y.1.2.1 y.1.2.2.2.1.2.1 y.2.2.1) E).2.2)) ((val_yes hlt).trans ((val_yes hb1).trans ((val_yes hb2).trans ((val_yes (hG _)).trans (by rw[hV,hE,w1,w2,w3];rfl)))))).trans ?_
     refine(fin 1 (.inr rfl)).trans ?_
     exact end_eq (by simp only[List.length_cons];omega) (Int.add_assoc _ _ _) (Int.add_assoc _ _ _)
    |false =>
     rw[hb2] at hnow
     simp only[cond_false] at hnow
     rw[hnow] at hE
     refine(runL_on (s':=((packX y.1.1 y.1.2.1 y.1.2.2.2.2.2.1 (cacheX y.1.2.1 y.1.2.2.2.1.2.1 y.2.2.1) E).2.1,f,r0,(hal,((k+1:Nat):Int),cyc+E.1.2.2.2.1,hnd+1,rst),(packX y.1.1 y.1.2.1 y.1.2.2.2.2.2.1 (cacheX y.1.2.1 y.1.2.2.2.1.2.1 y.2.2.1) E).2.2)) ((val_yes hlt).trans ((val_yes hb1).trans ((val_no hb2).trans ((val_yes (hG _)).trans (by rw[hV,hE,w1,w2,w3];rfl)))))).trans ?_
     refine(fin 1 (.inr rfl)).trans ?_
     exact end_eq (by simp only[List.length_cons];omega) (Int.add_assoc _ _ _) (Int.add_assoc _ _ _)
   |false =>
    cases hb2:(f.2.1==(k:Int)) with
    |true =>
     rw[hb2] at hnow
     simp only[cond_true] at hnow
     rw[hnow] at hE
     refine(runL_on (s':=((packX y.1.1 y.1.2.1 y.1.2.2.2.2.2.1 (cacheX y.1.2.1 y.1.2.2.2.1.2.1 y.2.2.1) E).2.1,f,r0,(hal,((k+1:Nat):Int),cyc+E.1.2.2.2.1,hnd+0,rst),(packX y.1.1 y.1.2.1 y.1.2.2.2.2.2.1 (cacheX y.1.2.1 y.1.2.2.2.1.2.1 y.2.2.1) E).2.2)) ((val_yes hlt).trans ((val_no hb1).trans ((val_yes hb2).trans ((val_yes (hG _)).trans (by rw[hV,hE,w1,w2];simp only[Int.add_zero];rfl)))))).trans ?_
     refine(fin 0 (.inl rfl)).trans ?_
     exact end_eq (by simp only[List.length_cons];omega) (Int.add_assoc _ _ _) (Int.add_assoc _ _ _)
    |false =>
     rw[hb2] at hnow
     simp only[cond_false] at hnow
     rw[hnow] at hE
     refine(runL_on (s':=((packX y.1.1 y.1.2.1 y.1.2.2.2.2.2.1 (cacheX y.1.2.1 y.1.2.2.2.1.2.1 y.2.2.1) E).2.1,f,r0,(hal,((k+1:Nat):Int),cyc+E.1.2.2.2.1,hnd+0,rst),(packX y.1.1 y.1.2.1 y.1.2.2.2.2.2.1 (cacheX y.1.2.1 y.1.2.2.2.1.2.1 y.2.2.1) E).2.2)) ((val_yes hlt).trans ((val_no hb1).trans ((val_no hb2).trans ((val_yes (hG _)).trans (by rw[hV,hE,w1,w2];simp only[Int.add_zero];rfl)))))).trans ?_
     refine(fin 0 (.inl rfl)).trans ?_
     exact end_eq (by simp only[List.length_cons];omega) (Int.add_assoc _ _ _) (Int.add_assoc _ _ _)
abbrev qb2:List Sh:=[.box 0 0,.ty tFault,.ty (.int .i64),.fn 49 (.ty .unit)]
abbrev qb3:List Sh:=[shMach,shMemB 3,.rowc tFetched,.rowc (.int .u8)]
abbrev qdj:Sh:=Sh.ty tResult
abbrev qen:List Sh:=[Sh.pair (Sh.ty (Ty.pair (Ty.int IntKind.i64) (Ty.pair (Ty.int IntKind.i64) (Ty.pair tSizes (Ty.pair (Ty.int IntKind.i64) Ty.unit))))) (Sh.pair (Sh.ty Ty.str) (Sh.pair (Sh.box 1 0) (Sh.pair (Sh.ty tState) (Sh.pair (Sh.ty Ty.bool) (Sh.pair (Sh.win 2 (Ty.pair tIns (Ty.pair (Ty.int IntKind.i64) (Ty.pair Ty.bool (Ty.pair Ty.bool Ty.unit))))) (Sh.ty Ty.unit)))))),Sh.pair (Sh.ty (Ty.sl tSpot)) (Sh.pair (Sh.wsl none 3 (Ty.int IntKind.u8)) (Sh.ty Ty.unit)),Sh.rowc (Ty.pair tIns (Ty.pair (Ty.int IntKind.i64) (Ty.pair Ty.bool (Ty.pair Ty.bool Ty.unit)))),Sh.rowc (Ty.int IntKind.u8)]
def qeu (x:shDens qb2) (y:shDens qb3):PO (Sh.den qdj×shDens qen) :=
 (.opt (LoopN.res qgx ((),x.2.2.1,x.2.2.2,(),(),()) ((y.1.1,y.1.2.1,(),y.1.2.2.2),x.2.1,(false,0,0,0,0,0,[],[],[],()),(false,0,0,0,0,0,[],[],[],()),y.2)) fun p0 =>
  (.ret ((p0.2.1.2.2.2.2.1,p0.2.2.2.2.1.2),((p0.2.1.1,p0.2.1.2.1,(),p0.2.1.2.2.2),p0.2.2.2.2.2.1,p0.2.2.2.2.2.2.1,p0.2.2.2.2.2.2.2))))
def qdh (x:shDens qb2) (y:shDens qb3):Bool:=decide (MachWf y∧(show Int from x.2.2.1)≤67108864)
def qdx (x:tFault.den×Int) (y:MS):tResult.den:=((goX y.1.1 y.1.2.1 x.1 x.2.toNat 0 (runSof y)).2.2.2.1,((goX y.1.1 y.1.2.1 x.1 x.2.toNat 0 (runSof y)).1.length:Int),cycX (goX y.1.1 y.1.2.1 x.1 x.2.toNat 0 (runSof y)).1,(goX y.1.1 y.1.2.1 x.1 x.2.toNat 0 (runSof y)).2.1,0,0,[],[],[],())
def qB (x:tFault.den×Int) (y:MS):MS:=withRun y (goX y.1.1 y.1.2.1 x.1 x.2.toNat 0 (runSof y)).2.2 (cgoX y.1.1 y.1.2.1 x.1 x.2.toNat 0 (runSof y) y.2.2.1)
abbrev qex (x:shDens qb2) (y:shDens qb3):Sh.den qdj×shDens qen:=(qdx (x.2.1,x.2.2.1) y,qB (x.2.1,x.2.2.1) y)
theorem qke (x:shDens qb2) (y:shDens qb3) (h:qdh x y=true):(qeu x y).val=some (qex x y):=by
 obtain⟨hw,hb⟩:=of_decide_eq_true h
 obtain⟨u,f,budget,u'⟩:=x
 have hb:budget≤67108864:=hb
 unfold qeu
 have key:LoopN.res qgx ((),budget,u',(),(),()) ((y.1.1,y.1.2.1,(),y.1.2.2.2),f,(false,0,0,0,0,0,[],[],[],()),(false,0,0,0,0,0,[],[],[],()),y.2) =
   some (0,(qB (f,budget) y).1,f,(false,0,0,0,0,0,[],[],[],()),(false,((goX y.1.1 y.1.2.1 f budget.toNat 0 (runSof y)).1.length:Int),cycX (goX y.1.1 y.1.2.1 f budget.toNat 0 (runSof y)).1,(goX y.1.1 y.1.2.1 f budget.toNat 0 (runSof y)).2.1,0,0,[],[],[],()),(qB (f,budget) y).2):=by
  rcases Int.lt_or_le budget 0 with h0 |h0
  ·unfold LoopN.res
   have e:budget.toNat=0:=by omega
   show runL _ (budget.toNat+1) _=_
   unfold qB
   rw[e]
   refine(runL_out ((val_no ?_).trans rfl)).trans rfl
   show(!y.1.2.2.2.2.1&&decide ((0:Int)<budget))=false
   rw[dec_false (show ¬(0:Int)<budget by omega),Bool.and_false]
  ·have:=stepsR_from f budget hb (false,0,0,0,0,0,[],[],[],()) (0,0,[],[],[],()) false ((),budget,u',(),(),()) rfl ((y.1.1,y.1.2.1,(),y.1.2.2.2),f,(false,0,0,0,0,0,[],[],[],()),(false,0,0,0,0,0,[],[],[],()),y.2) budget.toNat 0 0 0 y (by omega) hw (by omega) (by omega) (by omega) (by omega)
   unfold LoopN.res
   refine Eq.trans ?_ (this.trans (end_eq (Int.zero_add _) (Int.zero_add _) (Int.zero_add _)))
   rfl
 exact(val_opt key).trans rfl
end Go.Av
end
section
namespace Go.Av
open Go
abbrev qju:List Ty:=[.str]
abbrev qkm:Sh:=Sh.tup (Sh.pair (Sh.ty (Ty.int IntKind.i64)) (Sh.pair (Sh.ty Ty.bool) (Sh.ty Ty.unit)))
def qgG (x:dens qju):PO (Sh.den qkm) :=
 (.ite (lenI x != 4)
  (.ret ((0,false,())))
  (.ite (inRange 0 (List.length x)&&true)
  (.ite (inRange 1 (List.length x)&&true)
   (.ite (inRange 2 (List.length x)&&true)
   (.ite (inRange 3 (List.length x)&&true)
    (.ret ((bor IntKind.i64 (bor IntKind.i64 (bor IntKind.i64 (bor IntKind.i64 0 (ishl IntKind.i64 (w64 (u8I (List.getD x (Int.toNat 0) 0))) 0)) (ishl IntKind.i64 (w64 (u8I (List.getD x (Int.toNat 1) 0))) 8)) (ishl IntKind.i64 (w64 (u8I (List.getD x (Int.toNat 2) 0))) 16)) (ishl IntKind.i64 (w64 (u8I (List.getD x (Int.toNat 3) 0))) 24),true,())))
    .fail)
   .fail)
   .fail)
  .fail))
def qgA (x:dens qju):Bool:=(qgG x).val.isSome
def qhY (x:dens qju):Sh.den qkm:=(qgG x).getO default
theorem qmW (x:dens qju) (h:qgA x=true):(qgG x).val=some (qhY x):=PO.getO_ok default h
abbrev qfT:List Ty:=[(.int .i64),(.int .i64)]
abbrev qhz:Sh:=Sh.ty Ty.bool
def qhT (x:dens qfT):PO (Sh.den qhz) :=
 (.ret (decide (x.1≥64)&&(decide (x.1<x.2)&&band IntKind.i64 x.1 1==0)))
def qjM (_:dens qfT):Bool:=true
def qb4 (x:dens qfT):Sh.den qhz:=(qhT x).getO default
theorem ql6 (x:dens qfT) (_:qjM x=true):(qhT x).val=some (qb4 x):=PO.sure_ok default (by simp[qhT,PO.sure])
abbrev qiE:List Ty:=[.str,(.int .i64)]
abbrev qjY:Sh:=Sh.ty (Ty.int IntKind.i64)
def qfM (x:dens qiE):PO (Sh.den qjY) :=
 (.ite (decide (0≤w64 (w64 (4*x.2)+4))&&decide (w64 (w64 (4*x.2)+4)≤lenI x.1)&&decide (0≤w64 (4*x.2))&&decide (w64 (4*x.2)≤w64 (w64 (4*x.2)+4))&&qgA (List.drop (Int.toNat (w64 (4*x.2))) (List.take (Int.toNat (w64 (w64 (4*x.2)+4))) x.1)))
  (.ret ((qhY (List.drop (Int.toNat (w64 (4*x.2))) (List.take (Int.toNat (w64 (w64 (4*x.2)+4))) x.1))).1))
  .fail)
def qb9 (x:dens qiE):Bool:=(qfM x).val.isSome
def qx (x:dens qiE):Sh.den qjY:=(qfM x).getO default
theorem qmJ (x:dens qiE) (h:qb9 x=true):(qfM x).val=some (qx x):=PO.getO_ok default h
abbrev qga:List Ty:=[tHead,(.int .i64)]
abbrev qhG:Sh:=Sh.ty (Ty.int IntKind.i64)
def qeD (x:dens qga):PO (Sh.den qhG) :=
 (.ite (qI (x.1.2.2.1,x.2) != 0)
  (.ret (qI (x.1.2.2.1,x.2)))
  (.ite (decide (x.1.2.2.2.1<0)||(decide (x.1.2.2.2.1≥3)||(!qb4 (x.1.1,x.2)||true)))
  (.ite (decide (x.1.2.2.2.1<0)||(decide (x.1.2.2.2.1≥3)||(!qb4 (x.1.1,x.2)||!qb4 (x.1.2.1,x.2))))
   (.ret (2))
   (.ret (0)))
  .fail))
def qjw (_:dens qga):Bool:=true
def qO (x:dens qga):Sh.den qhG:=(qeD x).getO default
theorem qme (x:dens qga) (_:qjw x=true):(qeD x).val=some (qO x):=PO.tots_ok default (by simp[qeD,PO.tots])
abbrev qfR:List Ty:=[tHead]
abbrev qhA:Sh:=Sh.ty (Ty.arr 16 (Ty.int IntKind.i64))
def qhH (x:dens qfR):PO (Sh.den qhA) :=
 (.ret (List.set (List.set (List.set (List.set (List.set (List.set (List.set (List.set (List.set (List.set (List.set (List.set (List.set (List.set (List.set (List.set (List.set (List.set (List.set (List.set (List.set (List.set [0,0,0,0,0,0,0,0,0,0,0,0,0,0,0,0] (Int.toNat 0) (bor IntKind.i64 x.2.1 1)) (Int.toNat 1) (bor IntKind.i64 x.2.1 1)) (Int.toNat 2) (bor IntKind.i64 x.2.1 1)) (Int.toNat 3) (bor IntKind.i64 x.2.1 1)) (Int.toNat 4) (bor IntKind.i64 x.2.1 1)) (Int.toNat 5) (bor IntKind.i64 x.2.1 1)) (Int.toNat 6) (bor IntKind.i64 x.2.1 1)) (Int.toNat 7) (bor IntKind.i64 x.2.1 1)) (Int.toNat 8) (bor IntKind.i64 x.2.1 1)) (Int.toNat 9) (bor IntKind.i64 x.2.1 1)) (Int.toNat 10) (bor IntKind.i64 x.2.1 1)) (Int.toNat 11) (bor IntKind.i64 x.2.1 1)) (Int.toNat 12) (bor IntKind.i64 x.2.1 1)) (Int.toNat 13) (bor IntKind.i64 x.2.1 1)) (Int.toNat 14) (bor IntKind.i64 x.2.1 1)) (Int.toNat 15) (bor IntKind.i64 x.2.1 1)) 0 537133056) 1 (bor IntKind.i64 x.1 1)) 7 x.2.2.1.1) 8 x.2.2.1.2.1) 9 x.2.2.1.2.2.1) 10 x.2.2.2.1))
def qjB (_:dens qfR):Bool:=true
def qt (x:dens qfR):Sh.den qhA:=(qhH x).getO default
theorem qmd (x:dens qfR) (_:qjB x=true):(qhH x).val=some (qt x):=PO.sure_ok default (by simp[qhH,PO.sure])
def qeX:LoopN where
 M:=[0,2,3,4,34,35]
 T:=[5,6,36,37,38,39,40,41,42,43,44,45]
 D:=[0,34,35]
 ss:=[.ty .str,.box 0 0,.ty (.int .i64),.box 1 0,.ty (.arr 16 (.int .i64)),.ty (.int .i64)]
 hs:=[(.ty tHead),(.ty tHead)]
 es:=[.exit 0,.ret]
 σ:=(Ty.den (.int .i64))×(Ty.den (.int .i64))×(Sh.den ((.ty tHead)))×(Sh.den ((.ty tHead)))
 x0:=fun x y=>(x.2.2.1,x.2.2.2.2.2,y.1,y.2)
 put:=fun x _ s=>((x.1,x.2.1,s.1,x.2.2.2.1,x.2.2.2.2.1,s.2.1),(s.2.2.1,s.2.2.2))
 fuel:=fun _ _=>17
 turn:=fun x _ s =>
 (.ite (decide (s.2.1<16))
  (.ite (inRange s.2.1 16)
  (.ite (qb9 (x.1,s.2.1))
   (.ite (qx (x.1,s.2.1) != List.getD x.2.2.2.2.1 (Int.toNat s.2.1) (Ty.dflt (Ty.int IntKind.i64)))
   (.ret (.out 1 (4,s.2.1,(0,0,(0,0,0,()),0,()),s.2.2.2)))
   (.ret (.on (s.1,w64 (s.2.1+1),s.2.2.1,s.2.2.2))))
   .fail)
  .fail)
  (.ret (.out 0 (s.1,s.2.1,s.2.2.1,s.2.2.2))))
theorem of_total (s:List UInt8):qgA s=true:=by
 unfold qgA qgG
 cases h:(lenI s != 4)
 ·have hl:List.length s=4:=by
   simp only[lenI,bne_eq_false_iff_eq] at h
   omega
  rw[val_no rfl,val_yes (by rw[show(0:Int)=((0:Nat):Int) from rfl,inR (by omega)];rfl),val_yes (by rw[show(1:Int)=((1:Nat):Int) from rfl,inR (by omega)];rfl),val_yes (by rw[show(2:Int)=((2:Nat):Int) from rfl,inR (by omega)];rfl),val_yes (by rw[show(3:Int)=((3:Nat):Int) from rfl,inR (by omega)];rfl)]
  rfl
 ·rw[val_yes rfl]
  rfl
theorem at_total (s:List UInt8) (k:Nat) (hk:k<16) (hs:64≤s.length):qb9 (s,(k:Int))=true:=by
 unfold qb9 qfM
 have e1:w64 (4*(k:Int))=4*(k:Int):=w64_id (by omega) (by omega)
 have e2:w64 (4*(k:Int)+4)=4*(k:Int)+4:=w64_id (by omega) (by omega)
 rw[val_yes (by
  dsimp only
  rw[e1,e2,of_total]
  simp only[lenI,Bool.and_eq_true,decide_eq_true_eq,Bool.and_true]
  exact⟨⟨⟨by omega,by omega⟩,by omega⟩,by omega⟩)]
 rfl
def headX (s:List UInt8):tHead.den:=(w64 (qx (s,1)-1),w64 (qx (s,3)-1),(qx (s,7),qx (s,8),qx (s,9),()),qx (s,10),())
abbrev noHead:tHead.den:=(0,0,(0,0,0,()),0,())
def wordIs (s:List UInt8) (fr:List Int) (i:Nat):Bool:=!(qx (s,(i:Int)) != List.getD fr (Int.toNat (i:Int)) (Ty.dflt (Ty.int IntKind.i64)))
def parseX (s:List UInt8):tHead.den×Int×Unit :=
 bif decide (lenI s<64) then(noHead,3,())
 else bif qO (headX s,lenI s) != 0 then(noHead,4,())
 else bif (List.range' 0 16).all (wordIs s (qt (headX s))) then(headX s,0,()) else(noHead,4,())
theorem parse7 (s:List UInt8) (fr:List Int) (h z:tHead.den) (hs:64≤s.length):∀(n i:Nat),i+n=16→∃j:Int,
  runL (qeX.turn (s,(),0,(),fr,0) (z,h)) (n+1) (0,(i:Int),z,h)=some (bif (List.range' i n).all (wordIs s fr) then(0,(0,16,z,h)) else(1,(4,j,noHead,h)))
 |0,i,hi=>⟨0,(runL_out ((val_no (dec_false (show ¬(i:Int)<16 by omega))).trans rfl)).trans (by
   have:i=16:=by omega
   subst this
   rfl)⟩
 |n+1,i,hi=>by
  have hlt:decide ((i:Int)<16)=true:=dec_true (by omega)
  have hin:inRange (i:Int) 16=true:=inR (by omega)
  have hg:=at_total s i (by omega) hs
  cases hw:wordIs s fr i with
  |true =>
   obtain⟨j,hj⟩:=parse7 s fr h z hs n (i+1) (by omega)
   refine⟨j,(runL_on (s':=(0,((i+1:Nat):Int),z,h)) ((val_yes hlt).trans ((val_yes hin).trans ((val_yes hg).trans ((val_no ?_).trans ?_))))).trans (hj.trans ?_)⟩
   ·unfold wordIs at hw
    exact Bool.not_eq_true' _ |>.mp hw
   ·show some (TL.on (0,w64 ((i:Int)+1),z,h))=_
    rw[w64_id (by omega) (by omega)]
    rfl
   ·rw[List.range'_succ,List.all_cons,hw,Bool.true_and]
  |false =>
   refine⟨i,(runL_out ((val_yes hlt).trans ((val_yes hin).trans ((val_yes hg).trans ((val_yes ?_).trans rfl))))).trans ?_⟩
   ·unfold wordIs at hw
    exact Bool.not_eq_false' _ |>.mp hw
   ·rw[List.range'_succ,List.all_cons,hw,Bool.false_and]
    rfl
abbrev qf3:List Ty:=[.str]
abbrev qhy:Sh:=Sh.tup (Sh.pair (Sh.ty (Ty.pair (Ty.int IntKind.i64) (Ty.pair (Ty.int IntKind.i64) (Ty.pair tSizes (Ty.pair (Ty.int IntKind.i64) Ty.unit))))) (Sh.pair (Sh.ty (Ty.int IntKind.i64)) (Sh.ty Ty.unit)))
def qhw (x:dens qf3):PO (Sh.den qhy) :=
 (.ite (decide (lenI x<64))
  (.ret (((0,0,(0,0,0,()),0,()),3,())))
  (.ite (qb9 (x,1))
  (.ite (qb9 (x,3))
   (.ite (qb9 (x,10))
   (.ite (qb9 (x,7))
    (.ite (qb9 (x,8))
    (.ite (qb9 (x,9))
     (.ite (qO ((w64 (qx (x,1)-1),w64 (qx (x,3)-1),(qx (x,7),qx (x,8),qx (x,9),()),qx (x,10),()),lenI x) != 0)
     (.ret (((0,0,(0,0,0,()),0,()),4,())))
     (.opt (LoopN.res qeX (x,(),0,(),qt (w64 (qx (x,1)-1),w64 (qx (x,3)-1),(qx (x,7),qx (x,8),qx (x,9),()),qx (x,10),()),0) ((0,0,(0,0,0,()),0,()),w64 (qx (x,1)-1),w64 (qx (x,3)-1),(qx (x,7),qx (x,8),qx (x,9),()),qx (x,10),())) fun p0 =>
      (.ite (way p0.1)
      (.ret ((p0.2.2.2.2,0,())))
      (.ret ((p0.2.2.2.1,p0.2.1,()))))))
     .fail)
    .fail)
    .fail)
   .fail)
   .fail)
  .fail))
def qhK (_:dens qf3):Bool:=true
def qM (x:dens qf3):Sh.den qhy:=parseX x
theorem parse_val (s:List UInt8):(qhw s).val=some (parseX s):=by
 unfold qhw parseX
 cases h1:decide (lenI s<64)
 ·have hs:64≤s.length:=by
   simp only[lenI,decide_eq_false_iff_not] at h1
   omega
  have a:=fun k hk=>at_total s k hk hs
  refine(val_no rfl).trans ((val_yes (a 1 (by omega))).trans ((val_yes (a 3 (by omega))).trans ((val_yes (a 10 (by omega))).trans ((val_yes (a 7 (by omega))).trans ((val_yes (a 8 (by omega))).trans ((val_yes (a 9 (by omega))).trans ?_))))))
  show(PO.ite (qO (headX s,lenI s) != 0) _ _).val=_
  cases h2:(qO (headX s,lenI s) != (0:Int))
  ·obtain⟨j,hj⟩:=parse7 s (qt (headX s)) (headX s) noHead hs 16 0 (by omega)
   refine(val_no rfl).trans ?_
   have hres:LoopN.res qeX (s,(),0,(),qt (headX s),0) (noHead,headX s)=_:=hj
   refine(val_opt hres).trans ?_
   cases (List.range' 0 16).all (wordIs s (qt (headX s)))
   ·exact(val_no rfl).trans rfl
   ·exact(val_yes rfl).trans rfl
  ·exact(val_yes rfl).trans rfl
 ·exact(val_yes rfl).trans rfl
theorem qmc (x:dens qf3) (_:qhK x=true):(qhw x).val=some (qM x):=parse_val x
end Go.Av
end
section
namespace Go.Av
open Go
def qdQ:LoopN where
 M:=[3,6,8,9,10]
 T:=[12,37,38,39,40,41,42,43,44,45,46,47,48,49,50,51,52,53,54,55,56]
 D:=[3,6,10]
 ss:=[.ty (.int .i64),.box 0 0,.box 1 0,.ty (.int .i64),.box 2 0]
 hs:=[(.ty tFault),(.ty tResult),(shMachB 3 4),(shMemB 5),.rowc tFetched,.rowc (.int .u8)]
 es:=[.ret]
 σ:=(Ty.den (.int .i64))×(Sh.den ((.ty tFault)))×(Sh.den ((.ty tResult)))×(Sh.den ((shMachB 3 4)))×(Sh.den ((shMemB 5)))×(Sh.den (.rowc tFetched))×(Sh.den (.rowc (.int .u8)))
 x0:=fun x y=>(x.2.2.2.1,y.1,y.2.1,y.2.2.1,y.2.2.2.1,y.2.2.2.2.1,y.2.2.2.2.2)
 put:=fun x _ s=>((x.1,x.2.1,x.2.2.1,s.1,x.2.2.2.2),(s.2.1,s.2.2.1,s.2.2.2.1,s.2.2.2.2.1,s.2.2.2.2.2.1,s.2.2.2.2.2.2))
 fuel:=fun _ _=>1
 turn:=fun x _ s =>
 (.ite (qdh ((),s.2.1,x.1,()) ((s.2.2.2.1.1,s.2.2.2.1.2.1,(),s.2.2.2.1.2.2.2),s.2.2.2.2))
  (.ite (qb0 ((),537919488) (((qB (s.2.1,x.1) ((s.2.2.2.1.1,s.2.2.2.1.2.1,(),s.2.2.2.1.2.2.2),s.2.2.2.2)).1.1,(qB (s.2.1,x.1) ((s.2.2.2.1.1,s.2.2.2.1.2.1,(),s.2.2.2.1.2.2.2),s.2.2.2.2)).1.2.1,(),(qB (s.2.1,x.1) ((s.2.2.2.1.1,s.2.2.2.1.2.1,(),s.2.2.2.1.2.2.2),s.2.2.2.2)).1.2.2.2),(qB (s.2.1,x.1) ((s.2.2.2.1.1,s.2.2.2.1.2.1,(),s.2.2.2.1.2.2.2),s.2.2.2.2)).2))
  (.ite (qb0 ((),538968064) (((qB (s.2.1,x.1) ((s.2.2.2.1.1,s.2.2.2.1.2.1,(),s.2.2.2.1.2.2.2),s.2.2.2.2)).1.1,(qB (s.2.1,x.1) ((s.2.2.2.1.1,s.2.2.2.1.2.1,(),s.2.2.2.1.2.2.2),s.2.2.2.2)).1.2.1,(),(qB (s.2.1,x.1) ((s.2.2.2.1.1,s.2.2.2.1.2.1,(),s.2.2.2.1.2.2.2),s.2.2.2.2)).1.2.2.2),(qB (s.2.1,x.1) ((s.2.2.2.1.1,s.2.2.2.1.2.1,(),s.2.2.2.1.2.2.2),s.2.2.2.2)).2))
   (.ret (.out 0 (0,s.2.1,((qdx (s.2.1,x.1) ((s.2.2.2.1.1,s.2.2.2.1.2.1,(),s.2.2.2.1.2.2.2),s.2.2.2.2)).1,(qdx (s.2.1,x.1) ((s.2.2.2.1.1,s.2.2.2.1.2.1,(),s.2.2.2.1.2.2.2),s.2.2.2.2)).2.1,(qdx (s.2.1,x.1) ((s.2.2.2.1.1,s.2.2.2.1.2.1,(),s.2.2.2.1.2.2.2),s.2.2.2.2)).2.2.1,(qdx (s.2.1,x.1) ((s.2.2.2.1.1,s.2.2.2.1.2.1,(),s.2.2.2.1.2.2.2),s.2.2.2.2)).2.2.2.1,qik 537919488 ((qB (s.2.1,x.1) ((s.2.2.2.1.1,s.2.2.2.1.2.1,(),s.2.2.2.1.2.2.2),s.2.2.2.2)).2.1,(qB (s.2.1,x.1) ((s.2.2.2.1.1,s.2.2.2.1.2.1,(),s.2.2.2.1.2.2.2),s.2.2.2.2)).2.2.2),qik 538968064 ((qB (s.2.1,x.1) ((s.2.2.2.1.1,s.2.2.2.1.2.1,(),s.2.2.2.1.2.2.2),s.2.2.2.2)).2.1,(qB (s.2.1,x.1) ((s.2.2.2.1.1,s.2.2.2.1.2.1,(),s.2.2.2.1.2.2.2),s.2.2.2.2)).2.2.2),(qfD 2 ((qB (s.2.1,x.1) ((s.2.2.2.1.1,s.2.2.2.1.2.1,(),s.2.2.2.1.2.2.2),s.2.2.2.2)).2.1,(qB (s.2.1,x.1) ((s.2.2.2.1.1,s.2.2.2.1.2.1,(),s.2.2.2.1.2.2.2),s.2.2.2.2)).2.2.2)).1,(qfD 3 ((qB (s.2.1,x.1) ((s.2.2.2.1.1,s.2.2.2.1.2.1,(),s.2.2.2.1.2.2.2),s.2.2.2.2)).2.1,(qB (s.2.1,x.1) ((s.2.2.2.1.1,s.2.2.2.1.2.1,(),s.2.2.2.1.2.2.2),s.2.2.2.2)).2.2.2)).1,(qfD 4 ((qB (s.2.1,x.1) ((s.2.2.2.1.1,s.2.2.2.1.2.1,(),s.2.2.2.1.2.2.2),s.2.2.2.2)).2.1,(qB (s.2.1,x.1) ((s.2.2.2.1.1,s.2.2.2.1.2.1,(),s.2.2.2.1.2.2.2),s.2.2.2.2)).2.2.2)).1,(qdx (s.2.1,x.1) ((s.2.2.2.1.1,s.2.2.2.1.2.1,(),s.2.2.2.1.2.2.2),s.2.2.2.2)).2.2.2.2.2.2.2.2.2),((qB (s.2.1,x.1) ((s.2.2.2.1.1,s.2.2.2.1.2.1,(),s.2.2.2.1.2.2.2),s.2.2.2.2)).1.1,(qB (s.2.1,x.1) ((s.2.2.2.1.1,s.2.2.2.1.2.1,(),s.2.2.2.1.2.2.2),s.2.2.2.2)).1.2.1,(),(qB (s.2.1,x.1) ((s.2.2.2.1.1,s.2.2.2.1.2.1,(),s.2.2.2.1.2.2.2),s.2.2.2.2)).1.2.2.2),(qB (s.2.1,x.1) ((s.2.2.2.1.1,s.2.2.2.1.2.1,(),s.2.2.2.1.2.2.2),s.2.2.2.2)).2.1,(qB (s.2.1,x.1) ((s.2.2.2.1.1,s.2.2.2.1.2.1,(),s.2.2.2.1.2.2.2),s.2.2.2.2)).2.2.1,(qB (s.2.1,x.1) ((s.2.2.2.1.1,s.2.2.2.1.2.1,(),s.2.2.2.1.2.2.2),s.2.2.2.2)).2.2.2)))
   .fail)
  .fail)
  .fail)
theorem check_facts (h:tHead.den) (n:Int) (e:qO (h,n)=0):qI (h.2.2.1,n)=0∧(64≤(show Int from h.1)∧(show Int from h.1)<n)∧64≤(show Int from h.2.1)∧(show Int from h.2.1)<n:=by
 obtain⟨rs,hn,sz,md,u⟩:=h
 unfold qO PO.getO qeD at e
 cases h1:(qI (sz,n) != (0:Int)) with
 |true =>
  rw[val_yes h1] at e
  have e':qI (sz,n)=0:=e
  rw[e'] at h1
  cases h1
 |false =>
  rw[val_no h1] at e
  have hc:qI (sz,n)=0:=by simpa using h1
  refine⟨hc,?_⟩
  rw[val_yes (by simp)] at e
  cases h2:(decide (md<0)||(decide (md≥3)||(!qb4 (rs,n)||!qb4 (hn,n)))) with
  |true =>
   rw[val_yes h2] at e
   cases e
  |false =>
   simp only[Bool.or_eq_false_iff,Bool.not_eq_false'] at h2
   have pl:∀a:Int,qb4 (a,n)=true→64≤a∧a<n:=fun a ha=>by
    have ha:(decide (a≥64)&&(decide (a<n)&&band IntKind.i64 a 1==0))=true:=ha
    simp only[Bool.and_eq_true,decide_eq_true_eq] at ha
    exact⟨ha.1,ha.2.1⟩
   exact⟨pl rs h2.2.2.1,pl hn h2.2.2.2⟩
theorem mcheck_facts (i o r n:Int) (e:qI ((i,o,r,()),n)=0):(0≤i∧i≤65536)∧(0≤o∧o≤65536)∧(4≤r∧r≤65536)∧n≤262144:=by
 unfold qI PO.getO qeb at e
 cases h1:(decide (i<0)||Int.tmod i 4 != 0) with
 |true=>rw[val_yes h1] at e;cases e
 |false =>
 rw[val_no h1] at e
 cases h2:(decide (o<0)||Int.tmod o 4 != 0) with
 |true=>rw[val_yes h2] at e;cases e
 |false =>
 rw[val_no h2] at e
 cases h3:(decide (r<0)||Int.tmod r 4 != 0) with
 |true=>rw[val_yes h3] at e;cases e
 |false =>
 rw[val_no h3] at e
 cases h4:(decide (n<0)||decide (r<4)) with
 |true=>rw[val_yes h4] at e;cases e
 |false =>
 rw[val_no h4] at e
 cases h5:(decide (n > 262144)||decide (i > 65536)||decide (o > 65536)||decide (r > 65536)) with
 |true=>rw[val_yes h5] at e;cases e
 |false =>
  simp only[Bool.or_eq_false_iff,decide_eq_false_iff_not] at h1 h2 h3 h4 h5
  omega
def regsX (sz:tSizes.den) (n:Int):List (Int×Int×Bool×Unit):=[(0,n,false,()),(536936448,sz.1,true,()),(537001984,sz.2.1,true,()),(537133056,sz.2.2.1,true,()),(537395200,sz.2.2.1,true,()),(537919488,4,true,()),(538968064,4,true,())]
theorem regs_val (sz:tSizes.den) (n:Int) (e:qI (sz,n)=0):qJ (sz,n)=(regsX sz n,0,()):=by
 unfold qJ PO.getO qel
 rw[val_no (by rw[e];rfl)]
 rfl
theorem regsX_ok (i o r n:Int) (e:qI ((i,o,r,()),n)=0) (hn:0≤n):RegsOk (regsX (i,o,r,()) n)∧(regsX (i,o,r,()) n).length=7∧sumL (regsX (i,o,r,()) n)<1000000:=by
 obtain⟨h1,h2,h3,h4⟩:=mcheck_facts i o r n e
 refine⟨⟨by simp[regsX],fun x hx=>?_⟩,by simp[regsX],?_⟩
 ·simp only[regsX,List.mem_cons,List.not_mem_nil,or_false] at hx
  unfold RegOk
  rcases hx with rfl |rfl |rfl |rfl |rfl |rfl |rfl<;>simp only<;>omega
 ·simp only[regsX,sumL]
  omega
abbrev noRes:tResult.den:=(false,0,0,0,0,0,[],[],[],())
def startX (hd:tHead.den) (img inp:List UInt8):MS :=
 ((hd,img,(),(List.set (List.set [0,0,0,0,0,0,0,0,0,0,0,0,0,0,0] 13 537133056) 14 (qbx 0),hd.1,false,false,false,false,()),false,(0,img.length / 2+1),()),(newM (regsX hd.2.2.1 (lenI img)) img inp).1,List.replicate (img.length / 2+1) dfF,(newM (regsX hd.2.2.1 (lenI img)) img inp).2)
def resX (y:MS) (f:tFault.den) (budget:Int):tResult.den :=
 ((qdx (f,budget) y).1,(qdx (f,budget) y).2.1,(qdx (f,budget) y).2.2.1,(qdx (f,budget) y).2.2.2.1,qik 537919488 (qB (f,budget) y).mem,qik 538968064 (qB (f,budget) y).mem,(qfD 2 (qB (f,budget) y).mem).1,(qfD 3 (qB (f,budget) y).mem).1,(qfD 4 (qB (f,budget) y).mem).1,())
def runX (img inp:List UInt8) (f:tFault.den) (budget:Int):tResult.den×Int×Unit :=
 bif (parseX img).2.1 != 0 then(noRes,(parseX img).2.1,())
 else bif lenI inp != (parseX img).1.2.2.1.1 then(noRes,2,())
 else bif (qr f != 0||(decide (budget<0)||decide (budget > 67108864))) then(noRes,2,())
 else(resX (startX (parseX img).1 img inp) f budget,0,())
theorem goX_wf (hd:tHead.den) (fl:List UInt8) (f:tFault.den) (hh:0≤(show Int from hd.2.1)∧(show Int from hd.2.1)<4294967296):∀(n:Nat) (k:Int) (s:RunS),MemWf s.2.2→List.length s.1.1=15 →
  MemWf (goX hd fl f n k s).2.2.2.2∧List.length (goX hd fl f n k s).2.2.1.1=15∧(goX hd fl f n k s).2.2.2.2.1=s.2.2.1
 |0,k,s,hm,hr=>⟨hm,hr,rfl⟩
 |n+1,k,s,hm,hr=>by
  rw[goX]
  cases s.2.1
  ·obtain⟨h1,h2,h3,h4,_⟩:=stepMX_wf hd fl s.1 s.2.2 (nowX f k) hm hr hh
   obtain⟨g1,g2,g3⟩:=goX_wf hd fl f hh n (k+1) (stepMX hd fl s.1 s.2.2 (nowX f k)).2 h3 h1
   exact⟨g1,g2,g3.trans h4⟩
  ·exact⟨hm,hr,rfl⟩
theorem end_mem {y:MS} (hy:MachWf y) (f:tFault.den) (budget:Int):MemWf (qB (f,budget) y).mem :=
 (goX_wf y.1.1 y.1.2.1 f hy.hand budget.toNat 0 (runSof y) hy.mem hy.regs).1
theorem c12_res (y:MS) (hy:MachWf y) (f:tFault.den) (budget:Int) (hb:budget≤67108864):∃z,LoopN.res qdQ (budget,(),(),0,()) (f,noRes,y.1,y.2.1,y.2.2.1,y.2.2.2)=some (0,0,f,resX y f budget,z):=by
 have hm:=end_mem hy f budget
 exact⟨qB (f,budget) y,runL_out ((val_yes (decide_eq_true ⟨hy,hb⟩)).trans ((val_yes (decide_eq_true ⟨hm,by decide⟩)).trans ((val_yes (decide_eq_true ⟨hm,by decide⟩)).trans rfl)))⟩
theorem parse_facts (img:List UInt8) (h:((parseX img).2.1 != (0:Int))=false):∃rs hn i o r md,(parseX img).1=(rs,hn,(i,o,r,()),md,())∧qI ((i,o,r,()),lenI img)=0∧(64≤rs∧rs<lenI img)∧(64≤hn∧hn<lenI img)∧lenI img≤262144∧64≤img.length:=by
 unfold parseX at h ⊢
 cases h1:decide (lenI img<64) with
 |true=>rw[h1] at h;cases h
 |false =>
 rw[h1] at h
 simp only[cond_false] at h ⊢
 cases h2:(qO (headX img,lenI img) != (0:Int)) with
 |true=>rw[h2] at h;cases h
 |false =>
 rw[h2] at h
 simp only[cond_false] at h ⊢
 cases h3:(List.range' 0 16).all (wordIs img (qt (headX img))) with
 |false=>rw[h3] at h;cases h
 |true =>
 obtain⟨f1,f2,f3⟩:=check_facts (headX img) (lenI img) (by simpa using h2)
 simp only[cond_true]
 generalize headX img=hd at *
 obtain⟨rs,hn,⟨i,o,r,u1⟩,md,u2⟩:=hd
 refine⟨rs,hn,i,o,r,md,rfl,f1,f2,f3,(mcheck_facts i o r _ f1).2.2.2,?_⟩
 simp only[lenI,decide_eq_false_iff_not] at h1
 omega
theorem startX_wf (rs hn i o r md:Int) (img inp:List UInt8) (h1:qI ((i,o,r,()),lenI img)=0) (h2:64≤rs∧rs<lenI img) (h3:64≤hn∧hn<lenI img) (h4:lenI img≤262144):MachWf (startX (rs,hn,(i,o,r,()),md,()) img inp):=by
 obtain⟨g1,g2,g3⟩:=regsX_ok i o r (lenI img) h1 (by simp only[lenI];omega)
 exact{
  mem:=newM_wf _ img inp g1 (by show 2≤(regsX (i,o,r,()) (lenI img)).length;omega)
  regs:=rfl
  pc:=⟨by show(0:Int)≤rs;omega,by show rs<(4294967296:Int);omega⟩
  hand:=⟨by show(0:Int)≤hn;omega,by show hn<(4294967296:Int);omega⟩
  len:=by show img.length≤262144;simp only[lenI] at h4;omega
  win:=rfl
  cache:=⟨List.length_replicate,fun k hk hn=>by
   have e:List.getD (List.replicate (img.length / 2+1) dfF) k dfF=dfF:=by
    rw[List.getD_eq_getElem?_getD,List.getElem?_replicate]
    split<;>rfl
   rw[show(startX (rs,_,(i,o,r,()),md,()) img inp).2.2.1=List.replicate (img.length / 2+1) dfF from rfl,e] at hn
   cases hn⟩}
abbrev qf7:List Ty:=[.str,.str,tFault,(.int .i64)]
abbrev qhR:Sh:=Sh.tup (Sh.pair (Sh.ty tResult) (Sh.pair (Sh.ty (Ty.int IntKind.i64)) (Sh.ty Ty.unit)))
def qjy (x:dens qf7):PO (Sh.den qhR) :=
 (.ite (qhK x.1)
  (.ite ((qM x.1).2.1 != 0)
  (.ite ((qM x.1).2.1 != 0)
   (.ret (((false,0,0,0,0,0,[],[],[],()),(qM x.1).2.1,())))
   (.ite (qr x.2.2.1 != 0||(decide (x.2.2.2<0)||decide (x.2.2.2 > 67108864)))
   (.ret (((false,0,0,0,0,0,[],[],[],()),2,())))
   .fail))
  (.ite ((qJ ((qM x.1).1.2.2.1,lenI x.1)).2.1 != 0)
   (.ite ((qJ ((qM x.1).1.2.2.1,lenI x.1)).2.1 != 0)
   (.ite ((qJ ((qM x.1).1.2.2.1,lenI x.1)).2.1 != 0)
    (.ret (((false,0,0,0,0,0,[],[],[],()),(qJ ((qM x.1).1.2.2.1,lenI x.1)).2.1,())))
    (.ite (qr x.2.2.1 != 0||(decide (x.2.2.2<0)||decide (x.2.2.2 > 67108864)))
    (.ret (((false,0,0,0,0,0,[],[],[],()),2,())))
    .fail))
   (.ite (roomOk (w64 (w64 (Int.tdiv (lenI x.1) 2)+1)) 80)
    (.ite (qr x.2.2.1 != 0||(decide (x.2.2.2<0)||decide (x.2.2.2 > 67108864)))
    (.ret (((false,0,0,0,0,0,[],[],[],()),2,())))
    .fail)
    .fail))
   (.ite (lenI x.2.1 != (qM x.1).1.2.2.1.1)
   (.ret (((false,0,0,0,0,0,[],[],[],()),2,())))
   (.opt (LoopN.res qff (x.1,x.2.1,(qJ ((qM x.1).1.2.2.1,lenI x.1)).1,0,(qJ ((qM x.1).1.2.2.1,lenI x.1)).1,lenI (qJ ((qM x.1).1.2.2.1,lenI x.1)).1,0) ()) fun p0 =>
    (.ite (roomOk p0.2.1 1)
    (.opt (LoopN.res qeT (x.1,x.2.1,(),(0,nspan 0 p0.2.1),(qJ ((qM x.1).1.2.2.1,lenI x.1)).1,lenI (qJ ((qM x.1).1.2.2.1,lenI x.1)).1,0) (((qJ ((qM x.1).1.2.2.1,lenI x.1)).1,[],()),zeros p0.2.1 0)) fun p1 =>
     (.ite (inRange 0 (List.length p1.2.2.2.1.2.1))
     (.ite (inRange 1 (List.length p1.2.2.2.1.2.1))
      (.ite (roomOk (w64 (w64 (Int.tdiv (lenI x.1) 2)+1)) 80)
      (.ite (qr x.2.2.1 != 0||(decide (x.2.2.2<0)||decide (x.2.2.2 > 67108864)))
       (.ret (((false,0,0,0,0,0,[],[],[],()),2,())))
       (.opt (LoopN.res qdQ (x.2.2.2,(),(),0,()) (x.2.2.1,(false,0,0,0,0,0,[],[],[],()),((qM x.1).1,x.1,(),(List.set (List.set [0,0,0,0,0,0,0,0,0,0,0,0,0,0,0] 13 537133056) 14 (qbx 0),(qM x.1).1.1,false,false,false,false,()),false,(0,nspan 0 (w64 (w64 (Int.tdiv (lenI x.1) 2)+1))),()),p1.2.2.2.1,zeros (w64 (w64 (Int.tdiv (lenI x.1) 2)+1)) ((0,0,0,0,0,0,0,false,()),0,false,false,()),mend (mend p1.2.2.2.2 (wAt p1.2.2.2.1.2.1 0).1 (strInts x.1) (wAt p1.2.2.2.1.2.1 0).2) (wAt p1.2.2.2.1.2.1 1).1 (strInts x.2.1) (wAt p1.2.2.2.1.2.1 1).2)) fun p2 =>
       (.ret ((p2.2.2.2.1,p2.2.1,())))))
      .fail)
      .fail)
     .fail))
    .fail)))))
  .fail)
def qjx (_:dens qf7):Bool:=true
def qK (x:dens qf7):Sh.den qhR:=runX x.1 x.2.1 x.2.2.1 x.2.2.2
theorem qma (x:dens qf7) (_:qjx x=true):(qjy x).val=some (qK x):=by
 obtain⟨img,inp,f,budget⟩:=x
 unfold qjy
 refine(val_yes rfl).trans ?_
 show _=some (runX img inp f budget)
 unfold runX
 show(PO.ite ((parseX img).2.1 != (0:Int)) _ _).val=_
 cases h1:((parseX img).2.1 != (0:Int)) with
 |true=>exact(val_yes rfl).trans ((val_yes h1).trans rfl)
 |false =>
  refine(val_no rfl).trans ?_
  obtain⟨rs,hn,i,o,r,md,e,f1,f2,f3,f4,f5⟩:=parse_facts img h1
  have hreg:qJ ((qM img).1.2.2.1,lenI img)=(regsX (i,o,r,()) (lenI img),0,()):=by
   show qJ ((parseX img).1.2.2.1,lenI img)=_
   rw[e]
   exact regs_val _ _ f1
  obtain⟨g1,g2,g3⟩:=regsX_ok i o r (lenI img) f1 (by simp only[lenI];omega)
  have g4:∀q∈regsX (i,o,r,()) (lenI img),0≤q.2.1:=fun q hq=>(g1.2 q hq).2.1
  have hwf:=startX_wf rs hn i o r md img inp f1 f2 f3 f4
  simp only[hreg]
  refine(val_no rfl).trans ?_
  show(PO.ite (lenI inp != (parseX img).1.2.2.1.1) _ _).val=_
  simp only[cond_false]
  cases h2:(lenI inp != (parseX img).1.2.2.1.1) with
  |true=>exact(val_yes rfl).trans rfl
  |false =>
   refine(val_no rfl).trans ((val_opt (r:=_) (res_8 img inp (regsX (i,o,r,()) (lenI img)) (by omega) g4 (by omega))).trans ?_)
   refine(val_yes ?_).trans ?_
   ·show roomOk ((sumL (regsX (i,o,r,()) (lenI img)):Nat):Int) 1=true
    simp only[roomOk,Bool.and_eq_true,decide_eq_true_eq]
    omega
   have hsp:nspan 0 ((sumL (regsX (i,o,r,()) (lenI img)):Nat):Int)=sumL (regsX (i,o,r,()) (lenI img)):=by simp[nspan]
   have e15:=res_15 img inp (regsX (i,o,r,()) (lenI img)) (zeros ((sumL (regsX (i,o,r,()) (lenI img)):Nat):Int) 0) (by omega) g4
   refine(val_opt (r:=_) (by dsimp only;rw[hsp];exact e15)).trans ?_
   have hw:(winsOf 0 (regsX (i,o,r,()) (lenI img))).length=7:=by rw[winsOf_length,g2]
   have hlen:w64 (w64 (Int.tdiv (lenI img) 2)+1)=((img.length / 2+1:Nat):Int):=by
    simp only[lenI] at f4 ⊢
    rw[Int.tdiv_eq_ediv_of_nonneg (by omega),w64_id (n:=((img.length:Nat):Int) / 2) (by omega) (by omega),w64_id (by omega) (by omega)]
    omega
   refine(val_yes ?_).trans ((val_yes ?_).trans ((val_yes ?_).trans ?_))
   ·show inRange 0 (winsOf 0 (regsX (i,o,r,()) (lenI img))).length=true
    rw[hw]
    rfl
   ·show inRange 1 (winsOf 0 (regsX (i,o,r,()) (lenI img))).length=true
    rw[hw]
    rfl
   ·rw[hlen]
    simp only[lenI] at f4
    simp only[roomOk,Bool.and_eq_true,decide_eq_true_eq]
    omega
   ·simp only[cond_false]
    cases h3:(qr f != 0||(decide (budget<0)||decide (budget > 67108864))) with
    |true=>exact(val_yes rfl).trans rfl
    |false =>
     have hb:(show Int from budget)≤67108864:=by
      simp only[Bool.or_eq_false_iff,decide_eq_false_iff_not] at h3
      exact Int.not_lt.1 h3.2.2
     obtain⟨z,hz⟩:=c12_res _ hwf f budget hb
     refine(val_no rfl).trans ?_
     rw[hlen]
     have hst:startX (parseX img).1 img inp=startX (rs,hn,(i,o,r,()),md,()) img inp:=by rw[e]
     rw[hst]
     refine(val_opt (r:=(0,0,f,resX (startX (rs,hn,(i,o,r,()),md,()) img inp) f budget,z)) ?_).trans rfl
     refine Eq.trans ?_ hz
     show LoopN.res qdQ (budget,(),(),0,()) (f,noRes,((parseX img).1,img,(),(_,(parseX img).1.1,_),false,(0,nspan 0 ((img.length / 2+1:Nat):Int)),()),_,zeros ((img.length / 2+1:Nat):Int) dfF,_)=_
     rw[e]
     have hns:nspan 0 ((img.length / 2+1:Nat):Int)=img.length / 2+1:=by simp only[nspan];omega
     have hz2:zeros ((img.length / 2+1:Nat):Int) dfF=List.replicate (img.length / 2+1) dfF:=by unfold zeros;rw[Int.toNat_natCast]
     rw[hns,hz2]
     rfl
end Go.Av
end
section
namespace Go.Av
open Go
abbrev shAsm (m w:Nat):Sh:=.pair (.ty (.sl tItem)) (.pair (.ty (.int .i64)) (.pair (.mp m) (.pair (.win w .bool) (.ty .unit))))
abbrev qgu:List Ty:=[(.sl .bool),(.int .i64)]
abbrev qiM:Sh:=Sh.ty Ty.bool
def qgy (x:dens qgu):PO (Sh.den qiM) :=
 (.ite (bif decide (x.2<lenI x.1) then inRange x.2 (List.length x.1) else true)
  (.ret (decide (x.2<lenI x.1)&&List.getD x.1 (Int.toNat x.2) (Ty.dflt Ty.bool)))
  .fail)
def qej (x:dens qgu):Bool:=(qgy x).val.isSome
def qee (x:dens qgu):Sh.den qiM:=(qgy x).getO default
theorem qmt (x:dens qgu) (h:qej x=true):(qgy x).val=some (qee x):=PO.getO_ok default h
abbrev qgK:List Ty:=[tIns]
abbrev qil:Sh:=Sh.ty Ty.bool
def qfi (x:dens qgK):PO (Sh.den qil) :=
 (.ite (x.1==24)
  (.ret (x.2.2.2.2.2.2.1==0))
  (.ite (x.1==25)
  (.ret (decide (x.2.2.2.2.2.2.1≥0)&&decide (x.2.2.2.2.2.2.1≤13)))
  (.ret (false))))
def qkh (_:dens qgK):Bool:=true
def qdy (x:dens qgK):Sh.den qil:=(qfi x).getO default
theorem qmu (x:dens qgK) (_:qkh x=true):(qfi x).val=some (qdy x):=PO.sure_ok default (by simp[qfi,PO.sure])
abbrev qh6:List Ty:=[tItem]
abbrev qjN:Sh:=Sh.ty Ty.bool
def qg8 (x:dens qh6):PO (Sh.den qjN) :=
 (.ite (bif x.1==0 then x.1==0 else x.1==1)
  (.ret (true))
  (.ite (x.1==2)
  (.ret (qdy x.2.2.1))
  (.ret (false))))
def qkR (_:dens qh6):Bool:=true
def qcJ (x:dens qh6):Sh.den qjN:=(qg8 x).getO default
theorem qmN (x:dens qh6) (_:qkR x=true):(qg8 x).val=some (qcJ x):=PO.sure_ok default (by simp[qg8,PO.sure])
def qho:LoopN where
 M:=[1,2,7,14,15,16]
 T:=[8,9,17,18,19,20,21,22,23,24,25,26,27,28,29,30,31,32,33,34,35,36,37,38,39,40,41,42,43,44,45,46,47,48,49,50,51]
 D:=[2,14,15,16]
 ss:=[.ty (.int .i64),.ty (.sl .bool),.osl 0 (.int .i64),.ty (.sl tItem),.ty (.int .i64),.ty (.int .i64)]
 hs:=[]
 es:=[.exit 0]
 σ:=(Ty.den (.int .i64))×(List (Ty.den (.int .i64)))×(Ty.den (.int .i64))
 x0:=fun x _=>(x.1,x.2.2.1,x.2.2.2.2.2)
 put:=fun x _ s=>((s.1,x.2.1,s.2.1,x.2.2.2.1,x.2.2.2.2.1,s.2.2),())
 fuel:=fun x _=>List.length x.2.2.2.1+1
 turn:=fun x _ s =>
 (.ite (decide (s.2.2<x.2.2.2.2.1))
  (.ite (inRange s.2.2 (List.length x.2.2.2.1))
  (.ite (Nat.ble ((List.length s.2.1+List.length [s.1])*8) 140737488355328)
   (.ite ((List.getD x.2.2.2.1 (Int.toNat s.2.2) (Ty.dflt tItem)).1==0||bif (List.getD x.2.2.2.1 (Int.toNat s.2.2) (Ty.dflt tItem)).1==2 then qej (x.2.1,s.2.2) else true)
   (.ret (.on (bif (List.getD x.2.2.2.1 (Int.toNat s.2.2) (Ty.dflt tItem)).1==0 then w64 (s.1+qba (List.getD x.2.2.2.1 (Int.toNat s.2.2) (Ty.dflt tItem)).2.2.1) else bif (List.getD x.2.2.2.1 (Int.toNat s.2.2) (Ty.dflt tItem)).1==2&&qee (x.2.1,s.2.2) then w64 (s.1+4) else bif (List.getD x.2.2.2.1 (Int.toNat s.2.2) (Ty.dflt tItem)).1==2 then w64 (s.1+2) else s.1,s.2.1++[s.1],w64 (s.2.2+1))))
   .fail)
   .fail)
  .fail)
  (.ret (.out 0 (s.1,s.2.1,s.2.2))))
abbrev qjk:List Ty:=[(.sl tItem),(.int .i64),(.sl .bool)]
abbrev qko:Sh:=Sh.osl 32 (Ty.int IntKind.i64)
def qjq (x:dens qjk):PO (Sh.den qko) :=
 (.ite (roomOk (w64 (lenI x.1+1)) 8)
  (.opt (LoopN.res qho (x.2.1,x.2.2,[],x.1,lenI x.1,0) ()) fun p0 =>
  (.ite (Nat.ble ((List.length p0.2.2.1+List.length [p0.2.1])*8) 140737488355328)
   (.ret (p0.2.2.1++[p0.2.1]))
   .fail))
  .fail)
def qfB (x:dens qjk):Bool:=(qjq x).val.isSome
def qeO (x:dens qjk):Sh.den qko:=(qjq x).getO default
theorem qmZ (x:dens qjk) (h:qfB x=true):(qjq x).val=some (qeO x):=PO.getO_ok default h
def qcl:LoopN where
 M:=[0,3,12,13]
 T:=[4,14,15,16,17,18,19]
 D:=[12,13]
 ss:=[.box 0 0,.win 1 .bool,.ty (.int .i64),.ty (.int .i64)]
 hs:=[shAsm 2 3,.rowc .bool,.mapc,.rowc .bool]
 es:=[.exit 0]
 σ:=(Ty.den (.int .i64))×(Sh.den (shAsm 2 3))×(Sh.den (.rowc .bool))×(Sh.den (.mapc))×(Sh.den (.rowc .bool))
 x0:=fun x y=>(x.2.2.2,y.1,y.2.1,y.2.2.1,y.2.2.2)
 put:=fun x _ s=>((x.1,x.2.1,x.2.2.1,s.1),(s.2.1,s.2.2.1,s.2.2.2.1,s.2.2.2.2))
 fuel:=fun _ y=>List.length y.2.1+1
 turn:=fun x _ s =>
 (.ite (decide (s.1<x.2.2.1))
  (.ite (inRange s.1 x.2.1.2)
  (.ret (.on (w64 (s.1+1),s.2.1,List.set s.2.2.1 (nplus x.2.1.1 s.1) true,s.2.2.2.1,s.2.2.2.2)))
  .fail)
  (.ret (.out 0 (s.1,s.2.1,s.2.2.1,s.2.2.2.1,s.2.2.2.2))))
def qci:LoopN where
 M:=[0,2,11,12,13]
 T:=[4,14,15,16,17,18,19,20]
 D:=[11,12,13]
 ss:=[.box 0 0,.ty (.int .i64),.ty (.sl tItem),.ty (.int .i64),.ty (.int .i64)]
 hs:=[shAsm 1 2,.mapc,.rowc .bool]
 es:=[.exit 0,.ret]
 σ:=(Ty.den (.int .i64))×(Ty.den (.int .i64))×(Sh.den (shAsm 1 2))×(Sh.den (.mapc))×(Sh.den (.rowc .bool))
 x0:=fun x y=>(x.2.1,x.2.2.2.2,y.1,y.2.1,y.2.2)
 put:=fun x _ s=>((x.1,s.1,x.2.2.1,x.2.2.2.1,s.2.1),(s.2.2.1,s.2.2.2.1,s.2.2.2.2))
 fuel:=fun _ y=>List.length y.1.1+1
 turn:=fun x _ s =>
 (.ite (decide (s.2.1<x.2.2.2.1))
  (.ite (inRange s.2.1 (List.length x.2.2.1))
  (.ite (!qcJ (List.getD x.2.2.1 (Int.toNat s.2.1) (Ty.dflt tItem)))
   (.ret (.out 1 (2,s.2.1,s.2.2.1,s.2.2.2.1,s.2.2.2.2)))
   (.ret (.on (s.1,w64 (s.2.1+1),s.2.2.1,s.2.2.2.1,s.2.2.2.2))))
  .fail)
  (.ret (.out 0 (s.1,s.2.1,s.2.2.1,s.2.2.2.1,s.2.2.2.2))))
def qch:LoopN where
 M:=[2,24,25,26]
 T:=[6,7,27,28,29,30,31,32,33,34,35,36,37,38,39]
 D:=[24,25,26]
 ss:=[.ty (.int .i64),.ty (.sl tItem),.ty (.int .i64),.ty (.int .i64)]
 hs:=[]
 es:=[.exit 2,.ret]
 σ:=(Ty.den (.int .i64))×(Ty.den (.int .i64))
 x0:=fun x _=>(x.1,x.2.2.2)
 put:=fun x _ s=>((s.1,x.2.1,x.2.2.1,s.2),())
 fuel:=fun x _=>List.length x.2.1+1
 turn:=fun x _ s =>
 (.ite (decide (s.2<x.2.2.1))
  (.ite (inRange s.2 (List.length x.2.1))
  (.ite ((List.getD x.2.1 (Int.toNat s.2) (Ty.dflt tItem)).1 != 0)
   (.ret (.on (s.1,w64 (s.2+1))))
   (.ite (qd (List.getD x.2.1 (Int.toNat s.2) (Ty.dflt tItem)).2.2.1 != 0)
   (.ret (.out 1 (qd (List.getD x.2.1 (Int.toNat s.2) (Ty.dflt tItem)).2.2.1,s.2)))
   (.ret (.on (s.1,w64 (s.2+1))))))
  .fail)
  (.ret (.out 0 (s.1,s.2))))
def qcn:LoopN where
 M:=[0,2,14,15,16]
 T:=[3,4,5,6,17,18,19,20,21,22,23,24,25,26,27,28,29,30,31,32,33,34,35,36,37,38,39,40,41,42]
 D:=[14,15,16]
 ss:=[.box 0 0,.ty (.int .i64),.ty (.sl tItem),.ty (.int .i64),.ty (.int .i64)]
 hs:=[shAsm 1 2,.mapc,.rowc .bool]
 es:=[.exit 0,.ret]
 σ:=(Ty.den (.int .i64))×(Ty.den (.int .i64))×(Sh.den (shAsm 1 2))×(Sh.den (.mapc))×(Sh.den (.rowc .bool))
 x0:=fun x y=>(x.2.1,x.2.2.2.2,y.1,y.2.1,y.2.2)
 put:=fun x _ s=>((x.1,s.1,x.2.2.1,x.2.2.2.1,s.2.1),(s.2.2.1,s.2.2.2.1,s.2.2.2.2))
 fuel:=fun _ y=>List.length y.1.1+1
 turn:=fun x _ s =>
 (.ite (decide (s.2.1<x.2.2.2.1))
  (.ite (inRange s.2.1 (List.length x.2.2.1))
  (.ite ((List.getD x.2.2.1 (Int.toNat s.2.1) (Ty.dflt tItem)).1 != 1)
   (.ret (.on (s.1,w64 (s.2.1+1),s.2.2.1,s.2.2.2.1,s.2.2.2.2)))
   (.ite (mhas s.2.2.2.1 (List.getD x.2.2.1 (Int.toNat s.2.1) (Ty.dflt tItem)).2.1)
   (.ret (.out 1 (13,s.2.1,s.2.2.1,s.2.2.2.1,s.2.2.2.2)))
   (.ret (.on (s.1,w64 (s.2.1+1),s.2.2.1,mput s.2.2.2.1 (List.getD x.2.2.1 (Int.toNat s.2.1) (Ty.dflt tItem)).2.1 s.2.1,s.2.2.2.2)))))
  .fail)
  (.ret (.out 0 (s.1,s.2.1,s.2.2.1,s.2.2.2.1,s.2.2.2.2))))
def qbU:LoopN where
 M:=[0,2,46,47,48]
 T:=[8,9,10,49,50,51,52,53,54,55,56,57,58,59,60,61,62,63,64,65,66,67,68,69]
 D:=[0,46,47,48]
 ss:=[.box 0 0,.ty (.int .i64),.ty (.sl tItem),.ty (.int .i64),.ty (.int .i64)]
 hs:=[shAsm 1 2,.mapc,.rowc .bool]
 es:=[.exit 2,.ret]
 σ:=(Ty.den (.int .i64))×(Ty.den (.int .i64))×(Sh.den (shAsm 1 2))×(Sh.den (.mapc))×(Sh.den (.rowc .bool))
 x0:=fun x y=>(x.2.1,x.2.2.2.2,y.1,y.2.1,y.2.2)
 put:=fun x _ s=>((x.1,s.1,x.2.2.1,x.2.2.2.1,s.2.1),(s.2.2.1,s.2.2.2.1,s.2.2.2.2))
 fuel:=fun _ y=>List.length y.1.1+1
 turn:=fun x _ s =>
 (.ite (decide (s.2.1<x.2.2.2.1))
  (.ite (inRange s.2.1 (List.length x.2.2.1))
  (.ite ((List.getD x.2.2.1 (Int.toNat s.2.1) (Ty.dflt tItem)).1==2&&!mhas s.2.2.2.1 (List.getD x.2.2.1 (Int.toNat s.2.1) (Ty.dflt tItem)).2.1)
   (.ret (.out 1 (12,s.2.1,s.2.2.1,s.2.2.2.1,s.2.2.2.2)))
   (.ret (.on (s.1,w64 (s.2.1+1),s.2.2.1,s.2.2.2.1,s.2.2.2.2))))
  .fail)
  (.ret (.out 0 (s.1,s.2.1,s.2.2.1,s.2.2.2.1,s.2.2.2.2))))
end Go.Av
end
section
namespace Go.Av
open Go
end Go.Av
end
section
namespace Go.Av
open Go
abbrev OffT:Type:=List tItem.den×List (Int×Int)×List Int×Int
def qcq (x:OffT):Bool:=inRange x.2.2.2 x.1.length&&(inRange (mval x.2.1 (x.1.getD x.2.2.2.toNat (Ty.dflt tItem)).2.1) x.2.2.1.length&&inRange x.2.2.2 x.2.2.1.length)
def qF (x:OffT):Int:=w64 (w64 (x.2.2.1.getD (mval x.2.1 (x.1.getD x.2.2.2.toNat (Ty.dflt tItem)).2.1).toNat 0-x.2.2.1.getD x.2.2.2.toNat 0)-4)
def snap_asm_assembler_offset:Plain:=fun l=>match l with
 |[⟨.tup (.tup (.ty .unit)),_⟩,⟨.ty (.sl e),it⟩,⟨.mapc,en⟩,⟨.ty (.sl (.int .i64)),at_⟩,⟨.ty (.int .i64),i⟩]=>(match Ty.dec e tItem with
  |isTrue h=>some (qcq ((h▸it:List tItem.den),en,at_,i),⟨.ty (.int .i64),qF ((h▸it:List tItem.den),en,at_,i)⟩)
  |isFalse _=>none)
 |_=>none
end Go.Av
end
section
namespace Go.Av
open Go
def shBld:Sh:=.tyc 127 (.pair (.nbox 0) (.pair (.tsl 5 0) (.ty .unit)))
abbrev shBldL (b r:Nat):Sh:=.tyc 127 (.pair (.nbox b) (.pair (.tsl 5 r) (.ty .unit)))
def shBldR:Sh:=.tyc 127 (.pair (.nbox 0) (.pair .top (.ty .unit)))
def qcK (x:List UInt8) (y:List UInt8):Bool:=Nat.ble (List.length x+List.length y) 140737488355328
def qd7 (x:List UInt8) (y:List UInt8):List UInt8:=x++y
def body_WriteString:Body:=bodyT [.box 0 0,.ty .str] [shBld] .top [shBld] (fun x y=>qcK y.2.1 x.2) (fun x y=>((),y.1,qd7 y.2.1 x.2,()))
def body_String:Body:=bodyT [.box 0 0] [shBld] (.ty .str) [shBldR] (fun _ _=>true) (fun _ y=>(y.2.1,y.1,(),()))
end Go.Av
end
section
namespace Go.Av
open Go
abbrev qcx:List Sh:=[.box 0 0]
abbrev qcr:List Sh:=[shAsm 1 2,.mapc,.rowc .bool]
abbrev qdF:Sh:=Sh.ty (Ty.int IntKind.i64)
abbrev qe1:List Sh:=[Sh.pair (Sh.ty (Ty.sl tItem)) (Sh.pair (Sh.ty (Ty.int IntKind.i64)) (Sh.pair (Sh.mp 1) (Sh.pair (Sh.win 2 Ty.bool) (Sh.ty Ty.unit)))),Sh.mapc,Sh.rowc Ty.bool]
def qcX (_:shDens qcx) (y:shDens qcr):PO (Sh.den qdF×shDens qe1) :=
 (.opt (LoopN.res qci ((),0,y.1.1,lenI y.1.1,0) ((y.1.1,y.1.2.1,(),y.1.2.2.2),y.2)) fun p0 =>
  (.ite (way p0.1)
  (.opt (LoopN.res qch (p0.2.1,p0.2.2.2.1.1,lenI p0.2.2.2.1.1,0) ()) fun p1 =>
   (.ite (way p1.1)
   (.ret (0,((p0.2.2.2.1.1,p0.2.2.2.1.2.1,(),p0.2.2.2.1.2.2.2),p0.2.2.2.2.1,p0.2.2.2.2.2)))
   (.ret (p1.2.1,((p0.2.2.2.1.1,p0.2.2.2.1.2.1,(),p0.2.2.2.1.2.2.2),p0.2.2.2.2.1,p0.2.2.2.2.2)))))
  (.ret (p0.2.1,((p0.2.2.2.1.1,p0.2.2.2.1.2.1,(),p0.2.2.2.1.2.2.2),p0.2.2.2.2.1,p0.2.2.2.2.2)))))
def qbM (x:shDens qcx) (y:shDens qcr):Bool:=(qcX x y).val.isSome
def qa (x:shDens qcx) (y:shDens qcr):Sh.den qdF×shDens qe1:=(qcX x y).getO default
theorem qkw (x:shDens qcx) (y:shDens qcr) (h:qbM x y=true):(qcX x y).val=some (qa x y):=PO.getO_ok default h
abbrev qcu:List Sh:=[.box 0 0]
abbrev qcB:List Sh:=[shAsm 1 2,.mapc,.rowc .bool]
abbrev qdC:Sh:=Sh.ty (Ty.int IntKind.i64)
abbrev qe2:List Sh:=[Sh.pair (Sh.ty (Ty.sl tItem)) (Sh.pair (Sh.ty (Ty.int IntKind.i64)) (Sh.pair (Sh.mp 1) (Sh.pair (Sh.win 2 Ty.bool) (Sh.ty Ty.unit)))),Sh.mapc,Sh.rowc Ty.bool]
def qcP (_:shDens qcu) (y:shDens qcB):PO (Sh.den qdC×shDens qe2) :=
 (.opt (LoopN.res qcn ((),0,y.1.1,lenI y.1.1,0) ((y.1.1,y.1.2.1,(),y.1.2.2.2),y.2)) fun p0 =>
  (.ite (way p0.1)
  (.opt (LoopN.res qbU ((),p0.2.1,p0.2.2.2.1.1,lenI p0.2.2.2.1.1,0) ((p0.2.2.2.1.1,p0.2.2.2.1.2.1,(),p0.2.2.2.1.2.2.2),p0.2.2.2.2)) fun p1 =>
   (.ite (way p1.1)
   (.ret (0,((p1.2.2.2.1.1,p1.2.2.2.1.2.1,(),p1.2.2.2.1.2.2.2),p1.2.2.2.2.1,p1.2.2.2.2.2)))
   (.ret (p1.2.1,((p1.2.2.2.1.1,p1.2.2.2.1.2.1,(),p1.2.2.2.1.2.2.2),p1.2.2.2.2.1,p1.2.2.2.2.2)))))
  (.ret (p0.2.1,((p0.2.2.2.1.1,p0.2.2.2.1.2.1,(),p0.2.2.2.1.2.2.2),p0.2.2.2.2.1,p0.2.2.2.2.2)))))
def qbO (x:shDens qcu) (y:shDens qcB):Bool:=(qcP x y).val.isSome
def qf (x:shDens qcu) (y:shDens qcB):Sh.den qdC×shDens qe2:=(qcP x y).getO default
theorem qku (x:shDens qcu) (y:shDens qcB) (h:qbO x y=true):(qcP x y).val=some (qf x y):=PO.getO_ok default h
abbrev qcz:List Sh:=[.box 0 0]
abbrev qcG:List Sh:=[shAsm 1 2,.mapc,.rowc .bool]
abbrev qdM:Sh:=Sh.ty Ty.bool
abbrev qe6:List Sh:=[Sh.pair (Sh.ty (Ty.sl tItem)) (Sh.pair (Sh.ty (Ty.int IntKind.i64)) (Sh.pair (Sh.mp 1) (Sh.pair (Sh.win 2 Ty.bool) (Sh.ty Ty.unit)))),Sh.mapc,Sh.rowc Ty.bool]
def qbK (_:shDens qcz) (y:shDens qcG):PO (Sh.den qdM×shDens qe6) :=
 (.ite (roomOk (lenI y.1.1) 1)
  (.opt (LoopN.res qcl ((),(0,nspan 0 (lenI y.1.1)),Int.ofNat (nspan 0 (lenI y.1.1)),0) ((y.1.1,y.1.2.1,(),y.1.2.2.2),zeros (lenI y.1.1) false,y.2)) fun p0 =>
  (.ite (qfB (p0.2.2.1.1,0,shown p0.2.2.2.1 (0,nspan 0 (lenI y.1.1)))&&inRange (lenI p0.2.2.1.1) (List.length (qeO (p0.2.2.1.1,0,shown p0.2.2.2.1 (0,nspan 0 (lenI y.1.1))))))
   (.ret (decide (List.getD (qeO (p0.2.2.1.1,0,shown p0.2.2.2.1 (0,nspan 0 (lenI y.1.1)))) (Int.toNat (lenI p0.2.2.1.1)) (Ty.dflt (Ty.int IntKind.i64)) > 262144),((p0.2.2.1.1,p0.2.2.1.2.1,(),p0.2.2.1.2.2.2),p0.2.2.2.2.1,p0.2.2.2.2.2)))
   .fail))
  .fail)
def qbN (x:shDens qcz) (y:shDens qcG):Bool:=(qbK x y).val.isSome
def qC (x:shDens qcz) (y:shDens qcG):Sh.den qdM×shDens qe6:=(qbK x y).getO default
theorem qky (x:shDens qcz) (y:shDens qcG) (h:qbN x y=true):(qbK x y).val=some (qC x y):=PO.getO_ok default h
abbrev qcD:List Sh:=[.box 0 0]
abbrev qcH:List Sh:=[shAsm 1 2,.mapc,.rowc .bool]
abbrev qdD:Sh:=Sh.ty (Ty.int IntKind.i64)
abbrev qfd:List Sh:=[Sh.pair (Sh.ty (Ty.sl tItem)) (Sh.pair (Sh.ty (Ty.int IntKind.i64)) (Sh.pair (Sh.mp 1) (Sh.pair (Sh.win 2 Ty.bool) (Sh.ty Ty.unit)))),Sh.mapc,Sh.rowc Ty.bool]
def qbQ (_:shDens qcD) (y:shDens qcH):PO (Sh.den qdD×shDens qfd) :=
 (.ite (decide (y.1.2.1<0)||(decide (y.1.2.1 > 262144)||band IntKind.i64 y.1.2.1 1 != 0))
  (.ret (2,((y.1.1,y.1.2.1,(),y.1.2.2.2),y.2.1,y.2.2)))
  (.ite (qbM () ((y.1.1,y.1.2.1,(),y.1.2.2.2),y.2))
  (.ite ((qa () ((y.1.1,y.1.2.1,(),y.1.2.2.2),y.2)).1 != 0)
   (.ret ((qa () ((y.1.1,y.1.2.1,(),y.1.2.2.2),y.2)).1,(((qa () ((y.1.1,y.1.2.1,(),y.1.2.2.2),y.2)).2.1.1,(qa () ((y.1.1,y.1.2.1,(),y.1.2.2.2),y.2)).2.1.2.1,(),(qa () ((y.1.1,y.1.2.1,(),y.1.2.2.2),y.2)).2.1.2.2.2),(qa () ((y.1.1,y.1.2.1,(),y.1.2.2.2),y.2)).2.2.1,(qa () ((y.1.1,y.1.2.1,(),y.1.2.2.2),y.2)).2.2.2)))
   (.ite (qbO () (((qa () ((y.1.1,y.1.2.1,(),y.1.2.2.2),y.2)).2.1.1,(qa () ((y.1.1,y.1.2.1,(),y.1.2.2.2),y.2)).2.1.2.1,(),(qa () ((y.1.1,y.1.2.1,(),y.1.2.2.2),y.2)).2.1.2.2.2),(qa () ((y.1.1,y.1.2.1,(),y.1.2.2.2),y.2)).2.2))
   (.ite ((qf () (((qa () ((y.1.1,y.1.2.1,(),y.1.2.2.2),y.2)).2.1.1,(qa () ((y.1.1,y.1.2.1,(),y.1.2.2.2),y.2)).2.1.2.1,(),(qa () ((y.1.1,y.1.2.1,(),y.1.2.2.2),y.2)).2.1.2.2.2),(qa () ((y.1.1,y.1.2.1,(),y.1.2.2.2),y.2)).2.2)).1 != 0)
    (.ret ((qf () (((qa () ((y.1.1,y.1.2.1,(),y.1.2.2.2),y.2)).2.1.1,(qa () ((y.1.1,y.1.2.1,(),y.1.2.2.2),y.2)).2.1.2.1,(),(qa () ((y.1.1,y.1.2.1,(),y.1.2.2.2),y.2)).2.1.2.2.2),(qa () ((y.1.1,y.1.2.1,(),y.1.2.2.2),y.2)).2.2)).1,(((qf () (((qa () ((y.1.1,y.1.2.1,(),y.1.2.2.2),y.2)).2.1.1,(qa () ((y.1.1,y.1.2.1,(),y.1.2.2.2),y.2)).2.1.2.1,(),(qa () ((y.1.1,y.1.2.1,(),y.1.2.2.2),y.2)).2.1.2.2.2),(qa () ((y.1.1,y.1.2.1,(),y.1.2.2.2),y.2)).2.2)).2.1.1,(qf () (((qa () ((y.1.1,y.1.2.1,(),y.1.2.2.2),y.2)).2.1.1,(qa () ((y.1.1,y.1.2.1,(),y.1.2.2.2),y.2)).2.1.2.1,(),(qa () ((y.1.1,y.1.2.1,(),y.1.2.2.2),y.2)).2.1.2.2.2),(qa () ((y.1.1,y.1.2.1,(),y.1.2.2.2),y.2)).2.2)).2.1.2.1,(),(qf () (((qa () ((y.1.1,y.1.2.1,(),y.1.2.2.2),y.2)).2.1.1,(qa () ((y.1.1,y.1.2.1,(),y.1.2.2.2),y.2)).2.1.2.1,(),(qa () ((y.1.1,y.1.2.1,(),y.1.2.2.2),y.2)).2.1.2.2.2),(qa () ((y.1.1,y.1.2.1,(),y.1.2.2.2),y.2)).2.2)).2.1.2.2.2),(qf () (((qa () ((y.1.1,y.1.2.1,(),y.1.2.2.2),y.2)).2.1.1,(qa () ((y.1.1,y.1.2.1,(),y.1.2.2.2),y.2)).2.1.2.1,(),(qa () ((y.1.1,y.1.2.1,(),y.1.2.2.2),y.2)).2.1.2.2.2),(qa () ((y.1.1,y.1.2.1,(),y.1.2.2.2),y.2)).2.2)).2.2.1,(qf () (((qa () ((y.1.1,y.1.2.1,(),y.1.2.2.2),y.2)).2.1.1,(qa () ((y.1.1,y.1.2.1,(),y.1.2.2.2),y.2)).2.1.2.1,(),(qa () ((y.1.1,y.1.2.1,(),y.1.2.2.2),y.2)).2.1.2.2.2),(qa () ((y.1.1,y.1.2.1,(),y.1.2.2.2),y.2)).2.2)).2.2.2)))
    (.ite (qbN () (((qf () (((qa () ((y.1.1,y.1.2.1,(),y.1.2.2.2),y.2)).2.1.1,(qa () ((y.1.1,y.1.2.1,(),y.1.2.2.2),y.2)).2.1.2.1,(),(qa () ((y.1.1,y.1.2.1,(),y.1.2.2.2),y.2)).2.1.2.2.2),(qa () ((y.1.1,y.1.2.1,(),y.1.2.2.2),y.2)).2.2)).2.1.1,(qf () (((qa () ((y.1.1,y.1.2.1,(),y.1.2.2.2),y.2)).2.1.1,(qa () ((y.1.1,y.1.2.1,(),y.1.2.2.2),y.2)).2.1.2.1,(),(qa () ((y.1.1,y.1.2.1,(),y.1.2.2.2),y.2)).2.1.2.2.2),(qa () ((y.1.1,y.1.2.1,(),y.1.2.2.2),y.2)).2.2)).2.1.2.1,(),(qf () (((qa () ((y.1.1,y.1.2.1,(),y.1.2.2.2),y.2)).2.1.1,(qa () ((y.1.1,y.1.2.1,(),y.1.2.2.2),y.2)).2.1.2.1,(),(qa () ((y.1.1,y.1.2.1,(),y.1.2.2.2),y.2)).2.1.2.2.2),(qa () ((y.1.1,y.1.2.1,(),y.1.2.2.2),y.2)).2.2)).2.1.2.2.2),(qf () (((qa () ((y.1.1,y.1.2.1,(),y.1.2.2.2),y.2)).2.1.1,(qa () ((y.1.1,y.1.2.1,(),y.1.2.2.2),y.2)).2.1.2.1,(),(qa () ((y.1.1,y.1.2.1,(),y.1.2.2.2),y.2)).2.1.2.2.2),(qa () ((y.1.1,y.1.2.1,(),y.1.2.2.2),y.2)).2.2)).2.2))
    (.ite ((qC () (((qf () (((qa () ((y.1.1,y.1.2.1,(),y.1.2.2.2),y.2)).2.1.1,(qa () ((y.1.1,y.1.2.1,(),y.1.2.2.2),y.2)).2.1.2.1,(),(qa () ((y.1.1,y.1.2.1,(),y.1.2.2.2),y.2)).2.1.2.2.2),(qa () ((y.1.1,y.1.2.1,(),y.1.2.2.2),y.2)).2.2)).2.1.1,(qf () (((qa () ((y.1.1,y.1.2.1,(),y.1.2.2.2),y.2)).2.1.1,(qa () ((y.1.1,y.1.2.1,(),y.1.2.2.2),y.2)).2.1.2.1,(),(qa () ((y.1.1,y.1.2.1,(),y.1.2.2.2),y.2)).2.1.2.2.2),(qa () ((y.1.1,y.1.2.1,(),y.1.2.2.2),y.2)).2.2)).2.1.2.1,(),(qf () (((qa () ((y.1.1,y.1.2.1,(),y.1.2.2.2),y.2)).2.1.1,(qa () ((y.1.1,y.1.2.1,(),y.1.2.2.2),y.2)).2.1.2.1,(),(qa () ((y.1.1,y.1.2.1,(),y.1.2.2.2),y.2)).2.1.2.2.2),(qa () ((y.1.1,y.1.2.1,(),y.1.2.2.2),y.2)).2.2)).2.1.2.2.2),(qf () (((qa () ((y.1.1,y.1.2.1,(),y.1.2.2.2),y.2)).2.1.1,(qa () ((y.1.1,y.1.2.1,(),y.1.2.2.2),y.2)).2.1.2.1,(),(qa () ((y.1.1,y.1.2.1,(),y.1.2.2.2),y.2)).2.1.2.2.2),(qa () ((y.1.1,y.1.2.1,(),y.1.2.2.2),y.2)).2.2)).2.2)).1)
     (.ret (5,(((qC () (((qf () (((qa () ((y.1.1,y.1.2.1,(),y.1.2.2.2),y.2)).2.1.1,(qa () ((y.1.1,y.1.2.1,(),y.1.2.2.2),y.2)).2.1.2.1,(),(qa () ((y.1.1,y.1.2.1,(),y.1.2.2.2),y.2)).2.1.2.2.2),(qa () ((y.1.1,y.1.2.1,(),y.1.2.2.2),y.2)).2.2)).2.1.1,(qf () (((qa () ((y.1.1,y.1.2.1,(),y.1.2.2.2),y.2)).2.1.1,(qa () ((y.1.1,y.1.2.1,(),y.1.2.2.2),y.2)).2.1.2.1,(),(qa () ((y.1.1,y.1.2.1,(),y.1.2.2.2),y.2)).2.1.2.2.2),(qa () ((y.1.1,y.1.2.1,(),y.1.2.2.2),y.2)).2.2)).2.1.2.1,(),(qf () (((qa () ((y.1.1,y.1.2.1,(),y.1.2.2.2),y.2)).2.1.1,(qa () ((y.1.1,y.1.2.1,(),y.1.2.2.2),y.2)).2.1.2.1,(),(qa () ((y.1.1,y.1.2.1,(),y.1.2.2.2),y.2)).2.1.2.2.2),(qa () ((y.1.1,y.1.2.1,(),y.1.2.2.2),y.2)).2.2)).2.1.2.2.2),(qf () (((qa () ((y.1.1,y.1.2.1,(),y.1.2.2.2),y.2)).2.1.1,(qa () ((y.1.1,y.1.2.1,(),y.1.2.2.2),y.2)).2.1.2.1,(),(qa () ((y.1.1,y.1.2.1,(),y.1.2.2.2),y.2)).2.1.2.2.2),(qa () ((y.1.1,y.1.2.1,(),y.1.2.2.2),y.2)).2.2)).2.2)).2.1.1,(qC () (((qf () (((qa () ((y.1.1,y.1.2.1,(),y.1.2.2.2),y.2)).2.1.1,(qa () ((y.1.1,y.1.2.1,(),y.1.2.2.2),y.2)).2.1.2.1,(),(qa () ((y.1.1,y.1.2.1,(),y.1.2.2.2),y.2)).2.1.2.2.2),(qa () ((y.1.1,y.1.2.1,(),y.1.2.2.2),y.2)).2.2)).2.1.1,(qf () (((qa () ((y.1.1,y.1.2.1,(),y.1.2.2.2),y.2)).2.1.1,(qa () ((y.1.1,y.1.2.1,(),y.1.2.2.2),y.2)).2.1.2.1,(),(qa () ((y.1.1,y.1.2.1,(),y.1.2.2.2),y.2)).2.1.2.2.2),(qa () ((y.1.1,y.1.2.1,(),y.1.2.2.2),y.2)).2.2)).2.1.2.1,(),(qf () (((qa () ((y.1.1,y.1.2.1,(),y.1.2.2.2),y.2)).2.1.1,(qa () ((y.1.1,y.1.2.1,(),y.1.2.2.2),y.2)).2.1.2.1,(),(qa () ((y.1.1,y.1.2.1,(),y.1.2.2.2),y.2)).2.1.2.2.2),(qa () ((y.1.1,y.1.2.1,(),y.1.2.2.2),y.2)).2.2)).2.1.2.2.2),(qf () (((qa () ((y.1.1,y.1.2.1,(),y.1.2.2.2),y.2)).2.1.1,(qa () ((y.1.1,y.1.2.1,(),y.1.2.2.2),y.2)).2.1.2.1,(),(qa () ((y.1.1,y.1.2.1,(),y.1.2.2.2),y.2)).2.1.2.2.2),(qa () ((y.1.1,y.1.2.1,(),y.1.2.2.2),y.2)).2.2)).2.2)).2.1.2.1,(),(qC () (((qf () (((qa () ((y.1.1,y.1.2.1,(),y.1.2.2.2),y.2)).2.1.1,(qa () ((y.1.1,y.1.2.1,(),y.1.2.2.2),y.2)).2.1.2.1,(),(qa () ((y.1.1,y.1.2.1,(),y.1.2.2.2),y.2)).2.1.2.2.2),(qa () ((y.1.1,y.1.2.1,(),y.1.2.2.2),y.2)).2.2)).2.1.1,(qf () (((qa () ((y.1.1,y.1.2.1,(),y.1.2.2.2),y.2)).2.1.1,(qa () ((y.1.1,y.1.2.1,(),y.1.2.2.2),y.2)).2.1.2.1,(),(qa () ((y.1.1,y.1.2.1,(),y.1.2.2.2),y.2)).2.1.2.2.2),(qa () ((y.1.1,y.1.2.1,(),y.1.2.2.2),y.2)).2.2)).2.1.2.1,(),(qf () (((qa () ((y.1.1,y.1.2.1,(),y.1.2.2.2),y.2)).2.1.1,(qa () ((y.1.1,y.1.2.1,(),y.1.2.2.2),y.2)).2.1.2.1,(),(qa () ((y.1.1,y.1.2.1,(),y.1.2.2.2),y.2)).2.1.2.2.2),(qa () ((y.1.1,y.1.2.1,(),y.1.2.2.2),y.2)).2.2)).2.1.2.2.2),(qf () (((qa () ((y.1.1,y.1.2.1,(),y.1.2.2.2),y.2)).2.1.1,(qa () ((y.1.1,y.1.2.1,(),y.1.2.2.2),y.2)).2.1.2.1,(),(qa () ((y.1.1,y.1.2.1,(),y.1.2.2.2),y.2)).2.1.2.2.2),(qa () ((y.1.1,y.1.2.1,(),y.1.2.2.2),y.2)).2.2)).2.2)).2.1.2.2.2),(qC () (((qf () (((qa () ((y.1.1,y.1.2.1,(),y.1.2.2.2),y.2)).2.1.1,(qa () ((y.1.1,y.1.2.1,(),y.1.2.2.2),y.2)).2.1.2.1,(),(qa () ((y.1.1,y.1.2.1,(),y.1.2.2.2),y.2)).2.1.2.2.2),(qa () ((y.1.1,y.1.2.1,(),y.1.2.2.2),y.2)).2.2)).2.1.1,(qf () (((qa () ((y.1.1,y.1.2.1,(),y.1.2.2.2),y.2)).2.1.1,(qa () ((y.1.1,y.1.2.1,(),y.1.2.2.2),y.2)).2.1.2.1,(),(qa () ((y.1.1,y.1.2.1,(),y.1.2.2.2),y.2)).2.1.2.2.2),(qa () ((y.1.1,y.1.2.1,(),y.1.2.2.2),y.2)).2.2)).2.1.2.1,(),(qf () (((qa () ((y.1.1,y.1.2.1,(),y.1.2.2.2),y.2)).2.1.1,(qa () ((y.1.1,y.1.2.1,(),y.1.2.2.2),y.2)).2.1.2.1,(),(qa () ((y.1.1,y.1.2.1,(),y.1.2.2.2),y.2)).2.1.2.2.2),(qa () ((y.1.1,y.1.2.1,(),y.1.2.2.2),y.2)).2.2)).2.1.2.2.2),(qf () (((qa () ((y.1.1,y.1.2.1,(),y.1.2.2.2),y.2)).2.1.1,(qa () ((y.1.1,y.1.2.1,(),y.1.2.2.2),y.2)).2.1.2.1,(),(qa () ((y.1.1,y.1.2.1,(),y.1.2.2.2),y.2)).2.1.2.2.2),(qa () ((y.1.1,y.1.2.1,(),y.1.2.2.2),y.2)).2.2)).2.2)).2.2.1,(qC () (((qf () (((qa () ((y.1.1,y.1.2.1,(),y.1.2.2.2),y.2)).2.1.1,(qa () ((y.1.1,y.1.2.1,(),y.1.2.2.2),y.2)).2.1.2.1,(),(qa () ((y.1.1,y.1.2.1,(),y.1.2.2.2),y.2)).2.1.2.2.2),(qa () ((y.1.1,y.1.2.1,(),y.1.2.2.2),y.2)).2.2)).2.1.1,(qf () (((qa () ((y.1.1,y.1.2.1,(),y.1.2.2.2),y.2)).2.1.1,(qa () ((y.1.1,y.1.2.1,(),y.1.2.2.2),y.2)).2.1.2.1,(),(qa () ((y.1.1,y.1.2.1,(),y.1.2.2.2),y.2)).2.1.2.2.2),(qa () ((y.1.1,y.1.2.1,(),y.1.2.2.2),y.2)).2.2)).2.1.2.1,(),(qf () (((qa () ((y.1.1,y.1.2.1,(),y.1.2.2.2),y.2)).2.1.1,(qa () ((y.1.1,y.1.2.1,(),y.1.2.2.2),y.2)).2.1.2.1,(),(qa () ((y.1.1,y.1.2.1,(),y.1.2.2.2),y.2)).2.1.2.2.2),(qa () ((y.1.1,y.1.2.1,(),y.1.2.2.2),y.2)).2.2)).2.1.2.2.2),(qf () (((qa () ((y.1.1,y.1.2.1,(),y.1.2.2.2),y.2)).2.1.1,(qa () ((y.1.1,y.1.2.1,(),y.1.2.2.2),y.2)).2.1.2.1,(),(qa () ((y.1.1,y.1.2.1,(),y.1.2.2.2),y.2)).2.1.2.2.2),(qa () ((y.1.1,y.1.2.1,(),y.1.2.2.2),y.2)).2.2)).2.2)).2.2.2)))
     (.ret (0,(((qC () (((qf () (((qa () ((y.1.1,y.1.2.1,(),y.1.2.2.2),y.2)).2.1.1,(qa () ((y.1.1,y.1.2.1,(),y.1.2.2.2),y.2)).2.1.2.1,(),(qa () ((y.1.1,y.1.2.1,(),y.1.2.2.2),y.2)).2.1.2.2.2),(qa () ((y.1.1,y.1.2.1,(),y.1.2.2.2),y.2)).2.2)).2.1.1,(qf () (((qa () ((y.1.1,y.1.2.1,(),y.1.2.2.2),y.2)).2.1.1,(qa () ((y.1.1,y.1.2.1,(),y.1.2.2.2),y.2)).2.1.2.1,(),(qa () ((y.1.1,y.1.2.1,(),y.1.2.2.2),y.2)).2.1.2.2.2),(qa () ((y.1.1,y.1.2.1,(),y.1.2.2.2),y.2)).2.2)).2.1.2.1,(),(qf () (((qa () ((y.1.1,y.1.2.1,(),y.1.2.2.2),y.2)).2.1.1,(qa () ((y.1.1,y.1.2.1,(),y.1.2.2.2),y.2)).2.1.2.1,(),(qa () ((y.1.1,y.1.2.1,(),y.1.2.2.2),y.2)).2.1.2.2.2),(qa () ((y.1.1,y.1.2.1,(),y.1.2.2.2),y.2)).2.2)).2.1.2.2.2),(qf () (((qa () ((y.1.1,y.1.2.1,(),y.1.2.2.2),y.2)).2.1.1,(qa () ((y.1.1,y.1.2.1,(),y.1.2.2.2),y.2)).2.1.2.1,(),(qa () ((y.1.1,y.1.2.1,(),y.1.2.2.2),y.2)).2.1.2.2.2),(qa () ((y.1.1,y.1.2.1,(),y.1.2.2.2),y.2)).2.2)).2.2)).2.1.1,(qC () (((qf () (((qa () ((y.1.1,y.1.2.1,(),y.1.2.2.2),y.2)).2.1.1,(qa () ((y.1.1,y.1.2.1,(),y.1.2.2.2),y.2)).2.1.2.1,(),(qa () ((y.1.1,y.1.2.1,(),y.1.2.2.2),y.2)).2.1.2.2.2),(qa () ((y.1.1,y.1.2.1,(),y.1.2.2.2),y.2)).2.2)).2.1.1,(qf () (((qa () ((y.1.1,y.1.2.1,(),y.1.2.2.2),y.2)).2.1.1,(qa () ((y.1.1,y.1.2.1,(),y.1.2.2.2),y.2)).2.1.2.1,(),(qa () ((y.1.1,y.1.2.1,(),y.1.2.2.2),y.2)).2.1.2.2.2),(qa () ((y.1.1,y.1.2.1,(),y.1.2.2.2),y.2)).2.2)).2.1.2.1,(),(qf () (((qa () ((y.1.1,y.1.2.1,(),y.1.2.2.2),y.2)).2.1.1,(qa () ((y.1.1,y.1.2.1,(),y.1.2.2.2),y.2)).2.1.2.1,(),(qa () ((y.1.1,y.1.2.1,(),y.1.2.2.2),y.2)).2.1.2.2.2),(qa () ((y.1.1,y.1.2.1,(),y.1.2.2.2),y.2)).2.2)).2.1.2.2.2),(qf () (((qa () ((y.1.1,y.1.2.1,(),y.1.2.2.2),y.2)).2.1.1,(qa () ((y.1.1,y.1.2.1,(),y.1.2.2.2),y.2)).2.1.2.1,(),(qa () ((y.1.1,y.1.2.1,(),y.1.2.2.2),y.2)).2.1.2.2.2),(qa () ((y.1.1,y.1.2.1,(),y.1.2.2.2),y.2)).2.2)).2.2)).2.1.2.1,(),(qC () (((qf () (((qa () ((y.1.1,y.1.2.1,(),y.1.2.2.2),y.2)).2.1.1,(qa () ((y.1.1,y.1.2.1,(),y.1.2.2.2),y.2)).2.1.2.1,(),(qa () ((y.1.1,y.1.2.1,(),y.1.2.2.2),y.2)).2.1.2.2.2),(qa () ((y.1.1,y.1.2.1,(),y.1.2.2.2),y.2)).2.2)).2.1.1,(qf () (((qa () ((y.1.1,y.1.2.1,(),y.1.2.2.2),y.2)).2.1.1,(qa () ((y.1.1,y.1.2.1,(),y.1.2.2.2),y.2)).2.1.2.1,(),(qa () ((y.1.1,y.1.2.1,(),y.1.2.2.2),y.2)).2.1.2.2.2),(qa () ((y.1.1,y.1.2.1,(),y.1.2.2.2),y.2)).2.2)).2.1.2.1,(),(qf () (((qa () ((y.1.1,y.1.2.1,(),y.1.2.2.2),y.2)).2.1.1,(qa () ((y.1.1,y.1.2.1,(),y.1.2.2.2),y.2)).2.1.2.1,(),(qa () ((y.1.1,y.1.2.1,(),y.1.2.2.2),y.2)).2.1.2.2.2),(qa () ((y.1.1,y.1.2.1,(),y.1.2.2.2),y.2)).2.2)).2.1.2.2.2),(qf () (((qa () ((y.1.1,y.1.2.1,(),y.1.2.2.2),y.2)).2.1.1,(qa () ((y.1.1,y.1.2.1,(),y.1.2.2.2),y.2)).2.1.2.1,(),(qa () ((y.1.1,y.1.2.1,(),y.1.2.2.2),y.2)).2.1.2.2.2),(qa () ((y.1.1,y.1.2.1,(),y.1.2.2.2),y.2)).2.2)).2.2)).2.1.2.2.2),(qC () (((qf () (((qa () ((y.1.1,y.1.2.1,(),y.1.2.2.2),y.2)).2.1.1,(qa () ((y.1.1,y.1.2.1,(),y.1.2.2.2),y.2)).2.1.2.1,(),(qa () ((y.1.1,y.1.2.1,(),y.1.2.2.2),y.2)).2.1.2.2.2),(qa () ((y.1.1,y.1.2.1,(),y.1.2.2.2),y.2)).2.2)).2.1.1,(qf () (((qa () ((y.1.1,y.1.2.1,(),y.1.2.2.2),y.2)).2.1.1,(qa () ((y.1.1,y.1.2.1,(),y.1.2.2.2),y.2)).2.1.2.1,(),(qa () ((y.1.1,y.1.2.1,(),y.1.2.2.2),y.2)).2.1.2.2.2),(qa () ((y.1.1,y.1.2.1,(),y.1.2.2.2),y.2)).2.2)).2.1.2.1,(),(qf () (((qa () ((y.1.1,y.1.2.1,(),y.1.2.2.2),y.2)).2.1.1,(qa () ((y.1.1,y.1.2.1,(),y.1.2.2.2),y.2)).2.1.2.1,(),(qa () ((y.1.1,y.1.2.1,(),y.1.2.2.2),y.2)).2.1.2.2.2),(qa () ((y.1.1,y.1.2.1,(),y.1.2.2.2),y.2)).2.2)).2.1.2.2.2),(qf () (((qa () ((y.1.1,y.1.2.1,(),y.1.2.2.2),y.2)).2.1.1,(qa () ((y.1.1,y.1.2.1,(),y.1.2.2.2),y.2)).2.1.2.1,(),(qa () ((y.1.1,y.1.2.1,(),y.1.2.2.2),y.2)).2.1.2.2.2),(qa () ((y.1.1,y.1.2.1,(),y.1.2.2.2),y.2)).2.2)).2.2)).2.2.1,(qC () (((qf () (((qa () ((y.1.1,y.1.2.1,(),y.1.2.2.2),y.2)).2.1.1,(qa () ((y.1.1,y.1.2.1,(),y.1.2.2.2),y.2)).2.1.2.1,(),(qa () ((y.1.1,y.1.2.1,(),y.1.2.2.2),y.2)).2.1.2.2.2),(qa () ((y.1.1,y.1.2.1,(),y.1.2.2.2),y.2)).2.2)).2.1.1,(qf () (((qa () ((y.1.1,y.1.2.1,(),y.1.2.2.2),y.2)).2.1.1,(qa () ((y.1.1,y.1.2.1,(),y.1.2.2.2),y.2)).2.1.2.1,(),(qa () ((y.1.1,y.1.2.1,(),y.1.2.2.2),y.2)).2.1.2.2.2),(qa () ((y.1.1,y.1.2.1,(),y.1.2.2.2),y.2)).2.2)).2.1.2.1,(),(qf () (((qa () ((y.1.1,y.1.2.1,(),y.1.2.2.2),y.2)).2.1.1,(qa () ((y.1.1,y.1.2.1,(),y.1.2.2.2),y.2)).2.1.2.1,(),(qa () ((y.1.1,y.1.2.1,(),y.1.2.2.2),y.2)).2.1.2.2.2),(qa () ((y.1.1,y.1.2.1,(),y.1.2.2.2),y.2)).2.2)).2.1.2.2.2),(qf () (((qa () ((y.1.1,y.1.2.1,(),y.1.2.2.2),y.2)).2.1.1,(qa () ((y.1.1,y.1.2.1,(),y.1.2.2.2),y.2)).2.1.2.1,(),(qa () ((y.1.1,y.1.2.1,(),y.1.2.2.2),y.2)).2.1.2.2.2),(qa () ((y.1.1,y.1.2.1,(),y.1.2.2.2),y.2)).2.2)).2.2)).2.2.2))))
    .fail))
   .fail))
  .fail))
def qbJ (x:shDens qcD) (y:shDens qcH):Bool:=(qbQ x y).val.isSome
def qbS (x:shDens qcD) (y:shDens qcH):Sh.den qdD×shDens qfd:=(qbQ x y).getO default
theorem qkx (x:shDens qcD) (y:shDens qcH) (h:qbJ x y=true):(qbQ x y).val=some (qbS x y):=PO.getO_ok default h
def qck:LoopN where
 M:=[0,3,4,26,27,28]
 T:=[5,6,7,8,9,29,30,31,32,33,34,35,36,37,38,39,40,41,42,43,44,45,46,47,48,49,50,51,52,53,54,55,56,57,58,59,60,61,62,63,64,65,66,67,68,69,70]
 D:=[0,3,26,27,28]
 ss:=[.box 0 0,.ty (.sl (.int .i64)),.ty .bool,.ty (.sl tItem),.ty (.int .i64),.ty (.int .i64)]
 hs:=[shAsm 1 2,.mapc,.rowc .bool]
 es:=[.exit 0]
 σ:=(Ty.den .bool)×(Ty.den (.int .i64))×(Sh.den (shAsm 1 2))×(Sh.den (.mapc))×(Sh.den (.rowc .bool))
 x0:=fun x y=>(x.2.2.1,x.2.2.2.2.2,y.1,y.2.1,y.2.2)
 put:=fun x _ s=>((x.1,x.2.1,s.1,x.2.2.2.1,x.2.2.2.2.1,s.2.1),(s.2.2.1,s.2.2.2.1,s.2.2.2.2))
 fuel:=fun _ y=>List.length y.1.1+1
 turn:=fun x _ s =>
 (.ite (decide (s.2.1<x.2.2.2.2.1))
  (.ite (inRange s.2.1 (List.length x.2.2.2.1))
  (.ite ((List.getD x.2.2.2.1 (Int.toNat s.2.1) (Ty.dflt tItem)).1 != 2||inRange s.2.1 s.2.2.1.2.2.2.1.2)
   (.ite ((List.getD x.2.2.2.1 (Int.toNat s.2.1) (Ty.dflt tItem)).1 != 2||List.getD s.2.2.2.2 (nplus s.2.2.1.2.2.2.1.1 s.2.1) (Ty.dflt Ty.bool))
   (.ret (.on (s.1,w64 (s.2.1+1),s.2.2.1,s.2.2.2.1,s.2.2.2.2)))
   (.ite (qcq (s.2.2.1.1,s.2.2.2.1,x.2.1,s.2.1))
    (.ite (decide (qF (s.2.2.1.1,s.2.2.2.1,x.2.1,s.2.1)<(qP ((List.getD x.2.2.2.1 (Int.toNat s.2.1) (Ty.dflt tItem)).2.2.1.1,false)).1)||decide (qF (s.2.2.1.1,s.2.2.2.1,x.2.1,s.2.1) > (qP ((List.getD x.2.2.2.1 (Int.toNat s.2.1) (Ty.dflt tItem)).2.2.1.1,false)).2.1))
    (.ite (inRange s.2.1 s.2.2.1.2.2.2.1.2)
     (.ret (.on (true,w64 (s.2.1+1),s.2.2.1,s.2.2.2.1,List.set s.2.2.2.2 (nplus s.2.2.1.2.2.2.1.1 s.2.1) true)))
     .fail)
    (.ret (.on (s.1,w64 (s.2.1+1),s.2.2.1,s.2.2.2.1,s.2.2.2.2))))
    .fail))
   .fail)
  .fail)
  (.ret (.out 0 (s.1,s.2.1,s.2.2.1,s.2.2.2.1,s.2.2.2.2))))
abbrev qcy:List Sh:=[.box 0 0]
abbrev qcs:List Sh:=[shAsm 1 2,.mapc,.rowc .bool]
abbrev qdK:Sh:=Sh.ty Ty.bool
abbrev qfa:List Sh:=[Sh.pair (Sh.ty (Ty.sl tItem)) (Sh.pair (Sh.ty (Ty.int IntKind.i64)) (Sh.pair (Sh.mp 1) (Sh.pair (Sh.win 2 Ty.bool) (Sh.ty Ty.unit)))),Sh.mapc,Sh.rowc Ty.bool]
def qbI (_:shDens qcy) (y:shDens qcs):PO (Sh.den qdK×shDens qfa) :=
 (.ite (qfB (y.1.1,y.1.2.1,shown y.2.2 y.1.2.2.2.1))
  (.opt (LoopN.res qck ((),qeO (y.1.1,y.1.2.1,shown y.2.2 y.1.2.2.2.1),false,y.1.1,lenI y.1.1,0) ((y.1.1,y.1.2.1,(),y.1.2.2.2),y.2)) fun p0 =>
  (.ret (p0.2.1,((p0.2.2.2.1.1,p0.2.2.2.1.2.1,(),p0.2.2.2.1.2.2.2),p0.2.2.2.2.1,p0.2.2.2.2.2))))
  .fail)
def qbL (x:shDens qcy) (y:shDens qcs):Bool:=(qbI x y).val.isSome
def qw (x:shDens qcy) (y:shDens qcs):Sh.den qdK×shDens qfa:=(qbI x y).getO default
theorem qkB (x:shDens qcy) (y:shDens qcs) (h:qbL x y=true):(qbI x y).val=some (qw x y):=PO.getO_ok default h
def qeh:LoopN where
 M:=[0,1,7]
 T:=[29,30,31]
 D:=[]
 ss:=[.ty (.sl tItem),.ty (.int .i64),.box 0 0]
 hs:=[shAsm 1 2,.mapc,.rowc .bool]
 es:=[.exit 0]
 σ:=(Sh.den (shAsm 1 2))×(Sh.den (.mapc))×(Sh.den (.rowc .bool))
 x0:=fun _ y=>(y.1,y.2.1,y.2.2)
 put:=fun x _ s=>((x.1,x.2.1,x.2.2),(s.1,s.2.1,s.2.2))
 fuel:=fun _ y=>List.length y.1.1+2
 turn:=fun _ _ s =>
 (.ite (qbL () ((s.1.1,s.1.2.1,(),s.1.2.2.2),s.2))
  (.ite (!(qw () ((s.1.1,s.1.2.1,(),s.1.2.2.2),s.2)).1)
  (.ret (.out 0 (((qw () ((s.1.1,s.1.2.1,(),s.1.2.2.2),s.2)).2.1.1,(qw () ((s.1.1,s.1.2.1,(),s.1.2.2.2),s.2)).2.1.2.1,(),(qw () ((s.1.1,s.1.2.1,(),s.1.2.2.2),s.2)).2.1.2.2.2),(qw () ((s.1.1,s.1.2.1,(),s.1.2.2.2),s.2)).2.2.1,(qw () ((s.1.1,s.1.2.1,(),s.1.2.2.2),s.2)).2.2.2)))
  (.ret (.on (((qw () ((s.1.1,s.1.2.1,(),s.1.2.2.2),s.2)).2.1.1,(qw () ((s.1.1,s.1.2.1,(),s.1.2.2.2),s.2)).2.1.2.1,(),(qw () ((s.1.1,s.1.2.1,(),s.1.2.2.2),s.2)).2.1.2.2.2),(qw () ((s.1.1,s.1.2.1,(),s.1.2.2.2),s.2)).2.2.1,(qw () ((s.1.1,s.1.2.1,(),s.1.2.2.2),s.2)).2.2.2))))
  .fail)
def qdR:LoopN where
 M:=[7,9,10,11,39,40,41]
 T:=[12,13,14,15,42,43,44,45,46,47,48,49,50,51,52,53,54,55,56,57,58,59,60,61,62,63,64,65,66,67,68,69,70,71,72,73,74,75,76,77,78,79,80,81,82,83,84,85,86,87,88,89]
 D:=[7,9,39,40,41]
 ss:=[.box 0 0,.osl 0 (.int .i64),.box 1 0,.osl 1 tPlace,.ty (.sl tItem),.ty (.int .i64),.ty (.int .i64)]
 hs:=[shAsm 2 3,shBldL 1 2,.mapc,.rowc .bool]
 es:=[.exit 2]
 σ:=(Sh.den (.osl 1 tPlace))×(Ty.den (.int .i64))×(Sh.den (shAsm 2 3))×(Sh.den (shBldL 1 2))×(Sh.den (.mapc))×(Sh.den (.rowc .bool))
 x0:=fun x y=>(x.2.2.2.1,x.2.2.2.2.2.2,y.1,y.2.1,y.2.2.1,y.2.2.2)
 put:=fun x _ s=>((x.1,x.2.1,x.2.2.1,s.1,x.2.2.2.2.1,x.2.2.2.2.2.1,s.2.1),(s.2.2.1,s.2.2.2.1,s.2.2.2.2.1,s.2.2.2.2.2))
 fuel:=fun x _=>List.length x.2.2.2.2.1+1
 turn:=fun x _ s =>
 (.ite (decide (s.2.1<x.2.2.2.2.2.1))
  (.ite (inRange s.2.1 (List.length x.2.2.2.2.1))
  (.ite ((List.getD x.2.2.2.2.1 (Int.toNat s.2.1) (Ty.dflt tItem)).1==1)
   (.ite (inRange s.2.1 (List.length x.2.1))
   (.ite (Nat.ble ((List.length s.1+List.length [((List.getD x.2.2.2.2.1 (Int.toNat s.2.1) (Ty.dflt tItem)).2.1,List.getD x.2.1 (Int.toNat s.2.1) (Ty.dflt (Ty.int IntKind.i64)),())])*16) 140737488355328)
    (.ret (.on (s.1++[((List.getD x.2.2.2.2.1 (Int.toNat s.2.1) (Ty.dflt tItem)).2.1,List.getD x.2.1 (Int.toNat s.2.1) (Ty.dflt (Ty.int IntKind.i64)),())],w64 (s.2.1+1),(s.2.2.1.1,s.2.2.1.2.1,(),s.2.2.1.2.2.2),((),s.2.2.2.1.2),s.2.2.2.2.1,s.2.2.2.2.2)))
    .fail)
   .fail)
   (.ite ((List.getD x.2.2.2.2.1 (Int.toNat s.2.1) (Ty.dflt tItem)).1==2)
   (.ite (qcq (s.2.2.1.1,s.2.2.2.2.1,x.2.1,s.2.1))
    (.ite (inRange s.2.1 s.2.2.1.2.2.2.1.2)
    (.ite (qdp ((List.getD x.2.2.2.2.1 (Int.toNat s.2.1) (Ty.dflt tItem)).2.2.1.1,0,0,0,0,qF (s.2.2.1.1,s.2.2.2.2.1,x.2.1,s.2.1),(List.getD x.2.2.2.2.1 (Int.toNat s.2.1) (Ty.dflt tItem)).2.2.1.2.2.2.2.2.2.1,List.getD s.2.2.2.2.2 (nplus s.2.2.1.2.2.2.1.1 s.2.1) (Ty.dflt Ty.bool),()))
     (.ite (qcK s.2.2.2.1.2.1 (qbc ((List.getD x.2.2.2.2.1 (Int.toNat s.2.1) (Ty.dflt tItem)).2.2.1.1,0,0,0,0,qF (s.2.2.1.1,s.2.2.2.2.1,x.2.1,s.2.1),(List.getD x.2.2.2.2.1 (Int.toNat s.2.1) (Ty.dflt tItem)).2.2.1.2.2.2.2.2.2.1,List.getD s.2.2.2.2.2 (nplus s.2.2.1.2.2.2.1.1 s.2.1) (Ty.dflt Ty.bool),())).1)
     (.ret (.on (s.1,w64 (s.2.1+1),(s.2.2.1.1,s.2.2.1.2.1,(),s.2.2.1.2.2.2),((),qd7 s.2.2.2.1.2.1 (qbc ((List.getD x.2.2.2.2.1 (Int.toNat s.2.1) (Ty.dflt tItem)).2.2.1.1,0,0,0,0,qF (s.2.2.1.1,s.2.2.2.2.1,x.2.1,s.2.1),(List.getD x.2.2.2.2.1 (Int.toNat s.2.1) (Ty.dflt tItem)).2.2.1.2.2.2.2.2.2.1,List.getD s.2.2.2.2.2 (nplus s.2.2.1.2.2.2.1.1 s.2.1) (Ty.dflt Ty.bool),())).1,()),s.2.2.2.2.1,s.2.2.2.2.2)))
     .fail)
     .fail)
    .fail)
    .fail)
   (.ite (qdp (List.getD x.2.2.2.2.1 (Int.toNat s.2.1) (Ty.dflt tItem)).2.2.1)
    (.ite (qcK s.2.2.2.1.2.1 (qbc (List.getD x.2.2.2.2.1 (Int.toNat s.2.1) (Ty.dflt tItem)).2.2.1).1)
    (.ret (.on (s.1,w64 (s.2.1+1),(s.2.2.1.1,s.2.2.1.2.1,(),s.2.2.1.2.2.2),((),qd7 s.2.2.2.1.2.1 (qbc (List.getD x.2.2.2.2.1 (Int.toNat s.2.1) (Ty.dflt tItem)).2.2.1).1,()),s.2.2.2.2.1,s.2.2.2.2.2)))
    .fail)
    .fail)))
  .fail)
  (.ret (.out 0 (s.1,s.2.1,s.2.2.1,s.2.2.2.1,s.2.2.2.2.1,s.2.2.2.2.2))))
abbrev qfg:List Ty:=[(.sl tItem),(.int .i64)]
abbrev qg9:Sh:=Sh.tup (Sh.pair (Sh.ty Ty.str) (Sh.pair (Sh.osl 32 tPlace) (Sh.pair (Sh.ty (Ty.int IntKind.i64)) (Sh.ty Ty.unit))))
def qhU (x:dens [(.sl tItem),(.int .i64)]):=qbJ () ((x.1,x.2,(),(0,nspan 0 (lenI x.1)),()),[],zeros (lenI x.1) false)
def qbW (x:dens [(.sl tItem),(.int .i64)]):=qbS () ((x.1,x.2,(),(0,nspan 0 (lenI x.1)),()),[],zeros (lenI x.1) false)
def qhW (x:dens [(.sl tItem),(.int .i64)]):=LoopN.res qeh (x.1,x.2,()) (((qbW x).2.1.1,(qbW x).2.1.2.1,(),(qbW x).2.1.2.2.2),(qbW x).2.2)
def qcS (x:dens qfg):PO (Sh.den qg9) :=
 (.ite (roomOk (lenI x.1) 1)
  (.ite (qhU x)
  (.ite ((qbW x).1 != 0)
   (.ret (([],[],(qbW x).1,())))
   (.opt (qhW x) fun p0 =>
   (.ite (qfB (x.1,x.2,shown p0.2.2.2 p0.2.1.2.2.2.1))
    (.opt (LoopN.res qdR ((),qeO (x.1,x.2,shown p0.2.2.2 p0.2.1.2.2.2.1),(),[],x.1,lenI x.1,0) ((p0.2.1.1,p0.2.1.2.1,(),p0.2.1.2.2.2),((),[],()),p0.2.2)) fun p1 =>
    (.ret ((p1.2.2.2.2.1.2.1,p1.2.1,0,()))))
    .fail)))
  .fail)
  .fail)
def qdo (x:dens qfg):Bool:=(qcS x).val.isSome
def qbd (x:dens qfg):Sh.den qg9:=(qcS x).getO default
theorem qlE (x:dens qfg) (h:qdo x=true):(qcS x).val=some (qbd x):=PO.getO_ok default h
end Go.Av
end
section
namespace Go.Av
open Go
end Go.Av
end
