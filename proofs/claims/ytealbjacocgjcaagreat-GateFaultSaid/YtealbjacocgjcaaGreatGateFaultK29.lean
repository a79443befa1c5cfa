/- Texts of the proof, one behind the other. -/
import Derived.Test.YtealbjacocgjcaaGreatGateFaultK26
import Derived.Test.YtealbjacocgjcaaGreatGateFaultK28
import Derived.Test.YtealbjacocgjcaaGreatGateFaultK21
section
namespace Go.Av
open Go
abbrev qce:Ty:=.pair (.int .i64) (.pair (.int .i64) (.pair qbQ (.pair (.int .i64) .unit)))
abbrev qbs:Ty:=.pair qA (.pair (.int .i64) (.pair .bool (.pair .bool .unit)))
abbrev qpa (m c:Nat):Sh:=.pair (.ty qce) (.pair (.ty .str) (.pair (.box m 0) (.pair (.ty qE) (.pair (.ty .bool) (.pair (.win c qbs) (.ty .unit))))))
abbrev qqa:Sh:=qpa 1 2
abbrev qP6:List Sh:=[qqa,qgf 3,.rowc qbs,.rowc (.int .u8)]
abbrev MS:Type:=qh qP6
abbrev MS.mem (y:MS):qcS:=(y.2.1,y.2.2.2)
abbrev qmk:List Ty:=[(.int .i64),(.int .i64)]
abbrev qpP:Sh:=Sh.ty (Ty.int IntKind.i64)
def qwO (x:qd qmk):PO (Sh.den qpP) :=
 (.ite (!decide (qcO x.2<0)&&true)
  (.ret (qgw (x.1,qt IntKind.i64 1 (qcO x.2))))
  .fail)
def qpx (_:qd qmk):Bool:=true
def qiT (x:qd qmk):Sh.den qpP:=qgw (x.1,qt IntKind.i64 1 (qcO x.2))
theorem qCr (x:qd qmk) (_:qpx x=true):(qwO x).val=some (qiT x):=by
 refine(qe ?_).trans rfl
 have:¬qcO x.2<0:=by
  show ¬((kk x.2:Nat):Int)<0
  omega
 simp[this]
abbrev qiL:List Ty:=[qX]
abbrev qkQ:Sh:=Sh.ty (Ty.int IntKind.i64)
def qir (x:qd qiL):PO (Sh.den qkQ) :=
 (.ite (!bif bif x.1==0 then x.1==0 else x.1==1 then decide (x.2.1≥0) else bif x.1==2 then decide (x.2.1≥0)&&(decide (x.2.2.1≥0)&&(decide (x.2.2.1≤14)&&(decide (x.2.2.2.1≥0)&&decide (x.2.2.2.1<32)))) else x.1==3&&(decide (x.2.1≥0)&&(decide (x.2.2.2.1≥0)&&decide (x.2.2.2.1<4))))
  (.ret (2))
  (.ret (0)))
def qn9 (_:qd qiL):Bool:=true
def qM (x:qd qiL):Sh.den qkQ:=(qir x).qH default
theorem qwR (x:qd qiL) (_:qn9 x=true):(qir x).val=some (qM x):=PO.qco default (by simp[qir,PO.sure])
def qcJ (s:qE.den) (f:qX.den):qE.den :=
 bif f.1==2 then(List.set s.1 (Int.toNat f.2.2.1) (qiT (List.getD s.1 (Int.toNat f.2.2.1) (Ty.dflt (.int .i64)),f.2.2.2.1)),s.2)
 else bif f.1==3 then
  (bif f.2.2.2.1==0 then(s.1,s.2.1,!s.2.2.1,s.2.2.2)
   else bif f.2.2.2.1==1 then(s.1,s.2.1,s.2.2.1,!s.2.2.2.1,s.2.2.2.2)
   else bif f.2.2.2.1==2 then(s.1,s.2.1,s.2.2.1,s.2.2.2.1,!s.2.2.2.2.1,s.2.2.2.2.2)
   else bif f.2.2.2.1==3 then(s.1,s.2.1,s.2.2.1,s.2.2.2.1,s.2.2.2.2.1,!s.2.2.2.2.2.1,s.2.2.2.2.2.2)
   else s)
 else s
abbrev qe2:List Sh:=[.box 0 0,.ty qX]
abbrev qfa:List Sh:=[qqa,qgf 3,.rowc qbs,.rowc (.int .u8)]
abbrev qg2:Sh:=Sh.tup (Sh.ty Ty.unit)
abbrev qi7:List Sh:=[Sh.pair (Sh.ty (Ty.pair (Ty.int IntKind.i64) (Ty.pair (Ty.int IntKind.i64) (Ty.pair qbQ (Ty.pair (Ty.int IntKind.i64) Ty.unit))))) (Sh.pair (Sh.ty Ty.str) (Sh.pair (Sh.box 1 0) (Sh.pair (Sh.ty qE) (Sh.pair (Sh.ty Ty.bool) (Sh.pair (Sh.win 2 (Ty.pair qA (Ty.pair (Ty.int IntKind.i64) (Ty.pair Ty.bool (Ty.pair Ty.bool Ty.unit))))) (Sh.ty Ty.unit)))))),Sh.pair (Sh.ty (Ty.sl qgZ)) (Sh.pair (Sh.wsl none 3 (Ty.int IntKind.u8)) (Sh.ty Ty.unit)),Sh.rowc (Ty.pair qA (Ty.pair (Ty.int IntKind.i64) (Ty.pair Ty.bool (Ty.pair Ty.bool Ty.unit)))),Sh.rowc (Ty.int IntKind.u8)]
def qju (x:qh qe2) (y:qh qfa):PO (Sh.den qg2×qh qi7) :=
 (.ite (x.2.1==2)
  (.ite (inRange x.2.2.2.1 15)
  (.ite (qpx (List.getD y.1.2.2.2.1.1 (Int.toNat x.2.2.2.1) (Ty.dflt (Ty.int IntKind.i64)),x.2.2.2.2.1))
   (.ite (inRange x.2.2.2.1 15)
   (.ret ((),((y.1.1,y.1.2.1,(),(List.set y.1.2.2.2.1.1 (Int.toNat x.2.2.2.1) (qiT (List.getD y.1.2.2.2.1.1 (Int.toNat x.2.2.2.1) (Ty.dflt (Ty.int IntKind.i64)),x.2.2.2.2.1)),y.1.2.2.2.1.2),y.1.2.2.2.2),y.2.1,y.2.2.1,y.2.2.2)))
   .fail)
   .fail)
  .fail)
  (.ite (x.2.1==3)
  (.ite (x.2.2.2.2.1==0)
   (.ret ((),((y.1.1,y.1.2.1,(),(y.1.2.2.2.1.1,y.1.2.2.2.1.2.1,!y.1.2.2.2.1.2.2.1,y.1.2.2.2.1.2.2.2),y.1.2.2.2.2),y.2.1,y.2.2.1,y.2.2.2)))
   (.ite (x.2.2.2.2.1==1)
   (.ret ((),((y.1.1,y.1.2.1,(),(y.1.2.2.2.1.1,y.1.2.2.2.1.2.1,y.1.2.2.2.1.2.2.1,!y.1.2.2.2.1.2.2.2.1,y.1.2.2.2.1.2.2.2.2),y.1.2.2.2.2),y.2.1,y.2.2.1,y.2.2.2)))
   (.ite (x.2.2.2.2.1==2)
    (.ret ((),((y.1.1,y.1.2.1,(),(y.1.2.2.2.1.1,y.1.2.2.2.1.2.1,y.1.2.2.2.1.2.2.1,y.1.2.2.2.1.2.2.2.1,!y.1.2.2.2.1.2.2.2.2.1,y.1.2.2.2.1.2.2.2.2.2),y.1.2.2.2.2),y.2.1,y.2.2.1,y.2.2.2)))
    (.ite (x.2.2.2.2.1==3)
    (.ret ((),((y.1.1,y.1.2.1,(),(y.1.2.2.2.1.1,y.1.2.2.2.1.2.1,y.1.2.2.2.1.2.2.1,y.1.2.2.2.1.2.2.2.1,y.1.2.2.2.1.2.2.2.2.1,!y.1.2.2.2.1.2.2.2.2.2.1,y.1.2.2.2.1.2.2.2.2.2.2),y.1.2.2.2.2),y.2.1,y.2.2.1,y.2.2.2)))
    (.ret ((),((y.1.1,y.1.2.1,(),y.1.2.2.2),y.2.1,y.2.2.1,y.2.2.2)))))))
  (.ret ((),((y.1.1,y.1.2.1,(),y.1.2.2.2),y.2.1,y.2.2.1,y.2.2.2)))))
def qdS (x:qh qe2) (_:qh qfa):Bool:=!(x.2.1==(2:Int))||inRange x.2.2.2.1 15
abbrev qgU (x:qh qe2) (y:qh qfa):Sh.den qg2×qh qi7:=((),((y.1.1,y.1.2.1,(),qcJ y.1.2.2.2.1 x.2,y.1.2.2.2.2),y.2.1,y.2.2.1,y.2.2.2))
theorem qsP (x:qh qe2) (y:qh qfa) (h:qdS x y=true):(qju x y).val=some (qgU x y):=by
 obtain⟨_,k,p,r,b,_⟩:=x
 unfold qdS at h
 simp only[qju,qgU,qcJ,PO.val]
 simp only at h
 cases h2:(k==(2:Int))
 ·cases h3:(k==(3:Int))
  ·rfl
  ·cases h4:(b==(0:Int))<;>cases h5:(b==(1:Int))<;>cases h6:(b==(2:Int))<;>cases h7:(b==(3:Int))<;>simp only[cond_true,cond_false]
 ·rw[h2] at h
  simp only[Bool.not_true,Bool.false_or] at h
  rw[h]
  rfl
def qdu:LoopN where
 M:=[0,2,3,4]
 T:=[5,6,7,8,14,15,16,17,18,19,20,21,22,23,24,25,26,27,28,29,30,31,32,33,34,35,36,37,38,39,40,41,42,43,44,45,46,47,48,49,50,51,52,53,54,55,56,57,58,59,60,61,62,63,64,65,66,67,68,69,70,71]
 D:=[0,4]
 ss:=[.box 0 0,.box 1 0,.ty (.int .i64),.ty (.int .i64)]
 hs:=[(qpa 2 3),(.ty qA),(qgf 4),.rowc qbs,.rowc (.int .u8)]
 es:=[.ret,.panic [⟨.iface 148 (.agg #[.int .i64 0]),false,false⟩]]
 σ:=(Ty.den (.int .i64))×(Sh.den ((qpa 2 3)))×(Sh.den ((.ty qA)))×(Sh.den ((qgf 4)))×(Sh.den (.rowc qbs))×(Sh.den (.rowc (.int .u8)))
 x0:=fun x y=>(x.2.2.1,y.1,y.2.1,y.2.2.1,y.2.2.2.1,y.2.2.2.2)
 put:=fun x _ s=>((x.1,x.2.1,s.1,x.2.2.2),(s.2.1,s.2.2.1,s.2.2.2.1,s.2.2.2.2.1,s.2.2.2.2.2))
 fuel:=fun _ _=>1
 turn:=fun x _ s =>
 (.ite (qR IntKind.i64 x.2.2.2 1 != 0||decide (x.2.2.2≥qi s.2.1.2.1))
  (.ret (.out 1 (s.1,s.2.1,s.2.2.1,s.2.2.2.1,s.2.2.2.2.1,s.2.2.2.2.2)))
  (.ite (inRange (w64 (Int.tdiv x.2.2.2 2)) s.2.1.2.2.2.2.2.1.2)
  (.ite (!(List.getD s.2.2.2.2.1 (qbl s.2.1.2.2.2.2.2.1.1 (w64 (Int.tdiv x.2.2.2 2))) (Ty.dflt qbs)).2.2.1)
   (.ite (decide (qi s.2.1.2.1≤qi s.2.1.2.1)&&decide (0≤x.2.2.2)&&decide (x.2.2.2≤qi s.2.1.2.1))
   (.ite (qgP (List.drop (Int.toNat x.2.2.2) (List.take (Int.toNat (qi s.2.1.2.1)) s.2.1.2.1)))
    (.ite ((List.getD (List.set s.2.2.2.2.1 (qbl s.2.1.2.2.2.2.2.1.1 (w64 (Int.tdiv x.2.2.2 2))) ((qx (List.drop (Int.toNat x.2.2.2) (List.take (Int.toNat (qi s.2.1.2.1)) s.2.1.2.1))).1,(qx (List.drop (Int.toNat x.2.2.2) (List.take (Int.toNat (qi s.2.1.2.1)) s.2.1.2.1))).2.1,true,(qx (List.drop (Int.toNat x.2.2.2) (List.take (Int.toNat (qi s.2.1.2.1)) s.2.1.2.1))).2.2.1 != 0,())) (qbl s.2.1.2.2.2.2.2.1.1 (w64 (Int.tdiv x.2.2.2 2))) (Ty.dflt qbs)).2.2.2.1)
    (.ret (.out 1 (s.1,s.2.1,s.2.2.1,s.2.2.2.1,List.set s.2.2.2.2.1 (qbl s.2.1.2.2.2.2.2.1.1 (w64 (Int.tdiv x.2.2.2 2))) ((qx (List.drop (Int.toNat x.2.2.2) (List.take (Int.toNat (qi s.2.1.2.1)) s.2.1.2.1))).1,(qx (List.drop (Int.toNat x.2.2.2) (List.take (Int.toNat (qi s.2.1.2.1)) s.2.1.2.1))).2.1,true,(qx (List.drop (Int.toNat x.2.2.2) (List.take (Int.toNat (qi s.2.1.2.1)) s.2.1.2.1))).2.2.1 != 0,()),s.2.2.2.2.2)))
    (.ret (.out 0 ((List.getD (List.set s.2.2.2.2.1 (qbl s.2.1.2.2.2.2.2.1.1 (w64 (Int.tdiv x.2.2.2 2))) ((qx (List.drop (Int.toNat x.2.2.2) (List.take (Int.toNat (qi s.2.1.2.1)) s.2.1.2.1))).1,(qx (List.drop (Int.toNat x.2.2.2) (List.take (Int.toNat (qi s.2.1.2.1)) s.2.1.2.1))).2.1,true,(qx (List.drop (Int.toNat x.2.2.2) (List.take (Int.toNat (qi s.2.1.2.1)) s.2.1.2.1))).2.2.1 != 0,())) (qbl s.2.1.2.2.2.2.2.1.1 (w64 (Int.tdiv x.2.2.2 2))) (Ty.dflt qbs)).2.1,s.2.1,(List.getD (List.set s.2.2.2.2.1 (qbl s.2.1.2.2.2.2.2.1.1 (w64 (Int.tdiv x.2.2.2 2))) ((qx (List.drop (Int.toNat x.2.2.2) (List.take (Int.toNat (qi s.2.1.2.1)) s.2.1.2.1))).1,(qx (List.drop (Int.toNat x.2.2.2) (List.take (Int.toNat (qi s.2.1.2.1)) s.2.1.2.1))).2.1,true,(qx (List.drop (Int.toNat x.2.2.2) (List.take (Int.toNat (qi s.2.1.2.1)) s.2.1.2.1))).2.2.1 != 0,())) (qbl s.2.1.2.2.2.2.2.1.1 (w64 (Int.tdiv x.2.2.2 2))) (Ty.dflt qbs)).1,s.2.2.2.1,List.set s.2.2.2.2.1 (qbl s.2.1.2.2.2.2.2.1.1 (w64 (Int.tdiv x.2.2.2 2))) ((qx (List.drop (Int.toNat x.2.2.2) (List.take (Int.toNat (qi s.2.1.2.1)) s.2.1.2.1))).1,(qx (List.drop (Int.toNat x.2.2.2) (List.take (Int.toNat (qi s.2.1.2.1)) s.2.1.2.1))).2.1,true,(qx (List.drop (Int.toNat x.2.2.2) (List.take (Int.toNat (qi s.2.1.2.1)) s.2.1.2.1))).2.2.1 != 0,()),s.2.2.2.2.2))))
    .fail)
   .fail)
   (.ite ((List.getD s.2.2.2.2.1 (qbl s.2.1.2.2.2.2.2.1.1 (w64 (Int.tdiv x.2.2.2 2))) (Ty.dflt qbs)).2.2.2.1)
   (.ret (.out 1 (s.1,s.2.1,s.2.2.1,s.2.2.2.1,s.2.2.2.2.1,s.2.2.2.2.2)))
   (.ret (.out 0 ((List.getD s.2.2.2.2.1 (qbl s.2.1.2.2.2.2.2.1.1 (w64 (Int.tdiv x.2.2.2 2))) (Ty.dflt qbs)).2.1,s.2.1,(List.getD s.2.2.2.2.1 (qbl s.2.1.2.2.2.2.2.1.1 (w64 (Int.tdiv x.2.2.2 2))) (Ty.dflt qbs)).1,s.2.2.2.1,s.2.2.2.2.1,s.2.2.2.2.2)))))
  .fail))
abbrev qeD:List Sh:=[.box 0 0]
abbrev qez:List Sh:=[qqa,qgf 3,.rowc qbs,.rowc (.int .u8)]
abbrev qgA:Sh:=Sh.ty Ty.bool
abbrev qh6:List Sh:=[Sh.pair (Sh.ty (Ty.pair (Ty.int IntKind.i64) (Ty.pair (Ty.int IntKind.i64) (Ty.pair qbQ (Ty.pair (Ty.int IntKind.i64) Ty.unit))))) (Sh.pair (Sh.ty Ty.str) (Sh.pair (Sh.box 1 0) (Sh.pair (Sh.ty qE) (Sh.pair (Sh.ty Ty.bool) (Sh.pair (Sh.win 2 (Ty.pair qA (Ty.pair (Ty.int IntKind.i64) (Ty.pair Ty.bool (Ty.pair Ty.bool Ty.unit))))) (Sh.ty Ty.unit)))))),Sh.pair (Sh.ty (Ty.sl qgZ)) (Sh.pair (Sh.wsl none 3 (Ty.int IntKind.u8)) (Sh.ty Ty.unit)),Sh.rowc (Ty.pair qA (Ty.pair (Ty.int IntKind.i64) (Ty.pair Ty.bool (Ty.pair Ty.bool Ty.unit)))),Sh.rowc (Ty.int IntKind.u8)]
def qmt (_:qh qeD) (y:qh qez):PO (Sh.den qgA×qh qh6) :=
 (.ret (y.1.2.2.2.2.1,((y.1.1,y.1.2.1,(),y.1.2.2.2),y.2.1,y.2.2.1,y.2.2.2)))
def qi6 (_:qh qeD) (_:qh qez):Bool:=true
abbrev qi5 (_:qh qeD) (y:qh qez):Sh.den qgA×qh qh6:=(y.1.2.2.2.2.1,y)
theorem qr5 (x:qh qeD) (y:qh qez) (_:qi6 x y=true):(qmt x y).val=some (qi5 x y):=rfl
abbrev qeb:List Sh:=[.box 0 0]
abbrev qea:List Sh:=[qqa,qgf 3,.rowc qbs,.rowc (.int .u8)]
abbrev qf6:Sh:=Sh.ty qE
abbrev qhN:List Sh:=[Sh.pair (Sh.ty (Ty.pair (Ty.int IntKind.i64) (Ty.pair (Ty.int IntKind.i64) (Ty.pair qbQ (Ty.pair (Ty.int IntKind.i64) Ty.unit))))) (Sh.pair (Sh.ty Ty.str) (Sh.pair (Sh.box 1 0) (Sh.pair (Sh.ty qE) (Sh.pair (Sh.ty Ty.bool) (Sh.pair (Sh.win 2 (Ty.pair qA (Ty.pair (Ty.int IntKind.i64) (Ty.pair Ty.bool (Ty.pair Ty.bool Ty.unit))))) (Sh.ty Ty.unit)))))),Sh.pair (Sh.ty (Ty.sl qgZ)) (Sh.pair (Sh.wsl none 3 (Ty.int IntKind.u8)) (Sh.ty Ty.unit)),Sh.rowc (Ty.pair qA (Ty.pair (Ty.int IntKind.i64) (Ty.pair Ty.bool (Ty.pair Ty.bool Ty.unit)))),Sh.rowc (Ty.int IntKind.u8)]
def qmd (_:qh qeb) (y:qh qea):PO (Sh.den qf6×qh qhN) :=
 (.ret (y.1.2.2.2.1,((y.1.1,y.1.2.1,(),y.1.2.2.2),y.2.1,y.2.2.1,y.2.2.2)))
def qh0 (_:qh qeb) (_:qh qea):Bool:=true
abbrev qh5 (_:qh qeb) (y:qh qea):Sh.den qf6×qh qhN:=(y.1.2.2.2.1,y)
theorem qrP (x:qh qeb) (y:qh qea) (_:qh0 x y=true):(qmd x y).val=some (qh5 x y):=rfl
def qjV (k:Int) (y:qcS):List UInt8×Int×Unit:=qtb y k
def qox (a:Int) (y:qcS):Int:=(ql6 y a 4).1
abbrev qdL:List Sh:=[.box 0 0,.ty (.int .i64)]
abbrev qdM:List Sh:=[qqa,qgf 3,.rowc qbs,.rowc (.int .u8)]
abbrev qfF:Sh:=Sh.ty (Ty.int IntKind.i64)
abbrev qho:List Sh:=[Sh.pair (Sh.ty (Ty.pair (Ty.int IntKind.i64) (Ty.pair (Ty.int IntKind.i64) (Ty.pair qbQ (Ty.pair (Ty.int IntKind.i64) Ty.unit))))) (Sh.pair (Sh.ty Ty.str) (Sh.pair (Sh.box 1 0) (Sh.pair (Sh.ty qE) (Sh.pair (Sh.ty Ty.bool) (Sh.pair (Sh.win 2 (Ty.pair qA (Ty.pair (Ty.int IntKind.i64) (Ty.pair Ty.bool (Ty.pair Ty.bool Ty.unit))))) (Sh.ty Ty.unit)))))),Sh.pair (Sh.ty (Ty.sl qgZ)) (Sh.pair (Sh.wsl none 3 (Ty.int IntKind.u8)) (Sh.ty Ty.unit)),Sh.rowc (Ty.pair qA (Ty.pair (Ty.int IntKind.i64) (Ty.pair Ty.bool (Ty.pair Ty.bool Ty.unit)))),Sh.rowc (Ty.int IntKind.u8)]
def qlk (x:qh qdL) (y:qh qdM):PO (Sh.den qfF×qh qho) :=
 (.ite (qcQ ((),x.2,4) (y.2.1,y.2.2.2))
  (.ret ((qz ((),x.2,4) (y.2.1,y.2.2.2)).1.1,((y.1.1,y.1.2.1,(),y.1.2.2.2),(qz ((),x.2,4) (y.2.1,y.2.2.2)).2.1,y.2.2.1,(qz ((),x.2,4) (y.2.1,y.2.2.2)).2.2)))
  .fail)
def qed (x:qh qdL) (y:qh qdM):Bool:=decide (MemWf (y.2.1,y.2.2.2)∧(show Int from x.2)<9223372036854775808)
abbrev qhW (x:qh qdL) (y:qh qdM):Sh.den qfF×qh qho:=(qox x.2 (y.2.1,y.2.2.2),y)
theorem qqI (x:qh qdL) (y:qh qdM) (h:qed x y=true):(qlk x y).val=some (qhW x y):=(qe h).trans rfl
abbrev qeg:List Sh:=[.box 0 0,.ty (.int .i64)]
abbrev qd8:List Sh:=[qqa,qgf 3,.rowc qbs,.rowc (.int .u8)]
abbrev qgb:Sh:=Sh.ty Ty.str
abbrev qhI:List Sh:=[Sh.pair (Sh.ty (Ty.pair (Ty.int IntKind.i64) (Ty.pair (Ty.int IntKind.i64) (Ty.pair qbQ (Ty.pair (Ty.int IntKind.i64) Ty.unit))))) (Sh.pair (Sh.ty Ty.str) (Sh.pair (Sh.box 1 0) (Sh.pair (Sh.ty qE) (Sh.pair (Sh.ty Ty.bool) (Sh.pair (Sh.win 2 (Ty.pair qA (Ty.pair (Ty.int IntKind.i64) (Ty.pair Ty.bool (Ty.pair Ty.bool Ty.unit))))) (Sh.ty Ty.unit)))))),Sh.pair (Sh.ty (Ty.sl qgZ)) (Sh.pair (Sh.wsl none 3 (Ty.int IntKind.u8)) (Sh.ty Ty.unit)),Sh.rowc (Ty.pair qA (Ty.pair (Ty.int IntKind.i64) (Ty.pair Ty.bool (Ty.pair Ty.bool Ty.unit)))),Sh.rowc (Ty.int IntKind.u8)]
def qme (x:qh qeg) (y:qh qd8):PO (Sh.den qgb×qh qhI) :=
 (.ret ((qdz ((),x.2) (y.2.1,y.2.2.2)).1.1,((y.1.1,y.1.2.1,(),y.1.2.2.2),(qdz ((),x.2) (y.2.1,y.2.2.2)).2.1,y.2.2.1,(qdz ((),x.2) (y.2.1,y.2.2.2)).2.2)))
def qh7 (_:qh qeg) (_:qh qd8):Bool:=true
abbrev qhZ (x:qh qeg) (y:qh qd8):Sh.den qgb×qh qhI:=((qjV x.2 (y.2.1,y.2.2.2)).1,y)
theorem qrN (x:qh qeg) (y:qh qd8) (_:qh7 x y=true):(qme x y).val=some (qhZ x y):=rfl
def qiE (fl:List UInt8) (pc:Int):Option (qA.den×Int) :=
 bif qR .i64 pc 1 != 0||decide (pc≥qi fl) then none
 else bif (qne (fl.drop pc.toNat)).2.2.1 != 0 then none
 else some ((qne (fl.drop pc.toNat)).1,(qne (fl.drop pc.toNat)).2.1)
def qB9 (fl:List UInt8) (k:Nat):qbs.den:=((qne (fl.drop (2*k))).1,(qne (fl.drop (2*k))).2.1,true,(qne (fl.drop (2*k))).2.2.1 != 0,())
abbrev dfF:qbs.den:=Ty.dflt qbs
def qdh (fl:List UInt8) (pc:Int) (c:List qbs.den):List qbs.den :=
 bif qR .i64 pc 1 != 0||decide (pc≥qi fl) then c
 else bif (List.getD c (pc / 2).toNat dfF).2.2.1 then c
 else List.set c (pc / 2).toNat (qB9 fl (pc / 2).toNat)
instance decIns4:DecidableEq (Int×Int×Int×Bool×Unit):=inferInstance
instance decIns:DecidableEq qA.den:=inferInstanceAs (DecidableEq (Int×Int×Int×Int×(Int×Int×Int×Bool×Unit)))
instance decFet:DecidableEq qbs.den:=inferInstanceAs (DecidableEq (qA.den×(Int×Bool×Bool×Unit)))
def qpl (fl:List UInt8) (c:List qbs.den):Prop:=c.length=fl.length / 2+1∧∀k,k<c.length→(List.getD c k dfF).2.2.1=true→List.getD c k dfF=qB9 fl k
instance (fl:List UInt8) (c:List qbs.den):Decidable (qpl fl c):=by
 unfold qpl
 infer_instance
structure MachWf (y:MS):Prop where
 mem:MemWf y.mem
 regs:List.length y.1.2.2.2.1.1=15
 pc:0≤(show Int from y.1.2.2.2.1.2.1)∧(show Int from y.1.2.2.2.1.2.1)<4294967296
 hand:0≤(show Int from y.1.1.2.1)∧(show Int from y.1.1.2.1)<4294967296
 len:List.length y.1.2.1≤262144
 win:y.1.2.2.2.2.2.1=(0,List.length y.1.2.1 / 2+1)
 cache:qpl y.1.2.1 y.2.2.1
instance (y:MS):Decidable (MachWf y) :=
 if h:MemWf y.mem∧List.length y.1.2.2.2.1.1=15∧(0≤(show Int from y.1.2.2.2.1.2.1)∧(show Int from y.1.2.2.2.1.2.1)<4294967296)∧(0≤(show Int from y.1.1.2.1)∧(show Int from y.1.1.2.1)<4294967296)∧List.length y.1.2.1≤262144∧(y.1.2.2.2.2.2.1:Nat×Nat)=(0,List.length y.1.2.1 / 2+1)∧qpl y.1.2.1 y.2.2.1
 then isTrue ⟨h.1,h.2.1,h.2.2.1,h.2.2.2.1,h.2.2.2.2.1,h.2.2.2.2.2.1,h.2.2.2.2.2.2⟩ else isFalse fun h'=>h ⟨h'.mem,h'.regs,h'.pc,h'.hand,h'.len,h'.win,h'.cache⟩
theorem qLG (fl:List UInt8) (c:List qbs.den) (hd:qce.den) (st:qE.den) (dn:Bool) (i0:qA.den) (t:Int) (M:(qgf 3).den) (B:List Int)
  (hp:0≤(show Int from st.2.1)∧(show Int from st.2.1)<4294967296) (hc:qpl fl c) :
  LoopN.res qdu ((),(),t,st.2.1) ((hd,fl,(),st,dn,(0,fl.length / 2+1),()),i0,M,c,B)=some (match qiE fl st.2.1 with
   |none=>(1,t,(hd,fl,(),st,dn,(0,fl.length / 2+1),()),i0,M,qdh fl st.2.1 c,B)
   |some p=>(0,p.2,(hd,fl,(),st,dn,(0,fl.length / 2+1),()),p.1,M,qdh fl st.2.1 c,B)):=by
 obtain⟨hc1,hc2⟩:=hc
 obtain⟨rg,pc,fgs⟩:=st
 simp only at hp ⊢
 have hp:0≤pc∧pc<4294967296:=hp
 have hb:qR .i64 pc 1=pc % 2:=qoW pc
 unfold LoopN.res
 show qeK _ 1 _=_
 unfold qiE qdh
 cases ho:(qR .i64 pc 1 != 0||decide (pc≥qi fl)) with
 |true=>exact(qb6 ((qe ho).trans rfl)).trans (by rfl)
 |false =>
  simp only[cond_false]
  simp only[Bool.or_eq_false_iff,bne_eq_false_iff_eq,decide_eq_false_iff_not] at ho
  obtain⟨ho1,ho2⟩:=ho
  have hlt:pc<(fl.length:Int):=by simpa [qi] using ho2
  rw[hb] at ho1
  obtain⟨m,rfl⟩:=Int.eq_ofNat_of_zero_le hp.1
  have hm:m % 2=0:=by omega
  obtain⟨k,rfl⟩:∃k,m=2*k:=⟨m / 2,by omega⟩
  have hlt':((2*k:Nat):Int)<((fl.length:Nat):Int):=hlt
  have hk:k<c.length:=by omega
  have e1:Int.tdiv ((2*k:Nat):Int) 2=(k:Int):=by
   rw[Int.tdiv_eq_ediv_of_nonneg (by omega)]
   omega
  have e2:w64 ((k:Nat):Int)=(k:Int):=qu (by omega) (by omega)
  have e3:(((2*k:Nat):Int) / 2).toNat=k:=by omega
  have e4:List.take (Int.toNat (qi fl)) fl=fl:=by simp[qi]
  have e5:Int.toNat ((2*k:Nat):Int)=2*k:=by omega
  have e6:qbl 0 (k:Int)=k:=by simp[qbl]
  have hno:(qR .i64 ((2*k:Nat):Int) 1 != 0||decide (((2*k:Nat):Int)≥qi fl))=false:=by
   rw[hb]
   simp only[Bool.or_eq_false_iff,bne_eq_false_iff_eq,decide_eq_false_iff_not]
   exact⟨ho1,by simpa [qi] using hlt⟩
  have hin:inRange (w64 (Int.tdiv ((2*k:Nat):Int) 2)) (fl.length / 2+1)=true:=by
   rw[e1,e2]
   exact inR (by omega)
  rw[e3,e5]
  cases hk1:(List.getD c k dfF).2.2.1 with
  |true =>
   have he:=hc2 k hk hk1
   simp only[cond_true]
   cases he2:((qne (fl.drop (2*k))).2.2.1 != 0) with
   |true =>
    refine(qb6 ((qB hno).trans ((qe hin).trans ((qB ?_).trans ((qe ?_).trans rfl))))).trans (by rfl)
    ·show(!(List.getD c (qbl 0 (w64 (Int.tdiv ((2*k:Nat):Int) 2))) dfF).2.2.1)=false
     rw[e1,e2,e6,hk1];rfl
    ·show(List.getD c (qbl 0 (w64 (Int.tdiv ((2*k:Nat):Int) 2))) dfF).2.2.2.1=true
     rw[e1,e2,e6,he];exact he2
   |false =>
    refine(qb6 ((qB hno).trans ((qe hin).trans ((qB ?_).trans ((qB ?_).trans rfl))))).trans ?_
    ·show(!(List.getD c (qbl 0 (w64 (Int.tdiv ((2*k:Nat):Int) 2))) dfF).2.2.1)=false
     rw[e1,e2,e6,hk1];rfl
    ·show(List.getD c (qbl 0 (w64 (Int.tdiv ((2*k:Nat):Int) 2))) dfF).2.2.2.1=false
     rw[e1,e2,e6,he];exact he2
    ·show some (0,(List.getD c (qbl 0 (w64 (Int.tdiv ((2*k:Nat):Int) 2))) dfF).2.1,_,(List.getD c (qbl 0 (w64 (Int.tdiv ((2*k:Nat):Int) 2))) dfF).1,_)=_
     rw[e1,e2,e6,he]
     rfl
  |false =>
   simp only[cond_false]
   have hle:(decide (qi fl≤qi fl)&&decide (0≤((2*k:Nat):Int))&&decide (((2*k:Nat):Int)≤qi fl))=true:=by
    simp only[Bool.and_eq_true,decide_eq_true_eq]
    exact⟨⟨Int.le_refl _,by omega⟩,by simp only[qi];omega⟩
   have hset:List.getD (List.set c k (qB9 fl k)) k dfF=qB9 fl k:=by
    simp[List.getD_eq_getElem?_getD,hk]
   have hent:∀s:List UInt8,s=fl.drop (2*k)→((qx s).1,(qx s).2.1,true,(qx s).2.2.1 != 0,())=qB9 fl k:=fun s hs=>by subst hs;rw[qNv];rfl
   have hs:List.drop (Int.toNat ((2*k:Nat):Int)) (List.take (Int.toNat (qi fl)) fl)=fl.drop (2*k):=by rw[e4,e5]
   cases he2:((qne (fl.drop (2*k))).2.2.1 != 0) with
   |true =>
    refine(qb6 ((qB hno).trans ((qe hin).trans ((qe ?_).trans ((qe hle).trans ((qe (qB8 _)).trans ((qe ?_).trans rfl))))))).trans ?_
    ·show(!(List.getD c (qbl 0 (w64 (Int.tdiv ((2*k:Nat):Int) 2))) dfF).2.2.1)=true
     rw[e1,e2,e6,hk1];rfl
    ·show(List.getD (List.set c (qbl 0 (w64 (Int.tdiv ((2*k:Nat):Int) 2))) ((qx (List.drop (Int.toNat ((2*k:Nat):Int)) (List.take (Int.toNat (qi fl)) fl))).1,(qx (List.drop (Int.toNat ((2*k:Nat):Int)) (List.take (Int.toNat (qi fl)) fl))).2.1,true,(qx (List.drop (Int.toNat ((2*k:Nat):Int)) (List.take (Int.toNat (qi fl)) fl))).2.2.1 != 0,())) (qbl 0 (w64 (Int.tdiv ((2*k:Nat):Int) 2))) dfF).2.2.2.1=true
     rw[e1,e2,e6,hent _ hs,hset]
     exact he2
    ·show some (1,t,(hd,fl,(),(rg,((2*k:Nat):Int),fgs),dn,(0,fl.length / 2+1),()),i0,M,List.set c (qbl 0 (w64 (Int.tdiv ((2*k:Nat):Int) 2))) ((qx (List.drop (Int.toNat ((2*k:Nat):Int)) (List.take (Int.toNat (qi fl)) fl))).1,(qx (List.drop (Int.toNat ((2*k:Nat):Int)) (List.take (Int.toNat (qi fl)) fl))).2.1,true,(qx (List.drop (Int.toNat ((2*k:Nat):Int)) (List.take (Int.toNat (qi fl)) fl))).2.2.1 != 0,()),B)=_
     rw[e1,e2,e6,hent _ hs]
     rfl
   |false =>
    refine(qb6 ((qB hno).trans ((qe hin).trans ((qe ?_).trans ((qe hle).trans ((qe (qB8 _)).trans ((qB ?_).trans rfl))))))).trans ?_
    ·show(!(List.getD c (qbl 0 (w64 (Int.tdiv ((2*k:Nat):Int) 2))) dfF).2.2.1)=true
     rw[e1,e2,e6,hk1];rfl
    ·show(List.getD (List.set c (qbl 0 (w64 (Int.tdiv ((2*k:Nat):Int) 2))) ((qx (List.drop (Int.toNat ((2*k:Nat):Int)) (List.take (Int.toNat (qi fl)) fl))).1,(qx (List.drop (Int.toNat ((2*k:Nat):Int)) (List.take (Int.toNat (qi fl)) fl))).2.1,true,(qx (List.drop (Int.toNat ((2*k:Nat):Int)) (List.take (Int.toNat (qi fl)) fl))).2.2.1 != 0,())) (qbl 0 (w64 (Int.tdiv ((2*k:Nat):Int) 2))) dfF).2.2.2.1=false
     rw[e1,e2,e6,hent _ hs,hset]
     exact he2
    ·show some (0,(List.getD (List.set c (qbl 0 (w64 (Int.tdiv ((2*k:Nat):Int) 2))) ((qx (List.drop (Int.toNat ((2*k:Nat):Int)) (List.take (Int.toNat (qi fl)) fl))).1,(qx (List.drop (Int.toNat ((2*k:Nat):Int)) (List.take (Int.toNat (qi fl)) fl))).2.1,true,(qx (List.drop (Int.toNat ((2*k:Nat):Int)) (List.take (Int.toNat (qi fl)) fl))).2.2.1 != 0,())) (qbl 0 (w64 (Int.tdiv ((2*k:Nat):Int) 2))) dfF).2.1,(hd,fl,(),(rg,((2*k:Nat):Int),fgs),dn,(0,fl.length / 2+1),()),(List.getD (List.set c (qbl 0 (w64 (Int.tdiv ((2*k:Nat):Int) 2))) ((qx (List.drop (Int.toNat ((2*k:Nat):Int)) (List.take (Int.toNat (qi fl)) fl))).1,(qx (List.drop (Int.toNat ((2*k:Nat):Int)) (List.take (Int.toNat (qi fl)) fl))).2.1,true,(qx (List.drop (Int.toNat ((2*k:Nat):Int)) (List.take (Int.toNat (qi fl)) fl))).2.2.1 != 0,())) (qbl 0 (w64 (Int.tdiv ((2*k:Nat):Int) 2))) dfF).1,M,List.set c (qbl 0 (w64 (Int.tdiv ((2*k:Nat):Int) 2))) ((qx (List.drop (Int.toNat ((2*k:Nat):Int)) (List.take (Int.toNat (qi fl)) fl))).1,(qx (List.drop (Int.toNat ((2*k:Nat):Int)) (List.take (Int.toNat (qi fl)) fl))).2.1,true,(qx (List.drop (Int.toNat ((2*k:Nat):Int)) (List.take (Int.toNat (qi fl)) fl))).2.2.1 != 0,()),B)=_
     rw[e1,e2,e6,hent _ hs,hset]
     rfl
abbrev qvO:Type:=qtg.den×qE.den×Bool×qcS
def qhg (st:qE.den) (i:qA.den) (mem:qcS) (ld addr:Int):qvO:=((0,st.2.1,addr,qcL (st,i),()),(qbf (st,i,ld)).1,!(qbf (st,i,ld)).2.1,mem)
def qmR (hd:qce.den) (st:qE.den) (mem:qcS) (addr:Int):qvO:=((2,st.2.1,addr,12,()),(st.1,hd.2.1,st.2.2),false,mem)
def qeM (hd:qce.den) (st:qE.den) (i:qA.den) (mem:qcS):qvO :=
 bif (qc (st,i)).2.1 then
  (bif (qc (st,i)).1.2.2.2.1 then
   (bif (qd6 mem (qc (st,i)).1.1 (qc (st,i)).1.2.1 (qc (st,i)).1.2.2.1).1 != 0 then qmR hd st (qd6 mem (qc (st,i)).1.1 (qc (st,i)).1.2.1 (qc (st,i)).1.2.2.1).2 (qc (st,i)).1.1
    else qhg st i (qd6 mem (qc (st,i)).1.1 (qc (st,i)).1.2.1 (qc (st,i)).1.2.2.1).2 0 (qc (st,i)).1.1)
   else bif (ql6 mem (qc (st,i)).1.1 (qc (st,i)).1.2.1).2.1 != 0 then qmR hd st mem (qc (st,i)).1.1
    else qhg st i mem (ql6 mem (qc (st,i)).1.1 (qc (st,i)).1.2.1).1 (qc (st,i)).1.1)
 else qhg st i mem 0 0
def qyj (hd:qce.den) (fl:List UInt8) (st:qE.den) (mem:qcS) (skip:Bool):qvO :=
 match qiE fl st.2.1 with
 |none=>qmR hd st mem 0
 |some p=>bif skip then((1,st.2.1,0,1,()),(st.1,qgx (st.2.1,p.2),st.2.2),false,mem) else qeM hd st p.1 mem
def qpQ (f:qX.den):qX.den:=bif qM f != 0 then(0,0,0,0,()) else f
def qcC (hd:qce.den) (fl:List UInt8) (st:qE.den) (mem:qcS) (f:qX.den):qvO:=qyj hd fl (qcJ st (qpQ f)) mem ((qpQ f).1==(1:Int))
theorem qBV (s:qE.den) (f:qX.den) (h:List.length s.1=15):List.length (qcJ s f).1=15:=by
 unfold qcJ
 cases f.1==(2:Int)
 ·cases f.1==(3:Int)
  ·exact h
  ·cases f.2.2.2.1==(0:Int)<;>cases f.2.2.2.1==(1:Int)<;>cases f.2.2.2.1==(2:Int)<;>cases f.2.2.2.1==(3:Int)<;>exact h
 ·simp only[cond_true,List.length_set]
  exact h
theorem qGj (s:qE.den) (f:qX.den):(qcJ s f).2.1=s.2.1:=by
 unfold qcJ
 cases f.1==(2:Int)
 ·cases f.1==(3:Int)
  ·rfl
  ·cases f.2.2.2.1==(0:Int)<;>cases f.2.2.2.1==(1:Int)<;>cases f.2.2.2.1==(2:Int)<;>cases f.2.2.2.1==(3:Int)<;>rfl
 ·rfl
abbrev qjg (hd:qce.den) (fl:List UInt8) (win:Nat×Nat) (c:List qbs.den) (r:qvO):(qtg.den×Bool×Unit)×MS:=((r.1,true,()),((hd,fl,(),r.2.1,r.2.2.1,win,()),r.2.2.2.1,c,r.2.2.2.2))
def qQm (hd:qce.den) (fl:List UInt8) (dn:Bool) (win:Nat×Nat) (st:qE.den) (i:qA.den) (M:(qgf 3).den) (c:List qbs.den) (B:List Int):PO ((qtg.den×Bool×Unit)×MS) :=
 .ite (qe1 (st,i))
  (.ite (qc (st,i)).2.1
   (.ite (qc (st,i)).1.2.2.2.1
    (.ite (qc3 ((),(qc (st,i)).1.1,(qc (st,i)).1.2.1,(qc (st,i)).1.2.2.1) (M,B))
     (.ite ((qU ((),(qc (st,i)).1.1,(qc (st,i)).1.2.1,(qc (st,i)).1.2.2.1) (M,B)).1 != 0)
      (.ret (((2,st.2.1,(qc (st,i)).1.1,12,()),true,()),((hd,fl,(),(st.1,hd.2.1,st.2.2),dn,win,()),(qU ((),(qc (st,i)).1.1,(qc (st,i)).1.2.1,(qc (st,i)).1.2.2.1) (M,B)).2.1,c,(qU ((),(qc (st,i)).1.1,(qc (st,i)).1.2.1,(qc (st,i)).1.2.2.1) (M,B)).2.2)))
      (.ite (qc7 (st,i)) (.ite (qep (st,i,0))
       (.ret (((0,st.2.1,(qc (st,i)).1.1,qcL (st,i),()),true,()),((hd,fl,(),(qbf (st,i,0)).1,!(qbf (st,i,0)).2.1,win,()),(qU ((),(qc (st,i)).1.1,(qc (st,i)).1.2.1,(qc (st,i)).1.2.2.1) (M,B)).2.1,c,(qU ((),(qc (st,i)).1.1,(qc (st,i)).1.2.1,(qc (st,i)).1.2.2.1) (M,B)).2.2))) .fail) .fail))
     .fail)
    (.ite (qcQ ((),(qc (st,i)).1.1,(qc (st,i)).1.2.1) (M,B))
     (.ite ((qz ((),(qc (st,i)).1.1,(qc (st,i)).1.2.1) (M,B)).1.2.1 != 0)
      (.ret (((2,st.2.1,(qc (st,i)).1.1,12,()),true,()),((hd,fl,(),(st.1,hd.2.1,st.2.2),dn,win,()),(qz ((),(qc (st,i)).1.1,(qc (st,i)).1.2.1) (M,B)).2.1,c,(qz ((),(qc (st,i)).1.1,(qc (st,i)).1.2.1) (M,B)).2.2)))
      (.ite (qc7 (st,i)) (.ite (qep (st,i,(qz ((),(qc (st,i)).1.1,(qc (st,i)).1.2.1) (M,B)).1.1))
       (.ret (((0,st.2.1,(qc (st,i)).1.1,qcL (st,i),()),true,()),((hd,fl,(),(qbf (st,i,(qz ((),(qc (st,i)).1.1,(qc (st,i)).1.2.1) (M,B)).1.1)).1,!(qbf (st,i,(qz ((),(qc (st,i)).1.1,(qc (st,i)).1.2.1) (M,B)).1.1)).2.1,win,()),(qz ((),(qc (st,i)).1.1,(qc (st,i)).1.2.1) (M,B)).2.1,c,(qz ((),(qc (st,i)).1.1,(qc (st,i)).1.2.1) (M,B)).2.2))) .fail) .fail))
     .fail))
   (.ite (qc7 (st,i)) (.ite (qep (st,i,0))
    (.ret (((0,st.2.1,0,qcL (st,i),()),true,()),((hd,fl,(),(qbf (st,i,0)).1,!(qbf (st,i,0)).2.1,win,()),M,c,B))) .fail) .fail))
  .fail
theorem qQP (hd:qce.den) (fl:List UInt8) (win:Nat×Nat) (st:qE.den) (i:qA.den) (M:(qgf 3).den) (c:List qbs.den) (B:List Int) (hr:List.length st.1=15) (hm:MemWf (M,B)) :
  (qQm hd fl false win st i M c B).val=some (qjg hd fl win c (qeM hd st i (M,B))):=by
 have g1:qe1 (st,i)=true:=decide_eq_true hr
 have g2:qc7 (st,i)=true:=decide_eq_true hr
 have g3:∀ld,qep (st,i,ld)=true:=fun ld=>decide_eq_true hr
 have ha:=qEf st i
 have g4:∀n v,qc3 ((),(qc (st,i)).1.1,n,v) (M,B)=true:=fun n v=>decide_eq_true ⟨hm,ha⟩
 have g5:∀n,qcQ ((),(qc (st,i)).1.1,n) (M,B)=true:=fun n=>decide_eq_true ⟨hm,ha⟩
 unfold qQm qeM
 refine(qe g1).trans ?_
 cases h1:(qc (st,i)).2.1
 ·exact(qB rfl).trans ((qe g2).trans ((qe (g3 _)).trans rfl))
 ·refine(qe rfl).trans ?_
  simp only[cond_true]
  cases h2:(qc (st,i)).1.2.2.2.1
  ·refine(qB rfl).trans ((qe (g5 _)).trans ?_)
   simp only[cond_false]
   cases h3:((ql6 (M,B) (qc (st,i)).1.1 (qc (st,i)).1.2.1).2.1 != (0:Int))
   ·exact(qB h3).trans ((qe g2).trans ((qe (g3 _)).trans rfl))
   ·exact(qe h3).trans rfl
  ·refine(qe rfl).trans ((qe (g4 _ _)).trans ?_)
   simp only[cond_true]
   cases h3:((qd6 (M,B) (qc (st,i)).1.1 (qc (st,i)).1.2.1 (qc (st,i)).1.2.2.1).1 != (0:Int))
   ·exact(qB h3).trans ((qe g2).trans ((qe (g3 _)).trans rfl))
   ·exact(qe h3).trans rfl
abbrev qeB:List Sh:=[.box 0 0,.ty qX]
abbrev qeC:List Sh:=[qqa,qgf 3,.rowc qbs,.rowc (.int .u8)]
abbrev qgB:Sh:=Sh.tup (Sh.pair (Sh.ty qX) (Sh.pair (Sh.ty Ty.bool) (Sh.ty Ty.unit)))
abbrev qh3:List Sh:=[Sh.pair (Sh.ty (Ty.pair (Ty.int IntKind.i64) (Ty.pair (Ty.int IntKind.i64) (Ty.pair qbQ (Ty.pair (Ty.int IntKind.i64) Ty.unit))))) (Sh.pair (Sh.ty Ty.str) (Sh.pair (Sh.box 1 0) (Sh.pair (Sh.ty qE) (Sh.pair (Sh.ty Ty.bool) (Sh.pair (Sh.win 2 (Ty.pair qA (Ty.pair (Ty.int IntKind.i64) (Ty.pair Ty.bool (Ty.pair Ty.bool Ty.unit))))) (Sh.ty Ty.unit)))))),Sh.pair (Sh.ty (Ty.sl qgZ)) (Sh.pair (Sh.wsl none 3 (Ty.int IntKind.u8)) (Sh.ty Ty.unit)),Sh.rowc (Ty.pair qA (Ty.pair (Ty.int IntKind.i64) (Ty.pair Ty.bool (Ty.pair Ty.bool Ty.unit)))),Sh.rowc (Ty.int IntKind.u8)]
def qi9 (x:qh qeB) (y:qh qeC):PO (Sh.den qgB×qh qh3) :=
 (.ite (y.1.2.2.2.2.1)
  (.ret (((0,0,0,0,()),false,()),((y.1.1,y.1.2.1,(),y.1.2.2.2),y.2.1,y.2.2.1,y.2.2.2)))
  (.ite (qM x.2 != 0)
  (.ite (qdS ((),0,0,0,0,()) ((y.1.1,y.1.2.1,(),y.1.2.2.2),y.2))
   (.opt (LoopN.res qdu ((),(),0,(qcJ y.1.2.2.2.1 (0,0,0,0,())).2.1) ((y.1.1,y.1.2.1,(),qcJ y.1.2.2.2.1 (0,0,0,0,()),y.1.2.2.2.2),(0,0,0,0,0,0,0,false,()),y.2)) fun p0 =>
   (.ite (way p0.1)
    (.ite (qe1 (p0.2.2.1.2.2.2.1,p0.2.2.2.1))
    (.ite ((qc (p0.2.2.1.2.2.2.1,p0.2.2.2.1)).2.1)
     (.ite ((qc (p0.2.2.1.2.2.2.1,p0.2.2.2.1)).1.2.2.2.1)
     (.ite (qc3 ((),(qc (p0.2.2.1.2.2.2.1,p0.2.2.2.1)).1.1,(qc (p0.2.2.1.2.2.2.1,p0.2.2.2.1)).1.2.1,(qc (p0.2.2.1.2.2.2.1,p0.2.2.2.1)).1.2.2.1) (p0.2.2.2.2.1,p0.2.2.2.2.2.2))
      (.ite ((qU ((),(qc (p0.2.2.1.2.2.2.1,p0.2.2.2.1)).1.1,(qc (p0.2.2.1.2.2.2.1,p0.2.2.2.1)).1.2.1,(qc (p0.2.2.1.2.2.2.1,p0.2.2.2.1)).1.2.2.1) (p0.2.2.2.2.1,p0.2.2.2.2.2.2)).1 != 0)
      (.ret (((2,p0.2.2.1.2.2.2.1.2.1,(qc (p0.2.2.1.2.2.2.1,p0.2.2.2.1)).1.1,12,()),true,()),((p0.2.2.1.1,p0.2.2.1.2.1,(),(p0.2.2.1.2.2.2.1.1,p0.2.2.1.1.2.1,p0.2.2.1.2.2.2.1.2.2),p0.2.2.1.2.2.2.2),(qU ((),(qc (p0.2.2.1.2.2.2.1,p0.2.2.2.1)).1.1,(qc (p0.2.2.1.2.2.2.1,p0.2.2.2.1)).1.2.1,(qc (p0.2.2.1.2.2.2.1,p0.2.2.2.1)).1.2.2.1) (p0.2.2.2.2.1,p0.2.2.2.2.2.2)).2.1,p0.2.2.2.2.2.1,(qU ((),(qc (p0.2.2.1.2.2.2.1,p0.2.2.2.1)).1.1,(qc (p0.2.2.1.2.2.2.1,p0.2.2.2.1)).1.2.1,(qc (p0.2.2.1.2.2.2.1,p0.2.2.2.1)).1.2.2.1) (p0.2.2.2.2.1,p0.2.2.2.2.2.2)).2.2)))
      (.ite (qc7 (p0.2.2.1.2.2.2.1,p0.2.2.2.1))
       (.ite (qep (p0.2.2.1.2.2.2.1,p0.2.2.2.1,0))
       (.ret (((0,(qcJ y.1.2.2.2.1 (0,0,0,0,())).2.1,(qc (p0.2.2.1.2.2.2.1,p0.2.2.2.1)).1.1,qcL (p0.2.2.1.2.2.2.1,p0.2.2.2.1),()),true,()),((p0.2.2.1.1,p0.2.2.1.2.1,(),(qbf (p0.2.2.1.2.2.2.1,p0.2.2.2.1,0)).1,!(qbf (p0.2.2.1.2.2.2.1,p0.2.2.2.1,0)).2.1,p0.2.2.1.2.2.2.2.2),(qU ((),(qc (p0.2.2.1.2.2.2.1,p0.2.2.2.1)).1.1,(qc (p0.2.2.1.2.2.2.1,p0.2.2.2.1)).1.2.1,(qc (p0.2.2.1.2.2.2.1,p0.2.2.2.1)).1.2.2.1) (p0.2.2.2.2.1,p0.2.2.2.2.2.2)).2.1,p0.2.2.2.2.2.1,(qU ((),(qc (p0.2.2.1.2.2.2.1,p0.2.2.2.1)).1.1,(qc (p0.2.2.1.2.2.2.1,p0.2.2.2.1)).1.2.1,(qc (p0.2.2.1.2.2.2.1,p0.2.2.2.1)).1.2.2.1) (p0.2.2.2.2.1,p0.2.2.2.2.2.2)).2.2)))
       .fail)
       .fail))
      .fail)
     (.ite (qcQ ((),(qc (p0.2.2.1.2.2.2.1,p0.2.2.2.1)).1.1,(qc (p0.2.2.1.2.2.2.1,p0.2.2.2.1)).1.2.1) (p0.2.2.2.2.1,p0.2.2.2.2.2.2))
      (.ite ((qz ((),(qc (p0.2.2.1.2.2.2.1,p0.2.2.2.1)).1.1,(qc (p0.2.2.1.2.2.2.1,p0.2.2.2.1)).1.2.1) (p0.2.2.2.2.1,p0.2.2.2.2.2.2)).1.2.1 != 0)
      (.ret (((2,p0.2.2.1.2.2.2.1.2.1,(qc (p0.2.2.1.2.2.2.1,p0.2.2.2.1)).1.1,12,()),true,()),((p0.2.2.1.1,p0.2.2.1.2.1,(),(p0.2.2.1.2.2.2.1.1,p0.2.2.1.1.2.1,p0.2.2.1.2.2.2.1.2.2),p0.2.2.1.2.2.2.2),(qz ((),(qc (p0.2.2.1.2.2.2.1,p0.2.2.2.1)).1.1,(qc (p0.2.2.1.2.2.2.1,p0.2.2.2.1)).1.2.1) (p0.2.2.2.2.1,p0.2.2.2.2.2.2)).2.1,p0.2.2.2.2.2.1,(qz ((),(qc (p0.2.2.1.2.2.2.1,p0.2.2.2.1)).1.1,(qc (p0.2.2.1.2.2.2.1,p0.2.2.2.1)).1.2.1) (p0.2.2.2.2.1,p0.2.2.2.2.2.2)).2.2)))
      (.ite (qc7 (p0.2.2.1.2.2.2.1,p0.2.2.2.1))
       (.ite (qep (p0.2.2.1.2.2.2.1,p0.2.2.2.1,(qz ((),(qc (p0.2.2.1.2.2.2.1,p0.2.2.2.1)).1.1,(qc (p0.2.2.1.2.2.2.1,p0.2.2.2.1)).1.2.1) (p0.2.2.2.2.1,p0.2.2.2.2.2.2)).1.1))
       (.ret (((0,(qcJ y.1.2.2.2.1 (0,0,0,0,())).2.1,(qc (p0.2.2.1.2.2.2.1,p0.2.2.2.1)).1.1,qcL (p0.2.2.1.2.2.2.1,p0.2.2.2.1),()),true,()),((p0.2.2.1.1,p0.2.2.1.2.1,(),(qbf (p0.2.2.1.2.2.2.1,p0.2.2.2.1,(qz ((),(qc (p0.2.2.1.2.2.2.1,p0.2.2.2.1)).1.1,(qc (p0.2.2.1.2.2.2.1,p0.2.2.2.1)).1.2.1) (p0.2.2.2.2.1,p0.2.2.2.2.2.2)).1.1)).1,!(qbf (p0.2.2.1.2.2.2.1,p0.2.2.2.1,(qz ((),(qc (p0.2.2.1.2.2.2.1,p0.2.2.2.1)).1.1,(qc (p0.2.2.1.2.2.2.1,p0.2.2.2.1)).1.2.1) (p0.2.2.2.2.1,p0.2.2.2.2.2.2)).1.1)).2.1,p0.2.2.1.2.2.2.2.2),(qz ((),(qc (p0.2.2.1.2.2.2.1,p0.2.2.2.1)).1.1,(qc (p0.2.2.1.2.2.2.1,p0.2.2.2.1)).1.2.1) (p0.2.2.2.2.1,p0.2.2.2.2.2.2)).2.1,p0.2.2.2.2.2.1,(qz ((),(qc (p0.2.2.1.2.2.2.1,p0.2.2.2.1)).1.1,(qc (p0.2.2.1.2.2.2.1,p0.2.2.2.1)).1.2.1) (p0.2.2.2.2.1,p0.2.2.2.2.2.2)).2.2)))
       .fail)
       .fail))
      .fail))
     (.ite (qc7 (p0.2.2.1.2.2.2.1,p0.2.2.2.1))
     (.ite (qep (p0.2.2.1.2.2.2.1,p0.2.2.2.1,0))
      (.ret (((0,(qcJ y.1.2.2.2.1 (0,0,0,0,())).2.1,0,qcL (p0.2.2.1.2.2.2.1,p0.2.2.2.1),()),true,()),((p0.2.2.1.1,p0.2.2.1.2.1,(),(qbf (p0.2.2.1.2.2.2.1,p0.2.2.2.1,0)).1,!(qbf (p0.2.2.1.2.2.2.1,p0.2.2.2.1,0)).2.1,p0.2.2.1.2.2.2.2.2),p0.2.2.2.2.1,p0.2.2.2.2.2.1,p0.2.2.2.2.2.2)))
      .fail)
     .fail))
    .fail)
    (.ret (((2,p0.2.2.1.2.2.2.1.2.1,0,12,()),true,()),((p0.2.2.1.1,p0.2.2.1.2.1,(),(p0.2.2.1.2.2.2.1.1,p0.2.2.1.1.2.1,p0.2.2.1.2.2.2.1.2.2),p0.2.2.1.2.2.2.2),p0.2.2.2.2.1,p0.2.2.2.2.2.1,p0.2.2.2.2.2.2)))))
   .fail)
  (.ite (qdS ((),x.2) ((y.1.1,y.1.2.1,(),y.1.2.2.2),y.2))
   (.opt (LoopN.res qdu ((),(),0,(qcJ y.1.2.2.2.1 x.2).2.1) ((y.1.1,y.1.2.1,(),qcJ y.1.2.2.2.1 x.2,y.1.2.2.2.2),(0,0,0,0,0,0,0,false,()),y.2)) fun p0 =>
   (.ite (way p0.1)
    (.ite (x.2.1==1)
    (.ret (((1,(qcJ y.1.2.2.2.1 x.2).2.1,0,1,()),true,()),((p0.2.2.1.1,p0.2.2.1.2.1,(),(p0.2.2.1.2.2.2.1.1,qgx (p0.2.2.1.2.2.2.1.2.1,p0.2.1),p0.2.2.1.2.2.2.1.2.2),p0.2.2.1.2.2.2.2),p0.2.2.2.2.1,p0.2.2.2.2.2.1,p0.2.2.2.2.2.2)))
    (.ite (qe1 (p0.2.2.1.2.2.2.1,p0.2.2.2.1))
     (.ite ((qc (p0.2.2.1.2.2.2.1,p0.2.2.2.1)).2.1)
     (.ite ((qc (p0.2.2.1.2.2.2.1,p0.2.2.2.1)).1.2.2.2.1)
      (.ite (qc3 ((),(qc (p0.2.2.1.2.2.2.1,p0.2.2.2.1)).1.1,(qc (p0.2.2.1.2.2.2.1,p0.2.2.2.1)).1.2.1,(qc (p0.2.2.1.2.2.2.1,p0.2.2.2.1)).1.2.2.1) (p0.2.2.2.2.1,p0.2.2.2.2.2.2))
      (.ite ((qU ((),(qc (p0.2.2.1.2.2.2.1,p0.2.2.2.1)).1.1,(qc (p0.2.2.1.2.2.2.1,p0.2.2.2.1)).1.2.1,(qc (p0.2.2.1.2.2.2.1,p0.2.2.2.1)).1.2.2.1) (p0.2.2.2.2.1,p0.2.2.2.2.2.2)).1 != 0)
       (.ret (((2,p0.2.2.1.2.2.2.1.2.1,(qc (p0.2.2.1.2.2.2.1,p0.2.2.2.1)).1.1,12,()),true,()),((p0.2.2.1.1,p0.2.2.1.2.1,(),(p0.2.2.1.2.2.2.1.1,p0.2.2.1.1.2.1,p0.2.2.1.2.2.2.1.2.2),p0.2.2.1.2.2.2.2),(qU ((),(qc (p0.2.2.1.2.2.2.1,p0.2.2.2.1)).1.1,(qc (p0.2.2.1.2.2.2.1,p0.2.2.2.1)).1.2.1,(qc (p0.2.2.1.2.2.2.1,p0.2.2.2.1)).1.2.2.1) (p0.2.2.2.2.1,p0.2.2.2.2.2.2)).2.1,p0.2.2.2.2.2.1,(qU ((),(qc (p0.2.2.1.2.2.2.1,p0.2.2.2.1)).1.1,(qc (p0.2.2.1.2.2.2.1,p0.2.2.2.1)).1.2.1,(qc (p0.2.2.1.2.2.2.1,p0.2.2.2.1)).1.2.2.1) (p0.2.2.2.2.1,p0.2.2.2.2.2.2)).2.2)))
       (.ite (qc7 (p0.2.2.1.2.2.2.1,p0.2.2.2.1))
       (.ite (qep (p0.2.2.1.2.2.2.1,p0.2.2.2.1,0))
        (.ret (((0,(qcJ y.1.2.2.2.1 x.2).2.1,(qc (p0.2.2.1.2.2.2.1,p0.2.2.2.1)).1.1,qcL (p0.2.2.1.2.2.2.1,p0.2.2.2.1),()),true,()),((p0.2.2.1.1,p0.2.2.1.2.1,(),(qbf (p0.2.2.1.2.2.2.1,p0.2.2.2.1,0)).1,!(qbf (p0.2.2.1.2.2.2.1,p0.2.2.2.1,0)).2.1,p0.2.2.1.2.2.2.2.2),(qU ((),(qc (p0.2.2.1.2.2.2.1,p0.2.2.2.1)).1.1,(qc (p0.2.2.1.2.2.2.1,p0.2.2.2.1)).1.2.1,(qc (p0.2.2.1.2.2.2.1,p0.2.2.2.1)).1.2.2.1) (p0.2.2.2.2.1,p0.2.2.2.2.2.2)).2.1,p0.2.2.2.2.2.1,(qU ((),(qc (p0.2.2.1.2.2.2.1,p0.2.2.2.1)).1.1,(qc (p0.2.2.1.2.2.2.1,p0.2.2.2.1)).1.2.1,(qc (p0.2.2.1.2.2.2.1,p0.2.2.2.1)).1.2.2.1) (p0.2.2.2.2.1,p0.2.2.2.2.2.2)).2.2)))
        .fail)
       .fail))
      .fail)
      (.ite (qcQ ((),(qc (p0.2.2.1.2.2.2.1,p0.2.2.2.1)).1.1,(qc (p0.2.2.1.2.2.2.1,p0.2.2.2.1)).1.2.1) (p0.2.2.2.2.1,p0.2.2.2.2.2.2))
      (.ite ((qz ((),(qc (p0.2.2.1.2.2.2.1,p0.2.2.2.1)).1.1,(qc (p0.2.2.1.2.2.2.1,p0.2.2.2.1)).1.2.1) (p0.2.2.2.2.1,p0.2.2.2.2.2.2)).1.2.1 != 0)
       (.ret (((2,p0.2.2.1.2.2.2.1.2.1,(qc (p0.2.2.1.2.2.2.1,p0.2.2.2.1)).1.1,12,()),true,()),((p0.2.2.1.1,p0.2.2.1.2.1,(),(p0.2.2.1.2.2.2.1.1,p0.2.2.1.1.2.1,p0.2.2.1.2.2.2.1.2.2),p0.2.2.1.2.2.2.2),(qz ((),(qc (p0.2.2.1.2.2.2.1,p0.2.2.2.1)).1.1,(qc (p0.2.2.1.2.2.2.1,p0.2.2.2.1)).1.2.1) (p0.2.2.2.2.1,p0.2.2.2.2.2.2)).2.1,p0.2.2.2.2.2.1,(qz ((),(qc (p0.2.2.1.2.2.2.1,p0.2.2.2.1)).1.1,(qc (p0.2.2.1.2.2.2.1,p0.2.2.2.1)).1.2.1) (p0.2.2.2.2.1,p0.2.2.2.2.2.2)).2.2)))
       (.ite (qc7 (p0.2.2.1.2.2.2.1,p0.2.2.2.1))
       (.ite (qep (p0.2.2.1.2.2.2.1,p0.2.2.2.1,(qz ((),(qc (p0.2.2.1.2.2.2.1,p0.2.2.2.1)).1.1,(qc (p0.2.2.1.2.2.2.1,p0.2.2.2.1)).1.2.1) (p0.2.2.2.2.1,p0.2.2.2.2.2.2)).1.1))
        (.ret (((0,(qcJ y.1.2.2.2.1 x.2).2.1,(qc (p0.2.2.1.2.2.2.1,p0.2.2.2.1)).1.1,qcL (p0.2.2.1.2.2.2.1,p0.2.2.2.1),()),true,()),((p0.2.2.1.1,p0.2.2.1.2.1,(),(qbf (p0.2.2.1.2.2.2.1,p0.2.2.2.1,(qz ((),(qc (p0.2.2.1.2.2.2.1,p0.2.2.2.1)).1.1,(qc (p0.2.2.1.2.2.2.1,p0.2.2.2.1)).1.2.1) (p0.2.2.2.2.1,p0.2.2.2.2.2.2)).1.1)).1,!(qbf (p0.2.2.1.2.2.2.1,p0.2.2.2.1,(qz ((),(qc (p0.2.2.1.2.2.2.1,p0.2.2.2.1)).1.1,(qc (p0.2.2.1.2.2.2.1,p0.2.2.2.1)).1.2.1) (p0.2.2.2.2.1,p0.2.2.2.2.2.2)).1.1)).2.1,p0.2.2.1.2.2.2.2.2),(qz ((),(qc (p0.2.2.1.2.2.2.1,p0.2.2.2.1)).1.1,(qc (p0.2.2.1.2.2.2.1,p0.2.2.2.1)).1.2.1) (p0.2.2.2.2.1,p0.2.2.2.2.2.2)).2.1,p0.2.2.2.2.2.1,(qz ((),(qc (p0.2.2.1.2.2.2.1,p0.2.2.2.1)).1.1,(qc (p0.2.2.1.2.2.2.1,p0.2.2.2.1)).1.2.1) (p0.2.2.2.2.1,p0.2.2.2.2.2.2)).2.2)))
        .fail)
       .fail))
      .fail))
     (.ite (qc7 (p0.2.2.1.2.2.2.1,p0.2.2.2.1))
      (.ite (qep (p0.2.2.1.2.2.2.1,p0.2.2.2.1,0))
      (.ret (((0,(qcJ y.1.2.2.2.1 x.2).2.1,0,qcL (p0.2.2.1.2.2.2.1,p0.2.2.2.1),()),true,()),((p0.2.2.1.1,p0.2.2.1.2.1,(),(qbf (p0.2.2.1.2.2.2.1,p0.2.2.2.1,0)).1,!(qbf (p0.2.2.1.2.2.2.1,p0.2.2.2.1,0)).2.1,p0.2.2.1.2.2.2.2.2),p0.2.2.2.2.1,p0.2.2.2.2.2.1,p0.2.2.2.2.2.2)))
      .fail)
      .fail))
     .fail))
    (.ret (((2,p0.2.2.1.2.2.2.1.2.1,0,12,()),true,()),((p0.2.2.1.1,p0.2.2.1.2.1,(),(p0.2.2.1.2.2.2.1.1,p0.2.2.1.1.2.1,p0.2.2.1.2.2.2.1.2.2),p0.2.2.1.2.2.2.2),p0.2.2.2.2.1,p0.2.2.2.2.2.1,p0.2.2.2.2.2.2)))))
   .fail)))
def qcD (_:qh qeB) (y:qh qeC):Bool:=decide (MachWf y)
def qq (x:qh qeB) (y:qh qeC):Sh.den qgB×qh qh3 :=
 bif y.1.2.2.2.2.1 then(((0,0,0,0,()),false,()),y)
 else qjg y.1.1 y.1.2.1 y.1.2.2.2.2.2.1 (qdh y.1.2.1 y.1.2.2.2.1.2.1 y.2.2.1) (qcC y.1.1 y.1.2.1 y.1.2.2.2.1 (y.2.1,y.2.2.2) x.2)
theorem qAh (k p r b:Int) (h:qM (k,p,r,b,())=0):(!(k==(2:Int))||inRange r 15)=true:=by
 cases h2:(k==(2:Int))
 ·rfl
 ·simp only[beq_iff_eq] at h2
  subst h2
  have hx:(decide (p≥0)&&(decide (r≥0)&&(decide (r≤14)&&(decide (b≥0)&&decide (b<32)))))=true:=by
   cases hx:(decide (p≥0)&&(decide (r≥0)&&(decide (r≤14)&&(decide (b≥0)&&decide (b<32)))))
   ·exfalso
    have:qM (2,p,r,b,())=2:=by
     unfold qM PO.qH
     rw[show(qir (2,p,r,b,())).val=some 2 from qe (by
      show(!(decide (p≥0)&&(decide (r≥0)&&(decide (r≤14)&&(decide (b≥0)&&decide (b<32))))))=true
      rw[hx];rfl)]
     rfl
    rw[this] at h
    cases h
   ·rfl
  simp only[Bool.and_eq_true,decide_eq_true_eq] at hx
  have h1:inRange r 15=true:=by
   simp only[inRange,Bool.and_eq_true,decide_eq_true_eq]
   omega
  rw[h1]
  rfl
set_option maxRecDepth 10000 in
theorem qr6 (x:qh qeB) (y:qh qeC) (h:qcD x y=true):(qi9 x y).val=some (qq x y):=by
 have hw:MachWf y:=of_decide_eq_true h
 obtain⟨_,k,p,r,b,_⟩:=x
 obtain⟨⟨hd,fl,u,st,dn,win,u'⟩,M,c,B⟩:=y
 obtain⟨hmem,hregs,hpc,hhand,hlen,hwin,hcache⟩:=hw
 simp only at hmem hregs hpc hhand hlen hwin hcache
 subst hwin
 unfold qi9 qq
 cases dn
 case true=>exact(qe rfl).trans rfl
 case false =>
 refine(qB rfl).trans ?_
 have hp:∀f,0≤(show Int from(qcJ st f).2.1)∧(show Int from(qcJ st f).2.1)<4294967296:=fun f=>by rw[qGj];exact hpc
 have go:=fun f=>qLG fl c hd (qcJ st f) false (0,0,0,0,0,0,0,false,()) 0 M B (hp f) hcache
 have act:=fun f i=>qQP hd fl (0,fl.length / 2+1) (qcJ st f) i M (qdh fl (qcJ st f).2.1 c) B (qBV st f hregs) hmem
 have e0:∀f,qdh fl st.2.1 c=qdh fl (qcJ st f).2.1 c:=fun f=>by rw[qGj]
 show _=some (qjg hd fl (0,fl.length / 2+1) (qdh fl st.2.1 c) (qcC hd fl st (M,B) (k,p,r,b,())))
 unfold qcC qpQ
 cases hck:(qM (k,p,r,b,()) != (0:Int))
 ·refine(qB rfl).trans ((qe (qAh k p r b (by simpa using hck))).trans ((qcP (go _)).trans ?_))
  simp only[cond_false]
  rw[e0 (k,p,r,b,())]
  unfold qyj
  have ha:=act (k,p,r,b,())
  cases qiE fl (qcJ st (k,p,r,b,())).2.1 with
  |none=>exact(qB rfl).trans rfl
  |some q =>
   refine(qe rfl).trans ?_
   simp only
   cases hs:(k==(1:Int))
   ·exact(qB rfl).trans (ha q.1)
   ·exact(qe rfl).trans rfl
 ·refine(qe rfl).trans ((qe rfl).trans ((qcP (go _)).trans ?_))
  simp only[cond_true]
  rw[e0 (0,0,0,0,())]
  unfold qyj
  have ha:=act (0,0,0,0,())
  cases qiE fl (qcJ st (0,0,0,0,())).2.1 with
  |none=>exact(qB rfl).trans rfl
  |some q=>exact(qe rfl).trans (ha q.1)
end Go.Av
end
section
namespace Go.Av
open Go
theorem qOa {fl:List UInt8} {c:List qbs.den} (h:qpl fl c) (pc:Int):qpl fl (qdh fl pc c):=by
 unfold qdh
 cases (qR .i64 pc 1 != 0||decide (pc≥qi fl))
 ·cases (List.getD c (pc / 2).toNat dfF).2.2.1
  ·refine⟨by simp only[cond_false,List.length_set];exact h.1,fun k hk hn=>?_⟩
   simp only[cond_false,List.length_set] at hk hn ⊢
   rw[List.getD_eq_getElem?_getD,List.getElem?_set] at hn ⊢
   split at hn
   ·rename_i e
    subst e
    rw[if_pos rfl]
    split
    ·rfl
    ·omega
   ·rename_i e
    rw[if_neg e]
    have:=h.2 k hk
    rw[List.getD_eq_getElem?_getD] at this
    exact this hn
  ·exact h
 ·exact h
theorem qGw (n:Int):0≤((wn n:Nat):Int)∧((wn n:Nat):Int)<4294967296:=⟨by omega,by have:=qga n;omega⟩
theorem qMU (st:qE.den) (i:qA.den) (ld:Int):∃m:Int,(show Int from(qbf (st,i,ld)).1.2.1)=((wn m:Nat):Int):=by
 obtain⟨op,rd,rn,rm,ra,imm,cond,w,u⟩:=i
 show ∃m:Int,(show Int from(qlX _ st op rd rn rm ra imm cond w ld).1.2.1)=((wn m:Nat):Int)
 unfold qlX
 cases (qf (op,rd,rn,rm,ra,imm,cond,w,u) != 0||op==2)
 ·exact⟨_,rfl⟩
 ·exact⟨_,rfl⟩
theorem qPu (st:qE.den) (i:qA.den) (ld:Int):0≤(show Int from(qbf (st,i,ld)).1.2.1)∧(show Int from(qbf (st,i,ld)).1.2.1)<4294967296:=by
 obtain⟨m,hm⟩:=qMU st i ld
 rw[hm]
 exact qGw m
theorem qPa (hd:qce.den) (st:qE.den) (i:qA.den) (mem:qcS) (hm:MemWf mem) (hr:List.length st.1=15) (hh:0≤(show Int from hd.2.1)∧(show Int from hd.2.1)<4294967296) :
  List.length (qeM hd st i mem).2.1.1=15∧(0≤(show Int from(qeM hd st i mem).2.1.2.1)∧(show Int from(qeM hd st i mem).2.1.2.1)<4294967296)∧MemWf (qeM hd st i mem).2.2.2∧(qeM hd st i mem).2.2.2.1=mem.1∧0≤(show Int from(qeM hd st i mem).1.2.2.2.1)∧(show Int from(qeM hd st i mem).1.2.2.2.1)≤12:=by
 have hcy:0≤(show Int from qcL (st,i))∧(show Int from qcL (st,i))≤12:=by
  obtain⟨op,rd,rn,rm,ra,imm,cond,w,u⟩:=i
  show 0≤qri _ st op cond∧qri _ st op cond≤12
  unfold qri
  cases (qf (op,rd,rn,rm,ra,imm,cond,w,u) != 0)
  ·cases (op==19||(op==20||(op==21||op==22)))
   ·cases (op==17)
    ·cases qm5 st op cond<;>simp
    ·simp
   ·simp
  ·simp
 have fin:∀m ld ad,MemWf m→m.1=mem.1→List.length (qhg st i m ld ad).2.1.1=15∧(0≤(show Int from(qhg st i m ld ad).2.1.2.1)∧(show Int from(qhg st i m ld ad).2.1.2.1)<4294967296)∧MemWf (qhg st i m ld ad).2.2.2∧(qhg st i m ld ad).2.2.2.1=mem.1∧0≤(show Int from(qhg st i m ld ad).1.2.2.2.1)∧(show Int from(qhg st i m ld ad).1.2.2.2.1)≤12 :=
  fun m ld ad h1 h2=>⟨qNy st i ld hr,qPu st i ld,h1,h2,hcy.1,hcy.2⟩
 have trap:∀m ad,MemWf m→m.1=mem.1→List.length (qmR hd st m ad).2.1.1=15∧(0≤(show Int from(qmR hd st m ad).2.1.2.1)∧(show Int from(qmR hd st m ad).2.1.2.1)<4294967296)∧MemWf (qmR hd st m ad).2.2.2∧(qmR hd st m ad).2.2.2.1=mem.1∧0≤(show Int from(qmR hd st m ad).1.2.2.2.1)∧(show Int from(qmR hd st m ad).1.2.2.2.1)≤12 :=
  fun m ad h1 h2=>⟨hr,hh,h1,h2,by show(0:Int)≤12;decide,by show(12:Int)≤12;decide⟩
 unfold qeM
 cases (qc (st,i)).2.1
 ·exact fin _ _ _ hm rfl
 ·cases (qc (st,i)).1.2.2.2.1
  ·cases ((ql6 mem (qc (st,i)).1.1 (qc (st,i)).1.2.1).2.1 != (0:Int))
   ·exact fin _ _ _ hm rfl
   ·exact trap _ _ hm rfl
  ·have hs:=qBU hm (qc (st,i)).1.1 (qc (st,i)).1.2.1 (qc (st,i)).1.2.2.1
   cases ((qd6 mem (qc (st,i)).1.1 (qc (st,i)).1.2.1 (qc (st,i)).1.2.2.1).1 != (0:Int))
   ·exact fin _ _ _ hs.1 hs.2
   ·exact trap _ _ hs.1 hs.2
theorem quS (hd:qce.den) (fl:List UInt8) (st:qE.den) (mem:qcS) (f:qX.den) (hm:MemWf mem) (hr:List.length st.1=15) (hh:0≤(show Int from hd.2.1)∧(show Int from hd.2.1)<4294967296) :
  List.length (qcC hd fl st mem f).2.1.1=15∧(0≤(show Int from(qcC hd fl st mem f).2.1.2.1)∧(show Int from(qcC hd fl st mem f).2.1.2.1)<4294967296)∧MemWf (qcC hd fl st mem f).2.2.2∧(qcC hd fl st mem f).2.2.2.1=mem.1∧0≤(show Int from(qcC hd fl st mem f).1.2.2.2.1)∧(show Int from(qcC hd fl st mem f).1.2.2.2.1)≤12:=by
 unfold qcC qyj
 have hl:=qBV st (qpQ f) hr
 cases qiE fl (qcJ st (qpQ f)).2.1 with
 |none=>exact⟨hl,hh,hm,rfl,by show(0:Int)≤12;decide,by show(12:Int)≤12;decide⟩
 |some p =>
  simp only
  cases ((qpQ f).1==(1:Int))
  ·exact qPa hd _ p.1 mem hm hl hh
  ·exact⟨hl,qGw _,hm,rfl,by show(0:Int)≤1;decide,by show(1:Int)≤12;decide⟩
theorem qDY {y:MS} (h:MachWf y) (f:qX.den):MachWf (qjg y.1.1 y.1.2.1 y.1.2.2.2.2.2.1 (qdh y.1.2.1 y.1.2.2.2.1.2.1 y.2.2.1) (qcC y.1.1 y.1.2.1 y.1.2.2.2.1 (y.2.1,y.2.2.2) f)).2:=by
 obtain⟨h1,h2,h3,h4,_⟩:=quS y.1.1 y.1.2.1 y.1.2.2.2.1 (y.2.1,y.2.2.2) f h.mem h.regs h.hand
 exact⟨h3,h1,h2,h.hand,h.len,h.win,qOa h.cache _⟩
abbrev qxg:Type:=qE.den×Bool×qcS
abbrev qev:qX.den:=(0,0,0,0,())
def qcn (f:qX.den) (k:Int):qX.den:=bif f.2.1==k then f else qev
def goX (hd:qce.den) (fl:List UInt8) (f:qX.den):Nat→Int→qxg→List qtg.den×Int×qxg
 |0,_,s=>([],0,s)
 |n+1,k,s=>bif s.2.1 then([],0,s) else
   ((qcC hd fl s.1 s.2.2 (qcn f k)).1::(goX hd fl f n (k+1) (qcC hd fl s.1 s.2.2 (qcn f k)).2).1,
    (bif s.1.2.1==hd.2.1 then 1 else 0)+(goX hd fl f n (k+1) (qcC hd fl s.1 s.2.2 (qcn f k)).2).2.1,
    (goX hd fl f n (k+1) (qcC hd fl s.1 s.2.2 (qcn f k)).2).2.2)
def qrM (hd:qce.den) (fl:List UInt8) (f:qX.den):Nat→Int→qxg→List qbs.den→List qbs.den
 |0,_,_,c=>c
 |n+1,k,s,c=>bif s.2.1 then c else qrM hd fl f n (k+1) (qcC hd fl s.1 s.2.2 (qcn f k)).2 (qdh fl s.1.2.1 c)
def qtK:List qtg.den→Int
 |[]=>0
 |v::l=>v.2.2.2.1+qtK l
def qcI (y:MS):qxg:=(y.1.2.2.2.1,y.1.2.2.2.2.1,(y.2.1,y.2.2.2))
abbrev qs6 (y:MS) (s:qxg) (c:List qbs.den):MS:=((y.1.1,y.1.2.1,(),s.1,s.2.1,y.1.2.2.2.2.2.1,()),s.2.2.1,c,s.2.2.2)
def qk2:LoopN where
 M:=[0,2,3,5,8,9]
 T:=[10,11,12,13,14,15,16,17,18,19,20,21,22,23,24,25,26,27,28,29,30,31,32,33,34,35,36,37,38,39,40,41,42,43,44,45,46,47,48,49,50,51,52,53,54,55,56,57,58,59,60,61,62,63,64]
 D:=[2,3,5]
 ss:=[.box 0 0,.ty (.int .i64),.fn 49 (.ty .unit),.box 1 0,.box 2 0,.box 3 0]
 hs:=[(qpa 4 5),(.ty qX),(.ty qeR),(.ty qeR),(qgf 6),.rowc qbs,.rowc (.int .u8)]
 es:=[.exit 0]
 σ:=(Sh.den ((qpa 4 5)))×(Sh.den ((.ty qX)))×(Sh.den ((.ty qeR)))×(Sh.den ((.ty qeR)))×(Sh.den ((qgf 6)))×(Sh.den (.rowc qbs))×(Sh.den (.rowc (.int .u8)))
 x0:=fun _ y=>(y.1,y.2.1,y.2.2.1,y.2.2.2.1,y.2.2.2.2.1,y.2.2.2.2.2.1,y.2.2.2.2.2.2)
 put:=fun x _ s=>((x.1,x.2.1,x.2.2.1,x.2.2.2.1,x.2.2.2.2.1,x.2.2.2.2.2),(s.1,s.2.1,s.2.2.1,s.2.2.2.1,s.2.2.2.2.1,s.2.2.2.2.2.1,s.2.2.2.2.2.2))
 fuel:=fun x _=>Int.toNat x.2.1+1
 turn:=fun x _ s =>
 (.ite (!s.1.2.2.2.2.1&&decide (s.2.2.2.1.2.1<x.2.1))
  (.ite (s.1.2.2.2.1.2.1==s.1.1.2.1)
  (.ite (s.2.1.2.1==s.2.2.2.1.2.1)
   (.ite (qcD ((),s.2.1) ((s.1.1,s.1.2.1,(),s.1.2.2.2),s.2.2.2.2))
   (.ret (.on (((qq ((),s.2.1) ((s.1.1,s.1.2.1,(),s.1.2.2.2),s.2.2.2.2)).2.1.1,(qq ((),s.2.1) ((s.1.1,s.1.2.1,(),s.1.2.2.2),s.2.2.2.2)).2.1.2.1,(),(qq ((),s.2.1) ((s.1.1,s.1.2.1,(),s.1.2.2.2),s.2.2.2.2)).2.1.2.2.2),s.2.1,s.2.2.1,(s.2.2.2.1.1,w64 (s.2.2.2.1.2.1+1),w64 (s.2.2.2.1.2.2.1+(qq ((),s.2.1) ((s.1.1,s.1.2.1,(),s.1.2.2.2),s.2.2.2.2)).1.1.2.2.2.1),w64 (s.2.2.2.1.2.2.2.1+1),s.2.2.2.1.2.2.2.2),(qq ((),s.2.1) ((s.1.1,s.1.2.1,(),s.1.2.2.2),s.2.2.2.2)).2.2.1,(qq ((),s.2.1) ((s.1.1,s.1.2.1,(),s.1.2.2.2),s.2.2.2.2)).2.2.2.1,(qq ((),s.2.1) ((s.1.1,s.1.2.1,(),s.1.2.2.2),s.2.2.2.2)).2.2.2.2)))
   .fail)
   (.ite (qcD ((),0,0,0,0,()) ((s.1.1,s.1.2.1,(),s.1.2.2.2),s.2.2.2.2))
   (.ret (.on (((qq ((),0,0,0,0,()) ((s.1.1,s.1.2.1,(),s.1.2.2.2),s.2.2.2.2)).2.1.1,(qq ((),0,0,0,0,()) ((s.1.1,s.1.2.1,(),s.1.2.2.2),s.2.2.2.2)).2.1.2.1,(),(qq ((),0,0,0,0,()) ((s.1.1,s.1.2.1,(),s.1.2.2.2),s.2.2.2.2)).2.1.2.2.2),s.2.1,s.2.2.1,(s.2.2.2.1.1,w64 (s.2.2.2.1.2.1+1),w64 (s.2.2.2.1.2.2.1+(qq ((),0,0,0,0,()) ((s.1.1,s.1.2.1,(),s.1.2.2.2),s.2.2.2.2)).1.1.2.2.2.1),w64 (s.2.2.2.1.2.2.2.1+1),s.2.2.2.1.2.2.2.2),(qq ((),0,0,0,0,()) ((s.1.1,s.1.2.1,(),s.1.2.2.2),s.2.2.2.2)).2.2.1,(qq ((),0,0,0,0,()) ((s.1.1,s.1.2.1,(),s.1.2.2.2),s.2.2.2.2)).2.2.2.1,(qq ((),0,0,0,0,()) ((s.1.1,s.1.2.1,(),s.1.2.2.2),s.2.2.2.2)).2.2.2.2)))
   .fail))
  (.ite (s.2.1.2.1==s.2.2.2.1.2.1)
   (.ite (qcD ((),s.2.1) ((s.1.1,s.1.2.1,(),s.1.2.2.2),s.2.2.2.2))
   (.ret (.on (((qq ((),s.2.1) ((s.1.1,s.1.2.1,(),s.1.2.2.2),s.2.2.2.2)).2.1.1,(qq ((),s.2.1) ((s.1.1,s.1.2.1,(),s.1.2.2.2),s.2.2.2.2)).2.1.2.1,(),(qq ((),s.2.1) ((s.1.1,s.1.2.1,(),s.1.2.2.2),s.2.2.2.2)).2.1.2.2.2),s.2.1,s.2.2.1,(s.2.2.2.1.1,w64 (s.2.2.2.1.2.1+1),w64 (s.2.2.2.1.2.2.1+(qq ((),s.2.1) ((s.1.1,s.1.2.1,(),s.1.2.2.2),s.2.2.2.2)).1.1.2.2.2.1),s.2.2.2.1.2.2.2),(qq ((),s.2.1) ((s.1.1,s.1.2.1,(),s.1.2.2.2),s.2.2.2.2)).2.2.1,(qq ((),s.2.1) ((s.1.1,s.1.2.1,(),s.1.2.2.2),s.2.2.2.2)).2.2.2.1,(qq ((),s.2.1) ((s.1.1,s.1.2.1,(),s.1.2.2.2),s.2.2.2.2)).2.2.2.2)))
   .fail)
   (.ite (qcD ((),0,0,0,0,()) ((s.1.1,s.1.2.1,(),s.1.2.2.2),s.2.2.2.2))
   (.ret (.on (((qq ((),0,0,0,0,()) ((s.1.1,s.1.2.1,(),s.1.2.2.2),s.2.2.2.2)).2.1.1,(qq ((),0,0,0,0,()) ((s.1.1,s.1.2.1,(),s.1.2.2.2),s.2.2.2.2)).2.1.2.1,(),(qq ((),0,0,0,0,()) ((s.1.1,s.1.2.1,(),s.1.2.2.2),s.2.2.2.2)).2.1.2.2.2),s.2.1,s.2.2.1,(s.2.2.2.1.1,w64 (s.2.2.2.1.2.1+1),w64 (s.2.2.2.1.2.2.1+(qq ((),0,0,0,0,()) ((s.1.1,s.1.2.1,(),s.1.2.2.2),s.2.2.2.2)).1.1.2.2.2.1),s.2.2.2.1.2.2.2),(qq ((),0,0,0,0,()) ((s.1.1,s.1.2.1,(),s.1.2.2.2),s.2.2.2.2)).2.2.1,(qq ((),0,0,0,0,()) ((s.1.1,s.1.2.1,(),s.1.2.2.2),s.2.2.2.2)).2.2.2.1,(qq ((),0,0,0,0,()) ((s.1.1,s.1.2.1,(),s.1.2.2.2),s.2.2.2.2)).2.2.2.2)))
   .fail)))
  (.ret (.out 0 (s.1,s.2.1,s.2.2.1,s.2.2.2.1,s.2.2.2.2.1,s.2.2.2.2.2.1,s.2.2.2.2.2.2))))
theorem qvg {α β γ δ ε:Type} {A:α} {f:β} {r0:ε} {hal:Bool} {rst:γ} {B:δ} {X1 Y1 X2 Y2 X3 Y3:Int} (h1:X1=Y1) (h2:X2=Y2) (h3:X3=Y3):some ((0:Nat),A,f,r0,(hal,X1,X2,X3,rst),B)=some ((0:Nat),A,f,r0,(hal,Y1,Y2,Y3,rst),B):=by
 subst h1 h2 h3
 rfl
theorem qDT (f:qX.den) (budget:Int) (hbud:budget≤67108864) (r0:qeR.den) (rst:Int×Int×List UInt8×List UInt8×List UInt8×Unit) (hal:Bool) (x:qh qk2.ss) (hx:x.2.1=budget) (y0:qh qk2.hs) :
  ∀(n k:Nat) (cyc hnd:Int) (y:MS),(k:Int)+n=budget→MachWf y→0≤cyc→cyc≤12*k→0≤hnd→hnd≤k →
   qeK (qk2.turn x y0) (n+1) (y.1,f,r0,(hal,(k:Int),cyc,hnd,rst),y.2.1,y.2.2.1,y.2.2.2) =
    some (0,((qs6 y (goX y.1.1 y.1.2.1 f n k (qcI y)).2.2 (qrM y.1.1 y.1.2.1 f n k (qcI y) y.2.2.1)).1,f,r0,
     (hal,(k:Int)+((goX y.1.1 y.1.2.1 f n k (qcI y)).1.length:Int),cyc+qtK (goX y.1.1 y.1.2.1 f n k (qcI y)).1,hnd+(goX y.1.1 y.1.2.1 f n k (qcI y)).2.1,rst),
     (qs6 y (goX y.1.1 y.1.2.1 f n k (qcI y)).2.2 (qrM y.1.1 y.1.2.1 f n k (qcI y) y.2.2.1)).2)):=by
 intro n
 induction n with
 |zero =>
  intro k cyc hnd y hk hw _ _ _ _
  refine(qb6 ((qB ?_).trans rfl)).trans ?_
  ·show(!y.1.2.2.2.2.1&&decide ((k:Int)<x.2.1))=false
   rw[hx,qC (show ¬(k:Int)<budget by omega),Bool.and_false]
  ·simp[goX,qrM,qtK,qcI]
   rfl
 |succ n ih =>
  intro k cyc hnd y hk hw hc0 hc1 hh0 hh1
  cases hd:y.1.2.2.2.2.1 with
  |true =>
   refine(qb6 ((qB ?_).trans rfl)).trans ?_
   ·show(!y.1.2.2.2.2.1&&decide ((k:Int)<x.2.1))=false
    rw[hd];rfl
   ·have hg:goX y.1.1 y.1.2.1 f (n+1) k (qcI y)=([],0,qcI y):=by
     unfold goX
     rw[show(qcI y).2.1=true from hd]
     rfl
    have hcg:qrM y.1.1 y.1.2.1 f (n+1) k (qcI y) y.2.2.1=y.2.2.1:=by
     unfold qrM
     rw[show(qcI y).2.1=true from hd]
     rfl
    rw[hg,hcg]
    simp[qtK,qcI]
    rfl
  |false =>
   have hlt:(!y.1.2.2.2.2.1&&decide ((k:Int)<x.2.1))=true:=by
    rw[hx,hd,qK (show(k:Int)<budget by omega)];rfl
   have hG:∀g,qcD ((),g) ((y.1.1,y.1.2.1,(),y.1.2.2.2),y.2)=true:=fun g=>decide_eq_true hw
   have hV:∀g,qq ((),g) ((y.1.1,y.1.2.1,(),y.1.2.2.2),y.2)=qjg y.1.1 y.1.2.1 y.1.2.2.2.2.2.1 (qdh y.1.2.1 y.1.2.2.2.1.2.1 y.2.2.1) (qcC y.1.1 y.1.2.1 y.1.2.2.2.1 (y.2.1,y.2.2.2) g):=fun g=>by
    unfold qq
    rw[show(((y.1.1,y.1.2.1,(),y.1.2.2.2),y.2):MS).1.2.2.2.2.1=false from hd]
    rfl
   obtain⟨s1,s2,s3,s4,s5,s6⟩:=quS y.1.1 y.1.2.1 y.1.2.2.2.1 (y.2.1,y.2.2.2) (qcn f k) hw.mem hw.regs hw.hand
   have hw':=qDY hw (qcn f k)
   have hgo:goX y.1.1 y.1.2.1 f (n+1) k (qcI y)=((qcC y.1.1 y.1.2.1 y.1.2.2.2.1 (y.2.1,y.2.2.2) (qcn f k)).1::(goX y.1.1 y.1.2.1 f n (k+1) (qcC y.1.1 y.1.2.1 y.1.2.2.2.1 (y.2.1,y.2.2.2) (qcn f k)).2).1,
     (bif y.1.2.2.2.1.2.1==y.1.1.2.1 then 1 else 0)+(goX y.1.1 y.1.2.1 f n (k+1) (qcC y.1.1 y.1.2.1 y.1.2.2.2.1 (y.2.1,y.2.2.2) (qcn f k)).2).2.1,
     (goX y.1.1 y.1.2.1 f n (k+1) (qcC y.1.1 y.1.2.1 y.1.2.2.2.1 (y.2.1,y.2.2.2) (qcn f k)).2).2.2):=by
    rw[goX]
    rw[show(qcI y).2.1=false from hd]
    rfl
   have hcg:qrM y.1.1 y.1.2.1 f (n+1) k (qcI y) y.2.2.1=qrM y.1.1 y.1.2.1 f n (k+1) (qcC y.1.1 y.1.2.1 y.1.2.2.2.1 (y.2.1,y.2.2.2) (qcn f k)).2 (qdh y.1.2.1 y.1.2.2.2.1.2.1 y.2.2.1):=by
    rw[qrM]
    rw[show(qcI y).2.1=false from hd]
    rfl
   rw[hgo,hcg]
   have w1:w64 ((k:Int)+1)=((k+1:Nat):Int):=by rw[qu (by omega) (by omega)];omega
   generalize hE:qcC y.1.1 y.1.2.1 y.1.2.2.2.1 (y.2.1,y.2.2.2) (qcn f k)=E at *
   have b0:(0:Int)≤E.1.2.2.2.1:=s5
   have b1:(12:Int)≥E.1.2.2.2.1:=s6
   have b2:(k:Int)≤67108864:=by omega
   have b3:cyc≤805306368:=by omega
   have w2:w64 (cyc+E.1.2.2.2.1)=cyc+E.1.2.2.2.1:=qu (by omega) (by omega)
   have w3:w64 (hnd+1)=hnd+1:=qu (by omega) (by omega)
   obtain⟨G1,hG1⟩:∃G1,G1=goX y.1.1 y.1.2.1 f n ((k:Int)+1) E.2:=⟨_,rfl⟩
   obtain⟨C1,hC1⟩:∃C1,C1=qrM y.1.1 y.1.2.1 f n ((k:Int)+1) E.2 (qdh y.1.2.1 y.1.2.2.2.1.2.1 y.2.2.1):=⟨_,rfl⟩
   rw[←hG1,←hC1]
   have fin:∀(b:Int),(b=0∨b=1)→qeK (qk2.turn x y0) (n+1) ((qjg y.1.1 y.1.2.1 y.1.2.2.2.2.2.1 (qdh y.1.2.1 y.1.2.2.2.1.2.1 y.2.2.1) E).2.1,f,r0,(hal,((k+1:Nat):Int),cyc+E.1.2.2.2.1,hnd+b,rst),(qjg y.1.1 y.1.2.1 y.1.2.2.2.2.2.1 (qdh y.1.2.1 y.1.2.2.2.1.2.1 y.2.2.1) E).2.2)=some (0,(qs6 y G1.2.2 C1).1,f,r0,(hal,((k+1:Nat):Int)+((G1.1.length:Nat):Int),cyc+E.1.2.2.2.1+qtK G1.1,hnd+b+G1.2.1,rst),(qs6 y G1.2.2 C1).2):=fun b hb=>by
    have:=ih (k+1) (cyc+E.1.2.2.2.1) (hnd+b) (qjg y.1.1 y.1.2.1 y.1.2.2.2.2.2.1 (qdh y.1.2.1 y.1.2.2.2.1.2.1 y.2.2.1) E).2 (by omega) hw' (by omega) (by omega) (by omega) (by omega)
    rw[hG1,hC1]
    exact this
   have hnow:qcn f k=(bif f.2.1==(k:Int) then f else qev):=rfl
   cases hb1:(y.1.2.2.2.1.2.1==y.1.1.2.1) with
   |true =>
    cases hb2:(f.2.1==(k:Int)) with
    |true =>
     rw[hb2] at hnow
     simp only[cond_true] at hnow
     rw[hnow] at hE
     refine(qeQ (s':=((qjg y.1.1 y.1.2.1 y.1.2.2.2.2.2.1 (qdh y.1.2.1 y.1.2.2.2.1.2.1 y.2.2.1) E).2.1,f,r0,(hal,((k+1:Nat):Int),cyc+E.1.2.2.2.1,hnd+1,rst),(qjg y.1.1 y.1.2.1 y.1.2.2.2.2.2.1 (qdh y.1.2.1 y.1.2.2.2.1.2.1 y.2.2.1) E).2.2)) ((qe hlt).trans ((qe hb1).trans ((qe hb2).trans ((qe (hG _)).trans (by rw[hV,hE,w1,w2,w3];rfl)))))).trans ?_
     refine(fin 1 (.inr rfl)).trans ?_
     exact qvg (by simp only[List.length_cons];omega) (Int.add_assoc _ _ _) (Int.add_assoc _ _ _)
    |false =>
     rw[hb2] at hnow
     simp only[cond_false] at hnow
     rw[hnow] at hE
     refine(qeQ (s':=((qjg y.1.1 y.1.2.1 y.1.2.2.2.2.2.1 (qdh y.1.2.1 y.1.2.2.2.1.2.1 y.2.2.1) E).2.1,f,r0,(hal,((k+1:Nat):Int),cyc+E.1.2.2.2.1,hnd+1,rst),(qjg y.1.1 y.1.2.1 y.1.2.2.2.2.2.1 (qdh y.1.2.1 y.1.2.2.2.1.2.1 y.2.2.1) E).2.2)) ((qe hlt).trans ((qe hb1).trans ((qB hb2).trans ((qe (hG _)).trans (by rw[hV,hE,w1,w2,w3];rfl)))))).trans ?_
     refine(fin 1 (.inr rfl)).trans ?_
     exact qvg (by simp only[List.length_cons];omega) (Int.add_assoc _ _ _) (Int.add_assoc _ _ _)
   |false =>
    cases hb2:(f.2.1==(k:Int)) with
    |true =>
     rw[hb2] at hnow
     simp only[cond_true] at hnow
     rw[hnow] at hE
     refine(qeQ (s':=((qjg y.1.1 y.1.2.1 y.1.2.2.2.2.2.1 (qdh y.1.2.1 y.1.2.2.2.1.2.1 y.2.2.1) E).2.1,f,r0,(hal,((k+1:Nat):Int),cyc+E.1.2.2.2.1,hnd+0,rst),(qjg y.1.1 y.1.2.1 y.1.2.2.2.2.2.1 (qdh y.1.2.1 y.1.2.2.2.1.2.1 y.2.2.1) E).2.2)) ((qe hlt).trans ((qB hb1).trans ((qe hb2).trans ((qe (hG _)).trans (by rw[hV,hE,w1,w2];simp only[Int.add_zero];rfl)))))).trans ?_
     refine(fin 0 (.inl rfl)).trans ?_
     exact qvg (by simp only[List.length_cons];omega) (Int.add_assoc _ _ _) (Int.add_assoc _ _ _)
    |false =>
     rw[hb2] at hnow
     simp only[cond_false] at hnow
     rw[hnow] at hE
     refine(qeQ (s':=((qjg y.1.1 y.1.2.1 y.1.2.2.2.2.2.1 (qdh y.1.2.1 y.1.2.2.2.1.2.1 y.2.2.1) E).2.1,f,r0,(hal,((k+1:Nat):Int),cyc+E.1.2.2.2.1,hnd+0,rst),(qjg y.1.1 y.1.2.1 y.1.2.2.2.2.2.1 (qdh y.1.2.1 y.1.2.2.2.1.2.1 y.2.2.1) E).2.2)) ((qe hlt).trans ((qB hb1).trans ((qB hb2).trans ((qe (hG _)).trans (by rw[hV,hE,w1,w2];simp only[Int.add_zero];rfl)))))).trans ?_
     refine(fin 0 (.inl rfl)).trans ?_
     exact qvg (by simp only[List.length_cons];omega) (Int.add_assoc _ _ _) (Int.add_assoc _ _ _)
abbrev qeh:List Sh:=[.box 0 0,.ty qX,.ty (.int .i64),.fn 49 (.ty .unit)]
abbrev qec:List Sh:=[qqa,qgf 3,.rowc qbs,.rowc (.int .u8)]
abbrev qgc:Sh:=Sh.ty qeR
abbrev qhM:List Sh:=[Sh.pair (Sh.ty (Ty.pair (Ty.int IntKind.i64) (Ty.pair (Ty.int IntKind.i64) (Ty.pair qbQ (Ty.pair (Ty.int IntKind.i64) Ty.unit))))) (Sh.pair (Sh.ty Ty.str) (Sh.pair (Sh.box 1 0) (Sh.pair (Sh.ty qE) (Sh.pair (Sh.ty Ty.bool) (Sh.pair (Sh.win 2 (Ty.pair qA (Ty.pair (Ty.int IntKind.i64) (Ty.pair Ty.bool (Ty.pair Ty.bool Ty.unit))))) (Sh.ty Ty.unit)))))),Sh.pair (Sh.ty (Ty.sl qgZ)) (Sh.pair (Sh.wsl none 3 (Ty.int IntKind.u8)) (Sh.ty Ty.unit)),Sh.rowc (Ty.pair qA (Ty.pair (Ty.int IntKind.i64) (Ty.pair Ty.bool (Ty.pair Ty.bool Ty.unit)))),Sh.rowc (Ty.int IntKind.u8)]
def qh2 (x:qh qeh) (y:qh qec):PO (Sh.den qgc×qh qhM) :=
 (.opt (LoopN.res qk2 ((),x.2.2.1,x.2.2.2,(),(),()) ((y.1.1,y.1.2.1,(),y.1.2.2.2),x.2.1,(false,0,0,0,0,0,[],[],[],()),(false,0,0,0,0,0,[],[],[],()),y.2)) fun p0 =>
  (.ret ((p0.2.1.2.2.2.2.1,p0.2.2.2.2.1.2),((p0.2.1.1,p0.2.1.2.1,(),p0.2.1.2.2.2),p0.2.2.2.2.2.1,p0.2.2.2.2.2.2.1,p0.2.2.2.2.2.2.2))))
def qf7 (x:qh qeh) (y:qh qec):Bool:=decide (MachWf y∧(show Int from x.2.2.1)≤67108864)
def qgC (x:qX.den×Int) (y:MS):qeR.den:=((goX y.1.1 y.1.2.1 x.1 x.2.toNat 0 (qcI y)).2.2.2.1,((goX y.1.1 y.1.2.1 x.1 x.2.toNat 0 (qcI y)).1.length:Int),qtK (goX y.1.1 y.1.2.1 x.1 x.2.toNat 0 (qcI y)).1,(goX y.1.1 y.1.2.1 x.1 x.2.toNat 0 (qcI y)).2.1,0,0,[],[],[],())
def qbd (x:qX.den×Int) (y:MS):MS:=qs6 y (goX y.1.1 y.1.2.1 x.1 x.2.toNat 0 (qcI y)).2.2 (qrM y.1.1 y.1.2.1 x.1 x.2.toNat 0 (qcI y) y.2.2.1)
abbrev qh4 (x:qh qeh) (y:qh qec):Sh.den qgc×qh qhM:=(qgC (x.2.1,x.2.2.1) y,qbd (x.2.1,x.2.2.1) y)
theorem qrX (x:qh qeh) (y:qh qec) (h:qf7 x y=true):(qh2 x y).val=some (qh4 x y):=by
 obtain⟨hw,hb⟩:=of_decide_eq_true h
 obtain⟨u,f,budget,u'⟩:=x
 have hb:budget≤67108864:=hb
 unfold qh2
 have key:LoopN.res qk2 ((),budget,u',(),(),()) ((y.1.1,y.1.2.1,(),y.1.2.2.2),f,(false,0,0,0,0,0,[],[],[],()),(false,0,0,0,0,0,[],[],[],()),y.2) =
   some (0,(qbd (f,budget) y).1,f,(false,0,0,0,0,0,[],[],[],()),(false,((goX y.1.1 y.1.2.1 f budget.toNat 0 (qcI y)).1.length:Int),qtK (goX y.1.1 y.1.2.1 f budget.toNat 0 (qcI y)).1,(goX y.1.1 y.1.2.1 f budget.toNat 0 (qcI y)).2.1,0,0,[],[],[],()),(qbd (f,budget) y).2):=by
  rcases Int.lt_or_le budget 0 with h0 |h0
  ·unfold LoopN.res
   have e:budget.toNat=0:=by omega
   show qeK _ (budget.toNat+1) _=_
   unfold qbd
   rw[e]
   refine(qb6 ((qB ?_).trans rfl)).trans rfl
   show(!y.1.2.2.2.2.1&&decide ((0:Int)<budget))=false
   rw[qC (show ¬(0:Int)<budget by omega),Bool.and_false]
  ·have:=qDT f budget hb (false,0,0,0,0,0,[],[],[],()) (0,0,[],[],[],()) false ((),budget,u',(),(),()) rfl ((y.1.1,y.1.2.1,(),y.1.2.2.2),f,(false,0,0,0,0,0,[],[],[],()),(false,0,0,0,0,0,[],[],[],()),y.2) budget.toNat 0 0 0 y (by omega) hw (by omega) (by omega) (by omega) (by omega)
   unfold LoopN.res
   refine Eq.trans ?_ (this.trans (qvg (Int.zero_add _) (Int.zero_add _) (Int.zero_add _)))
   rfl
 exact(qcP key).trans rfl
end Go.Av
end
section
namespace Go.Av
open Go
abbrev qp3:List Ty:=[.str]
abbrev qsi:Sh:=Sh.tup (Sh.pair (Sh.ty (Ty.int IntKind.i64)) (Sh.pair (Sh.ty Ty.bool) (Sh.ty Ty.unit)))
def qle (x:qd qp3):PO (Sh.den qsi) :=
 (.ite (qi x != 4)
  (.ret ((0,false,())))
  (.ite (inRange 0 (List.length x)&&true)
  (.ite (inRange 1 (List.length x)&&true)
   (.ite (inRange 2 (List.length x)&&true)
   (.ite (inRange 3 (List.length x)&&true)
    (.ret ((bor IntKind.i64 (bor IntKind.i64 (bor IntKind.i64 (bor IntKind.i64 0 (qt IntKind.i64 (w64 (u8I (List.getD x (Int.toNat 0) 0))) 0)) (qt IntKind.i64 (w64 (u8I (List.getD x (Int.toNat 1) 0))) 8)) (qt IntKind.i64 (w64 (u8I (List.getD x (Int.toNat 2) 0))) 16)) (qt IntKind.i64 (w64 (u8I (List.getD x (Int.toNat 3) 0))) 24),true,())))
    .fail)
   .fail)
   .fail)
  .fail))
def qlq (x:qd qp3):Bool:=(qle x).val.isSome
def qnD (x:qd qp3):Sh.den qsi:=(qle x).qH default
theorem qHZ (x:qd qp3) (h:qlq x=true):(qle x).val=some (qnD x):=PO.qcg default h
abbrev qkh:List Ty:=[(.int .i64),(.int .i64)]
abbrev qmQ:Sh:=Sh.ty Ty.bool
def qmZ (x:qd qkh):PO (Sh.den qmQ) :=
 (.ret (decide (x.1≥64)&&(decide (x.1<x.2)&&qR IntKind.i64 x.1 1==0)))
def qqv (_:qd qkh):Bool:=true
def qej (x:qd qkh):Sh.den qmQ:=(qmZ x).qH default
theorem qzX (x:qd qkh) (_:qqv x=true):(qmZ x).val=some (qej x):=PO.qco default (by simp[qmZ,PO.sure])
abbrev qon:List Ty:=[.str,(.int .i64)]
abbrev qqM:Sh:=Sh.ty (Ty.int IntKind.i64)
def qjL (x:qd qon):PO (Sh.den qqM) :=
 (.ite (decide (0≤w64 (w64 (4*x.2)+4))&&decide (w64 (w64 (4*x.2)+4)≤qi x.1)&&decide (0≤w64 (4*x.2))&&decide (w64 (4*x.2)≤w64 (w64 (4*x.2)+4))&&qlq (List.drop (Int.toNat (w64 (4*x.2))) (List.take (Int.toNat (w64 (w64 (4*x.2)+4))) x.1)))
  (.ret ((qnD (List.drop (Int.toNat (w64 (4*x.2))) (List.take (Int.toNat (w64 (w64 (4*x.2)+4))) x.1))).1))
  .fail)
def qes (x:qd qon):Bool:=(qjL x).val.isSome
def qW (x:qd qon):Sh.den qqM:=(qjL x).qH default
theorem qFy (x:qd qon) (h:qes x=true):(qjL x).val=some (qW x):=PO.qcg default h
abbrev qku:List Ty:=[qce,(.int .i64)]
abbrev qmG:Sh:=Sh.ty (Ty.int IntKind.i64)
def qid (x:qd qku):PO (Sh.den qmG) :=
 (.ite (qbt (x.1.2.2.1,x.2) != 0)
  (.ret (qbt (x.1.2.2.1,x.2)))
  (.ite (decide (x.1.2.2.2.1<0)||(decide (x.1.2.2.2.1≥3)||(!qej (x.1.1,x.2)||true)))
  (.ite (decide (x.1.2.2.2.1<0)||(decide (x.1.2.2.2.1≥3)||(!qej (x.1.1,x.2)||!qej (x.1.2.1,x.2))))
   (.ret (2))
   (.ret (0)))
  .fail))
def qqu (_:qd qku):Bool:=true
def qbO (x:qd qku):Sh.den qmG:=(qid x).qH default
theorem qzb (x:qd qku) (_:qqu x=true):(qid x).val=some (qbO x):=PO.qrm default (by simp[qid,PO.qw5])
abbrev qkn:List Ty:=[qce]
abbrev qmI:Sh:=Sh.ty (Ty.arr 16 (Ty.int IntKind.i64))
def qmV (x:qd qkn):PO (Sh.den qmI) :=
 (.ret (List.set (List.set (List.set (List.set (List.set (List.set (List.set (List.set (List.set (List.set (List.set (List.set (List.set (List.set (List.set (List.set (List.set (List.set (List.set (List.set (List.set (List.set [0,0,0,0,0,0,0,0,0,0,0,0,0,0,0,0] (Int.toNat 0) (bor IntKind.i64 x.2.1 1)) (Int.toNat 1) (bor IntKind.i64 x.2.1 1)) (Int.toNat 2) (bor IntKind.i64 x.2.1 1)) (Int.toNat 3) (bor IntKind.i64 x.2.1 1)) (Int.toNat 4) (bor IntKind.i64 x.2.1 1)) (Int.toNat 5) (bor IntKind.i64 x.2.1 1)) (Int.toNat 6) (bor IntKind.i64 x.2.1 1)) (Int.toNat 7) (bor IntKind.i64 x.2.1 1)) (Int.toNat 8) (bor IntKind.i64 x.2.1 1)) (Int.toNat 9) (bor IntKind.i64 x.2.1 1)) (Int.toNat 10) (bor IntKind.i64 x.2.1 1)) (Int.toNat 11) (bor IntKind.i64 x.2.1 1)) (Int.toNat 12) (bor IntKind.i64 x.2.1 1)) (Int.toNat 13) (bor IntKind.i64 x.2.1 1)) (Int.toNat 14) (bor IntKind.i64 x.2.1 1)) (Int.toNat 15) (bor IntKind.i64 x.2.1 1)) 0 537133056) 1 (bor IntKind.i64 x.1 1)) 7 x.2.2.1.1) 8 x.2.2.1.2.1) 9 x.2.2.1.2.2.1) 10 x.2.2.2.1))
def qqm (_:qd qkn):Bool:=true
def qQ (x:qd qkn):Sh.den qmI:=(qmV x).qH default
theorem qzE (x:qd qkn) (_:qqm x=true):(qmV x).val=some (qQ x):=PO.qco default (by simp[qmV,PO.sure])
def qiu:LoopN where
 M:=[0,2,3,4,34,35]
 T:=[5,6,36,37,38,39,40,41,42,43,44,45]
 D:=[0,34,35]
 ss:=[.ty .str,.box 0 0,.ty (.int .i64),.box 1 0,.ty (.arr 16 (.int .i64)),.ty (.int .i64)]
 hs:=[(.ty qce),(.ty qce)]
 es:=[.exit 0,.ret]
 σ:=(Ty.den (.int .i64))×(Ty.den (.int .i64))×(Sh.den ((.ty qce)))×(Sh.den ((.ty qce)))
 x0:=fun x y=>(x.2.2.1,x.2.2.2.2.2,y.1,y.2)
 put:=fun x _ s=>((x.1,x.2.1,s.1,x.2.2.2.1,x.2.2.2.2.1,s.2.1),(s.2.2.1,s.2.2.2))
 fuel:=fun _ _=>17
 turn:=fun x _ s =>
 (.ite (decide (s.2.1<16))
  (.ite (inRange s.2.1 16)
  (.ite (qes (x.1,s.2.1))
   (.ite (qW (x.1,s.2.1) != List.getD x.2.2.2.2.1 (Int.toNat s.2.1) (Ty.dflt (Ty.int IntKind.i64)))
   (.ret (.out 1 (4,s.2.1,(0,0,(0,0,0,()),0,()),s.2.2.2)))
   (.ret (.on (s.1,w64 (s.2.1+1),s.2.2.1,s.2.2.2))))
   .fail)
  .fail)
  (.ret (.out 0 (s.1,s.2.1,s.2.2.1,s.2.2.2))))
theorem qMF (s:List UInt8):qlq s=true:=by
 unfold qlq qle
 cases h:(qi s != 4)
 ·have hl:List.length s=4:=by
   simp only[qi,bne_eq_false_iff_eq] at h
   omega
  rw[qB rfl,qe (by rw[show(0:Int)=((0:Nat):Int) from rfl,inR (by omega)];rfl),qe (by rw[show(1:Int)=((1:Nat):Int) from rfl,inR (by omega)];rfl),qe (by rw[show(2:Int)=((2:Nat):Int) from rfl,inR (by omega)];rfl),qe (by rw[show(3:Int)=((3:Nat):Int) from rfl,inR (by omega)];rfl)]
  rfl
 ·rw[qe rfl]
  rfl
theorem qw3 (s:List UInt8) (k:Nat) (hk:k<16) (hs:64≤s.length):qes (s,(k:Int))=true:=by
 unfold qes qjL
 have e1:w64 (4*(k:Int))=4*(k:Int):=qu (by omega) (by omega)
 have e2:w64 (4*(k:Int)+4)=4*(k:Int)+4:=qu (by omega) (by omega)
 rw[qe (by
  dsimp only
  rw[e1,e2,qMF]
  simp only[qi,Bool.and_eq_true,decide_eq_true_eq,Bool.and_true]
  exact⟨⟨⟨by omega,by omega⟩,by omega⟩,by omega⟩)]
 rfl
def qje (s:List UInt8):qce.den:=(w64 (qW (s,1)-1),w64 (qW (s,3)-1),(qW (s,7),qW (s,8),qW (s,9),()),qW (s,10),())
abbrev qs3:qce.den:=(0,0,(0,0,0,()),0,())
def qn3 (s:List UInt8) (fr:List Int) (i:Nat):Bool:=!(qW (s,(i:Int)) != List.getD fr (Int.toNat (i:Int)) (Ty.dflt (Ty.int IntKind.i64)))
def qds (s:List UInt8):qce.den×Int×Unit :=
 bif decide (qi s<64) then(qs3,3,())
 else bif qbO (qje s,qi s) != 0 then(qs3,4,())
 else bif (List.range' 0 16).all (qn3 s (qQ (qje s))) then(qje s,0,()) else(qs3,4,())
theorem qJC (s:List UInt8) (fr:List Int) (h z:qce.den) (hs:64≤s.length):∀(n i:Nat),i+n=16→∃j:Int,
  qeK (qiu.turn (s,(),0,(),fr,0) (z,h)) (n+1) (0,(i:Int),z,h)=some (bif (List.range' i n).all (qn3 s fr) then(0,(0,16,z,h)) else(1,(4,j,qs3,h)))
 |0,i,hi=>⟨0,(qb6 ((qB (qC (show ¬(i:Int)<16 by omega))).trans rfl)).trans (by
   have:i=16:=by omega
   subst this
   rfl)⟩
 |n+1,i,hi=>by
  have hlt:decide ((i:Int)<16)=true:=qK (by omega)
  have hin:inRange (i:Int) 16=true:=inR (by omega)
  have hg:=qw3 s i (by omega) hs
  cases hw:qn3 s fr i with
  |true =>
   obtain⟨j,hj⟩:=qJC s fr h z hs n (i+1) (by omega)
   refine⟨j,(qeQ (s':=(0,((i+1:Nat):Int),z,h)) ((qe hlt).trans ((qe hin).trans ((qe hg).trans ((qB ?_).trans ?_))))).trans (hj.trans ?_)⟩
   ·unfold qn3 at hw
    exact Bool.not_eq_true' _ |>.mp hw
   ·show some (TL.on (0,w64 ((i:Int)+1),z,h))=_
    rw[qu (by omega) (by omega)]
    rfl
   ·rw[List.range'_succ,List.all_cons,hw,Bool.true_and]
  |false =>
   refine⟨i,(qb6 ((qe hlt).trans ((qe hin).trans ((qe hg).trans ((qe ?_).trans rfl))))).trans ?_⟩
   ·unfold qn3 at hw
    exact Bool.not_eq_false' _ |>.mp hw
   ·rw[List.range'_succ,List.all_cons,hw,Bool.false_and]
    rfl
abbrev qkw:List Ty:=[.str]
abbrev qmY:Sh:=Sh.tup (Sh.pair (Sh.ty (Ty.pair (Ty.int IntKind.i64) (Ty.pair (Ty.int IntKind.i64) (Ty.pair qbQ (Ty.pair (Ty.int IntKind.i64) Ty.unit))))) (Sh.pair (Sh.ty (Ty.int IntKind.i64)) (Sh.ty Ty.unit)))
def qmT (x:qd qkw):PO (Sh.den qmY) :=
 (.ite (decide (qi x<64))
  (.ret (((0,0,(0,0,0,()),0,()),3,())))
  (.ite (qes (x,1))
  (.ite (qes (x,3))
   (.ite (qes (x,10))
   (.ite (qes (x,7))
    (.ite (qes (x,8))
    (.ite (qes (x,9))
     (.ite (qbO ((w64 (qW (x,1)-1),w64 (qW (x,3)-1),(qW (x,7),qW (x,8),qW (x,9),()),qW (x,10),()),qi x) != 0)
     (.ret (((0,0,(0,0,0,()),0,()),4,())))
     (.opt (LoopN.res qiu (x,(),0,(),qQ (w64 (qW (x,1)-1),w64 (qW (x,3)-1),(qW (x,7),qW (x,8),qW (x,9),()),qW (x,10),()),0) ((0,0,(0,0,0,()),0,()),w64 (qW (x,1)-1),w64 (qW (x,3)-1),(qW (x,7),qW (x,8),qW (x,9),()),qW (x,10),())) fun p0 =>
      (.ite (way p0.1)
      (.ret ((p0.2.2.2.2,0,())))
      (.ret ((p0.2.2.2.1,p0.2.1,()))))))
     .fail)
    .fail)
    .fail)
   .fail)
   .fail)
  .fail))
def qmU (_:qd qkw):Bool:=true
def qbK (x:qd qkw):Sh.den qmY:=qds x
theorem qKq (s:List UInt8):(qmT s).val=some (qds s):=by
 unfold qmT qds
 cases h1:decide (qi s<64)
 ·have hs:64≤s.length:=by
   simp only[qi,decide_eq_false_iff_not] at h1
   omega
  have a:=fun k hk=>qw3 s k hk hs
  refine(qB rfl).trans ((qe (a 1 (by omega))).trans ((qe (a 3 (by omega))).trans ((qe (a 10 (by omega))).trans ((qe (a 7 (by omega))).trans ((qe (a 8 (by omega))).trans ((qe (a 9 (by omega))).trans ?_))))))
  show(PO.ite (qbO (qje s,qi s) != 0) _ _).val=_
  cases h2:(qbO (qje s,qi s) != (0:Int))
  ·obtain⟨j,hj⟩:=qJC s (qQ (qje s)) (qje s) qs3 hs 16 0 (by omega)
   refine(qB rfl).trans ?_
   have hres:LoopN.res qiu (s,(),0,(),qQ (qje s),0) (qs3,qje s)=_:=hj
   refine(qcP hres).trans ?_
   cases (List.range' 0 16).all (qn3 s (qQ (qje s)))
   ·exact(qB rfl).trans rfl
   ·exact(qe rfl).trans rfl
  ·exact(qe rfl).trans rfl
 ·exact(qe rfl).trans rfl
theorem qzD (x:qd qkw) (_:qmU x=true):(qmT x).val=some (qbK x):=qKq x
end Go.Av
end
section
namespace Go.Av
open Go
def qha:LoopN where
 M:=[3,6,8,9,10]
 T:=[12,37,38,39,40,41,42,43,44,45,46,47,48,49,50,51,52,53,54,55,56]
 D:=[3,6,10]
 ss:=[.ty (.int .i64),.box 0 0,.box 1 0,.ty (.int .i64),.box 2 0]
 hs:=[(.ty qX),(.ty qeR),(qpa 3 4),(qgf 5),.rowc qbs,.rowc (.int .u8)]
 es:=[.ret]
 σ:=(Ty.den (.int .i64))×(Sh.den ((.ty qX)))×(Sh.den ((.ty qeR)))×(Sh.den ((qpa 3 4)))×(Sh.den ((qgf 5)))×(Sh.den (.rowc qbs))×(Sh.den (.rowc (.int .u8)))
 x0:=fun x y=>(x.2.2.2.1,y.1,y.2.1,y.2.2.1,y.2.2.2.1,y.2.2.2.2.1,y.2.2.2.2.2)
 put:=fun x _ s=>((x.1,x.2.1,x.2.2.1,s.1,x.2.2.2.2),(s.2.1,s.2.2.1,s.2.2.2.1,s.2.2.2.2.1,s.2.2.2.2.2.1,s.2.2.2.2.2.2))
 fuel:=fun _ _=>1
 turn:=fun x _ s =>
 (.ite (qf7 ((),s.2.1,x.1,()) ((s.2.2.2.1.1,s.2.2.2.1.2.1,(),s.2.2.2.1.2.2.2),s.2.2.2.2))
  (.ite (qed ((),537919488) (((qbd (s.2.1,x.1) ((s.2.2.2.1.1,s.2.2.2.1.2.1,(),s.2.2.2.1.2.2.2),s.2.2.2.2)).1.1,(qbd (s.2.1,x.1) ((s.2.2.2.1.1,s.2.2.2.1.2.1,(),s.2.2.2.1.2.2.2),s.2.2.2.2)).1.2.1,(),(qbd (s.2.1,x.1) ((s.2.2.2.1.1,s.2.2.2.1.2.1,(),s.2.2.2.1.2.2.2),s.2.2.2.2)).1.2.2.2),(qbd (s.2.1,x.1) ((s.2.2.2.1.1,s.2.2.2.1.2.1,(),s.2.2.2.1.2.2.2),s.2.2.2.2)).2))
  (.ite (qed ((),538968064) (((qbd (s.2.1,x.1) ((s.2.2.2.1.1,s.2.2.2.1.2.1,(),s.2.2.2.1.2.2.2),s.2.2.2.2)).1.1,(qbd (s.2.1,x.1) ((s.2.2.2.1.1,s.2.2.2.1.2.1,(),s.2.2.2.1.2.2.2),s.2.2.2.2)).1.2.1,(),(qbd (s.2.1,x.1) ((s.2.2.2.1.1,s.2.2.2.1.2.1,(),s.2.2.2.1.2.2.2),s.2.2.2.2)).1.2.2.2),(qbd (s.2.1,x.1) ((s.2.2.2.1.1,s.2.2.2.1.2.1,(),s.2.2.2.1.2.2.2),s.2.2.2.2)).2))
   (.ret (.out 0 (0,s.2.1,((qgC (s.2.1,x.1) ((s.2.2.2.1.1,s.2.2.2.1.2.1,(),s.2.2.2.1.2.2.2),s.2.2.2.2)).1,(qgC (s.2.1,x.1) ((s.2.2.2.1.1,s.2.2.2.1.2.1,(),s.2.2.2.1.2.2.2),s.2.2.2.2)).2.1,(qgC (s.2.1,x.1) ((s.2.2.2.1.1,s.2.2.2.1.2.1,(),s.2.2.2.1.2.2.2),s.2.2.2.2)).2.2.1,(qgC (s.2.1,x.1) ((s.2.2.2.1.1,s.2.2.2.1.2.1,(),s.2.2.2.1.2.2.2),s.2.2.2.2)).2.2.2.1,qox 537919488 ((qbd (s.2.1,x.1) ((s.2.2.2.1.1,s.2.2.2.1.2.1,(),s.2.2.2.1.2.2.2),s.2.2.2.2)).2.1,(qbd (s.2.1,x.1) ((s.2.2.2.1.1,s.2.2.2.1.2.1,(),s.2.2.2.1.2.2.2),s.2.2.2.2)).2.2.2),qox 538968064 ((qbd (s.2.1,x.1) ((s.2.2.2.1.1,s.2.2.2.1.2.1,(),s.2.2.2.1.2.2.2),s.2.2.2.2)).2.1,(qbd (s.2.1,x.1) ((s.2.2.2.1.1,s.2.2.2.1.2.1,(),s.2.2.2.1.2.2.2),s.2.2.2.2)).2.2.2),(qjV 2 ((qbd (s.2.1,x.1) ((s.2.2.2.1.1,s.2.2.2.1.2.1,(),s.2.2.2.1.2.2.2),s.2.2.2.2)).2.1,(qbd (s.2.1,x.1) ((s.2.2.2.1.1,s.2.2.2.1.2.1,(),s.2.2.2.1.2.2.2),s.2.2.2.2)).2.2.2)).1,(qjV 3 ((qbd (s.2.1,x.1) ((s.2.2.2.1.1,s.2.2.2.1.2.1,(),s.2.2.2.1.2.2.2),s.2.2.2.2)).2.1,(qbd (s.2.1,x.1) ((s.2.2.2.1.1,s.2.2.2.1.2.1,(),s.2.2.2.1.2.2.2),s.2.2.2.2)).2.2.2)).1,(qjV 4 ((qbd (s.2.1,x.1) ((s.2.2.2.1.1,s.2.2.2.1.2.1,(),s.2.2.2.1.2.2.2),s.2.2.2.2)).2.1,(qbd (s.2.1,x.1) ((s.2.2.2.1.1,s.2.2.2.1.2.1,(),s.2.2.2.1.2.2.2),s.2.2.2.2)).2.2.2)).1,(qgC (s.2.1,x.1) ((s.2.2.2.1.1,s.2.2.2.1.2.1,(),s.2.2.2.1.2.2.2),s.2.2.2.2)).2.2.2.2.2.2.2.2.2),((qbd (s.2.1,x.1) ((s.2.2.2.1.1,s.2.2.2.1.2.1,(),s.2.2.2.1.2.2.2),s.2.2.2.2)).1.1,(qbd (s.2.1,x.1) ((s.2.2.2.1.1,s.2.2.2.1.2.1,(),s.2.2.2.1.2.2.2),s.2.2.2.2)).1.2.1,(),(qbd (s.2.1,x.1) ((s.2.2.2.1.1,s.2.2.2.1.2.1,(),s.2.2.2.1.2.2.2),s.2.2.2.2)).1.2.2.2),(qbd (s.2.1,x.1) ((s.2.2.2.1.1,s.2.2.2.1.2.1,(),s.2.2.2.1.2.2.2),s.2.2.2.2)).2.1,(qbd (s.2.1,x.1) ((s.2.2.2.1.1,s.2.2.2.1.2.1,(),s.2.2.2.1.2.2.2),s.2.2.2.2)).2.2.1,(qbd (s.2.1,x.1) ((s.2.2.2.1.1,s.2.2.2.1.2.1,(),s.2.2.2.1.2.2.2),s.2.2.2.2)).2.2.2)))
   .fail)
  .fail)
  .fail)
theorem qD7 (h:qce.den) (n:Int) (e:qbO (h,n)=0):qbt (h.2.2.1,n)=0∧(64≤(show Int from h.1)∧(show Int from h.1)<n)∧64≤(show Int from h.2.1)∧(show Int from h.2.1)<n:=by
 obtain⟨rs,hn,sz,md,u⟩:=h
 unfold qbO PO.qH qid at e
 cases h1:(qbt (sz,n) != (0:Int)) with
 |true =>
  rw[qe h1] at e
  have e':qbt (sz,n)=0:=e
  rw[e'] at h1
  cases h1
 |false =>
  rw[qB h1] at e
  have hc:qbt (sz,n)=0:=by simpa using h1
  refine⟨hc,?_⟩
  rw[qe (by simp)] at e
  cases h2:(decide (md<0)||(decide (md≥3)||(!qej (rs,n)||!qej (hn,n)))) with
  |true =>
   rw[qe h2] at e
   cases e
  |false =>
   simp only[Bool.or_eq_false_iff,Bool.not_eq_false'] at h2
   have pl:∀a:Int,qej (a,n)=true→64≤a∧a<n:=fun a ha=>by
    have ha:(decide (a≥64)&&(decide (a<n)&&qR IntKind.i64 a 1==0))=true:=ha
    simp only[Bool.and_eq_true,decide_eq_true_eq] at ha
    exact⟨ha.1,ha.2.1⟩
   exact⟨pl rs h2.2.2.1,pl hn h2.2.2.2⟩
theorem quI (i o r n:Int) (e:qbt ((i,o,r,()),n)=0):(0≤i∧i≤65536)∧(0≤o∧o≤65536)∧(4≤r∧r≤65536)∧n≤262144:=by
 unfold qbt PO.qH qhF at e
 cases h1:(decide (i<0)||Int.tmod i 4 != 0) with
 |true=>rw[qe h1] at e;cases e
 |false =>
 rw[qB h1] at e
 cases h2:(decide (o<0)||Int.tmod o 4 != 0) with
 |true=>rw[qe h2] at e;cases e
 |false =>
 rw[qB h2] at e
 cases h3:(decide (r<0)||Int.tmod r 4 != 0) with
 |true=>rw[qe h3] at e;cases e
 |false =>
 rw[qB h3] at e
 cases h4:(decide (n<0)||decide (r<4)) with
 |true=>rw[qe h4] at e;cases e
 |false =>
 rw[qB h4] at e
 cases h5:(decide (n > 262144)||decide (i > 65536)||decide (o > 65536)||decide (r > 65536)) with
 |true=>rw[qe h5] at e;cases e
 |false =>
  simp only[Bool.or_eq_false_iff,decide_eq_false_iff_not] at h1 h2 h3 h4 h5
  omega
def qfA (sz:qbQ.den) (n:Int):List (Int×Int×Bool×Unit):=[(0,n,false,()),(536936448,sz.1,true,()),(537001984,sz.2.1,true,()),(537133056,sz.2.2.1,true,()),(537395200,sz.2.2.1,true,()),(537919488,4,true,()),(538968064,4,true,())]
theorem qNA (sz:qbQ.den) (n:Int) (e:qbt (sz,n)=0):qbB (sz,n)=(qfA sz n,0,()):=by
 unfold qbB PO.qH qhH
 rw[qB (by rw[e];rfl)]
 rfl
theorem qtz (i o r n:Int) (e:qbt ((i,o,r,()),n)=0) (hn:0≤n):qrr (qfA (i,o,r,()) n)∧(qfA (i,o,r,()) n).length=7∧qdE (qfA (i,o,r,()) n)<1000000:=by
 obtain⟨h1,h2,h3,h4⟩:=quI i o r n e
 refine⟨⟨by simp[qfA],fun x hx=>?_⟩,by simp[qfA],?_⟩
 ·simp only[qfA,List.mem_cons,List.not_mem_nil,or_false] at hx
  unfold qq0
  rcases hx with rfl |rfl |rfl |rfl |rfl |rfl |rfl<;>simp only<;>omega
 ·simp only[qfA,qdE]
  omega
abbrev qyJ:qeR.den:=(false,0,0,0,0,0,[],[],[],())
def qkp (hd:qce.den) (img inp:List UInt8):MS :=
 ((hd,img,(),(List.set (List.set [0,0,0,0,0,0,0,0,0,0,0,0,0,0,0] 13 537133056) 14 (qdr 0),hd.1,false,false,false,false,()),false,(0,img.length / 2+1),()),(qiQ (qfA hd.2.2.1 (qi img)) img inp).1,List.replicate (img.length / 2+1) dfF,(qiQ (qfA hd.2.2.1 (qi img)) img inp).2)
def qzo (y:MS) (f:qX.den) (budget:Int):qeR.den :=
 ((qgC (f,budget) y).1,(qgC (f,budget) y).2.1,(qgC (f,budget) y).2.2.1,(qgC (f,budget) y).2.2.2.1,qox 537919488 (qbd (f,budget) y).mem,qox 538968064 (qbd (f,budget) y).mem,(qjV 2 (qbd (f,budget) y).mem).1,(qjV 3 (qbd (f,budget) y).mem).1,(qjV 4 (qbd (f,budget) y).mem).1,())
def qCR (img inp:List UInt8) (f:qX.den) (budget:Int):qeR.den×Int×Unit :=
 bif (qds img).2.1 != 0 then(qyJ,(qds img).2.1,())
 else bif qi inp != (qds img).1.2.2.1.1 then(qyJ,2,())
 else bif (qM f != 0||(decide (budget<0)||decide (budget > 67108864))) then(qyJ,2,())
 else(qzo (qkp (qds img).1 img inp) f budget,0,())
theorem qJT (hd:qce.den) (fl:List UInt8) (f:qX.den) (hh:0≤(show Int from hd.2.1)∧(show Int from hd.2.1)<4294967296):∀(n:Nat) (k:Int) (s:qxg),MemWf s.2.2→List.length s.1.1=15 →
  MemWf (goX hd fl f n k s).2.2.2.2∧List.length (goX hd fl f n k s).2.2.1.1=15∧(goX hd fl f n k s).2.2.2.2.1=s.2.2.1
 |0,k,s,hm,hr=>⟨hm,hr,rfl⟩
 |n+1,k,s,hm,hr=>by
  rw[goX]
  cases s.2.1
  ·obtain⟨h1,h2,h3,h4,_⟩:=quS hd fl s.1 s.2.2 (qcn f k) hm hr hh
   obtain⟨g1,g2,g3⟩:=qJT hd fl f hh n (k+1) (qcC hd fl s.1 s.2.2 (qcn f k)).2 h3 h1
   exact⟨g1,g2,g3.trans h4⟩
  ·exact⟨hm,hr,rfl⟩
theorem qOw {y:MS} (hy:MachWf y) (f:qX.den) (budget:Int):MemWf (qbd (f,budget) y).mem :=
 (qJT y.1.1 y.1.2.1 f hy.hand budget.toNat 0 (qcI y) hy.mem hy.regs).1
theorem qPc (y:MS) (hy:MachWf y) (f:qX.den) (budget:Int) (hb:budget≤67108864):∃z,LoopN.res qha (budget,(),(),0,()) (f,qyJ,y.1,y.2.1,y.2.2.1,y.2.2.2)=some (0,0,f,qzo y f budget,z):=by
 have hm:=qOw hy f budget
 exact⟨qbd (f,budget) y,qb6 ((qe (decide_eq_true ⟨hy,hb⟩)).trans ((qe (decide_eq_true ⟨hm,by decide⟩)).trans ((qe (decide_eq_true ⟨hm,by decide⟩)).trans rfl)))⟩
theorem qEz (img:List UInt8) (h:((qds img).2.1 != (0:Int))=false):∃rs hn i o r md,(qds img).1=(rs,hn,(i,o,r,()),md,())∧qbt ((i,o,r,()),qi img)=0∧(64≤rs∧rs<qi img)∧(64≤hn∧hn<qi img)∧qi img≤262144∧64≤img.length:=by
 unfold qds at h ⊢
 cases h1:decide (qi img<64) with
 |true=>rw[h1] at h;cases h
 |false =>
 rw[h1] at h
 simp only[cond_false] at h ⊢
 cases h2:(qbO (qje img,qi img) != (0:Int)) with
 |true=>rw[h2] at h;cases h
 |false =>
 rw[h2] at h
 simp only[cond_false] at h ⊢
 cases h3:(List.range' 0 16).all (qn3 img (qQ (qje img))) with
 |false=>rw[h3] at h;cases h
 |true =>
 obtain⟨f1,f2,f3⟩:=qD7 (qje img) (qi img) (by simpa using h2)
 simp only[cond_true]
 generalize qje img=hd at *
 obtain⟨rs,hn,⟨i,o,r,u1⟩,md,u2⟩:=hd
 refine⟨rs,hn,i,o,r,md,rfl,f1,f2,f3,(quI i o r _ f1).2.2.2,?_⟩
 simp only[qi,decide_eq_false_iff_not] at h1
 omega
theorem qLR (rs hn i o r md:Int) (img inp:List UInt8) (h1:qbt ((i,o,r,()),qi img)=0) (h2:64≤rs∧rs<qi img) (h3:64≤hn∧hn<qi img) (h4:qi img≤262144):MachWf (qkp (rs,hn,(i,o,r,()),md,()) img inp):=by
 obtain⟨g1,g2,g3⟩:=qtz i o r (qi img) h1 (by simp only[qi];omega)
 exact{
  mem:=qzs _ img inp g1 (by show 2≤(qfA (i,o,r,()) (qi img)).length;omega)
  regs:=rfl
  pc:=⟨by show(0:Int)≤rs;omega,by show rs<(4294967296:Int);omega⟩
  hand:=⟨by show(0:Int)≤hn;omega,by show hn<(4294967296:Int);omega⟩
  len:=by show img.length≤262144;simp only[qi] at h4;omega
  win:=rfl
  cache:=⟨List.length_replicate,fun k hk hn=>by
   have e:List.getD (List.replicate (img.length / 2+1) dfF) k dfF=dfF:=by
    rw[List.getD_eq_getElem?_getD,List.getElem?_replicate]
    split<;>rfl
   rw[show(qkp (rs,_,(i,o,r,()),md,()) img inp).2.2.1=List.replicate (img.length / 2+1) dfF from rfl,e] at hn
   cases hn⟩}
abbrev qj8:List Ty:=[.str,.str,qX,(.int .i64)]
abbrev qmK:Sh:=Sh.tup (Sh.pair (Sh.ty qeR) (Sh.pair (Sh.ty (Ty.int IntKind.i64)) (Sh.ty Ty.unit)))
def qqi (x:qd qj8):PO (Sh.den qmK) :=
 (.ite (qmU x.1)
  (.ite ((qbK x.1).2.1 != 0)
  (.ite ((qbK x.1).2.1 != 0)
   (.ret (((false,0,0,0,0,0,[],[],[],()),(qbK x.1).2.1,())))
   (.ite (qM x.2.2.1 != 0||(decide (x.2.2.2<0)||decide (x.2.2.2 > 67108864)))
   (.ret (((false,0,0,0,0,0,[],[],[],()),2,())))
   .fail))
  (.ite ((qbB ((qbK x.1).1.2.2.1,qi x.1)).2.1 != 0)
   (.ite ((qbB ((qbK x.1).1.2.2.1,qi x.1)).2.1 != 0)
   (.ite ((qbB ((qbK x.1).1.2.2.1,qi x.1)).2.1 != 0)
    (.ret (((false,0,0,0,0,0,[],[],[],()),(qbB ((qbK x.1).1.2.2.1,qi x.1)).2.1,())))
    (.ite (qM x.2.2.1 != 0||(decide (x.2.2.2<0)||decide (x.2.2.2 > 67108864)))
    (.ret (((false,0,0,0,0,0,[],[],[],()),2,())))
    .fail))
   (.ite (qgh (w64 (w64 (Int.tdiv (qi x.1) 2)+1)) 80)
    (.ite (qM x.2.2.1 != 0||(decide (x.2.2.2<0)||decide (x.2.2.2 > 67108864)))
    (.ret (((false,0,0,0,0,0,[],[],[],()),2,())))
    .fail)
    .fail))
   (.ite (qi x.2.1 != (qbK x.1).1.2.2.1.1)
   (.ret (((false,0,0,0,0,0,[],[],[],()),2,())))
   (.opt (LoopN.res qji (x.1,x.2.1,(qbB ((qbK x.1).1.2.2.1,qi x.1)).1,0,(qbB ((qbK x.1).1.2.2.1,qi x.1)).1,qi (qbB ((qbK x.1).1.2.2.1,qi x.1)).1,0) ()) fun p0 =>
    (.ite (qgh p0.2.1 1)
    (.opt (LoopN.res qig (x.1,x.2.1,(),(0,qc0 0 p0.2.1),(qbB ((qbK x.1).1.2.2.1,qi x.1)).1,qi (qbB ((qbK x.1).1.2.2.1,qi x.1)).1,0) (((qbB ((qbK x.1).1.2.2.1,qi x.1)).1,[],()),zeros p0.2.1 0)) fun p1 =>
     (.ite (inRange 0 (List.length p1.2.2.2.1.2.1))
     (.ite (inRange 1 (List.length p1.2.2.2.1.2.1))
      (.ite (qgh (w64 (w64 (Int.tdiv (qi x.1) 2)+1)) 80)
      (.ite (qM x.2.2.1 != 0||(decide (x.2.2.2<0)||decide (x.2.2.2 > 67108864)))
       (.ret (((false,0,0,0,0,0,[],[],[],()),2,())))
       (.opt (LoopN.res qha (x.2.2.2,(),(),0,()) (x.2.2.1,(false,0,0,0,0,0,[],[],[],()),((qbK x.1).1,x.1,(),(List.set (List.set [0,0,0,0,0,0,0,0,0,0,0,0,0,0,0] 13 537133056) 14 (qdr 0),(qbK x.1).1.1,false,false,false,false,()),false,(0,qc0 0 (w64 (w64 (Int.tdiv (qi x.1) 2)+1))),()),p1.2.2.2.1,zeros (w64 (w64 (Int.tdiv (qi x.1) 2)+1)) ((0,0,0,0,0,0,0,false,()),0,false,false,()),qdG (qdG p1.2.2.2.2 (wAt p1.2.2.2.1.2.1 0).1 (qdY x.1) (wAt p1.2.2.2.1.2.1 0).2) (wAt p1.2.2.2.1.2.1 1).1 (qdY x.2.1) (wAt p1.2.2.2.1.2.1 1).2)) fun p2 =>
       (.ret ((p2.2.2.2.1,p2.2.1,())))))
      .fail)
      .fail)
     .fail))
    .fail)))))
  .fail)
def qqz (_:qd qj8):Bool:=true
def qO (x:qd qj8):Sh.den qmK:=qCR x.1 x.2.1 x.2.2.1 x.2.2.2
theorem qzu (x:qd qj8) (_:qqz x=true):(qqi x).val=some (qO x):=by
 obtain⟨img,inp,f,budget⟩:=x
 unfold qqi
 refine(qe rfl).trans ?_
 show _=some (qCR img inp f budget)
 unfold qCR
 show(PO.ite ((qds img).2.1 != (0:Int)) _ _).val=_
 cases h1:((qds img).2.1 != (0:Int)) with
 |true=>exact(qe rfl).trans ((qe h1).trans rfl)
 |false =>
  refine(qB rfl).trans ?_
  obtain⟨rs,hn,i,o,r,md,e,f1,f2,f3,f4,f5⟩:=qEz img h1
  have hreg:qbB ((qbK img).1.2.2.1,qi img)=(qfA (i,o,r,()) (qi img),0,()):=by
   show qbB ((qds img).1.2.2.1,qi img)=_
   rw[e]
   exact qNA _ _ f1
  obtain⟨g1,g2,g3⟩:=qtz i o r (qi img) f1 (by simp only[qi];omega)
  have g4:∀q∈qfA (i,o,r,()) (qi img),0≤q.2.1:=fun q hq=>(g1.2 q hq).2.1
  have hwf:=qLR rs hn i o r md img inp f1 f2 f3 f4
  simp only[hreg]
  refine(qB rfl).trans ?_
  show(PO.ite (qi inp != (qds img).1.2.2.1.1) _ _).val=_
  simp only[cond_false]
  cases h2:(qi inp != (qds img).1.2.2.1.1) with
  |true=>exact(qe rfl).trans rfl
  |false =>
   refine(qB rfl).trans ((qcP (r:=_) (qRp img inp (qfA (i,o,r,()) (qi img)) (by omega) g4 (by omega))).trans ?_)
   refine(qe ?_).trans ?_
   ·show qgh ((qdE (qfA (i,o,r,()) (qi img)):Nat):Int) 1=true
    simp only[qgh,Bool.and_eq_true,decide_eq_true_eq]
    omega
   have hsp:qc0 0 ((qdE (qfA (i,o,r,()) (qi img)):Nat):Int)=qdE (qfA (i,o,r,()) (qi img)):=by simp[qc0]
   have e15:=qPO img inp (qfA (i,o,r,()) (qi img)) (zeros ((qdE (qfA (i,o,r,()) (qi img)):Nat):Int) 0) (by omega) g4
   refine(qcP (r:=_) (by dsimp only;rw[hsp];exact e15)).trans ?_
   have hw:(qbC 0 (qfA (i,o,r,()) (qi img))).length=7:=by rw[qqB,g2]
   have hlen:w64 (w64 (Int.tdiv (qi img) 2)+1)=((img.length / 2+1:Nat):Int):=by
    simp only[qi] at f4 ⊢
    rw[Int.tdiv_eq_ediv_of_nonneg (by omega),qu (n:=((img.length:Nat):Int) / 2) (by omega) (by omega),qu (by omega) (by omega)]
    omega
   refine(qe ?_).trans ((qe ?_).trans ((qe ?_).trans ?_))
   ·show inRange 0 (qbC 0 (qfA (i,o,r,()) (qi img))).length=true
    rw[hw]
    rfl
   ·show inRange 1 (qbC 0 (qfA (i,o,r,()) (qi img))).length=true
    rw[hw]
    rfl
   ·rw[hlen]
    simp only[qi] at f4
    simp only[qgh,Bool.and_eq_true,decide_eq_true_eq]
    omega
   ·simp only[cond_false]
    cases h3:(qM f != 0||(decide (budget<0)||decide (budget > 67108864))) with
    |true=>exact(qe rfl).trans rfl
    |false =>
     have hb:(show Int from budget)≤67108864:=by
      simp only[Bool.or_eq_false_iff,decide_eq_false_iff_not] at h3
      exact Int.not_lt.1 h3.2.2
     obtain⟨z,hz⟩:=qPc _ hwf f budget hb
     refine(qB rfl).trans ?_
     rw[hlen]
     have hst:qkp (qds img).1 img inp=qkp (rs,hn,(i,o,r,()),md,()) img inp:=by rw[e]
     rw[hst]
     refine(qcP (r:=(0,0,f,qzo (qkp (rs,hn,(i,o,r,()),md,()) img inp) f budget,z)) ?_).trans rfl
     refine Eq.trans ?_ hz
     show LoopN.res qha (budget,(),(),0,()) (f,qyJ,((qds img).1,img,(),(_,(qds img).1.1,_),false,(0,qc0 0 ((img.length / 2+1:Nat):Int)),()),_,zeros ((img.length / 2+1:Nat):Int) dfF,_)=_
     rw[e]
     have hns:qc0 0 ((img.length / 2+1:Nat):Int)=img.length / 2+1:=by simp only[qc0];omega
     have hz2:zeros ((img.length / 2+1:Nat):Int) dfF=List.replicate (img.length / 2+1) dfF:=by unfold zeros;rw[Int.toNat_natCast]
     rw[hns,hz2]
     rfl
end Go.Av
end
section
namespace Go.Av
open Go
abbrev qhu (m w:Nat):Sh:=.pair (.ty (.sl qk)) (.pair (.ty (.int .i64)) (.pair (.mp m) (.pair (.win w .bool) (.ty .unit))))
abbrev qlB:List Ty:=[(.sl .bool),(.int .i64)]
abbrev qoF:Sh:=Sh.ty Ty.bool
def qlf (x:qd qlB):PO (Sh.den qoF) :=
 (.ite (bif decide (x.2<qi x.1) then inRange x.2 (List.length x.1) else true)
  (.ret (decide (x.2<qi x.1)&&List.getD x.1 (Int.toNat x.2) (Ty.dflt Ty.bool)))
  .fail)
def qhR (x:qd qlB):Bool:=(qlf x).val.isSome
def qhQ (x:qd qlB):Sh.den qoF:=(qlf x).qH default
theorem qA6 (x:qd qlB) (h:qhR x=true):(qlf x).val=some (qhQ x):=PO.qcg default h
abbrev qk9:List Ty:=[qA]
abbrev qoH:Sh:=Sh.ty Ty.bool
def qjE (x:qd qk9):PO (Sh.den qoH) :=
 (.ite (x.1==24)
  (.ret (x.2.2.2.2.2.2.1==0))
  (.ite (x.1==25)
  (.ret (decide (x.2.2.2.2.2.2.1≥0)&&decide (x.2.2.2.2.2.2.1≤13)))
  (.ret (false))))
def qrO (_:qd qk9):Bool:=true
def qgE (x:qd qk9):Sh.den qoH:=(qjE x).qH default
theorem qA4 (x:qd qk9) (_:qrO x=true):(qjE x).val=some (qgE x):=PO.qco default (by simp[qjE,PO.sure])
abbrev qnG:List Ty:=[qk]
abbrev qqV:Sh:=Sh.ty Ty.bool
def qlS (x:qd qnG):PO (Sh.den qqV) :=
 (.ite (bif x.1==0 then x.1==0 else x.1==1)
  (.ret (true))
  (.ite (x.1==2)
  (.ret (qgE x.2.2.1))
  (.ret (false))))
def qtU (_:qd qnG):Bool:=true
def qfi (x:qd qnG):Sh.den qqV:=(qlS x).qH default
theorem qEn (x:qd qnG) (_:qtU x=true):(qlS x).val=some (qfi x):=PO.qco default (by simp[qlS,PO.sure])
def qmx:LoopN where
 M:=[1,2,7,14,15,16]
 T:=[8,9,17,18,19,20,21,22,23,24,25,26,27,28,29,30,31,32,33,34,35,36,37,38,39,40,41,42,43,44,45,46,47,48,49,50,51]
 D:=[2,14,15,16]
 ss:=[.ty (.int .i64),.ty (.sl .bool),.osl 0 (.int .i64),.ty (.sl qk),.ty (.int .i64),.ty (.int .i64)]
 hs:=[]
 es:=[.exit 0]
 σ:=(Ty.den (.int .i64))×(List (Ty.den (.int .i64)))×(Ty.den (.int .i64))
 x0:=fun x _=>(x.1,x.2.2.1,x.2.2.2.2.2)
 put:=fun x _ s=>((s.1,x.2.1,s.2.1,x.2.2.2.1,x.2.2.2.2.1,s.2.2),())
 fuel:=fun x _=>List.length x.2.2.2.1+1
 turn:=fun x _ s =>
 (.ite (decide (s.2.2<x.2.2.2.2.1))
  (.ite (inRange s.2.2 (List.length x.2.2.2.1))
  (.ite (Nat.ble ((List.length s.2.1+List.length [s.1])*8) 140737488355328)
   (.ite ((List.getD x.2.2.2.1 (Int.toNat s.2.2) (Ty.dflt qk)).1==0||bif (List.getD x.2.2.2.1 (Int.toNat s.2.2) (Ty.dflt qk)).1==2 then qhR (x.2.1,s.2.2) else true)
   (.ret (.on (bif (List.getD x.2.2.2.1 (Int.toNat s.2.2) (Ty.dflt qk)).1==0 then w64 (s.1+qci (List.getD x.2.2.2.1 (Int.toNat s.2.2) (Ty.dflt qk)).2.2.1) else bif (List.getD x.2.2.2.1 (Int.toNat s.2.2) (Ty.dflt qk)).1==2&&qhQ (x.2.1,s.2.2) then w64 (s.1+4) else bif (List.getD x.2.2.2.1 (Int.toNat s.2.2) (Ty.dflt qk)).1==2 then w64 (s.1+2) else s.1,s.2.1++[s.1],w64 (s.2.2+1))))
   .fail)
   .fail)
  .fail)
  (.ret (.out 0 (s.1,s.2.1,s.2.2))))
abbrev qqe:List Ty:=[(.sl qk),(.int .i64),(.sl .bool)]
abbrev qsv:Sh:=Sh.osl 32 (Ty.int IntKind.i64)
def qqc (x:qd qqe):PO (Sh.den qsv) :=
 (.ite (qgh (w64 (qi x.1+1)) 8)
  (.opt (LoopN.res qmx (x.2.1,x.2.2,[],x.1,qi x.1,0) ()) fun p0 =>
  (.ite (Nat.ble ((List.length p0.2.2.1+List.length [p0.2.1])*8) 140737488355328)
   (.ret (p0.2.2.1++[p0.2.1]))
   .fail))
  .fail)
def qjH (x:qd qqe):Bool:=(qqc x).val.isSome
def qie (x:qd qqe):Sh.den qsv:=(qqc x).qH default
theorem qIv (x:qd qqe) (h:qjH x=true):(qqc x).val=some (qie x):=PO.qcg default h
def qeH:LoopN where
 M:=[0,3,12,13]
 T:=[4,14,15,16,17,18,19]
 D:=[12,13]
 ss:=[.box 0 0,.win 1 .bool,.ty (.int .i64),.ty (.int .i64)]
 hs:=[qhu 2 3,.rowc .bool,.mapc,.rowc .bool]
 es:=[.exit 0]
 σ:=(Ty.den (.int .i64))×(Sh.den (qhu 2 3))×(Sh.den (.rowc .bool))×(Sh.den (.mapc))×(Sh.den (.rowc .bool))
 x0:=fun x y=>(x.2.2.2,y.1,y.2.1,y.2.2.1,y.2.2.2)
 put:=fun x _ s=>((x.1,x.2.1,x.2.2.1,s.1),(s.2.1,s.2.2.1,s.2.2.2.1,s.2.2.2.2))
 fuel:=fun _ y=>List.length y.2.1+1
 turn:=fun x _ s =>
 (.ite (decide (s.1<x.2.2.1))
  (.ite (inRange s.1 x.2.1.2)
  (.ret (.on (w64 (s.1+1),s.2.1,List.set s.2.2.1 (qbl x.2.1.1 s.1) true,s.2.2.2.1,s.2.2.2.2)))
  .fail)
  (.ret (.out 0 (s.1,s.2.1,s.2.2.1,s.2.2.2.1,s.2.2.2.2))))
def qeG:LoopN where
 M:=[0,2,11,12,13]
 T:=[4,14,15,16,17,18,19,20]
 D:=[11,12,13]
 ss:=[.box 0 0,.ty (.int .i64),.ty (.sl qk),.ty (.int .i64),.ty (.int .i64)]
 hs:=[qhu 1 2,.mapc,.rowc .bool]
 es:=[.exit 0,.ret]
 σ:=(Ty.den (.int .i64))×(Ty.den (.int .i64))×(Sh.den (qhu 1 2))×(Sh.den (.mapc))×(Sh.den (.rowc .bool))
 x0:=fun x y=>(x.2.1,x.2.2.2.2,y.1,y.2.1,y.2.2)
 put:=fun x _ s=>((x.1,s.1,x.2.2.1,x.2.2.2.1,s.2.1),(s.2.2.1,s.2.2.2.1,s.2.2.2.2))
 fuel:=fun _ y=>List.length y.1.1+1
 turn:=fun x _ s =>
 (.ite (decide (s.2.1<x.2.2.2.1))
  (.ite (inRange s.2.1 (List.length x.2.2.1))
  (.ite (!qfi (List.getD x.2.2.1 (Int.toNat s.2.1) (Ty.dflt qk)))
   (.ret (.out 1 (2,s.2.1,s.2.2.1,s.2.2.2.1,s.2.2.2.2)))
   (.ret (.on (s.1,w64 (s.2.1+1),s.2.2.1,s.2.2.2.1,s.2.2.2.2))))
  .fail)
  (.ret (.out 0 (s.1,s.2.1,s.2.2.1,s.2.2.2.1,s.2.2.2.2))))
def qey:LoopN where
 M:=[2,24,25,26]
 T:=[6,7,27,28,29,30,31,32,33,34,35,36,37,38,39]
 D:=[24,25,26]
 ss:=[.ty (.int .i64),.ty (.sl qk),.ty (.int .i64),.ty (.int .i64)]
 hs:=[]
 es:=[.exit 2,.ret]
 σ:=(Ty.den (.int .i64))×(Ty.den (.int .i64))
 x0:=fun x _=>(x.1,x.2.2.2)
 put:=fun x _ s=>((s.1,x.2.1,x.2.2.1,s.2),())
 fuel:=fun x _=>List.length x.2.1+1
 turn:=fun x _ s =>
 (.ite (decide (s.2<x.2.2.1))
  (.ite (inRange s.2 (List.length x.2.1))
  (.ite ((List.getD x.2.1 (Int.toNat s.2) (Ty.dflt qk)).1 != 0)
   (.ret (.on (s.1,w64 (s.2+1))))
   (.ite (qf (List.getD x.2.1 (Int.toNat s.2) (Ty.dflt qk)).2.2.1 != 0)
   (.ret (.out 1 (qf (List.getD x.2.1 (Int.toNat s.2) (Ty.dflt qk)).2.2.1,s.2)))
   (.ret (.on (s.1,w64 (s.2+1))))))
  .fail)
  (.ret (.out 0 (s.1,s.2))))
def qeE:LoopN where
 M:=[0,2,14,15,16]
 T:=[3,4,5,6,17,18,19,20,21,22,23,24,25,26,27,28,29,30,31,32,33,34,35,36,37,38,39,40,41,42]
 D:=[14,15,16]
 ss:=[.box 0 0,.ty (.int .i64),.ty (.sl qk),.ty (.int .i64),.ty (.int .i64)]
 hs:=[qhu 1 2,.mapc,.rowc .bool]
 es:=[.exit 0,.ret]
 σ:=(Ty.den (.int .i64))×(Ty.den (.int .i64))×(Sh.den (qhu 1 2))×(Sh.den (.mapc))×(Sh.den (.rowc .bool))
 x0:=fun x y=>(x.2.1,x.2.2.2.2,y.1,y.2.1,y.2.2)
 put:=fun x _ s=>((x.1,s.1,x.2.2.1,x.2.2.2.1,s.2.1),(s.2.2.1,s.2.2.2.1,s.2.2.2.2))
 fuel:=fun _ y=>List.length y.1.1+1
 turn:=fun x _ s =>
 (.ite (decide (s.2.1<x.2.2.2.1))
  (.ite (inRange s.2.1 (List.length x.2.2.1))
  (.ite ((List.getD x.2.2.1 (Int.toNat s.2.1) (Ty.dflt qk)).1 != 1)
   (.ret (.on (s.1,w64 (s.2.1+1),s.2.2.1,s.2.2.2.1,s.2.2.2.2)))
   (.ite (qul s.2.2.2.1 (List.getD x.2.2.1 (Int.toNat s.2.1) (Ty.dflt qk)).2.1)
   (.ret (.out 1 (13,s.2.1,s.2.2.1,s.2.2.2.1,s.2.2.2.2)))
   (.ret (.on (s.1,w64 (s.2.1+1),s.2.2.1,qna s.2.2.2.1 (List.getD x.2.2.1 (Int.toNat s.2.1) (Ty.dflt qk)).2.1 s.2.1,s.2.2.2.2)))))
  .fail)
  (.ret (.out 0 (s.1,s.2.1,s.2.2.1,s.2.2.2.1,s.2.2.2.2))))
def qd4:LoopN where
 M:=[0,2,46,47,48]
 T:=[8,9,10,49,50,51,52,53,54,55,56,57,58,59,60,61,62,63,64,65,66,67,68,69]
 D:=[0,46,47,48]
 ss:=[.box 0 0,.ty (.int .i64),.ty (.sl qk),.ty (.int .i64),.ty (.int .i64)]
 hs:=[qhu 1 2,.mapc,.rowc .bool]
 es:=[.exit 2,.ret]
 σ:=(Ty.den (.int .i64))×(Ty.den (.int .i64))×(Sh.den (qhu 1 2))×(Sh.den (.mapc))×(Sh.den (.rowc .bool))
 x0:=fun x y=>(x.2.1,x.2.2.2.2,y.1,y.2.1,y.2.2)
 put:=fun x _ s=>((x.1,s.1,x.2.2.1,x.2.2.2.1,s.2.1),(s.2.2.1,s.2.2.2.1,s.2.2.2.2))
 fuel:=fun _ y=>List.length y.1.1+1
 turn:=fun x _ s =>
 (.ite (decide (s.2.1<x.2.2.2.1))
  (.ite (inRange s.2.1 (List.length x.2.2.1))
  (.ite ((List.getD x.2.2.1 (Int.toNat s.2.1) (Ty.dflt qk)).1==2&&!qul s.2.2.2.1 (List.getD x.2.2.1 (Int.toNat s.2.1) (Ty.dflt qk)).2.1)
   (.ret (.out 1 (12,s.2.1,s.2.2.1,s.2.2.2.1,s.2.2.2.2)))
   (.ret (.on (s.1,w64 (s.2.1+1),s.2.2.1,s.2.2.2.1,s.2.2.2.2))))
  .fail)
  (.ret (.out 0 (s.1,s.2.1,s.2.2.1,s.2.2.2.1,s.2.2.2.2))))
end Go.Av
end
section
namespace Go.Av
open Go
end Go.Av
end
section
namespace Go.Av
open Go
abbrev qQr:Type:=List qk.den×List (Int×Int)×List Int×Int
def qeW (x:qQr):Bool:=inRange x.2.2.2 x.1.length&&(inRange (qsK x.2.1 (x.1.getD x.2.2.2.toNat (Ty.dflt qk)).2.1) x.2.2.1.length&&inRange x.2.2.2 x.2.2.1.length)
def qbu (x:qQr):Int:=w64 (w64 (x.2.2.1.getD (qsK x.2.1 (x.1.getD x.2.2.2.toNat (Ty.dflt qk)).2.1).toNat 0-x.2.2.1.getD x.2.2.2.toNat 0)-4)
def qdO:Plain:=fun l=>match l with
 |[⟨.tup (.tup (.ty .unit)),_⟩,⟨.ty (.sl e),it⟩,⟨.mapc,en⟩,⟨.ty (.sl (.int .i64)),at_⟩,⟨.ty (.int .i64),i⟩]=>(match Ty.dec e qk with
  |isTrue h=>some (qeW ((h▸it:List qk.den),en,at_,i),⟨.ty (.int .i64),qbu ((h▸it:List qk.den),en,at_,i)⟩)
  |isFalse _=>none)
 |_=>none
end Go.Av
end
section
namespace Go.Av
open Go
def qtW:Sh:=.tyc 127 (.pair (.nbox 0) (.pair (.tsl 5 0) (.ty .unit)))
abbrev qy4 (b r:Nat):Sh:=.tyc 127 (.pair (.nbox b) (.pair (.tsl 5 r) (.ty .unit)))
def qQL:Sh:=.tyc 127 (.pair (.nbox 0) (.pair .top (.ty .unit)))
def qfj (x:List UInt8) (y:List UInt8):Bool:=Nat.ble (List.length x+List.length y) 140737488355328
def qhz (x:List UInt8) (y:List UInt8):List UInt8:=x++y
def qni:Body:=qf5 [.box 0 0,.ty .str] [qtW] .top [qtW] (fun x y=>qfj y.2.1 x.2) (fun x y=>((),y.1,qhz y.2.1 x.2,()))
def qsC:Body:=qf5 [.box 0 0] [qtW] (.ty .str) [qQL] (fun _ _=>true) (fun _ y=>(y.2.1,y.1,(),()))
end Go.Av
end
section
namespace Go.Av
open Go
abbrev qfd:List Sh:=[.box 0 0]
abbrev qeZ:List Sh:=[qhu 1 2,.mapc,.rowc .bool]
abbrev qgQ:Sh:=Sh.ty (Ty.int IntKind.i64)
abbrev qi8:List Sh:=[Sh.pair (Sh.ty (Ty.sl qk)) (Sh.pair (Sh.ty (Ty.int IntKind.i64)) (Sh.pair (Sh.mp 1) (Sh.pair (Sh.win 2 Ty.bool) (Sh.ty Ty.unit)))),Sh.mapc,Sh.rowc Ty.bool]
def qfo (_:qh qfd) (y:qh qeZ):PO (Sh.den qgQ×qh qi8) :=
 (.opt (LoopN.res qeG ((),0,y.1.1,qi y.1.1,0) ((y.1.1,y.1.2.1,(),y.1.2.2.2),y.2)) fun p0 =>
  (.ite (way p0.1)
  (.opt (LoopN.res qey (p0.2.1,p0.2.2.2.1.1,qi p0.2.2.2.1.1,0) ()) fun p1 =>
   (.ite (way p1.1)
   (.ret (0,((p0.2.2.2.1.1,p0.2.2.2.1.2.1,(),p0.2.2.2.1.2.2.2),p0.2.2.2.2.1,p0.2.2.2.2.2)))
   (.ret (p1.2.1,((p0.2.2.2.1.1,p0.2.2.2.1.2.1,(),p0.2.2.2.1.2.2.2),p0.2.2.2.2.1,p0.2.2.2.2.2)))))
  (.ret (p0.2.1,((p0.2.2.2.1.1,p0.2.2.2.1.2.1,(),p0.2.2.2.1.2.2.2),p0.2.2.2.2.1,p0.2.2.2.2.2)))))
def qdZ (x:qh qfd) (y:qh qeZ):Bool:=(qfo x y).val.isSome
def qa (x:qh qfd) (y:qh qeZ):Sh.den qgQ×qh qi8:=(qfo x y).qH default
theorem qsO (x:qh qfd) (y:qh qeZ) (h:qdZ x y=true):(qfo x y).val=some (qa x y):=PO.qcg default h
abbrev qeU:List Sh:=[.box 0 0]
abbrev qeT:List Sh:=[qhu 1 2,.mapc,.rowc .bool]
abbrev qgX:Sh:=Sh.ty (Ty.int IntKind.i64)
abbrev qi3:List Sh:=[Sh.pair (Sh.ty (Ty.sl qk)) (Sh.pair (Sh.ty (Ty.int IntKind.i64)) (Sh.pair (Sh.mp 1) (Sh.pair (Sh.win 2 Ty.bool) (Sh.ty Ty.unit)))),Sh.mapc,Sh.rowc Ty.bool]
def qfx (_:qh qeU) (y:qh qeT):PO (Sh.den qgX×qh qi3) :=
 (.opt (LoopN.res qeE ((),0,y.1.1,qi y.1.1,0) ((y.1.1,y.1.2.1,(),y.1.2.2.2),y.2)) fun p0 =>
  (.ite (way p0.1)
  (.opt (LoopN.res qd4 ((),p0.2.1,p0.2.2.2.1.1,qi p0.2.2.2.1.1,0) ((p0.2.2.2.1.1,p0.2.2.2.1.2.1,(),p0.2.2.2.1.2.2.2),p0.2.2.2.2)) fun p1 =>
   (.ite (way p1.1)
   (.ret (0,((p1.2.2.2.1.1,p1.2.2.2.1.2.1,(),p1.2.2.2.1.2.2.2),p1.2.2.2.2.1,p1.2.2.2.2.2)))
   (.ret (p1.2.1,((p1.2.2.2.1.1,p1.2.2.2.1.2.1,(),p1.2.2.2.1.2.2.2),p1.2.2.2.2.1,p1.2.2.2.2.2)))))
  (.ret (p0.2.1,((p0.2.2.2.1.1,p0.2.2.2.1.2.1,(),p0.2.2.2.1.2.2.2),p0.2.2.2.2.1,p0.2.2.2.2.2)))))
def qdQ (x:qh qeU) (y:qh qeT):Bool:=(qfx x y).val.isSome
def qj (x:qh qeU) (y:qh qeT):Sh.den qgX×qh qi3:=(qfx x y).qH default
theorem qsH (x:qh qeU) (y:qh qeT) (h:qdQ x y=true):(qfx x y).val=some (qj x y):=PO.qcg default h
abbrev qe4:List Sh:=[.box 0 0]
abbrev qff:List Sh:=[qhu 1 2,.mapc,.rowc .bool]
abbrev qgK:Sh:=Sh.ty Ty.bool
abbrev qiU:List Sh:=[Sh.pair (Sh.ty (Ty.sl qk)) (Sh.pair (Sh.ty (Ty.int IntKind.i64)) (Sh.pair (Sh.mp 1) (Sh.pair (Sh.win 2 Ty.bool) (Sh.ty Ty.unit)))),Sh.mapc,Sh.rowc Ty.bool]
def qdX (_:qh qe4) (y:qh qff):PO (Sh.den qgK×qh qiU) :=
 (.ite (qgh (qi y.1.1) 1)
  (.opt (LoopN.res qeH ((),(0,qc0 0 (qi y.1.1)),Int.ofNat (qc0 0 (qi y.1.1)),0) ((y.1.1,y.1.2.1,(),y.1.2.2.2),zeros (qi y.1.1) false,y.2)) fun p0 =>
  (.ite (qjH (p0.2.2.1.1,0,shown p0.2.2.2.1 (0,qc0 0 (qi y.1.1)))&&inRange (qi p0.2.2.1.1) (List.length (qie (p0.2.2.1.1,0,shown p0.2.2.2.1 (0,qc0 0 (qi y.1.1))))))
   (.ret (decide (List.getD (qie (p0.2.2.1.1,0,shown p0.2.2.2.1 (0,qc0 0 (qi y.1.1)))) (Int.toNat (qi p0.2.2.1.1)) (Ty.dflt (Ty.int IntKind.i64)) > 262144),((p0.2.2.1.1,p0.2.2.1.2.1,(),p0.2.2.1.2.2.2),p0.2.2.2.2.1,p0.2.2.2.2.2)))
   .fail))
  .fail)
def qdP (x:qh qe4) (y:qh qff):Bool:=(qdX x y).val.isSome
def qbg (x:qh qe4) (y:qh qff):Sh.den qgK×qh qiU:=(qdX x y).qH default
theorem qsQ (x:qh qe4) (y:qh qff) (h:qdP x y=true):(qdX x y).val=some (qbg x y):=PO.qcg default h
abbrev qeV:List Sh:=[.box 0 0]
abbrev qeX:List Sh:=[qhu 1 2,.mapc,.rowc .bool]
abbrev qgM:Sh:=Sh.ty (Ty.int IntKind.i64)
abbrev qiW:List Sh:=[Sh.pair (Sh.ty (Ty.sl qk)) (Sh.pair (Sh.ty (Ty.int IntKind.i64)) (Sh.pair (Sh.mp 1) (Sh.pair (Sh.win 2 Ty.bool) (Sh.ty Ty.unit)))),Sh.mapc,Sh.rowc Ty.bool]
def qdV (_:qh qeV) (y:qh qeX):PO (Sh.den qgM×qh qiW) :=
 (.ite (decide (y.1.2.1<0)||(decide (y.1.2.1 > 262144)||qR IntKind.i64 y.1.2.1 1 != 0))
  (.ret (2,((y.1.1,y.1.2.1,(),y.1.2.2.2),y.2.1,y.2.2)))
  (.ite (qdZ () ((y.1.1,y.1.2.1,(),y.1.2.2.2),y.2))
  (.ite ((qa () ((y.1.1,y.1.2.1,(),y.1.2.2.2),y.2)).1 != 0)
   (.ret ((qa () ((y.1.1,y.1.2.1,(),y.1.2.2.2),y.2)).1,(((qa () ((y.1.1,y.1.2.1,(),y.1.2.2.2),y.2)).2.1.1,(qa () ((y.1.1,y.1.2.1,(),y.1.2.2.2),y.2)).2.1.2.1,(),(qa () ((y.1.1,y.1.2.1,(),y.1.2.2.2),y.2)).2.1.2.2.2),(qa () ((y.1.1,y.1.2.1,(),y.1.2.2.2),y.2)).2.2.1,(qa () ((y.1.1,y.1.2.1,(),y.1.2.2.2),y.2)).2.2.2)))
   (.ite (qdQ () (((qa () ((y.1.1,y.1.2.1,(),y.1.2.2.2),y.2)).2.1.1,(qa () ((y.1.1,y.1.2.1,(),y.1.2.2.2),y.2)).2.1.2.1,(),(qa () ((y.1.1,y.1.2.1,(),y.1.2.2.2),y.2)).2.1.2.2.2),(qa () ((y.1.1,y.1.2.1,(),y.1.2.2.2),y.2)).2.2))
   (.ite ((qj () (((qa () ((y.1.1,y.1.2.1,(),y.1.2.2.2),y.2)).2.1.1,(qa () ((y.1.1,y.1.2.1,(),y.1.2.2.2),y.2)).2.1.2.1,(),(qa () ((y.1.1,y.1.2.1,(),y.1.2.2.2),y.2)).2.1.2.2.2),(qa () ((y.1.1,y.1.2.1,(),y.1.2.2.2),y.2)).2.2)).1 != 0)
    (.ret ((qj () (((qa () ((y.1.1,y.1.2.1,(),y.1.2.2.2),y.2)).2.1.1,(qa () ((y.1.1,y.1.2.1,(),y.1.2.2.2),y.2)).2.1.2.1,(),(qa () ((y.1.1,y.1.2.1,(),y.1.2.2.2),y.2)).2.1.2.2.2),(qa () ((y.1.1,y.1.2.1,(),y.1.2.2.2),y.2)).2.2)).1,(((qj () (((qa () ((y.1.1,y.1.2.1,(),y.1.2.2.2),y.2)).2.1.1,(qa () ((y.1.1,y.1.2.1,(),y.1.2.2.2),y.2)).2.1.2.1,(),(qa () ((y.1.1,y.1.2.1,(),y.1.2.2.2),y.2)).2.1.2.2.2),(qa () ((y.1.1,y.1.2.1,(),y.1.2.2.2),y.2)).2.2)).2.1.1,(qj () (((qa () ((y.1.1,y.1.2.1,(),y.1.2.2.2),y.2)).2.1.1,(qa () ((y.1.1,y.1.2.1,(),y.1.2.2.2),y.2)).2.1.2.1,(),(qa () ((y.1.1,y.1.2.1,(),y.1.2.2.2),y.2)).2.1.2.2.2),(qa () ((y.1.1,y.1.2.1,(),y.1.2.2.2),y.2)).2.2)).2.1.2.1,(),(qj () (((qa () ((y.1.1,y.1.2.1,(),y.1.2.2.2),y.2)).2.1.1,(qa () ((y.1.1,y.1.2.1,(),y.1.2.2.2),y.2)).2.1.2.1,(),(qa () ((y.1.1,y.1.2.1,(),y.1.2.2.2),y.2)).2.1.2.2.2),(qa () ((y.1.1,y.1.2.1,(),y.1.2.2.2),y.2)).2.2)).2.1.2.2.2),(qj () (((qa () ((y.1.1,y.1.2.1,(),y.1.2.2.2),y.2)).2.1.1,(qa () ((y.1.1,y.1.2.1,(),y.1.2.2.2),y.2)).2.1.2.1,(),(qa () ((y.1.1,y.1.2.1,(),y.1.2.2.2),y.2)).2.1.2.2.2),(qa () ((y.1.1,y.1.2.1,(),y.1.2.2.2),y.2)).2.2)).2.2.1,(qj () (((qa () ((y.1.1,y.1.2.1,(),y.1.2.2.2),y.2)).2.1.1,(qa () ((y.1.1,y.1.2.1,(),y.1.2.2.2),y.2)).2.1.2.1,(),(qa () ((y.1.1,y.1.2.1,(),y.1.2.2.2),y.2)).2.1.2.2.2),(qa () ((y.1.1,y.1.2.1,(),y.1.2.2.2),y.2)).2.2)).2.2.2)))
    (.ite (qdP () (((qj () (((qa () ((y.1.1,y.1.2.1,(),y.1.2.2.2),y.2)).2.1.1,(qa () ((y.1.1,y.1.2.1,(),y.1.2.2.2),y.2)).2.1.2.1,(),(qa () ((y.1.1,y.1.2.1,(),y.1.2.2.2),y.2)).2.1.2.2.2),(qa () ((y.1.1,y.1.2.1,(),y.1.2.2.2),y.2)).2.2)).2.1.1,(qj () (((qa () ((y.1.1,y.1.2.1,(),y.1.2.2.2),y.2)).2.1.1,(qa () ((y.1.1,y.1.2.1,(),y.1.2.2.2),y.2)).2.1.2.1,(),(qa () ((y.1.1,y.1.2.1,(),y.1.2.2.2),y.2)).2.1.2.2.2),(qa () ((y.1.1,y.1.2.1,(),y.1.2.2.2),y.2)).2.2)).2.1.2.1,(),(qj () (((qa () ((y.1.1,y.1.2.1,(),y.1.2.2.2),y.2)).2.1.1,(qa () ((y.1.1,y.1.2.1,(),y.1.2.2.2),y.2)).2.1.2.1,(),(qa () ((y.1.1,y.1.2.1,(),y.1.2.2.2),y.2)).2.1.2.2.2),(qa () ((y.1.1,y.1.2.1,(),y.1.2.2.2),y.2)).2.2)).2.1.2.2.2),(qj () (((qa () ((y.1.1,y.1.2.1,(),y.1.2.2.2),y.2)).2.1.1,(qa () ((y.1.1,y.1.2.1,(),y.1.2.2.2),y.2)).2.1.2.1,(),(qa () ((y.1.1,y.1.2.1,(),y.1.2.2.2),y.2)).2.1.2.2.2),(qa () ((y.1.1,y.1.2.1,(),y.1.2.2.2),y.2)).2.2)).2.2))
    (.ite ((qbg () (((qj () (((qa () ((y.1.1,y.1.2.1,(),y.1.2.2.2),y.2)).2.1.1,(qa () ((y.1.1,y.1.2.1,(),y.1.2.2.2),y.2)).2.1.2.1,(),(qa () ((y.1.1,y.1.2.1,(),y.1.2.2.2),y.2)).2.1.2.2.2),(qa () ((y.1.1,y.1.2.1,(),y.1.2.2.2),y.2)).2.2)).2.1.1,(qj () (((qa () ((y.1.1,y.1.2.1,(),y.1.2.2.2),y.2)).2.1.1,(qa () ((y.1.1,y.1.2.1,(),y.1.2.2.2),y.2)).2.1.2.1,(),(qa () ((y.1.1,y.1.2.1,(),y.1.2.2.2),y.2)).2.1.2.2.2),(qa () ((y.1.1,y.1.2.1,(),y.1.2.2.2),y.2)).2.2)).2.1.2.1,(),(qj () (((qa () ((y.1.1,y.1.2.1,(),y.1.2.2.2),y.2)).2.1.1,(qa () ((y.1.1,y.1.2.1,(),y.1.2.2.2),y.2)).2.1.2.1,(),(qa () ((y.1.1,y.1.2.1,(),y.1.2.2.2),y.2)).2.1.2.2.2),(qa () ((y.1.1,y.1.2.1,(),y.1.2.2.2),y.2)).2.2)).2.1.2.2.2),(qj () (((qa () ((y.1.1,y.1.2.1,(),y.1.2.2.2),y.2)).2.1.1,(qa () ((y.1.1,y.1.2.1,(),y.1.2.2.2),y.2)).2.1.2.1,(),(qa () ((y.1.1,y.1.2.1,(),y.1.2.2.2),y.2)).2.1.2.2.2),(qa () ((y.1.1,y.1.2.1,(),y.1.2.2.2),y.2)).2.2)).2.2)).1)
     (.ret (5,(((qbg () (((qj () (((qa () ((y.1.1,y.1.2.1,(),y.1.2.2.2),y.2)).2.1.1,(qa () ((y.1.1,y.1.2.1,(),y.1.2.2.2),y.2)).2.1.2.1,(),(qa () ((y.1.1,y.1.2.1,(),y.1.2.2.2),y.2)).2.1.2.2.2),(qa () ((y.1.1,y.1.2.1,(),y.1.2.2.2),y.2)).2.2)).2.1.1,(qj () (((qa () ((y.1.1,y.1.2.1,(),y.1.2.2.2),y.2)).2.1.1,(qa () ((y.1.1,y.1.2.1,(),y.1.2.2.2),y.2)).2.1.2.1,(),(qa () ((y.1.1,y.1.2.1,(),y.1.2.2.2),y.2)).2.1.2.2.2),(qa () ((y.1.1,y.1.2.1,(),y.1.2.2.2),y.2)).2.2)).2.1.2.1,(),(qj () (((qa () ((y.1.1,y.1.2.1,(),y.1.2.2.2),y.2)).2.1.1,(qa () ((y.1.1,y.1.2.1,(),y.1.2.2.2),y.2)).2.1.2.1,(),(qa () ((y.1.1,y.1.2.1,(),y.1.2.2.2),y.2)).2.1.2.2.2),(qa () ((y.1.1,y.1.2.1,(),y.1.2.2.2),y.2)).2.2)).2.1.2.2.2),(qj () (((qa () ((y.1.1,y.1.2.1,(),y.1.2.2.2),y.2)).2.1.1,(qa () ((y.1.1,y.1.2.1,(),y.1.2.2.2),y.2)).2.1.2.1,(),(qa () ((y.1.1,y.1.2.1,(),y.1.2.2.2),y.2)).2.1.2.2.2),(qa () ((y.1.1,y.1.2.1,(),y.1.2.2.2),y.2)).2.2)).2.2)).2.1.1,(qbg () (((qj () (((qa () ((y.1.1,y.1.2.1,(),y.1.2.2.2),y.2)).2.1.1,(qa () ((y.1.1,y.1.2.1,(),y.1.2.2.2),y.2)).2.1.2.1,(),(qa () ((y.1.1,y.1.2.1,(),y.1.2.2.2),y.2)).2.1.2.2.2),(qa () ((y.1.1,y.1.2.1,(),y.1.2.2.2),y.2)).2.2)).2.1.1,(qj () (((qa () ((y.1.1,y.1.2.1,(),y.1.2.2.2),y.2)).2.1.1,(qa () ((y.1.1,y.1.2.1,(),y.1.2.2.2),y.2)).2.1.2.1,(),(qa () ((y.1.1,y.1.2.1,(),y.1.2.2.2),y.2)).2.1.2.2.2),(qa () ((y.1.1,y.1.2.1,(),y.1.2.2.2),y.2)).2.2)).2.1.2.1,(),(qj () (((qa () ((y.1.1,y.1.2.1,(),y.1.2.2.2),y.2)).2.1.1,(qa () ((y.1.1,y.1.2.1,(),y.1.2.2.2),y.2)).2.1.2.1,(),(qa () ((y.1.1,y.1.2.1,(),y.1.2.2.2),y.2)).2.1.2.2.2),(qa () ((y.1.1,y.1.2.1,(),y.1.2.2.2),y.2)).2.2)).2.1.2.2.2),(qj () (((qa () ((y.1.1,y.1.2.1,(),y.1.2.2.2),y.2)).2.1.1,(qa () ((y.1.1,y.1.2.1,(),y.1.2.2.2),y.2)).2.1.2.1,(),(qa () ((y.1.1,y.1.2.1,(),y.1.2.2.2),y.2)).2.1.2.2.2),(qa () ((y.1.1,y.1.2.1,(),y.1.2.2.2),y.2)).2.2)).2.2)).2.1.2.1,(),(qbg () (((qj () (((qa () ((y.1.1,y.1.2.1,(),y.1.2.2.2),y.2)).2.1.1,(qa () ((y.1.1,y.1.2.1,(),y.1.2.2.2),y.2)).2.1.2.1,(),(qa () ((y.1.1,y.1.2.1,(),y.1.2.2.2),y.2)).2.1.2.2.2),(qa () ((y.1.1,y.1.2.1,(),y.1.2.2.2),y.2)).2.2)).2.1.1,(qj () (((qa () ((y.1.1,y.1.2.1,(),y.1.2.2.2),y.2)).2.1.1,(qa () ((y.1.1,y.1.2.1,(),y.1.2.2.2),y.2)).2.1.2.1,(),(qa () ((y.1.1,y.1.2.1,(),y.1.2.2.2),y.2)).2.1.2.2.2),(qa () ((y.1.1,y.1.2.1,(),y.1.2.2.2),y.2)).2.2)).2.1.2.1,(),(qj () (((qa () ((y.1.1,y.1.2.1,(),y.1.2.2.2),y.2)).2.1.1,(qa () ((y.1.1,y.1.2.1,(),y.1.2.2.2),y.2)).2.1.2.1,(),(qa () ((y.1.1,y.1.2.1,(),y.1.2.2.2),y.2)).2.1.2.2.2),(qa () ((y.1.1,y.1.2.1,(),y.1.2.2.2),y.2)).2.2)).2.1.2.2.2),(qj () (((qa () ((y.1.1,y.1.2.1,(),y.1.2.2.2),y.2)).2.1.1,(qa () ((y.1.1,y.1.2.1,(),y.1.2.2.2),y.2)).2.1.2.1,(),(qa () ((y.1.1,y.1.2.1,(),y.1.2.2.2),y.2)).2.1.2.2.2),(qa () ((y.1.1,y.1.2.1,(),y.1.2.2.2),y.2)).2.2)).2.2)).2.1.2.2.2),(qbg () (((qj () (((qa () ((y.1.1,y.1.2.1,(),y.1.2.2.2),y.2)).2.1.1,(qa () ((y.1.1,y.1.2.1,(),y.1.2.2.2),y.2)).2.1.2.1,(),(qa () ((y.1.1,y.1.2.1,(),y.1.2.2.2),y.2)).2.1.2.2.2),(qa () ((y.1.1,y.1.2.1,(),y.1.2.2.2),y.2)).2.2)).2.1.1,(qj () (((qa () ((y.1.1,y.1.2.1,(),y.1.2.2.2),y.2)).2.1.1,(qa () ((y.1.1,y.1.2.1,(),y.1.2.2.2),y.2)).2.1.2.1,(),(qa () ((y.1.1,y.1.2.1,(),y.1.2.2.2),y.2)).2.1.2.2.2),(qa () ((y.1.1,y.1.2.1,(),y.1.2.2.2),y.2)).2.2)).2.1.2.1,(),(qj () (((qa () ((y.1.1,y.1.2.1,(),y.1.2.2.2),y.2)).2.1.1,(qa () ((y.1.1,y.1.2.1,(),y.1.2.2.2),y.2)).2.1.2.1,(),(qa () ((y.1.1,y.1.2.1,(),y.1.2.2.2),y.2)).2.1.2.2.2),(qa () ((y.1.1,y.1.2.1,(),y.1.2.2.2),y.2)).2.2)).2.1.2.2.2),(qj () (((qa () ((y.1.1,y.1.2.1,(),y.1.2.2.2),y.2)).2.1.1,(qa () ((y.1.1,y.1.2.1,(),y.1.2.2.2),y.2)).2.1.2.1,(),(qa () ((y.1.1,y.1.2.1,(),y.1.2.2.2),y.2)).2.1.2.2.2),(qa () ((y.1.1,y.1.2.1,(),y.1.2.2.2),y.2)).2.2)).2.2)).2.2.1,(qbg () (((qj () (((qa () ((y.1.1,y.1.2.1,(),y.1.2.2.2),y.2)).2.1.1,(qa () ((y.1.1,y.1.2.1,(),y.1.2.2.2),y.2)).2.1.2.1,(),(qa () ((y.1.1,y.1.2.1,(),y.1.2.2.2),y.2)).2.1.2.2.2),(qa () ((y.1.1,y.1.2.1,(),y.1.2.2.2),y.2)).2.2)).2.1.1,(qj () (((qa () ((y.1.1,y.1.2.1,(),y.1.2.2.2),y.2)).2.1.1,(qa () ((y.1.1,y.1.2.1,(),y.1.2.2.2),y.2)).2.1.2.1,(),(qa () ((y.1.1,y.1.2.1,(),y.1.2.2.2),y.2)).2.1.2.2.2),(qa () ((y.1.1,y.1.2.1,(),y.1.2.2.2),y.2)).2.2)).2.1.2.1,(),(qj () (((qa () ((y.1.1,y.1.2.1,(),y.1.2.2.2),y.2)).2.1.1,(qa () ((y.1.1,y.1.2.1,(),y.1.2.2.2),y.2)).2.1.2.1,(),(qa () ((y.1.1,y.1.2.1,(),y.1.2.2.2),y.2)).2.1.2.2.2),(qa () ((y.1.1,y.1.2.1,(),y.1.2.2.2),y.2)).2.2)).2.1.2.2.2),(qj () (((qa () ((y.1.1,y.1.2.1,(),y.1.2.2.2),y.2)).2.1.1,(qa () ((y.1.1,y.1.2.1,(),y.1.2.2.2),y.2)).2.1.2.1,(),(qa () ((y.1.1,y.1.2.1,(),y.1.2.2.2),y.2)).2.1.2.2.2),(qa () ((y.1.1,y.1.2.1,(),y.1.2.2.2),y.2)).2.2)).2.2)).2.2.2)))
     (.ret (0,(((qbg () (((qj () (((qa () ((y.1.1,y.1.2.1,(),y.1.2.2.2),y.2)).2.1.1,(qa () ((y.1.1,y.1.2.1,(),y.1.2.2.2),y.2)).2.1.2.1,(),(qa () ((y.1.1,y.1.2.1,(),y.1.2.2.2),y.2)).2.1.2.2.2),(qa () ((y.1.1,y.1.2.1,(),y.1.2.2.2),y.2)).2.2)).2.1.1,(qj () (((qa () ((y.1.1,y.1.2.1,(),y.1.2.2.2),y.2)).2.1.1,(qa () ((y.1.1,y.1.2.1,(),y.1.2.2.2),y.2)).2.1.2.1,(),(qa () ((y.1.1,y.1.2.1,(),y.1.2.2.2),y.2)).2.1.2.2.2),(qa () ((y.1.1,y.1.2.1,(),y.1.2.2.2),y.2)).2.2)).2.1.2.1,(),(qj () (((qa () ((y.1.1,y.1.2.1,(),y.1.2.2.2),y.2)).2.1.1,(qa () ((y.1.1,y.1.2.1,(),y.1.2.2.2),y.2)).2.1.2.1,(),(qa () ((y.1.1,y.1.2.1,(),y.1.2.2.2),y.2)).2.1.2.2.2),(qa () ((y.1.1,y.1.2.1,(),y.1.2.2.2),y.2)).2.2)).2.1.2.2.2),(qj () (((qa () ((y.1.1,y.1.2.1,(),y.1.2.2.2),y.2)).2.1.1,(qa () ((y.1.1,y.1.2.1,(),y.1.2.2.2),y.2)).2.1.2.1,(),(qa () ((y.1.1,y.1.2.1,(),y.1.2.2.2),y.2)).2.1.2.2.2),(qa () ((y.1.1,y.1.2.1,(),y.1.2.2.2),y.2)).2.2)).2.2)).2.1.1,(qbg () (((qj () (((qa () ((y.1.1,y.1.2.1,(),y.1.2.2.2),y.2)).2.1.1,(qa () ((y.1.1,y.1.2.1,(),y.1.2.2.2),y.2)).2.1.2.1,(),(qa () ((y.1.1,y.1.2.1,(),y.1.2.2.2),y.2)).2.1.2.2.2),(qa () ((y.1.1,y.1.2.1,(),y.1.2.2.2),y.2)).2.2)).2.1.1,(qj () (((qa () ((y.1.1,y.1.2.1,(),y.1.2.2.2),y.2)).2.1.1,(qa () ((y.1.1,y.1.2.1,(),y.1.2.2.2),y.2)).2.1.2.1,(),(qa () ((y.1.1,y.1.2.1,(),y.1.2.2.2),y.2)).2.1.2.2.2),(qa () ((y.1.1,y.1.2.1,(),y.1.2.2.2),y.2)).2.2)).2.1.2.1,(),(qj () (((qa () ((y.1.1,y.1.2.1,(),y.1.2.2.2),y.2)).2.1.1,(qa () ((y.1.1,y.1.2.1,(),y.1.2.2.2),y.2)).2.1.2.1,(),(qa () ((y.1.1,y.1.2.1,(),y.1.2.2.2),y.2)).2.1.2.2.2),(qa () ((y.1.1,y.1.2.1,(),y.1.2.2.2),y.2)).2.2)).2.1.2.2.2),(qj () (((qa () ((y.1.1,y.1.2.1,(),y.1.2.2.2),y.2)).2.1.1,(qa () ((y.1.1,y.1.2.1,(),y.1.2.2.2),y.2)).2.1.2.1,(),(qa () ((y.1.1,y.1.2.1,(),y.1.2.2.2),y.2)).2.1.2.2.2),(qa () ((y.1.1,y.1.2.1,(),y.1.2.2.2),y.2)).2.2)).2.2)).2.1.2.1,(),(qbg () (((qj () (((qa () ((y.1.1,y.1.2.1,(),y.1.2.2.2),y.2)).2.1.1,(qa () ((y.1.1,y.1.2.1,(),y.1.2.2.2),y.2)).2.1.2.1,(),(qa () ((y.1.1,y.1.2.1,(),y.1.2.2.2),y.2)).2.1.2.2.2),(qa () ((y.1.1,y.1.2.1,(),y.1.2.2.2),y.2)).2.2)).2.1.1,(qj () (((qa () ((y.1.1,y.1.2.1,(),y.1.2.2.2),y.2)).2.1.1,(qa () ((y.1.1,y.1.2.1,(),y.1.2.2.2),y.2)).2.1.2.1,(),(qa () ((y.1.1,y.1.2.1,(),y.1.2.2.2),y.2)).2.1.2.2.2),(qa () ((y.1.1,y.1.2.1,(),y.1.2.2.2),y.2)).2.2)).2.1.2.1,(),(qj () (((qa () ((y.1.1,y.1.2.1,(),y.1.2.2.2),y.2)).2.1.1,(qa () ((y.1.1,y.1.2.1,(),y.1.2.2.2),y.2)).2.1.2.1,(),(qa () ((y.1.1,y.1.2.1,(),y.1.2.2.2),y.2)).2.1.2.2.2),(qa () ((y.1.1,y.1.2.1,(),y.1.2.2.2),y.2)).2.2)).2.1.2.2.2),(qj () (((qa () ((y.1.1,y.1.2.1,(),y.1.2.2.2),y.2)).2.1.1,(qa () ((y.1.1,y.1.2.1,(),y.1.2.2.2),y.2)).2.1.2.1,(),(qa () ((y.1.1,y.1.2.1,(),y.1.2.2.2),y.2)).2.1.2.2.2),(qa () ((y.1.1,y.1.2.1,(),y.1.2.2.2),y.2)).2.2)).2.2)).2.1.2.2.2),(qbg () (((qj () (((qa () ((y.1.1,y.1.2.1,(),y.1.2.2.2),y.2)).2.1.1,(qa () ((y.1.1,y.1.2.1,(),y.1.2.2.2),y.2)).2.1.2.1,(),(qa () ((y.1.1,y.1.2.1,(),y.1.2.2.2),y.2)).2.1.2.2.2),(qa () ((y.1.1,y.1.2.1,(),y.1.2.2.2),y.2)).2.2)).2.1.1,(qj () (((qa () ((y.1.1,y.1.2.1,(),y.1.2.2.2),y.2)).2.1.1,(qa () ((y.1.1,y.1.2.1,(),y.1.2.2.2),y.2)).2.1.2.1,(),(qa () ((y.1.1,y.1.2.1,(),y.1.2.2.2),y.2)).2.1.2.2.2),(qa () ((y.1.1,y.1.2.1,(),y.1.2.2.2),y.2)).2.2)).2.1.2.1,(),(qj () (((qa () ((y.1.1,y.1.2.1,(),y.1.2.2.2),y.2)).2.1.1,(qa () ((y.1.1,y.1.2.1,(),y.1.2.2.2),y.2)).2.1.2.1,(),(qa () ((y.1.1,y.1.2.1,(),y.1.2.2.2),y.2)).2.1.2.2.2),(qa () ((y.1.1,y.1.2.1,(),y.1.2.2.2),y.2)).2.2)).2.1.2.2.2),(qj () (((qa () ((y.1.1,y.1.2.1,(),y.1.2.2.2),y.2)).2.1.1,(qa () ((y.1.1,y.1.2.1,(),y.1.2.2.2),y.2)).2.1.2.1,(),(qa () ((y.1.1,y.1.2.1,(),y.1.2.2.2),y.2)).2.1.2.2.2),(qa () ((y.1.1,y.1.2.1,(),y.1.2.2.2),y.2)).2.2)).2.2)).2.2.1,(qbg () (((qj () (((qa () ((y.1.1,y.1.2.1,(),y.1.2.2.2),y.2)).2.1.1,(qa () ((y.1.1,y.1.2.1,(),y.1.2.2.2),y.2)).2.1.2.1,(),(qa () ((y.1.1,y.1.2.1,(),y.1.2.2.2),y.2)).2.1.2.2.2),(qa () ((y.1.1,y.1.2.1,(),y.1.2.2.2),y.2)).2.2)).2.1.1,(qj () (((qa () ((y.1.1,y.1.2.1,(),y.1.2.2.2),y.2)).2.1.1,(qa () ((y.1.1,y.1.2.1,(),y.1.2.2.2),y.2)).2.1.2.1,(),(qa () ((y.1.1,y.1.2.1,(),y.1.2.2.2),y.2)).2.1.2.2.2),(qa () ((y.1.1,y.1.2.1,(),y.1.2.2.2),y.2)).2.2)).2.1.2.1,(),(qj () (((qa () ((y.1.1,y.1.2.1,(),y.1.2.2.2),y.2)).2.1.1,(qa () ((y.1.1,y.1.2.1,(),y.1.2.2.2),y.2)).2.1.2.1,(),(qa () ((y.1.1,y.1.2.1,(),y.1.2.2.2),y.2)).2.1.2.2.2),(qa () ((y.1.1,y.1.2.1,(),y.1.2.2.2),y.2)).2.2)).2.1.2.2.2),(qj () (((qa () ((y.1.1,y.1.2.1,(),y.1.2.2.2),y.2)).2.1.1,(qa () ((y.1.1,y.1.2.1,(),y.1.2.2.2),y.2)).2.1.2.1,(),(qa () ((y.1.1,y.1.2.1,(),y.1.2.2.2),y.2)).2.1.2.2.2),(qa () ((y.1.1,y.1.2.1,(),y.1.2.2.2),y.2)).2.2)).2.2)).2.2.2))))
    .fail))
   .fail))
  .fail))
def qdR (x:qh qeV) (y:qh qeX):Bool:=(qdV x y).val.isSome
def qdU (x:qh qeV) (y:qh qeX):Sh.den qgM×qh qiW:=(qdV x y).qH default
theorem qsS (x:qh qeV) (y:qh qeX) (h:qdR x y=true):(qdV x y).val=some (qdU x y):=PO.qcg default h
def qeF:LoopN where
 M:=[0,3,4,26,27,28]
 T:=[5,6,7,8,9,29,30,31,32,33,34,35,36,37,38,39,40,41,42,43,44,45,46,47,48,49,50,51,52,53,54,55,56,57,58,59,60,61,62,63,64,65,66,67,68,69,70]
 D:=[0,3,26,27,28]
 ss:=[.box 0 0,.ty (.sl (.int .i64)),.ty .bool,.ty (.sl qk),.ty (.int .i64),.ty (.int .i64)]
 hs:=[qhu 1 2,.mapc,.rowc .bool]
 es:=[.exit 0]
 σ:=(Ty.den .bool)×(Ty.den (.int .i64))×(Sh.den (qhu 1 2))×(Sh.den (.mapc))×(Sh.den (.rowc .bool))
 x0:=fun x y=>(x.2.2.1,x.2.2.2.2.2,y.1,y.2.1,y.2.2)
 put:=fun x _ s=>((x.1,x.2.1,s.1,x.2.2.2.1,x.2.2.2.2.1,s.2.1),(s.2.2.1,s.2.2.2.1,s.2.2.2.2))
 fuel:=fun _ y=>List.length y.1.1+1
 turn:=fun x _ s =>
 (.ite (decide (s.2.1<x.2.2.2.2.1))
  (.ite (inRange s.2.1 (List.length x.2.2.2.1))
  (.ite ((List.getD x.2.2.2.1 (Int.toNat s.2.1) (Ty.dflt qk)).1 != 2||inRange s.2.1 s.2.2.1.2.2.2.1.2)
   (.ite ((List.getD x.2.2.2.1 (Int.toNat s.2.1) (Ty.dflt qk)).1 != 2||List.getD s.2.2.2.2 (qbl s.2.2.1.2.2.2.1.1 s.2.1) (Ty.dflt Ty.bool))
   (.ret (.on (s.1,w64 (s.2.1+1),s.2.2.1,s.2.2.2.1,s.2.2.2.2)))
   (.ite (qeW (s.2.2.1.1,s.2.2.2.1,x.2.1,s.2.1))
    (.ite (decide (qbu (s.2.2.1.1,s.2.2.2.1,x.2.1,s.2.1)<(qbP ((List.getD x.2.2.2.1 (Int.toNat s.2.1) (Ty.dflt qk)).2.2.1.1,false)).1)||decide (qbu (s.2.2.1.1,s.2.2.2.1,x.2.1,s.2.1) > (qbP ((List.getD x.2.2.2.1 (Int.toNat s.2.1) (Ty.dflt qk)).2.2.1.1,false)).2.1))
    (.ite (inRange s.2.1 s.2.2.1.2.2.2.1.2)
     (.ret (.on (true,w64 (s.2.1+1),s.2.2.1,s.2.2.2.1,List.set s.2.2.2.2 (qbl s.2.2.1.2.2.2.1.1 s.2.1) true)))
     .fail)
    (.ret (.on (s.1,w64 (s.2.1+1),s.2.2.1,s.2.2.2.1,s.2.2.2.2))))
    .fail))
   .fail)
  .fail)
  (.ret (.out 0 (s.1,s.2.1,s.2.2.1,s.2.2.2.1,s.2.2.2.2))))
abbrev qe6:List Sh:=[.box 0 0]
abbrev qe0:List Sh:=[qhu 1 2,.mapc,.rowc .bool]
abbrev qgV:Sh:=Sh.ty Ty.bool
abbrev qi0:List Sh:=[Sh.pair (Sh.ty (Ty.sl qk)) (Sh.pair (Sh.ty (Ty.int IntKind.i64)) (Sh.pair (Sh.mp 1) (Sh.pair (Sh.win 2 Ty.bool) (Sh.ty Ty.unit)))),Sh.mapc,Sh.rowc Ty.bool]
def qd0 (_:qh qe6) (y:qh qe0):PO (Sh.den qgV×qh qi0) :=
 (.ite (qjH (y.1.1,y.1.2.1,shown y.2.2 y.1.2.2.2.1))
  (.opt (LoopN.res qeF ((),qie (y.1.1,y.1.2.1,shown y.2.2 y.1.2.2.2.1),false,y.1.1,qi y.1.1,0) ((y.1.1,y.1.2.1,(),y.1.2.2.2),y.2)) fun p0 =>
  (.ret (p0.2.1,((p0.2.2.2.1.1,p0.2.2.2.1.2.1,(),p0.2.2.2.1.2.2.2),p0.2.2.2.2.1,p0.2.2.2.2.2))))
  .fail)
def qdW (x:qh qe6) (y:qh qe0):Bool:=(qd0 x y).val.isSome
def qV (x:qh qe6) (y:qh qe0):Sh.den qgV×qh qi0:=(qd0 x y).qH default
theorem qsG (x:qh qe6) (y:qh qe0) (h:qdW x y=true):(qd0 x y).val=some (qV x y):=PO.qcg default h
def qhU:LoopN where
 M:=[0,1,7]
 T:=[29,30,31]
 D:=[]
 ss:=[.ty (.sl qk),.ty (.int .i64),.box 0 0]
 hs:=[qhu 1 2,.mapc,.rowc .bool]
 es:=[.exit 0]
 σ:=(Sh.den (qhu 1 2))×(Sh.den (.mapc))×(Sh.den (.rowc .bool))
 x0:=fun _ y=>(y.1,y.2.1,y.2.2)
 put:=fun x _ s=>((x.1,x.2.1,x.2.2),(s.1,s.2.1,s.2.2))
 fuel:=fun _ y=>List.length y.1.1+2
 turn:=fun _ _ s =>
 (.ite (qdW () ((s.1.1,s.1.2.1,(),s.1.2.2.2),s.2))
  (.ite (!(qV () ((s.1.1,s.1.2.1,(),s.1.2.2.2),s.2)).1)
  (.ret (.out 0 (((qV () ((s.1.1,s.1.2.1,(),s.1.2.2.2),s.2)).2.1.1,(qV () ((s.1.1,s.1.2.1,(),s.1.2.2.2),s.2)).2.1.2.1,(),(qV () ((s.1.1,s.1.2.1,(),s.1.2.2.2),s.2)).2.1.2.2.2),(qV () ((s.1.1,s.1.2.1,(),s.1.2.2.2),s.2)).2.2.1,(qV () ((s.1.1,s.1.2.1,(),s.1.2.2.2),s.2)).2.2.2)))
  (.ret (.on (((qV () ((s.1.1,s.1.2.1,(),s.1.2.2.2),s.2)).2.1.1,(qV () ((s.1.1,s.1.2.1,(),s.1.2.2.2),s.2)).2.1.2.1,(),(qV () ((s.1.1,s.1.2.1,(),s.1.2.2.2),s.2)).2.1.2.2.2),(qV () ((s.1.1,s.1.2.1,(),s.1.2.2.2),s.2)).2.2.1,(qV () ((s.1.1,s.1.2.1,(),s.1.2.2.2),s.2)).2.2.2))))
  .fail)
def qhb:LoopN where
 M:=[7,9,10,11,39,40,41]
 T:=[12,13,14,15,42,43,44,45,46,47,48,49,50,51,52,53,54,55,56,57,58,59,60,61,62,63,64,65,66,67,68,69,70,71,72,73,74,75,76,77,78,79,80,81,82,83,84,85,86,87,88,89]
 D:=[7,9,39,40,41]
 ss:=[.box 0 0,.osl 0 (.int .i64),.box 1 0,.osl 1 qij,.ty (.sl qk),.ty (.int .i64),.ty (.int .i64)]
 hs:=[qhu 2 3,qy4 1 2,.mapc,.rowc .bool]
 es:=[.exit 2]
 σ:=(Sh.den (.osl 1 qij))×(Ty.den (.int .i64))×(Sh.den (qhu 2 3))×(Sh.den (qy4 1 2))×(Sh.den (.mapc))×(Sh.den (.rowc .bool))
 x0:=fun x y=>(x.2.2.2.1,x.2.2.2.2.2.2,y.1,y.2.1,y.2.2.1,y.2.2.2)
 put:=fun x _ s=>((x.1,x.2.1,x.2.2.1,s.1,x.2.2.2.2.1,x.2.2.2.2.2.1,s.2.1),(s.2.2.1,s.2.2.2.1,s.2.2.2.2.1,s.2.2.2.2.2))
 fuel:=fun x _=>List.length x.2.2.2.2.1+1
 turn:=fun x _ s =>
 (.ite (decide (s.2.1<x.2.2.2.2.2.1))
  (.ite (inRange s.2.1 (List.length x.2.2.2.2.1))
  (.ite ((List.getD x.2.2.2.2.1 (Int.toNat s.2.1) (Ty.dflt qk)).1==1)
   (.ite (inRange s.2.1 (List.length x.2.1))
   (.ite (Nat.ble ((List.length s.1+List.length [((List.getD x.2.2.2.2.1 (Int.toNat s.2.1) (Ty.dflt qk)).2.1,List.getD x.2.1 (Int.toNat s.2.1) (Ty.dflt (Ty.int IntKind.i64)),())])*16) 140737488355328)
    (.ret (.on (s.1++[((List.getD x.2.2.2.2.1 (Int.toNat s.2.1) (Ty.dflt qk)).2.1,List.getD x.2.1 (Int.toNat s.2.1) (Ty.dflt (Ty.int IntKind.i64)),())],w64 (s.2.1+1),(s.2.2.1.1,s.2.2.1.2.1,(),s.2.2.1.2.2.2),((),s.2.2.2.1.2),s.2.2.2.2.1,s.2.2.2.2.2)))
    .fail)
   .fail)
   (.ite ((List.getD x.2.2.2.2.1 (Int.toNat s.2.1) (Ty.dflt qk)).1==2)
   (.ite (qeW (s.2.2.1.1,s.2.2.2.2.1,x.2.1,s.2.1))
    (.ite (inRange s.2.1 s.2.2.1.2.2.2.1.2)
    (.ite (qgq ((List.getD x.2.2.2.2.1 (Int.toNat s.2.1) (Ty.dflt qk)).2.2.1.1,0,0,0,0,qbu (s.2.2.1.1,s.2.2.2.2.1,x.2.1,s.2.1),(List.getD x.2.2.2.2.1 (Int.toNat s.2.1) (Ty.dflt qk)).2.2.1.2.2.2.2.2.2.1,List.getD s.2.2.2.2.2 (qbl s.2.2.1.2.2.2.1.1 s.2.1) (Ty.dflt Ty.bool),()))
     (.ite (qfj s.2.2.2.1.2.1 (qcr ((List.getD x.2.2.2.2.1 (Int.toNat s.2.1) (Ty.dflt qk)).2.2.1.1,0,0,0,0,qbu (s.2.2.1.1,s.2.2.2.2.1,x.2.1,s.2.1),(List.getD x.2.2.2.2.1 (Int.toNat s.2.1) (Ty.dflt qk)).2.2.1.2.2.2.2.2.2.1,List.getD s.2.2.2.2.2 (qbl s.2.2.1.2.2.2.1.1 s.2.1) (Ty.dflt Ty.bool),())).1)
     (.ret (.on (s.1,w64 (s.2.1+1),(s.2.2.1.1,s.2.2.1.2.1,(),s.2.2.1.2.2.2),((),qhz s.2.2.2.1.2.1 (qcr ((List.getD x.2.2.2.2.1 (Int.toNat s.2.1) (Ty.dflt qk)).2.2.1.1,0,0,0,0,qbu (s.2.2.1.1,s.2.2.2.2.1,x.2.1,s.2.1),(List.getD x.2.2.2.2.1 (Int.toNat s.2.1) (Ty.dflt qk)).2.2.1.2.2.2.2.2.2.1,List.getD s.2.2.2.2.2 (qbl s.2.2.1.2.2.2.1.1 s.2.1) (Ty.dflt Ty.bool),())).1,()),s.2.2.2.2.1,s.2.2.2.2.2)))
     .fail)
     .fail)
    .fail)
    .fail)
   (.ite (qgq (List.getD x.2.2.2.2.1 (Int.toNat s.2.1) (Ty.dflt qk)).2.2.1)
    (.ite (qfj s.2.2.2.1.2.1 (qcr (List.getD x.2.2.2.2.1 (Int.toNat s.2.1) (Ty.dflt qk)).2.2.1).1)
    (.ret (.on (s.1,w64 (s.2.1+1),(s.2.2.1.1,s.2.2.1.2.1,(),s.2.2.1.2.2.2),((),qhz s.2.2.2.1.2.1 (qcr (List.getD x.2.2.2.2.1 (Int.toNat s.2.1) (Ty.dflt qk)).2.2.1).1,()),s.2.2.2.2.1,s.2.2.2.2.2)))
    .fail)
    .fail)))
  .fail)
  (.ret (.out 0 (s.1,s.2.1,s.2.2.1,s.2.2.2.1,s.2.2.2.2.1,s.2.2.2.2.2))))
abbrev qjk:List Ty:=[(.sl qk),(.int .i64)]
abbrev qlU:Sh:=Sh.tup (Sh.pair (Sh.ty Ty.str) (Sh.pair (Sh.osl 32 qij) (Sh.pair (Sh.ty (Ty.int IntKind.i64)) (Sh.ty Ty.unit))))
def qng (x:qd [(.sl qk),(.int .i64)]):=qdR () ((x.1,x.2,(),(0,qc0 0 (qi x.1)),()),[],zeros (qi x.1) false)
def qee (x:qd [(.sl qk),(.int .i64)]):=qdU () ((x.1,x.2,(),(0,qc0 0 (qi x.1)),()),[],zeros (qi x.1) false)
def qnd (x:qd [(.sl qk),(.int .i64)]):=LoopN.res qhU (x.1,x.2,()) (((qee x).2.1.1,(qee x).2.1.2.1,(),(qee x).2.1.2.2.2),(qee x).2.2)
def qfu (x:qd qjk):PO (Sh.den qlU) :=
 (.ite (qgh (qi x.1) 1)
  (.ite (qng x)
  (.ite ((qee x).1 != 0)
   (.ret (([],[],(qee x).1,())))
   (.opt (qnd x) fun p0 =>
   (.ite (qjH (x.1,x.2,shown p0.2.2.2 p0.2.1.2.2.2.1))
    (.opt (LoopN.res qhb ((),qie (x.1,x.2,shown p0.2.2.2 p0.2.1.2.2.2.1),(),[],x.1,qi x.1,0) ((p0.2.1.1,p0.2.1.2.1,(),p0.2.1.2.2.2),((),[],()),p0.2.2)) fun p1 =>
    (.ret ((p1.2.2.2.2.1.2.1,p1.2.1,0,()))))
    .fail)))
  .fail)
  .fail)
def qgj (x:qd qjk):Bool:=(qfu x).val.isSome
def qcp (x:qd qjk):Sh.den qlU:=(qfu x).qH default
theorem qy5 (x:qd qjk) (h:qgj x=true):(qfu x).val=some (qcp x):=PO.qcg default h
end Go.Av
end
section
namespace Go.Av
open Go
end Go.Av
end
