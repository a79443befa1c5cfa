/- Texts of the proof, one behind the other. -/
import Derived.Test.YtamnhodjidmlcaaGreatMachineRunsK2
import Derived.Test.YtamnhodjidmlcaaGreatMachineRunsK4
import Derived.RangeFuncNested
import Derived.RangeFuncCalls
import Derived.RangeFuncLeaves
import Derived.OwnWalkIn
import Derived.Test.YtamnhodjidmlcaaGreatAvApp
import Derived.Test.YtamnhodjidmlcaaGreatMachineRunsK1
section
namespace Go.Av
open Go
abbrev qcH:Ty:=.pair (.int .i64) (.pair (.int .i64) (.pair qee (.pair (.int .i64) .unit)))
abbrev qbv:Ty:=.pair q9 (.pair (.int .i64) (.pair .bool (.pair .bool .unit)))
abbrev qm6 (m c:Nat):Sh:=.pair (.ty qcH) (.pair (.ty .str) (.pair (.box m 0) (.pair (.ty qC) (.pair (.ty .bool) (.pair (.win c qbv) (.ty .unit))))))
abbrev qt1:Sh:=qm6 1 2
abbrev qSh:List Sh:=[qt1,qfZ 3,.rowc qbv,.rowc (.int .u8)]
abbrev MS:Type:=qk qSh
abbrev MS.mem (y:MS):qew:=(y.2.1,y.2.2.2)
abbrev qpe:List Ty:=[(.int .i64),(.int .i64)]
abbrev qr3:Sh:=Sh.ty (Ty.int IntKind.i64)
def qyQ (x:qc qpe):PO (Sh.den qr3) :=
 (.ite (!decide (qdh x.2<0)&&true)
  (.ret (qhP (x.1,qz IntKind.i64 1 (qdh x.2))))
  .fail)
def qr0 (_:qc qpe):Bool:=true
def qnd (x:qc qpe):Sh.den qr3:=qhP (x.1,qz IntKind.i64 1 (qdh x.2))
theorem qGP (x:qc qpe) (_:qr0 x=true):(qyQ x).val=some (qnd x):=by
 refine(qd ?_).trans rfl
 have:¬qdh x.2<0:=by
  show ¬((kk x.2:Nat):Int)<0
  omega
 simp[this]
abbrev qku:List Ty:=[qB]
abbrev qnr:Sh:=Sh.ty (Ty.int IntKind.i64)
def qiq (x:qc qku):PO (Sh.den qnr) :=
 (.ite (!bif bif x.1==0 then x.1==0 else x.1==1 then decide (x.2.1≥0) else bif x.1==2 then decide (x.2.1≥0)&&(decide (x.2.2.1≥0)&&(decide (x.2.2.1≤14)&&(decide (x.2.2.2.1≥0)&&decide (x.2.2.2.1<32)))) else x.1==3&&(decide (x.2.1≥0)&&(decide (x.2.2.2.1≥0)&&decide (x.2.2.2.1<4))))
  (.ret (2))
  (.ret (0)))
def qql (_:qc qku):Bool:=true
def q6 (x:qc qku):Sh.den qnr:=(qiq x).qP default
theorem qzk (x:qc qku) (_:qql x=true):(qiq x).val=some (q6 x):=PO.qb1 default (by simp[qiq,PO.sure])
def qbW (s:qC.den) (f:qB.den):qC.den :=
 bif f.1==2 then(List.set s.1 (Int.toNat f.2.2.1) (qnd (List.getD s.1 (Int.toNat f.2.2.1) (Ty.dflt (.int .i64)),f.2.2.2.1)),s.2)
 else bif f.1==3 then
  (bif f.2.2.2.1==0 then(s.1,s.2.1,!s.2.2.1,s.2.2.2)
   else bif f.2.2.2.1==1 then(s.1,s.2.1,s.2.2.1,!s.2.2.2.1,s.2.2.2.2)
   else bif f.2.2.2.1==2 then(s.1,s.2.1,s.2.2.1,s.2.2.2.1,!s.2.2.2.2.1,s.2.2.2.2.2)
   else bif f.2.2.2.1==3 then(s.1,s.2.1,s.2.2.1,s.2.2.2.1,s.2.2.2.2.1,!s.2.2.2.2.2.1,s.2.2.2.2.2.2)
   else s)
 else s
abbrev qfz:List Sh:=[.box 0 0,.ty qB]
abbrev qfB:List Sh:=[qt1,qfZ 3,.rowc qbv,.rowc (.int .u8)]
abbrev qiF:Sh:=Sh.tup (Sh.ty Ty.unit)
abbrev qlq:List Sh:=[Sh.pair (Sh.ty (Ty.pair (Ty.int IntKind.i64) (Ty.pair (Ty.int IntKind.i64) (Ty.pair qee (Ty.pair (Ty.int IntKind.i64) Ty.unit))))) (Sh.pair (Sh.ty Ty.str) (Sh.pair (Sh.box 1 0) (Sh.pair (Sh.ty qC) (Sh.pair (Sh.ty Ty.bool) (Sh.pair (Sh.win 2 (Ty.pair q9 (Ty.pair (Ty.int IntKind.i64) (Ty.pair Ty.bool (Ty.pair Ty.bool Ty.unit))))) (Sh.ty Ty.unit)))))),Sh.pair (Sh.ty (Ty.sl qhN)) (Sh.pair (Sh.wsl none 3 (Ty.int IntKind.u8)) (Sh.ty Ty.unit)),Sh.rowc (Ty.pair q9 (Ty.pair (Ty.int IntKind.i64) (Ty.pair Ty.bool (Ty.pair Ty.bool Ty.unit)))),Sh.rowc (Ty.int IntKind.u8)]
def qlQ (x:qk qfz) (y:qk qfB):PO (Sh.den qiF×qk qlq) :=
 (.ite (x.2.1==2)
  (.ite (inRange x.2.2.2.1 15)
  (.ite (qr0 (List.getD y.1.2.2.2.1.1 (Int.toNat x.2.2.2.1) (Ty.dflt (Ty.int IntKind.i64)),x.2.2.2.2.1))
   (.ite (inRange x.2.2.2.1 15)
   (.ret ((),((y.1.1,y.1.2.1,(),(List.set y.1.2.2.2.1.1 (Int.toNat x.2.2.2.1) (qnd (List.getD y.1.2.2.2.1.1 (Int.toNat x.2.2.2.1) (Ty.dflt (Ty.int IntKind.i64)),x.2.2.2.2.1)),y.1.2.2.2.1.2),y.1.2.2.2.2),y.2.1,y.2.2.1,y.2.2.2)))
   .fail)
   .fail)
  .fail)
  (.ite (x.2.1==3)
  (.ite (x.2.2.2.2.1==0)
   (.ret ((),((y.1.1,y.1.2.1,(),(y.1.2.2.2.1.1,y.1.2.2.2.1.2.1,!y.1.2.2.2.1.2.2.1,y.1.2.2.2.1.2.2.2),y.1.2.2.2.2),y.2.1,y.2.2.1,y.2.2.2)))
   (.ite (x.2.2.2.2.1==1)
   (.ret ((),((y.1.1,y.1.2.1,(),(y.1.2.2.2.1.1,y.1.2.2.2.1.2.1,y.1.2.2.2.1.2.2.1,!y.1.2.2.2.1.2.2.2.1,y.1.2.2.2.1.2.2.2.2),y.1.2.2.2.2),y.2.1,y.2.2.1,y.2.2.2)))
   (.ite (x.2.2.2.2.1==2)
    (.ret ((),((y.1.1,y.1.2.1,(),(y.1.2.2.2.1.1,y.1.2.2.2.1.2.1,y.1.2.2.2.1.2.2.1,y.1.2.2.2.1.2.2.2.1,!y.1.2.2.2.1.2.2.2.2.1,y.1.2.2.2.1.2.2.2.2.2),y.1.2.2.2.2),y.2.1,y.2.2.1,y.2.2.2)))
    (.ite (x.2.2.2.2.1==3)
    (.ret ((),((y.1.1,y.1.2.1,(),(y.1.2.2.2.1.1,y.1.2.2.2.1.2.1,y.1.2.2.2.1.2.2.1,y.1.2.2.2.1.2.2.2.1,y.1.2.2.2.1.2.2.2.2.1,!y.1.2.2.2.1.2.2.2.2.2.1,y.1.2.2.2.1.2.2.2.2.2.2),y.1.2.2.2.2),y.2.1,y.2.2.1,y.2.2.2)))
    (.ret ((),((y.1.1,y.1.2.1,(),y.1.2.2.2),y.2.1,y.2.2.1,y.2.2.2)))))))
  (.ret ((),((y.1.1,y.1.2.1,(),y.1.2.2.2),y.2.1,y.2.2.1,y.2.2.2)))))
def qey (x:qk qfz) (_:qk qfB):Bool:=!(x.2.1==(2:Int))||inRange x.2.2.2.1 15
abbrev qiw (x:qk qfz) (y:qk qfB):Sh.den qiF×qk qlq:=((),((y.1.1,y.1.2.1,(),qbW y.1.2.2.2.1 x.2,y.1.2.2.2.2),y.2.1,y.2.2.1,y.2.2.2))
theorem quU (x:qk qfz) (y:qk qfB) (h:qey x y=true):(qlQ x y).val=some (qiw x y):=by
 obtain⟨_,k,p,r,b,_⟩:=x
 unfold qey at h
 simp only[qlQ,qiw,qbW,PO.val]
 simp only at h
 cases h2:(k==(2:Int))
 ·cases h3:(k==(3:Int))
  ·rfl
  ·cases h4:(b==(0:Int))<;>cases h5:(b==(1:Int))<;>cases h6:(b==(2:Int))<;>cases h7:(b==(3:Int))<;>simp only[h4,h5,h6,h7,cond_true,cond_false]
 ·rw[h2] at h
  simp only[Bool.not_true,Bool.false_or] at h
  rw[h]
  rfl
def qeh:LoopN where
 M:=[0,2,3,4]
 T:=[5,6,7,8,14,15,16,17,18,19,20,21,22,23,24,25,26,27,28,29,30,31,32,33,34,35,36,37,38,39,40,41,42,43,44,45,46,47,48,49,50,51,52,53,54,55,56,57,58,59,60,61,62,63,64,65,66,67,68,69,70,71]
 D:=[0,4]
 ss:=[.box 0 0,.box 1 0,.ty (.int .i64),.ty (.int .i64)]
 hs:=[(qm6 2 3),(.ty q9),(qfZ 4),.rowc qbv,.rowc (.int .u8)]
 es:=[.ret,.panic [⟨.iface 139 (.agg #[.int .i64 0]),false,false⟩]]
 σ:=(Ty.den (.int .i64))×(Sh.den ((qm6 2 3)))×(Sh.den ((.ty q9)))×(Sh.den ((qfZ 4)))×(Sh.den (.rowc qbv))×(Sh.den (.rowc (.int .u8)))
 x0:=fun x y=>(x.2.2.1,y.1,y.2.1,y.2.2.1,y.2.2.2.1,y.2.2.2.2)
 put:=fun x _ s=>((x.1,x.2.1,s.1,x.2.2.2),(s.2.1,s.2.2.1,s.2.2.2.1,s.2.2.2.2.1,s.2.2.2.2.2))
 fuel:=fun _ _=>1
 turn:=fun x _ s =>
 (.ite (qbF IntKind.i64 x.2.2.2 1 != 0||decide (x.2.2.2≥qg s.2.1.2.1))
  (.ret (.out 1 (s.1,s.2.1,s.2.2.1,s.2.2.2.1,s.2.2.2.2.1,s.2.2.2.2.2)))
  (.ite (inRange (w64 (Int.tdiv x.2.2.2 2)) s.2.1.2.2.2.2.2.1.2)
  (.ite (!(List.getD s.2.2.2.2.1 (qb8 s.2.1.2.2.2.2.2.1.1 (w64 (Int.tdiv x.2.2.2 2))) (Ty.dflt qbv)).2.2.1)
   (.ite (decide (qg s.2.1.2.1≤qg s.2.1.2.1)&&decide (0≤x.2.2.2)&&decide (x.2.2.2≤qg s.2.1.2.1))
   (.ite (qiu (List.drop (Int.toNat x.2.2.2) (List.take (Int.toNat (qg s.2.1.2.1)) s.2.1.2.1)))
    (.ite ((List.getD (List.set s.2.2.2.2.1 (qb8 s.2.1.2.2.2.2.2.1.1 (w64 (Int.tdiv x.2.2.2 2))) ((qE (List.drop (Int.toNat x.2.2.2) (List.take (Int.toNat (qg s.2.1.2.1)) s.2.1.2.1))).1,(qE (List.drop (Int.toNat x.2.2.2) (List.take (Int.toNat (qg s.2.1.2.1)) s.2.1.2.1))).2.1,true,(qE (List.drop (Int.toNat x.2.2.2) (List.take (Int.toNat (qg s.2.1.2.1)) s.2.1.2.1))).2.2.1 != 0,())) (qb8 s.2.1.2.2.2.2.2.1.1 (w64 (Int.tdiv x.2.2.2 2))) (Ty.dflt qbv)).2.2.2.1)
    (.ret (.out 1 (s.1,s.2.1,s.2.2.1,s.2.2.2.1,List.set s.2.2.2.2.1 (qb8 s.2.1.2.2.2.2.2.1.1 (w64 (Int.tdiv x.2.2.2 2))) ((qE (List.drop (Int.toNat x.2.2.2) (List.take (Int.toNat (qg s.2.1.2.1)) s.2.1.2.1))).1,(qE (List.drop (Int.toNat x.2.2.2) (List.take (Int.toNat (qg s.2.1.2.1)) s.2.1.2.1))).2.1,true,(qE (List.drop (Int.toNat x.2.2.2) (List.take (Int.toNat (qg s.2.1.2.1)) s.2.1.2.1))).2.2.1 != 0,()),s.2.2.2.2.2)))
    (.ret (.out 0 ((List.getD (List.set s.2.2.2.2.1 (qb8 s.2.1.2.2.2.2.2.1.1 (w64 (Int.tdiv x.2.2.2 2))) ((qE (List.drop (Int.toNat x.2.2.2) (List.take (Int.toNat (qg s.2.1.2.1)) s.2.1.2.1))).1,(qE (List.drop (Int.toNat x.2.2.2) (List.take (Int.toNat (qg s.2.1.2.1)) s.2.1.2.1))).2.1,true,(qE (List.drop (Int.toNat x.2.2.2) (List.take (Int.toNat (qg s.2.1.2.1)) s.2.1.2.1))).2.2.1 != 0,())) (qb8 s.2.1.2.2.2.2.2.1.1 (w64 (Int.tdiv x.2.2.2 2))) (Ty.dflt qbv)).2.1,s.2.1,(List.getD (List.set s.2.2.2.2.1 (qb8 s.2.1.2.2.2.2.2.1.1 (w64 (Int.tdiv x.2.2.2 2))) ((qE (List.drop (Int.toNat x.2.2.2) (List.take (Int.toNat (qg s.2.1.2.1)) s.2.1.2.1))).1,(qE (List.drop (Int.toNat x.2.2.2) (List.take (Int.toNat (qg s.2.1.2.1)) s.2.1.2.1))).2.1,true,(qE (List.drop (Int.toNat x.2.2.2) (List.take (Int.toNat (qg s.2.1.2.1)) s.2.1.2.1))).2.2.1 != 0,())) (qb8 s.2.1.2.2.2.2.2.1.1 (w64 (Int.tdiv x.2.2.2 2))) (Ty.dflt qbv)).1,s.2.2.2.1,List.set s.2.2.2.2.1 (qb8 s.2.1.2.2.2.2.2.1.1 (w64 (Int.tdiv x.2.2.2 2))) ((qE (List.drop (Int.toNat x.2.2.2) (List.take (Int.toNat (qg s.2.1.2.1)) s.2.1.2.1))).1,(qE (List.drop (Int.toNat x.2.2.2) (List.take (Int.toNat (qg s.2.1.2.1)) s.2.1.2.1))).2.1,true,(qE (List.drop (Int.toNat x.2.2.2) (List.take (Int.toNat (qg s.2.1.2.1)) s.2.1.2.1))).2.2.1 != 0,()),s.2.2.2.2.2))))
    .fail)
   .fail)
   (.ite ((List.getD s.2.2.2.2.1 (qb8 s.2.1.2.2.2.2.2.1.1 (w64 (Int.tdiv x.2.2.2 2))) (Ty.dflt qbv)).2.2.2.1)
   (.ret (.out 1 (s.1,s.2.1,s.2.2.1,s.2.2.2.1,s.2.2.2.2.1,s.2.2.2.2.2)))
   (.ret (.out 0 ((List.getD s.2.2.2.2.1 (qb8 s.2.1.2.2.2.2.2.1.1 (w64 (Int.tdiv x.2.2.2 2))) (Ty.dflt qbv)).2.1,s.2.1,(List.getD s.2.2.2.2.1 (qb8 s.2.1.2.2.2.2.2.1.1 (w64 (Int.tdiv x.2.2.2 2))) (Ty.dflt qbv)).1,s.2.2.2.1,s.2.2.2.2.1,s.2.2.2.2.2)))))
  .fail))
abbrev qfe:List Sh:=[.box 0 0]
abbrev qfb:List Sh:=[qt1,qfZ 3,.rowc qbv,.rowc (.int .u8)]
abbrev qhQ:Sh:=Sh.ty Ty.bool
abbrev qkk:List Sh:=[Sh.pair (Sh.ty (Ty.pair (Ty.int IntKind.i64) (Ty.pair (Ty.int IntKind.i64) (Ty.pair qee (Ty.pair (Ty.int IntKind.i64) Ty.unit))))) (Sh.pair (Sh.ty Ty.str) (Sh.pair (Sh.box 1 0) (Sh.pair (Sh.ty qC) (Sh.pair (Sh.ty Ty.bool) (Sh.pair (Sh.win 2 (Ty.pair q9 (Ty.pair (Ty.int IntKind.i64) (Ty.pair Ty.bool (Ty.pair Ty.bool Ty.unit))))) (Sh.ty Ty.unit)))))),Sh.pair (Sh.ty (Ty.sl qhN)) (Sh.pair (Sh.wsl none 3 (Ty.int IntKind.u8)) (Sh.ty Ty.unit)),Sh.rowc (Ty.pair q9 (Ty.pair (Ty.int IntKind.i64) (Ty.pair Ty.bool (Ty.pair Ty.bool Ty.unit)))),Sh.rowc (Ty.int IntKind.u8)]
def qo5 (_:qk qfe) (y:qk qfb):PO (Sh.den qhQ×qk qkk) :=
 (.ret (y.1.2.2.2.2.1,((y.1.1,y.1.2.1,(),y.1.2.2.2),y.2.1,y.2.2.1,y.2.2.2)))
def qlp (_:qk qfe) (_:qk qfb):Bool:=true
abbrev qlo (_:qk qfe) (y:qk qfb):Sh.den qhQ×qk qkk:=(y.1.2.2.2.2.1,y)
theorem qub (x:qk qfe) (y:qk qfb) (_:qlp x y=true):(qo5 x y).val=some (qlo x y):=rfl
def qmy (k:Int) (y:qew):List UInt8×Int×Unit:=qtu y k
def qtO (a:Int) (y:qew):Int:=(qmk y a 4).1
abbrev qeu:List Sh:=[.box 0 0,.ty (.int .i64)]
abbrev qet:List Sh:=[qt1,qfZ 3,.rowc qbv,.rowc (.int .u8)]
abbrev qgs:Sh:=Sh.ty (Ty.int IntKind.i64)
abbrev qi5:List Sh:=[Sh.pair (Sh.ty (Ty.pair (Ty.int IntKind.i64) (Ty.pair (Ty.int IntKind.i64) (Ty.pair qee (Ty.pair (Ty.int IntKind.i64) Ty.unit))))) (Sh.pair (Sh.ty Ty.str) (Sh.pair (Sh.box 1 0) (Sh.pair (Sh.ty qC) (Sh.pair (Sh.ty Ty.bool) (Sh.pair (Sh.win 2 (Ty.pair q9 (Ty.pair (Ty.int IntKind.i64) (Ty.pair Ty.bool (Ty.pair Ty.bool Ty.unit))))) (Sh.ty Ty.unit)))))),Sh.pair (Sh.ty (Ty.sl qhN)) (Sh.pair (Sh.wsl none 3 (Ty.int IntKind.u8)) (Sh.ty Ty.unit)),Sh.rowc (Ty.pair q9 (Ty.pair (Ty.int IntKind.i64) (Ty.pair Ty.bool (Ty.pair Ty.bool Ty.unit)))),Sh.rowc (Ty.int IntKind.u8)]
def qnV (x:qk qeu) (y:qk qet):PO (Sh.den qgs×qk qi5) :=
 (.ite (qdv ((),x.2,4) (y.2.1,y.2.2.2))
  (.ret ((qF ((),x.2,4) (y.2.1,y.2.2.2)).1.1,((y.1.1,y.1.2.1,(),y.1.2.2.2),(qF ((),x.2,4) (y.2.1,y.2.2.2)).2.1,y.2.2.1,(qF ((),x.2,4) (y.2.1,y.2.2.2)).2.2)))
  .fail)
def qeG (x:qk qeu) (y:qk qet):Bool:=decide (MemWf (y.2.1,y.2.2.2)∧(show Int from x.2)<9223372036854775808)
abbrev qjQ (x:qk qeu) (y:qk qet):Sh.den qgs×qk qi5:=(qtO x.2 (y.2.1,y.2.2.2),y)
theorem qtq (x:qk qeu) (y:qk qet) (h:qeG x y=true):(qnV x y).val=some (qjQ x y):=(qd h).trans rfl
abbrev qeK:List Sh:=[.box 0 0,.ty (.int .i64)]
abbrev qeR:List Sh:=[qt1,qfZ 3,.rowc qbv,.rowc (.int .u8)]
abbrev qg9:Sh:=Sh.ty Ty.str
abbrev qjK:List Sh:=[Sh.pair (Sh.ty (Ty.pair (Ty.int IntKind.i64) (Ty.pair (Ty.int IntKind.i64) (Ty.pair qee (Ty.pair (Ty.int IntKind.i64) Ty.unit))))) (Sh.pair (Sh.ty Ty.str) (Sh.pair (Sh.box 1 0) (Sh.pair (Sh.ty qC) (Sh.pair (Sh.ty Ty.bool) (Sh.pair (Sh.win 2 (Ty.pair q9 (Ty.pair (Ty.int IntKind.i64) (Ty.pair Ty.bool (Ty.pair Ty.bool Ty.unit))))) (Sh.ty Ty.unit)))))),Sh.pair (Sh.ty (Ty.sl qhN)) (Sh.pair (Sh.wsl none 3 (Ty.int IntKind.u8)) (Sh.ty Ty.unit)),Sh.rowc (Ty.pair q9 (Ty.pair (Ty.int IntKind.i64) (Ty.pair Ty.bool (Ty.pair Ty.bool Ty.unit)))),Sh.rowc (Ty.int IntKind.u8)]
def qoX (x:qk qeK) (y:qk qeR):PO (Sh.den qg9×qk qjK) :=
 (.ret ((qek ((),x.2) (y.2.1,y.2.2.2)).1.1,((y.1.1,y.1.2.1,(),y.1.2.2.2),(qek ((),x.2) (y.2.1,y.2.2.2)).2.1,y.2.2.1,(qek ((),x.2) (y.2.1,y.2.2.2)).2.2)))
def qkm (_:qk qeK) (_:qk qeR):Bool:=true
abbrev qki (x:qk qeK) (y:qk qeR):Sh.den qg9×qk qjK:=((qmy x.2 (y.2.1,y.2.2.2)).1,y)
theorem qtM (x:qk qeK) (y:qk qeR) (_:qkm x y=true):(qoX x y).val=some (qki x y):=rfl
def qo9 (fl:List UInt8) (pc:Int):Option (q9.den×Int) :=
 bif qbF .i64 pc 1 != 0||decide (pc≥qg fl) then none
 else bif (qjv (fl.drop pc.toNat)).2.2.1 != 0 then none
 else some ((qjv (fl.drop pc.toNat)).1,(qjv (fl.drop pc.toNat)).2.1)
def qF6 (fl:List UInt8) (k:Nat):qbv.den:=((qjv (fl.drop (2*k))).1,(qjv (fl.drop (2*k))).2.1,true,(qjv (fl.drop (2*k))).2.2.1 != 0,())
abbrev dfF:qbv.den:=Ty.dflt qbv
def qch (fl:List UInt8) (pc:Int) (c:List qbv.den):List qbv.den :=
 bif qbF .i64 pc 1 != 0||decide (pc≥qg fl) then c
 else bif (List.getD c (pc / 2).toNat dfF).2.2.1 then c
 else List.set c (pc / 2).toNat (qF6 fl (pc / 2).toNat)
instance decIns4:DecidableEq (Int×Int×Int×Bool×Unit):=inferInstance
instance decIns:DecidableEq q9.den:=inferInstanceAs (DecidableEq (Int×Int×Int×Int×(Int×Int×Int×Bool×Unit)))
instance decFet:DecidableEq qbv.den:=inferInstanceAs (DecidableEq (q9.den×(Int×Bool×Bool×Unit)))
def qrN (fl:List UInt8) (c:List qbv.den):Prop:=c.length=fl.length / 2+1∧∀k,k<c.length→(List.getD c k dfF).2.2.1=true→List.getD c k dfF=qF6 fl k
instance (fl:List UInt8) (c:List qbv.den):Decidable (qrN fl c):=by
 unfold qrN
 infer_instance
structure MachWf (y:MS):Prop where
 mem:MemWf y.mem
 regs:List.length y.1.2.2.2.1.1=15
 pc:0≤(show Int from y.1.2.2.2.1.2.1)∧(show Int from y.1.2.2.2.1.2.1)<4294967296
 hand:0≤(show Int from y.1.1.2.1)∧(show Int from y.1.1.2.1)<4294967296
 len:List.length y.1.2.1≤262144
 win:y.1.2.2.2.2.2.1=(0,List.length y.1.2.1 / 2+1)
 cache:qrN y.1.2.1 y.2.2.1
instance (y:MS):Decidable (MachWf y) :=
 if h:MemWf y.mem∧List.length y.1.2.2.2.1.1=15∧(0≤(show Int from y.1.2.2.2.1.2.1)∧(show Int from y.1.2.2.2.1.2.1)<4294967296)∧(0≤(show Int from y.1.1.2.1)∧(show Int from y.1.1.2.1)<4294967296)∧List.length y.1.2.1≤262144∧(y.1.2.2.2.2.2.1:Nat×Nat)=(0,List.length y.1.2.1 / 2+1)∧qrN y.1.2.1 y.2.2.1
 then isTrue ⟨h.1,h.2.1,h.2.2.1,h.2.2.2.1,h.2.2.2.2.1,h.2.2.2.2.2.1,h.2.2.2.2.2.2⟩ else isFalse fun h'=>h ⟨h'.mem,h'.regs,h'.pc,h'.hand,h'.len,h'.win,h'.cache⟩
theorem qM3 (fl:List UInt8) (c:List qbv.den) (hd:qcH.den) (st:qC.den) (dn:Bool) (i0:q9.den) (t:Int) (M:(qfZ 3).den) (B:List Int)
  (hp:0≤(show Int from st.2.1)∧(show Int from st.2.1)<4294967296) (hc:qrN fl c) :
  LoopN.res qeh ((),(),t,st.2.1) ((hd,fl,(),st,dn,(0,fl.length / 2+1),()),i0,M,c,B)=some (match qo9 fl st.2.1 with
   |none=>(1,t,(hd,fl,(),st,dn,(0,fl.length / 2+1),()),i0,M,qch fl st.2.1 c,B)
   |some p=>(0,p.2,(hd,fl,(),st,dn,(0,fl.length / 2+1),()),p.1,M,qch fl st.2.1 c,B)):=by
 obtain⟨hc1,hc2⟩:=hc
 obtain⟨rg,pc,fgs⟩:=st
 simp only at hp ⊢
 have hp:0≤pc∧pc<4294967296:=hp
 have hb:qbF .i64 pc 1=pc % 2:=qwu pc
 unfold LoopN.res
 show qcE _ 1 _=_
 unfold qo9 qch
 cases ho:(qbF .i64 pc 1 != 0||decide (pc≥qg fl)) with
 |true=>exact(qbk ((qd ho).trans rfl)).trans (by rfl)
 |false =>
  simp only[cond_false]
  simp only[Bool.or_eq_false_iff,bne_eq_false_iff_eq,decide_eq_false_iff_not] at ho
  obtain⟨ho1,ho2⟩:=ho
  have hlt:pc<(fl.length:Int):=by simpa [qg] using ho2
  rw[hb] at ho1
  obtain⟨m,rfl⟩:=Int.eq_ofNat_of_zero_le hp.1
  have hm:m % 2=0:=by omega
  obtain⟨k,rfl⟩:∃k,m=2*k:=⟨m / 2,by omega⟩
  have hlt':((2*k:Nat):Int)<((fl.length:Nat):Int):=hlt
  have hk:k<c.length:=by omega
  have e1:Int.tdiv ((2*k:Nat):Int) 2=(k:Int):=by
   rw[Int.tdiv_eq_ediv_of_nonneg (by omega)]
   omega
  have e2:w64 ((k:Nat):Int)=(k:Int):=qt (by omega) (by omega)
  have e3:(((2*k:Nat):Int) / 2).toNat=k:=by omega
  have e4:List.take (Int.toNat (qg fl)) fl=fl:=by simp[qg]
  have e5:Int.toNat ((2*k:Nat):Int)=2*k:=by omega
  have e6:qb8 0 (k:Int)=k:=by simp[qb8]
  have hno:(qbF .i64 ((2*k:Nat):Int) 1 != 0||decide (((2*k:Nat):Int)≥qg fl))=false:=by
   rw[hb]
   simp only[Bool.or_eq_false_iff,bne_eq_false_iff_eq,decide_eq_false_iff_not]
   exact⟨ho1,by simpa [qg] using hlt⟩
  have hin:inRange (w64 (Int.tdiv ((2*k:Nat):Int) 2)) (fl.length / 2+1)=true:=by
   rw[e1,e2]
   exact inR (by omega)
  rw[e3,e5]
  cases hk1:(List.getD c k dfF).2.2.1 with
  |true =>
   have he:=hc2 k hk hk1
   simp only[cond_true]
   cases he2:((qjv (fl.drop (2*k))).2.2.1 != 0) with
   |true =>
    refine(qbk ((qu hno).trans ((qd hin).trans ((qu ?_).trans ((qd ?_).trans rfl))))).trans (by rfl)
    ·show(!(List.getD c (qb8 0 (w64 (Int.tdiv ((2*k:Nat):Int) 2))) dfF).2.2.1)=false
     rw[e1,e2,e6,hk1];rfl
    ·show(List.getD c (qb8 0 (w64 (Int.tdiv ((2*k:Nat):Int) 2))) dfF).2.2.2.1=true
     rw[e1,e2,e6,he];exact he2
   |false =>
    refine(qbk ((qu hno).trans ((qd hin).trans ((qu ?_).trans ((qu ?_).trans rfl))))).trans ?_
    ·show(!(List.getD c (qb8 0 (w64 (Int.tdiv ((2*k:Nat):Int) 2))) dfF).2.2.1)=false
     rw[e1,e2,e6,hk1];rfl
    ·show(List.getD c (qb8 0 (w64 (Int.tdiv ((2*k:Nat):Int) 2))) dfF).2.2.2.1=false
     rw[e1,e2,e6,he];exact he2
    ·show some (0,(List.getD c (qb8 0 (w64 (Int.tdiv ((2*k:Nat):Int) 2))) dfF).2.1,_,(List.getD c (qb8 0 (w64 (Int.tdiv ((2*k:Nat):Int) 2))) dfF).1,_)=_
     rw[e1,e2,e6,he]
     rfl
  |false =>
   simp only[cond_false]
   have hle:(decide (qg fl≤qg fl)&&decide (0≤((2*k:Nat):Int))&&decide (((2*k:Nat):Int)≤qg fl))=true:=by
    simp only[Bool.and_eq_true,decide_eq_true_eq]
    exact⟨⟨Int.le_refl _,by omega⟩,by simp only[qg];omega⟩
   have hset:List.getD (List.set c k (qF6 fl k)) k dfF=qF6 fl k:=by
    simp[List.getD_eq_getElem?_getD,hk]
   have hent:∀s:List UInt8,s=fl.drop (2*k)→((qE s).1,(qE s).2.1,true,(qE s).2.2.1 != 0,())=qF6 fl k:=fun s hs=>by subst hs;rw[qN3];rfl
   have hs:List.drop (Int.toNat ((2*k:Nat):Int)) (List.take (Int.toNat (qg fl)) fl)=fl.drop (2*k):=by rw[e4,e5]
   cases he2:((qjv (fl.drop (2*k))).2.2.1 != 0) with
   |true =>
    refine(qbk ((qu hno).trans ((qd hin).trans ((qd ?_).trans ((qd hle).trans ((qd (qF0 _)).trans ((qd ?_).trans rfl))))))).trans ?_
    ·show(!(List.getD c (qb8 0 (w64 (Int.tdiv ((2*k:Nat):Int) 2))) dfF).2.2.1)=true
     rw[e1,e2,e6,hk1];rfl
    ·show(List.getD (List.set c (qb8 0 (w64 (Int.tdiv ((2*k:Nat):Int) 2))) ((qE (List.drop (Int.toNat ((2*k:Nat):Int)) (List.take (Int.toNat (qg fl)) fl))).1,(qE (List.drop (Int.toNat ((2*k:Nat):Int)) (List.take (Int.toNat (qg fl)) fl))).2.1,true,(qE (List.drop (Int.toNat ((2*k:Nat):Int)) (List.take (Int.toNat (qg fl)) fl))).2.2.1 != 0,())) (qb8 0 (w64 (Int.tdiv ((2*k:Nat):Int) 2))) dfF).2.2.2.1=true
     rw[e1,e2,e6,hent _ hs,hset]
     exact he2
    ·show some (1,t,(hd,fl,(),(rg,((2*k:Nat):Int),fgs),dn,(0,fl.length / 2+1),()),i0,M,List.set c (qb8 0 (w64 (Int.tdiv ((2*k:Nat):Int) 2))) ((qE (List.drop (Int.toNat ((2*k:Nat):Int)) (List.take (Int.toNat (qg fl)) fl))).1,(qE (List.drop (Int.toNat ((2*k:Nat):Int)) (List.take (Int.toNat (qg fl)) fl))).2.1,true,(qE (List.drop (Int.toNat ((2*k:Nat):Int)) (List.take (Int.toNat (qg fl)) fl))).2.2.1 != 0,()),B)=_
     rw[e1,e2,e6,hent _ hs]
     rfl
   |false =>
    refine(qbk ((qu hno).trans ((qd hin).trans ((qd ?_).trans ((qd hle).trans ((qd (qF0 _)).trans ((qu ?_).trans rfl))))))).trans ?_
    ·show(!(List.getD c (qb8 0 (w64 (Int.tdiv ((2*k:Nat):Int) 2))) dfF).2.2.1)=true
     rw[e1,e2,e6,hk1];rfl
    ·show(List.getD (List.set c (qb8 0 (w64 (Int.tdiv ((2*k:Nat):Int) 2))) ((qE (List.drop (Int.toNat ((2*k:Nat):Int)) (List.take (Int.toNat (qg fl)) fl))).1,(qE (List.drop (Int.toNat ((2*k:Nat):Int)) (List.take (Int.toNat (qg fl)) fl))).2.1,true,(qE (List.drop (Int.toNat ((2*k:Nat):Int)) (List.take (Int.toNat (qg fl)) fl))).2.2.1 != 0,())) (qb8 0 (w64 (Int.tdiv ((2*k:Nat):Int) 2))) dfF).2.2.2.1=false
     rw[e1,e2,e6,hent _ hs,hset]
     exact he2
    ·show some (0,(List.getD (List.set c (qb8 0 (w64 (Int.tdiv ((2*k:Nat):Int) 2))) ((qE (List.drop (Int.toNat ((2*k:Nat):Int)) (List.take (Int.toNat (qg fl)) fl))).1,(qE (List.drop (Int.toNat ((2*k:Nat):Int)) (List.take (Int.toNat (qg fl)) fl))).2.1,true,(qE (List.drop (Int.toNat ((2*k:Nat):Int)) (List.take (Int.toNat (qg fl)) fl))).2.2.1 != 0,())) (qb8 0 (w64 (Int.tdiv ((2*k:Nat):Int) 2))) dfF).2.1,(hd,fl,(),(rg,((2*k:Nat):Int),fgs),dn,(0,fl.length / 2+1),()),(List.getD (List.set c (qb8 0 (w64 (Int.tdiv ((2*k:Nat):Int) 2))) ((qE (List.drop (Int.toNat ((2*k:Nat):Int)) (List.take (Int.toNat (qg fl)) fl))).1,(qE (List.drop (Int.toNat ((2*k:Nat):Int)) (List.take (Int.toNat (qg fl)) fl))).2.1,true,(qE (List.drop (Int.toNat ((2*k:Nat):Int)) (List.take (Int.toNat (qg fl)) fl))).2.2.1 != 0,())) (qb8 0 (w64 (Int.tdiv ((2*k:Nat):Int) 2))) dfF).1,M,List.set c (qb8 0 (w64 (Int.tdiv ((2*k:Nat):Int) 2))) ((qE (List.drop (Int.toNat ((2*k:Nat):Int)) (List.take (Int.toNat (qg fl)) fl))).1,(qE (List.drop (Int.toNat ((2*k:Nat):Int)) (List.take (Int.toNat (qg fl)) fl))).2.1,true,(qE (List.drop (Int.toNat ((2*k:Nat):Int)) (List.take (Int.toNat (qg fl)) fl))).2.2.1 != 0,()),B)=_
     rw[e1,e2,e6,hent _ hs,hset]
     rfl
abbrev qyt:Type:=qcK.den×qC.den×Bool×qew
def quI (st:qC.den) (i:q9.den) (mem:qew) (ld addr:Int):qyt:=((0,st.2.1,addr,qc7 (st,i),()),(qbT (st,i,ld)).1,!(qbT (st,i,ld)).2.1,mem)
def qrX (hd:qcH.den) (st:qC.den) (mem:qew) (addr:Int):qyt:=((2,st.2.1,addr,12,()),(st.1,hd.2.1,st.2.2),false,mem)
def qo0 (hd:qcH.den) (st:qC.den) (i:q9.den) (mem:qew):qyt :=
 bif (qe (st,i)).2.1 then
  (bif (qe (st,i)).1.2.2.2.1 then
   (bif (qfA mem (qe (st,i)).1.1 (qe (st,i)).1.2.1 (qe (st,i)).1.2.2.1).1 != 0 then qrX hd st (qfA mem (qe (st,i)).1.1 (qe (st,i)).1.2.1 (qe (st,i)).1.2.2.1).2 (qe (st,i)).1.1
    else quI st i (qfA mem (qe (st,i)).1.1 (qe (st,i)).1.2.1 (qe (st,i)).1.2.2.1).2 0 (qe (st,i)).1.1)
   else bif (qmk mem (qe (st,i)).1.1 (qe (st,i)).1.2.1).2.1 != 0 then qrX hd st mem (qe (st,i)).1.1
    else quI st i mem (qmk mem (qe (st,i)).1.1 (qe (st,i)).1.2.1).1 (qe (st,i)).1.1)
 else quI st i mem 0 0
def qtc (hd:qcH.den) (fl:List UInt8) (st:qC.den) (mem:qew) (skip:Bool):qyt :=
 match qo9 fl st.2.1 with
 |none=>qrX hd st mem 0
 |some p=>bif skip then((1,st.2.1,0,1,()),(st.1,qju (st.2.1,p.2),st.2.2),false,mem) else qo0 hd st p.1 mem
def qtA (f:qB.den):qB.den:=bif q6 f != 0 then(0,0,0,0,()) else f
def qbP (hd:qcH.den) (fl:List UInt8) (st:qC.den) (mem:qew) (f:qB.den):qyt:=qtc hd fl (qbW st (qtA f)) mem ((qtA f).1==(1:Int))
theorem qzo (s:qC.den) (f:qB.den) (h:List.length s.1=15):List.length (qbW s f).1=15:=by
 unfold qbW
 cases f.1==(2:Int)
 ·cases f.1==(3:Int)
  ·exact h
  ·cases f.2.2.2.1==(0:Int)<;>cases f.2.2.2.1==(1:Int)<;>cases f.2.2.2.1==(2:Int)<;>cases f.2.2.2.1==(3:Int)<;>exact h
 ·simp only[cond_true,List.length_set]
  exact h
theorem qyk (s:qC.den) (f:qB.den):(qbW s f).2.1=s.2.1:=by
 unfold qbW
 cases f.1==(2:Int)
 ·cases f.1==(3:Int)
  ·rfl
  ·cases f.2.2.2.1==(0:Int)<;>cases f.2.2.2.1==(1:Int)<;>cases f.2.2.2.1==(2:Int)<;>cases f.2.2.2.1==(3:Int)<;>rfl
 ·rfl
abbrev qeF (hd:qcH.den) (fl:List UInt8) (win:Nat×Nat) (c:List qbv.den) (r:qyt):(qcK.den×Bool×Unit)×MS:=((r.1,true,()),((hd,fl,(),r.2.1,r.2.2.1,win,()),r.2.2.2.1,c,r.2.2.2.2))
def qRt (hd:qcH.den) (fl:List UInt8) (dn:Bool) (win:Nat×Nat) (st:qC.den) (i:q9.den) (M:(qfZ 3).den) (c:List qbv.den) (B:List Int):PO ((qcK.den×Bool×Unit)×MS) :=
 .ite (qfy (st,i))
  (.ite (qe (st,i)).2.1
   (.ite (qe (st,i)).1.2.2.2.1
    (.ite (qdM ((),(qe (st,i)).1.1,(qe (st,i)).1.2.1,(qe (st,i)).1.2.2.1) (M,B))
     (.ite ((qbf ((),(qe (st,i)).1.1,(qe (st,i)).1.2.1,(qe (st,i)).1.2.2.1) (M,B)).1 != 0)
      (.ret (((2,st.2.1,(qe (st,i)).1.1,12,()),true,()),((hd,fl,(),(st.1,hd.2.1,st.2.2),dn,win,()),(qbf ((),(qe (st,i)).1.1,(qe (st,i)).1.2.1,(qe (st,i)).1.2.2.1) (M,B)).2.1,c,(qbf ((),(qe (st,i)).1.1,(qe (st,i)).1.2.1,(qe (st,i)).1.2.2.1) (M,B)).2.2)))
      (.ite (qdS (st,i)) (.ite (qe8 (st,i,0))
       (.ret (((0,st.2.1,(qe (st,i)).1.1,qc7 (st,i),()),true,()),((hd,fl,(),(qbT (st,i,0)).1,!(qbT (st,i,0)).2.1,win,()),(qbf ((),(qe (st,i)).1.1,(qe (st,i)).1.2.1,(qe (st,i)).1.2.2.1) (M,B)).2.1,c,(qbf ((),(qe (st,i)).1.1,(qe (st,i)).1.2.1,(qe (st,i)).1.2.2.1) (M,B)).2.2))) .fail) .fail))
     .fail)
    (.ite (qdv ((),(qe (st,i)).1.1,(qe (st,i)).1.2.1) (M,B))
     (.ite ((qF ((),(qe (st,i)).1.1,(qe (st,i)).1.2.1) (M,B)).1.2.1 != 0)
      (.ret (((2,st.2.1,(qe (st,i)).1.1,12,()),true,()),((hd,fl,(),(st.1,hd.2.1,st.2.2),dn,win,()),(qF ((),(qe (st,i)).1.1,(qe (st,i)).1.2.1) (M,B)).2.1,c,(qF ((),(qe (st,i)).1.1,(qe (st,i)).1.2.1) (M,B)).2.2)))
      (.ite (qdS (st,i)) (.ite (qe8 (st,i,(qF ((),(qe (st,i)).1.1,(qe (st,i)).1.2.1) (M,B)).1.1))
       (.ret (((0,st.2.1,(qe (st,i)).1.1,qc7 (st,i),()),true,()),((hd,fl,(),(qbT (st,i,(qF ((),(qe (st,i)).1.1,(qe (st,i)).1.2.1) (M,B)).1.1)).1,!(qbT (st,i,(qF ((),(qe (st,i)).1.1,(qe (st,i)).1.2.1) (M,B)).1.1)).2.1,win,()),(qF ((),(qe (st,i)).1.1,(qe (st,i)).1.2.1) (M,B)).2.1,c,(qF ((),(qe (st,i)).1.1,(qe (st,i)).1.2.1) (M,B)).2.2))) .fail) .fail))
     .fail))
   (.ite (qdS (st,i)) (.ite (qe8 (st,i,0))
    (.ret (((0,st.2.1,0,qc7 (st,i),()),true,()),((hd,fl,(),(qbT (st,i,0)).1,!(qbT (st,i,0)).2.1,win,()),M,c,B))) .fail) .fail))
  .fail
theorem qSn (hd:qcH.den) (fl:List UInt8) (win:Nat×Nat) (st:qC.den) (i:q9.den) (M:(qfZ 3).den) (c:List qbv.den) (B:List Int) (hr:List.length st.1=15) (hm:MemWf (M,B)) :
  (qRt hd fl false win st i M c B).val=some (qeF hd fl win c (qo0 hd st i (M,B))):=by
 have g1:qfy (st,i)=true:=decide_eq_true hr
 have g2:qdS (st,i)=true:=decide_eq_true hr
 have g3:∀ld,qe8 (st,i,ld)=true:=fun ld=>decide_eq_true hr
 have ha:=qIC st i
 have g4:∀n v,qdM ((),(qe (st,i)).1.1,n,v) (M,B)=true:=fun n v=>decide_eq_true ⟨hm,ha⟩
 have g5:∀n,qdv ((),(qe (st,i)).1.1,n) (M,B)=true:=fun n=>decide_eq_true ⟨hm,ha⟩
 unfold qRt qo0
 refine(qd g1).trans ?_
 cases h1:(qe (st,i)).2.1
 ·exact(qu rfl).trans ((qd g2).trans ((qd (g3 _)).trans rfl))
 ·refine(qd rfl).trans ?_
  simp only[cond_true]
  cases h2:(qe (st,i)).1.2.2.2.1
  ·refine(qu rfl).trans ((qd (g5 _)).trans ?_)
   simp only[cond_false]
   cases h3:((qmk (M,B) (qe (st,i)).1.1 (qe (st,i)).1.2.1).2.1 != (0:Int))
   ·exact(qu h3).trans ((qd g2).trans ((qd (g3 _)).trans rfl))
   ·exact(qd h3).trans rfl
  ·refine(qd rfl).trans ((qd (g4 _ _)).trans ?_)
   simp only[cond_true]
   cases h3:((qfA (M,B) (qe (st,i)).1.1 (qe (st,i)).1.2.1 (qe (st,i)).1.2.2.1).1 != (0:Int))
   ·exact(qu h3).trans ((qd g2).trans ((qd (g3 _)).trans rfl))
   ·exact(qd h3).trans rfl
abbrev qe9:List Sh:=[.box 0 0,.ty qB]
abbrev qfa:List Sh:=[qt1,qfZ 3,.rowc qbv,.rowc (.int .u8)]
abbrev qhT:Sh:=Sh.tup (Sh.pair (Sh.ty qB) (Sh.pair (Sh.ty Ty.bool) (Sh.ty Ty.unit)))
abbrev qkg:List Sh:=[Sh.pair (Sh.ty (Ty.pair (Ty.int IntKind.i64) (Ty.pair (Ty.int IntKind.i64) (Ty.pair qee (Ty.pair (Ty.int IntKind.i64) Ty.unit))))) (Sh.pair (Sh.ty Ty.str) (Sh.pair (Sh.box 1 0) (Sh.pair (Sh.ty qC) (Sh.pair (Sh.ty Ty.bool) (Sh.pair (Sh.win 2 (Ty.pair q9 (Ty.pair (Ty.int IntKind.i64) (Ty.pair Ty.bool (Ty.pair Ty.bool Ty.unit))))) (Sh.ty Ty.unit)))))),Sh.pair (Sh.ty (Ty.sl qhN)) (Sh.pair (Sh.wsl none 3 (Ty.int IntKind.u8)) (Sh.ty Ty.unit)),Sh.rowc (Ty.pair q9 (Ty.pair (Ty.int IntKind.i64) (Ty.pair Ty.bool (Ty.pair Ty.bool Ty.unit)))),Sh.rowc (Ty.int IntKind.u8)]
def qlu (x:qk qe9) (y:qk qfa):PO (Sh.den qhT×qk qkg) :=
 (.ite (y.1.2.2.2.2.1)
  (.ret (((0,0,0,0,()),false,()),((y.1.1,y.1.2.1,(),y.1.2.2.2),y.2.1,y.2.2.1,y.2.2.2)))
  (.ite (q6 x.2 != 0)
  (.ite (qey ((),0,0,0,0,()) ((y.1.1,y.1.2.1,(),y.1.2.2.2),y.2))
   (.opt (LoopN.res qeh ((),(),0,(qbW y.1.2.2.2.1 (0,0,0,0,())).2.1) ((y.1.1,y.1.2.1,(),qbW y.1.2.2.2.1 (0,0,0,0,()),y.1.2.2.2.2),(0,0,0,0,0,0,0,false,()),y.2)) fun p0 =>
   (.ite (way p0.1)
    (.ite (qfy (p0.2.2.1.2.2.2.1,p0.2.2.2.1))
    (.ite ((qe (p0.2.2.1.2.2.2.1,p0.2.2.2.1)).2.1)
     (.ite ((qe (p0.2.2.1.2.2.2.1,p0.2.2.2.1)).1.2.2.2.1)
     (.ite (qdM ((),(qe (p0.2.2.1.2.2.2.1,p0.2.2.2.1)).1.1,(qe (p0.2.2.1.2.2.2.1,p0.2.2.2.1)).1.2.1,(qe (p0.2.2.1.2.2.2.1,p0.2.2.2.1)).1.2.2.1) (p0.2.2.2.2.1,p0.2.2.2.2.2.2))
      (.ite ((qbf ((),(qe (p0.2.2.1.2.2.2.1,p0.2.2.2.1)).1.1,(qe (p0.2.2.1.2.2.2.1,p0.2.2.2.1)).1.2.1,(qe (p0.2.2.1.2.2.2.1,p0.2.2.2.1)).1.2.2.1) (p0.2.2.2.2.1,p0.2.2.2.2.2.2)).1 != 0)
      (.ret (((2,p0.2.2.1.2.2.2.1.2.1,(qe (p0.2.2.1.2.2.2.1,p0.2.2.2.1)).1.1,12,()),true,()),((p0.2.2.1.1,p0.2.2.1.2.1,(),(p0.2.2.1.2.2.2.1.1,p0.2.2.1.1.2.1,p0.2.2.1.2.2.2.1.2.2),p0.2.2.1.2.2.2.2),(qbf ((),(qe (p0.2.2.1.2.2.2.1,p0.2.2.2.1)).1.1,(qe (p0.2.2.1.2.2.2.1,p0.2.2.2.1)).1.2.1,(qe (p0.2.2.1.2.2.2.1,p0.2.2.2.1)).1.2.2.1) (p0.2.2.2.2.1,p0.2.2.2.2.2.2)).2.1,p0.2.2.2.2.2.1,(qbf ((),(qe (p0.2.2.1.2.2.2.1,p0.2.2.2.1)).1.1,(qe (p0.2.2.1.2.2.2.1,p0.2.2.2.1)).1.2.1,(qe (p0.2.2.1.2.2.2.1,p0.2.2.2.1)).1.2.2.1) (p0.2.2.2.2.1,p0.2.2.2.2.2.2)).2.2)))
      (.ite (qdS (p0.2.2.1.2.2.2.1,p0.2.2.2.1))
       (.ite (qe8 (p0.2.2.1.2.2.2.1,p0.2.2.2.1,0))
       (.ret (((0,(qbW y.1.2.2.2.1 (0,0,0,0,())).2.1,(qe (p0.2.2.1.2.2.2.1,p0.2.2.2.1)).1.1,qc7 (p0.2.2.1.2.2.2.1,p0.2.2.2.1),()),true,()),((p0.2.2.1.1,p0.2.2.1.2.1,(),(qbT (p0.2.2.1.2.2.2.1,p0.2.2.2.1,0)).1,!(qbT (p0.2.2.1.2.2.2.1,p0.2.2.2.1,0)).2.1,p0.2.2.1.2.2.2.2.2),(qbf ((),(qe (p0.2.2.1.2.2.2.1,p0.2.2.2.1)).1.1,(qe (p0.2.2.1.2.2.2.1,p0.2.2.2.1)).1.2.1,(qe (p0.2.2.1.2.2.2.1,p0.2.2.2.1)).1.2.2.1) (p0.2.2.2.2.1,p0.2.2.2.2.2.2)).2.1,p0.2.2.2.2.2.1,(qbf ((),(qe (p0.2.2.1.2.2.2.1,p0.2.2.2.1)).1.1,(qe (p0.2.2.1.2.2.2.1,p0.2.2.2.1)).1.2.1,(qe (p0.2.2.1.2.2.2.1,p0.2.2.2.1)).1.2.2.1) (p0.2.2.2.2.1,p0.2.2.2.2.2.2)).2.2)))
       .fail)
       .fail))
      .fail)
     (.ite (qdv ((),(qe (p0.2.2.1.2.2.2.1,p0.2.2.2.1)).1.1,(qe (p0.2.2.1.2.2.2.1,p0.2.2.2.1)).1.2.1) (p0.2.2.2.2.1,p0.2.2.2.2.2.2))
      (.ite ((qF ((),(qe (p0.2.2.1.2.2.2.1,p0.2.2.2.1)).1.1,(qe (p0.2.2.1.2.2.2.1,p0.2.2.2.1)).1.2.1) (p0.2.2.2.2.1,p0.2.2.2.2.2.2)).1.2.1 != 0)
      (.ret (((2,p0.2.2.1.2.2.2.1.2.1,(qe (p0.2.2.1.2.2.2.1,p0.2.2.2.1)).1.1,12,()),true,()),((p0.2.2.1.1,p0.2.2.1.2.1,(),(p0.2.2.1.2.2.2.1.1,p0.2.2.1.1.2.1,p0.2.2.1.2.2.2.1.2.2),p0.2.2.1.2.2.2.2),(qF ((),(qe (p0.2.2.1.2.2.2.1,p0.2.2.2.1)).1.1,(qe (p0.2.2.1.2.2.2.1,p0.2.2.2.1)).1.2.1) (p0.2.2.2.2.1,p0.2.2.2.2.2.2)).2.1,p0.2.2.2.2.2.1,(qF ((),(qe (p0.2.2.1.2.2.2.1,p0.2.2.2.1)).1.1,(qe (p0.2.2.1.2.2.2.1,p0.2.2.2.1)).1.2.1) (p0.2.2.2.2.1,p0.2.2.2.2.2.2)).2.2)))
      (.ite (qdS (p0.2.2.1.2.2.2.1,p0.2.2.2.1))
       (.ite (qe8 (p0.2.2.1.2.2.2.1,p0.2.2.2.1,(qF ((),(qe (p0.2.2.1.2.2.2.1,p0.2.2.2.1)).1.1,(qe (p0.2.2.1.2.2.2.1,p0.2.2.2.1)).1.2.1) (p0.2.2.2.2.1,p0.2.2.2.2.2.2)).1.1))
       (.ret (((0,(qbW y.1.2.2.2.1 (0,0,0,0,())).2.1,(qe (p0.2.2.1.2.2.2.1,p0.2.2.2.1)).1.1,qc7 (p0.2.2.1.2.2.2.1,p0.2.2.2.1),()),true,()),((p0.2.2.1.1,p0.2.2.1.2.1,(),(qbT (p0.2.2.1.2.2.2.1,p0.2.2.2.1,(qF ((),(qe (p0.2.2.1.2.2.2.1,p0.2.2.2.1)).1.1,(qe (p0.2.2.1.2.2.2.1,p0.2.2.2.1)).1.2.1) (p0.2.2.2.2.1,p0.2.2.2.2.2.2)).1.1)).1,!(qbT (p0.2.2.1.2.2.2.1,p0.2.2.2.1,(qF ((),(qe (p0.2.2.1.2.2.2.1,p0.2.2.2.1)).1.1,(qe (p0.2.2.1.2.2.2.1,p0.2.2.2.1)).1.2.1) (p0.2.2.2.2.1,p0.2.2.2.2.2.2)).1.1)).2.1,p0.2.2.1.2.2.2.2.2),(qF ((),(qe (p0.2.2.1.2.2.2.1,p0.2.2.2.1)).1.1,(qe (p0.2.2.1.2.2.2.1,p0.2.2.2.1)).1.2.1) (p0.2.2.2.2.1,p0.2.2.2.2.2.2)).2.1,p0.2.2.2.2.2.1,(qF ((),(qe (p0.2.2.1.2.2.2.1,p0.2.2.2.1)).1.1,(qe (p0.2.2.1.2.2.2.1,p0.2.2.2.1)).1.2.1) (p0.2.2.2.2.1,p0.2.2.2.2.2.2)).2.2)))
       .fail)
       .fail))
      .fail))
     (.ite (qdS (p0.2.2.1.2.2.2.1,p0.2.2.2.1))
     (.ite (qe8 (p0.2.2.1.2.2.2.1,p0.2.2.2.1,0))
      (.ret (((0,(qbW y.1.2.2.2.1 (0,0,0,0,())).2.1,0,qc7 (p0.2.2.1.2.2.2.1,p0.2.2.2.1),()),true,()),((p0.2.2.1.1,p0.2.2.1.2.1,(),(qbT (p0.2.2.1.2.2.2.1,p0.2.2.2.1,0)).1,!(qbT (p0.2.2.1.2.2.2.1,p0.2.2.2.1,0)).2.1,p0.2.2.1.2.2.2.2.2),p0.2.2.2.2.1,p0.2.2.2.2.2.1,p0.2.2.2.2.2.2)))
      .fail)
     .fail))
    .fail)
    (.ret (((2,p0.2.2.1.2.2.2.1.2.1,0,12,()),true,()),((p0.2.2.1.1,p0.2.2.1.2.1,(),(p0.2.2.1.2.2.2.1.1,p0.2.2.1.1.2.1,p0.2.2.1.2.2.2.1.2.2),p0.2.2.1.2.2.2.2),p0.2.2.2.2.1,p0.2.2.2.2.2.1,p0.2.2.2.2.2.2)))))
   .fail)
  (.ite (qey ((),x.2) ((y.1.1,y.1.2.1,(),y.1.2.2.2),y.2))
   (.opt (LoopN.res qeh ((),(),0,(qbW y.1.2.2.2.1 x.2).2.1) ((y.1.1,y.1.2.1,(),qbW y.1.2.2.2.1 x.2,y.1.2.2.2.2),(0,0,0,0,0,0,0,false,()),y.2)) fun p0 =>
   (.ite (way p0.1)
    (.ite (x.2.1==1)
    (.ret (((1,(qbW y.1.2.2.2.1 x.2).2.1,0,1,()),true,()),((p0.2.2.1.1,p0.2.2.1.2.1,(),(p0.2.2.1.2.2.2.1.1,qju (p0.2.2.1.2.2.2.1.2.1,p0.2.1),p0.2.2.1.2.2.2.1.2.2),p0.2.2.1.2.2.2.2),p0.2.2.2.2.1,p0.2.2.2.2.2.1,p0.2.2.2.2.2.2)))
    (.ite (qfy (p0.2.2.1.2.2.2.1,p0.2.2.2.1))
     (.ite ((qe (p0.2.2.1.2.2.2.1,p0.2.2.2.1)).2.1)
     (.ite ((qe (p0.2.2.1.2.2.2.1,p0.2.2.2.1)).1.2.2.2.1)
      (.ite (qdM ((),(qe (p0.2.2.1.2.2.2.1,p0.2.2.2.1)).1.1,(qe (p0.2.2.1.2.2.2.1,p0.2.2.2.1)).1.2.1,(qe (p0.2.2.1.2.2.2.1,p0.2.2.2.1)).1.2.2.1) (p0.2.2.2.2.1,p0.2.2.2.2.2.2))
      (.ite ((qbf ((),(qe (p0.2.2.1.2.2.2.1,p0.2.2.2.1)).1.1,(qe (p0.2.2.1.2.2.2.1,p0.2.2.2.1)).1.2.1,(qe (p0.2.2.1.2.2.2.1,p0.2.2.2.1)).1.2.2.1) (p0.2.2.2.2.1,p0.2.2.2.2.2.2)).1 != 0)
       (.ret (((2,p0.2.2.1.2.2.2.1.2.1,(qe (p0.2.2.1.2.2.2.1,p0.2.2.2.1)).1.1,12,()),true,()),((p0.2.2.1.1,p0.2.2.1.2.1,(),(p0.2.2.1.2.2.2.1.1,p0.2.2.1.1.2.1,p0.2.2.1.2.2.2.1.2.2),p0.2.2.1.2.2.2.2),(qbf ((),(qe (p0.2.2.1.2.2.2.1,p0.2.2.2.1)).1.1,(qe (p0.2.2.1.2.2.2.1,p0.2.2.2.1)).1.2.1,(qe (p0.2.2.1.2.2.2.1,p0.2.2.2.1)).1.2.2.1) (p0.2.2.2.2.1,p0.2.2.2.2.2.2)).2.1,p0.2.2.2.2.2.1,(qbf ((),(qe (p0.2.2.1.2.2.2.1,p0.2.2.2.1)).1.1,(qe (p0.2.2.1.2.2.2.1,p0.2.2.2.1)).1.2.1,(qe (p0.2.2.1.2.2.2.1,p0.2.2.2.1)).1.2.2.1) (p0.2.2.2.2.1,p0.2.2.2.2.2.2)).2.2)))
       (.ite (qdS (p0.2.2.1.2.2.2.1,p0.2.2.2.1))
       (.ite (qe8 (p0.2.2.1.2.2.2.1,p0.2.2.2.1,0))
        (.ret (((0,(qbW y.1.2.2.2.1 x.2).2.1,(qe (p0.2.2.1.2.2.2.1,p0.2.2.2.1)).1.1,qc7 (p0.2.2.1.2.2.2.1,p0.2.2.2.1),()),true,()),((p0.2.2.1.1,p0.2.2.1.2.1,(),(qbT (p0.2.2.1.2.2.2.1,p0.2.2.2.1,0)).1,!(qbT (p0.2.2.1.2.2.2.1,p0.2.2.2.1,0)).2.1,p0.2.2.1.2.2.2.2.2),(qbf ((),(qe (p0.2.2.1.2.2.2.1,p0.2.2.2.1)).1.1,(qe (p0.2.2.1.2.2.2.1,p0.2.2.2.1)).1.2.1,(qe (p0.2.2.1.2.2.2.1,p0.2.2.2.1)).1.2.2.1) (p0.2.2.2.2.1,p0.2.2.2.2.2.2)).2.1,p0.2.2.2.2.2.1,(qbf ((),(qe (p0.2.2.1.2.2.2.1,p0.2.2.2.1)).1.1,(qe (p0.2.2.1.2.2.2.1,p0.2.2.2.1)).1.2.1,(qe (p0.2.2.1.2.2.2.1,p0.2.2.2.1)).1.2.2.1) (p0.2.2.2.2.1,p0.2.2.2.2.2.2)).2.2)))
        .fail)
       .fail))
      .fail)
      (.ite (qdv ((),(qe (p0.2.2.1.2.2.2.1,p0.2.2.2.1)).1.1,(qe (p0.2.2.1.2.2.2.1,p0.2.2.2.1)).1.2.1) (p0.2.2.2.2.1,p0.2.2.2.2.2.2))
      (.ite ((qF ((),(qe (p0.2.2.1.2.2.2.1,p0.2.2.2.1)).1.1,(qe (p0.2.2.1.2.2.2.1,p0.2.2.2.1)).1.2.1) (p0.2.2.2.2.1,p0.2.2.2.2.2.2)).1.2.1 != 0)
       (.ret (((2,p0.2.2.1.2.2.2.1.2.1,(qe (p0.2.2.1.2.2.2.1,p0.2.2.2.1)).1.1,12,()),true,()),((p0.2.2.1.1,p0.2.2.1.2.1,(),(p0.2.2.1.2.2.2.1.1,p0.2.2.1.1.2.1,p0.2.2.1.2.2.2.1.2.2),p0.2.2.1.2.2.2.2),(qF ((),(qe (p0.2.2.1.2.2.2.1,p0.2.2.2.1)).1.1,(qe (p0.2.2.1.2.2.2.1,p0.2.2.2.1)).1.2.1) (p0.2.2.2.2.1,p0.2.2.2.2.2.2)).2.1,p0.2.2.2.2.2.1,(qF ((),(qe (p0.2.2.1.2.2.2.1,p0.2.2.2.1)).1.1,(qe (p0.2.2.1.2.2.2.1,p0.2.2.2.1)).1.2.1) (p0.2.2.2.2.1,p0.2.2.2.2.2.2)).2.2)))
       (.ite (qdS (p0.2.2.1.2.2.2.1,p0.2.2.2.1))
       (.ite (qe8 (p0.2.2.1.2.2.2.1,p0.2.2.2.1,(qF ((),(qe (p0.2.2.1.2.2.2.1,p0.2.2.2.1)).1.1,(qe (p0.2.2.1.2.2.2.1,p0.2.2.2.1)).1.2.1) (p0.2.2.2.2.1,p0.2.2.2.2.2.2)).1.1))
        (.ret (((0,(qbW y.1.2.2.2.1 x.2).2.1,(qe (p0.2.2.1.2.2.2.1,p0.2.2.2.1)).1.1,qc7 (p0.2.2.1.2.2.2.1,p0.2.2.2.1),()),true,()),((p0.2.2.1.1,p0.2.2.1.2.1,(),(qbT (p0.2.2.1.2.2.2.1,p0.2.2.2.1,(qF ((),(qe (p0.2.2.1.2.2.2.1,p0.2.2.2.1)).1.1,(qe (p0.2.2.1.2.2.2.1,p0.2.2.2.1)).1.2.1) (p0.2.2.2.2.1,p0.2.2.2.2.2.2)).1.1)).1,!(qbT (p0.2.2.1.2.2.2.1,p0.2.2.2.1,(qF ((),(qe (p0.2.2.1.2.2.2.1,p0.2.2.2.1)).1.1,(qe (p0.2.2.1.2.2.2.1,p0.2.2.2.1)).1.2.1) (p0.2.2.2.2.1,p0.2.2.2.2.2.2)).1.1)).2.1,p0.2.2.1.2.2.2.2.2),(qF ((),(qe (p0.2.2.1.2.2.2.1,p0.2.2.2.1)).1.1,(qe (p0.2.2.1.2.2.2.1,p0.2.2.2.1)).1.2.1) (p0.2.2.2.2.1,p0.2.2.2.2.2.2)).2.1,p0.2.2.2.2.2.1,(qF ((),(qe (p0.2.2.1.2.2.2.1,p0.2.2.2.1)).1.1,(qe (p0.2.2.1.2.2.2.1,p0.2.2.2.1)).1.2.1) (p0.2.2.2.2.1,p0.2.2.2.2.2.2)).2.2)))
        .fail)
       .fail))
      .fail))
     (.ite (qdS (p0.2.2.1.2.2.2.1,p0.2.2.2.1))
      (.ite (qe8 (p0.2.2.1.2.2.2.1,p0.2.2.2.1,0))
      (.ret (((0,(qbW y.1.2.2.2.1 x.2).2.1,0,qc7 (p0.2.2.1.2.2.2.1,p0.2.2.2.1),()),true,()),((p0.2.2.1.1,p0.2.2.1.2.1,(),(qbT (p0.2.2.1.2.2.2.1,p0.2.2.2.1,0)).1,!(qbT (p0.2.2.1.2.2.2.1,p0.2.2.2.1,0)).2.1,p0.2.2.1.2.2.2.2.2),p0.2.2.2.2.1,p0.2.2.2.2.2.1,p0.2.2.2.2.2.2)))
      .fail)
      .fail))
     .fail))
    (.ret (((2,p0.2.2.1.2.2.2.1.2.1,0,12,()),true,()),((p0.2.2.1.1,p0.2.2.1.2.1,(),(p0.2.2.1.2.2.2.1.1,p0.2.2.1.1.2.1,p0.2.2.1.2.2.2.1.2.2),p0.2.2.1.2.2.2.2),p0.2.2.2.2.1,p0.2.2.2.2.2.1,p0.2.2.2.2.2.2)))))
   .fail)))
def qbG (_:qk qe9) (y:qk qfa):Bool:=decide (MachWf y)
def qh (x:qk qe9) (y:qk qfa):Sh.den qhT×qk qkg :=
 bif y.1.2.2.2.2.1 then(((0,0,0,0,()),false,()),y)
 else qeF y.1.1 y.1.2.1 y.1.2.2.2.2.2.1 (qch y.1.2.1 y.1.2.2.2.1.2.1 y.2.2.1) (qbP y.1.1 y.1.2.1 y.1.2.2.2.1 (y.2.1,y.2.2.2) x.2)
theorem qBD (k p r b:Int) (h:q6 (k,p,r,b,())=0):(!(k==(2:Int))||inRange r 15)=true:=by
 cases h2:(k==(2:Int))
 ·rfl
 ·simp only[beq_iff_eq] at h2
  subst h2
  have hx:(decide (p≥0)&&(decide (r≥0)&&(decide (r≤14)&&(decide (b≥0)&&decide (b<32)))))=true:=by
   cases hx:(decide (p≥0)&&(decide (r≥0)&&(decide (r≤14)&&(decide (b≥0)&&decide (b<32)))))
   ·exfalso
    have:q6 (2,p,r,b,())=2:=by
     unfold q6 PO.qP
     rw[show(qiq (2,p,r,b,())).val=some 2 from qd (by
      show(!(decide (p≥0)&&(decide (r≥0)&&(decide (r≤14)&&(decide (b≥0)&&decide (b<32))))))=true
      rw[hx];rfl)]
     rfl
    rw[this] at h
    cases h
   ·rfl
  simp only[Bool.and_eq_true,decide_eq_true_eq] at hx
  have h1:inRange r 15=true:=by
   simp only[inRange,Bool.and_eq_true,decide_eq_true_eq]
   omega
  rw[h1]
  rfl
set_option maxRecDepth 10000 in
theorem qud (x:qk qe9) (y:qk qfa) (h:qbG x y=true):(qlu x y).val=some (qh x y):=by
 have hw:MachWf y:=of_decide_eq_true h
 obtain⟨_,k,p,r,b,_⟩:=x
 obtain⟨⟨hd,fl,u,st,dn,win,u'⟩,M,c,B⟩:=y
 obtain⟨hmem,hregs,hpc,hhand,hlen,hwin,hcache⟩:=hw
 simp only at hmem hregs hpc hhand hlen hwin hcache
 subst hwin
 unfold qlu qh
 cases dn
 case true=>exact(qd rfl).trans rfl
 case false =>
 refine(qu rfl).trans ?_
 have hp:∀f,0≤(show Int from(qbW st f).2.1)∧(show Int from(qbW st f).2.1)<4294967296:=fun f=>by rw[qyk];exact hpc
 have go:=fun f=>qM3 fl c hd (qbW st f) false (0,0,0,0,0,0,0,false,()) 0 M B (hp f) hcache
 have act:=fun f i=>qSn hd fl (0,fl.length / 2+1) (qbW st f) i M (qch fl (qbW st f).2.1 c) B (qzo st f hregs) hmem
 have e0:∀f,qch fl st.2.1 c=qch fl (qbW st f).2.1 c:=fun f=>by rw[qyk]
 show _=some (qeF hd fl (0,fl.length / 2+1) (qch fl st.2.1 c) (qbP hd fl st (M,B) (k,p,r,b,())))
 unfold qbP qtA
 cases hck:(q6 (k,p,r,b,()) != (0:Int))
 ·refine(qu rfl).trans ((qd (qBD k p r b (by simpa using hck))).trans ((qde (go _)).trans ?_))
  simp only[cond_false]
  rw[e0 (k,p,r,b,())]
  unfold qtc
  have ha:=act (k,p,r,b,())
  cases qo9 fl (qbW st (k,p,r,b,())).2.1 with
  |none=>exact(qu rfl).trans rfl
  |some q =>
   refine(qd rfl).trans ?_
   simp only
   cases hs:(k==(1:Int))
   ·exact(qu rfl).trans (ha q.1)
   ·exact(qd rfl).trans rfl
 ·refine(qd rfl).trans ((qd rfl).trans ((qde (go _)).trans ?_))
  simp only[cond_true]
  rw[e0 (0,0,0,0,())]
  unfold qtc
  have ha:=act (0,0,0,0,())
  cases qo9 fl (qbW st (0,0,0,0,())).2.1 with
  |none=>exact(qu rfl).trans rfl
  |some q=>exact(qd rfl).trans (ha q.1)
end Go.Av
end
section
namespace Go.Av
open Go
theorem qP4 {fl:List UInt8} {c:List qbv.den} (h:qrN fl c) (pc:Int):qrN fl (qch fl pc c):=by
 unfold qch
 cases (qbF .i64 pc 1 != 0||decide (pc≥qg fl))
 ·cases (List.getD c (pc / 2).toNat dfF).2.2.1
  ·refine⟨by simp only[cond_false,List.length_set];exact h.1,fun k hk hn=>?_⟩
   simp only[cond_false,List.length_set] at hk hn ⊢
   rw[List.getD_eq_getElem?_getD,List.getElem?_set] at hn ⊢
   split at hn
   ·rename_i e
    subst e
    rw[if_pos rfl]
    split
    ·rfl
    ·omega
   ·rename_i e
    rw[if_neg e]
    have:=h.2 k hk
    rw[List.getD_eq_getElem?_getD] at this
    exact this hn
  ·exact h
 ·exact h
theorem qJx (n:Int):0≤((wn n:Nat):Int)∧((wn n:Nat):Int)<4294967296:=⟨by omega,by have:=qdC n;omega⟩
theorem qOf (st:qC.den) (i:q9.den) (ld:Int):∃m:Int,(show Int from(qbT (st,i,ld)).1.2.1)=((wn m:Nat):Int):=by
 obtain⟨op,rd,rn,rm,ra,imm,cond,w,u⟩:=i
 show ∃m:Int,(show Int from(qpA _ st op rd rn rm ra imm cond w ld).1.2.1)=((wn m:Nat):Int)
 unfold qpA
 cases (qj (op,rd,rn,rm,ra,imm,cond,w,u) != 0||op==2)
 ·exact⟨_,rfl⟩
 ·exact⟨_,rfl⟩
theorem qQF (st:qC.den) (i:q9.den) (ld:Int):0≤(show Int from(qbT (st,i,ld)).1.2.1)∧(show Int from(qbT (st,i,ld)).1.2.1)<4294967296:=by
 obtain⟨m,hm⟩:=qOf st i ld
 rw[hm]
 exact qJx m
theorem qP1 (hd:qcH.den) (st:qC.den) (i:q9.den) (mem:qew) (hm:MemWf mem) (hr:List.length st.1=15) (hh:0≤(show Int from hd.2.1)∧(show Int from hd.2.1)<4294967296) :
  List.length (qo0 hd st i mem).2.1.1=15∧(0≤(show Int from(qo0 hd st i mem).2.1.2.1)∧(show Int from(qo0 hd st i mem).2.1.2.1)<4294967296)∧MemWf (qo0 hd st i mem).2.2.2∧(qo0 hd st i mem).2.2.2.1=mem.1∧0≤(show Int from(qo0 hd st i mem).1.2.2.2.1)∧(show Int from(qo0 hd st i mem).1.2.2.2.1)≤12:=by
 have hcy:0≤(show Int from qc7 (st,i))∧(show Int from qc7 (st,i))≤12:=by
  obtain⟨op,rd,rn,rm,ra,imm,cond,w,u⟩:=i
  show 0≤qoM _ st op cond∧qoM _ st op cond≤12
  unfold qoM
  cases (qj (op,rd,rn,rm,ra,imm,cond,w,u) != 0)
  ·cases (op==19||(op==20||(op==21||op==22)))
   ·cases (op==17)
    ·cases qmt st op cond<;>simp
    ·simp
   ·simp
  ·simp
 have fin:∀m ld ad,MemWf m→m.1=mem.1→List.length (quI st i m ld ad).2.1.1=15∧(0≤(show Int from(quI st i m ld ad).2.1.2.1)∧(show Int from(quI st i m ld ad).2.1.2.1)<4294967296)∧MemWf (quI st i m ld ad).2.2.2∧(quI st i m ld ad).2.2.2.1=mem.1∧0≤(show Int from(quI st i m ld ad).1.2.2.2.1)∧(show Int from(quI st i m ld ad).1.2.2.2.1)≤12 :=
  fun m ld ad h1 h2=>⟨qO6 st i ld hr,qQF st i ld,h1,h2,hcy.1,hcy.2⟩
 have trap:∀m ad,MemWf m→m.1=mem.1→List.length (qrX hd st m ad).2.1.1=15∧(0≤(show Int from(qrX hd st m ad).2.1.2.1)∧(show Int from(qrX hd st m ad).2.1.2.1)<4294967296)∧MemWf (qrX hd st m ad).2.2.2∧(qrX hd st m ad).2.2.2.1=mem.1∧0≤(show Int from(qrX hd st m ad).1.2.2.2.1)∧(show Int from(qrX hd st m ad).1.2.2.2.1)≤12 :=
  fun m ad h1 h2=>⟨hr,hh,h1,h2,by show(0:Int)≤12;decide,by show(12:Int)≤12;decide⟩
 unfold qo0
 cases (qe (st,i)).2.1
 ·exact fin _ _ _ hm rfl
 ·cases (qe (st,i)).1.2.2.2.1
  ·cases ((qmk mem (qe (st,i)).1.1 (qe (st,i)).1.2.1).2.1 != (0:Int))
   ·exact fin _ _ _ hm rfl
   ·exact trap _ _ hm rfl
  ·have hs:=qOE hm (qe (st,i)).1.1 (qe (st,i)).1.2.1 (qe (st,i)).1.2.2.1
   cases ((qfA mem (qe (st,i)).1.1 (qe (st,i)).1.2.1 (qe (st,i)).1.2.2.1).1 != (0:Int))
   ·exact fin _ _ _ hs.1 hs.2
   ·exact trap _ _ hs.1 hs.2
theorem qok (hd:qcH.den) (fl:List UInt8) (st:qC.den) (mem:qew) (f:qB.den) (hm:MemWf mem) (hr:List.length st.1=15) (hh:0≤(show Int from hd.2.1)∧(show Int from hd.2.1)<4294967296) :
  List.length (qbP hd fl st mem f).2.1.1=15∧(0≤(show Int from(qbP hd fl st mem f).2.1.2.1)∧(show Int from(qbP hd fl st mem f).2.1.2.1)<4294967296)∧MemWf (qbP hd fl st mem f).2.2.2∧(qbP hd fl st mem f).2.2.2.1=mem.1∧0≤(show Int from(qbP hd fl st mem f).1.2.2.2.1)∧(show Int from(qbP hd fl st mem f).1.2.2.2.1)≤12:=by
 unfold qbP qtc
 have hl:=qzo st (qtA f) hr
 cases qo9 fl (qbW st (qtA f)).2.1 with
 |none=>exact⟨hl,hh,hm,rfl,by show(0:Int)≤12;decide,by show(12:Int)≤12;decide⟩
 |some p =>
  simp only
  cases ((qtA f).1==(1:Int))
  ·exact qP1 hd _ p.1 mem hm hl hh
  ·exact⟨hl,qJx _,hm,rfl,by show(0:Int)≤1;decide,by show(1:Int)≤12;decide⟩
theorem qyC {y:MS} (h:MachWf y) (f:qB.den):MachWf (qeF y.1.1 y.1.2.1 y.1.2.2.2.2.2.1 (qch y.1.2.1 y.1.2.2.2.1.2.1 y.2.2.1) (qbP y.1.1 y.1.2.1 y.1.2.2.2.1 (y.2.1,y.2.2.2) f)).2:=by
 obtain⟨h1,h2,h3,h4,_⟩:=qok y.1.1 y.1.2.1 y.1.2.2.2.1 (y.2.1,y.2.2.2) f h.mem h.regs h.hand
 exact⟨h3,h1,h2,h.hand,h.len,h.win,qP4 h.cache _⟩
abbrev qtG:Type:=qC.den×Bool×qew
abbrev qdk:qB.den:=(0,0,0,0,())
def qeN (f:qB.den) (k:Int):qB.den:=bif f.2.1==k then f else qdk
def goX (hd:qcH.den) (fl:List UInt8) (f:qB.den):Nat→Int→qtG→List qcK.den×Int×qtG
 |0,_,s=>([],0,s)
 |n+1,k,s=>bif s.2.1 then([],0,s) else
   ((qbP hd fl s.1 s.2.2 (qeN f k)).1::(goX hd fl f n (k+1) (qbP hd fl s.1 s.2.2 (qeN f k)).2).1,
    (bif s.1.2.1==hd.2.1 then 1 else 0)+(goX hd fl f n (k+1) (qbP hd fl s.1 s.2.2 (qeN f k)).2).2.1,
    (goX hd fl f n (k+1) (qbP hd fl s.1 s.2.2 (qeN f k)).2).2.2)
def qll (hd:qcH.den) (fl:List UInt8) (f:qB.den):Nat→Int→qtG→List qbv.den→List qbv.den
 |0,_,_,c=>c
 |n+1,k,s,c=>bif s.2.1 then c else qll hd fl f n (k+1) (qbP hd fl s.1 s.2.2 (qeN f k)).2 (qch fl s.1.2.1 c)
def qmd:List qcK.den→Int
 |[]=>0
 |v::l=>v.2.2.2.1+qmd l
def qZ (y:MS):qtG:=(y.1.2.2.2.1,y.1.2.2.2.2.1,(y.2.1,y.2.2.2))
abbrev qos (y:MS) (s:qtG) (c:List qbv.den):MS:=((y.1.1,y.1.2.1,(),s.1,s.2.1,y.1.2.2.2.2.2.1,()),s.2.2.1,c,s.2.2.2)
def qn3:LoopN where
 M:=[0,2,3,5,8,9]
 T:=[10,11,12,13,14,15,16,17,18,19,20,21,22,23,24,25,26,27,28,29,30,31,32,33,34,35,36,37,38,39,40,41,42,43,44,45,46,47,48,49,50,51,52,53,54,55,56,57,58,59,60,61,62,63,64]
 D:=[2,3,5]
 ss:=[.box 0 0,.ty (.int .i64),.fn 22 (.ty .unit),.box 1 0,.box 2 0,.box 3 0]
 hs:=[(qm6 4 5),(.ty qB),(.ty qcc),(.ty qcc),(qfZ 6),.rowc qbv,.rowc (.int .u8)]
 es:=[.exit 0]
 σ:=(Sh.den ((qm6 4 5)))×(Sh.den ((.ty qB)))×(Sh.den ((.ty qcc)))×(Sh.den ((.ty qcc)))×(Sh.den ((qfZ 6)))×(Sh.den (.rowc qbv))×(Sh.den (.rowc (.int .u8)))
 x0:=fun _ y=>(y.1,y.2.1,y.2.2.1,y.2.2.2.1,y.2.2.2.2.1,y.2.2.2.2.2.1,y.2.2.2.2.2.2)
 put:=fun x _ s=>((x.1,x.2.1,x.2.2.1,x.2.2.2.1,x.2.2.2.2.1,x.2.2.2.2.2),(s.1,s.2.1,s.2.2.1,s.2.2.2.1,s.2.2.2.2.1,s.2.2.2.2.2.1,s.2.2.2.2.2.2))
 fuel:=fun x _=>Int.toNat x.2.1+1
 turn:=fun x _ s =>
 (.ite (!s.1.2.2.2.2.1&&decide (s.2.2.2.1.2.1<x.2.1))
  (.ite (s.1.2.2.2.1.2.1==s.1.1.2.1)
  (.ite (s.2.1.2.1==s.2.2.2.1.2.1)
   (.ite (qbG ((),s.2.1) ((s.1.1,s.1.2.1,(),s.1.2.2.2),s.2.2.2.2))
   (.ret (.on (((qh ((),s.2.1) ((s.1.1,s.1.2.1,(),s.1.2.2.2),s.2.2.2.2)).2.1.1,(qh ((),s.2.1) ((s.1.1,s.1.2.1,(),s.1.2.2.2),s.2.2.2.2)).2.1.2.1,(),(qh ((),s.2.1) ((s.1.1,s.1.2.1,(),s.1.2.2.2),s.2.2.2.2)).2.1.2.2.2),s.2.1,s.2.2.1,(s.2.2.2.1.1,w64 (s.2.2.2.1.2.1+1),w64 (s.2.2.2.1.2.2.1+(qh ((),s.2.1) ((s.1.1,s.1.2.1,(),s.1.2.2.2),s.2.2.2.2)).1.1.2.2.2.1),w64 (s.2.2.2.1.2.2.2.1+1),s.2.2.2.1.2.2.2.2),(qh ((),s.2.1) ((s.1.1,s.1.2.1,(),s.1.2.2.2),s.2.2.2.2)).2.2.1,(qh ((),s.2.1) ((s.1.1,s.1.2.1,(),s.1.2.2.2),s.2.2.2.2)).2.2.2.1,(qh ((),s.2.1) ((s.1.1,s.1.2.1,(),s.1.2.2.2),s.2.2.2.2)).2.2.2.2)))
   .fail)
   (.ite (qbG ((),0,0,0,0,()) ((s.1.1,s.1.2.1,(),s.1.2.2.2),s.2.2.2.2))
   (.ret (.on (((qh ((),0,0,0,0,()) ((s.1.1,s.1.2.1,(),s.1.2.2.2),s.2.2.2.2)).2.1.1,(qh ((),0,0,0,0,()) ((s.1.1,s.1.2.1,(),s.1.2.2.2),s.2.2.2.2)).2.1.2.1,(),(qh ((),0,0,0,0,()) ((s.1.1,s.1.2.1,(),s.1.2.2.2),s.2.2.2.2)).2.1.2.2.2),s.2.1,s.2.2.1,(s.2.2.2.1.1,w64 (s.2.2.2.1.2.1+1),w64 (s.2.2.2.1.2.2.1+(qh ((),0,0,0,0,()) ((s.1.1,s.1.2.1,(),s.1.2.2.2),s.2.2.2.2)).1.1.2.2.2.1),w64 (s.2.2.2.1.2.2.2.1+1),s.2.2.2.1.2.2.2.2),(qh ((),0,0,0,0,()) ((s.1.1,s.1.2.1,(),s.1.2.2.2),s.2.2.2.2)).2.2.1,(qh ((),0,0,0,0,()) ((s.1.1,s.1.2.1,(),s.1.2.2.2),s.2.2.2.2)).2.2.2.1,(qh ((),0,0,0,0,()) ((s.1.1,s.1.2.1,(),s.1.2.2.2),s.2.2.2.2)).2.2.2.2)))
   .fail))
  (.ite (s.2.1.2.1==s.2.2.2.1.2.1)
   (.ite (qbG ((),s.2.1) ((s.1.1,s.1.2.1,(),s.1.2.2.2),s.2.2.2.2))
   (.ret (.on (((qh ((),s.2.1) ((s.1.1,s.1.2.1,(),s.1.2.2.2),s.2.2.2.2)).2.1.1,(qh ((),s.2.1) ((s.1.1,s.1.2.1,(),s.1.2.2.2),s.2.2.2.2)).2.1.2.1,(),(qh ((),s.2.1) ((s.1.1,s.1.2.1,(),s.1.2.2.2),s.2.2.2.2)).2.1.2.2.2),s.2.1,s.2.2.1,(s.2.2.2.1.1,w64 (s.2.2.2.1.2.1+1),w64 (s.2.2.2.1.2.2.1+(qh ((),s.2.1) ((s.1.1,s.1.2.1,(),s.1.2.2.2),s.2.2.2.2)).1.1.2.2.2.1),s.2.2.2.1.2.2.2),(qh ((),s.2.1) ((s.1.1,s.1.2.1,(),s.1.2.2.2),s.2.2.2.2)).2.2.1,(qh ((),s.2.1) ((s.1.1,s.1.2.1,(),s.1.2.2.2),s.2.2.2.2)).2.2.2.1,(qh ((),s.2.1) ((s.1.1,s.1.2.1,(),s.1.2.2.2),s.2.2.2.2)).2.2.2.2)))
   .fail)
   (.ite (qbG ((),0,0,0,0,()) ((s.1.1,s.1.2.1,(),s.1.2.2.2),s.2.2.2.2))
   (.ret (.on (((qh ((),0,0,0,0,()) ((s.1.1,s.1.2.1,(),s.1.2.2.2),s.2.2.2.2)).2.1.1,(qh ((),0,0,0,0,()) ((s.1.1,s.1.2.1,(),s.1.2.2.2),s.2.2.2.2)).2.1.2.1,(),(qh ((),0,0,0,0,()) ((s.1.1,s.1.2.1,(),s.1.2.2.2),s.2.2.2.2)).2.1.2.2.2),s.2.1,s.2.2.1,(s.2.2.2.1.1,w64 (s.2.2.2.1.2.1+1),w64 (s.2.2.2.1.2.2.1+(qh ((),0,0,0,0,()) ((s.1.1,s.1.2.1,(),s.1.2.2.2),s.2.2.2.2)).1.1.2.2.2.1),s.2.2.2.1.2.2.2),(qh ((),0,0,0,0,()) ((s.1.1,s.1.2.1,(),s.1.2.2.2),s.2.2.2.2)).2.2.1,(qh ((),0,0,0,0,()) ((s.1.1,s.1.2.1,(),s.1.2.2.2),s.2.2.2.2)).2.2.2.1,(qh ((),0,0,0,0,()) ((s.1.1,s.1.2.1,(),s.1.2.2.2),s.2.2.2.2)).2.2.2.2)))
   .fail)))
  (.ret (.out 0 (s.1,s.2.1,s.2.2.1,s.2.2.2.1,s.2.2.2.2.1,s.2.2.2.2.2.1,s.2.2.2.2.2.2))))
theorem qxC {α β γ δ ε:Type} {A:α} {f:β} {r0:ε} {hal:Bool} {rst:γ} {B:δ} {X1 Y1 X2 Y2 X3 Y3:Int} (h1:X1=Y1) (h2:X2=Y2) (h3:X3=Y3):some ((0:Nat),A,f,r0,(hal,X1,X2,X3,rst),B)=some ((0:Nat),A,f,r0,(hal,Y1,Y2,Y3,rst),B):=by
 subst h1 h2 h3
 rfl
theorem qJf (f:qB.den) (budget:Int) (hbud:budget≤67108864) (r0:qcc.den) (rst:Int×Int×List UInt8×List UInt8×List UInt8×Unit) (hal:Bool) (x:qk qn3.ss) (hx:x.2.1=budget) (y0:qk qn3.hs) :
  ∀(n k:Nat) (cyc hnd:Int) (y:MS),(k:Int)+n=budget→MachWf y→0≤cyc→cyc≤12*k→0≤hnd→hnd≤k →
   qcE (qn3.turn x y0) (n+1) (y.1,f,r0,(hal,(k:Int),cyc,hnd,rst),y.2.1,y.2.2.1,y.2.2.2) =
    some (0,((qos y (goX y.1.1 y.1.2.1 f n k (qZ y)).2.2 (qll y.1.1 y.1.2.1 f n k (qZ y) y.2.2.1)).1,f,r0,
     (hal,(k:Int)+((goX y.1.1 y.1.2.1 f n k (qZ y)).1.length:Int),cyc+qmd (goX y.1.1 y.1.2.1 f n k (qZ y)).1,hnd+(goX y.1.1 y.1.2.1 f n k (qZ y)).2.1,rst),
     (qos y (goX y.1.1 y.1.2.1 f n k (qZ y)).2.2 (qll y.1.1 y.1.2.1 f n k (qZ y) y.2.2.1)).2)):=by
 intro n
 induction n with
 |zero =>
  intro k cyc hnd y hk hw _ _ _ _
  refine(qbk ((qu ?_).trans rfl)).trans ?_
  ·show(!y.1.2.2.2.2.1&&decide ((k:Int)<x.2.1))=false
   rw[hx,qS (show ¬(k:Int)<budget by omega),Bool.and_false]
  ·simp[goX,qll,qmd,qZ]
   rfl
 |succ n ih =>
  intro k cyc hnd y hk hw hc0 hc1 hh0 hh1
  cases hd:y.1.2.2.2.2.1 with
  |true =>
   refine(qbk ((qu ?_).trans rfl)).trans ?_
   ·show(!y.1.2.2.2.2.1&&decide ((k:Int)<x.2.1))=false
    rw[hd];rfl
   ·have hg:goX y.1.1 y.1.2.1 f (n+1) k (qZ y)=([],0,qZ y):=by
     unfold goX
     rw[show(qZ y).2.1=true from hd]
     rfl
    have hcg:qll y.1.1 y.1.2.1 f (n+1) k (qZ y) y.2.2.1=y.2.2.1:=by
     unfold qll
     rw[show(qZ y).2.1=true from hd]
     rfl
    rw[hg,hcg]
    simp[qmd,qZ]
    rfl
  |false =>
   have hlt:(!y.1.2.2.2.2.1&&decide ((k:Int)<x.2.1))=true:=by
    rw[hx,hd,qJ (show(k:Int)<budget by omega)];rfl
   have hG:∀g,qbG ((),g) ((y.1.1,y.1.2.1,(),y.1.2.2.2),y.2)=true:=fun g=>decide_eq_true hw
   have hV:∀g,qh ((),g) ((y.1.1,y.1.2.1,(),y.1.2.2.2),y.2)=qeF y.1.1 y.1.2.1 y.1.2.2.2.2.2.1 (qch y.1.2.1 y.1.2.2.2.1.2.1 y.2.2.1) (qbP y.1.1 y.1.2.1 y.1.2.2.2.1 (y.2.1,y.2.2.2) g):=fun g=>by
    unfold qh
    rw[show(((y.1.1,y.1.2.1,(),y.1.2.2.2),y.2):MS).1.2.2.2.2.1=false from hd]
    rfl
   obtain⟨s1,s2,s3,s4,s5,s6⟩:=qok y.1.1 y.1.2.1 y.1.2.2.2.1 (y.2.1,y.2.2.2) (qeN f k) hw.mem hw.regs hw.hand
   have hw':=qyC hw (qeN f k)
   have hgo:goX y.1.1 y.1.2.1 f (n+1) k (qZ y)=((qbP y.1.1 y.1.2.1 y.1.2.2.2.1 (y.2.1,y.2.2.2) (qeN f k)).1::(goX y.1.1 y.1.2.1 f n (k+1) (qbP y.1.1 y.1.2.1 y.1.2.2.2.1 (y.2.1,y.2.2.2) (qeN f k)).2).1,
     (bif y.1.2.2.2.1.2.1==y.1.1.2.1 then 1 else 0)+(goX y.1.1 y.1.2.1 f n (k+1) (qbP y.1.1 y.1.2.1 y.1.2.2.2.1 (y.2.1,y.2.2.2) (qeN f k)).2).2.1,
     (goX y.1.1 y.1.2.1 f n (k+1) (qbP y.1.1 y.1.2.1 y.1.2.2.2.1 (y.2.1,y.2.2.2) (qeN f k)).2).2.2):=by
    rw[goX]
    rw[show(qZ y).2.1=false from hd]
    rfl
   have hcg:qll y.1.1 y.1.2.1 f (n+1) k (qZ y) y.2.2.1=qll y.1.1 y.1.2.1 f n (k+1) (qbP y.1.1 y.1.2.1 y.1.2.2.2.1 (y.2.1,y.2.2.2) (qeN f k)).2 (qch y.1.2.1 y.1.2.2.2.1.2.1 y.2.2.1):=by
    rw[qll]
    rw[show(qZ y).2.1=false from hd]
    rfl
   rw[hgo,hcg]
   have w1:w64 ((k:Int)+1)=((k+1:Nat):Int):=by rw[qt (by omega) (by omega)];omega
   generalize hE:qbP y.1.1 y.1.2.1 y.1.2.2.2.1 (y.2.1,y.2.2.2) (qeN f k)=E at *
   have b0:(0:Int)≤E.1.2.2.2.1:=s5
   have b1:(12:Int)≥E.1.2.2.2.1:=s6
   have b2:(k:Int)≤67108864:=by omega
   have b3:cyc≤805306368:=by omega
   have w2:w64 (cyc+E.1.2.2.2.1)=cyc+E.1.2.2.2.1:=qt (by omega) (by omega)
   have w3:w64 (hnd+1)=hnd+1:=qt (by omega) (by omega)
   obtain⟨G1,hG1⟩:∃G1,G1=goX y.1.1 y.1.2.1 f n ((k:Int)+1) E.2:=⟨_,rfl⟩
   obtain⟨C1,hC1⟩:∃C1,C1=qll y.1.1 y.1.2.1 f n ((k:Int)+1) E.2 (qch y.1.2.1 y.1.2.2.2.1.2.1 y.2.2.1):=⟨_,rfl⟩
   rw[←hG1,←hC1]
   have fin:∀(b:Int),(b=0∨b=1)→qcE (qn3.turn x y0) (n+1) ((qeF y.1.1 y.1.2.1 y.1.2.2.2.2.2.1 (qch y.1.2.1 y.1.2.2.2.1.2.1 y.2.2.1) E).2.1,f,r0,(hal,((k+1:Nat):Int),cyc+E.1.2.2.2.1,hnd+b,rst),(qeF y.1.1 y.1.2.1 y.1.2.2.2.2.2.1 (qch y.1.2.1 y.1.2.2.2.1.2.1 y.2.2.1) E).2.2)=some (0,(qos y G1.2.2 C1).1,f,r0,(hal,((k+1:Nat):Int)+((G1.1.length:Nat):Int),cyc+E.1.2.2.2.1+qmd G1.1,hnd+b+G1.2.1,rst),(qos y G1.2.2 C1).2):=fun b hb=>by
    have:=ih (k+1) (cyc+E.1.2.2.2.1) (hnd+b) (qeF y.1.1 y.1.2.1 y.1.2.2.2.2.2.1 (qch y.1.2.1 y.1.2.2.2.1.2.1 y.2.2.1) E).2 (by omega) hw' (by omega) (by omega) (by omega) (by omega)
    rw[hG1,hC1]
    exact this
   have hnow:qeN f k=(bif f.2.1==(k:Int) then f else qdk):=rfl
   cases hb1:(y.1.2.2.2.1.2.1==y.1.1.2.1) with
   |true =>
    cases hb2:(f.2.1==(k:Int)) with
    |true =>
     rw[hb2] at hnow
     simp only[cond_true] at hnow
     rw[hnow] at hE
     refine(qcr (s':=((qeF y.1.1 y.1.2.1 y.1.2.2.2.2.2.1 (qch y.1.2.1 y.1.2.2.2.1.2.1 y.2.2.1) E).2.1,f,r0,(hal,((k+1:Nat):Int),cyc+E.1.2.2.2.1,hnd+1,rst),(qeF y.1.1 y.1.2.1 y.1.2.2.2.2.2.1 (qch y.1.2.1 y.1.2.2.2.1.2.1 y.2.2.1) E).2.2)) ((qd hlt).trans ((qd hb1).trans ((qd hb2).trans ((qd (hG _)).trans (by rw[hV,hE,w1,w2,w3];rfl)))))).trans ?_
     refine(fin 1 (.inr rfl)).trans ?_
     exact qxC (by simp only[List.length_cons];omega) (Int.add_assoc _ _ _) (Int.add_assoc _ _ _)
    |false =>
     rw[hb2] at hnow
     simp only[cond_false] at hnow
     rw[hnow] at hE
     refine(qcr (s':=((qeF y.1.1 y.1.2.1 y.1.2.2.2.2.2.1 (qch y.1.2.1 y.1.2.2.2.1.2.1 y.2.2.1) E).2.1,f,r0,(hal,((k+1:Nat):Int),cyc+E.1.2.2.2.1,hnd+1,rst),(qeF y.1.1 y.1.2.1 y.1.2.2.2.2.2.1 (qch y.1.2.1 y.1.2.2.2.1.2.1 y.2.2.1) E).2.2)) ((qd hlt).trans ((qd hb1).trans ((qu hb2).trans ((qd (hG _)).trans (by rw[hV,hE,w1,w2,w3];rfl)))))).trans ?_
     refine(fin 1 (.inr rfl)).trans ?_
     exact qxC (by simp only[List.length_cons];omega) (Int.add_assoc _ _ _) (Int.add_assoc _ _ _)
   |false =>
    cases hb2:(f.2.1==(k:Int)) with
    |true =>
     rw[hb2] at hnow
     simp only[cond_true] at hnow
     rw[hnow] at hE
     refine(qcr (s':=((qeF y.1.1 y.1.2.1 y.1.2.2.2.2.2.1 (qch y.1.2.1 y.1.2.2.2.1.2.1 y.2.2.1) E).2.1,f,r0,(hal,((k+1:Nat):Int),cyc+E.1.2.2.2.1,hnd+0,rst),(qeF y.1.1 y.1.2.1 y.1.2.2.2.2.2.1 (qch y.1.2.1 y.1.2.2.2.1.2.1 y.2.2.1) E).2.2)) ((qd hlt).trans ((qu hb1).trans ((qd hb2).trans ((qd (hG _)).trans (by rw[hV,hE,w1,w2];simp only[Int.add_zero];rfl)))))).trans ?_
     refine(fin 0 (.inl rfl)).trans ?_
     exact qxC (by simp only[List.length_cons];omega) (Int.add_assoc _ _ _) (Int.add_assoc _ _ _)
    |false =>
     rw[hb2] at hnow
     simp only[cond_false] at hnow
     rw[hnow] at hE
     refine(qcr (s':=((qeF y.1.1 y.1.2.1 y.1.2.2.2.2.2.1 (qch y.1.2.1 y.1.2.2.2.1.2.1 y.2.2.1) E).2.1,f,r0,(hal,((k+1:Nat):Int),cyc+E.1.2.2.2.1,hnd+0,rst),(qeF y.1.1 y.1.2.1 y.1.2.2.2.2.2.1 (qch y.1.2.1 y.1.2.2.2.1.2.1 y.2.2.1) E).2.2)) ((qd hlt).trans ((qu hb1).trans ((qu hb2).trans ((qd (hG _)).trans (by rw[hV,hE,w1,w2];simp only[Int.add_zero];rfl)))))).trans ?_
     refine(fin 0 (.inl rfl)).trans ?_
     exact qxC (by simp only[List.length_cons];omega) (Int.add_assoc _ _ _) (Int.add_assoc _ _ _)
abbrev qeI:List Sh:=[.box 0 0,.ty qB,.ty (.int .i64),.fn 22 (.ty .unit)]
abbrev qeH:List Sh:=[qt1,qfZ 3,.rowc qbv,.rowc (.int .u8)]
abbrev qhd:Sh:=Sh.ty qcc
abbrev qjR:List Sh:=[Sh.pair (Sh.ty (Ty.pair (Ty.int IntKind.i64) (Ty.pair (Ty.int IntKind.i64) (Ty.pair qee (Ty.pair (Ty.int IntKind.i64) Ty.unit))))) (Sh.pair (Sh.ty Ty.str) (Sh.pair (Sh.box 1 0) (Sh.pair (Sh.ty qC) (Sh.pair (Sh.ty Ty.bool) (Sh.pair (Sh.win 2 (Ty.pair q9 (Ty.pair (Ty.int IntKind.i64) (Ty.pair Ty.bool (Ty.pair Ty.bool Ty.unit))))) (Sh.ty Ty.unit)))))),Sh.pair (Sh.ty (Ty.sl qhN)) (Sh.pair (Sh.wsl none 3 (Ty.int IntKind.u8)) (Sh.ty Ty.unit)),Sh.rowc (Ty.pair q9 (Ty.pair (Ty.int IntKind.i64) (Ty.pair Ty.bool (Ty.pair Ty.bool Ty.unit)))),Sh.rowc (Ty.int IntKind.u8)]
def qkl (x:qk qeI) (y:qk qeH):PO (Sh.den qhd×qk qjR) :=
 (.opt (LoopN.res qn3 ((),x.2.2.1,x.2.2.2,(),(),()) ((y.1.1,y.1.2.1,(),y.1.2.2.2),x.2.1,(false,0,0,0,0,0,[],[],[],()),(false,0,0,0,0,0,[],[],[],()),y.2)) fun p0 =>
  (.ret ((p0.2.1.2.2.2.2.1,p0.2.2.2.2.1.2),((p0.2.1.1,p0.2.1.2.1,(),p0.2.1.2.2.2),p0.2.2.2.2.2.1,p0.2.2.2.2.2.2.1,p0.2.2.2.2.2.2.2))))
def qhe (x:qk qeI) (y:qk qeH):Bool:=decide (MachWf y∧(show Int from x.2.2.1)≤67108864)
def qgd (x:qB.den×Int) (y:MS):qcc.den:=((goX y.1.1 y.1.2.1 x.1 x.2.toNat 0 (qZ y)).2.2.2.1,((goX y.1.1 y.1.2.1 x.1 x.2.toNat 0 (qZ y)).1.length:Int),qmd (goX y.1.1 y.1.2.1 x.1 x.2.toNat 0 (qZ y)).1,(goX y.1.1 y.1.2.1 x.1 x.2.toNat 0 (qZ y)).2.1,0,0,[],[],[],())
def qbe (x:qB.den×Int) (y:MS):MS:=qos y (goX y.1.1 y.1.2.1 x.1 x.2.toNat 0 (qZ y)).2.2 (qll y.1.1 y.1.2.1 x.1 x.2.toNat 0 (qZ y) y.2.2.1)
abbrev qkj (x:qk qeI) (y:qk qeH):Sh.den qhd×qk qjR:=(qgd (x.2.1,x.2.2.1) y,qbe (x.2.1,x.2.2.1) y)
theorem qt6 (x:qk qeI) (y:qk qeH) (h:qhe x y=true):(qkl x y).val=some (qkj x y):=by
 obtain⟨hw,hb⟩:=of_decide_eq_true h
 obtain⟨u,f,budget,u'⟩:=x
 have hb:budget≤67108864:=hb
 unfold qkl
 have key:LoopN.res qn3 ((),budget,u',(),(),()) ((y.1.1,y.1.2.1,(),y.1.2.2.2),f,(false,0,0,0,0,0,[],[],[],()),(false,0,0,0,0,0,[],[],[],()),y.2) =
   some (0,(qbe (f,budget) y).1,f,(false,0,0,0,0,0,[],[],[],()),(false,((goX y.1.1 y.1.2.1 f budget.toNat 0 (qZ y)).1.length:Int),qmd (goX y.1.1 y.1.2.1 f budget.toNat 0 (qZ y)).1,(goX y.1.1 y.1.2.1 f budget.toNat 0 (qZ y)).2.1,0,0,[],[],[],()),(qbe (f,budget) y).2):=by
  rcases Int.lt_or_le budget 0 with h0 |h0
  ·unfold LoopN.res
   have e:budget.toNat=0:=by omega
   show qcE _ (budget.toNat+1) _=_
   unfold qbe
   rw[e]
   refine(qbk ((qu ?_).trans rfl)).trans rfl
   show(!y.1.2.2.2.2.1&&decide ((0:Int)<budget))=false
   rw[qS (show ¬(0:Int)<budget by omega),Bool.and_false]
  ·have:=qJf f budget hb (false,0,0,0,0,0,[],[],[],()) (0,0,[],[],[],()) false ((),budget,u',(),(),()) rfl ((y.1.1,y.1.2.1,(),y.1.2.2.2),f,(false,0,0,0,0,0,[],[],[],()),(false,0,0,0,0,0,[],[],[],()),y.2) budget.toNat 0 0 0 y (by omega) hw (by omega) (by omega) (by omega) (by omega)
   unfold LoopN.res
   refine Eq.trans ?_ (this.trans (qxC (Int.zero_add _) (Int.zero_add _) (Int.zero_add _)))
   rfl
 exact(qde key).trans rfl
end Go.Av
end
section
namespace Go.Av
open Go
abbrev qsr:List Ty:=[.str]
abbrev quq:Sh:=Sh.tup (Sh.pair (Sh.ty (Ty.int IntKind.i64)) (Sh.pair (Sh.ty Ty.bool) (Sh.ty Ty.unit)))
def qod (x:qc qsr):PO (Sh.den quq) :=
 (.ite (qg x != 4)
  (.ret ((0,false,())))
  (.ite (inRange 0 (List.length x)&&true)
  (.ite (inRange 1 (List.length x)&&true)
   (.ite (inRange 2 (List.length x)&&true)
   (.ite (inRange 3 (List.length x)&&true)
    (.ret ((bor IntKind.i64 (bor IntKind.i64 (bor IntKind.i64 (bor IntKind.i64 0 (qz IntKind.i64 (w64 (u8I (List.getD x (Int.toNat 0) 0))) 0)) (qz IntKind.i64 (w64 (u8I (List.getD x (Int.toNat 1) 0))) 8)) (qz IntKind.i64 (w64 (u8I (List.getD x (Int.toNat 2) 0))) 16)) (qz IntKind.i64 (w64 (u8I (List.getD x (Int.toNat 3) 0))) 24),true,())))
    .fail)
   .fail)
   .fail)
  .fail))
def qor (x:qc qsr):Bool:=(qod x).val.isSome
def qp1 (x:qc qsr):Sh.den quq:=(qod x).qP default
theorem qLI (x:qc qsr) (h:qor x=true):(qod x).val=some (qp1 x):=PO.qb4 default h
abbrev qmQ:List Ty:=[(.int .i64),(.int .i64)]
abbrev qpn:Sh:=Sh.ty Ty.bool
def qpx (x:qc qmQ):PO (Sh.den qpn) :=
 (.ret (decide (x.1≥64)&&(decide (x.1<x.2)&&qbF IntKind.i64 x.1 1==0)))
def qsN (_:qc qmQ):Bool:=true
def qcg (x:qc qmQ):Sh.den qpn:=(qpx x).qP default
theorem qAS (x:qc qmQ) (_:qsN x=true):(qpx x).val=some (qcg x):=PO.qb1 default (by simp[qpx,PO.sure])
abbrev qqI:List Ty:=[.str,(.int .i64)]
abbrev qth:Sh:=Sh.ty (Ty.int IntKind.i64)
def qmv (x:qc qqI):PO (Sh.den qth) :=
 (.ite (decide (0≤w64 (w64 (4*x.2)+4))&&decide (w64 (w64 (4*x.2)+4)≤qg x.1)&&decide (0≤w64 (4*x.2))&&decide (w64 (4*x.2)≤w64 (w64 (4*x.2)+4))&&qor (List.drop (Int.toNat (w64 (4*x.2))) (List.take (Int.toNat (w64 (w64 (4*x.2)+4))) x.1)))
  (.ret ((qp1 (List.drop (Int.toNat (w64 (4*x.2))) (List.take (Int.toNat (w64 (w64 (4*x.2)+4))) x.1))).1))
  .fail)
def qe6 (x:qc qqI):Bool:=(qmv x).val.isSome
def qbh (x:qc qqI):Sh.den qth:=(qmv x).qP default
theorem qJh (x:qc qqI) (h:qe6 x=true):(qmv x).val=some (qbh x):=PO.qb4 default h
abbrev qm1:List Ty:=[qcH,(.int .i64)]
abbrev qps:Sh:=Sh.ty (Ty.int IntKind.i64)
def qkn (x:qc qm1):PO (Sh.den qps) :=
 (.ite (qba (x.1.2.2.1,x.2) != 0)
  (.ret (qba (x.1.2.2.1,x.2)))
  (.ite (decide (x.1.2.2.2.1<0)||(decide (x.1.2.2.2.1≥3)||(!qcg (x.1.1,x.2)||true)))
  (.ite (decide (x.1.2.2.2.1<0)||(decide (x.1.2.2.2.1≥3)||(!qcg (x.1.1,x.2)||!qcg (x.1.2.1,x.2))))
   (.ret (2))
   (.ret (0)))
  .fail))
def qsC (_:qc qm1):Bool:=true
def qdI (x:qc qm1):Sh.den qps:=(qkn x).qP default
theorem qAM (x:qc qm1) (_:qsC x=true):(qkn x).val=some (qdI x):=PO.qrB default (by simp[qkn,PO.qxA])
abbrev qmO:List Ty:=[qcH]
abbrev qpr:Sh:=Sh.ty (Ty.arr 16 (Ty.int IntKind.i64))
def qpj (x:qc qmO):PO (Sh.den qpr) :=
 (.ret (List.set (List.set (List.set (List.set (List.set (List.set (List.set (List.set (List.set (List.set (List.set (List.set (List.set (List.set (List.set (List.set (List.set (List.set (List.set (List.set (List.set (List.set [0,0,0,0,0,0,0,0,0,0,0,0,0,0,0,0] (Int.toNat 0) (bor IntKind.i64 x.2.1 1)) (Int.toNat 1) (bor IntKind.i64 x.2.1 1)) (Int.toNat 2) (bor IntKind.i64 x.2.1 1)) (Int.toNat 3) (bor IntKind.i64 x.2.1 1)) (Int.toNat 4) (bor IntKind.i64 x.2.1 1)) (Int.toNat 5) (bor IntKind.i64 x.2.1 1)) (Int.toNat 6) (bor IntKind.i64 x.2.1 1)) (Int.toNat 7) (bor IntKind.i64 x.2.1 1)) (Int.toNat 8) (bor IntKind.i64 x.2.1 1)) (Int.toNat 9) (bor IntKind.i64 x.2.1 1)) (Int.toNat 10) (bor IntKind.i64 x.2.1 1)) (Int.toNat 11) (bor IntKind.i64 x.2.1 1)) (Int.toNat 12) (bor IntKind.i64 x.2.1 1)) (Int.toNat 13) (bor IntKind.i64 x.2.1 1)) (Int.toNat 14) (bor IntKind.i64 x.2.1 1)) (Int.toNat 15) (bor IntKind.i64 x.2.1 1)) 0 537133056) 1 (bor IntKind.i64 x.1 1)) 7 x.2.2.1.1) 8 x.2.2.1.2.1) 9 x.2.2.1.2.2.1) 10 x.2.2.2.1))
def qsz (_:qc qmO):Bool:=true
def qdj (x:qc qmO):Sh.den qpr:=(qpj x).qP default
theorem qAR (x:qc qmO) (_:qsz x=true):(qpj x).val=some (qdj x):=PO.qb1 default (by simp[qpj,PO.sure])
def qlg:LoopN where
 M:=[0,2,3,4,34,35]
 T:=[5,6,36,37,38,39,40,41,42,43,44,45]
 D:=[0,34,35]
 ss:=[.ty .str,.box 0 0,.ty (.int .i64),.box 1 0,.ty (.arr 16 (.int .i64)),.ty (.int .i64)]
 hs:=[(.ty qcH),(.ty qcH)]
 es:=[.exit 0,.ret]
 σ:=(Ty.den (.int .i64))×(Ty.den (.int .i64))×(Sh.den ((.ty qcH)))×(Sh.den ((.ty qcH)))
 x0:=fun x y=>(x.2.2.1,x.2.2.2.2.2,y.1,y.2)
 put:=fun x _ s=>((x.1,x.2.1,s.1,x.2.2.2.1,x.2.2.2.2.1,s.2.1),(s.2.2.1,s.2.2.2))
 fuel:=fun _ _=>17
 turn:=fun x _ s =>
 (.ite (decide (s.2.1<16))
  (.ite (inRange s.2.1 16)
  (.ite (qe6 (x.1,s.2.1))
   (.ite (qbh (x.1,s.2.1) != List.getD x.2.2.2.2.1 (Int.toNat s.2.1) (Ty.dflt (Ty.int IntKind.i64)))
   (.ret (.out 1 (4,s.2.1,(0,0,(0,0,0,()),0,()),s.2.2.2)))
   (.ret (.on (s.1,w64 (s.2.1+1),s.2.2.1,s.2.2.2))))
   .fail)
  .fail)
  (.ret (.out 0 (s.1,s.2.1,s.2.2.1,s.2.2.2))))
theorem qOH (s:List UInt8):qor s=true:=by
 unfold qor qod
 cases h:(qg s != 4)
 ·have hl:List.length s=4:=by
   simp only[qg,bne_eq_false_iff_eq] at h
   omega
  rw[qu rfl,qd (by rw[show(0:Int)=((0:Nat):Int) from rfl,inR (by omega)];rfl),qd (by rw[show(1:Int)=((1:Nat):Int) from rfl,inR (by omega)];rfl),qd (by rw[show(2:Int)=((2:Nat):Int) from rfl,inR (by omega)];rfl),qd (by rw[show(3:Int)=((3:Nat):Int) from rfl,inR (by omega)];rfl)]
  rfl
 ·rw[qd rfl]
  rfl
theorem qy8 (s:List UInt8) (k:Nat) (hk:k<16) (hs:64≤s.length):qe6 (s,(k:Int))=true:=by
 unfold qe6 qmv
 have e1:w64 (4*(k:Int))=4*(k:Int):=qt (by omega) (by omega)
 have e2:w64 (4*(k:Int)+4)=4*(k:Int)+4:=qt (by omega) (by omega)
 rw[qd (by
  dsimp only
  rw[e1,e2,qOH]
  simp only[qg,Bool.and_eq_true,decide_eq_true_eq,Bool.and_true]
  exact⟨⟨⟨by omega,by omega⟩,by omega⟩,by omega⟩)]
 rfl
def qd5 (s:List UInt8):qcH.den:=(w64 (qbh (s,1)-1),w64 (qbh (s,3)-1),(qbh (s,7),qbh (s,8),qbh (s,9),()),qbh (s,10),())
abbrev qtB:qcH.den:=(0,0,(0,0,0,()),0,())
def qmP (s:List UInt8) (fr:List Int) (i:Nat):Bool:=!(qbh (s,(i:Int)) != List.getD fr (Int.toNat (i:Int)) (Ty.dflt (Ty.int IntKind.i64)))
def qL (s:List UInt8):qcH.den×Int×Unit :=
 bif decide (qg s<64) then(qtB,3,())
 else bif qdI (qd5 s,qg s) != 0 then(qtB,4,())
 else bif (List.range' 0 16).all (qmP s (qdj (qd5 s))) then(qd5 s,0,()) else(qtB,4,())
theorem qNo (s:List UInt8) (fr:List Int) (h z:qcH.den) (hs:64≤s.length):∀(n i:Nat),i+n=16→∃j:Int,
  qcE (qlg.turn (s,(),0,(),fr,0) (z,h)) (n+1) (0,(i:Int),z,h)=some (bif (List.range' i n).all (qmP s fr) then(0,(0,16,z,h)) else(1,(4,j,qtB,h)))
 |0,i,hi=>⟨0,(qbk ((qu (qS (show ¬(i:Int)<16 by omega))).trans rfl)).trans (by
   have:i=16:=by omega
   subst this
   rfl)⟩
 |n+1,i,hi=>by
  have hlt:decide ((i:Int)<16)=true:=qJ (by omega)
  have hin:inRange (i:Int) 16=true:=inR (by omega)
  have hg:=qy8 s i (by omega) hs
  cases hw:qmP s fr i with
  |true =>
   obtain⟨j,hj⟩:=qNo s fr h z hs n (i+1) (by omega)
   refine⟨j,(qcr (s':=(0,((i+1:Nat):Int),z,h)) ((qd hlt).trans ((qd hin).trans ((qd hg).trans ((qu ?_).trans ?_))))).trans (hj.trans ?_)⟩
   ·unfold qmP at hw
    exact Bool.not_eq_true' _ |>.mp hw
   ·show some (TL.on (0,w64 ((i:Int)+1),z,h))=_
    rw[qt (by omega) (by omega)]
    rfl
   ·rw[List.range'_succ,List.all_cons,hw,Bool.true_and]
  |false =>
   refine⟨i,(qbk ((qd hlt).trans ((qd hin).trans ((qd hg).trans ((qd ?_).trans rfl))))).trans ?_⟩
   ·unfold qmP at hw
    exact Bool.not_eq_false' _ |>.mp hw
   ·rw[List.range'_succ,List.all_cons,hw,Bool.false_and]
    rfl
abbrev qmM:List Ty:=[.str]
abbrev qpF:Sh:=Sh.tup (Sh.pair (Sh.ty (Ty.pair (Ty.int IntKind.i64) (Ty.pair (Ty.int IntKind.i64) (Ty.pair qee (Ty.pair (Ty.int IntKind.i64) Ty.unit))))) (Sh.pair (Sh.ty (Ty.int IntKind.i64)) (Sh.ty Ty.unit)))
def qpp (x:qc qmM):PO (Sh.den qpF) :=
 (.ite (decide (qg x<64))
  (.ret (((0,0,(0,0,0,()),0,()),3,())))
  (.ite (qe6 (x,1))
  (.ite (qe6 (x,3))
   (.ite (qe6 (x,10))
   (.ite (qe6 (x,7))
    (.ite (qe6 (x,8))
    (.ite (qe6 (x,9))
     (.ite (qdI ((w64 (qbh (x,1)-1),w64 (qbh (x,3)-1),(qbh (x,7),qbh (x,8),qbh (x,9),()),qbh (x,10),()),qg x) != 0)
     (.ret (((0,0,(0,0,0,()),0,()),4,())))
     (.opt (LoopN.res qlg (x,(),0,(),qdj (w64 (qbh (x,1)-1),w64 (qbh (x,3)-1),(qbh (x,7),qbh (x,8),qbh (x,9),()),qbh (x,10),()),0) ((0,0,(0,0,0,()),0,()),w64 (qbh (x,1)-1),w64 (qbh (x,3)-1),(qbh (x,7),qbh (x,8),qbh (x,9),()),qbh (x,10),())) fun p0 =>
      (.ite (way p0.1)
      (.ret ((p0.2.2.2.2,0,())))
      (.ret ((p0.2.2.2.1,p0.2.1,()))))))
     .fail)
    .fail)
    .fail)
   .fail)
   .fail)
  .fail))
def qpk (_:qc qmM):Bool:=true
def qO (x:qc qmM):Sh.den qpF:=qL x
theorem qNn (s:List UInt8):(qpp s).val=some (qL s):=by
 unfold qpp qL
 cases h1:decide (qg s<64)
 ·have hs:64≤s.length:=by
   simp only[qg,decide_eq_false_iff_not] at h1
   omega
  have a:=fun k hk=>qy8 s k hk hs
  refine(qu rfl).trans ((qd (a 1 (by omega))).trans ((qd (a 3 (by omega))).trans ((qd (a 10 (by omega))).trans ((qd (a 7 (by omega))).trans ((qd (a 8 (by omega))).trans ((qd (a 9 (by omega))).trans ?_))))))
  show(PO.ite (qdI (qd5 s,qg s) != 0) _ _).val=_
  cases h2:(qdI (qd5 s,qg s) != (0:Int))
  ·obtain⟨j,hj⟩:=qNo s (qdj (qd5 s)) (qd5 s) qtB hs 16 0 (by omega)
   refine(qu rfl).trans ?_
   have hres:LoopN.res qlg (s,(),0,(),qdj (qd5 s),0) (qtB,qd5 s)=_:=hj
   refine(qde hres).trans ?_
   cases (List.range' 0 16).all (qmP s (qdj (qd5 s)))
   ·exact(qu rfl).trans rfl
   ·exact(qd rfl).trans rfl
  ·exact(qd rfl).trans rfl
 ·exact(qd rfl).trans rfl
theorem qBl (x:qc qmM) (_:qpk x=true):(qpp x).val=some (qO x):=qNn x
end Go.Av
end
section
namespace Go.Av
open Go
def qi0:LoopN where
 M:=[3,6,8,9,10]
 T:=[12,37,38,39,40,41,42,43,44,45,46,47,48,49,50,51,52,53,54,55,56]
 D:=[3,6,10]
 ss:=[.ty (.int .i64),.box 0 0,.box 1 0,.ty (.int .i64),.box 2 0]
 hs:=[(.ty qB),(.ty qcc),(qm6 3 4),(qfZ 5),.rowc qbv,.rowc (.int .u8)]
 es:=[.ret]
 σ:=(Ty.den (.int .i64))×(Sh.den ((.ty qB)))×(Sh.den ((.ty qcc)))×(Sh.den ((qm6 3 4)))×(Sh.den ((qfZ 5)))×(Sh.den (.rowc qbv))×(Sh.den (.rowc (.int .u8)))
 x0:=fun x y=>(x.2.2.2.1,y.1,y.2.1,y.2.2.1,y.2.2.2.1,y.2.2.2.2.1,y.2.2.2.2.2)
 put:=fun x _ s=>((x.1,x.2.1,x.2.2.1,s.1,x.2.2.2.2),(s.2.1,s.2.2.1,s.2.2.2.1,s.2.2.2.2.1,s.2.2.2.2.2.1,s.2.2.2.2.2.2))
 fuel:=fun _ _=>1
 turn:=fun x _ s =>
 (.ite (qhe ((),s.2.1,x.1,()) ((s.2.2.2.1.1,s.2.2.2.1.2.1,(),s.2.2.2.1.2.2.2),s.2.2.2.2))
  (.ite (qeG ((),537919488) (((qbe (s.2.1,x.1) ((s.2.2.2.1.1,s.2.2.2.1.2.1,(),s.2.2.2.1.2.2.2),s.2.2.2.2)).1.1,(qbe (s.2.1,x.1) ((s.2.2.2.1.1,s.2.2.2.1.2.1,(),s.2.2.2.1.2.2.2),s.2.2.2.2)).1.2.1,(),(qbe (s.2.1,x.1) ((s.2.2.2.1.1,s.2.2.2.1.2.1,(),s.2.2.2.1.2.2.2),s.2.2.2.2)).1.2.2.2),(qbe (s.2.1,x.1) ((s.2.2.2.1.1,s.2.2.2.1.2.1,(),s.2.2.2.1.2.2.2),s.2.2.2.2)).2))
  (.ite (qeG ((),538968064) (((qbe (s.2.1,x.1) ((s.2.2.2.1.1,s.2.2.2.1.2.1,(),s.2.2.2.1.2.2.2),s.2.2.2.2)).1.1,(qbe (s.2.1,x.1) ((s.2.2.2.1.1,s.2.2.2.1.2.1,(),s.2.2.2.1.2.2.2),s.2.2.2.2)).1.2.1,(),(qbe (s.2.1,x.1) ((s.2.2.2.1.1,s.2.2.2.1.2.1,(),s.2.2.2.1.2.2.2),s.2.2.2.2)).1.2.2.2),(qbe (s.2.1,x.1) ((s.2.2.2.1.1,s.2.2.2.1.2.1,(),s.2.2.2.1.2.2.2),s.2.2.2.2)).2))
   (.ret (.out 0 (0,s.2.1,((qgd (s.2.1,x.1) ((s.2.2.2.1.1,s.2.2.2.1.2.1,(),s.2.2.2.1.2.2.2),s.2.2.2.2)).1,(qgd (s.2.1,x.1) ((s.2.2.2.1.1,s.2.2.2.1.2.1,(),s.2.2.2.1.2.2.2),s.2.2.2.2)).2.1,(qgd (s.2.1,x.1) ((s.2.2.2.1.1,s.2.2.2.1.2.1,(),s.2.2.2.1.2.2.2),s.2.2.2.2)).2.2.1,(qgd (s.2.1,x.1) ((s.2.2.2.1.1,s.2.2.2.1.2.1,(),s.2.2.2.1.2.2.2),s.2.2.2.2)).2.2.2.1,qtO 537919488 ((qbe (s.2.1,x.1) ((s.2.2.2.1.1,s.2.2.2.1.2.1,(),s.2.2.2.1.2.2.2),s.2.2.2.2)).2.1,(qbe (s.2.1,x.1) ((s.2.2.2.1.1,s.2.2.2.1.2.1,(),s.2.2.2.1.2.2.2),s.2.2.2.2)).2.2.2),qtO 538968064 ((qbe (s.2.1,x.1) ((s.2.2.2.1.1,s.2.2.2.1.2.1,(),s.2.2.2.1.2.2.2),s.2.2.2.2)).2.1,(qbe (s.2.1,x.1) ((s.2.2.2.1.1,s.2.2.2.1.2.1,(),s.2.2.2.1.2.2.2),s.2.2.2.2)).2.2.2),(qmy 2 ((qbe (s.2.1,x.1) ((s.2.2.2.1.1,s.2.2.2.1.2.1,(),s.2.2.2.1.2.2.2),s.2.2.2.2)).2.1,(qbe (s.2.1,x.1) ((s.2.2.2.1.1,s.2.2.2.1.2.1,(),s.2.2.2.1.2.2.2),s.2.2.2.2)).2.2.2)).1,(qmy 3 ((qbe (s.2.1,x.1) ((s.2.2.2.1.1,s.2.2.2.1.2.1,(),s.2.2.2.1.2.2.2),s.2.2.2.2)).2.1,(qbe (s.2.1,x.1) ((s.2.2.2.1.1,s.2.2.2.1.2.1,(),s.2.2.2.1.2.2.2),s.2.2.2.2)).2.2.2)).1,(qmy 4 ((qbe (s.2.1,x.1) ((s.2.2.2.1.1,s.2.2.2.1.2.1,(),s.2.2.2.1.2.2.2),s.2.2.2.2)).2.1,(qbe (s.2.1,x.1) ((s.2.2.2.1.1,s.2.2.2.1.2.1,(),s.2.2.2.1.2.2.2),s.2.2.2.2)).2.2.2)).1,(qgd (s.2.1,x.1) ((s.2.2.2.1.1,s.2.2.2.1.2.1,(),s.2.2.2.1.2.2.2),s.2.2.2.2)).2.2.2.2.2.2.2.2.2),((qbe (s.2.1,x.1) ((s.2.2.2.1.1,s.2.2.2.1.2.1,(),s.2.2.2.1.2.2.2),s.2.2.2.2)).1.1,(qbe (s.2.1,x.1) ((s.2.2.2.1.1,s.2.2.2.1.2.1,(),s.2.2.2.1.2.2.2),s.2.2.2.2)).1.2.1,(),(qbe (s.2.1,x.1) ((s.2.2.2.1.1,s.2.2.2.1.2.1,(),s.2.2.2.1.2.2.2),s.2.2.2.2)).1.2.2.2),(qbe (s.2.1,x.1) ((s.2.2.2.1.1,s.2.2.2.1.2.1,(),s.2.2.2.1.2.2.2),s.2.2.2.2)).2.1,(qbe (s.2.1,x.1) ((s.2.2.2.1.1,s.2.2.2.1.2.1,(),s.2.2.2.1.2.2.2),s.2.2.2.2)).2.2.1,(qbe (s.2.1,x.1) ((s.2.2.2.1.1,s.2.2.2.1.2.1,(),s.2.2.2.1.2.2.2),s.2.2.2.2)).2.2.2)))
   .fail)
  .fail)
  .fail)
theorem qI2 (h:qcH.den) (n:Int) (e:qdI (h,n)=0):qba (h.2.2.1,n)=0∧(64≤(show Int from h.1)∧(show Int from h.1)<n)∧64≤(show Int from h.2.1)∧(show Int from h.2.1)<n:=by
 obtain⟨rs,hn,sz,md,u⟩:=h
 unfold qdI PO.qP qkn at e
 cases h1:(qba (sz,n) != (0:Int)) with
 |true =>
  rw[qd h1] at e
  have e':qba (sz,n)=0:=e
  rw[e'] at h1
  cases h1
 |false =>
  rw[qu h1] at e
  have hc:qba (sz,n)=0:=by simpa using h1
  refine⟨hc,?_⟩
  rw[qd (by simp)] at e
  cases h2:(decide (md<0)||(decide (md≥3)||(!qcg (rs,n)||!qcg (hn,n)))) with
  |true =>
   rw[qd h2] at e
   cases e
  |false =>
   simp only[Bool.or_eq_false_iff,Bool.not_eq_false'] at h2
   have pl:∀a:Int,qcg (a,n)=true→64≤a∧a<n:=fun a ha=>by
    have ha:(decide (a≥64)&&(decide (a<n)&&qbF IntKind.i64 a 1==0))=true:=ha
    simp only[Bool.and_eq_true,decide_eq_true_eq] at ha
    exact⟨ha.1,ha.2.1⟩
   exact⟨pl rs h2.2.2.1,pl hn h2.2.2.2⟩
theorem qn8 (i o r n:Int) (e:qba ((i,o,r,()),n)=0):(0≤i∧i≤65536)∧(0≤o∧o≤65536)∧(4≤r∧r≤65536)∧n≤262144:=by
 unfold qba PO.qP qjA at e
 cases h1:(decide (i<0)||Int.tmod i 4 != 0) with
 |true=>rw[qd h1] at e;cases e
 |false =>
 rw[qu h1] at e
 cases h2:(decide (o<0)||Int.tmod o 4 != 0) with
 |true=>rw[qd h2] at e;cases e
 |false =>
 rw[qu h2] at e
 cases h3:(decide (r<0)||Int.tmod r 4 != 0) with
 |true=>rw[qd h3] at e;cases e
 |false =>
 rw[qu h3] at e
 cases h4:(decide (n<0)||decide (r<4)) with
 |true=>rw[qd h4] at e;cases e
 |false =>
 rw[qu h4] at e
 cases h5:(decide (n > 262144)||decide (i > 65536)||decide (o > 65536)||decide (r > 65536)) with
 |true=>rw[qd h5] at e;cases e
 |false =>
  simp only[Bool.or_eq_false_iff,decide_eq_false_iff_not] at h1 h2 h3 h4 h5
  omega
def qcO (sz:qee.den) (n:Int):List (Int×Int×Bool×Unit):=[(0,n,false,()),(536936448,sz.1,true,()),(537001984,sz.2.1,true,()),(537133056,sz.2.2.1,true,()),(537395200,sz.2.2.1,true,()),(537919488,4,true,()),(538968064,4,true,())]
theorem qEq (sz:qee.den) (n:Int) (e:qba (sz,n)=0):qY (sz,n)=(qcO sz n,0,()):=by
 unfold qY PO.qP qjT
 rw[qu (by rw[e];rfl)]
 rfl
theorem qv9 (i o r n:Int) (e:qba ((i,o,r,()),n)=0) (hn:0≤n):qq2 (qcO (i,o,r,()) n)∧(qcO (i,o,r,()) n).length=7∧qdy (qcO (i,o,r,()) n)<1000000:=by
 obtain⟨h1,h2,h3,h4⟩:=qn8 i o r n e
 refine⟨⟨by simp[qcO],fun x hx=>?_⟩,by simp[qcO],?_⟩
 ·simp only[qcO,List.mem_cons,List.not_mem_nil,or_false] at hx
  unfold qrT
  rcases hx with rfl |rfl |rfl |rfl |rfl |rfl |rfl<;>simp only<;>omega
 ·simp only[qcO,qdy]
  omega
abbrev qzP:qcc.den:=(false,0,0,0,0,0,[],[],[],())
def qce (hd:qcH.den) (img inp:List UInt8):MS :=
 ((hd,img,(),(List.set (List.set [0,0,0,0,0,0,0,0,0,0,0,0,0,0,0] 13 537133056) 14 (qgN 0),hd.1,false,false,false,false,()),false,(0,img.length / 2+1),()),(qIf (qcO hd.2.2.1 (qg img)) img inp).1,List.replicate (img.length / 2+1) dfF,(qIf (qcO hd.2.2.1 (qg img)) img inp).2)
def qA4 (y:MS) (f:qB.den) (budget:Int):qcc.den :=
 ((qgd (f,budget) y).1,(qgd (f,budget) y).2.1,(qgd (f,budget) y).2.2.1,(qgd (f,budget) y).2.2.2.1,qtO 537919488 (qbe (f,budget) y).mem,qtO 538968064 (qbe (f,budget) y).mem,(qmy 2 (qbe (f,budget) y).mem).1,(qmy 3 (qbe (f,budget) y).mem).1,(qmy 4 (qbe (f,budget) y).mem).1,())
def qg8 (img inp:List UInt8) (f:qB.den) (budget:Int):qcc.den×Int×Unit :=
 bif (qL img).2.1 != 0 then(qzP,(qL img).2.1,())
 else bif qg inp != (qL img).1.2.2.1.1 then(qzP,2,())
 else bif (q6 f != 0||(decide (budget<0)||decide (budget > 67108864))) then(qzP,2,())
 else(qA4 (qce (qL img).1 img inp) f budget,0,())
theorem qNv (hd:qcH.den) (fl:List UInt8) (f:qB.den) (hh:0≤(show Int from hd.2.1)∧(show Int from hd.2.1)<4294967296):∀(n:Nat) (k:Int) (s:qtG),MemWf s.2.2→List.length s.1.1=15 →
  MemWf (goX hd fl f n k s).2.2.2.2∧List.length (goX hd fl f n k s).2.2.1.1=15∧(goX hd fl f n k s).2.2.2.2.1=s.2.2.1
 |0,k,s,hm,hr=>⟨hm,hr,rfl⟩
 |n+1,k,s,hm,hr=>by
  rw[goX]
  cases s.2.1
  ·obtain⟨h1,h2,h3,h4,_⟩:=qok hd fl s.1 s.2.2 (qeN f k) hm hr hh
   obtain⟨g1,g2,g3⟩:=qNv hd fl f hh n (k+1) (qbP hd fl s.1 s.2.2 (qeN f k)).2 h3 h1
   exact⟨g1,g2,g3.trans h4⟩
  ·exact⟨hm,hr,rfl⟩
theorem qK4 {y:MS} (hy:MachWf y) (f:qB.den) (budget:Int):MemWf (qbe (f,budget) y).mem :=
 (qNv y.1.1 y.1.2.1 f hy.hand budget.toNat 0 (qZ y) hy.mem hy.regs).1
theorem qQS (y:MS) (hy:MachWf y) (f:qB.den) (budget:Int) (hb:budget≤67108864):∃z,LoopN.res qi0 (budget,(),(),0,()) (f,qzP,y.1,y.2.1,y.2.2.1,y.2.2.2)=some (0,0,f,qA4 y f budget,z):=by
 have hm:=qK4 hy f budget
 exact⟨qbe (f,budget) y,qbk ((qd (decide_eq_true ⟨hy,hb⟩)).trans ((qd (decide_eq_true ⟨hm,by decide⟩)).trans ((qd (decide_eq_true ⟨hm,by decide⟩)).trans rfl)))⟩
theorem qo7 (img:List UInt8) (h:((qL img).2.1 != (0:Int))=false):∃rs hn i o r md,(qL img).1=(rs,hn,(i,o,r,()),md,())∧qba ((i,o,r,()),qg img)=0∧(64≤rs∧rs<qg img)∧(64≤hn∧hn<qg img)∧qg img≤262144∧64≤img.length:=by
 unfold qL at h ⊢
 cases h1:decide (qg img<64) with
 |true=>rw[h1] at h;cases h
 |false =>
 rw[h1] at h
 simp only[cond_false] at h ⊢
 cases h2:(qdI (qd5 img,qg img) != (0:Int)) with
 |true=>rw[h2] at h;cases h
 |false =>
 rw[h2] at h
 simp only[cond_false] at h ⊢
 cases h3:(List.range' 0 16).all (qmP img (qdj (qd5 img))) with
 |false=>rw[h3] at h;cases h
 |true =>
 obtain⟨f1,f2,f3⟩:=qI2 (qd5 img) (qg img) (by simpa using h2)
 simp only[cond_true]
 generalize qd5 img=hd at *
 obtain⟨rs,hn,⟨i,o,r,u1⟩,md,u2⟩:=hd
 refine⟨rs,hn,i,o,r,md,rfl,f1,f2,f3,(qn8 i o r _ f1).2.2.2,?_⟩
 simp only[qg,decide_eq_false_iff_not] at h1
 omega
theorem qur (rs hn i o r md:Int) (img inp:List UInt8) (h1:qba ((i,o,r,()),qg img)=0) (h2:64≤rs∧rs<qg img) (h3:64≤hn∧hn<qg img) (h4:qg img≤262144):MachWf (qce (rs,hn,(i,o,r,()),md,()) img inp):=by
 obtain⟨g1,g2,g3⟩:=qv9 i o r (qg img) h1 (by simp only[qg];omega)
 exact{
  mem:=qPW _ img inp g1 (by show 2≤(qcO (i,o,r,()) (qg img)).length;omega)
  regs:=rfl
  pc:=⟨by show(0:Int)≤rs;omega,by show rs<(4294967296:Int);omega⟩
  hand:=⟨by show(0:Int)≤hn;omega,by show hn<(4294967296:Int);omega⟩
  len:=by show img.length≤262144;simp only[qg] at h4;omega
  win:=rfl
  cache:=⟨List.length_replicate,fun k hk hn=>by
   have e:List.getD (List.replicate (img.length / 2+1) dfF) k dfF=dfF:=by
    rw[List.getD_eq_getElem?_getD,List.getElem?_replicate]
    split<;>rfl
   rw[show(qce (rs,_,(i,o,r,()),md,()) img inp).2.2.1=List.replicate (img.length / 2+1) dfF from rfl,e] at hn
   cases hn⟩}
abbrev qmI:List Ty:=[.str,.str,qB,(.int .i64)]
abbrev qpC:Sh:=Sh.tup (Sh.pair (Sh.ty qcc) (Sh.pair (Sh.ty (Ty.int IntKind.i64)) (Sh.ty Ty.unit)))
def qsR (x:qc qmI):PO (Sh.den qpC) :=
 (.ite (qpk x.1)
  (.ite ((qO x.1).2.1 != 0)
  (.ite ((qO x.1).2.1 != 0)
   (.ret (((false,0,0,0,0,0,[],[],[],()),(qO x.1).2.1,())))
   (.ite (q6 x.2.2.1 != 0||(decide (x.2.2.2<0)||decide (x.2.2.2 > 67108864)))
   (.ret (((false,0,0,0,0,0,[],[],[],()),2,())))
   .fail))
  (.ite ((qY ((qO x.1).1.2.2.1,qg x.1)).2.1 != 0)
   (.ite ((qY ((qO x.1).1.2.2.1,qg x.1)).2.1 != 0)
   (.ite ((qY ((qO x.1).1.2.2.1,qg x.1)).2.1 != 0)
    (.ret (((false,0,0,0,0,0,[],[],[],()),(qY ((qO x.1).1.2.2.1,qg x.1)).2.1,())))
    (.ite (q6 x.2.2.1 != 0||(decide (x.2.2.2<0)||decide (x.2.2.2 > 67108864)))
    (.ret (((false,0,0,0,0,0,[],[],[],()),2,())))
    .fail))
   (.ite (qgE (w64 (w64 (Int.tdiv (qg x.1) 2)+1)) 80)
    (.ite (q6 x.2.2.1 != 0||(decide (x.2.2.2<0)||decide (x.2.2.2 > 67108864)))
    (.ret (((false,0,0,0,0,0,[],[],[],()),2,())))
    .fail)
    .fail))
   (.ite (qg x.2.1 != (qO x.1).1.2.2.1.1)
   (.ret (((false,0,0,0,0,0,[],[],[],()),2,())))
   (.opt (LoopN.res qjC (x.1,x.2.1,(qY ((qO x.1).1.2.2.1,qg x.1)).1,0,(qY ((qO x.1).1.2.2.1,qg x.1)).1,qg (qY ((qO x.1).1.2.2.1,qg x.1)).1,0) ()) fun p0 =>
    (.ite (qgE p0.2.1 1)
    (.opt (LoopN.res qiL (x.1,x.2.1,(),(0,qdT 0 p0.2.1),(qY ((qO x.1).1.2.2.1,qg x.1)).1,qg (qY ((qO x.1).1.2.2.1,qg x.1)).1,0) (((qY ((qO x.1).1.2.2.1,qg x.1)).1,[],()),zeros p0.2.1 0)) fun p1 =>
     (.ite (inRange 0 (List.length p1.2.2.2.1.2.1))
     (.ite (inRange 1 (List.length p1.2.2.2.1.2.1))
      (.ite (qgE (w64 (w64 (Int.tdiv (qg x.1) 2)+1)) 80)
      (.ite (q6 x.2.2.1 != 0||(decide (x.2.2.2<0)||decide (x.2.2.2 > 67108864)))
       (.ret (((false,0,0,0,0,0,[],[],[],()),2,())))
       (.opt (LoopN.res qi0 (x.2.2.2,(),(),0,()) (x.2.2.1,(false,0,0,0,0,0,[],[],[],()),((qO x.1).1,x.1,(),(List.set (List.set [0,0,0,0,0,0,0,0,0,0,0,0,0,0,0] 13 537133056) 14 (qgN 0),(qO x.1).1.1,false,false,false,false,()),false,(0,qdT 0 (w64 (w64 (Int.tdiv (qg x.1) 2)+1))),()),p1.2.2.2.1,zeros (w64 (w64 (Int.tdiv (qg x.1) 2)+1)) ((0,0,0,0,0,0,0,false,()),0,false,false,()),qei (qei p1.2.2.2.2 (wAt p1.2.2.2.1.2.1 0).1 (qdl x.1) (wAt p1.2.2.2.1.2.1 0).2) (wAt p1.2.2.2.1.2.1 1).1 (qdl x.2.1) (wAt p1.2.2.2.1.2.1 1).2)) fun p2 =>
       (.ret ((p2.2.2.2.1,p2.2.1,())))))
      .fail)
      .fail)
     .fail))
    .fail)))))
  .fail)
def qsH (_:qc qmI):Bool:=true
def qc3 (x:qc qmI):Sh.den qpC:=qg8 x.1 x.2.1 x.2.2.1 x.2.2.2
theorem qAO (x:qc qmI) (_:qsH x=true):(qsR x).val=some (qc3 x):=by
 obtain⟨img,inp,f,budget⟩:=x
 unfold qsR
 refine(qd rfl).trans ?_
 show _=some (qg8 img inp f budget)
 unfold qg8
 show(PO.ite ((qL img).2.1 != (0:Int)) _ _).val=_
 cases h1:((qL img).2.1 != (0:Int)) with
 |true=>exact(qd rfl).trans ((qd h1).trans rfl)
 |false =>
  refine(qu rfl).trans ?_
  obtain⟨rs,hn,i,o,r,md,e,f1,f2,f3,f4,f5⟩:=qo7 img h1
  have hreg:qY ((qO img).1.2.2.1,qg img)=(qcO (i,o,r,()) (qg img),0,()):=by
   show qY ((qL img).1.2.2.1,qg img)=_
   rw[e]
   exact qEq _ _ f1
  obtain⟨g1,g2,g3⟩:=qv9 i o r (qg img) f1 (by simp only[qg];omega)
  have g4:∀q∈qcO (i,o,r,()) (qg img),0≤q.2.1:=fun q hq=>(g1.2 q hq).2.1
  have hwf:=qur rs hn i o r md img inp f1 f2 f3 f4
  simp only[hreg]
  refine(qu rfl).trans ?_
  show(PO.ite (qg inp != (qL img).1.2.2.1.1) _ _).val=_
  simp only[cond_false]
  cases h2:(qg inp != (qL img).1.2.2.1.1) with
  |true=>exact(qd rfl).trans rfl
  |false =>
   refine(qu rfl).trans ((qde (r:=_) (qPH img inp (qcO (i,o,r,()) (qg img)) (by omega) g4 (by omega))).trans ?_)
   refine(qd ?_).trans ?_
   ·show qgE ((qdy (qcO (i,o,r,()) (qg img)):Nat):Int) 1=true
    simp only[qgE,Bool.and_eq_true,decide_eq_true_eq]
    omega
   have hsp:qdT 0 ((qdy (qcO (i,o,r,()) (qg img)):Nat):Int)=qdy (qcO (i,o,r,()) (qg img)):=by simp[qdT]
   have e15:=qMR img inp (qcO (i,o,r,()) (qg img)) (zeros ((qdy (qcO (i,o,r,()) (qg img)):Nat):Int) 0) (by omega) g4
   refine(qde (r:=_) (by dsimp only;rw[hsp];exact e15)).trans ?_
   have hw:(qbl 0 (qcO (i,o,r,()) (qg img))).length=7:=by rw[qpv,g2]
   have hlen:w64 (w64 (Int.tdiv (qg img) 2)+1)=((img.length / 2+1:Nat):Int):=by
    simp only[qg] at f4 ⊢
    rw[Int.tdiv_eq_ediv_of_nonneg (by omega),qt (n:=((img.length:Nat):Int) / 2) (by omega) (by omega),qt (by omega) (by omega)]
    omega
   refine(qd ?_).trans ((qd ?_).trans ((qd ?_).trans ?_))
   ·show inRange 0 (qbl 0 (qcO (i,o,r,()) (qg img))).length=true
    rw[hw]
    rfl
   ·show inRange 1 (qbl 0 (qcO (i,o,r,()) (qg img))).length=true
    rw[hw]
    rfl
   ·rw[hlen]
    simp only[qg] at f4
    simp only[qgE,Bool.and_eq_true,decide_eq_true_eq]
    omega
   ·simp only[cond_false]
    cases h3:(q6 f != 0||(decide (budget<0)||decide (budget > 67108864))) with
    |true=>exact(qd rfl).trans rfl
    |false =>
     have hb:(show Int from budget)≤67108864:=by
      simp only[Bool.or_eq_false_iff,decide_eq_false_iff_not] at h3
      exact Int.not_lt.1 h3.2.2
     obtain⟨z,hz⟩:=qQS _ hwf f budget hb
     refine(qu rfl).trans ?_
     rw[hlen]
     have hst:qce (qL img).1 img inp=qce (rs,hn,(i,o,r,()),md,()) img inp:=by rw[e]
     rw[hst]
     refine(qde (r:=(0,0,f,qA4 (qce (rs,hn,(i,o,r,()),md,()) img inp) f budget,z)) ?_).trans rfl
     refine Eq.trans ?_ hz
     show LoopN.res qi0 (budget,(),(),0,()) (f,qzP,((qL img).1,img,(),(_,(qL img).1.1,_),false,(0,qdT 0 ((img.length / 2+1:Nat):Int)),()),_,zeros ((img.length / 2+1:Nat):Int) dfF,_)=_
     rw[e]
     have hns:qdT 0 ((img.length / 2+1:Nat):Int)=img.length / 2+1:=by simp only[qdT];omega
     have hz2:zeros ((img.length / 2+1:Nat):Int) dfF=List.replicate (img.length / 2+1) dfF:=by unfold zeros;rw[Int.toNat_natCast]
     rw[hns,hz2]
     rfl
end Go.Av
end
section
namespace Go.Av
open Go
abbrev qgL:List Ty:=[]
abbrev qq3:Sh:=.ty .bool
def qqS (_:qc qgL):PO Bool:=.ret true
def qmi (_:qc qgL):Bool:=true
def qmj (_:qc qgL):Bool:=true
theorem qvc (x:qc qgL) (_:qmi x=true):(qqS x).val=some (qmj x):=rfl
end Go.Av
end
section
namespace Go.Av
open Go
def qoo:LoopN where
 M:=[0,2,3,5,8,9]
 T:=[10,11,12,13,14,15,16,17,18,19,20,21,22,23,24,25,26,27,28,29,30,31,32,33,34,35,36,37,38,39,40,41,42,43,44,45,46,47,48,49,50,51,52,53,54,55,56,57,58,59,60,61,62,63,64]
 D:=[2,3,5]
 ss:=[.box 0 0,.ty (.int .i64),.fn 28 (.pair (.box 1 0) (.ty .unit)),.box 2 0,.box 3 0,.box 4 0]
 hs:=[(qm6 5 6),(.osl 0 qcK),(.ty qB),(.ty qcc),(.ty qcc),(qfZ 7),.rowc qbv,.rowc (.int .u8)]
 es:=[.exit 0]
 σ:=(Sh.den ((qm6 5 6)))×(Sh.den ((.osl 0 qcK)))×(Sh.den ((.ty qB)))×(Sh.den ((.ty qcc)))×(Sh.den ((.ty qcc)))×(Sh.den ((qfZ 7)))×(Sh.den (.rowc qbv))×(Sh.den (.rowc (.int .u8)))
 x0:=fun _ y=>(y.1,y.2.1,y.2.2.1,y.2.2.2.1,y.2.2.2.2.1,y.2.2.2.2.2.1,y.2.2.2.2.2.2.1,y.2.2.2.2.2.2.2)
 put:=fun x _ s=>((x.1,x.2.1,x.2.2.1,x.2.2.2.1,x.2.2.2.2.1,x.2.2.2.2.2),(s.1,s.2.1,s.2.2.1,s.2.2.2.1,s.2.2.2.2.1,s.2.2.2.2.2.1,s.2.2.2.2.2.2.1,s.2.2.2.2.2.2.2))
 fuel:=fun x _=>Int.toNat x.2.1+1
 turn:=fun x _ s =>
 (.ite (!s.1.2.2.2.2.1&&decide (s.2.2.2.2.1.2.1<x.2.1))
  (.ite (s.1.2.2.2.1.2.1==s.1.1.2.1)
  (.ite (s.2.2.1.2.1==s.2.2.2.2.1.2.1)
   (.ite (qbG ((),s.2.2.1) ((s.1.1,s.1.2.1,(),s.1.2.2.2),s.2.2.2.2.2))
   (.ite (Nat.ble ((List.length s.2.1+List.length [(qh ((),s.2.2.1) ((s.1.1,s.1.2.1,(),s.1.2.2.2),s.2.2.2.2.2)).1.1])*32) 140737488355328)
    (.ret (.on (((qh ((),s.2.2.1) ((s.1.1,s.1.2.1,(),s.1.2.2.2),s.2.2.2.2.2)).2.1.1,(qh ((),s.2.2.1) ((s.1.1,s.1.2.1,(),s.1.2.2.2),s.2.2.2.2.2)).2.1.2.1,(),(qh ((),s.2.2.1) ((s.1.1,s.1.2.1,(),s.1.2.2.2),s.2.2.2.2.2)).2.1.2.2.2),s.2.1++[(qh ((),s.2.2.1) ((s.1.1,s.1.2.1,(),s.1.2.2.2),s.2.2.2.2.2)).1.1],s.2.2.1,s.2.2.2.1,(s.2.2.2.2.1.1,w64 (s.2.2.2.2.1.2.1+1),w64 (s.2.2.2.2.1.2.2.1+(qh ((),s.2.2.1) ((s.1.1,s.1.2.1,(),s.1.2.2.2),s.2.2.2.2.2)).1.1.2.2.2.1),w64 (s.2.2.2.2.1.2.2.2.1+1),s.2.2.2.2.1.2.2.2.2),(qh ((),s.2.2.1) ((s.1.1,s.1.2.1,(),s.1.2.2.2),s.2.2.2.2.2)).2.2.1,(qh ((),s.2.2.1) ((s.1.1,s.1.2.1,(),s.1.2.2.2),s.2.2.2.2.2)).2.2.2.1,(qh ((),s.2.2.1) ((s.1.1,s.1.2.1,(),s.1.2.2.2),s.2.2.2.2.2)).2.2.2.2)))
    .fail)
   .fail)
   (.ite (qbG ((),0,0,0,0,()) ((s.1.1,s.1.2.1,(),s.1.2.2.2),s.2.2.2.2.2))
   (.ite (Nat.ble ((List.length s.2.1+List.length [(qh ((),0,0,0,0,()) ((s.1.1,s.1.2.1,(),s.1.2.2.2),s.2.2.2.2.2)).1.1])*32) 140737488355328)
    (.ret (.on (((qh ((),0,0,0,0,()) ((s.1.1,s.1.2.1,(),s.1.2.2.2),s.2.2.2.2.2)).2.1.1,(qh ((),0,0,0,0,()) ((s.1.1,s.1.2.1,(),s.1.2.2.2),s.2.2.2.2.2)).2.1.2.1,(),(qh ((),0,0,0,0,()) ((s.1.1,s.1.2.1,(),s.1.2.2.2),s.2.2.2.2.2)).2.1.2.2.2),s.2.1++[(qh ((),0,0,0,0,()) ((s.1.1,s.1.2.1,(),s.1.2.2.2),s.2.2.2.2.2)).1.1],s.2.2.1,s.2.2.2.1,(s.2.2.2.2.1.1,w64 (s.2.2.2.2.1.2.1+1),w64 (s.2.2.2.2.1.2.2.1+(qh ((),0,0,0,0,()) ((s.1.1,s.1.2.1,(),s.1.2.2.2),s.2.2.2.2.2)).1.1.2.2.2.1),w64 (s.2.2.2.2.1.2.2.2.1+1),s.2.2.2.2.1.2.2.2.2),(qh ((),0,0,0,0,()) ((s.1.1,s.1.2.1,(),s.1.2.2.2),s.2.2.2.2.2)).2.2.1,(qh ((),0,0,0,0,()) ((s.1.1,s.1.2.1,(),s.1.2.2.2),s.2.2.2.2.2)).2.2.2.1,(qh ((),0,0,0,0,()) ((s.1.1,s.1.2.1,(),s.1.2.2.2),s.2.2.2.2.2)).2.2.2.2)))
    .fail)
   .fail))
  (.ite (s.2.2.1.2.1==s.2.2.2.2.1.2.1)
   (.ite (qbG ((),s.2.2.1) ((s.1.1,s.1.2.1,(),s.1.2.2.2),s.2.2.2.2.2))
   (.ite (Nat.ble ((List.length s.2.1+List.length [(qh ((),s.2.2.1) ((s.1.1,s.1.2.1,(),s.1.2.2.2),s.2.2.2.2.2)).1.1])*32) 140737488355328)
    (.ret (.on (((qh ((),s.2.2.1) ((s.1.1,s.1.2.1,(),s.1.2.2.2),s.2.2.2.2.2)).2.1.1,(qh ((),s.2.2.1) ((s.1.1,s.1.2.1,(),s.1.2.2.2),s.2.2.2.2.2)).2.1.2.1,(),(qh ((),s.2.2.1) ((s.1.1,s.1.2.1,(),s.1.2.2.2),s.2.2.2.2.2)).2.1.2.2.2),s.2.1++[(qh ((),s.2.2.1) ((s.1.1,s.1.2.1,(),s.1.2.2.2),s.2.2.2.2.2)).1.1],s.2.2.1,s.2.2.2.1,(s.2.2.2.2.1.1,w64 (s.2.2.2.2.1.2.1+1),w64 (s.2.2.2.2.1.2.2.1+(qh ((),s.2.2.1) ((s.1.1,s.1.2.1,(),s.1.2.2.2),s.2.2.2.2.2)).1.1.2.2.2.1),s.2.2.2.2.1.2.2.2),(qh ((),s.2.2.1) ((s.1.1,s.1.2.1,(),s.1.2.2.2),s.2.2.2.2.2)).2.2.1,(qh ((),s.2.2.1) ((s.1.1,s.1.2.1,(),s.1.2.2.2),s.2.2.2.2.2)).2.2.2.1,(qh ((),s.2.2.1) ((s.1.1,s.1.2.1,(),s.1.2.2.2),s.2.2.2.2.2)).2.2.2.2)))
    .fail)
   .fail)
   (.ite (qbG ((),0,0,0,0,()) ((s.1.1,s.1.2.1,(),s.1.2.2.2),s.2.2.2.2.2))
   (.ite (Nat.ble ((List.length s.2.1+List.length [(qh ((),0,0,0,0,()) ((s.1.1,s.1.2.1,(),s.1.2.2.2),s.2.2.2.2.2)).1.1])*32) 140737488355328)
    (.ret (.on (((qh ((),0,0,0,0,()) ((s.1.1,s.1.2.1,(),s.1.2.2.2),s.2.2.2.2.2)).2.1.1,(qh ((),0,0,0,0,()) ((s.1.1,s.1.2.1,(),s.1.2.2.2),s.2.2.2.2.2)).2.1.2.1,(),(qh ((),0,0,0,0,()) ((s.1.1,s.1.2.1,(),s.1.2.2.2),s.2.2.2.2.2)).2.1.2.2.2),s.2.1++[(qh ((),0,0,0,0,()) ((s.1.1,s.1.2.1,(),s.1.2.2.2),s.2.2.2.2.2)).1.1],s.2.2.1,s.2.2.2.1,(s.2.2.2.2.1.1,w64 (s.2.2.2.2.1.2.1+1),w64 (s.2.2.2.2.1.2.2.1+(qh ((),0,0,0,0,()) ((s.1.1,s.1.2.1,(),s.1.2.2.2),s.2.2.2.2.2)).1.1.2.2.2.1),s.2.2.2.2.1.2.2.2),(qh ((),0,0,0,0,()) ((s.1.1,s.1.2.1,(),s.1.2.2.2),s.2.2.2.2.2)).2.2.1,(qh ((),0,0,0,0,()) ((s.1.1,s.1.2.1,(),s.1.2.2.2),s.2.2.2.2.2)).2.2.2.1,(qh ((),0,0,0,0,()) ((s.1.1,s.1.2.1,(),s.1.2.2.2),s.2.2.2.2.2)).2.2.2.2)))
    .fail)
   .fail)))
  (.ret (.out 0 (s.1,s.2.1,s.2.2.1,s.2.2.2.1,s.2.2.2.2.1,s.2.2.2.2.2.1,s.2.2.2.2.2.2.1,s.2.2.2.2.2.2.2))))
theorem qvE {α β γ δ ε ζ:Type} {A:α} {f:β} {r0:ε} {hal:Bool} {rst:γ} {B:δ} {X1 Y1 X2 Y2 X3 Y3:Int} {L M:ζ} (h1:X1=Y1) (h2:X2=Y2) (h3:X3=Y3) (h4:L=M):some ((0:Nat),A,L,f,r0,(hal,X1,X2,X3,rst),B)=some ((0:Nat),A,M,f,r0,(hal,Y1,Y2,Y3,rst),B):=by
 subst h1 h2 h3 h4
 rfl
theorem qIG (f:qB.den) (budget:Int) (hbud:budget≤67108864) (r0:qcc.den) (rst:Int×Int×List UInt8×List UInt8×List UInt8×Unit) (hal:Bool) (x:qk qoo.ss) (hx:x.2.1=budget) (y0:qk qoo.hs) :
  ∀(n k:Nat) (cyc hnd:Int) (ev:List qcK.den) (y:MS),ev.length≤67108864+k→(k:Int)+n=budget→MachWf y→0≤cyc→cyc≤12*k→0≤hnd→hnd≤k →
   qcE (qoo.turn x y0) (n+1) (y.1,ev,f,r0,(hal,(k:Int),cyc,hnd,rst),y.2.1,y.2.2.1,y.2.2.2) =
    some (0,((qos y (goX y.1.1 y.1.2.1 f n k (qZ y)).2.2 (qll y.1.1 y.1.2.1 f n k (qZ y) y.2.2.1)).1,ev++(goX y.1.1 y.1.2.1 f n k (qZ y)).1,f,r0,
     (hal,(k:Int)+((goX y.1.1 y.1.2.1 f n k (qZ y)).1.length:Int),cyc+qmd (goX y.1.1 y.1.2.1 f n k (qZ y)).1,hnd+(goX y.1.1 y.1.2.1 f n k (qZ y)).2.1,rst),
     (qos y (goX y.1.1 y.1.2.1 f n k (qZ y)).2.2 (qll y.1.1 y.1.2.1 f n k (qZ y) y.2.2.1)).2)):=by
 intro n
 induction n with
 |zero =>
  intro k cyc hnd ev y hev hk hw _ _ _ _
  refine(qbk ((qu ?_).trans rfl)).trans ?_
  ·show(!y.1.2.2.2.2.1&&decide ((k:Int)<x.2.1))=false
   rw[hx,qS (show ¬(k:Int)<budget by omega),Bool.and_false]
  ·simp[goX,qll,qmd,qZ]
   rfl
 |succ n ih =>
  intro k cyc hnd ev y hev hk hw hc0 hc1 hh0 hh1
  cases hd:y.1.2.2.2.2.1 with
  |true =>
   refine(qbk ((qu ?_).trans rfl)).trans ?_
   ·show(!y.1.2.2.2.2.1&&decide ((k:Int)<x.2.1))=false
    rw[hd];rfl
   ·have hg:goX y.1.1 y.1.2.1 f (n+1) k (qZ y)=([],0,qZ y):=by
     unfold goX
     rw[show(qZ y).2.1=true from hd]
     rfl
    have hcg:qll y.1.1 y.1.2.1 f (n+1) k (qZ y) y.2.2.1=y.2.2.1:=by
     unfold qll
     rw[show(qZ y).2.1=true from hd]
     rfl
    rw[hg,hcg]
    simp[qmd,qZ]
    rfl
  |false =>
   have hlt:(!y.1.2.2.2.2.1&&decide ((k:Int)<x.2.1))=true:=by
    rw[hx,hd,qJ (show(k:Int)<budget by omega)];rfl
   have hG:∀g,qbG ((),g) ((y.1.1,y.1.2.1,(),y.1.2.2.2),y.2)=true:=fun g=>decide_eq_true hw
   have hV:∀g,qh ((),g) ((y.1.1,y.1.2.1,(),y.1.2.2.2),y.2)=qeF y.1.1 y.1.2.1 y.1.2.2.2.2.2.1 (qch y.1.2.1 y.1.2.2.2.1.2.1 y.2.2.1) (qbP y.1.1 y.1.2.1 y.1.2.2.2.1 (y.2.1,y.2.2.2) g):=fun g=>by
    unfold qh
    rw[show(((y.1.1,y.1.2.1,(),y.1.2.2.2),y.2):MS).1.2.2.2.2.1=false from hd]
    rfl
   obtain⟨s1,s2,s3,s4,s5,s6⟩:=qok y.1.1 y.1.2.1 y.1.2.2.2.1 (y.2.1,y.2.2.2) (qeN f k) hw.mem hw.regs hw.hand
   have hw':=qyC hw (qeN f k)
   have hgo:goX y.1.1 y.1.2.1 f (n+1) k (qZ y)=((qbP y.1.1 y.1.2.1 y.1.2.2.2.1 (y.2.1,y.2.2.2) (qeN f k)).1::(goX y.1.1 y.1.2.1 f n (k+1) (qbP y.1.1 y.1.2.1 y.1.2.2.2.1 (y.2.1,y.2.2.2) (qeN f k)).2).1,
     (bif y.1.2.2.2.1.2.1==y.1.1.2.1 then 1 else 0)+(goX y.1.1 y.1.2.1 f n (k+1) (qbP y.1.1 y.1.2.1 y.1.2.2.2.1 (y.2.1,y.2.2.2) (qeN f k)).2).2.1,
     (goX y.1.1 y.1.2.1 f n (k+1) (qbP y.1.1 y.1.2.1 y.1.2.2.2.1 (y.2.1,y.2.2.2) (qeN f k)).2).2.2):=by
    rw[goX]
    rw[show(qZ y).2.1=false from hd]
    rfl
   have hcg:qll y.1.1 y.1.2.1 f (n+1) k (qZ y) y.2.2.1=qll y.1.1 y.1.2.1 f n (k+1) (qbP y.1.1 y.1.2.1 y.1.2.2.2.1 (y.2.1,y.2.2.2) (qeN f k)).2 (qch y.1.2.1 y.1.2.2.2.1.2.1 y.2.2.1):=by
    rw[qll]
    rw[show(qZ y).2.1=false from hd]
    rfl
   rw[hgo,hcg]
   have w1:w64 ((k:Int)+1)=((k+1:Nat):Int):=by rw[qt (by omega) (by omega)];omega
   generalize hE:qbP y.1.1 y.1.2.1 y.1.2.2.2.1 (y.2.1,y.2.2.2) (qeN f k)=E at *
   have b0:(0:Int)≤E.1.2.2.2.1:=s5
   have b1:(12:Int)≥E.1.2.2.2.1:=s6
   have b2:(k:Int)≤67108864:=by omega
   have b3:cyc≤805306368:=by omega
   have w2:w64 (cyc+E.1.2.2.2.1)=cyc+E.1.2.2.2.1:=qt (by omega) (by omega)
   have w3:w64 (hnd+1)=hnd+1:=qt (by omega) (by omega)
   obtain⟨G1,hG1⟩:∃G1,G1=goX y.1.1 y.1.2.1 f n ((k:Int)+1) E.2:=⟨_,rfl⟩
   obtain⟨C1,hC1⟩:∃C1,C1=qll y.1.1 y.1.2.1 f n ((k:Int)+1) E.2 (qch y.1.2.1 y.1.2.2.2.1.2.1 y.2.2.1):=⟨_,rfl⟩
   rw[←hG1,←hC1]
   have fin:∀(b:Int),(b=0∨b=1)→qcE (qoo.turn x y0) (n+1) ((qeF y.1.1 y.1.2.1 y.1.2.2.2.2.2.1 (qch y.1.2.1 y.1.2.2.2.1.2.1 y.2.2.1) E).2.1,ev++[E.1],f,r0,(hal,((k+1:Nat):Int),cyc+E.1.2.2.2.1,hnd+b,rst),(qeF y.1.1 y.1.2.1 y.1.2.2.2.2.2.1 (qch y.1.2.1 y.1.2.2.2.1.2.1 y.2.2.1) E).2.2)=some (0,(qos y G1.2.2 C1).1,(ev++[E.1])++G1.1,f,r0,(hal,((k+1:Nat):Int)+((G1.1.length:Nat):Int),cyc+E.1.2.2.2.1+qmd G1.1,hnd+b+G1.2.1,rst),(qos y G1.2.2 C1).2):=fun b hb=>by
    have:=ih (k+1) (cyc+E.1.2.2.2.1) (hnd+b) (ev++[E.1]) (qeF y.1.1 y.1.2.1 y.1.2.2.2.2.2.1 (qch y.1.2.1 y.1.2.2.2.1.2.1 y.2.2.1) E).2 (by rw[List.length_append];simp only[List.length_cons,List.length_nil];omega) (by omega) hw' (by omega) (by omega) (by omega) (by omega)
    rw[hG1,hC1]
    exact this
   have hR:∀e:qcK.den,Nat.ble ((List.length ev+List.length [e])*32) 140737488355328=true:=fun e=>by
    refine Nat.ble_eq.mpr ?_
    simp only[List.length_cons,List.length_nil]
    omega
   have hnow:qeN f k=(bif f.2.1==(k:Int) then f else qdk):=rfl
   cases hb1:(y.1.2.2.2.1.2.1==y.1.1.2.1) with
   |true =>
    cases hb2:(f.2.1==(k:Int)) with
    |true =>
     rw[hb2] at hnow
     simp only[cond_true] at hnow
     rw[hnow] at hE
     refine(qcr (s':=((qeF y.1.1 y.1.2.1 y.1.2.2.2.2.2.1 (qch y.1.2.1 y.1.2.2.2.1.2.1 y.2.2.1) E).2.1,ev++[E.1],f,r0,(hal,((k+1:Nat):Int),cyc+E.1.2.2.2.1,hnd+1,rst),(qeF y.1.1 y.1.2.1 y.1.2.2.2.2.2.1 (qch y.1.2.1 y.1.2.2.2.1.2.1 y.2.2.1) E).2.2)) ((qd hlt).trans ((qd hb1).trans ((qd hb2).trans ((qd (hG _)).trans ((qd (hR _)).trans (by rw[hV,hE,w1,w2,w3];rfl))))))).trans ?_
     refine(fin 1 (.inr rfl)).trans ?_
     exact qvE (by simp only[List.length_cons];omega) (Int.add_assoc _ _ _) (Int.add_assoc _ _ _) (List.append_assoc _ _ _)
    |false =>
     rw[hb2] at hnow
     simp only[cond_false] at hnow
     rw[hnow] at hE
     refine(qcr (s':=((qeF y.1.1 y.1.2.1 y.1.2.2.2.2.2.1 (qch y.1.2.1 y.1.2.2.2.1.2.1 y.2.2.1) E).2.1,ev++[E.1],f,r0,(hal,((k+1:Nat):Int),cyc+E.1.2.2.2.1,hnd+1,rst),(qeF y.1.1 y.1.2.1 y.1.2.2.2.2.2.1 (qch y.1.2.1 y.1.2.2.2.1.2.1 y.2.2.1) E).2.2)) ((qd hlt).trans ((qd hb1).trans ((qu hb2).trans ((qd (hG _)).trans ((qd (hR _)).trans (by rw[hV,hE,w1,w2,w3];rfl))))))).trans ?_
     refine(fin 1 (.inr rfl)).trans ?_
     exact qvE (by simp only[List.length_cons];omega) (Int.add_assoc _ _ _) (Int.add_assoc _ _ _) (List.append_assoc _ _ _)
   |false =>
    cases hb2:(f.2.1==(k:Int)) with
    |true =>
     rw[hb2] at hnow
     simp only[cond_true] at hnow
     rw[hnow] at hE
     refine(qcr (s':=((qeF y.1.1 y.1.2.1 y.1.2.2.2.2.2.1 (qch y.1.2.1 y.1.2.2.2.1.2.1 y.2.2.1) E).2.1,ev++[E.1],f,r0,(hal,((k+1:Nat):Int),cyc+E.1.2.2.2.1,hnd+0,rst),(qeF y.1.1 y.1.2.1 y.1.2.2.2.2.2.1 (qch y.1.2.1 y.1.2.2.2.1.2.1 y.2.2.1) E).2.2)) ((qd hlt).trans ((qu hb1).trans ((qd hb2).trans ((qd (hG _)).trans ((qd (hR _)).trans (by rw[hV,hE,w1,w2];simp only[Int.add_zero];rfl))))))).trans ?_
     refine(fin 0 (.inl rfl)).trans ?_
     exact qvE (by simp only[List.length_cons];omega) (Int.add_assoc _ _ _) (Int.add_assoc _ _ _) (List.append_assoc _ _ _)
    |false =>
     rw[hb2] at hnow
     simp only[cond_false] at hnow
     rw[hnow] at hE
     refine(qcr (s':=((qeF y.1.1 y.1.2.1 y.1.2.2.2.2.2.1 (qch y.1.2.1 y.1.2.2.2.1.2.1 y.2.2.1) E).2.1,ev++[E.1],f,r0,(hal,((k+1:Nat):Int),cyc+E.1.2.2.2.1,hnd+0,rst),(qeF y.1.1 y.1.2.1 y.1.2.2.2.2.2.1 (qch y.1.2.1 y.1.2.2.2.1.2.1 y.2.2.1) E).2.2)) ((qd hlt).trans ((qu hb1).trans ((qu hb2).trans ((qd (hG _)).trans ((qd (hR _)).trans (by rw[hV,hE,w1,w2];simp only[Int.add_zero];rfl))))))).trans ?_
     refine(fin 0 (.inl rfl)).trans ?_
     exact qvE (by simp only[List.length_cons];omega) (Int.add_assoc _ _ _) (Int.add_assoc _ _ _) (List.append_assoc _ _ _)
abbrev qqb:List Sh:=[.box 0 0,.ty qB,.ty (.int .i64),.fn 28 (.pair (.box 1 0) (.ty .unit))]
abbrev qqw:List Sh:=[(qm6 2 3),(.osl 0 qcK),(qfZ 4),.rowc qbv,.rowc (.int .u8)]
abbrev quh:Sh:=Sh.ty qcc
abbrev qv1:List Sh:=[Sh.pair (Sh.ty (Ty.pair (Ty.int IntKind.i64) (Ty.pair (Ty.int IntKind.i64) (Ty.pair qee (Ty.pair (Ty.int IntKind.i64) Ty.unit))))) (Sh.pair (Sh.ty Ty.str) (Sh.pair (Sh.box 2 0) (Sh.pair (Sh.ty qC) (Sh.pair (Sh.ty Ty.bool) (Sh.pair (Sh.win 3 (Ty.pair q9 (Ty.pair (Ty.int IntKind.i64) (Ty.pair Ty.bool (Ty.pair Ty.bool Ty.unit))))) (Sh.ty Ty.unit)))))),Sh.osl 0 qB,Sh.pair (Sh.ty (Ty.sl qhN)) (Sh.pair (Sh.wsl none 4 (Ty.int IntKind.u8)) (Sh.ty Ty.unit)),Sh.rowc (Ty.pair q9 (Ty.pair (Ty.int IntKind.i64) (Ty.pair Ty.bool (Ty.pair Ty.bool Ty.unit)))),Sh.rowc (Ty.int IntKind.u8)]
def qxm (x:qk qqb) (y:qk qqw):PO (Sh.den quh×qk qv1) :=
 (.opt (LoopN.res qoo ((),x.2.2.1,((),x.2.2.2.2),(),(),()) ((y.1.1,y.1.2.1,(),y.1.2.2.2),y.2.1,x.2.1,(false,0,0,0,0,0,[],[],[],()),(false,0,0,0,0,0,[],[],[],()),y.2.2)) fun p0 =>
  (.ret ((p0.2.1.2.2.2.2.1,p0.2.2.2.2.2.1.2),((p0.2.1.1,p0.2.1.2.1,(),p0.2.1.2.2.2),p0.2.2.1,p0.2.2.2.2.2.2.1,p0.2.2.2.2.2.2.2.1,p0.2.2.2.2.2.2.2.2))))
def qsp (x:qk qqb) (y:qk qqw):Bool:=decide (MachWf (y.1,y.2.2)∧(show Int from x.2.2.1)≤67108864∧(show List qcK.den from y.2.1).length≤67108864)
def qkH (x:qB.den×Int) (y:MS):List qcK.den:=(goX y.1.1 y.1.2.1 x.1 x.2.toNat 0 (qZ y)).1
abbrev qxs (x:qk qqb) (y:qk qqw):Sh.den quh×qk qv1:=(qgd (x.2.1,x.2.2.1) (y.1,y.2.2),(qbe (x.2.1,x.2.2.1) (y.1,y.2.2)).1,y.2.1++qkH (x.2.1,x.2.2.1) (y.1,y.2.2),(qbe (x.2.1,x.2.2.1) (y.1,y.2.2)).2)
theorem qLC (x:qk qqb) (y:qk qqw) (h:qsp x y=true):(qxm x y).val=some (qxs x y):=by
 obtain⟨hw,hb,hl⟩:=of_decide_eq_true h
 obtain⟨u,f,budget,u1,u2⟩:=x
 obtain⟨m,ev,mem,fs,bs⟩:=y
 have hb:budget≤67108864:=hb
 have hl:ev.length≤67108864:=hl
 have hw:MachWf (m,mem,fs,bs):=hw
 unfold qxm
 have key:LoopN.res qoo ((),budget,((),u2),(),(),()) ((m.1,m.2.1,(),m.2.2.2),ev,f,(false,0,0,0,0,0,[],[],[],()),(false,0,0,0,0,0,[],[],[],()),mem,fs,bs) =
   some (0,(qbe (f,budget) (m,mem,fs,bs)).1,ev++qkH (f,budget) (m,mem,fs,bs),f,(false,0,0,0,0,0,[],[],[],()),(false,((qkH (f,budget) (m,mem,fs,bs)).length:Int),qmd (qkH (f,budget) (m,mem,fs,bs)),(goX m.1 m.2.1 f budget.toNat 0 (qZ (m,mem,fs,bs))).2.1,0,0,[],[],[],()),(qbe (f,budget) (m,mem,fs,bs)).2):=by
  rcases Int.lt_or_le budget 0 with h0 |h0
  ·unfold LoopN.res
   have e:budget.toNat=0:=by omega
   show qcE _ (budget.toNat+1) _=_
   unfold qbe qkH
   rw[e]
   refine(qbk ((qu ?_).trans rfl)).trans ?_
   ·show(!m.2.2.2.2.1&&decide ((0:Int)<budget))=false
    rw[qS (show ¬(0:Int)<budget by omega),Bool.and_false]
   ·simp[goX,qll,qmd,qZ]
    rfl
  ·have:=qIG f budget hb (false,0,0,0,0,0,[],[],[],()) (0,0,[],[],[],()) false ((),budget,((),u2),(),(),()) rfl ((m.1,m.2.1,(),m.2.2.2),ev,f,(false,0,0,0,0,0,[],[],[],()),(false,0,0,0,0,0,[],[],[],()),mem,fs,bs) budget.toNat 0 0 0 ev (m,mem,fs,bs) (by omega) (by omega) hw (by omega) (by omega) (by omega) (by omega)
   unfold LoopN.res
   refine Eq.trans ?_ (this.trans (qvE (Int.zero_add _) (Int.zero_add _) (Int.zero_add _) rfl))
   rfl
 exact(qde key).trans rfl
def qh6 (img inp:List UInt8) (budget:Int):List qcK.den×Int×Unit :=
 bif (qL img).2.1 != (0:Int) then([],(qL img).2.1,())
 else bif qg inp != (qL img).1.2.2.1.1 then([],2,())
 else bif decide (budget<0)||decide (budget > 1048576) then([],2,())
 else(qkH (qdk,budget) (qce (qL img).1 img inp),0,())
abbrev qkF:List Ty:=[.str,.str,(.int .i64)]
abbrev qnv:Sh:=Sh.tup (Sh.pair (Sh.osl 32 qB) (Sh.pair (Sh.ty (Ty.int IntKind.i64)) (Sh.ty Ty.unit)))
def qqi (x:qc qkF):PO (Sh.den qnv) :=
 (.ite ((qO x.1).2.1 != 0)
  (.ite ((qO x.1).2.1 != 0)
  (.ret (([],(qO x.1).2.1,())))
  (.ite (decide (x.2.2<0)||decide (x.2.2 > 1048576))
   (.ret (([],2,())))
   .fail))
  (.ite ((qY ((qO x.1).1.2.2.1,qg x.1)).2.1 != 0)
  (.ite ((qY ((qO x.1).1.2.2.1,qg x.1)).2.1 != 0)
   (.ite ((qY ((qO x.1).1.2.2.1,qg x.1)).2.1 != 0)
   (.ret (([],(qY ((qO x.1).1.2.2.1,qg x.1)).2.1,())))
   (.ite (decide (x.2.2<0)||decide (x.2.2 > 1048576))
    (.ret (([],2,())))
    .fail))
   (.ite (qgE (w64 (w64 (Int.tdiv (qg x.1) 2)+1)) 80)
   (.ite (decide (x.2.2<0)||decide (x.2.2 > 1048576))
    (.ret (([],2,())))
    .fail)
   .fail))
  (.ite (qg x.2.1 != (qO x.1).1.2.2.1.1)
   (.ret (([],2,())))
   (.opt (LoopN.res qjC (x.1,x.2.1,(qY ((qO x.1).1.2.2.1,qg x.1)).1,0,(qY ((qO x.1).1.2.2.1,qg x.1)).1,qg (qY ((qO x.1).1.2.2.1,qg x.1)).1,0) ()) fun p0 =>
   (.ite (qgE p0.2.1 1)
    (.opt (LoopN.res qiL (x.1,x.2.1,(),(0,qdT 0 p0.2.1),(qY ((qO x.1).1.2.2.1,qg x.1)).1,qg (qY ((qO x.1).1.2.2.1,qg x.1)).1,0) (((qY ((qO x.1).1.2.2.1,qg x.1)).1,[],()),zeros p0.2.1 0)) fun p1 =>
    (.ite (inRange 0 (List.length p1.2.2.2.1.2.1))
     (.ite (inRange 1 (List.length p1.2.2.2.1.2.1))
     (.ite (qgE (w64 (w64 (Int.tdiv (qg x.1) 2)+1)) 80)
      (.ite (decide (x.2.2<0)||decide (x.2.2 > 1048576))
      (.ret (([],2,())))
      (.ite (qsp ((),(0,0,0,0,()),x.2.2,(),()) (((qO x.1).1,x.1,(),(List.set (List.set [0,0,0,0,0,0,0,0,0,0,0,0,0,0,0] 13 537133056) 14 (qgN 0),(qO x.1).1.1,false,false,false,false,()),false,(0,qdT 0 (w64 (w64 (Int.tdiv (qg x.1) 2)+1))),()),[],p1.2.2.2.1,zeros (w64 (w64 (Int.tdiv (qg x.1) 2)+1)) ((0,0,0,0,0,0,0,false,()),0,false,false,()),qei (qei p1.2.2.2.2 (wAt p1.2.2.2.1.2.1 0).1 (qdl x.1) (wAt p1.2.2.2.1.2.1 0).2) (wAt p1.2.2.2.1.2.1 1).1 (qdl x.2.1) (wAt p1.2.2.2.1.2.1 1).2))
       (.ret ((qkH ((0,0,0,0,()),x.2.2) (((qO x.1).1,x.1,(),(List.set (List.set [0,0,0,0,0,0,0,0,0,0,0,0,0,0,0] 13 537133056) 14 (qgN 0),(qO x.1).1.1,false,false,false,false,()),false,(0,qdT 0 (w64 (w64 (Int.tdiv (qg x.1) 2)+1))),()),p1.2.2.2.1,zeros (w64 (w64 (Int.tdiv (qg x.1) 2)+1)) ((0,0,0,0,0,0,0,false,()),0,false,false,()),qei (qei p1.2.2.2.2 (wAt p1.2.2.2.1.2.1 0).1 (qdl x.1) (wAt p1.2.2.2.1.2.1 0).2) (wAt p1.2.2.2.1.2.1 1).1 (qdl x.2.1) (wAt p1.2.2.2.1.2.1 1).2),0,())))
       .fail))
      .fail)
     .fail)
     .fail))
    .fail)))))
def qqv (_:qc qkF):Bool:=true
def qfk (x:qc qkF):Sh.den qnv:=qh6 x.1 x.2.1 x.2.2
theorem qy4 (x:qc qkF) (_:qqv x=true):(qqi x).val=some (qfk x):=by
 obtain⟨img,inp,budget⟩:=x
 unfold qqi
 show _=some (qh6 img inp budget)
 unfold qh6
 show(PO.ite ((qL img).2.1 != (0:Int)) _ _).val=_
 cases h1:((qL img).2.1 != (0:Int)) with
 |true=>exact(qd rfl).trans ((qd h1).trans rfl)
 |false =>
  refine(qu rfl).trans ?_
  obtain⟨rs,hn,i,o,r,md,e,f1,f2,f3,f4,f5⟩:=qo7 img h1
  have hreg:qY ((qO img).1.2.2.1,qg img)=(qcO (i,o,r,()) (qg img),0,()):=by
   show qY ((qL img).1.2.2.1,qg img)=_
   rw[e]
   exact qEq _ _ f1
  obtain⟨g1,g2,g3⟩:=qv9 i o r (qg img) f1 (by simp only[qg];omega)
  have g4:∀q∈qcO (i,o,r,()) (qg img),0≤q.2.1:=fun q hq=>(g1.2 q hq).2.1
  have hwf:=qur rs hn i o r md img inp f1 f2 f3 f4
  simp only[hreg]
  refine(qu rfl).trans ?_
  show(PO.ite (qg inp != (qL img).1.2.2.1.1) _ _).val=_
  simp only[cond_false]
  cases h2:(qg inp != (qL img).1.2.2.1.1) with
  |true=>exact(qd rfl).trans rfl
  |false =>
   refine(qu rfl).trans ((qde (r:=_) (qPH img inp (qcO (i,o,r,()) (qg img)) (by omega) g4 (by omega))).trans ?_)
   refine(qd ?_).trans ?_
   ·show qgE ((qdy (qcO (i,o,r,()) (qg img)):Nat):Int) 1=true
    simp only[qgE,Bool.and_eq_true,decide_eq_true_eq]
    omega
   have hsp:qdT 0 ((qdy (qcO (i,o,r,()) (qg img)):Nat):Int)=qdy (qcO (i,o,r,()) (qg img)):=by simp[qdT]
   have e15:=qMR img inp (qcO (i,o,r,()) (qg img)) (zeros ((qdy (qcO (i,o,r,()) (qg img)):Nat):Int) 0) (by omega) g4
   refine(qde (r:=_) (by dsimp only;rw[hsp];exact e15)).trans ?_
   have hw:(qbl 0 (qcO (i,o,r,()) (qg img))).length=7:=by rw[qpv,g2]
   have hlen:w64 (w64 (Int.tdiv (qg img) 2)+1)=((img.length / 2+1:Nat):Int):=by
    simp only[qg] at f4 ⊢
    rw[Int.tdiv_eq_ediv_of_nonneg (by omega),qt (n:=((img.length:Nat):Int) / 2) (by omega) (by omega),qt (by omega) (by omega)]
    omega
   refine(qd ?_).trans ((qd ?_).trans ((qd ?_).trans ?_))
   ·show inRange 0 (qbl 0 (qcO (i,o,r,()) (qg img))).length=true
    rw[hw]
    rfl
   ·show inRange 1 (qbl 0 (qcO (i,o,r,()) (qg img))).length=true
    rw[hw]
    rfl
   ·rw[hlen]
    simp only[qg] at f4
    simp only[qgE,Bool.and_eq_true,decide_eq_true_eq]
    omega
   ·simp only[cond_false]
    cases h3:(decide (budget<0)||decide (budget > 1048576)) with
    |true=>exact(qd rfl).trans rfl
    |false =>
     have hb:(show Int from budget)≤67108864:=by
      simp only[Bool.or_eq_false_iff,decide_eq_false_iff_not] at h3
      have h4:(show Int from budget)≤1048576:=Int.not_lt.1 h3.2
      exact Int.le_trans h4 (by decide)
     refine(qu rfl).trans ?_
     rw[hlen]
     have hst:qce (qL img).1 img inp=qce (rs,hn,(i,o,r,()),md,()) img inp:=by rw[e]
     rw[hst]
     have hns:qdT 0 ((img.length / 2+1:Nat):Int)=img.length / 2+1:=by simp only[qdT];omega
     have hz2:zeros ((img.length / 2+1:Nat):Int) dfF=List.replicate (img.length / 2+1) dfF:=by unfold zeros;rw[Int.toNat_natCast]
     show(PO.ite (qsp ((),(0,0,0,0,()),budget,(),()) (((qL img).1,img,(),(_,(qL img).1.1,_),false,(0,qdT 0 ((img.length / 2+1:Nat):Int)),()),[],_,zeros ((img.length / 2+1:Nat):Int) dfF,_)) (.ret (qkH (qdk,budget) (((qL img).1,img,(),(_,(qL img).1.1,_),false,(0,qdT 0 ((img.length / 2+1:Nat):Int)),()),_,zeros ((img.length / 2+1:Nat):Int) dfF,_),0,())) .fail).val=_
     rw[hns,hz2,e]
     refine(qd ?_).trans rfl
     exact decide_eq_true ⟨hwf,hb,Nat.zero_le _⟩
end Go.Av
end
section
namespace Go.Av
open Go Go.RowKit
abbrev qoL (fn:FuncId) (tmps:Array Value) (ps:Array Tmp) (assign body:Code) (D:Nat) (st:LoopState) (pe:Option Code):Go.Loop :=
 {state:=st,pending:=pe,fn:=fn,tmps:=tmps,params:=ps,assign:=assign,body:=body,defers:=D}
section
variable {F:Fence} {n:Nat} {P:Program}
def qIK (F:Fence) (n:Nat) (P:Program) (l:Nat) (rc:LoopState→Option Code→Go.Loop) (Q:Exit→Act→World→Prop) (a':Act) (e:Ending) (W':World):Prop :=
 (∃v,e=.returned v)∧((W'.heap[l]?=some (.loop (rc .ready none))∧Q .normal a' (W'.putObj l (.loop (rc .exhausted none)))) ∨
  ∃c,W'.heap[l]?=some (.loop (rc .done (some c)))∧c.wpIn F n P Q a' (W'.putObj l (.loop (rc .exhausted (some c)))))
theorem qLA {g:Operand} {ps:Array Tmp} {assign body:Code} {Q:Exit→Act→World→Prop} {a:Act} {w:World} (hro:F.round=none) (h1:1≤n)
  {gf:Nat} {lb:Array Value} (hg:a.eval g=.func (.func gf) #[] lb) (hF:F.fn gf) (eg:∀args w,(callFunc gf args).run P w=.ok (.enter gf args) w)
  (h:∀fn,F.fn fn→CallsIn F (n-1) P gf (#[.func (.yield (w.heap.size+1)) #[] #[]]++lb) ((w.alloc (.deferred (some []))).alloc (.loop (qoL fn a.tmps ps assign body w.heap.size .ready none)))
   (qIK F n P (w.heap.size+1) (qoL fn a.tmps ps assign body w.heap.size) Q {a with defers:={target:=.collected w.heap.size,args:=#[]}::a.defers})) :
  (Code.rangeFunc g ps assign body).wpIn F n P Q a w:=by
 refine wpIn_rangeFunc ?_
 intro fn hfn
 rw[hro]
 have hh:=h fn hfn
 obtain⟨rc,hrc⟩:∃rc:LoopState→Option Code→Go.Loop,rc=qoL fn a.tmps ps assign body w.heap.size:=⟨_,rfl⟩
 rw[←hrc] at hh
 have hst:∀st pe,(rc st pe).state=st:=fun st pe=>by rw[hrc]
 have hpe:∀st pe,(rc st pe).pending=pe:=fun st pe=>by rw[hrc]
 have hex:∀st pe,({rc st pe with state:=.exhausted}:Go.Loop)=rc .exhausted pe:=fun st pe=>by rw[hrc]
 obtain⟨W1,hW1⟩:∃W1,(w.alloc (.deferred (some []))).alloc (.loop (rc .ready none))=W1:=⟨_,rfl⟩
 rw[hW1] at hh
 refine⟨w.heap.size+1,[{target:=.collected w.heap.size,args:=#[]}],W1,{target:=.fn (.func gf) lb,args:=#[.func (.yield (w.heap.size+1)) #[] #[]]},W1,gf,
  #[.func (.yield (w.heap.size+1)) #[] #[]]++lb,W1,?_,?_,?_,?_,fun _=>h1,?_⟩
 ·rw[←hW1,hrc]
  exact run_enterLoop_outer _ _ _ _ _
 ·simp only[resolve,hg]
  simp[go_sem]
 ·intro f' hf'
  simp[Target.leads] at hf'
  subst hf'
  exact hF
 ·simp[invoke,go_sem,eg]
 ·refine hh.mono ?_
  rintro e W2 ⟨⟨v,rfl⟩,⟨hl,hq⟩ |⟨c,hl,hq⟩⟩
  ·refine⟨none,_,?_,hq⟩
   have:=run_endLoop (P:=P) hl (by rw[hst];simp)
   rw[hex,hpe] at this
   exact this
  ·refine⟨some c,_,?_,hq⟩
   have:=run_endLoop (P:=P) hl (by rw[hst];simp)
   rw[hex,hpe] at this
   exact this
def roundEnd (l:Nat) (rc:LoopState→Option Code→Go.Loop) (R:Ending→World→Prop):Exit→Act→World→Prop
 | .normal,_,W=>W.heap[l]?=some (.loop (rc .busy none))∧R (.returned (.bool true)) (W.putObj l (.loop (rc .ready none)))
 | .ret,_,W=>W.heap[l]?=some (.loop (rc .busy none))∧R (.returned (.bool false)) (W.putObj l (.loop (rc .done (some .ret))))
 | .exit id,_,W=>W.heap[l]?=some (.loop (rc .busy none))∧R (.returned (.bool false)) (W.putObj l (.loop (rc .done (some (.exit id)))))
 |_,_,_=>False
theorem qOI {l:Nat} {fn:FuncId} {tmps:Array Value} {ps:Array Tmp} {assign body:Code} {D:Nat} {W:World} {args:Array Value} {R:Ending→World→Prop} (hF:F.fn fn)
  (hl:W.heap[l]?=some (.loop (qoL fn tmps ps assign body D .ready none))) (hs:args.size=ps.size)
  (h:assign.wpIn (F.inRound l) n P (Exit.then (fun a1 W1=>W1.heap[l]?=some (.loop (qoL fn tmps ps assign body D .ready none)) ∧
    body.wpIn (F.inRound l) n P (roundEnd l (qoL fn tmps ps assign body D) R) a1 (W1.putObj l (.loop (qoL fn tmps ps assign body D .busy none)))) (fun _ _ _=>False))
   {tmps:=(ps.zip args).foldl (fun t (p,v)=>t.setIfInBounds p v) tmps,defers:=[]} W):YieldAt F n P l args W R:=by
 have hy:=run_yield (P:=P) (args:=args) hl hs
 refine⟨fn,_,assign,body,hy,roundIn_of_wpIn hF (wpIn_mono h ?_)⟩
 intro e a1 W1 hp
 cases e with
 |normal =>
  obtain⟨hl1,hb⟩:=hp
  refine⟨_,run_beginRound hl1 rfl,wpIn_mono hb ?_⟩
  intro e a2 W2 hp
  cases e with
  |normal=>exact⟨_,_,run_endRound (P:=P) none hp.1,hp.2⟩
  |ret=>exact⟨_,_,run_endRound (P:=P) (some .ret) hp.1,hp.2⟩
  |exit id=>exact⟨_,_,run_endRound (P:=P) (some (.exit id)) hp.1,hp.2⟩
  |goto t=>exact hp.elim
  |panic ch=>exact hp.elim
  |outgrown=>exact hp.elim
 |ret=>exact hp.elim
 |exit id=>exact hp.elim
 |goto t=>exact hp.elim
 |panic ch=>exact hp.elim
 |outgrown=>exact hp.elim
theorem qOZ {l:Nat} {fn:FuncId} {tmps:Array Value} {ps:Array Tmp} {assign body:Code} {D:Nat} {rc:LoopState→Option Code→Go.Loop} (hrc:qoL fn tmps ps assign body D=rc) {W:World} {args:Array Value} {R:Ending→World→Prop} (hF:F.fn fn)
  (hl:W.heap[l]?=some (.loop (rc .ready none))) (hs:args.size=ps.size)
  (h:assign.wpIn (F.inRound l) n P (Exit.then (fun a1 W1=>W1.heap[l]?=some (.loop (rc .ready none)) ∧
    body.wpIn (F.inRound l) n P (roundEnd l rc R) a1 (W1.putObj l (.loop (rc .busy none)))) (fun _ _ _=>False))
   {tmps:=(ps.zip args).foldl (fun t (p,v)=>t.setIfInBounds p v) tmps,defers:=[]} W):YieldAt F n P l args W R:=by
 subst hrc
 exact qOI hF hl hs h
end
theorem qzZ (w:World) (l:Nat) (o o':Obj) (hl:w.heap[l]?=some o) (h1:Obj.thaw o=true) (h2:Obj.thaw o'=true) (a:Addr):(w.putObj l o').frozen? a=w.frozen? a:=by
 by_cases h:a.block=l
 ·rw[qrV (W:=w) (fun x e=>by rw[h,hl] at e;cases e;exact h1)]
  refine qrV (fun x e=>?_)
  rw[h,World.putObj_heap_same (Array.getElem?_eq_some_iff.1 hl).1] at e
  cases e
  exact h2
 ·exact World.frozen?_of_block (World.putObj_heap_other h)
variable {P:Program} {w:World}
theorem qBj (base:Nat) (t ty e:TypeId) (i:TypeInfo) (z:Value) (size bytes:Nat) (ht:P.underlying t=some (.slice e)) (hi:P.info? e=some i) (hz:i.zero=some z)
  (hsize:i.size=size) (hby:i.bytes=bytes) (hzs:z.cells.size=size) (hsz:0<size)
  (v:Value) (n:Nat) (xs:List Value) (hown:w.ownsRow base e size v n xs)
  (a:Addr) (m c:Nat) (hm:0<m) (news:List Value) (hl:news.length=m*size) (hnews:∀j u,news[j]?=some u→w.cell? (a.add j)=some u) (h1:∀u∈news,u.oneCell'=true)
  (h63:n+m≤maxLen) (hbytes:(n+m)*bytes≤140737488355328) (hbase:base≤w.heap.size) :
  ∃v' w',(Builtin.append_ #[t,t] ty #[v,.slice (some a) m c]).run P w=.ok v' w'∧w'.ownsRow base e size v' (n+m) (xs++news)∧w.grownBy w' v.ownBlock ∧
   (v'=.slice none 0 0↔v=.slice none 0 0∧m=0)∧∀x,w'.frozen? x=w.frozen? x:=by
 obtain⟨v',w',hr,r1,r2,r3⟩:=run_append_own (P:=P) w base t ty e i z size bytes ht hi hz hsize hby hzs hsz v n xs hown a m c news hl hnews h1 h63 hbytes hbase
 refine⟨v',w',hr,r1,r2,r3,fun x=>?_⟩
 subst hsize hby
 have hsmall:n+m≤9223372036854775807:=by simp only[maxLen] at h63;omega
 rcases hown.2 with⟨rfl,rfl⟩ |⟨g,cap,cur,rfl,hg,hh,hle,_,hcs,hpre⟩
 ·have:=run_append_nil (P:=P) w t ty e i z ht hi hz a m c news hl hnews hm (by omega) (by simp only[Nat.zero_add] at hbytes;omega)
  rw[this] at hr
  cases hr
  exact(qxa _ _ _ _)
 ·by_cases hroom:n+m≤cap
  ·have hfit:0+n*i.size+news.length≤cur.size:=by
    have:=Nat.mul_le_mul_right i.size hroom
    rw[hl,hcs,Nat.zero_add,←Nat.add_mul]
    exact this
   have:=qvC (P:=P) t t ty e i ht hi g 0 n cap cur e hh (.slice (some a) m c) m news (Src.ofSlice w ht a m c news hl hnews h1) hroom hfit
   rw[this] at hr
   cases hr
   exact qLO (setRow_heap w g cur _ e (0,0) hh) hh (fun y hy=>setRow_other w g y _ hy) x
  ·have hx:xs.length=n*i.size:=hown.1
   have hc:∀j u,xs[j]?=some u→w.cell? ((⟨g,0,none⟩:Addr).add j)=some u:=hown.cells (by rfl)
   have:=run_append_grow (P:=P) w t ty e i z ht hi hz ⟨g,0,none⟩ n cap xs hx hc a m c news hl hnews (by omega) (by omega) (growslice_fits (by omega) hbytes)
   rw[this] at hr
   cases hr
   exact(qxa _ _ _ _)
theorem qw2 {F:Fence} {n:Nat} {P:Program} (w:World) {ops:Array Oper} {rest:List Oper} {o:Oper} {a:Act} {Q:Exit→Act→World→Prop}
  (hg:o.guard=none) (s x:Operand) (t:TypeId) (hop:o.op=Op.call {callee:=Callee.builtin Builtin.append,args:=#[s,x],argTypes:=#[t,t]})
  (base:Nat) (e:TypeId) (i:TypeInfo) (z:Value) (size bytes:Nat) (h1:P.underlying t=some (.slice e)) (h2:P.info? e=some i) (h3:i.zero=some z) (h4:i.size=size) (h5:i.bytes=bytes) (h6:z.cells.size=size) (h7:0<size)
  (v:Value) (k:Nat) (xs:List Value) (hs:a.eval s=v) (hown:w.ownsRow base e size v k xs) (ad:Addr) (m c:Nat) (hm:0<m) (news:List Value) (hx:a.eval x=.slice (some ad) m c) (hn:news.length=m*size)
  (hc:∀j u,news[j]?=some u→w.cell? (ad.add j)=some u) (h1c:∀u∈news,u.oneCell'=true) (b1:k+m≤maxLen) (b2:(k+m)*bytes≤140737488355328) (b3:base≤w.heap.size)
  (hK:∀v' w',w'.ownsRow base e size v' (k+m) (xs++news)→w.grownBy w' v.ownBlock→(∀x,w'.frozen? x=w.frozen? x)→wpListIn F n P ops Q rest (a.put o.dst v') w') :
  wpListIn F n P ops Q (o::rest) a w:=by
 refine wpListIn_plain hg fun K hK'=>?_
 obtain⟨v',w',hrun,r1,r2,_,r4⟩:=qBj (P:=P) (w:=w) base t o.type e i z size bytes h1 h2 h3 h4 h5 h6 h7 v k xs hown ad m c hm news hn hc h1c b1 b2 b3
 unfold Oper.wpIn
 refine⟨?_,?_⟩
 ·simp[Oper.about,hop,resolve,Target.leads,Sem.run_pure]
 ·rw[Oper.semAt_plain F _ _ (by rw[hop];intro c hc';cases hc')]
  simp[execOp,hop,resolve,invoke,builtin,hs,hx,hrun,Result.andThen]
  exact hK' _ _ (hK v' w' r1 r2 r4)
end Go.Av
end
section
namespace Go.Av
open Go
abbrev qlI:List Ty:=[qhz,qhz]
abbrev qoD:Sh:=Sh.ty qhz
def qoA (x:qc qlI):PO (Sh.den qoD) :=
 (.ret ((w64 (x.1.1+x.2.1),w64 (x.1.2.1+x.2.2.1),w64 (x.1.2.2.1+x.2.2.2.1),w64 (x.1.2.2.2.1+x.2.2.2.2.1),w64 (x.1.2.2.2.2.1+x.2.2.2.2.2.1),w64 (x.1.2.2.2.2.2.1+x.2.2.2.2.2.2.1),w64 (x.1.2.2.2.2.2.2.1+x.2.2.2.2.2.2.2.1),x.1.2.2.2.2.2.2.2)))
def qrF (_:qc qlI):Bool:=true
def qfQ (x:qc qlI):Sh.den qoD:=(qoA x).qP default
theorem qAo (x:qc qlI) (_:qrF x=true):(qoA x).val=some (qfQ x):=PO.qb1 default (by simp[qoA,PO.sure])
abbrev qgg:List Ty:=[]
abbrev qqB:Sh:=.ty .bool
def qqm (_:qc qgg):PO Bool:=.ret true
def qmm (_:qc qgg):Bool:=true
def ql7 (_:qc qgg):Bool:=true
theorem qvk (x:qc qgg) (_:qmm x=true):(qqm x).val=some (ql7 x):=rfl
end Go.Av
end
section
namespace Go.Av
open Go
def qyu (k:Int):qB.den:=(1,k,0,0,())
def qD8 (k:Int) (r b:Nat):qB.den:=(2,k,(r:Int),(b:Int),())
def qD9 (k:Int) (b:Nat):qB.den:=(3,k,0,(b:Int),())
def qoQ (k:Int) (r b:Nat):List qB.den:=(List.range b).map (qD8 k r)
def qst (k:Int) (r:Nat):List qB.den:=(List.range r).flatMap fun i=>qoQ k i 32
def qp3 (k:Int) (b:Nat):List qB.den:=(List.range b).map (qD9 k)
def atL (k:Int):List qB.den:=[qyu k]++qst k 15++qp3 k 4
theorem qIA (k:Int) (r b:Nat):qoQ k r (b+1)=qoQ k r b++[qD8 k r b]:=by simp[qoQ,List.range_succ]
theorem qyW (k:Int) (r:Nat):qst k (r+1)=qst k r++qoQ k r 32:=by simp[qst,List.range_succ]
theorem qFm (k:Int) (b:Nat):qp3 k (b+1)=qp3 k b++[qD9 k b]:=by simp[qp3,List.range_succ]
theorem qyL (k:Int) (r b:Nat):(qoQ k r b).length=b:=by simp[qoQ]
theorem qvX (k:Int):∀r:Nat,(qst k r).length=32*r
 |0=>rfl
 |r+1=>by rw[qyW,List.length_append,qvX k r,qyL];omega
theorem qIM (k:Int) (b:Nat):(qp3 k b).length=b:=by simp[qp3]
abbrev qkr:List Ty:=[.int .i64]
abbrev qsJ:Sh:=Sh.ty (Ty.sl qB)
def qwG (_:qc qkr):Bool:=true
def qwD (k:qc qkr):qsJ.den:=bif decide ((k:Int)<0) then[] else atL k
end Go.Av
end
section
namespace Go.Av
open Go
def qnX:LoopN where
 M:=[3,7,8]
 T:=[4,9,10,11,12,13,14,15,16]
 D:=[7,8]
 ss:=[.osl 0 qB,.ty (.int .i64),.ty (.int .i64)]
 hs:=[]
 es:=[.exit 0]
 σ:=(List (Ty.den qB))×(Ty.den (.int .i64))
 x0:=fun x _=>(x.1,x.2.2)
 put:=fun x _ s=>((s.1,x.2.1,s.2),())
 fuel:=fun x _=>Int.toNat x.2.1+1
 turn:=fun x _ s =>
 (.ite (decide (s.2<x.2.1))
  (.ite (Nat.ble ((List.length s.1+List.length [(1,s.2,0,0,())])*32) 140737488355328)
  (.ret (.on (s.1++[(1,s.2,0,0,())],w64 (s.2+1))))
  .fail)
  (.ret (.out 0 (s.1,s.2))))
abbrev qjH:List Ty:=[(.int .i64)]
abbrev ql9:Sh:=Sh.osl 32 qB
def qmr (x:qc qjH):PO (Sh.den ql9) :=
 (.opt (LoopN.res qnX ([],imax 0 (qo2 x 4194304),0) ()) fun p0 =>
  (.ret (p0.2.1)))
def qpP (x:qc qjH):Bool:=(qmr x).val.isSome
def qpW (x:qc qjH):Sh.den ql9:=(qmr x).qP default
theorem qyz (x:qc qjH) (h:qpP x=true):(qmr x).val=some (qpW x):=PO.qb4 default h
end Go.Av
end
section
namespace Go.Av
open Go
section
variable (hd:qcH.den) (fl:List UInt8) (f:qB.den)
theorem qKB {n:Nat} {k:Int} {s:qtG} (h:s.2.1=true):goX hd fl f n k s=([],0,s):=by
 cases n with
 |zero=>rfl
 |succ n=>rw[goX,h];rfl
theorem qId:∀(n:Nat) (k:Int) (s:qtG),(goX hd fl f n k s).1.length≤n
 |0,_,_=>Nat.le_refl _
 |n+1,k,s=>by
  rw[goX]
  cases s.2.1 with
  |true=>exact Nat.zero_le _
  |false=>exact Nat.succ_le_succ (qId n _ _)
end
end Go.Av
end
section
namespace Go.Av
open Go
def qeb:LoopN where
 M:=[0,2,5,6]
 T:=[3,7,8,9,10,11,12,13]
 D:=[0,5,6]
 ss:=[.ty .str,.ty .bool,.ty (.int .i64),.ty (.int .i64)]
 hs:=[]
 es:=[.exit 0,.ret]
 σ:=(Ty.den .bool)×(Ty.den (.int .i64))
 x0:=fun x _=>(x.2.1,x.2.2.2)
 put:=fun x _ s=>((x.1,s.1,x.2.2.1,s.2),())
 fuel:=fun x _=>List.length x.1+1
 turn:=fun x _ s =>
 (.ite (decide (s.2<x.2.2.1))
  (.ite (inRange s.2 (List.length x.1))
  (.ite (u8I (List.getD x.1 (Int.toNat s.2) 0) != 0)
   (.ret (.out 1 (false,s.2)))
   (.ret (.on (s.1,w64 (s.2+1)))))
  .fail)
  (.ret (.out 0 (s.1,s.2))))
def qdu:LoopN where
 M:=[0,3,4]
 T:=[5,6,7,8,9,10,11,12,13,14,15,16]
 D:=[0,4]
 ss:=[.ty .str,.ty (.int .i64),.ty (.int .i64)]
 hs:=[]
 es:=[.exit 0]
 σ:=(Ty.den (.int .i64))×(Ty.den (.int .i64))
 x0:=fun x _=>(x.2.1,x.2.2)
 put:=fun x _ s=>((x.1,s.1,s.2),())
 fuel:=fun x _=>List.length x.1+1
 turn:=fun x _ s =>
 (.ite (decide (s.2<qg x.1))
  (.ite (inRange s.2 (List.length x.1))
  (.ret (.on (w64 (s.1+w64 (u8I (List.getD x.1 (Int.toNat s.2) 0))),w64 (s.2+1))))
  .fail)
  (.ret (.out 0 (s.1,s.2))))
abbrev qlS:List Ty:=[.str]
abbrev qvg:Sh:=.ty .bool
def qrI (x:qc qlS):PO Bool :=
 (.opt (LoopN.res qeb (x,false,qg x,0) ()) fun p0 =>
  (.ite (way p0.1)
  (.ret (true))
  (.ret (p0.2.1))))
def qe0 (x:qc qlS):Bool:=decide (List.length x<9223372036854775808)
def qc0 (x:qc qlS):Bool:=(x:List UInt8).all (·==0)
theorem qIt (l:List UInt8) (hb:l.length<9223372036854775808):∀(k i:Nat),i+k=l.length→∀f,k<f →
  qcE (qeb.turn (l,false,(l.length:Int),0) ()) f (false,(i:Int))=some (bif (l.drop i).all (·==0) then(0,false,(l.length:Int)) else(1,false,((i+((l.drop i).takeWhile (·==0)).length:Nat):Int)))
 |0,i,h,f,hf=>by
  obtain⟨f,rfl⟩:∃g,f=g+1:=⟨f-1,by omega⟩
  rw[List.drop_of_length_le (by omega)]
  refine qbk ?_
  simp only[qeb,PO.val,qS (show ¬(i:Int)<(l.length:Int) by omega),cond_false]
  have:i=l.length:=by omega
  subst this
  rfl
 |k+1,i,h,f,hf=>by
  obtain⟨f,rfl⟩:∃g,f=g+1:=⟨f-1,by omega⟩
  have hi:i<l.length:=by omega
  rw[List.drop_eq_getElem_cons hi]
  have h1:decide ((i:Int)<(l.length:Int))=true:=qJ (by omega)
  have h2:l.getD i 0=l[i]:=by rw[List.getD_eq_getElem?_getD,List.getElem?_eq_getElem hi];rfl
  cases hc:(l[i]==0)
  ·have:((l[i].toNat:Int) != 0)=true:=by
    simp only[beq_eq_false_iff_ne,ne_eq] at hc
    simp only[bne_iff_ne,ne_eq]
    intro h0
    apply hc
    have:l[i].toNat=0:=by omega
    exact UInt8.toNat_inj.1 this
   simp only[List.all_cons,hc,Bool.false_and,cond_false,List.takeWhile_cons,Bool.false_eq_true,if_false,List.length_nil,Nat.add_zero]
   refine qbk ?_
   simp only[qeb,PO.val,h1,inR hi,cond_true,qhD,h2,this]
  ·have:((l[i].toNat:Int) != 0)=false:=by
    simp only[beq_iff_eq] at hc
    rw[hc]
    rfl
   have ht:(qeb.turn (l,false,(l.length:Int),0) () (false,(i:Int))).val=some (.on (false,((i+1:Nat):Int))):=by
    simp only[qeb,PO.val,h1,inR hi,cond_true,qhD,h2,this,cond_false]
    rw[qt (by omega) (by omega)]
    rfl
   refine(qcr ht).trans ((qIt l hb k (i+1) (by omega) f (by omega)).trans ?_)
   simp only[List.all_cons,hc,Bool.true_and,List.takeWhile_cons,if_true,List.length_cons]
   rw[show i+1+((l.drop (i+1)).takeWhile (·==0)).length=i+(((l.drop (i+1)).takeWhile (·==0)).length+1) by omega]
theorem qAF (x:qc qlS) (h:qe0 x=true):(qrI x).val=some (qc0 x):=by
 have hb:List.length x<9223372036854775808:=of_decide_eq_true h
 have:=qIt x hb (List.length x) 0 (by omega) (List.length x+1) (by omega)
 have e:LoopN.res qeb (x,false,qg x,0) ()=_:=this
 unfold qrI PO.val
 rw[e]
 simp only[List.drop_zero,qc0]
 cases (x:List UInt8).all (·==0)<;>rfl
def qzp (l:List UInt8):Nat:=l.foldr (fun b n=>b.toNat+n) 0
theorem qKF:∀l:List UInt8,qzp l≤255*l.length
 |[]=>Nat.le_refl _
 |b::l=>by
  have ih:=qKF l
  simp only[qzp,List.foldr_cons,List.length_cons] at ih ⊢
  have:=b.toNat_lt
  omega
theorem qMH (l:List UInt8) {i:Nat} (hi:i<l.length):qzp (l.drop i)=l[i].toNat+qzp (l.drop (i+1)):=by
 rw[List.drop_eq_getElem_cons hi]
 rfl
abbrev qid:List Ty:=[.str]
abbrev qsk:Sh:=.ty tI
def qn4 (x:qc qid):PO Int :=
 (.opt (LoopN.res qdu (x,0,0) ()) fun p0 =>
  (.ret (p0.2.1)))
def qga (x:qc qid):Bool:=decide (List.length x<36028797018963968)
def qdo (x:qc qid):Int:=qzp x
theorem qJ5 (l:List UInt8) (hb:l.length<36028797018963968):∀(k i m:Nat),i+k=l.length→m+qzp (l.drop i)≤255*l.length→∀f,k<f →
  qcE (qdu.turn (l,0,0) ()) f ((m:Int),(i:Int))=some (0,((m+qzp (l.drop i):Nat):Int),(l.length:Int))
 |0,i,m,h,_,f,hf=>by
  obtain⟨f,rfl⟩:∃g,f=g+1:=⟨f-1,by omega⟩
  rw[List.drop_of_length_le (by omega)]
  refine qbk ?_
  simp only[qdu,PO.val,qS (show ¬(i:Int)<(l.length:Int) by omega),cond_false]
  have:i=l.length:=by omega
  subst this
  rfl
 |k+1,i,m,h,hm,f,hf=>by
  obtain⟨f,rfl⟩:∃g,f=g+1:=⟨f-1,by omega⟩
  have hi:i<l.length:=by omega
  have h1:decide ((i:Int)<(l.length:Int))=true:=qJ (by omega)
  have h2:l.getD i 0=l[i]:=by rw[List.getD_eq_getElem?_getD,List.getElem?_eq_getElem hi];rfl
  rw[qMH l hi] at hm ⊢
  have hlt:=l[i].toNat_lt
  have ht:(qdu.turn (l,0,0) () ((m:Int),(i:Int))).val=some (.on (((m+l[i].toNat:Nat):Int),((i+1:Nat):Int))):=by
   simp only[qdu,PO.val,h1,inR hi,cond_true,qhD,h2]
   rw[qt (n:=(l[i].toNat:Int)) (by omega) (by omega),qt (n:=(i:Int)+1) (by omega) (by omega),qt (by omega) (by omega)]
   rfl
  refine(qcr ht).trans ((qJ5 l hb k (i+1) (m+l[i].toNat) (by omega) (by omega) f (by omega)).trans ?_)
  rw[Nat.add_assoc]
theorem qwS (x:qc qid) (h:qga x=true):(qn4 x).val=some (qdo x):=by
 have hb:List.length x<36028797018963968:=of_decide_eq_true h
 have:=qJ5 x hb (List.length x) 0 0 (by omega) (by have:=qKF x;simpa using this) (List.length x+1) (by omega)
 have e:LoopN.res qdu (x,0,0) ()=_:=this
 unfold qn4 PO.val
 rw[e]
 simp[qdo,PO.val]
abbrev qgU:List Ty:=[qee,(.int .i64)]
abbrev qjr:Sh:=Sh.ty (Ty.int IntKind.i64)
def qgv (x:qc qgU):PO (Sh.den qjr) :=
 (.ite (decide (qo2 (qo2 (qo2 x.1.1 x.1.2.1) (w64 (x.1.2.2.1-4))) x.2<0)||(decide (x.1.2.2.1<4)||(Int.tmod x.1.1 4 != 0||(Int.tmod x.1.2.1 4 != 0||Int.tmod x.1.2.2.1 4 != 0))))
  (.ret (2))
  (.ite (decide (imax (imax x.1.1 x.1.2.1) x.1.2.2.1 > 65536)||decide (x.2 > 262144))
  (.ret (5))
  (.ret (0))))
def qmo (_:qc qgU):Bool:=true
def qbc (x:qc qgU):Sh.den qjr:=(qgv x).qP default
theorem qu2 (x:qc qgU) (_:qmo x=true):(qgv x).val=some (qbc x):=PO.qb1 default (by simp[qgv,PO.sure])
abbrev qlc:List Ty:=[qcc]
abbrev qns:Sh:=Sh.ty Ty.bool
def qkP (x:qc qlc):PO (Sh.den qns) :=
 (.ite (bif x.2.2.2.2.1==0 then qe0 x.2.2.2.2.2.2.1&&bif qc0 x.2.2.2.2.2.2.1 then qe0 x.2.2.2.2.2.2.2.1&&bif qc0 x.2.2.2.2.2.2.2.1 then qe0 x.2.2.2.2.2.2.2.2.1 else true else true else true)
  (.ret (x.2.2.2.2.1==0&&(qc0 x.2.2.2.2.2.2.1&&(qc0 x.2.2.2.2.2.2.2.1&&qc0 x.2.2.2.2.2.2.2.2.1))))
  .fail)
def qcl (x:qc qlc):Bool:=(qkP x).val.isSome
def qcv (x:qc qlc):Sh.den qns:=(qkP x).qP default
theorem qy6 (x:qc qlc) (h:qcl x=true):(qkP x).val=some (qcv x):=PO.qb4 default h
abbrev qgh:List Ty:=[qcc]
abbrev qjc:Sh:=Sh.ty Ty.bool
def qi6 (x:qc qgh):PO (Sh.den qjc) :=
 (.ite (bif x.2.2.2.2.1==0 then qga x.2.2.2.2.2.2.1&&bif qdo x.2.2.2.2.2.2.1==0 then qga x.2.2.2.2.2.2.2.1&&bif qdo x.2.2.2.2.2.2.2.1==0 then qga x.2.2.2.2.2.2.2.2.1 else true else true else true)
  (.ret (x.2.2.2.2.1==0&&(qdo x.2.2.2.2.2.2.1==0&&(qdo x.2.2.2.2.2.2.2.1==0&&qdo x.2.2.2.2.2.2.2.2.1==0))))
  .fail)
def qmb (x:qc qgh):Bool:=(qi6 x).val.isSome
def ql8 (x:qc qgh):Sh.den qjc:=(qi6 x).qP default
theorem qvm (x:qc qgh) (h:qmb x=true):(qi6 x).val=some (ql8 x):=PO.qb4 default h
abbrev qoc:List Ty:=[qcc]
abbrev qqZ:Sh:=Sh.ty qlw
def qqp (x:qc qoc):PO (Sh.den qqZ) :=
 (.ite (!x.1)
  (.ret ((0,[],())))
  (.ite (x.2.2.2.2.1==3235799053)
  (.ret ((1,x.2.2.2.2.2.2.1,())))
  (.ite (x.2.2.2.2.2.1==195890093)
   (.ret ((2,[],())))
   (.ret ((3,[],()))))))
def qtJ (_:qc qoc):Bool:=true
def qbp (x:qc qoc):Sh.den qqZ:=(qqp x).qP default
theorem qDS (x:qc qoc) (_:qtJ x=true):(qqp x).val=some (qbp x):=PO.qb1 default (by simp[qqp,PO.sure])
abbrev qiY:List Ty:=[qcc]
abbrev qlA:Sh:=Sh.tup (Sh.pair (Sh.ty (Ty.int IntKind.i64)) (Sh.pair (Sh.ty Ty.str) (Sh.ty Ty.unit)))
def qlB (x:qc qiY):PO (Sh.den qlA) :=
 (.ite (!x.1)
  (.ret ((0,[],())))
  (.ite (x.2.2.2.2.1==3235799053)
  (.ret ((1,x.2.2.2.2.2.2.1,())))
  (.ite (x.2.2.2.2.2.1==195890093)
   (.ret ((2,[],())))
   (.ret ((3,[],()))))))
def qoY (_:qc qiY):Bool:=true
def qo1 (x:qc qiY):Sh.den qlA:=(qlB x).qP default
theorem qxX (x:qc qiY) (_:qoY x=true):(qlB x).val=some (qo1 x):=PO.qb1 default (by simp[qlB,PO.sure])
abbrev qkA:List Ty:=[qee]
abbrev qnC:Sh:=Sh.ty (Ty.int IntKind.i64)
def qnB (x:qc qkA):PO (Sh.den qnC) :=
 (.ite (qba (x,0) != 0)
  (.ret (0))
  (.ret (w64 (w64 (32*w64 (x.2.1+w64 (2*x.2.2.1)))+256))))
def qq4 (_:qc qkA):Bool:=true
def qiC (x:qc qkA):Sh.den qnC:=(qnB x).qP default
theorem qzm (x:qc qkA) (_:qq4 x=true):(qnB x).val=some (qiC x):=PO.qb1 default (by simp[qnB,PO.sure])
abbrev qgy:List Ty:=[qee]
abbrev qje:Sh:=Sh.ty (Ty.int IntKind.i64)
def qi7 (x:qc qgy):PO (Sh.den qje) :=
 (.ite (qbc (x,0) != 0)
  (.ret (0))
  (.ret (w64 (w64 (256+w64 (32*x.2.1))+w64 (64*x.2.2.1)))))
def qmB (_:qc qgy):Bool:=true
def qmC (x:qc qgy):Sh.den qje:=(qi7 x).qP default
theorem qvd (x:qc qgy) (_:qmB x=true):(qi7 x).val=some (qmC x):=PO.qb1 default (by simp[qi7,PO.sure])
end Go.Av
end
section
namespace Go.Av
open Go
abbrev qlJ:List Ty:=[qcc,qlw]
abbrev qoE:Sh:=Sh.ty qhz
def qrt (x:qc qlJ):PO (Sh.den qoE) :=
 (.ite ((qbp x.1).1==1&&Ty.eqb qlw (qbp x.1) x.2)
  (.ite (bif decide (x.1.2.2.2.1 > 0) then qcl x.1 else true)
  (.ite (decide (x.1.2.2.2.1 > 0)&&!qcv x.1)
   (.ret ((1,1,0,0,0,0,1,())))
   (.ret ((1,1,0,0,0,0,0,()))))
  .fail)
  (.ite ((qbp x.1).1==1)
  (.ite (bif decide (x.1.2.2.2.1 > 0) then qcl x.1 else true)
   (.ite (decide (x.1.2.2.2.1 > 0)&&!qcv x.1)
   (.ret ((1,0,1,0,0,0,1,())))
   (.ret ((1,0,1,0,0,0,0,()))))
   .fail)
  (.ite ((qbp x.1).1==2)
   (.ite (bif decide (x.1.2.2.2.1 > 0) then qcl x.1 else true)
   (.ite (decide (x.1.2.2.2.1 > 0)&&!qcv x.1)
    (.ret ((1,0,0,1,0,0,1,())))
    (.ret ((1,0,0,1,0,0,0,()))))
   .fail)
   (.ite ((qbp x.1).1==3)
   (.ite (bif decide (x.1.2.2.2.1 > 0) then qcl x.1 else true)
    (.ite (decide (x.1.2.2.2.1 > 0)&&!qcv x.1)
    (.ret ((1,0,0,0,1,0,1,())))
    (.ret ((1,0,0,0,1,0,0,()))))
    .fail)
   (.ite (bif decide (x.1.2.2.2.1 > 0) then qcl x.1 else true)
    (.ite (decide (x.1.2.2.2.1 > 0)&&!qcv x.1)
    (.ret ((1,0,0,0,0,1,1,())))
    (.ret ((1,0,0,0,0,1,0,()))))
    .fail)))))
def b01 (b:Bool):Int:=bif b then 1 else 0
def qoO (x:qc qlJ):Bool:=qcl x.1
def qe2 (x:qc qlJ):Sh.den qoE :=
 (1,b01 ((qbp x.1).1==1&&Ty.eqb qlw (qbp x.1) x.2),b01 ((qbp x.1).1==1&&!Ty.eqb qlw (qbp x.1) x.2),
  b01 ((qbp x.1).1==2),b01 ((qbp x.1).1==3),b01 (!((qbp x.1).1==1)&&(!((qbp x.1).1==2)&&!((qbp x.1).1==3))),
  b01 (decide (x.1.2.2.2.1 > 0)&&!qcv x.1),())
theorem qzt (x:qc qlJ) (h:qoO x=true):(qrt x).val=some (qe2 x):=by
 have hg:(bif decide (x.1.2.2.2.1 > 0) then qcl x.1 else true)=true:=by
  rw[show qcl x.1=true from h]
  cases decide (x.1.2.2.2.1 > 0)<;>rfl
 unfold qrt qe2
 rw[hg]
 cases h1:((qbp x.1).1==(1:Int))
 ·refine(qu rfl).trans ((qu rfl).trans ?_)
  cases h2:((qbp x.1).1==(2:Int))
  ·refine(qu rfl).trans ?_
   cases h3:((qbp x.1).1==(3:Int))
   ·refine(qu rfl).trans ((qd rfl).trans ?_)
    cases (decide (x.1.2.2.2.1 > 0)&&!qcv x.1)
    ·exact(qu rfl).trans rfl
    ·exact(qd rfl).trans rfl
   ·refine(qd rfl).trans ((qd rfl).trans ?_)
    cases (decide (x.1.2.2.2.1 > 0)&&!qcv x.1)
    ·exact(qu rfl).trans rfl
    ·exact(qd rfl).trans rfl
  ·have h3:((qbp x.1).1==(3:Int))=false:=by
    simp only[beq_iff_eq] at h2
    rw[h2];rfl
   rw[h3]
   refine(qd rfl).trans ((qd rfl).trans ?_)
   cases (decide (x.1.2.2.2.1 > 0)&&!qcv x.1)
   ·exact(qu rfl).trans rfl
   ·exact(qd rfl).trans rfl
 ·have h2:((qbp x.1).1==(2:Int))=false:=by
   simp only[beq_iff_eq] at h1
   rw[h1];rfl
  have h3:((qbp x.1).1==(3:Int))=false:=by
   simp only[beq_iff_eq] at h1
   rw[h1];rfl
  rw[h2,h3]
  cases Ty.eqb qlw (qbp x.1) x.2
  ·refine(qu rfl).trans ((qd rfl).trans ((qd rfl).trans ?_))
   cases (decide (x.1.2.2.2.1 > 0)&&!qcv x.1)
   ·exact(qu rfl).trans rfl
   ·exact(qd rfl).trans rfl
  ·refine(qd rfl).trans ((qd rfl).trans ?_)
   cases (decide (x.1.2.2.2.1 > 0)&&!qcv x.1)
   ·exact(qu rfl).trans rfl
   ·exact(qd rfl).trans rfl
def qfJ:LoopN where
 M:=[0,1,3,8,9,14,15,47,48,49]
 T:=[17,18,19,50,51,52,53,54,55,56,57,58,59,60,61,62,63,64,65,66,67,68,69,70]
 D:=[0,1,3,14,47,48,49]
 ss:=[.ty .str,.ty .str,.ty (.int .i64),.box 0 0,.ty (.int .i64),.box 1 0,.box 2 0,.ty (.sl qB),.ty (.int .i64),.ty (.int .i64)]
 hs:=[.ty qhz,.ty qlw,.ty qhz]
 es:=[.exit 0,.ret]
 σ:=(Ty.den (.int .i64))×(Ty.den (.int .i64))×(Sh.den (.ty qhz))×(Sh.den (.ty qlw))×(Sh.den (.ty qhz))
 x0:=fun x y=>(x.2.2.2.2.1,x.2.2.2.2.2.2.2.2.2,y.1,y.2.1,y.2.2)
 put:=fun x _ s=>((x.1,x.2.1,x.2.2.1,x.2.2.2.1,s.1,x.2.2.2.2.2.1,x.2.2.2.2.2.2.1,x.2.2.2.2.2.2.2.1,x.2.2.2.2.2.2.2.2.1,s.2.1),(s.2.2.1,s.2.2.2.1,s.2.2.2.2))
 fuel:=fun x _=>List.length x.2.2.2.2.2.2.2.1+1
 turn:=fun x _ s =>
 (.ite (decide (s.2.1<x.2.2.2.2.2.2.2.2.1))
  (.ite (inRange s.2.1 (List.length x.2.2.2.2.2.2.2.1))
  (.ite ((qc3 (x.1,x.2.1,List.getD x.2.2.2.2.2.2.2.1 (Int.toNat s.2.1) (Ty.dflt qB),x.2.2.1)).2.1 != 0)
   (.ret (.out 1 ((qc3 (x.1,x.2.1,List.getD x.2.2.2.2.2.2.2.1 (Int.toNat s.2.1) (Ty.dflt qB),x.2.2.1)).2.1,s.2.1,(0,0,0,0,0,0,0,()),s.2.2.2.1,s.2.2.2.2)))
   (.ite (qoO ((qc3 (x.1,x.2.1,List.getD x.2.2.2.2.2.2.2.1 (Int.toNat s.2.1) (Ty.dflt qB),x.2.2.1)).1,s.2.2.2.1))
   (.ret (.on (s.1,w64 (s.2.1+1),s.2.2.1,s.2.2.2.1,qfQ (s.2.2.2.2,qe2 ((qc3 (x.1,x.2.1,List.getD x.2.2.2.2.2.2.2.1 (Int.toNat s.2.1) (Ty.dflt qB),x.2.2.1)).1,s.2.2.2.1)))))
   .fail))
  .fail)
  (.ret (.out 0 (s.1,s.2.1,s.2.2.1,s.2.2.2.1,s.2.2.2.2))))
theorem qAW {y:qew} (h:MemWf y) (k:Int):(qmy k y).1.length<9223372036854775808:=by
 unfold qmy qtu
 cases hk:(decide (k<0)||decide (k≥qg y.1.2.1)) with
 |true=>exact(by decide:(0:Nat)<9223372036854775808)
 |false =>
  simp only[Bool.or_eq_false_iff,decide_eq_false_iff_not,qg] at hk
  have hi:k.toNat<y.1.1.length:=by rw[h.len];omega
  obtain⟨h1,_⟩:=h.wins _ hi
  have hmem:y.1.1.getD k.toNat qbO∈y.1.1:=by
   rw[List.getD_eq_getElem?_getD,List.getElem?_eq_getElem hi]
   exact List.getElem_mem hi
  have h2:(y.1.1.getD k.toNat qbO).2.1<4611686018427387904:=(h.regs.2 _ hmem).2.2.2
  show(bytesOf (shown y.2 (wAt y.1.2.1 k))).length<9223372036854775808
  have h3:(bytesOf (shown y.2 (wAt y.1.2.1 k))).length≤(y.1.2.1.getD k.toNat (0,0)).2:=by
   unfold bytesOf shown wAt
   rw[List.length_map,List.length_take]
   exact Nat.min_le_left _ _
  omega
theorem qQK (r:qcc.den) (h1:List.length r.2.2.2.2.2.2.1<9223372036854775808) (h2:List.length r.2.2.2.2.2.2.2.1<9223372036854775808) (h3:List.length r.2.2.2.2.2.2.2.2.1<9223372036854775808):qcl r=true:=by
 unfold qcl qkP
 have g1:qe0 r.2.2.2.2.2.2.1=true:=decide_eq_true h1
 have g2:qe0 r.2.2.2.2.2.2.2.1=true:=decide_eq_true h2
 have g3:qe0 r.2.2.2.2.2.2.2.2.1=true:=decide_eq_true h3
 rw[g1,g2,g3]
 have e:(bif r.2.2.2.2.1==(0:Int) then true&&bif qc0 r.2.2.2.2.2.2.1 then true&&bif qc0 r.2.2.2.2.2.2.2.1 then true else true else true else true)=true:=by
  cases (r.2.2.2.2.1==(0:Int))<;>cases qc0 r.2.2.2.2.2.2.1<;>cases qc0 r.2.2.2.2.2.2.2.1<;>rfl
 rw[e]
 rfl
theorem qS6 (img inp:List UInt8) (f:qB.den) (b:Int):qcl (qg8 img inp f b).1=true:=by
 unfold qg8
 cases h1:((qL img).2.1 != (0:Int)) with
 |true=>rfl
 |false =>
 cases h2:(qg inp != (qL img).1.2.2.1.1) with
 |true=>rfl
 |false =>
 cases h3:(q6 f != 0||(decide (b<0)||decide (b > 67108864))) with
 |true=>rfl
 |false =>
  obtain⟨rs,hn,i,o,r,md,e,f1,f2,f3,f4,f5⟩:=qo7 img h1
  have hwf:=qur rs hn i o r md img inp f1 f2 f3 f4
  show qcl (qA4 (qce (qL img).1 img inp) f b)=true
  rw[e]
  have hm:=qK4 hwf f b
  exact qQK _ (qAW hm 2) (qAW hm 3) (qAW hm 4)
abbrev qlx:qhz.den:=(0,0,0,0,0,0,0,())
def qD4 (img inp:List UInt8) (b:Int) (right:qlw.den):List qB.den→qhz.den→qhz.den×Int×Unit
 |[],c=>(c,0,())
 |f::l,c=>bif (qg8 img inp f b).2.1 != (0:Int) then(qlx,(qg8 img inp f b).2.1,())
   else qD4 img inp b right l (qfQ (c,qe2 ((qg8 img inp f b).1,right)))
def qvw (img:List UInt8):Int:=qiC (qO img).1.2.2.1
def qL0 (img inp:List UInt8) (l:List qB.den) (b:Int):qhz.den×Int×Unit :=
 bif (qg8 img inp qdk b).2.1 != (0:Int) then(qlx,(qg8 img inp qdk b).2.1,())
 else bif decide (w64 (b+qvw img) > 67108864) then(qlx,2,())
 else qD4 img inp (w64 (b+qvw img)) (qbp (qg8 img inp qdk b).1) l qlx
theorem qO4 (img inp:List UInt8) (b:Int) (right:qlw.den) (l:List qB.den) (hl:l.length<9223372036854775808) (z:qhz.den) (x:qk qfJ.ss) (hx:x=(img,inp,b,(),0,(),(),l,qg l,0)) (y:qk qfJ.hs) :
  ∀(k i:Nat) (c:qhz.den),i+k=l.length→∃n st,qcE (qfJ.turn x y) (k+1) ((0:Int),(i:Int),z,right,c)=some (n,st) ∧
   (bif way n then(st.2.2.2.2,(0:Int),()) else(st.2.2.1,st.1,()))=qD4 img inp b right (l.drop i) c:=by
 subst hx
 intro k
 induction k with
 |zero =>
  intro i c h
  refine⟨0,_,qbk ((qu (qS (show ¬(i:Int)<qg l by simp only[qg];omega))).trans rfl),?_⟩
  rw[List.drop_of_length_le (by omega)]
  rfl
 |succ k ih =>
  intro i c h
  have hi:i<l.length:=by omega
  have hlt:decide ((i:Int)<qg l)=true:=qJ (by simp only[qg];omega)
  have hd:l.drop i=l.getD i (Ty.dflt qB)::l.drop (i+1):=by
   rw[List.drop_eq_getElem_cons hi,List.getD_eq_getElem?_getD,List.getElem?_eq_getElem hi]
   rfl
  have hg:List.getD l (Int.toNat (i:Int)) (Ty.dflt qB)=l.getD i (Ty.dflt qB):=by rw[Int.toNat_natCast]
  rw[hd]
  generalize hf:l.getD i (Ty.dflt qB)=f at *
  rw[qD4]
  cases he:((qg8 img inp f b).2.1 != (0:Int)) with
  |true =>
   refine⟨1,((qg8 img inp f b).2.1,(i:Int),qlx,right,c),qbk ((qd hlt).trans ((qd (inR hi)).trans ((qd (b:=(qg8 img inp (List.getD l (Int.toNat (i:Int)) (Ty.dflt qB)) b).2.1 != (0:Int)) (by rw[hg];exact he)).trans ?_))),rfl⟩
   show some (TL.out 1 ((qg8 img inp (List.getD l (Int.toNat (i:Int)) (Ty.dflt qB)) b).2.1,(i:Int),qlx,right,c))=_
   rw[hg]
   rfl
  |false =>
   obtain⟨n,st,h1,h2⟩:=ih (i+1) (qfQ (c,qe2 ((qg8 img inp f b).1,right))) (by omega)
   refine⟨n,st,(qcr (s':=((0:Int),((i+1:Nat):Int),z,right,qfQ (c,qe2 ((qg8 img inp f b).1,right)))) ((qd hlt).trans ((qd (inR hi)).trans ((qu (b:=(qg8 img inp (List.getD l (Int.toNat (i:Int)) (Ty.dflt qB)) b).2.1 != (0:Int)) (by rw[hg];exact he)).trans ((qd (qS6 img inp _ b)).trans ?_))))).trans h1,h2⟩
   show some (TL.on ((0:Int),w64 ((i:Int)+1),z,right,qfQ (c,qe2 ((qg8 img inp (List.getD l (Int.toNat (i:Int)) (Ty.dflt qB)) b).1,right))))=_
   rw[hg,qt (n:=(i:Int)+1) (by omega) (by omega)]
   rfl
abbrev qkX:List Ty:=[.str,.str,(.sl qB),(.int .i64)]
abbrev qnw:Sh:=Sh.tup (Sh.pair (Sh.ty qhz) (Sh.pair (Sh.ty (Ty.int IntKind.i64)) (Sh.ty Ty.unit)))
def qqe (x:qc qkX):PO (Sh.den qnw) :=
 (.ite ((qc3 (x.1,x.2.1,(0,0,0,0,()),x.2.2.2)).2.1 != 0)
  (.ret (((0,0,0,0,0,0,0,()),(qc3 (x.1,x.2.1,(0,0,0,0,()),x.2.2.2)).2.1,())))
  (.ite (decide (w64 (x.2.2.2+qiC (qO x.1).1.2.2.1) > 67108864))
  (.ret (((0,0,0,0,0,0,0,()),2,())))
  (.opt (LoopN.res qfJ (x.1,x.2.1,w64 (x.2.2.2+qiC (qO x.1).1.2.2.1),(),0,(),(),x.2.2.1,qg x.2.2.1,0) ((0,0,0,0,0,0,0,()),qbp (qc3 (x.1,x.2.1,(0,0,0,0,()),x.2.2.2)).1,0,0,0,0,0,0,0,())) fun p0 =>
   (.ite (way p0.1)
   (.ret ((p0.2.2.2.2.2,0,())))
   (.ret ((p0.2.2.2.1,p0.2.1,())))))))
def qqG (x:qc qkX):Bool:=decide (List.length x.2.2.1<9223372036854775808)
def qqO (x:qc qkX):Sh.den qnw:=qL0 x.1 x.2.1 x.2.2.1 x.2.2.2
theorem qy5 (x:qc qkX) (h:qqG x=true):(qqe x).val=some (qqO x):=by
 obtain⟨img,inp,l,b⟩:=x
 have hl:l.length<9223372036854775808:=of_decide_eq_true h
 unfold qqe
 show _=some (qL0 img inp l b)
 unfold qL0
 show(PO.ite ((qg8 img inp qdk b).2.1 != (0:Int)) _ _).val=_
 cases h1:((qg8 img inp qdk b).2.1 != (0:Int)) with
 |true=>exact(qd rfl).trans rfl
 |false =>
  refine(qu rfl).trans ?_
  show(PO.ite (decide (w64 (b+qvw img) > 67108864)) _ _).val=_
  cases h2:decide (w64 (b+qvw img) > 67108864) with
  |true=>exact(qd rfl).trans rfl
  |false =>
   refine(qu rfl).trans ?_
   obtain⟨n,st,e1,e2⟩:=qO4 img inp (w64 (b+qvw img)) (qbp (qg8 img inp qdk b).1) l hl qlx (img,inp,w64 (b+qvw img),(),0,(),(),l,qg l,0) rfl (qlx,qbp (qg8 img inp qdk b).1,qlx) l.length 0 qlx (by omega)
   rw[List.drop_zero] at e2
   refine(qde (r:=(n,st)) e1).trans ?_
   cases hw:way n with
   |true =>
    rw[hw] at e2
    exact(qd rfl).trans (congrArg some e2)
   |false =>
    rw[hw] at e2
    exact(qu rfl).trans (congrArg some e2)
end Go.Av
end
section
namespace Go.Av
open Go
theorem qwf (m k:Nat) (hk:k≤62):q8 .i64 (m:Int) (k:Int)=((m / 2 ^ k:Nat):Int):=by
 unfold q8
 rw[Int.toNat_natCast,Nat.min_eq_left (by show k≤64;omega),Int.fdiv_eq_ediv_of_nonneg _ (by exact Int.le_of_lt (Int.pow_pos (by decide)))]
 push_cast
 rfl
theorem qrc (n:Int):IntKind.u8.wrap n=n % 256:=rfl
theorem qxr (v:Int):qcP v=[toByte ((wn v % 256:Nat):Int),toByte ((wn v / 256 % 256:Nat):Int),toByte ((wn v / 65536 % 256:Nat):Int),toByte ((wn v / 16777216 % 256:Nat):Int)]:=by
 show[toByte (IntKind.u8.wrap (q8 .i64 (wn v:Int) ((0:Nat):Int))),toByte (IntKind.u8.wrap (q8 .i64 (wn v:Int) ((8:Nat):Int))),toByte (IntKind.u8.wrap (q8 .i64 (wn v:Int) ((16:Nat):Int))),toByte (IntKind.u8.wrap (q8 .i64 (wn v:Int) ((24:Nat):Int)))]=_
 rw[qwf _ 0 (by omega),qwf _ 8 (by omega),qwf _ 16 (by omega),qwf _ 24 (by omega),qrc,qrc,qrc,qrc,show(2:Nat) ^ 0=1 from rfl,show(2:Nat) ^ 8=256 from rfl,show(2:Nat) ^ 16=65536 from rfl,show(2:Nat) ^ 24=16777216 from rfl,Nat.div_one]
 rfl
theorem qkG {k:Nat} (h:k<256):((toByte (k:Int)).toNat:Int)=(k:Int):=by
 unfold toByte
 rw[Int.toNat_natCast]
 have:(UInt8.ofNat k).toNat=k:=by
  rw[UInt8.toNat_ofNat']
  exact Nat.mod_eq_of_lt h
 rw[this]
theorem qLX (v:Int):qic v=[((wn v % 256:Nat):Int),((wn v / 256 % 256:Nat):Int),((wn v / 65536 % 256:Nat):Int),((wn v / 16777216 % 256:Nat):Int)]:=by
 unfold qic
 rw[qxr]
 show[((toByte ((wn v % 256:Nat):Int)).toNat:Int),((toByte ((wn v / 256 % 256:Nat):Int)).toNat:Int),((toByte ((wn v / 65536 % 256:Nat):Int)).toNat:Int),((toByte ((wn v / 16777216 % 256:Nat):Int)).toNat:Int)]=_
 rw[qkG (Nat.mod_lt _ (by omega)),qkG (Nat.mod_lt _ (by omega)),qkG (Nat.mod_lt _ (by omega)),qkG (Nat.mod_lt _ (by omega))]
theorem qQi {α:Type} (xs:List α) (p:Nat) (ys:List α) (n i:Nat) (h:p+min ys.length n≤xs.length) :
  (qei xs p ys n)[i]?=if i<p then xs[i]? else if i<p+min ys.length n then ys[i-p]? else xs[i]?:=by
 unfold qei
 have h1:(xs.take p).length=p:=by rw[List.length_take];omega
 have h2:(ys.take n).length=min ys.length n:=by rw[List.length_take];omega
 by_cases c1:i<p
 ·rw[if_pos c1,List.append_assoc,List.getElem?_append_left (by omega),List.getElem?_take,if_pos c1]
 ·rw[if_neg c1]
  by_cases c2:i<p+min ys.length n
  ·rw[if_pos c2,List.append_assoc,List.getElem?_append_right (by omega),h1,List.getElem?_append_left (by omega),List.getElem?_take,if_pos (by omega)]
  ·rw[if_neg c2,List.getElem?_append_right (by rw[List.length_append];omega),List.length_append,h1,h2,List.getElem?_drop]
   congr 1
   omega
end Go.Av
end
