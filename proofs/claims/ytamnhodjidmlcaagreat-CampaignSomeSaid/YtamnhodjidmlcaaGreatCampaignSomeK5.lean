/- Texts of the proof, one behind the other. -/
import Derived.Test.YtamnhodjidmlcaaGreatCampaignSomeK2
import Derived.Test.YtamnhodjidmlcaaGreatCampaignSomeK4
import Derived.RangeFuncNested
import Derived.RangeFuncCalls
import Derived.RangeFuncLeaves
import Derived.OwnWalkIn
import Derived.Test.YtamnhodjidmlcaaGreatAvApp
import Derived.Test.YtamnhodjidmlcaaGreatCampaignSomeK1
section
namespace Go.Av
open Go
abbrev qcL:Ty:=.pair (.int .i64) (.pair (.int .i64) (.pair qew (.pair (.int .i64) .unit)))
abbrev qbI:Ty:=.pair qbd (.pair (.int .i64) (.pair .bool (.pair .bool .unit)))
abbrev qq5 (m c:Nat):Sh:=.pair (.ty qcL) (.pair (.ty .str) (.pair (.box m 0) (.pair (.ty qG) (.pair (.ty .bool) (.pair (.win c qbI) (.ty .unit))))))
abbrev qtw:Sh:=qq5 1 2
abbrev qR3:List Sh:=[qtw,qif 3,.rowc qbI,.rowc (.int .u8)]
abbrev MS:Type:=ql qR3
abbrev MS.mem (y:MS):qer:=(y.2.1,y.2.2.2)
abbrev qoX:List Ty:=[(.int .i64),(.int .i64)]
abbrev qrD:Sh:=Sh.ty (Ty.int IntKind.i64)
def qyp (x:qc qoX):PO (Sh.den qrD) :=
 (.ite (!decide (qdj x.2<0)&&true)
  (.ret (qhR (x.1,qC IntKind.i64 1 (qdj x.2))))
  .fail)
def qrI (_:qc qoX):Bool:=true
def qnb (x:qc qoX):Sh.den qrD:=qhR (x.1,qC IntKind.i64 1 (qdj x.2))
theorem qIV (x:qc qoX) (_:qrI x=true):(qyp x).val=some (qnb x):=by
 refine(qe ?_).trans rfl
 have:¬qdj x.2<0:=by
  show ¬((kk x.2:Nat):Int)<0
  omega
 simp[this]
abbrev qk6:List Ty:=[qw]
abbrev qns:Sh:=Sh.ty (Ty.int IntKind.i64)
def qiQ (x:qc qk6):PO (Sh.den qns) :=
 (.ite (!bif bif x.1==0 then x.1==0 else x.1==1 then decide (x.2.1≥0) else bif x.1==2 then decide (x.2.1≥0)&&(decide (x.2.2.1≥0)&&(decide (x.2.2.1≤14)&&(decide (x.2.2.2.1≥0)&&decide (x.2.2.2.1<32)))) else x.1==3&&(decide (x.2.1≥0)&&(decide (x.2.2.2.1≥0)&&decide (x.2.2.2.1<4))))
  (.ret (2))
  (.ret (0)))
def qqy (_:qc qk6):Bool:=true
def qE (x:qc qk6):Sh.den qns:=(qiQ x).qQ default
theorem qy8 (x:qc qk6) (_:qqy x=true):(qiQ x).val=some (qE x):=PO.qbS default (by simp[qiQ,PO.sure])
def qbW (s:qG.den) (f:qw.den):qG.den :=
 bif f.1==2 then(List.set s.1 (Int.toNat f.2.2.1) (qnb (List.getD s.1 (Int.toNat f.2.2.1) (Ty.dflt (.int .i64)),f.2.2.2.1)),s.2)
 else bif f.1==3 then
  (bif f.2.2.2.1==0 then(s.1,s.2.1,!s.2.2.1,s.2.2.2)
   else bif f.2.2.2.1==1 then(s.1,s.2.1,s.2.2.1,!s.2.2.2.1,s.2.2.2.2)
   else bif f.2.2.2.1==2 then(s.1,s.2.1,s.2.2.1,s.2.2.2.1,!s.2.2.2.2.1,s.2.2.2.2.2)
   else bif f.2.2.2.1==3 then(s.1,s.2.1,s.2.2.1,s.2.2.2.1,s.2.2.2.2.1,!s.2.2.2.2.2.1,s.2.2.2.2.2.2)
   else s)
 else s
abbrev qfE:List Sh:=[.box 0 0,.ty qw]
abbrev qfF:List Sh:=[qtw,qif 3,.rowc qbI,.rowc (.int .u8)]
abbrev qix:Sh:=Sh.tup (Sh.ty Ty.unit)
abbrev qlC:List Sh:=[Sh.pair (Sh.ty (Ty.pair (Ty.int IntKind.i64) (Ty.pair (Ty.int IntKind.i64) (Ty.pair qew (Ty.pair (Ty.int IntKind.i64) Ty.unit))))) (Sh.pair (Sh.ty Ty.str) (Sh.pair (Sh.box 1 0) (Sh.pair (Sh.ty qG) (Sh.pair (Sh.ty Ty.bool) (Sh.pair (Sh.win 2 (Ty.pair qbd (Ty.pair (Ty.int IntKind.i64) (Ty.pair Ty.bool (Ty.pair Ty.bool Ty.unit))))) (Sh.ty Ty.unit)))))),Sh.pair (Sh.ty (Ty.sl qiJ)) (Sh.pair (Sh.wsl none 3 (Ty.int IntKind.u8)) (Sh.ty Ty.unit)),Sh.rowc (Ty.pair qbd (Ty.pair (Ty.int IntKind.i64) (Ty.pair Ty.bool (Ty.pair Ty.bool Ty.unit)))),Sh.rowc (Ty.int IntKind.u8)]
def ql3 (x:ql qfE) (y:ql qfF):PO (Sh.den qix×ql qlC) :=
 (.ite (x.2.1==2)
  (.ite (inRange x.2.2.2.1 15)
  (.ite (qrI (List.getD y.1.2.2.2.1.1 (Int.toNat x.2.2.2.1) (Ty.dflt (Ty.int IntKind.i64)),x.2.2.2.2.1))
   (.ite (inRange x.2.2.2.1 15)
   (.ret ((),((y.1.1,y.1.2.1,(),(List.set y.1.2.2.2.1.1 (Int.toNat x.2.2.2.1) (qnb (List.getD y.1.2.2.2.1.1 (Int.toNat x.2.2.2.1) (Ty.dflt (Ty.int IntKind.i64)),x.2.2.2.2.1)),y.1.2.2.2.1.2),y.1.2.2.2.2),y.2.1,y.2.2.1,y.2.2.2)))
   .fail)
   .fail)
  .fail)
  (.ite (x.2.1==3)
  (.ite (x.2.2.2.2.1==0)
   (.ret ((),((y.1.1,y.1.2.1,(),(y.1.2.2.2.1.1,y.1.2.2.2.1.2.1,!y.1.2.2.2.1.2.2.1,y.1.2.2.2.1.2.2.2),y.1.2.2.2.2),y.2.1,y.2.2.1,y.2.2.2)))
   (.ite (x.2.2.2.2.1==1)
   (.ret ((),((y.1.1,y.1.2.1,(),(y.1.2.2.2.1.1,y.1.2.2.2.1.2.1,y.1.2.2.2.1.2.2.1,!y.1.2.2.2.1.2.2.2.1,y.1.2.2.2.1.2.2.2.2),y.1.2.2.2.2),y.2.1,y.2.2.1,y.2.2.2)))
   (.ite (x.2.2.2.2.1==2)
    (.ret ((),((y.1.1,y.1.2.1,(),(y.1.2.2.2.1.1,y.1.2.2.2.1.2.1,y.1.2.2.2.1.2.2.1,y.1.2.2.2.1.2.2.2.1,!y.1.2.2.2.1.2.2.2.2.1,y.1.2.2.2.1.2.2.2.2.2),y.1.2.2.2.2),y.2.1,y.2.2.1,y.2.2.2)))
    (.ite (x.2.2.2.2.1==3)
    (.ret ((),((y.1.1,y.1.2.1,(),(y.1.2.2.2.1.1,y.1.2.2.2.1.2.1,y.1.2.2.2.1.2.2.1,y.1.2.2.2.1.2.2.2.1,y.1.2.2.2.1.2.2.2.2.1,!y.1.2.2.2.1.2.2.2.2.2.1,y.1.2.2.2.1.2.2.2.2.2.2),y.1.2.2.2.2),y.2.1,y.2.2.1,y.2.2.2)))
    (.ret ((),((y.1.1,y.1.2.1,(),y.1.2.2.2),y.2.1,y.2.2.1,y.2.2.2)))))))
  (.ret ((),((y.1.1,y.1.2.1,(),y.1.2.2.2),y.2.1,y.2.2.1,y.2.2.2)))))
def qeG (x:ql qfE) (_:ql qfF):Bool:=!(x.2.1==(2:Int))||inRange x.2.2.2.1 15
abbrev qiE (x:ql qfE) (y:ql qfF):Sh.den qix×ql qlC:=((),((y.1.1,y.1.2.1,(),qbW y.1.2.2.2.1 x.2,y.1.2.2.2.2),y.2.1,y.2.2.1,y.2.2.2))
theorem qus (x:ql qfE) (y:ql qfF) (h:qeG x y=true):(ql3 x y).val=some (qiE x y):=by
 obtain⟨_,k,p,r,b,_⟩:=x
 unfold qeG at h
 simp only[ql3,qiE,qbW,PO.val]
 simp only at h
 cases h2:(k==(2:Int))
 ·cases h3:(k==(3:Int))
  ·rfl
  ·cases h4:(b==(0:Int))<;>cases h5:(b==(1:Int))<;>cases h6:(b==(2:Int))<;>cases h7:(b==(3:Int))<;>simp only[h4,h5,h6,h7,cond_true,cond_false]
 ·rw[h2] at h
  simp only[Bool.not_true,Bool.false_or] at h
  rw[h]
  rfl
def qeg:LoopN where
 M:=[0,2,3,4]
 T:=[5,6,7,8,14,15,16,17,18,19,20,21,22,23,24,25,26,27,28,29,30,31,32,33,34,35,36,37,38,39,40,41,42,43,44,45,46,47,48,49,50,51,52,53,54,55,56,57,58,59,60,61,62,63,64,65,66,67,68,69,70,71]
 D:=[0,4]
 ss:=[.box 0 0,.box 1 0,.ty (.int .i64),.ty (.int .i64)]
 hs:=[(qq5 2 3),(.ty qbd),(qif 4),.rowc qbI,.rowc (.int .u8)]
 es:=[.ret,.panic [⟨.iface 139 (.agg #[.int .i64 0]),false,false⟩]]
 σ:=(Ty.den (.int .i64))×(Sh.den ((qq5 2 3)))×(Sh.den ((.ty qbd)))×(Sh.den ((qif 4)))×(Sh.den (.rowc qbI))×(Sh.den (.rowc (.int .u8)))
 x0:=fun x y=>(x.2.2.1,y.1,y.2.1,y.2.2.1,y.2.2.2.1,y.2.2.2.2)
 put:=fun x _ s=>((x.1,x.2.1,s.1,x.2.2.2),(s.2.1,s.2.2.1,s.2.2.2.1,s.2.2.2.2.1,s.2.2.2.2.2))
 fuel:=fun _ _=>1
 turn:=fun x _ s =>
 (.ite (qbC IntKind.i64 x.2.2.2 1 != 0||decide (x.2.2.2≥qh s.2.1.2.1))
  (.ret (.out 1 (s.1,s.2.1,s.2.2.1,s.2.2.2.1,s.2.2.2.2.1,s.2.2.2.2.2)))
  (.ite (inRange (w64 (Int.tdiv x.2.2.2 2)) s.2.1.2.2.2.2.2.1.2)
  (.ite (!(List.getD s.2.2.2.2.1 (qb9 s.2.1.2.2.2.2.2.1.1 (w64 (Int.tdiv x.2.2.2 2))) (Ty.dflt qbI)).2.2.1)
   (.ite (decide (qh s.2.1.2.1≤qh s.2.1.2.1)&&decide (0≤x.2.2.2)&&decide (x.2.2.2≤qh s.2.1.2.1))
   (.ite (qiP (List.drop (Int.toNat x.2.2.2) (List.take (Int.toNat (qh s.2.1.2.1)) s.2.1.2.1)))
    (.ite ((List.getD (List.set s.2.2.2.2.1 (qb9 s.2.1.2.2.2.2.2.1.1 (w64 (Int.tdiv x.2.2.2 2))) ((qH (List.drop (Int.toNat x.2.2.2) (List.take (Int.toNat (qh s.2.1.2.1)) s.2.1.2.1))).1,(qH (List.drop (Int.toNat x.2.2.2) (List.take (Int.toNat (qh s.2.1.2.1)) s.2.1.2.1))).2.1,true,(qH (List.drop (Int.toNat x.2.2.2) (List.take (Int.toNat (qh s.2.1.2.1)) s.2.1.2.1))).2.2.1 != 0,())) (qb9 s.2.1.2.2.2.2.2.1.1 (w64 (Int.tdiv x.2.2.2 2))) (Ty.dflt qbI)).2.2.2.1)
    (.ret (.out 1 (s.1,s.2.1,s.2.2.1,s.2.2.2.1,List.set s.2.2.2.2.1 (qb9 s.2.1.2.2.2.2.2.1.1 (w64 (Int.tdiv x.2.2.2 2))) ((qH (List.drop (Int.toNat x.2.2.2) (List.take (Int.toNat (qh s.2.1.2.1)) s.2.1.2.1))).1,(qH (List.drop (Int.toNat x.2.2.2) (List.take (Int.toNat (qh s.2.1.2.1)) s.2.1.2.1))).2.1,true,(qH (List.drop (Int.toNat x.2.2.2) (List.take (Int.toNat (qh s.2.1.2.1)) s.2.1.2.1))).2.2.1 != 0,()),s.2.2.2.2.2)))
    (.ret (.out 0 ((List.getD (List.set s.2.2.2.2.1 (qb9 s.2.1.2.2.2.2.2.1.1 (w64 (Int.tdiv x.2.2.2 2))) ((qH (List.drop (Int.toNat x.2.2.2) (List.take (Int.toNat (qh s.2.1.2.1)) s.2.1.2.1))).1,(qH (List.drop (Int.toNat x.2.2.2) (List.take (Int.toNat (qh s.2.1.2.1)) s.2.1.2.1))).2.1,true,(qH (List.drop (Int.toNat x.2.2.2) (List.take (Int.toNat (qh s.2.1.2.1)) s.2.1.2.1))).2.2.1 != 0,())) (qb9 s.2.1.2.2.2.2.2.1.1 (w64 (Int.tdiv x.2.2.2 2))) (Ty.dflt qbI)).2.1,s.2.1,(List.getD (List.set s.2.2.2.2.1 (qb9 s.2.1.2.2.2.2.2.1.1 (w64 (Int.tdiv x.2.2.2 2))) ((qH (List.drop (Int.toNat x.2.2.2) (List.take (Int.toNat (qh s.2.1.2.1)) s.2.1.2.1))).1,(qH (List.drop (Int.toNat x.2.2.2) (List.take (Int.toNat (qh s.2.1.2.1)) s.2.1.2.1))).2.1,true,(qH (List.drop (Int.toNat x.2.2.2) (List.take (Int.toNat (qh s.2.1.2.1)) s.2.1.2.1))).2.2.1 != 0,())) (qb9 s.2.1.2.2.2.2.2.1.1 (w64 (Int.tdiv x.2.2.2 2))) (Ty.dflt qbI)).1,s.2.2.2.1,List.set s.2.2.2.2.1 (qb9 s.2.1.2.2.2.2.2.1.1 (w64 (Int.tdiv x.2.2.2 2))) ((qH (List.drop (Int.toNat x.2.2.2) (List.take (Int.toNat (qh s.2.1.2.1)) s.2.1.2.1))).1,(qH (List.drop (Int.toNat x.2.2.2) (List.take (Int.toNat (qh s.2.1.2.1)) s.2.1.2.1))).2.1,true,(qH (List.drop (Int.toNat x.2.2.2) (List.take (Int.toNat (qh s.2.1.2.1)) s.2.1.2.1))).2.2.1 != 0,()),s.2.2.2.2.2))))
    .fail)
   .fail)
   (.ite ((List.getD s.2.2.2.2.1 (qb9 s.2.1.2.2.2.2.2.1.1 (w64 (Int.tdiv x.2.2.2 2))) (Ty.dflt qbI)).2.2.2.1)
   (.ret (.out 1 (s.1,s.2.1,s.2.2.1,s.2.2.2.1,s.2.2.2.2.1,s.2.2.2.2.2)))
   (.ret (.out 0 ((List.getD s.2.2.2.2.1 (qb9 s.2.1.2.2.2.2.2.1.1 (w64 (Int.tdiv x.2.2.2 2))) (Ty.dflt qbI)).2.1,s.2.1,(List.getD s.2.2.2.2.1 (qb9 s.2.1.2.2.2.2.2.1.1 (w64 (Int.tdiv x.2.2.2 2))) (Ty.dflt qbI)).1,s.2.2.2.1,s.2.2.2.2.1,s.2.2.2.2.2)))))
  .fail))
abbrev qfd:List Sh:=[.box 0 0]
abbrev qfi:List Sh:=[qtw,qif 3,.rowc qbI,.rowc (.int .u8)]
abbrev qhQ:Sh:=Sh.ty Ty.bool
abbrev qkm:List Sh:=[Sh.pair (Sh.ty (Ty.pair (Ty.int IntKind.i64) (Ty.pair (Ty.int IntKind.i64) (Ty.pair qew (Ty.pair (Ty.int IntKind.i64) Ty.unit))))) (Sh.pair (Sh.ty Ty.str) (Sh.pair (Sh.box 1 0) (Sh.pair (Sh.ty qG) (Sh.pair (Sh.ty Ty.bool) (Sh.pair (Sh.win 2 (Ty.pair qbd (Ty.pair (Ty.int IntKind.i64) (Ty.pair Ty.bool (Ty.pair Ty.bool Ty.unit))))) (Sh.ty Ty.unit)))))),Sh.pair (Sh.ty (Ty.sl qiJ)) (Sh.pair (Sh.wsl none 3 (Ty.int IntKind.u8)) (Sh.ty Ty.unit)),Sh.rowc (Ty.pair qbd (Ty.pair (Ty.int IntKind.i64) (Ty.pair Ty.bool (Ty.pair Ty.bool Ty.unit)))),Sh.rowc (Ty.int IntKind.u8)]
def qo0 (_:ql qfd) (y:ql qfi):PO (Sh.den qhQ×ql qkm) :=
 (.ret (y.1.2.2.2.2.1,((y.1.1,y.1.2.1,(),y.1.2.2.2),y.2.1,y.2.2.1,y.2.2.2)))
def qlw (_:ql qfd) (_:ql qfi):Bool:=true
abbrev qlB (_:ql qfd) (y:ql qfi):Sh.den qhQ×ql qkm:=(y.1.2.2.2.2.1,y)
theorem qtX (x:ql qfd) (y:ql qfi) (_:qlw x y=true):(qo0 x y).val=some (qlB x y):=rfl
def qky (k:Int) (y:qer):List UInt8×Int×Unit:=qq6 y k
def qtr (a:Int) (y:qer):Int:=(qmA y a 4).1
abbrev qeu:List Sh:=[.box 0 0,.ty (.int .i64)]
abbrev qex:List Sh:=[qtw,qif 3,.rowc qbI,.rowc (.int .u8)]
abbrev qgn:Sh:=Sh.ty (Ty.int IntKind.i64)
abbrev qjA:List Sh:=[Sh.pair (Sh.ty (Ty.pair (Ty.int IntKind.i64) (Ty.pair (Ty.int IntKind.i64) (Ty.pair qew (Ty.pair (Ty.int IntKind.i64) Ty.unit))))) (Sh.pair (Sh.ty Ty.str) (Sh.pair (Sh.box 1 0) (Sh.pair (Sh.ty qG) (Sh.pair (Sh.ty Ty.bool) (Sh.pair (Sh.win 2 (Ty.pair qbd (Ty.pair (Ty.int IntKind.i64) (Ty.pair Ty.bool (Ty.pair Ty.bool Ty.unit))))) (Sh.ty Ty.unit)))))),Sh.pair (Sh.ty (Ty.sl qiJ)) (Sh.pair (Sh.wsl none 3 (Ty.int IntKind.u8)) (Sh.ty Ty.unit)),Sh.rowc (Ty.pair qbd (Ty.pair (Ty.int IntKind.i64) (Ty.pair Ty.bool (Ty.pair Ty.bool Ty.unit)))),Sh.rowc (Ty.int IntKind.u8)]
def qnG (x:ql qeu) (y:ql qex):PO (Sh.den qgn×ql qjA) :=
 (.ite (qdz ((),x.2,4) (y.2.1,y.2.2.2))
  (.ret ((qI ((),x.2,4) (y.2.1,y.2.2.2)).1.1,((y.1.1,y.1.2.1,(),y.1.2.2.2),(qI ((),x.2,4) (y.2.1,y.2.2.2)).2.1,y.2.2.1,(qI ((),x.2,4) (y.2.1,y.2.2.2)).2.2)))
  .fail)
def qeI (x:ql qeu) (y:ql qex):Bool:=decide (MemWf (y.2.1,y.2.2.2)∧(show Int from x.2)<9223372036854775808)
abbrev qjU (x:ql qeu) (y:ql qex):Sh.den qgn×ql qjA:=(qtr x.2 (y.2.1,y.2.2.2),y)
theorem qsU (x:ql qeu) (y:ql qex) (h:qeI x y=true):(qnG x y).val=some (qjU x y):=(qe h).trans rfl
abbrev qeM:List Sh:=[.box 0 0,.ty (.int .i64)]
abbrev qeN:List Sh:=[qtw,qif 3,.rowc qbI,.rowc (.int .u8)]
abbrev qha:Sh:=Sh.ty Ty.str
abbrev qjJ:List Sh:=[Sh.pair (Sh.ty (Ty.pair (Ty.int IntKind.i64) (Ty.pair (Ty.int IntKind.i64) (Ty.pair qew (Ty.pair (Ty.int IntKind.i64) Ty.unit))))) (Sh.pair (Sh.ty Ty.str) (Sh.pair (Sh.box 1 0) (Sh.pair (Sh.ty qG) (Sh.pair (Sh.ty Ty.bool) (Sh.pair (Sh.win 2 (Ty.pair qbd (Ty.pair (Ty.int IntKind.i64) (Ty.pair Ty.bool (Ty.pair Ty.bool Ty.unit))))) (Sh.ty Ty.unit)))))),Sh.pair (Sh.ty (Ty.sl qiJ)) (Sh.pair (Sh.wsl none 3 (Ty.int IntKind.u8)) (Sh.ty Ty.unit)),Sh.rowc (Ty.pair qbd (Ty.pair (Ty.int IntKind.i64) (Ty.pair Ty.bool (Ty.pair Ty.bool Ty.unit)))),Sh.rowc (Ty.int IntKind.u8)]
def qoR (x:ql qeM) (y:ql qeN):PO (Sh.den qha×ql qjJ) :=
 (.ret ((qei ((),x.2) (y.2.1,y.2.2.2)).1.1,((y.1.1,y.1.2.1,(),y.1.2.2.2),(qei ((),x.2) (y.2.1,y.2.2.2)).2.1,y.2.2.1,(qei ((),x.2) (y.2.1,y.2.2.2)).2.2)))
def qkp (_:ql qeM) (_:ql qeN):Bool:=true
abbrev qkn (x:ql qeM) (y:ql qeN):Sh.den qha×ql qjJ:=((qky x.2 (y.2.1,y.2.2.2)).1,y)
theorem qtL (x:ql qeM) (y:ql qeN) (_:qkp x y=true):(qoR x y).val=some (qkn x y):=rfl
def qoW (fl:List UInt8) (pc:Int):Option (qbd.den×Int) :=
 bif qbC .i64 pc 1 != 0||decide (pc≥qh fl) then none
 else bif (qjv (fl.drop pc.toNat)).2.2.1 != 0 then none
 else some ((qjv (fl.drop pc.toNat)).1,(qjv (fl.drop pc.toNat)).2.1)
def qJA (fl:List UInt8) (k:Nat):qbI.den:=((qjv (fl.drop (2*k))).1,(qjv (fl.drop (2*k))).2.1,true,(qjv (fl.drop (2*k))).2.2.1 != 0,())
abbrev dfF:qbI.den:=Ty.dflt qbI
def qdZ (fl:List UInt8) (pc:Int) (c:List qbI.den):List qbI.den :=
 bif qbC .i64 pc 1 != 0||decide (pc≥qh fl) then c
 else bif (List.getD c (pc / 2).toNat dfF).2.2.1 then c
 else List.set c (pc / 2).toNat (qJA fl (pc / 2).toNat)
instance decIns4:DecidableEq (Int×Int×Int×Bool×Unit):=inferInstance
instance decIns:DecidableEq qbd.den:=inferInstanceAs (DecidableEq (Int×Int×Int×Int×(Int×Int×Int×Bool×Unit)))
instance decFet:DecidableEq qbI.den:=inferInstanceAs (DecidableEq (qbd.den×(Int×Bool×Bool×Unit)))
def qrm (fl:List UInt8) (c:List qbI.den):Prop:=c.length=fl.length / 2+1∧∀k,k<c.length→(List.getD c k dfF).2.2.1=true→List.getD c k dfF=qJA fl k
instance (fl:List UInt8) (c:List qbI.den):Decidable (qrm fl c):=by
 unfold qrm
 infer_instance
structure MachWf (y:MS):Prop where
 mem:MemWf y.mem
 regs:List.length y.1.2.2.2.1.1=15
 pc:0≤(show Int from y.1.2.2.2.1.2.1)∧(show Int from y.1.2.2.2.1.2.1)<4294967296
 hand:0≤(show Int from y.1.1.2.1)∧(show Int from y.1.1.2.1)<4294967296
 len:List.length y.1.2.1≤262144
 win:y.1.2.2.2.2.2.1=(0,List.length y.1.2.1 / 2+1)
 cache:qrm y.1.2.1 y.2.2.1
instance (y:MS):Decidable (MachWf y) :=
 if h:MemWf y.mem∧List.length y.1.2.2.2.1.1=15∧(0≤(show Int from y.1.2.2.2.1.2.1)∧(show Int from y.1.2.2.2.1.2.1)<4294967296)∧(0≤(show Int from y.1.1.2.1)∧(show Int from y.1.1.2.1)<4294967296)∧List.length y.1.2.1≤262144∧(y.1.2.2.2.2.2.1:Nat×Nat)=(0,List.length y.1.2.1 / 2+1)∧qrm y.1.2.1 y.2.2.1
 then isTrue ⟨h.1,h.2.1,h.2.2.1,h.2.2.2.1,h.2.2.2.2.1,h.2.2.2.2.2.1,h.2.2.2.2.2.2⟩ else isFalse fun h'=>h ⟨h'.mem,h'.regs,h'.pc,h'.hand,h'.len,h'.win,h'.cache⟩
theorem qMg (fl:List UInt8) (c:List qbI.den) (hd:qcL.den) (st:qG.den) (dn:Bool) (i0:qbd.den) (t:Int) (M:(qif 3).den) (B:List Int)
  (hp:0≤(show Int from st.2.1)∧(show Int from st.2.1)<4294967296) (hc:qrm fl c) :
  LoopN.res qeg ((),(),t,st.2.1) ((hd,fl,(),st,dn,(0,fl.length / 2+1),()),i0,M,c,B)=some (match qoW fl st.2.1 with
   |none=>(1,t,(hd,fl,(),st,dn,(0,fl.length / 2+1),()),i0,M,qdZ fl st.2.1 c,B)
   |some p=>(0,p.2,(hd,fl,(),st,dn,(0,fl.length / 2+1),()),p.1,M,qdZ fl st.2.1 c,B)):=by
 obtain⟨hc1,hc2⟩:=hc
 obtain⟨rg,pc,fgs⟩:=st
 simp only at hp ⊢
 have hp:0≤pc∧pc<4294967296:=hp
 have hb:qbC .i64 pc 1=pc % 2:=qvu pc
 unfold LoopN.res
 show qcF _ 1 _=_
 unfold qoW qdZ
 cases ho:(qbC .i64 pc 1 != 0||decide (pc≥qh fl)) with
 |true=>exact(qbg ((qe ho).trans rfl)).trans (by rfl)
 |false =>
  simp only[cond_false]
  simp only[Bool.or_eq_false_iff,bne_eq_false_iff_eq,decide_eq_false_iff_not] at ho
  obtain⟨ho1,ho2⟩:=ho
  have hlt:pc<(fl.length:Int):=by simpa [qh] using ho2
  rw[hb] at ho1
  obtain⟨m,rfl⟩:=Int.eq_ofNat_of_zero_le hp.1
  have hm:m % 2=0:=by omega
  obtain⟨k,rfl⟩:∃k,m=2*k:=⟨m / 2,by omega⟩
  have hlt':((2*k:Nat):Int)<((fl.length:Nat):Int):=hlt
  have hk:k<c.length:=by omega
  have e1:Int.tdiv ((2*k:Nat):Int) 2=(k:Int):=by
   rw[Int.tdiv_eq_ediv_of_nonneg (by omega)]
   omega
  have e2:w64 ((k:Nat):Int)=(k:Int):=qt (by omega) (by omega)
  have e3:(((2*k:Nat):Int) / 2).toNat=k:=by omega
  have e4:List.take (Int.toNat (qh fl)) fl=fl:=by simp[qh]
  have e5:Int.toNat ((2*k:Nat):Int)=2*k:=by omega
  have e6:qb9 0 (k:Int)=k:=by simp[qb9]
  have hno:(qbC .i64 ((2*k:Nat):Int) 1 != 0||decide (((2*k:Nat):Int)≥qh fl))=false:=by
   rw[hb]
   simp only[Bool.or_eq_false_iff,bne_eq_false_iff_eq,decide_eq_false_iff_not]
   exact⟨ho1,by simpa [qh] using hlt⟩
  have hin:inRange (w64 (Int.tdiv ((2*k:Nat):Int) 2)) (fl.length / 2+1)=true:=by
   rw[e1,e2]
   exact inR (by omega)
  rw[e3,e5]
  cases hk1:(List.getD c k dfF).2.2.1 with
  |true =>
   have he:=hc2 k hk hk1
   simp only[cond_true]
   cases he2:((qjv (fl.drop (2*k))).2.2.1 != 0) with
   |true =>
    refine(qbg ((qv hno).trans ((qe hin).trans ((qv ?_).trans ((qe ?_).trans rfl))))).trans (by rfl)
    ·show(!(List.getD c (qb9 0 (w64 (Int.tdiv ((2*k:Nat):Int) 2))) dfF).2.2.1)=false
     rw[e1,e2,e6,hk1];rfl
    ·show(List.getD c (qb9 0 (w64 (Int.tdiv ((2*k:Nat):Int) 2))) dfF).2.2.2.1=true
     rw[e1,e2,e6,he];exact he2
   |false =>
    refine(qbg ((qv hno).trans ((qe hin).trans ((qv ?_).trans ((qv ?_).trans rfl))))).trans ?_
    ·show(!(List.getD c (qb9 0 (w64 (Int.tdiv ((2*k:Nat):Int) 2))) dfF).2.2.1)=false
     rw[e1,e2,e6,hk1];rfl
    ·show(List.getD c (qb9 0 (w64 (Int.tdiv ((2*k:Nat):Int) 2))) dfF).2.2.2.1=false
     rw[e1,e2,e6,he];exact he2
    ·show some (0,(List.getD c (qb9 0 (w64 (Int.tdiv ((2*k:Nat):Int) 2))) dfF).2.1,_,(List.getD c (qb9 0 (w64 (Int.tdiv ((2*k:Nat):Int) 2))) dfF).1,_)=_
     rw[e1,e2,e6,he]
     rfl
  |false =>
   simp only[cond_false]
   have hle:(decide (qh fl≤qh fl)&&decide (0≤((2*k:Nat):Int))&&decide (((2*k:Nat):Int)≤qh fl))=true:=by
    simp only[Bool.and_eq_true,decide_eq_true_eq]
    exact⟨⟨Int.le_refl _,by omega⟩,by simp only[qh];omega⟩
   have hset:List.getD (List.set c k (qJA fl k)) k dfF=qJA fl k:=by
    simp[List.getD_eq_getElem?_getD,hk]
   have hent:∀s:List UInt8,s=fl.drop (2*k)→((qH s).1,(qH s).2.1,true,(qH s).2.2.1 != 0,())=qJA fl k:=fun s hs=>by subst hs;rw[qOP];rfl
   have hs:List.drop (Int.toNat ((2*k:Nat):Int)) (List.take (Int.toNat (qh fl)) fl)=fl.drop (2*k):=by rw[e4,e5]
   cases he2:((qjv (fl.drop (2*k))).2.2.1 != 0) with
   |true =>
    refine(qbg ((qv hno).trans ((qe hin).trans ((qe ?_).trans ((qe hle).trans ((qe (qHB _)).trans ((qe ?_).trans rfl))))))).trans ?_
    ·show(!(List.getD c (qb9 0 (w64 (Int.tdiv ((2*k:Nat):Int) 2))) dfF).2.2.1)=true
     rw[e1,e2,e6,hk1];rfl
    ·show(List.getD (List.set c (qb9 0 (w64 (Int.tdiv ((2*k:Nat):Int) 2))) ((qH (List.drop (Int.toNat ((2*k:Nat):Int)) (List.take (Int.toNat (qh fl)) fl))).1,(qH (List.drop (Int.toNat ((2*k:Nat):Int)) (List.take (Int.toNat (qh fl)) fl))).2.1,true,(qH (List.drop (Int.toNat ((2*k:Nat):Int)) (List.take (Int.toNat (qh fl)) fl))).2.2.1 != 0,())) (qb9 0 (w64 (Int.tdiv ((2*k:Nat):Int) 2))) dfF).2.2.2.1=true
     rw[e1,e2,e6,hent _ hs,hset]
     exact he2
    ·show some (1,t,(hd,fl,(),(rg,((2*k:Nat):Int),fgs),dn,(0,fl.length / 2+1),()),i0,M,List.set c (qb9 0 (w64 (Int.tdiv ((2*k:Nat):Int) 2))) ((qH (List.drop (Int.toNat ((2*k:Nat):Int)) (List.take (Int.toNat (qh fl)) fl))).1,(qH (List.drop (Int.toNat ((2*k:Nat):Int)) (List.take (Int.toNat (qh fl)) fl))).2.1,true,(qH (List.drop (Int.toNat ((2*k:Nat):Int)) (List.take (Int.toNat (qh fl)) fl))).2.2.1 != 0,()),B)=_
     rw[e1,e2,e6,hent _ hs]
     rfl
   |false =>
    refine(qbg ((qv hno).trans ((qe hin).trans ((qe ?_).trans ((qe hle).trans ((qe (qHB _)).trans ((qv ?_).trans rfl))))))).trans ?_
    ·show(!(List.getD c (qb9 0 (w64 (Int.tdiv ((2*k:Nat):Int) 2))) dfF).2.2.1)=true
     rw[e1,e2,e6,hk1];rfl
    ·show(List.getD (List.set c (qb9 0 (w64 (Int.tdiv ((2*k:Nat):Int) 2))) ((qH (List.drop (Int.toNat ((2*k:Nat):Int)) (List.take (Int.toNat (qh fl)) fl))).1,(qH (List.drop (Int.toNat ((2*k:Nat):Int)) (List.take (Int.toNat (qh fl)) fl))).2.1,true,(qH (List.drop (Int.toNat ((2*k:Nat):Int)) (List.take (Int.toNat (qh fl)) fl))).2.2.1 != 0,())) (qb9 0 (w64 (Int.tdiv ((2*k:Nat):Int) 2))) dfF).2.2.2.1=false
     rw[e1,e2,e6,hent _ hs,hset]
     exact he2
    ·show some (0,(List.getD (List.set c (qb9 0 (w64 (Int.tdiv ((2*k:Nat):Int) 2))) ((qH (List.drop (Int.toNat ((2*k:Nat):Int)) (List.take (Int.toNat (qh fl)) fl))).1,(qH (List.drop (Int.toNat ((2*k:Nat):Int)) (List.take (Int.toNat (qh fl)) fl))).2.1,true,(qH (List.drop (Int.toNat ((2*k:Nat):Int)) (List.take (Int.toNat (qh fl)) fl))).2.2.1 != 0,())) (qb9 0 (w64 (Int.tdiv ((2*k:Nat):Int) 2))) dfF).2.1,(hd,fl,(),(rg,((2*k:Nat):Int),fgs),dn,(0,fl.length / 2+1),()),(List.getD (List.set c (qb9 0 (w64 (Int.tdiv ((2*k:Nat):Int) 2))) ((qH (List.drop (Int.toNat ((2*k:Nat):Int)) (List.take (Int.toNat (qh fl)) fl))).1,(qH (List.drop (Int.toNat ((2*k:Nat):Int)) (List.take (Int.toNat (qh fl)) fl))).2.1,true,(qH (List.drop (Int.toNat ((2*k:Nat):Int)) (List.take (Int.toNat (qh fl)) fl))).2.2.1 != 0,())) (qb9 0 (w64 (Int.tdiv ((2*k:Nat):Int) 2))) dfF).1,M,List.set c (qb9 0 (w64 (Int.tdiv ((2*k:Nat):Int) 2))) ((qH (List.drop (Int.toNat ((2*k:Nat):Int)) (List.take (Int.toNat (qh fl)) fl))).1,(qH (List.drop (Int.toNat ((2*k:Nat):Int)) (List.take (Int.toNat (qh fl)) fl))).2.1,true,(qH (List.drop (Int.toNat ((2*k:Nat):Int)) (List.take (Int.toNat (qh fl)) fl))).2.2.1 != 0,()),B)=_
     rw[e1,e2,e6,hent _ hs,hset]
     rfl
abbrev qxP:Type:=qhU.den×qG.den×Bool×qer
def quw (st:qG.den) (i:qbd.den) (mem:qer) (ld addr:Int):qxP:=((0,st.2.1,addr,qdc (st,i),()),(qbT (st,i,ld)).1,!(qbT (st,i,ld)).2.1,mem)
def qrQ (hd:qcL.den) (st:qG.den) (mem:qer) (addr:Int):qxP:=((2,st.2.1,addr,12,()),(st.1,hd.2.1,st.2.2),false,mem)
def qoS (hd:qcL.den) (st:qG.den) (i:qbd.den) (mem:qer):qxP :=
 bif (qf (st,i)).2.1 then
  (bif (qf (st,i)).1.2.2.2.1 then
   (bif (qfA mem (qf (st,i)).1.1 (qf (st,i)).1.2.1 (qf (st,i)).1.2.2.1).1 != 0 then qrQ hd st (qfA mem (qf (st,i)).1.1 (qf (st,i)).1.2.1 (qf (st,i)).1.2.2.1).2 (qf (st,i)).1.1
    else quw st i (qfA mem (qf (st,i)).1.1 (qf (st,i)).1.2.1 (qf (st,i)).1.2.2.1).2 0 (qf (st,i)).1.1)
   else bif (qmA mem (qf (st,i)).1.1 (qf (st,i)).1.2.1).2.1 != 0 then qrQ hd st mem (qf (st,i)).1.1
    else quw st i mem (qmA mem (qf (st,i)).1.1 (qf (st,i)).1.2.1).1 (qf (st,i)).1.1)
 else quw st i mem 0 0
def qta (hd:qcL.den) (fl:List UInt8) (st:qG.den) (mem:qer) (skip:Bool):qxP :=
 match qoW fl st.2.1 with
 |none=>qrQ hd st mem 0
 |some p=>bif skip then((1,st.2.1,0,1,()),(st.1,qjr (st.2.1,p.2),st.2.2),false,mem) else qoS hd st p.1 mem
def qtQ (f:qw.den):qw.den:=bif qE f != 0 then(0,0,0,0,()) else f
def qcf (hd:qcL.den) (fl:List UInt8) (st:qG.den) (mem:qer) (f:qw.den):qxP:=qta hd fl (qbW st (qtQ f)) mem ((qtQ f).1==(1:Int))
theorem qyR (s:qG.den) (f:qw.den) (h:List.length s.1=15):List.length (qbW s f).1=15:=by
 unfold qbW
 cases f.1==(2:Int)
 ·cases f.1==(3:Int)
  ·exact h
  ·cases f.2.2.2.1==(0:Int)<;>cases f.2.2.2.1==(1:Int)<;>cases f.2.2.2.1==(2:Int)<;>cases f.2.2.2.1==(3:Int)<;>exact h
 ·simp only[cond_true,List.length_set]
  exact h
theorem qyd (s:qG.den) (f:qw.den):(qbW s f).2.1=s.2.1:=by
 unfold qbW
 cases f.1==(2:Int)
 ·cases f.1==(3:Int)
  ·rfl
  ·cases f.2.2.2.1==(0:Int)<;>cases f.2.2.2.1==(1:Int)<;>cases f.2.2.2.1==(2:Int)<;>cases f.2.2.2.1==(3:Int)<;>rfl
 ·rfl
abbrev qlK (hd:qcL.den) (fl:List UInt8) (win:Nat×Nat) (c:List qbI.den) (r:qxP):(qhU.den×Bool×Unit)×MS:=((r.1,true,()),((hd,fl,(),r.2.1,r.2.2.1,win,()),r.2.2.2.1,c,r.2.2.2.2))
def qSh (hd:qcL.den) (fl:List UInt8) (dn:Bool) (win:Nat×Nat) (st:qG.den) (i:qbd.den) (M:(qif 3).den) (c:List qbI.den) (B:List Int):PO ((qhU.den×Bool×Unit)×MS) :=
 .ite (qfz (st,i))
  (.ite (qf (st,i)).2.1
   (.ite (qf (st,i)).1.2.2.2.1
    (.ite (qdH ((),(qf (st,i)).1.1,(qf (st,i)).1.2.1,(qf (st,i)).1.2.2.1) (M,B))
     (.ite ((qbf ((),(qf (st,i)).1.1,(qf (st,i)).1.2.1,(qf (st,i)).1.2.2.1) (M,B)).1 != 0)
      (.ret (((2,st.2.1,(qf (st,i)).1.1,12,()),true,()),((hd,fl,(),(st.1,hd.2.1,st.2.2),dn,win,()),(qbf ((),(qf (st,i)).1.1,(qf (st,i)).1.2.1,(qf (st,i)).1.2.2.1) (M,B)).2.1,c,(qbf ((),(qf (st,i)).1.1,(qf (st,i)).1.2.1,(qf (st,i)).1.2.2.1) (M,B)).2.2)))
      (.ite (qdR (st,i)) (.ite (qe1 (st,i,0))
       (.ret (((0,st.2.1,(qf (st,i)).1.1,qdc (st,i),()),true,()),((hd,fl,(),(qbT (st,i,0)).1,!(qbT (st,i,0)).2.1,win,()),(qbf ((),(qf (st,i)).1.1,(qf (st,i)).1.2.1,(qf (st,i)).1.2.2.1) (M,B)).2.1,c,(qbf ((),(qf (st,i)).1.1,(qf (st,i)).1.2.1,(qf (st,i)).1.2.2.1) (M,B)).2.2))) .fail) .fail))
     .fail)
    (.ite (qdz ((),(qf (st,i)).1.1,(qf (st,i)).1.2.1) (M,B))
     (.ite ((qI ((),(qf (st,i)).1.1,(qf (st,i)).1.2.1) (M,B)).1.2.1 != 0)
      (.ret (((2,st.2.1,(qf (st,i)).1.1,12,()),true,()),((hd,fl,(),(st.1,hd.2.1,st.2.2),dn,win,()),(qI ((),(qf (st,i)).1.1,(qf (st,i)).1.2.1) (M,B)).2.1,c,(qI ((),(qf (st,i)).1.1,(qf (st,i)).1.2.1) (M,B)).2.2)))
      (.ite (qdR (st,i)) (.ite (qe1 (st,i,(qI ((),(qf (st,i)).1.1,(qf (st,i)).1.2.1) (M,B)).1.1))
       (.ret (((0,st.2.1,(qf (st,i)).1.1,qdc (st,i),()),true,()),((hd,fl,(),(qbT (st,i,(qI ((),(qf (st,i)).1.1,(qf (st,i)).1.2.1) (M,B)).1.1)).1,!(qbT (st,i,(qI ((),(qf (st,i)).1.1,(qf (st,i)).1.2.1) (M,B)).1.1)).2.1,win,()),(qI ((),(qf (st,i)).1.1,(qf (st,i)).1.2.1) (M,B)).2.1,c,(qI ((),(qf (st,i)).1.1,(qf (st,i)).1.2.1) (M,B)).2.2))) .fail) .fail))
     .fail))
   (.ite (qdR (st,i)) (.ite (qe1 (st,i,0))
    (.ret (((0,st.2.1,0,qdc (st,i),()),true,()),((hd,fl,(),(qbT (st,i,0)).1,!(qbT (st,i,0)).2.1,win,()),M,c,B))) .fail) .fail))
  .fail
theorem qRH (hd:qcL.den) (fl:List UInt8) (win:Nat×Nat) (st:qG.den) (i:qbd.den) (M:(qif 3).den) (c:List qbI.den) (B:List Int) (hr:List.length st.1=15) (hm:MemWf (M,B)) :
  (qSh hd fl false win st i M c B).val=some (qlK hd fl win c (qoS hd st i (M,B))):=by
 have g1:qfz (st,i)=true:=decide_eq_true hr
 have g2:qdR (st,i)=true:=decide_eq_true hr
 have g3:∀ld,qe1 (st,i,ld)=true:=fun ld=>decide_eq_true hr
 have ha:=qJZ st i
 have g4:∀n v,qdH ((),(qf (st,i)).1.1,n,v) (M,B)=true:=fun n v=>decide_eq_true ⟨hm,ha⟩
 have g5:∀n,qdz ((),(qf (st,i)).1.1,n) (M,B)=true:=fun n=>decide_eq_true ⟨hm,ha⟩
 unfold qSh qoS
 refine(qe g1).trans ?_
 cases h1:(qf (st,i)).2.1
 ·exact(qv rfl).trans ((qe g2).trans ((qe (g3 _)).trans rfl))
 ·refine(qe rfl).trans ?_
  simp only[cond_true]
  cases h2:(qf (st,i)).1.2.2.2.1
  ·refine(qv rfl).trans ((qe (g5 _)).trans ?_)
   simp only[cond_false]
   cases h3:((qmA (M,B) (qf (st,i)).1.1 (qf (st,i)).1.2.1).2.1 != (0:Int))
   ·exact(qv h3).trans ((qe g2).trans ((qe (g3 _)).trans rfl))
   ·exact(qe h3).trans rfl
  ·refine(qe rfl).trans ((qe (g4 _ _)).trans ?_)
   simp only[cond_true]
   cases h3:((qfA (M,B) (qf (st,i)).1.1 (qf (st,i)).1.2.1 (qf (st,i)).1.2.2.1).1 != (0:Int))
   ·exact(qv h3).trans ((qe g2).trans ((qe (g3 _)).trans rfl))
   ·exact(qe h3).trans rfl
abbrev qfc:List Sh:=[.box 0 0,.ty qw]
abbrev qfh:List Sh:=[qtw,qif 3,.rowc qbI,.rowc (.int .u8)]
abbrev qhJ:Sh:=Sh.tup (Sh.pair (Sh.ty qw) (Sh.pair (Sh.ty Ty.bool) (Sh.ty Ty.unit)))
abbrev qkq:List Sh:=[Sh.pair (Sh.ty (Ty.pair (Ty.int IntKind.i64) (Ty.pair (Ty.int IntKind.i64) (Ty.pair qew (Ty.pair (Ty.int IntKind.i64) Ty.unit))))) (Sh.pair (Sh.ty Ty.str) (Sh.pair (Sh.box 1 0) (Sh.pair (Sh.ty qG) (Sh.pair (Sh.ty Ty.bool) (Sh.pair (Sh.win 2 (Ty.pair qbd (Ty.pair (Ty.int IntKind.i64) (Ty.pair Ty.bool (Ty.pair Ty.bool Ty.unit))))) (Sh.ty Ty.unit)))))),Sh.pair (Sh.ty (Ty.sl qiJ)) (Sh.pair (Sh.wsl none 3 (Ty.int IntKind.u8)) (Sh.ty Ty.unit)),Sh.rowc (Ty.pair qbd (Ty.pair (Ty.int IntKind.i64) (Ty.pair Ty.bool (Ty.pair Ty.bool Ty.unit)))),Sh.rowc (Ty.int IntKind.u8)]
def qls (x:ql qfc) (y:ql qfh):PO (Sh.den qhJ×ql qkq) :=
 (.ite (y.1.2.2.2.2.1)
  (.ret (((0,0,0,0,()),false,()),((y.1.1,y.1.2.1,(),y.1.2.2.2),y.2.1,y.2.2.1,y.2.2.2)))
  (.ite (qE x.2 != 0)
  (.ite (qeG ((),0,0,0,0,()) ((y.1.1,y.1.2.1,(),y.1.2.2.2),y.2))
   (.opt (LoopN.res qeg ((),(),0,(qbW y.1.2.2.2.1 (0,0,0,0,())).2.1) ((y.1.1,y.1.2.1,(),qbW y.1.2.2.2.1 (0,0,0,0,()),y.1.2.2.2.2),(0,0,0,0,0,0,0,false,()),y.2)) fun p0 =>
   (.ite (way p0.1)
    (.ite (qfz (p0.2.2.1.2.2.2.1,p0.2.2.2.1))
    (.ite ((qf (p0.2.2.1.2.2.2.1,p0.2.2.2.1)).2.1)
     (.ite ((qf (p0.2.2.1.2.2.2.1,p0.2.2.2.1)).1.2.2.2.1)
     (.ite (qdH ((),(qf (p0.2.2.1.2.2.2.1,p0.2.2.2.1)).1.1,(qf (p0.2.2.1.2.2.2.1,p0.2.2.2.1)).1.2.1,(qf (p0.2.2.1.2.2.2.1,p0.2.2.2.1)).1.2.2.1) (p0.2.2.2.2.1,p0.2.2.2.2.2.2))
      (.ite ((qbf ((),(qf (p0.2.2.1.2.2.2.1,p0.2.2.2.1)).1.1,(qf (p0.2.2.1.2.2.2.1,p0.2.2.2.1)).1.2.1,(qf (p0.2.2.1.2.2.2.1,p0.2.2.2.1)).1.2.2.1) (p0.2.2.2.2.1,p0.2.2.2.2.2.2)).1 != 0)
      (.ret (((2,p0.2.2.1.2.2.2.1.2.1,(qf (p0.2.2.1.2.2.2.1,p0.2.2.2.1)).1.1,12,()),true,()),((p0.2.2.1.1,p0.2.2.1.2.1,(),(p0.2.2.1.2.2.2.1.1,p0.2.2.1.1.2.1,p0.2.2.1.2.2.2.1.2.2),p0.2.2.1.2.2.2.2),(qbf ((),(qf (p0.2.2.1.2.2.2.1,p0.2.2.2.1)).1.1,(qf (p0.2.2.1.2.2.2.1,p0.2.2.2.1)).1.2.1,(qf (p0.2.2.1.2.2.2.1,p0.2.2.2.1)).1.2.2.1) (p0.2.2.2.2.1,p0.2.2.2.2.2.2)).2.1,p0.2.2.2.2.2.1,(qbf ((),(qf (p0.2.2.1.2.2.2.1,p0.2.2.2.1)).1.1,(qf (p0.2.2.1.2.2.2.1,p0.2.2.2.1)).1.2.1,(qf (p0.2.2.1.2.2.2.1,p0.2.2.2.1)).1.2.2.1) (p0.2.2.2.2.1,p0.2.2.2.2.2.2)).2.2)))
      (.ite (qdR (p0.2.2.1.2.2.2.1,p0.2.2.2.1))
       (.ite (qe1 (p0.2.2.1.2.2.2.1,p0.2.2.2.1,0))
       (.ret (((0,(qbW y.1.2.2.2.1 (0,0,0,0,())).2.1,(qf (p0.2.2.1.2.2.2.1,p0.2.2.2.1)).1.1,qdc (p0.2.2.1.2.2.2.1,p0.2.2.2.1),()),true,()),((p0.2.2.1.1,p0.2.2.1.2.1,(),(qbT (p0.2.2.1.2.2.2.1,p0.2.2.2.1,0)).1,!(qbT (p0.2.2.1.2.2.2.1,p0.2.2.2.1,0)).2.1,p0.2.2.1.2.2.2.2.2),(qbf ((),(qf (p0.2.2.1.2.2.2.1,p0.2.2.2.1)).1.1,(qf (p0.2.2.1.2.2.2.1,p0.2.2.2.1)).1.2.1,(qf (p0.2.2.1.2.2.2.1,p0.2.2.2.1)).1.2.2.1) (p0.2.2.2.2.1,p0.2.2.2.2.2.2)).2.1,p0.2.2.2.2.2.1,(qbf ((),(qf (p0.2.2.1.2.2.2.1,p0.2.2.2.1)).1.1,(qf (p0.2.2.1.2.2.2.1,p0.2.2.2.1)).1.2.1,(qf (p0.2.2.1.2.2.2.1,p0.2.2.2.1)).1.2.2.1) (p0.2.2.2.2.1,p0.2.2.2.2.2.2)).2.2)))
       .fail)
       .fail))
      .fail)
     (.ite (qdz ((),(qf (p0.2.2.1.2.2.2.1,p0.2.2.2.1)).1.1,(qf (p0.2.2.1.2.2.2.1,p0.2.2.2.1)).1.2.1) (p0.2.2.2.2.1,p0.2.2.2.2.2.2))
      (.ite ((qI ((),(qf (p0.2.2.1.2.2.2.1,p0.2.2.2.1)).1.1,(qf (p0.2.2.1.2.2.2.1,p0.2.2.2.1)).1.2.1) (p0.2.2.2.2.1,p0.2.2.2.2.2.2)).1.2.1 != 0)
      (.ret (((2,p0.2.2.1.2.2.2.1.2.1,(qf (p0.2.2.1.2.2.2.1,p0.2.2.2.1)).1.1,12,()),true,()),((p0.2.2.1.1,p0.2.2.1.2.1,(),(p0.2.2.1.2.2.2.1.1,p0.2.2.1.1.2.1,p0.2.2.1.2.2.2.1.2.2),p0.2.2.1.2.2.2.2),(qI ((),(qf (p0.2.2.1.2.2.2.1,p0.2.2.2.1)).1.1,(qf (p0.2.2.1.2.2.2.1,p0.2.2.2.1)).1.2.1) (p0.2.2.2.2.1,p0.2.2.2.2.2.2)).2.1,p0.2.2.2.2.2.1,(qI ((),(qf (p0.2.2.1.2.2.2.1,p0.2.2.2.1)).1.1,(qf (p0.2.2.1.2.2.2.1,p0.2.2.2.1)).1.2.1) (p0.2.2.2.2.1,p0.2.2.2.2.2.2)).2.2)))
      (.ite (qdR (p0.2.2.1.2.2.2.1,p0.2.2.2.1))
       (.ite (qe1 (p0.2.2.1.2.2.2.1,p0.2.2.2.1,(qI ((),(qf (p0.2.2.1.2.2.2.1,p0.2.2.2.1)).1.1,(qf (p0.2.2.1.2.2.2.1,p0.2.2.2.1)).1.2.1) (p0.2.2.2.2.1,p0.2.2.2.2.2.2)).1.1))
       (.ret (((0,(qbW y.1.2.2.2.1 (0,0,0,0,())).2.1,(qf (p0.2.2.1.2.2.2.1,p0.2.2.2.1)).1.1,qdc (p0.2.2.1.2.2.2.1,p0.2.2.2.1),()),true,()),((p0.2.2.1.1,p0.2.2.1.2.1,(),(qbT (p0.2.2.1.2.2.2.1,p0.2.2.2.1,(qI ((),(qf (p0.2.2.1.2.2.2.1,p0.2.2.2.1)).1.1,(qf (p0.2.2.1.2.2.2.1,p0.2.2.2.1)).1.2.1) (p0.2.2.2.2.1,p0.2.2.2.2.2.2)).1.1)).1,!(qbT (p0.2.2.1.2.2.2.1,p0.2.2.2.1,(qI ((),(qf (p0.2.2.1.2.2.2.1,p0.2.2.2.1)).1.1,(qf (p0.2.2.1.2.2.2.1,p0.2.2.2.1)).1.2.1) (p0.2.2.2.2.1,p0.2.2.2.2.2.2)).1.1)).2.1,p0.2.2.1.2.2.2.2.2),(qI ((),(qf (p0.2.2.1.2.2.2.1,p0.2.2.2.1)).1.1,(qf (p0.2.2.1.2.2.2.1,p0.2.2.2.1)).1.2.1) (p0.2.2.2.2.1,p0.2.2.2.2.2.2)).2.1,p0.2.2.2.2.2.1,(qI ((),(qf (p0.2.2.1.2.2.2.1,p0.2.2.2.1)).1.1,(qf (p0.2.2.1.2.2.2.1,p0.2.2.2.1)).1.2.1) (p0.2.2.2.2.1,p0.2.2.2.2.2.2)).2.2)))
       .fail)
       .fail))
      .fail))
     (.ite (qdR (p0.2.2.1.2.2.2.1,p0.2.2.2.1))
     (.ite (qe1 (p0.2.2.1.2.2.2.1,p0.2.2.2.1,0))
      (.ret (((0,(qbW y.1.2.2.2.1 (0,0,0,0,())).2.1,0,qdc (p0.2.2.1.2.2.2.1,p0.2.2.2.1),()),true,()),((p0.2.2.1.1,p0.2.2.1.2.1,(),(qbT (p0.2.2.1.2.2.2.1,p0.2.2.2.1,0)).1,!(qbT (p0.2.2.1.2.2.2.1,p0.2.2.2.1,0)).2.1,p0.2.2.1.2.2.2.2.2),p0.2.2.2.2.1,p0.2.2.2.2.2.1,p0.2.2.2.2.2.2)))
      .fail)
     .fail))
    .fail)
    (.ret (((2,p0.2.2.1.2.2.2.1.2.1,0,12,()),true,()),((p0.2.2.1.1,p0.2.2.1.2.1,(),(p0.2.2.1.2.2.2.1.1,p0.2.2.1.1.2.1,p0.2.2.1.2.2.2.1.2.2),p0.2.2.1.2.2.2.2),p0.2.2.2.2.1,p0.2.2.2.2.2.1,p0.2.2.2.2.2.2)))))
   .fail)
  (.ite (qeG ((),x.2) ((y.1.1,y.1.2.1,(),y.1.2.2.2),y.2))
   (.opt (LoopN.res qeg ((),(),0,(qbW y.1.2.2.2.1 x.2).2.1) ((y.1.1,y.1.2.1,(),qbW y.1.2.2.2.1 x.2,y.1.2.2.2.2),(0,0,0,0,0,0,0,false,()),y.2)) fun p0 =>
   (.ite (way p0.1)
    (.ite (x.2.1==1)
    (.ret (((1,(qbW y.1.2.2.2.1 x.2).2.1,0,1,()),true,()),((p0.2.2.1.1,p0.2.2.1.2.1,(),(p0.2.2.1.2.2.2.1.1,qjr (p0.2.2.1.2.2.2.1.2.1,p0.2.1),p0.2.2.1.2.2.2.1.2.2),p0.2.2.1.2.2.2.2),p0.2.2.2.2.1,p0.2.2.2.2.2.1,p0.2.2.2.2.2.2)))
    (.ite (qfz (p0.2.2.1.2.2.2.1,p0.2.2.2.1))
     (.ite ((qf (p0.2.2.1.2.2.2.1,p0.2.2.2.1)).2.1)
     (.ite ((qf (p0.2.2.1.2.2.2.1,p0.2.2.2.1)).1.2.2.2.1)
      (.ite (qdH ((),(qf (p0.2.2.1.2.2.2.1,p0.2.2.2.1)).1.1,(qf (p0.2.2.1.2.2.2.1,p0.2.2.2.1)).1.2.1,(qf (p0.2.2.1.2.2.2.1,p0.2.2.2.1)).1.2.2.1) (p0.2.2.2.2.1,p0.2.2.2.2.2.2))
      (.ite ((qbf ((),(qf (p0.2.2.1.2.2.2.1,p0.2.2.2.1)).1.1,(qf (p0.2.2.1.2.2.2.1,p0.2.2.2.1)).1.2.1,(qf (p0.2.2.1.2.2.2.1,p0.2.2.2.1)).1.2.2.1) (p0.2.2.2.2.1,p0.2.2.2.2.2.2)).1 != 0)
       (.ret (((2,p0.2.2.1.2.2.2.1.2.1,(qf (p0.2.2.1.2.2.2.1,p0.2.2.2.1)).1.1,12,()),true,()),((p0.2.2.1.1,p0.2.2.1.2.1,(),(p0.2.2.1.2.2.2.1.1,p0.2.2.1.1.2.1,p0.2.2.1.2.2.2.1.2.2),p0.2.2.1.2.2.2.2),(qbf ((),(qf (p0.2.2.1.2.2.2.1,p0.2.2.2.1)).1.1,(qf (p0.2.2.1.2.2.2.1,p0.2.2.2.1)).1.2.1,(qf (p0.2.2.1.2.2.2.1,p0.2.2.2.1)).1.2.2.1) (p0.2.2.2.2.1,p0.2.2.2.2.2.2)).2.1,p0.2.2.2.2.2.1,(qbf ((),(qf (p0.2.2.1.2.2.2.1,p0.2.2.2.1)).1.1,(qf (p0.2.2.1.2.2.2.1,p0.2.2.2.1)).1.2.1,(qf (p0.2.2.1.2.2.2.1,p0.2.2.2.1)).1.2.2.1) (p0.2.2.2.2.1,p0.2.2.2.2.2.2)).2.2)))
       (.ite (qdR (p0.2.2.1.2.2.2.1,p0.2.2.2.1))
       (.ite (qe1 (p0.2.2.1.2.2.2.1,p0.2.2.2.1,0))
        (.ret (((0,(qbW y.1.2.2.2.1 x.2).2.1,(qf (p0.2.2.1.2.2.2.1,p0.2.2.2.1)).1.1,qdc (p0.2.2.1.2.2.2.1,p0.2.2.2.1),()),true,()),((p0.2.2.1.1,p0.2.2.1.2.1,(),(qbT (p0.2.2.1.2.2.2.1,p0.2.2.2.1,0)).1,!(qbT (p0.2.2.1.2.2.2.1,p0.2.2.2.1,0)).2.1,p0.2.2.1.2.2.2.2.2),(qbf ((),(qf (p0.2.2.1.2.2.2.1,p0.2.2.2.1)).1.1,(qf (p0.2.2.1.2.2.2.1,p0.2.2.2.1)).1.2.1,(qf (p0.2.2.1.2.2.2.1,p0.2.2.2.1)).1.2.2.1) (p0.2.2.2.2.1,p0.2.2.2.2.2.2)).2.1,p0.2.2.2.2.2.1,(qbf ((),(qf (p0.2.2.1.2.2.2.1,p0.2.2.2.1)).1.1,(qf (p0.2.2.1.2.2.2.1,p0.2.2.2.1)).1.2.1,(qf (p0.2.2.1.2.2.2.1,p0.2.2.2.1)).1.2.2.1) (p0.2.2.2.2.1,p0.2.2.2.2.2.2)).2.2)))
        .fail)
       .fail))
      .fail)
      (.ite (qdz ((),(qf (p0.2.2.1.2.2.2.1,p0.2.2.2.1)).1.1,(qf (p0.2.2.1.2.2.2.1,p0.2.2.2.1)).1.2.1) (p0.2.2.2.2.1,p0.2.2.2.2.2.2))
      (.ite ((qI ((),(qf (p0.2.2.1.2.2.2.1,p0.2.2.2.1)).1.1,(qf (p0.2.2.1.2.2.2.1,p0.2.2.2.1)).1.2.1) (p0.2.2.2.2.1,p0.2.2.2.2.2.2)).1.2.1 != 0)
       (.ret (((2,p0.2.2.1.2.2.2.1.2.1,(qf (p0.2.2.1.2.2.2.1,p0.2.2.2.1)).1.1,12,()),true,()),((p0.2.2.1.1,p0.2.2.1.2.1,(),(p0.2.2.1.2.2.2.1.1,p0.2.2.1.1.2.1,p0.2.2.1.2.2.2.1.2.2),p0.2.2.1.2.2.2.2),(qI ((),(qf (p0.2.2.1.2.2.2.1,p0.2.2.2.1)).1.1,(qf (p0.2.2.1.2.2.2.1,p0.2.2.2.1)).1.2.1) (p0.2.2.2.2.1,p0.2.2.2.2.2.2)).2.1,p0.2.2.2.2.2.1,(qI ((),(qf (p0.2.2.1.2.2.2.1,p0.2.2.2.1)).1.1,(qf (p0.2.2.1.2.2.2.1,p0.2.2.2.1)).1.2.1) (p0.2.2.2.2.1,p0.2.2.2.2.2.2)).2.2)))
       (.ite (qdR (p0.2.2.1.2.2.2.1,p0.2.2.2.1))
       (.ite (qe1 (p0.2.2.1.2.2.2.1,p0.2.2.2.1,(qI ((),(qf (p0.2.2.1.2.2.2.1,p0.2.2.2.1)).1.1,(qf (p0.2.2.1.2.2.2.1,p0.2.2.2.1)).1.2.1) (p0.2.2.2.2.1,p0.2.2.2.2.2.2)).1.1))
        (.ret (((0,(qbW y.1.2.2.2.1 x.2).2.1,(qf (p0.2.2.1.2.2.2.1,p0.2.2.2.1)).1.1,qdc (p0.2.2.1.2.2.2.1,p0.2.2.2.1),()),true,()),((p0.2.2.1.1,p0.2.2.1.2.1,(),(qbT (p0.2.2.1.2.2.2.1,p0.2.2.2.1,(qI ((),(qf (p0.2.2.1.2.2.2.1,p0.2.2.2.1)).1.1,(qf (p0.2.2.1.2.2.2.1,p0.2.2.2.1)).1.2.1) (p0.2.2.2.2.1,p0.2.2.2.2.2.2)).1.1)).1,!(qbT (p0.2.2.1.2.2.2.1,p0.2.2.2.1,(qI ((),(qf (p0.2.2.1.2.2.2.1,p0.2.2.2.1)).1.1,(qf (p0.2.2.1.2.2.2.1,p0.2.2.2.1)).1.2.1) (p0.2.2.2.2.1,p0.2.2.2.2.2.2)).1.1)).2.1,p0.2.2.1.2.2.2.2.2),(qI ((),(qf (p0.2.2.1.2.2.2.1,p0.2.2.2.1)).1.1,(qf (p0.2.2.1.2.2.2.1,p0.2.2.2.1)).1.2.1) (p0.2.2.2.2.1,p0.2.2.2.2.2.2)).2.1,p0.2.2.2.2.2.1,(qI ((),(qf (p0.2.2.1.2.2.2.1,p0.2.2.2.1)).1.1,(qf (p0.2.2.1.2.2.2.1,p0.2.2.2.1)).1.2.1) (p0.2.2.2.2.1,p0.2.2.2.2.2.2)).2.2)))
        .fail)
       .fail))
      .fail))
     (.ite (qdR (p0.2.2.1.2.2.2.1,p0.2.2.2.1))
      (.ite (qe1 (p0.2.2.1.2.2.2.1,p0.2.2.2.1,0))
      (.ret (((0,(qbW y.1.2.2.2.1 x.2).2.1,0,qdc (p0.2.2.1.2.2.2.1,p0.2.2.2.1),()),true,()),((p0.2.2.1.1,p0.2.2.1.2.1,(),(qbT (p0.2.2.1.2.2.2.1,p0.2.2.2.1,0)).1,!(qbT (p0.2.2.1.2.2.2.1,p0.2.2.2.1,0)).2.1,p0.2.2.1.2.2.2.2.2),p0.2.2.2.2.1,p0.2.2.2.2.2.1,p0.2.2.2.2.2.2)))
      .fail)
      .fail))
     .fail))
    (.ret (((2,p0.2.2.1.2.2.2.1.2.1,0,12,()),true,()),((p0.2.2.1.1,p0.2.2.1.2.1,(),(p0.2.2.1.2.2.2.1.1,p0.2.2.1.1.2.1,p0.2.2.1.2.2.2.1.2.2),p0.2.2.1.2.2.2.2),p0.2.2.2.2.1,p0.2.2.2.2.2.1,p0.2.2.2.2.2.2)))))
   .fail)))
def qc0 (_:ql qfc) (y:ql qfh):Bool:=decide (MachWf y)
def qy (x:ql qfc) (y:ql qfh):Sh.den qhJ×ql qkq :=
 bif y.1.2.2.2.2.1 then(((0,0,0,0,()),false,()),y)
 else qlK y.1.1 y.1.2.1 y.1.2.2.2.2.2.1 (qdZ y.1.2.1 y.1.2.2.2.1.2.1 y.2.2.1) (qcf y.1.1 y.1.2.1 y.1.2.2.2.1 (y.2.1,y.2.2.2) x.2)
theorem qCM (k p r b:Int) (h:qE (k,p,r,b,())=0):(!(k==(2:Int))||inRange r 15)=true:=by
 cases h2:(k==(2:Int))
 ·rfl
 ·simp only[beq_iff_eq] at h2
  subst h2
  have hx:(decide (p≥0)&&(decide (r≥0)&&(decide (r≤14)&&(decide (b≥0)&&decide (b<32)))))=true:=by
   cases hx:(decide (p≥0)&&(decide (r≥0)&&(decide (r≤14)&&(decide (b≥0)&&decide (b<32)))))
   ·exfalso
    have:qE (2,p,r,b,())=2:=by
     unfold qE PO.qQ
     rw[show(qiQ (2,p,r,b,())).val=some 2 from qe (by
      show(!(decide (p≥0)&&(decide (r≥0)&&(decide (r≤14)&&(decide (b≥0)&&decide (b<32))))))=true
      rw[hx];rfl)]
     rfl
    rw[this] at h
    cases h
   ·rfl
  simp only[Bool.and_eq_true,decide_eq_true_eq] at hx
  have h1:inRange r 15=true:=by
   simp only[inRange,Bool.and_eq_true,decide_eq_true_eq]
   omega
  rw[h1]
  rfl
set_option maxRecDepth 10000 in
theorem qtZ (x:ql qfc) (y:ql qfh) (h:qc0 x y=true):(qls x y).val=some (qy x y):=by
 have hw:MachWf y:=of_decide_eq_true h
 obtain⟨_,k,p,r,b,_⟩:=x
 obtain⟨⟨hd,fl,u,st,dn,win,u'⟩,M,c,B⟩:=y
 obtain⟨hmem,hregs,hpc,hhand,hlen,hwin,hcache⟩:=hw
 simp only at hmem hregs hpc hhand hlen hwin hcache
 subst hwin
 unfold qls qy
 cases dn
 case true=>exact(qe rfl).trans rfl
 case false =>
 refine(qv rfl).trans ?_
 have hp:∀f,0≤(show Int from(qbW st f).2.1)∧(show Int from(qbW st f).2.1)<4294967296:=fun f=>by rw[qyd];exact hpc
 have go:=fun f=>qMg fl c hd (qbW st f) false (0,0,0,0,0,0,0,false,()) 0 M B (hp f) hcache
 have act:=fun f i=>qRH hd fl (0,fl.length / 2+1) (qbW st f) i M (qdZ fl (qbW st f).2.1 c) B (qyR st f hregs) hmem
 have e0:∀f,qdZ fl st.2.1 c=qdZ fl (qbW st f).2.1 c:=fun f=>by rw[qyd]
 show _=some (qlK hd fl (0,fl.length / 2+1) (qdZ fl st.2.1 c) (qcf hd fl st (M,B) (k,p,r,b,())))
 unfold qcf qtQ
 cases hck:(qE (k,p,r,b,()) != (0:Int))
 ·refine(qv rfl).trans ((qe (qCM k p r b (by simpa using hck))).trans ((qdl (go _)).trans ?_))
  simp only[cond_false]
  rw[e0 (k,p,r,b,())]
  unfold qta
  have ha:=act (k,p,r,b,())
  cases qoW fl (qbW st (k,p,r,b,())).2.1 with
  |none=>exact(qv rfl).trans rfl
  |some q =>
   refine(qe rfl).trans ?_
   simp only
   cases hs:(k==(1:Int))
   ·exact(qv rfl).trans (ha q.1)
   ·exact(qe rfl).trans rfl
 ·refine(qe rfl).trans ((qe rfl).trans ((qdl (go _)).trans ?_))
  simp only[cond_true]
  rw[e0 (0,0,0,0,())]
  unfold qta
  have ha:=act (0,0,0,0,())
  cases qoW fl (qbW st (0,0,0,0,())).2.1 with
  |none=>exact(qv rfl).trans rfl
  |some q=>exact(qe rfl).trans (ha q.1)
end Go.Av
end
section
namespace Go.Av
open Go
theorem qQM {fl:List UInt8} {c:List qbI.den} (h:qrm fl c) (pc:Int):qrm fl (qdZ fl pc c):=by
 unfold qdZ
 cases (qbC .i64 pc 1 != 0||decide (pc≥qh fl))
 ·cases (List.getD c (pc / 2).toNat dfF).2.2.1
  ·refine⟨by simp only[cond_false,List.length_set];exact h.1,fun k hk hn=>?_⟩
   simp only[cond_false,List.length_set] at hk hn ⊢
   rw[List.getD_eq_getElem?_getD,List.getElem?_set] at hn ⊢
   split at hn
   ·rename_i e
    subst e
    rw[if_pos rfl]
    split
    ·rfl
    ·omega
   ·rename_i e
    rw[if_neg e]
    have:=h.2 k hk
    rw[List.getD_eq_getElem?_getD] at this
    exact this hn
  ·exact h
 ·exact h
theorem qKI (n:Int):0≤((wn n:Nat):Int)∧((wn n:Nat):Int)<4294967296:=⟨by omega,by have:=qdB n;omega⟩
theorem qNM (st:qG.den) (i:qbd.den) (ld:Int):∃m:Int,(show Int from(qbT (st,i,ld)).1.2.1)=((wn m:Nat):Int):=by
 obtain⟨op,rd,rn,rm,ra,imm,cond,w,u⟩:=i
 show ∃m:Int,(show Int from(qpc _ st op rd rn rm ra imm cond w ld).1.2.1)=((wn m:Nat):Int)
 unfold qpc
 cases (qk (op,rd,rn,rm,ra,imm,cond,w,u) != 0||op==2)
 ·exact⟨_,rfl⟩
 ·exact⟨_,rfl⟩
theorem qPT (st:qG.den) (i:qbd.den) (ld:Int):0≤(show Int from(qbT (st,i,ld)).1.2.1)∧(show Int from(qbT (st,i,ld)).1.2.1)<4294967296:=by
 obtain⟨m,hm⟩:=qNM st i ld
 rw[hm]
 exact qKI m
theorem qQi (hd:qcL.den) (st:qG.den) (i:qbd.den) (mem:qer) (hm:MemWf mem) (hr:List.length st.1=15) (hh:0≤(show Int from hd.2.1)∧(show Int from hd.2.1)<4294967296) :
  List.length (qoS hd st i mem).2.1.1=15∧(0≤(show Int from(qoS hd st i mem).2.1.2.1)∧(show Int from(qoS hd st i mem).2.1.2.1)<4294967296)∧MemWf (qoS hd st i mem).2.2.2∧(qoS hd st i mem).2.2.2.1=mem.1∧0≤(show Int from(qoS hd st i mem).1.2.2.2.1)∧(show Int from(qoS hd st i mem).1.2.2.2.1)≤12:=by
 have hcy:0≤(show Int from qdc (st,i))∧(show Int from qdc (st,i))≤12:=by
  obtain⟨op,rd,rn,rm,ra,imm,cond,w,u⟩:=i
  show 0≤qor _ st op cond∧qor _ st op cond≤12
  unfold qor
  cases (qk (op,rd,rn,rm,ra,imm,cond,w,u) != 0)
  ·cases (op==19||(op==20||(op==21||op==22)))
   ·cases (op==17)
    ·cases qmj st op cond<;>simp
    ·simp
   ·simp
  ·simp
 have fin:∀m ld ad,MemWf m→m.1=mem.1→List.length (quw st i m ld ad).2.1.1=15∧(0≤(show Int from(quw st i m ld ad).2.1.2.1)∧(show Int from(quw st i m ld ad).2.1.2.1)<4294967296)∧MemWf (quw st i m ld ad).2.2.2∧(quw st i m ld ad).2.2.2.1=mem.1∧0≤(show Int from(quw st i m ld ad).1.2.2.2.1)∧(show Int from(quw st i m ld ad).1.2.2.2.1)≤12 :=
  fun m ld ad h1 h2=>⟨qOR st i ld hr,qPT st i ld,h1,h2,hcy.1,hcy.2⟩
 have trap:∀m ad,MemWf m→m.1=mem.1→List.length (qrQ hd st m ad).2.1.1=15∧(0≤(show Int from(qrQ hd st m ad).2.1.2.1)∧(show Int from(qrQ hd st m ad).2.1.2.1)<4294967296)∧MemWf (qrQ hd st m ad).2.2.2∧(qrQ hd st m ad).2.2.2.1=mem.1∧0≤(show Int from(qrQ hd st m ad).1.2.2.2.1)∧(show Int from(qrQ hd st m ad).1.2.2.2.1)≤12 :=
  fun m ad h1 h2=>⟨hr,hh,h1,h2,by show(0:Int)≤12;decide,by show(12:Int)≤12;decide⟩
 unfold qoS
 cases (qf (st,i)).2.1
 ·exact fin _ _ _ hm rfl
 ·cases (qf (st,i)).1.2.2.2.1
  ·cases ((qmA mem (qf (st,i)).1.1 (qf (st,i)).1.2.1).2.1 != (0:Int))
   ·exact fin _ _ _ hm rfl
   ·exact trap _ _ hm rfl
  ·have hs:=qOj hm (qf (st,i)).1.1 (qf (st,i)).1.2.1 (qf (st,i)).1.2.2.1
   cases ((qfA mem (qf (st,i)).1.1 (qf (st,i)).1.2.1 (qf (st,i)).1.2.2.1).1 != (0:Int))
   ·exact fin _ _ _ hs.1 hs.2
   ·exact trap _ _ hs.1 hs.2
theorem qp0 (hd:qcL.den) (fl:List UInt8) (st:qG.den) (mem:qer) (f:qw.den) (hm:MemWf mem) (hr:List.length st.1=15) (hh:0≤(show Int from hd.2.1)∧(show Int from hd.2.1)<4294967296) :
  List.length (qcf hd fl st mem f).2.1.1=15∧(0≤(show Int from(qcf hd fl st mem f).2.1.2.1)∧(show Int from(qcf hd fl st mem f).2.1.2.1)<4294967296)∧MemWf (qcf hd fl st mem f).2.2.2∧(qcf hd fl st mem f).2.2.2.1=mem.1∧0≤(show Int from(qcf hd fl st mem f).1.2.2.2.1)∧(show Int from(qcf hd fl st mem f).1.2.2.2.1)≤12:=by
 unfold qcf qta
 have hl:=qyR st (qtQ f) hr
 cases qoW fl (qbW st (qtQ f)).2.1 with
 |none=>exact⟨hl,hh,hm,rfl,by show(0:Int)≤12;decide,by show(12:Int)≤12;decide⟩
 |some p =>
  simp only
  cases ((qtQ f).1==(1:Int))
  ·exact qQi hd _ p.1 mem hm hl hh
  ·exact⟨hl,qKI _,hm,rfl,by show(0:Int)≤1;decide,by show(1:Int)≤12;decide⟩
theorem qKc {y:MS} (h:MachWf y) (f:qw.den):MachWf (qlK y.1.1 y.1.2.1 y.1.2.2.2.2.2.1 (qdZ y.1.2.1 y.1.2.2.2.1.2.1 y.2.2.1) (qcf y.1.1 y.1.2.1 y.1.2.2.2.1 (y.2.1,y.2.2.2) f)).2:=by
 obtain⟨h1,h2,h3,h4,_⟩:=qp0 y.1.1 y.1.2.1 y.1.2.2.2.1 (y.2.1,y.2.2.2) f h.mem h.regs h.hand
 exact⟨h3,h1,h2,h.hand,h.len,h.win,qQM h.cache _⟩
abbrev qtx:Type:=qG.den×Bool×qer
abbrev qc2:qw.den:=(0,0,0,0,())
def qik (f:qw.den) (k:Int):qw.den:=bif f.2.1==k then f else qc2
def goX (hd:qcL.den) (fl:List UInt8) (f:qw.den):Nat→Int→qtx→List qhU.den×Int×qtx
 |0,_,s=>([],0,s)
 |n+1,k,s=>bif s.2.1 then([],0,s) else
   ((qcf hd fl s.1 s.2.2 (qik f k)).1::(goX hd fl f n (k+1) (qcf hd fl s.1 s.2.2 (qik f k)).2).1,
    (bif s.1.2.1==hd.2.1 then 1 else 0)+(goX hd fl f n (k+1) (qcf hd fl s.1 s.2.2 (qik f k)).2).2.1,
    (goX hd fl f n (k+1) (qcf hd fl s.1 s.2.2 (qik f k)).2).2.2)
def qtT (hd:qcL.den) (fl:List UInt8) (f:qw.den):Nat→Int→qtx→List qbI.den→List qbI.den
 |0,_,_,c=>c
 |n+1,k,s,c=>bif s.2.1 then c else qtT hd fl f n (k+1) (qcf hd fl s.1 s.2.2 (qik f k)).2 (qdZ fl s.1.2.1 c)
def qrf:List qhU.den→Int
 |[]=>0
 |v::l=>v.2.2.2.1+qrf l
def qbF (y:MS):qtx:=(y.1.2.2.2.1,y.1.2.2.2.2.1,(y.2.1,y.2.2.2))
abbrev qvk (y:MS) (s:qtx) (c:List qbI.den):MS:=((y.1.1,y.1.2.1,(),s.1,s.2.1,y.1.2.2.2.2.2.1,()),s.2.2.1,c,s.2.2.2)
def qn3:LoopN where
 M:=[0,2,3,5,8,9]
 T:=[10,11,12,13,14,15,16,17,18,19,20,21,22,23,24,25,26,27,28,29,30,31,32,33,34,35,36,37,38,39,40,41,42,43,44,45,46,47,48,49,50,51,52,53,54,55,56,57,58,59,60,61,62,63,64]
 D:=[2,3,5]
 ss:=[.box 0 0,.ty (.int .i64),.fn 22 (.ty .unit),.box 1 0,.box 2 0,.box 3 0]
 hs:=[(qq5 4 5),(.ty qw),(.ty qcg),(.ty qcg),(qif 6),.rowc qbI,.rowc (.int .u8)]
 es:=[.exit 0]
 σ:=(Sh.den ((qq5 4 5)))×(Sh.den ((.ty qw)))×(Sh.den ((.ty qcg)))×(Sh.den ((.ty qcg)))×(Sh.den ((qif 6)))×(Sh.den (.rowc qbI))×(Sh.den (.rowc (.int .u8)))
 x0:=fun _ y=>(y.1,y.2.1,y.2.2.1,y.2.2.2.1,y.2.2.2.2.1,y.2.2.2.2.2.1,y.2.2.2.2.2.2)
 put:=fun x _ s=>((x.1,x.2.1,x.2.2.1,x.2.2.2.1,x.2.2.2.2.1,x.2.2.2.2.2),(s.1,s.2.1,s.2.2.1,s.2.2.2.1,s.2.2.2.2.1,s.2.2.2.2.2.1,s.2.2.2.2.2.2))
 fuel:=fun x _=>Int.toNat x.2.1+1
 turn:=fun x _ s =>
 (.ite (!s.1.2.2.2.2.1&&decide (s.2.2.2.1.2.1<x.2.1))
  (.ite (s.1.2.2.2.1.2.1==s.1.1.2.1)
  (.ite (s.2.1.2.1==s.2.2.2.1.2.1)
   (.ite (qc0 ((),s.2.1) ((s.1.1,s.1.2.1,(),s.1.2.2.2),s.2.2.2.2))
   (.ret (.on (((qy ((),s.2.1) ((s.1.1,s.1.2.1,(),s.1.2.2.2),s.2.2.2.2)).2.1.1,(qy ((),s.2.1) ((s.1.1,s.1.2.1,(),s.1.2.2.2),s.2.2.2.2)).2.1.2.1,(),(qy ((),s.2.1) ((s.1.1,s.1.2.1,(),s.1.2.2.2),s.2.2.2.2)).2.1.2.2.2),s.2.1,s.2.2.1,(s.2.2.2.1.1,w64 (s.2.2.2.1.2.1+1),w64 (s.2.2.2.1.2.2.1+(qy ((),s.2.1) ((s.1.1,s.1.2.1,(),s.1.2.2.2),s.2.2.2.2)).1.1.2.2.2.1),w64 (s.2.2.2.1.2.2.2.1+1),s.2.2.2.1.2.2.2.2),(qy ((),s.2.1) ((s.1.1,s.1.2.1,(),s.1.2.2.2),s.2.2.2.2)).2.2.1,(qy ((),s.2.1) ((s.1.1,s.1.2.1,(),s.1.2.2.2),s.2.2.2.2)).2.2.2.1,(qy ((),s.2.1) ((s.1.1,s.1.2.1,(),s.1.2.2.2),s.2.2.2.2)).2.2.2.2)))
   .fail)
   (.ite (qc0 ((),0,0,0,0,()) ((s.1.1,s.1.2.1,(),s.1.2.2.2),s.2.2.2.2))
   (.ret (.on (((qy ((),0,0,0,0,()) ((s.1.1,s.1.2.1,(),s.1.2.2.2),s.2.2.2.2)).2.1.1,(qy ((),0,0,0,0,()) ((s.1.1,s.1.2.1,(),s.1.2.2.2),s.2.2.2.2)).2.1.2.1,(),(qy ((),0,0,0,0,()) ((s.1.1,s.1.2.1,(),s.1.2.2.2),s.2.2.2.2)).2.1.2.2.2),s.2.1,s.2.2.1,(s.2.2.2.1.1,w64 (s.2.2.2.1.2.1+1),w64 (s.2.2.2.1.2.2.1+(qy ((),0,0,0,0,()) ((s.1.1,s.1.2.1,(),s.1.2.2.2),s.2.2.2.2)).1.1.2.2.2.1),w64 (s.2.2.2.1.2.2.2.1+1),s.2.2.2.1.2.2.2.2),(qy ((),0,0,0,0,()) ((s.1.1,s.1.2.1,(),s.1.2.2.2),s.2.2.2.2)).2.2.1,(qy ((),0,0,0,0,()) ((s.1.1,s.1.2.1,(),s.1.2.2.2),s.2.2.2.2)).2.2.2.1,(qy ((),0,0,0,0,()) ((s.1.1,s.1.2.1,(),s.1.2.2.2),s.2.2.2.2)).2.2.2.2)))
   .fail))
  (.ite (s.2.1.2.1==s.2.2.2.1.2.1)
   (.ite (qc0 ((),s.2.1) ((s.1.1,s.1.2.1,(),s.1.2.2.2),s.2.2.2.2))
   (.ret (.on (((qy ((),s.2.1) ((s.1.1,s.1.2.1,(),s.1.2.2.2),s.2.2.2.2)).2.1.1,(qy ((),s.2.1) ((s.1.1,s.1.2.1,(),s.1.2.2.2),s.2.2.2.2)).2.1.2.1,(),(qy ((),s.2.1) ((s.1.1,s.1.2.1,(),s.1.2.2.2),s.2.2.2.2)).2.1.2.2.2),s.2.1,s.2.2.1,(s.2.2.2.1.1,w64 (s.2.2.2.1.2.1+1),w64 (s.2.2.2.1.2.2.1+(qy ((),s.2.1) ((s.1.1,s.1.2.1,(),s.1.2.2.2),s.2.2.2.2)).1.1.2.2.2.1),s.2.2.2.1.2.2.2),(qy ((),s.2.1) ((s.1.1,s.1.2.1,(),s.1.2.2.2),s.2.2.2.2)).2.2.1,(qy ((),s.2.1) ((s.1.1,s.1.2.1,(),s.1.2.2.2),s.2.2.2.2)).2.2.2.1,(qy ((),s.2.1) ((s.1.1,s.1.2.1,(),s.1.2.2.2),s.2.2.2.2)).2.2.2.2)))
   .fail)
   (.ite (qc0 ((),0,0,0,0,()) ((s.1.1,s.1.2.1,(),s.1.2.2.2),s.2.2.2.2))
   (.ret (.on (((qy ((),0,0,0,0,()) ((s.1.1,s.1.2.1,(),s.1.2.2.2),s.2.2.2.2)).2.1.1,(qy ((),0,0,0,0,()) ((s.1.1,s.1.2.1,(),s.1.2.2.2),s.2.2.2.2)).2.1.2.1,(),(qy ((),0,0,0,0,()) ((s.1.1,s.1.2.1,(),s.1.2.2.2),s.2.2.2.2)).2.1.2.2.2),s.2.1,s.2.2.1,(s.2.2.2.1.1,w64 (s.2.2.2.1.2.1+1),w64 (s.2.2.2.1.2.2.1+(qy ((),0,0,0,0,()) ((s.1.1,s.1.2.1,(),s.1.2.2.2),s.2.2.2.2)).1.1.2.2.2.1),s.2.2.2.1.2.2.2),(qy ((),0,0,0,0,()) ((s.1.1,s.1.2.1,(),s.1.2.2.2),s.2.2.2.2)).2.2.1,(qy ((),0,0,0,0,()) ((s.1.1,s.1.2.1,(),s.1.2.2.2),s.2.2.2.2)).2.2.2.1,(qy ((),0,0,0,0,()) ((s.1.1,s.1.2.1,(),s.1.2.2.2),s.2.2.2.2)).2.2.2.2)))
   .fail)))
  (.ret (.out 0 (s.1,s.2.1,s.2.2.1,s.2.2.2.1,s.2.2.2.2.1,s.2.2.2.2.2.1,s.2.2.2.2.2.2))))
theorem qxK {α β γ δ ε:Type} {A:α} {f:β} {r0:ε} {hal:Bool} {rst:γ} {B:δ} {X1 Y1 X2 Y2 X3 Y3:Int} (h1:X1=Y1) (h2:X2=Y2) (h3:X3=Y3):some ((0:Nat),A,f,r0,(hal,X1,X2,X3,rst),B)=some ((0:Nat),A,f,r0,(hal,Y1,Y2,Y3,rst),B):=by
 subst h1 h2 h3
 rfl
theorem qJ4 (f:qw.den) (budget:Int) (hbud:budget≤67108864) (r0:qcg.den) (rst:Int×Int×List UInt8×List UInt8×List UInt8×Unit) (hal:Bool) (x:ql qn3.ss) (hx:x.2.1=budget) (y0:ql qn3.hs) :
  ∀(n k:Nat) (cyc hnd:Int) (y:MS),(k:Int)+n=budget→MachWf y→0≤cyc→cyc≤12*k→0≤hnd→hnd≤k →
   qcF (qn3.turn x y0) (n+1) (y.1,f,r0,(hal,(k:Int),cyc,hnd,rst),y.2.1,y.2.2.1,y.2.2.2) =
    some (0,((qvk y (goX y.1.1 y.1.2.1 f n k (qbF y)).2.2 (qtT y.1.1 y.1.2.1 f n k (qbF y) y.2.2.1)).1,f,r0,
     (hal,(k:Int)+((goX y.1.1 y.1.2.1 f n k (qbF y)).1.length:Int),cyc+qrf (goX y.1.1 y.1.2.1 f n k (qbF y)).1,hnd+(goX y.1.1 y.1.2.1 f n k (qbF y)).2.1,rst),
     (qvk y (goX y.1.1 y.1.2.1 f n k (qbF y)).2.2 (qtT y.1.1 y.1.2.1 f n k (qbF y) y.2.2.1)).2)):=by
 intro n
 induction n with
 |zero =>
  intro k cyc hnd y hk hw _ _ _ _
  refine(qbg ((qv ?_).trans rfl)).trans ?_
  ·show(!y.1.2.2.2.2.1&&decide ((k:Int)<x.2.1))=false
   rw[hx,qW (show ¬(k:Int)<budget by omega),Bool.and_false]
  ·simp[goX,qtT,qrf,qbF]
   rfl
 |succ n ih =>
  intro k cyc hnd y hk hw hc0 hc1 hh0 hh1
  cases hd:y.1.2.2.2.2.1 with
  |true =>
   refine(qbg ((qv ?_).trans rfl)).trans ?_
   ·show(!y.1.2.2.2.2.1&&decide ((k:Int)<x.2.1))=false
    rw[hd];rfl
   ·have hg:goX y.1.1 y.1.2.1 f (n+1) k (qbF y)=([],0,qbF y):=by
     unfold goX
     rw[show(qbF y).2.1=true from hd]
     rfl
    have hcg:qtT y.1.1 y.1.2.1 f (n+1) k (qbF y) y.2.2.1=y.2.2.1:=by
     unfold qtT
     rw[show(qbF y).2.1=true from hd]
     rfl
    rw[hg,hcg]
    simp[qrf,qbF]
    rfl
  |false =>
   have hlt:(!y.1.2.2.2.2.1&&decide ((k:Int)<x.2.1))=true:=by
    rw[hx,hd,qK (show(k:Int)<budget by omega)];rfl
   have hG:∀g,qc0 ((),g) ((y.1.1,y.1.2.1,(),y.1.2.2.2),y.2)=true:=fun g=>decide_eq_true hw
   have hV:∀g,qy ((),g) ((y.1.1,y.1.2.1,(),y.1.2.2.2),y.2)=qlK y.1.1 y.1.2.1 y.1.2.2.2.2.2.1 (qdZ y.1.2.1 y.1.2.2.2.1.2.1 y.2.2.1) (qcf y.1.1 y.1.2.1 y.1.2.2.2.1 (y.2.1,y.2.2.2) g):=fun g=>by
    unfold qy
    rw[show(((y.1.1,y.1.2.1,(),y.1.2.2.2),y.2):MS).1.2.2.2.2.1=false from hd]
    rfl
   obtain⟨s1,s2,s3,s4,s5,s6⟩:=qp0 y.1.1 y.1.2.1 y.1.2.2.2.1 (y.2.1,y.2.2.2) (qik f k) hw.mem hw.regs hw.hand
   have hw':=qKc hw (qik f k)
   have hgo:goX y.1.1 y.1.2.1 f (n+1) k (qbF y)=((qcf y.1.1 y.1.2.1 y.1.2.2.2.1 (y.2.1,y.2.2.2) (qik f k)).1::(goX y.1.1 y.1.2.1 f n (k+1) (qcf y.1.1 y.1.2.1 y.1.2.2.2.1 (y.2.1,y.2.2.2) (qik f k)).2).1,
     (bif y.1.2.2.2.1.2.1==y.1.1.2.1 then 1 else 0)+(goX y.1.1 y.1.2.1 f n (k+1) (qcf y.1.1 y.1.2.1 y.1.2.2.2.1 (y.2.1,y.2.2.2) (qik f k)).2).2.1,
     (goX y.1.1 y.1.2.1 f n (k+1) (qcf y.1.1 y.1.2.1 y.1.2.2.2.1 (y.2.1,y.2.2.2) (qik f k)).2).2.2):=by
    rw[goX]
    rw[show(qbF y).2.1=false from hd]
    rfl
   have hcg:qtT y.1.1 y.1.2.1 f (n+1) k (qbF y) y.2.2.1=qtT y.1.1 y.1.2.1 f n (k+1) (qcf y.1.1 y.1.2.1 y.1.2.2.2.1 (y.2.1,y.2.2.2) (qik f k)).2 (qdZ y.1.2.1 y.1.2.2.2.1.2.1 y.2.2.1):=by
    rw[qtT]
    rw[show(qbF y).2.1=false from hd]
    rfl
   rw[hgo,hcg]
   have w1:w64 ((k:Int)+1)=((k+1:Nat):Int):=by rw[qt (by omega) (by omega)];omega
   generalize hE:qcf y.1.1 y.1.2.1 y.1.2.2.2.1 (y.2.1,y.2.2.2) (qik f k)=E at *
   have b0:(0:Int)≤E.1.2.2.2.1:=s5
   have b1:(12:Int)≥E.1.2.2.2.1:=s6
   have b2:(k:Int)≤67108864:=by omega
   have b3:cyc≤805306368:=by omega
   have w2:w64 (cyc+E.1.2.2.2.1)=cyc+E.1.2.2.2.1:=qt (by omega) (by omega)
   have w3:w64 (hnd+1)=hnd+1:=qt (by omega) (by omega)
   obtain⟨G1,hG1⟩:∃G1,G1=goX y.1.1 y.1.2.1 f n ((k:Int)+1) E.2:=⟨_,rfl⟩
   obtain⟨C1,hC1⟩:∃C1,C1=qtT y.1.1 y.1.2.1 f n ((k:Int)+1) E.2 (qdZ y.1.2.1 y.1.2.2.2.1.2.1 y.2.2.1):=⟨_,rfl⟩
   rw[←hG1,←hC1]
   have fin:∀(b:Int),(b=0∨b=1)→qcF (qn3.turn x y0) (n+1) ((qlK y.1.1 y.1.2.1 y.1.2.2.2.2.2.1 (qdZ y.1.2.1 y.1.2.2.2.1.2.1 y.2.2.1) E).2.1,f,r0,(hal,((k+1:Nat):Int),cyc+E.1.2.2.2.1,hnd+b,rst),(qlK y.1.1 y.1.2.1 y.1.2.2.2.2.2.1 (qdZ y.1.2.1 y.1.2.2.2.1.2.1 y.2.2.1) E).2.2)=some (0,(qvk y G1.2.2 C1).1,f,r0,(hal,((k+1:Nat):Int)+((G1.1.length:Nat):Int),cyc+E.1.2.2.2.1+qrf G1.1,hnd+b+G1.2.1,rst),(qvk y G1.2.2 C1).2):=fun b hb=>by
    have:=ih (k+1) (cyc+E.1.2.2.2.1) (hnd+b) (qlK y.1.1 y.1.2.1 y.1.2.2.2.2.2.1 (qdZ y.1.2.1 y.1.2.2.2.1.2.1 y.2.2.1) E).2 (by omega) hw' (by omega) (by omega) (by omega) (by omega)
    rw[hG1,hC1]
    exact this
   have hnow:qik f k=(bif f.2.1==(k:Int) then f else qc2):=rfl
   cases hb1:(y.1.2.2.2.1.2.1==y.1.1.2.1) with
   |true =>
    cases hb2:(f.2.1==(k:Int)) with
    |true =>
     rw[hb2] at hnow
     simp only[cond_true] at hnow
     rw[hnow] at hE
     refine(qcx (s':=((qlK y.1.1 y.1.2.1 y.1.2.2.2.2.2.1 (qdZ y.1.2.1 y.1.2.2.2.1.2.1 y.2.2.1) E).2.1,f,r0,(hal,((k+1:Nat):Int),cyc+E.1.2.2.2.1,hnd+1,rst),(qlK y.1.1 y.1.2.1 y.1.2.2.2.2.2.1 (qdZ y.1.2.1 y.1.2.2.2.1.2.1 y.2.2.1) E).2.2)) ((qe hlt).trans ((qe hb1).trans ((qe hb2).trans ((qe (hG _)).trans (by rw[hV,hE,w1,w2,w3];rfl)))))).trans ?_
     refine(fin 1 (.inr rfl)).trans ?_
     exact qxK (by simp only[List.length_cons];omega) (Int.add_assoc _ _ _) (Int.add_assoc _ _ _)
    |false =>
     rw[hb2] at hnow
     simp only[cond_false] at hnow
     rw[hnow] at hE
     refine(qcx (s':=((qlK y.1.1 y.1.2.1 y.1.2.2.2.2.2.1 (qdZ y.1.2.1 y.1.2.2.2.1.2.1 y.2.2.1) E).2.1,f,r0,(hal,((k+1:Nat):Int),cyc+E.1.2.2.2.1,hnd+1,rst),(qlK y.1.1 y.1.2.1 y.1.2.2.2.2.2.1 (qdZ y.1.2.1 y.1.2.2.2.1.2.1 y.2.2.1) E).2.2)) ((qe hlt).trans ((qe hb1).trans ((qv hb2).trans ((qe (hG _)).trans (by rw[hV,hE,w1,w2,w3];rfl)))))).trans ?_
     refine(fin 1 (.inr rfl)).trans ?_
     exact qxK (by simp only[List.length_cons];omega) (Int.add_assoc _ _ _) (Int.add_assoc _ _ _)
   |false =>
    cases hb2:(f.2.1==(k:Int)) with
    |true =>
     rw[hb2] at hnow
     simp only[cond_true] at hnow
     rw[hnow] at hE
     refine(qcx (s':=((qlK y.1.1 y.1.2.1 y.1.2.2.2.2.2.1 (qdZ y.1.2.1 y.1.2.2.2.1.2.1 y.2.2.1) E).2.1,f,r0,(hal,((k+1:Nat):Int),cyc+E.1.2.2.2.1,hnd+0,rst),(qlK y.1.1 y.1.2.1 y.1.2.2.2.2.2.1 (qdZ y.1.2.1 y.1.2.2.2.1.2.1 y.2.2.1) E).2.2)) ((qe hlt).trans ((qv hb1).trans ((qe hb2).trans ((qe (hG _)).trans (by rw[hV,hE,w1,w2];simp only[Int.add_zero];rfl)))))).trans ?_
     refine(fin 0 (.inl rfl)).trans ?_
     exact qxK (by simp only[List.length_cons];omega) (Int.add_assoc _ _ _) (Int.add_assoc _ _ _)
    |false =>
     rw[hb2] at hnow
     simp only[cond_false] at hnow
     rw[hnow] at hE
     refine(qcx (s':=((qlK y.1.1 y.1.2.1 y.1.2.2.2.2.2.1 (qdZ y.1.2.1 y.1.2.2.2.1.2.1 y.2.2.1) E).2.1,f,r0,(hal,((k+1:Nat):Int),cyc+E.1.2.2.2.1,hnd+0,rst),(qlK y.1.1 y.1.2.1 y.1.2.2.2.2.2.1 (qdZ y.1.2.1 y.1.2.2.2.1.2.1 y.2.2.1) E).2.2)) ((qe hlt).trans ((qv hb1).trans ((qv hb2).trans ((qe (hG _)).trans (by rw[hV,hE,w1,w2];simp only[Int.add_zero];rfl)))))).trans ?_
     refine(fin 0 (.inl rfl)).trans ?_
     exact qxK (by simp only[List.length_cons];omega) (Int.add_assoc _ _ _) (Int.add_assoc _ _ _)
abbrev qeT:List Sh:=[.box 0 0,.ty qw,.ty (.int .i64),.fn 22 (.ty .unit)]
abbrev qeJ:List Sh:=[qtw,qif 3,.rowc qbI,.rowc (.int .u8)]
abbrev qg8:Sh:=Sh.ty qcg
abbrev qjS:List Sh:=[Sh.pair (Sh.ty (Ty.pair (Ty.int IntKind.i64) (Ty.pair (Ty.int IntKind.i64) (Ty.pair qew (Ty.pair (Ty.int IntKind.i64) Ty.unit))))) (Sh.pair (Sh.ty Ty.str) (Sh.pair (Sh.box 1 0) (Sh.pair (Sh.ty qG) (Sh.pair (Sh.ty Ty.bool) (Sh.pair (Sh.win 2 (Ty.pair qbd (Ty.pair (Ty.int IntKind.i64) (Ty.pair Ty.bool (Ty.pair Ty.bool Ty.unit))))) (Sh.ty Ty.unit)))))),Sh.pair (Sh.ty (Ty.sl qiJ)) (Sh.pair (Sh.wsl none 3 (Ty.int IntKind.u8)) (Sh.ty Ty.unit)),Sh.rowc (Ty.pair qbd (Ty.pair (Ty.int IntKind.i64) (Ty.pair Ty.bool (Ty.pair Ty.bool Ty.unit)))),Sh.rowc (Ty.int IntKind.u8)]
def qkl (x:ql qeT) (y:ql qeJ):PO (Sh.den qg8×ql qjS) :=
 (.opt (LoopN.res qn3 ((),x.2.2.1,x.2.2.2,(),(),()) ((y.1.1,y.1.2.1,(),y.1.2.2.2),x.2.1,(false,0,0,0,0,0,[],[],[],()),(false,0,0,0,0,0,[],[],[],()),y.2)) fun p0 =>
  (.ret ((p0.2.1.2.2.2.2.1,p0.2.2.2.2.1.2),((p0.2.1.1,p0.2.1.2.1,(),p0.2.1.2.2.2),p0.2.2.2.2.2.1,p0.2.2.2.2.2.2.1,p0.2.2.2.2.2.2.2))))
def qhd (x:ql qeT) (y:ql qeJ):Bool:=decide (MachWf y∧(show Int from x.2.2.1)≤67108864)
def qhN (x:qw.den×Int) (y:MS):qcg.den:=((goX y.1.1 y.1.2.1 x.1 x.2.toNat 0 (qbF y)).2.2.2.1,((goX y.1.1 y.1.2.1 x.1 x.2.toNat 0 (qbF y)).1.length:Int),qrf (goX y.1.1 y.1.2.1 x.1 x.2.toNat 0 (qbF y)).1,(goX y.1.1 y.1.2.1 x.1 x.2.toNat 0 (qbF y)).2.1,0,0,[],[],[],())
def qbm (x:qw.den×Int) (y:MS):MS:=qvk y (goX y.1.1 y.1.2.1 x.1 x.2.toNat 0 (qbF y)).2.2 (qtT y.1.1 y.1.2.1 x.1 x.2.toNat 0 (qbF y) y.2.2.1)
abbrev qkk (x:ql qeT) (y:ql qeJ):Sh.den qg8×ql qjS:=(qhN (x.2.1,x.2.2.1) y,qbm (x.2.1,x.2.2.1) y)
theorem qtK (x:ql qeT) (y:ql qeJ) (h:qhd x y=true):(qkl x y).val=some (qkk x y):=by
 obtain⟨hw,hb⟩:=of_decide_eq_true h
 obtain⟨u,f,budget,u'⟩:=x
 have hb:budget≤67108864:=hb
 unfold qkl
 have key:LoopN.res qn3 ((),budget,u',(),(),()) ((y.1.1,y.1.2.1,(),y.1.2.2.2),f,(false,0,0,0,0,0,[],[],[],()),(false,0,0,0,0,0,[],[],[],()),y.2) =
   some (0,(qbm (f,budget) y).1,f,(false,0,0,0,0,0,[],[],[],()),(false,((goX y.1.1 y.1.2.1 f budget.toNat 0 (qbF y)).1.length:Int),qrf (goX y.1.1 y.1.2.1 f budget.toNat 0 (qbF y)).1,(goX y.1.1 y.1.2.1 f budget.toNat 0 (qbF y)).2.1,0,0,[],[],[],()),(qbm (f,budget) y).2):=by
  rcases Int.lt_or_le budget 0 with h0 |h0
  ·unfold LoopN.res
   have e:budget.toNat=0:=by omega
   show qcF _ (budget.toNat+1) _=_
   unfold qbm
   rw[e]
   refine(qbg ((qv ?_).trans rfl)).trans rfl
   show(!y.1.2.2.2.2.1&&decide ((0:Int)<budget))=false
   rw[qW (show ¬(0:Int)<budget by omega),Bool.and_false]
  ·have:=qJ4 f budget hb (false,0,0,0,0,0,[],[],[],()) (0,0,[],[],[],()) false ((),budget,u',(),(),()) rfl ((y.1.1,y.1.2.1,(),y.1.2.2.2),f,(false,0,0,0,0,0,[],[],[],()),(false,0,0,0,0,0,[],[],[],()),y.2) budget.toNat 0 0 0 y (by omega) hw (by omega) (by omega) (by omega) (by omega)
   unfold LoopN.res
   refine Eq.trans ?_ (this.trans (qxK (Int.zero_add _) (Int.zero_add _) (Int.zero_add _)))
   rfl
 exact(qdl key).trans rfl
end Go.Av
end
section
namespace Go.Av
open Go
abbrev qsj:List Ty:=[.str]
abbrev qud:Sh:=Sh.tup (Sh.pair (Sh.ty (Ty.int IntKind.i64)) (Sh.pair (Sh.ty Ty.bool) (Sh.ty Ty.unit)))
def qok (x:qc qsj):PO (Sh.den qud) :=
 (.ite (qh x != 4)
  (.ret ((0,false,())))
  (.ite (inRange 0 (List.length x)&&true)
  (.ite (inRange 1 (List.length x)&&true)
   (.ite (inRange 2 (List.length x)&&true)
   (.ite (inRange 3 (List.length x)&&true)
    (.ret ((bor IntKind.i64 (bor IntKind.i64 (bor IntKind.i64 (bor IntKind.i64 0 (qC IntKind.i64 (w64 (u8I (List.getD x (Int.toNat 0) 0))) 0)) (qC IntKind.i64 (w64 (u8I (List.getD x (Int.toNat 1) 0))) 8)) (qC IntKind.i64 (w64 (u8I (List.getD x (Int.toNat 2) 0))) 16)) (qC IntKind.i64 (w64 (u8I (List.getD x (Int.toNat 3) 0))) 24),true,())))
    .fail)
   .fail)
   .fail)
  .fail))
def qog (x:qc qsj):Bool:=(qok x).val.isSome
def qpR (x:qc qsj):Sh.den qud:=(qok x).qQ default
theorem qLO (x:qc qsj) (h:qog x=true):(qok x).val=some (qpR x):=PO.qb7 default h
abbrev qmU:List Ty:=[(.int .i64),(.int .i64)]
abbrev qpq:Sh:=Sh.ty Ty.bool
def qpk (x:qc qmU):PO (Sh.den qpq) :=
 (.ret (decide (x.1≥64)&&(decide (x.1<x.2)&&qbC IntKind.i64 x.1 1==0)))
def qsD (_:qc qmU):Bool:=true
def qce (x:qc qmU):Sh.den qpq:=(qpk x).qQ default
theorem qBM (x:qc qmU) (_:qsD x=true):(qpk x).val=some (qce x):=PO.qbS default (by simp[qpk,PO.sure])
abbrev qqI:List Ty:=[.str,(.int .i64)]
abbrev qtc:Sh:=Sh.ty (Ty.int IntKind.i64)
def qmB (x:qc qqI):PO (Sh.den qtc) :=
 (.ite (decide (0≤w64 (w64 (4*x.2)+4))&&decide (w64 (w64 (4*x.2)+4)≤qh x.1)&&decide (0≤w64 (4*x.2))&&decide (w64 (4*x.2)≤w64 (w64 (4*x.2)+4))&&qog (List.drop (Int.toNat (w64 (4*x.2))) (List.take (Int.toNat (w64 (w64 (4*x.2)+4))) x.1)))
  (.ret ((qpR (List.drop (Int.toNat (w64 (4*x.2))) (List.take (Int.toNat (w64 (w64 (4*x.2)+4))) x.1))).1))
  .fail)
def qe3 (x:qc qqI):Bool:=(qmB x).val.isSome
def qbi (x:qc qqI):Sh.den qtc:=(qmB x).qQ default
theorem qKa (x:qc qqI) (h:qe3 x=true):(qmB x).val=some (qbi x):=PO.qb7 default h
abbrev qmY:List Ty:=[qcL,(.int .i64)]
abbrev qpj:Sh:=Sh.ty (Ty.int IntKind.i64)
def qkw (x:qc qmY):PO (Sh.den qpj) :=
 (.ite (q7 (x.1.2.2.1,x.2) != 0)
  (.ret (q7 (x.1.2.2.1,x.2)))
  (.ite (decide (x.1.2.2.2.1<0)||(decide (x.1.2.2.2.1≥3)||(!qce (x.1.1,x.2)||true)))
  (.ite (decide (x.1.2.2.2.1<0)||(decide (x.1.2.2.2.1≥3)||(!qce (x.1.1,x.2)||!qce (x.1.2.1,x.2))))
   (.ret (2))
   (.ret (0)))
  .fail))
def qsq (_:qc qmY):Bool:=true
def qdG (x:qc qmY):Sh.den qpj:=(qkw x).qQ default
theorem qAv (x:qc qmY) (_:qsq x=true):(qkw x).val=some (qdG x):=PO.qrr default (by simp[qkw,PO.qxz])
abbrev qm3:List Ty:=[qcL]
abbrev qpy:Sh:=Sh.ty (Ty.arr 16 (Ty.int IntKind.i64))
def qpo (x:qc qm3):PO (Sh.den qpy) :=
 (.ret (List.set (List.set (List.set (List.set (List.set (List.set (List.set (List.set (List.set (List.set (List.set (List.set (List.set (List.set (List.set (List.set (List.set (List.set (List.set (List.set (List.set (List.set [0,0,0,0,0,0,0,0,0,0,0,0,0,0,0,0] (Int.toNat 0) (bor IntKind.i64 x.2.1 1)) (Int.toNat 1) (bor IntKind.i64 x.2.1 1)) (Int.toNat 2) (bor IntKind.i64 x.2.1 1)) (Int.toNat 3) (bor IntKind.i64 x.2.1 1)) (Int.toNat 4) (bor IntKind.i64 x.2.1 1)) (Int.toNat 5) (bor IntKind.i64 x.2.1 1)) (Int.toNat 6) (bor IntKind.i64 x.2.1 1)) (Int.toNat 7) (bor IntKind.i64 x.2.1 1)) (Int.toNat 8) (bor IntKind.i64 x.2.1 1)) (Int.toNat 9) (bor IntKind.i64 x.2.1 1)) (Int.toNat 10) (bor IntKind.i64 x.2.1 1)) (Int.toNat 11) (bor IntKind.i64 x.2.1 1)) (Int.toNat 12) (bor IntKind.i64 x.2.1 1)) (Int.toNat 13) (bor IntKind.i64 x.2.1 1)) (Int.toNat 14) (bor IntKind.i64 x.2.1 1)) (Int.toNat 15) (bor IntKind.i64 x.2.1 1)) 0 537133056) 1 (bor IntKind.i64 x.1 1)) 7 x.2.2.1.1) 8 x.2.2.1.2.1) 9 x.2.2.1.2.2.1) 10 x.2.2.2.1))
def qsG (_:qc qm3):Bool:=true
def qdm (x:qc qm3):Sh.den qpy:=(qpo x).qQ default
theorem qB3 (x:qc qm3) (_:qsG x=true):(qpo x).val=some (qdm x):=PO.qbS default (by simp[qpo,PO.sure])
def qll:LoopN where
 M:=[0,2,3,4,34,35]
 T:=[5,6,36,37,38,39,40,41,42,43,44,45]
 D:=[0,34,35]
 ss:=[.ty .str,.box 0 0,.ty (.int .i64),.box 1 0,.ty (.arr 16 (.int .i64)),.ty (.int .i64)]
 hs:=[(.ty qcL),(.ty qcL)]
 es:=[.exit 0,.ret]
 σ:=(Ty.den (.int .i64))×(Ty.den (.int .i64))×(Sh.den ((.ty qcL)))×(Sh.den ((.ty qcL)))
 x0:=fun x y=>(x.2.2.1,x.2.2.2.2.2,y.1,y.2)
 put:=fun x _ s=>((x.1,x.2.1,s.1,x.2.2.2.1,x.2.2.2.2.1,s.2.1),(s.2.2.1,s.2.2.2))
 fuel:=fun _ _=>17
 turn:=fun x _ s =>
 (.ite (decide (s.2.1<16))
  (.ite (inRange s.2.1 16)
  (.ite (qe3 (x.1,s.2.1))
   (.ite (qbi (x.1,s.2.1) != List.getD x.2.2.2.2.1 (Int.toNat s.2.1) (Ty.dflt (Ty.int IntKind.i64)))
   (.ret (.out 1 (4,s.2.1,(0,0,(0,0,0,()),0,()),s.2.2.2)))
   (.ret (.on (s.1,w64 (s.2.1+1),s.2.2.1,s.2.2.2))))
   .fail)
  .fail)
  (.ret (.out 0 (s.1,s.2.1,s.2.2.1,s.2.2.2))))
theorem qN8 (s:List UInt8):qog s=true:=by
 unfold qog qok
 cases h:(qh s != 4)
 ·have hl:List.length s=4:=by
   simp only[qh,bne_eq_false_iff_eq] at h
   omega
  rw[qv rfl,qe (by rw[show(0:Int)=((0:Nat):Int) from rfl,inR (by omega)];rfl),qe (by rw[show(1:Int)=((1:Nat):Int) from rfl,inR (by omega)];rfl),qe (by rw[show(2:Int)=((2:Nat):Int) from rfl,inR (by omega)];rfl),qe (by rw[show(3:Int)=((3:Nat):Int) from rfl,inR (by omega)];rfl)]
  rfl
 ·rw[qe rfl]
  rfl
theorem qyK (s:List UInt8) (k:Nat) (hk:k<16) (hs:64≤s.length):qe3 (s,(k:Int))=true:=by
 unfold qe3 qmB
 have e1:w64 (4*(k:Int))=4*(k:Int):=qt (by omega) (by omega)
 have e2:w64 (4*(k:Int)+4)=4*(k:Int)+4:=qt (by omega) (by omega)
 rw[qe (by
  dsimp only
  rw[e1,e2,qN8]
  simp only[qh,Bool.and_eq_true,decide_eq_true_eq,Bool.and_true]
  exact⟨⟨⟨by omega,by omega⟩,by omega⟩,by omega⟩)]
 rfl
def qeb (s:List UInt8):qcL.den:=(w64 (qbi (s,1)-1),w64 (qbi (s,3)-1),(qbi (s,7),qbi (s,8),qbi (s,9),()),qbi (s,10),())
abbrev qtP:qcL.den:=(0,0,(0,0,0,()),0,())
def qmH (s:List UInt8) (fr:List Int) (i:Nat):Bool:=!(qbi (s,(i:Int)) != List.getD fr (Int.toNat (i:Int)) (Ty.dflt (Ty.int IntKind.i64)))
def qS (s:List UInt8):qcL.den×Int×Unit :=
 bif decide (qh s<64) then(qtP,3,())
 else bif qdG (qeb s,qh s) != 0 then(qtP,4,())
 else bif (List.range' 0 16).all (qmH s (qdm (qeb s))) then(qeb s,0,()) else(qtP,4,())
theorem qM7 (s:List UInt8) (fr:List Int) (h z:qcL.den) (hs:64≤s.length):∀(n i:Nat),i+n=16→∃j:Int,
  qcF (qll.turn (s,(),0,(),fr,0) (z,h)) (n+1) (0,(i:Int),z,h)=some (bif (List.range' i n).all (qmH s fr) then(0,(0,16,z,h)) else(1,(4,j,qtP,h)))
 |0,i,hi=>⟨0,(qbg ((qv (qW (show ¬(i:Int)<16 by omega))).trans rfl)).trans (by
   have:i=16:=by omega
   subst this
   rfl)⟩
 |n+1,i,hi=>by
  have hlt:decide ((i:Int)<16)=true:=qK (by omega)
  have hin:inRange (i:Int) 16=true:=inR (by omega)
  have hg:=qyK s i (by omega) hs
  cases hw:qmH s fr i with
  |true =>
   obtain⟨j,hj⟩:=qM7 s fr h z hs n (i+1) (by omega)
   refine⟨j,(qcx (s':=(0,((i+1:Nat):Int),z,h)) ((qe hlt).trans ((qe hin).trans ((qe hg).trans ((qv ?_).trans ?_))))).trans (hj.trans ?_)⟩
   ·unfold qmH at hw
    exact Bool.not_eq_true' _ |>.mp hw
   ·show some (TL.on (0,w64 ((i:Int)+1),z,h))=_
    rw[qt (by omega) (by omega)]
    rfl
   ·rw[List.range'_succ,List.all_cons,hw,Bool.true_and]
  |false =>
   refine⟨i,(qbg ((qe hlt).trans ((qe hin).trans ((qe hg).trans ((qe ?_).trans rfl))))).trans ?_⟩
   ·unfold qmH at hw
    exact Bool.not_eq_false' _ |>.mp hw
   ·rw[List.range'_succ,List.all_cons,hw,Bool.false_and]
    rfl
abbrev qmG:List Ty:=[.str]
abbrev qpf:Sh:=Sh.tup (Sh.pair (Sh.ty (Ty.pair (Ty.int IntKind.i64) (Ty.pair (Ty.int IntKind.i64) (Ty.pair qew (Ty.pair (Ty.int IntKind.i64) Ty.unit))))) (Sh.pair (Sh.ty (Ty.int IntKind.i64)) (Sh.ty Ty.unit)))
def qpA (x:qc qmG):PO (Sh.den qpf) :=
 (.ite (decide (qh x<64))
  (.ret (((0,0,(0,0,0,()),0,()),3,())))
  (.ite (qe3 (x,1))
  (.ite (qe3 (x,3))
   (.ite (qe3 (x,10))
   (.ite (qe3 (x,7))
    (.ite (qe3 (x,8))
    (.ite (qe3 (x,9))
     (.ite (qdG ((w64 (qbi (x,1)-1),w64 (qbi (x,3)-1),(qbi (x,7),qbi (x,8),qbi (x,9),()),qbi (x,10),()),qh x) != 0)
     (.ret (((0,0,(0,0,0,()),0,()),4,())))
     (.opt (LoopN.res qll (x,(),0,(),qdm (w64 (qbi (x,1)-1),w64 (qbi (x,3)-1),(qbi (x,7),qbi (x,8),qbi (x,9),()),qbi (x,10),()),0) ((0,0,(0,0,0,()),0,()),w64 (qbi (x,1)-1),w64 (qbi (x,3)-1),(qbi (x,7),qbi (x,8),qbi (x,9),()),qbi (x,10),())) fun p0 =>
      (.ite (way p0.1)
      (.ret ((p0.2.2.2.2,0,())))
      (.ret ((p0.2.2.2.1,p0.2.1,()))))))
     .fail)
    .fail)
    .fail)
   .fail)
   .fail)
  .fail))
def qpd (_:qc qmG):Bool:=true
def qbE (x:qc qmG):Sh.den qpf:=qS x
theorem qNq (s:List UInt8):(qpA s).val=some (qS s):=by
 unfold qpA qS
 cases h1:decide (qh s<64)
 ·have hs:64≤s.length:=by
   simp only[qh,decide_eq_false_iff_not] at h1
   omega
  have a:=fun k hk=>qyK s k hk hs
  refine(qv rfl).trans ((qe (a 1 (by omega))).trans ((qe (a 3 (by omega))).trans ((qe (a 10 (by omega))).trans ((qe (a 7 (by omega))).trans ((qe (a 8 (by omega))).trans ((qe (a 9 (by omega))).trans ?_))))))
  show(PO.ite (qdG (qeb s,qh s) != 0) _ _).val=_
  cases h2:(qdG (qeb s,qh s) != (0:Int))
  ·obtain⟨j,hj⟩:=qM7 s (qdm (qeb s)) (qeb s) qtP hs 16 0 (by omega)
   refine(qv rfl).trans ?_
   have hres:LoopN.res qll (s,(),0,(),qdm (qeb s),0) (qtP,qeb s)=_:=hj
   refine(qdl hres).trans ?_
   cases (List.range' 0 16).all (qmH s (qdm (qeb s)))
   ·exact(qv rfl).trans rfl
   ·exact(qe rfl).trans rfl
  ·exact(qe rfl).trans rfl
 ·exact(qe rfl).trans rfl
theorem qCB (x:qc qmG) (_:qpd x=true):(qpA x).val=some (qbE x):=qNq x
end Go.Av
end
section
namespace Go.Av
open Go
def qi4:LoopN where
 M:=[3,6,8,9,10]
 T:=[12,37,38,39,40,41,42,43,44,45,46,47,48,49,50,51,52,53,54,55,56]
 D:=[3,6,10]
 ss:=[.ty (.int .i64),.box 0 0,.box 1 0,.ty (.int .i64),.box 2 0]
 hs:=[(.ty qw),(.ty qcg),(qq5 3 4),(qif 5),.rowc qbI,.rowc (.int .u8)]
 es:=[.ret]
 σ:=(Ty.den (.int .i64))×(Sh.den ((.ty qw)))×(Sh.den ((.ty qcg)))×(Sh.den ((qq5 3 4)))×(Sh.den ((qif 5)))×(Sh.den (.rowc qbI))×(Sh.den (.rowc (.int .u8)))
 x0:=fun x y=>(x.2.2.2.1,y.1,y.2.1,y.2.2.1,y.2.2.2.1,y.2.2.2.2.1,y.2.2.2.2.2)
 put:=fun x _ s=>((x.1,x.2.1,x.2.2.1,s.1,x.2.2.2.2),(s.2.1,s.2.2.1,s.2.2.2.1,s.2.2.2.2.1,s.2.2.2.2.2.1,s.2.2.2.2.2.2))
 fuel:=fun _ _=>1
 turn:=fun x _ s =>
 (.ite (qhd ((),s.2.1,x.1,()) ((s.2.2.2.1.1,s.2.2.2.1.2.1,(),s.2.2.2.1.2.2.2),s.2.2.2.2))
  (.ite (qeI ((),537919488) (((qbm (s.2.1,x.1) ((s.2.2.2.1.1,s.2.2.2.1.2.1,(),s.2.2.2.1.2.2.2),s.2.2.2.2)).1.1,(qbm (s.2.1,x.1) ((s.2.2.2.1.1,s.2.2.2.1.2.1,(),s.2.2.2.1.2.2.2),s.2.2.2.2)).1.2.1,(),(qbm (s.2.1,x.1) ((s.2.2.2.1.1,s.2.2.2.1.2.1,(),s.2.2.2.1.2.2.2),s.2.2.2.2)).1.2.2.2),(qbm (s.2.1,x.1) ((s.2.2.2.1.1,s.2.2.2.1.2.1,(),s.2.2.2.1.2.2.2),s.2.2.2.2)).2))
  (.ite (qeI ((),538968064) (((qbm (s.2.1,x.1) ((s.2.2.2.1.1,s.2.2.2.1.2.1,(),s.2.2.2.1.2.2.2),s.2.2.2.2)).1.1,(qbm (s.2.1,x.1) ((s.2.2.2.1.1,s.2.2.2.1.2.1,(),s.2.2.2.1.2.2.2),s.2.2.2.2)).1.2.1,(),(qbm (s.2.1,x.1) ((s.2.2.2.1.1,s.2.2.2.1.2.1,(),s.2.2.2.1.2.2.2),s.2.2.2.2)).1.2.2.2),(qbm (s.2.1,x.1) ((s.2.2.2.1.1,s.2.2.2.1.2.1,(),s.2.2.2.1.2.2.2),s.2.2.2.2)).2))
   (.ret (.out 0 (0,s.2.1,((qhN (s.2.1,x.1) ((s.2.2.2.1.1,s.2.2.2.1.2.1,(),s.2.2.2.1.2.2.2),s.2.2.2.2)).1,(qhN (s.2.1,x.1) ((s.2.2.2.1.1,s.2.2.2.1.2.1,(),s.2.2.2.1.2.2.2),s.2.2.2.2)).2.1,(qhN (s.2.1,x.1) ((s.2.2.2.1.1,s.2.2.2.1.2.1,(),s.2.2.2.1.2.2.2),s.2.2.2.2)).2.2.1,(qhN (s.2.1,x.1) ((s.2.2.2.1.1,s.2.2.2.1.2.1,(),s.2.2.2.1.2.2.2),s.2.2.2.2)).2.2.2.1,qtr 537919488 ((qbm (s.2.1,x.1) ((s.2.2.2.1.1,s.2.2.2.1.2.1,(),s.2.2.2.1.2.2.2),s.2.2.2.2)).2.1,(qbm (s.2.1,x.1) ((s.2.2.2.1.1,s.2.2.2.1.2.1,(),s.2.2.2.1.2.2.2),s.2.2.2.2)).2.2.2),qtr 538968064 ((qbm (s.2.1,x.1) ((s.2.2.2.1.1,s.2.2.2.1.2.1,(),s.2.2.2.1.2.2.2),s.2.2.2.2)).2.1,(qbm (s.2.1,x.1) ((s.2.2.2.1.1,s.2.2.2.1.2.1,(),s.2.2.2.1.2.2.2),s.2.2.2.2)).2.2.2),(qky 2 ((qbm (s.2.1,x.1) ((s.2.2.2.1.1,s.2.2.2.1.2.1,(),s.2.2.2.1.2.2.2),s.2.2.2.2)).2.1,(qbm (s.2.1,x.1) ((s.2.2.2.1.1,s.2.2.2.1.2.1,(),s.2.2.2.1.2.2.2),s.2.2.2.2)).2.2.2)).1,(qky 3 ((qbm (s.2.1,x.1) ((s.2.2.2.1.1,s.2.2.2.1.2.1,(),s.2.2.2.1.2.2.2),s.2.2.2.2)).2.1,(qbm (s.2.1,x.1) ((s.2.2.2.1.1,s.2.2.2.1.2.1,(),s.2.2.2.1.2.2.2),s.2.2.2.2)).2.2.2)).1,(qky 4 ((qbm (s.2.1,x.1) ((s.2.2.2.1.1,s.2.2.2.1.2.1,(),s.2.2.2.1.2.2.2),s.2.2.2.2)).2.1,(qbm (s.2.1,x.1) ((s.2.2.2.1.1,s.2.2.2.1.2.1,(),s.2.2.2.1.2.2.2),s.2.2.2.2)).2.2.2)).1,(qhN (s.2.1,x.1) ((s.2.2.2.1.1,s.2.2.2.1.2.1,(),s.2.2.2.1.2.2.2),s.2.2.2.2)).2.2.2.2.2.2.2.2.2),((qbm (s.2.1,x.1) ((s.2.2.2.1.1,s.2.2.2.1.2.1,(),s.2.2.2.1.2.2.2),s.2.2.2.2)).1.1,(qbm (s.2.1,x.1) ((s.2.2.2.1.1,s.2.2.2.1.2.1,(),s.2.2.2.1.2.2.2),s.2.2.2.2)).1.2.1,(),(qbm (s.2.1,x.1) ((s.2.2.2.1.1,s.2.2.2.1.2.1,(),s.2.2.2.1.2.2.2),s.2.2.2.2)).1.2.2.2),(qbm (s.2.1,x.1) ((s.2.2.2.1.1,s.2.2.2.1.2.1,(),s.2.2.2.1.2.2.2),s.2.2.2.2)).2.1,(qbm (s.2.1,x.1) ((s.2.2.2.1.1,s.2.2.2.1.2.1,(),s.2.2.2.1.2.2.2),s.2.2.2.2)).2.2.1,(qbm (s.2.1,x.1) ((s.2.2.2.1.1,s.2.2.2.1.2.1,(),s.2.2.2.1.2.2.2),s.2.2.2.2)).2.2.2)))
   .fail)
  .fail)
  .fail)
theorem qKj (h:qcL.den) (n:Int) (e:qdG (h,n)=0):q7 (h.2.2.1,n)=0∧(64≤(show Int from h.1)∧(show Int from h.1)<n)∧64≤(show Int from h.2.1)∧(show Int from h.2.1)<n:=by
 obtain⟨rs,hn,sz,md,u⟩:=h
 unfold qdG PO.qQ qkw at e
 cases h1:(q7 (sz,n) != (0:Int)) with
 |true =>
  rw[qe h1] at e
  have e':q7 (sz,n)=0:=e
  rw[e'] at h1
  cases h1
 |false =>
  rw[qv h1] at e
  have hc:q7 (sz,n)=0:=by simpa using h1
  refine⟨hc,?_⟩
  rw[qe (by simp)] at e
  cases h2:(decide (md<0)||(decide (md≥3)||(!qce (rs,n)||!qce (hn,n)))) with
  |true =>
   rw[qe h2] at e
   cases e
  |false =>
   simp only[Bool.or_eq_false_iff,Bool.not_eq_false'] at h2
   have pl:∀a:Int,qce (a,n)=true→64≤a∧a<n:=fun a ha=>by
    have ha:(decide (a≥64)&&(decide (a<n)&&qbC IntKind.i64 a 1==0))=true:=ha
    simp only[Bool.and_eq_true,decide_eq_true_eq] at ha
    exact⟨ha.1,ha.2.1⟩
   exact⟨pl rs h2.2.2.1,pl hn h2.2.2.2⟩
theorem qib (i o r n:Int) (e:q7 ((i,o,r,()),n)=0):(0≤i∧i≤65536)∧(0≤o∧o≤65536)∧(4≤r∧r≤65536)∧n≤262144:=by
 unfold q7 PO.qQ qjG at e
 cases h1:(decide (i<0)||Int.tmod i 4 != 0) with
 |true=>rw[qe h1] at e;cases e
 |false =>
 rw[qv h1] at e
 cases h2:(decide (o<0)||Int.tmod o 4 != 0) with
 |true=>rw[qe h2] at e;cases e
 |false =>
 rw[qv h2] at e
 cases h3:(decide (r<0)||Int.tmod r 4 != 0) with
 |true=>rw[qe h3] at e;cases e
 |false =>
 rw[qv h3] at e
 cases h4:(decide (n<0)||decide (r<4)) with
 |true=>rw[qe h4] at e;cases e
 |false =>
 rw[qv h4] at e
 cases h5:(decide (n > 262144)||decide (i > 65536)||decide (o > 65536)||decide (r > 65536)) with
 |true=>rw[qe h5] at e;cases e
 |false =>
  simp only[Bool.or_eq_false_iff,decide_eq_false_iff_not] at h1 h2 h3 h4 h5
  omega
def qd7 (sz:qew.den) (n:Int):List (Int×Int×Bool×Unit):=[(0,n,false,()),(536936448,sz.1,true,()),(537001984,sz.2.1,true,()),(537133056,sz.2.2.1,true,()),(537395200,sz.2.2.1,true,()),(537919488,4,true,()),(538968064,4,true,())]
theorem qNO (sz:qew.den) (n:Int) (e:q7 (sz,n)=0):qbP (sz,n)=(qd7 sz n,0,()):=by
 unfold qbP PO.qQ qjK
 rw[qv (by rw[e];rfl)]
 rfl
theorem qyV (i o r n:Int) (e:q7 ((i,o,r,()),n)=0) (hn:0≤n):qql (qd7 (i,o,r,()) n)∧(qd7 (i,o,r,()) n).length=7∧qdU (qd7 (i,o,r,()) n)<1000000:=by
 obtain⟨h1,h2,h3,h4⟩:=qib i o r n e
 refine⟨⟨by simp[qd7],fun x hx=>?_⟩,by simp[qd7],?_⟩
 ·simp only[qd7,List.mem_cons,List.not_mem_nil,or_false] at hx
  unfold qrP
  rcases hx with rfl |rfl |rfl |rfl |rfl |rfl |rfl<;>simp only<;>omega
 ·simp only[qd7,qdU]
  omega
abbrev qrO:qcg.den:=(false,0,0,0,0,0,[],[],[],())
def qcA (hd:qcL.den) (img inp:List UInt8):MS :=
 ((hd,img,(),(List.set (List.set [0,0,0,0,0,0,0,0,0,0,0,0,0,0,0] 13 537133056) 14 (qjf 0),hd.1,false,false,false,false,()),false,(0,img.length / 2+1),()),(qIu (qd7 hd.2.2.1 (qh img)) img inp).1,List.replicate (img.length / 2+1) dfF,(qIu (qd7 hd.2.2.1 (qh img)) img inp).2)
def qtz (y:MS) (f:qw.den) (budget:Int):qcg.den :=
 ((qhN (f,budget) y).1,(qhN (f,budget) y).2.1,(qhN (f,budget) y).2.2.1,(qhN (f,budget) y).2.2.2.1,qtr 537919488 (qbm (f,budget) y).mem,qtr 538968064 (qbm (f,budget) y).mem,(qky 2 (qbm (f,budget) y).mem).1,(qky 3 (qbm (f,budget) y).mem).1,(qky 4 (qbm (f,budget) y).mem).1,())
def qcw (img inp:List UInt8) (f:qw.den) (budget:Int):qcg.den×Int×Unit :=
 bif (qS img).2.1 != 0 then(qrO,(qS img).2.1,())
 else bif qh inp != (qS img).1.2.2.1.1 then(qrO,2,())
 else bif (qE f != 0||(decide (budget<0)||decide (budget > 67108864))) then(qrO,2,())
 else(qtz (qcA (qS img).1 img inp) f budget,0,())
theorem qI2 (hd:qcL.den) (fl:List UInt8) (f:qw.den) (hh:0≤(show Int from hd.2.1)∧(show Int from hd.2.1)<4294967296):∀(n:Nat) (k:Int) (s:qtx),MemWf s.2.2→List.length s.1.1=15 →
  MemWf (goX hd fl f n k s).2.2.2.2∧List.length (goX hd fl f n k s).2.2.1.1=15∧(goX hd fl f n k s).2.2.2.2.1=s.2.2.1
 |0,k,s,hm,hr=>⟨hm,hr,rfl⟩
 |n+1,k,s,hm,hr=>by
  rw[goX]
  cases s.2.1
  ·obtain⟨h1,h2,h3,h4,_⟩:=qp0 hd fl s.1 s.2.2 (qik f k) hm hr hh
   obtain⟨g1,g2,g3⟩:=qI2 hd fl f hh n (k+1) (qcf hd fl s.1 s.2.2 (qik f k)).2 h3 h1
   exact⟨g1,g2,g3.trans h4⟩
  ·exact⟨hm,hr,rfl⟩
theorem qKU {y:MS} (hy:MachWf y) (f:qw.den) (budget:Int):MemWf (qbm (f,budget) y).mem :=
 (qI2 y.1.1 y.1.2.1 f hy.hand budget.toNat 0 (qbF y) hy.mem hy.regs).1
theorem qP1 (y:MS) (hy:MachWf y) (f:qw.den) (budget:Int) (hb:budget≤67108864):∃z,LoopN.res qi4 (budget,(),(),0,()) (f,qrO,y.1,y.2.1,y.2.2.1,y.2.2.2)=some (0,0,f,qtz y f budget,z):=by
 have hm:=qKU hy f budget
 exact⟨qbm (f,budget) y,qbg ((qe (decide_eq_true ⟨hy,hb⟩)).trans ((qe (decide_eq_true ⟨hm,by decide⟩)).trans ((qe (decide_eq_true ⟨hm,by decide⟩)).trans rfl)))⟩
theorem qlv (img:List UInt8) (h:((qS img).2.1 != (0:Int))=false):∃rs hn i o r md,(qS img).1=(rs,hn,(i,o,r,()),md,())∧q7 ((i,o,r,()),qh img)=0∧(64≤rs∧rs<qh img)∧(64≤hn∧hn<qh img)∧qh img≤262144∧64≤img.length:=by
 unfold qS at h ⊢
 cases h1:decide (qh img<64) with
 |true=>rw[h1] at h;cases h
 |false =>
 rw[h1] at h
 simp only[cond_false] at h ⊢
 cases h2:(qdG (qeb img,qh img) != (0:Int)) with
 |true=>rw[h2] at h;cases h
 |false =>
 rw[h2] at h
 simp only[cond_false] at h ⊢
 cases h3:(List.range' 0 16).all (qmH img (qdm (qeb img))) with
 |false=>rw[h3] at h;cases h
 |true =>
 obtain⟨f1,f2,f3⟩:=qKj (qeb img) (qh img) (by simpa using h2)
 simp only[cond_true]
 generalize qeb img=hd at *
 obtain⟨rs,hn,⟨i,o,r,u1⟩,md,u2⟩:=hd
 refine⟨rs,hn,i,o,r,md,rfl,f1,f2,f3,(qib i o r _ f1).2.2.2,?_⟩
 simp only[qh,decide_eq_false_iff_not] at h1
 omega
theorem qt8 (rs hn i o r md:Int) (img inp:List UInt8) (h1:q7 ((i,o,r,()),qh img)=0) (h2:64≤rs∧rs<qh img) (h3:64≤hn∧hn<qh img) (h4:qh img≤262144):MachWf (qcA (rs,hn,(i,o,r,()),md,()) img inp):=by
 obtain⟨g1,g2,g3⟩:=qyV i o r (qh img) h1 (by simp only[qh];omega)
 exact{
  mem:=qQy _ img inp g1 (by show 2≤(qd7 (i,o,r,()) (qh img)).length;omega)
  regs:=rfl
  pc:=⟨by show(0:Int)≤rs;omega,by show rs<(4294967296:Int);omega⟩
  hand:=⟨by show(0:Int)≤hn;omega,by show hn<(4294967296:Int);omega⟩
  len:=by show img.length≤262144;simp only[qh] at h4;omega
  win:=rfl
  cache:=⟨List.length_replicate,fun k hk hn=>by
   have e:List.getD (List.replicate (img.length / 2+1) dfF) k dfF=dfF:=by
    rw[List.getD_eq_getElem?_getD,List.getElem?_replicate]
    split<;>rfl
   rw[show(qcA (rs,_,(i,o,r,()),md,()) img inp).2.2.1=List.replicate (img.length / 2+1) dfF from rfl,e] at hn
   cases hn⟩}
abbrev qmI:List Ty:=[.str,.str,qw,(.int .i64)]
abbrev qpB:Sh:=Sh.tup (Sh.pair (Sh.ty qcg) (Sh.pair (Sh.ty (Ty.int IntKind.i64)) (Sh.ty Ty.unit)))
def qsu (x:qc qmI):PO (Sh.den qpB) :=
 (.ite (qpd x.1)
  (.ite ((qbE x.1).2.1 != 0)
  (.ite ((qbE x.1).2.1 != 0)
   (.ret (((false,0,0,0,0,0,[],[],[],()),(qbE x.1).2.1,())))
   (.ite (qE x.2.2.1 != 0||(decide (x.2.2.2<0)||decide (x.2.2.2 > 67108864)))
   (.ret (((false,0,0,0,0,0,[],[],[],()),2,())))
   .fail))
  (.ite ((qbP ((qbE x.1).1.2.2.1,qh x.1)).2.1 != 0)
   (.ite ((qbP ((qbE x.1).1.2.2.1,qh x.1)).2.1 != 0)
   (.ite ((qbP ((qbE x.1).1.2.2.1,qh x.1)).2.1 != 0)
    (.ret (((false,0,0,0,0,0,[],[],[],()),(qbP ((qbE x.1).1.2.2.1,qh x.1)).2.1,())))
    (.ite (qE x.2.2.1 != 0||(decide (x.2.2.2<0)||decide (x.2.2.2 > 67108864)))
    (.ret (((false,0,0,0,0,0,[],[],[],()),2,())))
    .fail))
   (.ite (qmb (w64 (w64 (Int.tdiv (qh x.1) 2)+1)) 80)
    (.ite (qE x.2.2.1 != 0||(decide (x.2.2.2<0)||decide (x.2.2.2 > 67108864)))
    (.ret (((false,0,0,0,0,0,[],[],[],()),2,())))
    .fail)
    .fail))
   (.ite (qh x.2.1 != (qbE x.1).1.2.2.1.1)
   (.ret (((false,0,0,0,0,0,[],[],[],()),2,())))
   (.opt (LoopN.res qma (x.1,x.2.1,(qbP ((qbE x.1).1.2.2.1,qh x.1)).1,0,(qbP ((qbE x.1).1.2.2.1,qh x.1)).1,qh (qbP ((qbE x.1).1.2.2.1,qh x.1)).1,0) ()) fun p0 =>
    (.ite (qmb p0.2.1 1)
    (.opt (LoopN.res qkD (x.1,x.2.1,(),(0,qgf 0 p0.2.1),(qbP ((qbE x.1).1.2.2.1,qh x.1)).1,qh (qbP ((qbE x.1).1.2.2.1,qh x.1)).1,0) (((qbP ((qbE x.1).1.2.2.1,qh x.1)).1,[],()),zeros p0.2.1 0)) fun p1 =>
     (.ite (inRange 0 (List.length p1.2.2.2.1.2.1))
     (.ite (inRange 1 (List.length p1.2.2.2.1.2.1))
      (.ite (qmb (w64 (w64 (Int.tdiv (qh x.1) 2)+1)) 80)
      (.ite (qE x.2.2.1 != 0||(decide (x.2.2.2<0)||decide (x.2.2.2 > 67108864)))
       (.ret (((false,0,0,0,0,0,[],[],[],()),2,())))
       (.opt (LoopN.res qi4 (x.2.2.2,(),(),0,()) (x.2.2.1,(false,0,0,0,0,0,[],[],[],()),((qbE x.1).1,x.1,(),(List.set (List.set [0,0,0,0,0,0,0,0,0,0,0,0,0,0,0] 13 537133056) 14 (qjf 0),(qbE x.1).1.1,false,false,false,false,()),false,(0,qgf 0 (w64 (w64 (Int.tdiv (qh x.1) 2)+1))),()),p1.2.2.2.1,zeros (w64 (w64 (Int.tdiv (qh x.1) 2)+1)) ((0,0,0,0,0,0,0,false,()),0,false,false,()),qe8 (qe8 p1.2.2.2.2 (wAt p1.2.2.2.1.2.1 0).1 (qej x.1) (wAt p1.2.2.2.1.2.1 0).2) (wAt p1.2.2.2.1.2.1 1).1 (qej x.2.1) (wAt p1.2.2.2.1.2.1 1).2)) fun p2 =>
       (.ret ((p2.2.2.2.1,p2.2.1,())))))
      .fail)
      .fail)
     .fail))
    .fail)))))
  .fail)
def qsv (_:qc qmI):Bool:=true
def qc7 (x:qc qmI):Sh.den qpB:=qcw x.1 x.2.1 x.2.2.1 x.2.2.2
theorem qAO (x:qc qmI) (_:qsv x=true):(qsu x).val=some (qc7 x):=by
 obtain⟨img,inp,f,budget⟩:=x
 unfold qsu
 refine(qe rfl).trans ?_
 show _=some (qcw img inp f budget)
 unfold qcw
 show(PO.ite ((qS img).2.1 != (0:Int)) _ _).val=_
 cases h1:((qS img).2.1 != (0:Int)) with
 |true=>exact(qe rfl).trans ((qe h1).trans rfl)
 |false =>
  refine(qv rfl).trans ?_
  obtain⟨rs,hn,i,o,r,md,e,f1,f2,f3,f4,f5⟩:=qlv img h1
  have hreg:qbP ((qbE img).1.2.2.1,qh img)=(qd7 (i,o,r,()) (qh img),0,()):=by
   show qbP ((qS img).1.2.2.1,qh img)=_
   rw[e]
   exact qNO _ _ f1
  obtain⟨g1,g2,g3⟩:=qyV i o r (qh img) f1 (by simp only[qh];omega)
  have g4:∀q∈qd7 (i,o,r,()) (qh img),0≤q.2.1:=fun q hq=>(g1.2 q hq).2.1
  have hwf:=qt8 rs hn i o r md img inp f1 f2 f3 f4
  simp only[hreg]
  refine(qv rfl).trans ?_
  show(PO.ite (qh inp != (qS img).1.2.2.1.1) _ _).val=_
  simp only[cond_false]
  cases h2:(qh inp != (qS img).1.2.2.1.1) with
  |true=>exact(qe rfl).trans rfl
  |false =>
   refine(qv rfl).trans ((qdl (r:=_) (qSX img inp (qd7 (i,o,r,()) (qh img)) (by omega) g4 (by omega))).trans ?_)
   refine(qe ?_).trans ?_
   ·show qmb ((qdU (qd7 (i,o,r,()) (qh img)):Nat):Int) 1=true
    simp only[qmb,Bool.and_eq_true,decide_eq_true_eq]
    omega
   have hsp:qgf 0 ((qdU (qd7 (i,o,r,()) (qh img)):Nat):Int)=qdU (qd7 (i,o,r,()) (qh img)):=by simp[qgf]
   have e15:=qR5 img inp (qd7 (i,o,r,()) (qh img)) (zeros ((qdU (qd7 (i,o,r,()) (qh img)):Nat):Int) 0) (by omega) g4
   refine(qdl (r:=_) (by dsimp only;rw[hsp];exact e15)).trans ?_
   have hw:(qbp 0 (qd7 (i,o,r,()) (qh img))).length=7:=by rw[qsy,g2]
   have hlen:w64 (w64 (Int.tdiv (qh img) 2)+1)=((img.length / 2+1:Nat):Int):=by
    simp only[qh] at f4 ⊢
    rw[Int.tdiv_eq_ediv_of_nonneg (by omega),qt (n:=((img.length:Nat):Int) / 2) (by omega) (by omega),qt (by omega) (by omega)]
    omega
   refine(qe ?_).trans ((qe ?_).trans ((qe ?_).trans ?_))
   ·show inRange 0 (qbp 0 (qd7 (i,o,r,()) (qh img))).length=true
    rw[hw]
    rfl
   ·show inRange 1 (qbp 0 (qd7 (i,o,r,()) (qh img))).length=true
    rw[hw]
    rfl
   ·rw[hlen]
    simp only[qh] at f4
    simp only[qmb,Bool.and_eq_true,decide_eq_true_eq]
    omega
   ·simp only[cond_false]
    cases h3:(qE f != 0||(decide (budget<0)||decide (budget > 67108864))) with
    |true=>exact(qe rfl).trans rfl
    |false =>
     have hb:(show Int from budget)≤67108864:=by
      simp only[Bool.or_eq_false_iff,decide_eq_false_iff_not] at h3
      exact Int.not_lt.1 h3.2.2
     obtain⟨z,hz⟩:=qP1 _ hwf f budget hb
     refine(qv rfl).trans ?_
     rw[hlen]
     have hst:qcA (qS img).1 img inp=qcA (rs,hn,(i,o,r,()),md,()) img inp:=by rw[e]
     rw[hst]
     refine(qdl (r:=(0,0,f,qtz (qcA (rs,hn,(i,o,r,()),md,()) img inp) f budget,z)) ?_).trans rfl
     refine Eq.trans ?_ hz
     show LoopN.res qi4 (budget,(),(),0,()) (f,qrO,((qS img).1,img,(),(_,(qS img).1.1,_),false,(0,qgf 0 ((img.length / 2+1:Nat):Int)),()),_,zeros ((img.length / 2+1:Nat):Int) dfF,_)=_
     rw[e]
     have hns:qgf 0 ((img.length / 2+1:Nat):Int)=img.length / 2+1:=by simp only[qgf];omega
     have hz2:zeros ((img.length / 2+1:Nat):Int) dfF=List.replicate (img.length / 2+1) dfF:=by unfold zeros;rw[Int.toNat_natCast]
     rw[hns,hz2]
     rfl
end Go.Av
end
section
namespace Go.Av
open Go Go.RowKit
abbrev qoq (fn:FuncId) (tmps:Array Value) (ps:Array Tmp) (assign body:Code) (D:Nat) (st:LoopState) (pe:Option Code):Go.Loop :=
 {state:=st,pending:=pe,fn:=fn,tmps:=tmps,params:=ps,assign:=assign,body:=body,defers:=D}
section
variable {F:Fence} {n:Nat} {P:Program}
def qKp (F:Fence) (n:Nat) (P:Program) (l:Nat) (rc:LoopState→Option Code→Go.Loop) (Q:Exit→Act→World→Prop) (a':Act) (e:Ending) (W':World):Prop :=
 (∃v,e=.returned v)∧((W'.heap[l]?=some (.loop (rc .ready none))∧Q .normal a' (W'.putObj l (.loop (rc .exhausted none)))) ∨
  ∃c,W'.heap[l]?=some (.loop (rc .done (some c)))∧c.wpIn F n P Q a' (W'.putObj l (.loop (rc .exhausted (some c)))))
theorem qK9 {g:Operand} {ps:Array Tmp} {assign body:Code} {Q:Exit→Act→World→Prop} {a:Act} {w:World} (hro:F.round=none) (h1:1≤n)
  {gf:Nat} {lb:Array Value} (hg:a.eval g=.func (.func gf) #[] lb) (hF:F.fn gf) (eg:∀args w,(callFunc gf args).run P w=.ok (.enter gf args) w)
  (h:∀fn,F.fn fn→CallsIn F (n-1) P gf (#[.func (.yield (w.heap.size+1)) #[] #[]]++lb) ((w.alloc (.deferred (some []))).alloc (.loop (qoq fn a.tmps ps assign body w.heap.size .ready none)))
   (qKp F n P (w.heap.size+1) (qoq fn a.tmps ps assign body w.heap.size) Q {a with defers:={target:=.collected w.heap.size,args:=#[]}::a.defers})) :
  (Code.rangeFunc g ps assign body).wpIn F n P Q a w:=by
 refine wpIn_rangeFunc ?_
 intro fn hfn
 rw[hro]
 have hh:=h fn hfn
 obtain⟨rc,hrc⟩:∃rc:LoopState→Option Code→Go.Loop,rc=qoq fn a.tmps ps assign body w.heap.size:=⟨_,rfl⟩
 rw[←hrc] at hh
 have hst:∀st pe,(rc st pe).state=st:=fun st pe=>by rw[hrc]
 have hpe:∀st pe,(rc st pe).pending=pe:=fun st pe=>by rw[hrc]
 have hex:∀st pe,({rc st pe with state:=.exhausted}:Go.Loop)=rc .exhausted pe:=fun st pe=>by rw[hrc]
 obtain⟨W1,hW1⟩:∃W1,(w.alloc (.deferred (some []))).alloc (.loop (rc .ready none))=W1:=⟨_,rfl⟩
 rw[hW1] at hh
 refine⟨w.heap.size+1,[{target:=.collected w.heap.size,args:=#[]}],W1,{target:=.fn (.func gf) lb,args:=#[.func (.yield (w.heap.size+1)) #[] #[]]},W1,gf,
  #[.func (.yield (w.heap.size+1)) #[] #[]]++lb,W1,?_,?_,?_,?_,fun _=>h1,?_⟩
 ·rw[←hW1,hrc]
  exact run_enterLoop_outer _ _ _ _ _
 ·simp only[resolve,hg]
  simp[go_sem]
 ·intro f' hf'
  simp[Target.leads] at hf'
  subst hf'
  exact hF
 ·simp[invoke,go_sem,eg]
 ·refine hh.mono ?_
  rintro e W2 ⟨⟨v,rfl⟩,⟨hl,hq⟩ |⟨c,hl,hq⟩⟩
  ·refine⟨none,_,?_,hq⟩
   have:=run_endLoop (P:=P) hl (by rw[hst];simp)
   rw[hex,hpe] at this
   exact this
  ·refine⟨some c,_,?_,hq⟩
   have:=run_endLoop (P:=P) hl (by rw[hst];simp)
   rw[hex,hpe] at this
   exact this
def roundEnd (l:Nat) (rc:LoopState→Option Code→Go.Loop) (R:Ending→World→Prop):Exit→Act→World→Prop
 | .normal,_,W=>W.heap[l]?=some (.loop (rc .busy none))∧R (.returned (.bool true)) (W.putObj l (.loop (rc .ready none)))
 | .ret,_,W=>W.heap[l]?=some (.loop (rc .busy none))∧R (.returned (.bool false)) (W.putObj l (.loop (rc .done (some .ret))))
 | .exit id,_,W=>W.heap[l]?=some (.loop (rc .busy none))∧R (.returned (.bool false)) (W.putObj l (.loop (rc .done (some (.exit id)))))
 |_,_,_=>False
theorem qOp {l:Nat} {fn:FuncId} {tmps:Array Value} {ps:Array Tmp} {assign body:Code} {D:Nat} {W:World} {args:Array Value} {R:Ending→World→Prop} (hF:F.fn fn)
  (hl:W.heap[l]?=some (.loop (qoq fn tmps ps assign body D .ready none))) (hs:args.size=ps.size)
  (h:assign.wpIn (F.inRound l) n P (Exit.then (fun a1 W1=>W1.heap[l]?=some (.loop (qoq fn tmps ps assign body D .ready none)) ∧
    body.wpIn (F.inRound l) n P (roundEnd l (qoq fn tmps ps assign body D) R) a1 (W1.putObj l (.loop (qoq fn tmps ps assign body D .busy none)))) (fun _ _ _=>False))
   {tmps:=(ps.zip args).foldl (fun t (p,v)=>t.setIfInBounds p v) tmps,defers:=[]} W):YieldAt F n P l args W R:=by
 have hy:=run_yield (P:=P) (args:=args) hl hs
 refine⟨fn,_,assign,body,hy,roundIn_of_wpIn hF (wpIn_mono h ?_)⟩
 intro e a1 W1 hp
 cases e with
 |normal =>
  obtain⟨hl1,hb⟩:=hp
  refine⟨_,run_beginRound hl1 rfl,wpIn_mono hb ?_⟩
  intro e a2 W2 hp
  cases e with
  |normal=>exact⟨_,_,run_endRound (P:=P) none hp.1,hp.2⟩
  |ret=>exact⟨_,_,run_endRound (P:=P) (some .ret) hp.1,hp.2⟩
  |exit id=>exact⟨_,_,run_endRound (P:=P) (some (.exit id)) hp.1,hp.2⟩
  |goto t=>exact hp.elim
  |panic ch=>exact hp.elim
  |outgrown=>exact hp.elim
 |ret=>exact hp.elim
 |exit id=>exact hp.elim
 |goto t=>exact hp.elim
 |panic ch=>exact hp.elim
 |outgrown=>exact hp.elim
theorem qND {l:Nat} {fn:FuncId} {tmps:Array Value} {ps:Array Tmp} {assign body:Code} {D:Nat} {rc:LoopState→Option Code→Go.Loop} (hrc:qoq fn tmps ps assign body D=rc) {W:World} {args:Array Value} {R:Ending→World→Prop} (hF:F.fn fn)
  (hl:W.heap[l]?=some (.loop (rc .ready none))) (hs:args.size=ps.size)
  (h:assign.wpIn (F.inRound l) n P (Exit.then (fun a1 W1=>W1.heap[l]?=some (.loop (rc .ready none)) ∧
    body.wpIn (F.inRound l) n P (roundEnd l rc R) a1 (W1.putObj l (.loop (rc .busy none)))) (fun _ _ _=>False))
   {tmps:=(ps.zip args).foldl (fun t (p,v)=>t.setIfInBounds p v) tmps,defers:=[]} W):YieldAt F n P l args W R:=by
 subst hrc
 exact qOp hF hl hs h
end
theorem qzf (w:World) (l:Nat) (o o':Obj) (hl:w.heap[l]?=some o) (h1:Obj.thaw o=true) (h2:Obj.thaw o'=true) (a:Addr):(w.putObj l o').frozen? a=w.frozen? a:=by
 by_cases h:a.block=l
 ·rw[qrT (W:=w) (fun x e=>by rw[h,hl] at e;cases e;exact h1)]
  refine qrT (fun x e=>?_)
  rw[h,World.putObj_heap_same (Array.getElem?_eq_some_iff.1 hl).1] at e
  cases e
  exact h2
 ·exact World.frozen?_of_block (World.putObj_heap_other h)
variable {P:Program} {w:World}
theorem qA8 (base:Nat) (t ty e:TypeId) (i:TypeInfo) (z:Value) (size bytes:Nat) (ht:P.underlying t=some (.slice e)) (hi:P.info? e=some i) (hz:i.zero=some z)
  (hsize:i.size=size) (hby:i.bytes=bytes) (hzs:z.cells.size=size) (hsz:0<size)
  (v:Value) (n:Nat) (xs:List Value) (hown:w.ownsRow base e size v n xs)
  (a:Addr) (m c:Nat) (hm:0<m) (news:List Value) (hl:news.length=m*size) (hnews:∀j u,news[j]?=some u→w.cell? (a.add j)=some u) (h1:∀u∈news,u.oneCell'=true)
  (h63:n+m≤maxLen) (hbytes:(n+m)*bytes≤140737488355328) (hbase:base≤w.heap.size) :
  ∃v' w',(Builtin.append_ #[t,t] ty #[v,.slice (some a) m c]).run P w=.ok v' w'∧w'.ownsRow base e size v' (n+m) (xs++news)∧w.grownBy w' v.ownBlock ∧
   (v'=.slice none 0 0↔v=.slice none 0 0∧m=0)∧∀x,w'.frozen? x=w.frozen? x:=by
 obtain⟨v',w',hr,r1,r2,r3⟩:=run_append_own (P:=P) w base t ty e i z size bytes ht hi hz hsize hby hzs hsz v n xs hown a m c news hl hnews h1 h63 hbytes hbase
 refine⟨v',w',hr,r1,r2,r3,fun x=>?_⟩
 subst hsize hby
 have hsmall:n+m≤9223372036854775807:=by simp only[maxLen] at h63;omega
 rcases hown.2 with⟨rfl,rfl⟩ |⟨g,cap,cur,rfl,hg,hh,hle,_,hcs,hpre⟩
 ·have:=run_append_nil (P:=P) w t ty e i z ht hi hz a m c news hl hnews hm (by omega) (by simp only[Nat.zero_add] at hbytes;omega)
  rw[this] at hr
  cases hr
  exact(qxv _ _ _ _)
 ·by_cases hroom:n+m≤cap
  ·have hfit:0+n*i.size+news.length≤cur.size:=by
    have:=Nat.mul_le_mul_right i.size hroom
    rw[hl,hcs,Nat.zero_add,←Nat.add_mul]
    exact this
   have:=qvn (P:=P) t t ty e i ht hi g 0 n cap cur e hh (.slice (some a) m c) m news (Src.ofSlice w ht a m c news hl hnews h1) hroom hfit
   rw[this] at hr
   cases hr
   exact qLP (setRow_heap w g cur _ e (0,0) hh) hh (fun y hy=>setRow_other w g y _ hy) x
  ·have hx:xs.length=n*i.size:=hown.1
   have hc:∀j u,xs[j]?=some u→w.cell? ((⟨g,0,none⟩:Addr).add j)=some u:=hown.cells (by rfl)
   have:=run_append_grow (P:=P) w t ty e i z ht hi hz ⟨g,0,none⟩ n cap xs hx hc a m c news hl hnews (by omega) (by omega) (growslice_fits (by omega) hbytes)
   rw[this] at hr
   cases hr
   exact(qxv _ _ _ _)
theorem qwK {F:Fence} {n:Nat} {P:Program} (w:World) {ops:Array Oper} {rest:List Oper} {o:Oper} {a:Act} {Q:Exit→Act→World→Prop}
  (hg:o.guard=none) (s x:Operand) (t:TypeId) (hop:o.op=Op.call {callee:=Callee.builtin Builtin.append,args:=#[s,x],argTypes:=#[t,t]})
  (base:Nat) (e:TypeId) (i:TypeInfo) (z:Value) (size bytes:Nat) (h1:P.underlying t=some (.slice e)) (h2:P.info? e=some i) (h3:i.zero=some z) (h4:i.size=size) (h5:i.bytes=bytes) (h6:z.cells.size=size) (h7:0<size)
  (v:Value) (k:Nat) (xs:List Value) (hs:a.eval s=v) (hown:w.ownsRow base e size v k xs) (ad:Addr) (m c:Nat) (hm:0<m) (news:List Value) (hx:a.eval x=.slice (some ad) m c) (hn:news.length=m*size)
  (hc:∀j u,news[j]?=some u→w.cell? (ad.add j)=some u) (h1c:∀u∈news,u.oneCell'=true) (b1:k+m≤maxLen) (b2:(k+m)*bytes≤140737488355328) (b3:base≤w.heap.size)
  (hK:∀v' w',w'.ownsRow base e size v' (k+m) (xs++news)→w.grownBy w' v.ownBlock→(∀x,w'.frozen? x=w.frozen? x)→wpListIn F n P ops Q rest (a.put o.dst v') w') :
  wpListIn F n P ops Q (o::rest) a w:=by
 refine wpListIn_plain hg fun K hK'=>?_
 obtain⟨v',w',hrun,r1,r2,_,r4⟩:=qA8 (P:=P) (w:=w) base t o.type e i z size bytes h1 h2 h3 h4 h5 h6 h7 v k xs hown ad m c hm news hn hc h1c b1 b2 b3
 unfold Oper.wpIn
 refine⟨?_,?_⟩
 ·simp[Oper.about,hop,resolve,Target.leads,Sem.run_pure]
 ·rw[Oper.semAt_plain F _ _ (by rw[hop];intro c hc';cases hc')]
  simp[execOp,hop,resolve,invoke,builtin,hs,hx,hrun,Result.andThen]
  exact hK' _ _ (hK v' w' r1 r2 r4)
end Go.Av
end
section
namespace Go.Av
open Go
abbrev ql0:List Ty:=[qcn,qcn]
abbrev qoH:Sh:=Sh.ty qcn
def qow (x:qc ql0):PO (Sh.den qoH) :=
 (.ret ((w64 (x.1.1+x.2.1),w64 (x.1.2.1+x.2.2.1),w64 (x.1.2.2.1+x.2.2.2.1),w64 (x.1.2.2.2.1+x.2.2.2.2.1),w64 (x.1.2.2.2.2.1+x.2.2.2.2.2.1),w64 (x.1.2.2.2.2.2.1+x.2.2.2.2.2.2.1),w64 (x.1.2.2.2.2.2.2.1+x.2.2.2.2.2.2.2.1),x.1.2.2.2.2.2.2.2)))
def qrA (_:qc ql0):Bool:=true
def qeh (x:qc ql0):Sh.den qoH:=(qow x).qQ default
theorem qz6 (x:qc ql0) (_:qrA x=true):(qow x).val=some (qeh x):=PO.qbS default (by simp[qow,PO.sure])
abbrev qh1:List Ty:=[qcn,qcn]
abbrev qlh:Sh:=Sh.ty qcn
def qkP (x:qc qh1):PO (Sh.den qlh) :=
 (.ret ((w64 (x.1.1+x.2.1),w64 (x.1.2.1+x.2.2.1),w64 (x.1.2.2.1+x.2.2.2.1),w64 (x.1.2.2.2.1+x.2.2.2.2.1),w64 (x.1.2.2.2.2.1+x.2.2.2.2.2.1),w64 (x.1.2.2.2.2.2.1+x.2.2.2.2.2.2.1),w64 (x.1.2.2.2.2.2.2.1+x.2.2.2.2.2.2.2.1),())))
def qnY (_:qc qh1):Bool:=true
def qk7 (x:qc qh1):Sh.den qlh:=(qkP x).qQ default
theorem qwJ (x:qc qh1) (_:qnY x=true):(qkP x).val=some (qk7 x):=PO.qbS default (by simp[qkP,PO.sure])
abbrev qgS:List Ty:=[]
abbrev qqQ:Sh:=.ty .bool
def qqb (_:qc qgS):PO Bool:=.ret true
def qmx (_:qc qgS):Bool:=true
def qmm (_:qc qgS):Bool:=true
theorem quQ (x:qc qgS) (_:qmx x=true):(qqb x).val=some (qmm x):=rfl
end Go.Av
end
section
namespace Go.Av
open Go
def qx6 (k:Int):qw.den:=(1,k,0,0,())
def qGQ (k:Int) (r b:Nat):qw.den:=(2,k,(r:Int),(b:Int),())
def qGR (k:Int) (b:Nat):qw.den:=(3,k,0,(b:Int),())
def qoQ (k:Int) (r b:Nat):List qw.den:=(List.range b).map (qGQ k r)
def qr0 (k:Int) (r:Nat):List qw.den:=(List.range r).flatMap fun i=>qoQ k i 32
def qpV (k:Int) (b:Nat):List qw.den:=(List.range b).map (qGR k)
def atL (k:Int):List qw.den:=[qx6 k]++qr0 k 15++qpV k 4
theorem qHk (k:Int) (r b:Nat):qoQ k r (b+1)=qoQ k r b++[qGQ k r b]:=by simp[qoQ,List.range_succ]
theorem qyq (k:Int) (r:Nat):qr0 k (r+1)=qr0 k r++qoQ k r 32:=by simp[qr0,List.range_succ]
theorem qGV (k:Int) (b:Nat):qpV k (b+1)=qpV k b++[qGR k b]:=by simp[qpV,List.range_succ]
theorem qyo (k:Int) (r b:Nat):(qoQ k r b).length=b:=by simp[qoQ]
theorem qv7 (k:Int):∀r:Nat,(qr0 k r).length=32*r
 |0=>rfl
 |r+1=>by rw[qyq,List.length_append,qv7 k r,qyo];omega
theorem qJ0 (k:Int) (b:Nat):(qpV k b).length=b:=by simp[qpV]
abbrev qku:List Ty:=[.int .i64]
abbrev qsp:Sh:=Sh.ty (Ty.sl qw)
def qwn (_:qc qku):Bool:=true
def qwt (k:qc qku):qsp.den:=bif decide ((k:Int)<0) then[] else atL k
end Go.Av
end
section
namespace Go.Av
open Go
def qn0:LoopN where
 M:=[3,7,8]
 T:=[4,9,10,11,12,13,14,15,16]
 D:=[7,8]
 ss:=[.osl 0 qw,.ty (.int .i64),.ty (.int .i64)]
 hs:=[]
 es:=[.exit 0]
 σ:=(List (Ty.den qw))×(Ty.den (.int .i64))
 x0:=fun x _=>(x.1,x.2.2)
 put:=fun x _ s=>((s.1,x.2.1,s.2),())
 fuel:=fun x _=>Int.toNat x.2.1+1
 turn:=fun x _ s =>
 (.ite (decide (s.2<x.2.1))
  (.ite (Nat.ble ((List.length s.1+List.length [(1,s.2,0,0,())])*32) 140737488355328)
  (.ret (.on (s.1++[(1,s.2,0,0,())],w64 (s.2+1))))
  .fail)
  (.ret (.out 0 (s.1,s.2))))
abbrev qjL:List Ty:=[(.int .i64)]
abbrev qmE:Sh:=Sh.osl 32 qw
def qmF (x:qc qjL):PO (Sh.den qmE) :=
 (.opt (LoopN.res qn0 ([],imax 0 (qoT x 4194304),0) ()) fun p0 =>
  (.ret (p0.2.1)))
def qpG (x:qc qjL):Bool:=(qmF x).val.isSome
def qpJ (x:qc qjL):Sh.den qmE:=(qmF x).qQ default
theorem qyi (x:qc qjL) (h:qpG x=true):(qmF x).val=some (qpJ x):=PO.qb7 default h
end Go.Av
end
section
namespace Go.Av
open Go
section
variable (hd:qcL.den) (fl:List UInt8) (f:qw.den)
theorem qKZ {n:Nat} {k:Int} {s:qtx} (h:s.2.1=true):goX hd fl f n k s=([],0,s):=by
 cases n with
 |zero=>rfl
 |succ n=>rw[goX,h];rfl
theorem qL8:∀(n:Nat) (k:Int) (s:qtx),(goX hd fl f n k s).1.length≤n
 |0,_,_=>Nat.le_refl _
 |n+1,k,s=>by
  rw[goX]
  cases s.2.1 with
  |true=>exact Nat.zero_le _
  |false=>exact Nat.succ_le_succ (qL8 n _ _)
end
theorem qG9 {img inp:List UInt8} (h:((qS img).2.1 != (0:Int))=true∨(qh inp != (qS img).1.2.2.1.1)=true):∃e,e≠0∧∀g c,qcw img inp g c=(qrO,e,()):=by
 unfold qcw
 cases h1:((qS img).2.1 != (0:Int)) with
 |true=>exact⟨(qS img).2.1,by simpa using h1,fun g c=>rfl⟩
 |false =>
  rcases h with h |h
  ·rw[h1] at h;cases h
  ·refine⟨2,by decide,fun g c=>?_⟩
   rw[h]
   rfl
theorem qCj {img inp:List UInt8} (h1:((qS img).2.1 != (0:Int))=false) (h2:(qh inp != (qS img).1.2.2.1.1)=false) (f:qw.den) (b:Int) (hf:qE f=0) (hb:0≤b∧b≤67108864) :
  qcw img inp f b=(qtz (qcA (qS img).1 img inp) f b,0,()):=by
 unfold qcw
 rw[h1,h2]
 have:(qE f != 0||(decide (b<0)||decide (b > 67108864)))=false:=by
  rw[hf]
  simp
  omega
 rw[this]
 rfl
end Go.Av
end
section
namespace Go.Av
open Go
def qd5:LoopN where
 M:=[0,2,5,6]
 T:=[3,7,8,9,10,11,12,13]
 D:=[0,5,6]
 ss:=[.ty .str,.ty .bool,.ty (.int .i64),.ty (.int .i64)]
 hs:=[]
 es:=[.exit 0,.ret]
 σ:=(Ty.den .bool)×(Ty.den (.int .i64))
 x0:=fun x _=>(x.2.1,x.2.2.2)
 put:=fun x _ s=>((x.1,s.1,x.2.2.1,s.2),())
 fuel:=fun x _=>List.length x.1+1
 turn:=fun x _ s =>
 (.ite (decide (s.2<x.2.2.1))
  (.ite (inRange s.2 (List.length x.1))
  (.ite (u8I (List.getD x.1 (Int.toNat s.2) 0) != 0)
   (.ret (.out 1 (false,s.2)))
   (.ret (.on (s.1,w64 (s.2+1)))))
  .fail)
  (.ret (.out 0 (s.1,s.2))))
def qdv:LoopN where
 M:=[0,3,4]
 T:=[5,6,7,8,9,10,11,12,13,14,15,16]
 D:=[0,4]
 ss:=[.ty .str,.ty (.int .i64),.ty (.int .i64)]
 hs:=[]
 es:=[.exit 0]
 σ:=(Ty.den (.int .i64))×(Ty.den (.int .i64))
 x0:=fun x _=>(x.2.1,x.2.2)
 put:=fun x _ s=>((x.1,s.1,s.2),())
 fuel:=fun x _=>List.length x.1+1
 turn:=fun x _ s =>
 (.ite (decide (s.2<qh x.1))
  (.ite (inRange s.2 (List.length x.1))
  (.ret (.on (w64 (s.1+w64 (u8I (List.getD x.1 (Int.toNat s.2) 0))),w64 (s.2+1))))
  .fail)
  (.ret (.out 0 (s.1,s.2))))
abbrev ql2:List Ty:=[.str]
abbrev qu6:Sh:=.ty .bool
def qrs (x:qc ql2):PO Bool :=
 (.opt (LoopN.res qd5 (x,false,qh x,0) ()) fun p0 =>
  (.ite (way p0.1)
  (.ret (true))
  (.ret (p0.2.1))))
def qem (x:qc ql2):Bool:=decide (List.length x<9223372036854775808)
def qbN (x:qc ql2):Bool:=(x:List UInt8).all (·==0)
theorem qHN (l:List UInt8) (hb:l.length<9223372036854775808):∀(k i:Nat),i+k=l.length→∀f,k<f →
  qcF (qd5.turn (l,false,(l.length:Int),0) ()) f (false,(i:Int))=some (bif (l.drop i).all (·==0) then(0,false,(l.length:Int)) else(1,false,((i+((l.drop i).takeWhile (·==0)).length:Nat):Int)))
 |0,i,h,f,hf=>by
  obtain⟨f,rfl⟩:∃g,f=g+1:=⟨f-1,by omega⟩
  rw[List.drop_of_length_le (by omega)]
  refine qbg ?_
  simp only[qd5,PO.val,qW (show ¬(i:Int)<(l.length:Int) by omega),cond_false]
  have:i=l.length:=by omega
  subst this
  rfl
 |k+1,i,h,f,hf=>by
  obtain⟨f,rfl⟩:∃g,f=g+1:=⟨f-1,by omega⟩
  have hi:i<l.length:=by omega
  rw[List.drop_eq_getElem_cons hi]
  have h1:decide ((i:Int)<(l.length:Int))=true:=qK (by omega)
  have h2:l.getD i 0=l[i]:=by rw[List.getD_eq_getElem?_getD,List.getElem?_eq_getElem hi];rfl
  cases hc:(l[i]==0)
  ·have:((l[i].toNat:Int) != 0)=true:=by
    simp only[beq_eq_false_iff_ne,ne_eq] at hc
    simp only[bne_iff_ne,ne_eq]
    intro h0
    apply hc
    have:l[i].toNat=0:=by omega
    exact UInt8.toNat_inj.1 this
   simp only[List.all_cons,hc,Bool.false_and,cond_false,List.takeWhile_cons,Bool.false_eq_true,if_false,List.length_nil,Nat.add_zero]
   refine qbg ?_
   simp only[qd5,PO.val,h1,inR hi,cond_true,qhE,h2,this]
  ·have:((l[i].toNat:Int) != 0)=false:=by
    simp only[beq_iff_eq] at hc
    rw[hc]
    rfl
   have ht:(qd5.turn (l,false,(l.length:Int),0) () (false,(i:Int))).val=some (.on (false,((i+1:Nat):Int))):=by
    simp only[qd5,PO.val,h1,inR hi,cond_true,qhE,h2,this,cond_false]
    rw[qt (by omega) (by omega)]
    rfl
   refine(qcx ht).trans ((qHN l hb k (i+1) (by omega) f (by omega)).trans ?_)
   simp only[List.all_cons,hc,Bool.true_and,List.takeWhile_cons,if_true,List.length_cons]
   rw[show i+1+((l.drop (i+1)).takeWhile (·==0)).length=i+(((l.drop (i+1)).takeWhile (·==0)).length+1) by omega]
theorem qAj (x:qc ql2) (h:qem x=true):(qrs x).val=some (qbN x):=by
 have hb:List.length x<9223372036854775808:=of_decide_eq_true h
 have:=qHN x hb (List.length x) 0 (by omega) (List.length x+1) (by omega)
 have e:LoopN.res qd5 (x,false,qh x,0) ()=_:=this
 unfold qrs PO.val
 rw[e]
 simp only[List.drop_zero,qbN]
 cases (x:List UInt8).all (·==0)<;>rfl
def qvz (l:List UInt8):Nat:=l.foldr (fun b n=>b.toNat+n) 0
theorem qEs:∀l:List UInt8,((qvz l:Int)==0)=l.all (·==0)
 |[]=>rfl
 |b::l=>by
  have ih:=qEs l
  simp only[qvz,List.foldr_cons,List.all_cons] at ih ⊢
  rw[←ih]
  apply Bool.eq_iff_iff.2
  simp only[beq_iff_eq,Bool.and_eq_true]
  constructor
  ·intro h
   have h1:b.toNat=0:=by omega
   exact⟨UInt8.toNat_inj.1 h1,by omega⟩
  ·rintro⟨rfl,h⟩
   simp
   omega
theorem qKC:∀l:List UInt8,qvz l≤255*l.length
 |[]=>Nat.le_refl _
 |b::l=>by
  have ih:=qKC l
  simp only[qvz,List.foldr_cons,List.length_cons] at ih ⊢
  have:=b.toNat_lt
  omega
theorem qMI (l:List UInt8) {i:Nat} (hi:i<l.length):qvz (l.drop i)=l[i].toNat+qvz (l.drop (i+1)):=by
 rw[List.drop_eq_getElem_cons hi]
 rfl
abbrev qii:List Ty:=[.str]
abbrev qsf:Sh:=.ty tI
def qnP (x:qc qii):PO Int :=
 (.opt (LoopN.res qdv (x,0,0) ()) fun p0 =>
  (.ret (p0.2.1)))
def qeS (x:qc qii):Bool:=decide (List.length x<36028797018963968)
def qcZ (x:qc qii):Int:=qvz x
theorem qKX (l:List UInt8) (hb:l.length<36028797018963968):∀(k i m:Nat),i+k=l.length→m+qvz (l.drop i)≤255*l.length→∀f,k<f →
  qcF (qdv.turn (l,0,0) ()) f ((m:Int),(i:Int))=some (0,((m+qvz (l.drop i):Nat):Int),(l.length:Int))
 |0,i,m,h,_,f,hf=>by
  obtain⟨f,rfl⟩:∃g,f=g+1:=⟨f-1,by omega⟩
  rw[List.drop_of_length_le (by omega)]
  refine qbg ?_
  simp only[qdv,PO.val,qW (show ¬(i:Int)<(l.length:Int) by omega),cond_false]
  have:i=l.length:=by omega
  subst this
  rfl
 |k+1,i,m,h,hm,f,hf=>by
  obtain⟨f,rfl⟩:∃g,f=g+1:=⟨f-1,by omega⟩
  have hi:i<l.length:=by omega
  have h1:decide ((i:Int)<(l.length:Int))=true:=qK (by omega)
  have h2:l.getD i 0=l[i]:=by rw[List.getD_eq_getElem?_getD,List.getElem?_eq_getElem hi];rfl
  rw[qMI l hi] at hm ⊢
  have hlt:=l[i].toNat_lt
  have ht:(qdv.turn (l,0,0) () ((m:Int),(i:Int))).val=some (.on (((m+l[i].toNat:Nat):Int),((i+1:Nat):Int))):=by
   simp only[qdv,PO.val,h1,inR hi,cond_true,qhE,h2]
   rw[qt (n:=(l[i].toNat:Int)) (by omega) (by omega),qt (n:=(i:Int)+1) (by omega) (by omega),qt (by omega) (by omega)]
   rfl
  refine(qcx ht).trans ((qKX l hb k (i+1) (m+l[i].toNat) (by omega) (by omega) f (by omega)).trans ?_)
  rw[Nat.add_assoc]
theorem qwO (x:qc qii) (h:qeS x=true):(qnP x).val=some (qcZ x):=by
 have hb:List.length x<36028797018963968:=of_decide_eq_true h
 have:=qKX x hb (List.length x) 0 0 (by omega) (by have:=qKC x;simpa using this) (List.length x+1) (by omega)
 have e:LoopN.res qdv (x,0,0) ()=_:=this
 unfold qnP PO.val
 rw[e]
 simp[qcZ,PO.val]
abbrev qgB:List Ty:=[qew,(.int .i64)]
abbrev qjb:Sh:=Sh.ty (Ty.int IntKind.i64)
def qgF (x:qc qgB):PO (Sh.den qjb) :=
 (.ite (decide (qoT (qoT (qoT x.1.1 x.1.2.1) (w64 (x.1.2.2.1-4))) x.2<0)||(decide (x.1.2.2.1<4)||(Int.tmod x.1.1 4 != 0||(Int.tmod x.1.2.1 4 != 0||Int.tmod x.1.2.2.1 4 != 0))))
  (.ret (2))
  (.ite (decide (imax (imax x.1.1 x.1.2.1) x.1.2.2.1 > 65536)||decide (x.2 > 262144))
  (.ret (5))
  (.ret (0))))
def qmh (_:qc qgB):Bool:=true
def qbb (x:qc qgB):Sh.den qjb:=(qgF x).qQ default
theorem qu7 (x:qc qgB) (_:qmh x=true):(qgF x).val=some (qbb x):=PO.qbS default (by simp[qgF,PO.sure])
abbrev qlb:List Ty:=[qcg]
abbrev qnw:Sh:=Sh.ty Ty.bool
def qgg (x:qc qlb):PO (Sh.den qnw) :=
 (.ite (bif x.2.2.2.2.1==0 then qem x.2.2.2.2.2.2.1&&bif qbN x.2.2.2.2.2.2.1 then qem x.2.2.2.2.2.2.2.1&&bif qbN x.2.2.2.2.2.2.2.1 then qem x.2.2.2.2.2.2.2.2.1 else true else true else true)
  (.ret (x.2.2.2.2.1==0&&(qbN x.2.2.2.2.2.2.1&&(qbN x.2.2.2.2.2.2.2.1&&qbN x.2.2.2.2.2.2.2.2.1))))
  .fail)
def qci (x:qc qlb):Bool:=(qgg x).val.isSome
def qbD (x:qc qlb):Sh.den qnw:=(qgg x).qQ default
theorem qy3 (x:qc qlb) (h:qci x=true):(qgg x).val=some (qbD x):=PO.qb7 default h
abbrev qgU:List Ty:=[qcg]
abbrev qi9:Sh:=Sh.ty Ty.bool
def qe5 (x:qc qgU):PO (Sh.den qi9) :=
 (.ite (bif x.2.2.2.2.1==0 then qeS x.2.2.2.2.2.2.1&&bif qcZ x.2.2.2.2.2.2.1==0 then qeS x.2.2.2.2.2.2.2.1&&bif qcZ x.2.2.2.2.2.2.2.1==0 then qeS x.2.2.2.2.2.2.2.2.1 else true else true else true)
  (.ret (x.2.2.2.2.1==0&&(qcZ x.2.2.2.2.2.2.1==0&&(qcZ x.2.2.2.2.2.2.2.1==0&&qcZ x.2.2.2.2.2.2.2.2.1==0))))
  .fail)
def qbl (x:qc qgU):Bool:=(qe5 x).val.isSome
def qbn (x:qc qgU):Sh.den qi9:=(qe5 x).qQ default
theorem quX (x:qc qgU) (h:qbl x=true):(qe5 x).val=some (qbn x):=PO.qb7 default h
abbrev qnL:List Ty:=[qcg]
abbrev qqN:Sh:=Sh.ty qfL
def qoa (x:qc qnL):PO (Sh.den qqN) :=
 (.ite (!x.1)
  (.ret ((0,[],())))
  (.ite (x.2.2.2.2.1==3235799053)
  (.ret ((1,x.2.2.2.2.2.2.1,())))
  (.ite (x.2.2.2.2.2.1==195890093)
   (.ret ((2,[],())))
   (.ret ((3,[],()))))))
def qtM (_:qc qnL):Bool:=true
def qU (x:qc qnL):Sh.den qqN:=(qoa x).qQ default
theorem qFJ (x:qc qnL) (_:qtM x=true):(qoa x).val=some (qU x):=PO.qbS default (by simp[qoa,PO.sure])
abbrev qi3:List Ty:=[qcg]
abbrev qlH:Sh:=Sh.tup (Sh.pair (Sh.ty (Ty.int IntKind.i64)) (Sh.pair (Sh.ty Ty.str) (Sh.ty Ty.unit)))
def qlG (x:qc qi3):PO (Sh.den qlH) :=
 (.ite (!x.1)
  (.ret ((0,[],())))
  (.ite (x.2.2.2.2.1==3235799053)
  (.ret ((1,x.2.2.2.2.2.2.1,())))
  (.ite (x.2.2.2.2.2.1==195890093)
   (.ret ((2,[],())))
   (.ret ((3,[],()))))))
def qoV (_:qc qi3):Bool:=true
def qj (x:qc qi3):Sh.den qlH:=(qlG x).qQ default
theorem qxx (x:qc qi3) (_:qoV x=true):(qlG x).val=some (qj x):=PO.qbS default (by simp[qlG,PO.sure])
abbrev qkY:List Ty:=[qew]
abbrev qny:Sh:=Sh.ty (Ty.int IntKind.i64)
def qiz (x:qc qkY):PO (Sh.den qny) :=
 (.ite (q7 (x,0) != 0)
  (.ret (0))
  (.ret (w64 (w64 (32*w64 (x.2.1+w64 (2*x.2.2.1)))+256))))
def qqm (_:qc qkY):Bool:=true
def qc3 (x:qc qkY):Sh.den qny:=(qiz x).qQ default
theorem qyJ (x:qc qkY) (_:qqm x=true):(qiz x).val=some (qc3 x):=PO.qbS default (by simp[qiz,PO.sure])
abbrev qgi:List Ty:=[qew]
abbrev qjx:Sh:=Sh.ty (Ty.int IntKind.i64)
def qgr (x:qc qgi):PO (Sh.den qjx) :=
 (.ite (qbb (x,0) != 0)
  (.ret (0))
  (.ret (w64 (w64 (256+w64 (32*x.2.1))+w64 (64*x.2.2.1)))))
def qmi (_:qc qgi):Bool:=true
def qcU (x:qc qgi):Sh.den qjx:=(qgr x).qQ default
theorem qvh (x:qc qgi) (_:qmi x=true):(qgr x).val=some (qcU x):=PO.qbS default (by simp[qgr,PO.sure])
end Go.Av
end
section
namespace Go.Av
open Go
abbrev qlL:List Ty:=[qcg,qfL]
abbrev qoP:Sh:=Sh.ty qcn
def qry (x:qc qlL):PO (Sh.den qoP) :=
 (.ite ((qU x.1).1==1&&Ty.eqb qfL (qU x.1) x.2)
  (.ite (bif decide (x.1.2.2.2.1 > 0) then qci x.1 else true)
  (.ite (decide (x.1.2.2.2.1 > 0)&&!qbD x.1)
   (.ret ((1,1,0,0,0,0,1,())))
   (.ret ((1,1,0,0,0,0,0,()))))
  .fail)
  (.ite ((qU x.1).1==1)
  (.ite (bif decide (x.1.2.2.2.1 > 0) then qci x.1 else true)
   (.ite (decide (x.1.2.2.2.1 > 0)&&!qbD x.1)
   (.ret ((1,0,1,0,0,0,1,())))
   (.ret ((1,0,1,0,0,0,0,()))))
   .fail)
  (.ite ((qU x.1).1==2)
   (.ite (bif decide (x.1.2.2.2.1 > 0) then qci x.1 else true)
   (.ite (decide (x.1.2.2.2.1 > 0)&&!qbD x.1)
    (.ret ((1,0,0,1,0,0,1,())))
    (.ret ((1,0,0,1,0,0,0,()))))
   .fail)
   (.ite ((qU x.1).1==3)
   (.ite (bif decide (x.1.2.2.2.1 > 0) then qci x.1 else true)
    (.ite (decide (x.1.2.2.2.1 > 0)&&!qbD x.1)
    (.ret ((1,0,0,0,1,0,1,())))
    (.ret ((1,0,0,0,1,0,0,()))))
    .fail)
   (.ite (bif decide (x.1.2.2.2.1 > 0) then qci x.1 else true)
    (.ite (decide (x.1.2.2.2.1 > 0)&&!qbD x.1)
    (.ret ((1,0,0,0,0,1,1,())))
    (.ret ((1,0,0,0,0,1,0,()))))
    .fail)))))
def b01 (b:Bool):Int:=bif b then 1 else 0
def qoI (x:qc qlL):Bool:=qci x.1
def qc1 (x:qc qlL):Sh.den qoP :=
 (1,b01 ((qU x.1).1==1&&Ty.eqb qfL (qU x.1) x.2),b01 ((qU x.1).1==1&&!Ty.eqb qfL (qU x.1) x.2),
  b01 ((qU x.1).1==2),b01 ((qU x.1).1==3),b01 (!((qU x.1).1==1)&&(!((qU x.1).1==2)&&!((qU x.1).1==3))),
  b01 (decide (x.1.2.2.2.1 > 0)&&!qbD x.1),())
theorem qzB (x:qc qlL) (h:qoI x=true):(qry x).val=some (qc1 x):=by
 have hg:(bif decide (x.1.2.2.2.1 > 0) then qci x.1 else true)=true:=by
  rw[show qci x.1=true from h]
  cases decide (x.1.2.2.2.1 > 0)<;>rfl
 unfold qry qc1
 rw[hg]
 cases h1:((qU x.1).1==(1:Int))
 ·refine(qv rfl).trans ((qv rfl).trans ?_)
  cases h2:((qU x.1).1==(2:Int))
  ·refine(qv rfl).trans ?_
   cases h3:((qU x.1).1==(3:Int))
   ·refine(qv rfl).trans ((qe rfl).trans ?_)
    cases (decide (x.1.2.2.2.1 > 0)&&!qbD x.1)
    ·exact(qv rfl).trans rfl
    ·exact(qe rfl).trans rfl
   ·refine(qe rfl).trans ((qe rfl).trans ?_)
    cases (decide (x.1.2.2.2.1 > 0)&&!qbD x.1)
    ·exact(qv rfl).trans rfl
    ·exact(qe rfl).trans rfl
  ·have h3:((qU x.1).1==(3:Int))=false:=by
    simp only[beq_iff_eq] at h2
    rw[h2];rfl
   rw[h3]
   refine(qe rfl).trans ((qe rfl).trans ?_)
   cases (decide (x.1.2.2.2.1 > 0)&&!qbD x.1)
   ·exact(qv rfl).trans rfl
   ·exact(qe rfl).trans rfl
 ·have h2:((qU x.1).1==(2:Int))=false:=by
   simp only[beq_iff_eq] at h1
   rw[h1];rfl
  have h3:((qU x.1).1==(3:Int))=false:=by
   simp only[beq_iff_eq] at h1
   rw[h1];rfl
  rw[h2,h3]
  cases Ty.eqb qfL (qU x.1) x.2
  ·refine(qv rfl).trans ((qe rfl).trans ((qe rfl).trans ?_))
   cases (decide (x.1.2.2.2.1 > 0)&&!qbD x.1)
   ·exact(qv rfl).trans rfl
   ·exact(qe rfl).trans rfl
  ·refine(qe rfl).trans ((qe rfl).trans ?_)
   cases (decide (x.1.2.2.2.1 > 0)&&!qbD x.1)
   ·exact(qv rfl).trans rfl
   ·exact(qe rfl).trans rfl
def qfW:LoopN where
 M:=[0,1,3,8,9,14,15,47,48,49]
 T:=[17,18,19,50,51,52,53,54,55,56,57,58,59,60,61,62,63,64,65,66,67,68,69,70]
 D:=[0,1,3,14,47,48,49]
 ss:=[.ty .str,.ty .str,.ty (.int .i64),.box 0 0,.ty (.int .i64),.box 1 0,.box 2 0,.ty (.sl qw),.ty (.int .i64),.ty (.int .i64)]
 hs:=[.ty qcn,.ty qfL,.ty qcn]
 es:=[.exit 0,.ret]
 σ:=(Ty.den (.int .i64))×(Ty.den (.int .i64))×(Sh.den (.ty qcn))×(Sh.den (.ty qfL))×(Sh.den (.ty qcn))
 x0:=fun x y=>(x.2.2.2.2.1,x.2.2.2.2.2.2.2.2.2,y.1,y.2.1,y.2.2)
 put:=fun x _ s=>((x.1,x.2.1,x.2.2.1,x.2.2.2.1,s.1,x.2.2.2.2.2.1,x.2.2.2.2.2.2.1,x.2.2.2.2.2.2.2.1,x.2.2.2.2.2.2.2.2.1,s.2.1),(s.2.2.1,s.2.2.2.1,s.2.2.2.2))
 fuel:=fun x _=>List.length x.2.2.2.2.2.2.2.1+1
 turn:=fun x _ s =>
 (.ite (decide (s.2.1<x.2.2.2.2.2.2.2.2.1))
  (.ite (inRange s.2.1 (List.length x.2.2.2.2.2.2.2.1))
  (.ite ((qc7 (x.1,x.2.1,List.getD x.2.2.2.2.2.2.2.1 (Int.toNat s.2.1) (Ty.dflt qw),x.2.2.1)).2.1 != 0)
   (.ret (.out 1 ((qc7 (x.1,x.2.1,List.getD x.2.2.2.2.2.2.2.1 (Int.toNat s.2.1) (Ty.dflt qw),x.2.2.1)).2.1,s.2.1,(0,0,0,0,0,0,0,()),s.2.2.2.1,s.2.2.2.2)))
   (.ite (qoI ((qc7 (x.1,x.2.1,List.getD x.2.2.2.2.2.2.2.1 (Int.toNat s.2.1) (Ty.dflt qw),x.2.2.1)).1,s.2.2.2.1))
   (.ret (.on (s.1,w64 (s.2.1+1),s.2.2.1,s.2.2.2.1,qeh (s.2.2.2.2,qc1 ((qc7 (x.1,x.2.1,List.getD x.2.2.2.2.2.2.2.1 (Int.toNat s.2.1) (Ty.dflt qw),x.2.2.1)).1,s.2.2.2.1)))))
   .fail))
  .fail)
  (.ret (.out 0 (s.1,s.2.1,s.2.2.1,s.2.2.2.1,s.2.2.2.2))))
theorem qA3 {y:qer} (h:MemWf y) (k:Int):(qky k y).1.length<9223372036854775808:=by
 unfold qky qq6
 cases hk:(decide (k<0)||decide (k≥qh y.1.2.1)) with
 |true=>exact(by decide:(0:Nat)<9223372036854775808)
 |false =>
  simp only[Bool.or_eq_false_iff,decide_eq_false_iff_not,qh] at hk
  have hi:k.toNat<y.1.1.length:=by rw[h.len];omega
  obtain⟨h1,_⟩:=h.wins _ hi
  have hmem:y.1.1.getD k.toNat qbK∈y.1.1:=by
   rw[List.getD_eq_getElem?_getD,List.getElem?_eq_getElem hi]
   exact List.getElem_mem hi
  have h2:(y.1.1.getD k.toNat qbK).2.1<4611686018427387904:=(h.regs.2 _ hmem).2.2.2
  show(bytesOf (shown y.2 (wAt y.1.2.1 k))).length<9223372036854775808
  have h3:(bytesOf (shown y.2 (wAt y.1.2.1 k))).length≤(y.1.2.1.getD k.toNat (0,0)).2:=by
   unfold bytesOf shown wAt
   rw[List.length_map,List.length_take]
   exact Nat.min_le_left _ _
  omega
theorem qPV (r:qcg.den) (h1:List.length r.2.2.2.2.2.2.1<9223372036854775808) (h2:List.length r.2.2.2.2.2.2.2.1<9223372036854775808) (h3:List.length r.2.2.2.2.2.2.2.2.1<9223372036854775808):qci r=true:=by
 unfold qci qgg
 have g1:qem r.2.2.2.2.2.2.1=true:=decide_eq_true h1
 have g2:qem r.2.2.2.2.2.2.2.1=true:=decide_eq_true h2
 have g3:qem r.2.2.2.2.2.2.2.2.1=true:=decide_eq_true h3
 rw[g1,g2,g3]
 have e:(bif r.2.2.2.2.1==(0:Int) then true&&bif qbN r.2.2.2.2.2.2.1 then true&&bif qbN r.2.2.2.2.2.2.2.1 then true else true else true else true)=true:=by
  cases (r.2.2.2.2.1==(0:Int))<;>cases qbN r.2.2.2.2.2.2.1<;>cases qbN r.2.2.2.2.2.2.2.1<;>rfl
 rw[e]
 rfl
theorem qTg (img inp:List UInt8) (f:qw.den) (b:Int):qci (qcw img inp f b).1=true:=by
 unfold qcw
 cases h1:((qS img).2.1 != (0:Int)) with
 |true=>rfl
 |false =>
 cases h2:(qh inp != (qS img).1.2.2.1.1) with
 |true=>rfl
 |false =>
 cases h3:(qE f != 0||(decide (b<0)||decide (b > 67108864))) with
 |true=>rfl
 |false =>
  obtain⟨rs,hn,i,o,r,md,e,f1,f2,f3,f4,f5⟩:=qlv img h1
  have hwf:=qt8 rs hn i o r md img inp f1 f2 f3 f4
  show qci (qtz (qcA (qS img).1 img inp) f b)=true
  rw[e]
  have hm:=qKU hwf f b
  exact qPV _ (qA3 hm 2) (qA3 hm 3) (qA3 hm 4)
abbrev qdb:qcn.den:=(0,0,0,0,0,0,0,())
def qpF (img inp:List UInt8) (b:Int) (right:qfL.den):List qw.den→qcn.den→qcn.den×Int×Unit
 |[],c=>(c,0,())
 |f::l,c=>bif (qcw img inp f b).2.1 != (0:Int) then(qdb,(qcw img inp f b).2.1,())
   else qpF img inp b right l (qeh (c,qc1 ((qcw img inp f b).1,right)))
def qdM (img:List UInt8):Int:=qc3 (qbE img).1.2.2.1
def qua (img inp:List UInt8) (l:List qw.den) (b:Int):qcn.den×Int×Unit :=
 bif (qcw img inp qc2 b).2.1 != (0:Int) then(qdb,(qcw img inp qc2 b).2.1,())
 else bif decide (w64 (b+qdM img) > 67108864) then(qdb,2,())
 else qpF img inp (w64 (b+qdM img)) (qU (qcw img inp qc2 b).1) l qdb
theorem qN2 (img inp:List UInt8) (b:Int) (right:qfL.den) (l:List qw.den) (hl:l.length<9223372036854775808) (z:qcn.den) (x:ql qfW.ss) (hx:x=(img,inp,b,(),0,(),(),l,qh l,0)) (y:ql qfW.hs) :
  ∀(k i:Nat) (c:qcn.den),i+k=l.length→∃n st,qcF (qfW.turn x y) (k+1) ((0:Int),(i:Int),z,right,c)=some (n,st) ∧
   (bif way n then(st.2.2.2.2,(0:Int),()) else(st.2.2.1,st.1,()))=qpF img inp b right (l.drop i) c:=by
 subst hx
 intro k
 induction k with
 |zero =>
  intro i c h
  refine⟨0,_,qbg ((qv (qW (show ¬(i:Int)<qh l by simp only[qh];omega))).trans rfl),?_⟩
  rw[List.drop_of_length_le (by omega)]
  rfl
 |succ k ih =>
  intro i c h
  have hi:i<l.length:=by omega
  have hlt:decide ((i:Int)<qh l)=true:=qK (by simp only[qh];omega)
  have hd:l.drop i=l.getD i (Ty.dflt qw)::l.drop (i+1):=by
   rw[List.drop_eq_getElem_cons hi,List.getD_eq_getElem?_getD,List.getElem?_eq_getElem hi]
   rfl
  have hg:List.getD l (Int.toNat (i:Int)) (Ty.dflt qw)=l.getD i (Ty.dflt qw):=by rw[Int.toNat_natCast]
  rw[hd]
  generalize hf:l.getD i (Ty.dflt qw)=f at *
  rw[qpF]
  cases he:((qcw img inp f b).2.1 != (0:Int)) with
  |true =>
   refine⟨1,((qcw img inp f b).2.1,(i:Int),qdb,right,c),qbg ((qe hlt).trans ((qe (inR hi)).trans ((qe (b:=(qcw img inp (List.getD l (Int.toNat (i:Int)) (Ty.dflt qw)) b).2.1 != (0:Int)) (by rw[hg];exact he)).trans ?_))),rfl⟩
   show some (TL.out 1 ((qcw img inp (List.getD l (Int.toNat (i:Int)) (Ty.dflt qw)) b).2.1,(i:Int),qdb,right,c))=_
   rw[hg]
   rfl
  |false =>
   obtain⟨n,st,h1,h2⟩:=ih (i+1) (qeh (c,qc1 ((qcw img inp f b).1,right))) (by omega)
   refine⟨n,st,(qcx (s':=((0:Int),((i+1:Nat):Int),z,right,qeh (c,qc1 ((qcw img inp f b).1,right)))) ((qe hlt).trans ((qe (inR hi)).trans ((qv (b:=(qcw img inp (List.getD l (Int.toNat (i:Int)) (Ty.dflt qw)) b).2.1 != (0:Int)) (by rw[hg];exact he)).trans ((qe (qTg img inp _ b)).trans ?_))))).trans h1,h2⟩
   show some (TL.on ((0:Int),w64 ((i:Int)+1),z,right,qeh (c,qc1 ((qcw img inp (List.getD l (Int.toNat (i:Int)) (Ty.dflt qw)) b).1,right))))=_
   rw[hg,qt (n:=(i:Int)+1) (by omega) (by omega)]
   rfl
abbrev qkI:List Ty:=[.str,.str,(.sl qw),(.int .i64)]
abbrev qnr:Sh:=Sh.tup (Sh.pair (Sh.ty qcn) (Sh.pair (Sh.ty (Ty.int IntKind.i64)) (Sh.ty Ty.unit)))
def qqr (x:qc qkI):PO (Sh.den qnr) :=
 (.ite ((qc7 (x.1,x.2.1,(0,0,0,0,()),x.2.2.2)).2.1 != 0)
  (.ret (((0,0,0,0,0,0,0,()),(qc7 (x.1,x.2.1,(0,0,0,0,()),x.2.2.2)).2.1,())))
  (.ite (decide (w64 (x.2.2.2+qc3 (qbE x.1).1.2.2.1) > 67108864))
  (.ret (((0,0,0,0,0,0,0,()),2,())))
  (.opt (LoopN.res qfW (x.1,x.2.1,w64 (x.2.2.2+qc3 (qbE x.1).1.2.2.1),(),0,(),(),x.2.2.1,qh x.2.2.1,0) ((0,0,0,0,0,0,0,()),qU (qc7 (x.1,x.2.1,(0,0,0,0,()),x.2.2.2)).1,0,0,0,0,0,0,0,())) fun p0 =>
   (.ite (way p0.1)
   (.ret ((p0.2.2.2.2.2,0,())))
   (.ret ((p0.2.2.2.1,p0.2.1,())))))))
def qlj (x:qc qkI):Bool:=decide (List.length x.2.2.1<9223372036854775808)
def qgv (x:qc qkI):Sh.den qnr:=qua x.1 x.2.1 x.2.2.1 x.2.2.2
theorem qy6 (x:qc qkI) (h:qlj x=true):(qqr x).val=some (qgv x):=by
 obtain⟨img,inp,l,b⟩:=x
 have hl:l.length<9223372036854775808:=of_decide_eq_true h
 unfold qqr
 show _=some (qua img inp l b)
 unfold qua
 show(PO.ite ((qcw img inp qc2 b).2.1 != (0:Int)) _ _).val=_
 cases h1:((qcw img inp qc2 b).2.1 != (0:Int)) with
 |true=>exact(qe rfl).trans rfl
 |false =>
  refine(qv rfl).trans ?_
  show(PO.ite (decide (w64 (b+qdM img) > 67108864)) _ _).val=_
  cases h2:decide (w64 (b+qdM img) > 67108864) with
  |true=>exact(qe rfl).trans rfl
  |false =>
   refine(qv rfl).trans ?_
   obtain⟨n,st,e1,e2⟩:=qN2 img inp (w64 (b+qdM img)) (qU (qcw img inp qc2 b).1) l hl qdb (img,inp,w64 (b+qdM img),(),0,(),(),l,qh l,0) rfl (qdb,qU (qcw img inp qc2 b).1,qdb) l.length 0 qdb (by omega)
   rw[List.drop_zero] at e2
   refine(qdl (r:=(n,st)) e1).trans ?_
   cases hw:way n with
   |true =>
    rw[hw] at e2
    exact(qe rfl).trans (congrArg some e2)
   |false =>
    rw[hw] at e2
    exact(qv rfl).trans (congrArg some e2)
end Go.Av
end
section
namespace Go.Av
open Go
end Go.Av
end
section
namespace Go.Av
open Go
end Go.Av
end
section
namespace Go.Av
open Go
theorem qvV (m k:Nat) (hk:k≤62):qba .i64 (m:Int) (k:Int)=((m / 2 ^ k:Nat):Int):=by
 unfold qba
 rw[Int.toNat_natCast,Nat.min_eq_left (by show k≤64;omega),Int.fdiv_eq_ediv_of_nonneg _ (by exact Int.le_of_lt (Int.pow_pos (by decide)))]
 push_cast
 rfl
theorem qqv (n:Int):IntKind.u8.wrap n=n % 256:=rfl
theorem qxm (v:Int):qcP v=[toByte ((wn v % 256:Nat):Int),toByte ((wn v / 256 % 256:Nat):Int),toByte ((wn v / 65536 % 256:Nat):Int),toByte ((wn v / 16777216 % 256:Nat):Int)]:=by
 show[toByte (IntKind.u8.wrap (qba .i64 (wn v:Int) ((0:Nat):Int))),toByte (IntKind.u8.wrap (qba .i64 (wn v:Int) ((8:Nat):Int))),toByte (IntKind.u8.wrap (qba .i64 (wn v:Int) ((16:Nat):Int))),toByte (IntKind.u8.wrap (qba .i64 (wn v:Int) ((24:Nat):Int)))]=_
 rw[qvV _ 0 (by omega),qvV _ 8 (by omega),qvV _ 16 (by omega),qvV _ 24 (by omega),qqv,qqv,qqv,qqv,show(2:Nat) ^ 0=1 from rfl,show(2:Nat) ^ 8=256 from rfl,show(2:Nat) ^ 16=65536 from rfl,show(2:Nat) ^ 24=16777216 from rfl,Nat.div_one]
 rfl
theorem qlf {k:Nat} (h:k<256):((toByte (k:Int)).toNat:Int)=(k:Int):=by
 unfold toByte
 rw[Int.toNat_natCast]
 have:(UInt8.ofNat k).toNat=k:=by
  rw[UInt8.toNat_ofNat']
  exact Nat.mod_eq_of_lt h
 rw[this]
theorem qLV (v:Int):qhY v=[((wn v % 256:Nat):Int),((wn v / 256 % 256:Nat):Int),((wn v / 65536 % 256:Nat):Int),((wn v / 16777216 % 256:Nat):Int)]:=by
 unfold qhY
 rw[qxm]
 show[((toByte ((wn v % 256:Nat):Int)).toNat:Int),((toByte ((wn v / 256 % 256:Nat):Int)).toNat:Int),((toByte ((wn v / 65536 % 256:Nat):Int)).toNat:Int),((toByte ((wn v / 16777216 % 256:Nat):Int)).toNat:Int)]=_
 rw[qlf (Nat.mod_lt _ (by omega)),qlf (Nat.mod_lt _ (by omega)),qlf (Nat.mod_lt _ (by omega)),qlf (Nat.mod_lt _ (by omega))]
theorem qQU {α:Type} (xs:List α) (p:Nat) (ys:List α) (n i:Nat) (h:p+min ys.length n≤xs.length) :
  (qe8 xs p ys n)[i]?=if i<p then xs[i]? else if i<p+min ys.length n then ys[i-p]? else xs[i]?:=by
 unfold qe8
 have h1:(xs.take p).length=p:=by rw[List.length_take];omega
 have h2:(ys.take n).length=min ys.length n:=by rw[List.length_take];omega
 by_cases c1:i<p
 ·rw[if_pos c1,List.append_assoc,List.getElem?_append_left (by omega),List.getElem?_take,if_pos c1]
 ·rw[if_neg c1]
  by_cases c2:i<p+min ys.length n
  ·rw[if_pos c2,List.append_assoc,List.getElem?_append_right (by omega),h1,List.getElem?_append_left (by omega),List.getElem?_take,if_pos (by omega)]
  ·rw[if_neg c2,List.getElem?_append_right (by rw[List.length_append];omega),List.length_append,h1,h2,List.getElem?_drop]
   congr 1
   omega
end Go.Av
end
